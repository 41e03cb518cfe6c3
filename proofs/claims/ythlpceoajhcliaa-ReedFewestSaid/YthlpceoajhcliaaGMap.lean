/-
  A map that a call keeps to remember answers: whatever is read from it is right, and it stays so.
-/
import Derived.Test.YthlpceoajhcliaaTypes
import Derived.Maps.OwnOps
import Derived.DeepKeys4
namespace Go.Proofs.Ythlpceoajhcliaa
set_option linter.unusedSimpArgs false
set_option linter.unusedVariables false
open Go.RowKit
open Go.Maps (Keyed)

section
variable {P : Program} {k : TypeId} {ok : Value → Value → Prop} {w w' : World} {b : Nat}

/-- Block b is a map; each of its entries is right. -/
def Memo (P : Program) (k : TypeId) (ok : Value → Value → Prop) (w : World) (b : Nat) : Prop :=
  ∃ es clock, w.heap[b]? = some (.map es clock) ∧ ∀ e ∈ es.toList, (∃ l, keyOf P k e.key = some l) ∧ ok e.key e.val

def memoQ (P : Program) (k : TypeId) (ok : Value → Value → Prop) (o : Obj) : Prop := ∃ es clock, o = .map es clock ∧ ∀ e ∈ es.toList, (∃ l, keyOf P k e.key = some l) ∧ ok e.key e.val
theorem Memo.iff : Memo P k ok w b ↔ BA.holds w b (.any (memoQ P k ok)) := by
  constructor
  · rintro ⟨es, c, h1, h2⟩; exact ⟨_, h1, es, c, rfl, h2⟩
  · rintro ⟨o, h1, es, c, rfl, h2⟩; exact ⟨es, c, h1, h2⟩
theorem Memo.lt (h : Memo P k ok w b) : b < w.heap.size := by
  obtain ⟨es, c, hb, _⟩ := h
  exact (Array.getElem?_eq_some_iff.1 hb).1
theorem Memo.same (h : Memo P k ok w b) (hb : w'.heap[b]? = w.heap[b]?) : Memo P k ok w' b := by
  obtain ⟨es, c, h1, h2⟩ := h
  exact ⟨es, c, hb.trans h1, h2⟩
theorem Memo.below {B : Nat} (h : Memo P k ok w b) (hb : Below B w w') (hB : b < B) : Memo P k ok w' b := h.same (hb.block b hB)
theorem Memo.new (w : World) (P : Program) (k : TypeId) (ok : Value → Value → Prop) : Memo P k ok (w.alloc (.map #[] 0)) w.heap.size :=
  ⟨#[], 0, (MapKept.heap_alloc w _).1, fun e he => by simp at he⟩

theorem Memo.lookup (h : Memo P k ok w b) (K : Keyed P k) {t e : TypeId} (ht : P.underlying t = some (.map k e)) {z : Value} (hz : (zeroValue e).run P w = .ok z w) {key : Value} {kl : Lit} (hkey : keyOf P k key = some kl) :
    (∃ v, (Instr.lookup t (.map (some b)) key true).run P w = .ok (.tuple #[v, .bool true]) w ∧ ok key v) ∨ (Instr.lookup t (.map (some b)) key true).run P w = .ok (.tuple #[z, .bool false]) w := by
  obtain ⟨es, clock, hb, hes⟩ := h
  have hc := K.check w es.isEmpty hkey
  rcases K.find w hkey es.toList (fun e he => (hes e he).1) with ⟨hf, _⟩ | ⟨j, e0, hf, hj, rfl⟩
  · refine .inr ?_
    unfold Instr.lookup
    simp [run_underlying ht, MapKept.run_getObj_map hb, hc, hf, hz, Result.andThen]
  · refine .inl ⟨e0.val, ?_, (hes e0 (List.mem_of_getElem? hj)).2⟩
    unfold Instr.lookup
    simp [run_underlying ht, MapKept.run_getObj_map hb, hc, hf, Result.andThen]

theorem Memo.update (h : Memo P k ok w b) (K : Keyed P k) {t e : TypeId} (ht : P.underlying t = some (.map k e)) {key val : Value} {kl : Lit} (hkey : keyOf P k key = some kl) (hok : ok key val) :
    ∃ w', (Instr.mapUpdate t (.map (some b)) key val).run P w = .ok () w' ∧ Memo P k ok w' b ∧ w.grownBy w' (some b) := by
  obtain ⟨es, clock, hb, hes⟩ := h
  have hlt := (Array.getElem?_eq_some_iff.1 hb).1
  have hc := K.check w false hkey
  have fin : ∀ es' clock', (∀ e ∈ es'.toList, (∃ l, keyOf P k e.key = some l) ∧ ok e.key e.val) →
      Memo P k ok (ChangeMaps.setBlock w b (.map es' clock')) b ∧ w.grownBy (ChangeMaps.setBlock w b (.map es' clock')) (some b) := fun es' clock' he =>
    ⟨⟨es', clock', ChangeMaps.heap_setBlock_same hb _, he⟩, ⟨rfl, rfl, rfl, by simp [ChangeMaps.setBlock], fun i _ hi => ChangeMaps.heap_setBlock_other hb _ (fun e => hi (by rw [e]))⟩⟩
  rcases K.find w hkey es.toList (fun e he => (hes e he).1) with ⟨hf, _⟩ | ⟨j, e0, hf, hj, rfl⟩
  · refine ⟨ChangeMaps.setBlock w b (.map (es.push { key, val, born := clock }) (clock + 1)), ?_, fin _ _ (fun e he => ?_)⟩
    · unfold Instr.mapUpdate
      simp [run_underlying ht, MapKept.run_getObj_map hb, hc, hf, Result.andThen, MapKept.run_setObj_map _ hb, ChangeMaps.setBlock]
    · simp only [Array.toList_push, List.mem_append, List.mem_singleton] at he
      rcases he with he | rfl
      · exact hes e he
      · exact ⟨⟨_, hkey⟩, hok⟩
  · refine ⟨ChangeMaps.setBlock w b (.map (es.modify j fun e => { e with key := e0.key, val := val }) clock), ?_, fin _ _ (fun e he => ?_)⟩
    · unfold Instr.mapUpdate
      have hs := K.stays w hkey
      have hj' : es[j]? = some e0 := by simpa using hj
      simp [run_underlying ht, MapKept.run_getObj_map hb, hc, hf, Result.andThen, MapKept.run_setObj_map _ hb, ChangeMaps.setBlock, hj', hs]
    · obtain ⟨i, hi⟩ := List.getElem?_of_mem he
      rw [Array.getElem?_toList, Array.getElem?_modify] at hi
      split at hi
      · obtain ⟨e1, _, rfl⟩ := Option.map_eq_some_iff.1 hi
        exact ⟨⟨_, hkey⟩, hok⟩
      · exact hes e (by rw [← Array.getElem?_toList] at hi; exact List.mem_of_getElem? hi)

end

section
variable {P : Program} {ops : Array Oper} {rest : List Oper} {op : Oper} {a : Act} {Q : Exit → Act → World → Prop} {w0 w : World} {ex : Nat → Prop} {L L' : List (Nat × BA)} {k e t : TypeId} {ok : Value → Value → Prop}
theorem mm (ok : Value → Value → Prop) (ht : P.underlying t = some (.map k e)) (M : Mem w0 ex w L) (hgd : op.guard = none) (ho : op.op = .makeMap t none)
    (h : ∀ g w', Mem w0 ex w' ((g, .any (memoQ P k ok)) :: L) → wpList P ops Q rest (a.put op.dst (.map (some g))) w') : wpList P ops Q (op :: rest) a w :=
  wpList_plain hgd fun _ hK => by
    unfold Oper.wp execOp
    simp only [ho, Option.map_none, run_makeMap, Sem.run_bind, Result.andThen_ok, Sem.run_pure]
    exact hK _ _ (h _ _ (M.newAny _ _ ⟨#[], 0, rfl, fun e he => by simp at he⟩))
theorem lk {x y : Operand} {g : Nat} {key z : Value} {kl : Lit} (K : Keyed P k) (ht : P.underlying t = some (.map k e)) (hz : ∀ w, (zeroValue e).run P w = .ok z w) (M : Mem w0 ex w L) (hgd : op.guard = none) (ho : op.op = .lookup t x y true) (hx : a.eval x = .map (some g)) (hy : a.eval y = key) (hm : (g, BA.any (memoQ P k ok)) ∈ L)
    (hkey : keyOf P k key = some kl)
    (h1 : ∀ v, ok key v → wpList P ops Q rest (a.put op.dst (.tuple #[v, .bool true])) w) (h2 : wpList P ops Q rest (a.put op.dst (.tuple #[z, .bool false])) w) : wpList P ops Q (op :: rest) a w :=
  wpList_plain hgd fun _ hK => by
    have hM : Memo P k ok w g := Memo.iff.2 (M.at hm)
    unfold Oper.wp execOp
    rcases hM.lookup K ht (hz w) hkey with ⟨v, hr, hv⟩ | hr
    · simp only [ho, hx, hy, hr, Sem.run_bind, Result.andThen_ok, Sem.run_pure]
      exact hK _ _ (h1 v hv)
    · simp only [ho, hx, hy, hr, Sem.run_bind, Result.andThen_ok, Sem.run_pure]
      exact hK _ _ h2
theorem mu {x y z : Operand} {g : Nat} {key val : Value} {kl : Lit} (K : Keyed P k) (ht : P.underlying t = some (.map k e)) (M : Mem w0 ex w L) (hgd : op.guard = none) (ho : op.op = .mapUpdate t x y z) (hx : a.eval x = .map (some g)) (hy : a.eval y = key) (hz : a.eval z = val) (hu : Upd L g (.any (memoQ P k ok)) (.any (memoQ P k ok)) L')
    (hkey : keyOf P k key = some kl) (hok : ok key val) (h : ∀ w', Mem w0 ex w' L' → wpList P ops Q rest (a.put op.dst undef) w') : wpList P ops Q (op :: rest) a w :=
  wpList_plain hgd fun _ hK => by
    have hM : Memo P k ok w g := Memo.iff.2 (M.at hu.mem)
    obtain ⟨w', hr, hm', hg⟩ := hM.update K ht hkey hok
    unfold Oper.wp execOp
    simp only [ho, hx, hy, hz, hr, Sem.run_bind, Result.andThen_ok, Sem.run_pure]
    exact hK _ _ (h _ (M.callW hu hg (Memo.iff.1 hm')))
end

/-- What is known, as a value. -/
structure Kn where
  p0 : Int
  p1 : Int
  tips : Int
  roots : Int
  left : Int
abbrev knC (x : Kn) : Array Value := #[.int .i64 x.p0, .int .i64 x.p1, .int .i64 x.tips, .int .i64 x.roots, .int .i64 x.left]
abbrev knV (x : Kn) : Value := .agg (knC x)
theorem knV_inj {x y : Kn} (h : knV x = knV y) : x = y := by
  cases x; cases y
  simp at h
  simp [h]
structure Kn.ok (x : Kn) : Prop where
  p0 : -100000 ≤ x.p0 ∧ x.p0 ≤ 100000
  p1 : -100000 ≤ x.p1 ∧ x.p1 ≤ 100000
  tips : 0 ≤ x.tips ∧ x.tips ≤ 1000
  roots : 0 ≤ x.roots ∧ x.roots ≤ 1000
  left : 0 ≤ x.left ∧ x.left ≤ 1000

theorem wf64 {a : Int} (h : -100000 ≤ a ∧ a ≤ 100000) : (Lit.int .i64 a).wf = true := by
  have h1 := h.1
  have h2 := h.2
  simp [Lit.wf, IntKind.min, IntKind.max, IntKind.bits, IntKind.signed]
  omega
theorem kn_key_of {P : Program} {k r i : TypeId} {f0 f1 f2 f3 g0 g1 : Field} (hk : P.underlying k = some (.struct #[f0, f1, f2, f3])) (hr : P.underlying r = some (.struct #[g0, g1])) (hi : P.underlying i = some (.int .i64))
    (hkt : P.keyType k = true) (ck : P.cellsOf k = 5) (cr : P.cellsOf r = 2) (ci : P.cellsOf i = 1) (n : Nat) (hn : P.types.size = n + 1 + 1)
    (t0 : f0.type = r) (t1 : f1.type = i) (t2 : f2.type = i) (t3 : f3.type = i) (u0 : g0.type = i) (u1 : g1.type = i)
    (o0 : f0.offset = 0) (o1 : f1.offset = 2) (o2 : f2.offset = 3) (o3 : f3.offset = 4) (v0 : g0.offset = 0) (v1 : g1.offset = 1)
    (n0 : (f0.name != "_") = true) (n1 : (f1.name != "_") = true) (n2 : (f2.name != "_") = true) (n3 : (f3.name != "_") = true) (m0 : (g0.name != "_") = true) (m1 : (g1.name != "_") = true)
    (x : Kn) (h : x.ok) : ∃ l, keyOf P k (knV x) = some l := by
  unfold keyOf
  have h0 := wf64 h.p0
  have h1 := wf64 h.p1
  have h2 := wf64 (a := x.tips) (by have := h.tips; omega)
  have h3 := wf64 (a := x.roots) (by have := h.roots; omega)
  have h4 := wf64 (a := x.left) (by have := h.left; omega)
  simp only [bne_iff_ne, ne_eq] at n0 n1 n2 n3 m0 m1
  simp [hk, hkt, Value.formed, ck, hn, Program.keyLits, Value.cells, hr, hi, cr, ci, h0, h1, h2, h3, h4, t0, t1, t2, t3, u0, u1, o0, o1, o2, o3, v0, v1, n0, n1, n2, n3, m0, m1]
  rw [if_pos (by intro i hi; match i, hi with | 0, _ => exact m0 | 1, _ => exact m1)]
  simp

theorem Try.laidOut : laidOutB Try.prog = true := by kernel_rfl
theorem Try.rowKn : (103 : TypeId) < Try.prog.types.size := of_decide_eq_true (by kernel_rfl)
theorem Try.wideKn : (match Try.prog.underlying 103 with | some (.array _ _) | some (.struct _) => true | _ => false) = true := by rw [Try.underlying103]
theorem Try.atKn : Try.prog.keyTypeAt 4 103 = true := by kernel_rfl
set_option maxRecDepth 100000 in
theorem Try.keyed : Keyed Try.prog 103 := by
  refine Keyed.of_law (deep_law_laid Try.laidOut (m := 4) ?_ ?_ Try.atKn ?_)
  · omega
  · exact Try.rowKn
  · exact Try.wideKn
theorem Try.zeroBool (w : World) : (zeroValue 4).run Try.prog w = .ok (.bool false) w := by kernel_rfl
theorem Try.keyTypeKn : Try.prog.keyType 103 = true := by kernel_rfl
theorem Try.cellsKn : Try.prog.cellsOf 103 = 5 := by kernel_rfl
theorem Try.cellsRg : Try.prog.cellsOf 23 = 2 := by kernel_rfl
theorem Try.cellsInt : Try.prog.cellsOf 3 = 1 := by kernel_rfl
theorem Try.typesLe : (2 : Nat) ≤ Try.prog.types.size := of_decide_eq_true (by kernel_rfl)
theorem Try.typesSome : Try.prog.types.size = (Try.prog.types.size - 2) + 1 + 1 := by have := Try.typesLe; omega
theorem Try.kn_key (x : Kn) (h : x.ok) : ∃ l, keyOf Try.prog 103 (knV x) = some l :=
  kn_key_of Try.underlying103 Try.underlying23 Try.underlying3 Try.keyTypeKn Try.cellsKn Try.cellsRg Try.cellsInt _ Try.typesSome rfl rfl rfl rfl rfl rfl rfl rfl rfl rfl rfl rfl (by decide) (by decide) (by decide) (by decide) (by decide) (by decide) x h

end Go.Proofs.Ythlpceoajhcliaa

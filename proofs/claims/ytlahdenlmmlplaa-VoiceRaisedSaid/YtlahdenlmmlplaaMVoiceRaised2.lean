/-
  Walks of functions, and plain laws (texts put together). No condition.
-/
import Derived.Shelf.Abstract
import Derived.Shelf.RegionOpen
import Derived.OwnWalkIn
import Derived.TacticsInMore
import Derived.LoopNIn
import Derived.LoopIn
import Derived.Maps.OwnOps
import Derived.DeepKeys4
import Derived.Test.YtlahdenlmmlplaaMVoiceRaised1
set_option maxRecDepth 100000
set_option maxHeartbeats 1000000
section
/-
 voice: all that a sound can be, one after the other.
-/
namespace Go.Proofs.Ytlahdenlmmlplaa
set_option linter.unusedSimpArgs false
set_option linter.unusedVariables false
open Go.RowKit Go.Shelf
attribute [local go_sem] Oper.semAt_some
def izz (a b : Int) : List Int := (List.range (b - a + 1).toNat).map fun (k : Nat) => a + (k : Int)
theorem izz_length (a b : Int) : (izz a b).length = (b - a + 1).toNat := by simp [izz]
theorem mem_izz {a b x : Int} : x ∈ izz a b ↔ a ≤ x ∧ x ≤ b := by
 unfold izz
 rw [List.mem_map]
 constructor
 · rintro ⟨k, hk, rfl⟩
   rw [List.mem_range] at hk
   omega
 · rintro ⟨h1, h2⟩
   exact ⟨(x - a).toNat, by rw [List.mem_range]; omega, by omega⟩
theorem izz_take {a b : Int} {k : Nat} (h : a + (k : Int) ≤ b) : (izz a b).take (k + 1) = (izz a b).take k ++ [a + (k : Int)] := by
 rw [List.take_succ_eq_append_getElem (by rw [izz_length]; omega)]
 simp [izz]
def allL (t0 t1 s0 s1 : Int) : List (Int × Int) := (izz t0 t1).flatMap fun t => (izz s0 s1).map fun s => (t, s)
theorem mem_allL {t0 t1 s0 s1 : Int} {x : Int × Int} : x ∈ allL t0 t1 s0 s1 ↔ (t0 ≤ x.1 ∧ x.1 ≤ t1) ∧ s0 ≤ x.2 ∧ x.2 ≤ s1 := by
 unfold allL
 simp only [List.mem_flatMap, List.mem_map, mem_izz]
 constructor
 · rintro ⟨t, ht, s, hs, rfl⟩
   exact ⟨ht, hs⟩
 · rintro ⟨ht, hs⟩
   exact ⟨x.1, ht, x.2, hs, rfl⟩
def allP (t0 t1 s0 s1 : Int) (k m : Nat) : List (Int × Int) := ((izz t0 t1).take k).flatMap (fun t => (izz s0 s1).map fun s => (t, s)) ++ ((izz s0 s1).take m).map fun s => (t0 + (k : Int), s)
theorem allP_step {t0 t1 s0 s1 : Int} {k m : Nat} (h : s0 + (m : Int) ≤ s1) : allP t0 t1 s0 s1 k (m + 1) = allP t0 t1 s0 s1 k m ++ [(t0 + (k : Int), s0 + (m : Int))] := by
 simp [allP, izz_take h]
theorem allP_row {t0 t1 s0 s1 : Int} {k m : Nat} (hk : t0 + (k : Int) ≤ t1) (h : ¬ s0 + (m : Int) ≤ s1) : allP t0 t1 s0 s1 k m = allP t0 t1 s0 s1 (k + 1) 0 := by
 unfold allP
 rw [izz_take hk, List.take_of_length_le (l := izz s0 s1) (by rw [izz_length]; omega)]
 simp
theorem allP_end {t0 t1 s0 s1 : Int} {k : Nat} (h : ¬ t0 + (k : Int) ≤ t1) : allP t0 t1 s0 s1 k 0 = allL t0 t1 s0 s1 := by
 unfold allP allL
 rw [List.take_of_length_le (l := izz t0 t1) (by rw [izz_length]; omega)]
 simp
theorem allP_pre {t0 t1 s0 s1 : Int} {k m : Nat} (hk : t0 + (k : Int) ≤ t1) : allP t0 t1 s0 s1 k m <+: allL t0 t1 s0 s1 := by
 have h1 : allP t0 t1 s0 s1 k m <+: allP t0 t1 s0 s1 (k + 1) 0 := by
   unfold allP
   rw [izz_take hk]
   simp only [List.flatMap_append, List.flatMap_cons, List.flatMap_nil, List.append_nil, List.take_zero, List.map_nil]
   refine (List.prefix_append_right_inj _).2 ?_
   exact (List.take_prefix _ _).map _
 refine h1.trans ?_
 unfold allP allL
 rw [List.take_zero, List.map_nil, List.append_nil]
 have h2 : (izz t0 t1).take (k + 1) ++ (izz t0 t1).drop (k + 1) = izz t0 t1 := List.take_append_drop _ _
 conv => rhs; rw [← h2]
 rw [List.flatMap_append]
 exact List.prefix_append _ _
abbrev Ax (t0 t1 s0 s1 : Int) := { x : Int × Int // (t0 ≤ x.1 ∧ x.1 ≤ t1) ∧ s0 ≤ x.2 ∧ x.2 ≤ s1 }
theorem all1_in (n : Nat) (hn : 2 ≤ n) (l b1 n0 : Nat) (eb : Nat → Prop) (t0 t1 s0 s1 : Int) (h0 : -100000 ≤ t0 ∧ t0 ≤ 100000) (h1 : -100000 ≤ t1 ∧ t1 ≤ 100000) (h2 : -100000 ≤ s0 ∧ s0 ≤ 100000) (h3 : -100000 ≤ s1 ∧ s1 ≤ 100000) (hb1 : b1 < n0) (hx1 : ¬ eb b1)
   (J Jx : List (Ax t0 t1 s0 s1) → World → Prop) (W : World) (hJ : AbidesFrom W.heap.size J)
   (hY : ∀ pre x W1, J pre W1 → pre.length < (allL t0 t1 s0 s1).length → YieldAt Fence.wide (n - 1) Try.prog l #[kx x.1] W1 fun e W' =>
     (e = .returned (.bool true) ∧ J (pre ++ [x]) W' ∧ KpE n0 eb W1 W') ∨ (e = .returned (.bool false) ∧ Jx (pre ++ [x]) W'))
   (q1 : Bk W b1 #[.int .i64 t0, .int .i64 t1, .int .i64 s0, .int .i64 s1]) (hJ0 : J [] W) :
   CallsIn Fence.wide n Try.prog 115 #[.func (.yield l) #[] #[], .pointer (some ⟨b1, 0, none⟩)] W fun e W' => (∃ v, e = .returned v) ∧
     ((∃ xs : List (Ax t0 t1 s0 s1), xs.map (·.1) = allL t0 t1 s0 s1 ∧ J xs W') ∨ (∃ pre : List (Ax t0 t1 s0 s1), pre.map (·.1) <+: allL t0 t1 s0 s1 ∧ Jx pre W')) := by
 refine callsIn_of_wp Try.func115 rfl trivial ?_ rfl
 simp only [Try.ntmps115, List.size_toArray, List.length_cons, List.length_nil, Nat.reduceAdd, Nat.reduceSub, Array.replicate_succ, Array.replicate_zero, List.push_toArray, List.append_toArray, List.nil_append, List.cons_append]
 have c1 := q1.cell
 have hn1 : 1 ≤ n := by omega
 gi_wp2
 gi_loopw [3] (fun v wr => ∃ (k : Nat) (pre : List (Ax t0 t1 s0 s1)), v = .int .i64 (t0 + (k : Int)) ∧ t0 + (k : Int) ≤ t1 + 1 + 200000 ∧ k ≤ 200001 ∧ Hid (pre.map (·.1) = allP t0 t1 s0 s1 k 0) ∧ Bk wr b1 #[.int .i64 t0, .int .i64 t1, .int .i64 s0, .int .i64 s1] ∧ W.heap.size ≤ wr.heap.size ∧ J pre wr) (fun v _ => (t1 + 1 - intOf v).toNat)
 case atStart => exact ⟨0, [], by simp, by omega, by omega, by (show _ = _; simp [allP]), q1, Nat.le_refl _, hJ0⟩
 case round =>
   clear c1
   obtain ⟨k, pre, rfl, hka, hkb, hpre, r1, hz, hj⟩ := hrel
   have c1 := r1.cell
   by_cases hlt : t0 + (k : Int) ≤ t1
   · gi_wp2
     gi_loopw [4] (fun v wr => ∃ (m : Nat) (pre : List (Ax t0 t1 s0 s1)), v = .int .i64 (s0 + (m : Int)) ∧ m ≤ 200001 ∧ Hid (pre.map (·.1) = allP t0 t1 s0 s1 k m) ∧ Bk wr b1 #[.int .i64 t0, .int .i64 t1, .int .i64 s0, .int .i64 s1] ∧ W.heap.size ≤ wr.heap.size ∧ J pre wr) (fun v _ => (s1 + 1 - intOf v).toNat)
     case atStart => exact ⟨0, pre, by simp, by omega, hpre, r1, hz, hj⟩
     case round =>
       clear c1 r1 hz hj hpre
       obtain ⟨m, pre, rfl, hmb, hpre, r1, hz, hj⟩ := hrel
       have c1 := r1.cell
       by_cases hlm : s0 + (m : Int) ≤ s1
       · have HX : (t0 ≤ t0 + (k : Int) ∧ t0 + (k : Int) ≤ t1) ∧ s0 ≤ s0 + (m : Int) ∧ s0 + (m : Int) ≤ s1 := ⟨⟨by omega, hlt⟩, by omega, hlm⟩
         have HS : Hid ((pre ++ [(⟨(t0 + (k : Int), s0 + (m : Int)), HX⟩ : Ax t0 t1 s0 s1)]).map (·.1) = allP t0 t1 s0 s1 k (m + 1)) := by (show _ = _; rw [List.map_append, hpre.out, allP_step hlm]; rfl)
         have hlen : pre.length < (allL t0 t1 s0 s1).length := by
           have h5 := (allP_pre (s0 := s0) (s1 := s1) (m := m + 1) hlt).length_le
           have h6 := congrArg List.length hpre.out
           rw [allP_step hlm] at h5
           simp only [List.length_map, List.length_append, List.length_cons, List.length_nil] at h5 h6
           omega
         have hk7 := Lib.hid (show t0 + (k : Int) ≤ t1 from hlt)
         have hk8 := Lib.hid (show s0 + (m : Int) ≤ s1 from hlm)
         obtain ⟨fn, tmps, assign, body, hy, hR⟩ := hY pre ⟨(t0 + (k : Int), s0 + (m : Int)), HX⟩ wr hj hlen
         dsimp only at hy
         gi_wp2
         refine hR.mono ?_
         rintro e W3 (⟨rfl, hJ3, hk3⟩ | ⟨rfl, hJx3⟩)
         · have r5 := hk3.bk r1 hb1 hx1
           have hz5 : W.heap.size ≤ W3.heap.size := Nat.le_trans hz hk3.1
           clear hY hy hR
           gi_wp2
           go_roundw
           case rel => exact ⟨m + 1, _, by go_num, by omega, HS, r5, hz5, hJ3⟩
           case measure => simp [intOf]; omega
         · clear hY hy hR
           gi_wp2
           refine bodyPost_ret (results_none rfl _ _ _) rfl ?_
           exact ⟨⟨_, rfl⟩, .inr ⟨_, by rw [HS.out]; exact allP_pre (by have := hk7.out; omega), hJx3⟩⟩
       · have hk7 := Lib.hid (show t0 + (k : Int) ≤ t1 from hlt)
         have hk8 := Lib.hid (show ¬ s0 + (m : Int) ≤ s1 from hlm)
         gi_wp2
         go_roundw
         case rel => exact ⟨k + 1, pre, by go_num, by omega, by omega, by (show _ = _; rw [hpre.out]; exact allP_row (by have := hk7.out; omega) (by have := hk8.out; omega)), r1, hz, hj⟩
         case measure => simp [intOf]; omega
   · have hk7 := Lib.hid (show ¬ t0 + (k : Int) ≤ t1 from hlt)
     gi_wp2
     go_end0
     exact ⟨⟨_, rfl⟩, .inl ⟨pre, by rw [hpre.out, allP_end (by have := hk7.out; omega)], hj⟩⟩
theorem all_stops (n : Nat) (hn : 2 ≤ n) (b1 n0 : Nat) (eb : Nat → Prop) (t0 t1 s0 s1 : Int) (h0 : -100000 ≤ t0 ∧ t0 ≤ 100000) (h1 : -100000 ≤ t1 ∧ t1 ≤ 100000) (h2 : -100000 ≤ s0 ∧ s0 ≤ 100000) (h3 : -100000 ≤ s1 ∧ s1 ≤ 100000) (hb1 : b1 < n0) (hx1 : ¬ eb b1) (w : World)
   (q1 : Bk w b1 #[.int .i64 t0, .int .i64 t1, .int .i64 s0, .int .i64 s1]) :
   SeqStopsK (α := Ax t0 t1 s0 s1) Fence.wide n Try.prog 115 #[.pointer (some ⟨b1, 0, none⟩)] (fun x => #[kx x.1]) (KpE n0 eb) (fun xs => xs.map (·.1) = allL t0 t1 s0 s1) (fun pre => pre.map (·.1) <+: allL t0 t1 s0 s1) (allL t0 t1 s0 s1).length w :=
 fun l J Jx W hW hJ _ hY hJ0 => all1_in n hn l b1 n0 eb t0 t1 s0 s1 h0 h1 h2 h3 hb1 hx1 J Jx W hJ hY (q1.below hW) hJ0
end Go.Proofs.Ytlahdenlmmlplaa
end

section
/-
 A map that a call keeps to remember answers: whatever is read from it is right, and it stays so.
-/
namespace Go.Proofs.Ytlahdenlmmlplaa
set_option linter.unusedSimpArgs false
set_option linter.unusedVariables false
open Go.RowKit
open Go.Maps (Keyed)
section
variable {P : Program} {k : TypeId} {ok : Value → Value → Prop} {w w' : World} {b : Nat}
def Memo (P : Program) (k : TypeId) (ok : Value → Value → Prop) (w : World) (b : Nat) : Prop :=
 ∃ es clock, w.heap[b]? = some (.map es clock) ∧ ∀ e ∈ es.toList, (∃ l, keyOf P k e.key = some l) ∧ ok e.key e.val
def memoQ (P : Program) (k : TypeId) (ok : Value → Value → Prop) (o : Obj) : Prop := ∃ es clock, o = .map es clock ∧ ∀ e ∈ es.toList, (∃ l, keyOf P k e.key = some l) ∧ ok e.key e.val
theorem Memo.iff : Memo P k ok w b ↔ BA.holds w b (.any (memoQ P k ok)) := by
 constructor
 · rintro ⟨es, c, h1, h2⟩; exact ⟨_, h1, es, c, rfl, h2⟩
 · rintro ⟨o, h1, es, c, rfl, h2⟩; exact ⟨es, c, h1, h2⟩
theorem Memo.lt (h : Memo P k ok w b) : b < w.heap.size := by
 obtain ⟨es, c, hb, _⟩ := h
 exact (Array.getElem?_eq_some_iff.1 hb).1
theorem Memo.same (h : Memo P k ok w b) (hb : w'.heap[b]? = w.heap[b]?) : Memo P k ok w' b := by
 obtain ⟨es, c, h1, h2⟩ := h
 exact ⟨es, c, hb.trans h1, h2⟩
theorem Memo.below {B : Nat} (h : Memo P k ok w b) (hb : Below B w w') (hB : b < B) : Memo P k ok w' b := h.same (hb.block b hB)
theorem Memo.new (w : World) (P : Program) (k : TypeId) (ok : Value → Value → Prop) : Memo P k ok (w.alloc (.map #[] 0)) w.heap.size :=
 ⟨#[], 0, (MapKept.heap_alloc w _).1, fun e he => by simp at he⟩
theorem Memo.lookup (h : Memo P k ok w b) (K : Keyed P k) {t e : TypeId} (ht : P.underlying t = some (.map k e)) {z : Value} (hz : (zeroValue e).run P w = .ok z w) {key : Value} {kl : Lit} (hkey : keyOf P k key = some kl) :
   (∃ v, (Instr.lookup t (.map (some b)) key true).run P w = .ok (.tuple #[v, .bool true]) w ∧ ok key v) ∨ (Instr.lookup t (.map (some b)) key true).run P w = .ok (.tuple #[z, .bool false]) w := by
 obtain ⟨es, clock, hb, hes⟩ := h
 have hc := K.check w es.isEmpty hkey
 rcases K.find w hkey es.toList (fun e he => (hes e he).1) with ⟨hf, _⟩ | ⟨j, e0, hf, hj, rfl⟩
 · refine .inr ?_
   unfold Instr.lookup
   simp [run_underlying ht, MapKept.run_getObj_map hb, hc, hf, hz, Result.andThen]
 · refine .inl ⟨e0.val, ?_, (hes e0 (List.mem_of_getElem? hj)).2⟩
   unfold Instr.lookup
   simp [run_underlying ht, MapKept.run_getObj_map hb, hc, hf, Result.andThen]
theorem Memo.update (h : Memo P k ok w b) (K : Keyed P k) {t e : TypeId} (ht : P.underlying t = some (.map k e)) {key val : Value} {kl : Lit} (hkey : keyOf P k key = some kl) (hok : ok key val) :
   ∃ w', (Instr.mapUpdate t (.map (some b)) key val).run P w = .ok () w' ∧ Memo P k ok w' b ∧ w.grownBy w' (some b) := by
 obtain ⟨es, clock, hb, hes⟩ := h
 have hlt := (Array.getElem?_eq_some_iff.1 hb).1
 have hc := K.check w false hkey
 have fin : ∀ es' clock', (∀ e ∈ es'.toList, (∃ l, keyOf P k e.key = some l) ∧ ok e.key e.val) →
     Memo P k ok (ChangeMaps.setBlock w b (.map es' clock')) b ∧ w.grownBy (ChangeMaps.setBlock w b (.map es' clock')) (some b) := fun es' clock' he =>
   ⟨⟨es', clock', ChangeMaps.heap_setBlock_same hb _, he⟩, ⟨rfl, rfl, rfl, by simp [ChangeMaps.setBlock], fun i _ hi => ChangeMaps.heap_setBlock_other hb _ (fun e => hi (by rw [e]))⟩⟩
 rcases K.find w hkey es.toList (fun e he => (hes e he).1) with ⟨hf, _⟩ | ⟨j, e0, hf, hj, rfl⟩
 · refine ⟨ChangeMaps.setBlock w b (.map (es.push { key, val, born := clock }) (clock + 1)), ?_, fin _ _ (fun e he => ?_)⟩
   · unfold Instr.mapUpdate
     simp [run_underlying ht, MapKept.run_getObj_map hb, hc, hf, Result.andThen, MapKept.run_setObj_map _ hb, ChangeMaps.setBlock]
   · simp only [Array.toList_push, List.mem_append, List.mem_singleton] at he
     rcases he with he | rfl
     · exact hes e he
     · exact ⟨⟨_, hkey⟩, hok⟩
 · refine ⟨ChangeMaps.setBlock w b (.map (es.modify j fun e => { e with key := e0.key, val := val }) clock), ?_, fin _ _ (fun e he => ?_)⟩
   · unfold Instr.mapUpdate
     have hs := K.stays w hkey
     have hj' : es[j]? = some e0 := by simpa using hj
     simp [run_underlying ht, MapKept.run_getObj_map hb, hc, hf, Result.andThen, MapKept.run_setObj_map _ hb, ChangeMaps.setBlock, hj', hs]
   · obtain ⟨i, hi⟩ := List.getElem?_of_mem he
     rw [Array.getElem?_toList, Array.getElem?_modify] at hi
     split at hi
     · obtain ⟨e1, _, rfl⟩ := Option.map_eq_some_iff.1 hi
       exact ⟨⟨_, hkey⟩, hok⟩
     · exact hes e (by rw [← Array.getElem?_toList] at hi; exact List.mem_of_getElem? hi)
end
section
variable {P : Program} {ops : Array Oper} {rest : List Oper} {op : Oper} {a : Act} {Q : Exit → Act → World → Prop} {w0 w : World} {ex : Nat → Prop} {L L' : List (Nat × BA)} {k e t : TypeId} {ok : Value → Value → Prop}
theorem mm (ok : Value → Value → Prop) (ht : P.underlying t = some (.map k e)) (M : Mem w0 ex w L) (hgd : op.guard = none) (ho : op.op = .makeMap t none)
   (h : ∀ g w', Mem w0 ex w' ((g, .any (memoQ P k ok)) :: L) → wpList P ops Q rest (a.put op.dst (.map (some g))) w') : wpList P ops Q (op :: rest) a w :=
 wpList_plain hgd fun _ hK => by
   unfold Oper.wp execOp
   simp only [ho, Option.map_none, run_makeMap, Sem.run_bind, Result.andThen_ok, Sem.run_pure]
   exact hK _ _ (h _ _ (M.newAny _ _ ⟨#[], 0, rfl, fun e he => by simp at he⟩))
theorem lk {x y : Operand} {g : Nat} {key z : Value} {kl : Lit} (K : Keyed P k) (ht : P.underlying t = some (.map k e)) (hz : ∀ w, (zeroValue e).run P w = .ok z w) (M : Mem w0 ex w L) (hgd : op.guard = none) (ho : op.op = .lookup t x y true) (hx : a.eval x = .map (some g)) (hy : a.eval y = key) (hm : (g, BA.any (memoQ P k ok)) ∈ L)
   (hkey : keyOf P k key = some kl)
   (h1 : ∀ v, ok key v → wpList P ops Q rest (a.put op.dst (.tuple #[v, .bool true])) w) (h2 : wpList P ops Q rest (a.put op.dst (.tuple #[z, .bool false])) w) : wpList P ops Q (op :: rest) a w :=
 wpList_plain hgd fun _ hK => by
   have hM : Memo P k ok w g := Memo.iff.2 (M.at hm)
   unfold Oper.wp execOp
   rcases hM.lookup K ht (hz w) hkey with ⟨v, hr, hv⟩ | hr
   · simp only [ho, hx, hy, hr, Sem.run_bind, Result.andThen_ok, Sem.run_pure]
     exact hK _ _ (h1 v hv)
   · simp only [ho, hx, hy, hr, Sem.run_bind, Result.andThen_ok, Sem.run_pure]
     exact hK _ _ h2
theorem mu {x y z : Operand} {g : Nat} {key val : Value} {kl : Lit} (K : Keyed P k) (ht : P.underlying t = some (.map k e)) (M : Mem w0 ex w L) (hgd : op.guard = none) (ho : op.op = .mapUpdate t x y z) (hx : a.eval x = .map (some g)) (hy : a.eval y = key) (hz : a.eval z = val) (hu : Upd L g (.any (memoQ P k ok)) (.any (memoQ P k ok)) L')
   (hkey : keyOf P k key = some kl) (hok : ok key val) (h : ∀ w', Mem w0 ex w' L' → wpList P ops Q rest (a.put op.dst undef) w') : wpList P ops Q (op :: rest) a w :=
 wpList_plain hgd fun _ hK => by
   have hM : Memo P k ok w g := Memo.iff.2 (M.at hu.mem)
   obtain ⟨w', hr, hm', hg⟩ := hM.update K ht hkey hok
   unfold Oper.wp execOp
   simp only [ho, hx, hy, hz, hr, Sem.run_bind, Result.andThen_ok, Sem.run_pure]
   exact hK _ _ (h _ (M.callW hu hg (Memo.iff.1 hm')))
end
structure Kn where
 p0 : Int
 p1 : Int
 tips : Int
 roots : Int
 left : Int
abbrev knC (x : Kn) : Array Value := #[.int .i64 x.p0, .int .i64 x.p1, .int .i64 x.tips, .int .i64 x.roots, .int .i64 x.left]
abbrev knV (x : Kn) : Value := .agg (knC x)
structure Kn.ok (x : Kn) : Prop where
 p0 : -100000 ≤ x.p0 ∧ x.p0 ≤ 100000
 p1 : -100000 ≤ x.p1 ∧ x.p1 ≤ 100000
 tips : 0 ≤ x.tips ∧ x.tips ≤ 1000
 roots : 0 ≤ x.roots ∧ x.roots ≤ 1000
 left : 0 ≤ x.left ∧ x.left ≤ 1000
theorem wf64 {a : Int} (h : -100000 ≤ a ∧ a ≤ 100000) : (Lit.int .i64 a).wf = true := by
 have h1 := h.1
 have h2 := h.2
 simp [Lit.wf, IntKind.min, IntKind.max, IntKind.bits, IntKind.signed]
 omega
theorem kn_key_of {P : Program} {k r i : TypeId} {f0 f1 f2 f3 g0 g1 : Field} (hk : P.underlying k = some (.struct #[f0, f1, f2, f3])) (hr : P.underlying r = some (.struct #[g0, g1])) (hi : P.underlying i = some (.int .i64))
   (hkt : P.keyType k = true) (ck : P.cellsOf k = 5) (cr : P.cellsOf r = 2) (ci : P.cellsOf i = 1) (n : Nat) (hn : P.types.size = n + 1 + 1)
   (t0 : f0.type = r) (t1 : f1.type = i) (t2 : f2.type = i) (t3 : f3.type = i) (u0 : g0.type = i) (u1 : g1.type = i)
   (o0 : f0.offset = 0) (o1 : f1.offset = 2) (o2 : f2.offset = 3) (o3 : f3.offset = 4) (v0 : g0.offset = 0) (v1 : g1.offset = 1)
   (n0 : (f0.name != "_") = true) (n1 : (f1.name != "_") = true) (n2 : (f2.name != "_") = true) (n3 : (f3.name != "_") = true) (m0 : (g0.name != "_") = true) (m1 : (g1.name != "_") = true)
   (x : Kn) (h : x.ok) : ∃ l, keyOf P k (knV x) = some l := by
 unfold keyOf
 have h0 := wf64 h.p0
 have h1 := wf64 h.p1
 have h2 := wf64 (a := x.tips) (by have := h.tips; omega)
 have h3 := wf64 (a := x.roots) (by have := h.roots; omega)
 have h4 := wf64 (a := x.left) (by have := h.left; omega)
 simp only [bne_iff_ne, ne_eq] at n0 n1 n2 n3 m0 m1
 simp [hk, hkt, Value.formed, ck, hn, Program.keyLits, Value.cells, hr, hi, cr, ci, h0, h1, h2, h3, h4, t0, t1, t2, t3, u0, u1, o0, o1, o2, o3, v0, v1, n0, n1, n2, n3, m0, m1]
 rw [if_pos (by intro i hi; match i, hi with | 0, _ => exact m0 | 1, _ => exact m1)]
 simp
theorem Try.laidOut : laidOutB Try.prog = true := by kernel_rfl
theorem Try.rowKn : (173 : TypeId) < Try.prog.types.size := of_decide_eq_true (by kernel_rfl)
theorem Try.wideKn : (match Try.prog.underlying 173 with | some (.array _ _) | some (.struct _) => true | _ => false) = true := by rw [Try.underlying173]
theorem Try.atKn : Try.prog.keyTypeAt 4 173 = true := by kernel_rfl
theorem Try.keyed : Keyed Try.prog 173 := by
 refine Keyed.of_law (deep_law_laid Try.laidOut (m := 4) ?_ ?_ Try.atKn ?_)
 · omega
 · exact Try.rowKn
 · exact Try.wideKn
theorem Try.zeroBool (w : World) : (zeroValue 4).run Try.prog w = .ok (.bool false) w := by kernel_rfl
theorem Try.keyTypeKn : Try.prog.keyType 173 = true := by kernel_rfl
theorem Try.cellsKn : Try.prog.cellsOf 173 = 5 := by kernel_rfl
theorem Try.cellsRg : Try.prog.cellsOf 40 = 2 := by kernel_rfl
theorem Try.cellsInt : Try.prog.cellsOf 3 = 1 := by kernel_rfl
theorem Try.typesLe : (2 : Nat) ≤ Try.prog.types.size := of_decide_eq_true (by kernel_rfl)
theorem Try.typesSome : Try.prog.types.size = (Try.prog.types.size - 2) + 1 + 1 := by have := Try.typesLe; omega
theorem Try.kn_key (x : Kn) (h : x.ok) : ∃ l, keyOf Try.prog 173 (knV x) = some l :=
 kn_key_of Try.underlying173 Try.underlying40 Try.underlying3 Try.keyTypeKn Try.cellsKn Try.cellsRg Try.cellsInt _ Try.typesSome rfl rfl rfl rfl rfl rfl rfl rfl rfl rfl rfl rfl (by decide) (by decide) (by decide) (by decide) (by decide) (by decide) x h
end Go.Proofs.Ytlahdenlmmlplaa
end

section
/-
 A tone and a slope as a map's key.
-/
namespace Go.Proofs.Ytlahdenlmmlplaa
set_option linter.unusedSimpArgs false
set_option linter.unusedVariables false
open Go.RowKit
open Go.Maps (Keyed)
theorem kx_key_of {P : Program} {k i : TypeId} (hk : P.underlying k = some (.array 2 i)) (hi : P.underlying i = some (.int .i64))
   (hkt : P.keyType k = true) (ck : P.cellsOf k = 2) (ci : P.cellsOf i = 1) (n : Nat) (hn : P.types.size = n + 1 + 1)
   (p : Int × Int) (h0 : -100000 ≤ p.1 ∧ p.1 ≤ 100000) (h1 : -100000 ≤ p.2 ∧ p.2 ≤ 100000) : ∃ l, keyOf P k (kx p) = some l := by
 unfold keyOf
 have w0 := wf64 h0
 have w1 := wf64 h1
 simp [hk, hkt, Value.formed, ck, hn, Program.keyLits, Value.cells, hi, ci, w0, w1, kx, show List.range 2 = [0, 1] from rfl, List.mapM_cons]
theorem Try.rowX : (145 : TypeId) < Try.prog.types.size := of_decide_eq_true (by kernel_rfl)
theorem Try.wideX : (match Try.prog.underlying 145 with | some (.array _ _) | some (.struct _) => true | _ => false) = true := by rw [Try.underlying145]
theorem Try.atX : Try.prog.keyTypeAt 4 145 = true := by kernel_rfl
theorem Try.keyed145 : Keyed Try.prog 145 := by
 refine Keyed.of_law (deep_law_laid Try.laidOut (m := 4) ?_ ?_ Try.atX ?_)
 · omega
 · exact Try.rowX
 · exact Try.wideX
theorem Try.keyTypeX : Try.prog.keyType 145 = true := by kernel_rfl
theorem Try.cellsX : Try.prog.cellsOf 145 = 2 := by kernel_rfl
theorem Try.kx_key (p : Int × Int) (h0 : -100000 ≤ p.1 ∧ p.1 ≤ 100000) (h1 : -100000 ≤ p.2 ∧ p.2 ≤ 100000) : ∃ l, keyOf Try.prog 145 (kx p) = some l :=
 kx_key_of Try.underlying145 Try.underlying3 Try.keyTypeX Try.cellsX Try.cellsInt _ Try.typesSome p h0 h1
end Go.Proofs.Ytlahdenlmmlplaa
end

section
/-
 kit: a pot that hands out numbers: which ones they are is not asked.
-/
namespace Go.Proofs.Ytlahdenlmmlplaa
set_option linter.unusedSimpArgs false
set_option linter.unusedVariables false
open Go.RowKit
def u64ok (s : Int) : Prop := 0 ≤ s ∧ s < 18446744073709551616
theorem u64_wrap (n : Int) : u64ok (IntKind.u64.wrap n) := by
 unfold u64ok IntKind.wrap
 simp [IntKind.signed, IntKind.bits]
 omega
theorem u64_bits (a b : Int) : u64ok (bits .xor .u64 a b) := by unfold bits; exact u64_wrap _
theorem Mem.callC {w0 w w' : World} {ex : Nat → Prop} {L L' : List (Nat × BA)} {g : Nat} {cs cs' : List Value} (M : Mem w0 ex w L) (hu : Upd L g (.cells cs) (.cells cs') L') (h : w.grownBy w' (some g)) (hp : Bk w' g cs'.toArray) : Mem w0 ex w' L' := M.callW hu h hp
def PotPost (bp : Nat) (R : Int → Prop) (k : IntKind) (w : World) (e : Ending) (w' : World) : Prop :=
 ∃ n s : Int, R n ∧ u64ok s ∧ e = .returned (.int k n) ∧ w.grownBy w' (some bp) ∧ Bk w' bp #[.int .u64 s]
theorem step_any (s : Int) (bp : Nat) (w : World) (hp : Bk w bp #[.int .u64 s]) :
   Calls Try.prog 77 #[.pointer (some ⟨bp, 0, none⟩)] w (PotPost bp u64ok .u64 w) := by
 have M := Mem.initEx (p := .cells [.int .u64 s]) hp
 clear hp
 go_enter Try.func77, Try.ntmps77
 refine m_start M ?_
 clear M
 intro wc M
 go_wp2_with (first | (refine m_ld1 M rfl rfl rfl (by (repeat' (first | exact List.mem_cons_self | refine List.mem_cons_of_mem _ ?_))) (by rfl) ?_) | (refine m_ldr M rfl rfl rfl (by (repeat' (first | exact List.mem_cons_self | refine List.mem_cons_of_mem _ ?_))) (by (try simp only [List.take_succ_cons, List.take_zero, List.take_nil, List.drop_succ_cons, List.drop_zero, List.drop_nil, List.cons_append, List.nil_append, List.append_nil, List.length_cons, List.length_nil, Nat.reduceAdd, Nat.zero_add, Nat.add_zero]); rfl) (by rfl) ?_) | (refine m_st M rfl rfl rfl (by first | exact (rfl : _ = Value.agg _) | exact (rfl : _ = Value.int _ _) | exact (rfl : _ = Value.bool _) | exact (rfl : _ = Value.slice _ _ _) | exact (rfl : _ = Value.pointer _) | exact (rfl : _ = Value.map _) | exact (rfl : _ = Value.func _ _ _) | exact (rfl : _ = Value.string _)) (by rfl) (by (repeat (first | exact Upd.head | apply Upd.tail))) (by (try simp only [List.take_succ_cons, List.take_zero, List.take_nil, List.drop_succ_cons, List.drop_zero, List.drop_nil, List.cons_append, List.nil_append, List.append_nil, List.length_cons, List.length_nil, Nat.reduceAdd, Nat.zero_add, Nat.add_zero]); rfl) (by simp) (by simp [Value.oneCell']) (by kernel_rfl) ?_; clear M; (try clear wc); intro wc M) | (refine m_al M rfl rfl ?_; clear M; (try clear wc); intro g wc M) | (refine m_bx M rfl rfl (by first | exact (rfl : _ = Value.agg _) | exact (rfl : _ = Value.int _ _) | exact (rfl : _ = Value.bool _) | exact (rfl : _ = Value.slice _ _ _) | exact (rfl : _ = Value.pointer _) | exact (rfl : _ = Value.map _) | exact (rfl : _ = Value.func _ _ _) | exact (rfl : _ = Value.string _)) (by rfl) ?_; clear M; (try clear wc); intro g wc M))
 go_ret
 exact ⟨_, _, u64_bits _ _, u64_wrap _, rfl, M.grown, M.get (by (repeat' (first | exact List.mem_cons_self | refine List.mem_cons_of_mem _ ?_)))⟩
theorem upto_any (s : Int) (bp : Nat) (most : Int) (w : World) (hm : most ≤ 1000000) (hm0 : 0 ≤ most) (hp : Bk w bp #[.int .u64 s]) (hs : u64ok s) :
   Calls Try.prog 39 #[.pointer (some ⟨bp, 0, none⟩), .int .i64 most] w (PotPost bp (fun n => 0 ≤ n ∧ n ≤ most) .i64 w) := by
 have M := Mem.initEx (p := .cells [.int .u64 s]) hp
 have HS := Lib.hid hs
 clear hp hs
 by_cases h1 : most < 1
 · go_enter Try.func39, Try.ntmps39
   refine m_start M ?_
   clear M
   intro wc M
   go_wp2_with (first | (refine m_ld1 M rfl rfl rfl (by (repeat' (first | exact List.mem_cons_self | refine List.mem_cons_of_mem _ ?_))) (by rfl) ?_) | (refine m_ldr M rfl rfl rfl (by (repeat' (first | exact List.mem_cons_self | refine List.mem_cons_of_mem _ ?_))) (by (try simp only [List.take_succ_cons, List.take_zero, List.take_nil, List.drop_succ_cons, List.drop_zero, List.drop_nil, List.cons_append, List.nil_append, List.append_nil, List.length_cons, List.length_nil, Nat.reduceAdd, Nat.zero_add, Nat.add_zero]); rfl) (by rfl) ?_) | (refine m_st M rfl rfl rfl (by first | exact (rfl : _ = Value.agg _) | exact (rfl : _ = Value.int _ _) | exact (rfl : _ = Value.bool _) | exact (rfl : _ = Value.slice _ _ _) | exact (rfl : _ = Value.pointer _) | exact (rfl : _ = Value.map _) | exact (rfl : _ = Value.func _ _ _) | exact (rfl : _ = Value.string _)) (by rfl) (by (repeat (first | exact Upd.head | apply Upd.tail))) (by (try simp only [List.take_succ_cons, List.take_zero, List.take_nil, List.drop_succ_cons, List.drop_zero, List.drop_nil, List.cons_append, List.nil_append, List.append_nil, List.length_cons, List.length_nil, Nat.reduceAdd, Nat.zero_add, Nat.add_zero]); rfl) (by simp) (by simp [Value.oneCell']) (by kernel_rfl) ?_; clear M; (try clear wc); intro wc M) | (refine m_al M rfl rfl ?_; clear M; (try clear wc); intro g wc M) | (refine m_bx M rfl rfl (by first | exact (rfl : _ = Value.agg _) | exact (rfl : _ = Value.int _ _) | exact (rfl : _ = Value.bool _) | exact (rfl : _ = Value.slice _ _ _) | exact (rfl : _ = Value.pointer _) | exact (rfl : _ = Value.map _) | exact (rfl : _ = Value.func _ _ _) | exact (rfl : _ = Value.string _)) (by rfl) ?_; clear M; (try clear wc); intro g wc M))
   go_ret
   exact ⟨0, s, ⟨by omega, by omega⟩, HS.out, rfl, M.grown, M.get (by (repeat' (first | exact List.mem_cons_self | refine List.mem_cons_of_mem _ ?_)))⟩
 · go_enter Try.func39, Try.ntmps39
   refine m_start M ?_
   clear M
   intro wc M
   go_wp2_with (first | (refine m_ld1 M rfl rfl rfl (by (repeat' (first | exact List.mem_cons_self | refine List.mem_cons_of_mem _ ?_))) (by rfl) ?_) | (refine m_ldr M rfl rfl rfl (by (repeat' (first | exact List.mem_cons_self | refine List.mem_cons_of_mem _ ?_))) (by (try simp only [List.take_succ_cons, List.take_zero, List.take_nil, List.drop_succ_cons, List.drop_zero, List.drop_nil, List.cons_append, List.nil_append, List.append_nil, List.length_cons, List.length_nil, Nat.reduceAdd, Nat.zero_add, Nat.add_zero]); rfl) (by rfl) ?_) | (refine m_st M rfl rfl rfl (by first | exact (rfl : _ = Value.agg _) | exact (rfl : _ = Value.int _ _) | exact (rfl : _ = Value.bool _) | exact (rfl : _ = Value.slice _ _ _) | exact (rfl : _ = Value.pointer _) | exact (rfl : _ = Value.map _) | exact (rfl : _ = Value.func _ _ _) | exact (rfl : _ = Value.string _)) (by rfl) (by (repeat (first | exact Upd.head | apply Upd.tail))) (by (try simp only [List.take_succ_cons, List.take_zero, List.take_nil, List.drop_succ_cons, List.drop_zero, List.drop_nil, List.cons_append, List.nil_append, List.append_nil, List.length_cons, List.length_nil, Nat.reduceAdd, Nat.zero_add, Nat.add_zero]); rfl) (by simp) (by simp [Value.oneCell']) (by kernel_rfl) ?_; clear M; (try clear wc); intro wc M) | (refine m_al M rfl rfl ?_; clear M; (try clear wc); intro g wc M) | (refine m_bx M rfl rfl (by first | exact (rfl : _ = Value.agg _) | exact (rfl : _ = Value.int _ _) | exact (rfl : _ = Value.bool _) | exact (rfl : _ = Value.slice _ _ _) | exact (rfl : _ = Value.pointer _) | exact (rfl : _ = Value.map _) | exact (rfl : _ = Value.func _ _ _) | exact (rfl : _ = Value.string _)) (by rfl) ?_; clear M; (try clear wc); intro g wc M) | (go_at_call 77; refine (step_any s bp _ (M.get (by (repeat' (first | exact List.mem_cons_self | refine List.mem_cons_of_mem _ ?_))))).mono ?_; rintro e wc ⟨v, s', hv, hs', rfl, hgr, hb⟩; have HV := Lib.hid hv; have HS' := Lib.hid hs'; have v0 : 0 ≤ v := hv.1; clear hv hs'; replace M := M.callC (cs' := [.int .u64 s']) (by (repeat (first | exact Upd.head | apply Upd.tail))) hgr hb; clear hgr hb))
   go_ret
   have r0 : 0 ≤ v / 2048 % (most + 1) := Int.emod_nonneg _ (by omega)
   have r1 : v / 2048 % (most + 1) < most + 1 := Int.emod_lt_of_pos _ (by omega)
   generalize v / 2048 % (most + 1) = rr at *
   have e : wrap64 rr = rr := IntWalk.wrap64_in rr (by omega)
   rw [e]
   exact ⟨rr, s', ⟨r0, by omega⟩, HS'.out, rfl, M.grown, M.get (by (repeat' (first | exact List.mem_cons_self | refine List.mem_cons_of_mem _ ?_)))⟩
theorem within_pot (s : Int) (bp : Nat) (lo hi : Int) (w : World) (hl : -1000 ≤ lo) (hh : hi ≤ 1000) (hlh : lo ≤ hi) (hp : Bk w bp #[.int .u64 s]) (hs : u64ok s) :
   Calls Try.prog 19 #[.pointer (some ⟨bp, 0, none⟩), .int .i64 lo, .int .i64 hi] w (PotPost bp (fun n => lo ≤ n ∧ n ≤ hi) .i64 w) := by
 have M := Mem.initEx (p := .cells [.int .u64 s]) hp
 have HS := Lib.hid hs
 clear hp hs
 go_enter Try.func19, Try.ntmps19
 refine m_start M ?_
 clear M
 intro wc M
 go_wp2_with (first | (refine m_ld1 M rfl rfl rfl (by (repeat' (first | exact List.mem_cons_self | refine List.mem_cons_of_mem _ ?_))) (by rfl) ?_) | (refine m_ldr M rfl rfl rfl (by (repeat' (first | exact List.mem_cons_self | refine List.mem_cons_of_mem _ ?_))) (by (try simp only [List.take_succ_cons, List.take_zero, List.take_nil, List.drop_succ_cons, List.drop_zero, List.drop_nil, List.cons_append, List.nil_append, List.append_nil, List.length_cons, List.length_nil, Nat.reduceAdd, Nat.zero_add, Nat.add_zero]); rfl) (by rfl) ?_) | (refine m_st M rfl rfl rfl (by first | exact (rfl : _ = Value.agg _) | exact (rfl : _ = Value.int _ _) | exact (rfl : _ = Value.bool _) | exact (rfl : _ = Value.slice _ _ _) | exact (rfl : _ = Value.pointer _) | exact (rfl : _ = Value.map _) | exact (rfl : _ = Value.func _ _ _) | exact (rfl : _ = Value.string _)) (by rfl) (by (repeat (first | exact Upd.head | apply Upd.tail))) (by (try simp only [List.take_succ_cons, List.take_zero, List.take_nil, List.drop_succ_cons, List.drop_zero, List.drop_nil, List.cons_append, List.nil_append, List.append_nil, List.length_cons, List.length_nil, Nat.reduceAdd, Nat.zero_add, Nat.add_zero]); rfl) (by simp) (by simp [Value.oneCell']) (by kernel_rfl) ?_; clear M; (try clear wc); intro wc M) | (refine m_al M rfl rfl ?_; clear M; (try clear wc); intro g wc M) | (refine m_bx M rfl rfl (by first | exact (rfl : _ = Value.agg _) | exact (rfl : _ = Value.int _ _) | exact (rfl : _ = Value.bool _) | exact (rfl : _ = Value.slice _ _ _) | exact (rfl : _ = Value.pointer _) | exact (rfl : _ = Value.map _) | exact (rfl : _ = Value.func _ _ _) | exact (rfl : _ = Value.string _)) (by rfl) ?_; clear M; (try clear wc); intro g wc M) | (go_at_call 39; refine (upto_any s bp (hi - lo) _ (by omega) (by omega) (M.get (by (repeat' (first | exact List.mem_cons_self | refine List.mem_cons_of_mem _ ?_)))) HS.out).mono ?_; rintro e wc ⟨v, s, hv, hs, rfl, hgr, hb⟩; have HS := Lib.hid hs; clear hs; replace M := M.callC (cs' := [.int .u64 s]) (by (repeat (first | exact Upd.head | apply Upd.tail))) hgr hb; clear hgr hb; skip))
 go_ret
 exact ⟨_, _, ⟨by omega, by omega⟩, HS.out, rfl, M.grown, M.get (by (repeat' (first | exact List.mem_cons_self | refine List.mem_cons_of_mem _ ?_)))⟩
theorem three {v : Int} (h : 0 ≤ v ∧ v ≤ 2) : v = 0 ∨ v = 1 ∨ v = 2 := by omega
theorem of_pot (s : Int) (bp g : Nat) (a b c : Int) (w : World) (hg : g ≠ bp) (hl : Bk w g #[.int .i64 a, .int .i64 b, .int .i64 c]) (hp : Bk w bp #[.int .u64 s]) (hs : u64ok s) :
   Calls Try.prog 64 #[.pointer (some ⟨bp, 0, none⟩), .slice (some ⟨g, 0, none⟩) 3 3] w (PotPost bp (fun n => n = a ∨ n = b ∨ n = c) .i64 w) := by
 have M := Mem.initEx (p := .cells [.int .u64 s]) hp
 have HS := Lib.hid hs
 have HL := Lib.hid hl
 clear hp hs hl
 go_enter Try.func64, Try.ntmps64
 refine m_start M ?_
 clear M
 intro wc M
 go_wp2_with (first | (refine m_ld1 M rfl rfl rfl (by (repeat' (first | exact List.mem_cons_self | refine List.mem_cons_of_mem _ ?_))) (by rfl) ?_) | (refine m_ldr M rfl rfl rfl (by (repeat' (first | exact List.mem_cons_self | refine List.mem_cons_of_mem _ ?_))) (by (try simp only [List.take_succ_cons, List.take_zero, List.take_nil, List.drop_succ_cons, List.drop_zero, List.drop_nil, List.cons_append, List.nil_append, List.append_nil, List.length_cons, List.length_nil, Nat.reduceAdd, Nat.zero_add, Nat.add_zero]); rfl) (by rfl) ?_) | (refine m_st M rfl rfl rfl (by first | exact (rfl : _ = Value.agg _) | exact (rfl : _ = Value.int _ _) | exact (rfl : _ = Value.bool _) | exact (rfl : _ = Value.slice _ _ _) | exact (rfl : _ = Value.pointer _) | exact (rfl : _ = Value.map _) | exact (rfl : _ = Value.func _ _ _) | exact (rfl : _ = Value.string _)) (by rfl) (by (repeat (first | exact Upd.head | apply Upd.tail))) (by (try simp only [List.take_succ_cons, List.take_zero, List.take_nil, List.drop_succ_cons, List.drop_zero, List.drop_nil, List.cons_append, List.nil_append, List.append_nil, List.length_cons, List.length_nil, Nat.reduceAdd, Nat.zero_add, Nat.add_zero]); rfl) (by simp) (by simp [Value.oneCell']) (by kernel_rfl) ?_; clear M; (try clear wc); intro wc M) | (refine m_al M rfl rfl ?_; clear M; (try clear wc); intro g wc M) | (refine m_bx M rfl rfl (by first | exact (rfl : _ = Value.agg _) | exact (rfl : _ = Value.int _ _) | exact (rfl : _ = Value.bool _) | exact (rfl : _ = Value.slice _ _ _) | exact (rfl : _ = Value.pointer _) | exact (rfl : _ = Value.map _) | exact (rfl : _ = Value.func _ _ _) | exact (rfl : _ = Value.string _)) (by rfl) ?_; clear M; (try clear wc); intro g wc M) | (refine lo_one (M.old HL.out hg) rfl rfl rfl (by rfl) ?_) | (go_at_call 39; refine (upto_any s bp 2 _ (by omega) (by omega) (M.get (by (repeat' (first | exact List.mem_cons_self | refine List.mem_cons_of_mem _ ?_)))) HS.out).mono ?_; rintro e wc ⟨v, s, hv, hs, rfl, hgr, hb⟩; have HS := Lib.hid hs; clear hs; replace M := M.callC (cs' := [.int .u64 s]) (by (repeat (first | exact Upd.head | apply Upd.tail))) hgr hb; clear hgr hb; rcases three hv with rfl | rfl | rfl))
 all_goals
   go_ret
   exact ⟨_, _, by simp, HS.out, rfl, M.grown, M.get (by (repeat' (first | exact List.mem_cons_self | refine List.mem_cons_of_mem _ ?_)))⟩
def NearPost (bp : Nat) (n lo hi wd : Int) (w : World) (e : Ending) (w' : World) : Prop := ∃ x y s' : Int, (lo ≤ x ∧ n - wd ≤ x ∧ x ≤ n ∧ n ≤ y ∧ y ≤ n + wd ∧ y ≤ hi) ∧ u64ok s' ∧ e = .returned (R2 x y) ∧ w.grownBy w' (some bp) ∧ Bk w' bp #[.int .u64 s']
theorem near_pot (s : Int) (bp : Nat) (n lo hi wd : Int) (w : World) (hl : -1000 ≤ lo) (hh : hi ≤ 1000) (h1 : lo ≤ n) (h2 : n ≤ hi) (hw0 : 0 ≤ wd) (hw1 : wd ≤ 1000) (hp : Bk w bp #[.int .u64 s]) (hs : u64ok s) :
   Calls Try.prog 63 #[.pointer (some ⟨bp, 0, none⟩), .int .i64 n, .int .i64 lo, .int .i64 hi, .int .i64 wd] w (NearPost bp n lo hi wd w) := by
 have M := Mem.initEx (p := .cells [.int .u64 s]) hp
 have HS := Lib.hid hs
 clear hp hs
 go_enter Try.func63, Try.ntmps63
 refine m_start M ?_
 clear M
 intro wc M
 go_wp2_with (first | (refine m_ld1 M rfl rfl rfl (by (repeat' (first | exact List.mem_cons_self | refine List.mem_cons_of_mem _ ?_))) (by rfl) ?_) | (refine m_ldr M rfl rfl rfl (by (repeat' (first | exact List.mem_cons_self | refine List.mem_cons_of_mem _ ?_))) (by (try simp only [List.take_succ_cons, List.take_zero, List.take_nil, List.drop_succ_cons, List.drop_zero, List.drop_nil, List.cons_append, List.nil_append, List.append_nil, List.length_cons, List.length_nil, Nat.reduceAdd, Nat.zero_add, Nat.add_zero]); rfl) (by rfl) ?_) | (refine m_st M rfl rfl rfl (by first | exact (rfl : _ = Value.agg _) | exact (rfl : _ = Value.int _ _) | exact (rfl : _ = Value.bool _) | exact (rfl : _ = Value.slice _ _ _) | exact (rfl : _ = Value.pointer _) | exact (rfl : _ = Value.map _) | exact (rfl : _ = Value.func _ _ _) | exact (rfl : _ = Value.string _)) (by rfl) (by (repeat (first | exact Upd.head | apply Upd.tail))) (by (try simp only [List.take_succ_cons, List.take_zero, List.take_nil, List.drop_succ_cons, List.drop_zero, List.drop_nil, List.cons_append, List.nil_append, List.append_nil, List.length_cons, List.length_nil, Nat.reduceAdd, Nat.zero_add, Nat.add_zero]); rfl) (by simp) (by simp [Value.oneCell']) (by kernel_rfl) ?_; clear M; (try clear wc); intro wc M) | (refine m_al M rfl rfl ?_; clear M; (try clear wc); intro g wc M) | (refine m_bx M rfl rfl (by first | exact (rfl : _ = Value.agg _) | exact (rfl : _ = Value.int _ _) | exact (rfl : _ = Value.bool _) | exact (rfl : _ = Value.slice _ _ _) | exact (rfl : _ = Value.pointer _) | exact (rfl : _ = Value.map _) | exact (rfl : _ = Value.func _ _ _) | exact (rfl : _ = Value.string _)) (by rfl) ?_; clear M; (try clear wc); intro g wc M) | (refine absorb M ?_; intro M'; clear M; (obtain ⟨M, -⟩ : _ ∧ True := ⟨M', trivial⟩); clear M'; revert M; generalize World.alloc _ _ = wn; generalize wc.heap.size = g; (try clear wc); intro M; (obtain ⟨wc, rfl⟩ : ∃ x : World, x = wn := ⟨_, rfl⟩)) | (go_at_call 39; refine (upto_any _ bp _ _ (by omega) (by omega) (M.get (by (repeat' (first | exact List.mem_cons_self | refine List.mem_cons_of_mem _ ?_)))) HS.out).mono ?_; rintro e wc ⟨v, s, hv, hs, rfl, hgr, hb⟩; have HS := Lib.hid hs; clear hs; replace M := M.callC (cs' := [.int .u64 s]) (by (repeat (first | exact Upd.head | apply Upd.tail))) hgr hb; clear hgr hb; skip) | (go_at_call 19; refine (within_pot _ bp _ _ _ (by omega) (by omega) (by omega) (M.get (by (repeat' (first | exact List.mem_cons_self | refine List.mem_cons_of_mem _ ?_)))) HS.out).mono ?_; rintro e wc ⟨v, s, hv, hs, rfl, hgr, hb⟩; have HS := Lib.hid hs; clear hs; replace M := M.callC (cs' := [.int .u64 s]) (by (repeat (first | exact Upd.head | apply Upd.tail))) hgr hb; clear hgr hb; skip) | (go_at_call 64; refine (of_pot _ bp _ _ _ _ _ (by have hnd := M.nd; simp only [List.map_cons, List.map_nil, List.nodup_cons, List.mem_cons, not_or] at hnd; omega) (M.get (by (repeat' (first | exact List.mem_cons_self | refine List.mem_cons_of_mem _ ?_)))) (M.get (by (repeat' (first | exact List.mem_cons_self | refine List.mem_cons_of_mem _ ?_)))) HS.out).mono ?_; rintro e wc ⟨v, s, hv, hs, rfl, hgr, hb⟩; have HS := Lib.hid hs; clear hs; replace M := M.callC (cs' := [.int .u64 s]) (by (repeat (first | exact Upd.head | apply Upd.tail))) hgr hb; clear hgr hb; skip))
 all_goals
   refine ret_M (t := 10) (ty := 40) M (by rfl) (by rfl) (by rfl) (by (repeat' (first | exact List.mem_cons_self | refine List.mem_cons_of_mem _ ?_))) (by rfl) ?_
   refine ⟨_, _, s, ⟨?_, ?_, ?_, ?_, ?_, ?_⟩, HS.out, rfl, M.grown, M.get (by (repeat' (first | exact List.mem_cons_self | refine List.mem_cons_of_mem _ ?_)))⟩ <;> (split <;> omega)
theorem newPot_any (A : Option Addr) (n c : Nat) (l : List Int) (w : World) (hr : Rd w w.heap.size 1 A n (ic l)) (hn : n ≤ 9223372036854775807) :
   Calls Try.prog 12 #[.slice A n c] w fun e w' => ∃ (bp : Nat) (s : Int), u64ok s ∧ e = .returned (.pointer (some ⟨bp, 0, none⟩)) ∧ Mem w noEx w' [(bp, .cells [.int .u64 s])] := by
 have HR := Lib.hid hr
 clear hr
 go_enter Try.func12, Try.ntmps12
 refine start noEx ?_
 intro wc M
 go_wp2_with (first | (refine m_ld1 M rfl rfl rfl (by (repeat' (first | exact List.mem_cons_self | refine List.mem_cons_of_mem _ ?_))) (by rfl) ?_) | (refine m_ldr M rfl rfl rfl (by (repeat' (first | exact List.mem_cons_self | refine List.mem_cons_of_mem _ ?_))) (by (try simp only [List.take_succ_cons, List.take_zero, List.take_nil, List.drop_succ_cons, List.drop_zero, List.drop_nil, List.cons_append, List.nil_append, List.append_nil, List.length_cons, List.length_nil, Nat.reduceAdd, Nat.zero_add, Nat.add_zero]); rfl) (by rfl) ?_) | (refine m_st M rfl rfl rfl (by first | exact (rfl : _ = Value.agg _) | exact (rfl : _ = Value.int _ _) | exact (rfl : _ = Value.bool _) | exact (rfl : _ = Value.slice _ _ _) | exact (rfl : _ = Value.pointer _) | exact (rfl : _ = Value.map _) | exact (rfl : _ = Value.func _ _ _) | exact (rfl : _ = Value.string _)) (by rfl) (by (repeat (first | exact Upd.head | apply Upd.tail))) (by (try simp only [List.take_succ_cons, List.take_zero, List.take_nil, List.drop_succ_cons, List.drop_zero, List.drop_nil, List.cons_append, List.nil_append, List.append_nil, List.length_cons, List.length_nil, Nat.reduceAdd, Nat.zero_add, Nat.add_zero]); rfl) (by simp) (by simp [Value.oneCell']) (by kernel_rfl) ?_; clear M; (try clear wc); intro wc M) | (refine m_al M rfl rfl ?_; clear M; (try clear wc); intro g wc M) | (refine m_bx M rfl rfl (by first | exact (rfl : _ = Value.agg _) | exact (rfl : _ = Value.int _ _) | exact (rfl : _ = Value.bool _) | exact (rfl : _ = Value.slice _ _ _) | exact (rfl : _ = Value.pointer _) | exact (rfl : _ = Value.map _) | exact (rfl : _ = Value.func _ _ _) | exact (rfl : _ = Value.string _)) (by rfl) ?_; clear M; (try clear wc); intro g wc M))
 rename_i K0 hK0
 go_loopw [4] (fun v wr => ∃ (k : Nat) (s : Int), k ≤ n ∧ v = .int .i64 k ∧ Hid (u64ok s) ∧ Mem w noEx wr [(g, .cells [.int .u64 s])]) (fun v _ => n - (intOf v).toNat)
 case atStart => exact ⟨0, _, by omega, rfl, by (show u64ok _; unfold u64ok; decide), M⟩
 case round =>
   clear M wc
   obtain ⟨k, s, hk, rfl, hs, M⟩ := hrel
   obtain ⟨wc, rfl⟩ : ∃ x : World, x = wr := ⟨_, rfl⟩
   by_cases hlt : k < n
   · obtain ⟨b, o, x, rfl, hbb, hd, d0⟩ := HR.out.at1 hlt
     clear hd
     have D0 := Lib.hid d0
     clear d0
     have i0 : (0 : Int) ≤ (k : Int) := by omega
     have i1 : (k : Int) < (n : Int) := by omega
     go_wp2
     refine wp_region_G (fun L W => (L.getD 14 true = false → Mem w noEx W [(g, .cells [.int .u64 s])]) ∧ (L.getD 14 true = true → ∃ s1, u64ok s1 ∧ Mem w noEx W [(g, .cells [.int .u64 s1])])) 15 (by kernel_rfl) (by kernel_rfl) ?s0 ?r0
     case s0 => (exact ⟨fun _ => M.drew, fun h => (no_of h (by kernel_rfl)).elim⟩)
     intro W0
     refine wpG_take (i := 0) (v := ?v1) rfl (by kernel_rfl) (by intro L w; simp only [getD_set_ne true (show (0 : Nat) ≠ 14 from by decide)]) (fun _ _ _ h => h) (Or.inl ⟨by rfl, ?y1⟩) ?r1
     case y1 => (intro w' hy; obtain ⟨L, hD, hl, hS⟩ := hy; clear hD hl hS; go_simp; (try with_reducible rfl))
     (try simp only [Act.put, List.getElem_toArray, List.getElem_cons_succ, List.getElem_cons_zero, List.setIfInBounds_toArray, List.set_cons_zero, List.set_cons_succ])
     refine wpG_take (i := 1) (v := ?v2) rfl (by kernel_rfl) (by intro L w; simp only [getD_set_ne true (show (1 : Nat) ≠ 14 from by decide)]) (fun _ _ _ h => h) (Or.inl ⟨by rfl, ?y2⟩) ?r2
     case y2 => (intro w' hy; obtain ⟨L, hD, hl, hS⟩ := hy; clear hD hl hS; go_simp; (try with_reducible rfl))
     (try simp only [Act.put, List.getElem_toArray, List.getElem_cons_succ, List.getElem_cons_zero, List.setIfInBounds_toArray, List.set_cons_zero, List.set_cons_succ])
     refine wpG_take (i := 2) (v := ?v3) rfl (by kernel_rfl) (by intro L w; simp only [getD_set_ne true (show (2 : Nat) ≠ 14 from by decide)]) (fun _ _ _ h => h) (Or.inl ⟨by rfl, ?y3⟩) ?r3
     case y3 => (intro w' hy; obtain ⟨L, hD, hl, hS⟩ := hy; clear hD hl hS; go_simp; (try with_reducible rfl))
     (try simp only [Act.put, List.getElem_toArray, List.getElem_cons_succ, List.getElem_cons_zero, List.setIfInBounds_toArray, List.set_cons_zero, List.set_cons_succ])
     refine wpG_take (i := 3) (v := ?v4) rfl (by kernel_rfl) (by intro L w; simp only [getD_set_ne true (show (3 : Nat) ≠ 14 from by decide)]) (fun _ _ _ h => h) (Or.inl ⟨by rfl, ?y4⟩) ?r4
     case y4 => (intro w' hy; obtain ⟨L, hD, hl, hS⟩ := hy; clear hD hl hS; go_simp; (try with_reducible rfl))
     (try simp only [Act.put, List.getElem_toArray, List.getElem_cons_succ, List.getElem_cons_zero, List.setIfInBounds_toArray, List.set_cons_zero, List.set_cons_succ])
     refine wpG_take (i := 4) (v := ?v5) rfl (by kernel_rfl) (by intro L w; simp only [getD_set_ne true (show (4 : Nat) ≠ 14 from by decide)]) (fun _ _ _ h => h) (Or.inl ⟨by rfl, ?y5⟩) ?r5
     case y5 => (intro w' hy; obtain ⟨L, hD, hl, hS⟩ := hy; have M0 := hS.1 (hD.wait (by kernel_rfl) hl); clear hS; first | (refine Eq.trans (rn_one (Mem.get M0 (by (repeat' (first | exact List.mem_cons_self | refine List.mem_cons_of_mem _ ?_)))) rfl rfl (by rfl)) ?_; with_reducible rfl) | (refine Eq.trans (rn_row (Mem.get M0 (by (repeat' (first | exact List.mem_cons_self | refine List.mem_cons_of_mem _ ?_)))) rfl rfl (by (try simp only [List.take_succ_cons, List.take_zero, List.take_nil, List.drop_succ_cons, List.drop_zero, List.drop_nil, List.cons_append, List.nil_append, List.append_nil, List.length_cons, List.length_nil, Nat.reduceAdd, Nat.zero_add, Nat.add_zero]); rfl) (by rfl)) ?_; with_reducible rfl); (try with_reducible rfl))
     (try simp only [Act.put, List.getElem_toArray, List.getElem_cons_succ, List.getElem_cons_zero, List.setIfInBounds_toArray, List.set_cons_zero, List.set_cons_succ])
     refine wpG_take (i := 5) (v := ?v6) rfl (by kernel_rfl) (by intro L w; simp only [getD_set_ne true (show (5 : Nat) ≠ 14 from by decide)]) (fun _ _ _ h => h) (Or.inl ⟨by rfl, ?y6⟩) ?r6
     case y6 => (intro w' hy; obtain ⟨L, hD, hl, hS⟩ := hy; clear hD hl hS; go_simp; (try with_reducible rfl))
     (try simp only [Act.put, List.getElem_toArray, List.getElem_cons_succ, List.getElem_cons_zero, List.setIfInBounds_toArray, List.set_cons_zero, List.set_cons_succ])
     refine wpG_take (i := 6) (v := ?v7) rfl (by kernel_rfl) (by intro L w; simp only [getD_set_ne true (show (6 : Nat) ≠ 14 from by decide)]) (fun _ _ _ h => h) (Or.inl ⟨by rfl, ?y7⟩) ?r7
     case y7 => (intro w' hy; obtain ⟨L, hD, hl, hS⟩ := hy; clear hD hl hS; go_simp; (try with_reducible rfl))
     (try simp only [Act.put, List.getElem_toArray, List.getElem_cons_succ, List.getElem_cons_zero, List.setIfInBounds_toArray, List.set_cons_zero, List.set_cons_succ])
     refine wpG_take (i := 7) (v := ?v8) rfl (by kernel_rfl) (by intro L w; simp only [getD_set_ne true (show (7 : Nat) ≠ 14 from by decide)]) (fun _ _ _ h => h) (Or.inl ⟨by rfl, ?y8⟩) ?r8
     case y8 => (intro w' hy; obtain ⟨L, hD, hl, hS⟩ := hy; clear hD hl hS; go_simp; (try with_reducible rfl))
     (try simp only [Act.put, List.getElem_toArray, List.getElem_cons_succ, List.getElem_cons_zero, List.setIfInBounds_toArray, List.set_cons_zero, List.set_cons_succ])
     refine wpG_take (i := 8) (v := ?v9) rfl (by kernel_rfl) (by intro L w; simp only [getD_set_ne true (show (8 : Nat) ≠ 14 from by decide)]) (fun _ _ _ h => h) (Or.inl ⟨by rfl, ?y9⟩) ?r9
     case y9 => (intro w' hy; obtain ⟨L, hD, hl, hS⟩ := hy; have M0 := hS.1 (hD.wait (by kernel_rfl) hl); clear hS hD hl; have cc : w'.cell? ⟨b, o + k, none⟩ = some (.int .i64 x) := (World.cell?_of_block (w := w) (a := ⟨b, o + k, none⟩) (M0.block b hbb (fun h => h))).trans D0.out; clear M0; go_simp; (try with_reducible rfl))
     (try simp only [Act.put, List.getElem_toArray, List.getElem_cons_succ, List.getElem_cons_zero, List.setIfInBounds_toArray, List.set_cons_zero, List.set_cons_succ])
     refine wpG_take (i := 9) (v := ?v10) rfl (by kernel_rfl) (by intro L w; simp only [getD_set_ne true (show (9 : Nat) ≠ 14 from by decide)]) (fun _ _ _ h => h) (Or.inl ⟨by rfl, ?y10⟩) ?r10
     case y10 => (intro w' hy; obtain ⟨L, hD, hl, hS⟩ := hy; clear hD hl hS; go_simp; (try with_reducible rfl))
     (try simp only [Act.put, List.getElem_toArray, List.getElem_cons_succ, List.getElem_cons_zero, List.setIfInBounds_toArray, List.set_cons_zero, List.set_cons_succ])
     refine wpG_take (i := 10) (v := ?v11) rfl (by kernel_rfl) (by intro L w; simp only [getD_set_ne true (show (10 : Nat) ≠ 14 from by decide)]) (fun _ _ _ h => h) (Or.inl ⟨by rfl, ?y11⟩) ?r11
     case y11 => (intro w' hy; obtain ⟨L, hD, hl, hS⟩ := hy; clear hD hl hS; go_simp; (try with_reducible rfl))
     (try simp only [Act.put, List.getElem_toArray, List.getElem_cons_succ, List.getElem_cons_zero, List.setIfInBounds_toArray, List.set_cons_zero, List.set_cons_succ])
     refine wpG_take (i := 11) (v := ?v12) rfl (by kernel_rfl) (by intro L w; simp only [getD_set_ne true (show (11 : Nat) ≠ 14 from by decide)]) (fun _ _ _ h => h) (Or.inl ⟨by rfl, ?y12⟩) ?r12
     case y12 => (intro w' hy; obtain ⟨L, hD, hl, hS⟩ := hy; clear hD hl hS; go_simp; (try with_reducible rfl))
     (try simp only [Act.put, List.getElem_toArray, List.getElem_cons_succ, List.getElem_cons_zero, List.setIfInBounds_toArray, List.set_cons_zero, List.set_cons_succ])
     refine wpG_take (i := 12) (v := ?v13) rfl (by kernel_rfl) (by intro L w; simp only [getD_set_ne true (show (12 : Nat) ≠ 14 from by decide)]) (fun _ _ _ h => h) (Or.inl ⟨by rfl, ?y13⟩) ?r13
     case y13 => (intro w' hy; obtain ⟨L, hD, hl, hS⟩ := hy; clear hD hl hS; go_simp; (try with_reducible rfl))
     (try simp only [Act.put, List.getElem_toArray, List.getElem_cons_succ, List.getElem_cons_zero, List.setIfInBounds_toArray, List.set_cons_zero, List.set_cons_succ])
     refine wpG_take (i := 13) (v := ?v14) rfl (by kernel_rfl) (by intro L w; simp only [getD_set_ne true (show (13 : Nat) ≠ 14 from by decide)]) (fun _ _ _ h => h) (Or.inl ⟨by rfl, ?y14⟩) ?r14
     case y14 => (intro w' hy; obtain ⟨L, hD, hl, hS⟩ := hy; clear hD hl hS; go_simp; (try with_reducible rfl))
     (try simp only [Act.put, List.getElem_toArray, List.getElem_cons_succ, List.getElem_cons_zero, List.setIfInBounds_toArray, List.set_cons_zero, List.set_cons_succ])
     refine wpG_step (i := 14) (by kernel_rfl) rfl (by rfl) ?r15
     intro hS K hK
     (have M0 := hS.1 (by kernel_rfl); clear hS; refine m_stw M0 rfl rfl (by first | exact (rfl : _ = Value.agg _) | exact (rfl : _ = Value.int _ _) | exact (rfl : _ = Value.bool _) | exact (rfl : _ = Value.slice _ _ _) | exact (rfl : _ = Value.pointer _) | exact (rfl : _ = Value.map _) | exact (rfl : _ = Value.func _ _ _) | exact (rfl : _ = Value.string _)) (by rfl) (by (repeat (first | exact Upd.head | apply Upd.tail))) (by (try simp only [List.take_succ_cons, List.take_zero, List.take_nil, List.drop_succ_cons, List.drop_zero, List.drop_nil, List.cons_append, List.nil_append, List.append_nil, List.length_cons, List.length_nil, Nat.reduceAdd, Nat.zero_add, Nat.add_zero]); rfl) (by simp) (by simp [Value.oneCell']) (by kernel_rfl) ?_; intro V2 M2; refine hK.out _ _ ⟨fun h => (no_of (by kernel_rfl) h).elim, fun _ => ⟨_, u64_wrap _, M2⟩⟩ ?_; clear M0 M2)
     clear hK K; intro W15
     (try simp only [Act.put, List.getElem_toArray, List.getElem_cons_succ, List.getElem_cons_zero, List.setIfInBounds_toArray, List.set_cons_zero, List.set_cons_succ])
     refine wpG_end (by kernel_rfl) ?_
     intro W
      hS
     obtain ⟨s2, hs2, M⟩ := hS.2 (by kernel_rfl)
     have HS2 := Lib.hid hs2
     clear hS hs2
     obtain ⟨wc, rfl⟩ : ∃ x : World, x = W := ⟨_, rfl⟩
     go_wp2
     refine wp_region_G (fun L W => (L.getD 13 true = false → Mem w noEx W [(g, .cells [.int .u64 s2])]) ∧ (L.getD 13 true = true → ∃ s1, u64ok s1 ∧ Mem w noEx W [(g, .cells [.int .u64 s1])])) 14 (by kernel_rfl) (by kernel_rfl) ?s0b ?r0b
     case s0b => (exact ⟨fun _ => M.drew, fun h => (no_of h (by kernel_rfl)).elim⟩)
     intro W0
     refine wpG_take (i := 0) (v := ?v1b) rfl (by kernel_rfl) (by intro L w; simp only [getD_set_ne true (show (0 : Nat) ≠ 13 from by decide)]) (fun _ _ _ h => h) (Or.inl ⟨by rfl, ?y1b⟩) ?r1b
     case y1b => (intro w' hy; obtain ⟨L, hD, hl, hS⟩ := hy; clear hD hl hS; go_simp; (try with_reducible rfl))
     (try simp only [Act.put, List.getElem_toArray, List.getElem_cons_succ, List.getElem_cons_zero, List.setIfInBounds_toArray, List.set_cons_zero, List.set_cons_succ])
     refine wpG_take (i := 1) (v := ?v2b) rfl (by kernel_rfl) (by intro L w; simp only [getD_set_ne true (show (1 : Nat) ≠ 13 from by decide)]) (fun _ _ _ h => h) (Or.inl ⟨by rfl, ?y2b⟩) ?r2b
     case y2b => (intro w' hy; obtain ⟨L, hD, hl, hS⟩ := hy; clear hD hl hS; go_simp; (try with_reducible rfl))
     (try simp only [Act.put, List.getElem_toArray, List.getElem_cons_succ, List.getElem_cons_zero, List.setIfInBounds_toArray, List.set_cons_zero, List.set_cons_succ])
     refine wpG_take (i := 2) (v := ?v3b) rfl (by kernel_rfl) (by intro L w; simp only [getD_set_ne true (show (2 : Nat) ≠ 13 from by decide)]) (fun _ _ _ h => h) (Or.inl ⟨by rfl, ?y3b⟩) ?r3b
     case y3b => (intro w' hy; obtain ⟨L, hD, hl, hS⟩ := hy; clear hD hl hS; go_simp; (try with_reducible rfl))
     (try simp only [Act.put, List.getElem_toArray, List.getElem_cons_succ, List.getElem_cons_zero, List.setIfInBounds_toArray, List.set_cons_zero, List.set_cons_succ])
     refine wpG_take (i := 3) (v := ?v4b) rfl (by kernel_rfl) (by intro L w; simp only [getD_set_ne true (show (3 : Nat) ≠ 13 from by decide)]) (fun _ _ _ h => h) (Or.inl ⟨by rfl, ?y4b⟩) ?r4b
     case y4b => (intro w' hy; obtain ⟨L, hD, hl, hS⟩ := hy; clear hD hl hS; go_simp; (try with_reducible rfl))
     (try simp only [Act.put, List.getElem_toArray, List.getElem_cons_succ, List.getElem_cons_zero, List.setIfInBounds_toArray, List.set_cons_zero, List.set_cons_succ])
     refine wpG_take (i := 4) (v := ?v5b) rfl (by kernel_rfl) (by intro L w; simp only [getD_set_ne true (show (4 : Nat) ≠ 13 from by decide)]) (fun _ _ _ h => h) (Or.inl ⟨by rfl, ?y5b⟩) ?r5b
     case y5b => (intro w' hy; obtain ⟨L, hD, hl, hS⟩ := hy; have M0 := hS.1 (hD.wait (by kernel_rfl) hl); clear hS; first | (refine Eq.trans (rn_one (Mem.get M0 (by (repeat' (first | exact List.mem_cons_self | refine List.mem_cons_of_mem _ ?_)))) rfl rfl (by rfl)) ?_; with_reducible rfl) | (refine Eq.trans (rn_row (Mem.get M0 (by (repeat' (first | exact List.mem_cons_self | refine List.mem_cons_of_mem _ ?_)))) rfl rfl (by (try simp only [List.take_succ_cons, List.take_zero, List.take_nil, List.drop_succ_cons, List.drop_zero, List.drop_nil, List.cons_append, List.nil_append, List.append_nil, List.length_cons, List.length_nil, Nat.reduceAdd, Nat.zero_add, Nat.add_zero]); rfl) (by rfl)) ?_; with_reducible rfl); (try with_reducible rfl))
     (try simp only [Act.put, List.getElem_toArray, List.getElem_cons_succ, List.getElem_cons_zero, List.setIfInBounds_toArray, List.set_cons_zero, List.set_cons_succ])
     refine wpG_take (i := 5) (v := ?v6b) rfl (by kernel_rfl) (by intro L w; simp only [getD_set_ne true (show (5 : Nat) ≠ 13 from by decide)]) (fun _ _ _ h => h) (Or.inl ⟨by rfl, ?y6b⟩) ?r6b
     case y6b => (intro w' hy; obtain ⟨L, hD, hl, hS⟩ := hy; clear hD hl hS; go_simp; (try with_reducible rfl))
     (try simp only [Act.put, List.getElem_toArray, List.getElem_cons_succ, List.getElem_cons_zero, List.setIfInBounds_toArray, List.set_cons_zero, List.set_cons_succ])
     refine wpG_take (i := 6) (v := ?v7b) rfl (by kernel_rfl) (by intro L w; simp only [getD_set_ne true (show (6 : Nat) ≠ 13 from by decide)]) (fun _ _ _ h => h) (Or.inl ⟨by rfl, ?y7b⟩) ?r7b
     case y7b => (intro w' hy; obtain ⟨L, hD, hl, hS⟩ := hy; clear hD hl hS; go_simp; (try with_reducible rfl))
     (try simp only [Act.put, List.getElem_toArray, List.getElem_cons_succ, List.getElem_cons_zero, List.setIfInBounds_toArray, List.set_cons_zero, List.set_cons_succ])
     refine wpG_take (i := 7) (v := ?v8b) rfl (by kernel_rfl) (by intro L w; simp only [getD_set_ne true (show (7 : Nat) ≠ 13 from by decide)]) (fun _ _ _ h => h) (Or.inl ⟨by rfl, ?y8b⟩) ?r8b
     case y8b => (intro w' hy; obtain ⟨L, hD, hl, hS⟩ := hy; clear hD hl hS; go_simp; (try with_reducible rfl))
     (try simp only [Act.put, List.getElem_toArray, List.getElem_cons_succ, List.getElem_cons_zero, List.setIfInBounds_toArray, List.set_cons_zero, List.set_cons_succ])
     refine wpG_take (i := 8) (v := ?v9b) rfl (by kernel_rfl) (by intro L w; simp only [getD_set_ne true (show (8 : Nat) ≠ 13 from by decide)]) (fun _ _ _ h => h) (Or.inl ⟨by rfl, ?y9b⟩) ?r9b
     case y9b => (intro w' hy; obtain ⟨L, hD, hl, hS⟩ := hy; have M0 := hS.1 (hD.wait (by kernel_rfl) hl); clear hS; first | (refine Eq.trans (rn_one (Mem.get M0 (by (repeat' (first | exact List.mem_cons_self | refine List.mem_cons_of_mem _ ?_)))) rfl rfl (by rfl)) ?_; with_reducible rfl) | (refine Eq.trans (rn_row (Mem.get M0 (by (repeat' (first | exact List.mem_cons_self | refine List.mem_cons_of_mem _ ?_)))) rfl rfl (by (try simp only [List.take_succ_cons, List.take_zero, List.take_nil, List.drop_succ_cons, List.drop_zero, List.drop_nil, List.cons_append, List.nil_append, List.append_nil, List.length_cons, List.length_nil, Nat.reduceAdd, Nat.zero_add, Nat.add_zero]); rfl) (by rfl)) ?_; with_reducible rfl); (try with_reducible rfl))
     (try simp only [Act.put, List.getElem_toArray, List.getElem_cons_succ, List.getElem_cons_zero, List.setIfInBounds_toArray, List.set_cons_zero, List.set_cons_succ])
     refine wpG_take (i := 9) (v := ?v10b) rfl (by kernel_rfl) (by intro L w; simp only [getD_set_ne true (show (9 : Nat) ≠ 13 from by decide)]) (fun _ _ _ h => h) (Or.inl ⟨by rfl, ?y10b⟩) ?r10b
     case y10b => (intro w' hy; obtain ⟨L, hD, hl, hS⟩ := hy; clear hD hl hS; go_simp; (try with_reducible rfl))
     (try simp only [Act.put, List.getElem_toArray, List.getElem_cons_succ, List.getElem_cons_zero, List.setIfInBounds_toArray, List.set_cons_zero, List.set_cons_succ])
     refine wpG_take (i := 10) (v := ?v11b) rfl (by kernel_rfl) (by intro L w; simp only [getD_set_ne true (show (10 : Nat) ≠ 13 from by decide)]) (fun _ _ _ h => h) (Or.inl ⟨by rfl, ?y11b⟩) ?r11b
     case y11b => (intro w' hy; obtain ⟨L, hD, hl, hS⟩ := hy; clear hD hl hS; go_simp; (try with_reducible rfl))
     (try simp only [Act.put, List.getElem_toArray, List.getElem_cons_succ, List.getElem_cons_zero, List.setIfInBounds_toArray, List.set_cons_zero, List.set_cons_succ])
     refine wpG_take (i := 11) (v := ?v12b) rfl (by kernel_rfl) (by intro L w; simp only [getD_set_ne true (show (11 : Nat) ≠ 13 from by decide)]) (fun _ _ _ h => h) (Or.inl ⟨by rfl, ?y12b⟩) ?r12b
     case y12b => (intro w' hy; obtain ⟨L, hD, hl, hS⟩ := hy; clear hD hl hS; go_simp; (try with_reducible rfl))
     (try simp only [Act.put, List.getElem_toArray, List.getElem_cons_succ, List.getElem_cons_zero, List.setIfInBounds_toArray, List.set_cons_zero, List.set_cons_succ])
     refine wpG_take (i := 12) (v := ?v13b) rfl (by kernel_rfl) (by intro L w; simp only [getD_set_ne true (show (12 : Nat) ≠ 13 from by decide)]) (fun _ _ _ h => h) (Or.inl ⟨by rfl, ?y13b⟩) ?r13b
     case y13b => (intro w' hy; obtain ⟨L, hD, hl, hS⟩ := hy; clear hD hl hS; go_simp; (try with_reducible rfl))
     (try simp only [Act.put, List.getElem_toArray, List.getElem_cons_succ, List.getElem_cons_zero, List.setIfInBounds_toArray, List.set_cons_zero, List.set_cons_succ])
     refine wpG_step (i := 13) (by kernel_rfl) rfl (by rfl) ?r14b
     intro hS K hK
     (have M0 := hS.1 (by kernel_rfl); clear hS; refine m_stw M0 rfl rfl (by first | exact (rfl : _ = Value.agg _) | exact (rfl : _ = Value.int _ _) | exact (rfl : _ = Value.bool _) | exact (rfl : _ = Value.slice _ _ _) | exact (rfl : _ = Value.pointer _) | exact (rfl : _ = Value.map _) | exact (rfl : _ = Value.func _ _ _) | exact (rfl : _ = Value.string _)) (by rfl) (by (repeat (first | exact Upd.head | apply Upd.tail))) (by (try simp only [List.take_succ_cons, List.take_zero, List.take_nil, List.drop_succ_cons, List.drop_zero, List.drop_nil, List.cons_append, List.nil_append, List.append_nil, List.length_cons, List.length_nil, Nat.reduceAdd, Nat.zero_add, Nat.add_zero]); rfl) (by simp) (by simp [Value.oneCell']) (by kernel_rfl) ?_; intro V2 M2; refine hK.out _ _ ⟨fun h => (no_of (by kernel_rfl) h).elim, fun _ => ⟨_, u64_bits _ _, M2⟩⟩ ?_; clear M0 M2)
     clear hK K; intro W14
     (try simp only [Act.put, List.getElem_toArray, List.getElem_cons_succ, List.getElem_cons_zero, List.setIfInBounds_toArray, List.set_cons_zero, List.set_cons_succ])
     refine wpG_end (by kernel_rfl) ?_
     intro W
      hS
     obtain ⟨s3, hs3, M⟩ := hS.2 (by kernel_rfl)
     have HS3 := Lib.hid hs3
     clear hS hs3
     go_wp2
     go_roundw
     case rel => exact ⟨k + 1, s3, by omega, by go_num, HS3, M⟩
     case measure => simp [intOf]; omega
   · go_wp2_with (first | (refine m_ld1 M rfl rfl rfl (by (repeat' (first | exact List.mem_cons_self | refine List.mem_cons_of_mem _ ?_))) (by rfl) ?_) | (refine m_ldr M rfl rfl rfl (by (repeat' (first | exact List.mem_cons_self | refine List.mem_cons_of_mem _ ?_))) (by (try simp only [List.take_succ_cons, List.take_zero, List.take_nil, List.drop_succ_cons, List.drop_zero, List.drop_nil, List.cons_append, List.nil_append, List.append_nil, List.length_cons, List.length_nil, Nat.reduceAdd, Nat.zero_add, Nat.add_zero]); rfl) (by rfl) ?_) | (refine m_st M rfl rfl rfl (by first | exact (rfl : _ = Value.agg _) | exact (rfl : _ = Value.int _ _) | exact (rfl : _ = Value.bool _) | exact (rfl : _ = Value.slice _ _ _) | exact (rfl : _ = Value.pointer _) | exact (rfl : _ = Value.map _) | exact (rfl : _ = Value.func _ _ _) | exact (rfl : _ = Value.string _)) (by rfl) (by (repeat (first | exact Upd.head | apply Upd.tail))) (by (try simp only [List.take_succ_cons, List.take_zero, List.take_nil, List.drop_succ_cons, List.drop_zero, List.drop_nil, List.cons_append, List.nil_append, List.append_nil, List.length_cons, List.length_nil, Nat.reduceAdd, Nat.zero_add, Nat.add_zero]); rfl) (by simp) (by simp [Value.oneCell']) (by kernel_rfl) ?_; clear M; (try clear wc); intro wc M) | (refine m_al M rfl rfl ?_; clear M; (try clear wc); intro g wc M) | (refine m_bx M rfl rfl (by first | exact (rfl : _ = Value.agg _) | exact (rfl : _ = Value.int _ _) | exact (rfl : _ = Value.bool _) | exact (rfl : _ = Value.slice _ _ _) | exact (rfl : _ = Value.pointer _) | exact (rfl : _ = Value.map _) | exact (rfl : _ = Value.func _ _ _) | exact (rfl : _ = Value.string _)) (by rfl) ?_; clear M; (try clear wc); intro g wc M))
     go_ret
     exact ⟨g, s, hs.out, rfl, M⟩
end Go.Proofs.Ytlahdenlmmlplaa
end

section
/-
 Slices that are appended to, in a list of blocks.
-/
namespace Go.Proofs.Ytlahdenlmmlplaa
set_option linter.unusedSimpArgs false
set_option linter.unusedVariables false
open Go.RowKit
def Sl (e size : Nat) (v : Value) (n : Nat) (xs : List Value) (I : List (Nat × BA)) : Prop :=
 (v = .slice none 0 0 ∧ n = 0 ∧ xs = [] ∧ I = []) ∨ ∃ g cap, v = .slice (some ⟨g, 0, none⟩) n cap ∧ I = [(g, .row e size n xs cap)]
theorem Sl.nil (e size : Nat) : Sl e size (.slice none 0 0) 0 [] [] := .inl ⟨rfl, rfl, rfl, rfl⟩
section
variable {w0 w w' : World} {ex : Nat → Prop} {L I : List (Nat × BA)} {e size n : Nat} {v : Value} {xs : List Value}
theorem own_rebase {base g cap : Nat} (h : w.ownsRow base e size (.slice (some ⟨g, 0, none⟩) n cap) n xs) (hn : 0 < n) : BA.holds w g (.row e size n xs cap) := by
 refine ⟨⟨h.1, ?_⟩, hn⟩
 rcases h.2 with ⟨h2, _⟩ | ⟨g', c', cur, h2, _, hg, hr⟩
 · cases h2
 · injection h2 with h2 _ hc
   injection h2 with h2
   injection h2 with h2 _ _
   subst h2
   exact .inr ⟨g, c', cur, by rw [hc], Nat.le_refl _, hg, hr⟩
theorem Sl.rd (h : Sl e size v n xs I) (M : Mem w0 ex w (I ++ L)) : ∃ A cap, v = .slice A n cap ∧ Rd w w.heap.size size A n xs := by
 rcases h with ⟨rfl, rfl, rfl, rfl⟩ | ⟨g, cap, rfl, rfl⟩
 · exact ⟨none, 0, rfl, Rd.empty⟩
 · exact ⟨_, cap, rfl, M.rdRow (g := g) (e := e) (cap := cap) (by simp)⟩
theorem Sl.row (e size g n : Nat) (xs : List Value) (cap : Nat) : Sl e size (.slice (some ⟨g, 0, none⟩) n cap) n xs [(g, .row e size n xs cap)] := .inr ⟨g, cap, rfl, rfl⟩
theorem Sl.form (h : Sl e size v n xs I) : ∃ A cap, v = .slice A n cap := by
 rcases h with ⟨rfl, rfl, rfl, rfl⟩ | ⟨g, cap, rfl, rfl⟩
 · exact ⟨none, 0, rfl⟩
 · exact ⟨_, cap, rfl⟩
theorem app_wp {P : Program} {o : Oper} {a : Act} {K : Act → World → Prop} {Q : Exit → Act → World → Prop} {s x : Operand} {t : TypeId} {z : Value} {bytes b c : Nat} {cs : List Value}
   (ht : P.underlying t = some (.slice e)) (hinfo : (P.info? e).map (fun i => (i.zero, i.size, i.bytes)) = some (some z, size, bytes)) (hzs : z.cells.size = size) (hsz : 0 < size) (hby : bytes ≤ 1000)
   (M : Mem w0 ex w (I ++ L)) (hS : Sl e size v n xs I) (hn : n ≤ 1000000)
   (ho : o.op = .call { callee := .builtin .append, args := #[s, x], argTypes := #[t, t] }) (hs : a.eval s = v) (hx : a.eval x = .slice (some ⟨b, 0, none⟩) 1 c) (hm : (b, BA.cells cs) ∈ L) (hl : cs.length = size) (h1 : cs.all (·.oneCell') = true)
   (h : ∀ g cap w', Mem w0 ex w' ((g, .row e size (n + 1) (xs ++ cs) cap) :: L) → K (a.put o.dst (.slice (some ⟨g, 0, none⟩) (n + 1) cap)) w') : o.wp P a w K Q := by
 obtain ⟨i, hi, hz0, hz1, hz2⟩ := info_parts hinfo
 have hb : Bk w b cs.toArray := M.get (List.mem_append_right _ hm)
 have hnews : ∀ j u, cs[j]? = some u → w.cell? ((⟨b, 0, none⟩ : Addr).add j) = some u := fun j u hu => by
   rw [Addr.add_mid, hb.cell, Nat.zero_add]; simpa using hu
 have h1' : ∀ u ∈ cs, u.oneCell' = true := fun u hu => List.all_eq_true.1 h1 u hu
 have hbb : (n + 1) * bytes ≤ 140737488355328 := by
   have : (n + 1) * bytes ≤ 1000001 * 1000 := Nat.mul_le_mul (by omega) hby
   omega
 rcases hS with ⟨rfl, rfl, rfl, rfl⟩ | ⟨g0, cap0, rfl, rfl⟩
 · refine wp_append_lies w s x t ho w.heap.size e i z size bytes ht hi hz0 hz1 hz2 hzs hsz (.slice none 0 0) 0 [] hs ⟨by simp, .inl ⟨rfl, rfl⟩⟩ ⟨b, 0, none⟩ 1 c cs hx (by omega) hnews h1' (by omega) (by unfold maxLen; omega) (by simpa using hbb) (Nat.le_refl _) w.heap.size rfl ?_
   intro g cap w' hown hgr hat hlt
   have hg : g = w.heap.size := by
     rcases hat with h | h
     · cases h
     · exact h
   have M1 : Mem w0 ex w' L := M.call ⟨hgr.os, hgr.tape, hgr.output, hgr.size, fun k hk => hgr.block k hk (fun e => by cases e)⟩
   exact h g cap w' (M1.add (by rw [hg]; exact M.size) (own_rebase hown (by omega)) (fun q hq e => by have := BA.lt (M.blk q hq).2; omega))
 · have hrow := (M.blk (g0, .row e size n xs cap0) (by simp)).2
   have hnp : 0 < n := hrow.2
   refine wp_append_lies w s x t ho g0 e i z size bytes ht hi hz0 hz1 hz2 hzs hsz _ n xs hs hrow.1 ⟨b, 0, none⟩ 1 c cs hx (by omega) hnews h1' (by omega) (by unfold maxLen; omega) hbb (Nat.le_of_lt (BA.lt hrow)) w.heap.size rfl ?_
   intro g cap w' hown hgr hat hlt
   have hgr : w.grownBy w' (some g0) := hgr
   rcases hat with h2 | h2
   · have h2 : some g0 = some g := h2
     injection h2 with h2
     subst h2
     exact h g0 cap w' (M.callW (L' := (g0, .row e size (n + 1) (xs ++ cs) cap) :: L) .head hgr (own_rebase hown (by omega)))
   · have M1 := M.callW (L' := (g0, .any (fun _ => True)) :: L) .head hgr (by
       have hl0 : g0 < w'.heap.size := Nat.lt_of_lt_of_le (BA.lt hrow) hgr.size
       exact ⟨w'.heap[g0], Array.getElem?_eq_getElem hl0, trivial⟩)
     exact h g cap w' (M1.forget.add (by rw [h2]; exact M.size) (own_rebase hown (by omega)) (fun q hq e => by have := BA.lt (M.blk q (List.mem_append_right _ hq)).2; omega))
end
end Go.Proofs.Ytlahdenlmmlplaa
end

section
/-
 kit: numbers, ranges, jobs and strokes out of a pot.
-/
namespace Go.Proofs.Ytlahdenlmmlplaa
set_option linter.unusedSimpArgs false
set_option linter.unusedVariables false
open Go.RowKit
theorem Mem.nee {w0 w : World} {ex : Nat → Prop} {L : List (Nat × BA)} {g g' : Nat} {p p' : BA} (M : Mem w0 ex w L) (i j : Nat) (h1 : nthE L i = some (g, p)) (h2 : nthE L j = some (g', p')) (hij : Nat.beq i j = false) : ∀ b o, (some ⟨g, 0, none⟩ : Option Addr) = some ⟨b, o, none⟩ → b ≠ g' := by
 intro b o e hb
 injection e with e
 injection e with e _ _
 subst e
 subst hb
 have b1 : (L.map (·.1))[i]? = some g := by rw [List.getElem?_map, nthE_get h1]; rfl
 have b2 : (L.map (·.1))[j]? = some g := by rw [List.getElem?_map, nthE_get h2]; rfl
 have := (List.getElem?_inj (List.getElem?_eq_some_iff.1 b1).1 M.nd).1 (b1.trans b2.symm)
 subst this
 simp at hij
theorem Sp.oldEx {w : World} {size n bp : Nat} {A : Option Addr} {xs : List Value} (h : Rd w w.heap.size size A n xs) (hne : ∀ b o, A = some ⟨b, o, none⟩ → b ≠ bp) : ∃ b o, Sp w (fun b => b = bp) [] A n size b o xs := by
 rcases Nat.eq_zero_or_pos n with rfl | hn
 · refine ⟨0, 0, by omega, h.1, fun _ _ _ _ h => absurd h (by omega), fun _ _ _ _ j u hu => ?_⟩
   have : xs = [] := List.eq_nil_of_length_eq_zero (by have := h.1; omega)
   simp [this] at hu
 · obtain ⟨b, o, h1, h2, h3⟩ := h.2 hn
   exact ⟨b, o, fun _ => h1, h.1, fun w' L M _ _ => Nat.lt_of_lt_of_le h2 M.size, fun w' L M _ j u hu => (World.cell?_of_block (w := w) (a := ⟨b, o + j, none⟩) (M.block b h2 (hne b o h1))).trans (h3 j u hu)⟩
theorem ow_app {P : Program} {op : Oper} {a : Act} {K : Act → World → Prop} {Q : Exit → Act → World → Prop} {s x : Operand} {ty e size bytes b c m nn t' : Nat} {z : Value} {cs xs : List Value} {v : Value} {w0 w : World} {ex : Nat → Prop} {L0 I : List (Nat × BA)} {E : List (Nat × Value)} (L1 : List (Nat × BA))
   (hinfo : (P.info? e).map (fun i => (i.zero, i.size, i.bytes)) = some (some z, size, bytes)) (hS : Sl e size v m xs I) (M : Mem w0 ex w L0) (hsp : L0 = L1 ++ I) (T : Tm a nn E)
   (ho : op.op = .call { callee := .builtin .append, args := #[s, x], argTypes := #[ty, ty] }) (hd : op.dst = some t') (hf : freshE E t' = true) (hnn : Nat.blt t' nn = true)
   (ht : P.underlying ty = some (.slice e)) (hzs : z.cells.size = size) (hsz : Nat.blt 0 size = true) (hby : Nat.ble bytes 1000 = true) (hm : m ≤ 1000000)
   (hs : a.eval s = v) (hx : a.eval x = .slice (some ⟨b, 0, none⟩) 1 c) (hmem : (b, BA.cells cs) ∈ L1) (hl : cs.length = size) (h1 : cs.all (·.oneCell') = true)
   (h : ∀ g cap w' a', Mem w0 ex w' ((g, .row e size (m + 1) (xs ++ cs) cap) :: L1) → Tm a' nn ((t', .slice (some ⟨g, 0, none⟩) (m + 1) cap) :: E) → K a' w') : op.wp P a w K Q := by
 subst hsp
 exact app_wp ht hinfo hzs (Nat.le_of_ble_eq_true hsz) (Nat.le_of_ble_eq_true hby) (Mem.swapI (I := L1) (L := I) M) hS hm ho hs hx hmem hl h1 fun g cap w' M' => h g cap w' _ M' (by rw [hd]; exact T.put hnn hf _)
theorem of_any (s : Int) (bp : Nat) (A : Option Addr) (n c : Nat) (l : List Int) (w : World) (hl : Rd w w.heap.size 1 A n (ic l)) (hne : ∀ b o, A = some ⟨b, o, none⟩ → b ≠ bp) (hn0 : 0 < n) (hn : n ≤ 1000) (hp : Bk w bp #[.int .u64 s]) (hs : u64ok s) :
   Calls Try.prog 64 #[.pointer (some ⟨bp, 0, none⟩), .slice A n c] w (PotPost bp (fun x => x ∈ l) .i64 w) := by
 have hll := hl.len1
 obtain ⟨bI, oI, SI⟩ := Sp.oldEx hl hne
 refine px_enter (fun b => b = bp) Try.func64 rfl 16 rfl [.pointer (some ⟨bp, 0, none⟩), .slice A n c] rfl rfl (Mem.initEx (p := .cells [.int .u64 s]) hp) ?_
 intro ac wc T M
 refine wp_seq ?_
 refine wp_region_lit ?_
 refine lq T (rn_assign rfl evc) ?_; clear T ac; intro ac T
 refine wpList_nil ?_
 replace T := T.pick [1, 2] rfl
 refine nm_then ?_
 refine wp_seq ?_
 refine wp_seq ?_
 refine wp_region_lit ?_
 refine lq T (rn_move rfl (T.ev 1 rfl)) ?_; clear T ac; intro ac T
 refine lq T (rn_lenS rfl Try.underlying22 (T.ev 0 rfl)) ?_; clear T ac; intro ac T
 refine lq T (rn_eql rfl (T.ev 0 rfl) evc) ?_; clear T ac; intro ac T
 refine wpList_nil ?_
 replace T := T.pick [0, 3, 4] rfl
 refine nm_then ?_
 refine wp_if (T.ev 0 rfl) ?_ ?_
 ·intro h1
  refine wp_seq ?_
  refine wp_region_lit ?_
  refine lq T (rn_assign rfl evc) ?_; clear T ac; intro ac T
  refine wpList_nil ?_
  replace T := T.pick [0] rfl
  refine nm_then ?_
  refine wp_ret ?_
  refine rt_then ?_
  refine rt_1 T rfl (T.ev 0 rfl) ?_
  exfalso
  omega
 intro h1
 refine wp_skip ?_
 refine nm_then ?_
 refine wp_seq ?_
 refine wp_region_lit ?_
 refine lq T (rn_move rfl (T.ev 2 rfl)) ?_; clear T ac; intro ac T
 refine lq T (rn_move rfl (T.ev 2 rfl)) ?_; clear T ac; intro ac T
 refine lq T (rn_move rfl (T.ev 4 rfl)) ?_; clear T ac; intro ac T
 refine lq T (rn_lenS rfl Try.underlying22 (T.ev 0 rfl)) ?_; clear T ac; intro ac T
 refine lq T (rn_sub rfl (T.ev 0 rfl) evc (by omega)) ?_; clear T ac; intro ac T
 refine l_w rfl ?_; intro K hK
 refine ow_call (first := []) (cap := []) T rfl rfl rfl rfl evf (.cons (T.ev 3 rfl) (.cons (T.ev 0 rfl) .nil)) Try.func39 rfl rfl ?_
 refine Calls.mono (upto_any _ bp (((n : Nat) : Int) - 1) _ (by omega) (by omega) (M.nth 0 rfl) hs) ?_
 clear T
 rintro e wc ⟨xu1, su1, hxu1, hsu1, rfl, hgr, hbk⟩
 intro ac T
 replace M := M.callC (cs' := [.int .u64 su1]) .head hgr hbk
 clear hgr hbk
 obtain ⟨ku1, hku1⟩ : ∃ k : Nat, xu1 = (k : Int) := ⟨xu1.toNat, by omega⟩
 obtain ⟨y, hk1, -⟩ := ic_next (l := l) (k := ku1) (by omega)
 refine sh_out hK _ _ ?_; clear hK K
 refine lq T (rn_indexAddr (size := 1) ku1 rfl (T.ev 5 rfl) (T.ev 0 rfl) ⟨_, Try.underlying22, by kernel_rfl⟩ hku1 (by omega) (SI.at0 (by omega))) ?_; clear T ac; intro ac T
 refine lq T (rn_cell (Sp.ic0 SI M (List.nil_sublist _) hk1) rfl (T.ev 0 rfl)) ?_; clear T ac; intro ac T
 refine lq T (rn_assign rfl (T.ev 0 rfl)) ?_; clear T ac; intro ac T
 refine wpList_nil ?_
 replace T := T.pick [0] rfl
 refine nm_then ?_
 refine wp_ret ?_
 refine rt_1 T rfl (T.ev 0 rfl) ?_
 exact ⟨_, _, List.mem_of_getElem? hk1, hsu1, rfl, M.grown, M.nth 0 rfl⟩
theorem inner_any (s : Int) (bp : Nat) (x0 x1 : Int) (w : World) (h0 : -1000 ≤ x0) (h1 : x0 ≤ x1) (h2 : x1 ≤ 1000) (hp : Bk w bp #[.int .u64 s]) (hs : u64ok s) :
   Calls Try.prog 38 #[.pointer (some ⟨bp, 0, none⟩), .agg #[.int .i64 x0, .int .i64 x1]] w (PotPost bp (fun n => x0 ≤ n ∧ n ≤ x1) .i64 w) := by
 refine px_enter (fun b => b = bp) Try.func38 rfl 18 rfl [.pointer (some ⟨bp, 0, none⟩), .agg #[.int .i64 x0, .int .i64 x1]] rfl rfl (Mem.initEx (p := .cells [.int .u64 s]) hp) ?_
 intro ac wc T M
 refine wp_seq ?_
 refine wp_region_lit ?_
 refine l_w rfl ?_; intro K hK
 refine ow_bx M T rfl rfl rfl rfl (T.ev 1 rfl) rfl ?_; clear M T; intro g1 wc ac M T
 refine sh_out hK _ _ ?_; clear hK K
 refine lq T (rn_assign rfl evc) ?_; clear T ac; intro ac T
 refine wpList_nil ?_
 replace T := T.pick [1, 2] rfl
 refine nm_then ?_
 refine wp_seq ?_
 refine g_start2 M (M.perm [0] rfl rfl) 14 (by kernel_rfl) rfl (by kernel_rfl) ?_
 clear M; intro wc M
 refine g_addG 10 M ?_
 refine gq T 0 1 rfl (fun _ _ _ _ _ => (rn_move rfl (T.ev 1 rfl))) ?_; clear T ac; intro ac T
 refine gq (v := (.pointer (some ⟨g1, 0, none⟩))) T 1 3 rfl (fun _ _ _ _ _ => (rn_fieldAddr (off := 0) rfl (T.ev 1 rfl) (fun _ _ _ => by kernel_rfl))) ?_; clear T ac; intro ac T
 refine gq T 2 7 rfl (fun B w' hD hl hS => (rn_one (Mem.nth (show Mem w (fun b => b = bp) w' _ from (MA.rgt hS)) 0 rfl) rfl (T.ev 0 rfl) rfl)) ?_; clear T ac; intro ac T
 refine gq (v := (.pointer (some ⟨g1, 1, none⟩))) T 3 15 rfl (fun _ _ _ _ _ => (rn_fieldAddr (off := 1) rfl (T.ev 3 rfl) (fun _ _ _ => by kernel_rfl))) ?_; clear T ac; intro ac T
 refine gq T 4 31 rfl (fun B w' hD hl hS => (rn_one (Mem.nth (show Mem w (fun b => b = bp) w' _ from (MA.rgt hS)) 0 rfl) rfl (T.ev 0 rfl) rfl)) ?_; clear T ac; intro ac T
 refine gq T 5 63 rfl (fun _ _ _ _ _ => (rn_move rfl (T.ev 6 rfl))) ?_; clear T ac; intro ac T
 refine gq (v := (.pointer (some ⟨g1, 0, none⟩))) T 6 127 rfl (fun _ _ _ _ _ => (rn_fieldAddr (off := 0) rfl (T.ev 6 rfl) (fun _ _ _ => by kernel_rfl))) ?_; clear T ac; intro ac T
 refine gq T 7 255 rfl (fun B w' hD hl hS => (rn_one (Mem.nth (show Mem w (fun b => b = bp) w' _ from ((MA.lft hS) (hD.wait (i := 7) (m := 10) (by kernel_rfl) hl))) 0 rfl) rfl (T.ev 0 rfl) rfl)) ?_; clear T ac; intro ac T
 refine gq (v := (.pointer (some ⟨g1, 1, none⟩))) T 8 511 rfl (fun _ _ _ _ _ => (rn_fieldAddr (off := 1) rfl (T.ev 8 rfl) (fun _ _ _ => by kernel_rfl))) ?_; clear T ac; intro ac T
 refine gq T 9 1023 rfl (fun B w' hD hl hS => (rn_one (Mem.nth (show Mem w (fun b => b = bp) w' _ from ((MA.lft hS) (hD.wait (i := 9) (m := 10) (by kernel_rfl) hl))) 0 rfl) rfl (T.ev 0 rfl) rfl)) ?_; clear T ac; intro ac T
 refine gw 10 2047 ?_; intro K hK
 refine ow_call (first := []) (cap := []) T rfl rfl rfl rfl evf (.cons (T.ev 4 rfl) (.cons (T.ev 2 rfl) (.cons (T.ev 0 rfl) .nil))) Try.func19 rfl rfl ?_
 refine Calls.mono (within_pot _ bp x0 x1 _ (by omega) (by omega) (by omega) (M.nth 1 rfl) hs) ?_
 clear T
 rintro e wc ⟨xu1, su1, hxu1, hsu1, rfl, hgr, hbk⟩
 intro ac T
 replace M := M.callC (cs' := [.int .u64 su1]) (.tail .head) hgr hbk
 clear hgr hbk
 refine sh_out hK _ _ (MA.mk (fun h => (no_of (by kernel_rfl) h).elim) (M.mask [true, false] rfl)) ?_; clear hK K
 refine gw 11 4095 ?_; intro K hK
 refine ow_bs (e := 3) [.int .i64 x0, .int .i64 x1, .int .i64 xu1] M T rfl rfl rfl rfl (.cons (T.ev 8 rfl) (.cons (T.ev 6 rfl) (.cons (T.ev 0 rfl) .nil))) (fun _ => by kernel_rfl) ?_; clear M T; intro g2 wc ac M T
 refine sh_out hK _ _ (MA.mk (fun h => (no_of (by kernel_rfl) h).elim) (M.mask [false, true, false] rfl)) ?_; clear hK K
 refine gw 12 8191 ?_; intro K hK
 refine ow_call (first := []) (cap := []) T rfl rfl rfl rfl evf (.cons (T.ev 11 rfl) (.cons (T.ev 0 rfl) .nil)) Try.func64 rfl rfl ?_
 refine Calls.mono (of_any _ bp _ 3 3 [x0, x1, xu1] _ (M.rdOwn (nthE_mem (i := 0) rfl) rfl rfl) (M.nee 0 2 rfl rfl rfl) (by decide) (by decide) (M.nth 2 rfl) hsu1) ?_
 clear T
 rintro e wc ⟨xu2, su2, hxu2, hsu2, rfl, hgr, hbk⟩
 intro ac T
 replace M := M.callC (cs' := [.int .u64 su2]) (.tail (.tail .head)) hgr hbk
 clear hgr hbk
 simp only [List.mem_cons, List.not_mem_nil, or_false] at hxu2
 refine sh_out hK _ _ (MA.mk (fun h => (no_of (by kernel_rfl) h).elim) (M.mask [false, true, false] rfl)) ?_; clear hK K
 refine gq T 13 16383 rfl (fun _ _ _ _ _ => (rn_assign rfl (T.ev 0 rfl))) ?_; clear T ac; intro ac T
 refine g_done (by kernel_rfl) ?_
 replace T := T.pick [0] rfl
 replace M := M.mask [false, false, true] rfl
 refine nm_then ?_
 refine wp_ret ?_
 refine rt_1 T rfl (T.ev 0 rfl) ?_
 exact ⟨_, _, (by omega), hsu2, rfl, M.grown, M.nth 0 rfl⟩
def NarrowPost (bp : Nat) (x0 x1 n : Int) (w : World) (e : Ending) (w' : World) : Prop := ∃ a b s' : Int, (x0 ≤ a ∧ a ≤ n ∧ n ≤ b ∧ b ≤ x1) ∧ u64ok s' ∧ e = .returned (R2 a b) ∧ w.grownBy w' (some bp) ∧ Bk w' bp #[.int .u64 s']
theorem Try.info40 : (Try.prog.info? 40).map (fun i => (i.zero, i.size, i.bytes)) = some (some (.agg #[.int .i64 0, .int .i64 0]), 2, 16) := by kernel_rfl
theorem Try.info3 : (Try.prog.info? 3).map (fun i => (i.zero, i.size, i.bytes)) = some (some (.int .i64 0), 1, 8) := by kernel_rfl
structure Jb.made (j : Jb) (wd ls : Int) : Prop where
 p : -60 ≤ j.p0 ∧ -16 - wd ≤ j.p0 ∧ j.p0 ≤ j.p1 ∧ j.p1 ≤ 16 + wd ∧ j.p1 ≤ 60 ∧ j.p1 - j.p0 ≤ 2 * wd
 t : 18 ≤ j.t0 ∧ j.t0 ≤ j.t1 ∧ j.t1 ≤ 42
 r : 18 ≤ j.r0 ∧ j.r0 ≤ j.r1 ∧ j.r1 ≤ 42
 u : 0 ≤ j.u0 ∧ j.u0 ≤ j.u1 ∧ j.u1 ≤ 12 ∧ j.u1 ≤ 6 + ls ∧ j.u1 - j.u0 ≤ 2 * ls
 d : 0 ≤ j.d0 ∧ j.d0 ≤ j.d1 ∧ j.d1 ≤ 12 ∧ j.d1 ≤ 6 + ls ∧ j.d1 - j.d0 ≤ 2 * ls
 a : 0 ≤ j.a0 ∧ j.a0 ≤ j.a1 ∧ j.a1 ≤ 5
 b : 0 ≤ j.b0 ∧ j.b0 ≤ j.b1 ∧ j.b1 ≤ 5
 le : 10 ≤ j.le ∧ j.le ≤ 30
 few : j.sh.length ≤ 3
 sh : ∀ q ∈ j.sh, -5 ≤ q.1 ∧ q.1 ≤ q.2 ∧ q.2 ≤ 5
 wi : 1 ≤ j.wi ∧ j.wi ≤ 6
 me : 0 ≤ j.me ∧ j.me ≤ 3
theorem Jb.made.good {j : Jb} {wd ls : Int} (h : j.made wd ls) : j.good := by
 obtain ⟨h1, h2, h3, h4, h5, h6, h7, h8, h9, h10, h11, h12⟩ := h
 exact ⟨by omega, by omega, by omega, by omega, by omega, by omega, by omega, by omega, by omega, fun p hp => by have := h10 p hp; omega, by omega, by omega⟩
def JobOfPost (bp : Nat) (wd ls : Int) (w : World) (e : Ending) (w' : World) : Prop :=
 ∃ (j : Jb) (A : Option Addr) (c : Nat) (s : Int) (I : List (Nat × BA)), e = .returned (jobV j A c) ∧ j.made wd ls ∧ u64ok s ∧ Sl 40 2 (.slice A j.sh.length c) j.sh.length (rc j.sh) I ∧ Mem w (fun b => b = bp) w' (I ++ [(bp, .cells [.int .u64 s])])
theorem rc_snoc (l : List (Int × Int)) (x y : Int) : rc l ++ [.int .i64 x, .int .i64 y] = rc (l ++ [(x, y)]) := by rw [rc_append]; rfl
theorem jobOf_any (s : Int) (bp : Nat) (wd ls : Int) (w : World) (hw0 : 0 ≤ wd) (hw1 : wd ≤ 40) (hl0 : 0 ≤ ls) (hl1 : ls ≤ 40) (hp : Bk w bp #[.int .u64 s]) (hs : u64ok s) :
   Calls Try.prog 62 #[.pointer (some ⟨bp, 0, none⟩), .int .i64 wd, .int .i64 ls] w (JobOfPost bp wd ls w) := by
 refine px_enter (fun b => b = bp) Try.func62 rfl 84 rfl [.pointer (some ⟨bp, 0, none⟩), .int .i64 wd, .int .i64 ls] rfl rfl (Mem.initEx (p := .cells [.int .u64 s]) hp) ?_
 intro ac wc T M
 refine wp_seq ?_
 refine wp_region_lit ?_
 refine l_w rfl ?_; intro K hK
 refine ow_al M T rfl rfl rfl rfl ?_; clear M T; intro g1 wc ac M T
 refine sh_out hK _ _ ?_; clear hK K
 refine wpList_nil ?_
 refine nm_then ?_
 refine wp_seq ?_
 refine wp_region_lit ?_
 refine lq T (rn_move rfl (T.ev 1 rfl)) ?_; clear T ac; intro ac T
 refine l_w rfl ?_; intro K hK
 refine ow_call (first := []) (cap := []) T rfl rfl rfl rfl evf (.cons (T.ev 0 rfl) (.cons evc (.cons evc .nil))) Try.func19 rfl rfl ?_
 refine Calls.mono (within_pot _ bp 1 6 _ (by omega) (by omega) (by omega) (M.nth 1 rfl) hs) ?_
 clear T
 rintro e wc ⟨xu1, su1, hxu1, hsu1, rfl, hgr, hbk⟩
 intro ac T
 replace M := M.callC (cs' := [.int .u64 su1]) (.tail .head) hgr hbk
 clear hgr hbk
 refine sh_out hK _ _ ?_; clear hK K
 refine lq T (rn_move rfl (T.ev 3 rfl)) ?_; clear T ac; intro ac T
 refine lq T (rn_move rfl (T.ev 4 rfl)) ?_; clear T ac; intro ac T
 refine l_w rfl ?_; intro K hK
 refine ow_call (first := []) (cap := []) T rfl rfl rfl rfl evf (.cons (T.ev 0 rfl) (.cons evc .nil)) Try.func39 rfl rfl ?_
 refine Calls.mono (upto_any _ bp 3 _ (by omega) (by omega) (M.nth 1 rfl) hsu1) ?_
 clear T
 rintro e wc ⟨xu2, su2, hxu2, hsu2, rfl, hgr, hbk⟩
 intro ac T
 replace M := M.callC (cs' := [.int .u64 su2]) (.tail .head) hgr hbk
 clear hgr hbk
 refine sh_out hK _ _ ?_; clear hK K
 refine l_w rfl ?_; intro K hK
 refine ow_bs (e := 3) [.int .i64 0, .int .i64 1, .int .i64 xu2] M T rfl rfl rfl rfl (.cons evc (.cons evc (.cons (T.ev 0 rfl) .nil))) (fun _ => by kernel_rfl) ?_; clear M T; intro g2 wc ac M T
 refine sh_out hK _ _ ?_; clear hK K
 refine l_w rfl ?_; intro K hK
 refine ow_call (first := []) (cap := []) T rfl rfl rfl rfl evf (.cons (T.ev 3 rfl) (.cons (T.ev 0 rfl) .nil)) Try.func64 rfl rfl ?_
 refine Calls.mono (of_any _ bp _ 3 3 [0, 1, xu2] _ (M.rdOwn (nthE_mem (i := 0) rfl) rfl rfl) (M.nee 0 2 rfl rfl rfl) (by decide) (by decide) (M.nth 2 rfl) hsu2) ?_
 clear T
 rintro e wc ⟨xu3, su3, hxu3, hsu3, rfl, hgr, hbk⟩
 intro ac T
 replace M := M.callC (cs' := [.int .u64 su3]) (.tail (.tail .head)) hgr hbk
 clear hgr hbk
 simp only [List.mem_cons, List.not_mem_nil, or_false] at hxu3
 refine sh_out hK _ _ ?_; clear hK K
 refine lq (v := (.agg #[.int .i64 0, .int .i64 0, .int .i64 0, .int .i64 0, .int .i64 0, .int .i64 0, .int .i64 0, .int .i64 0, .int .i64 0, .int .i64 0, .int .i64 0, .int .i64 0, .int .i64 0, .int .i64 0, .int .i64 0, .slice none 0 0, .int .i64 xu1, .int .i64 xu3])) T (rn_build rfl (.cons (T.ev 5 rfl) (.cons (T.ev 0 rfl) .nil)) (fun _ => by kernel_rfl)) ?_; clear T ac; intro ac T
 refine l_w rfl ?_; intro K hK
 refine ow_al M T rfl rfl rfl rfl ?_; clear M T; intro g3 wc ac M T
 refine sh_out hK _ _ ?_; clear hK K
 refine l_w rfl ?_; intro K hK
 refine ow_stO M T rfl rfl (T.ev 0 rfl) (T.ev 1 rfl) rfl .head rfl (by simp) rfl (by kernel_rfl) ?_; clear M T; intro wc ac M T
 refine sh_out hK _ _ ?_; clear hK K
 refine wpList_nil ?_
 replace T := T.pick [0, 9, 10, 11, 12] rfl
 replace M := M.mask [true, false, true, true] rfl
 refine nm_then ?_
 refine wp_seq ?_
 refine wp_region_lit ?_
 refine lq T (rn_move rfl (T.ev 2 rfl)) ?_; clear T ac; intro ac T
 refine l_w rfl ?_; intro K hK
 refine ow_call (first := []) (cap := []) T rfl rfl rfl rfl evf (.cons (T.ev 0 rfl) (.cons evc (.cons evc .nil))) Try.func19 rfl rfl ?_
 refine Calls.mono (within_pot _ bp (-16) 16 _ (by omega) (by omega) (by omega) (M.nth 2 rfl) hsu3) ?_
 clear T
 rintro e wc ⟨xu4, su4, hxu4, hsu4, rfl, hgr, hbk⟩
 intro ac T
 replace M := M.callC (cs' := [.int .u64 su4]) (.tail (.tail .head)) hgr hbk
 clear hgr hbk
 refine sh_out hK _ _ ?_; clear hK K
 refine lq T (rn_assign rfl (T.ev 0 rfl)) ?_; clear T ac; intro ac T
 refine wpList_nil ?_
 replace T := T.pick [0, 3, 4, 5, 6, 7] rfl
 refine nm_then ?_
 refine wp_seq ?_
 refine wp_region_lit ?_
 refine lq T (rn_move rfl (T.ev 3 rfl)) ?_; clear T ac; intro ac T
 refine lq T (rn_move rfl (T.ev 1 rfl)) ?_; clear T ac; intro ac T
 refine lq T (rn_move rfl (T.ev 6 rfl)) ?_; clear T ac; intro ac T
 refine l_w rfl ?_; intro K hK
 refine ow_call (first := []) (cap := []) T rfl rfl rfl rfl evf (.cons (T.ev 2 rfl) (.cons (T.ev 1 rfl) (.cons evc (.cons evc (.cons (T.ev 0 rfl) .nil))))) Try.func63 rfl rfl ?_
 refine Calls.mono (near_pot _ bp xu4 (-60) 60 wd _ (by omega) (by omega) (by omega) (by omega) (by omega) (by omega) (M.nth 2 rfl) hsu4) ?_
 clear T
 rintro e wc ⟨xu5, yu5, su5, hxu5, hsu5, rfl, hgr, hbk⟩
 intro ac T
 replace M := M.callC (cs' := [.int .u64 su5]) (.tail (.tail .head)) hgr hbk
 clear hgr hbk
 refine sh_out hK _ _ ?_; clear hK K
 refine lq (v := (.pointer (some ⟨g3, 0, none⟩))) T (rn_fieldAddr (off := 0) rfl (T.ev 5 rfl) (fun _ _ _ => by kernel_rfl)) ?_; clear T ac; intro ac T
 refine lq (v := (.pointer (some ⟨g3, 0, none⟩))) T (rn_fieldAddr (off := 0) rfl (T.ev 0 rfl) (fun _ _ _ => by kernel_rfl)) ?_; clear T ac; intro ac T
 refine l_w rfl ?_; intro K hK
 refine ow_stO M T rfl rfl (T.ev 0 rfl) (T.ev 2 rfl) rfl .head rfl (by simp) rfl (by kernel_rfl) ?_; clear M T; intro wc ac M T
 refine sh_out hK _ _ ?_; clear hK K
 refine wpList_nil ?_
 replace T := T.pick [7, 8, 9, 11] rfl
 refine nm_then ?_
 refine wp_seq ?_
 refine wp_region_lit ?_
 refine lq T (rn_move rfl (T.ev 2 rfl)) ?_; clear T ac; intro ac T
 refine lq T (rn_move rfl (T.ev 3 rfl)) ?_; clear T ac; intro ac T
 refine l_w rfl ?_; intro K hK
 refine ow_call (first := []) (cap := []) T rfl rfl rfl rfl evf (.cons (T.ev 0 rfl) (.cons evc (.cons evc .nil))) Try.func19 rfl rfl ?_
 refine Calls.mono (within_pot _ bp 20 40 _ (by omega) (by omega) (by omega) (M.nth 2 rfl) hsu5) ?_
 clear T
 rintro e wc ⟨xu6, su6, hxu6, hsu6, rfl, hgr, hbk⟩
 intro ac T
 replace M := M.callC (cs' := [.int .u64 su6]) (.tail (.tail .head)) hgr hbk
 clear hgr hbk
 refine sh_out hK _ _ ?_; clear hK K
 refine l_w rfl ?_; intro K hK
 refine ow_call (first := []) (cap := []) T rfl rfl rfl rfl evf (.cons (T.ev 2 rfl) (.cons (T.ev 0 rfl) (.cons evc (.cons evc (.cons evc .nil))))) Try.func63 rfl rfl ?_
 refine Calls.mono (near_pot _ bp xu6 0 100 2 _ (by omega) (by omega) (by omega) (by omega) (by omega) (by omega) (M.nth 2 rfl) hsu6) ?_
 clear T
 rintro e wc ⟨xu7, yu7, su7, hxu7, hsu7, rfl, hgr, hbk⟩
 intro ac T
 replace M := M.callC (cs' := [.int .u64 su7]) (.tail (.tail .head)) hgr hbk
 clear hgr hbk
 refine sh_out hK _ _ ?_; clear hK K
 refine lq T (rn_move rfl (T.ev 6 rfl)) ?_; clear T ac; intro ac T
 refine lq T (rn_move rfl (T.ev 7 rfl)) ?_; clear T ac; intro ac T
 refine l_w rfl ?_; intro K hK
 refine ow_call (first := []) (cap := []) T rfl rfl rfl rfl evf (.cons (T.ev 0 rfl) (.cons evc (.cons evc .nil))) Try.func19 rfl rfl ?_
 refine Calls.mono (within_pot _ bp 20 40 _ (by omega) (by omega) (by omega) (M.nth 2 rfl) hsu7) ?_
 clear T
 rintro e wc ⟨xu8, su8, hxu8, hsu8, rfl, hgr, hbk⟩
 intro ac T
 replace M := M.callC (cs' := [.int .u64 su8]) (.tail (.tail .head)) hgr hbk
 clear hgr hbk
 refine sh_out hK _ _ ?_; clear hK K
 refine l_w rfl ?_; intro K hK
 refine ow_call (first := []) (cap := []) T rfl rfl rfl rfl evf (.cons (T.ev 2 rfl) (.cons (T.ev 0 rfl) (.cons evc (.cons evc (.cons evc .nil))))) Try.func63 rfl rfl ?_
 refine Calls.mono (near_pot _ bp xu8 0 100 2 _ (by omega) (by omega) (by omega) (by omega) (by omega) (by omega) (M.nth 2 rfl) hsu8) ?_
 clear T
 rintro e wc ⟨xu9, yu9, su9, hxu9, hsu9, rfl, hgr, hbk⟩
 intro ac T
 replace M := M.callC (cs' := [.int .u64 su9]) (.tail (.tail .head)) hgr hbk
 clear hgr hbk
 refine sh_out hK _ _ ?_; clear hK K
 refine lq (v := (.pointer (some ⟨g3, 0, none⟩))) T (rn_fieldAddr (off := 0) rfl (T.ev 8 rfl) (fun _ _ _ => by kernel_rfl)) ?_; clear T ac; intro ac T
 refine lq (v := (.pointer (some ⟨g3, 2, none⟩))) T (rn_fieldAddr (off := 2) rfl (T.ev 0 rfl) (fun _ _ _ => by kernel_rfl)) ?_; clear T ac; intro ac T
 refine l_w rfl ?_; intro K hK
 refine ow_stO M T rfl rfl (T.ev 0 rfl) (T.ev 6 rfl) rfl .head rfl (by simp) rfl (by kernel_rfl) ?_; clear M T; intro wc ac M T
 refine sh_out hK _ _ ?_; clear hK K
 refine lq (v := (.pointer (some ⟨g3, 0, none⟩))) T (rn_fieldAddr (off := 0) rfl (T.ev 10 rfl) (fun _ _ _ => by kernel_rfl)) ?_; clear T ac; intro ac T
 refine lq (v := (.pointer (some ⟨g3, 4, none⟩))) T (rn_fieldAddr (off := 4) rfl (T.ev 0 rfl) (fun _ _ _ => by kernel_rfl)) ?_; clear T ac; intro ac T
 refine l_w rfl ?_; intro K hK
 refine ow_stO M T rfl rfl (T.ev 0 rfl) (T.ev 4 rfl) rfl .head rfl (by simp) rfl (by kernel_rfl) ?_; clear M T; intro wc ac M T
 refine sh_out hK _ _ ?_; clear hK K
 refine wpList_nil ?_
 replace T := T.pick [12, 13, 14, 15] rfl
 refine nm_then ?_
 refine wp_seq ?_
 refine wp_region_lit ?_
 refine lq T (rn_move rfl (T.ev 2 rfl)) ?_; clear T ac; intro ac T
 refine lq T (rn_move rfl (T.ev 3 rfl)) ?_; clear T ac; intro ac T
 refine l_w rfl ?_; intro K hK
 refine ow_call (first := []) (cap := []) T rfl rfl rfl rfl evf (.cons (T.ev 0 rfl) (.cons evc (.cons evc .nil))) Try.func19 rfl rfl ?_
 refine Calls.mono (within_pot _ bp 1 6 _ (by omega) (by omega) (by omega) (M.nth 2 rfl) hsu9) ?_
 clear T
 rintro e wc ⟨xu10, su10, hxu10, hsu10, rfl, hgr, hbk⟩
 intro ac T
 replace M := M.callC (cs' := [.int .u64 su10]) (.tail (.tail .head)) hgr hbk
 clear hgr hbk
 refine sh_out hK _ _ ?_; clear hK K
 refine lq T (rn_move rfl (T.ev 6 rfl)) ?_; clear T ac; intro ac T
 refine l_w rfl ?_; intro K hK
 refine ow_call (first := []) (cap := []) T rfl rfl rfl rfl evf (.cons (T.ev 3 rfl) (.cons (T.ev 1 rfl) (.cons evc (.cons evc (.cons (T.ev 0 rfl) .nil))))) Try.func63 rfl rfl ?_
 refine Calls.mono (near_pot _ bp xu10 0 12 ls _ (by omega) (by omega) (by omega) (by omega) (by omega) (by omega) (M.nth 2 rfl) hsu10) ?_
 clear T
 rintro e wc ⟨xu11, yu11, su11, hxu11, hsu11, rfl, hgr, hbk⟩
 intro ac T
 replace M := M.callC (cs' := [.int .u64 su11]) (.tail (.tail .head)) hgr hbk
 clear hgr hbk
 refine sh_out hK _ _ ?_; clear hK K
 refine lq T (rn_move rfl (T.ev 7 rfl)) ?_; clear T ac; intro ac T
 refine lq T (rn_move rfl (T.ev 8 rfl)) ?_; clear T ac; intro ac T
 refine l_w rfl ?_; intro K hK
 refine ow_call (first := []) (cap := []) T rfl rfl rfl rfl evf (.cons (T.ev 0 rfl) (.cons evc (.cons evc .nil))) Try.func19 rfl rfl ?_
 refine Calls.mono (within_pot _ bp 1 6 _ (by omega) (by omega) (by omega) (M.nth 2 rfl) hsu11) ?_
 clear T
 rintro e wc ⟨xu12, su12, hxu12, hsu12, rfl, hgr, hbk⟩
 intro ac T
 replace M := M.callC (cs' := [.int .u64 su12]) (.tail (.tail .head)) hgr hbk
 clear hgr hbk
 refine sh_out hK _ _ ?_; clear hK K
 refine lq T (rn_move rfl (T.ev 11 rfl)) ?_; clear T ac; intro ac T
 refine l_w rfl ?_; intro K hK
 refine ow_call (first := []) (cap := []) T rfl rfl rfl rfl evf (.cons (T.ev 3 rfl) (.cons (T.ev 1 rfl) (.cons evc (.cons evc (.cons (T.ev 0 rfl) .nil))))) Try.func63 rfl rfl ?_
 refine Calls.mono (near_pot _ bp xu12 0 12 ls _ (by omega) (by omega) (by omega) (by omega) (by omega) (by omega) (M.nth 2 rfl) hsu12) ?_
 clear T
 rintro e wc ⟨xu13, yu13, su13, hxu13, hsu13, rfl, hgr, hbk⟩
 intro ac T
 replace M := M.callC (cs' := [.int .u64 su13]) (.tail (.tail .head)) hgr hbk
 clear hgr hbk
 refine sh_out hK _ _ ?_; clear hK K
 refine lq (v := (.pointer (some ⟨g3, 6, none⟩))) T (rn_fieldAddr (off := 6) rfl (T.ev 10 rfl) (fun _ _ _ => by kernel_rfl)) ?_; clear T ac; intro ac T
 refine lq (v := (.pointer (some ⟨g3, 6, none⟩))) T (rn_fieldAddr (off := 0) rfl (T.ev 0 rfl) (fun _ _ _ => by kernel_rfl)) ?_; clear T ac; intro ac T
 refine l_w rfl ?_; intro K hK
 refine ow_stO M T rfl rfl (T.ev 0 rfl) (T.ev 7 rfl) rfl .head rfl (by simp) rfl (by kernel_rfl) ?_; clear M T; intro wc ac M T
 refine sh_out hK _ _ ?_; clear hK K
 refine lq (v := (.pointer (some ⟨g3, 6, none⟩))) T (rn_fieldAddr (off := 6) rfl (T.ev 12 rfl) (fun _ _ _ => by kernel_rfl)) ?_; clear T ac; intro ac T
 refine lq (v := (.pointer (some ⟨g3, 8, none⟩))) T (rn_fieldAddr (off := 2) rfl (T.ev 0 rfl) (fun _ _ _ => by kernel_rfl)) ?_; clear T ac; intro ac T
 refine l_w rfl ?_; intro K hK
 refine ow_stO M T rfl rfl (T.ev 0 rfl) (T.ev 4 rfl) rfl .head rfl (by simp) rfl (by kernel_rfl) ?_; clear M T; intro wc ac M T
 refine sh_out hK _ _ ?_; clear hK K
 refine wpList_nil ?_
 replace T := T.pick [14, 15, 16] rfl
 refine nm_then ?_
 refine wp_seq ?_
 refine wp_region_lit ?_
 refine lq T (rn_move rfl (T.ev 2 rfl)) ?_; clear T ac; intro ac T
 refine lq T (rn_move rfl (T.ev 3 rfl)) ?_; clear T ac; intro ac T
 refine l_w rfl ?_; intro K hK
 refine ow_call (first := []) (cap := []) T rfl rfl rfl rfl evf (.cons (T.ev 0 rfl) (.cons evc .nil)) Try.func39 rfl rfl ?_
 refine Calls.mono (upto_any _ bp 4 _ (by omega) (by omega) (M.nth 2 rfl) hsu13) ?_
 clear T
 rintro e wc ⟨xu14, su14, hxu14, hsu14, rfl, hgr, hbk⟩
 intro ac T
 replace M := M.callC (cs' := [.int .u64 su14]) (.tail (.tail .head)) hgr hbk
 clear hgr hbk
 refine sh_out hK _ _ ?_; clear hK K
 refine l_w rfl ?_; intro K hK
 refine ow_call (first := []) (cap := []) T rfl rfl rfl rfl evf (.cons (T.ev 2 rfl) (.cons (T.ev 0 rfl) (.cons evc (.cons evc (.cons evc .nil))))) Try.func63 rfl rfl ?_
 refine Calls.mono (near_pot _ bp xu14 0 12 1 _ (by omega) (by omega) (by omega) (by omega) (by omega) (by omega) (M.nth 2 rfl) hsu14) ?_
 clear T
 rintro e wc ⟨xu15, yu15, su15, hxu15, hsu15, rfl, hgr, hbk⟩
 intro ac T
 replace M := M.callC (cs' := [.int .u64 su15]) (.tail (.tail .head)) hgr hbk
 clear hgr hbk
 refine sh_out hK _ _ ?_; clear hK K
 refine lq T (rn_move rfl (T.ev 6 rfl)) ?_; clear T ac; intro ac T
 refine lq T (rn_move rfl (T.ev 7 rfl)) ?_; clear T ac; intro ac T
 refine l_w rfl ?_; intro K hK
 refine ow_call (first := []) (cap := []) T rfl rfl rfl rfl evf (.cons (T.ev 0 rfl) (.cons evc .nil)) Try.func39 rfl rfl ?_
 refine Calls.mono (upto_any _ bp 4 _ (by omega) (by omega) (M.nth 2 rfl) hsu15) ?_
 clear T
 rintro e wc ⟨xu16, su16, hxu16, hsu16, rfl, hgr, hbk⟩
 intro ac T
 replace M := M.callC (cs' := [.int .u64 su16]) (.tail (.tail .head)) hgr hbk
 clear hgr hbk
 refine sh_out hK _ _ ?_; clear hK K
 refine l_w rfl ?_; intro K hK
 refine ow_call (first := []) (cap := []) T rfl rfl rfl rfl evf (.cons (T.ev 2 rfl) (.cons (T.ev 0 rfl) (.cons evc (.cons evc (.cons evc .nil))))) Try.func63 rfl rfl ?_
 refine Calls.mono (near_pot _ bp xu16 0 12 1 _ (by omega) (by omega) (by omega) (by omega) (by omega) (by omega) (M.nth 2 rfl) hsu16) ?_
 clear T
 rintro e wc ⟨xu17, yu17, su17, hxu17, hsu17, rfl, hgr, hbk⟩
 intro ac T
 replace M := M.callC (cs' := [.int .u64 su17]) (.tail (.tail .head)) hgr hbk
 clear hgr hbk
 refine sh_out hK _ _ ?_; clear hK K
 refine lq (v := (.pointer (some ⟨g3, 6, none⟩))) T (rn_fieldAddr (off := 6) rfl (T.ev 8 rfl) (fun _ _ _ => by kernel_rfl)) ?_; clear T ac; intro ac T
 refine lq (v := (.pointer (some ⟨g3, 10, none⟩))) T (rn_fieldAddr (off := 4) rfl (T.ev 0 rfl) (fun _ _ _ => by kernel_rfl)) ?_; clear T ac; intro ac T
 refine l_w rfl ?_; intro K hK
 refine ow_stO M T rfl rfl (T.ev 0 rfl) (T.ev 6 rfl) rfl .head rfl (by simp) rfl (by kernel_rfl) ?_; clear M T; intro wc ac M T
 refine sh_out hK _ _ ?_; clear hK K
 refine lq (v := (.pointer (some ⟨g3, 6, none⟩))) T (rn_fieldAddr (off := 6) rfl (T.ev 10 rfl) (fun _ _ _ => by kernel_rfl)) ?_; clear T ac; intro ac T
 refine lq (v := (.pointer (some ⟨g3, 12, none⟩))) T (rn_fieldAddr (off := 6) rfl (T.ev 0 rfl) (fun _ _ _ => by kernel_rfl)) ?_; clear T ac; intro ac T
 refine l_w rfl ?_; intro K hK
 refine ow_stO M T rfl rfl (T.ev 0 rfl) (T.ev 4 rfl) rfl .head rfl (by simp) rfl (by kernel_rfl) ?_; clear M T; intro wc ac M T
 refine sh_out hK _ _ ?_; clear hK K
 refine wpList_nil ?_
 replace T := T.pick [12, 13, 14] rfl
 refine nm_then ?_
 refine wp_seq ?_
 refine wp_region_lit ?_
 refine lq T (rn_move rfl (T.ev 2 rfl)) ?_; clear T ac; intro ac T
 refine l_w rfl ?_; intro K hK
 refine ow_call (first := []) (cap := []) T rfl rfl rfl rfl evf (.cons (T.ev 0 rfl) (.cons evc (.cons evc .nil))) Try.func19 rfl rfl ?_
 refine Calls.mono (within_pot _ bp 10 30 _ (by omega) (by omega) (by omega) (M.nth 2 rfl) hsu17) ?_
 clear T
 rintro e wc ⟨xu18, su18, hxu18, hsu18, rfl, hgr, hbk⟩
 intro ac T
 replace M := M.callC (cs' := [.int .u64 su18]) (.tail (.tail .head)) hgr hbk
 clear hgr hbk
 refine sh_out hK _ _ ?_; clear hK K
 refine lq (v := (.pointer (some ⟨g3, 6, none⟩))) T (rn_fieldAddr (off := 6) rfl (T.ev 2 rfl) (fun _ _ _ => by kernel_rfl)) ?_; clear T ac; intro ac T
 refine lq (v := (.pointer (some ⟨g3, 14, none⟩))) T (rn_fieldAddr (off := 8) rfl (T.ev 0 rfl) (fun _ _ _ => by kernel_rfl)) ?_; clear T ac; intro ac T
 refine l_w rfl ?_; intro K hK
 refine ow_stO M T rfl rfl (T.ev 0 rfl) (T.ev 2 rfl) rfl .head rfl (by simp) rfl (by kernel_rfl) ?_; clear M T; intro wc ac M T
 refine sh_out hK _ _ ?_; clear hK K
 refine wpList_nil ?_
 replace T := T.pick [4, 5, 6] rfl
 refine nm_then ?_
 refine wp_seq ?_
 refine wp_seq ?_
 refine wp_region_lit ?_
 refine lq T (rn_move rfl (T.ev 2 rfl)) ?_; clear T ac; intro ac T
 refine l_w rfl ?_; intro K hK
 refine ow_call (first := []) (cap := []) T rfl rfl rfl rfl evf (.cons (T.ev 0 rfl) (.cons evc .nil)) Try.func39 rfl rfl ?_
 refine Calls.mono (upto_any _ bp 3 _ (by omega) (by omega) (M.nth 2 rfl) hsu18) ?_
 clear T
 rintro e wc ⟨xu19, su19, hxu19, hsu19, rfl, hgr, hbk⟩
 intro ac T
 replace M := M.callC (cs' := [.int .u64 su19]) (.tail (.tail .head)) hgr hbk
 clear hgr hbk
 refine sh_out hK _ _ ?_; clear hK K
 refine lq T (rn_assign rfl (T.ev 0 rfl)) ?_; clear T ac; intro ac T
 refine wpList_nil ?_
 replace T := T.pick [0, 3, 4, 5] rfl
 refine nm_then ?_
 refine wp_block ?_
 obtain ⟨j, M, hsh, hj⟩ : ∃ j : Jb, Mem w (fun b => b = bp) wc [(g3, .cells [.int .i64 j.p0, .int .i64 j.p1, .int .i64 j.t0, .int .i64 j.t1, .int .i64 j.r0, .int .i64 j.r1, .int .i64 j.u0, .int .i64 j.u1, .int .i64 j.d0, .int .i64 j.d1, .int .i64 j.a0, .int .i64 j.a1, .int .i64 j.b0, .int .i64 j.b1, .int .i64 j.le, .slice none 0 0, .int .i64 j.wi, .int .i64 j.me]), (g1, .cells [.int .i64 0, .int .i64 0, .int .i64 0, .int .i64 0, .int .i64 0, .int .i64 0, .int .i64 0, .int .i64 0, .int .i64 0, .int .i64 0, .int .i64 0, .int .i64 0, .int .i64 0, .int .i64 0, .int .i64 0, .slice none 0 0, .int .i64 0, .int .i64 0]), (bp, .cells [.int .u64 su19])] ∧ j.sh = [] ∧ j.made wd ls :=
   ⟨⟨xu5, yu5, xu7, yu7, xu9, yu9, xu11, yu11, xu13, yu13, xu15, yu15, xu17, yu17, xu18, [], xu1, xu3⟩, M.perm [0, 1, 2] rfl rfl, rfl, ⟨by dsimp only; omega, by dsimp only; omega, by dsimp only; omega, by dsimp only; omega, by dsimp only; omega, by dsimp only; omega, by dsimp only; omega, by dsimp only; omega, by simp, by simp, by dsimp only; omega, by dsimp only; omega⟩⟩
 refine wp_loop_n (fun mz ac wc => ∃ (i : Int) (sh : List (Int × Int)) (A : Option Addr) (c : Nat) (s : Int) (I : List (Nat × BA)), mz = i.toNat ∧ (0 ≤ i) ∧ ((sh.length : Int) + i ≤ 3) ∧ (∀ q ∈ sh, -5 ≤ q.1 ∧ q.1 ≤ q.2 ∧ q.2 ≤ 5) ∧ (u64ok s) ∧ (Sl 40 2 (.slice A sh.length c) sh.length (rc sh) I) ∧ Tm ac 84 [(0, .pointer (some ⟨bp, 0, none⟩)), (6, .pointer (some ⟨g1, 0, none⟩)), (7, .pointer (some ⟨g3, 0, none⟩)), (9, .int .i64 i)] ∧ Mem w (fun b => b = bp) wc ((g3, .cells [.int .i64 j.p0, .int .i64 j.p1, .int .i64 j.t0, .int .i64 j.t1, .int .i64 j.r0, .int .i64 j.r1, .int .i64 j.u0, .int .i64 j.u1, .int .i64 j.d0, .int .i64 j.d1, .int .i64 j.a0, .int .i64 j.a1, .int .i64 j.b0, .int .i64 j.b1, .int .i64 j.le, .slice A sh.length c, .int .i64 j.wi, .int .i64 j.me]) :: (g1, .cells [.int .i64 0, .int .i64 0, .int .i64 0, .int .i64 0, .int .i64 0, .int .i64 0, .int .i64 0, .int .i64 0, .int .i64 0, .int .i64 0, .int .i64 0, .int .i64 0, .int .i64 0, .int .i64 0, .int .i64 0, .slice none 0 0, .int .i64 0, .int .i64 0]) :: (bp, .cells [.int .u64 s]) :: I)) ?_ ?_
 ·exact ⟨_, _, [], none, 0, _, [], rfl, (by omega), (by simp; omega), (fun q hq => by cases hq), hsu19, (Sl.nil _ _), T.pick [3, 2, 1, 0] rfl, M.mask [true, true, true] rfl⟩
 clear T M
 rintro mz ac wc ⟨i, sh, A, c, s, I, hmm1, hi, hlen, hq, hs, hsl, T, M⟩
 refine wp_seq ?_
 refine wp_seq ?_
 refine wp_region_lit ?_
 refine lq T (rn_move rfl (T.ev 3 rfl)) ?_; clear T ac; intro ac T
 refine lq T (rn_gtr rfl (T.ev 0 rfl) evc) ?_; clear T ac; intro ac T
 refine wpList_nil ?_
 replace T := T.pick [0, 2, 3, 4, 5] rfl
 refine nm_then ?_
 refine wp_if (T.ev 0 rfl) ?_ ?_
 ·intro h1
  refine wp_skip ?_
  refine nm_then ?_
  refine wp_seq ?_
  refine wp_block ?_
  refine g_start2 M (M.perm [1] rfl rfl) 10 (by kernel_rfl) rfl (by kernel_rfl) ?_
  clear M; intro wc M
  refine g_addG 4 M ?_
  refine g_addG 9 (M.perm [0, 1] rfl rfl) ?_
  refine gq (v := (.pointer (some ⟨g3, 15, none⟩))) T 0 1 rfl (fun _ _ _ _ _ => (rn_fieldAddr (off := 15) rfl (T.ev 3 rfl) (fun _ _ _ => by kernel_rfl))) ?_; clear T ac; intro ac T
  refine gq T 1 3 rfl (fun B w' hD hl hS => (rn_one (Mem.nth (show Mem w (fun b => b = bp) w' _ from ((MA.lft hS) (hD.wait (i := 1) (m := 9) (by kernel_rfl) hl))) 0 rfl) rfl (T.ev 0 rfl) rfl)) ?_; clear T ac; intro ac T
  refine gq T 2 7 rfl (fun _ _ _ _ _ => (rn_move rfl (T.ev 3 rfl))) ?_; clear T ac; intro ac T
  refine gq T 3 15 rfl (fun _ _ _ _ _ => (rn_move rfl (T.ev 4 rfl))) ?_; clear T ac; intro ac T
  refine gw 4 31 ?_; intro K hK
  refine ow_call (first := []) (cap := []) T rfl rfl rfl rfl evf (.cons (T.ev 0 rfl) (.cons evc (.cons evc .nil))) Try.func19 rfl rfl ?_
  refine Calls.mono (within_pot _ bp (-3) 3 _ (by omega) (by omega) (by omega) (M.nth 2 rfl) hs) ?_
  clear T
  rintro e wc ⟨xu20, su20, hxu20, hsu20, rfl, hgr, hbk⟩
  intro ac T
  replace M := M.callC (cs' := [.int .u64 su20]) (.tail (.tail .head)) hgr hbk
  clear hgr hbk
  refine sh_out hK _ _ (MA.mk (fun _ => M.perm [0, 1] rfl rfl) (MA.mk (fun h => (no_of (by kernel_rfl) h).elim) (M.perm [1] rfl rfl))) ?_; clear hK K
  refine gw 5 63 ?_; intro K hK
  refine ow_call (first := []) (cap := []) T rfl rfl rfl rfl evf (.cons (T.ev 2 rfl) (.cons (T.ev 0 rfl) (.cons evc (.cons evc (.cons evc .nil))))) Try.func63 rfl rfl ?_
  refine Calls.mono (near_pot _ bp xu20 (-60) 60 2 _ (by omega) (by omega) (by omega) (by omega) (by omega) (by omega) (M.nth 2 rfl) hsu20) ?_
  clear T
  rintro e wc ⟨xu21, yu21, su21, hxu21, hsu21, rfl, hgr, hbk⟩
  intro ac T
  replace M := M.callC (cs' := [.int .u64 su21]) (.tail (.tail .head)) hgr hbk
  clear hgr hbk
  refine sh_out hK _ _ (MA.mk (fun _ => M.perm [0, 1] rfl rfl) (MA.mk (fun h => (no_of (by kernel_rfl) h).elim) (M.perm [1] rfl rfl))) ?_; clear hK K
  refine gw 6 127 ?_; intro K hK
  refine ow_bs (e := 40) [.int .i64 xu21, .int .i64 yu21] M T rfl rfl rfl rfl (.cons (T.ev 0 rfl) .nil) (fun _ => by kernel_rfl) ?_; clear M T; intro g4 wc ac M T
  refine sh_out hK _ _ (MA.mk (fun _ => M.perm [1, 2] rfl rfl) (MA.mk (fun h => (no_of (by kernel_rfl) h).elim) (M.perm [2] rfl rfl))) ?_; clear hK K
  refine gw 7 255 ?_; intro K hK
  refine ow_app ([(g4, .cells [.int .i64 xu21, .int .i64 yu21]), (g3, .cells [.int .i64 j.p0, .int .i64 j.p1, .int .i64 j.t0, .int .i64 j.t1, .int .i64 j.r0, .int .i64 j.r1, .int .i64 j.u0, .int .i64 j.u1, .int .i64 j.d0, .int .i64 j.d1, .int .i64 j.a0, .int .i64 j.a1, .int .i64 j.b0, .int .i64 j.b1, .int .i64 j.le, .slice A sh.length c, .int .i64 j.wi, .int .i64 j.me]), (g1, .cells [.int .i64 0, .int .i64 0, .int .i64 0, .int .i64 0, .int .i64 0, .int .i64 0, .int .i64 0, .int .i64 0, .int .i64 0, .int .i64 0, .int .i64 0, .int .i64 0, .int .i64 0, .int .i64 0, .int .i64 0, .slice none 0 0, .int .i64 0, .int .i64 0]), (bp, .cells [.int .u64 su21])]) Try.info40 hsl M (by first | rfl | simp) T rfl rfl rfl rfl Try.underlying50 rfl rfl rfl (by omega) (T.ev 5 rfl) (T.ev 0 rfl) (nthE_mem (i := 0) rfl) rfl rfl ?_; clear M T; intro ga1 cga1 wc ac M T
  refine sh_out hK _ _ (MA.mk (fun _ => M.mask [false, false, true, true, false] rfl) (MA.mk (fun h => (no_of (by kernel_rfl) h).elim) (M.mask [false, false, false, true, false] rfl))) ?_; clear hK K
  refine gq (v := (.pointer (some ⟨g3, 15, none⟩))) T 8 511 rfl (fun _ _ _ _ _ => (rn_fieldAddr (off := 15) rfl (T.ev 11 rfl) (fun _ _ _ => by kernel_rfl))) ?_; clear T ac; intro ac T
  refine gw 9 1023 ?_; intro K hK
  refine ow_stO M T rfl rfl (T.ev 0 rfl) (T.ev 1 rfl) rfl (.tail (.tail .head)) rfl (by simp) rfl (by kernel_rfl) ?_; clear M T; intro wc ac M T
  refine sh_out hK _ _ (MA.mk (fun h => (no_of (by kernel_rfl) h).elim) (MA.mk (fun h => (no_of (by kernel_rfl) h).elim) (M.mask [false, false, false, true, false] rfl))) ?_; clear hK K
  refine g_done (by kernel_rfl) ?_
  replace T := T.pick [10, 11, 12, 13] rfl
  replace M := M.mask [true, false, true, true, true] rfl
  refine nm_blk ?_
  refine nm_then ?_
  refine wp_region_lit ?_
  refine lq T (rn_move rfl (T.ev 3 rfl)) ?_; clear T ac; intro ac T
  refine lq T (rn_sub rfl (T.ev 0 rfl) evc (by omega)) ?_; clear T ac; intro ac T
  refine l_q (v := (.int .i64 (i - 1))) (T.pick [0, 1, 2, 3, 4] rfl) rfl rfl rfl rfl (rn_assign rfl (T.ev 0 rfl)) ?_; clear T ac; intro ac T
  refine wpList_nil ?_
  replace T := T.pick [0, 3, 4, 5] rfl
  refine nm_then ?_
  exact ⟨_, by omega, (i - 1), (sh ++ [(xu21, yu21)]), some ⟨ga1, 0, none⟩, cga1, su21, [(ga1, .row 40 2 (sh.length + 1) ((rc sh) ++ [.int .i64 xu21, .int .i64 yu21]) cga1)], rfl, (by omega), (by simp only [List.length_append, List.length_cons, List.length_nil]; omega), (fun q hq' => by rcases List.mem_append.1 hq' with h9 | h9; exact hq q h9; simp only [List.mem_cons, List.not_mem_nil, or_false] at h9; subst h9; dsimp only; omega), hsu21, (by rw [← rc_snoc, List.length_append]; exact Sl.row _ _ _ _ _ _), T.pick [1, 2, 3, 0] rfl, (by rw [List.length_append]; exact M.perm [1, 2, 3, 0] rfl rfl)⟩
 intro h1
 refine wp_exit ?_
 refine ex_then ?_
 refine ex_then ?_
 refine ex_hit ?_
 refine nm_then ?_
 refine wp_seq ?_
 refine wp_region_lit ?_
 refine lq T (rn_rowO (Mem.nth M 0 rfl) rfl (T.ev 3 rfl) rfl) ?_; clear T ac; intro ac T
 refine l_w rfl ?_; intro K hK
 refine ow_stO M T rfl rfl (T.ev 3 rfl) (T.ev 0 rfl) rfl (.tail .head) rfl (by simp) rfl (by kernel_rfl) ?_; clear M T; intro wc ac M T
 refine sh_out hK _ _ ?_; clear hK K
 refine wpList_nil ?_
 replace T := T.pick [3] rfl
 replace M := M.mask [false, true, true] rfl
 refine nm_then ?_
 refine wp_ret ?_
 refine rt_c M T rfl (T.ev 0 rfl) (nthE_mem (i := 0) rfl) rfl ?_
 exact ⟨{ j with sh := sh }, A, c, _, I, rfl, ⟨hj.p, hj.t, hj.r, hj.u, hj.d, hj.a, hj.b, hj.le, by dsimp only; omega, hq, hj.wi, hj.me⟩, hs, hsl, Mem.swapI (I := [(bp, .cells [.int .u64 s])]) (L := I) (M.mask [false, true] rfl)⟩
end Go.Proofs.Ytlahdenlmmlplaa
end

section
/-
 voice: laws, sounds, beats, and what keeps a law.
-/
namespace Go.Proofs.Ytlahdenlmmlplaa
set_option linter.unusedSimpArgs false
set_option linter.unusedVariables false
open Go.RowKit
structure Lw where
 first : Int
 step : Int
 span : Int
 press : Int
structure Snd where
 t0 : Int
 t1 : Int
 s0 : Int
 s1 : Int
def sndC (x : Snd) : List Value := [.int .i64 x.t0, .int .i64 x.t1, .int .i64 x.s0, .int .i64 x.s1]
def sc (l : List Snd) : List Value := l.flatMap sndC
theorem sc_length (l : List Snd) : (sc l).length = l.length * 4 := by
 induction l with
 | nil => rfl
 | cons x l ih =>
   show (sndC x ++ sc l).length = _
   rw [List.length_append, ih, List.length_cons]
   show 4 + _ = _
   omega
theorem sc_get : ∀ (l : List Snd) (k : Nat) {x : Snd}, l[k]? = some x → ∀ (i : Nat) (v : Value), (sndC x)[i]? = some v → (sc l)[k * 4 + i]? = some v
 | [], k, x, h => by simp at h
 | y :: l, 0, x, h => by
   intro i v hv
   simp only [List.getElem?_cons_zero, Option.some.injEq] at h
   subst h
   show (sndC y ++ sc l)[0 * 4 + i]? = some v
   rw [Nat.zero_mul, Nat.zero_add, List.getElem?_append_left (List.getElem?_eq_some_iff.1 hv).1]
   exact hv
 | y :: l, k + 1, x, h => by
   intro i v hv
   have := sc_get l k (by simpa using h) i v hv
   show (sndC y ++ sc l)[(k + 1) * 4 + i]? = some v
   have e : (sndC y).length = 4 := rfl
   rw [List.getElem?_append_right (by rw [e]; omega), e, show (k + 1) * 4 + i - 4 = k * 4 + i by omega]
   exact this
theorem sc_snoc (l : List Snd) (x : Snd) : sc l ++ [.int .i64 x.t0, .int .i64 x.t1, .int .i64 x.s0, .int .i64 x.s1] = sc (l ++ [x]) := by simp [sc, sndC]
theorem sc_next {l : List Snd} {k : Nat} (h : k < l.length) : ∃ x, l[k]? = some x ∧ l.drop k = x :: l.drop (k + 1) := ⟨l[k], List.getElem?_eq_getElem h, List.drop_eq_getElem_cons h⟩
theorem Rd.len4 {w : World} {B n : Nat} {A : Option Addr} {l : List Snd} (h : Rd w B 4 A n (sc l)) : l.length = n := by
 have h1 := h.1
 rw [sc_length] at h1
 omega
section
variable {w w' : World} {ex : Nat → Prop} {I L : List (Nat × BA)} {n b o k : Nat} {A : Option Addr} {l : List Snd} {x : Snd}
theorem Sp.scA (S : Sp w ex I A n 4 b o (sc l)) (M : Mem w ex w' L) (hI : I.Sublist L) (h : l[k]? = some x) (f : Nat) (v : Value) (hv : (sndC x)[f]? = some v) : w'.cell? ⟨b, o + k * 4 + f, none⟩ = some v := by
 have := S.cell w' L M hI _ _ (sc_get l k h f v hv)
 rwa [← Nat.add_assoc] at this
theorem Sp.scR4 (S : Sp w ex I A n 4 b o (sc l)) (M : Mem w ex w' L) (hI : I.Sublist L) (h : l[k]? = some x) : w'.rangeAt b (o + k * 4) [.int .i64 x.t0, .int .i64 x.t1, .int .i64 x.s0, .int .i64 x.s1] := fun j v hv => S.scA M hI h j v hv
theorem Sp.scR02 (S : Sp w ex I A n 4 b o (sc l)) (M : Mem w ex w' L) (hI : I.Sublist L) (h : l[k]? = some x) : w'.rangeAt b (o + k * 4 + 0) [.int .i64 x.t0, .int .i64 x.t1] := fun j v hv => by
 match j, hv with
 | 0, hv => exact S.scA M hI h 0 v hv
 | 1, hv => exact S.scA M hI h 1 v hv
theorem rn_index {P : Program} {op : Oper} {a : Act} {s : TypeId} {x y : Operand} {u i v : Value} (ho : op.op = .index s x y) (hx : a.eval x = u) (hy : a.eval y = i) (hr : ∀ w : World, (Instr.index s u i).run P w = .ok v w) : Runs P op a v w := by
 unfold Runs execOp
 simp only [ho, hx, hy, hr, Sem.run_bind, Result.andThen_ok, Sem.run_pure]
end
theorem mulB {a b : Int} (h : -1000 ≤ a ∧ a ≤ 1000) (k : -1000 ≤ b ∧ b ≤ 1000) : -1000000 ≤ a * b ∧ a * b ≤ 1000000 := by
 have h1 : a.natAbs ≤ 1000 := by omega
 have h2 : b.natAbs ≤ 1000 := by omega
 have h3 : (a * b).natAbs ≤ 1000000 := by rw [Int.natAbs_mul]; exact Nat.mul_le_mul h1 h2
 omega
def lawE (l : Lw) : Int := if (withinB l.first 0 30 && withinB l.step (-5) 5 && withinB l.span 0 20 && withinB l.press 0 3) = true then 0 else 1
def sndE (x : Snd) : Int := if chkR x.t0 x.t1 (-30) 30 = 0 then chkR x.s0 x.s1 (-3) 3 else chkR x.t0 x.t1 (-30) 30
def sndsL : List Snd → Int
 | [] => 0
 | x :: l => if sndE x = 0 then sndsL l else sndE x
def sndsE (l : List Snd) (most : Int) : Int := if most < l.length then 6 else sndsL l
structure Snd.good (x : Snd) : Prop where
 t : -30 ≤ x.t0 ∧ x.t0 ≤ x.t1 ∧ x.t1 ≤ 30
 s : -3 ≤ x.s0 ∧ x.s0 ≤ x.s1 ∧ x.s1 ≤ 3
structure Lw.good (l : Lw) : Prop where
 first : 0 ≤ l.first ∧ l.first ≤ 30
 step : -5 ≤ l.step ∧ l.step ≤ 5
 span : 0 ≤ l.span ∧ l.span ≤ 20
 press : 0 ≤ l.press ∧ l.press ≤ 3
theorem lawE_good {l : Lw} (h : lawE l = 0) : l.good := by
 unfold lawE at h
 split at h
 · rename_i h1
   simp only [Bool.and_eq_true, withinB, decide_eq_true_eq] at h1
   exact ⟨by omega, by omega, by omega, by omega⟩
 · omega
theorem good_lawE {l : Lw} (h : l.good) : lawE l = 0 := by
 obtain ⟨h1, h2, h3, h4⟩ := h
 unfold lawE
 rw [if_pos]
 simp only [Bool.and_eq_true, withinB, decide_eq_true_eq]
 omega
theorem chkR_good {a b lo hi : Int} : chkR a b lo hi = 0 ↔ (lo ≤ a ∧ a ≤ hi) ∧ (lo ≤ b ∧ b ≤ hi) ∧ a ≤ b := by
 unfold chkR
 simp only [withinB, decide_eq_true_eq]
 split
 · split <;> constructor <;> intro h <;> omega
 · constructor <;> intro h <;> omega
theorem sndE_good {x : Snd} : sndE x = 0 ↔ x.good := by
 unfold sndE
 constructor
 · intro h
   split at h
   · rename_i h1
     have h2 := chkR_good.1 h1
     have h3 := chkR_good.1 h
     exact ⟨by omega, by omega⟩
   · contradiction
 · rintro ⟨h1, h2⟩
   rw [if_pos (chkR_good.2 (by omega))]
   exact chkR_good.2 (by omega)
theorem sndsL_good : ∀ {l : List Snd}, sndsL l = 0 ↔ ∀ x ∈ l, x.good
 | [] => by simp [sndsL]
 | x :: l => by
   have ih := sndsL_good (l := l)
   unfold sndsL
   split
   · rename_i h
     rw [ih]
     simp [sndE_good.1 h]
   · rename_i h
     constructor
     · intro h2; exact absurd h2 h
     · intro h2; exact absurd (sndE_good.2 (h2 x List.mem_cons_self)) h
theorem sndsE_good {l : List Snd} {most : Int} (h : sndsE l most = 0) : (l.length : Int) ≤ most ∧ ∀ x ∈ l, x.good := by
 unfold sndsE at h
 split at h
 · omega
 · exact ⟨by omega, sndsL_good.1 h⟩
theorem good_sndsE {l : List Snd} {most : Int} (h : (l.length : Int) ≤ most) (h2 : ∀ x ∈ l, x.good) : sndsE l most = 0 := by
 unfold sndsE
 rw [if_neg (by omega)]
 exact sndsL_good.2 h2
def riseP (lo hi : Snd) (p : Int) : Int × Int := (p * hi.s0 - (lo.t1 + p * lo.s1), p * hi.s1 - (lo.t0 + p * lo.s0))
def beatP (lo hi : Snd) (p : Int) : Int × Int := (hi.t0 + (riseP lo hi p).1, hi.t1 + (riseP lo hi p).2)
def beatsL (l : Lw) (lo hi : Snd) : List (Int × Int) := (List.range (l.press + 1).toNat).map fun (p : Nat) => beatP lo hi (p : Int)
def offL (due : Int) : List (Int × Int) → Int → Int
 | [], n => n
 | x :: r, n => offL due r (max (max n (due - x.1)) (x.2 - due))
def offP (l : Lw) (due : Int) (lo hi : Snd) : Int := offL due (beatsL l lo hi) 0
def agreeP (l : Lw) (due b s : Int) : Bool := (List.range (l.press + 1).toNat).all fun (p : Nat) => withinB (b + (p : Int) * s - due) (-l.span) l.span
theorem beatP_bd {lo hi : Snd} (hl : lo.good) (hh : hi.good) {p : Int} (hp : 0 ≤ p ∧ p ≤ 3) : (-1000 ≤ (beatP lo hi p).1 ∧ (beatP lo hi p).1 ≤ 1000) ∧ (-1000 ≤ (beatP lo hi p).2 ∧ (beatP lo hi p).2 ≤ 1000) := by
 obtain ⟨a1, a2⟩ := hl
 obtain ⟨b1, b2⟩ := hh
 unfold beatP riseP
 have hp' : p = 0 ∨ p = 1 ∨ p = 2 ∨ p = 3 := by omega
 rcases hp' with rfl | rfl | rfl | rfl <;> dsimp only <;> omega
theorem beatsL_length (l : Lw) (lo hi : Snd) : (beatsL l lo hi).length = (l.press + 1).toNat := by simp [beatsL]
theorem beatsL_mem {l : Lw} {lo hi : Snd} {x : Int × Int} : x ∈ beatsL l lo hi ↔ ∃ p : Int, 0 ≤ p ∧ p ≤ l.press ∧ x = beatP lo hi p := by
 unfold beatsL
 rw [List.mem_map]
 constructor
 · rintro ⟨k, hk, rfl⟩
   rw [List.mem_range] at hk
   exact ⟨k, by omega, by omega, rfl⟩
 · rintro ⟨p, h1, h2, rfl⟩
   exact ⟨p.toNat, by rw [List.mem_range]; omega, by rw [Int.toNat_of_nonneg h1]⟩
theorem beatsL_take {l : Lw} {lo hi : Snd} {k : Nat} (h : (k : Int) ≤ l.press) : (beatsL l lo hi).take (k + 1) = (beatsL l lo hi).take k ++ [beatP lo hi k] := by
 rw [List.take_succ_eq_append_getElem (by rw [beatsL_length]; omega)]
 simp [beatsL]
def BeatsPost (l : Lw) (lo hi : Snd) (w : World) (e : Ending) (w' : World) : Prop :=
 ∃ (A : Option Addr) (c : Nat) (I : List (Nat × BA)), e = .returned (.slice A (beatsL l lo hi).length c) ∧ Sl 40 2 (.slice A (beatsL l lo hi).length c) (beatsL l lo hi).length (rc (beatsL l lo hi)) I ∧ Mem w noEx w' I
theorem vwithin_any (n lo hi : Int) (w : World)  :
   Calls Try.prog 80 #[.int .i64 n, .int .i64 lo, .int .i64 hi] w fun e w' => e = .returned (.bool (withinB n lo hi)) ∧ Below w.heap.size w w' := by
 refine px_enter noEx Try.func80 rfl 15 rfl [.int .i64 n, .int .i64 lo, .int .i64 hi] rfl rfl (Mem.init w _) ?_
 intro ac wc T M
 refine wp_seq ?_
 refine wp_region_lit ?_
 refine lq T (rn_assign rfl evc) ?_; clear T ac; intro ac T
 refine wpList_nil ?_
 replace T := T.pick [1, 2, 3] rfl
 refine nm_then ?_
 refine cut_seq (fun ac wc => Tm ac 15 [(6, .bool ((decide (lo ≤ n)) && (decide (n ≤ hi))))] ∧ Mem w noEx wc []) ?_ ?_
 ·refine wp_region_lit ?_
  refine lq T (rn_move rfl (T.ev 1 rfl)) ?_; clear T ac; intro ac T
  refine lq T (rn_move rfl (T.ev 1 rfl)) ?_; clear T ac; intro ac T
  refine lq T (rn_leq rfl (T.ev 1 rfl) (T.ev 0 rfl)) ?_; clear T ac; intro ac T
  refine lq T (rn_move rfl (T.ev 0 rfl)) ?_; clear T ac; intro ac T
  rcases Bool.eq_false_or_eq_true (decide (lo ≤ n)) with h1 | h1
  ·replace h1 := of_decide_eq_true h1
   refine lw T (wanted_yes rfl rfl (T.ev 0 rfl) (decide_eq_true h1)) (rn_move rfl (T.ev 4 rfl)) ?_; clear T ac; intro ac T
   refine lw T (wanted_yes rfl rfl (T.ev 1 rfl) (decide_eq_true h1)) (rn_move rfl (T.ev 7 rfl)) ?_; clear T ac; intro ac T
   refine lw T (wanted_yes rfl rfl (T.ev 2 rfl) (decide_eq_true h1)) (rn_leq rfl (T.ev 1 rfl) (T.ev 0 rfl)) ?_; clear T ac; intro ac T
   refine lq T (rn_pick1 rfl (T.ev 3 rfl) (decide_eq_true h1) (T.ev 0 rfl)) ?_; clear T ac; intro ac T
   refine lq T (rn_assign rfl (T.ev 0 rfl)) ?_; clear T ac; intro ac T
   refine wpList_nil ?_
   replace T := T.pick [0] rfl
   exact ⟨(T.pick (E' := [(6, .bool (decide (n ≤ hi)))]) [0] rfl).as (by (try rw [show (decide (lo ≤ n)) = true from (decide_eq_true h1)]); (try rfl)), M.mask [] rfl⟩
  replace h1 := of_decide_eq_false h1
  refine lp T (wanted_no rfl rfl (T.ev 0 rfl) (decide_eq_false h1)) ?_; clear T ac; intro ac T
  refine lp T (wanted_no rfl rfl (T.ev 1 rfl) (decide_eq_false h1)) ?_; clear T ac; intro ac T
  refine lp T (wanted_no rfl rfl (T.ev 2 rfl) (decide_eq_false h1)) ?_; clear T ac; intro ac T
  refine lq T (rn_pick0 rfl (T.ev 3 rfl) (decide_eq_false h1) evc) ?_; clear T ac; intro ac T
  refine lq T (rn_assign rfl (T.ev 0 rfl)) ?_; clear T ac; intro ac T
  refine wpList_nil ?_
  replace T := T.pick [0] rfl
  exact ⟨(T.pick (E' := [(6, .bool false)]) [0] rfl).as (by (try rw [show (decide (lo ≤ n)) = false from (decide_eq_false h1)]); (try rfl)), M.mask [] rfl⟩
 clear T M
 rintro ac wc ⟨T, M⟩
 refine wp_ret ?_
 refine rt_1 T rfl (T.ev 0 rfl) ?_
 exact ⟨ret_bool (by unfold withinB; simp), M.below⟩
theorem checkLaw_any (l : Lw) (w : World)  :
   Calls Try.prog 79 #[.agg #[.int .i64 l.first, .int .i64 l.step, .int .i64 l.span, .int .i64 l.press]] w fun e w' => e = .returned (.int .i64 (lawE l)) ∧ Below w.heap.size w w' := by
 refine px_enter noEx Try.func79 rfl 25 rfl [.agg #[.int .i64 l.first, .int .i64 l.step, .int .i64 l.span, .int .i64 l.press]] rfl rfl (Mem.init w _) ?_
 intro ac wc T M
 refine wp_seq ?_
 refine wp_region_lit ?_
 refine l_w rfl ?_; intro K hK
 refine ow_bx M T rfl rfl rfl rfl (T.ev 0 rfl) rfl ?_; clear M T; intro g1 wc ac M T
 refine sh_out hK _ _ ?_; clear hK K
 refine lq T (rn_assign rfl evc) ?_; clear T ac; intro ac T
 refine wpList_nil ?_
 replace T := T.pick [1] rfl
 refine nm_then ?_
 refine wp_seq ?_
 refine cut_seq (fun ac wc => Tm ac 25 [(24, .bool ((!(withinB l.first 0 30)) || ((!(withinB l.step (-5) 5)) || ((!(withinB l.span 0 20)) || (!(withinB l.press 0 3))))))] ∧ Mem w noEx wc []) ?_ ?_
 ·refine wp_region_lit ?_
  refine lq (v := (.pointer (some ⟨g1, 0, none⟩))) T (rn_fieldAddr (off := 0) rfl (T.ev 0 rfl) (fun _ _ _ => by kernel_rfl)) ?_; clear T ac; intro ac T
  refine lq T (rn_one (Mem.nth M 0 rfl) rfl (T.ev 0 rfl) rfl) ?_; clear T ac; intro ac T
  refine l_w rfl ?_; intro K hK
  refine ow_call (first := []) (cap := []) T rfl rfl rfl rfl evf (.cons (T.ev 0 rfl) (.cons evc (.cons evc .nil))) Try.func80 rfl rfl ?_
  refine Calls.mono (vwithin_any l.first 0 30 _) ?_
  clear T
  rintro e wc ⟨rfl, hb⟩
  intro ac T
  replace M := M.call hb; clear hb
  refine sh_out hK _ _ ?_; clear hK K
  refine lq T (rn_not rfl (T.ev 0 rfl)) ?_; clear T ac; intro ac T
  refine lq T (rn_move rfl (T.ev 0 rfl)) ?_; clear T ac; intro ac T
  rcases Bool.eq_false_or_eq_true (!(withinB l.first 0 30)) with h1 | h1
  ·refine lp T (wanted_no rfl rfl (T.ev 0 rfl) h1) ?_; clear T ac; intro ac T
   refine lp T (wanted_no rfl rfl (T.ev 1 rfl) h1) ?_; clear T ac; intro ac T
   refine lp T (wanted_no rfl rfl (T.ev 2 rfl) h1) ?_; clear T ac; intro ac T
   refine lp T (wanted_no rfl rfl (T.ev 3 rfl) h1) ?_; clear T ac; intro ac T
   refine lq T (rn_pick1 rfl (T.ev 4 rfl) h1 evc) ?_; clear T ac; intro ac T
   refine lq T (rn_move rfl (T.ev 0 rfl)) ?_; clear T ac; intro ac T
   refine lp T (wanted_no rfl rfl (T.ev 0 rfl) rfl) ?_; clear T ac; intro ac T
   refine lp T (wanted_no rfl rfl (T.ev 1 rfl) rfl) ?_; clear T ac; intro ac T
   refine lp T (wanted_no rfl rfl (T.ev 2 rfl) rfl) ?_; clear T ac; intro ac T
   refine lp T (wanted_no rfl rfl (T.ev 3 rfl) rfl) ?_; clear T ac; intro ac T
   refine lq T (rn_pick1 rfl (T.ev 4 rfl) rfl evc) ?_; clear T ac; intro ac T
   refine lq T (rn_move rfl (T.ev 0 rfl)) ?_; clear T ac; intro ac T
   refine lp T (wanted_no rfl rfl (T.ev 0 rfl) rfl) ?_; clear T ac; intro ac T
   refine lp T (wanted_no rfl rfl (T.ev 1 rfl) rfl) ?_; clear T ac; intro ac T
   refine lp T (wanted_no rfl rfl (T.ev 2 rfl) rfl) ?_; clear T ac; intro ac T
   refine lp T (wanted_no rfl rfl (T.ev 3 rfl) rfl) ?_; clear T ac; intro ac T
   refine lq T (rn_pick1 rfl (T.ev 4 rfl) rfl evc) ?_; clear T ac; intro ac T
   refine wpList_nil ?_
   replace T := T.pick [0] rfl
   replace M := M.mask [false] rfl
   exact ⟨(T.pick (E' := [(24, .bool true)]) [0] rfl).as (by (try rw [show (!(withinB l.first 0 30)) = true from h1]); (try rfl)), M.mask [] rfl⟩
  refine lw (v := (.pointer (some ⟨g1, 1, none⟩))) T (wanted_yes rfl rfl (T.ev 0 rfl) h1) (rn_fieldAddr (off := 1) rfl (T.ev 5 rfl) (fun _ _ _ => by kernel_rfl)) ?_; clear T ac; intro ac T
  refine lw T (wanted_yes rfl rfl (T.ev 1 rfl) h1) (rn_one (Mem.nth M 0 rfl) rfl (T.ev 0 rfl) rfl) ?_; clear T ac; intro ac T
  refine l_w (wanted_yes rfl rfl (T.ev 2 rfl) h1) ?_; intro K hK
  refine ow_call (first := []) (cap := []) T rfl rfl rfl rfl evf (.cons (T.ev 0 rfl) (.cons evc (.cons evc .nil))) Try.func80 rfl rfl ?_
  refine Calls.mono (vwithin_any l.step (-5) 5 _) ?_
  clear T
  rintro e wc ⟨rfl, hb⟩
  intro ac T
  replace M := M.call hb; clear hb
  refine sh_out hK _ _ ?_; clear hK K
  refine lw T (wanted_yes rfl rfl (T.ev 3 rfl) h1) (rn_not rfl (T.ev 0 rfl)) ?_; clear T ac; intro ac T
  refine lq T (rn_pick0 rfl (T.ev 4 rfl) h1 (T.ev 0 rfl)) ?_; clear T ac; intro ac T
  refine lq T (rn_move rfl (T.ev 0 rfl)) ?_; clear T ac; intro ac T
  rcases Bool.eq_false_or_eq_true (!(withinB l.step (-5) 5)) with h2 | h2
  ·refine lp T (wanted_no rfl rfl (T.ev 0 rfl) h2) ?_; clear T ac; intro ac T
   refine lp T (wanted_no rfl rfl (T.ev 1 rfl) h2) ?_; clear T ac; intro ac T
   refine lp T (wanted_no rfl rfl (T.ev 2 rfl) h2) ?_; clear T ac; intro ac T
   refine lp T (wanted_no rfl rfl (T.ev 3 rfl) h2) ?_; clear T ac; intro ac T
   refine lq T (rn_pick1 rfl (T.ev 4 rfl) h2 evc) ?_; clear T ac; intro ac T
   refine lq T (rn_move rfl (T.ev 0 rfl)) ?_; clear T ac; intro ac T
   refine lp T (wanted_no rfl rfl (T.ev 0 rfl) rfl) ?_; clear T ac; intro ac T
   refine lp T (wanted_no rfl rfl (T.ev 1 rfl) rfl) ?_; clear T ac; intro ac T
   refine lp T (wanted_no rfl rfl (T.ev 2 rfl) rfl) ?_; clear T ac; intro ac T
   refine lp T (wanted_no rfl rfl (T.ev 3 rfl) rfl) ?_; clear T ac; intro ac T
   refine lq T (rn_pick1 rfl (T.ev 4 rfl) rfl evc) ?_; clear T ac; intro ac T
   refine wpList_nil ?_
   replace T := T.pick [0] rfl
   replace M := M.mask [false] rfl
   exact ⟨(T.pick (E' := [(24, .bool true)]) [0] rfl).as (by (try rw [show (!(withinB l.first 0 30)) = false from h1]); (try rw [show (!(withinB l.step (-5) 5)) = true from h2]); (try rfl)), M.mask [] rfl⟩
  refine lw (v := (.pointer (some ⟨g1, 2, none⟩))) T (wanted_yes rfl rfl (T.ev 0 rfl) h2) (rn_fieldAddr (off := 2) rfl (T.ev 11 rfl) (fun _ _ _ => by kernel_rfl)) ?_; clear T ac; intro ac T
  refine lw T (wanted_yes rfl rfl (T.ev 1 rfl) h2) (rn_one (Mem.nth M 0 rfl) rfl (T.ev 0 rfl) rfl) ?_; clear T ac; intro ac T
  refine l_w (wanted_yes rfl rfl (T.ev 2 rfl) h2) ?_; intro K hK
  refine ow_call (first := []) (cap := []) T rfl rfl rfl rfl evf (.cons (T.ev 0 rfl) (.cons evc (.cons evc .nil))) Try.func80 rfl rfl ?_
  refine Calls.mono (vwithin_any l.span 0 20 _) ?_
  clear T
  rintro e wc ⟨rfl, hb⟩
  intro ac T
  replace M := M.call hb; clear hb
  refine sh_out hK _ _ ?_; clear hK K
  refine lw T (wanted_yes rfl rfl (T.ev 3 rfl) h2) (rn_not rfl (T.ev 0 rfl)) ?_; clear T ac; intro ac T
  refine lq T (rn_pick0 rfl (T.ev 4 rfl) h2 (T.ev 0 rfl)) ?_; clear T ac; intro ac T
  refine lq T (rn_move rfl (T.ev 0 rfl)) ?_; clear T ac; intro ac T
  rcases Bool.eq_false_or_eq_true (!(withinB l.span 0 20)) with h3 | h3
  ·refine lp T (wanted_no rfl rfl (T.ev 0 rfl) h3) ?_; clear T ac; intro ac T
   refine lp T (wanted_no rfl rfl (T.ev 1 rfl) h3) ?_; clear T ac; intro ac T
   refine lp T (wanted_no rfl rfl (T.ev 2 rfl) h3) ?_; clear T ac; intro ac T
   refine lp T (wanted_no rfl rfl (T.ev 3 rfl) h3) ?_; clear T ac; intro ac T
   refine lq T (rn_pick1 rfl (T.ev 4 rfl) h3 evc) ?_; clear T ac; intro ac T
   refine wpList_nil ?_
   replace T := T.pick [0] rfl
   replace M := M.mask [false] rfl
   exact ⟨(T.pick (E' := [(24, .bool true)]) [0] rfl).as (by (try rw [show (!(withinB l.first 0 30)) = false from h1]); (try rw [show (!(withinB l.step (-5) 5)) = false from h2]); (try rw [show (!(withinB l.span 0 20)) = true from h3]); (try rfl)), M.mask [] rfl⟩
  refine lw (v := (.pointer (some ⟨g1, 3, none⟩))) T (wanted_yes rfl rfl (T.ev 0 rfl) h3) (rn_fieldAddr (off := 3) rfl (T.ev 17 rfl) (fun _ _ _ => by kernel_rfl)) ?_; clear T ac; intro ac T
  refine lw T (wanted_yes rfl rfl (T.ev 1 rfl) h3) (rn_one (Mem.nth M 0 rfl) rfl (T.ev 0 rfl) rfl) ?_; clear T ac; intro ac T
  refine l_w (wanted_yes rfl rfl (T.ev 2 rfl) h3) ?_; intro K hK
  refine ow_call (first := []) (cap := []) T rfl rfl rfl rfl evf (.cons (T.ev 0 rfl) (.cons evc (.cons evc .nil))) Try.func80 rfl rfl ?_
  refine Calls.mono (vwithin_any l.press 0 3 _) ?_
  clear T
  rintro e wc ⟨rfl, hb⟩
  intro ac T
  replace M := M.call hb; clear hb
  refine sh_out hK _ _ ?_; clear hK K
  refine lw T (wanted_yes rfl rfl (T.ev 3 rfl) h3) (rn_not rfl (T.ev 0 rfl)) ?_; clear T ac; intro ac T
  refine lq T (rn_pick0 rfl (T.ev 4 rfl) h3 (T.ev 0 rfl)) ?_; clear T ac; intro ac T
  refine wpList_nil ?_
  replace T := T.pick [0] rfl
  replace M := M.mask [false] rfl
  exact ⟨(T.pick (E' := [(24, .bool (!(withinB l.press 0 3)))]) [0] rfl).as (by (try rw [show (!(withinB l.first 0 30)) = false from h1]); (try rw [show (!(withinB l.step (-5) 5)) = false from h2]); (try rw [show (!(withinB l.span 0 20)) = false from h3]); (try rfl)), M.mask [] rfl⟩
 clear T M
 rintro ac wc ⟨T, M⟩
 refine wp_cond_split (T.ev 0 rfl) ?_ ?_
 ·intro h4
  (try have h4' := h4; try simp only [Bool.and_eq_true, Bool.or_eq_true, Bool.not_eq_true', Bool.and_eq_false_imp, Bool.or_eq_false_iff, decide_eq_true_eq, decide_eq_false_iff_not] at h4')
  refine wp_seq ?_
  refine wp_region_lit ?_
  refine lq T (rn_assign rfl evc) ?_; clear T ac; intro ac T
  refine wpList_nil ?_
  replace T := T.pick [0] rfl
  refine nm_then ?_
  refine wp_ret ?_
  refine rt_then ?_
  refine rt_1 T rfl (T.ev 0 rfl) ?_
  refine ⟨ret_int ?_, M.below⟩
  unfold lawE
  rcases Bool.eq_false_or_eq_true (withinB l.first 0 30) with a1 | a1 <;> rcases Bool.eq_false_or_eq_true (withinB l.step (-5) 5) with a2 | a2 <;> rcases Bool.eq_false_or_eq_true (withinB l.span 0 20) with a3 | a3 <;> rcases Bool.eq_false_or_eq_true (withinB l.press 0 3) with a4 | a4 <;> simp_all
 intro h4
 (try have h4' := h4; try simp only [Bool.and_eq_true, Bool.or_eq_true, Bool.not_eq_true', Bool.and_eq_false_imp, Bool.or_eq_false_iff, decide_eq_true_eq, decide_eq_false_iff_not] at h4')
 refine wp_skip ?_
 refine nm_then ?_
 refine wp_seq ?_
 refine wp_region_lit ?_
 refine lq T (rn_assign rfl evc) ?_; clear T ac; intro ac T
 refine wpList_nil ?_
 replace T := T.pick [0] rfl
 refine nm_then ?_
 refine wp_ret ?_
 refine rt_1 T rfl (T.ev 0 rfl) ?_
 refine ⟨ret_int ?_, M.below⟩
 unfold lawE
 rcases Bool.eq_false_or_eq_true (withinB l.first 0 30) with a1 | a1 <;> rcases Bool.eq_false_or_eq_true (withinB l.step (-5) 5) with a2 | a2 <;> rcases Bool.eq_false_or_eq_true (withinB l.span 0 20) with a3 | a3 <;> rcases Bool.eq_false_or_eq_true (withinB l.press 0 3) with a4 | a4 <;> simp_all
theorem checkSound_any (x : Snd) (w : World)  :
   Calls Try.prog 121 #[.agg #[.int .i64 x.t0, .int .i64 x.t1, .int .i64 x.s0, .int .i64 x.s1]] w fun e w' => e = .returned (.int .i64 (sndE x)) ∧ Below w.heap.size w w' := by
 refine px_enter noEx Try.func121 rfl 41 rfl [.agg #[.int .i64 x.t0, .int .i64 x.t1, .int .i64 x.s0, .int .i64 x.s1]] rfl rfl (Mem.init w _) ?_
 intro ac wc T M
 refine wp_seq ?_
 refine wp_region_lit ?_
 refine l_w rfl ?_; intro K hK
 refine ow_bx M T rfl rfl rfl rfl (T.ev 0 rfl) rfl ?_; clear M T; intro g1 wc ac M T
 refine sh_out hK _ _ ?_; clear hK K
 refine lq T (rn_assign rfl evc) ?_; clear T ac; intro ac T
 refine wpList_nil ?_
 replace T := T.pick [1] rfl
 refine nm_then ?_
 refine wp_seq ?_
 refine wp_seq ?_
 refine wp_region_lit ?_
 refine lq (v := (.pointer (some ⟨g1, 0, none⟩))) T (rn_fieldAddr (off := 0) rfl (T.ev 0 rfl) (fun _ _ _ => by kernel_rfl)) ?_; clear T ac; intro ac T
 refine lq T (rn_rowO (Mem.nth M 0 rfl) rfl (T.ev 0 rfl) rfl) ?_; clear T ac; intro ac T
 refine lq (v := (.pointer (some ⟨g1, 2, none⟩))) T (rn_fieldAddr (off := 2) rfl (T.ev 2 rfl) (fun _ _ _ => by kernel_rfl)) ?_; clear T ac; intro ac T
 refine lq T (rn_rowO (Mem.nth M 0 rfl) rfl (T.ev 0 rfl) rfl) ?_; clear T ac; intro ac T
 refine lq (v := (.agg #[.int .i64 x.t0, .int .i64 x.t1, .int .i64 x.s0, .int .i64 x.s1])) T (rn_build rfl (.cons (T.ev 2 rfl) (.cons (T.ev 0 rfl) .nil)) (fun _ => by kernel_rfl)) ?_; clear T ac; intro ac T
 refine lq T (rn_move rfl evc) ?_; clear T ac; intro ac T
 refine wpList_nil ?_
 replace T := T.pick [0, 1] rfl
 replace M := M.mask [false] rfl
 refine nm_then ?_
 refine wp_block ?_
 refine wp_loop_rounds 4 ?_
 refine rounds_S ?_
 refine wp_seq ?_
 refine wp_region_lit ?_
 refine lq (v := (.bool true)) T (rn_neqof (rn_lss rfl (T.ev 0 rfl) evc) (by simp)) ?_; clear T ac; intro ac T
 refine wpList_nil ?_
 refine nm_then ?_
 refine wp_seq ?_
 refine wp_cond_true (T.ev 0 rfl) ?_
 refine wp_skip ?_
 refine nm_then ?_
 refine wp_seq ?_
 refine wp_block ?_
 refine wp_seq ?_
 refine wp_region_lit ?_
 refine lq T (rn_move rfl (T.ev 1 rfl)) ?_; clear T ac; intro ac T
 refine lq (v := (.agg #[.int .i64 x.t0, .int .i64 x.t1])) T (rn_index rfl (T.ev 3 rfl) (T.ev 2 rfl) (fun _ => by kernel_rfl)) ?_; clear T ac; intro ac T
 refine l_w rfl ?_; intro K hK
 refine ow_al M T rfl rfl rfl rfl ?_; clear M T; intro g2 wc ac M T
 refine sh_out hK _ _ ?_; clear hK K
 refine lq T (rn_assign rfl (T.ev 2 rfl)) ?_; clear T ac; intro ac T
 refine l_w rfl ?_; intro K hK
 refine ow_stO M T rfl rfl (T.ev 1 rfl) (T.ev 2 rfl) rfl .head rfl (by simp) rfl (by kernel_rfl) ?_; clear M T; intro wc ac M T
 refine sh_out hK _ _ ?_; clear hK K
 refine wpList_nil ?_
 replace T := T.pick [0, 1, 5, 6] rfl
 refine nm_then ?_
 refine wp_seq ?_
 refine wp_region_lit ?_
 refine lq T (rn_assign rfl evc) ?_; clear T ac; intro ac T
 refine wpList_nil ?_
 refine nm_then ?_
 refine wp_seq ?_
 refine wp_seq ?_
 refine wp_region_lit ?_
 refine lq T (rn_move rfl (T.ev 1 rfl)) ?_; clear T ac; intro ac T
 refine lq (v := (.bool false)) T (rn_neqof (rn_eql rfl (T.ev 0 rfl) evc) (by simp)) ?_; clear T ac; intro ac T
 refine wpList_nil ?_
 replace T := T.pick [0, 2, 4, 5, 6] rfl
 refine nm_then ?_
 refine wp_cond_false (T.ev 0 rfl) ?_
 refine wp_skip ?_
 refine nm_then ?_
 refine wp_block ?_
 refine cut_seq (fun ac wc => Tm ac 41 [(4, .pointer (some ⟨g2, 0, none⟩)), (10, .agg #[.int .i64 x.t0, .int .i64 x.t1, .int .i64 x.s0, .int .i64 x.s1]), (11, .int .i64 0), (17, .bool ((!(withinB x.t0 (-30) 30)) || (!(withinB x.t1 (-30) 30))))] ∧ Mem w noEx wc [(g2, .cells [.int .i64 x.t0, .int .i64 x.t1])]) ?_ ?_
 ·refine wp_region_lit ?_
  refine lq (v := (.pointer (some ⟨g2, 0, none⟩))) T (rn_fieldAddr (off := 0) rfl (T.ev 2 rfl) (fun _ _ _ => by kernel_rfl)) ?_; clear T ac; intro ac T
  refine lq T (rn_one (Mem.nth M 0 rfl) rfl (T.ev 0 rfl) rfl) ?_; clear T ac; intro ac T
  refine lq T (rn_move rfl (T.ev 3 rfl)) ?_; clear T ac; intro ac T
  refine lq T (rn_neg rfl (T.ev 0 rfl) (by omega)) ?_; clear T ac; intro ac T
  refine lq T (rn_move rfl (T.ev 5 rfl)) ?_; clear T ac; intro ac T
  refine l_w rfl ?_; intro K hK
  refine ow_call (first := []) (cap := []) T rfl rfl rfl rfl evf (.cons (T.ev 3 rfl) (.cons (T.ev 1 rfl) (.cons (T.ev 0 rfl) .nil))) Try.func80 rfl rfl ?_
  refine Calls.mono (vwithin_any x.t0 (-30) 30 _) ?_
  clear T
  rintro e wc ⟨rfl, hb⟩
  intro ac T
  replace M := M.call hb; clear hb
  refine sh_out hK _ _ ?_; clear hK K
  refine lq T (rn_not rfl (T.ev 0 rfl)) ?_; clear T ac; intro ac T
  refine lq T (rn_move rfl (T.ev 0 rfl)) ?_; clear T ac; intro ac T
  rcases Bool.eq_false_or_eq_true (!(withinB x.t0 (-30) 30)) with h1 | h1
  ·refine lp T (wanted_no rfl rfl (T.ev 0 rfl) h1) ?_; clear T ac; intro ac T
   refine lp T (wanted_no rfl rfl (T.ev 1 rfl) h1) ?_; clear T ac; intro ac T
   refine lp T (wanted_no rfl rfl (T.ev 2 rfl) h1) ?_; clear T ac; intro ac T
   refine lp T (wanted_no rfl rfl (T.ev 3 rfl) h1) ?_; clear T ac; intro ac T
   refine lp T (wanted_no rfl rfl (T.ev 4 rfl) h1) ?_; clear T ac; intro ac T
   refine lp T (wanted_no rfl rfl (T.ev 5 rfl) h1) ?_; clear T ac; intro ac T
   refine lp T (wanted_no rfl rfl (T.ev 6 rfl) h1) ?_; clear T ac; intro ac T
   refine lq T (rn_pick1 rfl (T.ev 7 rfl) h1 evc) ?_; clear T ac; intro ac T
   refine lq T (rn_assign rfl (T.ev 0 rfl)) ?_; clear T ac; intro ac T
   refine wpList_nil ?_
   replace T := T.pick [0, 2, 3, 4, 5, 6, 7, 8, 19, 20, 21] rfl
   exact ⟨(T.pick (E' := [(4, .pointer (some ⟨g2, 0, none⟩)), (10, .agg #[.int .i64 x.t0, .int .i64 x.t1, .int .i64 x.s0, .int .i64 x.s1]), (11, .int .i64 0), (17, .bool true)]) [8, 10, 9, 0] rfl).as (by (try rw [show (!(withinB x.t0 (-30) 30)) = true from h1]); (try rfl)), M.mask [true] rfl⟩
  refine lw (v := (.pointer (some ⟨g2, 1, none⟩))) T (wanted_yes rfl rfl (T.ev 0 rfl) h1) (rn_fieldAddr (off := 1) rfl (T.ev 10 rfl) (fun _ _ _ => by kernel_rfl)) ?_; clear T ac; intro ac T
  refine lw T (wanted_yes rfl rfl (T.ev 1 rfl) h1) (rn_one (Mem.nth M 0 rfl) rfl (T.ev 0 rfl) rfl) ?_; clear T ac; intro ac T
  refine lw T (wanted_yes rfl rfl (T.ev 2 rfl) h1) (rn_move rfl (T.ev 11 rfl)) ?_; clear T ac; intro ac T
  refine lw T (wanted_yes rfl rfl (T.ev 3 rfl) h1) (rn_neg rfl (T.ev 0 rfl) (by omega)) ?_; clear T ac; intro ac T
  refine lw T (wanted_yes rfl rfl (T.ev 4 rfl) h1) (rn_move rfl (T.ev 13 rfl)) ?_; clear T ac; intro ac T
  refine l_w (wanted_yes rfl rfl (T.ev 5 rfl) h1) ?_; intro K hK
  refine ow_call (first := []) (cap := []) T rfl rfl rfl rfl evf (.cons (T.ev 3 rfl) (.cons (T.ev 1 rfl) (.cons (T.ev 0 rfl) .nil))) Try.func80 rfl rfl ?_
  refine Calls.mono (vwithin_any x.t1 (-30) 30 _) ?_
  clear T
  rintro e wc ⟨rfl, hb⟩
  intro ac T
  replace M := M.call hb; clear hb
  refine sh_out hK _ _ ?_; clear hK K
  refine lw T (wanted_yes rfl rfl (T.ev 6 rfl) h1) (rn_not rfl (T.ev 0 rfl)) ?_; clear T ac; intro ac T
  refine lq T (rn_pick0 rfl (T.ev 7 rfl) h1 (T.ev 0 rfl)) ?_; clear T ac; intro ac T
  refine lq T (rn_assign rfl (T.ev 0 rfl)) ?_; clear T ac; intro ac T
  refine wpList_nil ?_
  replace T := T.pick [0, 2, 3, 4, 5, 6, 7, 8, 19, 20, 21] rfl
  exact ⟨(T.pick (E' := [(4, .pointer (some ⟨g2, 0, none⟩)), (10, .agg #[.int .i64 x.t0, .int .i64 x.t1, .int .i64 x.s0, .int .i64 x.s1]), (11, .int .i64 0), (17, .bool (!(withinB x.t1 (-30) 30)))]) [8, 10, 9, 0] rfl).as (by (try rw [show (!(withinB x.t0 (-30) 30)) = false from h1]); (try rfl)), M.mask [true] rfl⟩
 clear T M
 rintro ac wc ⟨T, M⟩
 refine wp_cond_split (T.ev 3 rfl) ?_ ?_
 ·intro h2
  (try have h2' := h2; try simp only [Bool.and_eq_true, Bool.or_eq_true, Bool.not_eq_true', Bool.and_eq_false_imp, Bool.or_eq_false_iff, decide_eq_true_eq, decide_eq_false_iff_not] at h2')
  refine wp_seq ?_
  refine wp_region_lit ?_
  refine lq T (rn_assign rfl evc) ?_; clear T ac; intro ac T
  refine wpList_nil ?_
  replace T := T.pick [0] rfl
  replace M := M.mask [false] rfl
  refine nm_then ?_
  refine wp_ret ?_
  refine rt_blk ?_
  refine rt_blk ?_
  refine rt_then ?_
  refine rt_then ?_
  refine rt_blk ?_
  refine rt_then ?_
  refine rt_1 T rfl (T.ev 0 rfl) ?_
  refine ⟨ret_int ?_, M.below⟩
  unfold sndE chkR
  (repeat' split) <;> first | rfl | omega | contradiction | (simp_all; done) | (simp_all; omega)
 intro h2
 (try have h2' := h2; try simp only [Bool.and_eq_true, Bool.or_eq_true, Bool.not_eq_true', Bool.and_eq_false_imp, Bool.or_eq_false_iff, decide_eq_true_eq, decide_eq_false_iff_not] at h2')
 refine wp_seq ?_
 refine wp_region_lit ?_
 refine lq (v := (.pointer (some ⟨g2, 0, none⟩))) T (rn_fieldAddr (off := 0) rfl (T.ev 0 rfl) (fun _ _ _ => by kernel_rfl)) ?_; clear T ac; intro ac T
 refine lq T (rn_one (Mem.nth M 0 rfl) rfl (T.ev 0 rfl) rfl) ?_; clear T ac; intro ac T
 refine lq (v := (.pointer (some ⟨g2, 1, none⟩))) T (rn_fieldAddr (off := 1) rfl (T.ev 2 rfl) (fun _ _ _ => by kernel_rfl)) ?_; clear T ac; intro ac T
 refine lq T (rn_one (Mem.nth M 0 rfl) rfl (T.ev 0 rfl) rfl) ?_; clear T ac; intro ac T
 refine lq T (rn_gtr rfl (T.ev 2 rfl) (T.ev 0 rfl)) ?_; clear T ac; intro ac T
 refine lq T (rn_assign rfl (T.ev 0 rfl)) ?_; clear T ac; intro ac T
 refine wpList_nil ?_
 replace T := T.pick [0, 7, 8] rfl
 replace M := M.mask [false] rfl
 refine nm_then ?_
 refine wp_if (T.ev 0 rfl) ?_ ?_
 ·intro h3
  refine wp_seq ?_
  refine wp_region_lit ?_
  refine lq T (rn_assign rfl evc) ?_; clear T ac; intro ac T
  refine wpList_nil ?_
  replace T := T.pick [0] rfl
  refine nm_then ?_
  refine wp_ret ?_
  refine rt_blk ?_
  refine rt_blk ?_
  refine rt_then ?_
  refine rt_then ?_
  refine rt_blk ?_
  refine rt_then ?_
  refine rt_1 T rfl (T.ev 0 rfl) ?_
  refine ⟨ret_int ?_, M.below⟩
  unfold sndE chkR
  (repeat' split) <;> first | rfl | omega | contradiction | (simp_all; done) | (simp_all; omega)
 intro h3
 refine wp_skip ?_
 refine nm_blk ?_
 refine nm_blk ?_
 refine nm_then ?_
 refine wp_region_lit ?_
 refine lq (v := (.int .i64 1)) T (rn_ofI (rn_add rfl (T.ev 2 rfl) evc (by omega)) (by rfl)) ?_; clear T ac; intro ac T
 refine l_q (v := (.int .i64 1)) (T.pick [0, 1, 2] rfl) rfl rfl rfl rfl (rn_move rfl (T.ev 0 rfl)) ?_; clear T ac; intro ac T
 refine wpList_nil ?_
 replace T := T.pick [0, 3] rfl
 refine nm_then ?_
 refine rounds_S ?_
 refine wp_seq ?_
 refine wp_region_lit ?_
 refine lq (v := (.bool true)) T (rn_neqof (rn_lss rfl (T.ev 0 rfl) evc) (by simp)) ?_; clear T ac; intro ac T
 refine wpList_nil ?_
 refine nm_then ?_
 refine wp_seq ?_
 refine wp_cond_true (T.ev 0 rfl) ?_
 refine wp_skip ?_
 refine nm_then ?_
 refine wp_seq ?_
 refine wp_block ?_
 refine wp_seq ?_
 refine wp_region_lit ?_
 refine lq T (rn_move rfl (T.ev 1 rfl)) ?_; clear T ac; intro ac T
 refine lq (v := (.agg #[.int .i64 x.s0, .int .i64 x.s1])) T (rn_index rfl (T.ev 3 rfl) (T.ev 2 rfl) (fun _ => by kernel_rfl)) ?_; clear T ac; intro ac T
 refine l_w rfl ?_; intro K hK
 refine ow_al M T rfl rfl rfl rfl ?_; clear M T; intro g3 wc ac M T
 refine sh_out hK _ _ ?_; clear hK K
 refine lq T (rn_assign rfl (T.ev 2 rfl)) ?_; clear T ac; intro ac T
 refine l_w rfl ?_; intro K hK
 refine ow_stO M T rfl rfl (T.ev 1 rfl) (T.ev 2 rfl) rfl .head rfl (by simp) rfl (by kernel_rfl) ?_; clear M T; intro wc ac M T
 refine sh_out hK _ _ ?_; clear hK K
 refine wpList_nil ?_
 replace T := T.pick [0, 1, 5, 6] rfl
 refine nm_then ?_
 refine wp_seq ?_
 refine wp_region_lit ?_
 refine lq T (rn_assign rfl evc) ?_; clear T ac; intro ac T
 refine wpList_nil ?_
 refine nm_then ?_
 refine wp_seq ?_
 refine wp_seq ?_
 refine wp_region_lit ?_
 refine lq T (rn_move rfl (T.ev 1 rfl)) ?_; clear T ac; intro ac T
 refine lq (v := (.bool true)) T (rn_neqof (rn_eql rfl (T.ev 0 rfl) evc) (by simp)) ?_; clear T ac; intro ac T
 refine wpList_nil ?_
 replace T := T.pick [0, 2, 4, 5, 6] rfl
 refine nm_then ?_
 refine wp_cond_true (T.ev 0 rfl) ?_
 refine wp_region_lit ?_
 refine l_q (v := (.int .i64 3)) (T.pick [0, 2, 3, 4] rfl) rfl rfl rfl rfl (rn_assign rfl evc) ?_; clear T ac; intro ac T
 refine wpList_nil ?_
 replace T := T.pick [0, 2, 3, 4] rfl
 refine nm_then ?_
 refine wp_block ?_
 refine cut_seq (fun ac wc => Tm ac 41 [(4, .pointer (some ⟨g3, 0, none⟩)), (10, .agg #[.int .i64 x.t0, .int .i64 x.t1, .int .i64 x.s0, .int .i64 x.s1]), (11, .int .i64 1), (17, .bool ((!(withinB x.s0 (-3) 3)) || (!(withinB x.s1 (-3) 3))))] ∧ Mem w noEx wc [(g3, .cells [.int .i64 x.s0, .int .i64 x.s1])]) ?_ ?_
 ·refine wp_region_lit ?_
  refine lq (v := (.pointer (some ⟨g3, 0, none⟩))) T (rn_fieldAddr (off := 0) rfl (T.ev 1 rfl) (fun _ _ _ => by kernel_rfl)) ?_; clear T ac; intro ac T
  refine lq T (rn_one (Mem.nth M 0 rfl) rfl (T.ev 0 rfl) rfl) ?_; clear T ac; intro ac T
  refine lq T (rn_move rfl (T.ev 2 rfl)) ?_; clear T ac; intro ac T
  refine lq T (rn_neg rfl (T.ev 0 rfl) (by omega)) ?_; clear T ac; intro ac T
  refine lq T (rn_move rfl (T.ev 4 rfl)) ?_; clear T ac; intro ac T
  refine l_w rfl ?_; intro K hK
  refine ow_call (first := []) (cap := []) T rfl rfl rfl rfl evf (.cons (T.ev 3 rfl) (.cons (T.ev 1 rfl) (.cons (T.ev 0 rfl) .nil))) Try.func80 rfl rfl ?_
  refine Calls.mono (vwithin_any x.s0 (-3) 3 _) ?_
  clear T
  rintro e wc ⟨rfl, hb⟩
  intro ac T
  replace M := M.call hb; clear hb
  refine sh_out hK _ _ ?_; clear hK K
  refine lq T (rn_not rfl (T.ev 0 rfl)) ?_; clear T ac; intro ac T
  refine lq T (rn_move rfl (T.ev 0 rfl)) ?_; clear T ac; intro ac T
  rcases Bool.eq_false_or_eq_true (!(withinB x.s0 (-3) 3)) with h4 | h4
  ·refine lp T (wanted_no rfl rfl (T.ev 0 rfl) h4) ?_; clear T ac; intro ac T
   refine lp T (wanted_no rfl rfl (T.ev 1 rfl) h4) ?_; clear T ac; intro ac T
   refine lp T (wanted_no rfl rfl (T.ev 2 rfl) h4) ?_; clear T ac; intro ac T
   refine lp T (wanted_no rfl rfl (T.ev 3 rfl) h4) ?_; clear T ac; intro ac T
   refine lp T (wanted_no rfl rfl (T.ev 4 rfl) h4) ?_; clear T ac; intro ac T
   refine lp T (wanted_no rfl rfl (T.ev 5 rfl) h4) ?_; clear T ac; intro ac T
   refine lp T (wanted_no rfl rfl (T.ev 6 rfl) h4) ?_; clear T ac; intro ac T
   refine lq T (rn_pick1 rfl (T.ev 7 rfl) h4 evc) ?_; clear T ac; intro ac T
   refine lq T (rn_assign rfl (T.ev 0 rfl)) ?_; clear T ac; intro ac T
   refine wpList_nil ?_
   replace T := T.pick [0, 2, 3, 4, 5, 6, 7, 8, 18, 19, 20] rfl
   exact ⟨(T.pick (E' := [(4, .pointer (some ⟨g3, 0, none⟩)), (10, .agg #[.int .i64 x.t0, .int .i64 x.t1, .int .i64 x.s0, .int .i64 x.s1]), (11, .int .i64 1), (17, .bool true)]) [8, 10, 9, 0] rfl).as (by (try rw [show (!(withinB x.s0 (-3) 3)) = true from h4]); (try rfl)), M.mask [true] rfl⟩
  refine lw (v := (.pointer (some ⟨g3, 1, none⟩))) T (wanted_yes rfl rfl (T.ev 0 rfl) h4) (rn_fieldAddr (off := 1) rfl (T.ev 9 rfl) (fun _ _ _ => by kernel_rfl)) ?_; clear T ac; intro ac T
  refine lw T (wanted_yes rfl rfl (T.ev 1 rfl) h4) (rn_one (Mem.nth M 0 rfl) rfl (T.ev 0 rfl) rfl) ?_; clear T ac; intro ac T
  refine lw T (wanted_yes rfl rfl (T.ev 2 rfl) h4) (rn_move rfl (T.ev 10 rfl)) ?_; clear T ac; intro ac T
  refine lw T (wanted_yes rfl rfl (T.ev 3 rfl) h4) (rn_neg rfl (T.ev 0 rfl) (by omega)) ?_; clear T ac; intro ac T
  refine lw T (wanted_yes rfl rfl (T.ev 4 rfl) h4) (rn_move rfl (T.ev 12 rfl)) ?_; clear T ac; intro ac T
  refine l_w (wanted_yes rfl rfl (T.ev 5 rfl) h4) ?_; intro K hK
  refine ow_call (first := []) (cap := []) T rfl rfl rfl rfl evf (.cons (T.ev 3 rfl) (.cons (T.ev 1 rfl) (.cons (T.ev 0 rfl) .nil))) Try.func80 rfl rfl ?_
  refine Calls.mono (vwithin_any x.s1 (-3) 3 _) ?_
  clear T
  rintro e wc ⟨rfl, hb⟩
  intro ac T
  replace M := M.call hb; clear hb
  refine sh_out hK _ _ ?_; clear hK K
  refine lw T (wanted_yes rfl rfl (T.ev 6 rfl) h4) (rn_not rfl (T.ev 0 rfl)) ?_; clear T ac; intro ac T
  refine lq T (rn_pick0 rfl (T.ev 7 rfl) h4 (T.ev 0 rfl)) ?_; clear T ac; intro ac T
  refine lq T (rn_assign rfl (T.ev 0 rfl)) ?_; clear T ac; intro ac T
  refine wpList_nil ?_
  replace T := T.pick [0, 2, 3, 4, 5, 6, 7, 8, 18, 19, 20] rfl
  exact ⟨(T.pick (E' := [(4, .pointer (some ⟨g3, 0, none⟩)), (10, .agg #[.int .i64 x.t0, .int .i64 x.t1, .int .i64 x.s0, .int .i64 x.s1]), (11, .int .i64 1), (17, .bool (!(withinB x.s1 (-3) 3)))]) [8, 10, 9, 0] rfl).as (by (try rw [show (!(withinB x.s0 (-3) 3)) = false from h4]); (try rfl)), M.mask [true] rfl⟩
 clear T M
 rintro ac wc ⟨T, M⟩
 refine wp_cond_split (T.ev 3 rfl) ?_ ?_
 ·intro h5
  (try have h5' := h5; try simp only [Bool.and_eq_true, Bool.or_eq_true, Bool.not_eq_true', Bool.and_eq_false_imp, Bool.or_eq_false_iff, decide_eq_true_eq, decide_eq_false_iff_not] at h5')
  refine wp_seq ?_
  refine wp_region_lit ?_
  refine lq T (rn_assign rfl evc) ?_; clear T ac; intro ac T
  refine wpList_nil ?_
  replace T := T.pick [0] rfl
  replace M := M.mask [false] rfl
  refine nm_then ?_
  refine wp_ret ?_
  refine rt_blk ?_
  refine rt_blk ?_
  refine rt_then ?_
  refine rt_then ?_
  refine rt_blk ?_
  refine rt_then ?_
  refine rt_1 T rfl (T.ev 0 rfl) ?_
  refine ⟨ret_int ?_, M.below⟩
  unfold sndE chkR
  (repeat' split) <;> first | rfl | omega | contradiction | (simp_all; done) | (simp_all; omega)
 intro h5
 (try have h5' := h5; try simp only [Bool.and_eq_true, Bool.or_eq_true, Bool.not_eq_true', Bool.and_eq_false_imp, Bool.or_eq_false_iff, decide_eq_true_eq, decide_eq_false_iff_not] at h5')
 refine wp_seq ?_
 refine wp_region_lit ?_
 refine lq (v := (.pointer (some ⟨g3, 0, none⟩))) T (rn_fieldAddr (off := 0) rfl (T.ev 0 rfl) (fun _ _ _ => by kernel_rfl)) ?_; clear T ac; intro ac T
 refine lq T (rn_one (Mem.nth M 0 rfl) rfl (T.ev 0 rfl) rfl) ?_; clear T ac; intro ac T
 refine lq (v := (.pointer (some ⟨g3, 1, none⟩))) T (rn_fieldAddr (off := 1) rfl (T.ev 2 rfl) (fun _ _ _ => by kernel_rfl)) ?_; clear T ac; intro ac T
 refine lq T (rn_one (Mem.nth M 0 rfl) rfl (T.ev 0 rfl) rfl) ?_; clear T ac; intro ac T
 refine lq T (rn_gtr rfl (T.ev 2 rfl) (T.ev 0 rfl)) ?_; clear T ac; intro ac T
 refine lq T (rn_assign rfl (T.ev 0 rfl)) ?_; clear T ac; intro ac T
 refine wpList_nil ?_
 replace T := T.pick [0, 7, 8] rfl
 replace M := M.mask [false] rfl
 refine nm_then ?_
 refine wp_if (T.ev 0 rfl) ?_ ?_
 ·intro h6
  refine wp_seq ?_
  refine wp_region_lit ?_
  refine lq T (rn_assign rfl evc) ?_; clear T ac; intro ac T
  refine wpList_nil ?_
  replace T := T.pick [0] rfl
  refine nm_then ?_
  refine wp_ret ?_
  refine rt_blk ?_
  refine rt_blk ?_
  refine rt_then ?_
  refine rt_then ?_
  refine rt_blk ?_
  refine rt_then ?_
  refine rt_1 T rfl (T.ev 0 rfl) ?_
  refine ⟨ret_int ?_, M.below⟩
  unfold sndE chkR
  (repeat' split) <;> first | rfl | omega | contradiction | (simp_all; done) | (simp_all; omega)
 intro h6
 refine wp_skip ?_
 refine nm_blk ?_
 refine nm_blk ?_
 refine nm_then ?_
 refine wp_region_lit ?_
 refine lq (v := (.int .i64 2)) T (rn_ofI (rn_add rfl (T.ev 2 rfl) evc (by omega)) (by rfl)) ?_; clear T ac; intro ac T
 refine l_q (v := (.int .i64 2)) (T.pick [0, 1, 2] rfl) rfl rfl rfl rfl (rn_move rfl (T.ev 0 rfl)) ?_; clear T ac; intro ac T
 refine wpList_nil ?_
 replace T := T.pick [0, 3] rfl
 refine nm_then ?_
 refine rounds_S ?_
 refine wp_seq ?_
 refine wp_region_lit ?_
 refine lq (v := (.bool false)) T (rn_neqof (rn_lss rfl (T.ev 0 rfl) evc) (by simp)) ?_; clear T ac; intro ac T
 refine wpList_nil ?_
 refine nm_then ?_
 refine wp_seq ?_
 refine wp_cond_false (T.ev 0 rfl) ?_
 refine wp_exit ?_
 refine ex_then ?_
 refine ex_then ?_
 refine ex_hit ?_
 refine nm_then ?_
 refine wp_seq ?_
 refine wp_region_lit ?_
 refine lq T (rn_assign rfl evc) ?_; clear T ac; intro ac T
 refine wpList_nil ?_
 replace T := T.pick [0] rfl
 refine nm_then ?_
 refine wp_ret ?_
 refine rt_1 T rfl (T.ev 0 rfl) ?_
 refine ⟨ret_int ?_, M.below⟩
 unfold sndE chkR
 (repeat' split) <;> first | rfl | omega | contradiction | (simp_all; done) | (simp_all; omega)
theorem checkSounds_any (A : Option Addr) (n c : Nat) (l : List Snd) (most : Int) (w : World) (hr : Rd w w.heap.size 4 A n (sc l)) (hn : n ≤ 1000000) :
   Calls Try.prog 98 #[.slice A n c, .int .i64 most] w fun e w' => e = .returned (.int .i64 (sndsE l most)) ∧ Below w.heap.size w w' := by
 have hl := hr.len4
 obtain ⟨bJ, oJ, SJ⟩ := Sp.old hr
 refine px_enter noEx Try.func98 rfl 24 rfl [.slice A n c, .int .i64 most] rfl rfl (Mem.init w _) ?_
 intro ac wc T M
 refine wp_seq ?_
 refine wp_region_lit ?_
 refine lq T (rn_assign rfl evc) ?_; clear T ac; intro ac T
 refine wpList_nil ?_
 replace T := T.pick [1, 2] rfl
 refine nm_then ?_
 refine wp_seq ?_
 refine wp_seq ?_
 refine wp_region_lit ?_
 refine lq T (rn_move rfl (T.ev 0 rfl)) ?_; clear T ac; intro ac T
 refine lq T (rn_lenS rfl Try.underlying38 (T.ev 0 rfl)) ?_; clear T ac; intro ac T
 refine lq T (rn_move rfl (T.ev 3 rfl)) ?_; clear T ac; intro ac T
 refine lq T (rn_gtr rfl (T.ev 1 rfl) (T.ev 0 rfl)) ?_; clear T ac; intro ac T
 refine wpList_nil ?_
 replace T := T.pick [0, 4] rfl
 refine nm_then ?_
 refine wp_if (T.ev 0 rfl) ?_ ?_
 ·intro h1
  refine wp_seq ?_
  refine wp_region_lit ?_
  refine lq T (rn_assign rfl evc) ?_; clear T ac; intro ac T
  refine wpList_nil ?_
  replace T := T.pick [0] rfl
  refine nm_then ?_
  refine wp_ret ?_
  refine rt_then ?_
  refine rt_1 T rfl (T.ev 0 rfl) ?_
  refine ⟨ret_int ?_, M.below⟩
  unfold sndsE
  rw [if_pos (by omega)]
 intro h1
 refine wp_skip ?_
 refine nm_then ?_
 refine wp_seq ?_
 refine wp_seq ?_
 refine wp_region_lit ?_
 refine lq T (rn_move rfl (T.ev 1 rfl)) ?_; clear T ac; intro ac T
 refine lq T (rn_lenS rfl Try.underlying38 (T.ev 0 rfl)) ?_; clear T ac; intro ac T
 refine lq T (rn_move rfl evc) ?_; clear T ac; intro ac T
 refine wpList_nil ?_
 replace T := T.pick [0, 1, 2] rfl
 refine nm_then ?_
 refine wp_block ?_
 refine wp_loop_n (fun mz ac wc => ∃ (k : Nat), mz = n - k ∧ (k ≤ n) ∧ (sndsL l = sndsL (l.drop k)) ∧ Tm ac 24 [(12, .slice A n c), (13, .int .i64 ((n : Nat) : Int)), (14, .int .i64 (k : Int))] ∧ Mem w noEx wc []) ?_ ?_
 ·exact ⟨_, 0, rfl, (by omega), rfl, T.pick [2, 1, 0] rfl, M.mask [] rfl⟩
 clear T M
 rintro mz ac wc ⟨k, hmm1, hk, H, T, M⟩
 refine wp_seq ?_
 refine wp_region_lit ?_
 refine lq T (rn_lss rfl (T.ev 2 rfl) (T.ev 1 rfl)) ?_; clear T ac; intro ac T
 refine wpList_nil ?_
 refine nm_then ?_
 refine wp_seq ?_
 refine wp_if (T.ev 0 rfl) ?_ ?_
 ·intro h2
  obtain ⟨x, hk1, hd⟩ := sc_next (l := l) (k := k) (by omega)
  rw [hd, sndsL] at H
  refine wp_skip ?_
  refine nm_then ?_
  refine wp_seq ?_
  refine wp_block ?_
  refine wp_seq ?_
  refine wp_region_lit ?_
  refine lq T (rn_indexAddr (size := 4) k rfl (T.ev 1 rfl) (T.ev 3 rfl) ⟨_, Try.underlying38, by kernel_rfl⟩ rfl (by omega) (SJ.at0 (by omega))) ?_; clear T ac; intro ac T
  refine lq (v := (.agg #[.int .i64 x.t0, .int .i64 x.t1, .int .i64 x.s0, .int .i64 x.s1])) T (rn_rowat (Sp.scR4 SJ M (List.nil_sublist _) hk1) rfl (T.ev 0 rfl) rfl) ?_; clear T ac; intro ac T
  refine l_w rfl ?_; intro K hK
  refine ow_al M T rfl rfl rfl rfl ?_; clear M T; intro g1 wc ac M T
  refine sh_out hK _ _ ?_; clear hK K
  refine l_w rfl ?_; intro K hK
  refine ow_stO M T rfl rfl (T.ev 0 rfl) (T.ev 1 rfl) rfl .head rfl (by simp) rfl (by kernel_rfl) ?_; clear M T; intro wc ac M T
  refine sh_out hK _ _ ?_; clear hK K
  refine wpList_nil ?_
  replace T := T.pick [0, 4, 5, 6] rfl
  refine nm_then ?_
  refine wp_seq ?_
  refine wp_region_lit ?_
  refine lq T (rn_rowO (Mem.nth M 0 rfl) rfl (T.ev 0 rfl) rfl) ?_; clear T ac; intro ac T
  refine l_w rfl ?_; intro K hK
  refine ow_call (first := []) (cap := []) T rfl rfl rfl rfl evf (.cons (T.ev 0 rfl) .nil) Try.func121 rfl rfl ?_
  refine Calls.mono (checkSound_any x _) ?_
  clear T
  rintro e wc ⟨rfl, hb⟩
  intro ac T
  replace M := M.call hb; clear hb
  refine sh_out hK _ _ ?_; clear hK K
  refine lq T (rn_assign rfl (T.ev 0 rfl)) ?_; clear T ac; intro ac T
  refine wpList_nil ?_
  replace T := T.pick [0, 4, 5, 6] rfl
  replace M := M.mask [false] rfl
  refine nm_then ?_
  refine wp_seq ?_
  refine wp_region_lit ?_
  refine lq T (rn_move rfl (T.ev 0 rfl)) ?_; clear T ac; intro ac T
  refine lq T (rn_neq rfl (T.ev 0 rfl) evc) ?_; clear T ac; intro ac T
  refine wpList_nil ?_
  replace T := T.pick [0, 2, 3, 4, 5] rfl
  refine nm_then ?_
  refine wp_ifn (T.ev 0 rfl) ?_ ?_
  ·intro h3
   refine wp_seq ?_
   refine wp_region_lit ?_
   refine lq T (rn_move rfl (T.ev 1 rfl)) ?_; clear T ac; intro ac T
   refine lq T (rn_assign rfl (T.ev 0 rfl)) ?_; clear T ac; intro ac T
   refine wpList_nil ?_
   replace T := T.pick [0] rfl
   refine nm_then ?_
   refine wp_ret ?_
   refine rt_blk ?_
   refine rt_then ?_
   refine rt_then ?_
   refine rt_blk ?_
   refine rt_then ?_
   refine rt_1 T rfl (T.ev 0 rfl) ?_
   refine ⟨ret_int ?_, M.below⟩
   unfold sndsE
   rw [if_neg (by omega), H]
   rw [if_neg (by simp_all)]
  intro h3
  refine wp_skip ?_
  refine nm_blk ?_
  refine nm_then ?_
  refine wp_region_lit ?_
  refine lq T (rn_add rfl (T.ev 4 rfl) evc (by omega)) ?_; clear T ac; intro ac T
  refine l_q (v := (.int .i64 ((k : Int) + 1))) (T.pick [0, 1, 2, 3, 4] rfl) rfl rfl rfl rfl (rn_move rfl (T.ev 0 rfl)) ?_; clear T ac; intro ac T
  refine wpList_nil ?_
  replace T := T.pick [0, 4, 5] rfl
  refine nm_then ?_
  rw [if_pos (by simp_all)] at H
  exact ⟨_, by omega, k + 1, rfl, (by omega), H, T.pick [1, 2, 0] rfl, M.mask [] rfl⟩
 intro h2
 rw [List.drop_of_length_le (by omega), sndsL] at H
 refine wp_exit ?_
 refine ex_then ?_
 refine ex_then ?_
 refine ex_hit ?_
 refine nm_then ?_
 refine wp_seq ?_
 refine wp_region_lit ?_
 refine lq T (rn_assign rfl evc) ?_; clear T ac; intro ac T
 refine wpList_nil ?_
 replace T := T.pick [0] rfl
 refine nm_then ?_
 refine wp_ret ?_
 refine rt_1 T rfl (T.ev 0 rfl) ?_
 refine ⟨ret_int ?_, M.below⟩
 unfold sndsE
 rw [if_neg (by omega), H]
theorem vdue_any (l : Lw) (n : Int) (w : World) (h0 : -1000 ≤ l.first ∧ l.first ≤ 1000) (h1 : -1000 ≤ l.step ∧ l.step ≤ 1000) (h2 : -1000 ≤ n ∧ n ≤ 1000) :
   Calls Try.prog 56 #[.agg #[.int .i64 l.first, .int .i64 l.step, .int .i64 l.span, .int .i64 l.press], .int .i64 n] w fun e w' => e = .returned (.int .i64 (l.first + l.step * n)) ∧ Below w.heap.size w w' := by
 have hm := mulB h1 h2
 refine px_enter noEx Try.func56 rfl 12 rfl [.agg #[.int .i64 l.first, .int .i64 l.step, .int .i64 l.span, .int .i64 l.press], .int .i64 n] rfl rfl (Mem.init w _) ?_
 intro ac wc T M
 refine wp_seq ?_
 refine wp_region_lit ?_
 refine l_w rfl ?_; intro K hK
 refine ow_bx M T rfl rfl rfl rfl (T.ev 0 rfl) rfl ?_; clear M T; intro g1 wc ac M T
 refine sh_out hK _ _ ?_; clear hK K
 refine lq T (rn_assign rfl evc) ?_; clear T ac; intro ac T
 refine wpList_nil ?_
 replace T := T.pick [1, 3] rfl
 refine nm_then ?_
 refine wp_seq ?_
 refine wp_region_lit ?_
 refine lq (v := (.pointer (some ⟨g1, 0, none⟩))) T (rn_fieldAddr (off := 0) rfl (T.ev 0 rfl) (fun _ _ _ => by kernel_rfl)) ?_; clear T ac; intro ac T
 refine lq T (rn_one (Mem.nth M 0 rfl) rfl (T.ev 0 rfl) rfl) ?_; clear T ac; intro ac T
 refine lq (v := (.pointer (some ⟨g1, 1, none⟩))) T (rn_fieldAddr (off := 1) rfl (T.ev 2 rfl) (fun _ _ _ => by kernel_rfl)) ?_; clear T ac; intro ac T
 refine lq T (rn_one (Mem.nth M 0 rfl) rfl (T.ev 0 rfl) rfl) ?_; clear T ac; intro ac T
 refine lq T (rn_move rfl (T.ev 5 rfl)) ?_; clear T ac; intro ac T
 refine lq T (rn_mul rfl (T.ev 1 rfl) (T.ev 0 rfl) (by omega)) ?_; clear T ac; intro ac T
 refine lq T (rn_add rfl (T.ev 4 rfl) (T.ev 0 rfl) (by omega)) ?_; clear T ac; intro ac T
 refine lq T (rn_assign rfl (T.ev 0 rfl)) ?_; clear T ac; intro ac T
 refine wpList_nil ?_
 replace T := T.pick [0] rfl
 replace M := M.mask [false] rfl
 refine nm_then ?_
 refine wp_ret ?_
 refine rt_1 T rfl (T.ev 0 rfl) ?_
 exact ⟨rfl, M.below⟩
theorem times_any (x0 x1 n : Int) (w : World) (h0 : -1000 ≤ x0 ∧ x0 ≤ 1000) (h1 : -1000 ≤ x1 ∧ x1 ≤ 1000) (h2 : -1000 ≤ n ∧ n ≤ 1000) :
   Calls Try.prog 120 #[.agg #[.int .i64 x0, .int .i64 x1], .int .i64 n] w fun e w' => e = .returned (.agg #[.int .i64 (n * x0), .int .i64 (n * x1)]) ∧ Below w.heap.size w w' := by
 have hm := mulB h2 h0
 have hm2 := mulB h2 h1
 refine px_enter noEx Try.func120 rfl 14 rfl [.agg #[.int .i64 x0, .int .i64 x1], .int .i64 n] rfl rfl (Mem.init w _) ?_
 intro ac wc T M
 refine wp_seq ?_
 refine wp_region_lit ?_
 refine l_w rfl ?_; intro K hK
 refine ow_bx M T rfl rfl rfl rfl (T.ev 0 rfl) rfl ?_; clear M T; intro g1 wc ac M T
 refine sh_out hK _ _ ?_; clear hK K
 refine l_w rfl ?_; intro K hK
 refine ow_al M T rfl rfl rfl rfl ?_; clear M T; intro g2 wc ac M T
 refine sh_out hK _ _ ?_; clear hK K
 refine wpList_nil ?_
 replace T := T.pick [0, 1, 3] rfl
 refine nm_then ?_
 refine wp_seq ?_
 refine wp_region_lit ?_
 refine lq T (rn_move rfl (T.ev 2 rfl)) ?_; clear T ac; intro ac T
 refine lq (v := (.pointer (some ⟨g1, 0, none⟩))) T (rn_fieldAddr (off := 0) rfl (T.ev 2 rfl) (fun _ _ _ => by kernel_rfl)) ?_; clear T ac; intro ac T
 refine lq T (rn_one (Mem.nth M 1 rfl) rfl (T.ev 0 rfl) rfl) ?_; clear T ac; intro ac T
 refine lq T (rn_mul rfl (T.ev 2 rfl) (T.ev 0 rfl) (by omega)) ?_; clear T ac; intro ac T
 refine lq T (rn_move rfl (T.ev 6 rfl)) ?_; clear T ac; intro ac T
 refine lq (v := (.pointer (some ⟨g1, 1, none⟩))) T (rn_fieldAddr (off := 1) rfl (T.ev 6 rfl) (fun _ _ _ => by kernel_rfl)) ?_; clear T ac; intro ac T
 refine lq T (rn_one (Mem.nth M 1 rfl) rfl (T.ev 0 rfl) rfl) ?_; clear T ac; intro ac T
 refine lq T (rn_mul rfl (T.ev 2 rfl) (T.ev 0 rfl) (by omega)) ?_; clear T ac; intro ac T
 refine lq (v := (.agg #[.int .i64 (n * x0), .int .i64 (n * x1)])) T (rn_build rfl (.cons (T.ev 4 rfl) (.cons (T.ev 0 rfl) .nil)) (fun _ => by kernel_rfl)) ?_; clear T ac; intro ac T
 refine l_w rfl ?_; intro K hK
 refine ow_stO M T rfl rfl (T.ev 9 rfl) (T.ev 0 rfl) rfl .head rfl (by simp) rfl (by kernel_rfl) ?_; clear M T; intro wc ac M T
 refine sh_out hK _ _ ?_; clear hK K
 refine wpList_nil ?_
 replace T := T.pick [9] rfl
 replace M := M.mask [true, false] rfl
 refine nm_then ?_
 refine wp_ret ?_
 refine rt_c M T rfl (T.ev 0 rfl) (nthE_mem (i := 0) rfl) rfl ?_
 exact ⟨rfl, M.below⟩
theorem vplus_any (x0 x1 y0 y1 : Int) (w : World) (hx0 : -1000000000 ≤ x0 ∧ x0 ≤ 1000000000) (hx1 : -1000000000 ≤ x1 ∧ x1 ≤ 1000000000) (hy0 : -1000000000 ≤ y0 ∧ y0 ≤ 1000000000) (hy1 : -1000000000 ≤ y1 ∧ y1 ≤ 1000000000) :
   Calls Try.prog 96 #[.agg #[.int .i64 x0, .int .i64 x1], .agg #[.int .i64 y0, .int .i64 y1]] w fun e w' => e = .returned (.agg #[.int .i64 (x0 + y0), .int .i64 (x1 + y1)]) ∧ Below w.heap.size w w' := by
 refine px_enter noEx Try.func96 rfl 16 rfl [.agg #[.int .i64 x0, .int .i64 x1], .agg #[.int .i64 y0, .int .i64 y1]] rfl rfl (Mem.init w _) ?_
 intro ac wc T M
 refine wp_seq ?_
 refine wp_region_lit ?_
 refine l_w rfl ?_; intro K hK
 refine ow_bx M T rfl rfl rfl rfl (T.ev 0 rfl) rfl ?_; clear M T; intro g1 wc ac M T
 refine sh_out hK _ _ ?_; clear hK K
 refine l_w rfl ?_; intro K hK
 refine ow_bx M T rfl rfl rfl rfl (T.ev 2 rfl) rfl ?_; clear M T; intro g2 wc ac M T
 refine sh_out hK _ _ ?_; clear hK K
 refine l_w rfl ?_; intro K hK
 refine ow_al M T rfl rfl rfl rfl ?_; clear M T; intro g3 wc ac M T
 refine sh_out hK _ _ ?_; clear hK K
 refine wpList_nil ?_
 replace T := T.pick [0, 1, 2] rfl
 refine nm_then ?_
 refine wp_seq ?_
 refine wp_region_lit ?_
 refine lq (v := (.pointer (some ⟨g1, 0, none⟩))) T (rn_fieldAddr (off := 0) rfl (T.ev 2 rfl) (fun _ _ _ => by kernel_rfl)) ?_; clear T ac; intro ac T
 refine lq T (rn_one (Mem.nth M 2 rfl) rfl (T.ev 0 rfl) rfl) ?_; clear T ac; intro ac T
 refine lq (v := (.pointer (some ⟨g2, 0, none⟩))) T (rn_fieldAddr (off := 0) rfl (T.ev 3 rfl) (fun _ _ _ => by kernel_rfl)) ?_; clear T ac; intro ac T
 refine lq T (rn_one (Mem.nth M 1 rfl) rfl (T.ev 0 rfl) rfl) ?_; clear T ac; intro ac T
 refine lq T (rn_add rfl (T.ev 2 rfl) (T.ev 0 rfl) (by omega)) ?_; clear T ac; intro ac T
 refine lq (v := (.pointer (some ⟨g1, 1, none⟩))) T (rn_fieldAddr (off := 1) rfl (T.ev 7 rfl) (fun _ _ _ => by kernel_rfl)) ?_; clear T ac; intro ac T
 refine lq T (rn_one (Mem.nth M 2 rfl) rfl (T.ev 0 rfl) rfl) ?_; clear T ac; intro ac T
 refine lq (v := (.pointer (some ⟨g2, 1, none⟩))) T (rn_fieldAddr (off := 1) rfl (T.ev 8 rfl) (fun _ _ _ => by kernel_rfl)) ?_; clear T ac; intro ac T
 refine lq T (rn_one (Mem.nth M 1 rfl) rfl (T.ev 0 rfl) rfl) ?_; clear T ac; intro ac T
 refine lq T (rn_add rfl (T.ev 2 rfl) (T.ev 0 rfl) (by omega)) ?_; clear T ac; intro ac T
 refine lq (v := (.agg #[.int .i64 (x0 + y0), .int .i64 (x1 + y1)])) T (rn_build rfl (.cons (T.ev 5 rfl) (.cons (T.ev 0 rfl) .nil)) (fun _ => by kernel_rfl)) ?_; clear T ac; intro ac T
 refine l_w rfl ?_; intro K hK
 refine ow_stO M T rfl rfl (T.ev 11 rfl) (T.ev 0 rfl) rfl .head rfl (by simp) rfl (by kernel_rfl) ?_; clear M T; intro wc ac M T
 refine sh_out hK _ _ ?_; clear hK K
 refine wpList_nil ?_
 replace T := T.pick [11] rfl
 replace M := M.mask [true, false, false] rfl
 refine nm_then ?_
 refine wp_ret ?_
 refine rt_c M T rfl (T.ev 0 rfl) (nthE_mem (i := 0) rfl) rfl ?_
 exact ⟨rfl, M.below⟩
theorem vless_any (x0 x1 y0 y1 : Int) (w : World) (hx0 : -1000000000 ≤ x0 ∧ x0 ≤ 1000000000) (hx1 : -1000000000 ≤ x1 ∧ x1 ≤ 1000000000) (hy0 : -1000000000 ≤ y0 ∧ y0 ≤ 1000000000) (hy1 : -1000000000 ≤ y1 ∧ y1 ≤ 1000000000) :
   Calls Try.prog 106 #[.agg #[.int .i64 x0, .int .i64 x1], .agg #[.int .i64 y0, .int .i64 y1]] w fun e w' => e = .returned (.agg #[.int .i64 (x0 - y1), .int .i64 (x1 - y0)]) ∧ Below w.heap.size w w' := by
 refine px_enter noEx Try.func106 rfl 16 rfl [.agg #[.int .i64 x0, .int .i64 x1], .agg #[.int .i64 y0, .int .i64 y1]] rfl rfl (Mem.init w _) ?_
 intro ac wc T M
 refine wp_seq ?_
 refine wp_region_lit ?_
 refine l_w rfl ?_; intro K hK
 refine ow_bx M T rfl rfl rfl rfl (T.ev 0 rfl) rfl ?_; clear M T; intro g1 wc ac M T
 refine sh_out hK _ _ ?_; clear hK K
 refine l_w rfl ?_; intro K hK
 refine ow_bx M T rfl rfl rfl rfl (T.ev 2 rfl) rfl ?_; clear M T; intro g2 wc ac M T
 refine sh_out hK _ _ ?_; clear hK K
 refine l_w rfl ?_; intro K hK
 refine ow_al M T rfl rfl rfl rfl ?_; clear M T; intro g3 wc ac M T
 refine sh_out hK _ _ ?_; clear hK K
 refine wpList_nil ?_
 replace T := T.pick [0, 1, 2] rfl
 refine nm_then ?_
 refine wp_seq ?_
 refine wp_region_lit ?_
 refine lq (v := (.pointer (some ⟨g1, 0, none⟩))) T (rn_fieldAddr (off := 0) rfl (T.ev 2 rfl) (fun _ _ _ => by kernel_rfl)) ?_; clear T ac; intro ac T
 refine lq T (rn_one (Mem.nth M 2 rfl) rfl (T.ev 0 rfl) rfl) ?_; clear T ac; intro ac T
 refine lq (v := (.pointer (some ⟨g2, 1, none⟩))) T (rn_fieldAddr (off := 1) rfl (T.ev 3 rfl) (fun _ _ _ => by kernel_rfl)) ?_; clear T ac; intro ac T
 refine lq T (rn_one (Mem.nth M 1 rfl) rfl (T.ev 0 rfl) rfl) ?_; clear T ac; intro ac T
 refine lq T (rn_sub rfl (T.ev 2 rfl) (T.ev 0 rfl) (by omega)) ?_; clear T ac; intro ac T
 refine lq (v := (.pointer (some ⟨g1, 1, none⟩))) T (rn_fieldAddr (off := 1) rfl (T.ev 7 rfl) (fun _ _ _ => by kernel_rfl)) ?_; clear T ac; intro ac T
 refine lq T (rn_one (Mem.nth M 2 rfl) rfl (T.ev 0 rfl) rfl) ?_; clear T ac; intro ac T
 refine lq (v := (.pointer (some ⟨g2, 0, none⟩))) T (rn_fieldAddr (off := 0) rfl (T.ev 8 rfl) (fun _ _ _ => by kernel_rfl)) ?_; clear T ac; intro ac T
 refine lq T (rn_one (Mem.nth M 1 rfl) rfl (T.ev 0 rfl) rfl) ?_; clear T ac; intro ac T
 refine lq T (rn_sub rfl (T.ev 2 rfl) (T.ev 0 rfl) (by omega)) ?_; clear T ac; intro ac T
 refine lq (v := (.agg #[.int .i64 (x0 - y1), .int .i64 (x1 - y0)])) T (rn_build rfl (.cons (T.ev 5 rfl) (.cons (T.ev 0 rfl) .nil)) (fun _ => by kernel_rfl)) ?_; clear T ac; intro ac T
 refine l_w rfl ?_; intro K hK
 refine ow_stO M T rfl rfl (T.ev 11 rfl) (T.ev 0 rfl) rfl .head rfl (by simp) rfl (by kernel_rfl) ?_; clear M T; intro wc ac M T
 refine sh_out hK _ _ ?_; clear hK K
 refine wpList_nil ?_
 replace T := T.pick [11] rfl
 replace M := M.mask [true, false, false] rfl
 refine nm_then ?_
 refine wp_ret ?_
 refine rt_c M T rfl (T.ev 0 rfl) (nthE_mem (i := 0) rfl) rfl ?_
 exact ⟨rfl, M.below⟩
theorem rise_any (lo hi : Snd) (p : Int) (w : World) (gl : lo.good) (gh : hi.good) (hp : 0 ≤ p ∧ p ≤ 3) :
   Calls Try.prog 97 #[.agg #[.int .i64 lo.t0, .int .i64 lo.t1, .int .i64 lo.s0, .int .i64 lo.s1], .agg #[.int .i64 hi.t0, .int .i64 hi.t1, .int .i64 hi.s0, .int .i64 hi.s1], .int .i64 p] w fun e w' => e = .returned (.agg #[.int .i64 ((riseP lo hi p).1), .int .i64 ((riseP lo hi p).2)]) ∧ Below w.heap.size w w' := by
 obtain ⟨g1, g2⟩ := gl
 obtain ⟨g3, g4⟩ := gh
 have m1 := mulB (a := p) (b := hi.s0) (by omega) (by omega)
 have m2 := mulB (a := p) (b := hi.s1) (by omega) (by omega)
 have m3 := mulB (a := p) (b := lo.s0) (by omega) (by omega)
 have m4 := mulB (a := p) (b := lo.s1) (by omega) (by omega)
 refine px_enter noEx Try.func97 rfl 19 rfl [.agg #[.int .i64 lo.t0, .int .i64 lo.t1, .int .i64 lo.s0, .int .i64 lo.s1], .agg #[.int .i64 hi.t0, .int .i64 hi.t1, .int .i64 hi.s0, .int .i64 hi.s1], .int .i64 p] rfl rfl (Mem.init w _) ?_
 intro ac wc T M
 refine wp_seq ?_
 refine wp_region_lit ?_
 refine l_w rfl ?_; intro K hK
 refine ow_bx M T rfl rfl rfl rfl (T.ev 0 rfl) rfl ?_; clear M T; intro g1 wc ac M T
 refine sh_out hK _ _ ?_; clear hK K
 refine l_w rfl ?_; intro K hK
 refine ow_bx M T rfl rfl rfl rfl (T.ev 2 rfl) rfl ?_; clear M T; intro g2 wc ac M T
 refine sh_out hK _ _ ?_; clear hK K
 refine l_w rfl ?_; intro K hK
 refine ow_al M T rfl rfl rfl rfl ?_; clear M T; intro g3 wc ac M T
 refine sh_out hK _ _ ?_; clear hK K
 refine wpList_nil ?_
 replace T := T.pick [0, 1, 2, 5] rfl
 refine nm_then ?_
 refine wp_seq ?_
 refine g_start2 M (M.perm [1, 2] rfl rfl) 13 (by kernel_rfl) rfl (by kernel_rfl) ?_
 clear M; intro wc M
 refine g_addG 12 M ?_
 refine gq (v := (.pointer (some ⟨g2, 2, none⟩))) T 0 1 rfl (fun _ _ _ _ _ => (rn_fieldAddr (off := 2) rfl (T.ev 1 rfl) (fun _ _ _ => by kernel_rfl))) ?_; clear T ac; intro ac T
 refine gq T 1 3 rfl (fun B w' hD hl hS => (rn_rowO (Mem.nth (show Mem w noEx w' _ from ((MA.lft hS) (hD.wait (i := 1) (m := 12) (by kernel_rfl) hl))) 1 rfl) rfl (T.ev 0 rfl) rfl)) ?_; clear T ac; intro ac T
 refine gq T 2 7 rfl (fun _ _ _ _ _ => (rn_move rfl (T.ev 5 rfl))) ?_; clear T ac; intro ac T
 refine gq (v := (.pointer (some ⟨g1, 0, none⟩))) T 4 23 rfl (fun _ _ _ _ _ => (rn_fieldAddr (off := 0) rfl (T.ev 5 rfl) (fun _ _ _ => by kernel_rfl))) ?_; clear T ac; intro ac T
 refine gq T 5 55 rfl (fun B w' hD hl hS => (rn_rowO (Mem.nth (show Mem w noEx w' _ from ((MA.lft hS) (hD.wait (i := 5) (m := 12) (by kernel_rfl) hl))) 2 rfl) rfl (T.ev 0 rfl) rfl)) ?_; clear T ac; intro ac T
 refine gq (v := (.pointer (some ⟨g1, 2, none⟩))) T 6 119 rfl (fun _ _ _ _ _ => (rn_fieldAddr (off := 2) rfl (T.ev 7 rfl) (fun _ _ _ => by kernel_rfl))) ?_; clear T ac; intro ac T
 refine gq T 7 247 rfl (fun B w' hD hl hS => (rn_rowO (Mem.nth (show Mem w noEx w' _ from ((MA.lft hS) (hD.wait (i := 7) (m := 12) (by kernel_rfl) hl))) 2 rfl) rfl (T.ev 0 rfl) rfl)) ?_; clear T ac; intro ac T
 refine gq T 8 503 rfl (fun _ _ _ _ _ => (rn_move rfl (T.ev 10 rfl))) ?_; clear T ac; intro ac T
 refine gw 3 511 ?_; intro K hK
 refine ow_call (first := []) (cap := []) T rfl rfl rfl rfl evf (.cons (T.ev 6 rfl) (.cons (T.ev 5 rfl) .nil)) Try.func120 rfl rfl ?_
 refine Calls.mono (times_any hi.s0 hi.s1 p _ (by (try dsimp only); omega) (by (try dsimp only); omega) (by (try dsimp only); omega)) ?_
 clear T
 rintro e wc ⟨rfl, hb⟩
 intro ac T
 replace M := M.call hb; clear hb
 refine sh_out hK _ _ (MA.mk (fun _ => M.mask [true, true, true] rfl) (M.mask [false, true, true] rfl)) ?_; clear hK K
 refine gw 9 1023 ?_; intro K hK
 refine ow_call (first := []) (cap := []) T rfl rfl rfl rfl evf (.cons (T.ev 2 rfl) (.cons (T.ev 1 rfl) .nil)) Try.func120 rfl rfl ?_
 refine Calls.mono (times_any lo.s0 lo.s1 p _ (by (try dsimp only); omega) (by (try dsimp only); omega) (by (try dsimp only); omega)) ?_
 clear T
 rintro e wc ⟨rfl, hb⟩
 intro ac T
 replace M := M.call hb; clear hb
 refine sh_out hK _ _ (MA.mk (fun _ => M.mask [true, true, true] rfl) (M.mask [false, true, true] rfl)) ?_; clear hK K
 refine gw 10 2047 ?_; intro K hK
 refine ow_call (first := []) (cap := []) T rfl rfl rfl rfl evf (.cons (T.ev 5 rfl) (.cons (T.ev 0 rfl) .nil)) Try.func96 rfl rfl ?_
 refine Calls.mono (vplus_any lo.t0 lo.t1 (p * lo.s0) (p * lo.s1) _ (by omega) (by omega) (by omega) (by omega)) ?_
 clear T
 rintro e wc ⟨rfl, hb⟩
 intro ac T
 replace M := M.call hb; clear hb
 refine sh_out hK _ _ (MA.mk (fun _ => M.mask [true, true, true] rfl) (M.mask [false, true, true] rfl)) ?_; clear hK K
 refine gw 11 4095 ?_; intro K hK
 refine ow_call (first := []) (cap := []) T rfl rfl rfl rfl evf (.cons (T.ev 2 rfl) (.cons (T.ev 0 rfl) .nil)) Try.func106 rfl rfl ?_
 refine Calls.mono (vless_any (p * hi.s0) (p * hi.s1) (lo.t0 + (p * lo.s0)) (lo.t1 + (p * lo.s1)) _ (by omega) (by omega) (by omega) (by omega)) ?_
 clear T
 rintro e wc ⟨rfl, hb⟩
 intro ac T
 replace M := M.call hb; clear hb
 refine sh_out hK _ _ (MA.mk (fun _ => M.mask [true, true, true] rfl) (M.mask [false, true, true] rfl)) ?_; clear hK K
 refine gw 12 8191 ?_; intro K hK
 refine ow_stO M T rfl rfl (T.ev 12 rfl) (T.ev 0 rfl) rfl .head rfl (by simp) rfl (by kernel_rfl) ?_; clear M T; intro wc ac M T
 refine sh_out hK _ _ (MA.mk (fun h => (no_of (by kernel_rfl) h).elim) (M.mask [false, true, true] rfl)) ?_; clear hK K
 refine g_done (by kernel_rfl) ?_
 replace T := T.pick [12] rfl
 replace M := M.mask [true, false, false] rfl
 refine nm_then ?_
 refine wp_ret ?_
 refine rt_c M T rfl (T.ev 0 rfl) (nthE_mem (i := 0) rfl) rfl ?_
 exact ⟨rfl, M.below⟩
theorem beats_any (l : Lw) (lo hi : Snd) (w : World) (hp : 0 ≤ l.press ∧ l.press ≤ 3) (gl : lo.good) (gh : hi.good)  :
   Calls Try.prog 66 #[.agg #[.int .i64 l.first, .int .i64 l.step, .int .i64 l.span, .int .i64 l.press], .agg #[.int .i64 lo.t0, .int .i64 lo.t1, .int .i64 lo.s0, .int .i64 lo.s1], .agg #[.int .i64 hi.t0, .int .i64 hi.t1, .int .i64 hi.s0, .int .i64 hi.s1]] w (BeatsPost l lo hi w) := by
 obtain ⟨⟨gl1, gl2⟩, gh1, gh2⟩ := And.intro gl gh
 refine px_enter noEx Try.func66 rfl 27 rfl [.agg #[.int .i64 l.first, .int .i64 l.step, .int .i64 l.span, .int .i64 l.press], .agg #[.int .i64 lo.t0, .int .i64 lo.t1, .int .i64 lo.s0, .int .i64 lo.s1], .agg #[.int .i64 hi.t0, .int .i64 hi.t1, .int .i64 hi.s0, .int .i64 hi.s1]] rfl rfl (Mem.init w _) ?_
 intro ac wc T M
 refine wp_seq ?_
 refine wp_region_lit ?_
 refine l_w rfl ?_; intro K hK
 refine ow_bx M T rfl rfl rfl rfl (T.ev 0 rfl) rfl ?_; clear M T; intro g1 wc ac M T
 refine sh_out hK _ _ ?_; clear hK K
 refine l_w rfl ?_; intro K hK
 refine ow_bx M T rfl rfl rfl rfl (T.ev 2 rfl) rfl ?_; clear M T; intro g2 wc ac M T
 refine sh_out hK _ _ ?_; clear hK K
 refine l_w rfl ?_; intro K hK
 refine ow_bx M T rfl rfl rfl rfl (T.ev 4 rfl) rfl ?_; clear M T; intro g3 wc ac M T
 refine sh_out hK _ _ ?_; clear hK K
 refine lq T (rn_assign rfl evc) ?_; clear T ac; intro ac T
 refine wpList_nil ?_
 replace T := T.pick [1, 2, 3] rfl
 refine nm_then ?_
 refine wp_seq ?_
 refine wp_region_lit ?_
 refine lq T (rn_assign rfl evc) ?_; clear T ac; intro ac T
 refine wpList_nil ?_
 refine nm_then ?_
 refine wp_seq ?_
 refine wp_seq ?_
 refine wp_region_lit ?_
 refine lq (v := (.pointer (some ⟨g1, 3, none⟩))) T (rn_fieldAddr (off := 3) rfl (T.ev 3 rfl) (fun _ _ _ => by kernel_rfl)) ?_; clear T ac; intro ac T
 refine lq T (rn_one (Mem.nth M 2 rfl) rfl (T.ev 0 rfl) rfl) ?_; clear T ac; intro ac T
 refine lq T (rn_add rfl (T.ev 0 rfl) evc (by omega)) ?_; clear T ac; intro ac T
 refine lq T (rn_move rfl evc) ?_; clear T ac; intro ac T
 refine wpList_nil ?_
 replace T := T.pick [0, 1, 4, 5, 6] rfl
 replace M := M.mask [true, true, false] rfl
 refine nm_then ?_
 refine wp_block ?_
 refine wp_loop_n (fun mz ac wc => ∃ (k : Nat) (A : Option Addr) (c : Nat) (I : List (Nat × BA)), mz = (l.press + 1 - k).toNat ∧ ((k : Int) ≤ l.press + 1) ∧ (((beatsL l lo hi).take k).length ≤ 4) ∧ (Sl 40 2 (.slice A ((beatsL l lo hi).take k).length c) ((beatsL l lo hi).take k).length (rc ((beatsL l lo hi).take k)) I) ∧ Tm ac 27 [(4, .pointer (some ⟨g2, 0, none⟩)), (5, .pointer (some ⟨g3, 0, none⟩)), (7, .slice A (((beatsL l lo hi).take k).length) c), (11, .int .i64 (l.press + 1)), (12, .int .i64 (k : Int))] ∧ Mem w noEx wc ((g3, .cells [.int .i64 hi.t0, .int .i64 hi.t1, .int .i64 hi.s0, .int .i64 hi.s1]) :: (g2, .cells [.int .i64 lo.t0, .int .i64 lo.t1, .int .i64 lo.s0, .int .i64 lo.s1]) :: I)) ?_ ?_
 ·exact ⟨_, 0, none, 0, [], rfl, (by omega), (by simp), (Sl.nil _ _), T.pick [4, 3, 2, 1, 0] rfl, M.mask [true, true] rfl⟩
 clear T M
 rintro mz ac wc ⟨k, A, c, I, hmm1, hk, hlk, hsl, T, M⟩
 refine wp_seq ?_
 refine wp_region_lit ?_
 refine lq T (rn_lss rfl (T.ev 4 rfl) (T.ev 3 rfl)) ?_; clear T ac; intro ac T
 refine wpList_nil ?_
 refine nm_then ?_
 refine wp_seq ?_
 refine wp_if (T.ev 0 rfl) ?_ ?_
 ·intro h1
  have hb := beatP_bd gl gh (p := (k : Int)) (by omega)
  have hb2 : (beatP lo hi (k : Int)).1 = hi.t0 + (riseP lo hi (k : Int)).1 ∧ (beatP lo hi (k : Int)).2 = hi.t1 + (riseP lo hi (k : Int)).2 := ⟨rfl, rfl⟩
  refine wp_skip ?_
  refine nm_then ?_
  refine wp_seq ?_
  refine wp_block ?_
  refine wp_seq ?_
  refine wp_region_lit ?_
  refine lq T (rn_move rfl (T.ev 5 rfl)) ?_; clear T ac; intro ac T
  refine lq T (rn_assign rfl (T.ev 0 rfl)) ?_; clear T ac; intro ac T
  refine wpList_nil ?_
  replace T := T.pick [0, 3, 4, 5, 6, 7] rfl
  refine nm_then ?_
  refine g_start2 M (M.perm [0, 1] rfl rfl) 11 (by kernel_rfl) rfl (by kernel_rfl) ?_
  clear M; intro wc M
  refine gq T 0 1 rfl (fun _ _ _ _ _ => (rn_move rfl (T.ev 3 rfl))) ?_; clear T ac; intro ac T
  refine gq (v := (.pointer (some ⟨g3, 0, none⟩))) T 1 3 rfl (fun _ _ _ _ _ => (rn_fieldAddr (off := 0) rfl (T.ev 3 rfl) (fun _ _ _ => by kernel_rfl))) ?_; clear T ac; intro ac T
  refine gq T 2 7 rfl (fun B w' hD hl hS => (rn_rowO (Mem.nth (show Mem w noEx w' _ from hS) 0 rfl) rfl (T.ev 0 rfl) rfl)) ?_; clear T ac; intro ac T
  refine gq T 3 15 rfl (fun B w' hD hl hS => (rn_rowO (Mem.nth (show Mem w noEx w' _ from hS) 1 rfl) rfl (T.ev 4 rfl) rfl)) ?_; clear T ac; intro ac T
  refine gq T 4 31 rfl (fun B w' hD hl hS => (rn_rowO (Mem.nth (show Mem w noEx w' _ from hS) 0 rfl) rfl (T.ev 6 rfl) rfl)) ?_; clear T ac; intro ac T
  refine gq T 5 63 rfl (fun _ _ _ _ _ => (rn_move rfl (T.ev 5 rfl))) ?_; clear T ac; intro ac T
  refine gw 6 127 ?_; intro K hK
  refine ow_call (first := []) (cap := []) T rfl rfl rfl rfl evf (.cons (T.ev 2 rfl) (.cons (T.ev 1 rfl) (.cons (T.ev 0 rfl) .nil))) Try.func97 rfl rfl ?_
  refine Calls.mono (rise_any lo hi (k : Int) _ gl gh (by (try dsimp only); omega)) ?_
  clear T
  rintro e wc ⟨rfl, hb⟩
  intro ac T
  replace M := M.call hb; clear hb
  refine sh_out hK _ _ (M.perm [0, 1] rfl rfl) ?_; clear hK K
  refine gw 7 255 ?_; intro K hK
  refine ow_call (first := []) (cap := []) T rfl rfl rfl rfl evf (.cons (T.ev 4 rfl) (.cons (T.ev 0 rfl) .nil)) Try.func96 rfl rfl ?_
  refine Calls.mono (vplus_any hi.t0 hi.t1 ((riseP lo hi (k : Int)).1) ((riseP lo hi (k : Int)).2) _ (by omega) (by omega) (by omega) (by omega)) ?_
  clear T
  rintro e wc ⟨rfl, hb⟩
  intro ac T
  replace M := M.call hb; clear hb
  refine sh_out hK _ _ (M.perm [0, 1] rfl rfl) ?_; clear hK K
  refine gw 8 511 ?_; intro K hK
  refine ow_bs (e := 40) [.int .i64 (hi.t0 + ((riseP lo hi (k : Int)).1)), .int .i64 (hi.t1 + ((riseP lo hi (k : Int)).2))] M T rfl rfl rfl rfl (.cons (T.ev 0 rfl) .nil) (fun _ => by kernel_rfl) ?_; clear M T; intro g4 wc ac M T
  refine sh_out hK _ _ (M.perm [1, 2] rfl rfl) ?_; clear hK K
  refine gw 9 1023 ?_; intro K hK
  refine ow_app ([(g4, .cells [.int .i64 (hi.t0 + ((riseP lo hi (k : Int)).1)), .int .i64 (hi.t1 + ((riseP lo hi (k : Int)).2))]), (g3, .cells [.int .i64 hi.t0, .int .i64 hi.t1, .int .i64 hi.s0, .int .i64 hi.s1]), (g2, .cells [.int .i64 lo.t0, .int .i64 lo.t1, .int .i64 lo.s0, .int .i64 lo.s1])]) Try.info40 hsl M (by first | rfl | simp) T rfl rfl rfl rfl Try.underlying50 rfl rfl rfl (by omega) (T.ev 8 rfl) (T.ev 0 rfl) (nthE_mem (i := 0) rfl) rfl rfl ?_; clear M T; intro ga1 cga1 wc ac M T
  refine sh_out hK _ _ (M.mask [false, false, true, true] rfl) ?_; clear hK K
  refine g_q (v := (.slice (some ⟨ga1, 0, none⟩) (((beatsL l lo hi).take k).length + 1) cga1)) (T := T.pick [0, 1, 2, 3, 4, 5, 6, 7, 8, 9, 10, 11, 12, 14, 15] rfl) (i := 10) rfl (by kernel_rfl) (by kernel_rfl : (pbits 11 1023).setIfInBounds 10 true = pbits 11 2047) si_U (fun _ _ _ h => h) rfl rfl rfl rfl (fun _ _ _ _ _ => (rn_assign rfl (T.ev 0 rfl))) ?_; clear T ac; intro ac T
  refine g_done (by kernel_rfl) ?_
  replace T := T.pick [0, 12, 13, 14, 15] rfl
  replace M := M.mask [true, false, true, true] rfl
  refine nm_blk ?_
  refine nm_then ?_
  refine wp_region_lit ?_
  refine lq T (rn_add rfl (T.ev 4 rfl) evc (by omega)) ?_; clear T ac; intro ac T
  refine l_q (v := (.int .i64 ((k : Int) + 1))) (T.pick [0, 1, 2, 3, 4] rfl) rfl rfl rfl rfl (rn_move rfl (T.ev 0 rfl)) ?_; clear T ac; intro ac T
  refine wpList_nil ?_
  replace T := T.pick [0, 2, 3, 4, 5] rfl
  refine nm_then ?_
  have e9 : ((beatsL l lo hi).take k).length + 1 = ((beatsL l lo hi).take (k + 1)).length := by rw [beatsL_take (by omega), List.length_append]; rfl
  have e8 : ((rc ((beatsL l lo hi).take k)) ++ [.int .i64 (hi.t0 + ((riseP lo hi (k : Int)).1)), .int .i64 (hi.t1 + ((riseP lo hi (k : Int)).2))]) = rc ((beatsL l lo hi).take (k + 1)) := by rw [beatsL_take (by omega), ← rc_snoc]; rfl
  rw [e9, e8] at M
  rw [e9] at T
  clear e9 e8
  exact ⟨_, by omega, k + 1, _, cga1, [(ga1, .row 40 2 ((beatsL l lo hi).take (k + 1)).length (rc ((beatsL l lo hi).take (k + 1))) cga1)], rfl, (by omega), (by rw [List.length_take, beatsL_length]; omega), (Sl.row _ _ _ _ _ _), T.pick [2, 3, 1, 4, 0] rfl, M.perm [1, 2, 0] rfl rfl⟩
 intro h1
 refine wp_exit ?_
 refine ex_then ?_
 refine ex_then ?_
 refine ex_hit ?_
 refine nm_then ?_
 refine wp_seq ?_
 refine wp_region_lit ?_
 refine lq T (rn_move rfl (T.ev 3 rfl)) ?_; clear T ac; intro ac T
 refine lq T (rn_assign rfl (T.ev 0 rfl)) ?_; clear T ac; intro ac T
 refine wpList_nil ?_
 replace T := T.pick [0] rfl
 replace M := M.mask [false, false] rfl
 refine nm_then ?_
 refine wp_ret ?_
 refine rt_1 T rfl (T.ev 0 rfl) ?_
 have e9 : (beatsL l lo hi).take k = beatsL l lo hi := List.take_of_length_le (by rw [beatsL_length]; omega)
 rw [e9] at hsl ⊢
 exact ⟨A, c, I, rfl, hsl, M.mask [] rfl⟩
end Go.Proofs.Ytlahdenlmmlplaa
end

section
/-
 voice: the verdict on several tongues.
-/
namespace Go.Proofs.Ytlahdenlmmlplaa
set_option linter.unusedSimpArgs false
set_option linter.unusedVariables false
open Go.RowKit Go.Shelf
theorem Sl.spV {e n c size : Nat} {A : Option Addr} {xs : List Value} {I : List (Nat × BA)} (h : Sl e size (.slice A n c) n xs I) (hl : xs.length = n * size) : ∃ b o, ∀ (w : World) (ex : Nat → Prop), Sp w ex I A n size b o xs := by
 rcases h with ⟨h1, rfl, rfl, rfl⟩ | ⟨g, cap, h1, rfl⟩
 · exact ⟨0, 0, fun w ex => Sp.nil⟩
 · injection h1 with h1 _ h2
   subst h1
   exact ⟨g, 0, fun w ex => Sp.row (by omega)⟩
theorem beatsL_bd {l : Lw} {lo hi : Snd} (hp : 0 ≤ l.press ∧ l.press ≤ 3) (gl : lo.good) (gh : hi.good) : ∀ x ∈ beatsL l lo hi, (-1000 ≤ x.1 ∧ x.1 ≤ 1000) ∧ (-1000 ≤ x.2 ∧ x.2 ≤ 1000) := fun x hx => by
 obtain ⟨p, h1, h2, rfl⟩ := beatsL_mem.1 hx
 exact beatP_bd gl gh (by omega)
def allOf (x : Snd) : List (Int × Int) := allL x.t0 x.t1 x.s0 x.s1
def stepN (l : Lw) (due : Int) (now : List (Int × Int)) (s : Snd) : List (Int × Int) := (allOf s).filter fun y => now.any fun x => agreeP l due (y.1 - x.1) (y.2 - x.2)
def nowL (l : Lw) (due : Int) : List Snd → List (Int × Int)
 | [] => []
 | s :: ss => ss.foldl (stepN l due) (allOf s)
def surelyL (l : Lw) (due : Int) : List Snd → Bool
 | a :: b :: r => decide (offP l due a b ≤ l.span) && surelyL l due (b :: r)
 | _ => true
def keepsP (l : Lw) (due : Int) (ts : List Snd) : Int := if surelyL l due ts = true then 1 else if (nowL l due ts).isEmpty = true then 2 else 3
theorem surelyL_snoc (l : Lw) (due : Int) : ∀ (ts : List Snd) (a b : Snd), surelyL l due (ts ++ [a, b]) = (surelyL l due (ts ++ [a]) && decide (offP l due a b ≤ l.span))
 | [], a, b => by simp [surelyL]
 | [x], a, b => by simp [surelyL]
 | x :: y :: r, a, b => by
   have ih := surelyL_snoc l due (y :: r) a b
   simp only [List.cons_append] at ih ⊢
   rw [show surelyL l due (x :: y :: (r ++ [a, b])) = (decide (offP l due x y ≤ l.span) && surelyL l due (y :: (r ++ [a, b]))) from rfl, show surelyL l due (x :: y :: (r ++ [a])) = (decide (offP l due x y ≤ l.span) && surelyL l due (y :: (r ++ [a]))) from rfl, ih, Bool.and_assoc]
theorem surelyL_take {l : Lw} {due : Int} {ts : List Snd} {k : Nat} {a b : Snd} (ha : ts[k]? = some a) (hb : ts[k + 1]? = some b) : surelyL l due (ts.take (k + 2)) = (surelyL l due (ts.take (k + 1)) && decide (offP l due a b ≤ l.span)) := by
 have e1 : ts.take (k + 1) = ts.take k ++ [a] := by rw [List.take_add_one, ha]; rfl
 have e2 : ts.take (k + 2) = ts.take (k + 1) ++ [b] := by rw [List.take_add_one, hb]; rfl
 rw [e2, e1, List.append_assoc]
 exact surelyL_snoc l due _ a b
theorem nowL_take {l : Lw} {due : Int} {ts : List Snd} {k : Nat} {b : Snd} (hb : ts[k + 1]? = some b) : nowL l due (ts.take (k + 2)) = stepN l due (nowL l due (ts.take (k + 1))) b := by
 have e2 : ts.take (k + 2) = ts.take (k + 1) ++ [b] := by rw [List.take_add_one, hb]; rfl
 rw [e2]
 cases ts with
 | nil => simp at hb
 | cons s ss => simp [nowL, List.foldl_append]
theorem nowL_mem {l : Lw} {due : Int} {ts : List Snd} {k : Nat} {a : Snd} (ha : ts[k]? = some a) : ∀ x ∈ nowL l due (ts.take (k + 1)), x ∈ allOf a := by
 intro x hx
 cases k with
 | zero =>
   cases ts with
   | nil => simp at ha
   | cons s ss =>
     simp at ha
     subst ha
     simpa [nowL] using hx
 | succ k =>
   rw [nowL_take ha] at hx
   exact (List.mem_filter.1 hx).1
theorem agreeP_bd (l : Lw) (due b s : Int) (k : Nat) : (List.range (k + 1)).all (fun (p : Nat) => withinB (b + (p : Int) * s - due) (-l.span) l.span) = ((List.range k).all (fun (p : Nat) => withinB (b + (p : Int) * s - due) (-l.span) l.span) && withinB (b + (k : Int) * s - due) (-l.span) l.span) := by
 rw [List.range_succ, List.all_append]
 simp
theorem allOf_length {x : Snd} (h : x.good) : (allOf x).length ≤ 61 * 7 := by
 obtain ⟨h1, h2⟩ := h
 have key : ∀ l : List Int, (l.flatMap fun t => (izz x.s0 x.s1).map fun s => (t, s)).length = l.length * (izz x.s0 x.s1).length := fun l => by
   induction l with
   | nil => simp
   | cons a l ih => rw [List.flatMap_cons, List.length_append, ih, List.length_map, List.length_cons, Nat.succ_mul, Nat.add_comm]
 unfold allOf allL
 rw [key, izz_length, izz_length]
 exact Nat.mul_le_mul (by omega) (by omega)
theorem off_any (l : Lw) (due : Int) (lo hi : Snd) (w : World) (hp : 0 ≤ l.press ∧ l.press ≤ 3) (hd : -1000 ≤ due ∧ due ≤ 1000) (gl : lo.good) (gh : hi.good) :
   Calls Try.prog 91 #[.agg #[.int .i64 l.first, .int .i64 l.step, .int .i64 l.span, .int .i64 l.press], .int .i64 due, .agg #[.int .i64 lo.t0, .int .i64 lo.t1, .int .i64 lo.s0, .int .i64 lo.s1], .agg #[.int .i64 hi.t0, .int .i64 hi.t1, .int .i64 hi.s0, .int .i64 hi.s1]] w fun e w' => e = .returned (.int .i64 (offP l due lo hi)) ∧ Below w.heap.size w w' := by
 refine px_enter noEx Try.func91 rfl 33 rfl [.agg #[.int .i64 l.first, .int .i64 l.step, .int .i64 l.span, .int .i64 l.press], .int .i64 due, .agg #[.int .i64 lo.t0, .int .i64 lo.t1, .int .i64 lo.s0, .int .i64 lo.s1], .agg #[.int .i64 hi.t0, .int .i64 hi.t1, .int .i64 hi.s0, .int .i64 hi.s1]] rfl rfl (Mem.init w _) ?_
 intro ac wc T M
 refine wp_seq ?_
 refine wp_region_lit ?_
 refine l_w rfl ?_; intro K hK
 refine ow_bx M T rfl rfl rfl rfl (T.ev 0 rfl) rfl ?_; clear M T; intro g1 wc ac M T
 refine sh_out hK _ _ ?_; clear hK K
 refine l_w rfl ?_; intro K hK
 refine ow_bx M T rfl rfl rfl rfl (T.ev 3 rfl) rfl ?_; clear M T; intro g2 wc ac M T
 refine sh_out hK _ _ ?_; clear hK K
 refine l_w rfl ?_; intro K hK
 refine ow_bx M T rfl rfl rfl rfl (T.ev 5 rfl) rfl ?_; clear M T; intro g3 wc ac M T
 refine sh_out hK _ _ ?_; clear hK K
 refine lq T (rn_assign rfl evc) ?_; clear T ac; intro ac T
 refine wpList_nil ?_
 replace T := T.pick [1, 2, 3, 5] rfl
 refine nm_then ?_
 refine wp_seq ?_
 refine wp_region_lit ?_
 refine lq T (rn_assign rfl evc) ?_; clear T ac; intro ac T
 refine wpList_nil ?_
 refine nm_then ?_
 refine wp_seq ?_
 refine wp_seq ?_
 refine wp_region_lit ?_
 refine lq T (rn_rowO (Mem.nth M 2 rfl) rfl (T.ev 3 rfl) rfl) ?_; clear T ac; intro ac T
 refine lq T (rn_rowO (Mem.nth M 1 rfl) rfl (T.ev 3 rfl) rfl) ?_; clear T ac; intro ac T
 refine lq T (rn_rowO (Mem.nth M 0 rfl) rfl (T.ev 3 rfl) rfl) ?_; clear T ac; intro ac T
 refine l_w rfl ?_; intro K hK
 refine ow_call (first := []) (cap := []) T rfl rfl rfl rfl evf (.cons (T.ev 2 rfl) (.cons (T.ev 1 rfl) (.cons (T.ev 0 rfl) .nil))) Try.func66 rfl rfl ?_
 refine Calls.mono (beats_any l lo hi _ (by (try dsimp only); omega) gl gh) ?_
 clear T
 rintro e wc ⟨Au1, cu1, Iu1, rfl, hslu1, N⟩
 intro ac T
 obtain ⟨lbu1, hlbu1⟩ : ∃ q, q = (beatsL l lo hi) := ⟨_, rfl⟩
 rw [← hlbu1] at hslu1
 obtain ⟨bu1, ou1, SVu1⟩ := hslu1.spV (rc_length _)
 have Su1 := SVu1 w noEx
 replace M := (M.join N).swapI
 replace M := M.mask [true, true, true] rfl
 clear N
 rw [← hlbu1] at T
 refine sh_out hK _ _ ?_; clear hK K
 refine lq T (rn_lenS rfl Try.underlying50 (T.ev 0 rfl)) ?_; clear T ac; intro ac T
 refine lq T (rn_move rfl evc) ?_; clear T ac; intro ac T
 refine wpList_nil ?_
 replace T := T.pick [0, 1, 2, 6, 10] rfl
 replace M := M.mask [false, false, false] rfl
 refine nm_then ?_
 refine wp_block ?_
 have hlb8 : lbu1.length ≤ 1000 := by rw [hlbu1, beatsL_length]; omega
 refine wp_loop_n (fun mz ac wc => ∃ (k : Nat) (n : Int), mz = lbu1.length - k ∧ (k ≤ lbu1.length) ∧ (0 ≤ n ∧ n ≤ 3000) ∧ (offP l due lo hi = offL due (lbu1.drop k) n) ∧ Tm ac 33 [(1, .int .i64 due), (9, .int .i64 n), (15, .slice Au1 lbu1.length cu1), (16, .int .i64 ((lbu1.length : Nat) : Int)), (17, .int .i64 (k : Int))] ∧ Mem w noEx wc (Iu1)) ?_ ?_
 ·exact ⟨_, 0, 0, rfl, (Nat.zero_le _), (by omega), (by rw [hlbu1]; rfl), T.pick [4, 3, 2, 1, 0] rfl, M.mask [] rfl⟩
 clear T M
 rintro mz ac wc ⟨k, n, hmm1, hk, hn, H, T, M⟩
 refine wp_seq ?_
 refine wp_region_lit ?_
 refine lq T (rn_lss rfl (T.ev 4 rfl) (T.ev 3 rfl)) ?_; clear T ac; intro ac T
 refine wpList_nil ?_
 refine nm_then ?_
 refine wp_seq ?_
 refine wp_if (T.ev 0 rfl) ?_ ?_
 ·intro h1
  obtain ⟨x0, x1, hk1, hd1⟩ := rc_next (l := lbu1) (k := k) (by omega)
  rw [hd1, offL] at H
  have hxb := beatsL_bd (l := l) hp gl gh _ (by rw [← hlbu1]; exact List.mem_of_getElem? hk1)
  dsimp only at H hxb
  refine wp_skip ?_
  refine nm_then ?_
  refine wp_seq ?_
  refine wp_block ?_
  refine wp_seq ?_
  refine wp_region_lit ?_
  refine lq T (rn_indexAddr (size := 2) k rfl (T.ev 3 rfl) (T.ev 5 rfl) ⟨_, Try.underlying50, by kernel_rfl⟩ rfl (by omega) (Su1.at0 (by omega))) ?_; clear T ac; intro ac T
  refine lq (v := (.agg #[.int .i64 x0, .int .i64 x1])) T (rn_rowat (Sp.rcR Su1 M (List.Sublist.refl _) hk1) rfl (T.ev 0 rfl) rfl) ?_; clear T ac; intro ac T
  refine l_w rfl ?_; intro K hK
  refine ow_al M T rfl rfl rfl rfl ?_; clear M T; intro g4 wc ac M T
  refine sh_out hK _ _ ?_; clear hK K
  refine l_w rfl ?_; intro K hK
  refine ow_stO M T rfl rfl (T.ev 0 rfl) (T.ev 1 rfl) rfl .head rfl (by simp) rfl (by kernel_rfl) ?_; clear M T; intro wc ac M T
  refine sh_out hK _ _ ?_; clear hK K
  refine wpList_nil ?_
  replace T := T.pick [0, 4, 5, 6, 7, 8] rfl
  refine nm_then ?_
  refine wp_region_lit ?_
  refine lq T (rn_move rfl (T.ev 2 rfl)) ?_; clear T ac; intro ac T
  refine lq T (rn_move rfl (T.ev 2 rfl)) ?_; clear T ac; intro ac T
  refine lq (v := (.pointer (some ⟨g4, 0, none⟩))) T (rn_fieldAddr (off := 0) rfl (T.ev 2 rfl) (fun _ _ _ => by kernel_rfl)) ?_; clear T ac; intro ac T
  refine lq T (rn_one (Mem.nth M 0 rfl) rfl (T.ev 0 rfl) rfl) ?_; clear T ac; intro ac T
  refine lq T (rn_sub rfl (T.ev 2 rfl) (T.ev 0 rfl) (by omega)) ?_; clear T ac; intro ac T
  refine lq (v := (.pointer (some ⟨g4, 1, none⟩))) T (rn_fieldAddr (off := 1) rfl (T.ev 5 rfl) (fun _ _ _ => by kernel_rfl)) ?_; clear T ac; intro ac T
  refine lq T (rn_one (Mem.nth M 0 rfl) rfl (T.ev 0 rfl) rfl) ?_; clear T ac; intro ac T
  refine lq T (rn_move rfl (T.ev 8 rfl)) ?_; clear T ac; intro ac T
  refine lq T (rn_sub rfl (T.ev 1 rfl) (T.ev 0 rfl) (by omega)) ?_; clear T ac; intro ac T
  refine lq T (rn_max3 rfl (T.ev 8 rfl) (T.ev 4 rfl) (T.ev 0 rfl)) ?_; clear T ac; intro ac T
  refine l_q (v := (.int .i64 (max (max n (due - x0)) (x1 - due)))) (T.pick [0, 1, 2, 3, 4, 5, 6, 7, 8, 9, 10, 11, 13, 14, 15] rfl) rfl rfl rfl rfl (rn_assign rfl (T.ev 0 rfl)) ?_; clear T ac; intro ac T
  refine wpList_nil ?_
  replace T := T.pick [0, 12, 13, 14, 15] rfl
  replace M := M.mask [false] rfl
  refine nm_blk ?_
  refine nm_then ?_
  refine wp_region_lit ?_
  refine lq T (rn_add rfl (T.ev 4 rfl) evc (by omega)) ?_; clear T ac; intro ac T
  refine l_q (v := (.int .i64 ((k : Int) + 1))) (T.pick [0, 1, 2, 3, 4] rfl) rfl rfl rfl rfl (rn_move rfl (T.ev 0 rfl)) ?_; clear T ac; intro ac T
  refine wpList_nil ?_
  replace T := T.pick [0, 2, 3, 4, 5] rfl
  refine nm_then ?_
  exact ⟨_, by omega, k + 1, _, rfl, (by omega), (by omega), H, T.pick [2, 1, 3, 4, 0] rfl, M.mask [] rfl⟩
 intro h1
 rw [List.drop_of_length_le (by omega), offL] at H
 refine wp_exit ?_
 refine ex_then ?_
 refine ex_then ?_
 refine ex_hit ?_
 refine nm_then ?_
 refine wp_seq ?_
 refine wp_region_lit ?_
 refine lq T (rn_move rfl (T.ev 2 rfl)) ?_; clear T ac; intro ac T
 refine lq T (rn_assign rfl (T.ev 0 rfl)) ?_; clear T ac; intro ac T
 refine wpList_nil ?_
 replace T := T.pick [0] rfl
 refine nm_then ?_
 refine wp_ret ?_
 refine rt_1 T rfl (T.ev 0 rfl) ?_
 exact ⟨ret_int H.symm, M.below⟩
theorem agree_any (l : Lw) (due b s : Int) (w : World) (hp : 0 ≤ l.press ∧ l.press ≤ 3) (hsp : -1000 ≤ l.span ∧ l.span ≤ 1000) (hd : -1000 ≤ due ∧ due ≤ 1000) (hb : -1000 ≤ b ∧ b ≤ 1000) (hs : -1000 ≤ s ∧ s ≤ 1000) :
   Calls Try.prog 92 #[.agg #[.int .i64 l.first, .int .i64 l.step, .int .i64 l.span, .int .i64 l.press], .int .i64 due, .int .i64 b, .int .i64 s] w fun e w' => e = .returned (.bool (agreeP l due b s)) ∧ Below w.heap.size w w' := by
 refine px_enter noEx Try.func92 rfl 31 rfl [.agg #[.int .i64 l.first, .int .i64 l.step, .int .i64 l.span, .int .i64 l.press], .int .i64 due, .int .i64 b, .int .i64 s] rfl rfl (Mem.init w _) ?_
 intro ac wc T M
 refine wp_seq ?_
 refine wp_region_lit ?_
 refine l_w rfl ?_; intro K hK
 refine ow_bx M T rfl rfl rfl rfl (T.ev 0 rfl) rfl ?_; clear M T; intro g1 wc ac M T
 refine sh_out hK _ _ ?_; clear hK K
 refine lq T (rn_assign rfl evc) ?_; clear T ac; intro ac T
 refine wpList_nil ?_
 replace T := T.pick [1, 3, 4, 5] rfl
 refine nm_then ?_
 refine wp_seq ?_
 refine wp_seq ?_
 refine wp_region_lit ?_
 refine lq (v := (.pointer (some ⟨g1, 3, none⟩))) T (rn_fieldAddr (off := 3) rfl (T.ev 0 rfl) (fun _ _ _ => by kernel_rfl)) ?_; clear T ac; intro ac T
 refine lq T (rn_one (Mem.nth M 0 rfl) rfl (T.ev 0 rfl) rfl) ?_; clear T ac; intro ac T
 refine lq T (rn_add rfl (T.ev 0 rfl) evc (by omega)) ?_; clear T ac; intro ac T
 refine lq T (rn_move rfl evc) ?_; clear T ac; intro ac T
 refine wpList_nil ?_
 replace T := T.pick [0, 1, 4, 5, 6, 7] rfl
 refine nm_then ?_
 refine wp_block ?_
 refine wp_loop_n (fun mz ac wc => ∃ (k : Nat), mz = (l.press + 1 - k).toNat ∧ ((k : Int) ≤ l.press + 1) ∧ ((List.range k).all (fun (p : Nat) => withinB (b + (p : Int) * s - due) (-l.span) l.span) = true) ∧ Tm ac 31 [(1, .int .i64 due), (2, .int .i64 b), (3, .int .i64 s), (4, .pointer (some ⟨g1, 0, none⟩)), (12, .int .i64 (l.press + 1)), (13, .int .i64 (k : Int))] ∧ Mem w noEx wc [(g1, .cells [.int .i64 l.first, .int .i64 l.step, .int .i64 l.span, .int .i64 l.press])]) ?_ ?_
 ·exact ⟨_, 0, rfl, (by omega), rfl, T.pick [3, 4, 5, 2, 1, 0] rfl, M.mask [true] rfl⟩
 clear T M
 rintro mz ac wc ⟨k, hmm1, hk, H, T, M⟩
 refine wp_seq ?_
 refine wp_region_lit ?_
 refine lq T (rn_lss rfl (T.ev 5 rfl) (T.ev 4 rfl)) ?_; clear T ac; intro ac T
 refine wpList_nil ?_
 refine nm_then ?_
 refine wp_seq ?_
 refine wp_if (T.ev 0 rfl) ?_ ?_
 ·intro h1
  have hm := mulB (a := (k : Int)) (b := s) (by omega) hs
  refine wp_skip ?_
  refine nm_then ?_
  refine wp_seq ?_
  refine wp_block ?_
  refine wp_seq ?_
  refine wp_region_lit ?_
  refine lq T (rn_move rfl (T.ev 6 rfl)) ?_; clear T ac; intro ac T
  refine lq T (rn_assign rfl (T.ev 0 rfl)) ?_; clear T ac; intro ac T
  refine wpList_nil ?_
  replace T := T.pick [0, 3, 4, 5, 6, 7, 8] rfl
  refine nm_then ?_
  refine wp_seq ?_
  refine wp_region_lit ?_
  refine lq T (rn_move rfl (T.ev 2 rfl)) ?_; clear T ac; intro ac T
  refine lq T (rn_move rfl (T.ev 1 rfl)) ?_; clear T ac; intro ac T
  refine lq T (rn_move rfl (T.ev 5 rfl)) ?_; clear T ac; intro ac T
  refine lq T (rn_mul rfl (T.ev 1 rfl) (T.ev 0 rfl) (by omega)) ?_; clear T ac; intro ac T
  refine lq T (rn_add rfl (T.ev 3 rfl) (T.ev 0 rfl) (by omega)) ?_; clear T ac; intro ac T
  refine lq T (rn_move rfl (T.ev 6 rfl)) ?_; clear T ac; intro ac T
  refine lq T (rn_sub rfl (T.ev 1 rfl) (T.ev 0 rfl) (by omega)) ?_; clear T ac; intro ac T
  refine lq (v := (.pointer (some ⟨g1, 2, none⟩))) T (rn_fieldAddr (off := 2) rfl (T.ev 11 rfl) (fun _ _ _ => by kernel_rfl)) ?_; clear T ac; intro ac T
  refine lq T (rn_one (Mem.nth M 0 rfl) rfl (T.ev 0 rfl) rfl) ?_; clear T ac; intro ac T
  refine lq T (rn_neg rfl (T.ev 0 rfl) (by omega)) ?_; clear T ac; intro ac T
  refine lq (v := (.pointer (some ⟨g1, 2, none⟩))) T (rn_fieldAddr (off := 2) rfl (T.ev 14 rfl) (fun _ _ _ => by kernel_rfl)) ?_; clear T ac; intro ac T
  refine lq T (rn_one (Mem.nth M 0 rfl) rfl (T.ev 0 rfl) rfl) ?_; clear T ac; intro ac T
  refine l_w rfl ?_; intro K hK
  refine ow_call (first := []) (cap := []) T rfl rfl rfl rfl evf (.cons (T.ev 5 rfl) (.cons (T.ev 2 rfl) (.cons (T.ev 0 rfl) .nil))) Try.func80 rfl rfl ?_
  refine Calls.mono (vwithin_any ((b + ((k : Int) * s)) - due) (-l.span) l.span _) ?_
  clear T
  rintro e wc ⟨rfl, hb⟩
  intro ac T
  replace M := M.call hb; clear hb
  refine sh_out hK _ _ ?_; clear hK K
  refine lq T (rn_not rfl (T.ev 0 rfl)) ?_; clear T ac; intro ac T
  refine wpList_nil ?_
  replace T := T.pick [0, 15, 16, 17, 18, 19, 20] rfl
  refine nm_then ?_
  refine wp_cond_split (T.ev 0 rfl) ?_ ?_
  ·intro h2
   (try have h2' := h2; try simp only [Bool.and_eq_true, Bool.or_eq_true, Bool.not_eq_true', Bool.and_eq_false_imp, Bool.or_eq_false_iff, decide_eq_true_eq, decide_eq_false_iff_not] at h2')
   refine wp_seq ?_
   refine wp_region_lit ?_
   refine lq T (rn_assign rfl evc) ?_; clear T ac; intro ac T
   refine wpList_nil ?_
   replace T := T.pick [0] rfl
   replace M := M.mask [false] rfl
   refine nm_then ?_
   refine wp_ret ?_
   refine rt_blk ?_
   refine rt_then ?_
   refine rt_then ?_
   refine rt_blk ?_
   refine rt_then ?_
   refine rt_1 T rfl (T.ev 0 rfl) ?_
   refine ⟨ret_bool ?_, M.below⟩
   unfold agreeP
   symm
   rw [List.all_eq_false]
   exact ⟨k, by rw [List.mem_range]; omega, by simp_all⟩
  intro h2
  (try have h2' := h2; try simp only [Bool.and_eq_true, Bool.or_eq_true, Bool.not_eq_true', Bool.and_eq_false_imp, Bool.or_eq_false_iff, decide_eq_true_eq, decide_eq_false_iff_not] at h2')
  refine wp_skip ?_
  refine nm_blk ?_
  refine nm_then ?_
  refine wp_region_lit ?_
  refine lq T (rn_add rfl (T.ev 6 rfl) evc (by omega)) ?_; clear T ac; intro ac T
  refine l_q (v := (.int .i64 ((k : Int) + 1))) (T.pick [0, 1, 2, 3, 4, 5, 6] rfl) rfl rfl rfl rfl (rn_move rfl (T.ev 0 rfl)) ?_; clear T ac; intro ac T
  refine wpList_nil ?_
  replace T := T.pick [0, 3, 4, 5, 6, 7] rfl
  refine nm_then ?_
  exact ⟨_, by omega, k + 1, rfl, (by omega), (by rw [agreeP_bd, H]; simp_all), T.pick [1, 2, 3, 4, 5, 0] rfl, M.mask [true] rfl⟩
 intro h1
 refine wp_exit ?_
 refine ex_then ?_
 refine ex_then ?_
 refine ex_hit ?_
 refine nm_then ?_
 refine wp_seq ?_
 refine wp_region_lit ?_
 refine lq T (rn_assign rfl evc) ?_; clear T ac; intro ac T
 refine wpList_nil ?_
 replace T := T.pick [0] rfl
 replace M := M.mask [false] rfl
 refine nm_then ?_
 refine wp_ret ?_
 refine rt_1 T rfl (T.ev 0 rfl) ?_
 refine ⟨ret_bool ?_, M.below⟩
 unfold agreeP
 rw [show (l.press + 1).toNat = k by omega]
 exact H.symm
def AllPost (x : Snd) (w : World) (e : Ending) (w' : World) : Prop := ∃ g, e = .returned (.func (.func 115) #[] #[.pointer (some ⟨g, 0, none⟩)]) ∧ Mem w noEx w' [(g, .cells [.int .i64 x.t0, .int .i64 x.t1, .int .i64 x.s0, .int .i64 x.s1])]
theorem all_any (x : Snd) (w : World)  :
   Calls Try.prog 90 #[.agg #[.int .i64 x.t0, .int .i64 x.t1, .int .i64 x.s0, .int .i64 x.s1]] w (AllPost x w) := by
 refine px_enter noEx Try.func90 rfl 4 rfl [.agg #[.int .i64 x.t0, .int .i64 x.t1, .int .i64 x.s0, .int .i64 x.s1]] rfl rfl (Mem.init w _) ?_
 intro ac wc T M
 refine wp_seq ?_
 refine wp_region_lit ?_
 refine l_w rfl ?_; intro K hK
 refine ow_bx M T rfl rfl rfl rfl (T.ev 0 rfl) rfl ?_; clear M T; intro g1 wc ac M T
 refine sh_out hK _ _ ?_; clear hK K
 refine lq T (rn_assign rfl evc) ?_; clear T ac; intro ac T
 refine wpList_nil ?_
 replace T := T.pick [1] rfl
 refine nm_then ?_
 refine wp_seq ?_
 refine wp_region_lit ?_
 refine lq (v := (.func (.func 115) #[] #[.pointer (some ⟨g1, 0, none⟩)])) T (rn_makeFunc rfl .nil (.cons (T.ev 0 rfl) .nil)) ?_; clear T ac; intro ac T
 refine lq T (rn_assign rfl (T.ev 0 rfl)) ?_; clear T ac; intro ac T
 refine wpList_nil ?_
 replace T := T.pick [0] rfl
 refine nm_then ?_
 refine wp_ret ?_
 refine rt_1 T rfl (T.ev 0 rfl) ?_
 exact ⟨g1, rfl, M⟩
end Go.Proofs.Ytlahdenlmmlplaa
end

section
/-
 voice: the verdict on several tongues, walked.
-/
namespace Go.Proofs.Ytlahdenlmmlplaa
set_option linter.unusedSimpArgs false
set_option linter.unusedVariables false
open Go.RowKit Go.Shelf
theorem any_false {l : Lw} {due : Int} {now : List (Int × Int)} {y : Int × Int} (h : ∀ p ∈ now, agreeP l due (y.1 - p.1) (y.2 - p.2) = false) : (now.any fun x => agreeP l due (y.1 - x.1) (y.2 - x.2)) = false := by
 rw [List.any_eq_false]
 intro p hp
 simp [h p hp]
theorem any_true {l : Lw} {due : Int} {now : List (Int × Int)} {y p : Int × Int} (hp : p ∈ now) (h : agreeP l due (y.1 - p.1) (y.2 - p.2) = true) : (now.any fun x => agreeP l due (y.1 - x.1) (y.2 - x.2)) = true := List.any_eq_true.2 ⟨p, hp, h⟩
theorem filter_snoc {p : Int × Int → Bool} {l : List (Int × Int)} {y v : Int × Int} : v ∈ (l ++ [y]).filter p ↔ v ∈ l.filter p ∨ (v = y ∧ p y = true) := by
 rw [List.filter_append, List.mem_append]
 refine or_congr Iff.rfl ?_
 rw [List.mem_filter, List.mem_singleton]
 constructor
 · rintro ⟨rfl, h⟩; exact ⟨rfl, h⟩
 · rintro ⟨rfl, h⟩; exact ⟨rfl, h⟩
set_option maxHeartbeats 4000000 in
theorem keeps_any (l : Lw) (due : Int) (A : Option Addr) (n c : Nat) (ts : List Snd) (w : World) (hp : 0 ≤ l.press ∧ l.press ≤ 3) (hsp : -1000 ≤ l.span ∧ l.span ≤ 1000) (hd : -1000 ≤ due ∧ due ≤ 1000) (gt : ∀ x ∈ ts, x.good) (hr : Rd w w.heap.size 4 A n (sc ts)) (hn : n ≤ 1000000) :
   Calls Try.prog 55 #[.agg #[.int .i64 l.first, .int .i64 l.step, .int .i64 l.span, .int .i64 l.press], .int .i64 due, .slice A n c] w fun e w' => e = .returned (.int .i64 (keepsP l due ts)) ∧ Below w.heap.size w w' := by
 have hl := hr.len4
 obtain ⟨bJ, oJ, SJ⟩ := Sp.old hr
 refine px_enterM noEx Try.func55 rfl 79 rfl [.agg #[.int .i64 l.first, .int .i64 l.step, .int .i64 l.span, .int .i64 l.press], .int .i64 due, .slice A n c] rfl rfl (Mem.init w _) ?_
 intro ac wc T M
 refine wp_seq ?_
 refine wp_region_lit ?_
 refine l_w rfl ?_; intro K hK
 refine ow_bx M T rfl rfl rfl rfl (T.ev 0 rfl) rfl ?_; clear M T; intro g1 wc ac M T
 refine sh_out hK _ _ ?_; clear hK K
 refine l_w rfl ?_; intro K hK
 refine ow_bx M T rfl rfl rfl rfl (T.ev 2 rfl) rfl ?_; clear M T; intro g2 wc ac M T
 refine sh_out hK _ _ ?_; clear hK K
 refine lq T (rn_assign rfl evc) ?_; clear T ac; intro ac T
 refine wpList_nil ?_
 replace T := T.pick [1, 2, 5] rfl
 refine nm_then ?_
 refine wp_seq ?_
 refine wp_region_lit ?_
 refine lq T (rn_assign rfl evc) ?_; clear T ac; intro ac T
 refine wpList_nil ?_
 refine nm_then ?_
 refine wp_seq ?_
 refine wp_region_lit ?_
 refine l_w rfl ?_; intro K hK
 refine ow_mm M T rfl Try.underlying141 rfl rfl rfl ?_; clear M T; intro g3 wc ac M T
 refine sh_out hK _ _ ?_; clear hK K
 refine l_w rfl ?_; intro K hK
 refine ow_al M T rfl rfl rfl rfl ?_; clear M T; intro g4 wc ac M T
 refine sh_out hK _ _ ?_; clear hK K
 refine l_w rfl ?_; intro K hK
 refine ow_stO M T rfl rfl (T.ev 0 rfl) (T.ev 1 rfl) rfl .head rfl (by simp) rfl (by kernel_rfl) ?_; clear M T; intro wc ac M T
 refine sh_out hK _ _ ?_; clear hK K
 refine wpList_nil ?_
 replace T := T.pick [0, 2, 3, 4, 5] rfl
 refine nm_then ?_
 refine wp_seq ?_
 refine wp_seq ?_
 refine wp_region_lit ?_
 refine lq T (rn_move rfl (T.ev 4 rfl)) ?_; clear T ac; intro ac T
 refine lq T (rn_lenS rfl Try.underlying38 (T.ev 0 rfl)) ?_; clear T ac; intro ac T
 refine lq T (rn_move rfl evc) ?_; clear T ac; intro ac T
 refine wpList_nil ?_
 refine nm_then ?_
 refine wp_block ?_
 replace M := M.chS (n' := 427) (S' := fun v => v ∈ nowL l due (ts.take 0)) (.tail .head) (by intro v; simp [nowL]) (by omega)
 refine wp_loop_n (fun mz ac wc => ∃ (k : Nat) (gn : Nat) (Ds : List Nat), mz = n - k ∧ (k ≤ n) ∧ TmD (Ds.map dfD) ac 79 [(2, .slice A n c), (3, .pointer (some ⟨g1, 0, none⟩)), (4, .pointer (some ⟨g2, 0, none⟩)), (7, .bool (surelyL l due (ts.take k))), (8, .pointer (some ⟨g4, 0, none⟩)), (16, .slice A n c), (17, .int .i64 ((n : Nat) : Int)), (18, .int .i64 (k : Int))] ∧ Mem w noEx wc ((g4, .cells [.map (some gn)]) :: (gn, .any (setQ Try.prog 145 (427) (fun v => v ∈ nowL l due (ts.take k)))) :: (g2, .cells [.int .i64 due]) :: (g1, .cells [.int .i64 l.first, .int .i64 l.step, .int .i64 l.span, .int .i64 l.press]) :: dfT Ds)) ?_ ?_
 ·exact ⟨_, 0, g3, [], rfl, (by omega), T.pick [7, 6, 5, 4, 3, 2, 1, 0] rfl, M.mask [true, true, true, true] rfl⟩
 clear T M
 rintro mz ac wc ⟨k, gn, Ds, hmm1, hk, T, M⟩
 refine wp_seq ?_
 refine wp_region_lit ?_
 refine lq T (rn_lss rfl (T.ev 7 rfl) (T.ev 6 rfl)) ?_; clear T ac; intro ac T
 refine wpList_nil ?_
 refine nm_then ?_
 refine wp_seq ?_
 refine wp_if (T.ev 0 rfl) ?_ ?_
 ·intro h1
  obtain ⟨sx, hk1, -⟩ := sc_next (l := ts) (k := k) (by omega)
  have gsx := gt sx (List.mem_of_getElem? hk1)
  have ⟨gx1, gx2⟩ := gsx
  refine wp_skip ?_
  refine nm_then ?_
  refine wp_seq ?_
  refine wp_block ?_
  refine wp_seq ?_
  refine wp_region_lit ?_
  refine lq T (rn_move rfl (T.ev 8 rfl)) ?_; clear T ac; intro ac T
  refine lq T (rn_indexAddr (size := 4) k rfl (T.ev 7 rfl) (T.ev 9 rfl) ⟨_, Try.underlying38, by kernel_rfl⟩ rfl (by omega) (SJ.at0 (by omega))) ?_; clear T ac; intro ac T
  refine lq (v := (.agg #[.int .i64 sx.t0, .int .i64 sx.t1, .int .i64 sx.s0, .int .i64 sx.s1])) T (rn_rowat (Sp.scR4 SJ M (List.nil_sublist _) hk1) rfl (T.ev 0 rfl) rfl) ?_; clear T ac; intro ac T
  refine l_w rfl ?_; intro K hK
  refine ow_al M T rfl rfl rfl rfl ?_; clear M T; intro g5 wc ac M T
  refine sh_out hK _ _ ?_; clear hK K
  refine lq T (rn_assign rfl (T.ev 3 rfl)) ?_; clear T ac; intro ac T
  refine l_w rfl ?_; intro K hK
  refine ow_stO M T rfl rfl (T.ev 1 rfl) (T.ev 2 rfl) rfl .head rfl (by simp) rfl (by kernel_rfl) ?_; clear M T; intro wc ac M T
  refine sh_out hK _ _ ?_; clear hK K
  refine wpList_nil ?_
  replace T := T.pick [0, 1, 6, 7, 8, 9, 10, 11, 12, 13] rfl
  refine nm_then ?_
  refine wp_seq ?_
  refine wp_region_lit ?_
  refine l_w rfl ?_; intro K hK
  refine ow_mm M T rfl Try.underlying141 rfl rfl rfl ?_; clear M T; intro g6 wc ac M T
  refine sh_out hK _ _ ?_; clear hK K
  refine l_w rfl ?_; intro K hK
  refine ow_al M T rfl rfl rfl rfl ?_; clear M T; intro g7 wc ac M T
  refine sh_out hK _ _ ?_; clear hK K
  refine l_w rfl ?_; intro K hK
  refine ow_stO M T rfl rfl (T.ev 0 rfl) (T.ev 1 rfl) rfl .head rfl (by simp) rfl (by kernel_rfl) ?_; clear M T; intro wc ac M T
  refine sh_out hK _ _ ?_; clear hK K
  refine wpList_nil ?_
  replace T := T.pick [0, 2, 3, 4, 5, 6, 7, 8, 9, 10, 11] rfl
  refine nm_then ?_
  refine wp_seq ?_
  refine wp_seq ?_
  refine wp_region_lit ?_
  refine lq T (rn_move rfl (T.ev 1 rfl)) ?_; clear T ac; intro ac T
  refine lq T (rn_eql rfl (T.ev 0 rfl) evc) ?_; clear T ac; intro ac T
  refine wpList_nil ?_
  replace T := T.pick [0, 2, 3, 4, 5, 6, 7, 8, 9, 10, 11, 12] rfl
  refine nm_then ?_
  refine wp_if (T.ev 0 rfl) ?_ ?_
  ·intro h2
   refine wp_seq ?_
   refine wp_seq ?_
   refine wp_region_lit ?_
   refine lq T (rn_rowO (Mem.nth M 2 rfl) rfl (T.ev 3 rfl) rfl) ?_; clear T ac; intro ac T
   refine l_w rfl ?_; intro K hK
   refine ow_call (first := []) (cap := []) T rfl rfl rfl rfl evf (.cons (T.ev 0 rfl) .nil) Try.func90 rfl rfl ?_
   refine Calls.mono (all_any sx _) ?_
   clear T
   rintro e wc ⟨gu1, rfl, N⟩
   intro ac T
   replace M := M.join N; clear N
   replace M := M.mask [true, true, true, true, true, true, true, true] rfl
   refine sh_out hK _ _ ?_; clear hK K
   refine wpList_nil ?_
   replace T := T.pick [0, 3, 6, 7, 8, 9, 10, 11, 12, 13] rfl
   replace M := M.mask [true, true, true, false, true, true, true, true] rfl
   refine nm_then ?_
   refine wp_block ?_
   have q1 := M.nth 0 rfl
   have hg1 := M.lt (nthE_mem (i := 0) rfl)
   have hx1 := (List.nodup_cons.1 M.nd).1
   have hal : (allL sx.t0 sx.t1 sx.s0 sx.s1).length ≤ 427 := allOf_length gsx
   replace T := T.pick [2, 3, 4, 5, 6, 1, 7, 8, 9, 0] rfl
   have hlt_g7 := M.lt (nthE_mem (i := 1) rfl)
   have hlt_g6 := M.lt (nthE_mem (i := 2) rfl)
   have hlt_g4 := M.lt (nthE_mem (i := 3) rfl)
   have hlt_gn := M.lt (nthE_mem (i := 4) rfl)
   have hlt_g2 := M.lt (nthE_mem (i := 5) rfl)
   have hlt_g1 := M.lt (nthE_mem (i := 6) rfl)
   replace M := M.mask [false, true, true, true, true, true, true] rfl
   replace M := M.chS (n' := ([] : List (Ax sx.t0 sx.t1 sx.s0 sx.s1)).length) (S' := fun v => v ∈ ([] : List (Ax sx.t0 sx.t1 sx.s0 sx.s1)).map Subtype.val) (.tail .head) (by intro v; simp) (by simp)
   have hltT : ∀ p ∈ dfT Ds, p.1 < _ := fun p hp => BA.lt (M.blk p (List.mem_cons_of_mem _ (List.mem_cons_of_mem _ (List.mem_cons_of_mem _ (List.mem_cons_of_mem _ (List.mem_cons_of_mem _ (List.mem_cons_of_mem _ (hp)))))))).2
   refine px_range (α := Ax sx.t0 sx.t1 sx.s0 sx.s1) (γ := Nat) (n := 79) T (T.ev 9 rfl) (enters_of Try.func115 (by kernel_rfl) rfl) (fun b => b ∈ (g7 :: g6 :: g4 :: gn :: g2 :: g1 :: (dfT Ds).map (·.1))) (all_stops 7 (by omega) gu1 _ _ sx.t0 sx.t1 sx.s0 sx.s1 (by omega) (by omega) (by omega) (by omega) hg1 hx1 _ q1) (fun _ => rfl) (fun (pre : List (Ax sx.t0 sx.t1 sx.s0 sx.s1)) (Lx : List (Nat × BA)) => Lx = ((g7, .cells [.map (some g6)]) :: (g6, .any (setQ Try.prog 145 (pre.length) (fun v => v ∈ pre.map Subtype.val))) :: (g4, .cells [.map (some gn)]) :: (gn, .any (setQ Try.prog 145 (427) (fun v => v ∈ nowL l due (ts.take k)))) :: (g2, .cells [.int .i64 due]) :: (g1, .cells [.int .i64 l.first, .int .i64 l.step, .int .i64 l.span, .int .i64 l.press]) :: dfT Ds)) (fun _ _ _ => False)
     (fun x => [(28, .agg #[.int .i64 x.1.1, .int .i64 x.1.2]), (2, .slice A n c), (3, .pointer (some ⟨g1, 0, none⟩)), (4, .pointer (some ⟨g2, 0, none⟩)), (7, .bool (surelyL l due (ts.take k))), (8, .pointer (some ⟨g4, 0, none⟩)), (11, .pointer (some ⟨g7, 0, none⟩)), (16, .slice A n c), (17, .int .i64 ((n : Nat) : Int)), (18, .int .i64 (k : Int)), (27, .func (.func 115) #[] #[.pointer (some ⟨gu1, 0, none⟩)])]) (fun x g8 => [(12, .pointer (some ⟨g8, 0, none⟩)), (2, .slice A n c), (3, .pointer (some ⟨g1, 0, none⟩)), (4, .pointer (some ⟨g2, 0, none⟩)), (7, .bool (surelyL l due (ts.take k))), (8, .pointer (some ⟨g4, 0, none⟩)), (11, .pointer (some ⟨g7, 0, none⟩)), (16, .slice A n c), (17, .int .i64 ((n : Nat) : Int)), (18, .int .i64 (k : Int))]) (fun x g8 => [(g8, .cells [.int .i64 x.1.1, .int .i64 x.1.2])]) ?_ ?_ ?_ M ?_ ?_ ?_ ?_ ?_ ?_ ?_ ?_
   ·rintro pre Lx rfl p hp
    rcases List.mem_cons.1 hp with rfl | hp
    · exact .inr rfl
    rcases List.mem_cons.1 hp with rfl | hp
    · exact .inl hlt_g6
    rcases List.mem_cons.1 hp with rfl | hp
    · exact .inr rfl
    rcases List.mem_cons.1 hp with rfl | hp
    · exact .inl hlt_gn
    rcases List.mem_cons.1 hp with rfl | hp
    · exact .inr rfl
    rcases List.mem_cons.1 hp with rfl | hp
    · exact .inr rfl
    exact (.inl (hltT p hp))
   ·rintro c pre Lx h
    exact h.elim
   ·rintro pre Lx rfl p hp -
    exact List.mem_map.2 ⟨p, hp, rfl⟩
   ·exact rfl
   ·exact fun x => T.round1 _ rfl rfl
   ·intro x c p hp
    rcases List.mem_cons.1 hp with rfl | hp
    · rfl
    cases hp
   ·refine .inr ?_
    rintro pre Lx rfl p hp
    rcases List.mem_cons.1 hp with rfl | hp
    · exact hlt_g7
    rcases List.mem_cons.1 hp with rfl | hp
    · exact hlt_g6
    rcases List.mem_cons.1 hp with rfl | hp
    · exact hlt_g4
    rcases List.mem_cons.1 hp with rfl | hp
    · exact hlt_gn
    rcases List.mem_cons.1 hp with rfl | hp
    · exact hlt_g2
    rcases List.mem_cons.1 hp with rfl | hp
    · exact hlt_g1
    exact (hltT p hp)
   ·intro lp x wc K1 ac T hK1
    have M := Mem.init wc noEx
    refine ri_lit (fun _ _ h => h) rfl ?_
    refine l_w rfl ?_; intro K hK
    refine ow_al M T rfl rfl rfl rfl ?_; clear M T; intro g8 wc ac M T
    refine sh_out hK _ _ ?_; clear hK K
    refine l_w rfl ?_; intro K hK
    refine ow_stO M T rfl rfl (T.ev 0 rfl) (T.ev 1 rfl) rfl .head rfl (by simp) rfl (by kernel_rfl) ?_; clear M T; intro wc ac M T
    refine sh_out hK _ _ ?_; clear hK K
    refine wpList_nil ?_
    replace T := T.pick [0, 2, 3, 4, 5, 6, 7, 8, 9, 10] rfl
    refine nm_then ?_
    exact hK1 g8 _ _ (T.pick [0, 1, 2, 3, 4, 5, 6, 7, 8, 9] rfl) (M.mask [true] rfl)
   ·rintro lp pre x g8 Lx ac w hj hz hrec hlr hlt M0 exb wc hexb hwc T M
    cases hj
    replace T : TmD [] ac 79 [(12, .pointer (some ⟨g8, 0, none⟩)), (2, .slice A n c), (3, .pointer (some ⟨g1, 0, none⟩)), (4, .pointer (some ⟨g2, 0, none⟩)), (7, .bool (surelyL l due (ts.take k))), (8, .pointer (some ⟨g4, 0, none⟩)), (11, .pointer (some ⟨g7, 0, none⟩)), (16, .slice A n c), (17, .int .i64 ((n : Nat) : Int)), (18, .int .i64 (k : Int))] := T
    replace M : Mem w exb wc ((g8, .cells [.int .i64 x.1.1, .int .i64 x.1.2]) :: (g7, .cells [.map (some g6)]) :: (g6, .any (setQ Try.prog 145 (pre.length) (fun v => v ∈ pre.map Subtype.val))) :: (g4, .cells [.map (some gn)]) :: (gn, .any (setQ Try.prog 145 (427) (fun v => v ∈ nowL l due (ts.take k)))) :: (g2, .cells [.int .i64 due]) :: (g1, .cells [.int .i64 l.first, .int .i64 l.step, .int .i64 l.span, .int .i64 l.press]) :: dfT Ds) := M
    have hxb := x.2
    refine wpIn_block ?_
    refine ri_lit (fun _ _ h => h) rfl ?_
    refine lq T (rn_one (Mem.nth M 1 rfl) rfl (T.ev 6 rfl) rfl) ?_; clear T ac; intro ac T
    refine lq T (rn_rowO (Mem.nth M 0 rfl) rfl (T.ev 1 rfl) rfl) ?_; clear T ac; intro ac T
    refine l_w rfl ?_; intro K hK
    obtain ⟨kl1, hkl1⟩ := Try.kx_key (x.1.1, x.1.2) (by dsimp only; omega) (by dsimp only; omega)
    refine ow_mu (p := (x.1.1, x.1.2)) Try.keyed145 Try.underlying141 M T rfl rfl (T.ev 1 rfl) (T.ev 0 rfl) evc (.tail (.tail .head)) hkl1 (by unfold maxLen; omega) ?_; clear M T; intro wc ac M T
    refine sh_out hK _ _ ?_; clear hK K
    refine wpList_nil ?_
    replace T := T.pick [3, 4, 5, 6, 7, 8, 9, 10, 11] rfl
    replace M := M.mask [false, true, true, true, true, true, true] rfl
    refine nm_blk ?_
    replace M := M.chS (n' := (pre ++ [x]).length) (S' := fun v => v ∈ (pre ++ [x]).map Subtype.val) (.tail .head) (by intro v; simp) (by simp)
    refine rp_nm (L := ((g7, .cells [.map (some g6)]) :: (g6, .any (setQ Try.prog 145 ((pre ++ [x]).length) (fun v => v ∈ (pre ++ [x]).map Subtype.val))) :: (g4, .cells [.map (some gn)]) :: (gn, .any (setQ Try.prog 145 (427) (fun v => v ∈ nowL l due (ts.take k)))) :: (g2, .cells [.int .i64 due]) :: (g1, .cells [.int .i64 l.first, .int .i64 l.step, .int .i64 l.span, .int .i64 l.press]) :: dfT Ds)) ?_ (M.mask [true, true, true, true, true, true] rfl)
    exact rfl
   ·rintro D1 pre Lx ac wc hSd hj hz T M
    cases hj
    replace T : TmD ((D1 :: Ds).map dfD) ac 79 [(2, .slice A n c), (3, .pointer (some ⟨g1, 0, none⟩)), (4, .pointer (some ⟨g2, 0, none⟩)), (7, .bool (surelyL l due (ts.take k))), (8, .pointer (some ⟨g4, 0, none⟩)), (11, .pointer (some ⟨g7, 0, none⟩)), (16, .slice A n c), (17, .int .i64 ((n : Nat) : Int)), (18, .int .i64 (k : Int)), (27, .func (.func 115) #[] #[.pointer (some ⟨gu1, 0, none⟩)])] := T
    have e9 : pre.map Subtype.val = nowL l due (ts.take (k + 1)) := by rw [show k = 0 by omega] at hk1 ⊢; exact hSd.trans (by cases ts <;> simp_all [nowL, allOf])
    have e8 := congrArg List.length hSd
    rw [List.length_map] at e8
    replace M := M.chS (n' := 427) (S' := fun v => v ∈ nowL l due (ts.take (k + 1))) (.tail (.tail .head)) (by intro v; rw [e9]) (by omega)
    replace T := T.pick [0, 1, 2, 3, 4, 5, 6, 7, 8] rfl
    refine nm_blk ?_
    refine nm_then ?_
    refine wp_seq ?_
    refine wp_region_lit ?_
    refine lq T (rn_one (Mem.nth M 1 rfl) rfl (T.ev 5 rfl) rfl) ?_; clear T ac; intro ac T
    refine l_w rfl ?_; intro K hK
    refine ow_stO M T rfl rfl (T.ev 5 rfl) (T.ev 0 rfl) rfl (.tail (.tail (.tail .head))) rfl (by simp) rfl (by kernel_rfl) ?_; clear M T; intro wc ac M T
    refine sh_out hK _ _ ?_; clear hK K
    refine wpList_nil ?_
    replace T := T.pick [1, 2, 3, 4, 5, 7, 8, 9] rfl
    replace M := M.mask [true, false, true, true, true, true, true] rfl
    refine nm_then ?_
    refine wp_exit ?_
    refine ex_then ?_
    refine ex_hit ?_
    refine nm_then ?_
    refine wp_region_lit ?_
    refine lq T (rn_add rfl (T.ev 7 rfl) evc (by omega)) ?_; clear T ac; intro ac T
    refine l_q (v := (.int .i64 ((k : Int) + 1))) (T.pick [0, 1, 2, 3, 4, 5, 6, 7] rfl) rfl rfl rfl rfl (rn_move rfl (T.ev 0 rfl)) ?_; clear T ac; intro ac T
    refine wpList_nil ?_
    replace T := T.pick [0, 2, 3, 4, 5, 6, 7, 8] rfl
    refine nm_then ?_
    have e9 : surelyL l due (ts.take k) = surelyL l due (ts.take (k + 1)) := by rw [show k = 0 by omega]; cases ts <;> rfl
    rw [e9] at T
    clear e9
    exact ⟨_, by omega, k + 1, g6, ((D1 :: Ds)), rfl, (by omega), T.pick [1, 2, 3, 4, 5, 6, 7, 0] rfl, M.permT [2, 1, 4, 5, 0] 6 rfl rfl rfl rfl⟩
   ·intro D c pre Lx ac wc hS h
    exact h.elim
  intro h2
  obtain ⟨k1, hk01⟩ : ∃ k1 : Nat, (k : Int) - 1 = (k1 : Int) := ⟨k - 1, by omega⟩
  obtain ⟨sy, hk3, -⟩ := sc_next (l := ts) (k := k1) (by omega)
  have gsy := gt sy (List.mem_of_getElem? hk3)
  have ⟨gy1, gy2⟩ := gsy
  refine wp_skip ?_
  refine nm_then ?_
  refine cut_seq (fun ac wc => TmD ((Ds).map dfD) ac 79 [(2, .slice A n c), (3, .pointer (some ⟨g1, 0, none⟩)), (4, .pointer (some ⟨g2, 0, none⟩)), (7, .bool ((surelyL l due (ts.take k)) && (decide ((offP l due sy sx) ≤ l.span)))), (8, .pointer (some ⟨g4, 0, none⟩)), (10, .pointer (some ⟨g5, 0, none⟩)), (11, .pointer (some ⟨g7, 0, none⟩)), (16, .slice A n c), (17, .int .i64 ((n : Nat) : Int)), (18, .int .i64 (k : Int))] ∧ Mem w noEx wc ((g7, .cells [.map (some g6)]) :: (g6, .any (setQ Try.prog 145 (0) (fun _ => False))) :: (g5, .cells [.int .i64 sx.t0, .int .i64 sx.t1, .int .i64 sx.s0, .int .i64 sx.s1]) :: (g4, .cells [.map (some gn)]) :: (gn, .any (setQ Try.prog 145 (427) (fun v => v ∈ nowL l due (ts.take k)))) :: (g2, .cells [.int .i64 due]) :: (g1, .cells [.int .i64 l.first, .int .i64 l.step, .int .i64 l.span, .int .i64 l.press]) :: dfT Ds)) ?_ ?_
  ·refine g_start2 M (M.mask [true, true, true, true, true, true, true] rfl) 16 (by kernel_rfl) rfl (by kernel_rfl) ?_
   clear M; intro wc M
   refine gq T 0 1 rfl (fun _ _ _ _ _ => (rn_move rfl (T.ev 7 rfl))) ?_; clear T ac; intro ac T
   refine gq T 1 3 rfl (fun _ _ _ _ _ => (rn_move rfl (T.ev 0 rfl))) ?_; clear T ac; intro ac T
   rcases Bool.eq_false_or_eq_true (surelyL l due (ts.take k)) with h3 | h3
   ·refine g_q (T := T) (i := 2) rfl (by kernel_rfl) (by kernel_rfl : (pbits 16 3).setIfInBounds 2 true = pbits 16 7) si_U (fun _ _ _ h => h) (wanted_yes rfl rfl (T.ev 0 rfl) h3) rfl rfl rfl (fun B w' hD hl hS => (rn_rowO (Mem.nth (show Mem w noEx w' _ from hS) 6 rfl) rfl (T.ev 7 rfl) rfl)) ?_; clear T ac; intro ac T
    refine g_q (T := T) (i := 3) rfl (by kernel_rfl) (by kernel_rfl : (pbits 16 7).setIfInBounds 3 true = pbits 16 15) si_U (fun _ _ _ h => h) (wanted_yes rfl rfl (T.ev 1 rfl) h3) rfl rfl rfl (fun B w' hD hl hS => (rn_one (Mem.nth (show Mem w noEx w' _ from hS) 5 rfl) rfl (T.ev 9 rfl) rfl)) ?_; clear T ac; intro ac T
    refine g_q (T := T) (i := 4) rfl (by kernel_rfl) (by kernel_rfl : (pbits 16 15).setIfInBounds 4 true = pbits 16 31) si_U (fun _ _ _ h => h) (wanted_yes rfl rfl (T.ev 2 rfl) h3) rfl rfl rfl (fun _ _ _ _ _ => (rn_move rfl (T.ev 8 rfl))) ?_; clear T ac; intro ac T
    refine g_q (T := T) (i := 5) rfl (by kernel_rfl) (by kernel_rfl : (pbits 16 31).setIfInBounds 5 true = pbits 16 63) si_U (fun _ _ _ h => h) (wanted_yes rfl rfl (T.ev 3 rfl) h3) rfl rfl rfl (fun _ _ _ _ _ => (rn_move rfl (T.ev 7 rfl))) ?_; clear T ac; intro ac T
    refine g_q (T := T) (i := 6) rfl (by kernel_rfl) (by kernel_rfl : (pbits 16 63).setIfInBounds 6 true = pbits 16 127) si_U (fun _ _ _ h => h) (wanted_yes rfl rfl (T.ev 4 rfl) h3) rfl rfl rfl (fun _ _ _ _ _ => (rn_sub rfl (T.ev 0 rfl) evc (by omega))) ?_; clear T ac; intro ac T
    refine g_q (T := T) (i := 7) rfl (by kernel_rfl) (by kernel_rfl : (pbits 16 127).setIfInBounds 7 true = pbits 16 255) si_U (fun _ _ _ h => h) (wanted_yes rfl rfl (T.ev 5 rfl) h3) rfl rfl rfl (fun _ _ _ _ _ => (rn_indexAddr (size := 4) k1 rfl (T.ev 2 rfl) (T.ev 0 rfl) ⟨_, Try.underlying38, by kernel_rfl⟩ hk01 (by omega) (SJ.at0 (by omega)))) ?_; clear T ac; intro ac T
    refine g_q (v := (.agg #[.int .i64 sy.t0, .int .i64 sy.t1, .int .i64 sy.s0, .int .i64 sy.s1])) (T := T) (i := 8) rfl (by kernel_rfl) (by kernel_rfl : (pbits 16 255).setIfInBounds 8 true = pbits 16 511) si_U (fun _ _ _ h => h) (wanted_yes rfl rfl (T.ev 6 rfl) h3) rfl rfl rfl (fun B w' hD hl hS => (rn_rowat (Sp.scR4 SJ (show Mem w noEx w' _ from hS) (List.nil_sublist _) hk3) rfl (T.ev 0 rfl) rfl)) ?_; clear T ac; intro ac T
    refine g_q (T := T) (i := 9) rfl (by kernel_rfl) (by kernel_rfl : (pbits 16 511).setIfInBounds 9 true = pbits 16 1023) si_U (fun _ _ _ h => h) (wanted_yes rfl rfl (T.ev 7 rfl) h3) rfl rfl rfl (fun B w' hD hl hS => (rn_rowO (Mem.nth (show Mem w noEx w' _ from hS) 2 rfl) rfl (T.ev 12 rfl) rfl)) ?_; clear T ac; intro ac T
    refine g_q (v := (.pointer (some ⟨g1, 2, none⟩))) (T := T) (i := 11) rfl (by kernel_rfl) (by kernel_rfl : (pbits 16 1023).setIfInBounds 11 true = pbits 16 3071) si_U (fun _ _ _ h => h) (wanted_yes rfl rfl (T.ev 8 rfl) h3) rfl rfl rfl (fun _ _ _ _ _ => (rn_fieldAddr (off := 2) rfl (T.ev 15 rfl) (fun _ _ _ => by kernel_rfl))) ?_; clear T ac; intro ac T
    refine g_q (T := T) (i := 12) rfl (by kernel_rfl) (by kernel_rfl : (pbits 16 3071).setIfInBounds 12 true = pbits 16 7167) si_U (fun _ _ _ h => h) (wanted_yes rfl rfl (T.ev 9 rfl) h3) rfl rfl rfl (fun B w' hD hl hS => (rn_one (Mem.nth (show Mem w noEx w' _ from hS) 6 rfl) rfl (T.ev 0 rfl) rfl)) ?_; clear T ac; intro ac T
    refine g_w (i := 10) (by kernel_rfl) rfl (by kernel_rfl : (pbits 16 7167).setIfInBounds 10 true = pbits 16 8191) (wanted_yes rfl rfl (T.ev 10 rfl) h3) ?_; intro K hK
    refine ow_call (first := []) (cap := []) T rfl rfl rfl rfl evf (.cons (T.ev 9 rfl) (.cons (T.ev 8 rfl) (.cons (T.ev 3 rfl) (.cons (T.ev 2 rfl) .nil)))) Try.func91 rfl rfl ?_
    refine Calls.mono (off_any l due sy sx _ (by (try dsimp only); omega) (by (try dsimp only); omega) gsy gsx) ?_
    clear T
    rintro e wc ⟨rfl, hb⟩
    intro ac T
    replace M := M.call hb; clear hb
    refine sh_out hK _ _ (M.mask [true, true, true, true, true, true, true] rfl) ?_; clear hK K
    refine g_q (T := T) (i := 13) rfl (by kernel_rfl) (by kernel_rfl : (pbits 16 8191).setIfInBounds 13 true = pbits 16 16383) si_U (fun _ _ _ h => h) (wanted_yes rfl rfl (T.ev 11 rfl) h3) rfl rfl rfl (fun _ _ _ _ _ => (rn_leq rfl (T.ev 0 rfl) (T.ev 1 rfl))) ?_; clear T ac; intro ac T
    refine gq T 14 32767 rfl (fun _ _ _ _ _ => (rn_pick1 rfl (T.ev 12 rfl) h3 (T.ev 0 rfl))) ?_; clear T ac; intro ac T
    refine g_q (v := (.bool (decide ((offP l due sy sx) ≤ l.span)))) (T := T.pick [0, 1, 2, 3, 4, 5, 6, 7, 8, 9, 10, 11, 12, 13, 14, 15, 16, 17, 18, 19, 20, 21, 23, 24, 25, 26] rfl) (i := 15) rfl (by kernel_rfl) (by kernel_rfl : (pbits 16 32767).setIfInBounds 15 true = pbits 16 65535) si_U (fun _ _ _ h => h) rfl rfl rfl rfl (fun _ _ _ _ _ => (rn_assign rfl (T.ev 0 rfl))) ?_; clear T ac; intro ac T
    refine g_done (by kernel_rfl) ?_
    replace T := T.pick [0, 2, 3, 4, 5, 6, 7, 8, 9, 10, 11, 12, 13, 17, 19, 20, 21, 22, 23, 24, 25, 26] rfl
    exact ⟨(T.pick (E' := [(2, .slice A n c), (3, .pointer (some ⟨g1, 0, none⟩)), (4, .pointer (some ⟨g2, 0, none⟩)), (7, .bool (decide ((offP l due sy sx) ≤ l.span))), (8, .pointer (some ⟨g4, 0, none⟩)), (10, .pointer (some ⟨g5, 0, none⟩)), (11, .pointer (some ⟨g7, 0, none⟩)), (16, .slice A n c), (17, .int .i64 ((n : Nat) : Int)), (18, .int .i64 (k : Int))]) [15, 16, 17, 0, 18, 14, 13, 19, 20, 21] rfl).as (by (try rw [show (surelyL l due (ts.take k)) = true from h3]); (try rfl)), M.mask [true, true, true, true, true, true, true] rfl⟩
   refine g_pass (T := T) (i := 2) rfl (by kernel_rfl) (by kernel_rfl : (pbits 16 3).setIfInBounds 2 true = pbits 16 7) si_U (fun _ _ _ h => h) (wanted_no rfl rfl (T.ev 0 rfl) h3) rfl rfl rfl ?_; clear T ac; intro ac T
   refine g_pass (T := T) (i := 3) rfl (by kernel_rfl) (by kernel_rfl : (pbits 16 7).setIfInBounds 3 true = pbits 16 15) si_U (fun _ _ _ h => h) (wanted_no rfl rfl (T.ev 1 rfl) h3) rfl rfl rfl ?_; clear T ac; intro ac T
   refine g_pass (T := T) (i := 4) rfl (by kernel_rfl) (by kernel_rfl : (pbits 16 15).setIfInBounds 4 true = pbits 16 31) si_U (fun _ _ _ h => h) (wanted_no rfl rfl (T.ev 2 rfl) h3) rfl rfl rfl ?_; clear T ac; intro ac T
   refine g_pass (T := T) (i := 5) rfl (by kernel_rfl) (by kernel_rfl : (pbits 16 31).setIfInBounds 5 true = pbits 16 63) si_U (fun _ _ _ h => h) (wanted_no rfl rfl (T.ev 3 rfl) h3) rfl rfl rfl ?_; clear T ac; intro ac T
   refine g_pass (T := T) (i := 6) rfl (by kernel_rfl) (by kernel_rfl : (pbits 16 63).setIfInBounds 6 true = pbits 16 127) si_U (fun _ _ _ h => h) (wanted_no rfl rfl (T.ev 4 rfl) h3) rfl rfl rfl ?_; clear T ac; intro ac T
   refine g_pass (T := T) (i := 7) rfl (by kernel_rfl) (by kernel_rfl : (pbits 16 127).setIfInBounds 7 true = pbits 16 255) si_U (fun _ _ _ h => h) (wanted_no rfl rfl (T.ev 5 rfl) h3) rfl rfl rfl ?_; clear T ac; intro ac T
   refine g_pass (T := T) (i := 8) rfl (by kernel_rfl) (by kernel_rfl : (pbits 16 255).setIfInBounds 8 true = pbits 16 511) si_U (fun _ _ _ h => h) (wanted_no rfl rfl (T.ev 6 rfl) h3) rfl rfl rfl ?_; clear T ac; intro ac T
   refine g_pass (T := T) (i := 9) rfl (by kernel_rfl) (by kernel_rfl : (pbits 16 511).setIfInBounds 9 true = pbits 16 1023) si_U (fun _ _ _ h => h) (wanted_no rfl rfl (T.ev 7 rfl) h3) rfl rfl rfl ?_; clear T ac; intro ac T
   refine g_pass (T := T) (i := 11) rfl (by kernel_rfl) (by kernel_rfl : (pbits 16 1023).setIfInBounds 11 true = pbits 16 3071) si_U (fun _ _ _ h => h) (wanted_no rfl rfl (T.ev 8 rfl) h3) rfl rfl rfl ?_; clear T ac; intro ac T
   refine g_pass (T := T) (i := 12) rfl (by kernel_rfl) (by kernel_rfl : (pbits 16 3071).setIfInBounds 12 true = pbits 16 7167) si_U (fun _ _ _ h => h) (wanted_no rfl rfl (T.ev 9 rfl) h3) rfl rfl rfl ?_; clear T ac; intro ac T
   refine g_pass (T := T) (i := 10) rfl (by kernel_rfl) (by kernel_rfl : (pbits 16 7167).setIfInBounds 10 true = pbits 16 8191) si_U (fun _ _ _ h => h) (wanted_no rfl rfl (T.ev 10 rfl) h3) rfl rfl rfl ?_; clear T ac; intro ac T
   refine g_pass (T := T) (i := 13) rfl (by kernel_rfl) (by kernel_rfl : (pbits 16 8191).setIfInBounds 13 true = pbits 16 16383) si_U (fun _ _ _ h => h) (wanted_no rfl rfl (T.ev 11 rfl) h3) rfl rfl rfl ?_; clear T ac; intro ac T
   refine gq T 14 32767 rfl (fun _ _ _ _ _ => (rn_pick0 rfl (T.ev 12 rfl) h3 evc)) ?_; clear T ac; intro ac T
   refine g_q (v := (.bool false)) (T := T.pick [0, 1, 2, 3, 4, 5, 6, 7, 8, 9, 10, 11, 12, 13, 14, 15, 16, 17, 18, 19, 20, 21, 23, 24, 25, 26] rfl) (i := 15) rfl (by kernel_rfl) (by kernel_rfl : (pbits 16 32767).setIfInBounds 15 true = pbits 16 65535) si_U (fun _ _ _ h => h) rfl rfl rfl rfl (fun _ _ _ _ _ => (rn_assign rfl (T.ev 0 rfl))) ?_; clear T ac; intro ac T
   refine g_done (by kernel_rfl) ?_
   replace T := T.pick [0, 2, 3, 4, 5, 6, 7, 8, 9, 10, 11, 12, 13, 17, 19, 20, 21, 22, 23, 24, 25, 26] rfl
   exact ⟨(T.pick (E' := [(2, .slice A n c), (3, .pointer (some ⟨g1, 0, none⟩)), (4, .pointer (some ⟨g2, 0, none⟩)), (7, .bool false), (8, .pointer (some ⟨g4, 0, none⟩)), (10, .pointer (some ⟨g5, 0, none⟩)), (11, .pointer (some ⟨g7, 0, none⟩)), (16, .slice A n c), (17, .int .i64 ((n : Nat) : Int)), (18, .int .i64 (k : Int))]) [15, 16, 17, 0, 18, 14, 13, 19, 20, 21] rfl).as (by (try rw [show (surelyL l due (ts.take k)) = false from h3]); (try rfl)), M.mask [true, true, true, true, true, true, true] rfl⟩
  clear T M
  rintro ac wc ⟨T, M⟩
  refine wp_seq ?_
  refine wp_seq ?_
  refine wp_region_lit ?_
  refine lq T (rn_rowO (Mem.nth M 2 rfl) rfl (T.ev 5 rfl) rfl) ?_; clear T ac; intro ac T
  refine l_w rfl ?_; intro K hK
  refine ow_call (first := []) (cap := []) T rfl rfl rfl rfl evf (.cons (T.ev 0 rfl) .nil) Try.func90 rfl rfl ?_
  refine Calls.mono (all_any sx _) ?_
  clear T
  rintro e wc ⟨gu3, rfl, N⟩
  intro ac T
  replace M := M.join N; clear N
  replace M := M.mask [true, true, true, true, true, true, true, true] rfl
  refine sh_out hK _ _ ?_; clear hK K
  refine wpList_nil ?_
  replace T := T.pick [0, 2, 3, 4, 5, 6, 8, 9, 10, 11] rfl
  replace M := M.mask [true, true, true, false, true, true, true, true] rfl
  refine nm_then ?_
  refine wp_block ?_
  have q1 := M.nth 0 rfl
  have hg1 := M.lt (nthE_mem (i := 0) rfl)
  have hx1 := (List.nodup_cons.1 M.nd).1
  have hal : (allL sx.t0 sx.t1 sx.s0 sx.s1).length ≤ 427 := allOf_length gsx
  obtain ⟨esN, clN, hSN, M⟩ := M.openS (fun _ _ => (.tail (.tail (.tail (.tail .head)))))
  replace T := T.pick [1, 2, 3, 4, 5, 6, 7, 8, 9, 0] rfl
  have hlt_g7 := M.lt (nthE_mem (i := 1) rfl)
  have hlt_g6 := M.lt (nthE_mem (i := 2) rfl)
  have hlt_g4 := M.lt (nthE_mem (i := 3) rfl)
  have hlt_gn := M.lt (nthE_mem (i := 4) rfl)
  have hlt_g2 := M.lt (nthE_mem (i := 5) rfl)
  have hlt_g1 := M.lt (nthE_mem (i := 6) rfl)
  replace M := M.mask [false, true, true, true, true, true, true] rfl
  replace M := M.chS (n' := ([] : List (Ax sx.t0 sx.t1 sx.s0 sx.s1)).length) (S' := fun v => v ∈ (([] : List (Ax sx.t0 sx.t1 sx.s0 sx.s1)).map Subtype.val).filter (fun y => (nowL l due (ts.take k)).any fun x => agreeP l due (y.1 - x.1) (y.2 - x.2))) (.tail .head) (by intro v; simp) (by simp)
  have hltT : ∀ p ∈ dfT Ds, p.1 < _ := fun p hp => BA.lt (M.blk p (List.mem_cons_of_mem _ (List.mem_cons_of_mem _ (List.mem_cons_of_mem _ (List.mem_cons_of_mem _ (List.mem_cons_of_mem _ (List.mem_cons_of_mem _ (hp)))))))).2
  refine px_range (α := Ax sx.t0 sx.t1 sx.s0 sx.s1) (γ := Nat) (n := 79) T (T.ev 9 rfl) (enters_of Try.func115 (by kernel_rfl) rfl) (fun b => b ∈ (g7 :: g6 :: g4 :: gn :: g2 :: g1 :: (dfT Ds).map (·.1))) (all_stops 7 (by omega) gu3 _ _ sx.t0 sx.t1 sx.s0 sx.s1 (by omega) (by omega) (by omega) (by omega) hg1 hx1 _ q1) (fun _ => rfl) (fun (pre : List (Ax sx.t0 sx.t1 sx.s0 sx.s1)) (Lx : List (Nat × BA)) => Lx = ((g7, .cells [.map (some g6)]) :: (g6, .any (setQ Try.prog 145 (pre.length) (fun v => v ∈ (pre.map Subtype.val).filter (fun y => (nowL l due (ts.take k)).any fun x => agreeP l due (y.1 - x.1) (y.2 - x.2))))) :: (g4, .cells [.map (some gn)]) :: (gn, mapC esN clN) :: (g2, .cells [.int .i64 due]) :: (g1, .cells [.int .i64 l.first, .int .i64 l.step, .int .i64 l.span, .int .i64 l.press]) :: dfT Ds)) (fun _ _ _ => False)
    (fun x => [(49, .agg #[.int .i64 x.1.1, .int .i64 x.1.2]), (2, .slice A n c), (3, .pointer (some ⟨g1, 0, none⟩)), (4, .pointer (some ⟨g2, 0, none⟩)), (7, .bool ((surelyL l due (ts.take k)) && (decide ((offP l due sy sx) ≤ l.span)))), (8, .pointer (some ⟨g4, 0, none⟩)), (11, .pointer (some ⟨g7, 0, none⟩)), (16, .slice A n c), (17, .int .i64 ((n : Nat) : Int)), (18, .int .i64 (k : Int)), (48, .func (.func 115) #[] #[.pointer (some ⟨gu3, 0, none⟩)])]) (fun x g9 => [(13, .pointer (some ⟨g9, 0, none⟩)), (2, .slice A n c), (3, .pointer (some ⟨g1, 0, none⟩)), (4, .pointer (some ⟨g2, 0, none⟩)), (7, .bool ((surelyL l due (ts.take k)) && (decide ((offP l due sy sx) ≤ l.span)))), (8, .pointer (some ⟨g4, 0, none⟩)), (11, .pointer (some ⟨g7, 0, none⟩)), (16, .slice A n c), (17, .int .i64 ((n : Nat) : Int)), (18, .int .i64 (k : Int))]) (fun x g9 => [(g9, .cells [.int .i64 x.1.1, .int .i64 x.1.2])]) ?_ ?_ ?_ M ?_ ?_ ?_ ?_ ?_ ?_ ?_ ?_
  ·rintro pre Lx rfl p hp
   rcases List.mem_cons.1 hp with rfl | hp
   · exact .inr rfl
   rcases List.mem_cons.1 hp with rfl | hp
   · exact .inl hlt_g6
   rcases List.mem_cons.1 hp with rfl | hp
   · exact .inr rfl
   rcases List.mem_cons.1 hp with rfl | hp
   · exact .inl hlt_gn
   rcases List.mem_cons.1 hp with rfl | hp
   · exact .inr rfl
   rcases List.mem_cons.1 hp with rfl | hp
   · exact .inr rfl
   exact (.inl (hltT p hp))
  ·rintro c pre Lx h
   exact h.elim
  ·rintro pre Lx rfl p hp -
   exact List.mem_map.2 ⟨p, hp, rfl⟩
  ·exact rfl
  ·exact fun x => T.round1 _ rfl rfl
  ·intro x c p hp
   rcases List.mem_cons.1 hp with rfl | hp
   · rfl
   cases hp
  ·refine .inr ?_
   rintro pre Lx rfl p hp
   rcases List.mem_cons.1 hp with rfl | hp
   · exact hlt_g7
   rcases List.mem_cons.1 hp with rfl | hp
   · exact hlt_g6
   rcases List.mem_cons.1 hp with rfl | hp
   · exact hlt_g4
   rcases List.mem_cons.1 hp with rfl | hp
   · exact hlt_gn
   rcases List.mem_cons.1 hp with rfl | hp
   · exact hlt_g2
   rcases List.mem_cons.1 hp with rfl | hp
   · exact hlt_g1
   exact (hltT p hp)
  ·intro lp x wc K1 ac T hK1
   have M := Mem.init wc noEx
   refine ri_lit (fun _ _ h => h) rfl ?_
   refine l_w rfl ?_; intro K hK
   refine ow_al M T rfl rfl rfl rfl ?_; clear M T; intro g9 wc ac M T
   refine sh_out hK _ _ ?_; clear hK K
   refine l_w rfl ?_; intro K hK
   refine ow_stO M T rfl rfl (T.ev 0 rfl) (T.ev 1 rfl) rfl .head rfl (by simp) rfl (by kernel_rfl) ?_; clear M T; intro wc ac M T
   refine sh_out hK _ _ ?_; clear hK K
   refine wpList_nil ?_
   replace T := T.pick [0, 2, 3, 4, 5, 6, 7, 8, 9, 10] rfl
   refine nm_then ?_
   exact hK1 g9 _ _ (T.pick [0, 1, 2, 3, 4, 5, 6, 7, 8, 9] rfl) (M.mask [true] rfl)
  ·rintro lp pre x g9 Lx ac w hj hz hrec hlr hlt M0 exb wc hexb hwc T M
   cases hj
   replace T : TmD [] ac 79 [(13, .pointer (some ⟨g9, 0, none⟩)), (2, .slice A n c), (3, .pointer (some ⟨g1, 0, none⟩)), (4, .pointer (some ⟨g2, 0, none⟩)), (7, .bool ((surelyL l due (ts.take k)) && (decide ((offP l due sy sx) ≤ l.span)))), (8, .pointer (some ⟨g4, 0, none⟩)), (11, .pointer (some ⟨g7, 0, none⟩)), (16, .slice A n c), (17, .int .i64 ((n : Nat) : Int)), (18, .int .i64 (k : Int))] := T
   replace M : Mem w exb wc ((g9, .cells [.int .i64 x.1.1, .int .i64 x.1.2]) :: (g7, .cells [.map (some g6)]) :: (g6, .any (setQ Try.prog 145 (pre.length) (fun v => v ∈ (pre.map Subtype.val).filter (fun y => (nowL l due (ts.take k)).any fun x => agreeP l due (y.1 - x.1) (y.2 - x.2))))) :: (g4, .cells [.map (some gn)]) :: (gn, mapC esN clN) :: (g2, .cells [.int .i64 due]) :: (g1, .cells [.int .i64 l.first, .int .i64 l.step, .int .i64 l.span, .int .i64 l.press]) :: dfT Ds) := M
   have hxb := x.2
   refine wpIn_block ?_
   refine wpIn_scope_straight ?_
   refine wpIn_seq ?_
   refine wpIn_label ?_
   refine nm_then ?_
   refine wpIn_seq ?_
   refine ri_lit (fun _ _ h => h) rfl ?_
   refine lq T (rn_one (Mem.nth M 3 rfl) rfl (T.ev 5 rfl) rfl) ?_; clear T ac; intro ac T
   refine l_w rfl ?_; intro K hK
   refine ow_range hSN Try.underlying141 M (nthE_mem (i := 4) rfl) T rfl rfl rfl rfl (T.ev 0 rfl) ?_; clear M T; intro g10 wc ac M T
   refine sh_out hK _ _ ?_; clear hK K
   refine wpList_nil ?_
   replace T := T.pick [0, 2, 3, 4, 5, 6, 7, 8, 9, 10, 11] rfl
   refine nm_then ?_
   refine wpIn_block ?_
   refine li_loop_n (fun mz ac wc => ∃ (left : Int × Int → Prop) (cnt : Nat) (cur : Option MapEntry), mz = cnt ∧ (∀ p, p ∈ nowL l due (ts.take k) → ¬ left p → agreeP l due (x.1.1 - p.1) (x.1.2 - p.2) = false) ∧ Tm ac 79 [(2, .slice A n c), (3, .pointer (some ⟨g1, 0, none⟩)), (4, .pointer (some ⟨g2, 0, none⟩)), (7, .bool ((surelyL l due (ts.take k)) && (decide ((offP l due sy sx) ≤ l.span)))), (8, .pointer (some ⟨g4, 0, none⟩)), (11, .pointer (some ⟨g7, 0, none⟩)), (13, .pointer (some ⟨g9, 0, none⟩)), (16, .slice A n c), (17, .int .i64 ((n : Nat) : Int)), (18, .int .i64 (k : Int)), (51, .pointer (some ⟨g10, 0, none⟩))] ∧ Mem w exb wc ((g10, .any (itQ gn esN clN left cnt cur)) :: (g9, .cells [.int .i64 x.1.1, .int .i64 x.1.2]) :: (g7, .cells [.map (some g6)]) :: (g6, .any (setQ Try.prog 145 (pre.length) (fun v => v ∈ (pre.map Subtype.val).filter (fun y => (nowL l due (ts.take k)).any fun x => agreeP l due (y.1 - x.1) (y.2 - x.2))))) :: (g4, .cells [.map (some gn)]) :: (gn, mapC esN clN) :: (g2, .cells [.int .i64 due]) :: (g1, .cells [.int .i64 l.first, .int .i64 l.step, .int .i64 l.span, .int .i64 l.press]) :: dfT Ds)) ?_ ?_
   ·exact ⟨_, (fun _ => True), esN.size, none, rfl, (fun p _ h => absurd trivial h), T.pick [2, 3, 4, 5, 6, 7, 1, 8, 9, 10, 0] rfl, M.mask [true, true, true, true, true, true, true, true] rfl⟩
   clear T M
   rintro mz ac wc ⟨left, cnt, cur, hmm2, hno, T, M⟩
   refine wpIn_seq ?_
   refine ri_lit (fun _ _ h => h) rfl ?_
   refine l_w rfl ?_; intro K hK
   refine ow_next hSN M (nthE_mem (i := 5) rfl) T rfl rfl rfl rfl (T.ev 10 rfl) (fun _ _ _ => .head) ?_ ?_
   ·clear M T
    intro hnon1 wc ac M T
    refine sh_out hK _ _ ?_; clear hK K
    refine lq T (rn_extract rfl (T.ev 0 rfl) rfl) ?_; clear T ac; intro ac T
    refine wpList_nil ?_
    replace T := T.pick [0, 2, 3, 4, 5, 6, 7, 8, 9, 10, 11, 12] rfl
    refine nm_then ?_
    refine wpIn_seq ?_
    refine wpIn_cond_false (T.ev 0 rfl) ?_
    refine wpIn_exit ?_
    refine ex_then ?_
    refine ex_then ?_
    refine ex_hit ?_
    refine nm_ng ?_
    refine nm_blk ?_
    replace M := M.chS (n' := (pre ++ [x]).length) (S' := fun v => v ∈ ((pre ++ [x]).map Subtype.val).filter (fun y => (nowL l due (ts.take k)).any fun x => agreeP l due (y.1 - x.1) (y.2 - x.2))) (.tail (.tail (.tail .head))) (by intro v; rw [List.map_append]; exact ⟨fun h => filter_snoc.2 (.inl h), fun h => (filter_snoc.1 h).elim id (fun h => absurd (any_false (y := x.1) (fun p hp => hno p hp (hnon1 p hp))) (by rw [h.2]; simp))⟩) (by simp)
    refine rp_nm (L := ((g7, .cells [.map (some g6)]) :: (g6, .any (setQ Try.prog 145 ((pre ++ [x]).length) (fun v => v ∈ ((pre ++ [x]).map Subtype.val).filter (fun y => (nowL l due (ts.take k)).any fun x => agreeP l due (y.1 - x.1) (y.2 - x.2))))) :: (g4, .cells [.map (some gn)]) :: (gn, mapC esN clN) :: (g2, .cells [.int .i64 due]) :: (g1, .cells [.int .i64 l.first, .int .i64 l.step, .int .i64 l.span, .int .i64 l.press]) :: dfT Ds)) ?_ (M.mask [false, false, true, true, true, true, true, true] rfl)
    exact rfl
   ·clear M T
    intro exn1 p0n1 p1n1 xvn1 cntn1 hxen1 hxkn1 hxvn1 hxSn1 hxln1 hxcn1 wc ac M T
    refine sh_out hK _ _ ?_; clear hK K
    have hpbn1 := mem_allL.1 (nowL_mem hk3 (p0n1, p1n1) (by rw [show k1 + 1 = k by omega]; exact hxSn1))
    dsimp only at hpbn1
    refine lq T (rn_extract rfl (T.ev 0 rfl) rfl) ?_; clear T ac; intro ac T
    refine wpList_nil ?_
    replace T := T.pick [0, 2, 3, 4, 5, 6, 7, 8, 9, 10, 11, 12] rfl
    refine nm_then ?_
    refine wpIn_seq ?_
    refine wpIn_cond_true (T.ev 0 rfl) ?_
    refine wpIn_skip ?_
    refine nm_then ?_
    refine wpIn_block ?_
    refine wpIn_seq ?_
    refine ri_lit (fun _ _ h => h) rfl ?_
    refine l_w rfl ?_; intro K hK
    refine ow_entry hSN hxen1 hxkn1 hxvn1 M (nthE_mem (i := 5) rfl) (nthE_mem (i := 0) rfl) T rfl rfl rfl rfl (T.ev 11 rfl) ?_; clear T; intro ac T
    refine sh_out hK _ _ ?_; clear hK K
    refine lq T (rn_extract rfl (T.ev 0 rfl) rfl) ?_; clear T ac; intro ac T
    refine l_w rfl ?_; intro K hK
    refine ow_al M T rfl rfl rfl rfl ?_; clear M T; intro g11 wc ac M T
    refine sh_out hK _ _ ?_; clear hK K
    refine l_w rfl ?_; intro K hK
    refine ow_stO M T rfl rfl (T.ev 0 rfl) (T.ev 1 rfl) rfl .head rfl (by simp) rfl (by kernel_rfl) ?_; clear M T; intro wc ac M T
    refine sh_out hK _ _ ?_; clear hK K
    refine wpList_nil ?_
    replace T := T.pick [0, 4, 5, 6, 7, 8, 9, 10, 11, 12, 13, 14] rfl
    refine nm_then ?_
    refine wpIn_seq ?_
    refine ri_lit (fun _ _ h => h) rfl ?_
    refine lq T (rn_rowO (Mem.nth M 8 rfl) rfl (T.ev 2 rfl) rfl) ?_; clear T ac; intro ac T
    refine lq T (rn_one (Mem.nth M 7 rfl) rfl (T.ev 4 rfl) rfl) ?_; clear T ac; intro ac T
    refine lq (v := (.pointer (some ⟨g9, 0, none⟩))) T (rn_indexA (size := 1) 0 rfl (T.ev 9 rfl) evc Try.underlying145 (by kernel_rfl) rfl) ?_; clear T ac; intro ac T
    refine lq T (rn_one (Mem.nth M 2 rfl) rfl (T.ev 0 rfl) rfl) ?_; clear T ac; intro ac T
    refine lq (v := (.pointer (some ⟨g11, 0, none⟩))) T (rn_indexA (size := 1) 0 rfl (T.ev 4 rfl) evc Try.underlying145 (by kernel_rfl) rfl) ?_; clear T ac; intro ac T
    refine lq T (rn_one (Mem.nth M 0 rfl) rfl (T.ev 0 rfl) rfl) ?_; clear T ac; intro ac T
    refine lq T (rn_sub rfl (T.ev 2 rfl) (T.ev 0 rfl) (by omega)) ?_; clear T ac; intro ac T
    refine lq (v := (.pointer (some ⟨g9, 1, none⟩))) T (rn_indexA (size := 1) 1 rfl (T.ev 14 rfl) evc Try.underlying145 (by kernel_rfl) rfl) ?_; clear T ac; intro ac T
    refine lq T (rn_one (Mem.nth M 2 rfl) rfl (T.ev 0 rfl) rfl) ?_; clear T ac; intro ac T
    refine lq (v := (.pointer (some ⟨g11, 1, none⟩))) T (rn_indexA (size := 1) 1 rfl (T.ev 9 rfl) evc Try.underlying145 (by kernel_rfl) rfl) ?_; clear T ac; intro ac T
    refine lq T (rn_one (Mem.nth M 0 rfl) rfl (T.ev 0 rfl) rfl) ?_; clear T ac; intro ac T
    refine lq T (rn_sub rfl (T.ev 2 rfl) (T.ev 0 rfl) (by omega)) ?_; clear T ac; intro ac T
    refine l_w rfl ?_; intro K hK
    refine ow_call (first := []) (cap := []) T rfl rfl rfl rfl evf (.cons (T.ev 11 rfl) (.cons (T.ev 10 rfl) (.cons (T.ev 5 rfl) (.cons (T.ev 0 rfl) .nil)))) Try.func92 rfl rfl ?_
    refine Calls.mono (agree_any l due (x.1.1 - p0n1) (x.1.2 - p1n1) _ (by (try dsimp only); omega) (by (try dsimp only); omega) (by (try dsimp only); omega) (by (try dsimp only); omega) (by (try dsimp only); omega)) ?_
    clear T
    rintro e wc ⟨rfl, hb⟩
    intro ac T
    replace M := M.call hb; clear hb
    refine sh_out hK _ _ ?_; clear hK K
    refine wpList_nil ?_
    replace T := T.pick [0, 14, 15, 16, 17, 18, 19, 20, 21, 22, 23, 24] rfl
    replace M := M.mask [false, true, true, true, true, true, true, true, true] rfl
    refine nm_then ?_
    refine wpIn_cond_split (T.ev 0 rfl) ?_ ?_
    ·intro h4
     refine wpIn_seq ?_
     refine ri_lit (fun _ _ h => h) rfl ?_
     refine lq T (rn_one (Mem.nth M 2 rfl) rfl (T.ev 6 rfl) rfl) ?_; clear T ac; intro ac T
     refine lq T (rn_rowO (Mem.nth M 1 rfl) rfl (T.ev 8 rfl) rfl) ?_; clear T ac; intro ac T
     refine l_w rfl ?_; intro K hK
     obtain ⟨kl2, hkl2⟩ := Try.kx_key (x.1.1, x.1.2) (by dsimp only; omega) (by dsimp only; omega)
     refine ow_mu (p := (x.1.1, x.1.2)) Try.keyed145 Try.underlying141 M T rfl rfl (T.ev 1 rfl) (T.ev 0 rfl) evc (.tail (.tail (.tail .head))) hkl2 (by unfold maxLen; omega) ?_; clear M T; intro wc ac M T
     refine sh_out hK _ _ ?_; clear hK K
     refine wpList_nil ?_
     replace T := T.pick [3, 4, 5, 6, 7, 8, 10, 11, 12] rfl
     replace M := M.mask [true, false, true, true, true, true, true, true] rfl
     refine nm_then ?_
     refine wpIn_exit ?_
     refine ex_miss rfl ?_
     refine ex_then ?_
     refine ex_hit ?_
     refine nm_ng ?_
     refine nm_blk ?_
     replace M := M.chS (n' := (pre ++ [x]).length) (S' := fun v => v ∈ ((pre ++ [x]).map Subtype.val).filter (fun y => (nowL l due (ts.take k)).any fun x => agreeP l due (y.1 - x.1) (y.2 - x.2))) (.tail (.tail .head)) (by intro v; rw [List.map_append]; exact (or_congr Iff.rfl ⟨fun h => ⟨h, any_true (y := x.1) hxSn1 h4⟩, fun h => h.1⟩).trans filter_snoc.symm) (by simp)
     refine rp_nm (L := ((g7, .cells [.map (some g6)]) :: (g6, .any (setQ Try.prog 145 ((pre ++ [x]).length) (fun v => v ∈ ((pre ++ [x]).map Subtype.val).filter (fun y => (nowL l due (ts.take k)).any fun x => agreeP l due (y.1 - x.1) (y.2 - x.2))))) :: (g4, .cells [.map (some gn)]) :: (gn, mapC esN clN) :: (g2, .cells [.int .i64 due]) :: (g1, .cells [.int .i64 l.first, .int .i64 l.step, .int .i64 l.span, .int .i64 l.press]) :: dfT Ds)) ?_ (M.mask [false, true, true, true, true, true, true] rfl)
     exact rfl
    intro h4
    refine wpIn_skip ?_
    refine nm_blk ?_
    refine nm_then ?_
    exact ⟨_, by omega, (fun q => (left) q ∧ q ≠ (p0n1, p1n1)), cntn1, (some exn1), rfl, (fun q hq hl => Decidable.byCases (fun e : q = (p0n1, p1n1) => by subst e; exact h4) (fun e => hno q hq (fun hh => hl ⟨hh, e⟩))), T.pick [1, 2, 3, 4, 5, 6, 7, 8, 9, 10, 11] rfl, M.mask [true, true, true, true, true, true, true, true] rfl⟩
  ·rintro D2 pre Lx ac wc hSd hj hz T M
   cases hj
   replace T : TmD ((D2 :: Ds).map dfD) ac 79 [(2, .slice A n c), (3, .pointer (some ⟨g1, 0, none⟩)), (4, .pointer (some ⟨g2, 0, none⟩)), (7, .bool ((surelyL l due (ts.take k)) && (decide ((offP l due sy sx) ≤ l.span)))), (8, .pointer (some ⟨g4, 0, none⟩)), (11, .pointer (some ⟨g7, 0, none⟩)), (16, .slice A n c), (17, .int .i64 ((n : Nat) : Int)), (18, .int .i64 (k : Int)), (48, .func (.func 115) #[] #[.pointer (some ⟨gu3, 0, none⟩)])] := T
   have e8 := congrArg List.length hSd
   rw [List.length_map] at e8
   have e9 : (pre.map Subtype.val).filter (fun y => (nowL l due (ts.take k)).any fun x => agreeP l due (y.1 - x.1) (y.2 - x.2)) = nowL l due (ts.take (k + 1)) := by have h7 : ts[k1 + 1]? = some sx := (by rw [← hk1]; congr 1; omega); rw [show pre.map Subtype.val = allOf sx from hSd, show k + 1 = k1 + 2 by omega, show k = k1 + 1 by omega, nowL_take h7]; rfl
   replace M := M.chS (n' := 427) (S' := fun v => v ∈ nowL l due (ts.take (k + 1))) (.tail (.tail .head)) (by intro v; rw [e9]) (by omega)
   replace T := T.pick [0, 1, 2, 3, 4, 5, 6, 7, 8] rfl
   refine nm_blk ?_
   refine nm_then ?_
   refine wp_region_lit ?_
   refine lq T (rn_one (Mem.nth M 1 rfl) rfl (T.ev 5 rfl) rfl) ?_; clear T ac; intro ac T
   refine l_w rfl ?_; intro K hK
   refine ow_stO M T rfl rfl (T.ev 5 rfl) (T.ev 0 rfl) rfl (.tail (.tail (.tail .head))) rfl (by simp) rfl (by kernel_rfl) ?_; clear M T; intro wc ac M T
   refine sh_out hK _ _ ?_; clear hK K
   refine wpList_nil ?_
   replace T := T.pick [1, 2, 3, 4, 5, 7, 8, 9] rfl
   replace M := M.mask [true, false, true, true, true, true, true] rfl
   refine nm_blk ?_
   refine nm_then ?_
   refine wp_region_lit ?_
   refine lq T (rn_add rfl (T.ev 7 rfl) evc (by omega)) ?_; clear T ac; intro ac T
   refine l_q (v := (.int .i64 ((k : Int) + 1))) (T.pick [0, 1, 2, 3, 4, 5, 6, 7] rfl) rfl rfl rfl rfl (rn_move rfl (T.ev 0 rfl)) ?_; clear T ac; intro ac T
   refine wpList_nil ?_
   replace T := T.pick [0, 2, 3, 4, 5, 6, 7, 8] rfl
   refine nm_then ?_
   have e9 : (surelyL l due (ts.take k) && decide (offP l due sy sx ≤ l.span)) = surelyL l due (ts.take (k + 1)) := by rw [show k = k1 + 1 by omega] at hk1 ⊢; exact (surelyL_take hk3 hk1).symm
   rw [e9] at T
   clear e9
   exact ⟨_, by omega, k + 1, g6, ((D2 :: Ds)), rfl, (by omega), T.pick [1, 2, 3, 4, 5, 6, 7, 0] rfl, M.permT [2, 1, 4, 5, 0] 6 rfl rfl rfl rfl⟩
  ·intro D c pre Lx ac wc hS h
   exact h.elim
 intro h1
 obtain ⟨esF, clF, hSF, M⟩ := M.openS (fun _ _ => (.tail .head))
 have e9 : ts.take k = ts := List.take_of_length_le (by omega)
 rw [e9] at T hSF
 clear e9
 refine wp_exit ?_
 refine ex_then ?_
 refine ex_then ?_
 refine ex_hit ?_
 refine nm_then ?_
 refine wp_seq ?_
 refine wp_block ?_
 refine wp_seq ?_
 refine wp_region_lit ?_
 refine lq T (rn_move rfl (T.ev 4 rfl)) ?_; clear T ac; intro ac T
 refine lq T (rn_assign rfl (T.ev 0 rfl)) ?_; clear T ac; intro ac T
 refine wpList_nil ?_
 replace T := T.pick [0, 7] rfl
 replace M := M.mask [true, true, false, false] rfl
 refine nm_then ?_
 refine wp_cond_split (T.ev 0 rfl) ?_ ?_
 ·intro h5
  refine wp_seq ?_
  refine wp_region_lit ?_
  refine lq T (rn_assign rfl evc) ?_; clear T ac; intro ac T
  refine wpList_nil ?_
  replace T := T.pick [0] rfl
  replace M := M.mask [false, true] rfl
  refine nm_then ?_
  refine wp_ret ?_
  refine rt_blk ?_
  refine rt_then ?_
  refine rtM (L := [(gn, mapC esF clF)]) (Ds) T (M.permT [0] 1 rfl rfl rfl rfl) ?_; clear T M; intro wc ac T M
  refine rt_1 T rfl (T.ev 0 rfl) ?_
  refine ⟨ret_int ?_, M.below⟩
  unfold keepsP
  rw [if_pos (by assumption)]
 intro h5
 refine wp_seq ?_
 refine wp_region_lit ?_
 refine lq T (rn_one (Mem.nth M 0 rfl) rfl (T.ev 1 rfl) rfl) ?_; clear T ac; intro ac T
 refine lq T (rn_lenM (M.at (nthE_mem (i := 1) rfl)) Try.underlying141 rfl (T.ev 0 rfl)) ?_; clear T ac; intro ac T
 refine lq T (rn_eql rfl (T.ev 0 rfl) evc) ?_; clear T ac; intro ac T
 refine lq T (rn_assign rfl (T.ev 0 rfl)) ?_; clear T ac; intro ac T
 refine wpList_nil ?_
 replace T := T.pick [0] rfl
 replace M := M.mask [false, true] rfl
 refine nm_then ?_
 refine wp_if (T.ev 0 rfl) ?_ ?_
 ·intro h6
  refine wp_seq ?_
  refine wp_region_lit ?_
  refine lq T (rn_assign rfl evc) ?_; clear T ac; intro ac T
  refine wpList_nil ?_
  replace T := T.pick [0] rfl
  refine nm_then ?_
  refine wp_ret ?_
  refine rt_blk ?_
  refine rt_then ?_
  refine rtM (L := [(gn, mapC esF clF)]) (Ds) T (M.permT [0] 1 rfl rfl rfl rfl) ?_; clear T M; intro wc ac T M
  refine rt_1 T rfl (T.ev 0 rfl) ?_
  refine ⟨ret_int ?_, M.below⟩
  unfold keepsP
  rw [if_neg (by simp_all), if_pos]
  rw [List.isEmpty_iff, List.eq_nil_iff_forall_not_mem]
  exact hSF.empty.1 (by omega)
 intro h6
 refine wp_skip ?_
 refine nm_blk ?_
 refine nm_then ?_
 refine wp_seq ?_
 refine wp_region_lit ?_
 refine lq T (rn_assign rfl evc) ?_; clear T ac; intro ac T
 refine wpList_nil ?_
 replace T := T.pick [0] rfl
 refine nm_then ?_
 refine wp_ret ?_
 refine rtM (L := [(gn, mapC esF clF)]) (Ds) T (M.permT [0] 1 rfl rfl rfl rfl) ?_; clear T M; intro wc ac T M
 refine rt_1 T rfl (T.ev 0 rfl) ?_
 refine ⟨ret_int ?_, M.below⟩
 unfold keepsP
 rw [if_neg (by simp_all), if_neg]
 rw [List.isEmpty_iff, List.eq_nil_iff_forall_not_mem]
 intro h9
 have := hSF.empty.2 h9
 omega
end Go.Proofs.Ytlahdenlmmlplaa
end

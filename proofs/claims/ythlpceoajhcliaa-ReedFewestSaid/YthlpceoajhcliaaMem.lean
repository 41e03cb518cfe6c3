/-
  Memory as a list of blocks that are known whole: one word for what a walk has made and written.
-/
import Derived.Test.YthlpceoajhcliaaBase2
namespace Go.Proofs.Ythlpceoajhcliaa
set_option linter.unusedSimpArgs false
set_option linter.unusedVariables false
open Go.RowKit

/-- What is known of a block: its cells, or something else. -/
inductive BA where
  | cells (l : List Value)
  | row (e size n : Nat) (xs : List Value) (cap : Nat)
  | any (Q : Obj → Prop)
def BA.holds (w : World) (g : Nat) : BA → Prop
  | .cells l => Bk w g l.toArray
  | .row e size n xs cap => w.ownsRow g e size (.slice (some ⟨g, 0, none⟩) n cap) n xs ∧ 0 < n
  | .any Q => ∃ o, w.heap[g]? = some o ∧ Q o
theorem BA.lt {w : World} {g : Nat} {p : BA} (h : p.holds w g) : g < w.heap.size := by
  cases p with
  | cells l => exact Bk.lt h
  | row e size n xs cap => exact (h.1.lt g rfl).2
  | any Q => obtain ⟨o, ho, _⟩ := h; exact (Array.getElem?_eq_some_iff.1 ho).1
theorem BA.same {w w' : World} {g : Nat} {p : BA} (h : p.holds w g) (hs : w.heap.size ≤ w'.heap.size) (hb : w'.heap[g]? = w.heap[g]?) : p.holds w' g := by
  cases p with
  | cells l =>
    have h : Bk w g l.toArray := h
    exact ⟨Nat.lt_of_lt_of_le h.lt hs, fun o => (World.cell?_of_block (w := w) (a := ⟨g, o, none⟩) hb).trans (h.cell o), fun o => (World.frozen?_of_block (w := w) (a := ⟨g, o, none⟩) hb).trans (h.frozen o)⟩
  | row e size n xs cap =>
    obtain ⟨⟨h1, h2⟩, h3⟩ := h
    refine ⟨⟨h1, ?_⟩, h3⟩
    rcases h2 with ⟨h2, h4⟩ | ⟨g', c', cur, h2, hb', hg, hr⟩
    · exact .inl ⟨h2, h4⟩
    · injection h2 with h2 _ hcap
      injection h2 with h2
      injection h2 with h2 _ _
      subst h2
      exact .inr ⟨g, c', cur, by rw [hcap], hb', hb.trans hg, hr⟩
  | any Q => obtain ⟨o, ho, hq⟩ := h; exact ⟨o, hb.trans ho, hq⟩

/-- From w0 on: but for the blocks of ex all that was there is as it was; the blocks of L (new ones, or of ex) are known. -/
structure Mem (w0 : World) (ex : Nat → Prop) (w : World) (L : List (Nat × BA)) : Prop where
  os : w.os = w0.os
  tape : w.tape = w0.tape
  output : w.output = w0.output
  size : w0.heap.size ≤ w.heap.size
  block : ∀ b, b < w0.heap.size → ¬ ex b → w.heap[b]? = w0.heap[b]?
  blk : ∀ p ∈ L, (w0.heap.size ≤ p.1 ∨ ex p.1) ∧ p.2.holds w p.1
  nd : (L.map (·.1)).Nodup

abbrev noEx : Nat → Prop := fun _ => False

/-- One block of a list is another one. -/
inductive Upd : List (Nat × BA) → Nat → BA → BA → List (Nat × BA) → Prop
  | head {g p p' L} : Upd ((g, p) :: L) g p p' ((g, p') :: L)
  | tail {q g p p' L L'} : Upd L g p p' L' → Upd (q :: L) g p p' (q :: L')
theorem Upd.keys {L L' : List (Nat × BA)} {g : Nat} {p p' : BA} (h : Upd L g p p' L') : L'.map (·.1) = L.map (·.1) := by
  induction h with
  | head => rfl
  | tail _ ih => simp [ih]
theorem Upd.mem {L L' : List (Nat × BA)} {g : Nat} {p p' : BA} (h : Upd L g p p' L') : (g, p) ∈ L := by
  induction h with
  | head => simp
  | tail _ ih => exact List.mem_cons_of_mem _ ih
theorem Upd.all {L L' : List (Nat × BA)} {g : Nat} {p p' : BA} (h : Upd L g p p' L') (hn : (L.map (·.1)).Nodup) : ∀ q ∈ L', q = (g, p') ∨ (q ∈ L ∧ q.1 ≠ g) := by
  induction h with
  | head =>
    intro q hq
    rcases List.mem_cons.1 hq with rfl | hq
    · exact .inl rfl
    · refine .inr ⟨List.mem_cons_of_mem _ hq, fun e => ?_⟩
      have := (List.nodup_cons.1 hn).1
      exact this (List.mem_map.2 ⟨q, hq, e⟩)
  | @tail q0 g p p' L L' h ih =>
    intro q hq
    have hn' := List.nodup_cons.1 hn
    rcases List.mem_cons.1 hq with rfl | hq
    · refine .inr ⟨List.mem_cons_self, fun e => hn'.1 (List.mem_map.2 ⟨_, h.mem, e.symm⟩)⟩
    · rcases ih hn'.2 q hq with h1 | h1
      · exact .inl h1
      · exact .inr ⟨List.mem_cons_of_mem _ h1.1, h1.2⟩

section
variable {w0 w w' : World} {ex : Nat → Prop} {L L' : List (Nat × BA)} {g : Nat}

theorem Mem.init (w : World) (ex : Nat → Prop) : Mem w ex w [] := ⟨rfl, rfl, rfl, Nat.le_refl _, fun _ _ _ => rfl, fun p hp => (by cases hp), by simp⟩
theorem Mem.below (M : Mem w0 noEx w L) : Below w0.heap.size w0 w := ⟨M.os, M.tape, M.output, M.size, fun b hb => M.block b hb (fun h => h)⟩
theorem Mem.old {b : Nat} {cs : Array Value} (M : Mem w0 ex w L) (h : Bk w0 b cs) (hb : ¬ ex b) : Bk w b cs :=
  ⟨Nat.lt_of_lt_of_le h.lt M.size, fun o => (World.cell?_of_block (w := w0) (a := ⟨b, o, none⟩) (M.block b h.lt hb)).trans (h.cell o), fun o => (World.frozen?_of_block (w := w0) (a := ⟨b, o, none⟩) (M.block b h.lt hb)).trans (h.frozen o)⟩
theorem Mem.rd {B size n : Nat} {A : Option Addr} {xs : List Value} (M : Mem w0 noEx w L) (h : Rd w0 B size A n xs) (hB : B ≤ w0.heap.size) : Rd w w.heap.size size A n xs := (h.below (M.below.mono hB)).more (Nat.le_trans hB M.size)
theorem Mem.rdEx {size n : Nat} {A : Option Addr} {xs : List Value} (M : Mem w0 ex w L) (h : Rd w0 w0.heap.size size A n xs) (hx : ∀ b o, A = some ⟨b, o, none⟩ → ¬ ex b) : Rd w w.heap.size size A n xs :=
  ⟨h.1, fun hn => by
    obtain ⟨b, o, e, hb, hc⟩ := h.2 hn
    exact ⟨b, o, e, Nat.lt_of_lt_of_le hb M.size, fun j u hu => (World.cell?_of_block (w := w0) (a := ⟨b, o + j, none⟩) (M.block b hb (hx b o e))).trans (hc j u hu)⟩⟩
theorem Mem.get {l : List Value} (M : Mem w0 ex w L) (h : (g, BA.cells l) ∈ L) : Bk w g l.toArray := (M.blk _ h).2
theorem Mem.rdOwn {l xs : List Value} {n size : Nat} (M : Mem w0 ex w L) (h : (g, BA.cells l) ∈ L) (hx : l = xs) (hs : xs.length = n * size) : Rd w w.heap.size size (some ⟨g, 0, none⟩) n xs := by
  have hb := M.get h
  subst hx
  refine ⟨hs, fun _ => ⟨g, 0, rfl, hb.lt, fun j u hu => ?_⟩⟩
  rw [hb.cell, Nat.zero_add]
  simpa using hu
theorem Mem.rdRow {e size n cap : Nat} {xs : List Value} (M : Mem w0 ex w L) (h : (g, BA.row e size n xs cap) ∈ L) : Rd w w.heap.size size (some ⟨g, 0, none⟩) n xs := by
  obtain ⟨hb, hn⟩ := (M.blk _ h).2
  obtain ⟨g', cap', e1, _, _, _, hl, hr⟩ := own_form hb hn
  injection e1 with e1 _ _
  injection e1 with e1
  injection e1 with e1 _ _
  subst e1
  refine ⟨hb.1, fun _ => ⟨g, 0, rfl, hl, fun j u hu => ?_⟩⟩
  exact hr j u hu
theorem Mem.drew (M : Mem w0 ex w L) : Mem w0 ex w.drew L := ⟨M.os, M.tape, M.output, M.size, M.block, fun p hp => ⟨(M.blk p hp).1, BA.same (M.blk p hp).2 (Nat.le_refl _) rfl⟩, M.nd⟩
theorem Mem.drewN (M : Mem w0 ex w L) (n : Nat) : Mem w0 ex (w.drewN n) L := ⟨M.os, M.tape, M.output, M.size, M.block, fun p hp => ⟨(M.blk p hp).1, BA.same (M.blk p hp).2 (Nat.le_refl _) rfl⟩, M.nd⟩
theorem Mem.call (M : Mem w0 ex w L) (h : Below w.heap.size w w') : Mem w0 ex w' L :=
  ⟨h.os.trans M.os, h.tape.trans M.tape, h.output.trans M.output, Nat.le_trans M.size h.size, fun b hb hx => (h.block b (Nat.lt_of_lt_of_le hb M.size)).trans (M.block b hb hx),
    fun p hp => ⟨(M.blk p hp).1, BA.same (M.blk p hp).2 h.size (h.block _ (BA.lt (M.blk p hp).2))⟩, M.nd⟩
theorem Mem.alloc (M : Mem w0 ex w L) (o : Obj) : Mem w0 ex (w.alloc o) L := M.call ((Below.refl _ _).alloc (Nat.le_refl _) o)
theorem Mem.add {p : BA} (M : Mem w0 ex w L) (hg : w0.heap.size ≤ g) (hp : p.holds w g) (hn : ∀ q ∈ L, q.1 ≠ g) : Mem w0 ex w ((g, p) :: L) :=
  ⟨M.os, M.tape, M.output, M.size, M.block, fun q hq => by
    rcases List.mem_cons.1 hq with rfl | hq
    · exact ⟨.inl hg, hp⟩
    · exact M.blk q hq, List.nodup_cons.2 ⟨fun h => by obtain ⟨q, hq, e⟩ := List.mem_map.1 h; exact hn q hq e, M.nd⟩⟩
theorem Mem.new (M : Mem w0 ex w L) (l : List Value) (t : TypeId) : Mem w0 ex (w.alloc (.cells l.toArray t)) ((w.heap.size, .cells l) :: L) :=
  (M.alloc _).add M.size (Bk.new w t _) (fun q hq e => by have := (BA.lt (M.blk q hq).2); omega)
theorem Mem.newAny (M : Mem w0 ex w L) (o : Obj) (Q : Obj → Prop) (hQ : Q o) : Mem w0 ex (w.alloc o) ((w.heap.size, .any Q) :: L) :=
  (M.alloc _).add M.size ⟨o, (MapKept.heap_alloc w _).1, hQ⟩ (fun q hq e => by have := (BA.lt (M.blk q hq).2); omega)
/-- One block of L is written. -/
theorem Mem.write {p p' : BA} (M : Mem w0 ex w L) (hu : Upd L g p p' L') (ho : Oth w w' g) (hp : p'.holds w' g) : Mem w0 ex w' L' := by
  have hg := (M.blk _ hu.mem).1
  refine ⟨ho.os.trans M.os, ho.tape.trans M.tape, ho.output.trans M.output, by rw [ho.size]; exact M.size, fun b hb hx => ?_, fun q hq => ?_, by rw [hu.keys]; exact M.nd⟩
  · refine (ho.block b fun e => ?_).trans (M.block b hb hx)
    subst e
    rcases hg with h | h
    · have h : w0.heap.size ≤ b := h
      omega
    · exact hx h
  · rcases hu.all M.nd q hq with rfl | ⟨h1, h2⟩
    · exact ⟨hg, hp⟩
    · exact ⟨(M.blk q h1).1, BA.same (M.blk q h1).2 (by rw [ho.size]; exact Nat.le_refl _) (ho.block _ h2)⟩
/-- A callee has written one block of L, and made others. -/
theorem Mem.callW {p p' : BA} (M : Mem w0 ex w L) (hu : Upd L g p p' L') (h : w.grownBy w' (some g)) (hp : p'.holds w' g) : Mem w0 ex w' L' := by
  have hg := (M.blk _ hu.mem).1
  refine ⟨h.os.trans M.os, h.tape.trans M.tape, h.output.trans M.output, Nat.le_trans M.size h.size, fun b hb hx => ?_, fun q hq => ?_, by rw [hu.keys]; exact M.nd⟩
  · refine (h.block b (Nat.lt_of_lt_of_le hb M.size) fun e => ?_).trans (M.block b hb hx)
    injection e with e
    subst e
    rcases hg with h | h
    · have h : w0.heap.size ≤ b := h
      omega
    · exact hx h
  · rcases hu.all M.nd q hq with rfl | ⟨h1, h2⟩
    · exact ⟨hg, hp⟩
    · exact ⟨(M.blk q h1).1, BA.same (M.blk q h1).2 h.size (h.block _ (BA.lt (M.blk q h1).2) (fun e => h2 (by injection e)))⟩
theorem Mem.grown (M : Mem w0 (fun b => b = g) w L) : w0.grownBy w (some g) := ⟨M.os, M.tape, M.output, M.size, fun b hb hx => M.block b hb (fun e => hx (by rw [e]))⟩
theorem Mem.forget {q : Nat × BA} (M : Mem w0 ex w (q :: L)) : Mem w0 ex w L := ⟨M.os, M.tape, M.output, M.size, M.block, fun p hp => M.blk p (List.mem_cons_of_mem _ hp), (List.nodup_cons.1 M.nd).2⟩
theorem Mem.sub (M : Mem w0 ex w L) (h : L'.Sublist L) : Mem w0 ex w L' := ⟨M.os, M.tape, M.output, M.size, M.block, fun p hp => M.blk p (h.subset hp), M.nd.sublist (h.map _)⟩
theorem Mem.join (M : Mem w0 ex w L) (h : Mem w noEx w' L') : Mem w0 ex w' (L' ++ L) := by
  have M2 := M.call h.below
  refine ⟨M2.os, M2.tape, M2.output, M2.size, M2.block, fun p hp => ?_, ?_⟩
  · rcases List.mem_append.1 hp with hp | hp
    · refine ⟨.inl ?_, (h.blk p hp).2⟩
      rcases (h.blk p hp).1 with h1 | h1
      · exact Nat.le_trans M.size h1
      · exact h1.elim
    · exact M2.blk p hp
  · rw [List.map_append]
    refine List.nodup_append.2 ⟨h.nd, M.nd, fun a ha b hb e => ?_⟩
    obtain ⟨p, hp, rfl⟩ := List.mem_map.1 ha
    obtain ⟨q, hq, rfl⟩ := List.mem_map.1 hb
    have h2 := BA.lt (M.blk q hq).2
    rcases (h.blk p hp).1 with h1 | h1
    · rw [e] at h1; omega
    · exact h1
theorem Mem.initEx {p : BA} (hp : p.holds w g) : Mem w (fun b => b = g) w [(g, p)] :=
  ⟨rfl, rfl, rfl, Nat.le_refl _, fun _ _ _ => rfl, fun q hq => (by obtain rfl := List.mem_singleton.1 hq; exact ⟨.inr rfl, hp⟩), by simp⟩
/-- Whatever is laid or turned far away. -/
theorem Mem.far {n0 : Nat} {row : Option Nat} (M : Mem w0 ex w L) (hg : w.grownBy w' row) (hr : ∀ r, row = some r → n0 ≤ r) (h0 : w0.heap.size ≤ n0) (hL : ∀ p ∈ L, p.1 < n0) : Mem w0 ex w' L :=
  ⟨hg.os.trans M.os, hg.tape.trans M.tape, hg.output.trans M.output, Nat.le_trans M.size hg.size,
    fun b hb hx => (hg.block b (Nat.lt_of_lt_of_le hb M.size) (fun e => by have := hr b e.symm; omega)).trans (M.block b hb hx),
    fun p hp => ⟨(M.blk p hp).1, BA.same (M.blk p hp).2 hg.size (hg.block _ (BA.lt (M.blk p hp).2) (fun e => by have := hr _ e.symm; have := hL p hp; omega))⟩, M.nd⟩
theorem Mem.at {q : Nat × BA} (M : Mem w0 ex w L) (h : q ∈ L) : q.2.holds w q.1 := (M.blk q h).2

theorem Bk.storeAt {cs : Array Value} (h : Bk w g cs) (o : Nat) (ds cs' : List Value) (hs : o + ds.length ≤ cs.size) (hc : cs' = cs.toList.take o ++ ds ++ cs.toList.drop (o + ds.length)) : Bk (w.setCells g o ds) g cs'.toArray := by
  have ht : w.there g o ds.length := fun j hj => ⟨by rw [h.cell, Array.getElem?_eq_getElem (by omega)]; rfl, h.frozen _⟩
  refine ⟨by rw [size_setCells]; exact h.lt, fun x => ?_, fun x => (World.frozen?_setCells _ _ _ _ _).trans (h.frozen x)⟩
  subst hc
  simp only [List.getElem?_toArray]
  by_cases h1 : x < o
  · rw [World.cell?_setCells_out g _ _ _ _ (fun _ _ => .inl h1), h.cell, List.append_assoc, List.getElem?_append_left (by simp; omega), List.getElem?_take_of_lt h1]
    simp
  · by_cases h2 : x < o + ds.length
    · have h3 := World.rangeAt_setCells_same w g o ds ht (x - o) ds[x - o] (List.getElem?_eq_getElem (by omega))
      have e : o + (x - o) = x := by omega
      rw [e] at h3
      rw [h3, List.append_assoc, List.getElem?_append_right (by simp; omega)]
      have e2 : x - (cs.toList.take o).length = x - o := by simp; omega
      rw [e2, List.getElem?_append_left (by omega), List.getElem?_eq_getElem (by omega)]
    · rw [World.cell?_setCells_out g _ _ _ _ (fun _ _ => .inr (by show o + ds.length ≤ x; omega)), h.cell, List.getElem?_append_right (by simp; omega)]
      have e2 : x - (cs.toList.take o ++ ds).length = x - (o + ds.length) := by simp; omega
      rw [e2, List.getElem?_drop]
      have e3 : o + ds.length + (x - (o + ds.length)) = x := by omega
      rw [e3]
      simp
end

/-- The walk stands still here. -/
structure Stop (p : Prop) : Prop where
  out : p

/-- A struct's type of n cells; a type of one cell. -/
class RowTy (P : Program) (t : TypeId) (n : outParam Nat) : Prop where
  row : ∃ d, P.underlying t = some d ∧ d.isRow = true
  size : (P.info? t).map (·.size) = some n
class OneTy (P : Program) (t : TypeId) : Prop where
  one : ∃ d, P.underlying t = some d ∧ d.isRow = false
  size : (P.info? t).map (·.size) = some 1
class ZeroTy (P : Program) (t : TypeId) (l : outParam (List Value)) : Prop where
  zero : ∀ w, ∃ z, (zeroValue t).run P w = .ok z w ∧ z.cells = l.toArray

section
variable {P : Program} {ops : Array Oper} {rest : List Oper} {op : Oper} {a : Act} {Q : Exit → Act → World → Prop} {w0 w : World} {ex : Nat → Prop} {L : List (Nat × BA)} {K : Act → World → Prop}

theorem run_load_row {ty : TypeId} {n g o : Nat} [h : RowTy P ty n] {cs ds : List Value} (hB : Bk w g cs.toArray) (hd : (cs.drop o).take n = ds) (hn : Nat.ble (o + n) cs.length = true) : (loadVar ty ⟨g, o, none⟩).run P w = .ok (.agg ds.toArray) w := by
  obtain ⟨d, hu, hr⟩ := h.row
  replace hn : ds.length = n := by have := Nat.le_of_ble_eq_true hn; subst hd; simp; omega
  refine run_loadVar_mid w g o ty ds d (fun j v hv => ?_) hu hr (by rw [hn]; exact h.size)
  rw [hB.cell]
  subst hd
  have hj : j < n := by
    have := (List.getElem?_eq_some_iff.1 hv).1
    rw [hn] at this
    exact this
  rw [List.getElem?_take_of_lt hj, List.getElem?_drop] at hv
  simpa using hv
theorem run_load_one {ty : TypeId} {g o : Nat} [h : OneTy P ty] {cs : List Value} {v : Value} (hB : Bk w g cs.toArray) (hv : cs[o]? = some v) : (loadVar ty ⟨g, o, none⟩).run P w = .ok v w := by
  obtain ⟨d, hu, hr⟩ := h.one
  have hc : w.cell? ⟨g, o, none⟩ = some v := by rw [hB.cell]; simpa using hv
  have ha : (isAgg ty).run P w = .ok false w := by
    unfold isAgg
    simp only [Sem.run_bind, run_underlying hu, Result.andThen_ok]
    cases d <;> first | rfl | (simp [TypeDesc.isRow] at hr)
  unfold loadVar
  simp only [Sem.run_bind, ha, Result.andThen_ok]
  simp [load, Sem.run, hc]
theorem run_store_any {ty : TypeId} {g o : Nat} {v : Value} {cs ds : List Value} (hi : (P.info? ty).map (·.size) = some ds.length) (hB : Bk w g cs.toArray) (hv : v.cells = ds.toArray) (h1 : ds.all (·.oneCell') = true) (hs : o + ds.length ≤ cs.length) :
    (storeVar ty ⟨g, o, none⟩ v).run P w = .ok () (w.setCells g o ds) := by
  have ht : w.there g o ds.length := fun j hj => ⟨by rw [hB.cell, Array.getElem?_eq_getElem (by simp; omega)]; rfl, hB.frozen _⟩
  have h2 := run_storeVar_mid (P := P) w g o ty ds.toArray (by simpa using ht) (by simpa using hi) (by simpa using h1)
  unfold storeVar at h2 ⊢
  rw [hv]
  have e : (Value.agg ds.toArray).cells = ds.toArray := rfl
  rw [e] at h2
  exact h2
theorem run_alloc_any {ty : TypeId} {l : List Value} [h : ZeroTy P ty l] (w : World) : (Instr.alloc ty true (.tuple #[])).run P w = .ok (.pointer (some ⟨w.heap.size, 0, none⟩)) (w.alloc (.cells l.toArray ty)) := by
  obtain ⟨z, hz, hc⟩ := h.zero w
  unfold Instr.alloc
  simp only [Sem.run_bind, hz, Result.andThen_ok, newVar, newRow, run_newObj_alloc, Sem.run_pure, hc]

theorem wpList_wanted (hw : Region.wanted op (yielded ops a.tmps) = true) (h : ∀ K : Act → World → Prop, (∀ a w, wpList P ops Q rest a w → K a w) → op.wp P a w K Q) : wpList P ops Q (op :: rest) a w :=
  wpList_step fun K hK => by rw [if_pos hw]; exact h K hK
theorem m_ldr {ty : TypeId} {n : Nat} [RowTy P ty n] {x : Operand} {g o : Nat} {cs ds : List Value} (M : Mem w0 ex w L) (hw : Region.wanted op (yielded ops a.tmps) = true) (ho : op.op = .load ty x) (hx : a.eval x = .pointer (some ⟨g, o, none⟩)) (hm : (g, BA.cells cs) ∈ L)
    (hd : (cs.drop o).take n = ds) (hn : Nat.ble (o + n) cs.length = true) (h : wpList P ops Q rest (a.put op.dst (.agg ds.toArray)) w) : wpList P ops Q (op :: rest) a w :=
  wpList_wanted hw fun _ hK => by
    unfold Oper.wp execOp
    simp only [ho, hx, Instr.loadAt, Instr.sureAddr, Sem.run_bind, Sem.run_pure, Result.andThen_ok, run_load_row (M.get hm) hd hn]
    exact hK _ _ h
theorem m_ld1 {ty : TypeId} [OneTy P ty] {x : Operand} {g o : Nat} {cs : List Value} {v : Value} (M : Mem w0 ex w L) (hw : Region.wanted op (yielded ops a.tmps) = true) (ho : op.op = .load ty x) (hx : a.eval x = .pointer (some ⟨g, o, none⟩)) (hm : (g, BA.cells cs) ∈ L)
    (hv : cs[o]? = some v) (h : wpList P ops Q rest (a.put op.dst v) w) : wpList P ops Q (op :: rest) a w :=
  wpList_wanted hw fun _ hK => by
    unfold Oper.wp execOp
    simp only [ho, hx, Instr.loadAt, Instr.sureAddr, Sem.run_bind, Sem.run_pure, Result.andThen_ok, run_load_one (M.get hm) hv]
    exact hK _ _ h
/-- From a block that is old and only read. -/
theorem lo_row {ty : TypeId} {n : Nat} [RowTy P ty n] {x : Operand} {g o : Nat} {cs ds : List Value} (hB : Bk w g cs.toArray) (hw : Region.wanted op (yielded ops a.tmps) = true) (ho : op.op = .load ty x) (hx : a.eval x = .pointer (some ⟨g, o, none⟩))
    (hd : (cs.drop o).take n = ds) (hn : Nat.ble (o + n) cs.length = true) (h : wpList P ops Q rest (a.put op.dst (.agg ds.toArray)) w) : wpList P ops Q (op :: rest) a w :=
  wpList_wanted hw fun _ hK => by
    unfold Oper.wp execOp
    simp only [ho, hx, Instr.loadAt, Instr.sureAddr, Sem.run_bind, Sem.run_pure, Result.andThen_ok, run_load_row hB hd hn]
    exact hK _ _ h
theorem lo_one {ty : TypeId} [OneTy P ty] {x : Operand} {g o : Nat} {cs : List Value} {v : Value} (hB : Bk w g cs.toArray) (hw : Region.wanted op (yielded ops a.tmps) = true) (ho : op.op = .load ty x) (hx : a.eval x = .pointer (some ⟨g, o, none⟩))
    (hv : cs[o]? = some v) (h : wpList P ops Q rest (a.put op.dst v) w) : wpList P ops Q (op :: rest) a w :=
  wpList_wanted hw fun _ hK => by
    unfold Oper.wp execOp
    simp only [ho, hx, Instr.loadAt, Instr.sureAddr, Sem.run_bind, Sem.run_pure, Result.andThen_ok, run_load_one hB hv]
    exact hK _ _ h
/-- .. in a region. -/
theorem rn_row {ty : TypeId} {n : Nat} [RowTy P ty n] {x : Operand} {g o : Nat} {cs ds : List Value} (hB : Bk w g cs.toArray) (ho : op.op = .load ty x) (hx : a.eval x = .pointer (some ⟨g, o, none⟩))
    (hd : (cs.drop o).take n = ds) (hn : Nat.ble (o + n) cs.length = true) : (execOp a.eval op).run P w = .ok (.value (.agg ds.toArray)) w := by
  unfold execOp
  simp only [ho, hx, Instr.loadAt, Instr.sureAddr, Sem.run_bind, Sem.run_pure, Result.andThen_ok, run_load_row hB hd hn]
theorem rn_one {ty : TypeId} [OneTy P ty] {x : Operand} {g o : Nat} {cs : List Value} {v : Value} (hB : Bk w g cs.toArray) (ho : op.op = .load ty x) (hx : a.eval x = .pointer (some ⟨g, o, none⟩))
    (hv : cs[o]? = some v) : (execOp a.eval op).run P w = .ok (.value v) w := by
  unfold execOp
  simp only [ho, hx, Instr.loadAt, Instr.sureAddr, Sem.run_bind, Sem.run_pure, Result.andThen_ok, run_load_one hB hv]

theorem at_st {ty : TypeId} {x y : Operand} (_ : op.op = .store ty x y) (h : wpList P ops Q (op :: rest) a w) : wpList P ops Q (op :: rest) a w := h
theorem at_bx {ty : TypeId} {x : Operand} (_ : op.op = .box ty x) (h : wpList P ops Q (op :: rest) a w) : wpList P ops Q (op :: rest) a w := h
theorem at_al {ty : TypeId} (_ : op.op = .alloc ty) (h : wpList P ops Q (op :: rest) a w) : wpList P ops Q (op :: rest) a w := h
theorem at_ld {ty : TypeId} {x : Operand} (_ : op.op = .load ty x) (h : wpList P ops Q (op :: rest) a w) : wpList P ops Q (op :: rest) a w := h
theorem m_stw {ty : TypeId} {x y : Operand} {g o : Nat} {v : Value} {cs ds cs' : List Value} {L' : List (Nat × BA)} (M : Mem w0 ex w L) (ho : op.op = .store ty x y) (hx : a.eval x = .pointer (some ⟨g, o, none⟩)) (hy : a.eval y = v) (hv : v.cells = ds.toArray)
    (hu : Upd L g (.cells cs) (.cells cs') L') (hc : cs.take o ++ ds ++ cs.drop (o + ds.length) = cs') (hs : o + ds.length ≤ cs.length) (h1 : ds.all (·.oneCell') = true) (hi : (P.info? ty).map (·.size) = some ds.length)
    (h : ∀ w', Mem w0 ex w' L' → K (a.put op.dst undef) w') : op.wp P a w K Q := by
  have hB := M.get hu.mem
  unfold Oper.wp execOp
  simp only [ho, hx, hy, Instr.storeAt, Instr.sureAddr, Sem.run_bind, Sem.run_pure, Result.andThen_ok, run_store_any hi hB hv h1 hs]
  exact h _ (M.write hu (Oth.setCells g _ _ _) (hB.storeAt o ds cs' (by simpa using hs) (by simpa using hc.symm)))
theorem m_st {ty : TypeId} {x y : Operand} {g o : Nat} {v : Value} {cs ds cs' : List Value} {L' : List (Nat × BA)} (M : Mem w0 ex w L) (hw : Region.wanted op (yielded ops a.tmps) = true) (ho : op.op = .store ty x y) (hx : a.eval x = .pointer (some ⟨g, o, none⟩)) (hy : a.eval y = v) (hv : v.cells = ds.toArray)
    (hu : Upd L g (.cells cs) (.cells cs') L') (hc : cs.take o ++ ds ++ cs.drop (o + ds.length) = cs') (hs : o + ds.length ≤ cs.length) (h1 : ds.all (·.oneCell') = true) (hi : (P.info? ty).map (·.size) = some ds.length)
    (h : ∀ w', Mem w0 ex w' L' → wpList P ops Q rest (a.put op.dst undef) w') : wpList P ops Q (op :: rest) a w :=
  wpList_wanted hw fun _ hK => m_stw M ho hx hy hv hu hc hs h1 hi fun w' M' => hK _ _ (h w' M')
theorem m_alw {ty : TypeId} {l : List Value} [ZeroTy P ty l] (M : Mem w0 ex w L) (ho : op.op = .alloc ty)
    (h : ∀ g w', Mem w0 ex w' ((g, .cells l) :: L) → K (a.put op.dst (.pointer (some ⟨g, 0, none⟩))) w') : op.wp P a w K Q := by
  unfold Oper.wp execOp
  simp only [ho, Sem.run_bind, Sem.run_pure, Result.andThen_ok, run_alloc_any (P := P) (ty := ty)]
  exact h _ _ (M.new l ty)
theorem m_al {ty : TypeId} {l : List Value} [ZeroTy P ty l] (M : Mem w0 ex w L) (hw : Region.wanted op (yielded ops a.tmps) = true) (ho : op.op = .alloc ty)
    (h : ∀ g w', Mem w0 ex w' ((g, .cells l) :: L) → wpList P ops Q rest (a.put op.dst (.pointer (some ⟨g, 0, none⟩))) w') : wpList P ops Q (op :: rest) a w :=
  wpList_wanted hw fun _ hK => m_alw M ho fun g w' M' => hK _ _ (h g w' M')
theorem m_bx {ty : TypeId} {x : Operand} {v : Value} {l : List Value} (M : Mem w0 ex w L) (hw : Region.wanted op (yielded ops a.tmps) = true) (ho : op.op = .box ty x) (hx : a.eval x = v) (hv : v.cells = l.toArray)
    (h : ∀ g w', Mem w0 ex w' ((g, .cells l) :: L) → wpList P ops Q rest (a.put op.dst (.pointer (some ⟨g, 0, none⟩))) w') : wpList P ops Q (op :: rest) a w :=
  wpList_wanted hw fun _ hK => by
    unfold Oper.wp execOp
    simp only [ho, hx, Instr.box, Sem.run_bind, Sem.run_pure, Result.andThen_ok, newVar, newRow, run_newObj_alloc, hv]
    exact hK _ _ (h _ _ (M.new l ty))
theorem start {c : Code} (ex : Nat → Prop) (h : ∀ w', Mem w ex w' [] → c.wp P Q a w') : c.wp P Q a w := h w (Mem.init w ex)
theorem m_start {c : Code} (M : Mem w0 ex w L) (h : ∀ w', Mem w0 ex w' L → c.wp P Q a w') : c.wp P Q a w := h w M
/-- What the walk itself has laid is known. -/
theorem absorb {l : List Value} {t : TypeId} (M : Mem w0 ex w L) (h : Mem w0 ex (w.alloc (.cells l.toArray t)) ((w.heap.size, .cells l) :: L) → wpList P ops Q rest a (w.alloc (.cells l.toArray t))) : wpList P ops Q rest a (w.alloc (.cells l.toArray t)) := h (M.new l t)

theorem ret_M {fn : Func} {R : Ending → World → Prop} {t : Tmp} {ty : TypeId} {n g : Nat} [hT : RowTy P ty n] {cs : List Value} (M : Mem w0 ex w L) (hr : fn.results = #[.cell t ty]) (hd : a.defers = [])
    (hx : a.tmps.getD t undef = .pointer (some ⟨g, 0, none⟩)) (hm : (g, BA.cells cs) ∈ L) (hn : cs.length = n) (h : R (.returned (.agg cs.toArray)) w) : bodyPost P fn R .ret a w := by
  obtain ⟨d, hu, hw⟩ := hT.row
  exact ret_blk t ty hr hd g hx cs.toArray (M.get hm) d hu hw (by rw [List.size_toArray, hn]; exact hT.size) h
theorem ret_M1 {fn : Func} {R : Ending → World → Prop} {t t' : Tmp} {ty : TypeId} {n g : Nat} [hT : RowTy P ty n] {v : Value} {cs : List Value} (M : Mem w0 ex w L) (hr : fn.results = #[.cell t ty, .tmp t']) (hd : a.defers = [])
    (hx : a.tmps.getD t undef = .pointer (some ⟨g, 0, none⟩)) (hx' : a.tmps.getD t' undef = v) (hm : (g, BA.cells cs) ∈ L) (hn : cs.length = n) (h : R (.returned (.tuple #[.agg cs.toArray, v])) w) : bodyPost P fn R .ret a w := by
  obtain ⟨d, hu, hw⟩ := hT.row
  exact ret_blk1 t t' ty hr hd g v hx hx' cs.toArray (M.get hm) d hu hw (by rw [List.size_toArray, hn]; exact hT.size) h
end

end Go.Proofs.Ythlpceoajhcliaa

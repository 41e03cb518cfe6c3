/-
  Words for memory that all walks of this seat use: what a contract 'nothing that was there has turned' gives, and slices that read as lists of cells.
-/
import Derived.Test.YthlpceoajhcliaaRows
import Derived.WalkKit
import Derived.WalkSpells
import Derived.WalkLawsBesides
import Derived.Handy
import Derived.Lib.Hide
import Derived.Deep.Draws
import Derived.Deep.MidRow
import Derived.Deep.AppendLies
namespace Go.Proofs.Ythlpceoajhcliaa
set_option linter.unusedSimpArgs false
set_option linter.unusedVariables false
open Go.RowKit

theorem bcell {W w1 : World} (hb : Below W.heap.size W w1) : (∀ b o, b < W.heap.size → w1.cell? ⟨b, o, none⟩ = W.cell? ⟨b, o, none⟩) ∧ (∀ b o, b < W.heap.size → w1.frozen? ⟨b, o, none⟩ = W.frozen? ⟨b, o, none⟩) :=
  ⟨fun b o h => hb.cell (p := ⟨b, o, none⟩) h, fun b o h => hb.frozen (p := ⟨b, o, none⟩) h⟩

/-- The slice '.slice A n _' of elements of 'size' cells lies below block B and its cells are xs. -/
def Rd (w : World) (B size : Nat) (A : Option Addr) (n : Nat) (xs : List Value) : Prop :=
  xs.length = n * size ∧ (0 < n → ∃ b o, A = some ⟨b, o, none⟩ ∧ b < B ∧ ∀ j u, xs[j]? = some u → w.cell? ⟨b, o + j, none⟩ = some u)

section
variable {w w' : World} {B B' size n : Nat} {A : Option Addr} {xs : List Value}
theorem Rd.len (h : Rd w B size A n xs) : xs.length = n * size := h.1
theorem Rd.empty : Rd w B size A 0 [] := ⟨by simp, fun h => absurd h (by omega)⟩
theorem Rd.keep (h : Rd w B size A n xs) (hk : ∀ b o, b < B → w'.cell? ⟨b, o, none⟩ = w.cell? ⟨b, o, none⟩) : Rd w' B size A n xs :=
  ⟨h.1, fun hn => by
    obtain ⟨b, o, e, hb, hc⟩ := h.2 hn
    exact ⟨b, o, e, hb, fun j u hu => (hk _ _ hb).trans (hc j u hu)⟩⟩
theorem Rd.more (h : Rd w B size A n xs) (hB : B ≤ B') : Rd w B' size A n xs :=
  ⟨h.1, fun hn => by
    obtain ⟨b, o, e, hb, hc⟩ := h.2 hn
    exact ⟨b, o, e, by omega, hc⟩⟩
theorem Rd.below (h : Rd w B size A n xs) (hb : Below B w w') : Rd w' B size A n xs := h.keep fun _ _ hp => hb.cell hp
theorem Rd.drew (h : Rd w B size A n xs) : Rd w.drew B size A n xs := h
theorem Rd.drewN (h : Rd w B size A n xs) (k : Nat) : Rd (w.drewN k) B size A n xs := h
theorem Rd.alloc (h : Rd w B size A n xs) (hB : B ≤ w.heap.size) (o : Obj) : Rd (w.alloc o) B size A n xs := h.below ((Below.refl _ _).alloc hB o)
theorem Rd.setCell (h : Rd w B size A n xs) {p : Addr} (hB : B ≤ p.block) (u : Value) : Rd (w.setCell p u) B size A n xs := h.below ((Below.refl _ _).setCell hB u)
theorem Rd.cells (h : Rd w B size A n xs) (hn : 0 < n) : ∃ b o, A = some ⟨b, o, none⟩ ∧ b < B ∧ ∀ j u, xs[j]? = some u → w.cell? ⟨b, o + j, none⟩ = some u := h.2 hn
end

/-- Pairs of ints as cells, ints as cells. -/
def rc (l : List (Int × Int)) : List Value := l.flatMap fun p => [.int .i64 p.1, .int .i64 p.2]
def ic (l : List Int) : List Value := l.map fun n => .int .i64 n

theorem rc_nil : rc [] = [] := rfl
theorem rc_cons (p : Int × Int) (l : List (Int × Int)) : rc (p :: l) = .int .i64 p.1 :: .int .i64 p.2 :: rc l := rfl
theorem rc_append (l r : List (Int × Int)) : rc (l ++ r) = rc l ++ rc r := by simp [rc]
theorem rc_length (l : List (Int × Int)) : (rc l).length = l.length * 2 := by
  induction l with
  | nil => rfl
  | cons p l ih => rw [rc_cons]; simp only [List.length_cons, ih]; omega
theorem rc_get (l : List (Int × Int)) (k : Nat) (p : Int × Int) (h : l[k]? = some p) : (rc l)[k * 2]? = some (.int .i64 p.1) ∧ (rc l)[k * 2 + 1]? = some (.int .i64 p.2) := by
  induction l generalizing k with
  | nil => simp at h
  | cons q l ih =>
    rw [rc_cons]
    cases k with
    | zero =>
      simp only [List.getElem?_cons_zero, Option.some.injEq] at h
      subst h
      exact ⟨rfl, rfl⟩
    | succ k =>
      simp only [List.getElem?_cons_succ] at h
      obtain ⟨h0, h1⟩ := ih k h
      have e : (k + 1) * 2 = k * 2 + 1 + 1 := by omega
      rw [e]
      simp only [List.getElem?_cons_succ]
      exact ⟨h0, h1⟩
theorem ic_length (l : List Int) : (ic l).length = l.length := by simp [ic]
theorem ic_append (l r : List Int) : ic (l ++ r) = ic l ++ ic r := by simp [ic]
theorem ic_get (l : List Int) (k : Nat) (n : Int) (h : l[k]? = some n) : (ic l)[k]? = some (.int .i64 n) := by simp [ic, h]

/-- A slice of ranges: its element k, in a round. -/
theorem Rd.at2 {w : World} {B : Nat} {A : Option Addr} {n : Nat} {l : List (Int × Int)} (h : Rd w B 2 A n (rc l)) {k : Nat} (hk : k < n) :
    ∃ b o x0 x1, A = some ⟨b, o, none⟩ ∧ b < B ∧ l.drop k = (x0, x1) :: l.drop (k + 1) ∧ w.cell? ⟨b, o + k * 2, none⟩ = some (.int .i64 x0) ∧ w.cell? ⟨b, o + k * 2 + 1, none⟩ = some (.int .i64 x1) := by
  have hl : l.length = n := by have := h.1; rw [rc_length] at this; omega
  obtain ⟨b, o, e, hb, hc⟩ := h.2 (by omega)
  have hg : l[k]? = some l[k] := List.getElem?_eq_getElem (by omega)
  obtain ⟨h0, h1⟩ := rc_get l k _ hg
  exact ⟨b, o, l[k].1, l[k].2, e, hb, List.drop_eq_getElem_cons (by omega), hc _ _ h0, by rw [Nat.add_assoc]; exact hc _ _ h1⟩
theorem Rd.at1 {w : World} {B : Nat} {A : Option Addr} {n : Nat} {l : List Int} (h : Rd w B 1 A n (ic l)) {k : Nat} (hk : k < n) :
    ∃ b o x, A = some ⟨b, o, none⟩ ∧ b < B ∧ l.drop k = x :: l.drop (k + 1) ∧ w.cell? ⟨b, o + k, none⟩ = some (.int .i64 x) := by
  have hl : l.length = n := by have := h.1; rw [ic_length] at this; omega
  obtain ⟨b, o, e, hb, hc⟩ := h.2 (by omega)
  have hg : l[k]? = some l[k] := List.getElem?_eq_getElem (by omega)
  exact ⟨b, o, l[k], e, hb, List.drop_eq_getElem_cons (by omega), hc _ _ (ic_get l k _ hg)⟩
theorem Rd.len2 {w : World} {B : Nat} {A : Option Addr} {n : Nat} {l : List (Int × Int)} (h : Rd w B 2 A n (rc l)) : l.length = n := by have := h.1; rw [rc_length] at this; omega
theorem Rd.len1 {w : World} {B : Nat} {A : Option Addr} {n : Nat} {l : List Int} (h : Rd w B 1 A n (ic l)) : l.length = n := by have := h.1; rw [ic_length] at this; omega

theorem Rd.new (w : World) (t : TypeId) (cs : Array Value) (xs : List Value) (n size : Nat) (hx : cs.toList = xs) (hs : xs.length = n * size) :
    Rd (w.alloc (.cells cs t)) (w.alloc (.cells cs t)).heap.size size (some ⟨w.heap.size, 0, none⟩) n xs := by
  refine ⟨hs, fun _ => ⟨_, _, rfl, by simp, fun j u hu => ?_⟩⟩
  rw [Nat.zero_add]
  subst hx
  have e : (w.alloc (.cells cs t)).heap[w.heap.size]? = some (.cells cs t) := heap_alloc_new w _
  simp only [World.cell?, e]
  simpa using hu

/-- Block g is known whole: its cells are cs, none of them frozen. -/
structure Bk (w : World) (g : Nat) (cs : Array Value) : Prop where
  lt : g < w.heap.size
  cell : ∀ o, w.cell? ⟨g, o, none⟩ = cs[o]?
  frozen : ∀ o, w.frozen? ⟨g, o, none⟩ = false
variable {w w' : World} {g : Nat} {cs : Array Value}
theorem Bk.new (w : World) (t : TypeId) (cs : Array Value) : Bk (w.alloc (.cells cs t)) w.heap.size cs := by
  have e : (w.alloc (.cells cs t)).heap[w.heap.size]? = some (.cells cs t) := heap_alloc_new w _
  refine ⟨by simp, fun o => by simp only [World.cell?, e]; rfl, fun o => by simp only [World.frozen?, e]; simp⟩
theorem Bk.kept {B : Nat} (h : Bk w g cs) (hb : Below B w w') (hg : g < B) : Bk w' g cs :=
  ⟨Nat.lt_of_lt_of_le h.lt hb.size, fun o => (hb.cell (p := ⟨g, o, none⟩) hg).trans (h.cell o), fun o => (hb.frozen (p := ⟨g, o, none⟩) hg).trans (h.frozen o)⟩
theorem Bk.below (h : Bk w g cs) (hb : Below w.heap.size w w') : Bk w' g cs := h.kept hb h.lt
theorem Bk.alloc (h : Bk w g cs) (o : Obj) : Bk (w.alloc o) g cs := h.below ((Below.refl _ _).alloc (Nat.le_refl _) o)
theorem Bk.drew (h : Bk w g cs) : Bk w.drew g cs := ⟨h.lt, h.cell, h.frozen⟩
theorem Bk.drewN (h : Bk w g cs) (n : Nat) : Bk (w.drewN n) g cs := ⟨h.lt, h.cell, h.frozen⟩
theorem Bk.far (h : Bk w g cs) {p : Addr} (hp : g ≠ p.block) (u : Value) : Bk (w.setCell p u) g cs :=
  ⟨by simpa using h.lt, fun o => (World.cell?_of_block (w := w) (Below.heap_setCell w p u g hp)).trans (h.cell o), fun o => (World.frozen?_of_block (w := w) (Below.heap_setCell w p u g hp)).trans (h.frozen o)⟩

theorem Bk.put (h : Bk w g cs) (o : Nat) (u : Value) (ho : o < cs.size) : Bk (w.setCell ⟨g, o, none⟩ u) g (cs.setIfInBounds o u) := by
  refine ⟨by simpa using h.lt, fun o' => ?_, fun o' => (World.frozen?_setCell _ _ _ _).trans (h.frozen o')⟩
  have hc := h.cell o
  have hs : w.cell? ⟨g, o, none⟩ = some cs[o] := by rw [hc, Array.getElem?_eq_getElem ho]
  by_cases e : o = o'
  · subst e
    rw [World.cell?_setCell_same _ _ _ (by rw [hs])]
    simp [ho]
  · rw [World.cell?_setCell_other _ _ _ _ (fun h => by injection h; contradiction), h.cell o', Array.getElem?_setIfInBounds_ne e]
theorem Bk.put2 {a b x y : Value} (h : Bk w g #[a, b]) : Bk ((w.setCell ⟨g, 0, none⟩ x).setCell ⟨g, 1, none⟩ y) g #[x, y] := (h.put 0 x (by simp)).put 1 y (by simp)

theorem Bk.range (h : Bk w g cs) : w.rangeAt g 0 cs.toList := fun j v hv => by rw [h.cell, Nat.zero_add]; simpa using hv
theorem Bk.there (h : Bk w g cs) : w.there g 0 cs.size := fun j hj => ⟨by rw [h.cell, Nat.zero_add, Array.getElem?_eq_getElem hj]; rfl, h.frozen _⟩

theorem size_setCells (b : Nat) : ∀ (vs : List Value) (o : Nat) (w : World), (w.setCells b o vs).heap.size = w.heap.size
  | [], _, _ => rfl
  | v :: r, o, w => by rw [World.setCells, size_setCells b r]; simp

/-- But for block g all is as it was. -/
structure Oth (w w' : World) (g : Nat) : Prop where
  os : w'.os = w.os
  tape : w'.tape = w.tape
  output : w'.output = w.output
  size : w'.heap.size = w.heap.size
  block : ∀ k, k ≠ g → w'.heap[k]? = w.heap[k]?
theorem Oth.refl (w : World) (g : Nat) : Oth w w g := ⟨rfl, rfl, rfl, rfl, fun _ _ => rfl⟩
theorem Oth.trans {a b c : World} {g : Nat} (h : Oth a b g) (k : Oth b c g) : Oth a c g :=
  ⟨k.os.trans h.os, k.tape.trans h.tape, k.output.trans h.output, k.size.trans h.size, fun x hx => (k.block x hx).trans (h.block x hx)⟩
theorem Oth.setCell (w : World) (p : Addr) (u : Value) : Oth w (w.setCell p u) p.block := ⟨rfl, rfl, rfl, by simp, fun k hk => Below.heap_setCell w p u k hk⟩
theorem Oth.setCells (b : Nat) : ∀ (vs : List Value) (o : Nat) (w : World), Oth w (w.setCells b o vs) b
  | [], _, w => Oth.refl w b
  | v :: r, o, w => (Oth.setCell w ⟨b, o, none⟩ v).trans (Oth.setCells b r (o + 1) _)
theorem bl_oth {B : Nat} {a : World} (h : Below B a w) (o : Oth w w' g) (hg : B ≤ g) : Below B a w' :=
  ⟨o.os.trans h.os, o.tape.trans h.tape, o.output.trans h.output, by rw [o.size]; exact h.size, fun k hk => (o.block k (by omega)).trans (h.block k hk)⟩
theorem Bk.oth {g' : Nat} (h : Bk w g cs) (o : Oth w w' g') (hg : g ≠ g') : Bk w' g cs :=
  ⟨by rw [o.size]; exact h.lt, fun x => (World.cell?_of_block (w := w) (o.block g hg)).trans (h.cell x), fun x => (World.frozen?_of_block (w := w) (o.block g hg)).trans (h.frozen x)⟩
theorem Bk.setCells (h : Bk w g cs) (ds : Array Value) (hs : ds.size = cs.size) : Bk (w.setCells g 0 ds.toList) g ds := by
  refine ⟨by rw [size_setCells]; exact h.lt, fun o => ?_, fun o => (World.frozen?_setCells _ _ _ _ _).trans (h.frozen o)⟩
  have ht : w.there g 0 ds.toList.length := by have := h.there; simpa [hs] using this
  by_cases ho : o < ds.size
  · have h2 := World.rangeAt_setCells_same w g 0 ds.toList ht o ds[o] (by simp [ho])
    rw [Nat.zero_add] at h2
    rw [h2, Array.getElem?_eq_getElem ho]
  · rw [World.cell?_setCells_out g _ _ _ _ (fun _ _ => .inr (by simp; omega)), h.cell, Array.getElem?_eq_none (by omega), Array.getElem?_eq_none (by omega)]

/-- A whole block is stored. -/
theorem wpList_store_blk {P : Program} {ops : Array Oper} {rest : List Oper} {op : Oper} {a : Act} {w : World} {Q : Exit → Act → World → Prop} (hgd : op.guard = none) (ty : TypeId) (x y : Operand) (ho : op.op = .store ty x y)
    (g : Nat) (ds cs : Array Value) (hx : a.eval x = .pointer (some ⟨g, 0, none⟩)) (hy : a.eval y = .agg ds) (hB : Bk w g cs) (hs : ds.size = cs.size)
    (hi : (P.info? ty).map (·.size) = some ds.size) (h1 : ds.all (·.oneCell') = true)
    (h : ∀ w', Bk w' g ds → Oth w w' g → wpList P ops Q rest (a.put op.dst undef) w') : wpList P ops Q (op :: rest) a w :=
  wpList_store_mid hgd ty x y ho g 0 ds hx hy (by rw [hs]; exact hB.there) hi h1 (h _ (hB.setCells ds hs) (Oth.setCells g _ _ _))
/-- A whole block is loaded. -/
theorem wpList_load_blk {P : Program} {ops : Array Oper} {rest : List Oper} {op : Oper} {a : Act} {w : World} {Q : Exit → Act → World → Prop} (hgd : op.guard = none) (ty : TypeId) (x : Operand) (ho : op.op = .load ty x)
    (g : Nat) (hx : a.eval x = .pointer (some ⟨g, 0, none⟩)) (cs : Array Value) (hB : Bk w g cs) (d : TypeDesc) (hu : P.underlying ty = some d) (hd : d.isRow = true) (hi : (P.info? ty).map (·.size) = some cs.size)
    (h : wpList P ops Q rest (a.put op.dst (.agg cs)) w) : wpList P ops Q (op :: rest) a w :=
  wpList_load_mid hgd ty x ho g 0 hx cs.toList d hB.range hu hd (by simpa using hi) (by simpa using h)
/-- A struct is returned. -/
theorem ret_blk {P : Program} {fn : Func} {R : Ending → World → Prop} {a : Act} {w : World} (t : Tmp) (ty : TypeId) (hr : fn.results = #[.cell t ty]) (hd : a.defers = [])
    (g : Nat) (hx : a.tmps.getD t undef = .pointer (some ⟨g, 0, none⟩)) (cs : Array Value) (hB : Bk w g cs) (d : TypeDesc) (hu : P.underlying ty = some d) (hw : d.isRow = true) (hi : (P.info? ty).map (·.size) = some cs.size)
    (h : R (.returned (.agg cs)) w) : bodyPost P fn R .ret a w := by
  refine ⟨hd, .agg cs, ?_, h⟩
  have hl := run_loadVar_mid w g 0 ty cs.toList d hB.range hu hw (by simpa using hi)
  simp only [Array.toArray_toList] at hl
  have hx' : a.tmps[t]?.getD undef = .pointer (some ⟨g, 0, none⟩) := by simpa using hx
  simp [results, hr, hx', asAddr, hl, Sem.run_bind]

theorem Bk.far2 {b o o' : Nat} {x y : Value} (h : Bk w g cs) (hb : g ≠ b) : Bk ((w.setCell ⟨b, o, none⟩ x).setCell ⟨b, o', none⟩ y) g cs := (h.far hb _).far hb _
theorem bl_set2 {B : Nat} {a : World} {b o o' : Nat} {x y : Value} (h : Below B a w) (hb : B ≤ b) : Below B a ((w.setCell ⟨b, o, none⟩ x).setCell ⟨b, o', none⟩ y) := (h.setCell hb _).setCell hb _
theorem Bk.grown {row : Option Nat} (h : Bk w g cs) (hg : w.grownBy w' row) (hne : some g ≠ row) : Bk w' g cs :=
  ⟨Nat.lt_of_lt_of_le h.lt hg.size, fun o => (World.cell?_of_block (w := w) (hg.block g h.lt hne)).trans (h.cell o), fun o => (World.frozen?_of_block (w := w) (hg.block g h.lt hne)).trans (h.frozen o)⟩
theorem Bk.new1 (w : World) (o : Obj) (t : TypeId) (cs : Array Value) : Bk ((w.alloc o).alloc (.cells cs t)) (w.heap.size + 1) cs := by
  have := Bk.new (w.alloc o) t cs
  rwa [World.size_alloc] at this

theorem Bk.newAt (w : World) (t : TypeId) (cs : Array Value) (g : Nat) (hg : g = w.heap.size) : Bk (w.alloc (.cells cs t)) g cs := by rw [hg]; exact Bk.new w t cs

theorem ret_blk2 {P : Program} {fn : Func} {R : Ending → World → Prop} {a : Act} {w : World} (t t' : Tmp) (ty ty' : TypeId) (hr : fn.results = #[.cell t ty, .cell t' ty']) (hd : a.defers = [])
    (g g' : Nat) (hx : a.tmps.getD t undef = .pointer (some ⟨g, 0, none⟩)) (hx' : a.tmps.getD t' undef = .pointer (some ⟨g', 0, none⟩)) (cs cs' : Array Value) (hB : Bk w g cs) (hB' : Bk w g' cs') (d d' : TypeDesc)
    (hu : P.underlying ty = some d) (hw : d.isRow = true) (hi : (P.info? ty).map (·.size) = some cs.size) (hu' : P.underlying ty' = some d') (hw' : d'.isRow = true) (hi' : (P.info? ty').map (·.size) = some cs'.size)
    (h : R (.returned (.tuple #[.agg cs, .agg cs'])) w) : bodyPost P fn R .ret a w := by
  refine ⟨hd, .tuple #[.agg cs, .agg cs'], ?_, h⟩
  have hl := run_loadVar_mid w g 0 ty cs.toList d hB.range hu hw (by simpa using hi)
  have hl' := run_loadVar_mid w g' 0 ty' cs'.toList d' hB'.range hu' hw' (by simpa using hi')
  simp only [Array.toArray_toList] at hl hl'
  have e : a.tmps[t]?.getD undef = .pointer (some ⟨g, 0, none⟩) := by simpa using hx
  have e' : a.tmps[t']?.getD undef = .pointer (some ⟨g', 0, none⟩) := by simpa using hx'
  simp [results, hr, e, e', asAddr, hl, hl', Sem.run_bind]
theorem ret_blk1 {P : Program} {fn : Func} {R : Ending → World → Prop} {a : Act} {w : World} (t t' : Tmp) (ty : TypeId) (hr : fn.results = #[.cell t ty, .tmp t']) (hd : a.defers = [])
    (g : Nat) (v : Value) (hx : a.tmps.getD t undef = .pointer (some ⟨g, 0, none⟩)) (hx' : a.tmps.getD t' undef = v) (cs : Array Value) (hB : Bk w g cs) (d : TypeDesc)
    (hu : P.underlying ty = some d) (hw : d.isRow = true) (hi : (P.info? ty).map (·.size) = some cs.size)
    (h : R (.returned (.tuple #[.agg cs, v])) w) : bodyPost P fn R .ret a w := by
  refine ⟨hd, .tuple #[.agg cs, v], ?_, h⟩
  have hl := run_loadVar_mid w g 0 ty cs.toList d hB.range hu hw (by simpa using hi)
  simp only [Array.toArray_toList] at hl
  have e : a.tmps[t]?.getD undef = .pointer (some ⟨g, 0, none⟩) := by simpa using hx
  have e' : a.tmps[t']?.getD undef = v := by simpa using hx'
  simp [results, hr, e, e', asAddr, hl, Sem.run_bind]

theorem own_form {base e size n : Nat} {v : Value} {xs : List Value} (h : w.ownsRow base e size v n xs) (hn : 0 < n) :
    ∃ g cap, v = .slice (some ⟨g, 0, none⟩) n cap ∧ n ≤ cap ∧ cap ≤ maxLen ∧ base ≤ g ∧ g < w.heap.size ∧ w.rangeAt g 0 xs := by
  have hc := h
  rcases h.2 with ⟨_, h0⟩ | ⟨g, cap, cur, rfl, hb, hg, hc1, hc2, _⟩
  · omega
  · refine ⟨g, cap, rfl, hc1, hc2, hb, (Array.getElem?_eq_some_iff.1 hg).1, fun j u hu => ?_⟩
    have := hc.cells (g := g) rfl j u hu
    rwa [Addr.add_mid] at this

/-- One element, laid into a block of its own, is appended. -/
theorem wpList_app1 {P : Program} {ops : Array Oper} {rest : List Oper} {o : Oper} {a : Act} {w : World} {Q : Exit → Act → World → Prop} (hgd : o.guard = none) (s x : Operand) (t : TypeId)
    (ho : o.op = .call { callee := .builtin .append, args := #[s, x], argTypes := #[t, t] })
    (base e : Nat) (i : TypeInfo) (z : Value) (bytes : Nat) (ht : P.underlying t = some (.slice e)) (hi : P.info? e = some i) (hz : i.zero = some z)
    (cs : Array Value) (hsize : i.size = cs.size) (hby : i.bytes = bytes) (hzs : z.cells.size = cs.size) (hsz : 0 < cs.size)
    (v : Value) (n : Nat) (xs : List Value) (hs : a.eval s = v) (hown : w.ownsRow base e cs.size v n xs)
    (b c : Nat) (hx : a.eval x = .slice (some ⟨b, 0, none⟩) 1 c) (hB : Bk w b cs) (h1 : cs.all (·.oneCell') = true)
    (hn : n ≤ 1000000) (hbytes : bytes ≤ 1000) (hbase : base ≤ w.heap.size)
    (h : ∀ g cap w', w'.ownsRow base e cs.size (.slice (some ⟨g, 0, none⟩) (n + 1) cap) (n + 1) (xs ++ cs.toList) → w.grownBy w' v.ownBlock → (v.ownBlock = some g ∨ g = w.heap.size) → g < w'.heap.size →
      wpList P ops Q rest (a.put o.dst (.slice (some ⟨g, 0, none⟩) (n + 1) cap)) w') : wpList P ops Q (o :: rest) a w := by
  refine wpList_append_lies w hgd s x t ho base e i z cs.size bytes ht hi hz hsize hby hzs hsz v n xs hs hown ⟨b, 0, none⟩ 1 c cs.toList hx (by simp) (fun j u hu => ?_) (fun u hu => (Array.all_eq_true_iff_forall_mem.1 h1) u (by simpa using hu))
    (by omega) (by unfold maxLen; omega) ?_ hbase _ rfl h
  · rw [Addr.add_mid, hB.cell, Nat.zero_add]
    simpa using hu
  · have : (n + 1) * bytes ≤ 1000001 * 1000 := Nat.mul_le_mul (by omega) hbytes
    omega

theorem ret_int {k : IntKind} {a b : Int} (h : a = b) : Ending.returned (.int k a) = .returned (.int k b) := by rw [h]
theorem ret_bool {a b : Bool} (h : a = b) : Ending.returned (.bool a) = .returned (.bool b) := by rw [h]

end Go.Proofs.Ythlpceoajhcliaa

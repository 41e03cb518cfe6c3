/-
  More words for memory: all but some blocks is as it was.
-/
import Derived.Test.YthlpceoajhcliaaReg
namespace Go.Proofs.Ythlpceoajhcliaa
set_option linter.unusedSimpArgs false
set_option linter.unusedVariables false
open Go.RowKit

/-- The blocks of w for which p holds are in W as they were. -/
structure Ex (w W : World) (p : Nat → Prop) : Prop where
  size : w.heap.size ≤ W.heap.size
  block : ∀ b, b < w.heap.size → p b → W.heap[b]? = w.heap[b]?
section
variable {w W W' : World} {p : Nat → Prop} {g : Nat} {cs : Array Value}
theorem Ex.refl (w : World) (p : Nat → Prop) : Ex w w p := ⟨Nat.le_refl _, fun _ _ _ => rfl⟩
theorem Ex.drew (h : Ex w W p) : Ex w W.drew p := ⟨h.size, h.block⟩
theorem Ex.below (h : Ex w W p) (hb : Below W.heap.size W W') : Ex w W' p :=
  ⟨Nat.le_trans h.size hb.size, fun b hl hp => (hb.block b (Nat.lt_of_lt_of_le hl h.size)).trans (h.block b hl hp)⟩
theorem Ex.oth (h : Ex w W p) (ho : Oth W W' g) (hg : ¬ p g) : Ex w W' p :=
  ⟨by rw [ho.size]; exact h.size, fun b hl hp => (ho.block b (fun e => hg (e ▸ hp))).trans (h.block b hl hp)⟩
theorem Ex.setCell (h : Ex w W p) {a : Addr} (hg : ¬ p a.block) (u : Value) : Ex w (W.setCell a u) p := h.oth (Oth.setCell W a u) hg
theorem Ex.set2 {o o' : Nat} {x y : Value} (h : Ex w W p) (hg : ¬ p g) : Ex w ((W.setCell ⟨g, o, none⟩ x).setCell ⟨g, o', none⟩ y) p := (h.setCell (a := ⟨g, o, none⟩) hg x).setCell (a := ⟨g, o', none⟩) hg y
theorem Ex.cell (h : Ex w W p) (hl : g < w.heap.size) (hp : p g) (o : Nat) : W.cell? ⟨g, o, none⟩ = w.cell? ⟨g, o, none⟩ := World.cell?_of_block (w := w) (h.block g hl hp)
theorem Ex.frozen (h : Ex w W p) (hl : g < w.heap.size) (hp : p g) (o : Nat) : W.frozen? ⟨g, o, none⟩ = w.frozen? ⟨g, o, none⟩ := World.frozen?_of_block (w := w) (h.block g hl hp)
theorem Ex.bk (h : Ex w W p) (hb : Bk w g cs) (hp : p g) : Bk W g cs :=
  ⟨Nat.lt_of_lt_of_le hb.lt h.size, fun o => (h.cell hb.lt hp o).trans (hb.cell o), fun o => (h.frozen hb.lt hp o).trans (hb.frozen o)⟩
theorem Ex.rd {B size n : Nat} {A : Option Addr} {xs : List Value} (h : Ex w W p) (hr : Rd w B size A n xs) (hB : B ≤ w.heap.size) (hp : ∀ b, b < B → p b) : Rd W B size A n xs :=
  hr.keep fun b o hb => h.cell (Nat.lt_of_lt_of_le hb hB) (hp b hb) o
theorem Ex.range {o : Nat} {xs : List Value} (h : Ex w W p) (hr : w.rangeAt g o xs) (hl : g < w.heap.size) (hp : p g) : W.rangeAt g o xs := fun j v hv => (h.cell hl hp _).trans (hr j v hv)
theorem bl_trans {a : World} {B : Nat} (h : Below B a w) (hx : Below w.heap.size w W) (hB : B ≤ w.heap.size) : Below B a W := h.trans (hx.mono hB)
end
theorem rd_of_range {w : World} {g o n size : Nat} {xs : List Value} (h : w.rangeAt g o xs) (hl : xs.length = n * size) (hg : g < w.heap.size) : Rd w w.heap.size size (some ⟨g, o, none⟩) n xs :=
  ⟨hl, fun _ => ⟨g, o, rfl, hg, fun j u hu => h j u hu⟩⟩
theorem range_drop {w : World} {g o k : Nat} {xs : List Value} (h : w.rangeAt g o xs) : w.rangeAt g (o + k) (xs.drop k) := fun j v hv => by
  rw [List.getElem?_drop] at hv
  rw [Nat.add_assoc]
  exact h _ _ hv
theorem run_load_blk {P : Program} {op : Oper} {a : Act} {w : World} (ty : TypeId) (x : Operand) (ho : op.op = .load ty x)
    (g : Nat) (hx : a.eval x = .pointer (some ⟨g, 0, none⟩)) (cs : Array Value) (hB : Bk w g cs) (d : TypeDesc) (hu : P.underlying ty = some d) (hd : d.isRow = true) (hi : (P.info? ty).map (·.size) = some cs.size) :
    (execOp a.eval op).run P w = .ok (.value (.agg cs)) w := by
  have hl := run_loadVar_mid w g 0 ty cs.toList d hB.range hu hd (by simpa using hi)
  simp only [Array.toArray_toList] at hl
  unfold execOp
  simp only [ho, hx, Instr.loadAt, Instr.sureAddr, Sem.run_bind, Sem.run_pure, Result.andThen_ok, hl]
theorem Rd.newAt (w : World) (t : TypeId) (cs : Array Value) (xs : List Value) (n size g B : Nat) (hg : g = w.heap.size) (hB : B = w.heap.size + 1) (hx : cs.toList = xs) (hs : xs.length = n * size) :
    Rd (w.alloc (.cells cs t)) B size (some ⟨g, 0, none⟩) n xs := by
  have := Rd.new w t cs xs n size hx hs
  rw [World.size_alloc] at this
  rw [hg, hB]
  exact this
theorem rd_cut {W : World} {g cap n : Nat} {p : Int × Int} {r : List (Int × Int)} (hr : W.rangeAt g 0 (rc (p :: r))) (hg : g < W.heap.size) (hn : n = r.length + 1) (hc : n ≤ cap) :
    Rd W W.heap.size 2 (if cap = 1 then some ⟨g, 0, none⟩ else some ⟨g, 2, none⟩) (n - 1) (rc r) := by
  refine ⟨by rw [rc_length]; omega, fun h => ?_⟩
  rw [if_neg (by omega)]
  have := range_drop (k := 2) hr
  exact ⟨g, 2, rfl, hg, fun j u hu => by
    have h2 := this j u (by rw [rc_cons]; exact hu)
    simpa using h2⟩
end Go.Proofs.Ythlpceoajhcliaa

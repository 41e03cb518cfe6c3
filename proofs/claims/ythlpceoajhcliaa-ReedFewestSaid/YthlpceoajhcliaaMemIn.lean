/-
  The laws of memory for a walk inside a fence.
-/
import Derived.Test.YthlpceoajhcliaaTypes
import Derived.RangeFuncNested
import Derived.RangeFuncBound
import Derived.RangeFuncCalls
import Derived.RangeFuncLeaves
import Derived.Shelf.Abstract
import Derived.Shelf.RegionOpen
import Derived.OwnWalkIn
import Derived.TacticsInMore
import Derived.LoopNIn
import Derived.LoopIn
namespace Go.Proofs.Ythlpceoajhcliaa
set_option linter.unusedSimpArgs false
set_option linter.unusedVariables false
open Go.RowKit Go.Shelf

section
variable {F : Fence} {nF : Nat} {P : Program} {ops : Array Oper} {rest : List Oper} {op : Oper} {a : Act} {Q : Exit → Act → World → Prop} {w0 w : World} {ex : Nat → Prop} {L : List (Nat × BA)}

theorem i_ldr {ty : TypeId} {n : Nat} [RowTy P ty n] {x : Operand} {g o : Nat} {cs ds : List Value} (M : Mem w0 ex w L) (hgd : op.guard = none) (ho : op.op = .load ty x) (hx : a.eval x = .pointer (some ⟨g, o, none⟩)) (hm : (g, BA.cells cs) ∈ L)
    (hd : (cs.drop o).take n = ds) (hn : Nat.ble (o + n) cs.length = true) (h : wpListIn F nF P ops Q rest (a.put op.dst (.agg ds.toArray)) w) : wpListIn F nF P ops Q (op :: rest) a w :=
  wpListIn_plain hgd fun _ hK => by
    unfold Oper.wpIn
    refine ⟨by simp [Oper.about, ho], ?_⟩
    rw [Oper.semAt_plain F _ _ (by rw [ho]; intro c hc'; cases hc')]
    unfold execOp
    simp only [ho, hx, Instr.loadAt, Instr.sureAddr, Sem.run_bind, Sem.run_pure, Result.andThen_ok, run_load_row (M.get hm) hd hn]
    exact hK _ _ h
theorem i_ld1 {ty : TypeId} [OneTy P ty] {x : Operand} {g o : Nat} {cs : List Value} {v : Value} (M : Mem w0 ex w L) (hgd : op.guard = none) (ho : op.op = .load ty x) (hx : a.eval x = .pointer (some ⟨g, o, none⟩)) (hm : (g, BA.cells cs) ∈ L)
    (hv : cs[o]? = some v) (h : wpListIn F nF P ops Q rest (a.put op.dst v) w) : wpListIn F nF P ops Q (op :: rest) a w :=
  wpListIn_plain hgd fun _ hK => by
    unfold Oper.wpIn
    refine ⟨by simp [Oper.about, ho], ?_⟩
    rw [Oper.semAt_plain F _ _ (by rw [ho]; intro c hc'; cases hc')]
    unfold execOp
    simp only [ho, hx, Instr.loadAt, Instr.sureAddr, Sem.run_bind, Sem.run_pure, Result.andThen_ok, run_load_one (M.get hm) hv]
    exact hK _ _ h
theorem i_lor {ty : TypeId} {n : Nat} [RowTy P ty n] {x : Operand} {g o : Nat} {cs ds : List Value} (hB : Bk w g cs.toArray) (hgd : op.guard = none) (ho : op.op = .load ty x) (hx : a.eval x = .pointer (some ⟨g, o, none⟩))
    (hd : (cs.drop o).take n = ds) (hn : Nat.ble (o + n) cs.length = true) (h : wpListIn F nF P ops Q rest (a.put op.dst (.agg ds.toArray)) w) : wpListIn F nF P ops Q (op :: rest) a w :=
  wpListIn_plain hgd fun _ hK => by
    unfold Oper.wpIn
    refine ⟨by simp [Oper.about, ho], ?_⟩
    rw [Oper.semAt_plain F _ _ (by rw [ho]; intro c hc'; cases hc')]
    unfold execOp
    simp only [ho, hx, Instr.loadAt, Instr.sureAddr, Sem.run_bind, Sem.run_pure, Result.andThen_ok, run_load_row hB hd hn]
    exact hK _ _ h
theorem i_st {ty : TypeId} {x y : Operand} {g o : Nat} {v : Value} {cs ds cs' : List Value} {L' : List (Nat × BA)} (M : Mem w0 ex w L) (hgd : op.guard = none) (ho : op.op = .store ty x y) (hx : a.eval x = .pointer (some ⟨g, o, none⟩)) (hy : a.eval y = v) (hv : v.cells = ds.toArray)
    (hu : Upd L g (.cells cs) (.cells cs') L') (hc : cs.take o ++ ds ++ cs.drop (o + ds.length) = cs') (hs : o + ds.length ≤ cs.length) (h1 : ds.all (·.oneCell') = true) (hi : (P.info? ty).map (·.size) = some ds.length)
    (h : ∀ w', Mem w0 ex w' L' → Oth w w' g → wpListIn F nF P ops Q rest (a.put op.dst undef) w') : wpListIn F nF P ops Q (op :: rest) a w :=
  wpListIn_plain hgd fun _ hK => by
    have hB := M.get hu.mem
    unfold Oper.wpIn
    refine ⟨by simp [Oper.about, ho], ?_⟩
    rw [Oper.semAt_plain F _ _ (by rw [ho]; intro c hc'; cases hc')]
    unfold execOp
    simp only [ho, hx, hy, Instr.storeAt, Instr.sureAddr, Sem.run_bind, Sem.run_pure, Result.andThen_ok, run_store_any hi hB hv h1 hs]
    exact hK _ _ (h _ (M.write hu (Oth.setCells g _ _ _) (hB.storeAt o ds cs' (by simpa using hs) (by simpa using hc.symm))) (Oth.setCells g _ _ _))
theorem i_al {ty : TypeId} {l : List Value} [ZeroTy P ty l] (M : Mem w0 ex w L) (hgd : op.guard = none) (ho : op.op = .alloc ty)
    (h : ∀ g w', Mem w0 ex w' ((g, .cells l) :: L) → wpListIn F nF P ops Q rest (a.put op.dst (.pointer (some ⟨g, 0, none⟩))) w') : wpListIn F nF P ops Q (op :: rest) a w :=
  wpListIn_plain hgd fun _ hK => by
    unfold Oper.wpIn
    refine ⟨by simp [Oper.about, ho], ?_⟩
    rw [Oper.semAt_plain F _ _ (by rw [ho]; intro c hc'; cases hc')]
    unfold execOp
    simp only [ho, Sem.run_bind, Sem.run_pure, Result.andThen_ok, run_alloc_any (P := P) (ty := ty)]
    exact hK _ _ (h _ _ (M.new l ty))
theorem i_bx {ty : TypeId} {x : Operand} {v : Value} {l : List Value} (M : Mem w0 ex w L) (hgd : op.guard = none) (ho : op.op = .box ty x) (hx : a.eval x = v) (hv : v.cells = l.toArray)
    (h : ∀ g w', Mem w0 ex w' ((g, .cells l) :: L) → wpListIn F nF P ops Q rest (a.put op.dst (.pointer (some ⟨g, 0, none⟩))) w') : wpListIn F nF P ops Q (op :: rest) a w :=
  wpListIn_plain hgd fun _ hK => by
    unfold Oper.wpIn
    refine ⟨by simp [Oper.about, ho], ?_⟩
    rw [Oper.semAt_plain F _ _ (by rw [ho]; intro c hc'; cases hc')]
    unfold execOp
    simp only [ho, hx, Instr.box, Sem.run_bind, Sem.run_pure, Result.andThen_ok, newVar, newRow, run_newObj_alloc, hv]
    exact hK _ _ (h _ _ (M.new l ty))
theorem i_start {c : Code} (M : Mem w0 ex w L) (h : ∀ w', Mem w0 ex w' L → c.wpIn F nF P Q a w') : c.wpIn F nF P Q a w := h w M
end
end Go.Proofs.Ythlpceoajhcliaa

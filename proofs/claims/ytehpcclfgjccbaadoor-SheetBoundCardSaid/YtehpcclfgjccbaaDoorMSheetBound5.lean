/-
  Walks of functions, and plain laws (texts put together). No condition.
-/
import Derived.Test.YtehpcclfgjccbaaDoorMSheetBound1
import Derived.Test.YtehpcclfgjccbaaDoorMSheetBound2
import Derived.Test.YtehpcclfgjccbaaDoorMSheetBound3
import Derived.Test.YtehpcclfgjccbaaDoorMSheetBound4
set_option maxRecDepth 100000
set_option maxHeartbeats 1000000
section
/-
 kit: copies of stocks, stocks that are equal.
-/
namespace Go.Proofs.YtehpcclfgjccbaaDoor
set_option linter.unusedSimpArgs false
set_option linter.unusedVariables false
open Go.RowKit
theorem eqT23 {x y : Operand} {a0 a1 b0 b1 : Int} {w : World} : (do eqGuard .eql 23 x y (.agg #[.int .i64 a0, .int .i64 a1]) (.agg #[.int .i64 b0, .int .i64 b1]); binOp .eql 23 (.agg #[.int .i64 a0, .int .i64 a1]) (.agg #[.int .i64 b0, .int .i64 b1]) : Sem Value).run Tryd.prog w = .ok (.bool ((decide (a0 = b0) && decide (a1 = b1)))) w := by
 go_simp
 (repeat' split) <;> simp_all
theorem eqT63 {x y : Operand} {a0 a1 a3 b0 b1 b3 : Int} {a2 b2 : Bool} {w : World} : (do eqGuard .eql 63 x y (.agg #[.int .i64 a0, .int .i64 a1, .bool a2, .int .i64 a3]) (.agg #[.int .i64 b0, .int .i64 b1, .bool b2, .int .i64 b3]); binOp .eql 63 (.agg #[.int .i64 a0, .int .i64 a1, .bool a2, .int .i64 a3]) (.agg #[.int .i64 b0, .int .i64 b1, .bool b2, .int .i64 b3]) : Sem Value).run Tryd.prog w = .ok (.bool (decide (a0 = b0) && (decide (a1 = b1) && (decide (a2 = b2) && decide (a3 = b3))))) w := by
 go_simp
 (repeat' split) <;> simp_all
def CopySkPost (s : Sk) (w : World) (e : Ending) (w' : World) : Prop := ∃ A c I, e = .returned (.agg #[.int .i64 s.lo, .int .i64 s.wi, .int .i64 s.a0, .int .i64 s.a1, .int .i64 s.c0, .int .i64 s.c1, .slice A s.ps.length c]) ∧ Cl 63 4 A s.ps.length c (pc s.ps) I ∧ Mem w noEx w' I
def eqF (s t : Sk) : Prop := s.lo = t.lo ∧ s.wi = t.wi ∧ (s.a0 = t.a0 ∧ s.a1 = t.a1) ∧ (s.c0 = t.c0 ∧ s.c1 = t.c1) ∧ s.ps.length = t.ps.length
theorem sameSheets_any (s : Sk) (A : Option Addr) (c : Nat) (t : Sk) (B : Option Addr) (d : Nat)  (w : World) (hA : Rd w w.heap.size 4 A s.ps.length (pc s.ps)) (hB : Rd w w.heap.size 4 B t.ps.length (pc t.ps)) (nA : s.ps.length ≤ 1000000) (nB : t.ps.length ≤ 1000000) :
   Calls Tryd.prog 29 #[.agg #[.int .i64 s.lo, .int .i64 s.wi, .int .i64 s.a0, .int .i64 s.a1, .int .i64 s.c0, .int .i64 s.c1, .slice A s.ps.length c], .agg #[.int .i64 t.lo, .int .i64 t.wi, .int .i64 t.a0, .int .i64 t.a1, .int .i64 t.c0, .int .i64 t.c1, .slice B t.ps.length d]] w fun e w' => e = .returned (.bool (decide (s = t))) ∧ Below w.heap.size w w' := by
 obtain ⟨bA, oA, SA⟩ := Sp.old hA
 obtain ⟨bB, oB, SB⟩ := Sp.old hB
 refine px_enter noEx Tryd.func29 rfl 64 rfl [.agg #[.int .i64 s.lo, .int .i64 s.wi, .int .i64 s.a0, .int .i64 s.a1, .int .i64 s.c0, .int .i64 s.c1, .slice A s.ps.length c], .agg #[.int .i64 t.lo, .int .i64 t.wi, .int .i64 t.a0, .int .i64 t.a1, .int .i64 t.c0, .int .i64 t.c1, .slice B t.ps.length d]] rfl rfl (Mem.init w _) ?_
 intro ac wc T M
 refine wp_seq ?_
 refine wp_region_lit ?_
 refine l_w rfl ?_; intro K hK
 refine ow_bx M T rfl rfl rfl rfl (T.ev 0 rfl) rfl ?_; clear M T; intro g1 wc ac M T
 refine sh_out hK _ _ ?_; clear hK K
 refine l_w rfl ?_; intro K hK
 refine ow_bx M T rfl rfl rfl rfl (T.ev 2 rfl) rfl ?_; clear M T; intro g2 wc ac M T
 refine sh_out hK _ _ ?_; clear hK K
 refine lq T (rn_assign rfl evc) ?_; clear T ac; intro ac T
 refine wpList_nil ?_
 replace T := T.pick [1, 2] rfl
 refine nm_then ?_
 refine cut_seq (fun ac wc => Tm ac 64 [(2, .pointer (some ⟨g1, 0, none⟩)), (3, .pointer (some ⟨g2, 0, none⟩)), (5, .bool ((decide (s.lo = t.lo)) && ((decide (s.wi = t.wi)) && (((decide (s.a0 = t.a0)) && (decide (s.a1 = t.a1))) && (((decide (s.c0 = t.c0)) && (decide (s.c1 = t.c1))) && (decide (((s.ps.length : Nat) : Int) = ((t.ps.length : Nat) : Int))))))))] ∧ Mem w noEx wc [(g2, .cells [.int .i64 t.lo, .int .i64 t.wi, .int .i64 t.a0, .int .i64 t.a1, .int .i64 t.c0, .int .i64 t.c1, .slice B t.ps.length d]), (g1, .cells [.int .i64 s.lo, .int .i64 s.wi, .int .i64 s.a0, .int .i64 s.a1, .int .i64 s.c0, .int .i64 s.c1, .slice A s.ps.length c])]) ?_ ?_
 ·refine wp_region_lit ?_
  refine lq (v := (.pointer (some ⟨g1, 0, none⟩))) T (rn_fieldAddr (off := 0) rfl (T.ev 1 rfl) (fun _ _ _ => by kernel_rfl)) ?_; clear T ac; intro ac T
  refine lq T (rn_one (Mem.nth M 1 rfl) rfl (T.ev 0 rfl) rfl) ?_; clear T ac; intro ac T
  refine lq (v := (.pointer (some ⟨g2, 0, none⟩))) T (rn_fieldAddr (off := 0) rfl (T.ev 2 rfl) (fun _ _ _ => by kernel_rfl)) ?_; clear T ac; intro ac T
  refine lq T (rn_one (Mem.nth M 0 rfl) rfl (T.ev 0 rfl) rfl) ?_; clear T ac; intro ac T
  refine lq T (rn_eql rfl (T.ev 2 rfl) (T.ev 0 rfl)) ?_; clear T ac; intro ac T
  refine lq T (rn_move rfl (T.ev 0 rfl)) ?_; clear T ac; intro ac T
  rcases Bool.eq_false_or_eq_true (decide (s.lo = t.lo)) with h1 | h1
  ·replace h1 := of_decide_eq_true h1
   refine lw (v := (.pointer (some ⟨g1, 1, none⟩))) T (wanted_yes rfl rfl (T.ev 0 rfl) (decide_eq_true h1)) (rn_fieldAddr (off := 1) rfl (T.ev 7 rfl) (fun _ _ _ => by kernel_rfl)) ?_; clear T ac; intro ac T
   refine lw T (wanted_yes rfl rfl (T.ev 1 rfl) (decide_eq_true h1)) (rn_one (Mem.nth M 1 rfl) rfl (T.ev 0 rfl) rfl) ?_; clear T ac; intro ac T
   refine lw (v := (.pointer (some ⟨g2, 1, none⟩))) T (wanted_yes rfl rfl (T.ev 2 rfl) (decide_eq_true h1)) (rn_fieldAddr (off := 1) rfl (T.ev 8 rfl) (fun _ _ _ => by kernel_rfl)) ?_; clear T ac; intro ac T
   refine lw T (wanted_yes rfl rfl (T.ev 3 rfl) (decide_eq_true h1)) (rn_one (Mem.nth M 0 rfl) rfl (T.ev 0 rfl) rfl) ?_; clear T ac; intro ac T
   refine lw T (wanted_yes rfl rfl (T.ev 4 rfl) (decide_eq_true h1)) (rn_eql rfl (T.ev 2 rfl) (T.ev 0 rfl)) ?_; clear T ac; intro ac T
   refine lq T (rn_pick1 rfl (T.ev 5 rfl) (decide_eq_true h1) (T.ev 0 rfl)) ?_; clear T ac; intro ac T
   refine lq T (rn_move rfl (T.ev 0 rfl)) ?_; clear T ac; intro ac T
   rcases Bool.eq_false_or_eq_true (decide (s.wi = t.wi)) with h2 | h2
   ·replace h2 := of_decide_eq_true h2
    refine lw (v := (.pointer (some ⟨g1, 2, none⟩))) T (wanted_yes rfl rfl (T.ev 0 rfl) (decide_eq_true h2)) (rn_fieldAddr (off := 2) rfl (T.ev 14 rfl) (fun _ _ _ => by kernel_rfl)) ?_; clear T ac; intro ac T
    refine lw T (wanted_yes rfl rfl (T.ev 1 rfl) (decide_eq_true h2)) (rn_rowO (Mem.nth M 1 rfl) rfl (T.ev 0 rfl) rfl) ?_; clear T ac; intro ac T
    refine lw (v := (.pointer (some ⟨g2, 2, none⟩))) T (wanted_yes rfl rfl (T.ev 2 rfl) (decide_eq_true h2)) (rn_fieldAddr (off := 2) rfl (T.ev 15 rfl) (fun _ _ _ => by kernel_rfl)) ?_; clear T ac; intro ac T
    refine lw T (wanted_yes rfl rfl (T.ev 3 rfl) (decide_eq_true h2)) (rn_rowO (Mem.nth M 0 rfl) rfl (T.ev 0 rfl) rfl) ?_; clear T ac; intro ac T
    refine lw (v := (.bool ((decide (s.a0 = t.a0)) && (decide (s.a1 = t.a1))))) T (wanted_yes rfl rfl (T.ev 4 rfl) (decide_eq_true h2)) (rn_bin rfl (T.ev 2 rfl) (T.ev 0 rfl) eqT23) ?_; clear T ac; intro ac T
    refine lq T (rn_pick1 rfl (T.ev 5 rfl) (decide_eq_true h2) (T.ev 0 rfl)) ?_; clear T ac; intro ac T
    refine lq T (rn_move rfl (T.ev 0 rfl)) ?_; clear T ac; intro ac T
    rcases Bool.eq_false_or_eq_true ((decide (s.a0 = t.a0)) && (decide (s.a1 = t.a1))) with h3 | h3
    ·refine lw (v := (.pointer (some ⟨g1, 4, none⟩))) T (wanted_yes rfl rfl (T.ev 0 rfl) h3) (rn_fieldAddr (off := 4) rfl (T.ev 21 rfl) (fun _ _ _ => by kernel_rfl)) ?_; clear T ac; intro ac T
     refine lw T (wanted_yes rfl rfl (T.ev 1 rfl) h3) (rn_rowO (Mem.nth M 1 rfl) rfl (T.ev 0 rfl) rfl) ?_; clear T ac; intro ac T
     refine lw (v := (.pointer (some ⟨g2, 4, none⟩))) T (wanted_yes rfl rfl (T.ev 2 rfl) h3) (rn_fieldAddr (off := 4) rfl (T.ev 22 rfl) (fun _ _ _ => by kernel_rfl)) ?_; clear T ac; intro ac T
     refine lw T (wanted_yes rfl rfl (T.ev 3 rfl) h3) (rn_rowO (Mem.nth M 0 rfl) rfl (T.ev 0 rfl) rfl) ?_; clear T ac; intro ac T
     refine lw (v := (.bool ((decide (s.c0 = t.c0)) && (decide (s.c1 = t.c1))))) T (wanted_yes rfl rfl (T.ev 4 rfl) h3) (rn_bin rfl (T.ev 2 rfl) (T.ev 0 rfl) eqT23) ?_; clear T ac; intro ac T
     refine lq T (rn_pick1 rfl (T.ev 5 rfl) h3 (T.ev 0 rfl)) ?_; clear T ac; intro ac T
     refine lq T (rn_move rfl (T.ev 0 rfl)) ?_; clear T ac; intro ac T
     rcases Bool.eq_false_or_eq_true ((decide (s.c0 = t.c0)) && (decide (s.c1 = t.c1))) with h4 | h4
     ·refine lw (v := (.pointer (some ⟨g1, 6, none⟩))) T (wanted_yes rfl rfl (T.ev 0 rfl) h4) (rn_fieldAddr (off := 6) rfl (T.ev 28 rfl) (fun _ _ _ => by kernel_rfl)) ?_; clear T ac; intro ac T
      refine lw T (wanted_yes rfl rfl (T.ev 1 rfl) h4) (rn_one (Mem.nth M 1 rfl) rfl (T.ev 0 rfl) rfl) ?_; clear T ac; intro ac T
      refine lw T (wanted_yes rfl rfl (T.ev 2 rfl) h4) (rn_lenS rfl Tryd.underlying24 (T.ev 0 rfl)) ?_; clear T ac; intro ac T
      refine lw (v := (.pointer (some ⟨g2, 6, none⟩))) T (wanted_yes rfl rfl (T.ev 3 rfl) h4) (rn_fieldAddr (off := 6) rfl (T.ev 30 rfl) (fun _ _ _ => by kernel_rfl)) ?_; clear T ac; intro ac T
      refine lw T (wanted_yes rfl rfl (T.ev 4 rfl) h4) (rn_one (Mem.nth M 0 rfl) rfl (T.ev 0 rfl) rfl) ?_; clear T ac; intro ac T
      refine lw T (wanted_yes rfl rfl (T.ev 5 rfl) h4) (rn_lenS rfl Tryd.underlying24 (T.ev 0 rfl)) ?_; clear T ac; intro ac T
      refine lw T (wanted_yes rfl rfl (T.ev 6 rfl) h4) (rn_eql rfl (T.ev 3 rfl) (T.ev 0 rfl)) ?_; clear T ac; intro ac T
      refine lq T (rn_pick1 rfl (T.ev 7 rfl) h4 (T.ev 0 rfl)) ?_; clear T ac; intro ac T
      refine lq T (rn_assign rfl (T.ev 0 rfl)) ?_; clear T ac; intro ac T
      refine wpList_nil ?_
      replace T := T.pick [0, 36, 37] rfl
      exact ⟨(T.pick (E' := [(2, .pointer (some ⟨g1, 0, none⟩)), (3, .pointer (some ⟨g2, 0, none⟩)), (5, .bool (decide (((s.ps.length : Nat) : Int) = ((t.ps.length : Nat) : Int))))]) [2, 1, 0] rfl).as (by (try rw [show (decide (s.lo = t.lo)) = true from (decide_eq_true h1)]); (try rw [show (decide (s.wi = t.wi)) = true from (decide_eq_true h2)]); (try rw [show ((decide (s.a0 = t.a0)) && (decide (s.a1 = t.a1))) = true from h3]); (try rw [show ((decide (s.c0 = t.c0)) && (decide (s.c1 = t.c1))) = true from h4]); (try rfl)), M.mask [true, true] rfl⟩
     refine lp T (wanted_no rfl rfl (T.ev 0 rfl) h4) ?_; clear T ac; intro ac T
     refine lp T (wanted_no rfl rfl (T.ev 1 rfl) h4) ?_; clear T ac; intro ac T
     refine lp T (wanted_no rfl rfl (T.ev 2 rfl) h4) ?_; clear T ac; intro ac T
     refine lp T (wanted_no rfl rfl (T.ev 3 rfl) h4) ?_; clear T ac; intro ac T
     refine lp T (wanted_no rfl rfl (T.ev 4 rfl) h4) ?_; clear T ac; intro ac T
     refine lp T (wanted_no rfl rfl (T.ev 5 rfl) h4) ?_; clear T ac; intro ac T
     refine lp T (wanted_no rfl rfl (T.ev 6 rfl) h4) ?_; clear T ac; intro ac T
     refine lq T (rn_pick0 rfl (T.ev 7 rfl) h4 evc) ?_; clear T ac; intro ac T
     refine lq T (rn_assign rfl (T.ev 0 rfl)) ?_; clear T ac; intro ac T
     refine wpList_nil ?_
     replace T := T.pick [0, 36, 37] rfl
     exact ⟨(T.pick (E' := [(2, .pointer (some ⟨g1, 0, none⟩)), (3, .pointer (some ⟨g2, 0, none⟩)), (5, .bool false)]) [2, 1, 0] rfl).as (by (try rw [show (decide (s.lo = t.lo)) = true from (decide_eq_true h1)]); (try rw [show (decide (s.wi = t.wi)) = true from (decide_eq_true h2)]); (try rw [show ((decide (s.a0 = t.a0)) && (decide (s.a1 = t.a1))) = true from h3]); (try rw [show ((decide (s.c0 = t.c0)) && (decide (s.c1 = t.c1))) = false from h4]); (try rfl)), M.mask [true, true] rfl⟩
    refine lp T (wanted_no rfl rfl (T.ev 0 rfl) h3) ?_; clear T ac; intro ac T
    refine lp T (wanted_no rfl rfl (T.ev 1 rfl) h3) ?_; clear T ac; intro ac T
    refine lp T (wanted_no rfl rfl (T.ev 2 rfl) h3) ?_; clear T ac; intro ac T
    refine lp T (wanted_no rfl rfl (T.ev 3 rfl) h3) ?_; clear T ac; intro ac T
    refine lp T (wanted_no rfl rfl (T.ev 4 rfl) h3) ?_; clear T ac; intro ac T
    refine lq T (rn_pick0 rfl (T.ev 5 rfl) h3 evc) ?_; clear T ac; intro ac T
    refine lq T (rn_move rfl (T.ev 0 rfl)) ?_; clear T ac; intro ac T
    refine lp T (wanted_no rfl rfl (T.ev 0 rfl) rfl) ?_; clear T ac; intro ac T
    refine lp T (wanted_no rfl rfl (T.ev 1 rfl) rfl) ?_; clear T ac; intro ac T
    refine lp T (wanted_no rfl rfl (T.ev 2 rfl) rfl) ?_; clear T ac; intro ac T
    refine lp T (wanted_no rfl rfl (T.ev 3 rfl) rfl) ?_; clear T ac; intro ac T
    refine lp T (wanted_no rfl rfl (T.ev 4 rfl) rfl) ?_; clear T ac; intro ac T
    refine lp T (wanted_no rfl rfl (T.ev 5 rfl) rfl) ?_; clear T ac; intro ac T
    refine lp T (wanted_no rfl rfl (T.ev 6 rfl) rfl) ?_; clear T ac; intro ac T
    refine lq T (rn_pick0 rfl (T.ev 7 rfl) rfl evc) ?_; clear T ac; intro ac T
    refine lq T (rn_assign rfl (T.ev 0 rfl)) ?_; clear T ac; intro ac T
    refine wpList_nil ?_
    replace T := T.pick [0, 36, 37] rfl
    exact ⟨(T.pick (E' := [(2, .pointer (some ⟨g1, 0, none⟩)), (3, .pointer (some ⟨g2, 0, none⟩)), (5, .bool false)]) [2, 1, 0] rfl).as (by (try rw [show (decide (s.lo = t.lo)) = true from (decide_eq_true h1)]); (try rw [show (decide (s.wi = t.wi)) = true from (decide_eq_true h2)]); (try rw [show ((decide (s.a0 = t.a0)) && (decide (s.a1 = t.a1))) = false from h3]); (try rfl)), M.mask [true, true] rfl⟩
   replace h2 := of_decide_eq_false h2
   refine lp T (wanted_no rfl rfl (T.ev 0 rfl) (decide_eq_false h2)) ?_; clear T ac; intro ac T
   refine lp T (wanted_no rfl rfl (T.ev 1 rfl) (decide_eq_false h2)) ?_; clear T ac; intro ac T
   refine lp T (wanted_no rfl rfl (T.ev 2 rfl) (decide_eq_false h2)) ?_; clear T ac; intro ac T
   refine lp T (wanted_no rfl rfl (T.ev 3 rfl) (decide_eq_false h2)) ?_; clear T ac; intro ac T
   refine lp T (wanted_no rfl rfl (T.ev 4 rfl) (decide_eq_false h2)) ?_; clear T ac; intro ac T
   refine lq T (rn_pick0 rfl (T.ev 5 rfl) (decide_eq_false h2) evc) ?_; clear T ac; intro ac T
   refine lq T (rn_move rfl (T.ev 0 rfl)) ?_; clear T ac; intro ac T
   refine lp T (wanted_no rfl rfl (T.ev 0 rfl) rfl) ?_; clear T ac; intro ac T
   refine lp T (wanted_no rfl rfl (T.ev 1 rfl) rfl) ?_; clear T ac; intro ac T
   refine lp T (wanted_no rfl rfl (T.ev 2 rfl) rfl) ?_; clear T ac; intro ac T
   refine lp T (wanted_no rfl rfl (T.ev 3 rfl) rfl) ?_; clear T ac; intro ac T
   refine lp T (wanted_no rfl rfl (T.ev 4 rfl) rfl) ?_; clear T ac; intro ac T
   refine lq T (rn_pick0 rfl (T.ev 5 rfl) rfl evc) ?_; clear T ac; intro ac T
   refine lq T (rn_move rfl (T.ev 0 rfl)) ?_; clear T ac; intro ac T
   refine lp T (wanted_no rfl rfl (T.ev 0 rfl) rfl) ?_; clear T ac; intro ac T
   refine lp T (wanted_no rfl rfl (T.ev 1 rfl) rfl) ?_; clear T ac; intro ac T
   refine lp T (wanted_no rfl rfl (T.ev 2 rfl) rfl) ?_; clear T ac; intro ac T
   refine lp T (wanted_no rfl rfl (T.ev 3 rfl) rfl) ?_; clear T ac; intro ac T
   refine lp T (wanted_no rfl rfl (T.ev 4 rfl) rfl) ?_; clear T ac; intro ac T
   refine lp T (wanted_no rfl rfl (T.ev 5 rfl) rfl) ?_; clear T ac; intro ac T
   refine lp T (wanted_no rfl rfl (T.ev 6 rfl) rfl) ?_; clear T ac; intro ac T
   refine lq T (rn_pick0 rfl (T.ev 7 rfl) rfl evc) ?_; clear T ac; intro ac T
   refine lq T (rn_assign rfl (T.ev 0 rfl)) ?_; clear T ac; intro ac T
   refine wpList_nil ?_
   replace T := T.pick [0, 36, 37] rfl
   exact ⟨(T.pick (E' := [(2, .pointer (some ⟨g1, 0, none⟩)), (3, .pointer (some ⟨g2, 0, none⟩)), (5, .bool false)]) [2, 1, 0] rfl).as (by (try rw [show (decide (s.lo = t.lo)) = true from (decide_eq_true h1)]); (try rw [show (decide (s.wi = t.wi)) = false from (decide_eq_false h2)]); (try rfl)), M.mask [true, true] rfl⟩
  replace h1 := of_decide_eq_false h1
  refine lp T (wanted_no rfl rfl (T.ev 0 rfl) (decide_eq_false h1)) ?_; clear T ac; intro ac T
  refine lp T (wanted_no rfl rfl (T.ev 1 rfl) (decide_eq_false h1)) ?_; clear T ac; intro ac T
  refine lp T (wanted_no rfl rfl (T.ev 2 rfl) (decide_eq_false h1)) ?_; clear T ac; intro ac T
  refine lp T (wanted_no rfl rfl (T.ev 3 rfl) (decide_eq_false h1)) ?_; clear T ac; intro ac T
  refine lp T (wanted_no rfl rfl (T.ev 4 rfl) (decide_eq_false h1)) ?_; clear T ac; intro ac T
  refine lq T (rn_pick0 rfl (T.ev 5 rfl) (decide_eq_false h1) evc) ?_; clear T ac; intro ac T
  refine lq T (rn_move rfl (T.ev 0 rfl)) ?_; clear T ac; intro ac T
  refine lp T (wanted_no rfl rfl (T.ev 0 rfl) rfl) ?_; clear T ac; intro ac T
  refine lp T (wanted_no rfl rfl (T.ev 1 rfl) rfl) ?_; clear T ac; intro ac T
  refine lp T (wanted_no rfl rfl (T.ev 2 rfl) rfl) ?_; clear T ac; intro ac T
  refine lp T (wanted_no rfl rfl (T.ev 3 rfl) rfl) ?_; clear T ac; intro ac T
  refine lp T (wanted_no rfl rfl (T.ev 4 rfl) rfl) ?_; clear T ac; intro ac T
  refine lq T (rn_pick0 rfl (T.ev 5 rfl) rfl evc) ?_; clear T ac; intro ac T
  refine lq T (rn_move rfl (T.ev 0 rfl)) ?_; clear T ac; intro ac T
  refine lp T (wanted_no rfl rfl (T.ev 0 rfl) rfl) ?_; clear T ac; intro ac T
  refine lp T (wanted_no rfl rfl (T.ev 1 rfl) rfl) ?_; clear T ac; intro ac T
  refine lp T (wanted_no rfl rfl (T.ev 2 rfl) rfl) ?_; clear T ac; intro ac T
  refine lp T (wanted_no rfl rfl (T.ev 3 rfl) rfl) ?_; clear T ac; intro ac T
  refine lp T (wanted_no rfl rfl (T.ev 4 rfl) rfl) ?_; clear T ac; intro ac T
  refine lq T (rn_pick0 rfl (T.ev 5 rfl) rfl evc) ?_; clear T ac; intro ac T
  refine lq T (rn_move rfl (T.ev 0 rfl)) ?_; clear T ac; intro ac T
  refine lp T (wanted_no rfl rfl (T.ev 0 rfl) rfl) ?_; clear T ac; intro ac T
  refine lp T (wanted_no rfl rfl (T.ev 1 rfl) rfl) ?_; clear T ac; intro ac T
  refine lp T (wanted_no rfl rfl (T.ev 2 rfl) rfl) ?_; clear T ac; intro ac T
  refine lp T (wanted_no rfl rfl (T.ev 3 rfl) rfl) ?_; clear T ac; intro ac T
  refine lp T (wanted_no rfl rfl (T.ev 4 rfl) rfl) ?_; clear T ac; intro ac T
  refine lp T (wanted_no rfl rfl (T.ev 5 rfl) rfl) ?_; clear T ac; intro ac T
  refine lp T (wanted_no rfl rfl (T.ev 6 rfl) rfl) ?_; clear T ac; intro ac T
  refine lq T (rn_pick0 rfl (T.ev 7 rfl) rfl evc) ?_; clear T ac; intro ac T
  refine lq T (rn_assign rfl (T.ev 0 rfl)) ?_; clear T ac; intro ac T
  refine wpList_nil ?_
  replace T := T.pick [0, 36, 37] rfl
  exact ⟨(T.pick (E' := [(2, .pointer (some ⟨g1, 0, none⟩)), (3, .pointer (some ⟨g2, 0, none⟩)), (5, .bool false)]) [2, 1, 0] rfl).as (by (try rw [show (decide (s.lo = t.lo)) = false from (decide_eq_false h1)]); (try rfl)), M.mask [true, true] rfl⟩
 clear T M
 rintro ac wc ⟨T, M⟩
 refine wp_seq ?_
 refine wp_seq ?_
 refine wp_region_lit ?_
 refine lq T (rn_assign rfl evc) ?_; clear T ac; intro ac T
 refine wpList_nil ?_
 refine nm_then ?_
 refine wp_block ?_
 refine wp_loop_n (fun mz ac wc => ∃ (i : Nat) (sm : Bool), mz = s.ps.length - i ∧ (i ≤ s.ps.length) ∧ (sm = true ↔ eqF s t ∧ s.ps.take i = t.ps.take i) ∧ Tm ac 64 [(2, .pointer (some ⟨g1, 0, none⟩)), (3, .pointer (some ⟨g2, 0, none⟩)), (5, .bool sm), (6, .int .i64 (i : Int))] ∧ Mem w noEx wc [(g2, .cells [.int .i64 t.lo, .int .i64 t.wi, .int .i64 t.a0, .int .i64 t.a1, .int .i64 t.c0, .int .i64 t.c1, .slice B t.ps.length d]), (g1, .cells [.int .i64 s.lo, .int .i64 s.wi, .int .i64 s.a0, .int .i64 s.a1, .int .i64 s.c0, .int .i64 s.c1, .slice A s.ps.length c])]) ?_ ?_
 ·exact ⟨_, 0, _, rfl, (Nat.zero_le _), (by unfold eqF; simp [and_assoc, Int.natCast_inj]), T.pick [1, 2, 3, 0] rfl, M.mask [true, true] rfl⟩
 clear T M
 rintro mz ac wc ⟨i, sm, hmm1, hi, hs, T, M⟩
 refine wp_seq ?_
 refine cut_seq (fun ac wc => Tm ac 64 [(2, .pointer (some ⟨g1, 0, none⟩)), (3, .pointer (some ⟨g2, 0, none⟩)), (5, .bool sm), (6, .int .i64 (i : Int)), (49, .bool (sm && (decide ((i : Int) < ((s.ps.length : Nat) : Int)))))] ∧ Mem w noEx wc [(g2, .cells [.int .i64 t.lo, .int .i64 t.wi, .int .i64 t.a0, .int .i64 t.a1, .int .i64 t.c0, .int .i64 t.c1, .slice B t.ps.length d]), (g1, .cells [.int .i64 s.lo, .int .i64 s.wi, .int .i64 s.a0, .int .i64 s.a1, .int .i64 s.c0, .int .i64 s.c1, .slice A s.ps.length c])]) ?_ ?_
 ·refine wp_region_lit ?_
  refine lq T (rn_move rfl (T.ev 2 rfl)) ?_; clear T ac; intro ac T
  refine lq T (rn_move rfl (T.ev 0 rfl)) ?_; clear T ac; intro ac T
  rcases Bool.eq_false_or_eq_true sm with h5 | h5
  ·refine lw T (wanted_yes rfl rfl (T.ev 0 rfl) h5) (rn_move rfl (T.ev 5 rfl)) ?_; clear T ac; intro ac T
   refine lw (v := (.pointer (some ⟨g1, 6, none⟩))) T (wanted_yes rfl rfl (T.ev 1 rfl) h5) (rn_fieldAddr (off := 6) rfl (T.ev 3 rfl) (fun _ _ _ => by kernel_rfl)) ?_; clear T ac; intro ac T
   refine lw T (wanted_yes rfl rfl (T.ev 2 rfl) h5) (rn_one (Mem.nth M 1 rfl) rfl (T.ev 0 rfl) rfl) ?_; clear T ac; intro ac T
   refine lw T (wanted_yes rfl rfl (T.ev 3 rfl) h5) (rn_lenS rfl Tryd.underlying24 (T.ev 0 rfl)) ?_; clear T ac; intro ac T
   refine lw T (wanted_yes rfl rfl (T.ev 4 rfl) h5) (rn_lss rfl (T.ev 3 rfl) (T.ev 0 rfl)) ?_; clear T ac; intro ac T
   refine lq T (rn_pick1 rfl (T.ev 5 rfl) h5 (T.ev 0 rfl)) ?_; clear T ac; intro ac T
   refine wpList_nil ?_
   replace T := T.pick [0, 1, 2, 3, 4, 5, 8, 9, 10, 11] rfl
   exact ⟨(T.pick (E' := [(2, .pointer (some ⟨g1, 0, none⟩)), (3, .pointer (some ⟨g2, 0, none⟩)), (5, .bool sm), (6, .int .i64 (i : Int)), (49, .bool (decide ((i : Int) < ((s.ps.length : Nat) : Int))))]) [6, 7, 8, 9, 0] rfl).as (by (try rw [show sm = true from h5]); (try rfl)), M.mask [true, true] rfl⟩
  refine lp T (wanted_no rfl rfl (T.ev 0 rfl) h5) ?_; clear T ac; intro ac T
  refine lp T (wanted_no rfl rfl (T.ev 1 rfl) h5) ?_; clear T ac; intro ac T
  refine lp T (wanted_no rfl rfl (T.ev 2 rfl) h5) ?_; clear T ac; intro ac T
  refine lp T (wanted_no rfl rfl (T.ev 3 rfl) h5) ?_; clear T ac; intro ac T
  refine lp T (wanted_no rfl rfl (T.ev 4 rfl) h5) ?_; clear T ac; intro ac T
  refine lq T (rn_pick0 rfl (T.ev 5 rfl) h5 evc) ?_; clear T ac; intro ac T
  refine wpList_nil ?_
  replace T := T.pick [0, 1, 2, 3, 4, 5, 8, 9, 10, 11] rfl
  exact ⟨(T.pick (E' := [(2, .pointer (some ⟨g1, 0, none⟩)), (3, .pointer (some ⟨g2, 0, none⟩)), (5, .bool sm), (6, .int .i64 (i : Int)), (49, .bool false)]) [6, 7, 8, 9, 0] rfl).as (by (try rw [show sm = false from h5]); (try rfl)), M.mask [true, true] rfl⟩
 clear T M
 rintro ac wc ⟨T, M⟩
 refine wp_cond_split (T.ev 4 rfl) ?_ ?_
 ·intro h6
  (try have h6' := h6; try simp only [Bool.and_eq_true, Bool.or_eq_true, Bool.not_eq_true', Bool.and_eq_false_imp, Bool.or_eq_false_iff, decide_eq_true_eq, decide_eq_false_iff_not] at h6')
  have hlr : sm = true ∧ i < s.ps.length := by simpa using h6
  have heF := (hs.1 hlr.1).1
  have hlen := heF.2.2.2.2
  have htk := (hs.1 hlr.1).2
  obtain ⟨p, hkp, -⟩ := pc_next (l := s.ps) (k := i) (by omega)
  obtain ⟨q, hkq, -⟩ := pc_next (l := t.ps) (k := i) (by omega)
  refine wp_skip ?_
  refine nm_then ?_
  refine wp_seq ?_
  refine wp_block ?_
  refine g_start2 M (M.mask [true, true] rfl) 12 (by kernel_rfl) rfl (by kernel_rfl) ?_
  clear M; intro wc M
  refine gq (v := (.pointer (some ⟨g1, 6, none⟩))) T 0 1 rfl (fun _ _ _ _ _ => (rn_fieldAddr (off := 6) rfl (T.ev 0 rfl) (fun _ _ _ => by kernel_rfl))) ?_; clear T ac; intro ac T
  refine gq T 1 3 rfl (fun B w' hD hl hS => (rn_one (Mem.nth (show Mem w noEx w' _ from hS) 1 rfl) rfl (T.ev 0 rfl) rfl)) ?_; clear T ac; intro ac T
  refine gq T 2 7 rfl (fun _ _ _ _ _ => (rn_move rfl (T.ev 5 rfl))) ?_; clear T ac; intro ac T
  refine gq T 3 15 rfl (fun _ _ _ _ _ => (rn_indexAddr (size := 4) i rfl (T.ev 1 rfl) (T.ev 0 rfl) ⟨_, Tryd.underlying24, by kernel_rfl⟩ rfl (by omega) (SA.at0 (by omega)))) ?_; clear T ac; intro ac T
  refine gq (v := (.agg #[.int .i64 p.l, .int .i64 p.w, .bool p.gr, .int .i64 p.pa])) T 4 31 rfl (fun B w' hD hl hS => (rn_rowat (Sp.pcR SA (show Mem w noEx w' _ from hS) (List.nil_sublist _) hkp) rfl (T.ev 0 rfl) rfl)) ?_; clear T ac; intro ac T
  refine gq (v := (.pointer (some ⟨g2, 6, none⟩))) T 5 63 rfl (fun _ _ _ _ _ => (rn_fieldAddr (off := 6) rfl (T.ev 6 rfl) (fun _ _ _ => by kernel_rfl))) ?_; clear T ac; intro ac T
  refine gq T 6 127 rfl (fun B w' hD hl hS => (rn_one (Mem.nth (show Mem w noEx w' _ from hS) 0 rfl) rfl (T.ev 0 rfl) rfl)) ?_; clear T ac; intro ac T
  refine gq T 7 255 rfl (fun _ _ _ _ _ => (rn_move rfl (T.ev 10 rfl))) ?_; clear T ac; intro ac T
  refine gq T 8 511 rfl (fun _ _ _ _ _ => (rn_indexAddr (size := 4) i rfl (T.ev 1 rfl) (T.ev 0 rfl) ⟨_, Tryd.underlying24, by kernel_rfl⟩ rfl (by omega) (SB.at0 (by omega)))) ?_; clear T ac; intro ac T
  refine gq (v := (.agg #[.int .i64 q.l, .int .i64 q.w, .bool q.gr, .int .i64 q.pa])) T 9 1023 rfl (fun B w' hD hl hS => (rn_rowat (Sp.pcR SB (show Mem w noEx w' _ from hS) (List.nil_sublist _) hkq) rfl (T.ev 0 rfl) rfl)) ?_; clear T ac; intro ac T
  refine gq (v := (.bool ((decide (p.l = q.l)) && ((decide (p.w = q.w)) && ((decide (p.gr = q.gr)) && (decide (p.pa = q.pa))))))) T 10 2047 rfl (fun _ _ _ _ _ => (rn_bin rfl (T.ev 5 rfl) (T.ev 0 rfl) eqT63)) ?_; clear T ac; intro ac T
  refine g_q (v := (.bool ((decide (p.l = q.l)) && ((decide (p.w = q.w)) && ((decide (p.gr = q.gr)) && (decide (p.pa = q.pa))))))) (T := T.pick [0, 1, 2, 3, 4, 5, 6, 7, 8, 9, 10, 11, 12, 14, 15] rfl) (i := 11) rfl (by kernel_rfl) (by kernel_rfl : (pbits 12 2047).setIfInBounds 11 true = pbits 12 4095) si_U (fun _ _ _ h => h) rfl rfl rfl rfl (fun _ _ _ _ _ => (rn_assign rfl (T.ev 0 rfl))) ?_; clear T ac; intro ac T
  refine g_done (by kernel_rfl) ?_
  replace T := T.pick [0, 12, 13, 14] rfl
  refine nm_blk ?_
  refine nm_then ?_
  refine wp_region_lit ?_
  refine lq T (rn_move rfl (T.ev 3 rfl)) ?_; clear T ac; intro ac T
  refine lq T (rn_add rfl (T.ev 0 rfl) evc (by omega)) ?_; clear T ac; intro ac T
  refine l_q (v := (.int .i64 ((i : Int) + 1))) (T.pick [0, 1, 2, 3, 4] rfl) rfl rfl rfl rfl (rn_assign rfl (T.ev 0 rfl)) ?_; clear T ac; intro ac T
  refine wpList_nil ?_
  replace T := T.pick [0, 3, 4, 5] rfl
  refine nm_then ?_
  exact ⟨_, by omega, i + 1, ((decide (p.l = q.l)) && ((decide (p.w = q.w)) && ((decide (p.gr = q.gr)) && (decide (p.pa = q.pa))))), rfl, (by omega), (by rw [take_same hkp hkq]; cases p; cases q; simp [heF, htk]), T.pick [2, 3, 1, 0] rfl, M.mask [true, true] rfl⟩
 intro h6
 (try have h6' := h6; try simp only [Bool.and_eq_true, Bool.or_eq_true, Bool.not_eq_true', Bool.and_eq_false_imp, Bool.or_eq_false_iff, decide_eq_true_eq, decide_eq_false_iff_not] at h6')
 refine wp_exit ?_
 refine ex_then ?_
 refine ex_then ?_
 refine ex_hit ?_
 refine nm_then ?_
 refine wp_seq ?_
 refine wp_region_lit ?_
 refine lq T (rn_move rfl (T.ev 2 rfl)) ?_; clear T ac; intro ac T
 refine lq T (rn_assign rfl (T.ev 0 rfl)) ?_; clear T ac; intro ac T
 refine wpList_nil ?_
 replace T := T.pick [0] rfl
 replace M := M.mask [false, false] rfl
 refine nm_then ?_
 refine wp_ret ?_
 refine rt_1 T rfl (T.ev 0 rfl) ?_
 have e9 : sm = decide (s = t) := by
   rw [Bool.eq_iff_iff, decide_eq_true_eq]
   constructor
   · intro hsm
     obtain ⟨⟨k1, k2, ⟨k3, k4⟩, ⟨k5, k6⟩, k7⟩, k8⟩ := hs.1 hsm
     have hi9 : ¬ i < s.ps.length := by simpa [hsm] using h6
     rw [List.take_of_length_le (by omega), List.take_of_length_le (by omega)] at k8
     cases s; cases t; simp_all
   · rintro rfl
     exact hs.2 ⟨⟨rfl, rfl, ⟨rfl, rfl⟩, ⟨rfl, rfl⟩, rfl⟩, rfl⟩
 rw [e9]
 exact ⟨rfl, M.below⟩
def szE (s : Sk) (k : Int) (t : Bool) : Int := if skErr s ≠ 0 then skErr s else if ¬ (0 ≤ k ∧ k ≤ (s.ps.length : Int) - 1) then 3 else if (t && (s.ps.getD k.toNat default).gr) = true then 8 else 0
def szL (s : Sk) (k : Int) (t su : Bool) : Int := if szE s k t ≠ 0 then 0 else sizeL (cutA s su) (cutC s su) (s.ps.getD k.toNat default) t
def szW (s : Sk) (k : Int) (t su : Bool) : Int := if szE s k t ≠ 0 then 0 else sizeW (cutA s su) (cutC s su) (s.ps.getD k.toNat default) t
theorem Size_any (s : Sk) (A : Option Addr) (d : Nat) (k : Int) (t su : Bool)  (w : World) (hA : Rd w w.heap.size 4 A s.ps.length (pc s.ps)) (nA : s.ps.length ≤ 1000000)  :
   Calls Tryd.prog 56 #[.agg #[.int .i64 s.lo, .int .i64 s.wi, .int .i64 s.a0, .int .i64 s.a1, .int .i64 s.c0, .int .i64 s.c1, .slice A s.ps.length d], .int .i64 k, .bool t, .bool su] w fun e w' => e = .returned (.tuple #[.int .i64 (szL s k t su), .int .i64 (szW s k t su), .int .i64 (szE s k t)]) ∧ Below w.heap.size w w' := by
 obtain ⟨bA, oA, SA⟩ := Sp.old hA
 refine px_enter noEx Tryd.func56 rfl 48 rfl [.agg #[.int .i64 s.lo, .int .i64 s.wi, .int .i64 s.a0, .int .i64 s.a1, .int .i64 s.c0, .int .i64 s.c1, .slice A s.ps.length d], .int .i64 k, .bool t, .bool su] rfl rfl (Mem.init w _) ?_
 intro ac wc T M
 refine wp_seq ?_
 refine wp_region_lit ?_
 refine l_w rfl ?_; intro K hK
 refine ow_bx M T rfl rfl rfl rfl (T.ev 0 rfl) rfl ?_; clear M T; intro g1 wc ac M T
 refine sh_out hK _ _ ?_; clear hK K
 refine lq T (rn_assign rfl evc) ?_; clear T ac; intro ac T
 refine lq T (rn_assign rfl evc) ?_; clear T ac; intro ac T
 refine lq T (rn_assign rfl evc) ?_; clear T ac; intro ac T
 refine wpList_nil ?_
 replace T := T.pick [3, 5, 6, 7] rfl
 refine nm_then ?_
 refine wp_seq ?_
 refine wp_seq ?_
 refine wp_region_lit ?_
 refine lq T (rn_rowO (Mem.nth M 0 rfl) rfl (T.ev 0 rfl) rfl) ?_; clear T ac; intro ac T
 refine l_w rfl ?_; intro K hK
 refine ow_call (first := []) (cap := []) T rfl rfl rfl rfl evf (.cons (T.ev 0 rfl) .nil) Tryd.func60 rfl rfl ?_
 refine Calls.mono (skCheck_any s A d _ (SA.rd M (List.nil_sublist _)) (by omega)) ?_
 clear T
 rintro e wc ⟨rfl, hb⟩
 intro ac T
 replace M := M.call hb; clear hb
 refine sh_out hK _ _ ?_; clear hK K
 refine lq T (rn_assign rfl (T.ev 0 rfl)) ?_; clear T ac; intro ac T
 refine wpList_nil ?_
 replace T := T.pick [0, 3, 4, 5, 6] rfl
 refine nm_then ?_
 refine wp_seq ?_
 refine wp_region_lit ?_
 refine lq T (rn_move rfl (T.ev 0 rfl)) ?_; clear T ac; intro ac T
 refine lq T (rn_neq rfl (T.ev 0 rfl) evc) ?_; clear T ac; intro ac T
 refine wpList_nil ?_
 replace T := T.pick [0, 2, 3, 4, 5, 6] rfl
 refine nm_then ?_
 refine wp_ifn (T.ev 0 rfl) ?_ ?_
 ·intro h1
  refine wp_seq ?_
  refine wp_region_lit ?_
  refine lq T (rn_move rfl (T.ev 1 rfl)) ?_; clear T ac; intro ac T
  refine lq T (rn_assign rfl evc) ?_; clear T ac; intro ac T
  refine lq T (rn_assign rfl evc) ?_; clear T ac; intro ac T
  refine lq T (rn_assign rfl (T.ev 2 rfl)) ?_; clear T ac; intro ac T
  refine wpList_nil ?_
  replace T := T.pick [0, 1, 2] rfl
  replace M := M.mask [false] rfl
  refine nm_then ?_
  refine wp_ret ?_
  refine rt_then ?_
  refine rt_3 T rfl (T.ev 2 rfl) (T.ev 1 rfl) (T.ev 0 rfl) ?_
  have e9 : szE s k t = skErr s := if_pos (by omega)
  have e8 : szL s k t su = 0 := if_pos (by omega)
  have e7 : szW s k t su = 0 := if_pos (by omega)
  rw [e9, e8, e7]
  exact ⟨rfl, M.below⟩
 intro h1
 have hsg := skErr_iff.1 (show skErr s = 0 by omega)
 obtain ⟨hb1, hb2, -, -, -, -⟩ := hsg
 have hsg := skErr_iff.1 (show skErr s = 0 by omega)
 refine wp_skip ?_
 refine nm_then ?_
 refine wp_seq ?_
 refine wp_seq ?_
 refine wp_region_lit ?_
 refine lq T (rn_move rfl (T.ev 3 rfl)) ?_; clear T ac; intro ac T
 refine lq (v := (.pointer (some ⟨g1, 6, none⟩))) T (rn_fieldAddr (off := 6) rfl (T.ev 3 rfl) (fun _ _ _ => by kernel_rfl)) ?_; clear T ac; intro ac T
 refine lq T (rn_one (Mem.nth M 0 rfl) rfl (T.ev 0 rfl) rfl) ?_; clear T ac; intro ac T
 refine lq T (rn_lenS rfl Tryd.underlying24 (T.ev 0 rfl)) ?_; clear T ac; intro ac T
 refine lq T (rn_sub rfl (T.ev 0 rfl) evc (by omega)) ?_; clear T ac; intro ac T
 refine l_w rfl ?_; intro K hK
 refine ow_call (first := []) (cap := []) T rfl rfl rfl rfl evf (.cons (T.ev 4 rfl) (.cons evc (.cons (T.ev 0 rfl) .nil))) Tryd.func72 rfl rfl ?_
 refine Calls.mono (sin_any k 0 (((s.ps.length : Nat) : Int) - 1) _) ?_
 clear T
 rintro e wc ⟨rfl, hb⟩
 intro ac T
 replace M := M.call hb; clear hb
 refine sh_out hK _ _ ?_; clear hK K
 refine lq T (rn_not rfl (T.ev 0 rfl)) ?_; clear T ac; intro ac T
 refine wpList_nil ?_
 replace T := T.pick [0, 9, 10, 11, 12] rfl
 refine nm_then ?_
 refine wp_cond_split (T.ev 0 rfl) ?_ ?_
 ·intro h2
  (try have h2' := h2; try simp only [Bool.and_eq_true, Bool.or_eq_true, Bool.not_eq_true', Bool.and_eq_false_imp, Bool.or_eq_false_iff, decide_eq_true_eq, decide_eq_false_iff_not] at h2')
  have hk9 : ¬ (0 ≤ k ∧ k ≤ (s.ps.length : Int) - 1) := by simp [withinB] at h2; omega
  refine wp_seq ?_
  refine wp_region_lit ?_
  refine lq T (rn_assign rfl evc) ?_; clear T ac; intro ac T
  refine lq T (rn_assign rfl evc) ?_; clear T ac; intro ac T
  refine lq T (rn_assign rfl evc) ?_; clear T ac; intro ac T
  refine wpList_nil ?_
  replace T := T.pick [0, 1, 2] rfl
  replace M := M.mask [false] rfl
  refine nm_then ?_
  refine wp_ret ?_
  refine rt_then ?_
  refine rt_3 T rfl (T.ev 2 rfl) (T.ev 1 rfl) (T.ev 0 rfl) ?_
  have e9 : szE s k t = 3 := (if_neg (by omega)).trans (if_pos hk9)
  have e8 : szL s k t su = 0 := if_pos (by omega)
  have e7 : szW s k t su = 0 := if_pos (by omega)
  rw [e9, e8, e7]
  exact ⟨rfl, M.below⟩
 intro h2
 (try have h2' := h2; try simp only [Bool.and_eq_true, Bool.or_eq_true, Bool.not_eq_true', Bool.and_eq_false_imp, Bool.or_eq_false_iff, decide_eq_true_eq, decide_eq_false_iff_not] at h2')
 have hk9 : ¬ ¬ (0 ≤ k ∧ k ≤ (s.ps.length : Int) - 1) := by simp [withinB] at h2; omega
 obtain ⟨k9, hk8⟩ : ∃ q : Nat, k = (q : Int) := ⟨k.toNat, by omega⟩
 obtain ⟨p, hkp, -⟩ := pc_next (l := s.ps) (k := k9) (by omega)
 have hpe : s.ps.getD k.toNat default = p := by rw [List.getD_eq_getElem?_getD, show k.toNat = k9 by omega, hkp]; rfl
 have hpg := hsg.ps p (List.mem_of_getElem? hkp)
 refine wp_skip ?_
 refine nm_then ?_
 refine wp_seq ?_
 refine cut_seq (fun ac wc => Tm ac 48 [(1, .int .i64 k), (2, .bool t), (3, .bool su), (4, .pointer (some ⟨g1, 0, none⟩)), (32, .bool (t && p.gr))] ∧ Mem w noEx wc [(g1, .cells [.int .i64 s.lo, .int .i64 s.wi, .int .i64 s.a0, .int .i64 s.a1, .int .i64 s.c0, .int .i64 s.c1, .slice A s.ps.length d])]) ?_ ?_
 ·refine wp_region_lit ?_
  refine lq T (rn_move rfl (T.ev 3 rfl)) ?_; clear T ac; intro ac T
  refine lq T (rn_move rfl (T.ev 0 rfl)) ?_; clear T ac; intro ac T
  rcases Bool.eq_false_or_eq_true t with h3 | h3
  ·refine lw (v := (.pointer (some ⟨g1, 6, none⟩))) T (wanted_yes rfl rfl (T.ev 0 rfl) h3) (rn_fieldAddr (off := 6) rfl (T.ev 3 rfl) (fun _ _ _ => by kernel_rfl)) ?_; clear T ac; intro ac T
   refine lw T (wanted_yes rfl rfl (T.ev 1 rfl) h3) (rn_one (Mem.nth M 0 rfl) rfl (T.ev 0 rfl) rfl) ?_; clear T ac; intro ac T
   refine lw T (wanted_yes rfl rfl (T.ev 2 rfl) h3) (rn_move rfl (T.ev 6 rfl)) ?_; clear T ac; intro ac T
   refine lw T (wanted_yes rfl rfl (T.ev 3 rfl) h3) (rn_indexAddr (size := 4) k9 rfl (T.ev 1 rfl) (T.ev 0 rfl) ⟨_, Tryd.underlying24, by kernel_rfl⟩ hk8 (by omega) (SA.at0 (by omega))) ?_; clear T ac; intro ac T
   refine lw T (wanted_yes rfl rfl (T.ev 4 rfl) h3) (rn_fieldAddr (off := 2) rfl (T.ev 0 rfl) (fun _ _ _ => by kernel_rfl)) ?_; clear T ac; intro ac T
   refine lw T (wanted_yes rfl rfl (T.ev 5 rfl) h3) (rn_cell (Sp.pcC2 SA M (List.nil_sublist _) hkp) rfl (T.ev 0 rfl)) ?_; clear T ac; intro ac T
   refine lq T (rn_pick1 rfl (T.ev 6 rfl) h3 (T.ev 0 rfl)) ?_; clear T ac; intro ac T
   refine wpList_nil ?_
   replace T := T.pick [0, 10, 11, 12, 13] rfl
   exact ⟨(T.pick (E' := [(1, .int .i64 k), (2, .bool t), (3, .bool su), (4, .pointer (some ⟨g1, 0, none⟩)), (32, .bool p.gr)]) [2, 3, 4, 1, 0] rfl).as (by (try rw [show t = true from h3]); (try rfl)), M.mask [true] rfl⟩
  refine lp T (wanted_no rfl rfl (T.ev 0 rfl) h3) ?_; clear T ac; intro ac T
  refine lp T (wanted_no rfl rfl (T.ev 1 rfl) h3) ?_; clear T ac; intro ac T
  refine lp T (wanted_no rfl rfl (T.ev 2 rfl) h3) ?_; clear T ac; intro ac T
  refine lp T (wanted_no rfl rfl (T.ev 3 rfl) h3) ?_; clear T ac; intro ac T
  refine lp T (wanted_no rfl rfl (T.ev 4 rfl) h3) ?_; clear T ac; intro ac T
  refine lp T (wanted_no rfl rfl (T.ev 5 rfl) h3) ?_; clear T ac; intro ac T
  refine lq T (rn_pick0 rfl (T.ev 6 rfl) h3 evc) ?_; clear T ac; intro ac T
  refine wpList_nil ?_
  replace T := T.pick [0, 10, 11, 12, 13] rfl
  exact ⟨(T.pick (E' := [(1, .int .i64 k), (2, .bool t), (3, .bool su), (4, .pointer (some ⟨g1, 0, none⟩)), (32, .bool false)]) [2, 3, 4, 1, 0] rfl).as (by (try rw [show t = false from h3]); (try rfl)), M.mask [true] rfl⟩
 clear T M
 rintro ac wc ⟨T, M⟩
 refine wp_cond_split (T.ev 4 rfl) ?_ ?_
 ·intro h4
  (try have h4' := h4; try simp only [Bool.and_eq_true, Bool.or_eq_true, Bool.not_eq_true', Bool.and_eq_false_imp, Bool.or_eq_false_iff, decide_eq_true_eq, decide_eq_false_iff_not] at h4')
  refine wp_seq ?_
  refine wp_region_lit ?_
  refine lq T (rn_assign rfl evc) ?_; clear T ac; intro ac T
  refine lq T (rn_assign rfl evc) ?_; clear T ac; intro ac T
  refine lq T (rn_assign rfl evc) ?_; clear T ac; intro ac T
  refine wpList_nil ?_
  replace T := T.pick [0, 1, 2] rfl
  replace M := M.mask [false] rfl
  refine nm_then ?_
  refine wp_ret ?_
  refine rt_then ?_
  refine rt_3 T rfl (T.ev 2 rfl) (T.ev 1 rfl) (T.ev 0 rfl) ?_
  have e9 : szE s k t = 8 := (if_neg (by omega)).trans ((if_neg hk9).trans (if_pos (by rw [hpe]; simp_all)))
  have e8 : szL s k t su = 0 := if_pos (by omega)
  have e7 : szW s k t su = 0 := if_pos (by omega)
  rw [e9, e8, e7]
  exact ⟨rfl, M.below⟩
 intro h4
 (try have h4' := h4; try simp only [Bool.and_eq_true, Bool.or_eq_true, Bool.not_eq_true', Bool.and_eq_false_imp, Bool.or_eq_false_iff, decide_eq_true_eq, decide_eq_false_iff_not] at h4')
 refine wp_skip ?_
 refine nm_then ?_
 refine wp_seq ?_
 refine g_start2 M (M.mask [true] rfl) 15 (by kernel_rfl) rfl (by kernel_rfl) ?_
 clear M; intro wc M
 refine gq T 0 1 rfl (fun B w' hD hl hS => (rn_rowO (Mem.nth (show Mem w noEx w' _ from hS) 0 rfl) rfl (T.ev 3 rfl) rfl)) ?_; clear T ac; intro ac T
 refine gq T 1 3 rfl (fun _ _ _ _ _ => (rn_move rfl (T.ev 3 rfl))) ?_; clear T ac; intro ac T
 refine gq (v := (.pointer (some ⟨g1, 6, none⟩))) T 3 11 rfl (fun _ _ _ _ _ => (rn_fieldAddr (off := 6) rfl (T.ev 5 rfl) (fun _ _ _ => by kernel_rfl))) ?_; clear T ac; intro ac T
 refine gq T 4 27 rfl (fun B w' hD hl hS => (rn_one (Mem.nth (show Mem w noEx w' _ from hS) 0 rfl) rfl (T.ev 0 rfl) rfl)) ?_; clear T ac; intro ac T
 refine gq T 5 59 rfl (fun _ _ _ _ _ => (rn_move rfl (T.ev 4 rfl))) ?_; clear T ac; intro ac T
 refine gq T 6 123 rfl (fun _ _ _ _ _ => (rn_indexAddr (size := 4) k9 rfl (T.ev 1 rfl) (T.ev 0 rfl) ⟨_, Tryd.underlying24, by kernel_rfl⟩ hk8 (by omega) (SA.at0 (by omega)))) ?_; clear T ac; intro ac T
 refine gq (v := (.agg #[.int .i64 p.l, .int .i64 p.w, .bool p.gr, .int .i64 p.pa])) T 7 251 rfl (fun B w' hD hl hS => (rn_rowat (Sp.pcR SA (show Mem w noEx w' _ from hS) (List.nil_sublist _) hkp) rfl (T.ev 0 rfl) rfl)) ?_; clear T ac; intro ac T
 refine gq T 8 507 rfl (fun _ _ _ _ _ => (rn_move rfl (T.ev 8 rfl))) ?_; clear T ac; intro ac T
 refine gw 2 511 ?_; intro K hK
 refine ow_call (first := []) (cap := []) T rfl rfl rfl rfl evf (.cons (T.ev 7 rfl) (.cons (T.ev 6 rfl) .nil)) Tryd.func70 rfl rfl ?_
 refine Calls.mono (cut_any s A d su _) ?_
 clear T
 rintro e wc ⟨gau3, gcu3, rfl, N⟩
 intro ac T
 obtain ⟨a, hae⟩ : ∃ q, q = cutA s su := ⟨_, rfl⟩
 obtain ⟨c, hce⟩ : ∃ q, q = cutC s su := ⟨_, rfl⟩
 rw [← hae, ← hce] at N
 obtain ⟨ha, hc⟩ := cut_bd hsg su
 rw [← hae] at ha
 rw [← hce] at hc
 replace M := M.join N; clear N
 replace M := M.mask [true, true, true] rfl
 refine sh_out hK _ _ (M.mask [false, false, true] rfl) ?_; clear hK K
 refine gw 9 1023 ?_; intro K hK
 refine ow_call (first := []) (cap := []) T rfl rfl rfl rfl evf (.cons (T.ev 0 rfl) (.cons (T.ev 2 rfl) (.cons (T.ev 1 rfl) .nil))) Tryd.func71 rfl rfl ?_
 refine Calls.mono (size_any s A d a c gau3 gcu3 p t _ (by omega) (by omega) hpg (M.nth 0 rfl) (M.nth 1 rfl)) ?_
 clear T
 rintro e wc ⟨rfl, hb⟩
 intro ac T
 replace M := M.call hb; clear hb
 refine sh_out hK _ _ (M.mask [false, false, true] rfl) ?_; clear hK K
 refine gq T 10 2047 rfl (fun _ _ _ _ _ => (rn_move rfl (T.ev 0 rfl))) ?_; clear T ac; intro ac T
 refine gq T 11 4095 rfl (fun _ _ _ _ _ => (rn_extract rfl (T.ev 0 rfl) rfl)) ?_; clear T ac; intro ac T
 refine gq T 12 8191 rfl (fun _ _ _ _ _ => (rn_extract rfl (T.ev 1 rfl) rfl)) ?_; clear T ac; intro ac T
 refine gq T 13 16383 rfl (fun _ _ _ _ _ => (rn_assign rfl (T.ev 1 rfl))) ?_; clear T ac; intro ac T
 refine gq T 14 32767 rfl (fun _ _ _ _ _ => (rn_assign rfl (T.ev 1 rfl))) ?_; clear T ac; intro ac T
 refine g_done (by kernel_rfl) ?_
 replace T := T.pick [0, 1] rfl
 replace M := M.mask [false, false, false] rfl
 refine nm_then ?_
 refine wp_seq ?_
 refine wp_region_lit ?_
 refine lq T (rn_move rfl (T.ev 1 rfl)) ?_; clear T ac; intro ac T
 refine lq T (rn_move rfl (T.ev 1 rfl)) ?_; clear T ac; intro ac T
 refine l_q (v := (.int .i64 (sizeL a c p t))) (T.pick [0, 1, 2] rfl) rfl rfl rfl rfl (rn_assign rfl (T.ev 1 rfl)) ?_; clear T ac; intro ac T
 refine l_q (v := (.int .i64 (sizeW a c p t))) (T.pick [0, 1, 2] rfl) rfl rfl rfl rfl (rn_assign rfl (T.ev 1 rfl)) ?_; clear T ac; intro ac T
 refine lq T (rn_assign rfl evc) ?_; clear T ac; intro ac T
 refine wpList_nil ?_
 replace T := T.pick [0, 1, 2] rfl
 refine nm_then ?_
 refine wp_ret ?_
 refine rt_3 T rfl (T.ev 2 rfl) (T.ev 1 rfl) (T.ev 0 rfl) ?_
 have e9 : szE s k t = 0 := (if_neg (by omega)).trans ((if_neg hk9).trans (if_neg (by rw [hpe]; simp_all)))
 have e8 : szL s k t su = sizeL a c p t := by unfold szL; rw [if_neg (by omega), hpe, ← hae, ← hce]
 have e7 : szW s k t su = sizeW a c p t := by unfold szW; rw [if_neg (by omega), hpe, ← hae, ← hce]
 rw [e9, e8, e7]
 exact ⟨rfl, M.below⟩
end Go.Proofs.YtehpcclfgjccbaaDoor
end

section
/-
 sheet's law: blanks that cost a sheet.
-/
namespace Go.Proofs.YtehpcclfgjccbaaDoor
set_option linter.unusedSimpArgs false
set_option linter.unusedVariables false
open Go.RowKit
def SkPost (s : Sk) (w : World) (e : Ending) (w' : World) : Prop := ∃ A c I, e = .returned (.agg #[.int .i64 s.lo, .int .i64 s.wi, .int .i64 s.a0, .int .i64 s.a1, .int .i64 s.c0, .int .i64 s.c1, .slice A s.ps.length c]) ∧ s.ps.length ≤ c ∧ (∃ b o, ∀ (w : World) (ex : Nat → Prop), Sp w ex I A s.ps.length 4 b o (pc s.ps)) ∧ Mem w noEx w' I
end Go.Proofs.YtehpcclfgjccbaaDoor
end

section
/-
 sheet's law: areas, and scrap.
-/
namespace Go.Proofs.YtehpcclfgjccbaaDoor
set_option linter.unusedSimpArgs false
set_option linter.unusedVariables false
open Go.RowKit
theorem sz_law {s : Sk} (hg : s.good) {k : Nat} {p : Pt} (hk : s.ps[k]? = some p) (t su : Bool) : szE s (k : Int) t = (if (t && p.gr) = true then 8 else 0) ∧ ((t && p.gr) = false → szL s (k : Int) t su = sizeL (cutA s su) (cutC s su) p t ∧ szW s (k : Int) t su = sizeW (cutA s su) (cutC s su) p t) := by
 have hl := (List.getElem?_eq_some_iff.1 hk).1
 have hp : s.ps.getD ((k : Int)).toNat default = p := by rw [List.getD_eq_getElem?_getD, Int.toNat_natCast, hk]; rfl
 have hE : szE s (k : Int) t = (if (t && p.gr) = true then 8 else 0) := by
   unfold szE
   rw [if_neg (by rw [skErr_iff.2 hg]; decide), if_neg (by omega), hp]
 refine ⟨hE, fun h => ?_⟩
 have h0 : szE s (k : Int) t = 0 := by rw [hE, h]; rfl
 exact ⟨by unfold szL; rw [if_neg (by omega), hp], by unfold szW; rw [if_neg (by omega), hp]⟩
theorem mulB {x y a b c d : Int} (hx : -a ≤ x ∧ x ≤ a) (hy : 0 ≤ y ∧ y ≤ b) (hc : c = -(a * b)) (hd : d = a * b) (ha : 0 ≤ a) : c ≤ x * y ∧ x * y ≤ d := by
 have h1 : x * y ≤ a * y := Int.mul_le_mul_of_nonneg_right hx.2 hy.1
 have h2 : a * y ≤ a * b := Int.mul_le_mul_of_nonneg_left hy.2 ha
 have h3 : -a * y ≤ x * y := Int.mul_le_mul_of_nonneg_right hx.1 hy.1
 have h4 : -a * y = -(a * y) := Int.neg_mul _ _
 omega
theorem bnd_bd {s : Sk} (hg : s.good) (su : Bool) : 0 ≤ bndV s su ∧ bndV s su ≤ 60000 ∧ 0 ≤ areasS s su ∧ areasS s su ≤ 50000 := by
 obtain ⟨⟨l1, l2⟩, ⟨w1, w2⟩, -, -, h5, -⟩ := id hg
 obtain ⟨ba, bc⟩ := cut_bd hg su
 have hab := areasP_bd ba bc hg.ps
 have hm := mulS (x := s.lo) (y := s.wi) (by omega) (by omega)
 have hm1 : 1 ≤ s.lo * s.wi := by have := Int.mul_pos (show 0 < s.lo by omega) (show 0 < s.wi by omega); omega
 have ha : areasP (cutA s su) (cutC s su) s.ps = areasS s su := rfl
 rw [ha] at hab
 have := tdiv_small (x := areasS s su + s.lo * s.wi - 1) (y := s.lo * s.wi) (by omega) hm1
 unfold bndV
 rw [if_neg (by rw [skErr_iff.2 hg]; decide)]
 omega
theorem scr_bd {s : Sk} (hg : s.good) (su : Bool) : 0 ≤ scrV s su ∧ scrV s su ≤ 100000 := by
 obtain ⟨⟨l1, l2⟩, ⟨w1, w2⟩, -, -, h5, -⟩ := id hg
 rcases shE_cases hg su with h | h
 · obtain ⟨-, -, h3⟩ := bound_law hg su
   obtain ⟨-, k2, k3⟩ := h3 h
   obtain ⟨-, -, b3, -⟩ := bnd_bd hg su
   have hN := shN_le (s := s) (su := su)
   have p1 := mulB (x := (shN s su : Int)) (y := s.lo) (a := 5) (b := 12) (by omega) (by omega) rfl rfl (by omega)
   have p2 := mulB (x := (shN s su : Int) * s.lo) (y := s.wi) (a := 60) (b := 12) (by omega) (by omega) rfl rfl (by omega)
   omega
 · unfold scrV
   rw [if_pos (by omega)]
   omega
theorem area_step {s : Sk} {su : Bool} {p : Pt} {x : Int} {t : Bool} (hp : p.good) : areaP (cutA s su) (cutC s su) p = if p.gr = true then sizeL (cutA s su) (cutC s su) p false * sizeW (cutA s su) (cutC s su) p false else min (sizeL (cutA s su) (cutC s su) p false * sizeW (cutA s su) (cutC s su) p false) (sizeL (cutA s su) (cutC s su) p true * sizeW (cutA s su) (cutC s su) p true) := rfl
set_option maxHeartbeats 4000000 in
theorem SheetBound_any (D : Option Addr) (n d : Nat) (l : List Int) (w : World) (hl : Rd w w.heap.size 1 D n (ic l)) (hm : n ≤ 9223372036854775807) (hT : TabW w) :
   Calls Tryd.prog 15 #[.slice D n d] w fun e w' => e = .returned (.bool true) ∧ Below w.heap.size w w' := by
 have hll := hl.len1
 obtain ⟨bI, oI, SI⟩ := Sp.old hl
 refine px_enter noEx Tryd.func15 rfl 152 rfl [.slice D n d] rfl rfl (Mem.init w _) ?_
 intro ac wc T M
 refine wp_seq ?_
 refine wp_region_lit ?_
 refine lq T (rn_assign rfl evc) ?_; clear T ac; intro ac T
 refine wpList_nil ?_
 replace T := T.pick [1] rfl
 refine nm_then ?_
 refine wp_seq ?_
 refine wp_region_lit ?_
 refine lq T (rn_move rfl (T.ev 0 rfl)) ?_; clear T ac; intro ac T
 refine l_w rfl ?_; intro K hK
 refine ow_call (first := []) (cap := []) T rfl rfl rfl rfl evf (.cons (T.ev 0 rfl) .nil) Tryd.func18 rfl rfl ?_
 refine Calls.mono (newPot_any _ _ _ l _ (SI.rd M (List.nil_sublist _)) (by omega)) ?_
 clear T
 rintro e wc ⟨bpu1, su1, hsu1, rfl, N⟩
 intro ac T
 replace M := M.join N; clear N
 replace M := M.mask [true] rfl
 refine sh_out hK _ _ ?_; clear hK K
 refine lq T (rn_assign rfl (T.ev 0 rfl)) ?_; clear T ac; intro ac T
 refine wpList_nil ?_
 replace T := T.pick [0] rfl
 refine nm_then ?_
 refine wp_seq ?_
 refine wp_region_lit ?_
 refine lq T (rn_move rfl (T.ev 0 rfl)) ?_; clear T ac; intro ac T
 refine l_w rfl ?_; intro K hK
 refine ow_call (first := []) (cap := []) T rfl rfl rfl rfl evf (.cons (T.ev 0 rfl) (.cons evc (.cons evc .nil))) Tryd.func19 rfl rfl ?_
 refine Calls.mono (sheetOf_any _ bpu1 5 4 _ (by omega) (by omega) (M.nth 0 rfl) hsu1) ?_
 clear T
 rintro e wc ⟨s, AKu2, cKu2, sdu2, IKu2, rfl, hsgs, ⟨⟨hbls, hbws⟩, hbps⟩, hsu2, hcpKu2, SVKu2, N⟩
 intro ac T
 obtain ⟨bAKu2, oAKu2, SVKu2⟩ := SVKu2
 have SAKu2 := SVKu2 w noEx
 replace M := M.joinEI N .head
 clear N
 replace M : Mem w noEx wc ((bpu1, .cells [.int .u64 sdu2]) :: IKu2) := M
 have hlns := hsgs.len
 obtain ⟨hg1s, hg2s, hg3s, hg4s, -, -⟩ := id hsgs
 refine sh_out hK _ _ ?_; clear hK K
 refine l_w rfl ?_; intro K hK
 refine ow_al M T rfl rfl rfl rfl ?_; clear M T; intro g1 wc ac M T
 refine sh_out hK _ _ ?_; clear hK K
 refine l_w rfl ?_; intro K hK
 refine ow_stO M T rfl rfl (T.ev 0 rfl) (T.ev 1 rfl) rfl .head rfl (by simp) rfl (by kernel_rfl) ?_; clear M T; intro wc ac M T
 refine sh_out hK _ _ ?_; clear hK K
 refine wpList_nil ?_
 replace T := T.pick [0, 3] rfl
 refine nm_then ?_
 refine wp_seq ?_
 refine wp_region_lit ?_
 refine lq T (rn_move rfl (T.ev 1 rfl)) ?_; clear T ac; intro ac T
 refine l_w rfl ?_; intro K hK
 refine ow_call (first := []) (cap := []) T rfl rfl rfl rfl evf (.cons (T.ev 0 rfl) (.cons evc (.cons evc .nil))) Tryd.func23 rfl rfl ?_
 refine Calls.mono (odds_any _ bpu1 1 2 _ (by omega) (by omega) (M.nth 1 rfl) hsu2) ?_
 clear T
 rintro e wc ⟨bu3, su3, hsu3, rfl, hgr, hbk⟩
 intro ac T
 replace M := M.callC (cs' := [.int .u64 su3]) (.tail .head) hgr hbk
 clear hgr hbk
 refine sh_out hK _ _ ?_; clear hK K
 refine lq T (rn_assign rfl (T.ev 0 rfl)) ?_; clear T ac; intro ac T
 refine wpList_nil ?_
 replace T := T.pick [0, 3] rfl
 replace M := M.mask [true, false] rfl
 refine nm_then ?_
 refine wp_seq ?_
 refine wp_region_lit ?_
 refine lq T (rn_rowO (Mem.nth M 0 rfl) rfl (T.ev 1 rfl) rfl) ?_; clear T ac; intro ac T
 refine lq T (rn_move rfl (T.ev 1 rfl)) ?_; clear T ac; intro ac T
 refine l_w rfl ?_; intro K hK
 refine ow_call (first := []) (cap := []) T rfl rfl rfl rfl evf (.cons (T.ev 1 rfl) (.cons (T.ev 0 rfl) .nil)) Tryd.func52 rfl rfl ?_
 refine Calls.mono (Bound_any s AKu2 cKu2 bu3 _ (SAKu2.rd M (.cons _ (List.Sublist.refl _))) (by omega)) ?_
 clear T
 rintro e wc ⟨rfl, hb⟩
 intro ac T
 have hz2 := skErr_iff.2 hsgs
 rw [hz2] at T
 clear hz2
 obtain ⟨hv1, hv2, hv3, hv4⟩ := bnd_bd hsgs bu3
 obtain ⟨hw1, hw2, hw3⟩ := bound_law hsgs bu3
 replace M := M.call hb; clear hb
 refine sh_out hK _ _ ?_; clear hK K
 refine lq T (rn_move rfl (T.ev 0 rfl)) ?_; clear T ac; intro ac T
 refine lq T (rn_extract rfl (T.ev 0 rfl) rfl) ?_; clear T ac; intro ac T
 refine lq T (rn_extract rfl (T.ev 1 rfl) rfl) ?_; clear T ac; intro ac T
 refine lq T (rn_assign rfl (T.ev 1 rfl)) ?_; clear T ac; intro ac T
 refine lq T (rn_assign rfl (T.ev 1 rfl)) ?_; clear T ac; intro ac T
 refine wpList_nil ?_
 replace T := T.pick [0, 1, 8, 9] rfl
 refine nm_then ?_
 refine wp_seq ?_
 refine wp_region_lit ?_
 refine lq T (rn_rowO (Mem.nth M 0 rfl) rfl (T.ev 3 rfl) rfl) ?_; clear T ac; intro ac T
 refine lq T (rn_move rfl (T.ev 3 rfl)) ?_; clear T ac; intro ac T
 refine l_w rfl ?_; intro K hK
 refine ow_call (first := []) (cap := []) T rfl rfl rfl rfl evf (.cons (T.ev 1 rfl) (.cons (T.ev 0 rfl) .nil)) Tryd.func34 rfl rfl ?_
 refine Calls.mono (Sheets_any s AKu2 cKu2 bu3 _ (SAKu2.rd M (.cons _ (List.Sublist.refl _))) (by omega) (by omega) (hT.mem M (fun h => h))) ?_
 clear T
 rintro e wc ⟨ASu5, cSu5, ISu5, rfl, hcpSu5, SVSu5, N⟩
 intro ac T
 obtain ⟨bASu5, oASu5, SVSu5⟩ := SVSu5
 have SASu5 := SVSu5 w noEx
 replace M := (M.join N).swapI
 clear N
 replace M : Mem w noEx wc ((g1, .cells [.int .i64 s.lo, .int .i64 s.wi, .int .i64 s.a0, .int .i64 s.a1, .int .i64 s.c0, .int .i64 s.c1, .slice AKu2 s.ps.length cKu2]) :: (IKu2 ++ ISu5)) := M
 refine sh_out hK _ _ ?_; clear hK K
 refine lq T (rn_move rfl (T.ev 0 rfl)) ?_; clear T ac; intro ac T
 refine lq T (rn_extract rfl (T.ev 0 rfl) rfl) ?_; clear T ac; intro ac T
 refine lq T (rn_extract rfl (T.ev 1 rfl) rfl) ?_; clear T ac; intro ac T
 refine lq T (rn_extract rfl (T.ev 2 rfl) rfl) ?_; clear T ac; intro ac T
 refine lq T (rn_assign rfl (T.ev 2 rfl)) ?_; clear T ac; intro ac T
 refine lq T (rn_assign rfl (T.ev 2 rfl)) ?_; clear T ac; intro ac T
 refine lq T (rn_assign rfl (T.ev 2 rfl)) ?_; clear T ac; intro ac T
 refine wpList_nil ?_
 replace T := T.pick [0, 1, 10, 11, 12, 13] rfl
 refine nm_then ?_
 refine wp_seq ?_
 refine wp_region_lit ?_
 refine lq T (rn_rowO (Mem.nth M 0 rfl) rfl (T.ev 5 rfl) rfl) ?_; clear T ac; intro ac T
 refine lq T (rn_move rfl (T.ev 5 rfl)) ?_; clear T ac; intro ac T
 refine l_w rfl ?_; intro K hK
 refine ow_call (first := []) (cap := []) T rfl rfl rfl rfl evf (.cons (T.ev 1 rfl) (.cons (T.ev 0 rfl) .nil)) Tryd.func50 rfl rfl ?_
 refine Calls.mono (Scrap_any s AKu2 cKu2 bu3 _ (SAKu2.rd M (.cons _ (subL (List.Sublist.refl _)))) (by omega) (by omega) (hT.mem M (fun h => h))) ?_
 clear T
 rintro e wc ⟨rfl, hb⟩
 intro ac T
 replace M := M.call hb; clear hb
 refine sh_out hK _ _ ?_; clear hK K
 refine lq T (rn_move rfl (T.ev 0 rfl)) ?_; clear T ac; intro ac T
 refine lq T (rn_extract rfl (T.ev 0 rfl) rfl) ?_; clear T ac; intro ac T
 refine lq T (rn_extract rfl (T.ev 1 rfl) rfl) ?_; clear T ac; intro ac T
 refine lq T (rn_assign rfl (T.ev 1 rfl)) ?_; clear T ac; intro ac T
 refine lq T (rn_assign rfl (T.ev 1 rfl)) ?_; clear T ac; intro ac T
 refine wpList_nil ?_
 replace T := T.pick [0, 1, 8, 9, 10, 11, 12, 13] rfl
 refine nm_then ?_
 refine wp_seq ?_
 refine wp_region_lit ?_
 refine lq T (rn_assign rfl evc) ?_; clear T ac; intro ac T
 refine wpList_nil ?_
 refine nm_then ?_
 refine wp_seq ?_
 refine wp_seq ?_
 refine wp_region_lit ?_
 refine lq T (rn_assign rfl evc) ?_; clear T ac; intro ac T
 refine wpList_nil ?_
 refine nm_then ?_
 refine wp_block ?_
 refine wp_loop_n (fun mz ac wc => ∃ (i : Nat) (ar : Int), mz = s.ps.length - i ∧ (i ≤ s.ps.length) ∧ (areasS s bu3 = ar + areasP (cutA s bu3) (cutC s bu3) (s.ps.drop i)) ∧ (0 ≤ ar ∧ ar ≤ 10000 * (i : Int)) ∧ Tm ac 152 [(4, .pointer (some ⟨g1, 0, none⟩)), (5, .bool bu3), (6, .int .i64 (bndV s bu3)), (7, .int .i64 0), (9, .int .i64 (shN s bu3 : Int)), (10, .int .i64 (shE s bu3)), (11, .int .i64 (scrV s bu3)), (12, .int .i64 (shE s bu3)), (13, .int .i64 ar), (14, .int .i64 (i : Int))] ∧ Mem w noEx wc ((g1, .cells [.int .i64 s.lo, .int .i64 s.wi, .int .i64 s.a0, .int .i64 s.a1, .int .i64 s.c0, .int .i64 s.c1, .slice AKu2 s.ps.length cKu2]) :: (IKu2 ++ ISu5))) ?_ ?_
 ·exact ⟨_, 0, 0, rfl, (Nat.zero_le _), (by rw [List.drop_zero]; unfold areasS; omega), (by omega), T.pick [9, 8, 7, 6, 5, 4, 3, 2, 1, 0] rfl, M.mask [true] rfl⟩
 clear T M
 rintro mz ac wc ⟨i, ar, hmm1, hi, H, hr, T, M⟩
 refine wp_seq ?_
 refine wp_seq ?_
 refine wp_region_lit ?_
 refine lq T (rn_move rfl (T.ev 9 rfl)) ?_; clear T ac; intro ac T
 refine lq (v := (.pointer (some ⟨g1, 6, none⟩))) T (rn_fieldAddr (off := 6) rfl (T.ev 1 rfl) (fun _ _ _ => by kernel_rfl)) ?_; clear T ac; intro ac T
 refine lq T (rn_one (Mem.nth M 0 rfl) rfl (T.ev 0 rfl) rfl) ?_; clear T ac; intro ac T
 refine lq T (rn_lenS rfl Tryd.underlying24 (T.ev 0 rfl)) ?_; clear T ac; intro ac T
 refine lq T (rn_lss rfl (T.ev 3 rfl) (T.ev 0 rfl)) ?_; clear T ac; intro ac T
 refine wpList_nil ?_
 replace T := T.pick [0, 5, 6, 7, 8, 9, 10, 11, 12, 13, 14] rfl
 refine nm_then ?_
 refine wp_if (T.ev 0 rfl) ?_ ?_
 ·intro h1
  obtain ⟨p, hkp, -⟩ := pc_next (l := s.ps) (k := i) (by omega)
  have hpg := hsgs.ps p (List.mem_of_getElem? hkp)
  obtain ⟨pg1, pg2, pg3⟩ := id hpg
  obtain ⟨⟨ha1, ha2⟩, hc1, hc2⟩ := cut_bd hsgs bu3
  have hz0 : 0 ≤ sizeL (cutA s bu3) (cutC s bu3) p false ∧ sizeL (cutA s bu3) (cutC s bu3) p false ≤ 100 := by simp only [sizeL]; split <;> omega
  have hz1 : 0 ≤ sizeW (cutA s bu3) (cutC s bu3) p false ∧ sizeW (cutA s bu3) (cutC s bu3) p false ≤ 100 := by simp only [sizeW]; split <;> omega
  have hz2 : 0 ≤ sizeL (cutA s bu3) (cutC s bu3) p true ∧ sizeL (cutA s bu3) (cutC s bu3) p true ≤ 100 := by simp only [sizeL]; split <;> omega
  have hz3 : 0 ≤ sizeW (cutA s bu3) (cutC s bu3) p true ∧ sizeW (cutA s bu3) (cutC s bu3) p true ≤ 100 := by simp only [sizeW]; split <;> omega
  have hm1 := mulS hz0 hz1
  have hm2 := mulS hz2 hz3
  have har := area_step (s := s) (su := bu3) (x := 0) (t := true) hpg
  rw [areasP_drop hkp] at H
  refine wp_skip ?_
  refine nm_then ?_
  refine wp_seq ?_
  refine wp_block ?_
  refine wp_seq ?_
  refine wp_region_lit ?_
  refine lq T (rn_rowO (Mem.nth M 0 rfl) rfl (T.ev 1 rfl) rfl) ?_; clear T ac; intro ac T
  refine lq T (rn_move rfl (T.ev 11 rfl)) ?_; clear T ac; intro ac T
  refine lq T (rn_move rfl (T.ev 4 rfl)) ?_; clear T ac; intro ac T
  refine l_w rfl ?_; intro K hK
  refine ow_call (first := []) (cap := []) T rfl rfl rfl rfl evf (.cons (T.ev 2 rfl) (.cons (T.ev 1 rfl) (.cons evc (.cons (T.ev 0 rfl) .nil)))) Tryd.func56 rfl rfl ?_
  refine Calls.mono (Size_any s AKu2 cKu2 (i : Int) false bu3 _ (SAKu2.rd M (.cons _ (subL (List.Sublist.refl _)))) (by omega)) ?_
  clear T
  rintro e wc ⟨rfl, hb⟩
  intro ac T
  obtain ⟨z1, z2⟩ := sz_law hsgs hkp false bu3
  obtain ⟨z2, z3⟩ := z2 rfl
  rw [z2, z3, show szE s (i : Int) false = 0 from z1] at T
  clear z1 z2 z3
  replace M := M.call hb; clear hb
  refine sh_out hK _ _ ?_; clear hK K
  refine lq T (rn_move rfl (T.ev 0 rfl)) ?_; clear T ac; intro ac T
  refine lq T (rn_extract rfl (T.ev 0 rfl) rfl) ?_; clear T ac; intro ac T
  refine lq T (rn_extract rfl (T.ev 1 rfl) rfl) ?_; clear T ac; intro ac T
  refine lq T (rn_extract rfl (T.ev 2 rfl) rfl) ?_; clear T ac; intro ac T
  refine lq T (rn_assign rfl (T.ev 2 rfl)) ?_; clear T ac; intro ac T
  refine lq T (rn_assign rfl (T.ev 2 rfl)) ?_; clear T ac; intro ac T
  refine lq T (rn_assign rfl (T.ev 2 rfl)) ?_; clear T ac; intro ac T
  refine wpList_nil ?_
  replace T := T.pick [0, 1, 2, 12, 13, 14, 15, 16, 17, 18, 19, 20, 21] rfl
  refine nm_then ?_
  refine wp_seq ?_
  refine wp_seq ?_
  refine wp_region_lit ?_
  refine lq T (rn_move rfl (T.ev 0 rfl)) ?_; clear T ac; intro ac T
  refine lq (v := (.bool false)) T (rn_neqof (rn_neq rfl (T.ev 0 rfl) evc) (by simp)) ?_; clear T ac; intro ac T
  refine wpList_nil ?_
  replace T := T.pick [0, 3, 4, 5, 6, 7, 8, 9, 10, 11, 12, 13, 14] rfl
  refine nm_then ?_
  refine wp_cond_false (T.ev 0 rfl) ?_
  refine wp_skip ?_
  refine nm_then ?_
  refine wp_seq ?_
  refine wp_region_lit ?_
  refine lq T (rn_move rfl (T.ev 2 rfl)) ?_; clear T ac; intro ac T
  refine lq T (rn_move rfl (T.ev 2 rfl)) ?_; clear T ac; intro ac T
  refine lq T (rn_mul rfl (T.ev 1 rfl) (T.ev 0 rfl) (by omega)) ?_; clear T ac; intro ac T
  refine lq T (rn_assign rfl (T.ev 0 rfl)) ?_; clear T ac; intro ac T
  refine wpList_nil ?_
  replace T := T.pick [0, 7, 8, 9, 10, 11, 12, 13, 14, 15, 16] rfl
  refine nm_then ?_
  refine wp_seq ?_
  refine wp_seq ?_
  refine wp_region_lit ?_
  refine lq T (rn_rowO (Mem.nth M 0 rfl) rfl (T.ev 1 rfl) rfl) ?_; clear T ac; intro ac T
  refine lq T (rn_move rfl (T.ev 11 rfl)) ?_; clear T ac; intro ac T
  refine lq T (rn_move rfl (T.ev 4 rfl)) ?_; clear T ac; intro ac T
  refine l_w rfl ?_; intro K hK
  refine ow_call (first := []) (cap := []) T rfl rfl rfl rfl evf (.cons (T.ev 2 rfl) (.cons (T.ev 1 rfl) (.cons evc (.cons (T.ev 0 rfl) .nil)))) Tryd.func56 rfl rfl ?_
  refine Calls.mono (Size_any s AKu2 cKu2 (i : Int) true bu3 _ (SAKu2.rd M (.cons _ (subL (List.Sublist.refl _)))) (by omega)) ?_
  clear T
  rintro e wc ⟨rfl, hb⟩
  intro ac T
  obtain ⟨z1, z2⟩ := sz_law hsgs hkp true bu3
  replace M := M.call hb; clear hb
  refine sh_out hK _ _ ?_; clear hK K
  refine lq T (rn_move rfl (T.ev 0 rfl)) ?_; clear T ac; intro ac T
  refine lq T (rn_extract rfl (T.ev 0 rfl) rfl) ?_; clear T ac; intro ac T
  refine lq T (rn_extract rfl (T.ev 1 rfl) rfl) ?_; clear T ac; intro ac T
  refine lq T (rn_extract rfl (T.ev 2 rfl) rfl) ?_; clear T ac; intro ac T
  refine lq T (rn_assign rfl (T.ev 2 rfl)) ?_; clear T ac; intro ac T
  refine lq T (rn_assign rfl (T.ev 2 rfl)) ?_; clear T ac; intro ac T
  refine lq T (rn_assign rfl (T.ev 2 rfl)) ?_; clear T ac; intro ac T
  refine wpList_nil ?_
  replace T := T.pick [0, 1, 2, 11, 12, 13, 14, 15, 16, 17, 18, 19, 20, 21] rfl
  refine nm_then ?_
  refine wp_seq ?_
  refine wp_region_lit ?_
  refine lq T (rn_move rfl (T.ev 0 rfl)) ?_; clear T ac; intro ac T
  refine lq T (rn_eql rfl (T.ev 0 rfl) evc) ?_; clear T ac; intro ac T
  refine wpList_nil ?_
  replace T := T.pick [0, 2, 3, 4, 5, 6, 7, 8, 9, 10, 11, 12, 13, 14, 15] rfl
  refine nm_then ?_
  refine wp_if (T.ev 0 rfl) ?_ ?_
  ·intro h2
   have hgr9 : p.gr = false := by rw [z1] at h2; revert h2; cases p.gr <;> simp
   obtain ⟨z2, z3⟩ := z2 (by rw [hgr9]; rfl)
   rw [z2, z3] at T
   refine wp_region_lit ?_
   refine lq T (rn_move rfl (T.ev 4 rfl)) ?_; clear T ac; intro ac T
   refine lq T (rn_move rfl (T.ev 4 rfl)) ?_; clear T ac; intro ac T
   refine lq T (rn_move rfl (T.ev 4 rfl)) ?_; clear T ac; intro ac T
   refine lq T (rn_mul rfl (T.ev 1 rfl) (T.ev 0 rfl) (by omega)) ?_; clear T ac; intro ac T
   refine lq T (rn_min2 rfl (T.ev 3 rfl) (T.ev 0 rfl)) ?_; clear T ac; intro ac T
   refine l_q (v := (.int .i64 (min ((sizeL (cutA s bu3) (cutC s bu3) p false) * (sizeW (cutA s bu3) (cutC s bu3) p false)) ((sizeL (cutA s bu3) (cutC s bu3) p true) * (sizeW (cutA s bu3) (cutC s bu3) p true))))) (T.pick [0, 1, 2, 3, 4, 5, 6, 7, 8, 10, 11, 12, 13, 14, 15, 16, 17, 18, 19] rfl) rfl rfl rfl rfl (rn_assign rfl (T.ev 0 rfl)) ?_; clear T ac; intro ac T
   refine wpList_nil ?_
   replace T := T.pick [0, 10, 11, 12, 13, 14, 15, 16, 17, 18, 19] rfl
   refine nm_then ?_
   refine wp_region_lit ?_
   refine lq T (rn_move rfl (T.ev 9 rfl)) ?_; clear T ac; intro ac T
   refine lq T (rn_move rfl (T.ev 1 rfl)) ?_; clear T ac; intro ac T
   refine lq T (rn_add rfl (T.ev 1 rfl) (T.ev 0 rfl) (by omega)) ?_; clear T ac; intro ac T
   refine l_q (v := (.int .i64 (ar + (min ((sizeL (cutA s bu3) (cutC s bu3) p false) * (sizeW (cutA s bu3) (cutC s bu3) p false)) ((sizeL (cutA s bu3) (cutC s bu3) p true) * (sizeW (cutA s bu3) (cutC s bu3) p true)))))) (T.pick [0, 1, 2, 3, 4, 5, 6, 7, 8, 9, 10, 11, 13] rfl) rfl rfl rfl rfl (rn_assign rfl (T.ev 0 rfl)) ?_; clear T ac; intro ac T
   refine wpList_nil ?_
   replace T := T.pick [0, 5, 6, 7, 8, 9, 10, 11, 12, 13] rfl
   refine nm_blk ?_
   refine nm_then ?_
   refine wp_region_lit ?_
   refine lq T (rn_move rfl (T.ev 9 rfl)) ?_; clear T ac; intro ac T
   refine lq T (rn_add rfl (T.ev 0 rfl) evc (by omega)) ?_; clear T ac; intro ac T
   refine l_q (v := (.int .i64 ((i : Int) + 1))) (T.pick [0, 1, 2, 3, 4, 5, 6, 7, 8, 9, 10] rfl) rfl rfl rfl rfl (rn_assign rfl (T.ev 0 rfl)) ?_; clear T ac; intro ac T
   refine wpList_nil ?_
   replace T := T.pick [0, 3, 4, 5, 6, 7, 8, 9, 10, 11] rfl
   refine nm_then ?_
   exact ⟨_, by omega, i + 1, _, rfl, (by omega), (by rw [H, har]; (try simp only [hgr9]); (try simp only [if_true, Bool.false_eq_true, if_false]); omega), (by omega), T.pick [2, 3, 4, 5, 6, 7, 8, 9, 1, 0] rfl, M.mask [true] rfl⟩
  intro h2
  have hgr9 : p.gr = true := by rw [z1] at h2; revert h2; cases p.gr <;> simp
  have hz8 : szE s (i : Int) true = 8 := by rw [z1, hgr9]; rfl
  refine wp_seq ?_
  refine wp_region_lit ?_
  refine lq T (rn_move rfl (T.ev 1 rfl)) ?_; clear T ac; intro ac T
  refine lq T (rn_neq rfl (T.ev 0 rfl) evc) ?_; clear T ac; intro ac T
  refine wpList_nil ?_
  replace T := T.pick [0, 6, 7, 8, 9, 10, 11, 12, 13, 14, 15, 16] rfl
  refine nm_then ?_
  refine wp_ifn (T.ev 0 rfl) ?_ ?_
  ·intro h3
   exfalso
   omega
  intro h3
  refine wp_skip ?_
  refine nm_then ?_
  refine wp_region_lit ?_
  refine lq T (rn_move rfl (T.ev 10 rfl)) ?_; clear T ac; intro ac T
  refine lq T (rn_move rfl (T.ev 2 rfl)) ?_; clear T ac; intro ac T
  refine lq T (rn_add rfl (T.ev 1 rfl) (T.ev 0 rfl) (by omega)) ?_; clear T ac; intro ac T
  refine l_q (v := (.int .i64 (ar + ((sizeL (cutA s bu3) (cutC s bu3) p false) * (sizeW (cutA s bu3) (cutC s bu3) p false))))) (T.pick [0, 1, 2, 3, 4, 5, 6, 7, 8, 9, 10, 11, 12, 14] rfl) rfl rfl rfl rfl (rn_assign rfl (T.ev 0 rfl)) ?_; clear T ac; intro ac T
  refine wpList_nil ?_
  replace T := T.pick [0, 6, 7, 8, 9, 10, 11, 12, 13, 14] rfl
  refine nm_blk ?_
  refine nm_then ?_
  refine wp_region_lit ?_
  refine lq T (rn_move rfl (T.ev 9 rfl)) ?_; clear T ac; intro ac T
  refine lq T (rn_add rfl (T.ev 0 rfl) evc (by omega)) ?_; clear T ac; intro ac T
  refine l_q (v := (.int .i64 ((i : Int) + 1))) (T.pick [0, 1, 2, 3, 4, 5, 6, 7, 8, 9, 10] rfl) rfl rfl rfl rfl (rn_assign rfl (T.ev 0 rfl)) ?_; clear T ac; intro ac T
  refine wpList_nil ?_
  replace T := T.pick [0, 3, 4, 5, 6, 7, 8, 9, 10, 11] rfl
  refine nm_then ?_
  exact ⟨_, by omega, i + 1, _, rfl, (by omega), (by rw [H, har]; (try simp only [hgr9]); (try simp only [if_true, Bool.false_eq_true, if_false]); omega), (by omega), T.pick [2, 3, 4, 5, 6, 7, 8, 9, 1, 0] rfl, M.mask [true] rfl⟩
 intro h1
 have har0 : areasS s bu3 = ar := by rw [H, List.drop_of_length_le (by omega)]; unfold areasP; omega
 have hN9 := shN_le (s := s) (su := bu3)
 have hsc := scr_bd hsgs bu3
 have hpB1 := mulB (x := (bndV s bu3)) (y := s.lo) (a := 60000) (b := 12) (by omega) (by omega) rfl rfl (by omega)
 have hpB2 := mulB (x := (bndV s bu3) * s.lo) (y := s.wi) (a := 720000) (b := 12) (by omega) (by omega) rfl rfl (by omega)
 have hpC1 := mulB (x := ((bndV s bu3) - 1)) (y := s.lo) (a := 60000) (b := 12) (by omega) (by omega) rfl rfl (by omega)
 have hpC2 := mulB (x := ((bndV s bu3) - 1) * s.lo) (y := s.wi) (a := 720000) (b := 12) (by omega) (by omega) rfl rfl (by omega)
 have hpN1 := mulB (x := (shN s bu3 : Int)) (y := s.lo) (a := 60000) (b := 12) (by omega) (by omega) rfl rfl (by omega)
 have hpN2 := mulB (x := (shN s bu3 : Int) * s.lo) (y := s.wi) (a := 720000) (b := 12) (by omega) (by omega) rfl rfl (by omega)
 refine wp_exit ?_
 refine ex_then ?_
 refine ex_then ?_
 refine ex_hit ?_
 refine nm_then ?_
 refine wp_seq ?_
 refine cut_seq (fun ac wc => Tm ac 152 [(4, .pointer (some ⟨g1, 0, none⟩)), (6, .int .i64 (bndV s bu3)), (9, .int .i64 (shN s bu3 : Int)), (10, .int .i64 (shE s bu3)), (11, .int .i64 (scrV s bu3)), (13, .int .i64 ar), (120, .bool ((decide ((((bndV s bu3) * s.lo) * s.wi) < ar)) || ((decide (ar ≤ ((((bndV s bu3) - 1) * s.lo) * s.wi))) && (decide (0 < (bndV s bu3))))))] ∧ Mem w noEx wc ((g1, .cells [.int .i64 s.lo, .int .i64 s.wi, .int .i64 s.a0, .int .i64 s.a1, .int .i64 s.c0, .int .i64 s.c1, .slice AKu2 s.ps.length cKu2]) :: (IKu2 ++ ISu5))) ?_ ?_
 ·refine wp_region_lit ?_
  refine lq T (rn_move rfl (T.ev 4 rfl)) ?_; clear T ac; intro ac T
  refine lq (v := (.bool false)) T (rn_neqof (rn_neq rfl (T.ev 0 rfl) evc) (by simp)) ?_; clear T ac; intro ac T
  refine lq T (rn_move rfl (T.ev 0 rfl)) ?_; clear T ac; intro ac T
  refine lw T (wanted_yes rfl rfl (T.ev 0 rfl) rfl) (rn_move rfl (T.ev 6 rfl)) ?_; clear T ac; intro ac T
  refine lw (v := (.pointer (some ⟨g1, 0, none⟩))) T (wanted_yes rfl rfl (T.ev 1 rfl) rfl) (rn_fieldAddr (off := 0) rfl (T.ev 5 rfl) (fun _ _ _ => by kernel_rfl)) ?_; clear T ac; intro ac T
  refine lw T (wanted_yes rfl rfl (T.ev 2 rfl) rfl) (rn_one (Mem.nth M 0 rfl) rfl (T.ev 0 rfl) rfl) ?_; clear T ac; intro ac T
  refine lw T (wanted_yes rfl rfl (T.ev 3 rfl) rfl) (rn_mul rfl (T.ev 2 rfl) (T.ev 0 rfl) (by omega)) ?_; clear T ac; intro ac T
  refine lw (v := (.pointer (some ⟨g1, 1, none⟩))) T (wanted_yes rfl rfl (T.ev 4 rfl) rfl) (rn_fieldAddr (off := 1) rfl (T.ev 8 rfl) (fun _ _ _ => by kernel_rfl)) ?_; clear T ac; intro ac T
  refine lw T (wanted_yes rfl rfl (T.ev 5 rfl) rfl) (rn_one (Mem.nth M 0 rfl) rfl (T.ev 0 rfl) rfl) ?_; clear T ac; intro ac T
  refine lw T (wanted_yes rfl rfl (T.ev 6 rfl) rfl) (rn_mul rfl (T.ev 2 rfl) (T.ev 0 rfl) (by omega)) ?_; clear T ac; intro ac T
  refine lw T (wanted_yes rfl rfl (T.ev 7 rfl) rfl) (rn_move rfl (T.ev 19 rfl)) ?_; clear T ac; intro ac T
  refine lw T (wanted_yes rfl rfl (T.ev 8 rfl) rfl) (rn_lss rfl (T.ev 1 rfl) (T.ev 0 rfl)) ?_; clear T ac; intro ac T
  refine lq T (rn_pick0 rfl (T.ev 9 rfl) rfl (T.ev 0 rfl)) ?_; clear T ac; intro ac T
  refine lq T (rn_move rfl (T.ev 0 rfl)) ?_; clear T ac; intro ac T
  rcases Bool.eq_false_or_eq_true (decide ((((bndV s bu3) * s.lo) * s.wi) < ar)) with h4 | h4
  ·replace h4 := of_decide_eq_true h4
   refine lp T (wanted_no rfl rfl (T.ev 0 rfl) (decide_eq_true h4)) ?_; clear T ac; intro ac T
   refine lp T (wanted_no rfl rfl (T.ev 1 rfl) (decide_eq_true h4)) ?_; clear T ac; intro ac T
   refine lp T (wanted_no rfl rfl (T.ev 2 rfl) (decide_eq_true h4)) ?_; clear T ac; intro ac T
   refine lp T (wanted_no rfl rfl (T.ev 3 rfl) (decide_eq_true h4)) ?_; clear T ac; intro ac T
   refine lp T (wanted_no rfl rfl (T.ev 4 rfl) (decide_eq_true h4)) ?_; clear T ac; intro ac T
   refine lp T (wanted_no rfl rfl (T.ev 5 rfl) (decide_eq_true h4)) ?_; clear T ac; intro ac T
   refine lp T (wanted_no rfl rfl (T.ev 6 rfl) (decide_eq_true h4)) ?_; clear T ac; intro ac T
   refine lp T (wanted_no rfl rfl (T.ev 7 rfl) (decide_eq_true h4)) ?_; clear T ac; intro ac T
   refine lp T (wanted_no rfl rfl (T.ev 8 rfl) (decide_eq_true h4)) ?_; clear T ac; intro ac T
   refine lp T (wanted_no rfl rfl (T.ev 9 rfl) (decide_eq_true h4)) ?_; clear T ac; intro ac T
   refine lp T (wanted_no rfl rfl (T.ev 10 rfl) (decide_eq_true h4)) ?_; clear T ac; intro ac T
   refine lp T (wanted_un rfl rfl (T.ev 0 rfl)) ?_; clear T ac; intro ac T
   refine lp T (wanted_un rfl rfl (T.ev 1 rfl)) ?_; clear T ac; intro ac T
   refine lp T (wanted_no rfl rfl (T.ev 13 rfl) (decide_eq_true h4)) ?_; clear T ac; intro ac T
   refine lq T (rn_pick1 rfl (T.ev 14 rfl) (decide_eq_true h4) evc) ?_; clear T ac; intro ac T
   refine lq T (rn_move rfl (T.ev 0 rfl)) ?_; clear T ac; intro ac T
   refine lp T (wanted_no rfl rfl (T.ev 0 rfl) rfl) ?_; clear T ac; intro ac T
   refine lp T (wanted_no rfl rfl (T.ev 1 rfl) rfl) ?_; clear T ac; intro ac T
   refine lp T (wanted_no rfl rfl (T.ev 2 rfl) rfl) ?_; clear T ac; intro ac T
   refine lq T (rn_pick1 rfl (T.ev 3 rfl) rfl evc) ?_; clear T ac; intro ac T
   refine wpList_nil ?_
   replace T := T.pick [0, 35, 37, 39, 40, 41, 43] rfl
   exact ⟨(T.pick (E' := [(4, .pointer (some ⟨g1, 0, none⟩)), (6, .int .i64 (bndV s bu3)), (9, .int .i64 (shN s bu3 : Int)), (10, .int .i64 (shE s bu3)), (11, .int .i64 (scrV s bu3)), (13, .int .i64 ar), (120, .bool true)]) [1, 2, 3, 4, 5, 6, 0] rfl).as (by (try rw [show (decide ((((bndV s bu3) * s.lo) * s.wi) < ar)) = true from (decide_eq_true h4)]); (try rfl)), M.mask [true] rfl⟩
  replace h4 := of_decide_eq_false h4
  refine lw T (wanted_yes rfl rfl (T.ev 0 rfl) (decide_eq_false h4)) (rn_move rfl (T.ev 17 rfl)) ?_; clear T ac; intro ac T
  refine lw T (wanted_yes rfl rfl (T.ev 1 rfl) (decide_eq_false h4)) (rn_sub rfl (T.ev 0 rfl) evc (by omega)) ?_; clear T ac; intro ac T
  refine lw (v := (.pointer (some ⟨g1, 0, none⟩))) T (wanted_yes rfl rfl (T.ev 2 rfl) (decide_eq_false h4)) (rn_fieldAddr (off := 0) rfl (T.ev 17 rfl) (fun _ _ _ => by kernel_rfl)) ?_; clear T ac; intro ac T
  refine lw T (wanted_yes rfl rfl (T.ev 3 rfl) (decide_eq_false h4)) (rn_one (Mem.nth M 0 rfl) rfl (T.ev 0 rfl) rfl) ?_; clear T ac; intro ac T
  refine lw T (wanted_yes rfl rfl (T.ev 4 rfl) (decide_eq_false h4)) (rn_mul rfl (T.ev 2 rfl) (T.ev 0 rfl) (by omega)) ?_; clear T ac; intro ac T
  refine lw (v := (.pointer (some ⟨g1, 1, none⟩))) T (wanted_yes rfl rfl (T.ev 5 rfl) (decide_eq_false h4)) (rn_fieldAddr (off := 1) rfl (T.ev 20 rfl) (fun _ _ _ => by kernel_rfl)) ?_; clear T ac; intro ac T
  refine lw T (wanted_yes rfl rfl (T.ev 6 rfl) (decide_eq_false h4)) (rn_one (Mem.nth M 0 rfl) rfl (T.ev 0 rfl) rfl) ?_; clear T ac; intro ac T
  refine lw T (wanted_yes rfl rfl (T.ev 7 rfl) (decide_eq_false h4)) (rn_mul rfl (T.ev 2 rfl) (T.ev 0 rfl) (by omega)) ?_; clear T ac; intro ac T
  refine lw T (wanted_yes rfl rfl (T.ev 8 rfl) (decide_eq_false h4)) (rn_move rfl (T.ev 31 rfl)) ?_; clear T ac; intro ac T
  refine lw T (wanted_yes rfl rfl (T.ev 9 rfl) (decide_eq_false h4)) (rn_geq rfl (T.ev 1 rfl) (T.ev 0 rfl)) ?_; clear T ac; intro ac T
  refine lw T (wanted_yes rfl rfl (T.ev 10 rfl) (decide_eq_false h4)) (rn_move rfl (T.ev 0 rfl)) ?_; clear T ac; intro ac T
  rcases Bool.eq_false_or_eq_true (decide (ar ≤ ((((bndV s bu3) - 1) * s.lo) * s.wi))) with h5 | h5
  ·replace h5 := of_decide_eq_true h5
   refine lw T (wanted_yes rfl rfl (T.ev 0 rfl) (decide_eq_true h5)) (rn_move rfl (T.ev 28 rfl)) ?_; clear T ac; intro ac T
   refine lw T (wanted_yes rfl rfl (T.ev 1 rfl) (decide_eq_true h5)) (rn_gtr rfl (T.ev 0 rfl) evc) ?_; clear T ac; intro ac T
   refine lw T (wanted_yes rfl rfl (T.ev 13 rfl) (decide_eq_false h4)) (rn_pick1 rfl (T.ev 2 rfl) (decide_eq_true h5) (T.ev 0 rfl)) ?_; clear T ac; intro ac T
   refine lq T (rn_pick0 rfl (T.ev 14 rfl) (decide_eq_false h4) (T.ev 0 rfl)) ?_; clear T ac; intro ac T
   refine lq T (rn_move rfl (T.ev 0 rfl)) ?_; clear T ac; intro ac T
   rcases Bool.eq_false_or_eq_true (decide (0 < (bndV s bu3))) with h6 | h6
   ·replace h6 := of_decide_eq_true h6
    refine lp T (wanted_no rfl rfl (T.ev 0 rfl) (decide_eq_true h6)) ?_; clear T ac; intro ac T
    refine lp T (wanted_no rfl rfl (T.ev 1 rfl) (decide_eq_true h6)) ?_; clear T ac; intro ac T
    refine lp T (wanted_no rfl rfl (T.ev 2 rfl) (decide_eq_true h6)) ?_; clear T ac; intro ac T
    refine lq T (rn_pick1 rfl (T.ev 3 rfl) (decide_eq_true h6) evc) ?_; clear T ac; intro ac T
    refine wpList_nil ?_
    replace T := T.pick [0, 35, 37, 39, 40, 41, 43] rfl
    exact ⟨(T.pick (E' := [(4, .pointer (some ⟨g1, 0, none⟩)), (6, .int .i64 (bndV s bu3)), (9, .int .i64 (shN s bu3 : Int)), (10, .int .i64 (shE s bu3)), (11, .int .i64 (scrV s bu3)), (13, .int .i64 ar), (120, .bool true)]) [1, 2, 3, 4, 5, 6, 0] rfl).as (by (try rw [show (decide ((((bndV s bu3) * s.lo) * s.wi) < ar)) = false from (decide_eq_false h4)]); (try rw [show (decide (ar ≤ ((((bndV s bu3) - 1) * s.lo) * s.wi))) = true from (decide_eq_true h5)]); (try rw [show (decide (0 < (bndV s bu3))) = true from (decide_eq_true h6)]); (try rfl)), M.mask [true] rfl⟩
   replace h6 := of_decide_eq_false h6
   refine lw T (wanted_yes rfl rfl (T.ev 0 rfl) (decide_eq_false h6)) (rn_move rfl (T.ev 36 rfl)) ?_; clear T ac; intro ac T
   refine lw T (wanted_yes rfl rfl (T.ev 1 rfl) (decide_eq_false h6)) (rn_move rfl (T.ev 39 rfl)) ?_; clear T ac; intro ac T
   refine lw (v := (.bool false)) T (wanted_yes rfl rfl (T.ev 2 rfl) (decide_eq_false h6)) (rn_neqof (rn_neq rfl (T.ev 1 rfl) (T.ev 0 rfl)) (by simp)) ?_; clear T ac; intro ac T
   refine lq T (rn_pick0 rfl (T.ev 3 rfl) (decide_eq_false h6) (T.ev 0 rfl)) ?_; clear T ac; intro ac T
   refine wpList_nil ?_
   replace T := T.pick [0, 35, 37, 39, 40, 41, 43] rfl
   exact ⟨(T.pick (E' := [(4, .pointer (some ⟨g1, 0, none⟩)), (6, .int .i64 (bndV s bu3)), (9, .int .i64 (shN s bu3 : Int)), (10, .int .i64 (shE s bu3)), (11, .int .i64 (scrV s bu3)), (13, .int .i64 ar), (120, .bool false)]) [1, 2, 3, 4, 5, 6, 0] rfl).as (by (try rw [show (decide ((((bndV s bu3) * s.lo) * s.wi) < ar)) = false from (decide_eq_false h4)]); (try rw [show (decide (ar ≤ ((((bndV s bu3) - 1) * s.lo) * s.wi))) = true from (decide_eq_true h5)]); (try rw [show (decide (0 < (bndV s bu3))) = false from (decide_eq_false h6)]); (try rfl)), M.mask [true] rfl⟩
  replace h5 := of_decide_eq_false h5
  refine lp T (wanted_no rfl rfl (T.ev 0 rfl) (decide_eq_false h5)) ?_; clear T ac; intro ac T
  refine lp T (wanted_no rfl rfl (T.ev 1 rfl) (decide_eq_false h5)) ?_; clear T ac; intro ac T
  refine lw T (wanted_yes rfl rfl (T.ev 13 rfl) (decide_eq_false h4)) (rn_pick0 rfl (T.ev 2 rfl) (decide_eq_false h5) evc) ?_; clear T ac; intro ac T
  refine lq T (rn_pick0 rfl (T.ev 14 rfl) (decide_eq_false h4) (T.ev 0 rfl)) ?_; clear T ac; intro ac T
  refine lq T (rn_move rfl (T.ev 0 rfl)) ?_; clear T ac; intro ac T
  refine lw T (wanted_yes rfl rfl (T.ev 0 rfl) rfl) (rn_move rfl (T.ev 36 rfl)) ?_; clear T ac; intro ac T
  refine lw T (wanted_yes rfl rfl (T.ev 1 rfl) rfl) (rn_move rfl (T.ev 39 rfl)) ?_; clear T ac; intro ac T
  refine lw (v := (.bool false)) T (wanted_yes rfl rfl (T.ev 2 rfl) rfl) (rn_neqof (rn_neq rfl (T.ev 1 rfl) (T.ev 0 rfl)) (by simp)) ?_; clear T ac; intro ac T
  refine lq T (rn_pick0 rfl (T.ev 3 rfl) rfl (T.ev 0 rfl)) ?_; clear T ac; intro ac T
  refine wpList_nil ?_
  replace T := T.pick [0, 35, 37, 39, 40, 41, 43] rfl
  exact ⟨(T.pick (E' := [(4, .pointer (some ⟨g1, 0, none⟩)), (6, .int .i64 (bndV s bu3)), (9, .int .i64 (shN s bu3 : Int)), (10, .int .i64 (shE s bu3)), (11, .int .i64 (scrV s bu3)), (13, .int .i64 ar), (120, .bool false)]) [1, 2, 3, 4, 5, 6, 0] rfl).as (by (try rw [show (decide ((((bndV s bu3) * s.lo) * s.wi) < ar)) = false from (decide_eq_false h4)]); (try rw [show (decide (ar ≤ ((((bndV s bu3) - 1) * s.lo) * s.wi))) = false from (decide_eq_false h5)]); (try rfl)), M.mask [true] rfl⟩
 clear T M
 rintro ac wc ⟨T, M⟩
 refine wp_cond_split (T.ev 6 rfl) ?_ ?_
 ·intro h7
  exfalso
  simp only [Bool.or_eq_true, Bool.and_eq_true, decide_eq_true_eq] at h7
  rcases h7 with h9 | ⟨h9, h8⟩ <;> omega
 intro h7
 (try have h7' := h7; try simp only [Bool.and_eq_true, Bool.or_eq_true, Bool.not_eq_true', Bool.and_eq_false_imp, Bool.or_eq_false_iff, decide_eq_true_eq, decide_eq_false_iff_not] at h7')
 refine wp_skip ?_
 refine nm_then ?_
 refine cut_seq (fun ac wc => Tm ac 152 [(2, .bool ((decide ((shE s bu3) = 11)) || ((decide ((shE s bu3) = 0)) && ((decide ((bndV s bu3) ≤ (shN s bu3 : Int))) && ((decide (((scrV s bu3) + ar) = (((shN s bu3 : Int) * s.lo) * s.wi))) && (decide (0 ≤ (scrV s bu3))))))))] ∧ Mem w noEx wc ((IKu2 ++ ISu5))) ?_ ?_
 ·refine wp_region_lit ?_
  refine lq T (rn_move rfl (T.ev 3 rfl)) ?_; clear T ac; intro ac T
  refine lq T (rn_eql rfl (T.ev 0 rfl) evc) ?_; clear T ac; intro ac T
  refine lq T (rn_move rfl (T.ev 0 rfl)) ?_; clear T ac; intro ac T
  rcases Bool.eq_false_or_eq_true (decide ((shE s bu3) = 11)) with h8 | h8
  ·replace h8 := of_decide_eq_true h8
   refine lp T (wanted_no rfl rfl (T.ev 0 rfl) (decide_eq_true h8)) ?_; clear T ac; intro ac T
   refine lp T (wanted_no rfl rfl (T.ev 1 rfl) (decide_eq_true h8)) ?_; clear T ac; intro ac T
   refine lp T (wanted_no rfl rfl (T.ev 2 rfl) (decide_eq_true h8)) ?_; clear T ac; intro ac T
   refine lp T (wanted_un rfl rfl (T.ev 0 rfl)) ?_; clear T ac; intro ac T
   refine lp T (wanted_un rfl rfl (T.ev 1 rfl)) ?_; clear T ac; intro ac T
   refine lp T (wanted_un rfl rfl (T.ev 2 rfl)) ?_; clear T ac; intro ac T
   refine lp T (wanted_no rfl rfl (T.ev 6 rfl) (decide_eq_true h8)) ?_; clear T ac; intro ac T
   refine lp T (wanted_no rfl rfl (T.ev 7 rfl) (decide_eq_true h8)) ?_; clear T ac; intro ac T
   refine lp T (wanted_un rfl rfl (T.ev 0 rfl)) ?_; clear T ac; intro ac T
   refine lp T (wanted_un rfl rfl (T.ev 1 rfl)) ?_; clear T ac; intro ac T
   refine lp T (wanted_un rfl rfl (T.ev 2 rfl)) ?_; clear T ac; intro ac T
   refine lp T (wanted_un rfl rfl (T.ev 3 rfl)) ?_; clear T ac; intro ac T
   refine lp T (wanted_un rfl rfl (T.ev 4 rfl)) ?_; clear T ac; intro ac T
   refine lp T (wanted_un rfl rfl (T.ev 5 rfl)) ?_; clear T ac; intro ac T
   refine lp T (wanted_un rfl rfl (T.ev 6 rfl)) ?_; clear T ac; intro ac T
   refine lp T (wanted_un rfl rfl (T.ev 7 rfl)) ?_; clear T ac; intro ac T
   refine lp T (wanted_un rfl rfl (T.ev 8 rfl)) ?_; clear T ac; intro ac T
   refine lp T (wanted_un rfl rfl (T.ev 9 rfl)) ?_; clear T ac; intro ac T
   refine lp T (wanted_un rfl rfl (T.ev 10 rfl)) ?_; clear T ac; intro ac T
   refine lp T (wanted_no rfl rfl (T.ev 19 rfl) (decide_eq_true h8)) ?_; clear T ac; intro ac T
   refine lp T (wanted_no rfl rfl (T.ev 20 rfl) (decide_eq_true h8)) ?_; clear T ac; intro ac T
   refine lp T (wanted_un rfl rfl (T.ev 0 rfl)) ?_; clear T ac; intro ac T
   refine lp T (wanted_un rfl rfl (T.ev 1 rfl)) ?_; clear T ac; intro ac T
   refine lp T (wanted_no rfl rfl (T.ev 23 rfl) (decide_eq_true h8)) ?_; clear T ac; intro ac T
   refine lq T (rn_pick1 rfl (T.ev 24 rfl) (decide_eq_true h8) evc) ?_; clear T ac; intro ac T
   refine lq T (rn_move rfl (T.ev 0 rfl)) ?_; clear T ac; intro ac T
   refine l_w (wanted_yes rfl rfl (T.ev 0 rfl) rfl) ?_; intro K hK
   refine ow_call (first := []) (cap := []) T rfl rfl rfl rfl evf .nil Tryd.func17 rfl rfl ?_
   refine Calls.mono (sawn8_any _ (hT.mem M (fun h => h))) ?_
   clear T
   rintro e wc ⟨rfl, hb⟩
   intro ac T
   replace M := M.call hb; clear hb
   refine sh_out hK _ _ ?_; clear hK K
   refine lq T (rn_pick1 rfl (T.ev 1 rfl) rfl (T.ev 0 rfl)) ?_; clear T ac; intro ac T
   refine lq T (rn_assign rfl (T.ev 0 rfl)) ?_; clear T ac; intro ac T
   refine wpList_nil ?_
   replace T := T.pick [0] rfl
   replace M := M.mask [false] rfl
   exact ⟨(T.pick (E' := [(2, .bool true)]) [0] rfl).as (by (try rw [show (decide ((shE s bu3) = 11)) = true from (decide_eq_true h8)]); (try rfl)), M.mask [] rfl⟩
  replace h8 := of_decide_eq_false h8
  refine lw T (wanted_yes rfl rfl (T.ev 0 rfl) (decide_eq_false h8)) (rn_move rfl (T.ev 6 rfl)) ?_; clear T ac; intro ac T
  refine lw T (wanted_yes rfl rfl (T.ev 1 rfl) (decide_eq_false h8)) (rn_eql rfl (T.ev 0 rfl) evc) ?_; clear T ac; intro ac T
  refine lw T (wanted_yes rfl rfl (T.ev 2 rfl) (decide_eq_false h8)) (rn_move rfl (T.ev 0 rfl)) ?_; clear T ac; intro ac T
  rcases Bool.eq_false_or_eq_true (decide ((shE s bu3) = 0)) with h9 | h9
  ·replace h9 := of_decide_eq_true h9
   refine lw T (wanted_yes rfl rfl (T.ev 0 rfl) (decide_eq_true h9)) (rn_move rfl (T.ev 7 rfl)) ?_; clear T ac; intro ac T
   refine lw T (wanted_yes rfl rfl (T.ev 1 rfl) (decide_eq_true h9)) (rn_move rfl (T.ev 9 rfl)) ?_; clear T ac; intro ac T
   refine lw T (wanted_yes rfl rfl (T.ev 2 rfl) (decide_eq_true h9)) (rn_leq rfl (T.ev 1 rfl) (T.ev 0 rfl)) ?_; clear T ac; intro ac T
   refine lw T (wanted_yes rfl rfl (T.ev 6 rfl) (decide_eq_false h8)) (rn_pick1 rfl (T.ev 3 rfl) (decide_eq_true h9) (T.ev 0 rfl)) ?_; clear T ac; intro ac T
   refine lw T (wanted_yes rfl rfl (T.ev 7 rfl) (decide_eq_false h8)) (rn_move rfl (T.ev 0 rfl)) ?_; clear T ac; intro ac T
   rcases Bool.eq_false_or_eq_true (decide ((bndV s bu3) ≤ (shN s bu3 : Int))) with h10 | h10
   ·replace h10 := of_decide_eq_true h10
    refine lw T (wanted_yes rfl rfl (T.ev 0 rfl) (decide_eq_true h10)) (rn_move rfl (T.ev 15 rfl)) ?_; clear T ac; intro ac T
    refine lw T (wanted_yes rfl rfl (T.ev 1 rfl) (decide_eq_true h10)) (rn_move rfl (T.ev 17 rfl)) ?_; clear T ac; intro ac T
    refine lw T (wanted_yes rfl rfl (T.ev 2 rfl) (decide_eq_true h10)) (rn_add rfl (T.ev 1 rfl) (T.ev 0 rfl) (by omega)) ?_; clear T ac; intro ac T
    refine lw T (wanted_yes rfl rfl (T.ev 3 rfl) (decide_eq_true h10)) (rn_move rfl (T.ev 16 rfl)) ?_; clear T ac; intro ac T
    refine lw (v := (.pointer (some ⟨g1, 0, none⟩))) T (wanted_yes rfl rfl (T.ev 4 rfl) (decide_eq_true h10)) (rn_fieldAddr (off := 0) rfl (T.ev 15 rfl) (fun _ _ _ => by kernel_rfl)) ?_; clear T ac; intro ac T
    refine lw T (wanted_yes rfl rfl (T.ev 5 rfl) (decide_eq_true h10)) (rn_one (Mem.nth M 0 rfl) rfl (T.ev 0 rfl) rfl) ?_; clear T ac; intro ac T
    refine lw T (wanted_yes rfl rfl (T.ev 6 rfl) (decide_eq_true h10)) (rn_mul rfl (T.ev 2 rfl) (T.ev 0 rfl) (by omega)) ?_; clear T ac; intro ac T
    refine lw (v := (.pointer (some ⟨g1, 1, none⟩))) T (wanted_yes rfl rfl (T.ev 7 rfl) (decide_eq_true h10)) (rn_fieldAddr (off := 1) rfl (T.ev 18 rfl) (fun _ _ _ => by kernel_rfl)) ?_; clear T ac; intro ac T
    refine lw T (wanted_yes rfl rfl (T.ev 8 rfl) (decide_eq_true h10)) (rn_one (Mem.nth M 0 rfl) rfl (T.ev 0 rfl) rfl) ?_; clear T ac; intro ac T
    refine lw T (wanted_yes rfl rfl (T.ev 9 rfl) (decide_eq_true h10)) (rn_mul rfl (T.ev 2 rfl) (T.ev 0 rfl) (by omega)) ?_; clear T ac; intro ac T
    refine lw T (wanted_yes rfl rfl (T.ev 10 rfl) (decide_eq_true h10)) (rn_eql rfl (T.ev 7 rfl) (T.ev 0 rfl)) ?_; clear T ac; intro ac T
    refine lw T (wanted_yes rfl rfl (T.ev 19 rfl) (decide_eq_false h8)) (rn_pick1 rfl (T.ev 11 rfl) (decide_eq_true h10) (T.ev 0 rfl)) ?_; clear T ac; intro ac T
    refine lw T (wanted_yes rfl rfl (T.ev 20 rfl) (decide_eq_false h8)) (rn_move rfl (T.ev 0 rfl)) ?_; clear T ac; intro ac T
    rcases Bool.eq_false_or_eq_true (decide (((scrV s bu3) + ar) = (((shN s bu3 : Int) * s.lo) * s.wi))) with h11 | h11
    ·replace h11 := of_decide_eq_true h11
     refine lw T (wanted_yes rfl rfl (T.ev 0 rfl) (decide_eq_true h11)) (rn_move rfl (T.ev 28 rfl)) ?_; clear T ac; intro ac T
     refine lw T (wanted_yes rfl rfl (T.ev 1 rfl) (decide_eq_true h11)) (rn_geq rfl (T.ev 0 rfl) evc) ?_; clear T ac; intro ac T
     refine lw T (wanted_yes rfl rfl (T.ev 23 rfl) (decide_eq_false h8)) (rn_pick1 rfl (T.ev 2 rfl) (decide_eq_true h11) (T.ev 0 rfl)) ?_; clear T ac; intro ac T
     refine lq T (rn_pick0 rfl (T.ev 24 rfl) (decide_eq_false h8) (T.ev 0 rfl)) ?_; clear T ac; intro ac T
     refine lq T (rn_move rfl (T.ev 0 rfl)) ?_; clear T ac; intro ac T
     rcases Bool.eq_false_or_eq_true (decide (0 ≤ (scrV s bu3))) with h12 | h12
     ·replace h12 := of_decide_eq_true h12
      refine l_w (wanted_yes rfl rfl (T.ev 0 rfl) (decide_eq_true h12)) ?_; intro K hK
      refine ow_call (first := []) (cap := []) T rfl rfl rfl rfl evf .nil Tryd.func17 rfl rfl ?_
      refine Calls.mono (sawn8_any _ (hT.mem M (fun h => h))) ?_
      clear T
      rintro e wc ⟨rfl, hb⟩
      intro ac T
      replace M := M.call hb; clear hb
      refine sh_out hK _ _ ?_; clear hK K
      refine lq T (rn_pick1 rfl (T.ev 1 rfl) (decide_eq_true h12) (T.ev 0 rfl)) ?_; clear T ac; intro ac T
      refine lq T (rn_assign rfl (T.ev 0 rfl)) ?_; clear T ac; intro ac T
      refine wpList_nil ?_
      replace T := T.pick [0] rfl
      replace M := M.mask [false] rfl
      exact ⟨(T.pick (E' := [(2, .bool true)]) [0] rfl).as (by (try rw [show (decide ((shE s bu3) = 11)) = false from (decide_eq_false h8)]); (try rw [show (decide ((shE s bu3) = 0)) = true from (decide_eq_true h9)]); (try rw [show (decide ((bndV s bu3) ≤ (shN s bu3 : Int))) = true from (decide_eq_true h10)]); (try rw [show (decide (((scrV s bu3) + ar) = (((shN s bu3 : Int) * s.lo) * s.wi))) = true from (decide_eq_true h11)]); (try rw [show (decide (0 ≤ (scrV s bu3))) = true from (decide_eq_true h12)]); (try rfl)), M.mask [] rfl⟩
     replace h12 := of_decide_eq_false h12
     refine lp T (wanted_no rfl rfl (T.ev 0 rfl) (decide_eq_false h12)) ?_; clear T ac; intro ac T
     refine lq T (rn_pick0 rfl (T.ev 1 rfl) (decide_eq_false h12) evc) ?_; clear T ac; intro ac T
     refine lq T (rn_assign rfl (T.ev 0 rfl)) ?_; clear T ac; intro ac T
     refine wpList_nil ?_
     replace T := T.pick [0] rfl
     replace M := M.mask [false] rfl
     exact ⟨(T.pick (E' := [(2, .bool false)]) [0] rfl).as (by (try rw [show (decide ((shE s bu3) = 11)) = false from (decide_eq_false h8)]); (try rw [show (decide ((shE s bu3) = 0)) = true from (decide_eq_true h9)]); (try rw [show (decide ((bndV s bu3) ≤ (shN s bu3 : Int))) = true from (decide_eq_true h10)]); (try rw [show (decide (((scrV s bu3) + ar) = (((shN s bu3 : Int) * s.lo) * s.wi))) = true from (decide_eq_true h11)]); (try rw [show (decide (0 ≤ (scrV s bu3))) = false from (decide_eq_false h12)]); (try rfl)), M.mask [] rfl⟩
    replace h11 := of_decide_eq_false h11
    refine lp T (wanted_no rfl rfl (T.ev 0 rfl) (decide_eq_false h11)) ?_; clear T ac; intro ac T
    refine lp T (wanted_no rfl rfl (T.ev 1 rfl) (decide_eq_false h11)) ?_; clear T ac; intro ac T
    refine lw T (wanted_yes rfl rfl (T.ev 23 rfl) (decide_eq_false h8)) (rn_pick0 rfl (T.ev 2 rfl) (decide_eq_false h11) evc) ?_; clear T ac; intro ac T
    refine lq T (rn_pick0 rfl (T.ev 24 rfl) (decide_eq_false h8) (T.ev 0 rfl)) ?_; clear T ac; intro ac T
    refine lq T (rn_move rfl (T.ev 0 rfl)) ?_; clear T ac; intro ac T
    refine lp T (wanted_no rfl rfl (T.ev 0 rfl) rfl) ?_; clear T ac; intro ac T
    refine lq T (rn_pick0 rfl (T.ev 1 rfl) rfl evc) ?_; clear T ac; intro ac T
    refine lq T (rn_assign rfl (T.ev 0 rfl)) ?_; clear T ac; intro ac T
    refine wpList_nil ?_
    replace T := T.pick [0] rfl
    replace M := M.mask [false] rfl
    exact ⟨(T.pick (E' := [(2, .bool false)]) [0] rfl).as (by (try rw [show (decide ((shE s bu3) = 11)) = false from (decide_eq_false h8)]); (try rw [show (decide ((shE s bu3) = 0)) = true from (decide_eq_true h9)]); (try rw [show (decide ((bndV s bu3) ≤ (shN s bu3 : Int))) = true from (decide_eq_true h10)]); (try rw [show (decide (((scrV s bu3) + ar) = (((shN s bu3 : Int) * s.lo) * s.wi))) = false from (decide_eq_false h11)]); (try rfl)), M.mask [] rfl⟩
   replace h10 := of_decide_eq_false h10
   refine lp T (wanted_no rfl rfl (T.ev 0 rfl) (decide_eq_false h10)) ?_; clear T ac; intro ac T
   refine lp T (wanted_no rfl rfl (T.ev 1 rfl) (decide_eq_false h10)) ?_; clear T ac; intro ac T
   refine lp T (wanted_no rfl rfl (T.ev 2 rfl) (decide_eq_false h10)) ?_; clear T ac; intro ac T
   refine lp T (wanted_no rfl rfl (T.ev 3 rfl) (decide_eq_false h10)) ?_; clear T ac; intro ac T
   refine lp T (wanted_no rfl rfl (T.ev 4 rfl) (decide_eq_false h10)) ?_; clear T ac; intro ac T
   refine lp T (wanted_no rfl rfl (T.ev 5 rfl) (decide_eq_false h10)) ?_; clear T ac; intro ac T
   refine lp T (wanted_no rfl rfl (T.ev 6 rfl) (decide_eq_false h10)) ?_; clear T ac; intro ac T
   refine lp T (wanted_no rfl rfl (T.ev 7 rfl) (decide_eq_false h10)) ?_; clear T ac; intro ac T
   refine lp T (wanted_no rfl rfl (T.ev 8 rfl) (decide_eq_false h10)) ?_; clear T ac; intro ac T
   refine lp T (wanted_no rfl rfl (T.ev 9 rfl) (decide_eq_false h10)) ?_; clear T ac; intro ac T
   refine lp T (wanted_no rfl rfl (T.ev 10 rfl) (decide_eq_false h10)) ?_; clear T ac; intro ac T
   refine lw T (wanted_yes rfl rfl (T.ev 19 rfl) (decide_eq_false h8)) (rn_pick0 rfl (T.ev 11 rfl) (decide_eq_false h10) evc) ?_; clear T ac; intro ac T
   refine lw T (wanted_yes rfl rfl (T.ev 20 rfl) (decide_eq_false h8)) (rn_move rfl (T.ev 0 rfl)) ?_; clear T ac; intro ac T
   refine lp T (wanted_no rfl rfl (T.ev 0 rfl) rfl) ?_; clear T ac; intro ac T
   refine lp T (wanted_no rfl rfl (T.ev 1 rfl) rfl) ?_; clear T ac; intro ac T
   refine lw T (wanted_yes rfl rfl (T.ev 23 rfl) (decide_eq_false h8)) (rn_pick0 rfl (T.ev 2 rfl) rfl evc) ?_; clear T ac; intro ac T
   refine lq T (rn_pick0 rfl (T.ev 24 rfl) (decide_eq_false h8) (T.ev 0 rfl)) ?_; clear T ac; intro ac T
   refine lq T (rn_move rfl (T.ev 0 rfl)) ?_; clear T ac; intro ac T
   refine lp T (wanted_no rfl rfl (T.ev 0 rfl) rfl) ?_; clear T ac; intro ac T
   refine lq T (rn_pick0 rfl (T.ev 1 rfl) rfl evc) ?_; clear T ac; intro ac T
   refine lq T (rn_assign rfl (T.ev 0 rfl)) ?_; clear T ac; intro ac T
   refine wpList_nil ?_
   replace T := T.pick [0] rfl
   replace M := M.mask [false] rfl
   exact ⟨(T.pick (E' := [(2, .bool false)]) [0] rfl).as (by (try rw [show (decide ((shE s bu3) = 11)) = false from (decide_eq_false h8)]); (try rw [show (decide ((shE s bu3) = 0)) = true from (decide_eq_true h9)]); (try rw [show (decide ((bndV s bu3) ≤ (shN s bu3 : Int))) = false from (decide_eq_false h10)]); (try rfl)), M.mask [] rfl⟩
  replace h9 := of_decide_eq_false h9
  refine lp T (wanted_no rfl rfl (T.ev 0 rfl) (decide_eq_false h9)) ?_; clear T ac; intro ac T
  refine lp T (wanted_no rfl rfl (T.ev 1 rfl) (decide_eq_false h9)) ?_; clear T ac; intro ac T
  refine lp T (wanted_no rfl rfl (T.ev 2 rfl) (decide_eq_false h9)) ?_; clear T ac; intro ac T
  refine lw T (wanted_yes rfl rfl (T.ev 6 rfl) (decide_eq_false h8)) (rn_pick0 rfl (T.ev 3 rfl) (decide_eq_false h9) evc) ?_; clear T ac; intro ac T
  refine lw T (wanted_yes rfl rfl (T.ev 7 rfl) (decide_eq_false h8)) (rn_move rfl (T.ev 0 rfl)) ?_; clear T ac; intro ac T
  refine lp T (wanted_no rfl rfl (T.ev 0 rfl) rfl) ?_; clear T ac; intro ac T
  refine lp T (wanted_no rfl rfl (T.ev 1 rfl) rfl) ?_; clear T ac; intro ac T
  refine lp T (wanted_no rfl rfl (T.ev 2 rfl) rfl) ?_; clear T ac; intro ac T
  refine lp T (wanted_no rfl rfl (T.ev 3 rfl) rfl) ?_; clear T ac; intro ac T
  refine lp T (wanted_no rfl rfl (T.ev 4 rfl) rfl) ?_; clear T ac; intro ac T
  refine lp T (wanted_no rfl rfl (T.ev 5 rfl) rfl) ?_; clear T ac; intro ac T
  refine lp T (wanted_no rfl rfl (T.ev 6 rfl) rfl) ?_; clear T ac; intro ac T
  refine lp T (wanted_no rfl rfl (T.ev 7 rfl) rfl) ?_; clear T ac; intro ac T
  refine lp T (wanted_no rfl rfl (T.ev 8 rfl) rfl) ?_; clear T ac; intro ac T
  refine lp T (wanted_no rfl rfl (T.ev 9 rfl) rfl) ?_; clear T ac; intro ac T
  refine lp T (wanted_no rfl rfl (T.ev 10 rfl) rfl) ?_; clear T ac; intro ac T
  refine lw T (wanted_yes rfl rfl (T.ev 19 rfl) (decide_eq_false h8)) (rn_pick0 rfl (T.ev 11 rfl) rfl evc) ?_; clear T ac; intro ac T
  refine lw T (wanted_yes rfl rfl (T.ev 20 rfl) (decide_eq_false h8)) (rn_move rfl (T.ev 0 rfl)) ?_; clear T ac; intro ac T
  refine lp T (wanted_no rfl rfl (T.ev 0 rfl) rfl) ?_; clear T ac; intro ac T
  refine lp T (wanted_no rfl rfl (T.ev 1 rfl) rfl) ?_; clear T ac; intro ac T
  refine lw T (wanted_yes rfl rfl (T.ev 23 rfl) (decide_eq_false h8)) (rn_pick0 rfl (T.ev 2 rfl) rfl evc) ?_; clear T ac; intro ac T
  refine lq T (rn_pick0 rfl (T.ev 24 rfl) (decide_eq_false h8) (T.ev 0 rfl)) ?_; clear T ac; intro ac T
  refine lq T (rn_move rfl (T.ev 0 rfl)) ?_; clear T ac; intro ac T
  refine lp T (wanted_no rfl rfl (T.ev 0 rfl) rfl) ?_; clear T ac; intro ac T
  refine lq T (rn_pick0 rfl (T.ev 1 rfl) rfl evc) ?_; clear T ac; intro ac T
  refine lq T (rn_assign rfl (T.ev 0 rfl)) ?_; clear T ac; intro ac T
  refine wpList_nil ?_
  replace T := T.pick [0] rfl
  replace M := M.mask [false] rfl
  exact ⟨(T.pick (E' := [(2, .bool false)]) [0] rfl).as (by (try rw [show (decide ((shE s bu3) = 11)) = false from (decide_eq_false h8)]); (try rw [show (decide ((shE s bu3) = 0)) = false from (decide_eq_false h9)]); (try rfl)), M.mask [] rfl⟩
 clear T M
 rintro ac wc ⟨T, M⟩
 refine wp_ret ?_
 refine rt_1 T rfl (T.ev 0 rfl) ?_
 exact ⟨ret_bool (by simp only [Bool.or_eq_true, Bool.and_eq_true, decide_eq_true_eq]; rcases shE_cases hsgs bu3 with a1 | a1; (obtain ⟨k1, k2, k3⟩ := hw3 a1; rw [har0] at k2; exact .inr ⟨a1, k1, k2, k3⟩); exact .inl a1), M.below⟩
end Go.Proofs.YtehpcclfgjccbaaDoor
end

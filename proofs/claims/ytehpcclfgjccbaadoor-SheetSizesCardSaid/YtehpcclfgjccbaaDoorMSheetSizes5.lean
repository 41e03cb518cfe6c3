/-
  Walks of functions, and plain laws (texts put together). No condition.
-/
import Derived.Test.YtehpcclfgjccbaaDoorMSheetSizes1
import Derived.Test.YtehpcclfgjccbaaDoorMSheetSizes2
import Derived.Test.YtehpcclfgjccbaaDoorMSheetSizes3
import Derived.Test.YtehpcclfgjccbaaDoorMSheetSizes4
set_option maxRecDepth 100000
set_option maxHeartbeats 1000000
section
/-
 kit: copies of stocks, stocks that are equal.
-/
namespace Go.Proofs.YtehpcclfgjccbaaDoor
set_option linter.unusedSimpArgs false
set_option linter.unusedVariables false
open Go.RowKit
theorem eqT23 {x y : Operand} {a0 a1 b0 b1 : Int} {w : World} : (do eqGuard .eql 23 x y (.agg #[.int .i64 a0, .int .i64 a1]) (.agg #[.int .i64 b0, .int .i64 b1]); binOp .eql 23 (.agg #[.int .i64 a0, .int .i64 a1]) (.agg #[.int .i64 b0, .int .i64 b1]) : Sem Value).run Tryd.prog w = .ok (.bool ((decide (a0 = b0) && decide (a1 = b1)))) w := by
 go_simp
 (repeat' split) <;> simp_all
theorem eqT63 {x y : Operand} {a0 a1 a3 b0 b1 b3 : Int} {a2 b2 : Bool} {w : World} : (do eqGuard .eql 63 x y (.agg #[.int .i64 a0, .int .i64 a1, .bool a2, .int .i64 a3]) (.agg #[.int .i64 b0, .int .i64 b1, .bool b2, .int .i64 b3]); binOp .eql 63 (.agg #[.int .i64 a0, .int .i64 a1, .bool a2, .int .i64 a3]) (.agg #[.int .i64 b0, .int .i64 b1, .bool b2, .int .i64 b3]) : Sem Value).run Tryd.prog w = .ok (.bool (decide (a0 = b0) && (decide (a1 = b1) && (decide (a2 = b2) && decide (a3 = b3))))) w := by
 go_simp
 (repeat' split) <;> simp_all
def CopySkPost (s : Sk) (w : World) (e : Ending) (w' : World) : Prop := ∃ A c I, e = .returned (.agg #[.int .i64 s.lo, .int .i64 s.wi, .int .i64 s.a0, .int .i64 s.a1, .int .i64 s.c0, .int .i64 s.c1, .slice A s.ps.length c]) ∧ Cl 63 4 A s.ps.length c (pc s.ps) I ∧ Mem w noEx w' I
def eqF (s t : Sk) : Prop := s.lo = t.lo ∧ s.wi = t.wi ∧ (s.a0 = t.a0 ∧ s.a1 = t.a1) ∧ (s.c0 = t.c0 ∧ s.c1 = t.c1) ∧ s.ps.length = t.ps.length
theorem copySheet_any (s : Sk) (A : Option Addr) (d : Nat)  (w : World) (hA : Rd w w.heap.size 4 A s.ps.length (pc s.ps)) (nA : s.ps.length ≤ 1000000)  :
   Calls Tryd.prog 25 #[.agg #[.int .i64 s.lo, .int .i64 s.wi, .int .i64 s.a0, .int .i64 s.a1, .int .i64 s.c0, .int .i64 s.c1, .slice A s.ps.length d]] w (CopySkPost s w) := by
 obtain ⟨bA, oA, SA⟩ := Sp.old hA
 refine px_enter noEx Tryd.func25 rfl 9 rfl [.agg #[.int .i64 s.lo, .int .i64 s.wi, .int .i64 s.a0, .int .i64 s.a1, .int .i64 s.c0, .int .i64 s.c1, .slice A s.ps.length d]] rfl rfl (Mem.init w _) ?_
 intro ac wc T M
 refine wp_seq ?_
 refine wp_region_lit ?_
 refine l_w rfl ?_; intro K hK
 refine ow_bx M T rfl rfl rfl rfl (T.ev 0 rfl) rfl ?_; clear M T; intro g1 wc ac M T
 refine sh_out hK _ _ ?_; clear hK K
 refine l_w rfl ?_; intro K hK
 refine ow_al M T rfl rfl rfl rfl ?_; clear M T; intro g2 wc ac M T
 refine sh_out hK _ _ ?_; clear hK K
 refine wpList_nil ?_
 replace T := T.pick [0, 1] rfl
 refine nm_then ?_
 refine wp_seq ?_
 refine wp_region_lit ?_
 refine l_w rfl ?_; intro K hK
 refine ow_bs0 (e := 63) M T rfl rfl rfl rfl (fun _ => by kernel_rfl) ?_; clear M T; intro g3 wc ac M T
 refine sh_out hK _ _ ?_; clear hK K
 refine lq (v := (.pointer (some ⟨g1, 6, none⟩))) T (rn_fieldAddr (off := 6) rfl (T.ev 2 rfl) (fun _ _ _ => by kernel_rfl)) ?_; clear T ac; intro ac T
 refine lq T (rn_one (Mem.nth M 2 rfl) rfl (T.ev 0 rfl) rfl) ?_; clear T ac; intro ac T
 refine l_w rfl ?_; intro K hK
 refine ow_appS Tryd.info63 M T rfl rfl rfl rfl (fun g w => Tryd.append0_24 _ _ g _ w) Tryd.underlying24 rfl rfl rfl (by omega) (T.ev 2 rfl) (T.ev 0 rfl) (SA.rd M (List.nil_sublist _)) (pc_one _) ?_; clear M T; intro Augo1 cugo1 Iugo1 wc ac hSmgo1 M T
 replace M : Mem w noEx wc ((g2, .cells [.int .i64 0, .int .i64 0, .int .i64 0, .int .i64 0, .int .i64 0, .int .i64 0, .slice none 0 0]) :: (g1, .cells [.int .i64 s.lo, .int .i64 s.wi, .int .i64 s.a0, .int .i64 s.a1, .int .i64 s.c0, .int .i64 s.c1, .slice A s.ps.length d]) :: Iugo1) := M.swapI
 refine sh_out hK _ _ ?_; clear hK K
 refine lq (v := (.pointer (some ⟨g1, 6, none⟩))) T (rn_fieldAddr (off := 6) rfl (T.ev 5 rfl) (fun _ _ _ => by kernel_rfl)) ?_; clear T ac; intro ac T
 refine l_w rfl ?_; intro K hK
 refine ow_stO M T rfl rfl (T.ev 0 rfl) (T.ev 1 rfl) rfl (.tail .head) rfl (by simp) rfl (by kernel_rfl) ?_; clear M T; intro wc ac M T
 refine sh_out hK _ _ ?_; clear hK K
 refine wpList_nil ?_
 replace T := T.pick [5, 6] rfl
 refine nm_then ?_
 refine wp_seq ?_
 refine wp_region_lit ?_
 refine lq T (rn_rowO (Mem.nth M 1 rfl) rfl (T.ev 1 rfl) rfl) ?_; clear T ac; intro ac T
 refine l_w rfl ?_; intro K hK
 refine ow_stO M T rfl rfl (T.ev 1 rfl) (T.ev 0 rfl) rfl .head rfl (by simp) rfl (by kernel_rfl) ?_; clear M T; intro wc ac M T
 refine sh_out hK _ _ ?_; clear hK K
 refine wpList_nil ?_
 replace T := T.pick [1] rfl
 replace M := M.mask [true, false] rfl
 refine nm_then ?_
 refine wp_ret ?_
 refine rt_c M T rfl (T.ev 0 rfl) (nthE_mem (i := 0) rfl) rfl ?_
 exact ⟨Augo1, cugo1, Iugo1, rfl, .inr hSmgo1, M.sub (List.sublist_append_right ([(g2, .cells [.int .i64 s.lo, .int .i64 s.wi, .int .i64 s.a0, .int .i64 s.a1, .int .i64 s.c0, .int .i64 s.c1, .slice Augo1 s.ps.length cugo1])] : List (Nat × BA)) _)⟩
theorem sameSheets_any (s : Sk) (A : Option Addr) (c : Nat) (t : Sk) (B : Option Addr) (d : Nat)  (w : World) (hA : Rd w w.heap.size 4 A s.ps.length (pc s.ps)) (hB : Rd w w.heap.size 4 B t.ps.length (pc t.ps)) (nA : s.ps.length ≤ 1000000) (nB : t.ps.length ≤ 1000000) :
   Calls Tryd.prog 29 #[.agg #[.int .i64 s.lo, .int .i64 s.wi, .int .i64 s.a0, .int .i64 s.a1, .int .i64 s.c0, .int .i64 s.c1, .slice A s.ps.length c], .agg #[.int .i64 t.lo, .int .i64 t.wi, .int .i64 t.a0, .int .i64 t.a1, .int .i64 t.c0, .int .i64 t.c1, .slice B t.ps.length d]] w fun e w' => e = .returned (.bool (decide (s = t))) ∧ Below w.heap.size w w' := by
 obtain ⟨bA, oA, SA⟩ := Sp.old hA
 obtain ⟨bB, oB, SB⟩ := Sp.old hB
 refine px_enter noEx Tryd.func29 rfl 64 rfl [.agg #[.int .i64 s.lo, .int .i64 s.wi, .int .i64 s.a0, .int .i64 s.a1, .int .i64 s.c0, .int .i64 s.c1, .slice A s.ps.length c], .agg #[.int .i64 t.lo, .int .i64 t.wi, .int .i64 t.a0, .int .i64 t.a1, .int .i64 t.c0, .int .i64 t.c1, .slice B t.ps.length d]] rfl rfl (Mem.init w _) ?_
 intro ac wc T M
 refine wp_seq ?_
 refine wp_region_lit ?_
 refine l_w rfl ?_; intro K hK
 refine ow_bx M T rfl rfl rfl rfl (T.ev 0 rfl) rfl ?_; clear M T; intro g1 wc ac M T
 refine sh_out hK _ _ ?_; clear hK K
 refine l_w rfl ?_; intro K hK
 refine ow_bx M T rfl rfl rfl rfl (T.ev 2 rfl) rfl ?_; clear M T; intro g2 wc ac M T
 refine sh_out hK _ _ ?_; clear hK K
 refine lq T (rn_assign rfl evc) ?_; clear T ac; intro ac T
 refine wpList_nil ?_
 replace T := T.pick [1, 2] rfl
 refine nm_then ?_
 refine cut_seq (fun ac wc => Tm ac 64 [(2, .pointer (some ⟨g1, 0, none⟩)), (3, .pointer (some ⟨g2, 0, none⟩)), (5, .bool ((decide (s.lo = t.lo)) && ((decide (s.wi = t.wi)) && (((decide (s.a0 = t.a0)) && (decide (s.a1 = t.a1))) && (((decide (s.c0 = t.c0)) && (decide (s.c1 = t.c1))) && (decide (((s.ps.length : Nat) : Int) = ((t.ps.length : Nat) : Int))))))))] ∧ Mem w noEx wc [(g2, .cells [.int .i64 t.lo, .int .i64 t.wi, .int .i64 t.a0, .int .i64 t.a1, .int .i64 t.c0, .int .i64 t.c1, .slice B t.ps.length d]), (g1, .cells [.int .i64 s.lo, .int .i64 s.wi, .int .i64 s.a0, .int .i64 s.a1, .int .i64 s.c0, .int .i64 s.c1, .slice A s.ps.length c])]) ?_ ?_
 ·refine wp_region_lit ?_
  refine lq (v := (.pointer (some ⟨g1, 0, none⟩))) T (rn_fieldAddr (off := 0) rfl (T.ev 1 rfl) (fun _ _ _ => by kernel_rfl)) ?_; clear T ac; intro ac T
  refine lq T (rn_one (Mem.nth M 1 rfl) rfl (T.ev 0 rfl) rfl) ?_; clear T ac; intro ac T
  refine lq (v := (.pointer (some ⟨g2, 0, none⟩))) T (rn_fieldAddr (off := 0) rfl (T.ev 2 rfl) (fun _ _ _ => by kernel_rfl)) ?_; clear T ac; intro ac T
  refine lq T (rn_one (Mem.nth M 0 rfl) rfl (T.ev 0 rfl) rfl) ?_; clear T ac; intro ac T
  refine lq T (rn_eql rfl (T.ev 2 rfl) (T.ev 0 rfl)) ?_; clear T ac; intro ac T
  refine lq T (rn_move rfl (T.ev 0 rfl)) ?_; clear T ac; intro ac T
  rcases Bool.eq_false_or_eq_true (decide (s.lo = t.lo)) with h1 | h1
  ·replace h1 := of_decide_eq_true h1
   refine lw (v := (.pointer (some ⟨g1, 1, none⟩))) T (wanted_yes rfl rfl (T.ev 0 rfl) (decide_eq_true h1)) (rn_fieldAddr (off := 1) rfl (T.ev 7 rfl) (fun _ _ _ => by kernel_rfl)) ?_; clear T ac; intro ac T
   refine lw T (wanted_yes rfl rfl (T.ev 1 rfl) (decide_eq_true h1)) (rn_one (Mem.nth M 1 rfl) rfl (T.ev 0 rfl) rfl) ?_; clear T ac; intro ac T
   refine lw (v := (.pointer (some ⟨g2, 1, none⟩))) T (wanted_yes rfl rfl (T.ev 2 rfl) (decide_eq_true h1)) (rn_fieldAddr (off := 1) rfl (T.ev 8 rfl) (fun _ _ _ => by kernel_rfl)) ?_; clear T ac; intro ac T
   refine lw T (wanted_yes rfl rfl (T.ev 3 rfl) (decide_eq_true h1)) (rn_one (Mem.nth M 0 rfl) rfl (T.ev 0 rfl) rfl) ?_; clear T ac; intro ac T
   refine lw T (wanted_yes rfl rfl (T.ev 4 rfl) (decide_eq_true h1)) (rn_eql rfl (T.ev 2 rfl) (T.ev 0 rfl)) ?_; clear T ac; intro ac T
   refine lq T (rn_pick1 rfl (T.ev 5 rfl) (decide_eq_true h1) (T.ev 0 rfl)) ?_; clear T ac; intro ac T
   refine lq T (rn_move rfl (T.ev 0 rfl)) ?_; clear T ac; intro ac T
   rcases Bool.eq_false_or_eq_true (decide (s.wi = t.wi)) with h2 | h2
   ·replace h2 := of_decide_eq_true h2
    refine lw (v := (.pointer (some ⟨g1, 2, none⟩))) T (wanted_yes rfl rfl (T.ev 0 rfl) (decide_eq_true h2)) (rn_fieldAddr (off := 2) rfl (T.ev 14 rfl) (fun _ _ _ => by kernel_rfl)) ?_; clear T ac; intro ac T
    refine lw T (wanted_yes rfl rfl (T.ev 1 rfl) (decide_eq_true h2)) (rn_rowO (Mem.nth M 1 rfl) rfl (T.ev 0 rfl) rfl) ?_; clear T ac; intro ac T
    refine lw (v := (.pointer (some ⟨g2, 2, none⟩))) T (wanted_yes rfl rfl (T.ev 2 rfl) (decide_eq_true h2)) (rn_fieldAddr (off := 2) rfl (T.ev 15 rfl) (fun _ _ _ => by kernel_rfl)) ?_; clear T ac; intro ac T
    refine lw T (wanted_yes rfl rfl (T.ev 3 rfl) (decide_eq_true h2)) (rn_rowO (Mem.nth M 0 rfl) rfl (T.ev 0 rfl) rfl) ?_; clear T ac; intro ac T
    refine lw (v := (.bool ((decide (s.a0 = t.a0)) && (decide (s.a1 = t.a1))))) T (wanted_yes rfl rfl (T.ev 4 rfl) (decide_eq_true h2)) (rn_bin rfl (T.ev 2 rfl) (T.ev 0 rfl) eqT23) ?_; clear T ac; intro ac T
    refine lq T (rn_pick1 rfl (T.ev 5 rfl) (decide_eq_true h2) (T.ev 0 rfl)) ?_; clear T ac; intro ac T
    refine lq T (rn_move rfl (T.ev 0 rfl)) ?_; clear T ac; intro ac T
    rcases Bool.eq_false_or_eq_true ((decide (s.a0 = t.a0)) && (decide (s.a1 = t.a1))) with h3 | h3
    ·refine lw (v := (.pointer (some ⟨g1, 4, none⟩))) T (wanted_yes rfl rfl (T.ev 0 rfl) h3) (rn_fieldAddr (off := 4) rfl (T.ev 21 rfl) (fun _ _ _ => by kernel_rfl)) ?_; clear T ac; intro ac T
     refine lw T (wanted_yes rfl rfl (T.ev 1 rfl) h3) (rn_rowO (Mem.nth M 1 rfl) rfl (T.ev 0 rfl) rfl) ?_; clear T ac; intro ac T
     refine lw (v := (.pointer (some ⟨g2, 4, none⟩))) T (wanted_yes rfl rfl (T.ev 2 rfl) h3) (rn_fieldAddr (off := 4) rfl (T.ev 22 rfl) (fun _ _ _ => by kernel_rfl)) ?_; clear T ac; intro ac T
     refine lw T (wanted_yes rfl rfl (T.ev 3 rfl) h3) (rn_rowO (Mem.nth M 0 rfl) rfl (T.ev 0 rfl) rfl) ?_; clear T ac; intro ac T
     refine lw (v := (.bool ((decide (s.c0 = t.c0)) && (decide (s.c1 = t.c1))))) T (wanted_yes rfl rfl (T.ev 4 rfl) h3) (rn_bin rfl (T.ev 2 rfl) (T.ev 0 rfl) eqT23) ?_; clear T ac; intro ac T
     refine lq T (rn_pick1 rfl (T.ev 5 rfl) h3 (T.ev 0 rfl)) ?_; clear T ac; intro ac T
     refine lq T (rn_move rfl (T.ev 0 rfl)) ?_; clear T ac; intro ac T
     rcases Bool.eq_false_or_eq_true ((decide (s.c0 = t.c0)) && (decide (s.c1 = t.c1))) with h4 | h4
     ·refine lw (v := (.pointer (some ⟨g1, 6, none⟩))) T (wanted_yes rfl rfl (T.ev 0 rfl) h4) (rn_fieldAddr (off := 6) rfl (T.ev 28 rfl) (fun _ _ _ => by kernel_rfl)) ?_; clear T ac; intro ac T
      refine lw T (wanted_yes rfl rfl (T.ev 1 rfl) h4) (rn_one (Mem.nth M 1 rfl) rfl (T.ev 0 rfl) rfl) ?_; clear T ac; intro ac T
      refine lw T (wanted_yes rfl rfl (T.ev 2 rfl) h4) (rn_lenS rfl Tryd.underlying24 (T.ev 0 rfl)) ?_; clear T ac; intro ac T
      refine lw (v := (.pointer (some ⟨g2, 6, none⟩))) T (wanted_yes rfl rfl (T.ev 3 rfl) h4) (rn_fieldAddr (off := 6) rfl (T.ev 30 rfl) (fun _ _ _ => by kernel_rfl)) ?_; clear T ac; intro ac T
      refine lw T (wanted_yes rfl rfl (T.ev 4 rfl) h4) (rn_one (Mem.nth M 0 rfl) rfl (T.ev 0 rfl) rfl) ?_; clear T ac; intro ac T
      refine lw T (wanted_yes rfl rfl (T.ev 5 rfl) h4) (rn_lenS rfl Tryd.underlying24 (T.ev 0 rfl)) ?_; clear T ac; intro ac T
      refine lw T (wanted_yes rfl rfl (T.ev 6 rfl) h4) (rn_eql rfl (T.ev 3 rfl) (T.ev 0 rfl)) ?_; clear T ac; intro ac T
      refine lq T (rn_pick1 rfl (T.ev 7 rfl) h4 (T.ev 0 rfl)) ?_; clear T ac; intro ac T
      refine lq T (rn_assign rfl (T.ev 0 rfl)) ?_; clear T ac; intro ac T
      refine wpList_nil ?_
      replace T := T.pick [0, 36, 37] rfl
      exact ⟨(T.pick (E' := [(2, .pointer (some ⟨g1, 0, none⟩)), (3, .pointer (some ⟨g2, 0, none⟩)), (5, .bool (decide (((s.ps.length : Nat) : Int) = ((t.ps.length : Nat) : Int))))]) [2, 1, 0] rfl).as (by (try rw [show (decide (s.lo = t.lo)) = true from (decide_eq_true h1)]); (try rw [show (decide (s.wi = t.wi)) = true from (decide_eq_true h2)]); (try rw [show ((decide (s.a0 = t.a0)) && (decide (s.a1 = t.a1))) = true from h3]); (try rw [show ((decide (s.c0 = t.c0)) && (decide (s.c1 = t.c1))) = true from h4]); (try rfl)), M.mask [true, true] rfl⟩
     refine lp T (wanted_no rfl rfl (T.ev 0 rfl) h4) ?_; clear T ac; intro ac T
     refine lp T (wanted_no rfl rfl (T.ev 1 rfl) h4) ?_; clear T ac; intro ac T
     refine lp T (wanted_no rfl rfl (T.ev 2 rfl) h4) ?_; clear T ac; intro ac T
     refine lp T (wanted_no rfl rfl (T.ev 3 rfl) h4) ?_; clear T ac; intro ac T
     refine lp T (wanted_no rfl rfl (T.ev 4 rfl) h4) ?_; clear T ac; intro ac T
     refine lp T (wanted_no rfl rfl (T.ev 5 rfl) h4) ?_; clear T ac; intro ac T
     refine lp T (wanted_no rfl rfl (T.ev 6 rfl) h4) ?_; clear T ac; intro ac T
     refine lq T (rn_pick0 rfl (T.ev 7 rfl) h4 evc) ?_; clear T ac; intro ac T
     refine lq T (rn_assign rfl (T.ev 0 rfl)) ?_; clear T ac; intro ac T
     refine wpList_nil ?_
     replace T := T.pick [0, 36, 37] rfl
     exact ⟨(T.pick (E' := [(2, .pointer (some ⟨g1, 0, none⟩)), (3, .pointer (some ⟨g2, 0, none⟩)), (5, .bool false)]) [2, 1, 0] rfl).as (by (try rw [show (decide (s.lo = t.lo)) = true from (decide_eq_true h1)]); (try rw [show (decide (s.wi = t.wi)) = true from (decide_eq_true h2)]); (try rw [show ((decide (s.a0 = t.a0)) && (decide (s.a1 = t.a1))) = true from h3]); (try rw [show ((decide (s.c0 = t.c0)) && (decide (s.c1 = t.c1))) = false from h4]); (try rfl)), M.mask [true, true] rfl⟩
    refine lp T (wanted_no rfl rfl (T.ev 0 rfl) h3) ?_; clear T ac; intro ac T
    refine lp T (wanted_no rfl rfl (T.ev 1 rfl) h3) ?_; clear T ac; intro ac T
    refine lp T (wanted_no rfl rfl (T.ev 2 rfl) h3) ?_; clear T ac; intro ac T
    refine lp T (wanted_no rfl rfl (T.ev 3 rfl) h3) ?_; clear T ac; intro ac T
    refine lp T (wanted_no rfl rfl (T.ev 4 rfl) h3) ?_; clear T ac; intro ac T
    refine lq T (rn_pick0 rfl (T.ev 5 rfl) h3 evc) ?_; clear T ac; intro ac T
    refine lq T (rn_move rfl (T.ev 0 rfl)) ?_; clear T ac; intro ac T
    refine lp T (wanted_no rfl rfl (T.ev 0 rfl) rfl) ?_; clear T ac; intro ac T
    refine lp T (wanted_no rfl rfl (T.ev 1 rfl) rfl) ?_; clear T ac; intro ac T
    refine lp T (wanted_no rfl rfl (T.ev 2 rfl) rfl) ?_; clear T ac; intro ac T
    refine lp T (wanted_no rfl rfl (T.ev 3 rfl) rfl) ?_; clear T ac; intro ac T
    refine lp T (wanted_no rfl rfl (T.ev 4 rfl) rfl) ?_; clear T ac; intro ac T
    refine lp T (wanted_no rfl rfl (T.ev 5 rfl) rfl) ?_; clear T ac; intro ac T
    refine lp T (wanted_no rfl rfl (T.ev 6 rfl) rfl) ?_; clear T ac; intro ac T
    refine lq T (rn_pick0 rfl (T.ev 7 rfl) rfl evc) ?_; clear T ac; intro ac T
    refine lq T (rn_assign rfl (T.ev 0 rfl)) ?_; clear T ac; intro ac T
    refine wpList_nil ?_
    replace T := T.pick [0, 36, 37] rfl
    exact ⟨(T.pick (E' := [(2, .pointer (some ⟨g1, 0, none⟩)), (3, .pointer (some ⟨g2, 0, none⟩)), (5, .bool false)]) [2, 1, 0] rfl).as (by (try rw [show (decide (s.lo = t.lo)) = true from (decide_eq_true h1)]); (try rw [show (decide (s.wi = t.wi)) = true from (decide_eq_true h2)]); (try rw [show ((decide (s.a0 = t.a0)) && (decide (s.a1 = t.a1))) = false from h3]); (try rfl)), M.mask [true, true] rfl⟩
   replace h2 := of_decide_eq_false h2
   refine lp T (wanted_no rfl rfl (T.ev 0 rfl) (decide_eq_false h2)) ?_; clear T ac; intro ac T
   refine lp T (wanted_no rfl rfl (T.ev 1 rfl) (decide_eq_false h2)) ?_; clear T ac; intro ac T
   refine lp T (wanted_no rfl rfl (T.ev 2 rfl) (decide_eq_false h2)) ?_; clear T ac; intro ac T
   refine lp T (wanted_no rfl rfl (T.ev 3 rfl) (decide_eq_false h2)) ?_; clear T ac; intro ac T
   refine lp T (wanted_no rfl rfl (T.ev 4 rfl) (decide_eq_false h2)) ?_; clear T ac; intro ac T
   refine lq T (rn_pick0 rfl (T.ev 5 rfl) (decide_eq_false h2) evc) ?_; clear T ac; intro ac T
   refine lq T (rn_move rfl (T.ev 0 rfl)) ?_; clear T ac; intro ac T
   refine lp T (wanted_no rfl rfl (T.ev 0 rfl) rfl) ?_; clear T ac; intro ac T
   refine lp T (wanted_no rfl rfl (T.ev 1 rfl) rfl) ?_; clear T ac; intro ac T
   refine lp T (wanted_no rfl rfl (T.ev 2 rfl) rfl) ?_; clear T ac; intro ac T
   refine lp T (wanted_no rfl rfl (T.ev 3 rfl) rfl) ?_; clear T ac; intro ac T
   refine lp T (wanted_no rfl rfl (T.ev 4 rfl) rfl) ?_; clear T ac; intro ac T
   refine lq T (rn_pick0 rfl (T.ev 5 rfl) rfl evc) ?_; clear T ac; intro ac T
   refine lq T (rn_move rfl (T.ev 0 rfl)) ?_; clear T ac; intro ac T
   refine lp T (wanted_no rfl rfl (T.ev 0 rfl) rfl) ?_; clear T ac; intro ac T
   refine lp T (wanted_no rfl rfl (T.ev 1 rfl) rfl) ?_; clear T ac; intro ac T
   refine lp T (wanted_no rfl rfl (T.ev 2 rfl) rfl) ?_; clear T ac; intro ac T
   refine lp T (wanted_no rfl rfl (T.ev 3 rfl) rfl) ?_; clear T ac; intro ac T
   refine lp T (wanted_no rfl rfl (T.ev 4 rfl) rfl) ?_; clear T ac; intro ac T
   refine lp T (wanted_no rfl rfl (T.ev 5 rfl) rfl) ?_; clear T ac; intro ac T
   refine lp T (wanted_no rfl rfl (T.ev 6 rfl) rfl) ?_; clear T ac; intro ac T
   refine lq T (rn_pick0 rfl (T.ev 7 rfl) rfl evc) ?_; clear T ac; intro ac T
   refine lq T (rn_assign rfl (T.ev 0 rfl)) ?_; clear T ac; intro ac T
   refine wpList_nil ?_
   replace T := T.pick [0, 36, 37] rfl
   exact ⟨(T.pick (E' := [(2, .pointer (some ⟨g1, 0, none⟩)), (3, .pointer (some ⟨g2, 0, none⟩)), (5, .bool false)]) [2, 1, 0] rfl).as (by (try rw [show (decide (s.lo = t.lo)) = true from (decide_eq_true h1)]); (try rw [show (decide (s.wi = t.wi)) = false from (decide_eq_false h2)]); (try rfl)), M.mask [true, true] rfl⟩
  replace h1 := of_decide_eq_false h1
  refine lp T (wanted_no rfl rfl (T.ev 0 rfl) (decide_eq_false h1)) ?_; clear T ac; intro ac T
  refine lp T (wanted_no rfl rfl (T.ev 1 rfl) (decide_eq_false h1)) ?_; clear T ac; intro ac T
  refine lp T (wanted_no rfl rfl (T.ev 2 rfl) (decide_eq_false h1)) ?_; clear T ac; intro ac T
  refine lp T (wanted_no rfl rfl (T.ev 3 rfl) (decide_eq_false h1)) ?_; clear T ac; intro ac T
  refine lp T (wanted_no rfl rfl (T.ev 4 rfl) (decide_eq_false h1)) ?_; clear T ac; intro ac T
  refine lq T (rn_pick0 rfl (T.ev 5 rfl) (decide_eq_false h1) evc) ?_; clear T ac; intro ac T
  refine lq T (rn_move rfl (T.ev 0 rfl)) ?_; clear T ac; intro ac T
  refine lp T (wanted_no rfl rfl (T.ev 0 rfl) rfl) ?_; clear T ac; intro ac T
  refine lp T (wanted_no rfl rfl (T.ev 1 rfl) rfl) ?_; clear T ac; intro ac T
  refine lp T (wanted_no rfl rfl (T.ev 2 rfl) rfl) ?_; clear T ac; intro ac T
  refine lp T (wanted_no rfl rfl (T.ev 3 rfl) rfl) ?_; clear T ac; intro ac T
  refine lp T (wanted_no rfl rfl (T.ev 4 rfl) rfl) ?_; clear T ac; intro ac T
  refine lq T (rn_pick0 rfl (T.ev 5 rfl) rfl evc) ?_; clear T ac; intro ac T
  refine lq T (rn_move rfl (T.ev 0 rfl)) ?_; clear T ac; intro ac T
  refine lp T (wanted_no rfl rfl (T.ev 0 rfl) rfl) ?_; clear T ac; intro ac T
  refine lp T (wanted_no rfl rfl (T.ev 1 rfl) rfl) ?_; clear T ac; intro ac T
  refine lp T (wanted_no rfl rfl (T.ev 2 rfl) rfl) ?_; clear T ac; intro ac T
  refine lp T (wanted_no rfl rfl (T.ev 3 rfl) rfl) ?_; clear T ac; intro ac T
  refine lp T (wanted_no rfl rfl (T.ev 4 rfl) rfl) ?_; clear T ac; intro ac T
  refine lq T (rn_pick0 rfl (T.ev 5 rfl) rfl evc) ?_; clear T ac; intro ac T
  refine lq T (rn_move rfl (T.ev 0 rfl)) ?_; clear T ac; intro ac T
  refine lp T (wanted_no rfl rfl (T.ev 0 rfl) rfl) ?_; clear T ac; intro ac T
  refine lp T (wanted_no rfl rfl (T.ev 1 rfl) rfl) ?_; clear T ac; intro ac T
  refine lp T (wanted_no rfl rfl (T.ev 2 rfl) rfl) ?_; clear T ac; intro ac T
  refine lp T (wanted_no rfl rfl (T.ev 3 rfl) rfl) ?_; clear T ac; intro ac T
  refine lp T (wanted_no rfl rfl (T.ev 4 rfl) rfl) ?_; clear T ac; intro ac T
  refine lp T (wanted_no rfl rfl (T.ev 5 rfl) rfl) ?_; clear T ac; intro ac T
  refine lp T (wanted_no rfl rfl (T.ev 6 rfl) rfl) ?_; clear T ac; intro ac T
  refine lq T (rn_pick0 rfl (T.ev 7 rfl) rfl evc) ?_; clear T ac; intro ac T
  refine lq T (rn_assign rfl (T.ev 0 rfl)) ?_; clear T ac; intro ac T
  refine wpList_nil ?_
  replace T := T.pick [0, 36, 37] rfl
  exact ⟨(T.pick (E' := [(2, .pointer (some ⟨g1, 0, none⟩)), (3, .pointer (some ⟨g2, 0, none⟩)), (5, .bool false)]) [2, 1, 0] rfl).as (by (try rw [show (decide (s.lo = t.lo)) = false from (decide_eq_false h1)]); (try rfl)), M.mask [true, true] rfl⟩
 clear T M
 rintro ac wc ⟨T, M⟩
 refine wp_seq ?_
 refine wp_seq ?_
 refine wp_region_lit ?_
 refine lq T (rn_assign rfl evc) ?_; clear T ac; intro ac T
 refine wpList_nil ?_
 refine nm_then ?_
 refine wp_block ?_
 refine wp_loop_n (fun mz ac wc => ∃ (i : Nat) (sm : Bool), mz = s.ps.length - i ∧ (i ≤ s.ps.length) ∧ (sm = true ↔ eqF s t ∧ s.ps.take i = t.ps.take i) ∧ Tm ac 64 [(2, .pointer (some ⟨g1, 0, none⟩)), (3, .pointer (some ⟨g2, 0, none⟩)), (5, .bool sm), (6, .int .i64 (i : Int))] ∧ Mem w noEx wc [(g2, .cells [.int .i64 t.lo, .int .i64 t.wi, .int .i64 t.a0, .int .i64 t.a1, .int .i64 t.c0, .int .i64 t.c1, .slice B t.ps.length d]), (g1, .cells [.int .i64 s.lo, .int .i64 s.wi, .int .i64 s.a0, .int .i64 s.a1, .int .i64 s.c0, .int .i64 s.c1, .slice A s.ps.length c])]) ?_ ?_
 ·exact ⟨_, 0, _, rfl, (Nat.zero_le _), (by unfold eqF; simp [and_assoc, Int.natCast_inj]), T.pick [1, 2, 3, 0] rfl, M.mask [true, true] rfl⟩
 clear T M
 rintro mz ac wc ⟨i, sm, hmm1, hi, hs, T, M⟩
 refine wp_seq ?_
 refine cut_seq (fun ac wc => Tm ac 64 [(2, .pointer (some ⟨g1, 0, none⟩)), (3, .pointer (some ⟨g2, 0, none⟩)), (5, .bool sm), (6, .int .i64 (i : Int)), (49, .bool (sm && (decide ((i : Int) < ((s.ps.length : Nat) : Int)))))] ∧ Mem w noEx wc [(g2, .cells [.int .i64 t.lo, .int .i64 t.wi, .int .i64 t.a0, .int .i64 t.a1, .int .i64 t.c0, .int .i64 t.c1, .slice B t.ps.length d]), (g1, .cells [.int .i64 s.lo, .int .i64 s.wi, .int .i64 s.a0, .int .i64 s.a1, .int .i64 s.c0, .int .i64 s.c1, .slice A s.ps.length c])]) ?_ ?_
 ·refine wp_region_lit ?_
  refine lq T (rn_move rfl (T.ev 2 rfl)) ?_; clear T ac; intro ac T
  refine lq T (rn_move rfl (T.ev 0 rfl)) ?_; clear T ac; intro ac T
  rcases Bool.eq_false_or_eq_true sm with h5 | h5
  ·refine lw T (wanted_yes rfl rfl (T.ev 0 rfl) h5) (rn_move rfl (T.ev 5 rfl)) ?_; clear T ac; intro ac T
   refine lw (v := (.pointer (some ⟨g1, 6, none⟩))) T (wanted_yes rfl rfl (T.ev 1 rfl) h5) (rn_fieldAddr (off := 6) rfl (T.ev 3 rfl) (fun _ _ _ => by kernel_rfl)) ?_; clear T ac; intro ac T
   refine lw T (wanted_yes rfl rfl (T.ev 2 rfl) h5) (rn_one (Mem.nth M 1 rfl) rfl (T.ev 0 rfl) rfl) ?_; clear T ac; intro ac T
   refine lw T (wanted_yes rfl rfl (T.ev 3 rfl) h5) (rn_lenS rfl Tryd.underlying24 (T.ev 0 rfl)) ?_; clear T ac; intro ac T
   refine lw T (wanted_yes rfl rfl (T.ev 4 rfl) h5) (rn_lss rfl (T.ev 3 rfl) (T.ev 0 rfl)) ?_; clear T ac; intro ac T
   refine lq T (rn_pick1 rfl (T.ev 5 rfl) h5 (T.ev 0 rfl)) ?_; clear T ac; intro ac T
   refine wpList_nil ?_
   replace T := T.pick [0, 1, 2, 3, 4, 5, 8, 9, 10, 11] rfl
   exact ⟨(T.pick (E' := [(2, .pointer (some ⟨g1, 0, none⟩)), (3, .pointer (some ⟨g2, 0, none⟩)), (5, .bool sm), (6, .int .i64 (i : Int)), (49, .bool (decide ((i : Int) < ((s.ps.length : Nat) : Int))))]) [6, 7, 8, 9, 0] rfl).as (by (try rw [show sm = true from h5]); (try rfl)), M.mask [true, true] rfl⟩
  refine lp T (wanted_no rfl rfl (T.ev 0 rfl) h5) ?_; clear T ac; intro ac T
  refine lp T (wanted_no rfl rfl (T.ev 1 rfl) h5) ?_; clear T ac; intro ac T
  refine lp T (wanted_no rfl rfl (T.ev 2 rfl) h5) ?_; clear T ac; intro ac T
  refine lp T (wanted_no rfl rfl (T.ev 3 rfl) h5) ?_; clear T ac; intro ac T
  refine lp T (wanted_no rfl rfl (T.ev 4 rfl) h5) ?_; clear T ac; intro ac T
  refine lq T (rn_pick0 rfl (T.ev 5 rfl) h5 evc) ?_; clear T ac; intro ac T
  refine wpList_nil ?_
  replace T := T.pick [0, 1, 2, 3, 4, 5, 8, 9, 10, 11] rfl
  exact ⟨(T.pick (E' := [(2, .pointer (some ⟨g1, 0, none⟩)), (3, .pointer (some ⟨g2, 0, none⟩)), (5, .bool sm), (6, .int .i64 (i : Int)), (49, .bool false)]) [6, 7, 8, 9, 0] rfl).as (by (try rw [show sm = false from h5]); (try rfl)), M.mask [true, true] rfl⟩
 clear T M
 rintro ac wc ⟨T, M⟩
 refine wp_cond_split (T.ev 4 rfl) ?_ ?_
 ·intro h6
  (try have h6' := h6; try simp only [Bool.and_eq_true, Bool.or_eq_true, Bool.not_eq_true', Bool.and_eq_false_imp, Bool.or_eq_false_iff, decide_eq_true_eq, decide_eq_false_iff_not] at h6')
  have hlr : sm = true ∧ i < s.ps.length := by simpa using h6
  have heF := (hs.1 hlr.1).1
  have hlen := heF.2.2.2.2
  have htk := (hs.1 hlr.1).2
  obtain ⟨p, hkp, -⟩ := pc_next (l := s.ps) (k := i) (by omega)
  obtain ⟨q, hkq, -⟩ := pc_next (l := t.ps) (k := i) (by omega)
  refine wp_skip ?_
  refine nm_then ?_
  refine wp_seq ?_
  refine wp_block ?_
  refine g_start2 M (M.mask [true, true] rfl) 12 (by kernel_rfl) rfl (by kernel_rfl) ?_
  clear M; intro wc M
  refine gq (v := (.pointer (some ⟨g1, 6, none⟩))) T 0 1 rfl (fun _ _ _ _ _ => (rn_fieldAddr (off := 6) rfl (T.ev 0 rfl) (fun _ _ _ => by kernel_rfl))) ?_; clear T ac; intro ac T
  refine gq T 1 3 rfl (fun B w' hD hl hS => (rn_one (Mem.nth (show Mem w noEx w' _ from hS) 1 rfl) rfl (T.ev 0 rfl) rfl)) ?_; clear T ac; intro ac T
  refine gq T 2 7 rfl (fun _ _ _ _ _ => (rn_move rfl (T.ev 5 rfl))) ?_; clear T ac; intro ac T
  refine gq T 3 15 rfl (fun _ _ _ _ _ => (rn_indexAddr (size := 4) i rfl (T.ev 1 rfl) (T.ev 0 rfl) ⟨_, Tryd.underlying24, by kernel_rfl⟩ rfl (by omega) (SA.at0 (by omega)))) ?_; clear T ac; intro ac T
  refine gq (v := (.agg #[.int .i64 p.l, .int .i64 p.w, .bool p.gr, .int .i64 p.pa])) T 4 31 rfl (fun B w' hD hl hS => (rn_rowat (Sp.pcR SA (show Mem w noEx w' _ from hS) (List.nil_sublist _) hkp) rfl (T.ev 0 rfl) rfl)) ?_; clear T ac; intro ac T
  refine gq (v := (.pointer (some ⟨g2, 6, none⟩))) T 5 63 rfl (fun _ _ _ _ _ => (rn_fieldAddr (off := 6) rfl (T.ev 6 rfl) (fun _ _ _ => by kernel_rfl))) ?_; clear T ac; intro ac T
  refine gq T 6 127 rfl (fun B w' hD hl hS => (rn_one (Mem.nth (show Mem w noEx w' _ from hS) 0 rfl) rfl (T.ev 0 rfl) rfl)) ?_; clear T ac; intro ac T
  refine gq T 7 255 rfl (fun _ _ _ _ _ => (rn_move rfl (T.ev 10 rfl))) ?_; clear T ac; intro ac T
  refine gq T 8 511 rfl (fun _ _ _ _ _ => (rn_indexAddr (size := 4) i rfl (T.ev 1 rfl) (T.ev 0 rfl) ⟨_, Tryd.underlying24, by kernel_rfl⟩ rfl (by omega) (SB.at0 (by omega)))) ?_; clear T ac; intro ac T
  refine gq (v := (.agg #[.int .i64 q.l, .int .i64 q.w, .bool q.gr, .int .i64 q.pa])) T 9 1023 rfl (fun B w' hD hl hS => (rn_rowat (Sp.pcR SB (show Mem w noEx w' _ from hS) (List.nil_sublist _) hkq) rfl (T.ev 0 rfl) rfl)) ?_; clear T ac; intro ac T
  refine gq (v := (.bool ((decide (p.l = q.l)) && ((decide (p.w = q.w)) && ((decide (p.gr = q.gr)) && (decide (p.pa = q.pa))))))) T 10 2047 rfl (fun _ _ _ _ _ => (rn_bin rfl (T.ev 5 rfl) (T.ev 0 rfl) eqT63)) ?_; clear T ac; intro ac T
  refine g_q (v := (.bool ((decide (p.l = q.l)) && ((decide (p.w = q.w)) && ((decide (p.gr = q.gr)) && (decide (p.pa = q.pa))))))) (T := T.pick [0, 1, 2, 3, 4, 5, 6, 7, 8, 9, 10, 11, 12, 14, 15] rfl) (i := 11) rfl (by kernel_rfl) (by kernel_rfl : (pbits 12 2047).setIfInBounds 11 true = pbits 12 4095) si_U (fun _ _ _ h => h) rfl rfl rfl rfl (fun _ _ _ _ _ => (rn_assign rfl (T.ev 0 rfl))) ?_; clear T ac; intro ac T
  refine g_done (by kernel_rfl) ?_
  replace T := T.pick [0, 12, 13, 14] rfl
  refine nm_blk ?_
  refine nm_then ?_
  refine wp_region_lit ?_
  refine lq T (rn_move rfl (T.ev 3 rfl)) ?_; clear T ac; intro ac T
  refine lq T (rn_add rfl (T.ev 0 rfl) evc (by omega)) ?_; clear T ac; intro ac T
  refine l_q (v := (.int .i64 ((i : Int) + 1))) (T.pick [0, 1, 2, 3, 4] rfl) rfl rfl rfl rfl (rn_assign rfl (T.ev 0 rfl)) ?_; clear T ac; intro ac T
  refine wpList_nil ?_
  replace T := T.pick [0, 3, 4, 5] rfl
  refine nm_then ?_
  exact ⟨_, by omega, i + 1, ((decide (p.l = q.l)) && ((decide (p.w = q.w)) && ((decide (p.gr = q.gr)) && (decide (p.pa = q.pa))))), rfl, (by omega), (by rw [take_same hkp hkq]; cases p; cases q; simp [heF, htk]), T.pick [2, 3, 1, 0] rfl, M.mask [true, true] rfl⟩
 intro h6
 (try have h6' := h6; try simp only [Bool.and_eq_true, Bool.or_eq_true, Bool.not_eq_true', Bool.and_eq_false_imp, Bool.or_eq_false_iff, decide_eq_true_eq, decide_eq_false_iff_not] at h6')
 refine wp_exit ?_
 refine ex_then ?_
 refine ex_then ?_
 refine ex_hit ?_
 refine nm_then ?_
 refine wp_seq ?_
 refine wp_region_lit ?_
 refine lq T (rn_move rfl (T.ev 2 rfl)) ?_; clear T ac; intro ac T
 refine lq T (rn_assign rfl (T.ev 0 rfl)) ?_; clear T ac; intro ac T
 refine wpList_nil ?_
 replace T := T.pick [0] rfl
 replace M := M.mask [false, false] rfl
 refine nm_then ?_
 refine wp_ret ?_
 refine rt_1 T rfl (T.ev 0 rfl) ?_
 have e9 : sm = decide (s = t) := by
   rw [Bool.eq_iff_iff, decide_eq_true_eq]
   constructor
   · intro hsm
     obtain ⟨⟨k1, k2, ⟨k3, k4⟩, ⟨k5, k6⟩, k7⟩, k8⟩ := hs.1 hsm
     have hi9 : ¬ i < s.ps.length := by simpa [hsm] using h6
     rw [List.take_of_length_le (by omega), List.take_of_length_le (by omega)] at k8
     cases s; cases t; simp_all
   · rintro rfl
     exact hs.2 ⟨⟨rfl, rfl, ⟨rfl, rfl⟩, ⟨rfl, rfl⟩, rfl⟩, rfl⟩
 rw [e9]
 exact ⟨rfl, M.below⟩
def szE (s : Sk) (k : Int) (t : Bool) : Int := if skErr s ≠ 0 then skErr s else if ¬ (0 ≤ k ∧ k ≤ (s.ps.length : Int) - 1) then 3 else if (t && (s.ps.getD k.toNat default).gr) = true then 8 else 0
def szL (s : Sk) (k : Int) (t su : Bool) : Int := if szE s k t ≠ 0 then 0 else sizeL (cutA s su) (cutC s su) (s.ps.getD k.toNat default) t
def szW (s : Sk) (k : Int) (t su : Bool) : Int := if szE s k t ≠ 0 then 0 else sizeW (cutA s su) (cutC s su) (s.ps.getD k.toNat default) t
theorem Size_any (s : Sk) (A : Option Addr) (d : Nat) (k : Int) (t su : Bool)  (w : World) (hA : Rd w w.heap.size 4 A s.ps.length (pc s.ps)) (nA : s.ps.length ≤ 1000000)  :
   Calls Tryd.prog 56 #[.agg #[.int .i64 s.lo, .int .i64 s.wi, .int .i64 s.a0, .int .i64 s.a1, .int .i64 s.c0, .int .i64 s.c1, .slice A s.ps.length d], .int .i64 k, .bool t, .bool su] w fun e w' => e = .returned (.tuple #[.int .i64 (szL s k t su), .int .i64 (szW s k t su), .int .i64 (szE s k t)]) ∧ Below w.heap.size w w' := by
 obtain ⟨bA, oA, SA⟩ := Sp.old hA
 refine px_enter noEx Tryd.func56 rfl 48 rfl [.agg #[.int .i64 s.lo, .int .i64 s.wi, .int .i64 s.a0, .int .i64 s.a1, .int .i64 s.c0, .int .i64 s.c1, .slice A s.ps.length d], .int .i64 k, .bool t, .bool su] rfl rfl (Mem.init w _) ?_
 intro ac wc T M
 refine wp_seq ?_
 refine wp_region_lit ?_
 refine l_w rfl ?_; intro K hK
 refine ow_bx M T rfl rfl rfl rfl (T.ev 0 rfl) rfl ?_; clear M T; intro g1 wc ac M T
 refine sh_out hK _ _ ?_; clear hK K
 refine lq T (rn_assign rfl evc) ?_; clear T ac; intro ac T
 refine lq T (rn_assign rfl evc) ?_; clear T ac; intro ac T
 refine lq T (rn_assign rfl evc) ?_; clear T ac; intro ac T
 refine wpList_nil ?_
 replace T := T.pick [3, 5, 6, 7] rfl
 refine nm_then ?_
 refine wp_seq ?_
 refine wp_seq ?_
 refine wp_region_lit ?_
 refine lq T (rn_rowO (Mem.nth M 0 rfl) rfl (T.ev 0 rfl) rfl) ?_; clear T ac; intro ac T
 refine l_w rfl ?_; intro K hK
 refine ow_call (first := []) (cap := []) T rfl rfl rfl rfl evf (.cons (T.ev 0 rfl) .nil) Tryd.func60 rfl rfl ?_
 refine Calls.mono (skCheck_any s A d _ (SA.rd M (List.nil_sublist _)) (by omega)) ?_
 clear T
 rintro e wc ⟨rfl, hb⟩
 intro ac T
 replace M := M.call hb; clear hb
 refine sh_out hK _ _ ?_; clear hK K
 refine lq T (rn_assign rfl (T.ev 0 rfl)) ?_; clear T ac; intro ac T
 refine wpList_nil ?_
 replace T := T.pick [0, 3, 4, 5, 6] rfl
 refine nm_then ?_
 refine wp_seq ?_
 refine wp_region_lit ?_
 refine lq T (rn_move rfl (T.ev 0 rfl)) ?_; clear T ac; intro ac T
 refine lq T (rn_neq rfl (T.ev 0 rfl) evc) ?_; clear T ac; intro ac T
 refine wpList_nil ?_
 replace T := T.pick [0, 2, 3, 4, 5, 6] rfl
 refine nm_then ?_
 refine wp_ifn (T.ev 0 rfl) ?_ ?_
 ·intro h1
  refine wp_seq ?_
  refine wp_region_lit ?_
  refine lq T (rn_move rfl (T.ev 1 rfl)) ?_; clear T ac; intro ac T
  refine lq T (rn_assign rfl evc) ?_; clear T ac; intro ac T
  refine lq T (rn_assign rfl evc) ?_; clear T ac; intro ac T
  refine lq T (rn_assign rfl (T.ev 2 rfl)) ?_; clear T ac; intro ac T
  refine wpList_nil ?_
  replace T := T.pick [0, 1, 2] rfl
  replace M := M.mask [false] rfl
  refine nm_then ?_
  refine wp_ret ?_
  refine rt_then ?_
  refine rt_3 T rfl (T.ev 2 rfl) (T.ev 1 rfl) (T.ev 0 rfl) ?_
  have e9 : szE s k t = skErr s := if_pos (by omega)
  have e8 : szL s k t su = 0 := if_pos (by omega)
  have e7 : szW s k t su = 0 := if_pos (by omega)
  rw [e9, e8, e7]
  exact ⟨rfl, M.below⟩
 intro h1
 have hsg := skErr_iff.1 (show skErr s = 0 by omega)
 obtain ⟨hb1, hb2, -, -, -, -⟩ := hsg
 have hsg := skErr_iff.1 (show skErr s = 0 by omega)
 refine wp_skip ?_
 refine nm_then ?_
 refine wp_seq ?_
 refine wp_seq ?_
 refine wp_region_lit ?_
 refine lq T (rn_move rfl (T.ev 3 rfl)) ?_; clear T ac; intro ac T
 refine lq (v := (.pointer (some ⟨g1, 6, none⟩))) T (rn_fieldAddr (off := 6) rfl (T.ev 3 rfl) (fun _ _ _ => by kernel_rfl)) ?_; clear T ac; intro ac T
 refine lq T (rn_one (Mem.nth M 0 rfl) rfl (T.ev 0 rfl) rfl) ?_; clear T ac; intro ac T
 refine lq T (rn_lenS rfl Tryd.underlying24 (T.ev 0 rfl)) ?_; clear T ac; intro ac T
 refine lq T (rn_sub rfl (T.ev 0 rfl) evc (by omega)) ?_; clear T ac; intro ac T
 refine l_w rfl ?_; intro K hK
 refine ow_call (first := []) (cap := []) T rfl rfl rfl rfl evf (.cons (T.ev 4 rfl) (.cons evc (.cons (T.ev 0 rfl) .nil))) Tryd.func72 rfl rfl ?_
 refine Calls.mono (sin_any k 0 (((s.ps.length : Nat) : Int) - 1) _) ?_
 clear T
 rintro e wc ⟨rfl, hb⟩
 intro ac T
 replace M := M.call hb; clear hb
 refine sh_out hK _ _ ?_; clear hK K
 refine lq T (rn_not rfl (T.ev 0 rfl)) ?_; clear T ac; intro ac T
 refine wpList_nil ?_
 replace T := T.pick [0, 9, 10, 11, 12] rfl
 refine nm_then ?_
 refine wp_cond_split (T.ev 0 rfl) ?_ ?_
 ·intro h2
  (try have h2' := h2; try simp only [Bool.and_eq_true, Bool.or_eq_true, Bool.not_eq_true', Bool.and_eq_false_imp, Bool.or_eq_false_iff, decide_eq_true_eq, decide_eq_false_iff_not] at h2')
  have hk9 : ¬ (0 ≤ k ∧ k ≤ (s.ps.length : Int) - 1) := by simp [withinB] at h2; omega
  refine wp_seq ?_
  refine wp_region_lit ?_
  refine lq T (rn_assign rfl evc) ?_; clear T ac; intro ac T
  refine lq T (rn_assign rfl evc) ?_; clear T ac; intro ac T
  refine lq T (rn_assign rfl evc) ?_; clear T ac; intro ac T
  refine wpList_nil ?_
  replace T := T.pick [0, 1, 2] rfl
  replace M := M.mask [false] rfl
  refine nm_then ?_
  refine wp_ret ?_
  refine rt_then ?_
  refine rt_3 T rfl (T.ev 2 rfl) (T.ev 1 rfl) (T.ev 0 rfl) ?_
  have e9 : szE s k t = 3 := (if_neg (by omega)).trans (if_pos hk9)
  have e8 : szL s k t su = 0 := if_pos (by omega)
  have e7 : szW s k t su = 0 := if_pos (by omega)
  rw [e9, e8, e7]
  exact ⟨rfl, M.below⟩
 intro h2
 (try have h2' := h2; try simp only [Bool.and_eq_true, Bool.or_eq_true, Bool.not_eq_true', Bool.and_eq_false_imp, Bool.or_eq_false_iff, decide_eq_true_eq, decide_eq_false_iff_not] at h2')
 have hk9 : ¬ ¬ (0 ≤ k ∧ k ≤ (s.ps.length : Int) - 1) := by simp [withinB] at h2; omega
 obtain ⟨k9, hk8⟩ : ∃ q : Nat, k = (q : Int) := ⟨k.toNat, by omega⟩
 obtain ⟨p, hkp, -⟩ := pc_next (l := s.ps) (k := k9) (by omega)
 have hpe : s.ps.getD k.toNat default = p := by rw [List.getD_eq_getElem?_getD, show k.toNat = k9 by omega, hkp]; rfl
 have hpg := hsg.ps p (List.mem_of_getElem? hkp)
 refine wp_skip ?_
 refine nm_then ?_
 refine wp_seq ?_
 refine cut_seq (fun ac wc => Tm ac 48 [(1, .int .i64 k), (2, .bool t), (3, .bool su), (4, .pointer (some ⟨g1, 0, none⟩)), (32, .bool (t && p.gr))] ∧ Mem w noEx wc [(g1, .cells [.int .i64 s.lo, .int .i64 s.wi, .int .i64 s.a0, .int .i64 s.a1, .int .i64 s.c0, .int .i64 s.c1, .slice A s.ps.length d])]) ?_ ?_
 ·refine wp_region_lit ?_
  refine lq T (rn_move rfl (T.ev 3 rfl)) ?_; clear T ac; intro ac T
  refine lq T (rn_move rfl (T.ev 0 rfl)) ?_; clear T ac; intro ac T
  rcases Bool.eq_false_or_eq_true t with h3 | h3
  ·refine lw (v := (.pointer (some ⟨g1, 6, none⟩))) T (wanted_yes rfl rfl (T.ev 0 rfl) h3) (rn_fieldAddr (off := 6) rfl (T.ev 3 rfl) (fun _ _ _ => by kernel_rfl)) ?_; clear T ac; intro ac T
   refine lw T (wanted_yes rfl rfl (T.ev 1 rfl) h3) (rn_one (Mem.nth M 0 rfl) rfl (T.ev 0 rfl) rfl) ?_; clear T ac; intro ac T
   refine lw T (wanted_yes rfl rfl (T.ev 2 rfl) h3) (rn_move rfl (T.ev 6 rfl)) ?_; clear T ac; intro ac T
   refine lw T (wanted_yes rfl rfl (T.ev 3 rfl) h3) (rn_indexAddr (size := 4) k9 rfl (T.ev 1 rfl) (T.ev 0 rfl) ⟨_, Tryd.underlying24, by kernel_rfl⟩ hk8 (by omega) (SA.at0 (by omega))) ?_; clear T ac; intro ac T
   refine lw T (wanted_yes rfl rfl (T.ev 4 rfl) h3) (rn_fieldAddr (off := 2) rfl (T.ev 0 rfl) (fun _ _ _ => by kernel_rfl)) ?_; clear T ac; intro ac T
   refine lw T (wanted_yes rfl rfl (T.ev 5 rfl) h3) (rn_cell (Sp.pcC2 SA M (List.nil_sublist _) hkp) rfl (T.ev 0 rfl)) ?_; clear T ac; intro ac T
   refine lq T (rn_pick1 rfl (T.ev 6 rfl) h3 (T.ev 0 rfl)) ?_; clear T ac; intro ac T
   refine wpList_nil ?_
   replace T := T.pick [0, 10, 11, 12, 13] rfl
   exact ⟨(T.pick (E' := [(1, .int .i64 k), (2, .bool t), (3, .bool su), (4, .pointer (some ⟨g1, 0, none⟩)), (32, .bool p.gr)]) [2, 3, 4, 1, 0] rfl).as (by (try rw [show t = true from h3]); (try rfl)), M.mask [true] rfl⟩
  refine lp T (wanted_no rfl rfl (T.ev 0 rfl) h3) ?_; clear T ac; intro ac T
  refine lp T (wanted_no rfl rfl (T.ev 1 rfl) h3) ?_; clear T ac; intro ac T
  refine lp T (wanted_no rfl rfl (T.ev 2 rfl) h3) ?_; clear T ac; intro ac T
  refine lp T (wanted_no rfl rfl (T.ev 3 rfl) h3) ?_; clear T ac; intro ac T
  refine lp T (wanted_no rfl rfl (T.ev 4 rfl) h3) ?_; clear T ac; intro ac T
  refine lp T (wanted_no rfl rfl (T.ev 5 rfl) h3) ?_; clear T ac; intro ac T
  refine lq T (rn_pick0 rfl (T.ev 6 rfl) h3 evc) ?_; clear T ac; intro ac T
  refine wpList_nil ?_
  replace T := T.pick [0, 10, 11, 12, 13] rfl
  exact ⟨(T.pick (E' := [(1, .int .i64 k), (2, .bool t), (3, .bool su), (4, .pointer (some ⟨g1, 0, none⟩)), (32, .bool false)]) [2, 3, 4, 1, 0] rfl).as (by (try rw [show t = false from h3]); (try rfl)), M.mask [true] rfl⟩
 clear T M
 rintro ac wc ⟨T, M⟩
 refine wp_cond_split (T.ev 4 rfl) ?_ ?_
 ·intro h4
  (try have h4' := h4; try simp only [Bool.and_eq_true, Bool.or_eq_true, Bool.not_eq_true', Bool.and_eq_false_imp, Bool.or_eq_false_iff, decide_eq_true_eq, decide_eq_false_iff_not] at h4')
  refine wp_seq ?_
  refine wp_region_lit ?_
  refine lq T (rn_assign rfl evc) ?_; clear T ac; intro ac T
  refine lq T (rn_assign rfl evc) ?_; clear T ac; intro ac T
  refine lq T (rn_assign rfl evc) ?_; clear T ac; intro ac T
  refine wpList_nil ?_
  replace T := T.pick [0, 1, 2] rfl
  replace M := M.mask [false] rfl
  refine nm_then ?_
  refine wp_ret ?_
  refine rt_then ?_
  refine rt_3 T rfl (T.ev 2 rfl) (T.ev 1 rfl) (T.ev 0 rfl) ?_
  have e9 : szE s k t = 8 := (if_neg (by omega)).trans ((if_neg hk9).trans (if_pos (by rw [hpe]; simp_all)))
  have e8 : szL s k t su = 0 := if_pos (by omega)
  have e7 : szW s k t su = 0 := if_pos (by omega)
  rw [e9, e8, e7]
  exact ⟨rfl, M.below⟩
 intro h4
 (try have h4' := h4; try simp only [Bool.and_eq_true, Bool.or_eq_true, Bool.not_eq_true', Bool.and_eq_false_imp, Bool.or_eq_false_iff, decide_eq_true_eq, decide_eq_false_iff_not] at h4')
 refine wp_skip ?_
 refine nm_then ?_
 refine wp_seq ?_
 refine g_start2 M (M.mask [true] rfl) 15 (by kernel_rfl) rfl (by kernel_rfl) ?_
 clear M; intro wc M
 refine gq T 0 1 rfl (fun B w' hD hl hS => (rn_rowO (Mem.nth (show Mem w noEx w' _ from hS) 0 rfl) rfl (T.ev 3 rfl) rfl)) ?_; clear T ac; intro ac T
 refine gq T 1 3 rfl (fun _ _ _ _ _ => (rn_move rfl (T.ev 3 rfl))) ?_; clear T ac; intro ac T
 refine gq (v := (.pointer (some ⟨g1, 6, none⟩))) T 3 11 rfl (fun _ _ _ _ _ => (rn_fieldAddr (off := 6) rfl (T.ev 5 rfl) (fun _ _ _ => by kernel_rfl))) ?_; clear T ac; intro ac T
 refine gq T 4 27 rfl (fun B w' hD hl hS => (rn_one (Mem.nth (show Mem w noEx w' _ from hS) 0 rfl) rfl (T.ev 0 rfl) rfl)) ?_; clear T ac; intro ac T
 refine gq T 5 59 rfl (fun _ _ _ _ _ => (rn_move rfl (T.ev 4 rfl))) ?_; clear T ac; intro ac T
 refine gq T 6 123 rfl (fun _ _ _ _ _ => (rn_indexAddr (size := 4) k9 rfl (T.ev 1 rfl) (T.ev 0 rfl) ⟨_, Tryd.underlying24, by kernel_rfl⟩ hk8 (by omega) (SA.at0 (by omega)))) ?_; clear T ac; intro ac T
 refine gq (v := (.agg #[.int .i64 p.l, .int .i64 p.w, .bool p.gr, .int .i64 p.pa])) T 7 251 rfl (fun B w' hD hl hS => (rn_rowat (Sp.pcR SA (show Mem w noEx w' _ from hS) (List.nil_sublist _) hkp) rfl (T.ev 0 rfl) rfl)) ?_; clear T ac; intro ac T
 refine gq T 8 507 rfl (fun _ _ _ _ _ => (rn_move rfl (T.ev 8 rfl))) ?_; clear T ac; intro ac T
 refine gw 2 511 ?_; intro K hK
 refine ow_call (first := []) (cap := []) T rfl rfl rfl rfl evf (.cons (T.ev 7 rfl) (.cons (T.ev 6 rfl) .nil)) Tryd.func70 rfl rfl ?_
 refine Calls.mono (cut_any s A d su _) ?_
 clear T
 rintro e wc ⟨gau3, gcu3, rfl, N⟩
 intro ac T
 obtain ⟨a, hae⟩ : ∃ q, q = cutA s su := ⟨_, rfl⟩
 obtain ⟨c, hce⟩ : ∃ q, q = cutC s su := ⟨_, rfl⟩
 rw [← hae, ← hce] at N
 obtain ⟨ha, hc⟩ := cut_bd hsg su
 rw [← hae] at ha
 rw [← hce] at hc
 replace M := M.join N; clear N
 replace M := M.mask [true, true, true] rfl
 refine sh_out hK _ _ (M.mask [false, false, true] rfl) ?_; clear hK K
 refine gw 9 1023 ?_; intro K hK
 refine ow_call (first := []) (cap := []) T rfl rfl rfl rfl evf (.cons (T.ev 0 rfl) (.cons (T.ev 2 rfl) (.cons (T.ev 1 rfl) .nil))) Tryd.func71 rfl rfl ?_
 refine Calls.mono (size_any s A d a c gau3 gcu3 p t _ (by omega) (by omega) hpg (M.nth 0 rfl) (M.nth 1 rfl)) ?_
 clear T
 rintro e wc ⟨rfl, hb⟩
 intro ac T
 replace M := M.call hb; clear hb
 refine sh_out hK _ _ (M.mask [false, false, true] rfl) ?_; clear hK K
 refine gq T 10 2047 rfl (fun _ _ _ _ _ => (rn_move rfl (T.ev 0 rfl))) ?_; clear T ac; intro ac T
 refine gq T 11 4095 rfl (fun _ _ _ _ _ => (rn_extract rfl (T.ev 0 rfl) rfl)) ?_; clear T ac; intro ac T
 refine gq T 12 8191 rfl (fun _ _ _ _ _ => (rn_extract rfl (T.ev 1 rfl) rfl)) ?_; clear T ac; intro ac T
 refine gq T 13 16383 rfl (fun _ _ _ _ _ => (rn_assign rfl (T.ev 1 rfl))) ?_; clear T ac; intro ac T
 refine gq T 14 32767 rfl (fun _ _ _ _ _ => (rn_assign rfl (T.ev 1 rfl))) ?_; clear T ac; intro ac T
 refine g_done (by kernel_rfl) ?_
 replace T := T.pick [0, 1] rfl
 replace M := M.mask [false, false, false] rfl
 refine nm_then ?_
 refine wp_seq ?_
 refine wp_region_lit ?_
 refine lq T (rn_move rfl (T.ev 1 rfl)) ?_; clear T ac; intro ac T
 refine lq T (rn_move rfl (T.ev 1 rfl)) ?_; clear T ac; intro ac T
 refine l_q (v := (.int .i64 (sizeL a c p t))) (T.pick [0, 1, 2] rfl) rfl rfl rfl rfl (rn_assign rfl (T.ev 1 rfl)) ?_; clear T ac; intro ac T
 refine l_q (v := (.int .i64 (sizeW a c p t))) (T.pick [0, 1, 2] rfl) rfl rfl rfl rfl (rn_assign rfl (T.ev 1 rfl)) ?_; clear T ac; intro ac T
 refine lq T (rn_assign rfl evc) ?_; clear T ac; intro ac T
 refine wpList_nil ?_
 replace T := T.pick [0, 1, 2] rfl
 refine nm_then ?_
 refine wp_ret ?_
 refine rt_3 T rfl (T.ev 2 rfl) (T.ev 1 rfl) (T.ev 0 rfl) ?_
 have e9 : szE s k t = 0 := (if_neg (by omega)).trans ((if_neg hk9).trans (if_neg (by rw [hpe]; simp_all)))
 have e8 : szL s k t su = sizeL a c p t := by unfold szL; rw [if_neg (by omega), hpe, ← hae, ← hce]
 have e7 : szW s k t su = sizeW a c p t := by unfold szW; rw [if_neg (by omega), hpe, ← hae, ← hce]
 rw [e9, e8, e7]
 exact ⟨rfl, M.below⟩
end Go.Proofs.YtehpcclfgjccbaaDoor
end

section
/-
 sheet's law: blanks that cost a sheet.
-/
namespace Go.Proofs.YtehpcclfgjccbaaDoor
set_option linter.unusedSimpArgs false
set_option linter.unusedVariables false
open Go.RowKit
def SkPost (s : Sk) (w : World) (e : Ending) (w' : World) : Prop := ∃ A c I, e = .returned (.agg #[.int .i64 s.lo, .int .i64 s.wi, .int .i64 s.a0, .int .i64 s.a1, .int .i64 s.c0, .int .i64 s.c1, .slice A s.ps.length c]) ∧ s.ps.length ≤ c ∧ (∃ b o, ∀ (w : World) (ex : Nat → Prop), Sp w ex I A s.ps.length 4 b o (pc s.ps)) ∧ Mem w noEx w' I
end Go.Proofs.YtehpcclfgjccbaaDoor
end

section
/-
 sheet's law: room for more blanks.
-/
namespace Go.Proofs.YtehpcclfgjccbaaDoor
set_option linter.unusedSimpArgs false
set_option linter.unusedVariables false
open Go.RowKit
theorem with_any (s : Sk) (A : Option Addr) (d : Nat) (p : Pt) (m : Nat)  (w : World) (hA : Rd w w.heap.size 4 A s.ps.length (pc s.ps)) (nA : s.ps.length ≤ 1000000) (hm : m ≤ 1000) (nB : s.ps.length ≤ 10000)  :
   Calls Tryd.prog 42 #[.agg #[.int .i64 s.lo, .int .i64 s.wi, .int .i64 s.a0, .int .i64 s.a1, .int .i64 s.c0, .int .i64 s.c1, .slice A s.ps.length d], .agg #[.int .i64 p.l, .int .i64 p.w, .bool p.gr, .int .i64 p.pa], .int .i64 (m : Int)] w (SkPost (skA s p m) w) := by
 obtain ⟨bA, oA, SA⟩ := Sp.old hA
 refine px_enter noEx Tryd.func42 rfl 25 rfl [.agg #[.int .i64 s.lo, .int .i64 s.wi, .int .i64 s.a0, .int .i64 s.a1, .int .i64 s.c0, .int .i64 s.c1, .slice A s.ps.length d], .agg #[.int .i64 p.l, .int .i64 p.w, .bool p.gr, .int .i64 p.pa], .int .i64 (m : Int)] rfl rfl (Mem.init w _) ?_
 intro ac wc T M
 refine wp_seq ?_
 refine wp_region_lit ?_
 refine l_w rfl ?_; intro K hK
 refine ow_bx M T rfl rfl rfl rfl (T.ev 0 rfl) rfl ?_; clear M T; intro g1 wc ac M T
 refine sh_out hK _ _ ?_; clear hK K
 refine l_w rfl ?_; intro K hK
 refine ow_bx M T rfl rfl rfl rfl (T.ev 2 rfl) rfl ?_; clear M T; intro g2 wc ac M T
 refine sh_out hK _ _ ?_; clear hK K
 refine l_w rfl ?_; intro K hK
 refine ow_al M T rfl rfl rfl rfl ?_; clear M T; intro g3 wc ac M T
 refine sh_out hK _ _ ?_; clear hK K
 refine wpList_nil ?_
 replace T := T.pick [0, 1, 2, 5] rfl
 refine nm_then ?_
 refine wp_seq ?_
 refine wp_region_lit ?_
 refine l_w rfl ?_; intro K hK
 refine ow_bs0 (e := 63) M T rfl rfl rfl rfl (fun _ => by kernel_rfl) ?_; clear M T; intro g4 wc ac M T
 refine sh_out hK _ _ ?_; clear hK K
 refine lq (v := (.pointer (some ⟨g1, 6, none⟩))) T (rn_fieldAddr (off := 6) rfl (T.ev 3 rfl) (fun _ _ _ => by kernel_rfl)) ?_; clear T ac; intro ac T
 refine lq T (rn_one (Mem.nth M 3 rfl) rfl (T.ev 0 rfl) rfl) ?_; clear T ac; intro ac T
 refine l_w rfl ?_; intro K hK
 refine ow_appS Tryd.info63 M T rfl rfl rfl rfl (fun g w => Tryd.append0_24 _ _ g _ w) Tryd.underlying24 rfl rfl rfl (by omega) (T.ev 2 rfl) (T.ev 0 rfl) (SA.rd M (List.nil_sublist _)) (pc_one _) ?_; clear M T; intro Augo1 cugo1 Iugo1 wc ac hSmgo1 M T
 replace M : Mem w noEx wc ((g3, .cells [.int .i64 0, .int .i64 0, .int .i64 0, .int .i64 0, .int .i64 0, .int .i64 0, .slice none 0 0]) :: (g2, .cells [.int .i64 p.l, .int .i64 p.w, .bool p.gr, .int .i64 p.pa]) :: (g1, .cells [.int .i64 s.lo, .int .i64 s.wi, .int .i64 s.a0, .int .i64 s.a1, .int .i64 s.c0, .int .i64 s.c1, .slice A s.ps.length d]) :: Iugo1) := M.swapI
 refine sh_out hK _ _ ?_; clear hK K
 refine lq (v := (.pointer (some ⟨g1, 6, none⟩))) T (rn_fieldAddr (off := 6) rfl (T.ev 6 rfl) (fun _ _ _ => by kernel_rfl)) ?_; clear T ac; intro ac T
 refine l_w rfl ?_; intro K hK
 refine ow_stO M T rfl rfl (T.ev 0 rfl) (T.ev 1 rfl) rfl (.tail (.tail .head)) rfl (by simp) rfl (by kernel_rfl) ?_; clear M T; intro wc ac M T
 refine sh_out hK _ _ ?_; clear hK K
 refine wpList_nil ?_
 replace T := T.pick [5, 6, 7, 8] rfl
 refine nm_then ?_
 refine wp_seq ?_
 refine wp_seq ?_
 refine wp_region_lit ?_
 refine lq T (rn_assign rfl evc) ?_; clear T ac; intro ac T
 refine wpList_nil ?_
 refine nm_then ?_
 refine wp_block ?_
 refine wp_loop_n (fun mz ac wc => ∃ (k : Nat) (OL : List Pt) (A3 : Option Addr) (c3 : Nat) (Io : List (Nat × BA)), mz = m - k ∧ (k ≤ m) ∧ (OL = s.ps ++ List.replicate k p) ∧ (OL.length = s.ps.length + k) ∧ (Cl 63 4 A3 OL.length c3 (pc OL) Io) ∧ Tm ac 25 [(2, .int .i64 (m : Int)), (3, .pointer (some ⟨g1, 0, none⟩)), (4, .pointer (some ⟨g2, 0, none⟩)), (6, .pointer (some ⟨g3, 0, none⟩)), (7, .int .i64 (k : Int))] ∧ Mem w noEx wc ((g3, .cells [.int .i64 0, .int .i64 0, .int .i64 0, .int .i64 0, .int .i64 0, .int .i64 0, .slice none 0 0]) :: (g2, .cells [.int .i64 p.l, .int .i64 p.w, .bool p.gr, .int .i64 p.pa]) :: (g1, .cells [.int .i64 s.lo, .int .i64 s.wi, .int .i64 s.a0, .int .i64 s.a1, .int .i64 s.c0, .int .i64 s.c1, .slice A3 OL.length c3]) :: Io)) ?_ ?_
 ·exact ⟨_, 0, s.ps, Augo1, cugo1, Iugo1, rfl, (Nat.zero_le _), (by simp), rfl, (.inr hSmgo1), T.pick [4, 3, 2, 1, 0] rfl, M.mask [true, true, true] rfl⟩
 clear T M
 rintro mz ac wc ⟨k, OL, A3, c3, Io, hmm1, hk, hO, hOl, hcl, T, M⟩
 refine wp_seq ?_
 refine wp_seq ?_
 refine wp_region_lit ?_
 refine lq T (rn_move rfl (T.ev 4 rfl)) ?_; clear T ac; intro ac T
 refine lq T (rn_move rfl (T.ev 1 rfl)) ?_; clear T ac; intro ac T
 refine lq T (rn_lss rfl (T.ev 1 rfl) (T.ev 0 rfl)) ?_; clear T ac; intro ac T
 refine wpList_nil ?_
 replace T := T.pick [0, 3, 4, 5, 6, 7] rfl
 refine nm_then ?_
 refine wp_if (T.ev 0 rfl) ?_ ?_
 ·intro h1
  refine wp_skip ?_
  refine nm_then ?_
  refine wp_seq ?_
  refine wp_block ?_
  refine wp_region_lit ?_
  refine lq (v := (.pointer (some ⟨g1, 6, none⟩))) T (rn_fieldAddr (off := 6) rfl (T.ev 2 rfl) (fun _ _ _ => by kernel_rfl)) ?_; clear T ac; intro ac T
  refine lq T (rn_one (Mem.nth M 2 rfl) rfl (T.ev 0 rfl) rfl) ?_; clear T ac; intro ac T
  refine lq T (rn_rowO (Mem.nth M 1 rfl) rfl (T.ev 5 rfl) rfl) ?_; clear T ac; intro ac T
  refine l_w rfl ?_; intro K hK
  refine ow_bs (e := 63) [.int .i64 p.l, .int .i64 p.w, .bool p.gr, .int .i64 p.pa] M T rfl rfl rfl rfl (.cons (T.ev 0 rfl) .nil) (fun _ => by kernel_rfl) ?_; clear M T; intro g5 wc ac M T
  refine sh_out hK _ _ ?_; clear hK K
  refine l_w rfl ?_; intro K hK
  refine ow_appC ([(g5, .cells [.int .i64 p.l, .int .i64 p.w, .bool p.gr, .int .i64 p.pa]), (g3, .cells [.int .i64 0, .int .i64 0, .int .i64 0, .int .i64 0, .int .i64 0, .int .i64 0, .slice none 0 0]), (g2, .cells [.int .i64 p.l, .int .i64 p.w, .bool p.gr, .int .i64 p.pa]), (g1, .cells [.int .i64 s.lo, .int .i64 s.wi, .int .i64 s.a0, .int .i64 s.a1, .int .i64 s.c0, .int .i64 s.c1, .slice A3 OL.length c3])]) Tryd.info63 hcl M (by first | rfl | simp) T rfl rfl rfl rfl Tryd.underlying24 rfl rfl rfl (by omega) (T.ev 2 rfl) (T.ev 0 rfl) (nthE_mem (i := 0) rfl) rfl rfl ?_; clear M T; intro ga1 cga1 wc ac M T
  refine sh_out hK _ _ ?_; clear hK K
  have e9 : OL.length + 1 = (OL ++ [p]).length := by simp
  have e8 : ((pc OL) ++ [.int .i64 p.l, .int .i64 p.w, .bool p.gr, .int .i64 p.pa]) = pc (OL ++ [p]) := by rw [← pc_snoc]
  rw [e9, e8] at M
  rw [e9] at T
  clear e9 e8
  refine lq (v := (.pointer (some ⟨g1, 6, none⟩))) T (rn_fieldAddr (off := 6) rfl (T.ev 7 rfl) (fun _ _ _ => by kernel_rfl)) ?_; clear T ac; intro ac T
  refine l_w rfl ?_; intro K hK
  refine ow_stO M T rfl rfl (T.ev 0 rfl) (T.ev 1 rfl) rfl (.tail (.tail (.tail (.tail .head)))) rfl (by simp) rfl (by kernel_rfl) ?_; clear M T; intro wc ac M T
  refine sh_out hK _ _ ?_; clear hK K
  refine wpList_nil ?_
  replace T := T.pick [7, 8, 9, 10, 11] rfl
  replace M := M.mask [true, false, true, true, true] rfl
  refine nm_blk ?_
  refine nm_then ?_
  refine wp_region_lit ?_
  refine lq T (rn_move rfl (T.ev 4 rfl)) ?_; clear T ac; intro ac T
  refine lq T (rn_add rfl (T.ev 0 rfl) evc (by omega)) ?_; clear T ac; intro ac T
  refine l_q (v := (.int .i64 ((k : Int) + 1))) (T.pick [0, 1, 2, 3, 4, 5] rfl) rfl rfl rfl rfl (rn_assign rfl (T.ev 0 rfl)) ?_; clear T ac; intro ac T
  refine wpList_nil ?_
  replace T := T.pick [0, 3, 4, 5, 6] rfl
  refine nm_then ?_
  exact ⟨_, by omega, k + 1, (OL ++ [p]), _, cga1, [(ga1, .row 63 4 (OL ++ [p]).length (pc (OL ++ [p])) cga1)], rfl, (by omega), (by rw [hO, List.replicate_succ', List.append_assoc]), (by simp; omega), (Cl.row _ _ _ _ _ _), T.pick [1, 2, 3, 4, 0] rfl, M.perm [1, 2, 3, 0] rfl rfl⟩
 intro h1
 refine wp_exit ?_
 refine ex_then ?_
 refine ex_then ?_
 refine ex_hit ?_
 refine nm_then ?_
 refine wp_seq ?_
 refine wp_region_lit ?_
 refine lq T (rn_rowO (Mem.nth M 2 rfl) rfl (T.ev 2 rfl) rfl) ?_; clear T ac; intro ac T
 refine l_w rfl ?_; intro K hK
 refine ow_stO M T rfl rfl (T.ev 5 rfl) (T.ev 0 rfl) rfl .head rfl (by simp) rfl (by kernel_rfl) ?_; clear M T; intro wc ac M T
 refine sh_out hK _ _ ?_; clear hK K
 refine wpList_nil ?_
 replace T := T.pick [5] rfl
 replace M := M.mask [true, false, false] rfl
 refine nm_then ?_
 refine wp_ret ?_
 refine rt_c M T rfl (T.ev 0 rfl) (nthE_mem (i := 0) rfl) rfl ?_
 have e9 : OL = (skA s p m).ps := by rw [hO, show k = m by omega]; rfl
 have hcap := hcl.capLe M (.cons _ (List.Sublist.refl _))
 have hsv := hcl.spV (pc_length _)
 unfold SkPost
 rw [← e9]
 exact ⟨A3, c3, Io, rfl, hcap, hsv, M.mask [false] rfl⟩
end Go.Proofs.YtehpcclfgjccbaaDoor
end

section
/-
 sheet: Turn; its law.
-/
namespace Go.Proofs.YtehpcclfgjccbaaDoor
set_option linter.unusedSimpArgs false
set_option linter.unusedVariables false
open Go.RowKit
def trnZ (s : Sk) : Sk := if skErr s = 0 then trnS s else ⟨0, 0, 0, 0, 0, 0, []⟩
def TrnPost (t : Sk) (er : Int) (w : World) (e : Ending) (w' : World) : Prop := ∃ A c I, e = .returned (.tuple #[.agg #[.int .i64 t.lo, .int .i64 t.wi, .int .i64 t.a0, .int .i64 t.a1, .int .i64 t.c0, .int .i64 t.c1, .slice A t.ps.length c], .int .i64 er]) ∧ t.ps.length ≤ c ∧ (∃ b o, ∀ (w : World) (ex : Nat → Prop), Sp w ex I A t.ps.length 4 b o (pc t.ps)) ∧ Mem w noEx w' I
theorem turn_step {ps L : List Pt} {i : Nat} {p : Pt} (h : L = (ps.take i).map turnP ++ ps.drop i) (hp : ps[i]? = some p) : L[i]? = some p ∧ L.set i (turnP p) = (ps.take (i + 1)).map turnP ++ ps.drop (i + 1) := by
 obtain ⟨hi, rfl⟩ := List.getElem?_eq_some_iff.1 hp
 have hl : ((ps.take i).map turnP).length = i := by simp; omega
 subst h
 rw [List.drop_eq_getElem_cons hi]
 constructor
 · rw [List.getElem?_append_right (by omega), hl, Nat.sub_self, List.getElem?_cons_zero]
 · rw [List.set_append_right _ _ (by omega), hl, Nat.sub_self, List.set_cons_zero, List.take_add_one, List.getElem?_eq_getElem hi, Option.toList_some, List.map_append, List.append_assoc]
   rfl
theorem Turn_any (s : Sk) (A : Option Addr) (d : Nat)  (w : World) (hA : Rd w w.heap.size 4 A s.ps.length (pc s.ps)) (nA : s.ps.length ≤ 1000000)  :
   Calls Tryd.prog 58 #[.agg #[.int .i64 s.lo, .int .i64 s.wi, .int .i64 s.a0, .int .i64 s.a1, .int .i64 s.c0, .int .i64 s.c1, .slice A s.ps.length d]] w (TrnPost (trnZ s) (skErr s) w) := by
 obtain ⟨bA, oA, SA⟩ := Sp.old hA
 refine px_enter noEx Tryd.func58 rfl 53 rfl [.agg #[.int .i64 s.lo, .int .i64 s.wi, .int .i64 s.a0, .int .i64 s.a1, .int .i64 s.c0, .int .i64 s.c1, .slice A s.ps.length d]] rfl rfl (Mem.init w _) ?_
 intro ac wc T M
 refine wp_seq ?_
 refine wp_region_lit ?_
 refine l_w rfl ?_; intro K hK
 refine ow_bx M T rfl rfl rfl rfl (T.ev 0 rfl) rfl ?_; clear M T; intro g1 wc ac M T
 refine sh_out hK _ _ ?_; clear hK K
 refine l_w rfl ?_; intro K hK
 refine ow_al M T rfl rfl rfl rfl ?_; clear M T; intro g2 wc ac M T
 refine sh_out hK _ _ ?_; clear hK K
 refine lq T (rn_assign rfl evc) ?_; clear T ac; intro ac T
 refine wpList_nil ?_
 replace T := T.pick [1, 2] rfl
 refine nm_then ?_
 refine wp_seq ?_
 refine wp_seq ?_
 refine wp_region_lit ?_
 refine lq T (rn_rowO (Mem.nth M 1 rfl) rfl (T.ev 1 rfl) rfl) ?_; clear T ac; intro ac T
 refine l_w rfl ?_; intro K hK
 refine ow_call (first := []) (cap := []) T rfl rfl rfl rfl evf (.cons (T.ev 0 rfl) .nil) Tryd.func60 rfl rfl ?_
 refine Calls.mono (skCheck_any s A d _ (SA.rd M (List.nil_sublist _)) (by omega)) ?_
 clear T
 rintro e wc ⟨rfl, hb⟩
 intro ac T
 replace M := M.call hb; clear hb
 refine sh_out hK _ _ ?_; clear hK K
 refine lq T (rn_assign rfl (T.ev 0 rfl)) ?_; clear T ac; intro ac T
 refine wpList_nil ?_
 replace T := T.pick [0, 3, 4] rfl
 refine nm_then ?_
 refine wp_seq ?_
 refine wp_region_lit ?_
 refine lq T (rn_move rfl (T.ev 0 rfl)) ?_; clear T ac; intro ac T
 refine lq T (rn_neq rfl (T.ev 0 rfl) evc) ?_; clear T ac; intro ac T
 refine wpList_nil ?_
 replace T := T.pick [0, 2, 3, 4] rfl
 refine nm_then ?_
 refine wp_ifn (T.ev 0 rfl) ?_ ?_
 ·intro h1
  refine wp_seq ?_
  refine wp_region_lit ?_
  refine lq (v := (.agg #[.int .i64 0, .int .i64 0, .int .i64 0, .int .i64 0, .int .i64 0, .int .i64 0, .slice none 0 0])) T (rn_build rfl .nil (fun _ => by kernel_rfl)) ?_; clear T ac; intro ac T
  refine lq T (rn_move rfl (T.ev 2 rfl)) ?_; clear T ac; intro ac T
  refine l_w rfl ?_; intro K hK
  refine ow_stO M T rfl rfl (T.ev 4 rfl) (T.ev 1 rfl) rfl .head rfl (by simp) rfl (by kernel_rfl) ?_; clear M T; intro wc ac M T
  refine sh_out hK _ _ ?_; clear hK K
  refine lq T (rn_assign rfl (T.ev 0 rfl)) ?_; clear T ac; intro ac T
  refine wpList_nil ?_
  replace T := T.pick [0, 5] rfl
  replace M := M.mask [true, false] rfl
  refine nm_then ?_
  refine wp_ret ?_
  refine rt_then ?_
  refine rt_ct M T rfl (T.ev 1 rfl) (T.ev 0 rfl) (nthE_mem (i := 0) rfl) rfl ?_
  have e9 : trnZ s = ⟨0, 0, 0, 0, 0, 0, []⟩ := if_neg (by omega)
  rw [e9]
  exact ⟨none, 0, [], rfl, by simp, ⟨0, 0, fun _ _ => Sp.nil⟩, M.sub (List.nil_sublist _)⟩
 intro h1
 refine wp_skip ?_
 refine nm_then ?_
 refine wp_seq ?_
 refine wp_region_lit ?_
 refine lq (v := (.pointer (some ⟨g1, 1, none⟩))) T (rn_fieldAddr (off := 1) rfl (T.ev 3 rfl) (fun _ _ _ => by kernel_rfl)) ?_; clear T ac; intro ac T
 refine lq T (rn_one (Mem.nth M 1 rfl) rfl (T.ev 0 rfl) rfl) ?_; clear T ac; intro ac T
 refine lq (v := (.pointer (some ⟨g1, 0, none⟩))) T (rn_fieldAddr (off := 0) rfl (T.ev 5 rfl) (fun _ _ _ => by kernel_rfl)) ?_; clear T ac; intro ac T
 refine lq T (rn_one (Mem.nth M 1 rfl) rfl (T.ev 0 rfl) rfl) ?_; clear T ac; intro ac T
 refine lq (v := (.pointer (some ⟨g1, 4, none⟩))) T (rn_fieldAddr (off := 4) rfl (T.ev 7 rfl) (fun _ _ _ => by kernel_rfl)) ?_; clear T ac; intro ac T
 refine lq T (rn_rowO (Mem.nth M 1 rfl) rfl (T.ev 0 rfl) rfl) ?_; clear T ac; intro ac T
 refine lq (v := (.pointer (some ⟨g1, 2, none⟩))) T (rn_fieldAddr (off := 2) rfl (T.ev 9 rfl) (fun _ _ _ => by kernel_rfl)) ?_; clear T ac; intro ac T
 refine lq T (rn_rowO (Mem.nth M 1 rfl) rfl (T.ev 0 rfl) rfl) ?_; clear T ac; intro ac T
 refine lq (v := (.pointer (some ⟨g1, 0, none⟩))) T (rn_fieldAddr (off := 0) rfl (T.ev 11 rfl) (fun _ _ _ => by kernel_rfl)) ?_; clear T ac; intro ac T
 refine l_w rfl ?_; intro K hK
 refine ow_stO M T rfl rfl (T.ev 0 rfl) (T.ev 7 rfl) rfl (.tail .head) rfl (by simp) rfl (by kernel_rfl) ?_; clear M T; intro wc ac M T
 refine sh_out hK _ _ ?_; clear hK K
 refine lq (v := (.pointer (some ⟨g1, 1, none⟩))) T (rn_fieldAddr (off := 1) rfl (T.ev 12 rfl) (fun _ _ _ => by kernel_rfl)) ?_; clear T ac; intro ac T
 refine l_w rfl ?_; intro K hK
 refine ow_stO M T rfl rfl (T.ev 0 rfl) (T.ev 6 rfl) rfl (.tail .head) rfl (by simp) rfl (by kernel_rfl) ?_; clear M T; intro wc ac M T
 refine sh_out hK _ _ ?_; clear hK K
 refine lq (v := (.pointer (some ⟨g1, 2, none⟩))) T (rn_fieldAddr (off := 2) rfl (T.ev 13 rfl) (fun _ _ _ => by kernel_rfl)) ?_; clear T ac; intro ac T
 refine l_w rfl ?_; intro K hK
 refine ow_stO M T rfl rfl (T.ev 0 rfl) (T.ev 5 rfl) rfl (.tail .head) rfl (by simp) rfl (by kernel_rfl) ?_; clear M T; intro wc ac M T
 refine sh_out hK _ _ ?_; clear hK K
 refine lq (v := (.pointer (some ⟨g1, 4, none⟩))) T (rn_fieldAddr (off := 4) rfl (T.ev 14 rfl) (fun _ _ _ => by kernel_rfl)) ?_; clear T ac; intro ac T
 refine l_w rfl ?_; intro K hK
 refine ow_stO M T rfl rfl (T.ev 0 rfl) (T.ev 4 rfl) rfl (.tail .head) rfl (by simp) rfl (by kernel_rfl) ?_; clear M T; intro wc ac M T
 refine sh_out hK _ _ ?_; clear hK K
 refine wpList_nil ?_
 replace T := T.pick [14, 15] rfl
 refine nm_then ?_
 refine wp_seq ?_
 refine wp_region_lit ?_
 refine lq (v := (.pointer (some ⟨g1, 6, none⟩))) T (rn_fieldAddr (off := 6) rfl (T.ev 1 rfl) (fun _ _ _ => by kernel_rfl)) ?_; clear T ac; intro ac T
 refine lq T (rn_one (Mem.nth M 1 rfl) rfl (T.ev 0 rfl) rfl) ?_; clear T ac; intro ac T
 refine l_w rfl ?_; intro K hK
 refine ow_call (first := []) (cap := []) T rfl rfl rfl rfl evf (.cons (T.ev 0 rfl) .nil) Tryd.func87 rfl rfl ?_
 refine Calls.mono (cloneP_any A d s.ps _ (SA.rd M (List.nil_sublist _)) (by omega)) ?_
 clear T
 rintro e wc ⟨Acu2, ccu2, Icu2, rfl, hclu2, N⟩
 intro ac T
 obtain ⟨LX, hLX⟩ : ∃ q : List Pt, q = s.ps := ⟨_, rfl⟩
 rw [← hLX] at hclu2
 replace M := (M.join N).swapI
 clear N
 replace M : Mem w noEx wc ((g2, .cells [.int .i64 0, .int .i64 0, .int .i64 0, .int .i64 0, .int .i64 0, .int .i64 0, .slice none 0 0]) :: (g1, .cells [.int .i64 s.wi, .int .i64 s.lo, .int .i64 s.c0, .int .i64 s.c1, .int .i64 s.a0, .int .i64 s.a1, .slice A s.ps.length d]) :: Icu2) := M
 have hcpC := hclu2.capLe M (.cons _ (.cons _ (List.Sublist.refl _)))
 obtain ⟨bX, IX, hswX, M⟩ := hclu2.sw (L := [(g2, .cells [.int .i64 0, .int .i64 0, .int .i64 0, .int .i64 0, .int .i64 0, .int .i64 0, .slice none 0 0]), (g1, .cells [.int .i64 s.wi, .int .i64 s.lo, .int .i64 s.c0, .int .i64 s.c1, .int .i64 s.a0, .int .i64 s.a1, .slice A s.ps.length d])]) M
 replace M : Mem w noEx wc ((g2, .cells [.int .i64 0, .int .i64 0, .int .i64 0, .int .i64 0, .int .i64 0, .int .i64 0, .slice none 0 0]) :: (g1, .cells [.int .i64 s.wi, .int .i64 s.lo, .int .i64 s.c0, .int .i64 s.c1, .int .i64 s.a0, .int .i64 s.a1, .slice A s.ps.length d]) :: IX) := M
 have SX := hswX.sp (w := w) (ex := noEx)
 have hLl9 : LX.length = s.ps.length := by rw [hLX]
 rw [← hLl9] at T
 refine sh_out hK _ _ ?_; clear hK K
 refine lq (v := (.pointer (some ⟨g1, 6, none⟩))) T (rn_fieldAddr (off := 6) rfl (T.ev 4 rfl) (fun _ _ _ => by kernel_rfl)) ?_; clear T ac; intro ac T
 refine l_w rfl ?_; intro K hK
 refine ow_stO M T rfl rfl (T.ev 0 rfl) (T.ev 1 rfl) rfl (.tail .head) rfl (by simp) rfl (by kernel_rfl) ?_; clear M T; intro wc ac M T
 refine sh_out hK _ _ ?_; clear hK K
 refine wpList_nil ?_
 replace T := T.pick [4, 5] rfl
 refine nm_then ?_
 refine wp_seq ?_
 refine wp_seq ?_
 refine wp_region_lit ?_
 refine lq (v := (.pointer (some ⟨g1, 6, none⟩))) T (rn_fieldAddr (off := 6) rfl (T.ev 1 rfl) (fun _ _ _ => by kernel_rfl)) ?_; clear T ac; intro ac T
 refine lq T (rn_one (Mem.nth M 1 rfl) rfl (T.ev 0 rfl) rfl) ?_; clear T ac; intro ac T
 refine lq T (rn_lenS rfl Tryd.underlying24 (T.ev 0 rfl)) ?_; clear T ac; intro ac T
 refine lq T (rn_move rfl evc) ?_; clear T ac; intro ac T
 refine wpList_nil ?_
 replace T := T.pick [0, 1, 2, 4, 5] rfl
 refine nm_then ?_
 refine wp_block ?_
 refine wp_loop_n (fun mz ac wc => ∃ (i : Nat) (L : List Pt) (Iw : List (Nat × BA)), mz = LX.length - i ∧ (i ≤ LX.length) ∧ (L = (s.ps.take i).map turnP ++ s.ps.drop i) ∧ (L.length = LX.length) ∧ (Sw 4 Acu2 LX.length bX (pc L) Iw) ∧ Tm ac 53 [(1, .pointer (some ⟨g1, 0, none⟩)), (2, .pointer (some ⟨g2, 0, none⟩)), (30, .slice Acu2 LX.length ccu2), (31, .int .i64 ((LX.length : Nat) : Int)), (32, .int .i64 (i : Int))] ∧ Mem w noEx wc ((g2, .cells [.int .i64 0, .int .i64 0, .int .i64 0, .int .i64 0, .int .i64 0, .int .i64 0, .slice none 0 0]) :: (g1, .cells [.int .i64 s.wi, .int .i64 s.lo, .int .i64 s.c0, .int .i64 s.c1, .int .i64 s.a0, .int .i64 s.a1, .slice Acu2 LX.length ccu2]) :: Iw)) ?_ ?_
 ·exact ⟨_, 0, LX, IX, rfl, (Nat.zero_le _), (by rw [hLX]; simp), rfl, hswX, T.pick [4, 3, 2, 1, 0] rfl, M.mask [true, true] rfl⟩
 clear T M
 rintro mz ac wc ⟨i, L, Iw, hmm1, hi, hL, hLl, hsw, T, M⟩
 refine wp_seq ?_
 refine wp_region_lit ?_
 refine lq T (rn_lss rfl (T.ev 4 rfl) (T.ev 3 rfl)) ?_; clear T ac; intro ac T
 refine wpList_nil ?_
 refine nm_then ?_
 refine wp_seq ?_
 refine wp_if (T.ev 0 rfl) ?_ ?_
 ·intro h2
  have SL9 := hsw.sp (w := w) (ex := noEx)
  obtain ⟨p, hkp, -⟩ := pc_next (l := s.ps) (k := i) (by omega)
  have hkq := (turn_step hL hkp).1
  refine wp_skip ?_
  refine nm_then ?_
  refine wp_seq ?_
  refine wp_block ?_
  refine wp_seq ?_
  refine wp_region_lit ?_
  refine lq T (rn_move rfl (T.ev 5 rfl)) ?_; clear T ac; intro ac T
  refine lq T (rn_indexAddr (size := 4) i rfl (T.ev 4 rfl) (T.ev 6 rfl) ⟨_, Tryd.underlying24, by kernel_rfl⟩ rfl (by omega) (SL9.at0 (by omega))) ?_; clear T ac; intro ac T
  refine lq (v := (.agg #[.int .i64 p.l, .int .i64 p.w, .bool p.gr, .int .i64 p.pa])) T (rn_rowat (Sp.pcR SL9 M (.cons _ (.cons _ (List.Sublist.refl _))) hkq) rfl (T.ev 0 rfl) rfl) ?_; clear T ac; intro ac T
  refine l_w rfl ?_; intro K hK
  refine ow_al M T rfl rfl rfl rfl ?_; clear M T; intro g3 wc ac M T
  refine sh_out hK _ _ ?_; clear hK K
  refine lq T (rn_assign rfl (T.ev 3 rfl)) ?_; clear T ac; intro ac T
  refine l_w rfl ?_; intro K hK
  refine ow_stO M T rfl rfl (T.ev 1 rfl) (T.ev 2 rfl) rfl .head rfl (by simp) rfl (by kernel_rfl) ?_; clear M T; intro wc ac M T
  refine sh_out hK _ _ ?_; clear hK K
  refine wpList_nil ?_
  replace T := T.pick [0, 1, 6, 7, 8, 9, 10] rfl
  refine nm_then ?_
  refine g_start2 M (M.perm [0, 1, 2] rfl rfl) 16 (by kernel_rfl) rfl (by kernel_rfl) ?_
  clear M; intro wc M
  refine gq (v := (.pointer (some ⟨g1, 6, none⟩))) T 0 1 rfl (fun _ _ _ _ _ => (rn_fieldAddr (off := 6) rfl (T.ev 2 rfl) (fun _ _ _ => by kernel_rfl))) ?_; clear T ac; intro ac T
  refine gq T 1 3 rfl (fun B w' hD hl hS => (rn_one (Mem.nth (show Mem w noEx w' _ from hS) 2 rfl) rfl (T.ev 0 rfl) rfl)) ?_; clear T ac; intro ac T
  refine gq T 2 7 rfl (fun _ _ _ _ _ => (rn_move rfl (T.ev 2 rfl))) ?_; clear T ac; intro ac T
  refine gq (v := (.pointer (some ⟨g1, 6, none⟩))) T 3 15 rfl (fun _ _ _ _ _ => (rn_fieldAddr (off := 6) rfl (T.ev 5 rfl) (fun _ _ _ => by kernel_rfl))) ?_; clear T ac; intro ac T
  refine gq T 4 31 rfl (fun B w' hD hl hS => (rn_one (Mem.nth (show Mem w noEx w' _ from hS) 2 rfl) rfl (T.ev 0 rfl) rfl)) ?_; clear T ac; intro ac T
  refine gq T 5 63 rfl (fun _ _ _ _ _ => (rn_move rfl (T.ev 5 rfl))) ?_; clear T ac; intro ac T
  refine gq (v := (.pointer (some ⟨g3, 1, none⟩))) T 6 127 rfl (fun _ _ _ _ _ => (rn_fieldAddr (off := 1) rfl (T.ev 7 rfl) (fun _ _ _ => by kernel_rfl))) ?_; clear T ac; intro ac T
  refine gq T 7 255 rfl (fun B w' hD hl hS => (rn_one (Mem.nth (show Mem w noEx w' _ from hS) 0 rfl) rfl (T.ev 0 rfl) rfl)) ?_; clear T ac; intro ac T
  refine gq (v := (.pointer (some ⟨g3, 0, none⟩))) T 8 511 rfl (fun _ _ _ _ _ => (rn_fieldAddr (off := 0) rfl (T.ev 9 rfl) (fun _ _ _ => by kernel_rfl))) ?_; clear T ac; intro ac T
  refine gq T 9 1023 rfl (fun B w' hD hl hS => (rn_one (Mem.nth (show Mem w noEx w' _ from hS) 0 rfl) rfl (T.ev 0 rfl) rfl)) ?_; clear T ac; intro ac T
  refine gq T 10 2047 rfl (fun _ _ _ _ _ => (rn_indexAddr (size := 4) i rfl (T.ev 8 rfl) (T.ev 7 rfl) ⟨_, Tryd.underlying24, by kernel_rfl⟩ rfl (by omega) (SL9.at0 (by omega)))) ?_; clear T ac; intro ac T
  refine gq T 11 4095 rfl (fun _ _ _ _ _ => (rn_fieldAddr (off := 0) rfl (T.ev 0 rfl) (fun _ _ _ => by kernel_rfl))) ?_; clear T ac; intro ac T
  refine gw 12 8191 ?_; intro K hK
  refine ow_stTK pcE 4 (fun _ => rfl) 0 (p' := ({ p with l := p.w } : Pt)) ([(g3, .cells [.int .i64 p.l, .int .i64 p.w, .bool p.gr, .int .i64 p.pa]), (g2, .cells [.int .i64 0, .int .i64 0, .int .i64 0, .int .i64 0, .int .i64 0, .int .i64 0, .slice none 0 0]), (g1, .cells [.int .i64 s.wi, .int .i64 s.lo, .int .i64 s.c0, .int .i64 s.c1, .int .i64 s.a0, .int .i64 s.a1, .slice Acu2 LX.length ccu2])]) M (by first | rfl | simp) hsw T rfl rfl (T.ev 0 rfl) (T.ev 4 rfl) rfl hkq (by omega) rfl (Nat.le_of_ble_eq_true rfl) rfl rfl ?_; clear M T; intro Jw1 wc ac hsw1 M T
  replace M : Mem w noEx wc ((g3, .cells [.int .i64 p.l, .int .i64 p.w, .bool p.gr, .int .i64 p.pa]) :: (g2, .cells [.int .i64 0, .int .i64 0, .int .i64 0, .int .i64 0, .int .i64 0, .int .i64 0, .slice none 0 0]) :: (g1, .cells [.int .i64 s.wi, .int .i64 s.lo, .int .i64 s.c0, .int .i64 s.c1, .int .i64 s.a0, .int .i64 s.a1, .slice Acu2 LX.length ccu2]) :: Jw1) := M
  obtain ⟨lo1, hlo1⟩ : ∃ qq9 : List Pt, qq9 = L.set i ({ p with l := p.w }) := ⟨_, rfl⟩
  replace hsw1 : Sw 4 Acu2 LX.length bX (pc lo1) Jw1 := by rw [hlo1]; exact hsw1
  have lhlo1 : lo1.length = L.length := by rw [hlo1, List.length_set]
  have Ss1 := hsw1.sp (w := w) (ex := noEx)
  have hello1 : lo1[i]? = some ({ p with l := p.w } : Pt) := by rw [hlo1]; exact List.getElem?_set_self (by omega)
  refine sh_out hK _ _ (M.perm [0, 1, 2] rfl rfl) ?_; clear hK K
  refine gq T 13 16383 rfl (fun _ _ _ _ _ => (rn_indexAddr (size := 4) i rfl (T.ev 7 rfl) (T.ev 6 rfl) ⟨_, Tryd.underlying24, by kernel_rfl⟩ rfl (by omega) (Ss1.at0 (by omega)))) ?_; clear T ac; intro ac T
  refine gq T 14 32767 rfl (fun _ _ _ _ _ => (rn_fieldAddr (off := 1) rfl (T.ev 0 rfl) (fun _ _ _ => by kernel_rfl))) ?_; clear T ac; intro ac T
  refine gw 15 65535 ?_; intro K hK
  refine ow_stTK pcE 4 (fun _ => rfl) 1 (p' := ({ ({ p with l := p.w } : Pt) with w := p.l } : Pt)) ([(g3, .cells [.int .i64 p.l, .int .i64 p.w, .bool p.gr, .int .i64 p.pa]), (g2, .cells [.int .i64 0, .int .i64 0, .int .i64 0, .int .i64 0, .int .i64 0, .int .i64 0, .slice none 0 0]), (g1, .cells [.int .i64 s.wi, .int .i64 s.lo, .int .i64 s.c0, .int .i64 s.c1, .int .i64 s.a0, .int .i64 s.a1, .slice Acu2 LX.length ccu2])]) M (by first | rfl | simp) hsw1 T rfl rfl (T.ev 0 rfl) (T.ev 4 rfl) rfl hello1 (by omega) rfl (Nat.le_of_ble_eq_true rfl) rfl rfl ?_; clear M T; intro Jw2 wc ac hsw2 M T
  replace M : Mem w noEx wc ((g3, .cells [.int .i64 p.l, .int .i64 p.w, .bool p.gr, .int .i64 p.pa]) :: (g2, .cells [.int .i64 0, .int .i64 0, .int .i64 0, .int .i64 0, .int .i64 0, .int .i64 0, .slice none 0 0]) :: (g1, .cells [.int .i64 s.wi, .int .i64 s.lo, .int .i64 s.c0, .int .i64 s.c1, .int .i64 s.a0, .int .i64 s.a1, .slice Acu2 LX.length ccu2]) :: Jw2) := M
  obtain ⟨lo2, hlo2⟩ : ∃ qq9 : List Pt, qq9 = lo1.set i ({ ({ p with l := p.w } : Pt) with w := p.l }) := ⟨_, rfl⟩
  replace hsw2 : Sw 4 Acu2 LX.length bX (pc lo2) Jw2 := by rw [hlo2]; exact hsw2
  have lhlo2 : lo2.length = lo1.length := by rw [hlo2, List.length_set]
  have Ss2 := hsw2.sp (w := w) (ex := noEx)
  have hello2 : lo2[i]? = some ({ ({ p with l := p.w } : Pt) with w := p.l } : Pt) := by rw [hlo2]; exact List.getElem?_set_self (by omega)
  refine sh_out hK _ _ (M.perm [0, 1, 2] rfl rfl) ?_; clear hK K
  refine g_done (by kernel_rfl) ?_
  replace T := T.pick [16, 17, 18, 19, 20] rfl
  replace M := M.mask [false, true, true] rfl
  refine nm_blk ?_
  refine nm_then ?_
  refine wp_region_lit ?_
  refine lq T (rn_add rfl (T.ev 4 rfl) evc (by omega)) ?_; clear T ac; intro ac T
  refine l_q (v := (.int .i64 ((i : Int) + 1))) (T.pick [0, 1, 2, 3, 4] rfl) rfl rfl rfl rfl (rn_move rfl (T.ev 0 rfl)) ?_; clear T ac; intro ac T
  refine wpList_nil ?_
  replace T := T.pick [0, 2, 3, 4, 5] rfl
  refine nm_then ?_
  exact ⟨_, by omega, i + 1, lo2, Jw2, rfl, (by omega), (by rw [hlo2, hlo1, List.set_set]; exact (turn_step hL hkp).2), (by omega), hsw2, T.pick [1, 2, 3, 4, 0] rfl, (M.permT [0, 1] 2 rfl rfl rfl rfl)⟩
 intro h2
 have hLf : L = (trnS s).ps := by rw [hL, List.take_of_length_le (by omega), List.drop_of_length_le (by omega), List.append_nil]; rfl
 refine wp_exit ?_
 refine ex_then ?_
 refine ex_then ?_
 refine ex_hit ?_
 refine nm_then ?_
 refine wp_seq ?_
 refine wp_region_lit ?_
 refine lq T (rn_rowO (Mem.nth M 1 rfl) rfl (T.ev 1 rfl) rfl) ?_; clear T ac; intro ac T
 refine l_w rfl ?_; intro K hK
 refine ow_stO M T rfl rfl (T.ev 3 rfl) (T.ev 0 rfl) rfl .head rfl (by simp) rfl (by kernel_rfl) ?_; clear M T; intro wc ac M T
 refine sh_out hK _ _ ?_; clear hK K
 refine lq T (rn_assign rfl evc) ?_; clear T ac; intro ac T
 refine wpList_nil ?_
 replace T := T.pick [0, 4] rfl
 replace M := M.mask [true, false] rfl
 refine nm_then ?_
 refine wp_ret ?_
 refine rt_ct M T rfl (T.ev 1 rfl) (T.ev 0 rfl) (nthE_mem (i := 0) rfl) rfl ?_
 have e8 : skErr s = 0 := by omega
 have e9 : trnZ s = trnS s := if_pos e8
 rw [e9, e8]
 have hw9 := hsw
 rw [← hLl, hLf] at hw9
 have hcq : (trnS s).ps.length ≤ ccu2 := by rw [← hLf]; omega
 have hq9 : LX.length = (trnS s).ps.length := by rw [← hLf]; omega
 exact ⟨Acu2, ccu2, Iw, by rw [hq9]; rfl, hcq, ⟨bX, 0, fun w ex => hw9.sp⟩, M.sub (List.sublist_append_right ([(g2, .cells [.int .i64 s.wi, .int .i64 s.lo, .int .i64 s.c0, .int .i64 s.c1, .int .i64 s.a0, .int .i64 s.a1, .slice Acu2 LX.length ccu2])] : List (Nat × BA)) _)⟩
end Go.Proofs.YtehpcclfgjccbaaDoor
end

section
/-
 ref8: Check, Size.
-/
namespace Go.Proofs.YtehpcclfgjccbaaDoor
set_option linter.unusedSimpArgs false
set_option linter.unusedVariables false
open Go.RowKit
theorem fits8_any (n lo hi : Int) (w : World)  :
   Calls Tryd.prog 75 #[.int .i64 n, .int .i64 lo, .int .i64 hi] w fun e w' => e = .returned (.bool (withinB n lo hi)) ∧ Below w.heap.size w w' := by
 refine px_enter noEx Tryd.func75 rfl 15 rfl [.int .i64 n, .int .i64 lo, .int .i64 hi] rfl rfl (Mem.init w _) ?_
 intro ac wc T M
 refine wp_seq ?_
 refine wp_region_lit ?_
 refine lq T (rn_assign rfl evc) ?_; clear T ac; intro ac T
 refine wpList_nil ?_
 replace T := T.pick [1, 2, 3] rfl
 refine nm_then ?_
 refine cut_seq (fun ac wc => Tm ac 15 [(6, .bool ((decide (lo ≤ n)) && (decide (n ≤ hi))))] ∧ Mem w noEx wc []) ?_ ?_
 ·refine wp_region_lit ?_
  refine lq T (rn_move rfl (T.ev 1 rfl)) ?_; clear T ac; intro ac T
  refine lq T (rn_move rfl (T.ev 1 rfl)) ?_; clear T ac; intro ac T
  refine lq T (rn_leq rfl (T.ev 1 rfl) (T.ev 0 rfl)) ?_; clear T ac; intro ac T
  refine lq T (rn_move rfl (T.ev 0 rfl)) ?_; clear T ac; intro ac T
  rcases Bool.eq_false_or_eq_true (decide (lo ≤ n)) with h1 | h1
  ·replace h1 := of_decide_eq_true h1
   refine lw T (wanted_yes rfl rfl (T.ev 0 rfl) (decide_eq_true h1)) (rn_move rfl (T.ev 4 rfl)) ?_; clear T ac; intro ac T
   refine lw T (wanted_yes rfl rfl (T.ev 1 rfl) (decide_eq_true h1)) (rn_move rfl (T.ev 7 rfl)) ?_; clear T ac; intro ac T
   refine lw T (wanted_yes rfl rfl (T.ev 2 rfl) (decide_eq_true h1)) (rn_leq rfl (T.ev 1 rfl) (T.ev 0 rfl)) ?_; clear T ac; intro ac T
   refine lq T (rn_pick1 rfl (T.ev 3 rfl) (decide_eq_true h1) (T.ev 0 rfl)) ?_; clear T ac; intro ac T
   refine lq T (rn_assign rfl (T.ev 0 rfl)) ?_; clear T ac; intro ac T
   refine wpList_nil ?_
   replace T := T.pick [0] rfl
   exact ⟨(T.pick (E' := [(6, .bool (decide (n ≤ hi)))]) [0] rfl).as (by (try rw [show (decide (lo ≤ n)) = true from (decide_eq_true h1)]); (try rfl)), M.mask [] rfl⟩
  replace h1 := of_decide_eq_false h1
  refine lp T (wanted_no rfl rfl (T.ev 0 rfl) (decide_eq_false h1)) ?_; clear T ac; intro ac T
  refine lp T (wanted_no rfl rfl (T.ev 1 rfl) (decide_eq_false h1)) ?_; clear T ac; intro ac T
  refine lp T (wanted_no rfl rfl (T.ev 2 rfl) (decide_eq_false h1)) ?_; clear T ac; intro ac T
  refine lq T (rn_pick0 rfl (T.ev 3 rfl) (decide_eq_false h1) evc) ?_; clear T ac; intro ac T
  refine lq T (rn_assign rfl (T.ev 0 rfl)) ?_; clear T ac; intro ac T
  refine wpList_nil ?_
  replace T := T.pick [0] rfl
  exact ⟨(T.pick (E' := [(6, .bool false)]) [0] rfl).as (by (try rw [show (decide (lo ≤ n)) = false from (decide_eq_false h1)]); (try rfl)), M.mask [] rfl⟩
 clear T M
 rintro ac wc ⟨T, M⟩
 refine wp_ret ?_
 refine rt_1 T rfl (T.ev 0 rfl) ?_
 exact ⟨ret_bool (by unfold withinB; simp), M.below⟩
theorem checkShrink8_any (x y : Int) (w : World)  :
   Calls Tryd.prog 96 #[.agg #[.int .i64 x, .int .i64 y]] w fun e w' => e = .returned (.int .i64 (chkR x y 0 2)) ∧ Below w.heap.size w w' := by
 refine px_enter noEx Tryd.func96 rfl 18 rfl [.agg #[.int .i64 x, .int .i64 y]] rfl rfl (Mem.init w _) ?_
 intro ac wc T M
 refine wp_seq ?_
 refine wp_region_lit ?_
 refine l_w rfl ?_; intro K hK
 refine ow_bx M T rfl rfl rfl rfl (T.ev 0 rfl) rfl ?_; clear M T; intro g1 wc ac M T
 refine sh_out hK _ _ ?_; clear hK K
 refine lq T (rn_assign rfl evc) ?_; clear T ac; intro ac T
 refine wpList_nil ?_
 replace T := T.pick [1] rfl
 refine nm_then ?_
 refine wp_seq ?_
 refine cut_seq (fun ac wc => Tm ac 18 [(1, .pointer (some ⟨g1, 0, none⟩)), (12, .bool ((!(withinB x 0 2)) || (!(withinB y 0 2))))] ∧ Mem w noEx wc [(g1, .cells [.int .i64 x, .int .i64 y])]) ?_ ?_
 ·refine wp_region_lit ?_
  refine lq (v := (.pointer (some ⟨g1, 0, none⟩))) T (rn_fieldAddr (off := 0) rfl (T.ev 0 rfl) (fun _ _ _ => by kernel_rfl)) ?_; clear T ac; intro ac T
  refine lq T (rn_one (Mem.nth M 0 rfl) rfl (T.ev 0 rfl) rfl) ?_; clear T ac; intro ac T
  refine l_w rfl ?_; intro K hK
  refine ow_call (first := []) (cap := []) T rfl rfl rfl rfl evf (.cons (T.ev 0 rfl) (.cons evc (.cons evc .nil))) Tryd.func75 rfl rfl ?_
  refine Calls.mono (fits8_any x 0 2 _) ?_
  clear T
  rintro e wc ⟨rfl, hb⟩
  intro ac T
  replace M := M.call hb; clear hb
  refine sh_out hK _ _ ?_; clear hK K
  refine lq T (rn_not rfl (T.ev 0 rfl)) ?_; clear T ac; intro ac T
  refine lq T (rn_move rfl (T.ev 0 rfl)) ?_; clear T ac; intro ac T
  rcases Bool.eq_false_or_eq_true (!(withinB x 0 2)) with h1 | h1
  ·refine lp T (wanted_no rfl rfl (T.ev 0 rfl) h1) ?_; clear T ac; intro ac T
   refine lp T (wanted_no rfl rfl (T.ev 1 rfl) h1) ?_; clear T ac; intro ac T
   refine lp T (wanted_no rfl rfl (T.ev 2 rfl) h1) ?_; clear T ac; intro ac T
   refine lp T (wanted_no rfl rfl (T.ev 3 rfl) h1) ?_; clear T ac; intro ac T
   refine lq T (rn_pick1 rfl (T.ev 4 rfl) h1 evc) ?_; clear T ac; intro ac T
   refine wpList_nil ?_
   replace T := T.pick [0, 10] rfl
   exact ⟨(T.pick (E' := [(1, .pointer (some ⟨g1, 0, none⟩)), (12, .bool true)]) [1, 0] rfl).as (by (try rw [show (!(withinB x 0 2)) = true from h1]); (try rfl)), M.mask [true] rfl⟩
  refine lw (v := (.pointer (some ⟨g1, 1, none⟩))) T (wanted_yes rfl rfl (T.ev 0 rfl) h1) (rn_fieldAddr (off := 1) rfl (T.ev 5 rfl) (fun _ _ _ => by kernel_rfl)) ?_; clear T ac; intro ac T
  refine lw T (wanted_yes rfl rfl (T.ev 1 rfl) h1) (rn_one (Mem.nth M 0 rfl) rfl (T.ev 0 rfl) rfl) ?_; clear T ac; intro ac T
  refine l_w (wanted_yes rfl rfl (T.ev 2 rfl) h1) ?_; intro K hK
  refine ow_call (first := []) (cap := []) T rfl rfl rfl rfl evf (.cons (T.ev 0 rfl) (.cons evc (.cons evc .nil))) Tryd.func75 rfl rfl ?_
  refine Calls.mono (fits8_any y 0 2 _) ?_
  clear T
  rintro e wc ⟨rfl, hb⟩
  intro ac T
  replace M := M.call hb; clear hb
  refine sh_out hK _ _ ?_; clear hK K
  refine lw T (wanted_yes rfl rfl (T.ev 3 rfl) h1) (rn_not rfl (T.ev 0 rfl)) ?_; clear T ac; intro ac T
  refine lq T (rn_pick0 rfl (T.ev 4 rfl) h1 (T.ev 0 rfl)) ?_; clear T ac; intro ac T
  refine wpList_nil ?_
  replace T := T.pick [0, 10] rfl
  exact ⟨(T.pick (E' := [(1, .pointer (some ⟨g1, 0, none⟩)), (12, .bool (!(withinB y 0 2)))]) [1, 0] rfl).as (by (try rw [show (!(withinB x 0 2)) = false from h1]); (try rfl)), M.mask [true] rfl⟩
 clear T M
 rintro ac wc ⟨T, M⟩
 refine wp_cond_split (T.ev 1 rfl) ?_ ?_
 ·intro h2
  (try have h2' := h2; try simp only [Bool.and_eq_true, Bool.or_eq_true, Bool.not_eq_true', Bool.and_eq_false_imp, Bool.or_eq_false_iff, decide_eq_true_eq, decide_eq_false_iff_not] at h2')
  refine wp_seq ?_
  refine wp_region_lit ?_
  refine lq T (rn_assign rfl evc) ?_; clear T ac; intro ac T
  refine wpList_nil ?_
  replace T := T.pick [0] rfl
  replace M := M.mask [false] rfl
  refine nm_then ?_
  refine wp_ret ?_
  refine rt_then ?_
  refine rt_1 T rfl (T.ev 0 rfl) ?_
  refine ⟨ret_int ?_, M.below⟩
  unfold chkR
  (repeat' split) <;> first | rfl | omega | contradiction | (simp_all; done) | (simp_all; omega)
 intro h2
 (try have h2' := h2; try simp only [Bool.and_eq_true, Bool.or_eq_true, Bool.not_eq_true', Bool.and_eq_false_imp, Bool.or_eq_false_iff, decide_eq_true_eq, decide_eq_false_iff_not] at h2')
 refine wp_skip ?_
 refine nm_then ?_
 refine wp_seq ?_
 refine wp_seq ?_
 refine wp_region_lit ?_
 refine lq (v := (.pointer (some ⟨g1, 0, none⟩))) T (rn_fieldAddr (off := 0) rfl (T.ev 0 rfl) (fun _ _ _ => by kernel_rfl)) ?_; clear T ac; intro ac T
 refine lq T (rn_one (Mem.nth M 0 rfl) rfl (T.ev 0 rfl) rfl) ?_; clear T ac; intro ac T
 refine lq (v := (.pointer (some ⟨g1, 1, none⟩))) T (rn_fieldAddr (off := 1) rfl (T.ev 2 rfl) (fun _ _ _ => by kernel_rfl)) ?_; clear T ac; intro ac T
 refine lq T (rn_one (Mem.nth M 0 rfl) rfl (T.ev 0 rfl) rfl) ?_; clear T ac; intro ac T
 refine lq T (rn_gtr rfl (T.ev 2 rfl) (T.ev 0 rfl)) ?_; clear T ac; intro ac T
 refine wpList_nil ?_
 replace T := T.pick [0] rfl
 replace M := M.mask [false] rfl
 refine nm_then ?_
 refine wp_if (T.ev 0 rfl) ?_ ?_
 ·intro h3
  refine wp_seq ?_
  refine wp_region_lit ?_
  refine lq T (rn_assign rfl evc) ?_; clear T ac; intro ac T
  refine wpList_nil ?_
  replace T := T.pick [0] rfl
  refine nm_then ?_
  refine wp_ret ?_
  refine rt_then ?_
  refine rt_1 T rfl (T.ev 0 rfl) ?_
  refine ⟨ret_int ?_, M.below⟩
  unfold chkR
  (repeat' split) <;> first | rfl | omega | contradiction | (simp_all; done) | (simp_all; omega)
 intro h3
 refine wp_skip ?_
 refine nm_then ?_
 refine wp_seq ?_
 refine wp_region_lit ?_
 refine lq T (rn_assign rfl evc) ?_; clear T ac; intro ac T
 refine wpList_nil ?_
 replace T := T.pick [0] rfl
 refine nm_then ?_
 refine wp_ret ?_
 refine rt_1 T rfl (T.ev 0 rfl) ?_
 refine ⟨ret_int ?_, M.below⟩
 unfold chkR
 (repeat' split) <;> first | rfl | omega | contradiction | (simp_all; done) | (simp_all; omega)
theorem checkPart8_any (p : Pt) (w : World)  :
   Calls Tryd.prog 93 #[.agg #[.int .i64 p.l, .int .i64 p.w, .bool p.gr, .int .i64 p.pa]] w fun e w' => e = .returned (.int .i64 (ptErr p)) ∧ Below w.heap.size w w' := by
 refine px_enter noEx Tryd.func93 rfl 19 rfl [.agg #[.int .i64 p.l, .int .i64 p.w, .bool p.gr, .int .i64 p.pa]] rfl rfl (Mem.init w _) ?_
 intro ac wc T M
 refine wp_seq ?_
 refine wp_region_lit ?_
 refine l_w rfl ?_; intro K hK
 refine ow_bx M T rfl rfl rfl rfl (T.ev 0 rfl) rfl ?_; clear M T; intro g1 wc ac M T
 refine sh_out hK _ _ ?_; clear hK K
 refine lq T (rn_assign rfl evc) ?_; clear T ac; intro ac T
 refine wpList_nil ?_
 replace T := T.pick [1] rfl
 refine nm_then ?_
 refine wp_seq ?_
 refine cut_seq (fun ac wc => Tm ac 19 [(18, .bool ((!(withinB p.l 1 12)) || ((!(withinB p.w 1 12)) || (!(withinB p.pa 0 3)))))] ∧ Mem w noEx wc []) ?_ ?_
 ·refine wp_region_lit ?_
  refine lq (v := (.pointer (some ⟨g1, 0, none⟩))) T (rn_fieldAddr (off := 0) rfl (T.ev 0 rfl) (fun _ _ _ => by kernel_rfl)) ?_; clear T ac; intro ac T
  refine lq T (rn_one (Mem.nth M 0 rfl) rfl (T.ev 0 rfl) rfl) ?_; clear T ac; intro ac T
  refine l_w rfl ?_; intro K hK
  refine ow_call (first := []) (cap := []) T rfl rfl rfl rfl evf (.cons (T.ev 0 rfl) (.cons evc (.cons evc .nil))) Tryd.func75 rfl rfl ?_
  refine Calls.mono (fits8_any p.l 1 12 _) ?_
  clear T
  rintro e wc ⟨rfl, hb⟩
  intro ac T
  replace M := M.call hb; clear hb
  refine sh_out hK _ _ ?_; clear hK K
  refine lq T (rn_not rfl (T.ev 0 rfl)) ?_; clear T ac; intro ac T
  refine lq T (rn_move rfl (T.ev 0 rfl)) ?_; clear T ac; intro ac T
  rcases Bool.eq_false_or_eq_true (!(withinB p.l 1 12)) with h1 | h1
  ·refine lp T (wanted_no rfl rfl (T.ev 0 rfl) h1) ?_; clear T ac; intro ac T
   refine lp T (wanted_no rfl rfl (T.ev 1 rfl) h1) ?_; clear T ac; intro ac T
   refine lp T (wanted_no rfl rfl (T.ev 2 rfl) h1) ?_; clear T ac; intro ac T
   refine lp T (wanted_no rfl rfl (T.ev 3 rfl) h1) ?_; clear T ac; intro ac T
   refine lq T (rn_pick1 rfl (T.ev 4 rfl) h1 evc) ?_; clear T ac; intro ac T
   refine lq T (rn_move rfl (T.ev 0 rfl)) ?_; clear T ac; intro ac T
   refine lp T (wanted_no rfl rfl (T.ev 0 rfl) rfl) ?_; clear T ac; intro ac T
   refine lp T (wanted_no rfl rfl (T.ev 1 rfl) rfl) ?_; clear T ac; intro ac T
   refine lp T (wanted_no rfl rfl (T.ev 2 rfl) rfl) ?_; clear T ac; intro ac T
   refine lp T (wanted_no rfl rfl (T.ev 3 rfl) rfl) ?_; clear T ac; intro ac T
   refine lq T (rn_pick1 rfl (T.ev 4 rfl) rfl evc) ?_; clear T ac; intro ac T
   refine wpList_nil ?_
   replace T := T.pick [0] rfl
   replace M := M.mask [false] rfl
   exact ⟨(T.pick (E' := [(18, .bool true)]) [0] rfl).as (by (try rw [show (!(withinB p.l 1 12)) = true from h1]); (try rfl)), M.mask [] rfl⟩
  refine lw (v := (.pointer (some ⟨g1, 1, none⟩))) T (wanted_yes rfl rfl (T.ev 0 rfl) h1) (rn_fieldAddr (off := 1) rfl (T.ev 5 rfl) (fun _ _ _ => by kernel_rfl)) ?_; clear T ac; intro ac T
  refine lw T (wanted_yes rfl rfl (T.ev 1 rfl) h1) (rn_one (Mem.nth M 0 rfl) rfl (T.ev 0 rfl) rfl) ?_; clear T ac; intro ac T
  refine l_w (wanted_yes rfl rfl (T.ev 2 rfl) h1) ?_; intro K hK
  refine ow_call (first := []) (cap := []) T rfl rfl rfl rfl evf (.cons (T.ev 0 rfl) (.cons evc (.cons evc .nil))) Tryd.func75 rfl rfl ?_
  refine Calls.mono (fits8_any p.w 1 12 _) ?_
  clear T
  rintro e wc ⟨rfl, hb⟩
  intro ac T
  replace M := M.call hb; clear hb
  refine sh_out hK _ _ ?_; clear hK K
  refine lw T (wanted_yes rfl rfl (T.ev 3 rfl) h1) (rn_not rfl (T.ev 0 rfl)) ?_; clear T ac; intro ac T
  refine lq T (rn_pick0 rfl (T.ev 4 rfl) h1 (T.ev 0 rfl)) ?_; clear T ac; intro ac T
  refine lq T (rn_move rfl (T.ev 0 rfl)) ?_; clear T ac; intro ac T
  rcases Bool.eq_false_or_eq_true (!(withinB p.w 1 12)) with h2 | h2
  ·refine lp T (wanted_no rfl rfl (T.ev 0 rfl) h2) ?_; clear T ac; intro ac T
   refine lp T (wanted_no rfl rfl (T.ev 1 rfl) h2) ?_; clear T ac; intro ac T
   refine lp T (wanted_no rfl rfl (T.ev 2 rfl) h2) ?_; clear T ac; intro ac T
   refine lp T (wanted_no rfl rfl (T.ev 3 rfl) h2) ?_; clear T ac; intro ac T
   refine lq T (rn_pick1 rfl (T.ev 4 rfl) h2 evc) ?_; clear T ac; intro ac T
   refine wpList_nil ?_
   replace T := T.pick [0] rfl
   replace M := M.mask [false] rfl
   exact ⟨(T.pick (E' := [(18, .bool true)]) [0] rfl).as (by (try rw [show (!(withinB p.l 1 12)) = false from h1]); (try rw [show (!(withinB p.w 1 12)) = true from h2]); (try rfl)), M.mask [] rfl⟩
  refine lw (v := (.pointer (some ⟨g1, 3, none⟩))) T (wanted_yes rfl rfl (T.ev 0 rfl) h2) (rn_fieldAddr (off := 3) rfl (T.ev 11 rfl) (fun _ _ _ => by kernel_rfl)) ?_; clear T ac; intro ac T
  refine lw T (wanted_yes rfl rfl (T.ev 1 rfl) h2) (rn_one (Mem.nth M 0 rfl) rfl (T.ev 0 rfl) rfl) ?_; clear T ac; intro ac T
  refine l_w (wanted_yes rfl rfl (T.ev 2 rfl) h2) ?_; intro K hK
  refine ow_call (first := []) (cap := []) T rfl rfl rfl rfl evf (.cons (T.ev 0 rfl) (.cons evc (.cons evc .nil))) Tryd.func75 rfl rfl ?_
  refine Calls.mono (fits8_any p.pa 0 3 _) ?_
  clear T
  rintro e wc ⟨rfl, hb⟩
  intro ac T
  replace M := M.call hb; clear hb
  refine sh_out hK _ _ ?_; clear hK K
  refine lw T (wanted_yes rfl rfl (T.ev 3 rfl) h2) (rn_not rfl (T.ev 0 rfl)) ?_; clear T ac; intro ac T
  refine lq T (rn_pick0 rfl (T.ev 4 rfl) h2 (T.ev 0 rfl)) ?_; clear T ac; intro ac T
  refine wpList_nil ?_
  replace T := T.pick [0] rfl
  replace M := M.mask [false] rfl
  exact ⟨(T.pick (E' := [(18, .bool (!(withinB p.pa 0 3)))]) [0] rfl).as (by (try rw [show (!(withinB p.l 1 12)) = false from h1]); (try rw [show (!(withinB p.w 1 12)) = false from h2]); (try rfl)), M.mask [] rfl⟩
 clear T M
 rintro ac wc ⟨T, M⟩
 refine wp_cond_split (T.ev 0 rfl) ?_ ?_
 ·intro h3
  (try have h3' := h3; try simp only [Bool.and_eq_true, Bool.or_eq_true, Bool.not_eq_true', Bool.and_eq_false_imp, Bool.or_eq_false_iff, decide_eq_true_eq, decide_eq_false_iff_not] at h3')
  refine wp_seq ?_
  refine wp_region_lit ?_
  refine lq T (rn_assign rfl evc) ?_; clear T ac; intro ac T
  refine wpList_nil ?_
  replace T := T.pick [0] rfl
  refine nm_then ?_
  refine wp_ret ?_
  refine rt_then ?_
  refine rt_1 T rfl (T.ev 0 rfl) ?_
  refine ⟨ret_int ?_, M.below⟩
  unfold ptErr
  rcases Bool.eq_false_or_eq_true (withinB p.l 1 12) with a1 | a1 <;> rcases Bool.eq_false_or_eq_true (withinB p.w 1 12) with a2 | a2 <;> rcases Bool.eq_false_or_eq_true (withinB p.pa 0 3) with a3 | a3 <;> simp_all
 intro h3
 (try have h3' := h3; try simp only [Bool.and_eq_true, Bool.or_eq_true, Bool.not_eq_true', Bool.and_eq_false_imp, Bool.or_eq_false_iff, decide_eq_true_eq, decide_eq_false_iff_not] at h3')
 refine wp_skip ?_
 refine nm_then ?_
 refine wp_seq ?_
 refine wp_region_lit ?_
 refine lq T (rn_assign rfl evc) ?_; clear T ac; intro ac T
 refine wpList_nil ?_
 replace T := T.pick [0] rfl
 refine nm_then ?_
 refine wp_ret ?_
 refine rt_1 T rfl (T.ev 0 rfl) ?_
 refine ⟨ret_int ?_, M.below⟩
 unfold ptErr
 rcases Bool.eq_false_or_eq_true (withinB p.l 1 12) with a1 | a1 <;> rcases Bool.eq_false_or_eq_true (withinB p.w 1 12) with a2 | a2 <;> rcases Bool.eq_false_or_eq_true (withinB p.pa 0 3) with a3 | a3 <;> simp_all
theorem skCheck8_any (s : Sk) (A : Option Addr) (c : Nat)  (w : World) (hA : Rd w w.heap.size 4 A s.ps.length (pc s.ps)) (nA : s.ps.length ≤ 1000000)  :
   Calls Tryd.prog 61 #[.agg #[.int .i64 s.lo, .int .i64 s.wi, .int .i64 s.a0, .int .i64 s.a1, .int .i64 s.c0, .int .i64 s.c1, .slice A s.ps.length c]] w fun e w' => e = .returned (.int .i64 (skErr s)) ∧ Below w.heap.size w w' := by
 obtain ⟨bA, oA, SA⟩ := Sp.old hA
 refine px_enter noEx Tryd.func61 rfl 49 rfl [.agg #[.int .i64 s.lo, .int .i64 s.wi, .int .i64 s.a0, .int .i64 s.a1, .int .i64 s.c0, .int .i64 s.c1, .slice A s.ps.length c]] rfl rfl (Mem.init w _) ?_
 intro ac wc T M
 refine wp_seq ?_
 refine wp_region_lit ?_
 refine l_w rfl ?_; intro K hK
 refine ow_bx M T rfl rfl rfl rfl (T.ev 0 rfl) rfl ?_; clear M T; intro g1 wc ac M T
 refine sh_out hK _ _ ?_; clear hK K
 refine lq T (rn_assign rfl evc) ?_; clear T ac; intro ac T
 refine wpList_nil ?_
 replace T := T.pick [1] rfl
 refine nm_then ?_
 refine wp_seq ?_
 refine cut_seq (fun ac wc => Tm ac 49 [(1, .pointer (some ⟨g1, 0, none⟩)), (16, .bool ((!(withinB s.lo 1 12)) || (!(withinB s.wi 1 12))))] ∧ Mem w noEx wc [(g1, .cells [.int .i64 s.lo, .int .i64 s.wi, .int .i64 s.a0, .int .i64 s.a1, .int .i64 s.c0, .int .i64 s.c1, .slice A s.ps.length c])]) ?_ ?_
 ·refine wp_region_lit ?_
  refine lq (v := (.pointer (some ⟨g1, 0, none⟩))) T (rn_fieldAddr (off := 0) rfl (T.ev 0 rfl) (fun _ _ _ => by kernel_rfl)) ?_; clear T ac; intro ac T
  refine lq T (rn_one (Mem.nth M 0 rfl) rfl (T.ev 0 rfl) rfl) ?_; clear T ac; intro ac T
  refine l_w rfl ?_; intro K hK
  refine ow_call (first := []) (cap := []) T rfl rfl rfl rfl evf (.cons (T.ev 0 rfl) (.cons evc (.cons evc .nil))) Tryd.func75 rfl rfl ?_
  refine Calls.mono (fits8_any s.lo 1 12 _) ?_
  clear T
  rintro e wc ⟨rfl, hb⟩
  intro ac T
  replace M := M.call hb; clear hb
  refine sh_out hK _ _ ?_; clear hK K
  refine lq T (rn_not rfl (T.ev 0 rfl)) ?_; clear T ac; intro ac T
  refine lq T (rn_move rfl (T.ev 0 rfl)) ?_; clear T ac; intro ac T
  rcases Bool.eq_false_or_eq_true (!(withinB s.lo 1 12)) with h1 | h1
  ·refine lp T (wanted_no rfl rfl (T.ev 0 rfl) h1) ?_; clear T ac; intro ac T
   refine lp T (wanted_no rfl rfl (T.ev 1 rfl) h1) ?_; clear T ac; intro ac T
   refine lp T (wanted_no rfl rfl (T.ev 2 rfl) h1) ?_; clear T ac; intro ac T
   refine lp T (wanted_no rfl rfl (T.ev 3 rfl) h1) ?_; clear T ac; intro ac T
   refine lq T (rn_pick1 rfl (T.ev 4 rfl) h1 evc) ?_; clear T ac; intro ac T
   refine wpList_nil ?_
   replace T := T.pick [0, 10] rfl
   exact ⟨(T.pick (E' := [(1, .pointer (some ⟨g1, 0, none⟩)), (16, .bool true)]) [1, 0] rfl).as (by (try rw [show (!(withinB s.lo 1 12)) = true from h1]); (try rfl)), M.mask [true] rfl⟩
  refine lw (v := (.pointer (some ⟨g1, 1, none⟩))) T (wanted_yes rfl rfl (T.ev 0 rfl) h1) (rn_fieldAddr (off := 1) rfl (T.ev 5 rfl) (fun _ _ _ => by kernel_rfl)) ?_; clear T ac; intro ac T
  refine lw T (wanted_yes rfl rfl (T.ev 1 rfl) h1) (rn_one (Mem.nth M 0 rfl) rfl (T.ev 0 rfl) rfl) ?_; clear T ac; intro ac T
  refine l_w (wanted_yes rfl rfl (T.ev 2 rfl) h1) ?_; intro K hK
  refine ow_call (first := []) (cap := []) T rfl rfl rfl rfl evf (.cons (T.ev 0 rfl) (.cons evc (.cons evc .nil))) Tryd.func75 rfl rfl ?_
  refine Calls.mono (fits8_any s.wi 1 12 _) ?_
  clear T
  rintro e wc ⟨rfl, hb⟩
  intro ac T
  replace M := M.call hb; clear hb
  refine sh_out hK _ _ ?_; clear hK K
  refine lw T (wanted_yes rfl rfl (T.ev 3 rfl) h1) (rn_not rfl (T.ev 0 rfl)) ?_; clear T ac; intro ac T
  refine lq T (rn_pick0 rfl (T.ev 4 rfl) h1 (T.ev 0 rfl)) ?_; clear T ac; intro ac T
  refine wpList_nil ?_
  replace T := T.pick [0, 10] rfl
  exact ⟨(T.pick (E' := [(1, .pointer (some ⟨g1, 0, none⟩)), (16, .bool (!(withinB s.wi 1 12)))]) [1, 0] rfl).as (by (try rw [show (!(withinB s.lo 1 12)) = false from h1]); (try rfl)), M.mask [true] rfl⟩
 clear T M
 rintro ac wc ⟨T, M⟩
 refine wp_cond_split (T.ev 1 rfl) ?_ ?_
 ·intro h2
  (try have h2' := h2; try simp only [Bool.and_eq_true, Bool.or_eq_true, Bool.not_eq_true', Bool.and_eq_false_imp, Bool.or_eq_false_iff, decide_eq_true_eq, decide_eq_false_iff_not] at h2')
  refine wp_seq ?_
  refine wp_region_lit ?_
  refine lq T (rn_assign rfl evc) ?_; clear T ac; intro ac T
  refine wpList_nil ?_
  replace T := T.pick [0] rfl
  replace M := M.mask [false] rfl
  refine nm_then ?_
  refine wp_ret ?_
  refine rt_then ?_
  refine rt_1 T rfl (T.ev 0 rfl) ?_
  refine ⟨ret_int ?_, M.below⟩
  unfold skErr
  (repeat' split) <;> first | rfl | omega | contradiction | (simp_all; done) | (simp_all; omega)
 intro h2
 (try have h2' := h2; try simp only [Bool.and_eq_true, Bool.or_eq_true, Bool.not_eq_true', Bool.and_eq_false_imp, Bool.or_eq_false_iff, decide_eq_true_eq, decide_eq_false_iff_not] at h2')
 refine wp_skip ?_
 refine nm_then ?_
 refine wp_seq ?_
 refine wp_seq ?_
 refine wp_region_lit ?_
 refine lq (v := (.pointer (some ⟨g1, 2, none⟩))) T (rn_fieldAddr (off := 2) rfl (T.ev 0 rfl) (fun _ _ _ => by kernel_rfl)) ?_; clear T ac; intro ac T
 refine lq T (rn_rowO (Mem.nth M 0 rfl) rfl (T.ev 0 rfl) rfl) ?_; clear T ac; intro ac T
 refine l_w rfl ?_; intro K hK
 refine ow_call (first := []) (cap := []) T rfl rfl rfl rfl evf (.cons (T.ev 0 rfl) .nil) Tryd.func96 rfl rfl ?_
 refine Calls.mono (checkShrink8_any s.a0 s.a1 _) ?_
 clear T
 rintro e wc ⟨rfl, hb⟩
 intro ac T
 replace M := M.call hb; clear hb
 refine sh_out hK _ _ ?_; clear hK K
 refine lq T (rn_assign rfl (T.ev 0 rfl)) ?_; clear T ac; intro ac T
 refine wpList_nil ?_
 replace T := T.pick [0, 4] rfl
 refine nm_then ?_
 refine wp_seq ?_
 refine wp_region_lit ?_
 refine lq T (rn_move rfl (T.ev 0 rfl)) ?_; clear T ac; intro ac T
 refine lq T (rn_neq rfl (T.ev 0 rfl) evc) ?_; clear T ac; intro ac T
 refine wpList_nil ?_
 replace T := T.pick [0, 2, 3] rfl
 refine nm_then ?_
 refine wp_ifn (T.ev 0 rfl) ?_ ?_
 ·intro h3
  refine wp_seq ?_
  refine wp_region_lit ?_
  refine lq T (rn_move rfl (T.ev 1 rfl)) ?_; clear T ac; intro ac T
  refine lq T (rn_assign rfl (T.ev 0 rfl)) ?_; clear T ac; intro ac T
  refine wpList_nil ?_
  replace T := T.pick [0] rfl
  replace M := M.mask [false] rfl
  refine nm_then ?_
  refine wp_ret ?_
  refine rt_then ?_
  refine rt_1 T rfl (T.ev 0 rfl) ?_
  refine ⟨ret_int ?_, M.below⟩
  unfold skErr
  (repeat' split) <;> first | rfl | omega | contradiction | (simp_all; done) | (simp_all; omega)
 intro h3
 refine wp_skip ?_
 refine nm_then ?_
 refine wp_seq ?_
 refine wp_seq ?_
 refine wp_region_lit ?_
 refine lq (v := (.pointer (some ⟨g1, 4, none⟩))) T (rn_fieldAddr (off := 4) rfl (T.ev 2 rfl) (fun _ _ _ => by kernel_rfl)) ?_; clear T ac; intro ac T
 refine lq T (rn_rowO (Mem.nth M 0 rfl) rfl (T.ev 0 rfl) rfl) ?_; clear T ac; intro ac T
 refine l_w rfl ?_; intro K hK
 refine ow_call (first := []) (cap := []) T rfl rfl rfl rfl evf (.cons (T.ev 0 rfl) .nil) Tryd.func96 rfl rfl ?_
 refine Calls.mono (checkShrink8_any s.c0 s.c1 _) ?_
 clear T
 rintro e wc ⟨rfl, hb⟩
 intro ac T
 replace M := M.call hb; clear hb
 refine sh_out hK _ _ ?_; clear hK K
 refine lq T (rn_assign rfl (T.ev 0 rfl)) ?_; clear T ac; intro ac T
 refine wpList_nil ?_
 replace T := T.pick [0, 6] rfl
 refine nm_then ?_
 refine wp_seq ?_
 refine wp_region_lit ?_
 refine lq T (rn_move rfl (T.ev 0 rfl)) ?_; clear T ac; intro ac T
 refine lq T (rn_neq rfl (T.ev 0 rfl) evc) ?_; clear T ac; intro ac T
 refine wpList_nil ?_
 replace T := T.pick [0, 2, 3] rfl
 refine nm_then ?_
 refine wp_ifn (T.ev 0 rfl) ?_ ?_
 ·intro h4
  refine wp_seq ?_
  refine wp_region_lit ?_
  refine lq T (rn_move rfl (T.ev 1 rfl)) ?_; clear T ac; intro ac T
  refine lq T (rn_assign rfl (T.ev 0 rfl)) ?_; clear T ac; intro ac T
  refine wpList_nil ?_
  replace T := T.pick [0] rfl
  replace M := M.mask [false] rfl
  refine nm_then ?_
  refine wp_ret ?_
  refine rt_then ?_
  refine rt_1 T rfl (T.ev 0 rfl) ?_
  refine ⟨ret_int ?_, M.below⟩
  unfold skErr
  (repeat' split) <;> first | rfl | omega | contradiction | (simp_all; done) | (simp_all; omega)
 intro h4
 refine wp_skip ?_
 refine nm_then ?_
 refine wp_seq ?_
 refine wp_seq ?_
 refine wp_region_lit ?_
 refine lq (v := (.pointer (some ⟨g1, 6, none⟩))) T (rn_fieldAddr (off := 6) rfl (T.ev 2 rfl) (fun _ _ _ => by kernel_rfl)) ?_; clear T ac; intro ac T
 refine lq T (rn_one (Mem.nth M 0 rfl) rfl (T.ev 0 rfl) rfl) ?_; clear T ac; intro ac T
 refine lq T (rn_lenS rfl Tryd.underlying24 (T.ev 0 rfl)) ?_; clear T ac; intro ac T
 refine lq T (rn_gtr rfl (T.ev 0 rfl) evc) ?_; clear T ac; intro ac T
 refine wpList_nil ?_
 replace T := T.pick [0, 6] rfl
 refine nm_then ?_
 refine wp_if (T.ev 0 rfl) ?_ ?_
 ·intro h5
  refine wp_seq ?_
  refine wp_region_lit ?_
  refine lq T (rn_assign rfl evc) ?_; clear T ac; intro ac T
  refine wpList_nil ?_
  replace T := T.pick [0] rfl
  replace M := M.mask [false] rfl
  refine nm_then ?_
  refine wp_ret ?_
  refine rt_then ?_
  refine rt_1 T rfl (T.ev 0 rfl) ?_
  refine ⟨ret_int ?_, M.below⟩
  unfold skErr
  (repeat' split) <;> first | rfl | omega | contradiction | (simp_all; done) | (simp_all; omega)
 intro h5
 refine wp_skip ?_
 refine nm_then ?_
 refine wp_seq ?_
 refine wp_seq ?_
 refine wp_region_lit ?_
 refine lq T (rn_assign rfl evc) ?_; clear T ac; intro ac T
 refine wpList_nil ?_
 replace T := T.pick [0, 2] rfl
 refine nm_then ?_
 refine wp_block ?_
 refine wp_loop_n (fun mz ac wc => ∃ (k : Nat), mz = s.ps.length - k ∧ (k ≤ s.ps.length) ∧ (ptsErr s.ps = ptsErr (s.ps.drop k)) ∧ Tm ac 49 [(1, .pointer (some ⟨g1, 0, none⟩)), (5, .int .i64 (k : Int))] ∧ Mem w noEx wc [(g1, .cells [.int .i64 s.lo, .int .i64 s.wi, .int .i64 s.a0, .int .i64 s.a1, .int .i64 s.c0, .int .i64 s.c1, .slice A s.ps.length c])]) ?_ ?_
 ·exact ⟨_, 0, rfl, (Nat.zero_le _), rfl, T.pick [1, 0] rfl, M.mask [true] rfl⟩
 clear T M
 rintro mz ac wc ⟨k, hmm1, hk, H, T, M⟩
 refine wp_seq ?_
 refine wp_seq ?_
 refine wp_region_lit ?_
 refine lq T (rn_move rfl (T.ev 1 rfl)) ?_; clear T ac; intro ac T
 refine lq (v := (.pointer (some ⟨g1, 6, none⟩))) T (rn_fieldAddr (off := 6) rfl (T.ev 1 rfl) (fun _ _ _ => by kernel_rfl)) ?_; clear T ac; intro ac T
 refine lq T (rn_one (Mem.nth M 0 rfl) rfl (T.ev 0 rfl) rfl) ?_; clear T ac; intro ac T
 refine lq T (rn_lenS rfl Tryd.underlying24 (T.ev 0 rfl)) ?_; clear T ac; intro ac T
 refine lq T (rn_lss rfl (T.ev 3 rfl) (T.ev 0 rfl)) ?_; clear T ac; intro ac T
 refine wpList_nil ?_
 replace T := T.pick [0, 5, 6] rfl
 refine nm_then ?_
 refine wp_if (T.ev 0 rfl) ?_ ?_
 ·intro h6
  obtain ⟨p, hkp, hd⟩ := pc_next (l := s.ps) (k := k) (by omega)
  rw [hd, ptsErr] at H
  refine wp_skip ?_
  refine nm_then ?_
  refine wp_seq ?_
  refine wp_block ?_
  refine wp_seq ?_
  refine wp_region_lit ?_
  refine lq (v := (.pointer (some ⟨g1, 6, none⟩))) T (rn_fieldAddr (off := 6) rfl (T.ev 1 rfl) (fun _ _ _ => by kernel_rfl)) ?_; clear T ac; intro ac T
  refine lq T (rn_one (Mem.nth M 0 rfl) rfl (T.ev 0 rfl) rfl) ?_; clear T ac; intro ac T
  refine lq T (rn_move rfl (T.ev 4 rfl)) ?_; clear T ac; intro ac T
  refine lq T (rn_indexAddr (size := 4) k rfl (T.ev 1 rfl) (T.ev 0 rfl) ⟨_, Tryd.underlying24, by kernel_rfl⟩ rfl (by omega) (SA.at0 (by omega))) ?_; clear T ac; intro ac T
  refine lq (v := (.agg #[.int .i64 p.l, .int .i64 p.w, .bool p.gr, .int .i64 p.pa])) T (rn_rowat (Sp.pcR SA M (List.nil_sublist _) hkp) rfl (T.ev 0 rfl) rfl) ?_; clear T ac; intro ac T
  refine l_w rfl ?_; intro K hK
  refine ow_call (first := []) (cap := []) T rfl rfl rfl rfl evf (.cons (T.ev 0 rfl) .nil) Tryd.func93 rfl rfl ?_
  refine Calls.mono (checkPart8_any p _) ?_
  clear T
  rintro e wc ⟨rfl, hb⟩
  intro ac T
  replace M := M.call hb; clear hb
  refine sh_out hK _ _ ?_; clear hK K
  refine lq T (rn_assign rfl (T.ev 0 rfl)) ?_; clear T ac; intro ac T
  refine wpList_nil ?_
  replace T := T.pick [0, 8, 9] rfl
  refine nm_then ?_
  refine wp_seq ?_
  refine wp_region_lit ?_
  refine lq T (rn_move rfl (T.ev 0 rfl)) ?_; clear T ac; intro ac T
  refine lq T (rn_neq rfl (T.ev 0 rfl) evc) ?_; clear T ac; intro ac T
  refine wpList_nil ?_
  replace T := T.pick [0, 2, 3, 4] rfl
  refine nm_then ?_
  refine wp_ifn (T.ev 0 rfl) ?_ ?_
  ·intro h7
   refine wp_seq ?_
   refine wp_region_lit ?_
   refine lq T (rn_move rfl (T.ev 1 rfl)) ?_; clear T ac; intro ac T
   refine lq T (rn_assign rfl (T.ev 0 rfl)) ?_; clear T ac; intro ac T
   refine wpList_nil ?_
   replace T := T.pick [0] rfl
   replace M := M.mask [false] rfl
   refine nm_then ?_
   refine wp_ret ?_
   refine rt_blk ?_
   refine rt_then ?_
   refine rt_then ?_
   refine rt_blk ?_
   refine rt_then ?_
   refine rt_1 T rfl (T.ev 0 rfl) ?_
   rw [if_neg (by omega)] at H
   refine ⟨ret_int ?_, M.below⟩
   unfold skErr
   (repeat' split) <;> first | rfl | omega | contradiction | (simp_all; done) | (simp_all; omega)
  intro h7
  refine wp_skip ?_
  refine nm_blk ?_
  refine nm_then ?_
  refine wp_region_lit ?_
  refine lq T (rn_move rfl (T.ev 3 rfl)) ?_; clear T ac; intro ac T
  refine lq T (rn_add rfl (T.ev 0 rfl) evc (by omega)) ?_; clear T ac; intro ac T
  refine l_q (v := (.int .i64 ((k : Int) + 1))) (T.pick [0, 1, 2, 3, 4] rfl) rfl rfl rfl rfl (rn_assign rfl (T.ev 0 rfl)) ?_; clear T ac; intro ac T
  refine wpList_nil ?_
  replace T := T.pick [0, 5] rfl
  refine nm_then ?_
  rw [if_pos (by omega)] at H
  exact ⟨_, by omega, k + 1, rfl, (by omega), H, T.pick [1, 0] rfl, M.mask [true] rfl⟩
 intro h6
 rw [List.drop_of_length_le (by omega), ptsErr] at H
 refine wp_exit ?_
 refine ex_then ?_
 refine ex_then ?_
 refine ex_hit ?_
 refine nm_then ?_
 refine wp_seq ?_
 refine wp_region_lit ?_
 refine lq T (rn_assign rfl evc) ?_; clear T ac; intro ac T
 refine wpList_nil ?_
 replace T := T.pick [0] rfl
 replace M := M.mask [false] rfl
 refine nm_then ?_
 refine wp_ret ?_
 refine rt_1 T rfl (T.ev 0 rfl) ?_
 refine ⟨ret_int ?_, M.below⟩
 unfold skErr
 (repeat' split) <;> first | rfl | omega | contradiction | (simp_all; done) | (simp_all; omega)
theorem size8_any (s : Sk) (A : Option Addr) (d : Nat) (p : Pt) (t su : Bool)  (w : World) (hsg : s.good) (hpg : p.good)  :
   Calls Tryd.prog 94 #[.agg #[.int .i64 s.lo, .int .i64 s.wi, .int .i64 s.a0, .int .i64 s.a1, .int .i64 s.c0, .int .i64 s.c1, .slice A s.ps.length d], .agg #[.int .i64 p.l, .int .i64 p.w, .bool p.gr, .int .i64 p.pa], .bool t, .bool su] w fun e w' => e = .returned (.tuple #[.int .i64 (sizeL (cutA s su) (cutC s su) p t), .int .i64 (sizeW (cutA s su) (cutC s su) p t)]) ∧ Below w.heap.size w w' := by
 obtain ⟨g1, g2, g3, g4, -, -⟩ := hsg
 obtain ⟨g5, g6, -⟩ := hpg
 refine px_enter noEx Tryd.func94 rfl 42 rfl [.agg #[.int .i64 s.lo, .int .i64 s.wi, .int .i64 s.a0, .int .i64 s.a1, .int .i64 s.c0, .int .i64 s.c1, .slice A s.ps.length d], .agg #[.int .i64 p.l, .int .i64 p.w, .bool p.gr, .int .i64 p.pa], .bool t, .bool su] rfl rfl (Mem.init w _) ?_
 intro ac wc T M
 refine wp_seq ?_
 refine wp_region_lit ?_
 refine l_w rfl ?_; intro K hK
 refine ow_bx M T rfl rfl rfl rfl (T.ev 0 rfl) rfl ?_; clear M T; intro g1 wc ac M T
 refine sh_out hK _ _ ?_; clear hK K
 refine l_w rfl ?_; intro K hK
 refine ow_bx M T rfl rfl rfl rfl (T.ev 2 rfl) rfl ?_; clear M T; intro g2 wc ac M T
 refine sh_out hK _ _ ?_; clear hK K
 refine lq T (rn_assign rfl evc) ?_; clear T ac; intro ac T
 refine lq T (rn_assign rfl evc) ?_; clear T ac; intro ac T
 refine wpList_nil ?_
 replace T := T.pick [2, 3, 6, 7] rfl
 refine nm_then ?_
 refine wp_seq ?_
 refine g_start2 M (M.mask [true, true] rfl) 8 (by kernel_rfl) rfl (by kernel_rfl) ?_
 clear M; intro wc M
 refine gq (v := (.pointer (some ⟨g1, 2, none⟩))) T 0 1 rfl (fun _ _ _ _ _ => (rn_fieldAddr (off := 2) rfl (T.ev 1 rfl) (fun _ _ _ => by kernel_rfl))) ?_; clear T ac; intro ac T
 refine gq (v := (.pointer (some ⟨g1, 2, none⟩))) T 1 3 rfl (fun _ _ _ _ _ => (rn_fieldAddr (off := 0) rfl (T.ev 0 rfl) (fun _ _ _ => by kernel_rfl))) ?_; clear T ac; intro ac T
 refine gq T 2 7 rfl (fun B w' hD hl hS => (rn_one (Mem.nth (show Mem w noEx w' _ from hS) 1 rfl) rfl (T.ev 0 rfl) rfl)) ?_; clear T ac; intro ac T
 refine gq (v := (.pointer (some ⟨g1, 4, none⟩))) T 3 15 rfl (fun _ _ _ _ _ => (rn_fieldAddr (off := 4) rfl (T.ev 4 rfl) (fun _ _ _ => by kernel_rfl))) ?_; clear T ac; intro ac T
 refine gq (v := (.pointer (some ⟨g1, 4, none⟩))) T 4 31 rfl (fun _ _ _ _ _ => (rn_fieldAddr (off := 0) rfl (T.ev 0 rfl) (fun _ _ _ => by kernel_rfl))) ?_; clear T ac; intro ac T
 refine gq T 5 63 rfl (fun B w' hD hl hS => (rn_one (Mem.nth (show Mem w noEx w' _ from hS) 1 rfl) rfl (T.ev 0 rfl) rfl)) ?_; clear T ac; intro ac T
 refine gq T 6 127 rfl (fun _ _ _ _ _ => (rn_assign rfl (T.ev 3 rfl))) ?_; clear T ac; intro ac T
 refine gq T 7 255 rfl (fun _ _ _ _ _ => (rn_assign rfl (T.ev 1 rfl))) ?_; clear T ac; intro ac T
 refine g_done (by kernel_rfl) ?_
 replace T := T.pick [0, 1, 8, 9, 10, 11] rfl
 refine nm_then ?_
 refine wp_seq ?_
 refine wp_seq ?_
 refine wp_region_lit ?_
 refine lq T (rn_move rfl (T.ev 5 rfl)) ?_; clear T ac; intro ac T
 refine wpList_nil ?_
 replace T := T.pick [0, 1, 2, 3, 4, 5] rfl
 refine nm_then ?_
 refine wp_cond_split (T.ev 0 rfl) ?_ ?_
 ·intro h1
  refine g_start2 M (M.mask [true, true] rfl) 8 (by kernel_rfl) rfl (by kernel_rfl) ?_
  clear M; intro wc M
  refine gq (v := (.pointer (some ⟨g1, 2, none⟩))) T 0 1 rfl (fun _ _ _ _ _ => (rn_fieldAddr (off := 2) rfl (T.ev 4 rfl) (fun _ _ _ => by kernel_rfl))) ?_; clear T ac; intro ac T
  refine gq (v := (.pointer (some ⟨g1, 3, none⟩))) T 1 3 rfl (fun _ _ _ _ _ => (rn_fieldAddr (off := 1) rfl (T.ev 0 rfl) (fun _ _ _ => by kernel_rfl))) ?_; clear T ac; intro ac T
  refine gq T 2 7 rfl (fun B w' hD hl hS => (rn_one (Mem.nth (show Mem w noEx w' _ from hS) 1 rfl) rfl (T.ev 0 rfl) rfl)) ?_; clear T ac; intro ac T
  refine gq (v := (.pointer (some ⟨g1, 4, none⟩))) T 3 15 rfl (fun _ _ _ _ _ => (rn_fieldAddr (off := 4) rfl (T.ev 7 rfl) (fun _ _ _ => by kernel_rfl))) ?_; clear T ac; intro ac T
  refine gq (v := (.pointer (some ⟨g1, 5, none⟩))) T 4 31 rfl (fun _ _ _ _ _ => (rn_fieldAddr (off := 1) rfl (T.ev 0 rfl) (fun _ _ _ => by kernel_rfl))) ?_; clear T ac; intro ac T
  refine gq T 5 63 rfl (fun B w' hD hl hS => (rn_one (Mem.nth (show Mem w noEx w' _ from hS) 1 rfl) rfl (T.ev 0 rfl) rfl)) ?_; clear T ac; intro ac T
  refine g_q (v := (.int .i64 s.a1)) (T := T.pick [0, 1, 2, 3, 4, 5, 6, 7, 9, 10, 11] rfl) (i := 6) rfl (by kernel_rfl) (by kernel_rfl : (pbits 8 63).setIfInBounds 6 true = pbits 8 127) si_U (fun _ _ _ h => h) rfl rfl rfl rfl (fun _ _ _ _ _ => (rn_assign rfl (T.ev 3 rfl))) ?_; clear T ac; intro ac T
  refine g_q (v := (.int .i64 s.c1)) (T := T.pick [0, 1, 2, 3, 4, 5, 6, 7, 9, 10, 11] rfl) (i := 7) rfl (by kernel_rfl) (by kernel_rfl : (pbits 8 127).setIfInBounds 7 true = pbits 8 255) si_U (fun _ _ _ h => h) rfl rfl rfl rfl (fun _ _ _ _ _ => (rn_assign rfl (T.ev 1 rfl))) ?_; clear T ac; intro ac T
  refine g_done (by kernel_rfl) ?_
  replace T := T.pick [0, 1, 9, 11] rfl
  replace M := M.mask [true, false] rfl
  refine nm_then ?_
  refine wp_seq ?_
  refine wp_seq ?_
  refine wp_region_lit ?_
  refine lq T (rn_move rfl (T.ev 3 rfl)) ?_; clear T ac; intro ac T
  refine wpList_nil ?_
  replace T := T.pick [0, 1, 2, 3] rfl
  refine nm_then ?_
  refine wp_cond_split (T.ev 0 rfl) ?_ ?_
  ·intro h2
   refine wp_seq ?_
   refine g_start2 M (M.mask [true] rfl) 10 (by kernel_rfl) rfl (by kernel_rfl) ?_
   clear M; intro wc M
   refine gq (v := (.pointer (some ⟨g2, 1, none⟩))) T 0 1 rfl (fun _ _ _ _ _ => (rn_fieldAddr (off := 1) rfl (T.ev 3 rfl) (fun _ _ _ => by kernel_rfl))) ?_; clear T ac; intro ac T
   refine gq T 1 3 rfl (fun B w' hD hl hS => (rn_one (Mem.nth (show Mem w noEx w' _ from hS) 0 rfl) rfl (T.ev 0 rfl) rfl)) ?_; clear T ac; intro ac T
   refine gq T 2 7 rfl (fun _ _ _ _ _ => (rn_move rfl (T.ev 4 rfl))) ?_; clear T ac; intro ac T
   refine gq T 3 15 rfl (fun _ _ _ _ _ => (rn_add rfl (T.ev 1 rfl) (T.ev 0 rfl) (by omega))) ?_; clear T ac; intro ac T
   refine gq (v := (.pointer (some ⟨g2, 0, none⟩))) T 4 31 rfl (fun _ _ _ _ _ => (rn_fieldAddr (off := 0) rfl (T.ev 7 rfl) (fun _ _ _ => by kernel_rfl))) ?_; clear T ac; intro ac T
   refine gq T 5 63 rfl (fun B w' hD hl hS => (rn_one (Mem.nth (show Mem w noEx w' _ from hS) 0 rfl) rfl (T.ev 0 rfl) rfl)) ?_; clear T ac; intro ac T
   refine gq T 6 127 rfl (fun _ _ _ _ _ => (rn_move rfl (T.ev 7 rfl))) ?_; clear T ac; intro ac T
   refine gq T 7 255 rfl (fun _ _ _ _ _ => (rn_add rfl (T.ev 1 rfl) (T.ev 0 rfl) (by omega))) ?_; clear T ac; intro ac T
   refine gq T 8 511 rfl (fun _ _ _ _ _ => (rn_assign rfl (T.ev 4 rfl))) ?_; clear T ac; intro ac T
   refine gq T 9 1023 rfl (fun _ _ _ _ _ => (rn_assign rfl (T.ev 1 rfl))) ?_; clear T ac; intro ac T
   refine g_done (by kernel_rfl) ?_
   replace T := T.pick [0, 1] rfl
   replace M := M.mask [false] rfl
   refine nm_then ?_
   refine wp_ret ?_
   refine rt_then ?_
   refine rt_2 T rfl (T.ev 1 rfl) (T.ev 0 rfl) ?_
   exact ⟨by unfold sizeL sizeW cutA cutC; simp_all, M.below⟩
  intro h2
  refine wp_skip ?_
  refine nm_then ?_
  refine wp_seq ?_
  refine g_start2 M (M.mask [true] rfl) 10 (by kernel_rfl) rfl (by kernel_rfl) ?_
  clear M; intro wc M
  refine gq (v := (.pointer (some ⟨g2, 0, none⟩))) T 0 1 rfl (fun _ _ _ _ _ => (rn_fieldAddr (off := 0) rfl (T.ev 3 rfl) (fun _ _ _ => by kernel_rfl))) ?_; clear T ac; intro ac T
  refine gq T 1 3 rfl (fun B w' hD hl hS => (rn_one (Mem.nth (show Mem w noEx w' _ from hS) 0 rfl) rfl (T.ev 0 rfl) rfl)) ?_; clear T ac; intro ac T
  refine gq T 2 7 rfl (fun _ _ _ _ _ => (rn_move rfl (T.ev 4 rfl))) ?_; clear T ac; intro ac T
  refine gq T 3 15 rfl (fun _ _ _ _ _ => (rn_add rfl (T.ev 1 rfl) (T.ev 0 rfl) (by omega))) ?_; clear T ac; intro ac T
  refine gq (v := (.pointer (some ⟨g2, 1, none⟩))) T 4 31 rfl (fun _ _ _ _ _ => (rn_fieldAddr (off := 1) rfl (T.ev 7 rfl) (fun _ _ _ => by kernel_rfl))) ?_; clear T ac; intro ac T
  refine gq T 5 63 rfl (fun B w' hD hl hS => (rn_one (Mem.nth (show Mem w noEx w' _ from hS) 0 rfl) rfl (T.ev 0 rfl) rfl)) ?_; clear T ac; intro ac T
  refine gq T 6 127 rfl (fun _ _ _ _ _ => (rn_move rfl (T.ev 7 rfl))) ?_; clear T ac; intro ac T
  refine gq T 7 255 rfl (fun _ _ _ _ _ => (rn_add rfl (T.ev 1 rfl) (T.ev 0 rfl) (by omega))) ?_; clear T ac; intro ac T
  refine gq T 8 511 rfl (fun _ _ _ _ _ => (rn_assign rfl (T.ev 4 rfl))) ?_; clear T ac; intro ac T
  refine gq T 9 1023 rfl (fun _ _ _ _ _ => (rn_assign rfl (T.ev 1 rfl))) ?_; clear T ac; intro ac T
  refine g_done (by kernel_rfl) ?_
  replace T := T.pick [0, 1] rfl
  replace M := M.mask [false] rfl
  refine nm_then ?_
  refine wp_ret ?_
  refine rt_2 T rfl (T.ev 1 rfl) (T.ev 0 rfl) ?_
  exact ⟨by unfold sizeL sizeW cutA cutC; simp_all, M.below⟩
 intro h1
 refine wp_skip ?_
 refine nm_then ?_
 refine wp_seq ?_
 refine wp_seq ?_
 refine wp_region_lit ?_
 refine lq T (rn_move rfl (T.ev 5 rfl)) ?_; clear T ac; intro ac T
 refine wpList_nil ?_
 replace T := T.pick [0, 2, 3, 4] rfl
 replace M := M.mask [true, false] rfl
 refine nm_then ?_
 refine wp_cond_split (T.ev 0 rfl) ?_ ?_
 ·intro h3
  refine wp_seq ?_
  refine g_start2 M (M.mask [true] rfl) 10 (by kernel_rfl) rfl (by kernel_rfl) ?_
  clear M; intro wc M
  refine gq (v := (.pointer (some ⟨g2, 1, none⟩))) T 0 1 rfl (fun _ _ _ _ _ => (rn_fieldAddr (off := 1) rfl (T.ev 3 rfl) (fun _ _ _ => by kernel_rfl))) ?_; clear T ac; intro ac T
  refine gq T 1 3 rfl (fun B w' hD hl hS => (rn_one (Mem.nth (show Mem w noEx w' _ from hS) 0 rfl) rfl (T.ev 0 rfl) rfl)) ?_; clear T ac; intro ac T
  refine gq T 2 7 rfl (fun _ _ _ _ _ => (rn_move rfl (T.ev 4 rfl))) ?_; clear T ac; intro ac T
  refine gq T 3 15 rfl (fun _ _ _ _ _ => (rn_add rfl (T.ev 1 rfl) (T.ev 0 rfl) (by omega))) ?_; clear T ac; intro ac T
  refine gq (v := (.pointer (some ⟨g2, 0, none⟩))) T 4 31 rfl (fun _ _ _ _ _ => (rn_fieldAddr (off := 0) rfl (T.ev 7 rfl) (fun _ _ _ => by kernel_rfl))) ?_; clear T ac; intro ac T
  refine gq T 5 63 rfl (fun B w' hD hl hS => (rn_one (Mem.nth (show Mem w noEx w' _ from hS) 0 rfl) rfl (T.ev 0 rfl) rfl)) ?_; clear T ac; intro ac T
  refine gq T 6 127 rfl (fun _ _ _ _ _ => (rn_move rfl (T.ev 7 rfl))) ?_; clear T ac; intro ac T
  refine gq T 7 255 rfl (fun _ _ _ _ _ => (rn_add rfl (T.ev 1 rfl) (T.ev 0 rfl) (by omega))) ?_; clear T ac; intro ac T
  refine gq T 8 511 rfl (fun _ _ _ _ _ => (rn_assign rfl (T.ev 4 rfl))) ?_; clear T ac; intro ac T
  refine gq T 9 1023 rfl (fun _ _ _ _ _ => (rn_assign rfl (T.ev 1 rfl))) ?_; clear T ac; intro ac T
  refine g_done (by kernel_rfl) ?_
  replace T := T.pick [0, 1] rfl
  replace M := M.mask [false] rfl
  refine nm_then ?_
  refine wp_ret ?_
  refine rt_then ?_
  refine rt_2 T rfl (T.ev 1 rfl) (T.ev 0 rfl) ?_
  exact ⟨by unfold sizeL sizeW cutA cutC; simp_all, M.below⟩
 intro h3
 refine wp_skip ?_
 refine nm_then ?_
 refine wp_seq ?_
 refine g_start2 M (M.mask [true] rfl) 10 (by kernel_rfl) rfl (by kernel_rfl) ?_
 clear M; intro wc M
 refine gq (v := (.pointer (some ⟨g2, 0, none⟩))) T 0 1 rfl (fun _ _ _ _ _ => (rn_fieldAddr (off := 0) rfl (T.ev 3 rfl) (fun _ _ _ => by kernel_rfl))) ?_; clear T ac; intro ac T
 refine gq T 1 3 rfl (fun B w' hD hl hS => (rn_one (Mem.nth (show Mem w noEx w' _ from hS) 0 rfl) rfl (T.ev 0 rfl) rfl)) ?_; clear T ac; intro ac T
 refine gq T 2 7 rfl (fun _ _ _ _ _ => (rn_move rfl (T.ev 4 rfl))) ?_; clear T ac; intro ac T
 refine gq T 3 15 rfl (fun _ _ _ _ _ => (rn_add rfl (T.ev 1 rfl) (T.ev 0 rfl) (by omega))) ?_; clear T ac; intro ac T
 refine gq (v := (.pointer (some ⟨g2, 1, none⟩))) T 4 31 rfl (fun _ _ _ _ _ => (rn_fieldAddr (off := 1) rfl (T.ev 7 rfl) (fun _ _ _ => by kernel_rfl))) ?_; clear T ac; intro ac T
 refine gq T 5 63 rfl (fun B w' hD hl hS => (rn_one (Mem.nth (show Mem w noEx w' _ from hS) 0 rfl) rfl (T.ev 0 rfl) rfl)) ?_; clear T ac; intro ac T
 refine gq T 6 127 rfl (fun _ _ _ _ _ => (rn_move rfl (T.ev 7 rfl))) ?_; clear T ac; intro ac T
 refine gq T 7 255 rfl (fun _ _ _ _ _ => (rn_add rfl (T.ev 1 rfl) (T.ev 0 rfl) (by omega))) ?_; clear T ac; intro ac T
 refine gq T 8 511 rfl (fun _ _ _ _ _ => (rn_assign rfl (T.ev 4 rfl))) ?_; clear T ac; intro ac T
 refine gq T 9 1023 rfl (fun _ _ _ _ _ => (rn_assign rfl (T.ev 1 rfl))) ?_; clear T ac; intro ac T
 refine g_done (by kernel_rfl) ?_
 replace T := T.pick [0, 1] rfl
 replace M := M.mask [false] rfl
 refine nm_then ?_
 refine wp_ret ?_
 refine rt_2 T rfl (T.ev 1 rfl) (T.ev 0 rfl) ?_
 exact ⟨by unfold sizeL sizeW cutA cutC; simp_all, M.below⟩
theorem Size8_any (s : Sk) (A : Option Addr) (d : Nat) (k : Int) (t su : Bool)  (w : World) (hA : Rd w w.heap.size 4 A s.ps.length (pc s.ps)) (nA : s.ps.length ≤ 1000000)  :
   Calls Tryd.prog 57 #[.agg #[.int .i64 s.lo, .int .i64 s.wi, .int .i64 s.a0, .int .i64 s.a1, .int .i64 s.c0, .int .i64 s.c1, .slice A s.ps.length d], .int .i64 k, .bool t, .bool su] w fun e w' => e = .returned (.tuple #[.int .i64 (szL s k t su), .int .i64 (szW s k t su), .int .i64 (szE s k t)]) ∧ Below w.heap.size w w' := by
 obtain ⟨bA, oA, SA⟩ := Sp.old hA
 refine px_enter noEx Tryd.func57 rfl 49 rfl [.agg #[.int .i64 s.lo, .int .i64 s.wi, .int .i64 s.a0, .int .i64 s.a1, .int .i64 s.c0, .int .i64 s.c1, .slice A s.ps.length d], .int .i64 k, .bool t, .bool su] rfl rfl (Mem.init w _) ?_
 intro ac wc T M
 refine wp_seq ?_
 refine wp_region_lit ?_
 refine l_w rfl ?_; intro K hK
 refine ow_bx M T rfl rfl rfl rfl (T.ev 0 rfl) rfl ?_; clear M T; intro g1 wc ac M T
 refine sh_out hK _ _ ?_; clear hK K
 refine lq T (rn_assign rfl evc) ?_; clear T ac; intro ac T
 refine lq T (rn_assign rfl evc) ?_; clear T ac; intro ac T
 refine lq T (rn_assign rfl evc) ?_; clear T ac; intro ac T
 refine wpList_nil ?_
 replace T := T.pick [3, 5, 6, 7] rfl
 refine nm_then ?_
 refine wp_seq ?_
 refine wp_seq ?_
 refine wp_region_lit ?_
 refine lq T (rn_rowO (Mem.nth M 0 rfl) rfl (T.ev 0 rfl) rfl) ?_; clear T ac; intro ac T
 refine l_w rfl ?_; intro K hK
 refine ow_call (first := []) (cap := []) T rfl rfl rfl rfl evf (.cons (T.ev 0 rfl) .nil) Tryd.func61 rfl rfl ?_
 refine Calls.mono (skCheck8_any s A d _ (SA.rd M (List.nil_sublist _)) (by omega)) ?_
 clear T
 rintro e wc ⟨rfl, hb⟩
 intro ac T
 replace M := M.call hb; clear hb
 refine sh_out hK _ _ ?_; clear hK K
 refine lq T (rn_assign rfl (T.ev 0 rfl)) ?_; clear T ac; intro ac T
 refine wpList_nil ?_
 replace T := T.pick [0, 3, 4, 5, 6] rfl
 refine nm_then ?_
 refine wp_seq ?_
 refine wp_region_lit ?_
 refine lq T (rn_move rfl (T.ev 0 rfl)) ?_; clear T ac; intro ac T
 refine lq T (rn_neq rfl (T.ev 0 rfl) evc) ?_; clear T ac; intro ac T
 refine wpList_nil ?_
 replace T := T.pick [0, 2, 3, 4, 5, 6] rfl
 refine nm_then ?_
 refine wp_ifn (T.ev 0 rfl) ?_ ?_
 ·intro h1
  refine wp_seq ?_
  refine wp_region_lit ?_
  refine lq T (rn_move rfl (T.ev 1 rfl)) ?_; clear T ac; intro ac T
  refine lq T (rn_assign rfl evc) ?_; clear T ac; intro ac T
  refine lq T (rn_assign rfl evc) ?_; clear T ac; intro ac T
  refine lq T (rn_assign rfl (T.ev 2 rfl)) ?_; clear T ac; intro ac T
  refine wpList_nil ?_
  replace T := T.pick [0, 1, 2] rfl
  replace M := M.mask [false] rfl
  refine nm_then ?_
  refine wp_ret ?_
  refine rt_then ?_
  refine rt_3 T rfl (T.ev 2 rfl) (T.ev 1 rfl) (T.ev 0 rfl) ?_
  have e9 : szE s k t = skErr s := if_pos (by omega)
  have e8 : szL s k t su = 0 := if_pos (by omega)
  have e7 : szW s k t su = 0 := if_pos (by omega)
  rw [e9, e8, e7]
  exact ⟨rfl, M.below⟩
 intro h1
 have hsg := skErr_iff.1 (show skErr s = 0 by omega)
 obtain ⟨hb1, hb2, -, -, -, -⟩ := hsg
 have hsg := skErr_iff.1 (show skErr s = 0 by omega)
 refine wp_skip ?_
 refine nm_then ?_
 refine wp_seq ?_
 refine wp_seq ?_
 refine wp_region_lit ?_
 refine lq T (rn_move rfl (T.ev 3 rfl)) ?_; clear T ac; intro ac T
 refine lq (v := (.pointer (some ⟨g1, 6, none⟩))) T (rn_fieldAddr (off := 6) rfl (T.ev 3 rfl) (fun _ _ _ => by kernel_rfl)) ?_; clear T ac; intro ac T
 refine lq T (rn_one (Mem.nth M 0 rfl) rfl (T.ev 0 rfl) rfl) ?_; clear T ac; intro ac T
 refine lq T (rn_lenS rfl Tryd.underlying24 (T.ev 0 rfl)) ?_; clear T ac; intro ac T
 refine lq T (rn_sub rfl (T.ev 0 rfl) evc (by omega)) ?_; clear T ac; intro ac T
 refine l_w rfl ?_; intro K hK
 refine ow_call (first := []) (cap := []) T rfl rfl rfl rfl evf (.cons (T.ev 4 rfl) (.cons evc (.cons (T.ev 0 rfl) .nil))) Tryd.func75 rfl rfl ?_
 refine Calls.mono (fits8_any k 0 (((s.ps.length : Nat) : Int) - 1) _) ?_
 clear T
 rintro e wc ⟨rfl, hb⟩
 intro ac T
 replace M := M.call hb; clear hb
 refine sh_out hK _ _ ?_; clear hK K
 refine lq T (rn_not rfl (T.ev 0 rfl)) ?_; clear T ac; intro ac T
 refine wpList_nil ?_
 replace T := T.pick [0, 9, 10, 11, 12] rfl
 refine nm_then ?_
 refine wp_cond_split (T.ev 0 rfl) ?_ ?_
 ·intro h2
  (try have h2' := h2; try simp only [Bool.and_eq_true, Bool.or_eq_true, Bool.not_eq_true', Bool.and_eq_false_imp, Bool.or_eq_false_iff, decide_eq_true_eq, decide_eq_false_iff_not] at h2')
  have hk9 : ¬ (0 ≤ k ∧ k ≤ (s.ps.length : Int) - 1) := by simp [withinB] at h2; omega
  refine wp_seq ?_
  refine wp_region_lit ?_
  refine lq T (rn_assign rfl evc) ?_; clear T ac; intro ac T
  refine lq T (rn_assign rfl evc) ?_; clear T ac; intro ac T
  refine lq T (rn_assign rfl evc) ?_; clear T ac; intro ac T
  refine wpList_nil ?_
  replace T := T.pick [0, 1, 2] rfl
  replace M := M.mask [false] rfl
  refine nm_then ?_
  refine wp_ret ?_
  refine rt_then ?_
  refine rt_3 T rfl (T.ev 2 rfl) (T.ev 1 rfl) (T.ev 0 rfl) ?_
  have e9 : szE s k t = 3 := (if_neg (by omega)).trans (if_pos hk9)
  have e8 : szL s k t su = 0 := if_pos (by omega)
  have e7 : szW s k t su = 0 := if_pos (by omega)
  rw [e9, e8, e7]
  exact ⟨rfl, M.below⟩
 intro h2
 (try have h2' := h2; try simp only [Bool.and_eq_true, Bool.or_eq_true, Bool.not_eq_true', Bool.and_eq_false_imp, Bool.or_eq_false_iff, decide_eq_true_eq, decide_eq_false_iff_not] at h2')
 have hk9 : ¬ ¬ (0 ≤ k ∧ k ≤ (s.ps.length : Int) - 1) := by simp [withinB] at h2; omega
 obtain ⟨k9, hk8⟩ : ∃ q : Nat, k = (q : Int) := ⟨k.toNat, by omega⟩
 obtain ⟨p, hkp, -⟩ := pc_next (l := s.ps) (k := k9) (by omega)
 have hpe : s.ps.getD k.toNat default = p := by rw [List.getD_eq_getElem?_getD, show k.toNat = k9 by omega, hkp]; rfl
 have hpg := hsg.ps p (List.mem_of_getElem? hkp)
 refine wp_skip ?_
 refine nm_then ?_
 refine wp_seq ?_
 refine cut_seq (fun ac wc => Tm ac 49 [(1, .int .i64 k), (2, .bool t), (3, .bool su), (4, .pointer (some ⟨g1, 0, none⟩)), (34, .bool (t && p.gr))] ∧ Mem w noEx wc [(g1, .cells [.int .i64 s.lo, .int .i64 s.wi, .int .i64 s.a0, .int .i64 s.a1, .int .i64 s.c0, .int .i64 s.c1, .slice A s.ps.length d])]) ?_ ?_
 ·refine wp_region_lit ?_
  refine lq T (rn_move rfl (T.ev 3 rfl)) ?_; clear T ac; intro ac T
  refine lq T (rn_move rfl (T.ev 0 rfl)) ?_; clear T ac; intro ac T
  rcases Bool.eq_false_or_eq_true t with h3 | h3
  ·refine lw (v := (.pointer (some ⟨g1, 6, none⟩))) T (wanted_yes rfl rfl (T.ev 0 rfl) h3) (rn_fieldAddr (off := 6) rfl (T.ev 3 rfl) (fun _ _ _ => by kernel_rfl)) ?_; clear T ac; intro ac T
   refine lw T (wanted_yes rfl rfl (T.ev 1 rfl) h3) (rn_one (Mem.nth M 0 rfl) rfl (T.ev 0 rfl) rfl) ?_; clear T ac; intro ac T
   refine lw T (wanted_yes rfl rfl (T.ev 2 rfl) h3) (rn_move rfl (T.ev 6 rfl)) ?_; clear T ac; intro ac T
   refine lw T (wanted_yes rfl rfl (T.ev 3 rfl) h3) (rn_indexAddr (size := 4) k9 rfl (T.ev 1 rfl) (T.ev 0 rfl) ⟨_, Tryd.underlying24, by kernel_rfl⟩ hk8 (by omega) (SA.at0 (by omega))) ?_; clear T ac; intro ac T
   refine lw T (wanted_yes rfl rfl (T.ev 4 rfl) h3) (rn_fieldAddr (off := 2) rfl (T.ev 0 rfl) (fun _ _ _ => by kernel_rfl)) ?_; clear T ac; intro ac T
   refine lw T (wanted_yes rfl rfl (T.ev 5 rfl) h3) (rn_cell (Sp.pcC2 SA M (List.nil_sublist _) hkp) rfl (T.ev 0 rfl)) ?_; clear T ac; intro ac T
   refine lq T (rn_pick1 rfl (T.ev 6 rfl) h3 (T.ev 0 rfl)) ?_; clear T ac; intro ac T
   refine wpList_nil ?_
   replace T := T.pick [0, 10, 11, 12, 13] rfl
   exact ⟨(T.pick (E' := [(1, .int .i64 k), (2, .bool t), (3, .bool su), (4, .pointer (some ⟨g1, 0, none⟩)), (34, .bool p.gr)]) [2, 3, 4, 1, 0] rfl).as (by (try rw [show t = true from h3]); (try rfl)), M.mask [true] rfl⟩
  refine lp T (wanted_no rfl rfl (T.ev 0 rfl) h3) ?_; clear T ac; intro ac T
  refine lp T (wanted_no rfl rfl (T.ev 1 rfl) h3) ?_; clear T ac; intro ac T
  refine lp T (wanted_no rfl rfl (T.ev 2 rfl) h3) ?_; clear T ac; intro ac T
  refine lp T (wanted_no rfl rfl (T.ev 3 rfl) h3) ?_; clear T ac; intro ac T
  refine lp T (wanted_no rfl rfl (T.ev 4 rfl) h3) ?_; clear T ac; intro ac T
  refine lp T (wanted_no rfl rfl (T.ev 5 rfl) h3) ?_; clear T ac; intro ac T
  refine lq T (rn_pick0 rfl (T.ev 6 rfl) h3 evc) ?_; clear T ac; intro ac T
  refine wpList_nil ?_
  replace T := T.pick [0, 10, 11, 12, 13] rfl
  exact ⟨(T.pick (E' := [(1, .int .i64 k), (2, .bool t), (3, .bool su), (4, .pointer (some ⟨g1, 0, none⟩)), (34, .bool false)]) [2, 3, 4, 1, 0] rfl).as (by (try rw [show t = false from h3]); (try rfl)), M.mask [true] rfl⟩
 clear T M
 rintro ac wc ⟨T, M⟩
 refine wp_cond_split (T.ev 4 rfl) ?_ ?_
 ·intro h4
  (try have h4' := h4; try simp only [Bool.and_eq_true, Bool.or_eq_true, Bool.not_eq_true', Bool.and_eq_false_imp, Bool.or_eq_false_iff, decide_eq_true_eq, decide_eq_false_iff_not] at h4')
  refine wp_seq ?_
  refine wp_region_lit ?_
  refine lq T (rn_assign rfl evc) ?_; clear T ac; intro ac T
  refine lq T (rn_assign rfl evc) ?_; clear T ac; intro ac T
  refine lq T (rn_assign rfl evc) ?_; clear T ac; intro ac T
  refine wpList_nil ?_
  replace T := T.pick [0, 1, 2] rfl
  replace M := M.mask [false] rfl
  refine nm_then ?_
  refine wp_ret ?_
  refine rt_then ?_
  refine rt_3 T rfl (T.ev 2 rfl) (T.ev 1 rfl) (T.ev 0 rfl) ?_
  have e9 : szE s k t = 8 := (if_neg (by omega)).trans ((if_neg hk9).trans (if_pos (by rw [hpe]; simp_all)))
  have e8 : szL s k t su = 0 := if_pos (by omega)
  have e7 : szW s k t su = 0 := if_pos (by omega)
  rw [e9, e8, e7]
  exact ⟨rfl, M.below⟩
 intro h4
 (try have h4' := h4; try simp only [Bool.and_eq_true, Bool.or_eq_true, Bool.not_eq_true', Bool.and_eq_false_imp, Bool.or_eq_false_iff, decide_eq_true_eq, decide_eq_false_iff_not] at h4')
 refine wp_skip ?_
 refine nm_then ?_
 refine wp_seq ?_
 refine g_start2 M (M.mask [true] rfl) 14 (by kernel_rfl) rfl (by kernel_rfl) ?_
 clear M; intro wc M
 refine gq T 0 1 rfl (fun B w' hD hl hS => (rn_rowO (Mem.nth (show Mem w noEx w' _ from hS) 0 rfl) rfl (T.ev 3 rfl) rfl)) ?_; clear T ac; intro ac T
 refine gq (v := (.pointer (some ⟨g1, 6, none⟩))) T 1 3 rfl (fun _ _ _ _ _ => (rn_fieldAddr (off := 6) rfl (T.ev 4 rfl) (fun _ _ _ => by kernel_rfl))) ?_; clear T ac; intro ac T
 refine gq T 2 7 rfl (fun B w' hD hl hS => (rn_one (Mem.nth (show Mem w noEx w' _ from hS) 0 rfl) rfl (T.ev 0 rfl) rfl)) ?_; clear T ac; intro ac T
 refine gq T 3 15 rfl (fun _ _ _ _ _ => (rn_move rfl (T.ev 3 rfl))) ?_; clear T ac; intro ac T
 refine gq T 4 31 rfl (fun _ _ _ _ _ => (rn_indexAddr (size := 4) k9 rfl (T.ev 1 rfl) (T.ev 0 rfl) ⟨_, Tryd.underlying24, by kernel_rfl⟩ hk8 (by omega) (SA.at0 (by omega)))) ?_; clear T ac; intro ac T
 refine gq (v := (.agg #[.int .i64 p.l, .int .i64 p.w, .bool p.gr, .int .i64 p.pa])) T 5 63 rfl (fun B w' hD hl hS => (rn_rowat (Sp.pcR SA (show Mem w noEx w' _ from hS) (List.nil_sublist _) hkp) rfl (T.ev 0 rfl) rfl)) ?_; clear T ac; intro ac T
 refine gq T 6 127 rfl (fun _ _ _ _ _ => (rn_move rfl (T.ev 7 rfl))) ?_; clear T ac; intro ac T
 refine gq T 7 255 rfl (fun _ _ _ _ _ => (rn_move rfl (T.ev 9 rfl))) ?_; clear T ac; intro ac T
 refine gw 8 511 ?_; intro K hK
 refine ow_call (first := []) (cap := []) T rfl rfl rfl rfl evf (.cons (T.ev 7 rfl) (.cons (T.ev 2 rfl) (.cons (T.ev 1 rfl) (.cons (T.ev 0 rfl) .nil)))) Tryd.func94 rfl rfl ?_
 refine Calls.mono (size8_any s A d p t su _ hsg hpg) ?_
 clear T
 rintro e wc ⟨rfl, hb⟩
 intro ac T
 replace M := M.call hb; clear hb
 refine sh_out hK _ _ (M.mask [true] rfl) ?_; clear hK K
 refine gq T 9 1023 rfl (fun _ _ _ _ _ => (rn_move rfl (T.ev 0 rfl))) ?_; clear T ac; intro ac T
 refine gq T 10 2047 rfl (fun _ _ _ _ _ => (rn_extract rfl (T.ev 0 rfl) rfl)) ?_; clear T ac; intro ac T
 refine gq T 11 4095 rfl (fun _ _ _ _ _ => (rn_extract rfl (T.ev 1 rfl) rfl)) ?_; clear T ac; intro ac T
 refine gq T 12 8191 rfl (fun _ _ _ _ _ => (rn_assign rfl (T.ev 1 rfl))) ?_; clear T ac; intro ac T
 refine gq T 13 16383 rfl (fun _ _ _ _ _ => (rn_assign rfl (T.ev 1 rfl))) ?_; clear T ac; intro ac T
 refine g_done (by kernel_rfl) ?_
 replace T := T.pick [0, 1] rfl
 replace M := M.mask [false] rfl
 refine nm_then ?_
 refine wp_seq ?_
 refine wp_region_lit ?_
 refine lq T (rn_move rfl (T.ev 1 rfl)) ?_; clear T ac; intro ac T
 refine lq T (rn_move rfl (T.ev 1 rfl)) ?_; clear T ac; intro ac T
 refine lq T (rn_assign rfl (T.ev 1 rfl)) ?_; clear T ac; intro ac T
 refine lq T (rn_assign rfl (T.ev 1 rfl)) ?_; clear T ac; intro ac T
 refine lq T (rn_assign rfl evc) ?_; clear T ac; intro ac T
 refine wpList_nil ?_
 replace T := T.pick [0, 1, 2] rfl
 refine nm_then ?_
 refine wp_ret ?_
 refine rt_3 T rfl (T.ev 2 rfl) (T.ev 1 rfl) (T.ev 0 rfl) ?_
 have e9 : szE s k t = 0 := (if_neg (by omega)).trans ((if_neg hk9).trans (if_neg (by rw [hpe]; simp_all)))
 have e8 : szL s k t su = sizeL (cutA s su) (cutC s su) p t := by unfold szL; rw [if_neg (by omega), hpe]
 have e7 : szW s k t su = sizeW (cutA s su) (cutC s su) p t := by unfold szW; rw [if_neg (by omega), hpe]
 rw [e9, e8, e7]
 exact ⟨rfl, M.below⟩
end Go.Proofs.YtehpcclfgjccbaaDoor
end

section
/-
 ref8: Turn.
-/
namespace Go.Proofs.YtehpcclfgjccbaaDoor
set_option linter.unusedSimpArgs false
set_option linter.unusedVariables false
open Go.RowKit
theorem map_turn_take {l : List Pt} {k : Nat} {p : Pt} (h : l[k]? = some p) : (l.take (k + 1)).map turnP = (l.take k).map turnP ++ [⟨p.w, p.l, p.gr, p.pa⟩] := by
 rw [List.take_add_one, h, Option.toList_some, List.map_append]
 rfl
theorem Turn8_any (s : Sk) (A : Option Addr) (d : Nat)  (w : World) (hA : Rd w w.heap.size 4 A s.ps.length (pc s.ps)) (nA : s.ps.length ≤ 1000000)  :
   Calls Tryd.prog 59 #[.agg #[.int .i64 s.lo, .int .i64 s.wi, .int .i64 s.a0, .int .i64 s.a1, .int .i64 s.c0, .int .i64 s.c1, .slice A s.ps.length d]] w (TrnPost (trnZ s) (skErr s) w) := by
 obtain ⟨bA, oA, SA⟩ := Sp.old hA
 refine px_enter noEx Tryd.func59 rfl 48 rfl [.agg #[.int .i64 s.lo, .int .i64 s.wi, .int .i64 s.a0, .int .i64 s.a1, .int .i64 s.c0, .int .i64 s.c1, .slice A s.ps.length d]] rfl rfl (Mem.init w _) ?_
 intro ac wc T M
 refine wp_seq ?_
 refine wp_region_lit ?_
 refine l_w rfl ?_; intro K hK
 refine ow_bx M T rfl rfl rfl rfl (T.ev 0 rfl) rfl ?_; clear M T; intro g1 wc ac M T
 refine sh_out hK _ _ ?_; clear hK K
 refine l_w rfl ?_; intro K hK
 refine ow_al M T rfl rfl rfl rfl ?_; clear M T; intro g2 wc ac M T
 refine sh_out hK _ _ ?_; clear hK K
 refine lq T (rn_assign rfl evc) ?_; clear T ac; intro ac T
 refine wpList_nil ?_
 replace T := T.pick [1, 2] rfl
 refine nm_then ?_
 refine wp_seq ?_
 refine wp_seq ?_
 refine wp_region_lit ?_
 refine lq T (rn_rowO (Mem.nth M 1 rfl) rfl (T.ev 1 rfl) rfl) ?_; clear T ac; intro ac T
 refine l_w rfl ?_; intro K hK
 refine ow_call (first := []) (cap := []) T rfl rfl rfl rfl evf (.cons (T.ev 0 rfl) .nil) Tryd.func61 rfl rfl ?_
 refine Calls.mono (skCheck8_any s A d _ (SA.rd M (List.nil_sublist _)) (by omega)) ?_
 clear T
 rintro e wc ⟨rfl, hb⟩
 intro ac T
 replace M := M.call hb; clear hb
 refine sh_out hK _ _ ?_; clear hK K
 refine lq T (rn_assign rfl (T.ev 0 rfl)) ?_; clear T ac; intro ac T
 refine wpList_nil ?_
 replace T := T.pick [0, 3, 4] rfl
 refine nm_then ?_
 refine wp_seq ?_
 refine wp_region_lit ?_
 refine lq T (rn_move rfl (T.ev 0 rfl)) ?_; clear T ac; intro ac T
 refine lq T (rn_neq rfl (T.ev 0 rfl) evc) ?_; clear T ac; intro ac T
 refine wpList_nil ?_
 replace T := T.pick [0, 2, 3, 4] rfl
 refine nm_then ?_
 refine wp_ifn (T.ev 0 rfl) ?_ ?_
 ·intro h1
  refine wp_seq ?_
  refine wp_region_lit ?_
  refine lq (v := (.agg #[.int .i64 0, .int .i64 0, .int .i64 0, .int .i64 0, .int .i64 0, .int .i64 0, .slice none 0 0])) T (rn_build rfl .nil (fun _ => by kernel_rfl)) ?_; clear T ac; intro ac T
  refine lq T (rn_move rfl (T.ev 2 rfl)) ?_; clear T ac; intro ac T
  refine l_w rfl ?_; intro K hK
  refine ow_stO M T rfl rfl (T.ev 4 rfl) (T.ev 1 rfl) rfl .head rfl (by simp) rfl (by kernel_rfl) ?_; clear M T; intro wc ac M T
  refine sh_out hK _ _ ?_; clear hK K
  refine lq T (rn_assign rfl (T.ev 0 rfl)) ?_; clear T ac; intro ac T
  refine wpList_nil ?_
  replace T := T.pick [0, 5] rfl
  replace M := M.mask [true, false] rfl
  refine nm_then ?_
  refine wp_ret ?_
  refine rt_then ?_
  refine rt_ct M T rfl (T.ev 1 rfl) (T.ev 0 rfl) (nthE_mem (i := 0) rfl) rfl ?_
  have e9 : trnZ s = ⟨0, 0, 0, 0, 0, 0, []⟩ := if_neg (by omega)
  rw [e9]
  exact ⟨none, 0, [], rfl, by simp, ⟨0, 0, fun _ _ => Sp.nil⟩, M.sub (List.nil_sublist _)⟩
 intro h1
 refine wp_skip ?_
 refine nm_then ?_
 refine wp_seq ?_
 refine wp_region_lit ?_
 refine lq (v := (.pointer (some ⟨g1, 1, none⟩))) T (rn_fieldAddr (off := 1) rfl (T.ev 3 rfl) (fun _ _ _ => by kernel_rfl)) ?_; clear T ac; intro ac T
 refine lq T (rn_one (Mem.nth M 1 rfl) rfl (T.ev 0 rfl) rfl) ?_; clear T ac; intro ac T
 refine lq (v := (.pointer (some ⟨g1, 0, none⟩))) T (rn_fieldAddr (off := 0) rfl (T.ev 5 rfl) (fun _ _ _ => by kernel_rfl)) ?_; clear T ac; intro ac T
 refine lq T (rn_one (Mem.nth M 1 rfl) rfl (T.ev 0 rfl) rfl) ?_; clear T ac; intro ac T
 refine lq (v := (.pointer (some ⟨g1, 4, none⟩))) T (rn_fieldAddr (off := 4) rfl (T.ev 7 rfl) (fun _ _ _ => by kernel_rfl)) ?_; clear T ac; intro ac T
 refine lq T (rn_rowO (Mem.nth M 1 rfl) rfl (T.ev 0 rfl) rfl) ?_; clear T ac; intro ac T
 refine lq (v := (.pointer (some ⟨g1, 2, none⟩))) T (rn_fieldAddr (off := 2) rfl (T.ev 9 rfl) (fun _ _ _ => by kernel_rfl)) ?_; clear T ac; intro ac T
 refine lq T (rn_rowO (Mem.nth M 1 rfl) rfl (T.ev 0 rfl) rfl) ?_; clear T ac; intro ac T
 refine lq (v := (.agg #[.int .i64 s.wi, .int .i64 s.lo, .int .i64 s.c0, .int .i64 s.c1, .int .i64 s.a0, .int .i64 s.a1, .slice none 0 0])) T (rn_build rfl (.cons (T.ev 6 rfl) (.cons (T.ev 4 rfl) (.cons (T.ev 2 rfl) (.cons (T.ev 0 rfl) .nil)))) (fun _ => by kernel_rfl)) ?_; clear T ac; intro ac T
 refine l_w rfl ?_; intro K hK
 refine ow_al M T rfl rfl rfl rfl ?_; clear M T; intro g3 wc ac M T
 refine sh_out hK _ _ ?_; clear hK K
 refine l_w rfl ?_; intro K hK
 refine ow_stO M T rfl rfl (T.ev 0 rfl) (T.ev 1 rfl) rfl .head rfl (by simp) rfl (by kernel_rfl) ?_; clear M T; intro wc ac M T
 refine sh_out hK _ _ ?_; clear hK K
 refine wpList_nil ?_
 replace T := T.pick [0, 12, 13] rfl
 refine nm_then ?_
 refine wp_seq ?_
 refine wp_seq ?_
 refine wp_region_lit ?_
 refine lq T (rn_assign rfl evc) ?_; clear T ac; intro ac T
 refine wpList_nil ?_
 refine nm_then ?_
 refine wp_block ?_
 refine wp_loop_n (fun mz ac wc => ∃ (k : Nat) (OL : List Pt) (A3 : Option Addr) (c3 : Nat) (Io : List (Nat × BA)), mz = s.ps.length - k ∧ (k ≤ s.ps.length) ∧ (OL = (s.ps.take k).map turnP) ∧ (OL.length = k) ∧ (Sl 63 4 (.slice A3 OL.length c3) OL.length (pc OL) Io) ∧ Tm ac 48 [(1, .pointer (some ⟨g1, 0, none⟩)), (2, .pointer (some ⟨g2, 0, none⟩)), (5, .pointer (some ⟨g3, 0, none⟩)), (6, .int .i64 (k : Int))] ∧ Mem w noEx wc ((g3, .cells [.int .i64 s.wi, .int .i64 s.lo, .int .i64 s.c0, .int .i64 s.c1, .int .i64 s.a0, .int .i64 s.a1, .slice A3 OL.length c3]) :: (g2, .cells [.int .i64 0, .int .i64 0, .int .i64 0, .int .i64 0, .int .i64 0, .int .i64 0, .slice none 0 0]) :: (g1, .cells [.int .i64 s.lo, .int .i64 s.wi, .int .i64 s.a0, .int .i64 s.a1, .int .i64 s.c0, .int .i64 s.c1, .slice A s.ps.length d]) :: Io)) ?_ ?_
 ·exact ⟨_, 0, [], none, 0, [], rfl, (Nat.zero_le _), rfl, rfl, (Sl.nil _ _), T.pick [3, 2, 1, 0] rfl, M.mask [true, true, true] rfl⟩
 clear T M
 rintro mz ac wc ⟨k, OL, A3, c3, Io, hmm1, hk, hO, hOl, hsl, T, M⟩
 refine wp_seq ?_
 refine wp_seq ?_
 refine wp_region_lit ?_
 refine lq T (rn_move rfl (T.ev 3 rfl)) ?_; clear T ac; intro ac T
 refine lq (v := (.pointer (some ⟨g1, 6, none⟩))) T (rn_fieldAddr (off := 6) rfl (T.ev 1 rfl) (fun _ _ _ => by kernel_rfl)) ?_; clear T ac; intro ac T
 refine lq T (rn_one (Mem.nth M 2 rfl) rfl (T.ev 0 rfl) rfl) ?_; clear T ac; intro ac T
 refine lq T (rn_lenS rfl Tryd.underlying24 (T.ev 0 rfl)) ?_; clear T ac; intro ac T
 refine lq T (rn_lss rfl (T.ev 3 rfl) (T.ev 0 rfl)) ?_; clear T ac; intro ac T
 refine wpList_nil ?_
 replace T := T.pick [0, 5, 6, 7, 8] rfl
 refine nm_then ?_
 refine wp_if (T.ev 0 rfl) ?_ ?_
 ·intro h2
  obtain ⟨p, hkp, -⟩ := pc_next (l := s.ps) (k := k) (by omega)
  refine wp_skip ?_
  refine nm_then ?_
  refine wp_seq ?_
  refine wp_block ?_
  refine wp_seq ?_
  refine wp_region_lit ?_
  refine lq (v := (.pointer (some ⟨g1, 6, none⟩))) T (rn_fieldAddr (off := 6) rfl (T.ev 1 rfl) (fun _ _ _ => by kernel_rfl)) ?_; clear T ac; intro ac T
  refine lq T (rn_one (Mem.nth M 2 rfl) rfl (T.ev 0 rfl) rfl) ?_; clear T ac; intro ac T
  refine lq T (rn_move rfl (T.ev 6 rfl)) ?_; clear T ac; intro ac T
  refine lq T (rn_indexAddr (size := 4) k rfl (T.ev 1 rfl) (T.ev 0 rfl) ⟨_, Tryd.underlying24, by kernel_rfl⟩ rfl (by omega) (SA.at0 (by omega))) ?_; clear T ac; intro ac T
  refine lq (v := (.agg #[.int .i64 p.l, .int .i64 p.w, .bool p.gr, .int .i64 p.pa])) T (rn_rowat (Sp.pcR SA M (List.nil_sublist _) hkp) rfl (T.ev 0 rfl) rfl) ?_; clear T ac; intro ac T
  refine l_w rfl ?_; intro K hK
  refine ow_al M T rfl rfl rfl rfl ?_; clear M T; intro g4 wc ac M T
  refine sh_out hK _ _ ?_; clear hK K
  refine l_w rfl ?_; intro K hK
  refine ow_stO M T rfl rfl (T.ev 0 rfl) (T.ev 1 rfl) rfl .head rfl (by simp) rfl (by kernel_rfl) ?_; clear M T; intro wc ac M T
  refine sh_out hK _ _ ?_; clear hK K
  refine wpList_nil ?_
  replace T := T.pick [0, 7, 8, 9, 10] rfl
  refine nm_then ?_
  refine wp_seq ?_
  refine wp_region_lit ?_
  refine lq (v := (.pointer (some ⟨g4, 1, none⟩))) T (rn_fieldAddr (off := 1) rfl (T.ev 0 rfl) (fun _ _ _ => by kernel_rfl)) ?_; clear T ac; intro ac T
  refine lq T (rn_one (Mem.nth M 0 rfl) rfl (T.ev 0 rfl) rfl) ?_; clear T ac; intro ac T
  refine lq (v := (.pointer (some ⟨g4, 0, none⟩))) T (rn_fieldAddr (off := 0) rfl (T.ev 2 rfl) (fun _ _ _ => by kernel_rfl)) ?_; clear T ac; intro ac T
  refine lq T (rn_one (Mem.nth M 0 rfl) rfl (T.ev 0 rfl) rfl) ?_; clear T ac; intro ac T
  refine lq (v := (.pointer (some ⟨g4, 0, none⟩))) T (rn_fieldAddr (off := 0) rfl (T.ev 4 rfl) (fun _ _ _ => by kernel_rfl)) ?_; clear T ac; intro ac T
  refine l_w rfl ?_; intro K hK
  refine ow_stO M T rfl rfl (T.ev 0 rfl) (T.ev 3 rfl) rfl .head rfl (by simp) rfl (by kernel_rfl) ?_; clear M T; intro wc ac M T
  refine sh_out hK _ _ ?_; clear hK K
  refine lq (v := (.pointer (some ⟨g4, 1, none⟩))) T (rn_fieldAddr (off := 1) rfl (T.ev 5 rfl) (fun _ _ _ => by kernel_rfl)) ?_; clear T ac; intro ac T
  refine l_w rfl ?_; intro K hK
  refine ow_stO M T rfl rfl (T.ev 0 rfl) (T.ev 2 rfl) rfl .head rfl (by simp) rfl (by kernel_rfl) ?_; clear M T; intro wc ac M T
  refine sh_out hK _ _ ?_; clear hK K
  refine wpList_nil ?_
  replace T := T.pick [6, 7, 8, 9, 10] rfl
  refine nm_then ?_
  refine wp_region_lit ?_
  refine lq (v := (.pointer (some ⟨g3, 6, none⟩))) T (rn_fieldAddr (off := 6) rfl (T.ev 3 rfl) (fun _ _ _ => by kernel_rfl)) ?_; clear T ac; intro ac T
  refine lq T (rn_one (Mem.nth M 1 rfl) rfl (T.ev 0 rfl) rfl) ?_; clear T ac; intro ac T
  refine lq T (rn_rowO (Mem.nth M 0 rfl) rfl (T.ev 2 rfl) rfl) ?_; clear T ac; intro ac T
  refine l_w rfl ?_; intro K hK
  refine ow_bs (e := 63) [.int .i64 p.w, .int .i64 p.l, .bool p.gr, .int .i64 p.pa] M T rfl rfl rfl rfl (.cons (T.ev 0 rfl) .nil) (fun _ => by kernel_rfl) ?_; clear M T; intro g5 wc ac M T
  refine sh_out hK _ _ ?_; clear hK K
  refine l_w rfl ?_; intro K hK
  refine ow_app ([(g5, .cells [.int .i64 p.w, .int .i64 p.l, .bool p.gr, .int .i64 p.pa]), (g4, .cells [.int .i64 p.w, .int .i64 p.l, .bool p.gr, .int .i64 p.pa]), (g3, .cells [.int .i64 s.wi, .int .i64 s.lo, .int .i64 s.c0, .int .i64 s.c1, .int .i64 s.a0, .int .i64 s.a1, .slice A3 OL.length c3]), (g2, .cells [.int .i64 0, .int .i64 0, .int .i64 0, .int .i64 0, .int .i64 0, .int .i64 0, .slice none 0 0]), (g1, .cells [.int .i64 s.lo, .int .i64 s.wi, .int .i64 s.a0, .int .i64 s.a1, .int .i64 s.c0, .int .i64 s.c1, .slice A s.ps.length d])]) Tryd.info63 hsl M (by first | rfl | simp) T rfl rfl rfl rfl Tryd.underlying24 rfl rfl rfl (by omega) (T.ev 2 rfl) (T.ev 0 rfl) (nthE_mem (i := 0) rfl) rfl rfl ?_; clear M T; intro ga1 cga1 wc ac M T
  refine sh_out hK _ _ ?_; clear hK K
  have e9 : OL.length + 1 = (OL ++ [(⟨p.w, p.l, p.gr, p.pa⟩ : Pt)]).length := by simp
  have e8 : ((pc OL) ++ [.int .i64 p.w, .int .i64 p.l, .bool p.gr, .int .i64 p.pa]) = pc (OL ++ [(⟨p.w, p.l, p.gr, p.pa⟩ : Pt)]) := by rw [← pc_snoc]
  rw [e9, e8] at M
  rw [e9] at T
  clear e9 e8
  refine lq (v := (.pointer (some ⟨g3, 6, none⟩))) T (rn_fieldAddr (off := 6) rfl (T.ev 8 rfl) (fun _ _ _ => by kernel_rfl)) ?_; clear T ac; intro ac T
  refine l_w rfl ?_; intro K hK
  refine ow_stO M T rfl rfl (T.ev 0 rfl) (T.ev 1 rfl) rfl (.tail (.tail (.tail .head))) rfl (by simp) rfl (by kernel_rfl) ?_; clear M T; intro wc ac M T
  refine sh_out hK _ _ ?_; clear hK K
  refine wpList_nil ?_
  replace T := T.pick [7, 8, 9, 10] rfl
  replace M := M.mask [true, false, false, true, true, true] rfl
  refine nm_blk ?_
  refine nm_then ?_
  refine wp_region_lit ?_
  refine lq T (rn_move rfl (T.ev 3 rfl)) ?_; clear T ac; intro ac T
  refine lq T (rn_add rfl (T.ev 0 rfl) evc (by omega)) ?_; clear T ac; intro ac T
  refine l_q (v := (.int .i64 ((k : Int) + 1))) (T.pick [0, 1, 2, 3, 4] rfl) rfl rfl rfl rfl (rn_assign rfl (T.ev 0 rfl)) ?_; clear T ac; intro ac T
  refine wpList_nil ?_
  replace T := T.pick [0, 3, 4, 5] rfl
  refine nm_then ?_
  exact ⟨_, by omega, k + 1, (OL ++ [(⟨p.w, p.l, p.gr, p.pa⟩ : Pt)]), _, cga1, [(ga1, .row 63 4 (OL ++ [(⟨p.w, p.l, p.gr, p.pa⟩ : Pt)]).length (pc (OL ++ [(⟨p.w, p.l, p.gr, p.pa⟩ : Pt)])) cga1)], rfl, (by omega), (by rw [hO, ← map_turn_take hkp]), (by simp; omega), (Sl.row _ _ _ _ _ _), T.pick [1, 2, 3, 0] rfl, M.perm [1, 2, 3, 0] rfl rfl⟩
 intro h2
 refine wp_exit ?_
 refine ex_then ?_
 refine ex_then ?_
 refine ex_hit ?_
 refine nm_then ?_
 refine wp_seq ?_
 refine wp_region_lit ?_
 refine lq T (rn_rowO (Mem.nth M 0 rfl) rfl (T.ev 3 rfl) rfl) ?_; clear T ac; intro ac T
 refine l_w rfl ?_; intro K hK
 refine ow_stO M T rfl rfl (T.ev 3 rfl) (T.ev 0 rfl) rfl (.tail .head) rfl (by simp) rfl (by kernel_rfl) ?_; clear M T; intro wc ac M T
 refine sh_out hK _ _ ?_; clear hK K
 refine lq T (rn_assign rfl evc) ?_; clear T ac; intro ac T
 refine wpList_nil ?_
 replace T := T.pick [0, 4] rfl
 replace M := M.mask [false, true, false] rfl
 refine nm_then ?_
 refine wp_ret ?_
 refine rt_ct M T rfl (T.ev 1 rfl) (T.ev 0 rfl) (nthE_mem (i := 0) rfl) rfl ?_
 have e8 : skErr s = 0 := by omega
 have e7 : OL = (trnS s).ps := by rw [hO, List.take_of_length_le (by omega)]; rfl
 have e9 : trnZ s = trnS s := if_pos e8
 have hcap := hsl.capLe M (.cons _ (List.Sublist.refl _))
 have hsv := hsl.spV (pc_length _)
 rw [e9, e8]
 unfold TrnPost
 rw [← e7]
 exact ⟨A3, c3, Io, rfl, hcap, hsv, M.mask [false] rfl⟩
end Go.Proofs.YtehpcclfgjccbaaDoor
end

section
/-
 sheet's law: sizes.
-/
namespace Go.Proofs.YtehpcclfgjccbaaDoor
set_option linter.unusedSimpArgs false
set_option linter.unusedVariables false
open Go.RowKit
abbrev SE := Sk × Option Addr × Nat
def skL (s : Sk) (A : Option Addr) (c : Nat) : List Value := [.int .i64 s.lo, .int .i64 s.wi, .int .i64 s.a0, .int .i64 s.a1, .int .i64 s.c0, .int .i64 s.c1, .slice A s.ps.length c]
def sk (l : List SE) : List Value := l.flatMap fun x => skL x.1 x.2.1 x.2.2
theorem sk_get : ∀ (l : List SE) (k : Nat) {x : SE}, l[k]? = some x → ∀ (i : Nat) (v : Value), (skL x.1 x.2.1 x.2.2)[i]? = some v → (sk l)[k * 7 + i]? = some v
 | [], k, x, h, _, _, _ => by simp at h
 | y :: l, 0, x, h, i, v, hv => by
   simp only [List.getElem?_cons_zero, Option.some.injEq] at h
   subst h
   have hi : i < (skL y.1 y.2.1 y.2.2).length := (List.getElem?_eq_some_iff.1 hv).1
   show (skL y.1 y.2.1 y.2.2 ++ sk l)[0 * 7 + i]? = some v
   rw [Nat.zero_mul, Nat.zero_add, List.getElem?_append_left hi]
   exact hv
 | y :: l, k + 1, x, h, i, v, hv => by
   rw [List.getElem?_cons_succ] at h
   have := sk_get l k h i v hv
   show (skL y.1 y.2.1 y.2.2 ++ sk l)[(k + 1) * 7 + i]? = some v
   have hl : (skL y.1 y.2.1 y.2.2).length = 7 := rfl
   rw [List.getElem?_append_right (by rw [hl]; omega), hl, show (k + 1) * 7 + i - 7 = k * 7 + i by omega]
   exact this
theorem Sp.skR {w w' : World} {ex : Nat → Prop} {I L : List (Nat × BA)} {n b o k : Nat} {A : Option Addr} {l : List SE} {s : Sk} {B : Option Addr} {c : Nat} (S : Sp w ex I A n 7 b o (sk l)) (M : Mem w ex w' L) (hI : I.Sublist L) (h : l[k]? = some (s, B, c)) : w'.rangeAt b (o + k * 7) (skL s B c) := fun i v hv => by
 have := S.cell w' L M hI _ _ (sk_get l k h i v hv)
 rwa [← Nat.add_assoc] at this
theorem trnZ_len (s : Sk) : (trnZ s).ps.length ≤ s.ps.length := by
 unfold trnZ
 split
 · simp [trnS]
 · simp
set_option maxHeartbeats 4000000 in
theorem SheetSizes_any (s0 : Sk) (A0 : Option Addr) (c0 : Nat) (x1 : Int) (b2 b3 : Bool) (pt4 : Pt) (D : Option Addr) (n d : Nat) (l : List Int) (w : World) (hl : Rd w w.heap.size 1 D n (ic l)) (hm : n ≤ 9223372036854775807) (hT : TabW w) (hS0 : Rd w w.heap.size 4 A0 s0.ps.length (pc s0.ps)) (hn0 : s0.ps.length ≤ 9223372036854775807) :
   Calls Tryd.prog 13 #[.agg #[.int .i64 s0.lo, .int .i64 s0.wi, .int .i64 s0.a0, .int .i64 s0.a1, .int .i64 s0.c0, .int .i64 s0.c1, .slice A0 s0.ps.length c0], .int .i64 x1, .bool b2, .bool b3, .agg #[.int .i64 pt4.l, .int .i64 pt4.w, .bool pt4.gr, .int .i64 pt4.pa], .slice D n d] w fun e w' => e = .returned (.bool true) ∧ Below w.heap.size w w' := by
 have hll := hl.len1
 obtain ⟨bI, oI, SI⟩ := Sp.old hl
 obtain ⟨b0, o0, SA0⟩ := Sp.old hS0
 refine px_enter noEx Tryd.func13 rfl 152 rfl [.agg #[.int .i64 s0.lo, .int .i64 s0.wi, .int .i64 s0.a0, .int .i64 s0.a1, .int .i64 s0.c0, .int .i64 s0.c1, .slice A0 s0.ps.length c0], .int .i64 x1, .bool b2, .bool b3, .agg #[.int .i64 pt4.l, .int .i64 pt4.w, .bool pt4.gr, .int .i64 pt4.pa], .slice D n d] rfl rfl (Mem.init w _) ?_
 intro ac wc T M
 refine wp_seq ?_
 refine wp_region_lit ?_
 refine l_w rfl ?_; intro K hK
 refine ow_bx M T rfl rfl rfl rfl (T.ev 0 rfl) rfl ?_; clear M T; intro g1 wc ac M T
 refine sh_out hK _ _ ?_; clear hK K
 refine l_w rfl ?_; intro K hK
 refine ow_bx M T rfl rfl rfl rfl (T.ev 5 rfl) rfl ?_; clear M T; intro g2 wc ac M T
 refine sh_out hK _ _ ?_; clear hK K
 refine lq T (rn_assign rfl evc) ?_; clear T ac; intro ac T
 refine wpList_nil ?_
 replace T := T.pick [1, 2, 4, 5, 6, 8] rfl
 refine nm_then ?_
 refine wp_seq ?_
 refine wp_seq ?_
 refine wp_region_lit ?_
 refine lq (v := (.pointer (some ⟨g1, 6, none⟩))) T (rn_fieldAddr (off := 6) rfl (T.ev 1 rfl) (fun _ _ _ => by kernel_rfl)) ?_; clear T ac; intro ac T
 refine lq T (rn_one (Mem.nth M 1 rfl) rfl (T.ev 0 rfl) rfl) ?_; clear T ac; intro ac T
 refine lq T (rn_lenS rfl Tryd.underlying24 (T.ev 0 rfl)) ?_; clear T ac; intro ac T
 refine lq T (rn_gtr rfl (T.ev 0 rfl) evc) ?_; clear T ac; intro ac T
 refine wpList_nil ?_
 replace T := T.pick [0, 4, 5, 6, 7, 8, 9] rfl
 refine nm_then ?_
 refine wp_if (T.ev 0 rfl) ?_ ?_
 ·intro h1
  refine wp_seq ?_
  refine wp_region_lit ?_
  refine l_w rfl ?_; intro K hK
  refine ow_call (first := []) (cap := []) T rfl rfl rfl rfl evf .nil Tryd.func17 rfl rfl ?_
  refine Calls.mono (sawn8_any _ (hT.mem M (fun h => h))) ?_
  clear T
  rintro e wc ⟨rfl, hb⟩
  intro ac T
  replace M := M.call hb; clear hb
  refine sh_out hK _ _ ?_; clear hK K
  refine lq T (rn_assign rfl (T.ev 0 rfl)) ?_; clear T ac; intro ac T
  refine wpList_nil ?_
  replace T := T.pick [0] rfl
  replace M := M.mask [false, false] rfl
  refine nm_then ?_
  refine wp_ret ?_
  refine rt_then ?_
  refine rt_1 T rfl (T.ev 0 rfl) ?_
  exact ⟨ret_bool (by simp_all), M.below⟩
 intro h1
 refine wp_skip ?_
 refine nm_then ?_
 refine wp_seq ?_
 refine wp_region_lit ?_
 refine lq T (rn_move rfl (T.ev 6 rfl)) ?_; clear T ac; intro ac T
 refine l_w rfl ?_; intro K hK
 refine ow_call (first := []) (cap := []) T rfl rfl rfl rfl evf (.cons (T.ev 0 rfl) .nil) Tryd.func18 rfl rfl ?_
 refine Calls.mono (newPot_any _ _ _ l _ (SI.rd M (List.nil_sublist _)) (by omega)) ?_
 clear T
 rintro e wc ⟨bpu2, su2, hsu2, rfl, N⟩
 intro ac T
 replace M := M.join N; clear N
 replace M := M.mask [true, true, true] rfl
 refine sh_out hK _ _ ?_; clear hK K
 refine lq T (rn_assign rfl (T.ev 0 rfl)) ?_; clear T ac; intro ac T
 refine wpList_nil ?_
 replace T := T.pick [0, 4, 5, 6, 7, 8] rfl
 refine nm_then ?_
 refine wp_seq ?_
 refine wp_region_lit ?_
 refine lq T (rn_move rfl (T.ev 0 rfl)) ?_; clear T ac; intro ac T
 refine l_w rfl ?_; intro K hK
 refine ow_call (first := []) (cap := []) T rfl rfl rfl rfl evf (.cons (T.ev 0 rfl) (.cons evc (.cons evc .nil))) Tryd.func19 rfl rfl ?_
 refine Calls.mono (sheetOf_any _ bpu2 12 5 _ (by omega) (by omega) (M.nth 0 rfl) hsu2) ?_
 clear T
 rintro e wc ⟨s, AKu3, cKu3, sdu3, IKu3, rfl, hsgs, ⟨⟨hbls, hbws⟩, hbps⟩, hsu3, hcpKu3, SVKu3, N⟩
 intro ac T
 obtain ⟨bAKu3, oAKu3, SVKu3⟩ := SVKu3
 have SAKu3 := SVKu3 w noEx
 replace M := M.joinEI N .head
 clear N
 replace M : Mem w noEx wc ((bpu2, .cells [.int .u64 sdu3]) :: (g2, .cells [.int .i64 pt4.l, .int .i64 pt4.w, .bool pt4.gr, .int .i64 pt4.pa]) :: (g1, .cells [.int .i64 s0.lo, .int .i64 s0.wi, .int .i64 s0.a0, .int .i64 s0.a1, .int .i64 s0.c0, .int .i64 s0.c1, .slice A0 s0.ps.length c0]) :: IKu3) := M
 have hlns := hsgs.len
 obtain ⟨hg1s, hg2s, hg3s, hg4s, -, -⟩ := id hsgs
 refine sh_out hK _ _ ?_; clear hK K
 refine l_w rfl ?_; intro K hK
 refine ow_al M T rfl rfl rfl rfl ?_; clear M T; intro g3 wc ac M T
 refine sh_out hK _ _ ?_; clear hK K
 refine l_w rfl ?_; intro K hK
 refine ow_stO M T rfl rfl (T.ev 0 rfl) (T.ev 1 rfl) rfl .head rfl (by simp) rfl (by kernel_rfl) ?_; clear M T; intro wc ac M T
 refine sh_out hK _ _ ?_; clear hK K
 refine wpList_nil ?_
 replace T := T.pick [0, 3, 4, 5, 6, 7, 8] rfl
 refine nm_then ?_
 refine wp_seq ?_
 refine g_start2 M (M.mask [true, false, true, true] rfl) 21 (by kernel_rfl) rfl (by kernel_rfl) ?_
 clear M; intro wc M
 refine g_addG 13 M ?_
 refine gq T 0 1 rfl (fun B w' hD hl hS => (rn_rowO (Mem.nth (show Mem w noEx w' _ from (MA.rgt hS)) 2 rfl) rfl (T.ev 3 rfl) rfl)) ?_; clear T ac; intro ac T
 refine gq T 1 3 rfl (fun B w' hD hl hS => (rn_rowO (Mem.nth (show Mem w noEx w' _ from (MA.rgt hS)) 0 rfl) rfl (T.ev 1 rfl) rfl)) ?_; clear T ac; intro ac T
 refine gq T 2 7 rfl (fun B w' hD hl hS => (rn_rowO (Mem.nth (show Mem w noEx w' _ from ((MA.lft hS) (hD.wait (i := 4) (m := 13) (by kernel_rfl) (hD.wait (i := 2) (m := 4) (by kernel_rfl) hl)))) 0 rfl) rfl (T.ev 2 rfl) rfl)) ?_; clear T ac; intro ac T
 refine gq T 3 15 rfl (fun B w' hD hl hS => (rn_rowO (Mem.nth (show Mem w noEx w' _ from ((MA.lft hS) (hD.wait (i := 4) (m := 13) (by kernel_rfl) (hD.wait (i := 3) (m := 4) (by kernel_rfl) hl)))) 2 rfl) rfl (T.ev 5 rfl) rfl)) ?_; clear T ac; intro ac T
 refine gq T 5 47 rfl (fun B w' hD hl hS => (rn_rowO (Mem.nth (show Mem w noEx w' _ from (MA.rgt hS)) 0 rfl) rfl (T.ev 4 rfl) rfl)) ?_; clear T ac; intro ac T
 refine gq T 7 175 rfl (fun _ _ _ _ _ => (rn_move rfl (T.ev 9 rfl))) ?_; clear T ac; intro ac T
 refine gq T 8 431 rfl (fun _ _ _ _ _ => (rn_move rfl (T.ev 7 rfl))) ?_; clear T ac; intro ac T
 refine gq (v := (.pointer (some ⟨g3, 6, none⟩))) T 9 943 rfl (fun _ _ _ _ _ => (rn_fieldAddr (off := 6) rfl (T.ev 7 rfl) (fun _ _ _ => by kernel_rfl))) ?_; clear T ac; intro ac T
 refine gq T 10 1967 rfl (fun B w' hD hl hS => (rn_one (Mem.nth (show Mem w noEx w' _ from ((MA.lft hS) (hD.wait (i := 12) (m := 13) (by kernel_rfl) (hD.wait (i := 11) (m := 12) (by kernel_rfl) (hD.wait (i := 10) (m := 11) (by kernel_rfl) hl))))) 0 rfl) rfl (T.ev 0 rfl) rfl)) ?_; clear T ac; intro ac T
 refine gq T 11 4015 rfl (fun _ _ _ _ _ => (rn_lenS rfl Tryd.underlying24 (T.ev 0 rfl))) ?_; clear T ac; intro ac T
 refine gq T 12 8111 rfl (fun _ _ _ _ _ => (rn_sub rfl (T.ev 0 rfl) evc (by omega))) ?_; clear T ac; intro ac T
 refine gq (v := (.pointer (some ⟨g3, 6, none⟩))) T 14 24495 rfl (fun _ _ _ _ _ => (rn_fieldAddr (off := 6) rfl (T.ev 11 rfl) (fun _ _ _ => by kernel_rfl))) ?_; clear T ac; intro ac T
 refine gq T 15 57263 rfl (fun B w' hD hl hS => (rn_one (Mem.nth (show Mem w noEx w' _ from (MA.rgt hS)) 0 rfl) rfl (T.ev 0 rfl) rfl)) ?_; clear T ac; intro ac T
 refine gq T 16 122799 rfl (fun _ _ _ _ _ => (rn_lenS rfl Tryd.underlying24 (T.ev 0 rfl))) ?_; clear T ac; intro ac T
 refine gq T 17 253871 rfl (fun _ _ _ _ _ => (rn_move rfl (T.ev 18 rfl))) ?_; clear T ac; intro ac T
 refine gw 4 253887 ?_; intro K hK
 refine ow_call (first := []) (cap := []) T rfl rfl rfl rfl evf (.cons (T.ev 12 rfl) (.cons (T.ev 11 rfl) (.cons evc .nil))) Tryd.func42 rfl rfl ?_
 refine Calls.mono (with_any s AKu3 cKu3 pt4 1 _ (SAKu3.rd M (.cons _ (.cons _ (.cons _ (.cons _ (List.Sublist.refl _)))))) (by omega) (by omega) (by omega)) ?_
 clear T
 rintro e wc ⟨AOur5_4, cOur5_4, IOur5_4, rfl, hcpOur5_4, SVOur5_4, N⟩
 intro ac T
 obtain ⟨bAOur5_4, oAOur5_4, SVOur5_4⟩ := SVOur5_4
 have SAOur5_4 := SVOur5_4 w noEx
 replace M := (M.join N).swapI
 clear N
 replace M : Mem w noEx wc ((g3, .cells [.int .i64 s.lo, .int .i64 s.wi, .int .i64 s.a0, .int .i64 s.a1, .int .i64 s.c0, .int .i64 s.c1, .slice AKu3 s.ps.length cKu3]) :: (bpu2, .cells [.int .u64 sdu3]) :: (g2, .cells [.int .i64 pt4.l, .int .i64 pt4.w, .bool pt4.gr, .int .i64 pt4.pa]) :: (g1, .cells [.int .i64 s0.lo, .int .i64 s0.wi, .int .i64 s0.a0, .int .i64 s0.a1, .int .i64 s0.c0, .int .i64 s0.c1, .slice A0 s0.ps.length c0]) :: (IKu3 ++ IOur5_4)) := M
 refine sh_out hK _ _ (MA.mk (fun _ => (M.mask [true, true, true, true] rfl).sub (List.Sublist.cons_cons _ (List.Sublist.cons_cons _ (List.Sublist.cons_cons _ (List.Sublist.cons_cons _ (List.sublist_append_left _ _)))))) ((M.mask [true, false, true, true] rfl).sub (List.Sublist.cons_cons _ (List.Sublist.cons_cons _ (List.Sublist.cons_cons _ (List.sublist_append_left _ _)))))) ?_; clear hK K
 refine g_m2 (i := 6) (j := 13) (by kernel_rfl) ?_ ?_
 ·refine gi 253951 ?_; intro K hK
  refine ow_bs (e := 26) [.int .i64 s0.lo, .int .i64 s0.wi, .int .i64 s0.a0, .int .i64 s0.a1, .int .i64 s0.c0, .int .i64 s0.c1, .slice A0 s0.ps.length c0, .int .i64 s.lo, .int .i64 s.wi, .int .i64 s.a0, .int .i64 s.a1, .int .i64 s.c0, .int .i64 s.c1, .slice AKu3 s.ps.length cKu3, .int .i64 ((skA s pt4 1).lo), .int .i64 ((skA s pt4 1).wi), .int .i64 ((skA s pt4 1).a0), .int .i64 ((skA s pt4 1).a1), .int .i64 ((skA s pt4 1).c0), .int .i64 ((skA s pt4 1).c1), .slice AOur5_4 ((skA s pt4 1).ps.length) cOur5_4, .int .i64 s.lo, .int .i64 s.wi, .int .i64 s.a0, .int .i64 s.a1, .int .i64 s.c0, .int .i64 s.c1, .slice AKu3 s.ps.length cKu3] M T rfl rfl rfl rfl (.cons (T.ev 15 rfl) (.cons (T.ev 14 rfl) (.cons (T.ev 0 rfl) (.cons (T.ev 11 rfl) .nil)))) (fun _ => by kernel_rfl) ?_; clear M T; intro gr5_6 wc ac M T
  refine sh_out hK _ _ (MA.mk (fun _ => (M.mask [false, true, true, true, true] rfl).sub (List.Sublist.cons_cons _ (List.Sublist.cons_cons _ (List.Sublist.cons_cons _ (List.Sublist.cons_cons _ (List.sublist_append_left _ _)))))) ((M.mask [false, true, false, true, true] rfl).sub (List.Sublist.cons_cons _ (List.Sublist.cons_cons _ (List.Sublist.cons_cons _ (List.sublist_append_left _ _)))))) ?_; clear hK K
  refine gw 13 262143 ?_; intro K hK
  refine ow_call (first := []) (cap := []) T rfl rfl rfl rfl evf (.cons (T.ev 10 rfl) (.cons (T.ev 6 rfl) .nil)) Tryd.func21 rfl rfl ?_
  refine Calls.mono (upto_wide _ bpu2 (((s.ps.length : Nat) : Int) - 1) _ (by omega) (M.nth 2 rfl) hsu3) ?_
  clear T
  rintro e wc ⟨xur5_13, sur5_13, hxur5_13, hsur5_13, rfl, hgr, hbk⟩
  intro ac T
  replace M := M.callC (cs' := [.int .u64 sur5_13]) (.tail (.tail .head)) hgr hbk
  clear hgr hbk
  refine sh_out hK _ _ (MA.mk (fun h => (no_of (by kernel_rfl) h).elim) ((M.mask [false, true, false, true, true] rfl).sub (List.Sublist.cons_cons _ (List.Sublist.cons_cons _ (List.Sublist.cons_cons _ (List.sublist_append_left _ _)))))) ?_; clear hK K
  refine gq T 19 786431 rfl (fun _ _ _ _ _ => (rn_assign rfl (T.ev 1 rfl))) ?_; clear T ac; intro ac T
  refine gw 18 1048575 ?_; intro K hK
  refine ow_bs (e := 3) [.int .i64 x1, .int .i64 xur5_13, .int .i64 ((s.ps.length : Nat) : Int), .int .i64 x1] M T rfl rfl rfl rfl (.cons (T.ev 13 rfl) (.cons (T.ev 1 rfl) (.cons (T.ev 5 rfl) (.cons (T.ev 4 rfl) .nil)))) (fun _ => by kernel_rfl) ?_; clear M T; intro gr5_18 wc ac M T
  refine sh_out hK _ _ (MA.mk (fun h => (no_of (by kernel_rfl) h).elim) ((M.mask [false, false, true, false, true, true] rfl).sub (List.Sublist.cons_cons _ (List.Sublist.cons_cons _ (List.Sublist.cons_cons _ (List.sublist_append_left _ _)))))) ?_; clear hK K
  refine gq T 20 2097151 rfl (fun _ _ _ _ _ => (rn_assign rfl (T.ev 0 rfl))) ?_; clear T ac; intro ac T
  refine g_done (by kernel_rfl) ?_
  replace T := T.pick [0, 2, 26, 27] rfl
  replace M := M.mask [true, true, false, false, false, false] rfl
  refine nm_then ?_
  refine wp_seq ?_
  refine wp_seq ?_
  refine wp_region_lit ?_
  refine lq T (rn_assign rfl evc) ?_; clear T ac; intro ac T
  refine wpList_nil ?_
  refine nm_then ?_
  refine wp_block ?_
  obtain ⟨IT, hIT⟩ : ∃ IT : List (Nat × BA), IT = ((gr5_18, .cells [.int .i64 x1, .int .i64 xur5_13, .int .i64 ((s.ps.length : Nat) : Int), .int .i64 x1]) :: (gr5_6, .cells [.int .i64 s0.lo, .int .i64 s0.wi, .int .i64 s0.a0, .int .i64 s0.a1, .int .i64 s0.c0, .int .i64 s0.c1, .slice A0 s0.ps.length c0, .int .i64 s.lo, .int .i64 s.wi, .int .i64 s.a0, .int .i64 s.a1, .int .i64 s.c0, .int .i64 s.c1, .slice AKu3 s.ps.length cKu3, .int .i64 ((skA s pt4 1).lo), .int .i64 ((skA s pt4 1).wi), .int .i64 ((skA s pt4 1).a0), .int .i64 ((skA s pt4 1).a1), .int .i64 ((skA s pt4 1).c0), .int .i64 ((skA s pt4 1).c1), .slice AOur5_4 ((skA s pt4 1).ps.length) cOur5_4, .int .i64 s.lo, .int .i64 s.wi, .int .i64 s.a0, .int .i64 s.a1, .int .i64 s.c0, .int .i64 s.c1, .slice AKu3 s.ps.length cKu3]) :: (IKu3 ++ IOur5_4)) := ⟨_, rfl⟩
  have S0 : Sp w noEx IT (some ⟨gr5_6, 0, none⟩) 4 7 gr5_6 0 (sk [(s0, A0, c0), (s, AKu3, cKu3), ((skA s pt4 1), AOur5_4, cOur5_4), (s, AKu3, cKu3)]) := (Sp.cells (w := w) (ex := noEx) (g := gr5_6) (xs := sk [(s0, A0, c0), (s, AKu3, cKu3), ((skA s pt4 1), AOur5_4, cOur5_4), (s, AKu3, cKu3)]) (n := 4) (size := 7) (by rfl)).mono (by rw [hIT]; exact (.cons _ (List.Sublist.cons_cons _ (List.nil_sublist _))))
  have E0 : ∀ x ∈ ([(s0, A0, c0), (s, AKu3, cKu3), ((skA s pt4 1), AOur5_4, cOur5_4), (s, AKu3, cKu3)] : List SE), x.1.ps.length ≤ 20 ∧ x.1.ps.length ≤ x.1.ps.length ∧ ∃ b o, Sp w noEx IT x.2.1 x.1.ps.length 4 b o (pc x.1.ps) := by
    intro x hx
    simp only [List.mem_cons, List.not_mem_nil, or_false] at hx
    rcases hx with rfl | rfl | rfl | rfl
    · exact ⟨by first | omega | (dsimp only; omega) | (simp only [skA, skP, List.length_append, List.length_replicate]; omega), Nat.le_refl _, _, _, SA0.mono (by rw [hIT]; exact (List.nil_sublist _))⟩
    · exact ⟨by first | omega | (dsimp only; omega) | (simp only [skA, skP, List.length_append, List.length_replicate]; omega), Nat.le_refl _, _, _, SAKu3.mono (by rw [hIT]; exact (.cons _ (.cons _ (subL (List.Sublist.refl _)))))⟩
    · exact ⟨by first | omega | (dsimp only; omega) | (simp only [skA, skP, List.length_append, List.length_replicate]; omega), Nat.le_refl _, _, _, SAOur5_4.mono (by rw [hIT]; exact (.cons _ (.cons _ (List.sublist_append_right _ _))))⟩
    · exact ⟨by first | omega | (dsimp only; omega) | (simp only [skA, skP, List.length_append, List.length_replicate]; omega), Nat.le_refl _, _, _, SAKu3.mono (by rw [hIT]; exact (.cons _ (.cons _ (subL (List.Sublist.refl _)))))⟩
  obtain ⟨SS, hSS, SSS, ESS⟩ : ∃ SS : List SE, SS.length = 4 ∧ Sp w noEx IT (some ⟨gr5_6, 0, none⟩) 4 7 gr5_6 0 (sk SS) ∧ ∀ x ∈ SS, x.1.ps.length ≤ 20 ∧ x.1.ps.length ≤ x.1.ps.length ∧ ∃ b o, Sp w noEx IT x.2.1 x.1.ps.length 4 b o (pc x.1.ps) := ⟨_, rfl, S0, E0⟩
  clear S0 E0
  obtain ⟨QQ, hQQ, SQQ⟩ : ∃ QQ : List Int, QQ.length = 4 ∧ Sp w noEx IT (some ⟨gr5_18, 0, none⟩) 4 1 gr5_18 0 (ic QQ) := ⟨([x1, xur5_13, ((s.ps.length : Nat) : Int), x1] : List Int), rfl, (Sp.cells (w := w) (ex := noEx) (g := gr5_18) (xs := ic [x1, xur5_13, ((s.ps.length : Nat) : Int), x1]) (n := 4) (size := 1) (by rfl)).mono (by rw [hIT]; exact (List.Sublist.cons_cons _ (List.nil_sublist _)))⟩
  replace M : Mem w noEx wc IT := by rw [hIT]; exact M
  clear hIT
  refine wp_loop_n (fun mz ac wc => ∃ (i : Nat), mz = 4 - i ∧ (i ≤ 4) ∧ Tm ac 152 [(2, .bool b2), (3, .bool b3), (15, .slice (some ⟨gr5_6, 0, none⟩) 4 4), (16, .slice (some ⟨gr5_18, 0, none⟩) 4 4), (17, .int .i64 (i : Int))] ∧ Mem w noEx wc (IT)) ?_ ?_
  ·exact ⟨_, 0, rfl, (Nat.zero_le _), T.pick [3, 4, 2, 1, 0] rfl, M⟩
  clear T M
  rintro mz ac wc ⟨i, hmm1, hi, T, M⟩
  refine wp_seq ?_
  refine wp_seq ?_
  refine wp_region_lit ?_
  refine lq T (rn_move rfl (T.ev 4 rfl)) ?_; clear T ac; intro ac T
  refine lq T (rn_move rfl (T.ev 3 rfl)) ?_; clear T ac; intro ac T
  refine lq (v := (.int .i64 4)) T (rn_lenS rfl Tryd.underlying42 (T.ev 0 rfl)) ?_; clear T ac; intro ac T
  refine lq T (rn_lss rfl (T.ev 2 rfl) (T.ev 0 rfl)) ?_; clear T ac; intro ac T
  refine wpList_nil ?_
  replace T := T.pick [0, 4, 5, 6, 7, 8] rfl
  refine nm_then ?_
  refine wp_if (T.ev 0 rfl) ?_ ?_
  ·intro h2
   obtain ⟨⟨s9, A9, c9⟩, hk9⟩ : ∃ x, SS[i]? = some x := ⟨_, List.getElem?_eq_getElem (by omega)⟩
   obtain ⟨hf9, -, b9, o9, S9⟩ := ESS _ (List.mem_of_getElem? hk9)
   replace hf9 : s9.ps.length ≤ 20 := hf9
   replace S9 : Sp w noEx IT A9 s9.ps.length 4 b9 o9 (pc s9.ps) := S9
   obtain ⟨q9, hkq9, -⟩ := ic_next (l := QQ) (k := i) (by omega)
   have htz := trnZ_len s9
   refine wp_skip ?_
   refine nm_then ?_
   refine wp_seq ?_
   refine wp_block ?_
   refine wp_seq ?_
   refine wp_region_lit ?_
   refine lq T (rn_move rfl (T.ev 3 rfl)) ?_; clear T ac; intro ac T
   refine lq T (rn_move rfl (T.ev 6 rfl)) ?_; clear T ac; intro ac T
   refine lq T (rn_indexAddr (size := 7) i rfl (T.ev 1 rfl) (T.ev 0 rfl) ⟨_, Tryd.underlying42, by kernel_rfl⟩ rfl (by omega) (SSS.at0 (by omega))) ?_; clear T ac; intro ac T
   refine lq (v := (.agg #[.int .i64 s9.lo, .int .i64 s9.wi, .int .i64 s9.a0, .int .i64 s9.a1, .int .i64 s9.c0, .int .i64 s9.c1, .slice A9 s9.ps.length c9])) T (rn_rowat (Sp.skR SSS M (List.Sublist.refl _) hk9) rfl (T.ev 0 rfl) rfl) ?_; clear T ac; intro ac T
   refine l_w rfl ?_; intro K hK
   refine ow_call (first := []) (cap := []) T rfl rfl rfl rfl evf (.cons (T.ev 0 rfl) .nil) Tryd.func25 rfl rfl ?_
   refine Calls.mono (copySheet_any s9 A9 c9 _ (S9.rd M (List.Sublist.refl _)) (by omega)) ?_
   clear T
   rintro e wc ⟨ACu4, cCu4, ICu4, rfl, hclu4, N⟩
   intro ac T
   obtain ⟨bACu4, oACu4, SVCu4⟩ := hclu4.spV (pc_length _)
   have SACu4 := SVCu4 w noEx
   replace M := (M.join N).swapI
   clear N
   replace M : Mem w noEx wc ((IT ++ ICu4)) := M
   have hcpCu4 := hclu4.capLe M (List.sublist_append_right _ _)
   refine sh_out hK _ _ ?_; clear hK K
   refine l_w rfl ?_; intro K hK
   refine ow_al M T rfl rfl rfl rfl ?_; clear M T; intro g4 wc ac M T
   refine sh_out hK _ _ ?_; clear hK K
   refine l_w rfl ?_; intro K hK
   refine ow_stO M T rfl rfl (T.ev 0 rfl) (T.ev 1 rfl) rfl .head rfl (by simp) rfl (by kernel_rfl) ?_; clear M T; intro wc ac M T
   refine sh_out hK _ _ ?_; clear hK K
   refine wpList_nil ?_
   replace T := T.pick [0, 7, 8, 9, 10, 11] rfl
   refine nm_then ?_
   refine wp_seq ?_
   refine g_start2 M (M.mask [true] rfl) 15 (by kernel_rfl) rfl (by kernel_rfl) ?_
   clear M; intro wc M
   refine gq T 0 1 rfl (fun B w' hD hl hS => (rn_rowO (Mem.nth (show Mem w noEx w' _ from hS) 0 rfl) rfl (T.ev 0 rfl) rfl)) ?_; clear T ac; intro ac T
   refine gq T 1 3 rfl (fun _ _ _ _ _ => (rn_move rfl (T.ev 5 rfl))) ?_; clear T ac; intro ac T
   refine gq T 2 7 rfl (fun _ _ _ _ _ => (rn_move rfl (T.ev 7 rfl))) ?_; clear T ac; intro ac T
   refine gq T 3 15 rfl (fun _ _ _ _ _ => (rn_indexAddr (size := 1) i rfl (T.ev 1 rfl) (T.ev 0 rfl) ⟨_, Tryd.underlying27, by kernel_rfl⟩ rfl (by omega) (SQQ.at0 (by omega)))) ?_; clear T ac; intro ac T
   refine gq T 4 31 rfl (fun B w' hD hl hS => (rn_cell (Sp.ic0 SQQ (show Mem w noEx w' _ from hS) (.cons _ (subL (List.Sublist.refl _))) hkq9) rfl (T.ev 0 rfl))) ?_; clear T ac; intro ac T
   refine gq T 5 63 rfl (fun _ _ _ _ _ => (rn_move rfl (T.ev 6 rfl))) ?_; clear T ac; intro ac T
   refine gq T 6 127 rfl (fun _ _ _ _ _ => (rn_move rfl (T.ev 8 rfl))) ?_; clear T ac; intro ac T
   refine gw 7 255 ?_; intro K hK
   refine ow_call (first := []) (cap := []) T rfl rfl rfl rfl evf (.cons (T.ev 6 rfl) (.cons (T.ev 2 rfl) (.cons (T.ev 1 rfl) (.cons (T.ev 0 rfl) .nil)))) Tryd.func56 rfl rfl ?_
   refine Calls.mono (Size_any s9 ACu4 cCu4 q9 b2 b3 _ (SACu4.rd M (.cons _ (List.sublist_append_right _ _))) (by omega)) ?_
   clear T
   rintro e wc ⟨rfl, hb⟩
   intro ac T
   replace M := M.call hb; clear hb
   refine sh_out hK _ _ (M.mask [true] rfl) ?_; clear hK K
   refine gq T 8 511 rfl (fun _ _ _ _ _ => (rn_move rfl (T.ev 0 rfl))) ?_; clear T ac; intro ac T
   refine gq T 9 1023 rfl (fun _ _ _ _ _ => (rn_extract rfl (T.ev 0 rfl) rfl)) ?_; clear T ac; intro ac T
   refine gq T 10 2047 rfl (fun _ _ _ _ _ => (rn_extract rfl (T.ev 1 rfl) rfl)) ?_; clear T ac; intro ac T
   refine gq T 11 4095 rfl (fun _ _ _ _ _ => (rn_extract rfl (T.ev 2 rfl) rfl)) ?_; clear T ac; intro ac T
   refine gq T 12 8191 rfl (fun _ _ _ _ _ => (rn_assign rfl (T.ev 2 rfl))) ?_; clear T ac; intro ac T
   refine gq T 13 16383 rfl (fun _ _ _ _ _ => (rn_assign rfl (T.ev 2 rfl))) ?_; clear T ac; intro ac T
   refine gq T 14 32767 rfl (fun _ _ _ _ _ => (rn_assign rfl (T.ev 2 rfl))) ?_; clear T ac; intro ac T
   refine g_done (by kernel_rfl) ?_
   replace T := T.pick [0, 1, 2, 15, 16, 17, 18, 19, 20] rfl
   refine nm_then ?_
   refine wp_seq ?_
   refine g_start2 M (M.mask [true] rfl) 18 (by kernel_rfl) rfl (by kernel_rfl) ?_
   clear M; intro wc M
   refine gq T 0 1 rfl (fun _ _ _ _ _ => (rn_move rfl (T.ev 6 rfl))) ?_; clear T ac; intro ac T
   refine gq T 1 3 rfl (fun _ _ _ _ _ => (rn_move rfl (T.ev 9 rfl))) ?_; clear T ac; intro ac T
   refine gq T 2 7 rfl (fun _ _ _ _ _ => (rn_indexAddr (size := 7) i rfl (T.ev 1 rfl) (T.ev 0 rfl) ⟨_, Tryd.underlying42, by kernel_rfl⟩ rfl (by omega) (SSS.at0 (by omega)))) ?_; clear T ac; intro ac T
   refine gq (v := (.agg #[.int .i64 s9.lo, .int .i64 s9.wi, .int .i64 s9.a0, .int .i64 s9.a1, .int .i64 s9.c0, .int .i64 s9.c1, .slice A9 s9.ps.length c9])) T 3 15 rfl (fun B w' hD hl hS => (rn_rowat (Sp.skR SSS (show Mem w noEx w' _ from hS) (.cons _ (subL (List.Sublist.refl _))) hk9) rfl (T.ev 0 rfl) rfl)) ?_; clear T ac; intro ac T
   refine gq T 4 31 rfl (fun _ _ _ _ _ => (rn_move rfl (T.ev 11 rfl))) ?_; clear T ac; intro ac T
   refine gq T 5 63 rfl (fun _ _ _ _ _ => (rn_move rfl (T.ev 13 rfl))) ?_; clear T ac; intro ac T
   refine gq T 6 127 rfl (fun _ _ _ _ _ => (rn_indexAddr (size := 1) i rfl (T.ev 1 rfl) (T.ev 0 rfl) ⟨_, Tryd.underlying27, by kernel_rfl⟩ rfl (by omega) (SQQ.at0 (by omega)))) ?_; clear T ac; intro ac T
   refine gq T 7 255 rfl (fun B w' hD hl hS => (rn_cell (Sp.ic0 SQQ (show Mem w noEx w' _ from hS) (.cons _ (subL (List.Sublist.refl _))) hkq9) rfl (T.ev 0 rfl))) ?_; clear T ac; intro ac T
   refine gq T 8 511 rfl (fun _ _ _ _ _ => (rn_move rfl (T.ev 12 rfl))) ?_; clear T ac; intro ac T
   refine gq T 9 1023 rfl (fun _ _ _ _ _ => (rn_move rfl (T.ev 14 rfl))) ?_; clear T ac; intro ac T
   refine gw 10 2047 ?_; intro K hK
   refine ow_call (first := []) (cap := []) T rfl rfl rfl rfl evf (.cons (T.ev 6 rfl) (.cons (T.ev 2 rfl) (.cons (T.ev 1 rfl) (.cons (T.ev 0 rfl) .nil)))) Tryd.func57 rfl rfl ?_
   refine Calls.mono (Size8_any s9 A9 c9 q9 b2 b3 _ (S9.rd M (.cons _ (subL (List.Sublist.refl _)))) (by omega)) ?_
   clear T
   rintro e wc ⟨rfl, hb⟩
   intro ac T
   replace M := M.call hb; clear hb
   refine sh_out hK _ _ (M.mask [true] rfl) ?_; clear hK K
   refine gq T 11 4095 rfl (fun _ _ _ _ _ => (rn_move rfl (T.ev 0 rfl))) ?_; clear T ac; intro ac T
   refine gq T 12 8191 rfl (fun _ _ _ _ _ => (rn_extract rfl (T.ev 0 rfl) rfl)) ?_; clear T ac; intro ac T
   refine gq T 13 16383 rfl (fun _ _ _ _ _ => (rn_extract rfl (T.ev 1 rfl) rfl)) ?_; clear T ac; intro ac T
   refine gq T 14 32767 rfl (fun _ _ _ _ _ => (rn_extract rfl (T.ev 2 rfl) rfl)) ?_; clear T ac; intro ac T
   refine gq T 15 65535 rfl (fun _ _ _ _ _ => (rn_assign rfl (T.ev 2 rfl))) ?_; clear T ac; intro ac T
   refine gq T 16 131071 rfl (fun _ _ _ _ _ => (rn_assign rfl (T.ev 2 rfl))) ?_; clear T ac; intro ac T
   refine gq T 17 262143 rfl (fun _ _ _ _ _ => (rn_assign rfl (T.ev 2 rfl))) ?_; clear T ac; intro ac T
   refine g_done (by kernel_rfl) ?_
   replace T := T.pick [0, 1, 2, 18, 19, 20, 21, 22, 23, 24, 25, 26] rfl
   refine nm_then ?_
   refine wp_seq ?_
   refine wp_region_lit ?_
   refine lq T (rn_rowO (Mem.nth M 0 rfl) rfl (T.ev 6 rfl) rfl) ?_; clear T ac; intro ac T
   refine l_w rfl ?_; intro K hK
   refine ow_call (first := []) (cap := []) T rfl rfl rfl rfl evf (.cons (T.ev 0 rfl) .nil) Tryd.func58 rfl rfl ?_
   refine Calls.mono (Turn_any s9 ACu4 cCu4 _ (SACu4.rd M (.cons _ (List.sublist_append_right _ _))) (by omega)) ?_
   clear T
   rintro e wc ⟨ATu7, cTu7, IUu7, rfl, hcpTu7, SVTu7, N⟩
   intro ac T
   obtain ⟨bATu7, oATu7, SVTu7⟩ := SVTu7
   have SATu7 := SVTu7 w noEx
   replace M := (M.join N).swapI
   clear N
   replace M : Mem w noEx wc ((g4, .cells [.int .i64 s9.lo, .int .i64 s9.wi, .int .i64 s9.a0, .int .i64 s9.a1, .int .i64 s9.c0, .int .i64 s9.c1, .slice ACu4 s9.ps.length cCu4]) :: (IT ++ ICu4 ++ IUu7)) := M
   refine sh_out hK _ _ ?_; clear hK K
   refine lq T (rn_move rfl (T.ev 0 rfl)) ?_; clear T ac; intro ac T
   refine lq T (rn_extract rfl (T.ev 0 rfl) rfl) ?_; clear T ac; intro ac T
   refine lq T (rn_extract rfl (T.ev 1 rfl) rfl) ?_; clear T ac; intro ac T
   refine l_w rfl ?_; intro K hK
   refine ow_al M T rfl rfl rfl rfl ?_; clear M T; intro g5 wc ac M T
   refine sh_out hK _ _ ?_; clear hK K
   refine l_w rfl ?_; intro K hK
   refine ow_stO M T rfl rfl (T.ev 0 rfl) (T.ev 2 rfl) rfl .head rfl (by simp) rfl (by kernel_rfl) ?_; clear M T; intro wc ac M T
   refine sh_out hK _ _ ?_; clear hK K
   refine lq T (rn_assign rfl (T.ev 1 rfl)) ?_; clear T ac; intro ac T
   refine wpList_nil ?_
   replace T := T.pick [0, 1, 7, 8, 9, 10, 11, 12, 13, 14, 15, 16, 17, 18] rfl
   refine nm_then ?_
   refine wp_seq ?_
   refine wp_region_lit ?_
   refine lq T (rn_move rfl (T.ev 11 rfl)) ?_; clear T ac; intro ac T
   refine lq T (rn_move rfl (T.ev 14 rfl)) ?_; clear T ac; intro ac T
   refine lq T (rn_indexAddr (size := 7) i rfl (T.ev 1 rfl) (T.ev 0 rfl) ⟨_, Tryd.underlying42, by kernel_rfl⟩ rfl (by omega) (SSS.at0 (by omega))) ?_; clear T ac; intro ac T
   refine lq (v := (.agg #[.int .i64 s9.lo, .int .i64 s9.wi, .int .i64 s9.a0, .int .i64 s9.a1, .int .i64 s9.c0, .int .i64 s9.c1, .slice A9 s9.ps.length c9])) T (rn_rowat (Sp.skR SSS M (.cons _ (.cons _ (subL (subL (List.Sublist.refl _))))) hk9) rfl (T.ev 0 rfl) rfl) ?_; clear T ac; intro ac T
   refine l_w rfl ?_; intro K hK
   refine ow_call (first := []) (cap := []) T rfl rfl rfl rfl evf (.cons (T.ev 0 rfl) .nil) Tryd.func59 rfl rfl ?_
   refine Calls.mono (Turn8_any s9 A9 c9 _ (S9.rd M (.cons _ (.cons _ (subL (subL (List.Sublist.refl _)))))) (by omega)) ?_
   clear T
   rintro e wc ⟨ATu8, cTu8, IUu8, rfl, hcpTu8, SVTu8, N⟩
   intro ac T
   obtain ⟨bATu8, oATu8, SVTu8⟩ := SVTu8
   have SATu8 := SVTu8 w noEx
   replace M := (M.join N).swapI
   clear N
   replace M : Mem w noEx wc ((g5, .cells [.int .i64 ((trnZ s9).lo), .int .i64 ((trnZ s9).wi), .int .i64 ((trnZ s9).a0), .int .i64 ((trnZ s9).a1), .int .i64 ((trnZ s9).c0), .int .i64 ((trnZ s9).c1), .slice ATu7 ((trnZ s9).ps.length) cTu7]) :: (g4, .cells [.int .i64 s9.lo, .int .i64 s9.wi, .int .i64 s9.a0, .int .i64 s9.a1, .int .i64 s9.c0, .int .i64 s9.c1, .slice ACu4 s9.ps.length cCu4]) :: (IT ++ ICu4 ++ IUu7 ++ IUu8)) := M
   refine sh_out hK _ _ ?_; clear hK K
   refine lq T (rn_move rfl (T.ev 0 rfl)) ?_; clear T ac; intro ac T
   refine lq T (rn_extract rfl (T.ev 0 rfl) rfl) ?_; clear T ac; intro ac T
   refine lq T (rn_extract rfl (T.ev 1 rfl) rfl) ?_; clear T ac; intro ac T
   refine l_w rfl ?_; intro K hK
   refine ow_al M T rfl rfl rfl rfl ?_; clear M T; intro g6 wc ac M T
   refine sh_out hK _ _ ?_; clear hK K
   refine l_w rfl ?_; intro K hK
   refine ow_stO M T rfl rfl (T.ev 0 rfl) (T.ev 2 rfl) rfl .head rfl (by simp) rfl (by kernel_rfl) ?_; clear M T; intro wc ac M T
   refine sh_out hK _ _ ?_; clear hK K
   refine lq T (rn_assign rfl (T.ev 1 rfl)) ?_; clear T ac; intro ac T
   refine wpList_nil ?_
   replace T := T.pick [0, 1, 10, 11, 12, 13, 14, 15, 16, 17, 18, 19, 20, 21, 22, 23] rfl
   refine nm_then ?_
   refine wp_seq ?_
   refine g_start2 M (M.mask [true, true, true] rfl) 43 (by kernel_rfl) rfl (by kernel_rfl) ?_
   clear M; intro wc M
   refine gq T 0 1 rfl (fun B w' hD hl hS => (rn_rowO (Mem.nth (show Mem w noEx w' _ from hS) 2 rfl) rfl (T.ev 10 rfl) rfl)) ?_; clear T ac; intro ac T
   refine gq T 2 5 rfl (fun _ _ _ _ _ => (rn_move rfl (T.ev 14 rfl))) ?_; clear T ac; intro ac T
   refine gq T 3 13 rfl (fun _ _ _ _ _ => (rn_move rfl (T.ev 17 rfl))) ?_; clear T ac; intro ac T
   refine gq T 4 29 rfl (fun _ _ _ _ _ => (rn_indexAddr (size := 7) i rfl (T.ev 1 rfl) (T.ev 0 rfl) ⟨_, Tryd.underlying42, by kernel_rfl⟩ rfl (by omega) (SSS.at0 (by omega)))) ?_; clear T ac; intro ac T
   refine gq (v := (.agg #[.int .i64 s9.lo, .int .i64 s9.wi, .int .i64 s9.a0, .int .i64 s9.a1, .int .i64 s9.c0, .int .i64 s9.c1, .slice A9 s9.ps.length c9])) T 5 61 rfl (fun B w' hD hl hS => (rn_rowat (Sp.skR SSS (show Mem w noEx w' _ from hS) (.cons _ (.cons _ (.cons _ (subL (subL (subL (List.Sublist.refl _))))))) hk9) rfl (T.ev 0 rfl) rfl)) ?_; clear T ac; intro ac T
   refine gw 1 63 ?_; intro K hK
   refine ow_call (first := []) (cap := []) T rfl rfl rfl rfl evf (.cons (T.ev 4 rfl) .nil) Tryd.func60 rfl rfl ?_
   refine Calls.mono (skCheck_any s9 ACu4 cCu4 _ (SACu4.rd M (.cons _ (.cons _ (.cons _ (subL (subL (List.sublist_append_right _ _))))))) (by omega)) ?_
   clear T
   rintro e wc ⟨rfl, hb⟩
   intro ac T
   replace M := M.call hb; clear hb
   refine sh_out hK _ _ (M.mask [true, true, true] rfl) ?_; clear hK K
   refine g_addU M ?_
   refine gw 6 127 ?_; intro K hK
   refine ow_call (first := []) (cap := []) T rfl rfl rfl rfl evf (.cons (T.ev 1 rfl) .nil) Tryd.func61 rfl rfl ?_
   refine Calls.mono (skCheck8_any s9 A9 c9 _ (S9.rd M (.cons _ (.cons _ (.cons _ (subL (subL (subL (List.Sublist.refl _)))))))) (by omega)) ?_
   clear T
   rintro e wc ⟨rfl, hb⟩
   intro ac T
   replace M := M.call hb; clear hb
   refine sh_out hK _ _ (MA.mk (M.mask [true, true, true] rfl) (M.mask [true, true, true] rfl)) ?_; clear hK K
   refine g_addU M ?_
   refine gq (v := (.bool false)) T 7 255 rfl (fun _ _ _ _ _ => (rn_neqof (rn_neq rfl (T.ev 1 rfl) (T.ev 0 rfl)) (by simp))) ?_; clear T ac; intro ac T
   refine gq T 8 511 rfl (fun _ _ _ _ _ => (rn_move rfl (T.ev 0 rfl))) ?_; clear T ac; intro ac T
   refine g_q (T := T) (i := 9) rfl (by kernel_rfl) (by kernel_rfl : (pbits 43 511).setIfInBounds 9 true = pbits 43 1023) (si_and si_U (si_and si_U si_U)) (fun _ _ _ h => h) (wanted_yes rfl rfl (T.ev 0 rfl) rfl) rfl rfl rfl (fun _ _ _ _ _ => (rn_move rfl (T.ev 18 rfl))) ?_; clear T ac; intro ac T
   refine g_q (T := T) (i := 10) rfl (by kernel_rfl) (by kernel_rfl : (pbits 43 1023).setIfInBounds 10 true = pbits 43 2047) (si_and si_U (si_and si_U si_U)) (fun _ _ _ h => h) (wanted_yes rfl rfl (T.ev 1 rfl) rfl) rfl rfl rfl (fun _ _ _ _ _ => (rn_move rfl (T.ev 16 rfl))) ?_; clear T ac; intro ac T
   refine g_q (v := (.bool false)) (T := T) (i := 11) rfl (by kernel_rfl) (by kernel_rfl : (pbits 43 2047).setIfInBounds 11 true = pbits 43 4095) (si_and si_U (si_and si_U si_U)) (fun _ _ _ h => h) (wanted_yes rfl rfl (T.ev 2 rfl) rfl) rfl rfl rfl (fun _ _ _ _ _ => (rn_neqof (rn_neq rfl (T.ev 1 rfl) (T.ev 0 rfl)) (by simp))) ?_; clear T ac; intro ac T
   refine gq T 12 8191 rfl (fun _ _ _ _ _ => (rn_pick0 rfl (T.ev 3 rfl) rfl (T.ev 0 rfl))) ?_; clear T ac; intro ac T
   refine gq T 13 16383 rfl (fun _ _ _ _ _ => (rn_move rfl (T.ev 0 rfl))) ?_; clear T ac; intro ac T
   refine g_q (T := T) (i := 14) rfl (by kernel_rfl) (by kernel_rfl : (pbits 43 16383).setIfInBounds 14 true = pbits 43 32767) (si_and si_U (si_and si_U si_U)) (fun _ _ _ h => h) (wanted_yes rfl rfl (T.ev 0 rfl) rfl) rfl rfl rfl (fun _ _ _ _ _ => (rn_move rfl (T.ev 22 rfl))) ?_; clear T ac; intro ac T
   refine g_q (T := T) (i := 15) rfl (by kernel_rfl) (by kernel_rfl : (pbits 43 32767).setIfInBounds 15 true = pbits 43 65535) (si_and si_U (si_and si_U si_U)) (fun _ _ _ h => h) (wanted_yes rfl rfl (T.ev 1 rfl) rfl) rfl rfl rfl (fun _ _ _ _ _ => (rn_move rfl (T.ev 20 rfl))) ?_; clear T ac; intro ac T
   refine g_q (v := (.bool false)) (T := T) (i := 16) rfl (by kernel_rfl) (by kernel_rfl : (pbits 43 65535).setIfInBounds 16 true = pbits 43 131071) (si_and si_U (si_and si_U si_U)) (fun _ _ _ h => h) (wanted_yes rfl rfl (T.ev 2 rfl) rfl) rfl rfl rfl (fun _ _ _ _ _ => (rn_neqof (rn_neq rfl (T.ev 1 rfl) (T.ev 0 rfl)) (by simp))) ?_; clear T ac; intro ac T
   refine gq T 17 262143 rfl (fun _ _ _ _ _ => (rn_pick0 rfl (T.ev 3 rfl) rfl (T.ev 0 rfl))) ?_; clear T ac; intro ac T
   refine gq T 18 524287 rfl (fun _ _ _ _ _ => (rn_move rfl (T.ev 0 rfl))) ?_; clear T ac; intro ac T
   refine g_q (T := T) (i := 19) rfl (by kernel_rfl) (by kernel_rfl : (pbits 43 524287).setIfInBounds 19 true = pbits 43 1048575) (si_and si_U (si_and si_U si_U)) (fun _ _ _ h => h) (wanted_yes rfl rfl (T.ev 0 rfl) rfl) rfl rfl rfl (fun _ _ _ _ _ => (rn_move rfl (T.ev 26 rfl))) ?_; clear T ac; intro ac T
   refine g_q (T := T) (i := 20) rfl (by kernel_rfl) (by kernel_rfl : (pbits 43 1048575).setIfInBounds 20 true = pbits 43 2097151) (si_and si_U (si_and si_U si_U)) (fun _ _ _ h => h) (wanted_yes rfl rfl (T.ev 1 rfl) rfl) rfl rfl rfl (fun _ _ _ _ _ => (rn_move rfl (T.ev 24 rfl))) ?_; clear T ac; intro ac T
   refine g_q (v := (.bool false)) (T := T) (i := 21) rfl (by kernel_rfl) (by kernel_rfl : (pbits 43 2097151).setIfInBounds 21 true = pbits 43 4194303) (si_and si_U (si_and si_U si_U)) (fun _ _ _ h => h) (wanted_yes rfl rfl (T.ev 2 rfl) rfl) rfl rfl rfl (fun _ _ _ _ _ => (rn_neqof (rn_neq rfl (T.ev 1 rfl) (T.ev 0 rfl)) (by simp))) ?_; clear T ac; intro ac T
   refine gq T 22 8388607 rfl (fun _ _ _ _ _ => (rn_pick0 rfl (T.ev 3 rfl) rfl (T.ev 0 rfl))) ?_; clear T ac; intro ac T
   refine gq T 23 16777215 rfl (fun _ _ _ _ _ => (rn_move rfl (T.ev 0 rfl))) ?_; clear T ac; intro ac T
   refine g_q (T := T) (i := 24) rfl (by kernel_rfl) (by kernel_rfl : (pbits 43 16777215).setIfInBounds 24 true = pbits 43 33554431) (si_and si_U (si_and si_U si_U)) (fun _ _ _ h => h) (wanted_yes rfl rfl (T.ev 0 rfl) rfl) rfl rfl rfl (fun _ _ _ _ _ => (rn_move rfl (T.ev 26 rfl))) ?_; clear T ac; intro ac T
   refine g_q (T := T) (i := 25) rfl (by kernel_rfl) (by kernel_rfl : (pbits 43 33554431).setIfInBounds 25 true = pbits 43 67108863) (si_and si_U (si_and si_U si_U)) (fun _ _ _ h => h) (wanted_yes rfl rfl (T.ev 1 rfl) rfl) rfl rfl rfl (fun _ _ _ _ _ => (rn_move rfl (T.ev 25 rfl))) ?_; clear T ac; intro ac T
   refine g_q (v := (.bool false)) (T := T) (i := 26) rfl (by kernel_rfl) (by kernel_rfl : (pbits 43 67108863).setIfInBounds 26 true = pbits 43 134217727) (si_and si_U (si_and si_U si_U)) (fun _ _ _ h => h) (wanted_yes rfl rfl (T.ev 2 rfl) rfl) rfl rfl rfl (fun _ _ _ _ _ => (rn_neqof (rn_neq rfl (T.ev 1 rfl) (T.ev 0 rfl)) (by simp))) ?_; clear T ac; intro ac T
   refine gq T 27 268435455 rfl (fun _ _ _ _ _ => (rn_pick0 rfl (T.ev 3 rfl) rfl (T.ev 0 rfl))) ?_; clear T ac; intro ac T
   refine gq T 28 536870911 rfl (fun _ _ _ _ _ => (rn_move rfl (T.ev 0 rfl))) ?_; clear T ac; intro ac T
   refine g_q (T := T) (i := 29) rfl (by kernel_rfl) (by kernel_rfl : (pbits 43 536870911).setIfInBounds 29 true = pbits 43 1073741823) (si_and si_U (si_and si_U si_U)) (fun _ _ _ h => h) (wanted_yes rfl rfl (T.ev 0 rfl) rfl) rfl rfl rfl (fun B w' hD hl hS => (rn_rowO (Mem.nth (show Mem w noEx w' _ from (MA.lft hS)) 1 rfl) rfl (T.ev 32 rfl) rfl)) ?_; clear T ac; intro ac T
   refine g_q (T := T) (i := 30) rfl (by kernel_rfl) (by kernel_rfl : (pbits 43 1073741823).setIfInBounds 30 true = pbits 43 2147483647) (si_and si_U (si_and si_U si_U)) (fun _ _ _ h => h) (wanted_yes rfl rfl (T.ev 1 rfl) rfl) rfl rfl rfl (fun B w' hD hl hS => (rn_rowO (Mem.nth (show Mem w noEx w' _ from (MA.lft hS)) 0 rfl) rfl (T.ev 31 rfl) rfl)) ?_; clear T ac; intro ac T
   refine g_w (i := 31) (by kernel_rfl) rfl (by kernel_rfl : (pbits 43 2147483647).setIfInBounds 31 true = pbits 43 4294967295) (wanted_yes rfl rfl (T.ev 2 rfl) rfl) ?_; intro K hK
   refine ow_call (first := []) (cap := []) T rfl rfl rfl rfl evf (.cons (T.ev 1 rfl) (.cons (T.ev 0 rfl) .nil)) Tryd.func29 rfl rfl ?_
   refine Calls.mono (sameSheets_any (trnZ s9) ATu7 cTu7 (trnZ s9) ATu8 cTu8 _ (SATu7.rd M (.cons _ (.cons _ (.cons _ (subL (List.sublist_append_right _ _)))))) (SATu8.rd M (.cons _ (.cons _ (.cons _ (List.sublist_append_right _ _))))) (by omega) (by omega)) ?_
   clear T
   rintro e wc ⟨rfl, hb⟩
   intro ac T
   replace M := M.call hb; clear hb
   rw [decide_eq_true (@rfl Sk (trnZ s9))] at T
   refine sh_out hK _ _ (MA.mk (M.mask [true, true, true] rfl) (MA.mk (M.mask [true, true, true] rfl) (M.mask [true, true, true] rfl))) ?_; clear hK K
   refine g_addU M ?_
   refine g_q (v := (.bool false)) (T := T) (i := 32) rfl (by kernel_rfl) (by kernel_rfl : (pbits 43 4294967295).setIfInBounds 32 true = pbits 43 8589934591) (si_and si_U (si_and si_U (si_and si_U si_U))) (fun _ _ _ h => h) (wanted_yes rfl rfl (T.ev 3 rfl) rfl) rfl rfl rfl (fun _ _ _ _ _ => (rn_neqof (rn_not rfl (T.ev 0 rfl)) (by simp))) ?_; clear T ac; intro ac T
   refine gq T 33 17179869183 rfl (fun _ _ _ _ _ => (rn_pick0 rfl (T.ev 4 rfl) rfl (T.ev 0 rfl))) ?_; clear T ac; intro ac T
   refine gq T 34 34359738367 rfl (fun _ _ _ _ _ => (rn_move rfl (T.ev 0 rfl))) ?_; clear T ac; intro ac T
   refine g_q (T := T) (i := 35) rfl (by kernel_rfl) (by kernel_rfl : (pbits 43 34359738367).setIfInBounds 35 true = pbits 43 68719476735) (si_and si_U (si_and si_U (si_and si_U si_U))) (fun _ _ _ h => h) (wanted_yes rfl rfl (T.ev 0 rfl) rfl) rfl rfl rfl (fun B w' hD hl hS => (rn_rowO (Mem.nth (show Mem w noEx w' _ from (MA.lft hS)) 2 rfl) rfl (T.ev 45 rfl) rfl)) ?_; clear T ac; intro ac T
   refine g_q (T := T) (i := 36) rfl (by kernel_rfl) (by kernel_rfl : (pbits 43 68719476735).setIfInBounds 36 true = pbits 43 137438953471) (si_and si_U (si_and si_U (si_and si_U si_U))) (fun _ _ _ h => h) (wanted_yes rfl rfl (T.ev 1 rfl) rfl) rfl rfl rfl (fun _ _ _ _ _ => (rn_move rfl (T.ev 49 rfl))) ?_; clear T ac; intro ac T
   refine g_q (T := T) (i := 37) rfl (by kernel_rfl) (by kernel_rfl : (pbits 43 137438953471).setIfInBounds 37 true = pbits 43 274877906943) (si_and si_U (si_and si_U (si_and si_U si_U))) (fun _ _ _ h => h) (wanted_yes rfl rfl (T.ev 2 rfl) rfl) rfl rfl rfl (fun _ _ _ _ _ => (rn_move rfl (T.ev 52 rfl))) ?_; clear T ac; intro ac T
   refine g_q (T := T) (i := 38) rfl (by kernel_rfl) (by kernel_rfl : (pbits 43 274877906943).setIfInBounds 38 true = pbits 43 549755813887) (si_and si_U (si_and si_U (si_and si_U si_U))) (fun _ _ _ h => h) (wanted_yes rfl rfl (T.ev 3 rfl) rfl) rfl rfl rfl (fun _ _ _ _ _ => (rn_indexAddr (size := 7) i rfl (T.ev 1 rfl) (T.ev 0 rfl) ⟨_, Tryd.underlying42, by kernel_rfl⟩ rfl (by omega) (SSS.at0 (by omega)))) ?_; clear T ac; intro ac T
   refine g_q (v := (.agg #[.int .i64 s9.lo, .int .i64 s9.wi, .int .i64 s9.a0, .int .i64 s9.a1, .int .i64 s9.c0, .int .i64 s9.c1, .slice A9 s9.ps.length c9])) (T := T) (i := 39) rfl (by kernel_rfl) (by kernel_rfl : (pbits 43 549755813887).setIfInBounds 39 true = pbits 43 1099511627775) (si_and si_U (si_and si_U (si_and si_U si_U))) (fun _ _ _ h => h) (wanted_yes rfl rfl (T.ev 4 rfl) rfl) rfl rfl rfl (fun B w' hD hl hS => (rn_rowat (Sp.skR SSS (show Mem w noEx w' _ from (MA.lft hS)) (.cons _ (.cons _ (.cons _ (subL (subL (subL (List.Sublist.refl _))))))) hk9) rfl (T.ev 0 rfl) rfl)) ?_; clear T ac; intro ac T
   refine g_w (i := 40) (by kernel_rfl) rfl (by kernel_rfl : (pbits 43 1099511627775).setIfInBounds 40 true = pbits 43 2199023255551) (wanted_yes rfl rfl (T.ev 5 rfl) rfl) ?_; intro K hK
   refine ow_call (first := []) (cap := []) T rfl rfl rfl rfl evf (.cons (T.ev 4 rfl) (.cons (T.ev 0 rfl) .nil)) Tryd.func29 rfl rfl ?_
   refine Calls.mono (sameSheets_any s9 ACu4 cCu4 s9 A9 c9 _ (SACu4.rd M (.cons _ (.cons _ (.cons _ (subL (subL (List.sublist_append_right _ _))))))) (S9.rd M (.cons _ (.cons _ (.cons _ (subL (subL (subL (List.Sublist.refl _)))))))) (by omega) (by omega)) ?_
   clear T
   rintro e wc ⟨rfl, hb⟩
   intro ac T
   replace M := M.call hb; clear hb
   rw [decide_eq_true (@rfl Sk s9)] at T
   refine sh_out hK _ _ (MA.mk (M.mask [true, true, true] rfl) (MA.mk (M.mask [true, true, true] rfl) (MA.mk (M.mask [true, true, true] rfl) (M.mask [true, true, true] rfl)))) ?_; clear hK K
   refine g_q (v := (.bool false)) (T := T) (i := 41) rfl (by kernel_rfl) (by kernel_rfl : (pbits 43 2199023255551).setIfInBounds 41 true = pbits 43 4398046511103) (si_and si_U (si_and si_U (si_and si_U si_U))) (fun _ _ _ h => h) (wanted_yes rfl rfl (T.ev 6 rfl) rfl) rfl rfl rfl (fun _ _ _ _ _ => (rn_neqof (rn_not rfl (T.ev 0 rfl)) (by simp))) ?_; clear T ac; intro ac T
   refine gq T 42 8796093022207 rfl (fun _ _ _ _ _ => (rn_pick0 rfl (T.ev 7 rfl) rfl (T.ev 0 rfl))) ?_; clear T ac; intro ac T
   refine g_done (by kernel_rfl) ?_
   replace T := T.pick [0, 1, 2, 3, 4, 5, 6, 7, 10, 11, 12, 13, 16, 17, 18, 21, 22, 23, 26, 27, 28, 31, 32, 33, 54, 55, 56, 57, 58] rfl
   replace M := M.mask [false, false, false] rfl
   replace M : Mem w noEx wc ((IT ++ ICu4 ++ IUu7 ++ IUu8)) := M
   refine nm_then ?_
   refine wp_cond_false (T.ev 0 rfl) ?_
   refine wp_skip ?_
   refine nm_blk ?_
   refine nm_then ?_
   refine wp_region_lit ?_
   refine lq T (rn_move rfl (T.ev 28 rfl)) ?_; clear T ac; intro ac T
   refine lq T (rn_add rfl (T.ev 0 rfl) evc (by omega)) ?_; clear T ac; intro ac T
   refine l_q (v := (.int .i64 ((i : Int) + 1))) (T.pick [0, 1, 2, 3, 4, 5, 6, 7, 8, 9, 10, 11, 12, 13, 14, 15, 16, 17, 18, 19, 20, 21, 22, 23, 24, 25, 26, 27, 28, 29] rfl) rfl rfl rfl rfl (rn_assign rfl (T.ev 0 rfl)) ?_; clear T ac; intro ac T
   refine wpList_nil ?_
   replace T := T.pick [0, 4, 5, 6, 7, 8, 9, 10, 11, 12, 13, 14, 15, 16, 17, 18, 19, 20, 21, 22, 23, 24, 25, 26, 27, 28, 29, 30] rfl
   refine nm_then ?_
   exact ⟨_, by omega, i + 1, rfl, (by omega), T.pick [24, 25, 26, 27, 0] rfl, (M.sub (subL (subL (subL (List.Sublist.refl _)))))⟩
  intro h2
  refine wp_exit ?_
  refine ex_then ?_
  refine ex_then ?_
  refine ex_hit ?_
  refine nm_then ?_
  refine wp_seq ?_
  refine wp_region_lit ?_
  refine l_w rfl ?_; intro K hK
  refine ow_call (first := []) (cap := []) T rfl rfl rfl rfl evf .nil Tryd.func17 rfl rfl ?_
  refine Calls.mono (sawn8_any _ (hT.mem M (fun h => h))) ?_
  clear T
  rintro e wc ⟨rfl, hb⟩
  intro ac T
  replace M := M.call hb; clear hb
  refine sh_out hK _ _ ?_; clear hK K
  refine lq T (rn_assign rfl (T.ev 0 rfl)) ?_; clear T ac; intro ac T
  refine wpList_nil ?_
  replace T := T.pick [0] rfl
  refine nm_then ?_
  refine wp_ret ?_
  refine rt_1 T rfl (T.ev 0 rfl) ?_
  exact ⟨ret_bool (by simp_all), M.below⟩
 refine gi 262079 ?_; intro K hK
 refine ow_call (first := []) (cap := []) T rfl rfl rfl rfl evf (.cons (T.ev 9 rfl) (.cons (T.ev 5 rfl) .nil)) Tryd.func21 rfl rfl ?_
 refine Calls.mono (upto_wide _ bpu2 (((s.ps.length : Nat) : Int) - 1) _ (by omega) (M.nth 1 rfl) hsu3) ?_
 clear T
 rintro e wc ⟨xur5_13, sur5_13, hxur5_13, hsur5_13, rfl, hgr, hbk⟩
 intro ac T
 replace M := M.callC (cs' := [.int .u64 sur5_13]) (.tail .head) hgr hbk
 clear hgr hbk
 refine sh_out hK _ _ (MA.mk (fun h => (no_of (by kernel_rfl) h).elim) ((M.mask [true, false, true, true] rfl).sub (List.Sublist.cons_cons _ (List.Sublist.cons_cons _ (List.Sublist.cons_cons _ (List.sublist_append_left _ _)))))) ?_; clear hK K
 refine g_m2 (i := 6) (j := 18) (by kernel_rfl) ?_ ?_
 ·refine gi 262143 ?_; intro K hK
  refine ow_bs (e := 26) [.int .i64 s0.lo, .int .i64 s0.wi, .int .i64 s0.a0, .int .i64 s0.a1, .int .i64 s0.c0, .int .i64 s0.c1, .slice A0 s0.ps.length c0, .int .i64 s.lo, .int .i64 s.wi, .int .i64 s.a0, .int .i64 s.a1, .int .i64 s.c0, .int .i64 s.c1, .slice AKu3 s.ps.length cKu3, .int .i64 ((skA s pt4 1).lo), .int .i64 ((skA s pt4 1).wi), .int .i64 ((skA s pt4 1).a0), .int .i64 ((skA s pt4 1).a1), .int .i64 ((skA s pt4 1).c0), .int .i64 ((skA s pt4 1).c1), .slice AOur5_4 ((skA s pt4 1).ps.length) cOur5_4, .int .i64 s.lo, .int .i64 s.wi, .int .i64 s.a0, .int .i64 s.a1, .int .i64 s.c0, .int .i64 s.c1, .slice AKu3 s.ps.length cKu3] M T rfl rfl rfl rfl (.cons (T.ev 16 rfl) (.cons (T.ev 15 rfl) (.cons (T.ev 1 rfl) (.cons (T.ev 12 rfl) .nil)))) (fun _ => by kernel_rfl) ?_; clear M T; intro gr5_6 wc ac M T
  refine sh_out hK _ _ (MA.mk (fun h => (no_of (by kernel_rfl) h).elim) ((M.mask [false, true, false, true, true] rfl).sub (List.Sublist.cons_cons _ (List.Sublist.cons_cons _ (List.Sublist.cons_cons _ (List.sublist_append_left _ _)))))) ?_; clear hK K
  refine gq T 19 786431 rfl (fun _ _ _ _ _ => (rn_assign rfl (T.ev 0 rfl))) ?_; clear T ac; intro ac T
  refine gw 18 1048575 ?_; intro K hK
  refine ow_bs (e := 3) [.int .i64 x1, .int .i64 xur5_13, .int .i64 ((s.ps.length : Nat) : Int), .int .i64 x1] M T rfl rfl rfl rfl (.cons (T.ev 13 rfl) (.cons (T.ev 2 rfl) (.cons (T.ev 5 rfl) (.cons (T.ev 4 rfl) .nil)))) (fun _ => by kernel_rfl) ?_; clear M T; intro gr5_18 wc ac M T
  refine sh_out hK _ _ (MA.mk (fun h => (no_of (by kernel_rfl) h).elim) ((M.mask [false, false, true, false, true, true] rfl).sub (List.Sublist.cons_cons _ (List.Sublist.cons_cons _ (List.Sublist.cons_cons _ (List.sublist_append_left _ _)))))) ?_; clear hK K
  refine gq T 20 2097151 rfl (fun _ _ _ _ _ => (rn_assign rfl (T.ev 0 rfl))) ?_; clear T ac; intro ac T
  refine g_done (by kernel_rfl) ?_
  replace T := T.pick [0, 2, 26, 27] rfl
  replace M := M.mask [true, true, false, false, false, false] rfl
  refine nm_then ?_
  refine wp_seq ?_
  refine wp_seq ?_
  refine wp_region_lit ?_
  refine lq T (rn_assign rfl evc) ?_; clear T ac; intro ac T
  refine wpList_nil ?_
  refine nm_then ?_
  refine wp_block ?_
  obtain ⟨IT, hIT⟩ : ∃ IT : List (Nat × BA), IT = ((gr5_18, .cells [.int .i64 x1, .int .i64 xur5_13, .int .i64 ((s.ps.length : Nat) : Int), .int .i64 x1]) :: (gr5_6, .cells [.int .i64 s0.lo, .int .i64 s0.wi, .int .i64 s0.a0, .int .i64 s0.a1, .int .i64 s0.c0, .int .i64 s0.c1, .slice A0 s0.ps.length c0, .int .i64 s.lo, .int .i64 s.wi, .int .i64 s.a0, .int .i64 s.a1, .int .i64 s.c0, .int .i64 s.c1, .slice AKu3 s.ps.length cKu3, .int .i64 ((skA s pt4 1).lo), .int .i64 ((skA s pt4 1).wi), .int .i64 ((skA s pt4 1).a0), .int .i64 ((skA s pt4 1).a1), .int .i64 ((skA s pt4 1).c0), .int .i64 ((skA s pt4 1).c1), .slice AOur5_4 ((skA s pt4 1).ps.length) cOur5_4, .int .i64 s.lo, .int .i64 s.wi, .int .i64 s.a0, .int .i64 s.a1, .int .i64 s.c0, .int .i64 s.c1, .slice AKu3 s.ps.length cKu3]) :: (IKu3 ++ IOur5_4)) := ⟨_, rfl⟩
  have S0 : Sp w noEx IT (some ⟨gr5_6, 0, none⟩) 4 7 gr5_6 0 (sk [(s0, A0, c0), (s, AKu3, cKu3), ((skA s pt4 1), AOur5_4, cOur5_4), (s, AKu3, cKu3)]) := (Sp.cells (w := w) (ex := noEx) (g := gr5_6) (xs := sk [(s0, A0, c0), (s, AKu3, cKu3), ((skA s pt4 1), AOur5_4, cOur5_4), (s, AKu3, cKu3)]) (n := 4) (size := 7) (by rfl)).mono (by rw [hIT]; exact (.cons _ (List.Sublist.cons_cons _ (List.nil_sublist _))))
  have E0 : ∀ x ∈ ([(s0, A0, c0), (s, AKu3, cKu3), ((skA s pt4 1), AOur5_4, cOur5_4), (s, AKu3, cKu3)] : List SE), x.1.ps.length ≤ 20 ∧ x.1.ps.length ≤ x.1.ps.length ∧ ∃ b o, Sp w noEx IT x.2.1 x.1.ps.length 4 b o (pc x.1.ps) := by
    intro x hx
    simp only [List.mem_cons, List.not_mem_nil, or_false] at hx
    rcases hx with rfl | rfl | rfl | rfl
    · exact ⟨by first | omega | (dsimp only; omega) | (simp only [skA, skP, List.length_append, List.length_replicate]; omega), Nat.le_refl _, _, _, SA0.mono (by rw [hIT]; exact (List.nil_sublist _))⟩
    · exact ⟨by first | omega | (dsimp only; omega) | (simp only [skA, skP, List.length_append, List.length_replicate]; omega), Nat.le_refl _, _, _, SAKu3.mono (by rw [hIT]; exact (.cons _ (.cons _ (subL (List.Sublist.refl _)))))⟩
    · exact ⟨by first | omega | (dsimp only; omega) | (simp only [skA, skP, List.length_append, List.length_replicate]; omega), Nat.le_refl _, _, _, SAOur5_4.mono (by rw [hIT]; exact (.cons _ (.cons _ (List.sublist_append_right _ _))))⟩
    · exact ⟨by first | omega | (dsimp only; omega) | (simp only [skA, skP, List.length_append, List.length_replicate]; omega), Nat.le_refl _, _, _, SAKu3.mono (by rw [hIT]; exact (.cons _ (.cons _ (subL (List.Sublist.refl _)))))⟩
  obtain ⟨SS, hSS, SSS, ESS⟩ : ∃ SS : List SE, SS.length = 4 ∧ Sp w noEx IT (some ⟨gr5_6, 0, none⟩) 4 7 gr5_6 0 (sk SS) ∧ ∀ x ∈ SS, x.1.ps.length ≤ 20 ∧ x.1.ps.length ≤ x.1.ps.length ∧ ∃ b o, Sp w noEx IT x.2.1 x.1.ps.length 4 b o (pc x.1.ps) := ⟨_, rfl, S0, E0⟩
  clear S0 E0
  obtain ⟨QQ, hQQ, SQQ⟩ : ∃ QQ : List Int, QQ.length = 4 ∧ Sp w noEx IT (some ⟨gr5_18, 0, none⟩) 4 1 gr5_18 0 (ic QQ) := ⟨([x1, xur5_13, ((s.ps.length : Nat) : Int), x1] : List Int), rfl, (Sp.cells (w := w) (ex := noEx) (g := gr5_18) (xs := ic [x1, xur5_13, ((s.ps.length : Nat) : Int), x1]) (n := 4) (size := 1) (by rfl)).mono (by rw [hIT]; exact (List.Sublist.cons_cons _ (List.nil_sublist _)))⟩
  replace M : Mem w noEx wc IT := by rw [hIT]; exact M
  clear hIT
  refine wp_loop_n (fun mz ac wc => ∃ (i : Nat), mz = 4 - i ∧ (i ≤ 4) ∧ Tm ac 152 [(2, .bool b2), (3, .bool b3), (15, .slice (some ⟨gr5_6, 0, none⟩) 4 4), (16, .slice (some ⟨gr5_18, 0, none⟩) 4 4), (17, .int .i64 (i : Int))] ∧ Mem w noEx wc (IT)) ?_ ?_
  ·exact ⟨_, 0, rfl, (Nat.zero_le _), T.pick [3, 4, 2, 1, 0] rfl, M⟩
  clear T M
  rintro mz ac wc ⟨i, hmm1, hi, T, M⟩
  refine wp_seq ?_
  refine wp_seq ?_
  refine wp_region_lit ?_
  refine lq T (rn_move rfl (T.ev 4 rfl)) ?_; clear T ac; intro ac T
  refine lq T (rn_move rfl (T.ev 3 rfl)) ?_; clear T ac; intro ac T
  refine lq (v := (.int .i64 4)) T (rn_lenS rfl Tryd.underlying42 (T.ev 0 rfl)) ?_; clear T ac; intro ac T
  refine lq T (rn_lss rfl (T.ev 2 rfl) (T.ev 0 rfl)) ?_; clear T ac; intro ac T
  refine wpList_nil ?_
  replace T := T.pick [0, 4, 5, 6, 7, 8] rfl
  refine nm_then ?_
  refine wp_if (T.ev 0 rfl) ?_ ?_
  ·intro h3
   obtain ⟨⟨s9, A9, c9⟩, hk9⟩ : ∃ x, SS[i]? = some x := ⟨_, List.getElem?_eq_getElem (by omega)⟩
   obtain ⟨hf9, -, b9, o9, S9⟩ := ESS _ (List.mem_of_getElem? hk9)
   replace hf9 : s9.ps.length ≤ 20 := hf9
   replace S9 : Sp w noEx IT A9 s9.ps.length 4 b9 o9 (pc s9.ps) := S9
   obtain ⟨q9, hkq9, -⟩ := ic_next (l := QQ) (k := i) (by omega)
   have htz := trnZ_len s9
   refine wp_skip ?_
   refine nm_then ?_
   refine wp_seq ?_
   refine wp_block ?_
   refine wp_seq ?_
   refine wp_region_lit ?_
   refine lq T (rn_move rfl (T.ev 3 rfl)) ?_; clear T ac; intro ac T
   refine lq T (rn_move rfl (T.ev 6 rfl)) ?_; clear T ac; intro ac T
   refine lq T (rn_indexAddr (size := 7) i rfl (T.ev 1 rfl) (T.ev 0 rfl) ⟨_, Tryd.underlying42, by kernel_rfl⟩ rfl (by omega) (SSS.at0 (by omega))) ?_; clear T ac; intro ac T
   refine lq (v := (.agg #[.int .i64 s9.lo, .int .i64 s9.wi, .int .i64 s9.a0, .int .i64 s9.a1, .int .i64 s9.c0, .int .i64 s9.c1, .slice A9 s9.ps.length c9])) T (rn_rowat (Sp.skR SSS M (List.Sublist.refl _) hk9) rfl (T.ev 0 rfl) rfl) ?_; clear T ac; intro ac T
   refine l_w rfl ?_; intro K hK
   refine ow_call (first := []) (cap := []) T rfl rfl rfl rfl evf (.cons (T.ev 0 rfl) .nil) Tryd.func25 rfl rfl ?_
   refine Calls.mono (copySheet_any s9 A9 c9 _ (S9.rd M (List.Sublist.refl _)) (by omega)) ?_
   clear T
   rintro e wc ⟨ACu14, cCu14, ICu14, rfl, hclu14, N⟩
   intro ac T
   obtain ⟨bACu14, oACu14, SVCu14⟩ := hclu14.spV (pc_length _)
   have SACu14 := SVCu14 w noEx
   replace M := (M.join N).swapI
   clear N
   replace M : Mem w noEx wc ((IT ++ ICu14)) := M
   have hcpCu14 := hclu14.capLe M (List.sublist_append_right _ _)
   refine sh_out hK _ _ ?_; clear hK K
   refine l_w rfl ?_; intro K hK
   refine ow_al M T rfl rfl rfl rfl ?_; clear M T; intro g7 wc ac M T
   refine sh_out hK _ _ ?_; clear hK K
   refine l_w rfl ?_; intro K hK
   refine ow_stO M T rfl rfl (T.ev 0 rfl) (T.ev 1 rfl) rfl .head rfl (by simp) rfl (by kernel_rfl) ?_; clear M T; intro wc ac M T
   refine sh_out hK _ _ ?_; clear hK K
   refine wpList_nil ?_
   replace T := T.pick [0, 7, 8, 9, 10, 11] rfl
   refine nm_then ?_
   refine wp_seq ?_
   refine g_start2 M (M.mask [true] rfl) 15 (by kernel_rfl) rfl (by kernel_rfl) ?_
   clear M; intro wc M
   refine gq T 0 1 rfl (fun B w' hD hl hS => (rn_rowO (Mem.nth (show Mem w noEx w' _ from hS) 0 rfl) rfl (T.ev 0 rfl) rfl)) ?_; clear T ac; intro ac T
   refine gq T 1 3 rfl (fun _ _ _ _ _ => (rn_move rfl (T.ev 5 rfl))) ?_; clear T ac; intro ac T
   refine gq T 2 7 rfl (fun _ _ _ _ _ => (rn_move rfl (T.ev 7 rfl))) ?_; clear T ac; intro ac T
   refine gq T 3 15 rfl (fun _ _ _ _ _ => (rn_indexAddr (size := 1) i rfl (T.ev 1 rfl) (T.ev 0 rfl) ⟨_, Tryd.underlying27, by kernel_rfl⟩ rfl (by omega) (SQQ.at0 (by omega)))) ?_; clear T ac; intro ac T
   refine gq T 4 31 rfl (fun B w' hD hl hS => (rn_cell (Sp.ic0 SQQ (show Mem w noEx w' _ from hS) (.cons _ (subL (List.Sublist.refl _))) hkq9) rfl (T.ev 0 rfl))) ?_; clear T ac; intro ac T
   refine gq T 5 63 rfl (fun _ _ _ _ _ => (rn_move rfl (T.ev 6 rfl))) ?_; clear T ac; intro ac T
   refine gq T 6 127 rfl (fun _ _ _ _ _ => (rn_move rfl (T.ev 8 rfl))) ?_; clear T ac; intro ac T
   refine gw 7 255 ?_; intro K hK
   refine ow_call (first := []) (cap := []) T rfl rfl rfl rfl evf (.cons (T.ev 6 rfl) (.cons (T.ev 2 rfl) (.cons (T.ev 1 rfl) (.cons (T.ev 0 rfl) .nil)))) Tryd.func56 rfl rfl ?_
   refine Calls.mono (Size_any s9 ACu14 cCu14 q9 b2 b3 _ (SACu14.rd M (.cons _ (List.sublist_append_right _ _))) (by omega)) ?_
   clear T
   rintro e wc ⟨rfl, hb⟩
   intro ac T
   replace M := M.call hb; clear hb
   refine sh_out hK _ _ (M.mask [true] rfl) ?_; clear hK K
   refine gq T 8 511 rfl (fun _ _ _ _ _ => (rn_move rfl (T.ev 0 rfl))) ?_; clear T ac; intro ac T
   refine gq T 9 1023 rfl (fun _ _ _ _ _ => (rn_extract rfl (T.ev 0 rfl) rfl)) ?_; clear T ac; intro ac T
   refine gq T 10 2047 rfl (fun _ _ _ _ _ => (rn_extract rfl (T.ev 1 rfl) rfl)) ?_; clear T ac; intro ac T
   refine gq T 11 4095 rfl (fun _ _ _ _ _ => (rn_extract rfl (T.ev 2 rfl) rfl)) ?_; clear T ac; intro ac T
   refine gq T 12 8191 rfl (fun _ _ _ _ _ => (rn_assign rfl (T.ev 2 rfl))) ?_; clear T ac; intro ac T
   refine gq T 13 16383 rfl (fun _ _ _ _ _ => (rn_assign rfl (T.ev 2 rfl))) ?_; clear T ac; intro ac T
   refine gq T 14 32767 rfl (fun _ _ _ _ _ => (rn_assign rfl (T.ev 2 rfl))) ?_; clear T ac; intro ac T
   refine g_done (by kernel_rfl) ?_
   replace T := T.pick [0, 1, 2, 15, 16, 17, 18, 19, 20] rfl
   refine nm_then ?_
   refine wp_seq ?_
   refine g_start2 M (M.mask [true] rfl) 18 (by kernel_rfl) rfl (by kernel_rfl) ?_
   clear M; intro wc M
   refine gq T 0 1 rfl (fun _ _ _ _ _ => (rn_move rfl (T.ev 6 rfl))) ?_; clear T ac; intro ac T
   refine gq T 1 3 rfl (fun _ _ _ _ _ => (rn_move rfl (T.ev 9 rfl))) ?_; clear T ac; intro ac T
   refine gq T 2 7 rfl (fun _ _ _ _ _ => (rn_indexAddr (size := 7) i rfl (T.ev 1 rfl) (T.ev 0 rfl) ⟨_, Tryd.underlying42, by kernel_rfl⟩ rfl (by omega) (SSS.at0 (by omega)))) ?_; clear T ac; intro ac T
   refine gq (v := (.agg #[.int .i64 s9.lo, .int .i64 s9.wi, .int .i64 s9.a0, .int .i64 s9.a1, .int .i64 s9.c0, .int .i64 s9.c1, .slice A9 s9.ps.length c9])) T 3 15 rfl (fun B w' hD hl hS => (rn_rowat (Sp.skR SSS (show Mem w noEx w' _ from hS) (.cons _ (subL (List.Sublist.refl _))) hk9) rfl (T.ev 0 rfl) rfl)) ?_; clear T ac; intro ac T
   refine gq T 4 31 rfl (fun _ _ _ _ _ => (rn_move rfl (T.ev 11 rfl))) ?_; clear T ac; intro ac T
   refine gq T 5 63 rfl (fun _ _ _ _ _ => (rn_move rfl (T.ev 13 rfl))) ?_; clear T ac; intro ac T
   refine gq T 6 127 rfl (fun _ _ _ _ _ => (rn_indexAddr (size := 1) i rfl (T.ev 1 rfl) (T.ev 0 rfl) ⟨_, Tryd.underlying27, by kernel_rfl⟩ rfl (by omega) (SQQ.at0 (by omega)))) ?_; clear T ac; intro ac T
   refine gq T 7 255 rfl (fun B w' hD hl hS => (rn_cell (Sp.ic0 SQQ (show Mem w noEx w' _ from hS) (.cons _ (subL (List.Sublist.refl _))) hkq9) rfl (T.ev 0 rfl))) ?_; clear T ac; intro ac T
   refine gq T 8 511 rfl (fun _ _ _ _ _ => (rn_move rfl (T.ev 12 rfl))) ?_; clear T ac; intro ac T
   refine gq T 9 1023 rfl (fun _ _ _ _ _ => (rn_move rfl (T.ev 14 rfl))) ?_; clear T ac; intro ac T
   refine gw 10 2047 ?_; intro K hK
   refine ow_call (first := []) (cap := []) T rfl rfl rfl rfl evf (.cons (T.ev 6 rfl) (.cons (T.ev 2 rfl) (.cons (T.ev 1 rfl) (.cons (T.ev 0 rfl) .nil)))) Tryd.func57 rfl rfl ?_
   refine Calls.mono (Size8_any s9 A9 c9 q9 b2 b3 _ (S9.rd M (.cons _ (subL (List.Sublist.refl _)))) (by omega)) ?_
   clear T
   rintro e wc ⟨rfl, hb⟩
   intro ac T
   replace M := M.call hb; clear hb
   refine sh_out hK _ _ (M.mask [true] rfl) ?_; clear hK K
   refine gq T 11 4095 rfl (fun _ _ _ _ _ => (rn_move rfl (T.ev 0 rfl))) ?_; clear T ac; intro ac T
   refine gq T 12 8191 rfl (fun _ _ _ _ _ => (rn_extract rfl (T.ev 0 rfl) rfl)) ?_; clear T ac; intro ac T
   refine gq T 13 16383 rfl (fun _ _ _ _ _ => (rn_extract rfl (T.ev 1 rfl) rfl)) ?_; clear T ac; intro ac T
   refine gq T 14 32767 rfl (fun _ _ _ _ _ => (rn_extract rfl (T.ev 2 rfl) rfl)) ?_; clear T ac; intro ac T
   refine gq T 15 65535 rfl (fun _ _ _ _ _ => (rn_assign rfl (T.ev 2 rfl))) ?_; clear T ac; intro ac T
   refine gq T 16 131071 rfl (fun _ _ _ _ _ => (rn_assign rfl (T.ev 2 rfl))) ?_; clear T ac; intro ac T
   refine gq T 17 262143 rfl (fun _ _ _ _ _ => (rn_assign rfl (T.ev 2 rfl))) ?_; clear T ac; intro ac T
   refine g_done (by kernel_rfl) ?_
   replace T := T.pick [0, 1, 2, 18, 19, 20, 21, 22, 23, 24, 25, 26] rfl
   refine nm_then ?_
   refine wp_seq ?_
   refine wp_region_lit ?_
   refine lq T (rn_rowO (Mem.nth M 0 rfl) rfl (T.ev 6 rfl) rfl) ?_; clear T ac; intro ac T
   refine l_w rfl ?_; intro K hK
   refine ow_call (first := []) (cap := []) T rfl rfl rfl rfl evf (.cons (T.ev 0 rfl) .nil) Tryd.func58 rfl rfl ?_
   refine Calls.mono (Turn_any s9 ACu14 cCu14 _ (SACu14.rd M (.cons _ (List.sublist_append_right _ _))) (by omega)) ?_
   clear T
   rintro e wc ⟨ATu17, cTu17, IUu17, rfl, hcpTu17, SVTu17, N⟩
   intro ac T
   obtain ⟨bATu17, oATu17, SVTu17⟩ := SVTu17
   have SATu17 := SVTu17 w noEx
   replace M := (M.join N).swapI
   clear N
   replace M : Mem w noEx wc ((g7, .cells [.int .i64 s9.lo, .int .i64 s9.wi, .int .i64 s9.a0, .int .i64 s9.a1, .int .i64 s9.c0, .int .i64 s9.c1, .slice ACu14 s9.ps.length cCu14]) :: (IT ++ ICu14 ++ IUu17)) := M
   refine sh_out hK _ _ ?_; clear hK K
   refine lq T (rn_move rfl (T.ev 0 rfl)) ?_; clear T ac; intro ac T
   refine lq T (rn_extract rfl (T.ev 0 rfl) rfl) ?_; clear T ac; intro ac T
   refine lq T (rn_extract rfl (T.ev 1 rfl) rfl) ?_; clear T ac; intro ac T
   refine l_w rfl ?_; intro K hK
   refine ow_al M T rfl rfl rfl rfl ?_; clear M T; intro g8 wc ac M T
   refine sh_out hK _ _ ?_; clear hK K
   refine l_w rfl ?_; intro K hK
   refine ow_stO M T rfl rfl (T.ev 0 rfl) (T.ev 2 rfl) rfl .head rfl (by simp) rfl (by kernel_rfl) ?_; clear M T; intro wc ac M T
   refine sh_out hK _ _ ?_; clear hK K
   refine lq T (rn_assign rfl (T.ev 1 rfl)) ?_; clear T ac; intro ac T
   refine wpList_nil ?_
   replace T := T.pick [0, 1, 7, 8, 9, 10, 11, 12, 13, 14, 15, 16, 17, 18] rfl
   refine nm_then ?_
   refine wp_seq ?_
   refine wp_region_lit ?_
   refine lq T (rn_move rfl (T.ev 11 rfl)) ?_; clear T ac; intro ac T
   refine lq T (rn_move rfl (T.ev 14 rfl)) ?_; clear T ac; intro ac T
   refine lq T (rn_indexAddr (size := 7) i rfl (T.ev 1 rfl) (T.ev 0 rfl) ⟨_, Tryd.underlying42, by kernel_rfl⟩ rfl (by omega) (SSS.at0 (by omega))) ?_; clear T ac; intro ac T
   refine lq (v := (.agg #[.int .i64 s9.lo, .int .i64 s9.wi, .int .i64 s9.a0, .int .i64 s9.a1, .int .i64 s9.c0, .int .i64 s9.c1, .slice A9 s9.ps.length c9])) T (rn_rowat (Sp.skR SSS M (.cons _ (.cons _ (subL (subL (List.Sublist.refl _))))) hk9) rfl (T.ev 0 rfl) rfl) ?_; clear T ac; intro ac T
   refine l_w rfl ?_; intro K hK
   refine ow_call (first := []) (cap := []) T rfl rfl rfl rfl evf (.cons (T.ev 0 rfl) .nil) Tryd.func59 rfl rfl ?_
   refine Calls.mono (Turn8_any s9 A9 c9 _ (S9.rd M (.cons _ (.cons _ (subL (subL (List.Sublist.refl _)))))) (by omega)) ?_
   clear T
   rintro e wc ⟨ATu18, cTu18, IUu18, rfl, hcpTu18, SVTu18, N⟩
   intro ac T
   obtain ⟨bATu18, oATu18, SVTu18⟩ := SVTu18
   have SATu18 := SVTu18 w noEx
   replace M := (M.join N).swapI
   clear N
   replace M : Mem w noEx wc ((g8, .cells [.int .i64 ((trnZ s9).lo), .int .i64 ((trnZ s9).wi), .int .i64 ((trnZ s9).a0), .int .i64 ((trnZ s9).a1), .int .i64 ((trnZ s9).c0), .int .i64 ((trnZ s9).c1), .slice ATu17 ((trnZ s9).ps.length) cTu17]) :: (g7, .cells [.int .i64 s9.lo, .int .i64 s9.wi, .int .i64 s9.a0, .int .i64 s9.a1, .int .i64 s9.c0, .int .i64 s9.c1, .slice ACu14 s9.ps.length cCu14]) :: (IT ++ ICu14 ++ IUu17 ++ IUu18)) := M
   refine sh_out hK _ _ ?_; clear hK K
   refine lq T (rn_move rfl (T.ev 0 rfl)) ?_; clear T ac; intro ac T
   refine lq T (rn_extract rfl (T.ev 0 rfl) rfl) ?_; clear T ac; intro ac T
   refine lq T (rn_extract rfl (T.ev 1 rfl) rfl) ?_; clear T ac; intro ac T
   refine l_w rfl ?_; intro K hK
   refine ow_al M T rfl rfl rfl rfl ?_; clear M T; intro g9 wc ac M T
   refine sh_out hK _ _ ?_; clear hK K
   refine l_w rfl ?_; intro K hK
   refine ow_stO M T rfl rfl (T.ev 0 rfl) (T.ev 2 rfl) rfl .head rfl (by simp) rfl (by kernel_rfl) ?_; clear M T; intro wc ac M T
   refine sh_out hK _ _ ?_; clear hK K
   refine lq T (rn_assign rfl (T.ev 1 rfl)) ?_; clear T ac; intro ac T
   refine wpList_nil ?_
   replace T := T.pick [0, 1, 10, 11, 12, 13, 14, 15, 16, 17, 18, 19, 20, 21, 22, 23] rfl
   refine nm_then ?_
   refine wp_seq ?_
   refine g_start2 M (M.mask [true, true, true] rfl) 43 (by kernel_rfl) rfl (by kernel_rfl) ?_
   clear M; intro wc M
   refine gq T 0 1 rfl (fun B w' hD hl hS => (rn_rowO (Mem.nth (show Mem w noEx w' _ from hS) 2 rfl) rfl (T.ev 10 rfl) rfl)) ?_; clear T ac; intro ac T
   refine gq T 2 5 rfl (fun _ _ _ _ _ => (rn_move rfl (T.ev 14 rfl))) ?_; clear T ac; intro ac T
   refine gq T 3 13 rfl (fun _ _ _ _ _ => (rn_move rfl (T.ev 17 rfl))) ?_; clear T ac; intro ac T
   refine gq T 4 29 rfl (fun _ _ _ _ _ => (rn_indexAddr (size := 7) i rfl (T.ev 1 rfl) (T.ev 0 rfl) ⟨_, Tryd.underlying42, by kernel_rfl⟩ rfl (by omega) (SSS.at0 (by omega)))) ?_; clear T ac; intro ac T
   refine gq (v := (.agg #[.int .i64 s9.lo, .int .i64 s9.wi, .int .i64 s9.a0, .int .i64 s9.a1, .int .i64 s9.c0, .int .i64 s9.c1, .slice A9 s9.ps.length c9])) T 5 61 rfl (fun B w' hD hl hS => (rn_rowat (Sp.skR SSS (show Mem w noEx w' _ from hS) (.cons _ (.cons _ (.cons _ (subL (subL (subL (List.Sublist.refl _))))))) hk9) rfl (T.ev 0 rfl) rfl)) ?_; clear T ac; intro ac T
   refine gw 1 63 ?_; intro K hK
   refine ow_call (first := []) (cap := []) T rfl rfl rfl rfl evf (.cons (T.ev 4 rfl) .nil) Tryd.func60 rfl rfl ?_
   refine Calls.mono (skCheck_any s9 ACu14 cCu14 _ (SACu14.rd M (.cons _ (.cons _ (.cons _ (subL (subL (List.sublist_append_right _ _))))))) (by omega)) ?_
   clear T
   rintro e wc ⟨rfl, hb⟩
   intro ac T
   replace M := M.call hb; clear hb
   refine sh_out hK _ _ (M.mask [true, true, true] rfl) ?_; clear hK K
   refine g_addU M ?_
   refine gw 6 127 ?_; intro K hK
   refine ow_call (first := []) (cap := []) T rfl rfl rfl rfl evf (.cons (T.ev 1 rfl) .nil) Tryd.func61 rfl rfl ?_
   refine Calls.mono (skCheck8_any s9 A9 c9 _ (S9.rd M (.cons _ (.cons _ (.cons _ (subL (subL (subL (List.Sublist.refl _)))))))) (by omega)) ?_
   clear T
   rintro e wc ⟨rfl, hb⟩
   intro ac T
   replace M := M.call hb; clear hb
   refine sh_out hK _ _ (MA.mk (M.mask [true, true, true] rfl) (M.mask [true, true, true] rfl)) ?_; clear hK K
   refine g_addU M ?_
   refine gq (v := (.bool false)) T 7 255 rfl (fun _ _ _ _ _ => (rn_neqof (rn_neq rfl (T.ev 1 rfl) (T.ev 0 rfl)) (by simp))) ?_; clear T ac; intro ac T
   refine gq T 8 511 rfl (fun _ _ _ _ _ => (rn_move rfl (T.ev 0 rfl))) ?_; clear T ac; intro ac T
   refine g_q (T := T) (i := 9) rfl (by kernel_rfl) (by kernel_rfl : (pbits 43 511).setIfInBounds 9 true = pbits 43 1023) (si_and si_U (si_and si_U si_U)) (fun _ _ _ h => h) (wanted_yes rfl rfl (T.ev 0 rfl) rfl) rfl rfl rfl (fun _ _ _ _ _ => (rn_move rfl (T.ev 18 rfl))) ?_; clear T ac; intro ac T
   refine g_q (T := T) (i := 10) rfl (by kernel_rfl) (by kernel_rfl : (pbits 43 1023).setIfInBounds 10 true = pbits 43 2047) (si_and si_U (si_and si_U si_U)) (fun _ _ _ h => h) (wanted_yes rfl rfl (T.ev 1 rfl) rfl) rfl rfl rfl (fun _ _ _ _ _ => (rn_move rfl (T.ev 16 rfl))) ?_; clear T ac; intro ac T
   refine g_q (v := (.bool false)) (T := T) (i := 11) rfl (by kernel_rfl) (by kernel_rfl : (pbits 43 2047).setIfInBounds 11 true = pbits 43 4095) (si_and si_U (si_and si_U si_U)) (fun _ _ _ h => h) (wanted_yes rfl rfl (T.ev 2 rfl) rfl) rfl rfl rfl (fun _ _ _ _ _ => (rn_neqof (rn_neq rfl (T.ev 1 rfl) (T.ev 0 rfl)) (by simp))) ?_; clear T ac; intro ac T
   refine gq T 12 8191 rfl (fun _ _ _ _ _ => (rn_pick0 rfl (T.ev 3 rfl) rfl (T.ev 0 rfl))) ?_; clear T ac; intro ac T
   refine gq T 13 16383 rfl (fun _ _ _ _ _ => (rn_move rfl (T.ev 0 rfl))) ?_; clear T ac; intro ac T
   refine g_q (T := T) (i := 14) rfl (by kernel_rfl) (by kernel_rfl : (pbits 43 16383).setIfInBounds 14 true = pbits 43 32767) (si_and si_U (si_and si_U si_U)) (fun _ _ _ h => h) (wanted_yes rfl rfl (T.ev 0 rfl) rfl) rfl rfl rfl (fun _ _ _ _ _ => (rn_move rfl (T.ev 22 rfl))) ?_; clear T ac; intro ac T
   refine g_q (T := T) (i := 15) rfl (by kernel_rfl) (by kernel_rfl : (pbits 43 32767).setIfInBounds 15 true = pbits 43 65535) (si_and si_U (si_and si_U si_U)) (fun _ _ _ h => h) (wanted_yes rfl rfl (T.ev 1 rfl) rfl) rfl rfl rfl (fun _ _ _ _ _ => (rn_move rfl (T.ev 20 rfl))) ?_; clear T ac; intro ac T
   refine g_q (v := (.bool false)) (T := T) (i := 16) rfl (by kernel_rfl) (by kernel_rfl : (pbits 43 65535).setIfInBounds 16 true = pbits 43 131071) (si_and si_U (si_and si_U si_U)) (fun _ _ _ h => h) (wanted_yes rfl rfl (T.ev 2 rfl) rfl) rfl rfl rfl (fun _ _ _ _ _ => (rn_neqof (rn_neq rfl (T.ev 1 rfl) (T.ev 0 rfl)) (by simp))) ?_; clear T ac; intro ac T
   refine gq T 17 262143 rfl (fun _ _ _ _ _ => (rn_pick0 rfl (T.ev 3 rfl) rfl (T.ev 0 rfl))) ?_; clear T ac; intro ac T
   refine gq T 18 524287 rfl (fun _ _ _ _ _ => (rn_move rfl (T.ev 0 rfl))) ?_; clear T ac; intro ac T
   refine g_q (T := T) (i := 19) rfl (by kernel_rfl) (by kernel_rfl : (pbits 43 524287).setIfInBounds 19 true = pbits 43 1048575) (si_and si_U (si_and si_U si_U)) (fun _ _ _ h => h) (wanted_yes rfl rfl (T.ev 0 rfl) rfl) rfl rfl rfl (fun _ _ _ _ _ => (rn_move rfl (T.ev 26 rfl))) ?_; clear T ac; intro ac T
   refine g_q (T := T) (i := 20) rfl (by kernel_rfl) (by kernel_rfl : (pbits 43 1048575).setIfInBounds 20 true = pbits 43 2097151) (si_and si_U (si_and si_U si_U)) (fun _ _ _ h => h) (wanted_yes rfl rfl (T.ev 1 rfl) rfl) rfl rfl rfl (fun _ _ _ _ _ => (rn_move rfl (T.ev 24 rfl))) ?_; clear T ac; intro ac T
   refine g_q (v := (.bool false)) (T := T) (i := 21) rfl (by kernel_rfl) (by kernel_rfl : (pbits 43 2097151).setIfInBounds 21 true = pbits 43 4194303) (si_and si_U (si_and si_U si_U)) (fun _ _ _ h => h) (wanted_yes rfl rfl (T.ev 2 rfl) rfl) rfl rfl rfl (fun _ _ _ _ _ => (rn_neqof (rn_neq rfl (T.ev 1 rfl) (T.ev 0 rfl)) (by simp))) ?_; clear T ac; intro ac T
   refine gq T 22 8388607 rfl (fun _ _ _ _ _ => (rn_pick0 rfl (T.ev 3 rfl) rfl (T.ev 0 rfl))) ?_; clear T ac; intro ac T
   refine gq T 23 16777215 rfl (fun _ _ _ _ _ => (rn_move rfl (T.ev 0 rfl))) ?_; clear T ac; intro ac T
   refine g_q (T := T) (i := 24) rfl (by kernel_rfl) (by kernel_rfl : (pbits 43 16777215).setIfInBounds 24 true = pbits 43 33554431) (si_and si_U (si_and si_U si_U)) (fun _ _ _ h => h) (wanted_yes rfl rfl (T.ev 0 rfl) rfl) rfl rfl rfl (fun _ _ _ _ _ => (rn_move rfl (T.ev 26 rfl))) ?_; clear T ac; intro ac T
   refine g_q (T := T) (i := 25) rfl (by kernel_rfl) (by kernel_rfl : (pbits 43 33554431).setIfInBounds 25 true = pbits 43 67108863) (si_and si_U (si_and si_U si_U)) (fun _ _ _ h => h) (wanted_yes rfl rfl (T.ev 1 rfl) rfl) rfl rfl rfl (fun _ _ _ _ _ => (rn_move rfl (T.ev 25 rfl))) ?_; clear T ac; intro ac T
   refine g_q (v := (.bool false)) (T := T) (i := 26) rfl (by kernel_rfl) (by kernel_rfl : (pbits 43 67108863).setIfInBounds 26 true = pbits 43 134217727) (si_and si_U (si_and si_U si_U)) (fun _ _ _ h => h) (wanted_yes rfl rfl (T.ev 2 rfl) rfl) rfl rfl rfl (fun _ _ _ _ _ => (rn_neqof (rn_neq rfl (T.ev 1 rfl) (T.ev 0 rfl)) (by simp))) ?_; clear T ac; intro ac T
   refine gq T 27 268435455 rfl (fun _ _ _ _ _ => (rn_pick0 rfl (T.ev 3 rfl) rfl (T.ev 0 rfl))) ?_; clear T ac; intro ac T
   refine gq T 28 536870911 rfl (fun _ _ _ _ _ => (rn_move rfl (T.ev 0 rfl))) ?_; clear T ac; intro ac T
   refine g_q (T := T) (i := 29) rfl (by kernel_rfl) (by kernel_rfl : (pbits 43 536870911).setIfInBounds 29 true = pbits 43 1073741823) (si_and si_U (si_and si_U si_U)) (fun _ _ _ h => h) (wanted_yes rfl rfl (T.ev 0 rfl) rfl) rfl rfl rfl (fun B w' hD hl hS => (rn_rowO (Mem.nth (show Mem w noEx w' _ from (MA.lft hS)) 1 rfl) rfl (T.ev 32 rfl) rfl)) ?_; clear T ac; intro ac T
   refine g_q (T := T) (i := 30) rfl (by kernel_rfl) (by kernel_rfl : (pbits 43 1073741823).setIfInBounds 30 true = pbits 43 2147483647) (si_and si_U (si_and si_U si_U)) (fun _ _ _ h => h) (wanted_yes rfl rfl (T.ev 1 rfl) rfl) rfl rfl rfl (fun B w' hD hl hS => (rn_rowO (Mem.nth (show Mem w noEx w' _ from (MA.lft hS)) 0 rfl) rfl (T.ev 31 rfl) rfl)) ?_; clear T ac; intro ac T
   refine g_w (i := 31) (by kernel_rfl) rfl (by kernel_rfl : (pbits 43 2147483647).setIfInBounds 31 true = pbits 43 4294967295) (wanted_yes rfl rfl (T.ev 2 rfl) rfl) ?_; intro K hK
   refine ow_call (first := []) (cap := []) T rfl rfl rfl rfl evf (.cons (T.ev 1 rfl) (.cons (T.ev 0 rfl) .nil)) Tryd.func29 rfl rfl ?_
   refine Calls.mono (sameSheets_any (trnZ s9) ATu17 cTu17 (trnZ s9) ATu18 cTu18 _ (SATu17.rd M (.cons _ (.cons _ (.cons _ (subL (List.sublist_append_right _ _)))))) (SATu18.rd M (.cons _ (.cons _ (.cons _ (List.sublist_append_right _ _))))) (by omega) (by omega)) ?_
   clear T
   rintro e wc ⟨rfl, hb⟩
   intro ac T
   replace M := M.call hb; clear hb
   rw [decide_eq_true (@rfl Sk (trnZ s9))] at T
   refine sh_out hK _ _ (MA.mk (M.mask [true, true, true] rfl) (MA.mk (M.mask [true, true, true] rfl) (M.mask [true, true, true] rfl))) ?_; clear hK K
   refine g_addU M ?_
   refine g_q (v := (.bool false)) (T := T) (i := 32) rfl (by kernel_rfl) (by kernel_rfl : (pbits 43 4294967295).setIfInBounds 32 true = pbits 43 8589934591) (si_and si_U (si_and si_U (si_and si_U si_U))) (fun _ _ _ h => h) (wanted_yes rfl rfl (T.ev 3 rfl) rfl) rfl rfl rfl (fun _ _ _ _ _ => (rn_neqof (rn_not rfl (T.ev 0 rfl)) (by simp))) ?_; clear T ac; intro ac T
   refine gq T 33 17179869183 rfl (fun _ _ _ _ _ => (rn_pick0 rfl (T.ev 4 rfl) rfl (T.ev 0 rfl))) ?_; clear T ac; intro ac T
   refine gq T 34 34359738367 rfl (fun _ _ _ _ _ => (rn_move rfl (T.ev 0 rfl))) ?_; clear T ac; intro ac T
   refine g_q (T := T) (i := 35) rfl (by kernel_rfl) (by kernel_rfl : (pbits 43 34359738367).setIfInBounds 35 true = pbits 43 68719476735) (si_and si_U (si_and si_U (si_and si_U si_U))) (fun _ _ _ h => h) (wanted_yes rfl rfl (T.ev 0 rfl) rfl) rfl rfl rfl (fun B w' hD hl hS => (rn_rowO (Mem.nth (show Mem w noEx w' _ from (MA.lft hS)) 2 rfl) rfl (T.ev 45 rfl) rfl)) ?_; clear T ac; intro ac T
   refine g_q (T := T) (i := 36) rfl (by kernel_rfl) (by kernel_rfl : (pbits 43 68719476735).setIfInBounds 36 true = pbits 43 137438953471) (si_and si_U (si_and si_U (si_and si_U si_U))) (fun _ _ _ h => h) (wanted_yes rfl rfl (T.ev 1 rfl) rfl) rfl rfl rfl (fun _ _ _ _ _ => (rn_move rfl (T.ev 49 rfl))) ?_; clear T ac; intro ac T
   refine g_q (T := T) (i := 37) rfl (by kernel_rfl) (by kernel_rfl : (pbits 43 137438953471).setIfInBounds 37 true = pbits 43 274877906943) (si_and si_U (si_and si_U (si_and si_U si_U))) (fun _ _ _ h => h) (wanted_yes rfl rfl (T.ev 2 rfl) rfl) rfl rfl rfl (fun _ _ _ _ _ => (rn_move rfl (T.ev 52 rfl))) ?_; clear T ac; intro ac T
   refine g_q (T := T) (i := 38) rfl (by kernel_rfl) (by kernel_rfl : (pbits 43 274877906943).setIfInBounds 38 true = pbits 43 549755813887) (si_and si_U (si_and si_U (si_and si_U si_U))) (fun _ _ _ h => h) (wanted_yes rfl rfl (T.ev 3 rfl) rfl) rfl rfl rfl (fun _ _ _ _ _ => (rn_indexAddr (size := 7) i rfl (T.ev 1 rfl) (T.ev 0 rfl) ⟨_, Tryd.underlying42, by kernel_rfl⟩ rfl (by omega) (SSS.at0 (by omega)))) ?_; clear T ac; intro ac T
   refine g_q (v := (.agg #[.int .i64 s9.lo, .int .i64 s9.wi, .int .i64 s9.a0, .int .i64 s9.a1, .int .i64 s9.c0, .int .i64 s9.c1, .slice A9 s9.ps.length c9])) (T := T) (i := 39) rfl (by kernel_rfl) (by kernel_rfl : (pbits 43 549755813887).setIfInBounds 39 true = pbits 43 1099511627775) (si_and si_U (si_and si_U (si_and si_U si_U))) (fun _ _ _ h => h) (wanted_yes rfl rfl (T.ev 4 rfl) rfl) rfl rfl rfl (fun B w' hD hl hS => (rn_rowat (Sp.skR SSS (show Mem w noEx w' _ from (MA.lft hS)) (.cons _ (.cons _ (.cons _ (subL (subL (subL (List.Sublist.refl _))))))) hk9) rfl (T.ev 0 rfl) rfl)) ?_; clear T ac; intro ac T
   refine g_w (i := 40) (by kernel_rfl) rfl (by kernel_rfl : (pbits 43 1099511627775).setIfInBounds 40 true = pbits 43 2199023255551) (wanted_yes rfl rfl (T.ev 5 rfl) rfl) ?_; intro K hK
   refine ow_call (first := []) (cap := []) T rfl rfl rfl rfl evf (.cons (T.ev 4 rfl) (.cons (T.ev 0 rfl) .nil)) Tryd.func29 rfl rfl ?_
   refine Calls.mono (sameSheets_any s9 ACu14 cCu14 s9 A9 c9 _ (SACu14.rd M (.cons _ (.cons _ (.cons _ (subL (subL (List.sublist_append_right _ _))))))) (S9.rd M (.cons _ (.cons _ (.cons _ (subL (subL (subL (List.Sublist.refl _)))))))) (by omega) (by omega)) ?_
   clear T
   rintro e wc ⟨rfl, hb⟩
   intro ac T
   replace M := M.call hb; clear hb
   rw [decide_eq_true (@rfl Sk s9)] at T
   refine sh_out hK _ _ (MA.mk (M.mask [true, true, true] rfl) (MA.mk (M.mask [true, true, true] rfl) (MA.mk (M.mask [true, true, true] rfl) (M.mask [true, true, true] rfl)))) ?_; clear hK K
   refine g_q (v := (.bool false)) (T := T) (i := 41) rfl (by kernel_rfl) (by kernel_rfl : (pbits 43 2199023255551).setIfInBounds 41 true = pbits 43 4398046511103) (si_and si_U (si_and si_U (si_and si_U si_U))) (fun _ _ _ h => h) (wanted_yes rfl rfl (T.ev 6 rfl) rfl) rfl rfl rfl (fun _ _ _ _ _ => (rn_neqof (rn_not rfl (T.ev 0 rfl)) (by simp))) ?_; clear T ac; intro ac T
   refine gq T 42 8796093022207 rfl (fun _ _ _ _ _ => (rn_pick0 rfl (T.ev 7 rfl) rfl (T.ev 0 rfl))) ?_; clear T ac; intro ac T
   refine g_done (by kernel_rfl) ?_
   replace T := T.pick [0, 1, 2, 3, 4, 5, 6, 7, 10, 11, 12, 13, 16, 17, 18, 21, 22, 23, 26, 27, 28, 31, 32, 33, 54, 55, 56, 57, 58] rfl
   replace M := M.mask [false, false, false] rfl
   replace M : Mem w noEx wc ((IT ++ ICu14 ++ IUu17 ++ IUu18)) := M
   refine nm_then ?_
   refine wp_cond_false (T.ev 0 rfl) ?_
   refine wp_skip ?_
   refine nm_blk ?_
   refine nm_then ?_
   refine wp_region_lit ?_
   refine lq T (rn_move rfl (T.ev 28 rfl)) ?_; clear T ac; intro ac T
   refine lq T (rn_add rfl (T.ev 0 rfl) evc (by omega)) ?_; clear T ac; intro ac T
   refine l_q (v := (.int .i64 ((i : Int) + 1))) (T.pick [0, 1, 2, 3, 4, 5, 6, 7, 8, 9, 10, 11, 12, 13, 14, 15, 16, 17, 18, 19, 20, 21, 22, 23, 24, 25, 26, 27, 28, 29] rfl) rfl rfl rfl rfl (rn_assign rfl (T.ev 0 rfl)) ?_; clear T ac; intro ac T
   refine wpList_nil ?_
   replace T := T.pick [0, 4, 5, 6, 7, 8, 9, 10, 11, 12, 13, 14, 15, 16, 17, 18, 19, 20, 21, 22, 23, 24, 25, 26, 27, 28, 29, 30] rfl
   refine nm_then ?_
   exact ⟨_, by omega, i + 1, rfl, (by omega), T.pick [24, 25, 26, 27, 0] rfl, (M.sub (subL (subL (subL (List.Sublist.refl _)))))⟩
  intro h3
  refine wp_exit ?_
  refine ex_then ?_
  refine ex_then ?_
  refine ex_hit ?_
  refine nm_then ?_
  refine wp_seq ?_
  refine wp_region_lit ?_
  refine l_w rfl ?_; intro K hK
  refine ow_call (first := []) (cap := []) T rfl rfl rfl rfl evf .nil Tryd.func17 rfl rfl ?_
  refine Calls.mono (sawn8_any _ (hT.mem M (fun h => h))) ?_
  clear T
  rintro e wc ⟨rfl, hb⟩
  intro ac T
  replace M := M.call hb; clear hb
  refine sh_out hK _ _ ?_; clear hK K
  refine lq T (rn_assign rfl (T.ev 0 rfl)) ?_; clear T ac; intro ac T
  refine wpList_nil ?_
  replace T := T.pick [0] rfl
  refine nm_then ?_
  refine wp_ret ?_
  refine rt_1 T rfl (T.ev 0 rfl) ?_
  exact ⟨ret_bool (by simp_all), M.below⟩
 refine gi 524223 ?_; intro K hK
 refine ow_bs (e := 3) [.int .i64 x1, .int .i64 xur5_13, .int .i64 ((s.ps.length : Nat) : Int), .int .i64 x1] M T rfl rfl rfl rfl (.cons (T.ev 11 rfl) (.cons (T.ev 0 rfl) (.cons (T.ev 3 rfl) (.cons (T.ev 2 rfl) .nil)))) (fun _ => by kernel_rfl) ?_; clear M T; intro gr5_18 wc ac M T
 refine sh_out hK _ _ (MA.mk (fun h => (no_of (by kernel_rfl) h).elim) ((M.mask [false, true, false, true, true] rfl).sub (List.Sublist.cons_cons _ (List.Sublist.cons_cons _ (List.Sublist.cons_cons _ (List.sublist_append_left _ _)))))) ?_; clear hK K
 refine gw 6 524287 ?_; intro K hK
 refine ow_bs (e := 26) [.int .i64 s0.lo, .int .i64 s0.wi, .int .i64 s0.a0, .int .i64 s0.a1, .int .i64 s0.c0, .int .i64 s0.c1, .slice A0 s0.ps.length c0, .int .i64 s.lo, .int .i64 s.wi, .int .i64 s.a0, .int .i64 s.a1, .int .i64 s.c0, .int .i64 s.c1, .slice AKu3 s.ps.length cKu3, .int .i64 ((skA s pt4 1).lo), .int .i64 ((skA s pt4 1).wi), .int .i64 ((skA s pt4 1).a0), .int .i64 ((skA s pt4 1).a1), .int .i64 ((skA s pt4 1).c0), .int .i64 ((skA s pt4 1).c1), .slice AOur5_4 ((skA s pt4 1).ps.length) cOur5_4, .int .i64 s.lo, .int .i64 s.wi, .int .i64 s.a0, .int .i64 s.a1, .int .i64 s.c0, .int .i64 s.c1, .slice AKu3 s.ps.length cKu3] M T rfl rfl rfl rfl (.cons (T.ev 17 rfl) (.cons (T.ev 16 rfl) (.cons (T.ev 2 rfl) (.cons (T.ev 13 rfl) .nil)))) (fun _ => by kernel_rfl) ?_; clear M T; intro gr5_6 wc ac M T
 refine sh_out hK _ _ (MA.mk (fun h => (no_of (by kernel_rfl) h).elim) ((M.mask [false, false, true, false, true, true] rfl).sub (List.Sublist.cons_cons _ (List.Sublist.cons_cons _ (List.Sublist.cons_cons _ (List.sublist_append_left _ _)))))) ?_; clear hK K
 refine gq T 19 1048575 rfl (fun _ _ _ _ _ => (rn_assign rfl (T.ev 0 rfl))) ?_; clear T ac; intro ac T
 refine gq T 20 2097151 rfl (fun _ _ _ _ _ => (rn_assign rfl (T.ev 2 rfl))) ?_; clear T ac; intro ac T
 refine g_done (by kernel_rfl) ?_
 replace T := T.pick [0, 1, 26, 27] rfl
 replace M := M.mask [true, true, false, false, false, false] rfl
 refine nm_then ?_
 refine wp_seq ?_
 refine wp_seq ?_
 refine wp_region_lit ?_
 refine lq T (rn_assign rfl evc) ?_; clear T ac; intro ac T
 refine wpList_nil ?_
 refine nm_then ?_
 refine wp_block ?_
 obtain ⟨IT, hIT⟩ : ∃ IT : List (Nat × BA), IT = ((gr5_6, .cells [.int .i64 s0.lo, .int .i64 s0.wi, .int .i64 s0.a0, .int .i64 s0.a1, .int .i64 s0.c0, .int .i64 s0.c1, .slice A0 s0.ps.length c0, .int .i64 s.lo, .int .i64 s.wi, .int .i64 s.a0, .int .i64 s.a1, .int .i64 s.c0, .int .i64 s.c1, .slice AKu3 s.ps.length cKu3, .int .i64 ((skA s pt4 1).lo), .int .i64 ((skA s pt4 1).wi), .int .i64 ((skA s pt4 1).a0), .int .i64 ((skA s pt4 1).a1), .int .i64 ((skA s pt4 1).c0), .int .i64 ((skA s pt4 1).c1), .slice AOur5_4 ((skA s pt4 1).ps.length) cOur5_4, .int .i64 s.lo, .int .i64 s.wi, .int .i64 s.a0, .int .i64 s.a1, .int .i64 s.c0, .int .i64 s.c1, .slice AKu3 s.ps.length cKu3]) :: (gr5_18, .cells [.int .i64 x1, .int .i64 xur5_13, .int .i64 ((s.ps.length : Nat) : Int), .int .i64 x1]) :: (IKu3 ++ IOur5_4)) := ⟨_, rfl⟩
 have S0 : Sp w noEx IT (some ⟨gr5_6, 0, none⟩) 4 7 gr5_6 0 (sk [(s0, A0, c0), (s, AKu3, cKu3), ((skA s pt4 1), AOur5_4, cOur5_4), (s, AKu3, cKu3)]) := (Sp.cells (w := w) (ex := noEx) (g := gr5_6) (xs := sk [(s0, A0, c0), (s, AKu3, cKu3), ((skA s pt4 1), AOur5_4, cOur5_4), (s, AKu3, cKu3)]) (n := 4) (size := 7) (by rfl)).mono (by rw [hIT]; exact (List.Sublist.cons_cons _ (List.nil_sublist _)))
 have E0 : ∀ x ∈ ([(s0, A0, c0), (s, AKu3, cKu3), ((skA s pt4 1), AOur5_4, cOur5_4), (s, AKu3, cKu3)] : List SE), x.1.ps.length ≤ 20 ∧ x.1.ps.length ≤ x.1.ps.length ∧ ∃ b o, Sp w noEx IT x.2.1 x.1.ps.length 4 b o (pc x.1.ps) := by
   intro x hx
   simp only [List.mem_cons, List.not_mem_nil, or_false] at hx
   rcases hx with rfl | rfl | rfl | rfl
   · exact ⟨by first | omega | (dsimp only; omega) | (simp only [skA, skP, List.length_append, List.length_replicate]; omega), Nat.le_refl _, _, _, SA0.mono (by rw [hIT]; exact (List.nil_sublist _))⟩
   · exact ⟨by first | omega | (dsimp only; omega) | (simp only [skA, skP, List.length_append, List.length_replicate]; omega), Nat.le_refl _, _, _, SAKu3.mono (by rw [hIT]; exact (.cons _ (.cons _ (subL (List.Sublist.refl _)))))⟩
   · exact ⟨by first | omega | (dsimp only; omega) | (simp only [skA, skP, List.length_append, List.length_replicate]; omega), Nat.le_refl _, _, _, SAOur5_4.mono (by rw [hIT]; exact (.cons _ (.cons _ (List.sublist_append_right _ _))))⟩
   · exact ⟨by first | omega | (dsimp only; omega) | (simp only [skA, skP, List.length_append, List.length_replicate]; omega), Nat.le_refl _, _, _, SAKu3.mono (by rw [hIT]; exact (.cons _ (.cons _ (subL (List.Sublist.refl _)))))⟩
 obtain ⟨SS, hSS, SSS, ESS⟩ : ∃ SS : List SE, SS.length = 4 ∧ Sp w noEx IT (some ⟨gr5_6, 0, none⟩) 4 7 gr5_6 0 (sk SS) ∧ ∀ x ∈ SS, x.1.ps.length ≤ 20 ∧ x.1.ps.length ≤ x.1.ps.length ∧ ∃ b o, Sp w noEx IT x.2.1 x.1.ps.length 4 b o (pc x.1.ps) := ⟨_, rfl, S0, E0⟩
 clear S0 E0
 obtain ⟨QQ, hQQ, SQQ⟩ : ∃ QQ : List Int, QQ.length = 4 ∧ Sp w noEx IT (some ⟨gr5_18, 0, none⟩) 4 1 gr5_18 0 (ic QQ) := ⟨([x1, xur5_13, ((s.ps.length : Nat) : Int), x1] : List Int), rfl, (Sp.cells (w := w) (ex := noEx) (g := gr5_18) (xs := ic [x1, xur5_13, ((s.ps.length : Nat) : Int), x1]) (n := 4) (size := 1) (by rfl)).mono (by rw [hIT]; exact (.cons _ (List.Sublist.cons_cons _ (List.nil_sublist _))))⟩
 replace M : Mem w noEx wc IT := by rw [hIT]; exact M
 clear hIT
 refine wp_loop_n (fun mz ac wc => ∃ (i : Nat), mz = 4 - i ∧ (i ≤ 4) ∧ Tm ac 152 [(2, .bool b2), (3, .bool b3), (15, .slice (some ⟨gr5_6, 0, none⟩) 4 4), (16, .slice (some ⟨gr5_18, 0, none⟩) 4 4), (17, .int .i64 (i : Int))] ∧ Mem w noEx wc (IT)) ?_ ?_
 ·exact ⟨_, 0, rfl, (Nat.zero_le _), T.pick [3, 4, 2, 1, 0] rfl, M⟩
 clear T M
 rintro mz ac wc ⟨i, hmm1, hi, T, M⟩
 refine wp_seq ?_
 refine wp_seq ?_
 refine wp_region_lit ?_
 refine lq T (rn_move rfl (T.ev 4 rfl)) ?_; clear T ac; intro ac T
 refine lq T (rn_move rfl (T.ev 3 rfl)) ?_; clear T ac; intro ac T
 refine lq (v := (.int .i64 4)) T (rn_lenS rfl Tryd.underlying42 (T.ev 0 rfl)) ?_; clear T ac; intro ac T
 refine lq T (rn_lss rfl (T.ev 2 rfl) (T.ev 0 rfl)) ?_; clear T ac; intro ac T
 refine wpList_nil ?_
 replace T := T.pick [0, 4, 5, 6, 7, 8] rfl
 refine nm_then ?_
 refine wp_if (T.ev 0 rfl) ?_ ?_
 ·intro h4
  obtain ⟨⟨s9, A9, c9⟩, hk9⟩ : ∃ x, SS[i]? = some x := ⟨_, List.getElem?_eq_getElem (by omega)⟩
  obtain ⟨hf9, -, b9, o9, S9⟩ := ESS _ (List.mem_of_getElem? hk9)
  replace hf9 : s9.ps.length ≤ 20 := hf9
  replace S9 : Sp w noEx IT A9 s9.ps.length 4 b9 o9 (pc s9.ps) := S9
  obtain ⟨q9, hkq9, -⟩ := ic_next (l := QQ) (k := i) (by omega)
  have htz := trnZ_len s9
  refine wp_skip ?_
  refine nm_then ?_
  refine wp_seq ?_
  refine wp_block ?_
  refine wp_seq ?_
  refine wp_region_lit ?_
  refine lq T (rn_move rfl (T.ev 3 rfl)) ?_; clear T ac; intro ac T
  refine lq T (rn_move rfl (T.ev 6 rfl)) ?_; clear T ac; intro ac T
  refine lq T (rn_indexAddr (size := 7) i rfl (T.ev 1 rfl) (T.ev 0 rfl) ⟨_, Tryd.underlying42, by kernel_rfl⟩ rfl (by omega) (SSS.at0 (by omega))) ?_; clear T ac; intro ac T
  refine lq (v := (.agg #[.int .i64 s9.lo, .int .i64 s9.wi, .int .i64 s9.a0, .int .i64 s9.a1, .int .i64 s9.c0, .int .i64 s9.c1, .slice A9 s9.ps.length c9])) T (rn_rowat (Sp.skR SSS M (List.Sublist.refl _) hk9) rfl (T.ev 0 rfl) rfl) ?_; clear T ac; intro ac T
  refine l_w rfl ?_; intro K hK
  refine ow_call (first := []) (cap := []) T rfl rfl rfl rfl evf (.cons (T.ev 0 rfl) .nil) Tryd.func25 rfl rfl ?_
  refine Calls.mono (copySheet_any s9 A9 c9 _ (S9.rd M (List.Sublist.refl _)) (by omega)) ?_
  clear T
  rintro e wc ⟨ACu24, cCu24, ICu24, rfl, hclu24, N⟩
  intro ac T
  obtain ⟨bACu24, oACu24, SVCu24⟩ := hclu24.spV (pc_length _)
  have SACu24 := SVCu24 w noEx
  replace M := (M.join N).swapI
  clear N
  replace M : Mem w noEx wc ((IT ++ ICu24)) := M
  have hcpCu24 := hclu24.capLe M (List.sublist_append_right _ _)
  refine sh_out hK _ _ ?_; clear hK K
  refine l_w rfl ?_; intro K hK
  refine ow_al M T rfl rfl rfl rfl ?_; clear M T; intro g10 wc ac M T
  refine sh_out hK _ _ ?_; clear hK K
  refine l_w rfl ?_; intro K hK
  refine ow_stO M T rfl rfl (T.ev 0 rfl) (T.ev 1 rfl) rfl .head rfl (by simp) rfl (by kernel_rfl) ?_; clear M T; intro wc ac M T
  refine sh_out hK _ _ ?_; clear hK K
  refine wpList_nil ?_
  replace T := T.pick [0, 7, 8, 9, 10, 11] rfl
  refine nm_then ?_
  refine wp_seq ?_
  refine g_start2 M (M.mask [true] rfl) 15 (by kernel_rfl) rfl (by kernel_rfl) ?_
  clear M; intro wc M
  refine gq T 0 1 rfl (fun B w' hD hl hS => (rn_rowO (Mem.nth (show Mem w noEx w' _ from hS) 0 rfl) rfl (T.ev 0 rfl) rfl)) ?_; clear T ac; intro ac T
  refine gq T 1 3 rfl (fun _ _ _ _ _ => (rn_move rfl (T.ev 5 rfl))) ?_; clear T ac; intro ac T
  refine gq T 2 7 rfl (fun _ _ _ _ _ => (rn_move rfl (T.ev 7 rfl))) ?_; clear T ac; intro ac T
  refine gq T 3 15 rfl (fun _ _ _ _ _ => (rn_indexAddr (size := 1) i rfl (T.ev 1 rfl) (T.ev 0 rfl) ⟨_, Tryd.underlying27, by kernel_rfl⟩ rfl (by omega) (SQQ.at0 (by omega)))) ?_; clear T ac; intro ac T
  refine gq T 4 31 rfl (fun B w' hD hl hS => (rn_cell (Sp.ic0 SQQ (show Mem w noEx w' _ from hS) (.cons _ (subL (List.Sublist.refl _))) hkq9) rfl (T.ev 0 rfl))) ?_; clear T ac; intro ac T
  refine gq T 5 63 rfl (fun _ _ _ _ _ => (rn_move rfl (T.ev 6 rfl))) ?_; clear T ac; intro ac T
  refine gq T 6 127 rfl (fun _ _ _ _ _ => (rn_move rfl (T.ev 8 rfl))) ?_; clear T ac; intro ac T
  refine gw 7 255 ?_; intro K hK
  refine ow_call (first := []) (cap := []) T rfl rfl rfl rfl evf (.cons (T.ev 6 rfl) (.cons (T.ev 2 rfl) (.cons (T.ev 1 rfl) (.cons (T.ev 0 rfl) .nil)))) Tryd.func56 rfl rfl ?_
  refine Calls.mono (Size_any s9 ACu24 cCu24 q9 b2 b3 _ (SACu24.rd M (.cons _ (List.sublist_append_right _ _))) (by omega)) ?_
  clear T
  rintro e wc ⟨rfl, hb⟩
  intro ac T
  replace M := M.call hb; clear hb
  refine sh_out hK _ _ (M.mask [true] rfl) ?_; clear hK K
  refine gq T 8 511 rfl (fun _ _ _ _ _ => (rn_move rfl (T.ev 0 rfl))) ?_; clear T ac; intro ac T
  refine gq T 9 1023 rfl (fun _ _ _ _ _ => (rn_extract rfl (T.ev 0 rfl) rfl)) ?_; clear T ac; intro ac T
  refine gq T 10 2047 rfl (fun _ _ _ _ _ => (rn_extract rfl (T.ev 1 rfl) rfl)) ?_; clear T ac; intro ac T
  refine gq T 11 4095 rfl (fun _ _ _ _ _ => (rn_extract rfl (T.ev 2 rfl) rfl)) ?_; clear T ac; intro ac T
  refine gq T 12 8191 rfl (fun _ _ _ _ _ => (rn_assign rfl (T.ev 2 rfl))) ?_; clear T ac; intro ac T
  refine gq T 13 16383 rfl (fun _ _ _ _ _ => (rn_assign rfl (T.ev 2 rfl))) ?_; clear T ac; intro ac T
  refine gq T 14 32767 rfl (fun _ _ _ _ _ => (rn_assign rfl (T.ev 2 rfl))) ?_; clear T ac; intro ac T
  refine g_done (by kernel_rfl) ?_
  replace T := T.pick [0, 1, 2, 15, 16, 17, 18, 19, 20] rfl
  refine nm_then ?_
  refine wp_seq ?_
  refine g_start2 M (M.mask [true] rfl) 18 (by kernel_rfl) rfl (by kernel_rfl) ?_
  clear M; intro wc M
  refine gq T 0 1 rfl (fun _ _ _ _ _ => (rn_move rfl (T.ev 6 rfl))) ?_; clear T ac; intro ac T
  refine gq T 1 3 rfl (fun _ _ _ _ _ => (rn_move rfl (T.ev 9 rfl))) ?_; clear T ac; intro ac T
  refine gq T 2 7 rfl (fun _ _ _ _ _ => (rn_indexAddr (size := 7) i rfl (T.ev 1 rfl) (T.ev 0 rfl) ⟨_, Tryd.underlying42, by kernel_rfl⟩ rfl (by omega) (SSS.at0 (by omega)))) ?_; clear T ac; intro ac T
  refine gq (v := (.agg #[.int .i64 s9.lo, .int .i64 s9.wi, .int .i64 s9.a0, .int .i64 s9.a1, .int .i64 s9.c0, .int .i64 s9.c1, .slice A9 s9.ps.length c9])) T 3 15 rfl (fun B w' hD hl hS => (rn_rowat (Sp.skR SSS (show Mem w noEx w' _ from hS) (.cons _ (subL (List.Sublist.refl _))) hk9) rfl (T.ev 0 rfl) rfl)) ?_; clear T ac; intro ac T
  refine gq T 4 31 rfl (fun _ _ _ _ _ => (rn_move rfl (T.ev 11 rfl))) ?_; clear T ac; intro ac T
  refine gq T 5 63 rfl (fun _ _ _ _ _ => (rn_move rfl (T.ev 13 rfl))) ?_; clear T ac; intro ac T
  refine gq T 6 127 rfl (fun _ _ _ _ _ => (rn_indexAddr (size := 1) i rfl (T.ev 1 rfl) (T.ev 0 rfl) ⟨_, Tryd.underlying27, by kernel_rfl⟩ rfl (by omega) (SQQ.at0 (by omega)))) ?_; clear T ac; intro ac T
  refine gq T 7 255 rfl (fun B w' hD hl hS => (rn_cell (Sp.ic0 SQQ (show Mem w noEx w' _ from hS) (.cons _ (subL (List.Sublist.refl _))) hkq9) rfl (T.ev 0 rfl))) ?_; clear T ac; intro ac T
  refine gq T 8 511 rfl (fun _ _ _ _ _ => (rn_move rfl (T.ev 12 rfl))) ?_; clear T ac; intro ac T
  refine gq T 9 1023 rfl (fun _ _ _ _ _ => (rn_move rfl (T.ev 14 rfl))) ?_; clear T ac; intro ac T
  refine gw 10 2047 ?_; intro K hK
  refine ow_call (first := []) (cap := []) T rfl rfl rfl rfl evf (.cons (T.ev 6 rfl) (.cons (T.ev 2 rfl) (.cons (T.ev 1 rfl) (.cons (T.ev 0 rfl) .nil)))) Tryd.func57 rfl rfl ?_
  refine Calls.mono (Size8_any s9 A9 c9 q9 b2 b3 _ (S9.rd M (.cons _ (subL (List.Sublist.refl _)))) (by omega)) ?_
  clear T
  rintro e wc ⟨rfl, hb⟩
  intro ac T
  replace M := M.call hb; clear hb
  refine sh_out hK _ _ (M.mask [true] rfl) ?_; clear hK K
  refine gq T 11 4095 rfl (fun _ _ _ _ _ => (rn_move rfl (T.ev 0 rfl))) ?_; clear T ac; intro ac T
  refine gq T 12 8191 rfl (fun _ _ _ _ _ => (rn_extract rfl (T.ev 0 rfl) rfl)) ?_; clear T ac; intro ac T
  refine gq T 13 16383 rfl (fun _ _ _ _ _ => (rn_extract rfl (T.ev 1 rfl) rfl)) ?_; clear T ac; intro ac T
  refine gq T 14 32767 rfl (fun _ _ _ _ _ => (rn_extract rfl (T.ev 2 rfl) rfl)) ?_; clear T ac; intro ac T
  refine gq T 15 65535 rfl (fun _ _ _ _ _ => (rn_assign rfl (T.ev 2 rfl))) ?_; clear T ac; intro ac T
  refine gq T 16 131071 rfl (fun _ _ _ _ _ => (rn_assign rfl (T.ev 2 rfl))) ?_; clear T ac; intro ac T
  refine gq T 17 262143 rfl (fun _ _ _ _ _ => (rn_assign rfl (T.ev 2 rfl))) ?_; clear T ac; intro ac T
  refine g_done (by kernel_rfl) ?_
  replace T := T.pick [0, 1, 2, 18, 19, 20, 21, 22, 23, 24, 25, 26] rfl
  refine nm_then ?_
  refine wp_seq ?_
  refine wp_region_lit ?_
  refine lq T (rn_rowO (Mem.nth M 0 rfl) rfl (T.ev 6 rfl) rfl) ?_; clear T ac; intro ac T
  refine l_w rfl ?_; intro K hK
  refine ow_call (first := []) (cap := []) T rfl rfl rfl rfl evf (.cons (T.ev 0 rfl) .nil) Tryd.func58 rfl rfl ?_
  refine Calls.mono (Turn_any s9 ACu24 cCu24 _ (SACu24.rd M (.cons _ (List.sublist_append_right _ _))) (by omega)) ?_
  clear T
  rintro e wc ⟨ATu27, cTu27, IUu27, rfl, hcpTu27, SVTu27, N⟩
  intro ac T
  obtain ⟨bATu27, oATu27, SVTu27⟩ := SVTu27
  have SATu27 := SVTu27 w noEx
  replace M := (M.join N).swapI
  clear N
  replace M : Mem w noEx wc ((g10, .cells [.int .i64 s9.lo, .int .i64 s9.wi, .int .i64 s9.a0, .int .i64 s9.a1, .int .i64 s9.c0, .int .i64 s9.c1, .slice ACu24 s9.ps.length cCu24]) :: (IT ++ ICu24 ++ IUu27)) := M
  refine sh_out hK _ _ ?_; clear hK K
  refine lq T (rn_move rfl (T.ev 0 rfl)) ?_; clear T ac; intro ac T
  refine lq T (rn_extract rfl (T.ev 0 rfl) rfl) ?_; clear T ac; intro ac T
  refine lq T (rn_extract rfl (T.ev 1 rfl) rfl) ?_; clear T ac; intro ac T
  refine l_w rfl ?_; intro K hK
  refine ow_al M T rfl rfl rfl rfl ?_; clear M T; intro g11 wc ac M T
  refine sh_out hK _ _ ?_; clear hK K
  refine l_w rfl ?_; intro K hK
  refine ow_stO M T rfl rfl (T.ev 0 rfl) (T.ev 2 rfl) rfl .head rfl (by simp) rfl (by kernel_rfl) ?_; clear M T; intro wc ac M T
  refine sh_out hK _ _ ?_; clear hK K
  refine lq T (rn_assign rfl (T.ev 1 rfl)) ?_; clear T ac; intro ac T
  refine wpList_nil ?_
  replace T := T.pick [0, 1, 7, 8, 9, 10, 11, 12, 13, 14, 15, 16, 17, 18] rfl
  refine nm_then ?_
  refine wp_seq ?_
  refine wp_region_lit ?_
  refine lq T (rn_move rfl (T.ev 11 rfl)) ?_; clear T ac; intro ac T
  refine lq T (rn_move rfl (T.ev 14 rfl)) ?_; clear T ac; intro ac T
  refine lq T (rn_indexAddr (size := 7) i rfl (T.ev 1 rfl) (T.ev 0 rfl) ⟨_, Tryd.underlying42, by kernel_rfl⟩ rfl (by omega) (SSS.at0 (by omega))) ?_; clear T ac; intro ac T
  refine lq (v := (.agg #[.int .i64 s9.lo, .int .i64 s9.wi, .int .i64 s9.a0, .int .i64 s9.a1, .int .i64 s9.c0, .int .i64 s9.c1, .slice A9 s9.ps.length c9])) T (rn_rowat (Sp.skR SSS M (.cons _ (.cons _ (subL (subL (List.Sublist.refl _))))) hk9) rfl (T.ev 0 rfl) rfl) ?_; clear T ac; intro ac T
  refine l_w rfl ?_; intro K hK
  refine ow_call (first := []) (cap := []) T rfl rfl rfl rfl evf (.cons (T.ev 0 rfl) .nil) Tryd.func59 rfl rfl ?_
  refine Calls.mono (Turn8_any s9 A9 c9 _ (S9.rd M (.cons _ (.cons _ (subL (subL (List.Sublist.refl _)))))) (by omega)) ?_
  clear T
  rintro e wc ⟨ATu28, cTu28, IUu28, rfl, hcpTu28, SVTu28, N⟩
  intro ac T
  obtain ⟨bATu28, oATu28, SVTu28⟩ := SVTu28
  have SATu28 := SVTu28 w noEx
  replace M := (M.join N).swapI
  clear N
  replace M : Mem w noEx wc ((g11, .cells [.int .i64 ((trnZ s9).lo), .int .i64 ((trnZ s9).wi), .int .i64 ((trnZ s9).a0), .int .i64 ((trnZ s9).a1), .int .i64 ((trnZ s9).c0), .int .i64 ((trnZ s9).c1), .slice ATu27 ((trnZ s9).ps.length) cTu27]) :: (g10, .cells [.int .i64 s9.lo, .int .i64 s9.wi, .int .i64 s9.a0, .int .i64 s9.a1, .int .i64 s9.c0, .int .i64 s9.c1, .slice ACu24 s9.ps.length cCu24]) :: (IT ++ ICu24 ++ IUu27 ++ IUu28)) := M
  refine sh_out hK _ _ ?_; clear hK K
  refine lq T (rn_move rfl (T.ev 0 rfl)) ?_; clear T ac; intro ac T
  refine lq T (rn_extract rfl (T.ev 0 rfl) rfl) ?_; clear T ac; intro ac T
  refine lq T (rn_extract rfl (T.ev 1 rfl) rfl) ?_; clear T ac; intro ac T
  refine l_w rfl ?_; intro K hK
  refine ow_al M T rfl rfl rfl rfl ?_; clear M T; intro g12 wc ac M T
  refine sh_out hK _ _ ?_; clear hK K
  refine l_w rfl ?_; intro K hK
  refine ow_stO M T rfl rfl (T.ev 0 rfl) (T.ev 2 rfl) rfl .head rfl (by simp) rfl (by kernel_rfl) ?_; clear M T; intro wc ac M T
  refine sh_out hK _ _ ?_; clear hK K
  refine lq T (rn_assign rfl (T.ev 1 rfl)) ?_; clear T ac; intro ac T
  refine wpList_nil ?_
  replace T := T.pick [0, 1, 10, 11, 12, 13, 14, 15, 16, 17, 18, 19, 20, 21, 22, 23] rfl
  refine nm_then ?_
  refine wp_seq ?_
  refine g_start2 M (M.mask [true, true, true] rfl) 43 (by kernel_rfl) rfl (by kernel_rfl) ?_
  clear M; intro wc M
  refine gq T 0 1 rfl (fun B w' hD hl hS => (rn_rowO (Mem.nth (show Mem w noEx w' _ from hS) 2 rfl) rfl (T.ev 10 rfl) rfl)) ?_; clear T ac; intro ac T
  refine gq T 2 5 rfl (fun _ _ _ _ _ => (rn_move rfl (T.ev 14 rfl))) ?_; clear T ac; intro ac T
  refine gq T 3 13 rfl (fun _ _ _ _ _ => (rn_move rfl (T.ev 17 rfl))) ?_; clear T ac; intro ac T
  refine gq T 4 29 rfl (fun _ _ _ _ _ => (rn_indexAddr (size := 7) i rfl (T.ev 1 rfl) (T.ev 0 rfl) ⟨_, Tryd.underlying42, by kernel_rfl⟩ rfl (by omega) (SSS.at0 (by omega)))) ?_; clear T ac; intro ac T
  refine gq (v := (.agg #[.int .i64 s9.lo, .int .i64 s9.wi, .int .i64 s9.a0, .int .i64 s9.a1, .int .i64 s9.c0, .int .i64 s9.c1, .slice A9 s9.ps.length c9])) T 5 61 rfl (fun B w' hD hl hS => (rn_rowat (Sp.skR SSS (show Mem w noEx w' _ from hS) (.cons _ (.cons _ (.cons _ (subL (subL (subL (List.Sublist.refl _))))))) hk9) rfl (T.ev 0 rfl) rfl)) ?_; clear T ac; intro ac T
  refine gw 1 63 ?_; intro K hK
  refine ow_call (first := []) (cap := []) T rfl rfl rfl rfl evf (.cons (T.ev 4 rfl) .nil) Tryd.func60 rfl rfl ?_
  refine Calls.mono (skCheck_any s9 ACu24 cCu24 _ (SACu24.rd M (.cons _ (.cons _ (.cons _ (subL (subL (List.sublist_append_right _ _))))))) (by omega)) ?_
  clear T
  rintro e wc ⟨rfl, hb⟩
  intro ac T
  replace M := M.call hb; clear hb
  refine sh_out hK _ _ (M.mask [true, true, true] rfl) ?_; clear hK K
  refine g_addU M ?_
  refine gw 6 127 ?_; intro K hK
  refine ow_call (first := []) (cap := []) T rfl rfl rfl rfl evf (.cons (T.ev 1 rfl) .nil) Tryd.func61 rfl rfl ?_
  refine Calls.mono (skCheck8_any s9 A9 c9 _ (S9.rd M (.cons _ (.cons _ (.cons _ (subL (subL (subL (List.Sublist.refl _)))))))) (by omega)) ?_
  clear T
  rintro e wc ⟨rfl, hb⟩
  intro ac T
  replace M := M.call hb; clear hb
  refine sh_out hK _ _ (MA.mk (M.mask [true, true, true] rfl) (M.mask [true, true, true] rfl)) ?_; clear hK K
  refine g_addU M ?_
  refine gq (v := (.bool false)) T 7 255 rfl (fun _ _ _ _ _ => (rn_neqof (rn_neq rfl (T.ev 1 rfl) (T.ev 0 rfl)) (by simp))) ?_; clear T ac; intro ac T
  refine gq T 8 511 rfl (fun _ _ _ _ _ => (rn_move rfl (T.ev 0 rfl))) ?_; clear T ac; intro ac T
  refine g_q (T := T) (i := 9) rfl (by kernel_rfl) (by kernel_rfl : (pbits 43 511).setIfInBounds 9 true = pbits 43 1023) (si_and si_U (si_and si_U si_U)) (fun _ _ _ h => h) (wanted_yes rfl rfl (T.ev 0 rfl) rfl) rfl rfl rfl (fun _ _ _ _ _ => (rn_move rfl (T.ev 18 rfl))) ?_; clear T ac; intro ac T
  refine g_q (T := T) (i := 10) rfl (by kernel_rfl) (by kernel_rfl : (pbits 43 1023).setIfInBounds 10 true = pbits 43 2047) (si_and si_U (si_and si_U si_U)) (fun _ _ _ h => h) (wanted_yes rfl rfl (T.ev 1 rfl) rfl) rfl rfl rfl (fun _ _ _ _ _ => (rn_move rfl (T.ev 16 rfl))) ?_; clear T ac; intro ac T
  refine g_q (v := (.bool false)) (T := T) (i := 11) rfl (by kernel_rfl) (by kernel_rfl : (pbits 43 2047).setIfInBounds 11 true = pbits 43 4095) (si_and si_U (si_and si_U si_U)) (fun _ _ _ h => h) (wanted_yes rfl rfl (T.ev 2 rfl) rfl) rfl rfl rfl (fun _ _ _ _ _ => (rn_neqof (rn_neq rfl (T.ev 1 rfl) (T.ev 0 rfl)) (by simp))) ?_; clear T ac; intro ac T
  refine gq T 12 8191 rfl (fun _ _ _ _ _ => (rn_pick0 rfl (T.ev 3 rfl) rfl (T.ev 0 rfl))) ?_; clear T ac; intro ac T
  refine gq T 13 16383 rfl (fun _ _ _ _ _ => (rn_move rfl (T.ev 0 rfl))) ?_; clear T ac; intro ac T
  refine g_q (T := T) (i := 14) rfl (by kernel_rfl) (by kernel_rfl : (pbits 43 16383).setIfInBounds 14 true = pbits 43 32767) (si_and si_U (si_and si_U si_U)) (fun _ _ _ h => h) (wanted_yes rfl rfl (T.ev 0 rfl) rfl) rfl rfl rfl (fun _ _ _ _ _ => (rn_move rfl (T.ev 22 rfl))) ?_; clear T ac; intro ac T
  refine g_q (T := T) (i := 15) rfl (by kernel_rfl) (by kernel_rfl : (pbits 43 32767).setIfInBounds 15 true = pbits 43 65535) (si_and si_U (si_and si_U si_U)) (fun _ _ _ h => h) (wanted_yes rfl rfl (T.ev 1 rfl) rfl) rfl rfl rfl (fun _ _ _ _ _ => (rn_move rfl (T.ev 20 rfl))) ?_; clear T ac; intro ac T
  refine g_q (v := (.bool false)) (T := T) (i := 16) rfl (by kernel_rfl) (by kernel_rfl : (pbits 43 65535).setIfInBounds 16 true = pbits 43 131071) (si_and si_U (si_and si_U si_U)) (fun _ _ _ h => h) (wanted_yes rfl rfl (T.ev 2 rfl) rfl) rfl rfl rfl (fun _ _ _ _ _ => (rn_neqof (rn_neq rfl (T.ev 1 rfl) (T.ev 0 rfl)) (by simp))) ?_; clear T ac; intro ac T
  refine gq T 17 262143 rfl (fun _ _ _ _ _ => (rn_pick0 rfl (T.ev 3 rfl) rfl (T.ev 0 rfl))) ?_; clear T ac; intro ac T
  refine gq T 18 524287 rfl (fun _ _ _ _ _ => (rn_move rfl (T.ev 0 rfl))) ?_; clear T ac; intro ac T
  refine g_q (T := T) (i := 19) rfl (by kernel_rfl) (by kernel_rfl : (pbits 43 524287).setIfInBounds 19 true = pbits 43 1048575) (si_and si_U (si_and si_U si_U)) (fun _ _ _ h => h) (wanted_yes rfl rfl (T.ev 0 rfl) rfl) rfl rfl rfl (fun _ _ _ _ _ => (rn_move rfl (T.ev 26 rfl))) ?_; clear T ac; intro ac T
  refine g_q (T := T) (i := 20) rfl (by kernel_rfl) (by kernel_rfl : (pbits 43 1048575).setIfInBounds 20 true = pbits 43 2097151) (si_and si_U (si_and si_U si_U)) (fun _ _ _ h => h) (wanted_yes rfl rfl (T.ev 1 rfl) rfl) rfl rfl rfl (fun _ _ _ _ _ => (rn_move rfl (T.ev 24 rfl))) ?_; clear T ac; intro ac T
  refine g_q (v := (.bool false)) (T := T) (i := 21) rfl (by kernel_rfl) (by kernel_rfl : (pbits 43 2097151).setIfInBounds 21 true = pbits 43 4194303) (si_and si_U (si_and si_U si_U)) (fun _ _ _ h => h) (wanted_yes rfl rfl (T.ev 2 rfl) rfl) rfl rfl rfl (fun _ _ _ _ _ => (rn_neqof (rn_neq rfl (T.ev 1 rfl) (T.ev 0 rfl)) (by simp))) ?_; clear T ac; intro ac T
  refine gq T 22 8388607 rfl (fun _ _ _ _ _ => (rn_pick0 rfl (T.ev 3 rfl) rfl (T.ev 0 rfl))) ?_; clear T ac; intro ac T
  refine gq T 23 16777215 rfl (fun _ _ _ _ _ => (rn_move rfl (T.ev 0 rfl))) ?_; clear T ac; intro ac T
  refine g_q (T := T) (i := 24) rfl (by kernel_rfl) (by kernel_rfl : (pbits 43 16777215).setIfInBounds 24 true = pbits 43 33554431) (si_and si_U (si_and si_U si_U)) (fun _ _ _ h => h) (wanted_yes rfl rfl (T.ev 0 rfl) rfl) rfl rfl rfl (fun _ _ _ _ _ => (rn_move rfl (T.ev 26 rfl))) ?_; clear T ac; intro ac T
  refine g_q (T := T) (i := 25) rfl (by kernel_rfl) (by kernel_rfl : (pbits 43 33554431).setIfInBounds 25 true = pbits 43 67108863) (si_and si_U (si_and si_U si_U)) (fun _ _ _ h => h) (wanted_yes rfl rfl (T.ev 1 rfl) rfl) rfl rfl rfl (fun _ _ _ _ _ => (rn_move rfl (T.ev 25 rfl))) ?_; clear T ac; intro ac T
  refine g_q (v := (.bool false)) (T := T) (i := 26) rfl (by kernel_rfl) (by kernel_rfl : (pbits 43 67108863).setIfInBounds 26 true = pbits 43 134217727) (si_and si_U (si_and si_U si_U)) (fun _ _ _ h => h) (wanted_yes rfl rfl (T.ev 2 rfl) rfl) rfl rfl rfl (fun _ _ _ _ _ => (rn_neqof (rn_neq rfl (T.ev 1 rfl) (T.ev 0 rfl)) (by simp))) ?_; clear T ac; intro ac T
  refine gq T 27 268435455 rfl (fun _ _ _ _ _ => (rn_pick0 rfl (T.ev 3 rfl) rfl (T.ev 0 rfl))) ?_; clear T ac; intro ac T
  refine gq T 28 536870911 rfl (fun _ _ _ _ _ => (rn_move rfl (T.ev 0 rfl))) ?_; clear T ac; intro ac T
  refine g_q (T := T) (i := 29) rfl (by kernel_rfl) (by kernel_rfl : (pbits 43 536870911).setIfInBounds 29 true = pbits 43 1073741823) (si_and si_U (si_and si_U si_U)) (fun _ _ _ h => h) (wanted_yes rfl rfl (T.ev 0 rfl) rfl) rfl rfl rfl (fun B w' hD hl hS => (rn_rowO (Mem.nth (show Mem w noEx w' _ from (MA.lft hS)) 1 rfl) rfl (T.ev 32 rfl) rfl)) ?_; clear T ac; intro ac T
  refine g_q (T := T) (i := 30) rfl (by kernel_rfl) (by kernel_rfl : (pbits 43 1073741823).setIfInBounds 30 true = pbits 43 2147483647) (si_and si_U (si_and si_U si_U)) (fun _ _ _ h => h) (wanted_yes rfl rfl (T.ev 1 rfl) rfl) rfl rfl rfl (fun B w' hD hl hS => (rn_rowO (Mem.nth (show Mem w noEx w' _ from (MA.lft hS)) 0 rfl) rfl (T.ev 31 rfl) rfl)) ?_; clear T ac; intro ac T
  refine g_w (i := 31) (by kernel_rfl) rfl (by kernel_rfl : (pbits 43 2147483647).setIfInBounds 31 true = pbits 43 4294967295) (wanted_yes rfl rfl (T.ev 2 rfl) rfl) ?_; intro K hK
  refine ow_call (first := []) (cap := []) T rfl rfl rfl rfl evf (.cons (T.ev 1 rfl) (.cons (T.ev 0 rfl) .nil)) Tryd.func29 rfl rfl ?_
  refine Calls.mono (sameSheets_any (trnZ s9) ATu27 cTu27 (trnZ s9) ATu28 cTu28 _ (SATu27.rd M (.cons _ (.cons _ (.cons _ (subL (List.sublist_append_right _ _)))))) (SATu28.rd M (.cons _ (.cons _ (.cons _ (List.sublist_append_right _ _))))) (by omega) (by omega)) ?_
  clear T
  rintro e wc ⟨rfl, hb⟩
  intro ac T
  replace M := M.call hb; clear hb
  rw [decide_eq_true (@rfl Sk (trnZ s9))] at T
  refine sh_out hK _ _ (MA.mk (M.mask [true, true, true] rfl) (MA.mk (M.mask [true, true, true] rfl) (M.mask [true, true, true] rfl))) ?_; clear hK K
  refine g_addU M ?_
  refine g_q (v := (.bool false)) (T := T) (i := 32) rfl (by kernel_rfl) (by kernel_rfl : (pbits 43 4294967295).setIfInBounds 32 true = pbits 43 8589934591) (si_and si_U (si_and si_U (si_and si_U si_U))) (fun _ _ _ h => h) (wanted_yes rfl rfl (T.ev 3 rfl) rfl) rfl rfl rfl (fun _ _ _ _ _ => (rn_neqof (rn_not rfl (T.ev 0 rfl)) (by simp))) ?_; clear T ac; intro ac T
  refine gq T 33 17179869183 rfl (fun _ _ _ _ _ => (rn_pick0 rfl (T.ev 4 rfl) rfl (T.ev 0 rfl))) ?_; clear T ac; intro ac T
  refine gq T 34 34359738367 rfl (fun _ _ _ _ _ => (rn_move rfl (T.ev 0 rfl))) ?_; clear T ac; intro ac T
  refine g_q (T := T) (i := 35) rfl (by kernel_rfl) (by kernel_rfl : (pbits 43 34359738367).setIfInBounds 35 true = pbits 43 68719476735) (si_and si_U (si_and si_U (si_and si_U si_U))) (fun _ _ _ h => h) (wanted_yes rfl rfl (T.ev 0 rfl) rfl) rfl rfl rfl (fun B w' hD hl hS => (rn_rowO (Mem.nth (show Mem w noEx w' _ from (MA.lft hS)) 2 rfl) rfl (T.ev 45 rfl) rfl)) ?_; clear T ac; intro ac T
  refine g_q (T := T) (i := 36) rfl (by kernel_rfl) (by kernel_rfl : (pbits 43 68719476735).setIfInBounds 36 true = pbits 43 137438953471) (si_and si_U (si_and si_U (si_and si_U si_U))) (fun _ _ _ h => h) (wanted_yes rfl rfl (T.ev 1 rfl) rfl) rfl rfl rfl (fun _ _ _ _ _ => (rn_move rfl (T.ev 49 rfl))) ?_; clear T ac; intro ac T
  refine g_q (T := T) (i := 37) rfl (by kernel_rfl) (by kernel_rfl : (pbits 43 137438953471).setIfInBounds 37 true = pbits 43 274877906943) (si_and si_U (si_and si_U (si_and si_U si_U))) (fun _ _ _ h => h) (wanted_yes rfl rfl (T.ev 2 rfl) rfl) rfl rfl rfl (fun _ _ _ _ _ => (rn_move rfl (T.ev 52 rfl))) ?_; clear T ac; intro ac T
  refine g_q (T := T) (i := 38) rfl (by kernel_rfl) (by kernel_rfl : (pbits 43 274877906943).setIfInBounds 38 true = pbits 43 549755813887) (si_and si_U (si_and si_U (si_and si_U si_U))) (fun _ _ _ h => h) (wanted_yes rfl rfl (T.ev 3 rfl) rfl) rfl rfl rfl (fun _ _ _ _ _ => (rn_indexAddr (size := 7) i rfl (T.ev 1 rfl) (T.ev 0 rfl) ⟨_, Tryd.underlying42, by kernel_rfl⟩ rfl (by omega) (SSS.at0 (by omega)))) ?_; clear T ac; intro ac T
  refine g_q (v := (.agg #[.int .i64 s9.lo, .int .i64 s9.wi, .int .i64 s9.a0, .int .i64 s9.a1, .int .i64 s9.c0, .int .i64 s9.c1, .slice A9 s9.ps.length c9])) (T := T) (i := 39) rfl (by kernel_rfl) (by kernel_rfl : (pbits 43 549755813887).setIfInBounds 39 true = pbits 43 1099511627775) (si_and si_U (si_and si_U (si_and si_U si_U))) (fun _ _ _ h => h) (wanted_yes rfl rfl (T.ev 4 rfl) rfl) rfl rfl rfl (fun B w' hD hl hS => (rn_rowat (Sp.skR SSS (show Mem w noEx w' _ from (MA.lft hS)) (.cons _ (.cons _ (.cons _ (subL (subL (subL (List.Sublist.refl _))))))) hk9) rfl (T.ev 0 rfl) rfl)) ?_; clear T ac; intro ac T
  refine g_w (i := 40) (by kernel_rfl) rfl (by kernel_rfl : (pbits 43 1099511627775).setIfInBounds 40 true = pbits 43 2199023255551) (wanted_yes rfl rfl (T.ev 5 rfl) rfl) ?_; intro K hK
  refine ow_call (first := []) (cap := []) T rfl rfl rfl rfl evf (.cons (T.ev 4 rfl) (.cons (T.ev 0 rfl) .nil)) Tryd.func29 rfl rfl ?_
  refine Calls.mono (sameSheets_any s9 ACu24 cCu24 s9 A9 c9 _ (SACu24.rd M (.cons _ (.cons _ (.cons _ (subL (subL (List.sublist_append_right _ _))))))) (S9.rd M (.cons _ (.cons _ (.cons _ (subL (subL (subL (List.Sublist.refl _)))))))) (by omega) (by omega)) ?_
  clear T
  rintro e wc ⟨rfl, hb⟩
  intro ac T
  replace M := M.call hb; clear hb
  rw [decide_eq_true (@rfl Sk s9)] at T
  refine sh_out hK _ _ (MA.mk (M.mask [true, true, true] rfl) (MA.mk (M.mask [true, true, true] rfl) (MA.mk (M.mask [true, true, true] rfl) (M.mask [true, true, true] rfl)))) ?_; clear hK K
  refine g_q (v := (.bool false)) (T := T) (i := 41) rfl (by kernel_rfl) (by kernel_rfl : (pbits 43 2199023255551).setIfInBounds 41 true = pbits 43 4398046511103) (si_and si_U (si_and si_U (si_and si_U si_U))) (fun _ _ _ h => h) (wanted_yes rfl rfl (T.ev 6 rfl) rfl) rfl rfl rfl (fun _ _ _ _ _ => (rn_neqof (rn_not rfl (T.ev 0 rfl)) (by simp))) ?_; clear T ac; intro ac T
  refine gq T 42 8796093022207 rfl (fun _ _ _ _ _ => (rn_pick0 rfl (T.ev 7 rfl) rfl (T.ev 0 rfl))) ?_; clear T ac; intro ac T
  refine g_done (by kernel_rfl) ?_
  replace T := T.pick [0, 1, 2, 3, 4, 5, 6, 7, 10, 11, 12, 13, 16, 17, 18, 21, 22, 23, 26, 27, 28, 31, 32, 33, 54, 55, 56, 57, 58] rfl
  replace M := M.mask [false, false, false] rfl
  replace M : Mem w noEx wc ((IT ++ ICu24 ++ IUu27 ++ IUu28)) := M
  refine nm_then ?_
  refine wp_cond_false (T.ev 0 rfl) ?_
  refine wp_skip ?_
  refine nm_blk ?_
  refine nm_then ?_
  refine wp_region_lit ?_
  refine lq T (rn_move rfl (T.ev 28 rfl)) ?_; clear T ac; intro ac T
  refine lq T (rn_add rfl (T.ev 0 rfl) evc (by omega)) ?_; clear T ac; intro ac T
  refine l_q (v := (.int .i64 ((i : Int) + 1))) (T.pick [0, 1, 2, 3, 4, 5, 6, 7, 8, 9, 10, 11, 12, 13, 14, 15, 16, 17, 18, 19, 20, 21, 22, 23, 24, 25, 26, 27, 28, 29] rfl) rfl rfl rfl rfl (rn_assign rfl (T.ev 0 rfl)) ?_; clear T ac; intro ac T
  refine wpList_nil ?_
  replace T := T.pick [0, 4, 5, 6, 7, 8, 9, 10, 11, 12, 13, 14, 15, 16, 17, 18, 19, 20, 21, 22, 23, 24, 25, 26, 27, 28, 29, 30] rfl
  refine nm_then ?_
  exact ⟨_, by omega, i + 1, rfl, (by omega), T.pick [24, 25, 26, 27, 0] rfl, (M.sub (subL (subL (subL (List.Sublist.refl _)))))⟩
 intro h4
 refine wp_exit ?_
 refine ex_then ?_
 refine ex_then ?_
 refine ex_hit ?_
 refine nm_then ?_
 refine wp_seq ?_
 refine wp_region_lit ?_
 refine l_w rfl ?_; intro K hK
 refine ow_call (first := []) (cap := []) T rfl rfl rfl rfl evf .nil Tryd.func17 rfl rfl ?_
 refine Calls.mono (sawn8_any _ (hT.mem M (fun h => h))) ?_
 clear T
 rintro e wc ⟨rfl, hb⟩
 intro ac T
 replace M := M.call hb; clear hb
 refine sh_out hK _ _ ?_; clear hK K
 refine lq T (rn_assign rfl (T.ev 0 rfl)) ?_; clear T ac; intro ac T
 refine wpList_nil ?_
 replace T := T.pick [0] rfl
 refine nm_then ?_
 refine wp_ret ?_
 refine rt_1 T rfl (T.ev 0 rfl) ?_
 exact ⟨ret_bool (by simp_all), M.below⟩
end Go.Proofs.YtehpcclfgjccbaaDoor
end

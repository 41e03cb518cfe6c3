/-
  Walks of functions, and plain laws (texts put together). No condition.
-/
import Derived.Test.YtehpcclfgjccbaaDoorMSheetPlans1
import Derived.Test.YtehpcclfgjccbaaDoorMSheetPlans2
import Derived.Test.YtehpcclfgjccbaaDoorMSheetPlans3
import Derived.Test.YtehpcclfgjccbaaDoorMSheetPlans4
set_option maxRecDepth 100000
set_option maxHeartbeats 1000000
section
/-
 kit: copies of stocks, stocks that are equal.
-/
namespace Go.Proofs.YtehpcclfgjccbaaDoor
set_option linter.unusedSimpArgs false
set_option linter.unusedVariables false
open Go.RowKit
theorem eqT23 {x y : Operand} {a0 a1 b0 b1 : Int} {w : World} : (do eqGuard .eql 23 x y (.agg #[.int .i64 a0, .int .i64 a1]) (.agg #[.int .i64 b0, .int .i64 b1]); binOp .eql 23 (.agg #[.int .i64 a0, .int .i64 a1]) (.agg #[.int .i64 b0, .int .i64 b1]) : Sem Value).run Tryd.prog w = .ok (.bool ((decide (a0 = b0) && decide (a1 = b1)))) w := by
 go_simp
 (repeat' split) <;> simp_all
theorem eqT63 {x y : Operand} {a0 a1 a3 b0 b1 b3 : Int} {a2 b2 : Bool} {w : World} : (do eqGuard .eql 63 x y (.agg #[.int .i64 a0, .int .i64 a1, .bool a2, .int .i64 a3]) (.agg #[.int .i64 b0, .int .i64 b1, .bool b2, .int .i64 b3]); binOp .eql 63 (.agg #[.int .i64 a0, .int .i64 a1, .bool a2, .int .i64 a3]) (.agg #[.int .i64 b0, .int .i64 b1, .bool b2, .int .i64 b3]) : Sem Value).run Tryd.prog w = .ok (.bool (decide (a0 = b0) && (decide (a1 = b1) && (decide (a2 = b2) && decide (a3 = b3))))) w := by
 go_simp
 (repeat' split) <;> simp_all
def CopySkPost (s : Sk) (w : World) (e : Ending) (w' : World) : Prop := ∃ A c I, e = .returned (.agg #[.int .i64 s.lo, .int .i64 s.wi, .int .i64 s.a0, .int .i64 s.a1, .int .i64 s.c0, .int .i64 s.c1, .slice A s.ps.length c]) ∧ Cl 63 4 A s.ps.length c (pc s.ps) I ∧ Mem w noEx w' I
def eqF (s t : Sk) : Prop := s.lo = t.lo ∧ s.wi = t.wi ∧ (s.a0 = t.a0 ∧ s.a1 = t.a1) ∧ (s.c0 = t.c0 ∧ s.c1 = t.c1) ∧ s.ps.length = t.ps.length
theorem copySheet_any (s : Sk) (A : Option Addr) (d : Nat)  (w : World) (hA : Rd w w.heap.size 4 A s.ps.length (pc s.ps)) (nA : s.ps.length ≤ 1000000)  :
  Calls Tryd.prog 25 #[.agg #[.int .i64 s.lo, .int .i64 s.wi, .int .i64 s.a0, .int .i64 s.a1, .int .i64 s.c0, .int .i64 s.c1, .slice A s.ps.length d]] w (CopySkPost s w) := by
 obtain ⟨bA, oA, SA⟩ := Sp.old hA
 refine px_enter noEx Tryd.func25 rfl 9 rfl [.agg #[.int .i64 s.lo, .int .i64 s.wi, .int .i64 s.a0, .int .i64 s.a1, .int .i64 s.c0, .int .i64 s.c1, .slice A s.ps.length d]] rfl rfl (Mem.init w _) ?_
 intro ac wc T M
 refine wp_seq ?_
 refine wp_region_lit ?_
 refine l_w rfl ?_; intro K hK
 refine ow_bx M T rfl rfl rfl rfl (T.ev 0 rfl) rfl ?_; clear M T; intro g1 wc ac M T
 refine so9 hK _ _ ?_; clear hK K
 refine l_w rfl ?_; intro K hK
 refine ow_al M T rfl rfl rfl rfl ?_; clear M T; intro g2 wc ac M T
 refine so9 hK _ _ ?_; clear hK K
 refine wpList_nil ?_
 replace T := T.pick [0, 1] rfl
 refine nt9 ?_
 refine wp_seq ?_
 refine wp_region_lit ?_
 refine l_w rfl ?_; intro K hK
 refine ow_bs0 (e := 63) M T rfl rfl rfl rfl (fun _ => by kernel_rfl) ?_; clear M T; intro g3 wc ac M T
 refine so9 hK _ _ ?_; clear hK K
 refine lq (v := (.pointer (some ⟨g1, 6, none⟩))) T (rf9 (off := 6) rfl (T.ev 2 rfl) (fun _ _ _ => by kernel_rfl)) ?_; clear T ac; intro ac T
 refine lq T (rn_one (Mem.nth M 2 rfl) rfl (T.ev 0 rfl) rfl) ?_; clear T ac; intro ac T
 refine l_w rfl ?_; intro K hK
 refine ow_appS Tryd.info63 M T rfl rfl rfl rfl (fun g w => Tryd.append0_24 _ _ g _ w) Tryd.underlying24 rfl rfl rfl (by omega) (T.ev 2 rfl) (T.ev 0 rfl) (SA.rd M (List.nil_sublist _)) (pc_one _) ?_; clear M T; intro Augo1 cugo1 Iugo1 wc ac hSmgo1 M T
 replace M : Mem w noEx wc ((g2, .cells [.int .i64 0, .int .i64 0, .int .i64 0, .int .i64 0, .int .i64 0, .int .i64 0, .slice none 0 0]) :: (g1, .cells [.int .i64 s.lo, .int .i64 s.wi, .int .i64 s.a0, .int .i64 s.a1, .int .i64 s.c0, .int .i64 s.c1, .slice A s.ps.length d]) :: Iugo1) := M.swapI
 refine so9 hK _ _ ?_; clear hK K
 refine lq (v := (.pointer (some ⟨g1, 6, none⟩))) T (rf9 (off := 6) rfl (T.ev 5 rfl) (fun _ _ _ => by kernel_rfl)) ?_; clear T ac; intro ac T
 refine l_w rfl ?_; intro K hK
 refine ow_stO M T rfl rfl (T.ev 0 rfl) (T.ev 1 rfl) rfl (.tail .head) rfl (by simp) rfl (by kernel_rfl) ?_; clear M T; intro wc ac M T
 refine so9 hK _ _ ?_; clear hK K
 refine wpList_nil ?_
 replace T := T.pick [5, 6] rfl
 refine nt9 ?_
 refine wp_seq ?_
 refine wp_region_lit ?_
 refine lq T (rn_rowO (Mem.nth M 1 rfl) rfl (T.ev 1 rfl) rfl) ?_; clear T ac; intro ac T
 refine l_w rfl ?_; intro K hK
 refine ow_stO M T rfl rfl (T.ev 1 rfl) (T.ev 0 rfl) rfl .head rfl (by simp) rfl (by kernel_rfl) ?_; clear M T; intro wc ac M T
 refine so9 hK _ _ ?_; clear hK K
 refine wpList_nil ?_
 replace T := T.pick [1] rfl
 replace M := M.mask [true, false] rfl
 refine nt9 ?_
 refine wp_ret ?_
 refine rt_c M T rfl (T.ev 0 rfl) (nthE_mem (i := 0) rfl) rfl ?_
 exact ⟨Augo1, cugo1, Iugo1, rfl, .inr hSmgo1, M.sub (List.sublist_append_right ([(g2, .cells [.int .i64 s.lo, .int .i64 s.wi, .int .i64 s.a0, .int .i64 s.a1, .int .i64 s.c0, .int .i64 s.c1, .slice Augo1 s.ps.length cugo1])] : List (Nat × BA)) _)⟩
theorem sameSheets_any (s : Sk) (A : Option Addr) (c : Nat) (t : Sk) (B : Option Addr) (d : Nat)  (w : World) (hA : Rd w w.heap.size 4 A s.ps.length (pc s.ps)) (hB : Rd w w.heap.size 4 B t.ps.length (pc t.ps)) (nA : s.ps.length ≤ 1000000) (nB : t.ps.length ≤ 1000000) :
   Calls Tryd.prog 29 #[.agg #[.int .i64 s.lo, .int .i64 s.wi, .int .i64 s.a0, .int .i64 s.a1, .int .i64 s.c0, .int .i64 s.c1, .slice A s.ps.length c], .agg #[.int .i64 t.lo, .int .i64 t.wi, .int .i64 t.a0, .int .i64 t.a1, .int .i64 t.c0, .int .i64 t.c1, .slice B t.ps.length d]] w fun e w' => e = .returned (.bool (decide (s = t))) ∧ Below w.heap.size w w' := by
 obtain ⟨bA, oA, SA⟩ := Sp.old hA
 obtain ⟨bB, oB, SB⟩ := Sp.old hB
 refine px_enter noEx Tryd.func29 rfl 64 rfl [.agg #[.int .i64 s.lo, .int .i64 s.wi, .int .i64 s.a0, .int .i64 s.a1, .int .i64 s.c0, .int .i64 s.c1, .slice A s.ps.length c], .agg #[.int .i64 t.lo, .int .i64 t.wi, .int .i64 t.a0, .int .i64 t.a1, .int .i64 t.c0, .int .i64 t.c1, .slice B t.ps.length d]] rfl rfl (Mem.init w _) ?_
 intro ac wc T M
 refine wp_seq ?_
 refine wp_region_lit ?_
 refine l_w rfl ?_; intro K hK
 refine ow_bx M T rfl rfl rfl rfl (T.ev 0 rfl) rfl ?_; clear M T; intro g1 wc ac M T
 refine so9 hK _ _ ?_; clear hK K
 refine l_w rfl ?_; intro K hK
 refine ow_bx M T rfl rfl rfl rfl (T.ev 2 rfl) rfl ?_; clear M T; intro g2 wc ac M T
 refine so9 hK _ _ ?_; clear hK K
 refine lq T (ra9 rfl evc) ?_; clear T ac; intro ac T
 refine wpList_nil ?_
 replace T := T.pick [1, 2] rfl
 refine nt9 ?_
 refine cut_seq (fun ac wc => Tm ac 64 [(2, .pointer (some ⟨g1, 0, none⟩)), (3, .pointer (some ⟨g2, 0, none⟩)), (5, .bool ((decide (s.lo = t.lo)) && ((decide (s.wi = t.wi)) && (((decide (s.a0 = t.a0)) && (decide (s.a1 = t.a1))) && (((decide (s.c0 = t.c0)) && (decide (s.c1 = t.c1))) && (decide (((s.ps.length : Nat) : Int) = ((t.ps.length : Nat) : Int))))))))] ∧ Mem w noEx wc [(g2, .cells [.int .i64 t.lo, .int .i64 t.wi, .int .i64 t.a0, .int .i64 t.a1, .int .i64 t.c0, .int .i64 t.c1, .slice B t.ps.length d]), (g1, .cells [.int .i64 s.lo, .int .i64 s.wi, .int .i64 s.a0, .int .i64 s.a1, .int .i64 s.c0, .int .i64 s.c1, .slice A s.ps.length c])]) ?_ ?_
 ·refine wp_region_lit ?_
  refine lq (v := (.pointer (some ⟨g1, 0, none⟩))) T (rf9 (off := 0) rfl (T.ev 1 rfl) (fun _ _ _ => by kernel_rfl)) ?_; clear T ac; intro ac T
  refine lq T (rn_one (Mem.nth M 1 rfl) rfl (T.ev 0 rfl) rfl) ?_; clear T ac; intro ac T
  refine lq (v := (.pointer (some ⟨g2, 0, none⟩))) T (rf9 (off := 0) rfl (T.ev 2 rfl) (fun _ _ _ => by kernel_rfl)) ?_; clear T ac; intro ac T
  refine lq T (rn_one (Mem.nth M 0 rfl) rfl (T.ev 0 rfl) rfl) ?_; clear T ac; intro ac T
  refine lq T (rn_eql rfl (T.ev 2 rfl) (T.ev 0 rfl)) ?_; clear T ac; intro ac T
  refine lq T (rm9 rfl (T.ev 0 rfl)) ?_; clear T ac; intro ac T
  rcases Bool.eq_false_or_eq_true (decide (s.lo = t.lo)) with h1 | h1
  ·replace h1 := of_decide_eq_true h1
   refine lw (v := (.pointer (some ⟨g1, 1, none⟩))) T (wy9 rfl rfl (T.ev 0 rfl) (decide_eq_true h1)) (rf9 (off := 1) rfl (T.ev 7 rfl) (fun _ _ _ => by kernel_rfl)) ?_; clear T ac; intro ac T
   refine lw T (wy9 rfl rfl (T.ev 1 rfl) (decide_eq_true h1)) (rn_one (Mem.nth M 1 rfl) rfl (T.ev 0 rfl) rfl) ?_; clear T ac; intro ac T
   refine lw (v := (.pointer (some ⟨g2, 1, none⟩))) T (wy9 rfl rfl (T.ev 2 rfl) (decide_eq_true h1)) (rf9 (off := 1) rfl (T.ev 8 rfl) (fun _ _ _ => by kernel_rfl)) ?_; clear T ac; intro ac T
   refine lw T (wy9 rfl rfl (T.ev 3 rfl) (decide_eq_true h1)) (rn_one (Mem.nth M 0 rfl) rfl (T.ev 0 rfl) rfl) ?_; clear T ac; intro ac T
   refine lw T (wy9 rfl rfl (T.ev 4 rfl) (decide_eq_true h1)) (rn_eql rfl (T.ev 2 rfl) (T.ev 0 rfl)) ?_; clear T ac; intro ac T
   refine lq T (rn_pick1 rfl (T.ev 5 rfl) (decide_eq_true h1) (T.ev 0 rfl)) ?_; clear T ac; intro ac T
   refine lq T (rm9 rfl (T.ev 0 rfl)) ?_; clear T ac; intro ac T
   rcases Bool.eq_false_or_eq_true (decide (s.wi = t.wi)) with h2 | h2
   ·replace h2 := of_decide_eq_true h2
    refine lw (v := (.pointer (some ⟨g1, 2, none⟩))) T (wy9 rfl rfl (T.ev 0 rfl) (decide_eq_true h2)) (rf9 (off := 2) rfl (T.ev 14 rfl) (fun _ _ _ => by kernel_rfl)) ?_; clear T ac; intro ac T
    refine lw T (wy9 rfl rfl (T.ev 1 rfl) (decide_eq_true h2)) (rn_rowO (Mem.nth M 1 rfl) rfl (T.ev 0 rfl) rfl) ?_; clear T ac; intro ac T
    refine lw (v := (.pointer (some ⟨g2, 2, none⟩))) T (wy9 rfl rfl (T.ev 2 rfl) (decide_eq_true h2)) (rf9 (off := 2) rfl (T.ev 15 rfl) (fun _ _ _ => by kernel_rfl)) ?_; clear T ac; intro ac T
    refine lw T (wy9 rfl rfl (T.ev 3 rfl) (decide_eq_true h2)) (rn_rowO (Mem.nth M 0 rfl) rfl (T.ev 0 rfl) rfl) ?_; clear T ac; intro ac T
    refine lw (v := (.bool ((decide (s.a0 = t.a0)) && (decide (s.a1 = t.a1))))) T (wy9 rfl rfl (T.ev 4 rfl) (decide_eq_true h2)) (rn_bin rfl (T.ev 2 rfl) (T.ev 0 rfl) eqT23) ?_; clear T ac; intro ac T
    refine lq T (rn_pick1 rfl (T.ev 5 rfl) (decide_eq_true h2) (T.ev 0 rfl)) ?_; clear T ac; intro ac T
    refine lq T (rm9 rfl (T.ev 0 rfl)) ?_; clear T ac; intro ac T
    rcases Bool.eq_false_or_eq_true ((decide (s.a0 = t.a0)) && (decide (s.a1 = t.a1))) with h3 | h3
    ·refine lw (v := (.pointer (some ⟨g1, 4, none⟩))) T (wy9 rfl rfl (T.ev 0 rfl) h3) (rf9 (off := 4) rfl (T.ev 21 rfl) (fun _ _ _ => by kernel_rfl)) ?_; clear T ac; intro ac T
     refine lw T (wy9 rfl rfl (T.ev 1 rfl) h3) (rn_rowO (Mem.nth M 1 rfl) rfl (T.ev 0 rfl) rfl) ?_; clear T ac; intro ac T
     refine lw (v := (.pointer (some ⟨g2, 4, none⟩))) T (wy9 rfl rfl (T.ev 2 rfl) h3) (rf9 (off := 4) rfl (T.ev 22 rfl) (fun _ _ _ => by kernel_rfl)) ?_; clear T ac; intro ac T
     refine lw T (wy9 rfl rfl (T.ev 3 rfl) h3) (rn_rowO (Mem.nth M 0 rfl) rfl (T.ev 0 rfl) rfl) ?_; clear T ac; intro ac T
     refine lw (v := (.bool ((decide (s.c0 = t.c0)) && (decide (s.c1 = t.c1))))) T (wy9 rfl rfl (T.ev 4 rfl) h3) (rn_bin rfl (T.ev 2 rfl) (T.ev 0 rfl) eqT23) ?_; clear T ac; intro ac T
     refine lq T (rn_pick1 rfl (T.ev 5 rfl) h3 (T.ev 0 rfl)) ?_; clear T ac; intro ac T
     refine lq T (rm9 rfl (T.ev 0 rfl)) ?_; clear T ac; intro ac T
     rcases Bool.eq_false_or_eq_true ((decide (s.c0 = t.c0)) && (decide (s.c1 = t.c1))) with h4 | h4
     ·refine lw (v := (.pointer (some ⟨g1, 6, none⟩))) T (wy9 rfl rfl (T.ev 0 rfl) h4) (rf9 (off := 6) rfl (T.ev 28 rfl) (fun _ _ _ => by kernel_rfl)) ?_; clear T ac; intro ac T
      refine lw T (wy9 rfl rfl (T.ev 1 rfl) h4) (rn_one (Mem.nth M 1 rfl) rfl (T.ev 0 rfl) rfl) ?_; clear T ac; intro ac T
      refine lw T (wy9 rfl rfl (T.ev 2 rfl) h4) (rn_lenS rfl Tryd.underlying24 (T.ev 0 rfl)) ?_; clear T ac; intro ac T
      refine lw (v := (.pointer (some ⟨g2, 6, none⟩))) T (wy9 rfl rfl (T.ev 3 rfl) h4) (rf9 (off := 6) rfl (T.ev 30 rfl) (fun _ _ _ => by kernel_rfl)) ?_; clear T ac; intro ac T
      refine lw T (wy9 rfl rfl (T.ev 4 rfl) h4) (rn_one (Mem.nth M 0 rfl) rfl (T.ev 0 rfl) rfl) ?_; clear T ac; intro ac T
      refine lw T (wy9 rfl rfl (T.ev 5 rfl) h4) (rn_lenS rfl Tryd.underlying24 (T.ev 0 rfl)) ?_; clear T ac; intro ac T
      refine lw T (wy9 rfl rfl (T.ev 6 rfl) h4) (rn_eql rfl (T.ev 3 rfl) (T.ev 0 rfl)) ?_; clear T ac; intro ac T
      refine lq T (rn_pick1 rfl (T.ev 7 rfl) h4 (T.ev 0 rfl)) ?_; clear T ac; intro ac T
      refine lq T (ra9 rfl (T.ev 0 rfl)) ?_; clear T ac; intro ac T
      refine wpList_nil ?_
      replace T := T.pick [0, 36, 37] rfl
      exact ⟨(T.pick (E' := [(2, .pointer (some ⟨g1, 0, none⟩)), (3, .pointer (some ⟨g2, 0, none⟩)), (5, .bool (decide (((s.ps.length : Nat) : Int) = ((t.ps.length : Nat) : Int))))]) [2, 1, 0] rfl).as (by (try rw [show (decide (s.lo = t.lo)) = true from (decide_eq_true h1)]); (try rw [show (decide (s.wi = t.wi)) = true from (decide_eq_true h2)]); (try rw [show ((decide (s.a0 = t.a0)) && (decide (s.a1 = t.a1))) = true from h3]); (try rw [show ((decide (s.c0 = t.c0)) && (decide (s.c1 = t.c1))) = true from h4]); (try rfl)), M.mask [true, true] rfl⟩
     refine lp T (wn9 rfl rfl (T.ev 0 rfl) h4) ?_; clear T ac; intro ac T
     refine lp T (wn9 rfl rfl (T.ev 1 rfl) h4) ?_; clear T ac; intro ac T
     refine lp T (wn9 rfl rfl (T.ev 2 rfl) h4) ?_; clear T ac; intro ac T
     refine lp T (wn9 rfl rfl (T.ev 3 rfl) h4) ?_; clear T ac; intro ac T
     refine lp T (wn9 rfl rfl (T.ev 4 rfl) h4) ?_; clear T ac; intro ac T
     refine lp T (wn9 rfl rfl (T.ev 5 rfl) h4) ?_; clear T ac; intro ac T
     refine lp T (wn9 rfl rfl (T.ev 6 rfl) h4) ?_; clear T ac; intro ac T
     refine lq T (rn_pick0 rfl (T.ev 7 rfl) h4 evc) ?_; clear T ac; intro ac T
     refine lq T (ra9 rfl (T.ev 0 rfl)) ?_; clear T ac; intro ac T
     refine wpList_nil ?_
     replace T := T.pick [0, 36, 37] rfl
     exact ⟨(T.pick (E' := [(2, .pointer (some ⟨g1, 0, none⟩)), (3, .pointer (some ⟨g2, 0, none⟩)), (5, .bool false)]) [2, 1, 0] rfl).as (by (try rw [show (decide (s.lo = t.lo)) = true from (decide_eq_true h1)]); (try rw [show (decide (s.wi = t.wi)) = true from (decide_eq_true h2)]); (try rw [show ((decide (s.a0 = t.a0)) && (decide (s.a1 = t.a1))) = true from h3]); (try rw [show ((decide (s.c0 = t.c0)) && (decide (s.c1 = t.c1))) = false from h4]); (try rfl)), M.mask [true, true] rfl⟩
    refine lp T (wn9 rfl rfl (T.ev 0 rfl) h3) ?_; clear T ac; intro ac T
    refine lp T (wn9 rfl rfl (T.ev 1 rfl) h3) ?_; clear T ac; intro ac T
    refine lp T (wn9 rfl rfl (T.ev 2 rfl) h3) ?_; clear T ac; intro ac T
    refine lp T (wn9 rfl rfl (T.ev 3 rfl) h3) ?_; clear T ac; intro ac T
    refine lp T (wn9 rfl rfl (T.ev 4 rfl) h3) ?_; clear T ac; intro ac T
    refine lq T (rn_pick0 rfl (T.ev 5 rfl) h3 evc) ?_; clear T ac; intro ac T
    refine lq T (rm9 rfl (T.ev 0 rfl)) ?_; clear T ac; intro ac T
    refine lp T (wn9 rfl rfl (T.ev 0 rfl) rfl) ?_; clear T ac; intro ac T
    refine lp T (wn9 rfl rfl (T.ev 1 rfl) rfl) ?_; clear T ac; intro ac T
    refine lp T (wn9 rfl rfl (T.ev 2 rfl) rfl) ?_; clear T ac; intro ac T
    refine lp T (wn9 rfl rfl (T.ev 3 rfl) rfl) ?_; clear T ac; intro ac T
    refine lp T (wn9 rfl rfl (T.ev 4 rfl) rfl) ?_; clear T ac; intro ac T
    refine lp T (wn9 rfl rfl (T.ev 5 rfl) rfl) ?_; clear T ac; intro ac T
    refine lp T (wn9 rfl rfl (T.ev 6 rfl) rfl) ?_; clear T ac; intro ac T
    refine lq T (rn_pick0 rfl (T.ev 7 rfl) rfl evc) ?_; clear T ac; intro ac T
    refine lq T (ra9 rfl (T.ev 0 rfl)) ?_; clear T ac; intro ac T
    refine wpList_nil ?_
    replace T := T.pick [0, 36, 37] rfl
    exact ⟨(T.pick (E' := [(2, .pointer (some ⟨g1, 0, none⟩)), (3, .pointer (some ⟨g2, 0, none⟩)), (5, .bool false)]) [2, 1, 0] rfl).as (by (try rw [show (decide (s.lo = t.lo)) = true from (decide_eq_true h1)]); (try rw [show (decide (s.wi = t.wi)) = true from (decide_eq_true h2)]); (try rw [show ((decide (s.a0 = t.a0)) && (decide (s.a1 = t.a1))) = false from h3]); (try rfl)), M.mask [true, true] rfl⟩
   replace h2 := of_decide_eq_false h2
   refine lp T (wn9 rfl rfl (T.ev 0 rfl) (decide_eq_false h2)) ?_; clear T ac; intro ac T
   refine lp T (wn9 rfl rfl (T.ev 1 rfl) (decide_eq_false h2)) ?_; clear T ac; intro ac T
   refine lp T (wn9 rfl rfl (T.ev 2 rfl) (decide_eq_false h2)) ?_; clear T ac; intro ac T
   refine lp T (wn9 rfl rfl (T.ev 3 rfl) (decide_eq_false h2)) ?_; clear T ac; intro ac T
   refine lp T (wn9 rfl rfl (T.ev 4 rfl) (decide_eq_false h2)) ?_; clear T ac; intro ac T
   refine lq T (rn_pick0 rfl (T.ev 5 rfl) (decide_eq_false h2) evc) ?_; clear T ac; intro ac T
   refine lq T (rm9 rfl (T.ev 0 rfl)) ?_; clear T ac; intro ac T
   refine lp T (wn9 rfl rfl (T.ev 0 rfl) rfl) ?_; clear T ac; intro ac T
   refine lp T (wn9 rfl rfl (T.ev 1 rfl) rfl) ?_; clear T ac; intro ac T
   refine lp T (wn9 rfl rfl (T.ev 2 rfl) rfl) ?_; clear T ac; intro ac T
   refine lp T (wn9 rfl rfl (T.ev 3 rfl) rfl) ?_; clear T ac; intro ac T
   refine lp T (wn9 rfl rfl (T.ev 4 rfl) rfl) ?_; clear T ac; intro ac T
   refine lq T (rn_pick0 rfl (T.ev 5 rfl) rfl evc) ?_; clear T ac; intro ac T
   refine lq T (rm9 rfl (T.ev 0 rfl)) ?_; clear T ac; intro ac T
   refine lp T (wn9 rfl rfl (T.ev 0 rfl) rfl) ?_; clear T ac; intro ac T
   refine lp T (wn9 rfl rfl (T.ev 1 rfl) rfl) ?_; clear T ac; intro ac T
   refine lp T (wn9 rfl rfl (T.ev 2 rfl) rfl) ?_; clear T ac; intro ac T
   refine lp T (wn9 rfl rfl (T.ev 3 rfl) rfl) ?_; clear T ac; intro ac T
   refine lp T (wn9 rfl rfl (T.ev 4 rfl) rfl) ?_; clear T ac; intro ac T
   refine lp T (wn9 rfl rfl (T.ev 5 rfl) rfl) ?_; clear T ac; intro ac T
   refine lp T (wn9 rfl rfl (T.ev 6 rfl) rfl) ?_; clear T ac; intro ac T
   refine lq T (rn_pick0 rfl (T.ev 7 rfl) rfl evc) ?_; clear T ac; intro ac T
   refine lq T (ra9 rfl (T.ev 0 rfl)) ?_; clear T ac; intro ac T
   refine wpList_nil ?_
   replace T := T.pick [0, 36, 37] rfl
   exact ⟨(T.pick (E' := [(2, .pointer (some ⟨g1, 0, none⟩)), (3, .pointer (some ⟨g2, 0, none⟩)), (5, .bool false)]) [2, 1, 0] rfl).as (by (try rw [show (decide (s.lo = t.lo)) = true from (decide_eq_true h1)]); (try rw [show (decide (s.wi = t.wi)) = false from (decide_eq_false h2)]); (try rfl)), M.mask [true, true] rfl⟩
  replace h1 := of_decide_eq_false h1
  refine lp T (wn9 rfl rfl (T.ev 0 rfl) (decide_eq_false h1)) ?_; clear T ac; intro ac T
  refine lp T (wn9 rfl rfl (T.ev 1 rfl) (decide_eq_false h1)) ?_; clear T ac; intro ac T
  refine lp T (wn9 rfl rfl (T.ev 2 rfl) (decide_eq_false h1)) ?_; clear T ac; intro ac T
  refine lp T (wn9 rfl rfl (T.ev 3 rfl) (decide_eq_false h1)) ?_; clear T ac; intro ac T
  refine lp T (wn9 rfl rfl (T.ev 4 rfl) (decide_eq_false h1)) ?_; clear T ac; intro ac T
  refine lq T (rn_pick0 rfl (T.ev 5 rfl) (decide_eq_false h1) evc) ?_; clear T ac; intro ac T
  refine lq T (rm9 rfl (T.ev 0 rfl)) ?_; clear T ac; intro ac T
  refine lp T (wn9 rfl rfl (T.ev 0 rfl) rfl) ?_; clear T ac; intro ac T
  refine lp T (wn9 rfl rfl (T.ev 1 rfl) rfl) ?_; clear T ac; intro ac T
  refine lp T (wn9 rfl rfl (T.ev 2 rfl) rfl) ?_; clear T ac; intro ac T
  refine lp T (wn9 rfl rfl (T.ev 3 rfl) rfl) ?_; clear T ac; intro ac T
  refine lp T (wn9 rfl rfl (T.ev 4 rfl) rfl) ?_; clear T ac; intro ac T
  refine lq T (rn_pick0 rfl (T.ev 5 rfl) rfl evc) ?_; clear T ac; intro ac T
  refine lq T (rm9 rfl (T.ev 0 rfl)) ?_; clear T ac; intro ac T
  refine lp T (wn9 rfl rfl (T.ev 0 rfl) rfl) ?_; clear T ac; intro ac T
  refine lp T (wn9 rfl rfl (T.ev 1 rfl) rfl) ?_; clear T ac; intro ac T
  refine lp T (wn9 rfl rfl (T.ev 2 rfl) rfl) ?_; clear T ac; intro ac T
  refine lp T (wn9 rfl rfl (T.ev 3 rfl) rfl) ?_; clear T ac; intro ac T
  refine lp T (wn9 rfl rfl (T.ev 4 rfl) rfl) ?_; clear T ac; intro ac T
  refine lq T (rn_pick0 rfl (T.ev 5 rfl) rfl evc) ?_; clear T ac; intro ac T
  refine lq T (rm9 rfl (T.ev 0 rfl)) ?_; clear T ac; intro ac T
  refine lp T (wn9 rfl rfl (T.ev 0 rfl) rfl) ?_; clear T ac; intro ac T
  refine lp T (wn9 rfl rfl (T.ev 1 rfl) rfl) ?_; clear T ac; intro ac T
  refine lp T (wn9 rfl rfl (T.ev 2 rfl) rfl) ?_; clear T ac; intro ac T
  refine lp T (wn9 rfl rfl (T.ev 3 rfl) rfl) ?_; clear T ac; intro ac T
  refine lp T (wn9 rfl rfl (T.ev 4 rfl) rfl) ?_; clear T ac; intro ac T
  refine lp T (wn9 rfl rfl (T.ev 5 rfl) rfl) ?_; clear T ac; intro ac T
  refine lp T (wn9 rfl rfl (T.ev 6 rfl) rfl) ?_; clear T ac; intro ac T
  refine lq T (rn_pick0 rfl (T.ev 7 rfl) rfl evc) ?_; clear T ac; intro ac T
  refine lq T (ra9 rfl (T.ev 0 rfl)) ?_; clear T ac; intro ac T
  refine wpList_nil ?_
  replace T := T.pick [0, 36, 37] rfl
  exact ⟨(T.pick (E' := [(2, .pointer (some ⟨g1, 0, none⟩)), (3, .pointer (some ⟨g2, 0, none⟩)), (5, .bool false)]) [2, 1, 0] rfl).as (by (try rw [show (decide (s.lo = t.lo)) = false from (decide_eq_false h1)]); (try rfl)), M.mask [true, true] rfl⟩
 clear T M
 rintro ac wc ⟨T, M⟩
 refine wp_seq ?_
 refine wp_seq ?_
 refine wp_region_lit ?_
 refine lq T (ra9 rfl evc) ?_; clear T ac; intro ac T
 refine wpList_nil ?_
 refine nt9 ?_
 refine wp_block ?_
 refine wp_loop_n (fun mz ac wc => ∃ (i : Nat) (sm : Bool), mz = s.ps.length - i ∧ (i ≤ s.ps.length) ∧ (sm = true ↔ eqF s t ∧ s.ps.take i = t.ps.take i) ∧ Tm ac 64 [(2, .pointer (some ⟨g1, 0, none⟩)), (3, .pointer (some ⟨g2, 0, none⟩)), (5, .bool sm), (6, .int .i64 (i : Int))] ∧ Mem w noEx wc [(g2, .cells [.int .i64 t.lo, .int .i64 t.wi, .int .i64 t.a0, .int .i64 t.a1, .int .i64 t.c0, .int .i64 t.c1, .slice B t.ps.length d]), (g1, .cells [.int .i64 s.lo, .int .i64 s.wi, .int .i64 s.a0, .int .i64 s.a1, .int .i64 s.c0, .int .i64 s.c1, .slice A s.ps.length c])]) ?_ ?_
 ·exact ⟨_, 0, _, rfl, (Nat.zero_le _), (by unfold eqF; simp [and_assoc, Int.natCast_inj]), T.pick [1, 2, 3, 0] rfl, M.mask [true, true] rfl⟩
 clear T M
 rintro mz ac wc ⟨i, sm, hmm1, hi, hs, T, M⟩
 refine wp_seq ?_
 refine cut_seq (fun ac wc => Tm ac 64 [(2, .pointer (some ⟨g1, 0, none⟩)), (3, .pointer (some ⟨g2, 0, none⟩)), (5, .bool sm), (6, .int .i64 (i : Int)), (49, .bool (sm && (decide ((i : Int) < ((s.ps.length : Nat) : Int)))))] ∧ Mem w noEx wc [(g2, .cells [.int .i64 t.lo, .int .i64 t.wi, .int .i64 t.a0, .int .i64 t.a1, .int .i64 t.c0, .int .i64 t.c1, .slice B t.ps.length d]), (g1, .cells [.int .i64 s.lo, .int .i64 s.wi, .int .i64 s.a0, .int .i64 s.a1, .int .i64 s.c0, .int .i64 s.c1, .slice A s.ps.length c])]) ?_ ?_
 ·refine wp_region_lit ?_
  refine lq T (rm9 rfl (T.ev 2 rfl)) ?_; clear T ac; intro ac T
  refine lq T (rm9 rfl (T.ev 0 rfl)) ?_; clear T ac; intro ac T
  rcases Bool.eq_false_or_eq_true sm with h5 | h5
  ·refine lw T (wy9 rfl rfl (T.ev 0 rfl) h5) (rm9 rfl (T.ev 5 rfl)) ?_; clear T ac; intro ac T
   refine lw (v := (.pointer (some ⟨g1, 6, none⟩))) T (wy9 rfl rfl (T.ev 1 rfl) h5) (rf9 (off := 6) rfl (T.ev 3 rfl) (fun _ _ _ => by kernel_rfl)) ?_; clear T ac; intro ac T
   refine lw T (wy9 rfl rfl (T.ev 2 rfl) h5) (rn_one (Mem.nth M 1 rfl) rfl (T.ev 0 rfl) rfl) ?_; clear T ac; intro ac T
   refine lw T (wy9 rfl rfl (T.ev 3 rfl) h5) (rn_lenS rfl Tryd.underlying24 (T.ev 0 rfl)) ?_; clear T ac; intro ac T
   refine lw T (wy9 rfl rfl (T.ev 4 rfl) h5) (rn_lss rfl (T.ev 3 rfl) (T.ev 0 rfl)) ?_; clear T ac; intro ac T
   refine lq T (rn_pick1 rfl (T.ev 5 rfl) h5 (T.ev 0 rfl)) ?_; clear T ac; intro ac T
   refine wpList_nil ?_
   replace T := T.pick [0, 1, 2, 3, 4, 5, 8, 9, 10, 11] rfl
   exact ⟨(T.pick (E' := [(2, .pointer (some ⟨g1, 0, none⟩)), (3, .pointer (some ⟨g2, 0, none⟩)), (5, .bool sm), (6, .int .i64 (i : Int)), (49, .bool (decide ((i : Int) < ((s.ps.length : Nat) : Int))))]) [6, 7, 8, 9, 0] rfl).as (by (try rw [show sm = true from h5]); (try rfl)), M.mask [true, true] rfl⟩
  refine lp T (wn9 rfl rfl (T.ev 0 rfl) h5) ?_; clear T ac; intro ac T
  refine lp T (wn9 rfl rfl (T.ev 1 rfl) h5) ?_; clear T ac; intro ac T
  refine lp T (wn9 rfl rfl (T.ev 2 rfl) h5) ?_; clear T ac; intro ac T
  refine lp T (wn9 rfl rfl (T.ev 3 rfl) h5) ?_; clear T ac; intro ac T
  refine lp T (wn9 rfl rfl (T.ev 4 rfl) h5) ?_; clear T ac; intro ac T
  refine lq T (rn_pick0 rfl (T.ev 5 rfl) h5 evc) ?_; clear T ac; intro ac T
  refine wpList_nil ?_
  replace T := T.pick [0, 1, 2, 3, 4, 5, 8, 9, 10, 11] rfl
  exact ⟨(T.pick (E' := [(2, .pointer (some ⟨g1, 0, none⟩)), (3, .pointer (some ⟨g2, 0, none⟩)), (5, .bool sm), (6, .int .i64 (i : Int)), (49, .bool false)]) [6, 7, 8, 9, 0] rfl).as (by (try rw [show sm = false from h5]); (try rfl)), M.mask [true, true] rfl⟩
 clear T M
 rintro ac wc ⟨T, M⟩
 refine wp_cond_split (T.ev 4 rfl) ?_ ?_
 ·intro h6
  (try have h6' := h6; try simp only [Bool.and_eq_true, Bool.or_eq_true, Bool.not_eq_true', Bool.and_eq_false_imp, Bool.or_eq_false_iff, decide_eq_true_eq, decide_eq_false_iff_not] at h6')
  have hlr : sm = true ∧ i < s.ps.length := by simpa using h6
  have heF := (hs.1 hlr.1).1
  have hlen := heF.2.2.2.2
  have htk := (hs.1 hlr.1).2
  obtain ⟨p, hkp, -⟩ := pc_next (l := s.ps) (k := i) (by omega)
  obtain ⟨q, hkq, -⟩ := pc_next (l := t.ps) (k := i) (by omega)
  refine wp_skip ?_
  refine nt9 ?_
  refine wp_seq ?_
  refine wp_block ?_
  refine g_start2 M (M.mask [true, true] rfl) 12 (by kernel_rfl) rfl (by kernel_rfl) ?_
  clear M; intro wc M
  refine gq (v := (.pointer (some ⟨g1, 6, none⟩))) T 0 1 rfl (fun _ _ _ _ _ => (rf9 (off := 6) rfl (T.ev 0 rfl) (fun _ _ _ => by kernel_rfl))) ?_; clear T ac; intro ac T
  refine gq T 1 3 rfl (fun B w' hD hl hS => (rn_one (Mem.nth (show Mem w noEx w' _ from hS) 1 rfl) rfl (T.ev 0 rfl) rfl)) ?_; clear T ac; intro ac T
  refine gq T 2 7 rfl (fun _ _ _ _ _ => (rm9 rfl (T.ev 5 rfl))) ?_; clear T ac; intro ac T
  refine gq T 3 15 rfl (fun _ _ _ _ _ => (rn_indexAddr (size := 4) i rfl (T.ev 1 rfl) (T.ev 0 rfl) ⟨_, Tryd.underlying24, by kernel_rfl⟩ rfl (by omega) (SA.at0 (by omega)))) ?_; clear T ac; intro ac T
  refine gq (v := (.agg #[.int .i64 p.l, .int .i64 p.w, .bool p.gr, .int .i64 p.pa])) T 4 31 rfl (fun B w' hD hl hS => (rn_rowat (Sp.pcR SA (show Mem w noEx w' _ from hS) (List.nil_sublist _) hkp) rfl (T.ev 0 rfl) rfl)) ?_; clear T ac; intro ac T
  refine gq (v := (.pointer (some ⟨g2, 6, none⟩))) T 5 63 rfl (fun _ _ _ _ _ => (rf9 (off := 6) rfl (T.ev 6 rfl) (fun _ _ _ => by kernel_rfl))) ?_; clear T ac; intro ac T
  refine gq T 6 127 rfl (fun B w' hD hl hS => (rn_one (Mem.nth (show Mem w noEx w' _ from hS) 0 rfl) rfl (T.ev 0 rfl) rfl)) ?_; clear T ac; intro ac T
  refine gq T 7 255 rfl (fun _ _ _ _ _ => (rm9 rfl (T.ev 10 rfl))) ?_; clear T ac; intro ac T
  refine gq T 8 511 rfl (fun _ _ _ _ _ => (rn_indexAddr (size := 4) i rfl (T.ev 1 rfl) (T.ev 0 rfl) ⟨_, Tryd.underlying24, by kernel_rfl⟩ rfl (by omega) (SB.at0 (by omega)))) ?_; clear T ac; intro ac T
  refine gq (v := (.agg #[.int .i64 q.l, .int .i64 q.w, .bool q.gr, .int .i64 q.pa])) T 9 1023 rfl (fun B w' hD hl hS => (rn_rowat (Sp.pcR SB (show Mem w noEx w' _ from hS) (List.nil_sublist _) hkq) rfl (T.ev 0 rfl) rfl)) ?_; clear T ac; intro ac T
  refine gq (v := (.bool ((decide (p.l = q.l)) && ((decide (p.w = q.w)) && ((decide (p.gr = q.gr)) && (decide (p.pa = q.pa))))))) T 10 2047 rfl (fun _ _ _ _ _ => (rn_bin rfl (T.ev 5 rfl) (T.ev 0 rfl) eqT63)) ?_; clear T ac; intro ac T
  refine g_q (v := (.bool ((decide (p.l = q.l)) && ((decide (p.w = q.w)) && ((decide (p.gr = q.gr)) && (decide (p.pa = q.pa))))))) (T := T.pick [0, 1, 2, 3, 4, 5, 6, 7, 8, 9, 10, 11, 12, 14, 15] rfl) (i := 11) rfl (by kernel_rfl) (by kernel_rfl : (pbits 12 2047).setIfInBounds 11 true = pbits 12 4095) si_U (fun _ _ _ h => h) rfl rfl rfl rfl (fun _ _ _ _ _ => (ra9 rfl (T.ev 0 rfl))) ?_; clear T ac; intro ac T
  refine g_done (by kernel_rfl) ?_
  replace T := T.pick [0, 12, 13, 14] rfl
  refine nm_blk ?_
  refine nt9 ?_
  refine wp_region_lit ?_
  refine lq T (rm9 rfl (T.ev 3 rfl)) ?_; clear T ac; intro ac T
  refine lq T (rn_add rfl (T.ev 0 rfl) evc (by omega)) ?_; clear T ac; intro ac T
  refine l_q (v := (.int .i64 ((i : Int) + 1))) (T.pick [0, 1, 2, 3, 4] rfl) rfl rfl rfl rfl (ra9 rfl (T.ev 0 rfl)) ?_; clear T ac; intro ac T
  refine wpList_nil ?_
  replace T := T.pick [0, 3, 4, 5] rfl
  refine nt9 ?_
  exact ⟨_, by omega, i + 1, ((decide (p.l = q.l)) && ((decide (p.w = q.w)) && ((decide (p.gr = q.gr)) && (decide (p.pa = q.pa))))), rfl, (by omega), (by rw [take_same hkp hkq]; cases p; cases q; simp [heF, htk]), T.pick [2, 3, 1, 0] rfl, M.mask [true, true] rfl⟩
 intro h6
 (try have h6' := h6; try simp only [Bool.and_eq_true, Bool.or_eq_true, Bool.not_eq_true', Bool.and_eq_false_imp, Bool.or_eq_false_iff, decide_eq_true_eq, decide_eq_false_iff_not] at h6')
 refine wp_exit ?_
 refine ex_then ?_
 refine ex_then ?_
 refine ex_hit ?_
 refine nt9 ?_
 refine wp_seq ?_
 refine wp_region_lit ?_
 refine lq T (rm9 rfl (T.ev 2 rfl)) ?_; clear T ac; intro ac T
 refine lq T (ra9 rfl (T.ev 0 rfl)) ?_; clear T ac; intro ac T
 refine wpList_nil ?_
 replace T := T.pick [0] rfl
 replace M := M.mask [false, false] rfl
 refine nt9 ?_
 refine wp_ret ?_
 refine rt_1 T rfl (T.ev 0 rfl) ?_
 have e9 : sm = decide (s = t) := by
   rw [Bool.eq_iff_iff, decide_eq_true_eq]
   constructor
   · intro hsm
     obtain ⟨⟨k1, k2, ⟨k3, k4⟩, ⟨k5, k6⟩, k7⟩, k8⟩ := hs.1 hsm
     have hi9 : ¬ i < s.ps.length := by simpa [hsm] using h6
     rw [List.take_of_length_le (by omega), List.take_of_length_le (by omega)] at k8
     cases s; cases t; simp_all
   · rintro rfl
     exact hs.2 ⟨⟨rfl, rfl, ⟨rfl, rfl⟩, ⟨rfl, rfl⟩, rfl⟩, rfl⟩
 rw [e9]
 exact ⟨rfl, M.below⟩
def szE (s : Sk) (k : Int) (t : Bool) : Int := if skErr s ≠ 0 then skErr s else if ¬ (0 ≤ k ∧ k ≤ (s.ps.length : Int) - 1) then 3 else if (t && (s.ps.getD k.toNat default).gr) = true then 8 else 0
def szL (s : Sk) (k : Int) (t su : Bool) : Int := if szE s k t ≠ 0 then 0 else sizeL (cutA s su) (cutC s su) (s.ps.getD k.toNat default) t
def szW (s : Sk) (k : Int) (t su : Bool) : Int := if szE s k t ≠ 0 then 0 else sizeW (cutA s su) (cutC s su) (s.ps.getD k.toNat default) t
end Go.Proofs.YtehpcclfgjccbaaDoor
end

section
/-
 sheet's law: blanks that cost a sheet.
-/
namespace Go.Proofs.YtehpcclfgjccbaaDoor
set_option linter.unusedSimpArgs false
set_option linter.unusedVariables false
open Go.RowKit
def SkPost (s : Sk) (w : World) (e : Ending) (w' : World) : Prop := ∃ A c I, e = .returned (.agg #[.int .i64 s.lo, .int .i64 s.wi, .int .i64 s.a0, .int .i64 s.a1, .int .i64 s.c0, .int .i64 s.c1, .slice A s.ps.length c]) ∧ s.ps.length ≤ c ∧ (∃ b o, ∀ (w : World) (ex : Nat → Prop), Sp w ex I A s.ps.length 4 b o (pc s.ps)) ∧ Mem w noEx w' I
end Go.Proofs.YtehpcclfgjccbaaDoor
end

section
/-
 sheet's law: room for more blanks.
-/
namespace Go.Proofs.YtehpcclfgjccbaaDoor
set_option linter.unusedSimpArgs false
set_option linter.unusedVariables false
open Go.RowKit
end Go.Proofs.YtehpcclfgjccbaaDoor
end

section
/-
 sheet: Turn; its law.
-/
namespace Go.Proofs.YtehpcclfgjccbaaDoor
set_option linter.unusedSimpArgs false
set_option linter.unusedVariables false
open Go.RowKit
def trnZ (s : Sk) : Sk := if skErr s = 0 then trnS s else ⟨0, 0, 0, 0, 0, 0, []⟩
def TrnPost (t : Sk) (er : Int) (w : World) (e : Ending) (w' : World) : Prop := ∃ A c I, e = .returned (.tuple #[.agg #[.int .i64 t.lo, .int .i64 t.wi, .int .i64 t.a0, .int .i64 t.a1, .int .i64 t.c0, .int .i64 t.c1, .slice A t.ps.length c], .int .i64 er]) ∧ t.ps.length ≤ c ∧ (∃ b o, ∀ (w : World) (ex : Nat → Prop), Sp w ex I A t.ps.length 4 b o (pc t.ps)) ∧ Mem w noEx w' I
end Go.Proofs.YtehpcclfgjccbaaDoor
end

section
/-
 ref8: Check, Size.
-/
namespace Go.Proofs.YtehpcclfgjccbaaDoor
set_option linter.unusedSimpArgs false
set_option linter.unusedVariables false
open Go.RowKit
theorem fits8_any (n lo hi : Int) (w : World)  :
   Calls Tryd.prog 75 #[.int .i64 n, .int .i64 lo, .int .i64 hi] w fun e w' => e = .returned (.bool (withinB n lo hi)) ∧ Below w.heap.size w w' := by
 refine px_enter noEx Tryd.func75 rfl 15 rfl [.int .i64 n, .int .i64 lo, .int .i64 hi] rfl rfl (Mem.init w _) ?_
 intro ac wc T M
 refine wp_seq ?_
 refine wp_region_lit ?_
 refine lq T (ra9 rfl evc) ?_; clear T ac; intro ac T
 refine wpList_nil ?_
 replace T := T.pick [1, 2, 3] rfl
 refine nt9 ?_
 refine cut_seq (fun ac wc => Tm ac 15 [(6, .bool ((decide (lo ≤ n)) && (decide (n ≤ hi))))] ∧ Mem w noEx wc []) ?_ ?_
 ·refine wp_region_lit ?_
  refine lq T (rm9 rfl (T.ev 1 rfl)) ?_; clear T ac; intro ac T
  refine lq T (rm9 rfl (T.ev 1 rfl)) ?_; clear T ac; intro ac T
  refine lq T (rn_leq rfl (T.ev 1 rfl) (T.ev 0 rfl)) ?_; clear T ac; intro ac T
  refine lq T (rm9 rfl (T.ev 0 rfl)) ?_; clear T ac; intro ac T
  rcases Bool.eq_false_or_eq_true (decide (lo ≤ n)) with h1 | h1
  ·replace h1 := of_decide_eq_true h1
   refine lw T (wy9 rfl rfl (T.ev 0 rfl) (decide_eq_true h1)) (rm9 rfl (T.ev 4 rfl)) ?_; clear T ac; intro ac T
   refine lw T (wy9 rfl rfl (T.ev 1 rfl) (decide_eq_true h1)) (rm9 rfl (T.ev 7 rfl)) ?_; clear T ac; intro ac T
   refine lw T (wy9 rfl rfl (T.ev 2 rfl) (decide_eq_true h1)) (rn_leq rfl (T.ev 1 rfl) (T.ev 0 rfl)) ?_; clear T ac; intro ac T
   refine lq T (rn_pick1 rfl (T.ev 3 rfl) (decide_eq_true h1) (T.ev 0 rfl)) ?_; clear T ac; intro ac T
   refine lq T (ra9 rfl (T.ev 0 rfl)) ?_; clear T ac; intro ac T
   refine wpList_nil ?_
   replace T := T.pick [0] rfl
   exact ⟨(T.pick (E' := [(6, .bool (decide (n ≤ hi)))]) [0] rfl).as (by (try rw [show (decide (lo ≤ n)) = true from (decide_eq_true h1)]); (try rfl)), M.mask [] rfl⟩
  replace h1 := of_decide_eq_false h1
  refine lp T (wn9 rfl rfl (T.ev 0 rfl) (decide_eq_false h1)) ?_; clear T ac; intro ac T
  refine lp T (wn9 rfl rfl (T.ev 1 rfl) (decide_eq_false h1)) ?_; clear T ac; intro ac T
  refine lp T (wn9 rfl rfl (T.ev 2 rfl) (decide_eq_false h1)) ?_; clear T ac; intro ac T
  refine lq T (rn_pick0 rfl (T.ev 3 rfl) (decide_eq_false h1) evc) ?_; clear T ac; intro ac T
  refine lq T (ra9 rfl (T.ev 0 rfl)) ?_; clear T ac; intro ac T
  refine wpList_nil ?_
  replace T := T.pick [0] rfl
  exact ⟨(T.pick (E' := [(6, .bool false)]) [0] rfl).as (by (try rw [show (decide (lo ≤ n)) = false from (decide_eq_false h1)]); (try rfl)), M.mask [] rfl⟩
 clear T M
 rintro ac wc ⟨T, M⟩
 refine wp_ret ?_
 refine rt_1 T rfl (T.ev 0 rfl) ?_
 exact ⟨ret_bool (by unfold withinB; simp), M.below⟩
theorem checkShrink8_any (x y : Int) (w : World)  :
   Calls Tryd.prog 96 #[.agg #[.int .i64 x, .int .i64 y]] w fun e w' => e = .returned (.int .i64 (chkR x y 0 2)) ∧ Below w.heap.size w w' := by
 refine px_enter noEx Tryd.func96 rfl 18 rfl [.agg #[.int .i64 x, .int .i64 y]] rfl rfl (Mem.init w _) ?_
 intro ac wc T M
 refine wp_seq ?_
 refine wp_region_lit ?_
 refine l_w rfl ?_; intro K hK
 refine ow_bx M T rfl rfl rfl rfl (T.ev 0 rfl) rfl ?_; clear M T; intro g1 wc ac M T
 refine so9 hK _ _ ?_; clear hK K
 refine lq T (ra9 rfl evc) ?_; clear T ac; intro ac T
 refine wpList_nil ?_
 replace T := T.pick [1] rfl
 refine nt9 ?_
 refine wp_seq ?_
 refine cut_seq (fun ac wc => Tm ac 18 [(1, .pointer (some ⟨g1, 0, none⟩)), (12, .bool ((!(withinB x 0 2)) || (!(withinB y 0 2))))] ∧ Mem w noEx wc [(g1, .cells [.int .i64 x, .int .i64 y])]) ?_ ?_
 ·refine wp_region_lit ?_
  refine lq (v := (.pointer (some ⟨g1, 0, none⟩))) T (rf9 (off := 0) rfl (T.ev 0 rfl) (fun _ _ _ => by kernel_rfl)) ?_; clear T ac; intro ac T
  refine lq T (rn_one (Mem.nth M 0 rfl) rfl (T.ev 0 rfl) rfl) ?_; clear T ac; intro ac T
  refine l_w rfl ?_; intro K hK
  refine oc9 (first := []) (cap := []) T rfl rfl rfl rfl evf (.cons (T.ev 0 rfl) (.cons evc (.cons evc .nil))) Tryd.func75 rfl rfl ?_
  refine Calls.mono (fits8_any x 0 2 _) ?_
  clear T
  rintro e wc ⟨rfl, hb⟩
  intro ac T
  replace M := M.call hb; clear hb
  refine so9 hK _ _ ?_; clear hK K
  refine lq T (rn_not rfl (T.ev 0 rfl)) ?_; clear T ac; intro ac T
  refine lq T (rm9 rfl (T.ev 0 rfl)) ?_; clear T ac; intro ac T
  rcases Bool.eq_false_or_eq_true (!(withinB x 0 2)) with h1 | h1
  ·refine lp T (wn9 rfl rfl (T.ev 0 rfl) h1) ?_; clear T ac; intro ac T
   refine lp T (wn9 rfl rfl (T.ev 1 rfl) h1) ?_; clear T ac; intro ac T
   refine lp T (wn9 rfl rfl (T.ev 2 rfl) h1) ?_; clear T ac; intro ac T
   refine lp T (wn9 rfl rfl (T.ev 3 rfl) h1) ?_; clear T ac; intro ac T
   refine lq T (rn_pick1 rfl (T.ev 4 rfl) h1 evc) ?_; clear T ac; intro ac T
   refine wpList_nil ?_
   replace T := T.pick [0, 10] rfl
   exact ⟨(T.pick (E' := [(1, .pointer (some ⟨g1, 0, none⟩)), (12, .bool true)]) [1, 0] rfl).as (by (try rw [show (!(withinB x 0 2)) = true from h1]); (try rfl)), M.mask [true] rfl⟩
  refine lw (v := (.pointer (some ⟨g1, 1, none⟩))) T (wy9 rfl rfl (T.ev 0 rfl) h1) (rf9 (off := 1) rfl (T.ev 5 rfl) (fun _ _ _ => by kernel_rfl)) ?_; clear T ac; intro ac T
  refine lw T (wy9 rfl rfl (T.ev 1 rfl) h1) (rn_one (Mem.nth M 0 rfl) rfl (T.ev 0 rfl) rfl) ?_; clear T ac; intro ac T
  refine l_w (wy9 rfl rfl (T.ev 2 rfl) h1) ?_; intro K hK
  refine oc9 (first := []) (cap := []) T rfl rfl rfl rfl evf (.cons (T.ev 0 rfl) (.cons evc (.cons evc .nil))) Tryd.func75 rfl rfl ?_
  refine Calls.mono (fits8_any y 0 2 _) ?_
  clear T
  rintro e wc ⟨rfl, hb⟩
  intro ac T
  replace M := M.call hb; clear hb
  refine so9 hK _ _ ?_; clear hK K
  refine lw T (wy9 rfl rfl (T.ev 3 rfl) h1) (rn_not rfl (T.ev 0 rfl)) ?_; clear T ac; intro ac T
  refine lq T (rn_pick0 rfl (T.ev 4 rfl) h1 (T.ev 0 rfl)) ?_; clear T ac; intro ac T
  refine wpList_nil ?_
  replace T := T.pick [0, 10] rfl
  exact ⟨(T.pick (E' := [(1, .pointer (some ⟨g1, 0, none⟩)), (12, .bool (!(withinB y 0 2)))]) [1, 0] rfl).as (by (try rw [show (!(withinB x 0 2)) = false from h1]); (try rfl)), M.mask [true] rfl⟩
 clear T M
 rintro ac wc ⟨T, M⟩
 refine wp_cond_split (T.ev 1 rfl) ?_ ?_
 ·intro h2
  (try have h2' := h2; try simp only [Bool.and_eq_true, Bool.or_eq_true, Bool.not_eq_true', Bool.and_eq_false_imp, Bool.or_eq_false_iff, decide_eq_true_eq, decide_eq_false_iff_not] at h2')
  refine wp_seq ?_
  refine wp_region_lit ?_
  refine lq T (ra9 rfl evc) ?_; clear T ac; intro ac T
  refine wpList_nil ?_
  replace T := T.pick [0] rfl
  replace M := M.mask [false] rfl
  refine nt9 ?_
  refine wp_ret ?_
  refine rt_then ?_
  refine rt_1 T rfl (T.ev 0 rfl) ?_
  refine ⟨ret_int ?_, M.below⟩
  unfold chkR
  (repeat' split) <;> first | rfl | omega | contradiction | (simp_all; done) | (simp_all; omega)
 intro h2
 (try have h2' := h2; try simp only [Bool.and_eq_true, Bool.or_eq_true, Bool.not_eq_true', Bool.and_eq_false_imp, Bool.or_eq_false_iff, decide_eq_true_eq, decide_eq_false_iff_not] at h2')
 refine wp_skip ?_
 refine nt9 ?_
 refine wp_seq ?_
 refine wp_seq ?_
 refine wp_region_lit ?_
 refine lq (v := (.pointer (some ⟨g1, 0, none⟩))) T (rf9 (off := 0) rfl (T.ev 0 rfl) (fun _ _ _ => by kernel_rfl)) ?_; clear T ac; intro ac T
 refine lq T (rn_one (Mem.nth M 0 rfl) rfl (T.ev 0 rfl) rfl) ?_; clear T ac; intro ac T
 refine lq (v := (.pointer (some ⟨g1, 1, none⟩))) T (rf9 (off := 1) rfl (T.ev 2 rfl) (fun _ _ _ => by kernel_rfl)) ?_; clear T ac; intro ac T
 refine lq T (rn_one (Mem.nth M 0 rfl) rfl (T.ev 0 rfl) rfl) ?_; clear T ac; intro ac T
 refine lq T (rn_gtr rfl (T.ev 2 rfl) (T.ev 0 rfl)) ?_; clear T ac; intro ac T
 refine wpList_nil ?_
 replace T := T.pick [0] rfl
 replace M := M.mask [false] rfl
 refine nt9 ?_
 refine wp_if (T.ev 0 rfl) ?_ ?_
 ·intro h3
  refine wp_seq ?_
  refine wp_region_lit ?_
  refine lq T (ra9 rfl evc) ?_; clear T ac; intro ac T
  refine wpList_nil ?_
  replace T := T.pick [0] rfl
  refine nt9 ?_
  refine wp_ret ?_
  refine rt_then ?_
  refine rt_1 T rfl (T.ev 0 rfl) ?_
  refine ⟨ret_int ?_, M.below⟩
  unfold chkR
  (repeat' split) <;> first | rfl | omega | contradiction | (simp_all; done) | (simp_all; omega)
 intro h3
 refine wp_skip ?_
 refine nt9 ?_
 refine wp_seq ?_
 refine wp_region_lit ?_
 refine lq T (ra9 rfl evc) ?_; clear T ac; intro ac T
 refine wpList_nil ?_
 replace T := T.pick [0] rfl
 refine nt9 ?_
 refine wp_ret ?_
 refine rt_1 T rfl (T.ev 0 rfl) ?_
 refine ⟨ret_int ?_, M.below⟩
 unfold chkR
 (repeat' split) <;> first | rfl | omega | contradiction | (simp_all; done) | (simp_all; omega)
theorem checkPart8_any (p : Pt) (w : World)  :
   Calls Tryd.prog 93 #[.agg #[.int .i64 p.l, .int .i64 p.w, .bool p.gr, .int .i64 p.pa]] w fun e w' => e = .returned (.int .i64 (ptErr p)) ∧ Below w.heap.size w w' := by
 refine px_enter noEx Tryd.func93 rfl 19 rfl [.agg #[.int .i64 p.l, .int .i64 p.w, .bool p.gr, .int .i64 p.pa]] rfl rfl (Mem.init w _) ?_
 intro ac wc T M
 refine wp_seq ?_
 refine wp_region_lit ?_
 refine l_w rfl ?_; intro K hK
 refine ow_bx M T rfl rfl rfl rfl (T.ev 0 rfl) rfl ?_; clear M T; intro g1 wc ac M T
 refine so9 hK _ _ ?_; clear hK K
 refine lq T (ra9 rfl evc) ?_; clear T ac; intro ac T
 refine wpList_nil ?_
 replace T := T.pick [1] rfl
 refine nt9 ?_
 refine wp_seq ?_
 refine cut_seq (fun ac wc => Tm ac 19 [(18, .bool ((!(withinB p.l 1 12)) || ((!(withinB p.w 1 12)) || (!(withinB p.pa 0 3)))))] ∧ Mem w noEx wc []) ?_ ?_
 ·refine wp_region_lit ?_
  refine lq (v := (.pointer (some ⟨g1, 0, none⟩))) T (rf9 (off := 0) rfl (T.ev 0 rfl) (fun _ _ _ => by kernel_rfl)) ?_; clear T ac; intro ac T
  refine lq T (rn_one (Mem.nth M 0 rfl) rfl (T.ev 0 rfl) rfl) ?_; clear T ac; intro ac T
  refine l_w rfl ?_; intro K hK
  refine oc9 (first := []) (cap := []) T rfl rfl rfl rfl evf (.cons (T.ev 0 rfl) (.cons evc (.cons evc .nil))) Tryd.func75 rfl rfl ?_
  refine Calls.mono (fits8_any p.l 1 12 _) ?_
  clear T
  rintro e wc ⟨rfl, hb⟩
  intro ac T
  replace M := M.call hb; clear hb
  refine so9 hK _ _ ?_; clear hK K
  refine lq T (rn_not rfl (T.ev 0 rfl)) ?_; clear T ac; intro ac T
  refine lq T (rm9 rfl (T.ev 0 rfl)) ?_; clear T ac; intro ac T
  rcases Bool.eq_false_or_eq_true (!(withinB p.l 1 12)) with h1 | h1
  ·refine lp T (wn9 rfl rfl (T.ev 0 rfl) h1) ?_; clear T ac; intro ac T
   refine lp T (wn9 rfl rfl (T.ev 1 rfl) h1) ?_; clear T ac; intro ac T
   refine lp T (wn9 rfl rfl (T.ev 2 rfl) h1) ?_; clear T ac; intro ac T
   refine lp T (wn9 rfl rfl (T.ev 3 rfl) h1) ?_; clear T ac; intro ac T
   refine lq T (rn_pick1 rfl (T.ev 4 rfl) h1 evc) ?_; clear T ac; intro ac T
   refine lq T (rm9 rfl (T.ev 0 rfl)) ?_; clear T ac; intro ac T
   refine lp T (wn9 rfl rfl (T.ev 0 rfl) rfl) ?_; clear T ac; intro ac T
   refine lp T (wn9 rfl rfl (T.ev 1 rfl) rfl) ?_; clear T ac; intro ac T
   refine lp T (wn9 rfl rfl (T.ev 2 rfl) rfl) ?_; clear T ac; intro ac T
   refine lp T (wn9 rfl rfl (T.ev 3 rfl) rfl) ?_; clear T ac; intro ac T
   refine lq T (rn_pick1 rfl (T.ev 4 rfl) rfl evc) ?_; clear T ac; intro ac T
   refine wpList_nil ?_
   replace T := T.pick [0] rfl
   replace M := M.mask [false] rfl
   exact ⟨(T.pick (E' := [(18, .bool true)]) [0] rfl).as (by (try rw [show (!(withinB p.l 1 12)) = true from h1]); (try rfl)), M.mask [] rfl⟩
  refine lw (v := (.pointer (some ⟨g1, 1, none⟩))) T (wy9 rfl rfl (T.ev 0 rfl) h1) (rf9 (off := 1) rfl (T.ev 5 rfl) (fun _ _ _ => by kernel_rfl)) ?_; clear T ac; intro ac T
  refine lw T (wy9 rfl rfl (T.ev 1 rfl) h1) (rn_one (Mem.nth M 0 rfl) rfl (T.ev 0 rfl) rfl) ?_; clear T ac; intro ac T
  refine l_w (wy9 rfl rfl (T.ev 2 rfl) h1) ?_; intro K hK
  refine oc9 (first := []) (cap := []) T rfl rfl rfl rfl evf (.cons (T.ev 0 rfl) (.cons evc (.cons evc .nil))) Tryd.func75 rfl rfl ?_
  refine Calls.mono (fits8_any p.w 1 12 _) ?_
  clear T
  rintro e wc ⟨rfl, hb⟩
  intro ac T
  replace M := M.call hb; clear hb
  refine so9 hK _ _ ?_; clear hK K
  refine lw T (wy9 rfl rfl (T.ev 3 rfl) h1) (rn_not rfl (T.ev 0 rfl)) ?_; clear T ac; intro ac T
  refine lq T (rn_pick0 rfl (T.ev 4 rfl) h1 (T.ev 0 rfl)) ?_; clear T ac; intro ac T
  refine lq T (rm9 rfl (T.ev 0 rfl)) ?_; clear T ac; intro ac T
  rcases Bool.eq_false_or_eq_true (!(withinB p.w 1 12)) with h2 | h2
  ·refine lp T (wn9 rfl rfl (T.ev 0 rfl) h2) ?_; clear T ac; intro ac T
   refine lp T (wn9 rfl rfl (T.ev 1 rfl) h2) ?_; clear T ac; intro ac T
   refine lp T (wn9 rfl rfl (T.ev 2 rfl) h2) ?_; clear T ac; intro ac T
   refine lp T (wn9 rfl rfl (T.ev 3 rfl) h2) ?_; clear T ac; intro ac T
   refine lq T (rn_pick1 rfl (T.ev 4 rfl) h2 evc) ?_; clear T ac; intro ac T
   refine wpList_nil ?_
   replace T := T.pick [0] rfl
   replace M := M.mask [false] rfl
   exact ⟨(T.pick (E' := [(18, .bool true)]) [0] rfl).as (by (try rw [show (!(withinB p.l 1 12)) = false from h1]); (try rw [show (!(withinB p.w 1 12)) = true from h2]); (try rfl)), M.mask [] rfl⟩
  refine lw (v := (.pointer (some ⟨g1, 3, none⟩))) T (wy9 rfl rfl (T.ev 0 rfl) h2) (rf9 (off := 3) rfl (T.ev 11 rfl) (fun _ _ _ => by kernel_rfl)) ?_; clear T ac; intro ac T
  refine lw T (wy9 rfl rfl (T.ev 1 rfl) h2) (rn_one (Mem.nth M 0 rfl) rfl (T.ev 0 rfl) rfl) ?_; clear T ac; intro ac T
  refine l_w (wy9 rfl rfl (T.ev 2 rfl) h2) ?_; intro K hK
  refine oc9 (first := []) (cap := []) T rfl rfl rfl rfl evf (.cons (T.ev 0 rfl) (.cons evc (.cons evc .nil))) Tryd.func75 rfl rfl ?_
  refine Calls.mono (fits8_any p.pa 0 3 _) ?_
  clear T
  rintro e wc ⟨rfl, hb⟩
  intro ac T
  replace M := M.call hb; clear hb
  refine so9 hK _ _ ?_; clear hK K
  refine lw T (wy9 rfl rfl (T.ev 3 rfl) h2) (rn_not rfl (T.ev 0 rfl)) ?_; clear T ac; intro ac T
  refine lq T (rn_pick0 rfl (T.ev 4 rfl) h2 (T.ev 0 rfl)) ?_; clear T ac; intro ac T
  refine wpList_nil ?_
  replace T := T.pick [0] rfl
  replace M := M.mask [false] rfl
  exact ⟨(T.pick (E' := [(18, .bool (!(withinB p.pa 0 3)))]) [0] rfl).as (by (try rw [show (!(withinB p.l 1 12)) = false from h1]); (try rw [show (!(withinB p.w 1 12)) = false from h2]); (try rfl)), M.mask [] rfl⟩
 clear T M
 rintro ac wc ⟨T, M⟩
 refine wp_cond_split (T.ev 0 rfl) ?_ ?_
 ·intro h3
  (try have h3' := h3; try simp only [Bool.and_eq_true, Bool.or_eq_true, Bool.not_eq_true', Bool.and_eq_false_imp, Bool.or_eq_false_iff, decide_eq_true_eq, decide_eq_false_iff_not] at h3')
  refine wp_seq ?_
  refine wp_region_lit ?_
  refine lq T (ra9 rfl evc) ?_; clear T ac; intro ac T
  refine wpList_nil ?_
  replace T := T.pick [0] rfl
  refine nt9 ?_
  refine wp_ret ?_
  refine rt_then ?_
  refine rt_1 T rfl (T.ev 0 rfl) ?_
  refine ⟨ret_int ?_, M.below⟩
  unfold ptErr
  rcases Bool.eq_false_or_eq_true (withinB p.l 1 12) with a1 | a1 <;> rcases Bool.eq_false_or_eq_true (withinB p.w 1 12) with a2 | a2 <;> rcases Bool.eq_false_or_eq_true (withinB p.pa 0 3) with a3 | a3 <;> simp_all
 intro h3
 (try have h3' := h3; try simp only [Bool.and_eq_true, Bool.or_eq_true, Bool.not_eq_true', Bool.and_eq_false_imp, Bool.or_eq_false_iff, decide_eq_true_eq, decide_eq_false_iff_not] at h3')
 refine wp_skip ?_
 refine nt9 ?_
 refine wp_seq ?_
 refine wp_region_lit ?_
 refine lq T (ra9 rfl evc) ?_; clear T ac; intro ac T
 refine wpList_nil ?_
 replace T := T.pick [0] rfl
 refine nt9 ?_
 refine wp_ret ?_
 refine rt_1 T rfl (T.ev 0 rfl) ?_
 refine ⟨ret_int ?_, M.below⟩
 unfold ptErr
 rcases Bool.eq_false_or_eq_true (withinB p.l 1 12) with a1 | a1 <;> rcases Bool.eq_false_or_eq_true (withinB p.w 1 12) with a2 | a2 <;> rcases Bool.eq_false_or_eq_true (withinB p.pa 0 3) with a3 | a3 <;> simp_all
theorem skCheck8_any (s : Sk) (A : Option Addr) (c : Nat)  (w : World) (hA : Rd w w.heap.size 4 A s.ps.length (pc s.ps)) (nA : s.ps.length ≤ 1000000)  :
   Calls Tryd.prog 61 #[.agg #[.int .i64 s.lo, .int .i64 s.wi, .int .i64 s.a0, .int .i64 s.a1, .int .i64 s.c0, .int .i64 s.c1, .slice A s.ps.length c]] w fun e w' => e = .returned (.int .i64 (skErr s)) ∧ Below w.heap.size w w' := by
 obtain ⟨bA, oA, SA⟩ := Sp.old hA
 refine px_enter noEx Tryd.func61 rfl 49 rfl [.agg #[.int .i64 s.lo, .int .i64 s.wi, .int .i64 s.a0, .int .i64 s.a1, .int .i64 s.c0, .int .i64 s.c1, .slice A s.ps.length c]] rfl rfl (Mem.init w _) ?_
 intro ac wc T M
 refine wp_seq ?_
 refine wp_region_lit ?_
 refine l_w rfl ?_; intro K hK
 refine ow_bx M T rfl rfl rfl rfl (T.ev 0 rfl) rfl ?_; clear M T; intro g1 wc ac M T
 refine so9 hK _ _ ?_; clear hK K
 refine lq T (ra9 rfl evc) ?_; clear T ac; intro ac T
 refine wpList_nil ?_
 replace T := T.pick [1] rfl
 refine nt9 ?_
 refine wp_seq ?_
 refine cut_seq (fun ac wc => Tm ac 49 [(1, .pointer (some ⟨g1, 0, none⟩)), (16, .bool ((!(withinB s.lo 1 12)) || (!(withinB s.wi 1 12))))] ∧ Mem w noEx wc [(g1, .cells [.int .i64 s.lo, .int .i64 s.wi, .int .i64 s.a0, .int .i64 s.a1, .int .i64 s.c0, .int .i64 s.c1, .slice A s.ps.length c])]) ?_ ?_
 ·refine wp_region_lit ?_
  refine lq (v := (.pointer (some ⟨g1, 0, none⟩))) T (rf9 (off := 0) rfl (T.ev 0 rfl) (fun _ _ _ => by kernel_rfl)) ?_; clear T ac; intro ac T
  refine lq T (rn_one (Mem.nth M 0 rfl) rfl (T.ev 0 rfl) rfl) ?_; clear T ac; intro ac T
  refine l_w rfl ?_; intro K hK
  refine oc9 (first := []) (cap := []) T rfl rfl rfl rfl evf (.cons (T.ev 0 rfl) (.cons evc (.cons evc .nil))) Tryd.func75 rfl rfl ?_
  refine Calls.mono (fits8_any s.lo 1 12 _) ?_
  clear T
  rintro e wc ⟨rfl, hb⟩
  intro ac T
  replace M := M.call hb; clear hb
  refine so9 hK _ _ ?_; clear hK K
  refine lq T (rn_not rfl (T.ev 0 rfl)) ?_; clear T ac; intro ac T
  refine lq T (rm9 rfl (T.ev 0 rfl)) ?_; clear T ac; intro ac T
  rcases Bool.eq_false_or_eq_true (!(withinB s.lo 1 12)) with h1 | h1
  ·refine lp T (wn9 rfl rfl (T.ev 0 rfl) h1) ?_; clear T ac; intro ac T
   refine lp T (wn9 rfl rfl (T.ev 1 rfl) h1) ?_; clear T ac; intro ac T
   refine lp T (wn9 rfl rfl (T.ev 2 rfl) h1) ?_; clear T ac; intro ac T
   refine lp T (wn9 rfl rfl (T.ev 3 rfl) h1) ?_; clear T ac; intro ac T
   refine lq T (rn_pick1 rfl (T.ev 4 rfl) h1 evc) ?_; clear T ac; intro ac T
   refine wpList_nil ?_
   replace T := T.pick [0, 10] rfl
   exact ⟨(T.pick (E' := [(1, .pointer (some ⟨g1, 0, none⟩)), (16, .bool true)]) [1, 0] rfl).as (by (try rw [show (!(withinB s.lo 1 12)) = true from h1]); (try rfl)), M.mask [true] rfl⟩
  refine lw (v := (.pointer (some ⟨g1, 1, none⟩))) T (wy9 rfl rfl (T.ev 0 rfl) h1) (rf9 (off := 1) rfl (T.ev 5 rfl) (fun _ _ _ => by kernel_rfl)) ?_; clear T ac; intro ac T
  refine lw T (wy9 rfl rfl (T.ev 1 rfl) h1) (rn_one (Mem.nth M 0 rfl) rfl (T.ev 0 rfl) rfl) ?_; clear T ac; intro ac T
  refine l_w (wy9 rfl rfl (T.ev 2 rfl) h1) ?_; intro K hK
  refine oc9 (first := []) (cap := []) T rfl rfl rfl rfl evf (.cons (T.ev 0 rfl) (.cons evc (.cons evc .nil))) Tryd.func75 rfl rfl ?_
  refine Calls.mono (fits8_any s.wi 1 12 _) ?_
  clear T
  rintro e wc ⟨rfl, hb⟩
  intro ac T
  replace M := M.call hb; clear hb
  refine so9 hK _ _ ?_; clear hK K
  refine lw T (wy9 rfl rfl (T.ev 3 rfl) h1) (rn_not rfl (T.ev 0 rfl)) ?_; clear T ac; intro ac T
  refine lq T (rn_pick0 rfl (T.ev 4 rfl) h1 (T.ev 0 rfl)) ?_; clear T ac; intro ac T
  refine wpList_nil ?_
  replace T := T.pick [0, 10] rfl
  exact ⟨(T.pick (E' := [(1, .pointer (some ⟨g1, 0, none⟩)), (16, .bool (!(withinB s.wi 1 12)))]) [1, 0] rfl).as (by (try rw [show (!(withinB s.lo 1 12)) = false from h1]); (try rfl)), M.mask [true] rfl⟩
 clear T M
 rintro ac wc ⟨T, M⟩
 refine wp_cond_split (T.ev 1 rfl) ?_ ?_
 ·intro h2
  (try have h2' := h2; try simp only [Bool.and_eq_true, Bool.or_eq_true, Bool.not_eq_true', Bool.and_eq_false_imp, Bool.or_eq_false_iff, decide_eq_true_eq, decide_eq_false_iff_not] at h2')
  refine wp_seq ?_
  refine wp_region_lit ?_
  refine lq T (ra9 rfl evc) ?_; clear T ac; intro ac T
  refine wpList_nil ?_
  replace T := T.pick [0] rfl
  replace M := M.mask [false] rfl
  refine nt9 ?_
  refine wp_ret ?_
  refine rt_then ?_
  refine rt_1 T rfl (T.ev 0 rfl) ?_
  refine ⟨ret_int ?_, M.below⟩
  unfold skErr
  (repeat' split) <;> first | rfl | omega | contradiction | (simp_all; done) | (simp_all; omega)
 intro h2
 (try have h2' := h2; try simp only [Bool.and_eq_true, Bool.or_eq_true, Bool.not_eq_true', Bool.and_eq_false_imp, Bool.or_eq_false_iff, decide_eq_true_eq, decide_eq_false_iff_not] at h2')
 refine wp_skip ?_
 refine nt9 ?_
 refine wp_seq ?_
 refine wp_seq ?_
 refine wp_region_lit ?_
 refine lq (v := (.pointer (some ⟨g1, 2, none⟩))) T (rf9 (off := 2) rfl (T.ev 0 rfl) (fun _ _ _ => by kernel_rfl)) ?_; clear T ac; intro ac T
 refine lq T (rn_rowO (Mem.nth M 0 rfl) rfl (T.ev 0 rfl) rfl) ?_; clear T ac; intro ac T
 refine l_w rfl ?_; intro K hK
 refine oc9 (first := []) (cap := []) T rfl rfl rfl rfl evf (.cons (T.ev 0 rfl) .nil) Tryd.func96 rfl rfl ?_
 refine Calls.mono (checkShrink8_any s.a0 s.a1 _) ?_
 clear T
 rintro e wc ⟨rfl, hb⟩
 intro ac T
 replace M := M.call hb; clear hb
 refine so9 hK _ _ ?_; clear hK K
 refine lq T (ra9 rfl (T.ev 0 rfl)) ?_; clear T ac; intro ac T
 refine wpList_nil ?_
 replace T := T.pick [0, 4] rfl
 refine nt9 ?_
 refine wp_seq ?_
 refine wp_region_lit ?_
 refine lq T (rm9 rfl (T.ev 0 rfl)) ?_; clear T ac; intro ac T
 refine lq T (rn_neq rfl (T.ev 0 rfl) evc) ?_; clear T ac; intro ac T
 refine wpList_nil ?_
 replace T := T.pick [0, 2, 3] rfl
 refine nt9 ?_
 refine wp_ifn (T.ev 0 rfl) ?_ ?_
 ·intro h3
  refine wp_seq ?_
  refine wp_region_lit ?_
  refine lq T (rm9 rfl (T.ev 1 rfl)) ?_; clear T ac; intro ac T
  refine lq T (ra9 rfl (T.ev 0 rfl)) ?_; clear T ac; intro ac T
  refine wpList_nil ?_
  replace T := T.pick [0] rfl
  replace M := M.mask [false] rfl
  refine nt9 ?_
  refine wp_ret ?_
  refine rt_then ?_
  refine rt_1 T rfl (T.ev 0 rfl) ?_
  refine ⟨ret_int ?_, M.below⟩
  unfold skErr
  (repeat' split) <;> first | rfl | omega | contradiction | (simp_all; done) | (simp_all; omega)
 intro h3
 refine wp_skip ?_
 refine nt9 ?_
 refine wp_seq ?_
 refine wp_seq ?_
 refine wp_region_lit ?_
 refine lq (v := (.pointer (some ⟨g1, 4, none⟩))) T (rf9 (off := 4) rfl (T.ev 2 rfl) (fun _ _ _ => by kernel_rfl)) ?_; clear T ac; intro ac T
 refine lq T (rn_rowO (Mem.nth M 0 rfl) rfl (T.ev 0 rfl) rfl) ?_; clear T ac; intro ac T
 refine l_w rfl ?_; intro K hK
 refine oc9 (first := []) (cap := []) T rfl rfl rfl rfl evf (.cons (T.ev 0 rfl) .nil) Tryd.func96 rfl rfl ?_
 refine Calls.mono (checkShrink8_any s.c0 s.c1 _) ?_
 clear T
 rintro e wc ⟨rfl, hb⟩
 intro ac T
 replace M := M.call hb; clear hb
 refine so9 hK _ _ ?_; clear hK K
 refine lq T (ra9 rfl (T.ev 0 rfl)) ?_; clear T ac; intro ac T
 refine wpList_nil ?_
 replace T := T.pick [0, 6] rfl
 refine nt9 ?_
 refine wp_seq ?_
 refine wp_region_lit ?_
 refine lq T (rm9 rfl (T.ev 0 rfl)) ?_; clear T ac; intro ac T
 refine lq T (rn_neq rfl (T.ev 0 rfl) evc) ?_; clear T ac; intro ac T
 refine wpList_nil ?_
 replace T := T.pick [0, 2, 3] rfl
 refine nt9 ?_
 refine wp_ifn (T.ev 0 rfl) ?_ ?_
 ·intro h4
  refine wp_seq ?_
  refine wp_region_lit ?_
  refine lq T (rm9 rfl (T.ev 1 rfl)) ?_; clear T ac; intro ac T
  refine lq T (ra9 rfl (T.ev 0 rfl)) ?_; clear T ac; intro ac T
  refine wpList_nil ?_
  replace T := T.pick [0] rfl
  replace M := M.mask [false] rfl
  refine nt9 ?_
  refine wp_ret ?_
  refine rt_then ?_
  refine rt_1 T rfl (T.ev 0 rfl) ?_
  refine ⟨ret_int ?_, M.below⟩
  unfold skErr
  (repeat' split) <;> first | rfl | omega | contradiction | (simp_all; done) | (simp_all; omega)
 intro h4
 refine wp_skip ?_
 refine nt9 ?_
 refine wp_seq ?_
 refine wp_seq ?_
 refine wp_region_lit ?_
 refine lq (v := (.pointer (some ⟨g1, 6, none⟩))) T (rf9 (off := 6) rfl (T.ev 2 rfl) (fun _ _ _ => by kernel_rfl)) ?_; clear T ac; intro ac T
 refine lq T (rn_one (Mem.nth M 0 rfl) rfl (T.ev 0 rfl) rfl) ?_; clear T ac; intro ac T
 refine lq T (rn_lenS rfl Tryd.underlying24 (T.ev 0 rfl)) ?_; clear T ac; intro ac T
 refine lq T (rn_gtr rfl (T.ev 0 rfl) evc) ?_; clear T ac; intro ac T
 refine wpList_nil ?_
 replace T := T.pick [0, 6] rfl
 refine nt9 ?_
 refine wp_if (T.ev 0 rfl) ?_ ?_
 ·intro h5
  refine wp_seq ?_
  refine wp_region_lit ?_
  refine lq T (ra9 rfl evc) ?_; clear T ac; intro ac T
  refine wpList_nil ?_
  replace T := T.pick [0] rfl
  replace M := M.mask [false] rfl
  refine nt9 ?_
  refine wp_ret ?_
  refine rt_then ?_
  refine rt_1 T rfl (T.ev 0 rfl) ?_
  refine ⟨ret_int ?_, M.below⟩
  unfold skErr
  (repeat' split) <;> first | rfl | omega | contradiction | (simp_all; done) | (simp_all; omega)
 intro h5
 refine wp_skip ?_
 refine nt9 ?_
 refine wp_seq ?_
 refine wp_seq ?_
 refine wp_region_lit ?_
 refine lq T (ra9 rfl evc) ?_; clear T ac; intro ac T
 refine wpList_nil ?_
 replace T := T.pick [0, 2] rfl
 refine nt9 ?_
 refine wp_block ?_
 refine wp_loop_n (fun mz ac wc => ∃ (k : Nat), mz = s.ps.length - k ∧ (k ≤ s.ps.length) ∧ (ptsErr s.ps = ptsErr (s.ps.drop k)) ∧ Tm ac 49 [(1, .pointer (some ⟨g1, 0, none⟩)), (5, .int .i64 (k : Int))] ∧ Mem w noEx wc [(g1, .cells [.int .i64 s.lo, .int .i64 s.wi, .int .i64 s.a0, .int .i64 s.a1, .int .i64 s.c0, .int .i64 s.c1, .slice A s.ps.length c])]) ?_ ?_
 ·exact ⟨_, 0, rfl, (Nat.zero_le _), rfl, T.pick [1, 0] rfl, M.mask [true] rfl⟩
 clear T M
 rintro mz ac wc ⟨k, hmm1, hk, H, T, M⟩
 refine wp_seq ?_
 refine wp_seq ?_
 refine wp_region_lit ?_
 refine lq T (rm9 rfl (T.ev 1 rfl)) ?_; clear T ac; intro ac T
 refine lq (v := (.pointer (some ⟨g1, 6, none⟩))) T (rf9 (off := 6) rfl (T.ev 1 rfl) (fun _ _ _ => by kernel_rfl)) ?_; clear T ac; intro ac T
 refine lq T (rn_one (Mem.nth M 0 rfl) rfl (T.ev 0 rfl) rfl) ?_; clear T ac; intro ac T
 refine lq T (rn_lenS rfl Tryd.underlying24 (T.ev 0 rfl)) ?_; clear T ac; intro ac T
 refine lq T (rn_lss rfl (T.ev 3 rfl) (T.ev 0 rfl)) ?_; clear T ac; intro ac T
 refine wpList_nil ?_
 replace T := T.pick [0, 5, 6] rfl
 refine nt9 ?_
 refine wp_if (T.ev 0 rfl) ?_ ?_
 ·intro h6
  obtain ⟨p, hkp, hd⟩ := pc_next (l := s.ps) (k := k) (by omega)
  rw [hd, ptsErr] at H
  refine wp_skip ?_
  refine nt9 ?_
  refine wp_seq ?_
  refine wp_block ?_
  refine wp_seq ?_
  refine wp_region_lit ?_
  refine lq (v := (.pointer (some ⟨g1, 6, none⟩))) T (rf9 (off := 6) rfl (T.ev 1 rfl) (fun _ _ _ => by kernel_rfl)) ?_; clear T ac; intro ac T
  refine lq T (rn_one (Mem.nth M 0 rfl) rfl (T.ev 0 rfl) rfl) ?_; clear T ac; intro ac T
  refine lq T (rm9 rfl (T.ev 4 rfl)) ?_; clear T ac; intro ac T
  refine lq T (rn_indexAddr (size := 4) k rfl (T.ev 1 rfl) (T.ev 0 rfl) ⟨_, Tryd.underlying24, by kernel_rfl⟩ rfl (by omega) (SA.at0 (by omega))) ?_; clear T ac; intro ac T
  refine lq (v := (.agg #[.int .i64 p.l, .int .i64 p.w, .bool p.gr, .int .i64 p.pa])) T (rn_rowat (Sp.pcR SA M (List.nil_sublist _) hkp) rfl (T.ev 0 rfl) rfl) ?_; clear T ac; intro ac T
  refine l_w rfl ?_; intro K hK
  refine oc9 (first := []) (cap := []) T rfl rfl rfl rfl evf (.cons (T.ev 0 rfl) .nil) Tryd.func93 rfl rfl ?_
  refine Calls.mono (checkPart8_any p _) ?_
  clear T
  rintro e wc ⟨rfl, hb⟩
  intro ac T
  replace M := M.call hb; clear hb
  refine so9 hK _ _ ?_; clear hK K
  refine lq T (ra9 rfl (T.ev 0 rfl)) ?_; clear T ac; intro ac T
  refine wpList_nil ?_
  replace T := T.pick [0, 8, 9] rfl
  refine nt9 ?_
  refine wp_seq ?_
  refine wp_region_lit ?_
  refine lq T (rm9 rfl (T.ev 0 rfl)) ?_; clear T ac; intro ac T
  refine lq T (rn_neq rfl (T.ev 0 rfl) evc) ?_; clear T ac; intro ac T
  refine wpList_nil ?_
  replace T := T.pick [0, 2, 3, 4] rfl
  refine nt9 ?_
  refine wp_ifn (T.ev 0 rfl) ?_ ?_
  ·intro h7
   refine wp_seq ?_
   refine wp_region_lit ?_
   refine lq T (rm9 rfl (T.ev 1 rfl)) ?_; clear T ac; intro ac T
   refine lq T (ra9 rfl (T.ev 0 rfl)) ?_; clear T ac; intro ac T
   refine wpList_nil ?_
   replace T := T.pick [0] rfl
   replace M := M.mask [false] rfl
   refine nt9 ?_
   refine wp_ret ?_
   refine rt_blk ?_
   refine rt_then ?_
   refine rt_then ?_
   refine rt_blk ?_
   refine rt_then ?_
   refine rt_1 T rfl (T.ev 0 rfl) ?_
   rw [if_neg (by omega)] at H
   refine ⟨ret_int ?_, M.below⟩
   unfold skErr
   (repeat' split) <;> first | rfl | omega | contradiction | (simp_all; done) | (simp_all; omega)
  intro h7
  refine wp_skip ?_
  refine nm_blk ?_
  refine nt9 ?_
  refine wp_region_lit ?_
  refine lq T (rm9 rfl (T.ev 3 rfl)) ?_; clear T ac; intro ac T
  refine lq T (rn_add rfl (T.ev 0 rfl) evc (by omega)) ?_; clear T ac; intro ac T
  refine l_q (v := (.int .i64 ((k : Int) + 1))) (T.pick [0, 1, 2, 3, 4] rfl) rfl rfl rfl rfl (ra9 rfl (T.ev 0 rfl)) ?_; clear T ac; intro ac T
  refine wpList_nil ?_
  replace T := T.pick [0, 5] rfl
  refine nt9 ?_
  rw [if_pos (by omega)] at H
  exact ⟨_, by omega, k + 1, rfl, (by omega), H, T.pick [1, 0] rfl, M.mask [true] rfl⟩
 intro h6
 rw [List.drop_of_length_le (by omega), ptsErr] at H
 refine wp_exit ?_
 refine ex_then ?_
 refine ex_then ?_
 refine ex_hit ?_
 refine nt9 ?_
 refine wp_seq ?_
 refine wp_region_lit ?_
 refine lq T (ra9 rfl evc) ?_; clear T ac; intro ac T
 refine wpList_nil ?_
 replace T := T.pick [0] rfl
 replace M := M.mask [false] rfl
 refine nt9 ?_
 refine wp_ret ?_
 refine rt_1 T rfl (T.ev 0 rfl) ?_
 refine ⟨ret_int ?_, M.below⟩
 unfold skErr
 (repeat' split) <;> first | rfl | omega | contradiction | (simp_all; done) | (simp_all; omega)
theorem size8_any (s : Sk) (A : Option Addr) (d : Nat) (p : Pt) (t su : Bool)  (w : World) (hsg : s.good) (hpg : p.good)  :
   Calls Tryd.prog 94 #[.agg #[.int .i64 s.lo, .int .i64 s.wi, .int .i64 s.a0, .int .i64 s.a1, .int .i64 s.c0, .int .i64 s.c1, .slice A s.ps.length d], .agg #[.int .i64 p.l, .int .i64 p.w, .bool p.gr, .int .i64 p.pa], .bool t, .bool su] w fun e w' => e = .returned (.tuple #[.int .i64 (sizeL (cutA s su) (cutC s su) p t), .int .i64 (sizeW (cutA s su) (cutC s su) p t)]) ∧ Below w.heap.size w w' := by
 obtain ⟨g1, g2, g3, g4, -, -⟩ := hsg
 obtain ⟨g5, g6, -⟩ := hpg
 refine px_enter noEx Tryd.func94 rfl 42 rfl [.agg #[.int .i64 s.lo, .int .i64 s.wi, .int .i64 s.a0, .int .i64 s.a1, .int .i64 s.c0, .int .i64 s.c1, .slice A s.ps.length d], .agg #[.int .i64 p.l, .int .i64 p.w, .bool p.gr, .int .i64 p.pa], .bool t, .bool su] rfl rfl (Mem.init w _) ?_
 intro ac wc T M
 refine wp_seq ?_
 refine wp_region_lit ?_
 refine l_w rfl ?_; intro K hK
 refine ow_bx M T rfl rfl rfl rfl (T.ev 0 rfl) rfl ?_; clear M T; intro g1 wc ac M T
 refine so9 hK _ _ ?_; clear hK K
 refine l_w rfl ?_; intro K hK
 refine ow_bx M T rfl rfl rfl rfl (T.ev 2 rfl) rfl ?_; clear M T; intro g2 wc ac M T
 refine so9 hK _ _ ?_; clear hK K
 refine lq T (ra9 rfl evc) ?_; clear T ac; intro ac T
 refine lq T (ra9 rfl evc) ?_; clear T ac; intro ac T
 refine wpList_nil ?_
 replace T := T.pick [2, 3, 6, 7] rfl
 refine nt9 ?_
 refine wp_seq ?_
 refine g_start2 M (M.mask [true, true] rfl) 8 (by kernel_rfl) rfl (by kernel_rfl) ?_
 clear M; intro wc M
 refine gq (v := (.pointer (some ⟨g1, 2, none⟩))) T 0 1 rfl (fun _ _ _ _ _ => (rf9 (off := 2) rfl (T.ev 1 rfl) (fun _ _ _ => by kernel_rfl))) ?_; clear T ac; intro ac T
 refine gq (v := (.pointer (some ⟨g1, 2, none⟩))) T 1 3 rfl (fun _ _ _ _ _ => (rf9 (off := 0) rfl (T.ev 0 rfl) (fun _ _ _ => by kernel_rfl))) ?_; clear T ac; intro ac T
 refine gq T 2 7 rfl (fun B w' hD hl hS => (rn_one (Mem.nth (show Mem w noEx w' _ from hS) 1 rfl) rfl (T.ev 0 rfl) rfl)) ?_; clear T ac; intro ac T
 refine gq (v := (.pointer (some ⟨g1, 4, none⟩))) T 3 15 rfl (fun _ _ _ _ _ => (rf9 (off := 4) rfl (T.ev 4 rfl) (fun _ _ _ => by kernel_rfl))) ?_; clear T ac; intro ac T
 refine gq (v := (.pointer (some ⟨g1, 4, none⟩))) T 4 31 rfl (fun _ _ _ _ _ => (rf9 (off := 0) rfl (T.ev 0 rfl) (fun _ _ _ => by kernel_rfl))) ?_; clear T ac; intro ac T
 refine gq T 5 63 rfl (fun B w' hD hl hS => (rn_one (Mem.nth (show Mem w noEx w' _ from hS) 1 rfl) rfl (T.ev 0 rfl) rfl)) ?_; clear T ac; intro ac T
 refine gq T 6 127 rfl (fun _ _ _ _ _ => (ra9 rfl (T.ev 3 rfl))) ?_; clear T ac; intro ac T
 refine gq T 7 255 rfl (fun _ _ _ _ _ => (ra9 rfl (T.ev 1 rfl))) ?_; clear T ac; intro ac T
 refine g_done (by kernel_rfl) ?_
 replace T := T.pick [0, 1, 8, 9, 10, 11] rfl
 refine nt9 ?_
 refine wp_seq ?_
 refine wp_seq ?_
 refine wp_region_lit ?_
 refine lq T (rm9 rfl (T.ev 5 rfl)) ?_; clear T ac; intro ac T
 refine wpList_nil ?_
 replace T := T.pick [0, 1, 2, 3, 4, 5] rfl
 refine nt9 ?_
 refine wp_cond_split (T.ev 0 rfl) ?_ ?_
 ·intro h1
  refine g_start2 M (M.mask [true, true] rfl) 8 (by kernel_rfl) rfl (by kernel_rfl) ?_
  clear M; intro wc M
  refine gq (v := (.pointer (some ⟨g1, 2, none⟩))) T 0 1 rfl (fun _ _ _ _ _ => (rf9 (off := 2) rfl (T.ev 4 rfl) (fun _ _ _ => by kernel_rfl))) ?_; clear T ac; intro ac T
  refine gq (v := (.pointer (some ⟨g1, 3, none⟩))) T 1 3 rfl (fun _ _ _ _ _ => (rf9 (off := 1) rfl (T.ev 0 rfl) (fun _ _ _ => by kernel_rfl))) ?_; clear T ac; intro ac T
  refine gq T 2 7 rfl (fun B w' hD hl hS => (rn_one (Mem.nth (show Mem w noEx w' _ from hS) 1 rfl) rfl (T.ev 0 rfl) rfl)) ?_; clear T ac; intro ac T
  refine gq (v := (.pointer (some ⟨g1, 4, none⟩))) T 3 15 rfl (fun _ _ _ _ _ => (rf9 (off := 4) rfl (T.ev 7 rfl) (fun _ _ _ => by kernel_rfl))) ?_; clear T ac; intro ac T
  refine gq (v := (.pointer (some ⟨g1, 5, none⟩))) T 4 31 rfl (fun _ _ _ _ _ => (rf9 (off := 1) rfl (T.ev 0 rfl) (fun _ _ _ => by kernel_rfl))) ?_; clear T ac; intro ac T
  refine gq T 5 63 rfl (fun B w' hD hl hS => (rn_one (Mem.nth (show Mem w noEx w' _ from hS) 1 rfl) rfl (T.ev 0 rfl) rfl)) ?_; clear T ac; intro ac T
  refine g_q (v := (.int .i64 s.a1)) (T := T.pick [0, 1, 2, 3, 4, 5, 6, 7, 9, 10, 11] rfl) (i := 6) rfl (by kernel_rfl) (by kernel_rfl : (pbits 8 63).setIfInBounds 6 true = pbits 8 127) si_U (fun _ _ _ h => h) rfl rfl rfl rfl (fun _ _ _ _ _ => (ra9 rfl (T.ev 3 rfl))) ?_; clear T ac; intro ac T
  refine g_q (v := (.int .i64 s.c1)) (T := T.pick [0, 1, 2, 3, 4, 5, 6, 7, 9, 10, 11] rfl) (i := 7) rfl (by kernel_rfl) (by kernel_rfl : (pbits 8 127).setIfInBounds 7 true = pbits 8 255) si_U (fun _ _ _ h => h) rfl rfl rfl rfl (fun _ _ _ _ _ => (ra9 rfl (T.ev 1 rfl))) ?_; clear T ac; intro ac T
  refine g_done (by kernel_rfl) ?_
  replace T := T.pick [0, 1, 9, 11] rfl
  replace M := M.mask [true, false] rfl
  refine nt9 ?_
  refine wp_seq ?_
  refine wp_seq ?_
  refine wp_region_lit ?_
  refine lq T (rm9 rfl (T.ev 3 rfl)) ?_; clear T ac; intro ac T
  refine wpList_nil ?_
  replace T := T.pick [0, 1, 2, 3] rfl
  refine nt9 ?_
  refine wp_cond_split (T.ev 0 rfl) ?_ ?_
  ·intro h2
   refine wp_seq ?_
   refine g_start2 M (M.mask [true] rfl) 10 (by kernel_rfl) rfl (by kernel_rfl) ?_
   clear M; intro wc M
   refine gq (v := (.pointer (some ⟨g2, 1, none⟩))) T 0 1 rfl (fun _ _ _ _ _ => (rf9 (off := 1) rfl (T.ev 3 rfl) (fun _ _ _ => by kernel_rfl))) ?_; clear T ac; intro ac T
   refine gq T 1 3 rfl (fun B w' hD hl hS => (rn_one (Mem.nth (show Mem w noEx w' _ from hS) 0 rfl) rfl (T.ev 0 rfl) rfl)) ?_; clear T ac; intro ac T
   refine gq T 2 7 rfl (fun _ _ _ _ _ => (rm9 rfl (T.ev 4 rfl))) ?_; clear T ac; intro ac T
   refine gq T 3 15 rfl (fun _ _ _ _ _ => (rn_add rfl (T.ev 1 rfl) (T.ev 0 rfl) (by omega))) ?_; clear T ac; intro ac T
   refine gq (v := (.pointer (some ⟨g2, 0, none⟩))) T 4 31 rfl (fun _ _ _ _ _ => (rf9 (off := 0) rfl (T.ev 7 rfl) (fun _ _ _ => by kernel_rfl))) ?_; clear T ac; intro ac T
   refine gq T 5 63 rfl (fun B w' hD hl hS => (rn_one (Mem.nth (show Mem w noEx w' _ from hS) 0 rfl) rfl (T.ev 0 rfl) rfl)) ?_; clear T ac; intro ac T
   refine gq T 6 127 rfl (fun _ _ _ _ _ => (rm9 rfl (T.ev 7 rfl))) ?_; clear T ac; intro ac T
   refine gq T 7 255 rfl (fun _ _ _ _ _ => (rn_add rfl (T.ev 1 rfl) (T.ev 0 rfl) (by omega))) ?_; clear T ac; intro ac T
   refine gq T 8 511 rfl (fun _ _ _ _ _ => (ra9 rfl (T.ev 4 rfl))) ?_; clear T ac; intro ac T
   refine gq T 9 1023 rfl (fun _ _ _ _ _ => (ra9 rfl (T.ev 1 rfl))) ?_; clear T ac; intro ac T
   refine g_done (by kernel_rfl) ?_
   replace T := T.pick [0, 1] rfl
   replace M := M.mask [false] rfl
   refine nt9 ?_
   refine wp_ret ?_
   refine rt_then ?_
   refine rt_2 T rfl (T.ev 1 rfl) (T.ev 0 rfl) ?_
   exact ⟨by unfold sizeL sizeW cutA cutC; simp_all, M.below⟩
  intro h2
  refine wp_skip ?_
  refine nt9 ?_
  refine wp_seq ?_
  refine g_start2 M (M.mask [true] rfl) 10 (by kernel_rfl) rfl (by kernel_rfl) ?_
  clear M; intro wc M
  refine gq (v := (.pointer (some ⟨g2, 0, none⟩))) T 0 1 rfl (fun _ _ _ _ _ => (rf9 (off := 0) rfl (T.ev 3 rfl) (fun _ _ _ => by kernel_rfl))) ?_; clear T ac; intro ac T
  refine gq T 1 3 rfl (fun B w' hD hl hS => (rn_one (Mem.nth (show Mem w noEx w' _ from hS) 0 rfl) rfl (T.ev 0 rfl) rfl)) ?_; clear T ac; intro ac T
  refine gq T 2 7 rfl (fun _ _ _ _ _ => (rm9 rfl (T.ev 4 rfl))) ?_; clear T ac; intro ac T
  refine gq T 3 15 rfl (fun _ _ _ _ _ => (rn_add rfl (T.ev 1 rfl) (T.ev 0 rfl) (by omega))) ?_; clear T ac; intro ac T
  refine gq (v := (.pointer (some ⟨g2, 1, none⟩))) T 4 31 rfl (fun _ _ _ _ _ => (rf9 (off := 1) rfl (T.ev 7 rfl) (fun _ _ _ => by kernel_rfl))) ?_; clear T ac; intro ac T
  refine gq T 5 63 rfl (fun B w' hD hl hS => (rn_one (Mem.nth (show Mem w noEx w' _ from hS) 0 rfl) rfl (T.ev 0 rfl) rfl)) ?_; clear T ac; intro ac T
  refine gq T 6 127 rfl (fun _ _ _ _ _ => (rm9 rfl (T.ev 7 rfl))) ?_; clear T ac; intro ac T
  refine gq T 7 255 rfl (fun _ _ _ _ _ => (rn_add rfl (T.ev 1 rfl) (T.ev 0 rfl) (by omega))) ?_; clear T ac; intro ac T
  refine gq T 8 511 rfl (fun _ _ _ _ _ => (ra9 rfl (T.ev 4 rfl))) ?_; clear T ac; intro ac T
  refine gq T 9 1023 rfl (fun _ _ _ _ _ => (ra9 rfl (T.ev 1 rfl))) ?_; clear T ac; intro ac T
  refine g_done (by kernel_rfl) ?_
  replace T := T.pick [0, 1] rfl
  replace M := M.mask [false] rfl
  refine nt9 ?_
  refine wp_ret ?_
  refine rt_2 T rfl (T.ev 1 rfl) (T.ev 0 rfl) ?_
  exact ⟨by unfold sizeL sizeW cutA cutC; simp_all, M.below⟩
 intro h1
 refine wp_skip ?_
 refine nt9 ?_
 refine wp_seq ?_
 refine wp_seq ?_
 refine wp_region_lit ?_
 refine lq T (rm9 rfl (T.ev 5 rfl)) ?_; clear T ac; intro ac T
 refine wpList_nil ?_
 replace T := T.pick [0, 2, 3, 4] rfl
 replace M := M.mask [true, false] rfl
 refine nt9 ?_
 refine wp_cond_split (T.ev 0 rfl) ?_ ?_
 ·intro h3
  refine wp_seq ?_
  refine g_start2 M (M.mask [true] rfl) 10 (by kernel_rfl) rfl (by kernel_rfl) ?_
  clear M; intro wc M
  refine gq (v := (.pointer (some ⟨g2, 1, none⟩))) T 0 1 rfl (fun _ _ _ _ _ => (rf9 (off := 1) rfl (T.ev 3 rfl) (fun _ _ _ => by kernel_rfl))) ?_; clear T ac; intro ac T
  refine gq T 1 3 rfl (fun B w' hD hl hS => (rn_one (Mem.nth (show Mem w noEx w' _ from hS) 0 rfl) rfl (T.ev 0 rfl) rfl)) ?_; clear T ac; intro ac T
  refine gq T 2 7 rfl (fun _ _ _ _ _ => (rm9 rfl (T.ev 4 rfl))) ?_; clear T ac; intro ac T
  refine gq T 3 15 rfl (fun _ _ _ _ _ => (rn_add rfl (T.ev 1 rfl) (T.ev 0 rfl) (by omega))) ?_; clear T ac; intro ac T
  refine gq (v := (.pointer (some ⟨g2, 0, none⟩))) T 4 31 rfl (fun _ _ _ _ _ => (rf9 (off := 0) rfl (T.ev 7 rfl) (fun _ _ _ => by kernel_rfl))) ?_; clear T ac; intro ac T
  refine gq T 5 63 rfl (fun B w' hD hl hS => (rn_one (Mem.nth (show Mem w noEx w' _ from hS) 0 rfl) rfl (T.ev 0 rfl) rfl)) ?_; clear T ac; intro ac T
  refine gq T 6 127 rfl (fun _ _ _ _ _ => (rm9 rfl (T.ev 7 rfl))) ?_; clear T ac; intro ac T
  refine gq T 7 255 rfl (fun _ _ _ _ _ => (rn_add rfl (T.ev 1 rfl) (T.ev 0 rfl) (by omega))) ?_; clear T ac; intro ac T
  refine gq T 8 511 rfl (fun _ _ _ _ _ => (ra9 rfl (T.ev 4 rfl))) ?_; clear T ac; intro ac T
  refine gq T 9 1023 rfl (fun _ _ _ _ _ => (ra9 rfl (T.ev 1 rfl))) ?_; clear T ac; intro ac T
  refine g_done (by kernel_rfl) ?_
  replace T := T.pick [0, 1] rfl
  replace M := M.mask [false] rfl
  refine nt9 ?_
  refine wp_ret ?_
  refine rt_then ?_
  refine rt_2 T rfl (T.ev 1 rfl) (T.ev 0 rfl) ?_
  exact ⟨by unfold sizeL sizeW cutA cutC; simp_all, M.below⟩
 intro h3
 refine wp_skip ?_
 refine nt9 ?_
 refine wp_seq ?_
 refine g_start2 M (M.mask [true] rfl) 10 (by kernel_rfl) rfl (by kernel_rfl) ?_
 clear M; intro wc M
 refine gq (v := (.pointer (some ⟨g2, 0, none⟩))) T 0 1 rfl (fun _ _ _ _ _ => (rf9 (off := 0) rfl (T.ev 3 rfl) (fun _ _ _ => by kernel_rfl))) ?_; clear T ac; intro ac T
 refine gq T 1 3 rfl (fun B w' hD hl hS => (rn_one (Mem.nth (show Mem w noEx w' _ from hS) 0 rfl) rfl (T.ev 0 rfl) rfl)) ?_; clear T ac; intro ac T
 refine gq T 2 7 rfl (fun _ _ _ _ _ => (rm9 rfl (T.ev 4 rfl))) ?_; clear T ac; intro ac T
 refine gq T 3 15 rfl (fun _ _ _ _ _ => (rn_add rfl (T.ev 1 rfl) (T.ev 0 rfl) (by omega))) ?_; clear T ac; intro ac T
 refine gq (v := (.pointer (some ⟨g2, 1, none⟩))) T 4 31 rfl (fun _ _ _ _ _ => (rf9 (off := 1) rfl (T.ev 7 rfl) (fun _ _ _ => by kernel_rfl))) ?_; clear T ac; intro ac T
 refine gq T 5 63 rfl (fun B w' hD hl hS => (rn_one (Mem.nth (show Mem w noEx w' _ from hS) 0 rfl) rfl (T.ev 0 rfl) rfl)) ?_; clear T ac; intro ac T
 refine gq T 6 127 rfl (fun _ _ _ _ _ => (rm9 rfl (T.ev 7 rfl))) ?_; clear T ac; intro ac T
 refine gq T 7 255 rfl (fun _ _ _ _ _ => (rn_add rfl (T.ev 1 rfl) (T.ev 0 rfl) (by omega))) ?_; clear T ac; intro ac T
 refine gq T 8 511 rfl (fun _ _ _ _ _ => (ra9 rfl (T.ev 4 rfl))) ?_; clear T ac; intro ac T
 refine gq T 9 1023 rfl (fun _ _ _ _ _ => (ra9 rfl (T.ev 1 rfl))) ?_; clear T ac; intro ac T
 refine g_done (by kernel_rfl) ?_
 replace T := T.pick [0, 1] rfl
 replace M := M.mask [false] rfl
 refine nt9 ?_
 refine wp_ret ?_
 refine rt_2 T rfl (T.ev 1 rfl) (T.ev 0 rfl) ?_
 exact ⟨by unfold sizeL sizeW cutA cutC; simp_all, M.below⟩
end Go.Proofs.YtehpcclfgjccbaaDoor
end

section
/-
 ref8: Turn.
-/
namespace Go.Proofs.YtehpcclfgjccbaaDoor
set_option linter.unusedSimpArgs false
set_option linter.unusedVariables false
open Go.RowKit
end Go.Proofs.YtehpcclfgjccbaaDoor
end

section
/-
 sheet's law: sizes.
-/
namespace Go.Proofs.YtehpcclfgjccbaaDoor
set_option linter.unusedSimpArgs false
set_option linter.unusedVariables false
open Go.RowKit
abbrev SE := Sk × Option Addr × Nat
def skL (s : Sk) (A : Option Addr) (c : Nat) : List Value := [.int .i64 s.lo, .int .i64 s.wi, .int .i64 s.a0, .int .i64 s.a1, .int .i64 s.c0, .int .i64 s.c1, .slice A s.ps.length c]
def sk (l : List SE) : List Value := l.flatMap fun x => skL x.1 x.2.1 x.2.2
theorem sk_get : ∀ (l : List SE) (k : Nat) {x : SE}, l[k]? = some x → ∀ (i : Nat) (v : Value), (skL x.1 x.2.1 x.2.2)[i]? = some v → (sk l)[k * 7 + i]? = some v
 | [], k, x, h, _, _, _ => by simp at h
 | y :: l, 0, x, h, i, v, hv => by
  simp only [List.getElem?_cons_zero, Option.some.injEq] at h
  subst h
  have hi : i < (skL y.1 y.2.1 y.2.2).length := (List.getElem?_eq_some_iff.1 hv).1
  show (skL y.1 y.2.1 y.2.2 ++ sk l)[0 * 7 + i]? = some v
  rw [Nat.zero_mul, Nat.zero_add, List.getElem?_append_left hi]
  exact hv
 | y :: l, k + 1, x, h, i, v, hv => by
  rw [List.getElem?_cons_succ] at h
  have := sk_get l k h i v hv
  show (skL y.1 y.2.1 y.2.2 ++ sk l)[(k + 1) * 7 + i]? = some v
  have hl : (skL y.1 y.2.1 y.2.2).length = 7 := rfl
  rw [List.getElem?_append_right (by rw [hl]; omega), hl, show (k + 1) * 7 + i - 7 = k * 7 + i by omega]
  exact this
theorem Sp.skR {w w' : World} {ex : Nat → Prop} {I L : List (Nat × BA)} {n b o k : Nat} {A : Option Addr} {l : List SE} {s : Sk} {B : Option Addr} {c : Nat} (S : Sp w ex I A n 7 b o (sk l)) (M : Mem w ex w' L) (hI : I.Sublist L) (h : l[k]? = some (s, B, c)) : w'.rangeAt b (o + k * 7) (skL s B c) := fun i v hv => by
 have := S.cell w' L M hI _ _ (sk_get l k h i v hv)
 rwa [← Nat.add_assoc] at this
end Go.Proofs.YtehpcclfgjccbaaDoor
end

section
/-
 sheet's laws: which stocks are wide; copies of lists of numbers; lists of lists of spots.
-/
namespace Go.Proofs.YtehpcclfgjccbaaDoor
set_option linter.unusedSimpArgs false
set_option linter.unusedVariables false
open Go.RowKit
def wid8 (s : Sk) (k : Int) : Bool := decide (20 < s.ps.length) || (decide (skErr s = 0) && (decide (3 < s.ps.length) || decide (k < s.lo + s.wi)))
theorem wid8_len {s : Sk} {k : Int} (h : wid8 s k = false) : s.ps.length ≤ 20 := by
 simp only [wid8, Bool.or_eq_false_iff, decide_eq_false_iff_not] at h
 omega
def IntsPost (g : List Int) (w : World) (e : Ending) (w' : World) : Prop := ∃ A c I, e = .returned (.slice A g.length c) ∧ Cl 3 1 A g.length c (ic g) I ∧ Mem w noEx w' I
theorem ints8_any (G : Option Addr) (n : Nat) (g : List Int)  (w : World) (hG : Rd w w.heap.size 1 G g.length (ic g)) (nG : g.length ≤ 1000000)  :
  Calls Tryd.prog 26 #[.slice G g.length n] w (IntsPost g w) := by
 obtain ⟨bG, oG, SG⟩ := Sp.old hG
 refine px_enter noEx Tryd.func26 rfl 6 rfl [.slice G g.length n] rfl rfl (Mem.init w _) ?_
 intro ac wc T M
 refine wp_seq ?_
 refine wp_region_lit ?_
 refine lq T (ra9 rfl evc) ?_; clear T ac; intro ac T
 refine wpList_nil ?_
 replace T := T.pick [1] rfl
 refine nt9 ?_
 refine wp_seq ?_
 refine wp_region_lit ?_
 refine l_w rfl ?_; intro K hK
 refine ow_bs0 (e := 3) M T rfl rfl rfl rfl (fun _ => by kernel_rfl) ?_; clear M T; intro g1 wc ac M T
 refine so9 hK _ _ ?_; clear hK K
 refine lq T (rm9 rfl (T.ev 1 rfl)) ?_; clear T ac; intro ac T
 refine l_w rfl ?_; intro K hK
 refine ow_appS Tryd.info3 M T rfl rfl rfl rfl (fun g w => Tryd.append0_27 _ _ g _ w) Tryd.underlying27 rfl rfl rfl (by omega) (T.ev 1 rfl) (T.ev 0 rfl) (SG.rd M (List.nil_sublist _)) (icl_one _) ?_; clear M T; intro Augo1 cugo1 Iugo1 wc ac hSmgo1 M T
 replace M : Mem w noEx wc (Iugo1) := M.swapI
 refine so9 hK _ _ ?_; clear hK K
 refine lq T (ra9 rfl (T.ev 0 rfl)) ?_; clear T ac; intro ac T
 refine wpList_nil ?_
 replace T := T.pick [0] rfl
 refine nt9 ?_
 refine wp_ret ?_
 refine rt_1 T rfl (T.ev 0 rfl) ?_
 exact ⟨Augo1, cugo1, Iugo1, rfl, .inr hSmgo1, M.sub (List.sublist_append_right ([] : List (Nat × BA)) _)⟩
theorem wide8_any (s : Sk) (A : Option Addr) (d : Nat) (k : Int)  (w : World) (hA : Rd w w.heap.size 4 A s.ps.length (pc s.ps)) (nA : s.ps.length ≤ 9223372036854775807) (hk : 0 ≤ k ∧ k ≤ 1000)  :
   Calls Tryd.prog 45 #[.agg #[.int .i64 s.lo, .int .i64 s.wi, .int .i64 s.a0, .int .i64 s.a1, .int .i64 s.c0, .int .i64 s.c1, .slice A s.ps.length d], .int .i64 k] w fun e w' => e = .returned (.bool (wid8 s k)) ∧ Below w.heap.size w w' := by
 obtain ⟨bA, oA, SA⟩ := Sp.old hA
 refine px_enter noEx Tryd.func45 rfl 29 rfl [.agg #[.int .i64 s.lo, .int .i64 s.wi, .int .i64 s.a0, .int .i64 s.a1, .int .i64 s.c0, .int .i64 s.c1, .slice A s.ps.length d], .int .i64 k] rfl rfl (Mem.init w _) ?_
 intro ac wc T M
 refine wp_seq ?_
 refine wp_region_lit ?_
 refine l_w rfl ?_; intro K hK
 refine ow_bx M T rfl rfl rfl rfl (T.ev 0 rfl) rfl ?_; clear M T; intro g1 wc ac M T
 refine so9 hK _ _ ?_; clear hK K
 refine lq T (ra9 rfl evc) ?_; clear T ac; intro ac T
 refine wpList_nil ?_
 replace T := T.pick [1, 3] rfl
 refine nt9 ?_
 refine cut_seq (fun ac wc => Tm ac 29 [(4, .bool ((decide (20 < ((s.ps.length : Nat) : Int))) || ((decide ((skErr s) = 0)) && ((decide (3 < ((s.ps.length : Nat) : Int))) || (decide (k < (s.lo + s.wi)))))))] ∧ Mem w noEx wc []) ?_ ?_
 ·refine wp_region_lit ?_
  refine lq (v := (.pointer (some ⟨g1, 6, none⟩))) T (rf9 (off := 6) rfl (T.ev 0 rfl) (fun _ _ _ => by kernel_rfl)) ?_; clear T ac; intro ac T
  refine lq T (rn_one (Mem.nth M 0 rfl) rfl (T.ev 0 rfl) rfl) ?_; clear T ac; intro ac T
  refine lq T (rn_lenS rfl Tryd.underlying24 (T.ev 0 rfl)) ?_; clear T ac; intro ac T
  refine lq T (rn_gtr rfl (T.ev 0 rfl) evc) ?_; clear T ac; intro ac T
  refine lq T (rm9 rfl (T.ev 0 rfl)) ?_; clear T ac; intro ac T
  rcases Bool.eq_false_or_eq_true (decide (20 < ((s.ps.length : Nat) : Int))) with h1 | h1
  ·replace h1 := of_decide_eq_true h1
   refine lp T (wn9 rfl rfl (T.ev 0 rfl) (decide_eq_true h1)) ?_; clear T ac; intro ac T
   refine lp T (wn9 rfl rfl (T.ev 1 rfl) (decide_eq_true h1)) ?_; clear T ac; intro ac T
   refine lp T (wn9 rfl rfl (T.ev 2 rfl) (decide_eq_true h1)) ?_; clear T ac; intro ac T
   refine lp T (wn9 rfl rfl (T.ev 3 rfl) (decide_eq_true h1)) ?_; clear T ac; intro ac T
   refine lp T (wanted_un rfl rfl (T.ev 0 rfl)) ?_; clear T ac; intro ac T
   refine lp T (wanted_un rfl rfl (T.ev 1 rfl)) ?_; clear T ac; intro ac T
   refine lp T (wanted_un rfl rfl (T.ev 2 rfl)) ?_; clear T ac; intro ac T
   refine lp T (wanted_un rfl rfl (T.ev 3 rfl)) ?_; clear T ac; intro ac T
   refine lp T (wanted_un rfl rfl (T.ev 4 rfl)) ?_; clear T ac; intro ac T
   refine lp T (wanted_un rfl rfl (T.ev 0 rfl)) ?_; clear T ac; intro ac T
   refine lp T (wanted_un rfl rfl (T.ev 1 rfl)) ?_; clear T ac; intro ac T
   refine lp T (wanted_un rfl rfl (T.ev 2 rfl)) ?_; clear T ac; intro ac T
   refine lp T (wanted_un rfl rfl (T.ev 3 rfl)) ?_; clear T ac; intro ac T
   refine lp T (wanted_un rfl rfl (T.ev 4 rfl)) ?_; clear T ac; intro ac T
   refine lp T (wanted_un rfl rfl (T.ev 5 rfl)) ?_; clear T ac; intro ac T
   refine lp T (wanted_un rfl rfl (T.ev 6 rfl)) ?_; clear T ac; intro ac T
   refine lp T (wanted_un rfl rfl (T.ev 12 rfl)) ?_; clear T ac; intro ac T
   refine lp T (wn9 rfl rfl (T.ev 17 rfl) (decide_eq_true h1)) ?_; clear T ac; intro ac T
   refine lq T (rn_pick1 rfl (T.ev 18 rfl) (decide_eq_true h1) evc) ?_; clear T ac; intro ac T
   refine lq T (ra9 rfl (T.ev 0 rfl)) ?_; clear T ac; intro ac T
   refine wpList_nil ?_
   replace T := T.pick [0] rfl
   replace M := M.mask [false] rfl
   exact ⟨(T.pick (E' := [(4, .bool true)]) [0] rfl).as (by (try rw [show (decide (20 < ((s.ps.length : Nat) : Int))) = true from (decide_eq_true h1)]); (try rfl)), M.mask [] rfl⟩
  replace h1 := of_decide_eq_false h1
  refine lw T (wy9 rfl rfl (T.ev 0 rfl) (decide_eq_false h1)) (rn_rowO (Mem.nth M 0 rfl) rfl (T.ev 5 rfl) rfl) ?_; clear T ac; intro ac T
  refine l_w (wy9 rfl rfl (T.ev 1 rfl) (decide_eq_false h1)) ?_; intro K hK
  refine oc9 (first := []) (cap := []) T rfl rfl rfl rfl evf (.cons (T.ev 0 rfl) .nil) Tryd.func61 rfl rfl ?_
  refine Calls.mono (skCheck8_any s A d _ (SA.rd M (List.nil_sublist _)) (by omega)) ?_
  clear T
  rintro e wc ⟨rfl, hb⟩
  intro ac T
  replace M := M.call hb; clear hb
  refine so9 hK _ _ ?_; clear hK K
  refine lw T (wy9 rfl rfl (T.ev 2 rfl) (decide_eq_false h1)) (rn_eql rfl (T.ev 0 rfl) evc) ?_; clear T ac; intro ac T
  refine lw T (wy9 rfl rfl (T.ev 3 rfl) (decide_eq_false h1)) (rm9 rfl (T.ev 0 rfl)) ?_; clear T ac; intro ac T
  rcases Bool.eq_false_or_eq_true (decide ((skErr s) = 0)) with h2 | h2
  ·replace h2 := of_decide_eq_true h2
   have hsg := skErr_iff.1 (show skErr s = 0 by omega)
   obtain ⟨hb1, hb2, -, -, -, -⟩ := hsg
   refine lw (v := (.pointer (some ⟨g1, 6, none⟩))) T (wy9 rfl rfl (T.ev 0 rfl) (decide_eq_true h2)) (rf9 (off := 6) rfl (T.ev 9 rfl) (fun _ _ _ => by kernel_rfl)) ?_; clear T ac; intro ac T
   refine lw T (wy9 rfl rfl (T.ev 1 rfl) (decide_eq_true h2)) (rn_one (Mem.nth M 0 rfl) rfl (T.ev 0 rfl) rfl) ?_; clear T ac; intro ac T
   refine lw T (wy9 rfl rfl (T.ev 2 rfl) (decide_eq_true h2)) (rn_lenS rfl Tryd.underlying24 (T.ev 0 rfl)) ?_; clear T ac; intro ac T
   refine lw T (wy9 rfl rfl (T.ev 3 rfl) (decide_eq_true h2)) (rn_gtr rfl (T.ev 0 rfl) evc) ?_; clear T ac; intro ac T
   refine lw T (wy9 rfl rfl (T.ev 4 rfl) (decide_eq_true h2)) (rm9 rfl (T.ev 0 rfl)) ?_; clear T ac; intro ac T
   rcases Bool.eq_false_or_eq_true (decide (3 < ((s.ps.length : Nat) : Int))) with h3 | h3
   ·replace h3 := of_decide_eq_true h3
    refine lp T (wn9 rfl rfl (T.ev 0 rfl) (decide_eq_true h3)) ?_; clear T ac; intro ac T
    refine lp T (wn9 rfl rfl (T.ev 1 rfl) (decide_eq_true h3)) ?_; clear T ac; intro ac T
    refine lp T (wn9 rfl rfl (T.ev 2 rfl) (decide_eq_true h3)) ?_; clear T ac; intro ac T
    refine lp T (wn9 rfl rfl (T.ev 3 rfl) (decide_eq_true h3)) ?_; clear T ac; intro ac T
    refine lp T (wn9 rfl rfl (T.ev 4 rfl) (decide_eq_true h3)) ?_; clear T ac; intro ac T
    refine lp T (wn9 rfl rfl (T.ev 5 rfl) (decide_eq_true h3)) ?_; clear T ac; intro ac T
    refine lp T (wn9 rfl rfl (T.ev 6 rfl) (decide_eq_true h3)) ?_; clear T ac; intro ac T
    refine lw T (wy9 rfl rfl (T.ev 12 rfl) (decide_eq_true h2)) (rn_pick1 rfl (T.ev 7 rfl) (decide_eq_true h3) evc) ?_; clear T ac; intro ac T
    refine lw T (wy9 rfl rfl (T.ev 17 rfl) (decide_eq_false h1)) (rn_pick1 rfl (T.ev 13 rfl) (decide_eq_true h2) (T.ev 0 rfl)) ?_; clear T ac; intro ac T
    refine lq T (rn_pick0 rfl (T.ev 18 rfl) (decide_eq_false h1) (T.ev 0 rfl)) ?_; clear T ac; intro ac T
    refine lq T (ra9 rfl (T.ev 0 rfl)) ?_; clear T ac; intro ac T
    refine wpList_nil ?_
    replace T := T.pick [0] rfl
    replace M := M.mask [false] rfl
    exact ⟨(T.pick (E' := [(4, .bool true)]) [0] rfl).as (by (try rw [show (decide (20 < ((s.ps.length : Nat) : Int))) = false from (decide_eq_false h1)]); (try rw [show (decide ((skErr s) = 0)) = true from (decide_eq_true h2)]); (try rw [show (decide (3 < ((s.ps.length : Nat) : Int))) = true from (decide_eq_true h3)]); (try rfl)), M.mask [] rfl⟩
   replace h3 := of_decide_eq_false h3
   refine lw (v := (.pointer (some ⟨g1, 0, none⟩))) T (wy9 rfl rfl (T.ev 0 rfl) (decide_eq_false h3)) (rf9 (off := 0) rfl (T.ev 14 rfl) (fun _ _ _ => by kernel_rfl)) ?_; clear T ac; intro ac T
   refine lw T (wy9 rfl rfl (T.ev 1 rfl) (decide_eq_false h3)) (rn_one (Mem.nth M 0 rfl) rfl (T.ev 0 rfl) rfl) ?_; clear T ac; intro ac T
   refine lw (v := (.pointer (some ⟨g1, 1, none⟩))) T (wy9 rfl rfl (T.ev 2 rfl) (decide_eq_false h3)) (rf9 (off := 1) rfl (T.ev 16 rfl) (fun _ _ _ => by kernel_rfl)) ?_; clear T ac; intro ac T
   refine lw T (wy9 rfl rfl (T.ev 3 rfl) (decide_eq_false h3)) (rn_one (Mem.nth M 0 rfl) rfl (T.ev 0 rfl) rfl) ?_; clear T ac; intro ac T
   refine lw T (wy9 rfl rfl (T.ev 4 rfl) (decide_eq_false h3)) (rn_add rfl (T.ev 2 rfl) (T.ev 0 rfl) (by omega)) ?_; clear T ac; intro ac T
   refine lw T (wy9 rfl rfl (T.ev 5 rfl) (decide_eq_false h3)) (rm9 rfl (T.ev 20 rfl)) ?_; clear T ac; intro ac T
   refine lw T (wy9 rfl rfl (T.ev 6 rfl) (decide_eq_false h3)) (rn_gtr rfl (T.ev 1 rfl) (T.ev 0 rfl)) ?_; clear T ac; intro ac T
   refine lw T (wy9 rfl rfl (T.ev 12 rfl) (decide_eq_true h2)) (rn_pick0 rfl (T.ev 7 rfl) (decide_eq_false h3) (T.ev 0 rfl)) ?_; clear T ac; intro ac T
   refine lw T (wy9 rfl rfl (T.ev 17 rfl) (decide_eq_false h1)) (rn_pick1 rfl (T.ev 13 rfl) (decide_eq_true h2) (T.ev 0 rfl)) ?_; clear T ac; intro ac T
   refine lq T (rn_pick0 rfl (T.ev 18 rfl) (decide_eq_false h1) (T.ev 0 rfl)) ?_; clear T ac; intro ac T
   refine lq T (ra9 rfl (T.ev 0 rfl)) ?_; clear T ac; intro ac T
   refine wpList_nil ?_
   replace T := T.pick [0] rfl
   replace M := M.mask [false] rfl
   exact ⟨(T.pick (E' := [(4, .bool (decide (k < (s.lo + s.wi))))]) [0] rfl).as (by (try rw [show (decide (20 < ((s.ps.length : Nat) : Int))) = false from (decide_eq_false h1)]); (try rw [show (decide ((skErr s) = 0)) = true from (decide_eq_true h2)]); (try rw [show (decide (3 < ((s.ps.length : Nat) : Int))) = false from (decide_eq_false h3)]); (try rfl)), M.mask [] rfl⟩
  replace h2 := of_decide_eq_false h2
  refine lp T (wn9 rfl rfl (T.ev 0 rfl) (decide_eq_false h2)) ?_; clear T ac; intro ac T
  refine lp T (wn9 rfl rfl (T.ev 1 rfl) (decide_eq_false h2)) ?_; clear T ac; intro ac T
  refine lp T (wn9 rfl rfl (T.ev 2 rfl) (decide_eq_false h2)) ?_; clear T ac; intro ac T
  refine lp T (wn9 rfl rfl (T.ev 3 rfl) (decide_eq_false h2)) ?_; clear T ac; intro ac T
  refine lp T (wn9 rfl rfl (T.ev 4 rfl) (decide_eq_false h2)) ?_; clear T ac; intro ac T
  refine lp T (wanted_un rfl rfl (T.ev 0 rfl)) ?_; clear T ac; intro ac T
  refine lp T (wanted_un rfl rfl (T.ev 1 rfl)) ?_; clear T ac; intro ac T
  refine lp T (wanted_un rfl rfl (T.ev 2 rfl)) ?_; clear T ac; intro ac T
  refine lp T (wanted_un rfl rfl (T.ev 3 rfl)) ?_; clear T ac; intro ac T
  refine lp T (wanted_un rfl rfl (T.ev 4 rfl)) ?_; clear T ac; intro ac T
  refine lp T (wanted_un rfl rfl (T.ev 5 rfl)) ?_; clear T ac; intro ac T
  refine lp T (wanted_un rfl rfl (T.ev 6 rfl)) ?_; clear T ac; intro ac T
  refine lp T (wn9 rfl rfl (T.ev 12 rfl) (decide_eq_false h2)) ?_; clear T ac; intro ac T
  refine lw T (wy9 rfl rfl (T.ev 17 rfl) (decide_eq_false h1)) (rn_pick0 rfl (T.ev 13 rfl) (decide_eq_false h2) evc) ?_; clear T ac; intro ac T
  refine lq T (rn_pick0 rfl (T.ev 18 rfl) (decide_eq_false h1) (T.ev 0 rfl)) ?_; clear T ac; intro ac T
  refine lq T (ra9 rfl (T.ev 0 rfl)) ?_; clear T ac; intro ac T
  refine wpList_nil ?_
  replace T := T.pick [0] rfl
  replace M := M.mask [false] rfl
  exact ⟨(T.pick (E' := [(4, .bool false)]) [0] rfl).as (by (try rw [show (decide (20 < ((s.ps.length : Nat) : Int))) = false from (decide_eq_false h1)]); (try rw [show (decide ((skErr s) = 0)) = false from (decide_eq_false h2)]); (try rfl)), M.mask [] rfl⟩
 clear T M
 rintro ac wc ⟨T, M⟩
 refine wp_ret ?_
 refine rt_1 T rfl (T.ev 0 rfl) ?_
 exact ⟨ret_bool (by unfold wid8; rw [Bool.eq_iff_iff]; simp only [Bool.or_eq_true, Bool.and_eq_true, decide_eq_true_eq, Bool.cond_eq_true_distrib, Bool.cond_eq_ite]; omega), M.below⟩
end Go.Proofs.YtehpcclfgjccbaaDoor
end

section
/-
 sheet's laws, plain: what is laid can be sawn.
-/
namespace Go.Proofs.YtehpcclfgjccbaaDoor
set_option linter.unusedSimpArgs false
set_option linter.unusedVariables false
open Go.RowKit
theorem sel_sub {α : Type} : ∀ (L : List α) (s : Nat), (sel L s).Sublist L
 | [], _ => List.Sublist.refl _
 | x :: L, s => by
  simp only [sel]
  split
  ·exact (sel_sub L _).cons_cons x
  ·exact (sel_sub L _).cons x
def ldA (a c : Int) (L : List Pt) (z : Nat × Spt) : Ld := ldOf a c (L.getD z.1 default) z.2 z.1
structure LayOk (a c : Int) (L : List Pt) (r : Rm) (x y : Int) (A : List (Nat × Spt)) : Prop where
 idx : (A.map (·.1)).Perm (sel (List.range L.length) r.s)
 fit : ∀ z ∈ A, (z.2.t && (L.getD z.1 default).gr) = false
 inn : ∀ z ∈ A, inP (ldA a c L z).ar ⟨x, y, x + r.lo, y + r.wi⟩ = true
 apart : A.Pairwise fun z w => overP (ldA a c L z).ar (ldA a c L w).ar = false
 saw : Saw (A.map (ldA a c L)) ⟨x, y, x + r.lo, y + r.wi⟩
section
variable {a c : Int} {L : List Pt}
theorem LayOk.lt {r : Rm} {x y : Int} {A : List (Nat × Spt)} (h : LayOk a c L r x y A) {z : Nat × Spt} (hz : z ∈ A) : z.1 < L.length := by
 have h1 := (sel_sub _ _).subset (h.idx.subset (List.mem_map.2 ⟨z, hz, rfl⟩))
 exact List.mem_range.1 h1
end
end Go.Proofs.YtehpcclfgjccbaaDoor
end

section
/-
 ref8: Number; sheet's law: whether a numbering will do.
-/
namespace Go.Proofs.YtehpcclfgjccbaaDoor
set_option linter.unusedSimpArgs false
set_option linter.unusedVariables false
open Go.RowKit
def numI (l : List Int) : Int := l.foldl (fun m x => max m (x + 1)) 0
theorem plan_cases {s : Sk} {g : List Int} {su : Bool} (hg : s.good) (h : ∀ x ∈ g, 0 ≤ x ∧ x < (s.ps.length : Int)) (hn : g.Nodup) : (planE s g su = 0 ∧ canS s su (gP s g) = true) ∨ (planE s g su = 11 ∧ canS s su (gP s g) = false) := by
 have h1 : lstE s g = 0 := lstE_iff.2 ⟨hg, h, hn⟩
 unfold planE
 rw [if_neg (show ¬ lstE s g ≠ 0 by omega)]
 by_cases hc : canS s su (gP s g) = true
 · rw [if_pos hc]; exact .inl ⟨rfl, hc⟩
 · rw [if_neg hc]; exact .inr ⟨rfl, by simpa using hc⟩
end Go.Proofs.YtehpcclfgjccbaaDoor
end

section
/-
 sheet's laws, plain: a plan's spots can be cut.
-/
namespace Go.Proofs.YtehpcclfgjccbaaDoor
set_option linter.unusedSimpArgs false
set_option linter.unusedVariables false
open Go.RowKit
theorem putS_other : ∀ (A : List (Nat × Spt)) (l : List Spt) (i : Nat), i ∉ A.map (·.1) → (putS l A)[i]? = l[i]?
 | [], l, i, _ => rfl
 | q :: A, l, i, h => by
   show (putS (l.set q.1 q.2) A)[i]? = _
   simp only [List.map_cons, List.mem_cons, not_or] at h
   rw [putS_other A _ i h.2, List.getElem?_set_ne (fun e => h.1 e.symm)]
theorem putS_get : ∀ (A : List (Nat × Spt)) (l : List Spt), (A.map (·.1)).Nodup → (∀ z ∈ A, z.1 < l.length) → ∀ z ∈ A, (putS l A)[z.1]? = some z.2
 | [], l, _, _, z, h => by cases h
 | q :: A, l, hn, hl, z, hz => by
   show (putS (l.set q.1 q.2) A)[z.1]? = _
   rw [List.map_cons, List.nodup_cons] at hn
   rcases List.mem_cons.1 hz with rfl | hz
   · rw [putS_other A _ _ hn.1, List.getElem?_set_self (hl _ List.mem_cons_self)]
   · exact putS_get A _ hn.2 (fun y hy => by rw [List.length_set]; exact hl y (List.mem_cons_of_mem _ hy)) z hz
section
variable {a c lo wi : Int}
def plL (a c : Int) : List Ld → List Pt → List Spt → List Ld
 | all, p :: L, q :: S => plL a c (all ++ [ldOf a c p q all.length]) L S
 | all, _, _ => all
end
end Go.Proofs.YtehpcclfgjccbaaDoor
end

section
/-
 ref8: lists of blanks' numbers.
-/
namespace Go.Proofs.YtehpcclfgjccbaaDoor
set_option linter.unusedSimpArgs false
set_option linter.unusedVariables false
open Go.RowKit
theorem checkParts8_any (s : Sk) (A : Option Addr) (d : Nat) (G : Option Addr) (n : Nat) (g : List Int)  (w : World) (hA : Rd w w.heap.size 4 A s.ps.length (pc s.ps)) (hG : Rd w w.heap.size 1 G g.length (ic g)) (nA : s.ps.length ≤ 1000000) (nG : g.length ≤ 1000000)  :
   Calls Tryd.prog 66 #[.agg #[.int .i64 s.lo, .int .i64 s.wi, .int .i64 s.a0, .int .i64 s.a1, .int .i64 s.c0, .int .i64 s.c1, .slice A s.ps.length d], .slice G g.length n] w fun e w' => e = .returned (.int .i64 (lstE s g)) ∧ Below w.heap.size w w' := by
 obtain ⟨bA, oA, SA⟩ := Sp.old hA
 obtain ⟨bG, oG, SG⟩ := Sp.old hG
 refine px_enter noEx Tryd.func66 rfl 43 rfl [.agg #[.int .i64 s.lo, .int .i64 s.wi, .int .i64 s.a0, .int .i64 s.a1, .int .i64 s.c0, .int .i64 s.c1, .slice A s.ps.length d], .slice G g.length n] rfl rfl (Mem.init w _) ?_
 intro ac wc T M
 refine wp_seq ?_
 refine wp_region_lit ?_
 refine l_w rfl ?_; intro K hK
 refine ow_bx M T rfl rfl rfl rfl (T.ev 0 rfl) rfl ?_; clear M T; intro g1 wc ac M T
 refine so9 hK _ _ ?_; clear hK K
 refine lq T (ra9 rfl evc) ?_; clear T ac; intro ac T
 refine wpList_nil ?_
 replace T := T.pick [1, 3] rfl
 refine nt9 ?_
 refine wp_seq ?_
 refine wp_seq ?_
 refine wp_region_lit ?_
 refine lq T (rn_rowO (Mem.nth M 0 rfl) rfl (T.ev 0 rfl) rfl) ?_; clear T ac; intro ac T
 refine l_w rfl ?_; intro K hK
 refine oc9 (first := []) (cap := []) T rfl rfl rfl rfl evf (.cons (T.ev 0 rfl) .nil) Tryd.func61 rfl rfl ?_
 refine Calls.mono (skCheck8_any s A d _ (SA.rd M (List.nil_sublist _)) (by omega)) ?_
 clear T
 rintro e wc ⟨rfl, hb⟩
 intro ac T
 replace M := M.call hb; clear hb
 refine so9 hK _ _ ?_; clear hK K
 refine lq T (ra9 rfl (T.ev 0 rfl)) ?_; clear T ac; intro ac T
 refine wpList_nil ?_
 replace T := T.pick [0, 3, 4] rfl
 refine nt9 ?_
 refine wp_seq ?_
 refine wp_region_lit ?_
 refine lq T (rm9 rfl (T.ev 0 rfl)) ?_; clear T ac; intro ac T
 refine lq T (rn_neq rfl (T.ev 0 rfl) evc) ?_; clear T ac; intro ac T
 refine wpList_nil ?_
 replace T := T.pick [0, 2, 3, 4] rfl
 refine nt9 ?_
 refine wp_ifn (T.ev 0 rfl) ?_ ?_
 ·intro h1
  refine wp_seq ?_
  refine wp_region_lit ?_
  refine lq T (rm9 rfl (T.ev 1 rfl)) ?_; clear T ac; intro ac T
  refine lq T (ra9 rfl (T.ev 0 rfl)) ?_; clear T ac; intro ac T
  refine wpList_nil ?_
  replace T := T.pick [0] rfl
  replace M := M.mask [false] rfl
  refine nt9 ?_
  refine wp_ret ?_
  refine rt_then ?_
  refine rt_1 T rfl (T.ev 0 rfl) ?_
  have e9 : lstE s g = skErr s := if_pos (by omega)
  rw [e9]
  exact ⟨rfl, M.below⟩
 intro h1
 refine wp_skip ?_
 refine nt9 ?_
 refine wp_seq ?_
 refine wp_seq ?_
 refine wp_region_lit ?_
 refine lq T (ra9 rfl evc) ?_; clear T ac; intro ac T
 refine wpList_nil ?_
 replace T := T.pick [0, 3, 4] rfl
 refine nt9 ?_
 refine wp_block ?_
 refine wp_loop_n (fun mz ac wc => ∃ (k : Nat), mz = g.length - k ∧ (k ≤ g.length) ∧ (lsE s.ps.length [] g = lsE s.ps.length (g.take k) (g.drop k)) ∧ Tm ac 43 [(1, .slice G g.length n), (2, .pointer (some ⟨g1, 0, none⟩)), (6, .int .i64 (k : Int))] ∧ Mem w noEx wc [(g1, .cells [.int .i64 s.lo, .int .i64 s.wi, .int .i64 s.a0, .int .i64 s.a1, .int .i64 s.c0, .int .i64 s.c1, .slice A s.ps.length d])]) ?_ ?_
 ·exact ⟨_, 0, rfl, (Nat.zero_le _), rfl, T.pick [2, 1, 0] rfl, M.mask [true] rfl⟩
 clear T M
 rintro mz ac wc ⟨k, hmm1, hk, H, T, M⟩
 refine wp_seq ?_
 refine wp_seq ?_
 refine wp_region_lit ?_
 refine lq T (rm9 rfl (T.ev 2 rfl)) ?_; clear T ac; intro ac T
 refine lq T (rm9 rfl (T.ev 1 rfl)) ?_; clear T ac; intro ac T
 refine lq T (rn_lenS rfl Tryd.underlying27 (T.ev 0 rfl)) ?_; clear T ac; intro ac T
 refine lq T (rn_lss rfl (T.ev 2 rfl) (T.ev 0 rfl)) ?_; clear T ac; intro ac T
 refine wpList_nil ?_
 replace T := T.pick [0, 4, 5, 6] rfl
 refine nt9 ?_
 refine wp_if (T.ev 0 rfl) ?_ ?_
 ·intro h2
  obtain ⟨x, hkx, hdx⟩ := ic_next (l := g) (k := k) (by omega)
  rw [hdx, lsE] at H
  refine wp_skip ?_
  refine nt9 ?_
  refine wp_seq ?_
  refine wp_block ?_
  refine wp_seq ?_
  refine wp_seq ?_
  refine g_start2 M (M.mask [true] rfl) 10 (by kernel_rfl) rfl (by kernel_rfl) ?_
  clear M; intro wc M
  refine gq T 0 1 rfl (fun _ _ _ _ _ => (rm9 rfl (T.ev 1 rfl))) ?_; clear T ac; intro ac T
  refine gq T 1 3 rfl (fun _ _ _ _ _ => (rm9 rfl (T.ev 4 rfl))) ?_; clear T ac; intro ac T
  refine gq T 2 7 rfl (fun _ _ _ _ _ => (rn_indexAddr (size := 1) k rfl (T.ev 1 rfl) (T.ev 0 rfl) ⟨_, Tryd.underlying27, by kernel_rfl⟩ rfl (by omega) (SG.at0 (by omega)))) ?_; clear T ac; intro ac T
  refine gq T 3 15 rfl (fun B w' hD hl hS => (rn_cell (Sp.ic0 SG (show Mem w noEx w' _ from hS) (List.nil_sublist _) hkx) rfl (T.ev 0 rfl))) ?_; clear T ac; intro ac T
  refine gq (v := (.pointer (some ⟨g1, 6, none⟩))) T 4 31 rfl (fun _ _ _ _ _ => (rf9 (off := 6) rfl (T.ev 6 rfl) (fun _ _ _ => by kernel_rfl))) ?_; clear T ac; intro ac T
  refine gq T 5 63 rfl (fun B w' hD hl hS => (rn_one (Mem.nth (show Mem w noEx w' _ from hS) 0 rfl) rfl (T.ev 0 rfl) rfl)) ?_; clear T ac; intro ac T
  refine gq T 6 127 rfl (fun _ _ _ _ _ => (rn_lenS rfl Tryd.underlying24 (T.ev 0 rfl))) ?_; clear T ac; intro ac T
  refine gq T 7 255 rfl (fun _ _ _ _ _ => (rn_sub rfl (T.ev 0 rfl) evc (by omega))) ?_; clear T ac; intro ac T
  refine gw 8 511 ?_; intro K hK
  refine oc9 (first := []) (cap := []) T rfl rfl rfl rfl evf (.cons (T.ev 4 rfl) (.cons evc (.cons (T.ev 0 rfl) .nil))) Tryd.func75 rfl rfl ?_
  refine Calls.mono (fits8_any x 0 (((s.ps.length : Nat) : Int) - 1) _) ?_
  clear T
  rintro e wc ⟨rfl, hb⟩
  intro ac T
  replace M := M.call hb; clear hb
  refine so9 hK _ _ (M.mask [true] rfl) ?_; clear hK K
  refine gq T 9 1023 rfl (fun _ _ _ _ _ => (rn_not rfl (T.ev 0 rfl))) ?_; clear T ac; intro ac T
  refine g_done (by kernel_rfl) ?_
  replace T := T.pick [0, 11, 12, 13] rfl
  refine nt9 ?_
  refine wp_cond_split (T.ev 0 rfl) ?_ ?_
  ·intro h3
   (try have h3' := h3; try simp only [Bool.and_eq_true, Bool.or_eq_true, Bool.not_eq_true', Bool.and_eq_false_imp, Bool.or_eq_false_iff, decide_eq_true_eq, decide_eq_false_iff_not] at h3')
   have h3b : ¬ (0 ≤ x ∧ x ≤ (s.ps.length : Int) - 1) := by simp [withinB] at h3; omega
   refine wp_seq ?_
   refine wp_region_lit ?_
   refine lq T (ra9 rfl evc) ?_; clear T ac; intro ac T
   refine wpList_nil ?_
   replace T := T.pick [0] rfl
   replace M := M.mask [false] rfl
   refine nt9 ?_
   refine wp_ret ?_
   refine rt_then ?_
   refine rt_blk ?_
   refine rt_then ?_
   refine rt_then ?_
   refine rt_blk ?_
   refine rt_then ?_
   refine rt_1 T rfl (T.ev 0 rfl) ?_
   have e9 : lstE s g = 3 := by unfold lstE; rw [if_neg (by omega), H, if_pos h3b]
   rw [e9]
   exact ⟨rfl, M.below⟩
  intro h3
  (try have h3' := h3; try simp only [Bool.and_eq_true, Bool.or_eq_true, Bool.not_eq_true', Bool.and_eq_false_imp, Bool.or_eq_false_iff, decide_eq_true_eq, decide_eq_false_iff_not] at h3')
  have h3b : 0 ≤ x ∧ x ≤ (s.ps.length : Int) - 1 := by simp [withinB] at h3; omega
  refine wp_skip ?_
  refine nt9 ?_
  refine wp_seq ?_
  refine wp_region_lit ?_
  refine lq T (ra9 rfl evc) ?_; clear T ac; intro ac T
  refine wpList_nil ?_
  replace T := T.pick [0, 2, 3, 4] rfl
  refine nt9 ?_
  refine wp_block ?_
  refine wp_loop_n (fun mz ac wc => ∃ (i : Nat), mz = k - i ∧ (i ≤ k) ∧ (x ∉ g.take i) ∧ Tm ac 43 [(1, .slice G g.length n), (2, .pointer (some ⟨g1, 0, none⟩)), (6, .int .i64 (k : Int)), (7, .int .i64 (i : Int))] ∧ Mem w noEx wc [(g1, .cells [.int .i64 s.lo, .int .i64 s.wi, .int .i64 s.a0, .int .i64 s.a1, .int .i64 s.c0, .int .i64 s.c1, .slice A s.ps.length d])]) ?_ ?_
  ·exact ⟨_, 0, rfl, (Nat.zero_le _), (by simp), T.pick [1, 2, 3, 0] rfl, M.mask [true] rfl⟩
  clear T M
  rintro mz ac wc ⟨i, hmm2, hi, H2, T, M⟩
  refine wp_seq ?_
  refine wp_seq ?_
  refine wp_region_lit ?_
  refine lq T (rm9 rfl (T.ev 3 rfl)) ?_; clear T ac; intro ac T
  refine lq T (rm9 rfl (T.ev 3 rfl)) ?_; clear T ac; intro ac T
  refine lq T (rn_lss rfl (T.ev 1 rfl) (T.ev 0 rfl)) ?_; clear T ac; intro ac T
  refine wpList_nil ?_
  replace T := T.pick [0, 3, 4, 5, 6] rfl
  refine nt9 ?_
  refine wp_if (T.ev 0 rfl) ?_ ?_
  ·intro h4
   obtain ⟨y, hky, -⟩ := ic_next (l := g) (k := i) (by omega)
   refine wp_skip ?_
   refine nt9 ?_
   refine wp_seq ?_
   refine wp_block ?_
   refine wp_seq ?_
   refine g_start2 M (M.mask [true] rfl) 9 (by kernel_rfl) rfl (by kernel_rfl) ?_
   clear M; intro wc M
   refine gq T 0 1 rfl (fun _ _ _ _ _ => (rm9 rfl (T.ev 1 rfl))) ?_; clear T ac; intro ac T
   refine gq T 1 3 rfl (fun _ _ _ _ _ => (rm9 rfl (T.ev 5 rfl))) ?_; clear T ac; intro ac T
   refine gq T 2 7 rfl (fun _ _ _ _ _ => (rn_indexAddr (size := 1) i rfl (T.ev 1 rfl) (T.ev 0 rfl) ⟨_, Tryd.underlying27, by kernel_rfl⟩ rfl (by omega) (SG.at0 (by omega)))) ?_; clear T ac; intro ac T
   refine gq T 3 15 rfl (fun B w' hD hl hS => (rn_cell (Sp.ic0 SG (show Mem w noEx w' _ from hS) (List.nil_sublist _) hky) rfl (T.ev 0 rfl))) ?_; clear T ac; intro ac T
   refine gq T 4 31 rfl (fun _ _ _ _ _ => (rm9 rfl (T.ev 5 rfl))) ?_; clear T ac; intro ac T
   refine gq T 5 63 rfl (fun _ _ _ _ _ => (rm9 rfl (T.ev 8 rfl))) ?_; clear T ac; intro ac T
   refine gq T 6 127 rfl (fun _ _ _ _ _ => (rn_indexAddr (size := 1) k rfl (T.ev 1 rfl) (T.ev 0 rfl) ⟨_, Tryd.underlying27, by kernel_rfl⟩ rfl (by omega) (SG.at0 (by omega)))) ?_; clear T ac; intro ac T
   refine gq T 7 255 rfl (fun B w' hD hl hS => (rn_cell (Sp.ic0 SG (show Mem w noEx w' _ from hS) (List.nil_sublist _) hkx) rfl (T.ev 0 rfl))) ?_; clear T ac; intro ac T
   refine gq T 8 511 rfl (fun _ _ _ _ _ => (rn_eql rfl (T.ev 4 rfl) (T.ev 0 rfl))) ?_; clear T ac; intro ac T
   refine g_done (by kernel_rfl) ?_
   replace T := T.pick [0, 10, 11, 12, 13] rfl
   refine nt9 ?_
   refine wp_if (T.ev 0 rfl) ?_ ?_
   ·intro h5
    refine wp_seq ?_
    refine wp_region_lit ?_
    refine lq T (ra9 rfl evc) ?_; clear T ac; intro ac T
    refine wpList_nil ?_
    replace T := T.pick [0] rfl
    replace M := M.mask [false] rfl
    refine nt9 ?_
    refine wp_ret ?_
    refine rt_blk ?_
    refine rt_then ?_
    refine rt_then ?_
    refine rt_blk ?_
    refine rt_blk ?_
    refine rt_then ?_
    refine rt_then ?_
    refine rt_blk ?_
    refine rt_then ?_
    refine rt_1 T rfl (T.ev 0 rfl) ?_
    have hin9 : x ∈ g.take k := by rw [List.mem_take_iff_getElem]; obtain ⟨q1, q2⟩ := List.getElem?_eq_some_iff.1 hky; exact ⟨i, by omega, by omega⟩
    have e9 : lstE s g = 4 := by unfold lstE; rw [if_neg (by omega), H, if_neg (by omega), if_pos hin9]
    rw [e9]
    exact ⟨rfl, M.below⟩
   intro h5
   refine wp_skip ?_
   refine nm_blk ?_
   refine nt9 ?_
   refine wp_region_lit ?_
   refine lq T (rm9 rfl (T.ev 4 rfl)) ?_; clear T ac; intro ac T
   refine lq T (rn_add rfl (T.ev 0 rfl) evc (by omega)) ?_; clear T ac; intro ac T
   refine l_q (v := (.int .i64 ((i : Int) + 1))) (T.pick [0, 1, 2, 3, 4, 5] rfl) rfl rfl rfl rfl (ra9 rfl (T.ev 0 rfl)) ?_; clear T ac; intro ac T
   refine wpList_nil ?_
   replace T := T.pick [0, 4, 5, 6] rfl
   refine nt9 ?_
   exact ⟨_, by omega, i + 1, rfl, (by omega), (by rw [List.take_add_one, hky]; simp only [Option.toList_some, List.mem_append, List.mem_singleton]; rintro (h9 | h9); exact H2 h9; omega), T.pick [1, 2, 3, 0] rfl, M.mask [true] rfl⟩
  intro h4
  have hnin : x ∉ g.take k := by rw [show k = i by omega]; exact H2
  refine wp_exit ?_
  refine ex_then ?_
  refine ex_then ?_
  refine ex_hit ?_
  refine nm_blk ?_
  refine nt9 ?_
  refine wp_region_lit ?_
  refine lq T (rm9 rfl (T.ev 3 rfl)) ?_; clear T ac; intro ac T
  refine lq T (rn_add rfl (T.ev 0 rfl) evc (by omega)) ?_; clear T ac; intro ac T
  refine l_q (v := (.int .i64 ((k : Int) + 1))) (T.pick [0, 1, 2, 3, 4, 6] rfl) rfl rfl rfl rfl (ra9 rfl (T.ev 0 rfl)) ?_; clear T ac; intro ac T
  refine wpList_nil ?_
  replace T := T.pick [0, 4, 5] rfl
  refine nt9 ?_
  exact ⟨_, by omega, k + 1, rfl, (by omega), (by rw [if_neg (by omega), if_neg hnin] at H; rw [H, List.take_add_one, hkx]; rfl), T.pick [1, 2, 0] rfl, M.mask [true] rfl⟩
 intro h2
 rw [List.drop_of_length_le (by omega), lsE] at H
 refine wp_exit ?_
 refine ex_then ?_
 refine ex_then ?_
 refine ex_hit ?_
 refine nt9 ?_
 refine wp_seq ?_
 refine wp_region_lit ?_
 refine lq T (ra9 rfl evc) ?_; clear T ac; intro ac T
 refine wpList_nil ?_
 replace T := T.pick [0] rfl
 replace M := M.mask [false] rfl
 refine nt9 ?_
 refine wp_ret ?_
 refine rt_1 T rfl (T.ev 0 rfl) ?_
 have e9 : lstE s g = 0 := by unfold lstE; rw [if_neg (by omega), H]
 rw [e9]
 exact ⟨rfl, M.below⟩
end Go.Proofs.YtehpcclfgjccbaaDoor
end

section
/-
 ref8: boxes.
-/
namespace Go.Proofs.YtehpcclfgjccbaaDoor
set_option linter.unusedSimpArgs false
set_option linter.unusedVariables false
open Go.RowKit
theorem rt_CC {P : Program} {fn : Func} {R : Ending → World → Prop} {a : Act} {w0 w : World} {ex : Nat → Prop} {L : List (Nat × BA)} {n : Nat} {E : List (Nat × Value)} {t t' : Tmp} {ty ty' : TypeId} {m m' g g' : Nat} [hT : RowTy P ty m] [hT' : RowTy P ty' m'] {cs cs' : List Value} (M : Mem w0 ex w L) (T : Tm a n E) (hr : fn.results = #[.cell t ty, .cell t' ty'])
  (hx : a.eval (.tmp t) = .pointer (some ⟨g, 0, none⟩)) (hx' : a.eval (.tmp t') = .pointer (some ⟨g', 0, none⟩)) (hm : (g, BA.cells cs) ∈ L) (hm' : (g', BA.cells cs') ∈ L) (hn : cs.length = m) (hn' : cs'.length = m')
  (h : R (.returned (.tuple #[.agg cs.toArray, .agg cs'.toArray])) w) : bodyPost P fn R .ret a w := by
 obtain ⟨d, hu, hw⟩ := hT.row
 obtain ⟨d', hu', hw'⟩ := hT'.row
 refine ⟨T.defers, .tuple #[.agg cs.toArray, .agg cs'.toArray], ?_, h⟩
 have hl := run_loadVar_mid w g 0 ty cs d (by simpa using (M.get hm).range) hu hw (by rw [hn]; exact hT.size)
 have hl' := run_loadVar_mid w g' 0 ty' cs' d' (by simpa using (M.get hm').range) hu' hw' (by rw [hn']; exact hT'.size)
 have e : a.tmps[t]?.getD undef = .pointer (some ⟨g, 0, none⟩) := by simpa [Act.eval] using hx
 have e' : a.tmps[t']?.getD undef = .pointer (some ⟨g', 0, none⟩) := by simpa [Act.eval] using hx'
 simp [results, hr, e, e', asAddr, hl, hl', Sem.run_bind]
structure Bo where
 x : Int
 y : Int
 lo : Int
 wi : Int
deriving DecidableEq, Inhabited
def Bo.few (b : Bo) : Prop := (-1000 ≤ b.x ∧ b.x ≤ 1000) ∧ (-1000 ≤ b.y ∧ b.y ≤ 1000) ∧ (-1000 ≤ b.lo ∧ b.lo ≤ 1000) ∧ (-1000 ≤ b.wi ∧ b.wi ≤ 1000)
def halA (b : Bo) (k : Int) : Bo := if k < b.lo then ⟨b.x, b.y, k, b.wi⟩ else ⟨b.x, b.y, b.lo, k - b.lo + 1⟩
def halB (b : Bo) (k : Int) : Bo := if k < b.lo then ⟨b.x + k, b.y, b.lo - k, b.wi⟩ else ⟨b.x, b.y + (k - b.lo + 1), b.lo, b.wi - (k - b.lo + 1)⟩
def insB (a b : Bo) : Bool := withinB a.x b.x (b.x + b.lo - a.lo) && withinB a.y b.y (b.y + b.wi - a.wi)
def apaB (a b : Bo) : Bool := decide (a.x + a.lo ≤ b.x) || (decide (b.x + b.lo ≤ a.x) || (decide (a.y + a.wi ≤ b.y) || decide (b.y + b.wi ≤ a.y)))
theorem whole8_any (s : Sk) (A : Option Addr) (d : Nat)  (w : World)  :
  Calls Tryd.prog 68 #[.agg #[.int .i64 s.lo, .int .i64 s.wi, .int .i64 s.a0, .int .i64 s.a1, .int .i64 s.c0, .int .i64 s.c1, .slice A s.ps.length d]] w fun e w' => e = .returned (.agg #[.int .i64 0, .int .i64 0, .int .i64 s.lo, .int .i64 s.wi]) ∧ Below w.heap.size w w' := by
 refine px_enter noEx Tryd.func68 rfl 8 rfl [.agg #[.int .i64 s.lo, .int .i64 s.wi, .int .i64 s.a0, .int .i64 s.a1, .int .i64 s.c0, .int .i64 s.c1, .slice A s.ps.length d]] rfl rfl (Mem.init w _) ?_
 intro ac wc T M
 refine wp_seq ?_
 refine wp_region_lit ?_
 refine l_w rfl ?_; intro K hK
 refine ow_bx M T rfl rfl rfl rfl (T.ev 0 rfl) rfl ?_; clear M T; intro g1 wc ac M T
 refine so9 hK _ _ ?_; clear hK K
 refine l_w rfl ?_; intro K hK
 refine ow_al M T rfl rfl rfl rfl ?_; clear M T; intro g2 wc ac M T
 refine so9 hK _ _ ?_; clear hK K
 refine wpList_nil ?_
 replace T := T.pick [0, 1] rfl
 refine nt9 ?_
 refine wp_seq ?_
 refine wp_region_lit ?_
 refine lq (v := (.pointer (some ⟨g1, 0, none⟩))) T (rf9 (off := 0) rfl (T.ev 1 rfl) (fun _ _ _ => by kernel_rfl)) ?_; clear T ac; intro ac T
 refine lq T (rn_one (Mem.nth M 1 rfl) rfl (T.ev 0 rfl) rfl) ?_; clear T ac; intro ac T
 refine lq (v := (.pointer (some ⟨g1, 1, none⟩))) T (rf9 (off := 1) rfl (T.ev 3 rfl) (fun _ _ _ => by kernel_rfl)) ?_; clear T ac; intro ac T
 refine lq T (rn_one (Mem.nth M 1 rfl) rfl (T.ev 0 rfl) rfl) ?_; clear T ac; intro ac T
 refine lq (v := (.agg #[.int .i64 0, .int .i64 0, .int .i64 s.lo, .int .i64 s.wi])) T (rn_build rfl (.cons evc (.cons evc (.cons (T.ev 2 rfl) (.cons (T.ev 0 rfl) .nil)))) (fun _ => by kernel_rfl)) ?_; clear T ac; intro ac T
 refine l_w rfl ?_; intro K hK
 refine ow_stO M T rfl rfl (T.ev 5 rfl) (T.ev 0 rfl) rfl .head rfl (by simp) rfl (by kernel_rfl) ?_; clear M T; intro wc ac M T
 refine so9 hK _ _ ?_; clear hK K
 refine wpList_nil ?_
 replace T := T.pick [5] rfl
 replace M := M.mask [true, false] rfl
 refine nt9 ?_
 refine wp_ret ?_
 refine rt_c M T rfl (T.ev 0 rfl) (nthE_mem (i := 0) rfl) rfl ?_
 exact ⟨rfl, M.below⟩
theorem halves8_any (b : Bo) (k : Int)  (w : World) (hb : b.few) (hk : -1000 ≤ k ∧ k ≤ 1000)  :
   Calls Tryd.prog 98 #[.agg #[.int .i64 b.x, .int .i64 b.y, .int .i64 b.lo, .int .i64 b.wi], .int .i64 k] w fun e w' => e = .returned (.tuple #[.agg #[.int .i64 ((halA b k).x), .int .i64 ((halA b k).y), .int .i64 ((halA b k).lo), .int .i64 ((halA b k).wi)], .agg #[.int .i64 ((halB b k).x), .int .i64 ((halB b k).y), .int .i64 ((halB b k).lo), .int .i64 ((halB b k).wi)]]) ∧ Below w.heap.size w w' := by
 obtain ⟨f1, f2, f3, f4⟩ := hb
 refine px_enter noEx Tryd.func98 rfl 57 rfl [.agg #[.int .i64 b.x, .int .i64 b.y, .int .i64 b.lo, .int .i64 b.wi], .int .i64 k] rfl rfl (Mem.init w _) ?_
 intro ac wc T M
 refine wp_seq ?_
 refine wp_region_lit ?_
 refine l_w rfl ?_; intro K hK
 refine ow_bx M T rfl rfl rfl rfl (T.ev 0 rfl) rfl ?_; clear M T; intro g1 wc ac M T
 refine so9 hK _ _ ?_; clear hK K
 refine l_w rfl ?_; intro K hK
 refine ow_al M T rfl rfl rfl rfl ?_; clear M T; intro g2 wc ac M T
 refine so9 hK _ _ ?_; clear hK K
 refine l_w rfl ?_; intro K hK
 refine ow_al M T rfl rfl rfl rfl ?_; clear M T; intro g3 wc ac M T
 refine so9 hK _ _ ?_; clear hK K
 refine wpList_nil ?_
 replace T := T.pick [0, 1, 2, 4] rfl
 refine nt9 ?_
 refine wp_seq ?_
 refine wp_seq ?_
 refine wp_region_lit ?_
 refine lq T (rm9 rfl (T.ev 3 rfl)) ?_; clear T ac; intro ac T
 refine lq (v := (.pointer (some ⟨g1, 2, none⟩))) T (rf9 (off := 2) rfl (T.ev 3 rfl) (fun _ _ _ => by kernel_rfl)) ?_; clear T ac; intro ac T
 refine lq T (rn_one (Mem.nth M 2 rfl) rfl (T.ev 0 rfl) rfl) ?_; clear T ac; intro ac T
 refine lq T (rn_lss rfl (T.ev 2 rfl) (T.ev 0 rfl)) ?_; clear T ac; intro ac T
 refine wpList_nil ?_
 replace T := T.pick [0, 4, 5, 6, 7] rfl
 refine nt9 ?_
 refine wp_if (T.ev 0 rfl) ?_ ?_
 ·intro h1
  refine wp_seq ?_
  refine g_start2 M (M.perm [2] rfl rfl) 23 (by kernel_rfl) rfl (by kernel_rfl) ?_
  clear M; intro wc M
  refine g_addG 21 M ?_
  refine g_addG 22 (M.perm [0, 2] rfl rfl) ?_
  refine gq (v := (.pointer (some ⟨g1, 0, none⟩))) T 0 1 rfl (fun _ _ _ _ _ => (rf9 (off := 0) rfl (T.ev 3 rfl) (fun _ _ _ => by kernel_rfl))) ?_; clear T ac; intro ac T
  refine gq T 1 3 rfl (fun B w' hD hl hS => (rn_one (Mem.nth (show Mem w noEx w' _ from ((MA.lft hS) (hD.wait (i := 1) (m := 22) (by kernel_rfl) hl))) 1 rfl) rfl (T.ev 0 rfl) rfl)) ?_; clear T ac; intro ac T
  refine gq (v := (.pointer (some ⟨g1, 1, none⟩))) T 2 7 rfl (fun _ _ _ _ _ => (rf9 (off := 1) rfl (T.ev 5 rfl) (fun _ _ _ => by kernel_rfl))) ?_; clear T ac; intro ac T
  refine gq T 3 15 rfl (fun B w' hD hl hS => (rn_one (Mem.nth (show Mem w noEx w' _ from ((MA.lft hS) (hD.wait (i := 3) (m := 22) (by kernel_rfl) hl))) 1 rfl) rfl (T.ev 0 rfl) rfl)) ?_; clear T ac; intro ac T
  refine gq T 4 31 rfl (fun _ _ _ _ _ => (rm9 rfl (T.ev 8 rfl))) ?_; clear T ac; intro ac T
  refine gq (v := (.pointer (some ⟨g1, 3, none⟩))) T 5 63 rfl (fun _ _ _ _ _ => (rf9 (off := 3) rfl (T.ev 8 rfl) (fun _ _ _ => by kernel_rfl))) ?_; clear T ac; intro ac T
  refine gq T 6 127 rfl (fun B w' hD hl hS => (rn_one (Mem.nth (show Mem w noEx w' _ from ((MA.lft hS) (hD.wait (i := 6) (m := 22) (by kernel_rfl) hl))) 1 rfl) rfl (T.ev 0 rfl) rfl)) ?_; clear T ac; intro ac T
  refine gq (v := (.agg #[.int .i64 b.x, .int .i64 b.y, .int .i64 k, .int .i64 b.wi])) T 7 255 rfl (fun _ _ _ _ _ => (rn_build rfl (.cons (T.ev 5 rfl) (.cons (T.ev 3 rfl) (.cons (T.ev 2 rfl) (.cons (T.ev 0 rfl) .nil)))) (fun _ => by kernel_rfl))) ?_; clear T ac; intro ac T
  refine gq (v := (.pointer (some ⟨g1, 0, none⟩))) T 8 511 rfl (fun _ _ _ _ _ => (rf9 (off := 0) rfl (T.ev 11 rfl) (fun _ _ _ => by kernel_rfl))) ?_; clear T ac; intro ac T
  refine gq T 9 1023 rfl (fun B w' hD hl hS => (rn_one (Mem.nth (show Mem w noEx w' _ from ((MA.lft hS) (hD.wait (i := 9) (m := 22) (by kernel_rfl) hl))) 1 rfl) rfl (T.ev 0 rfl) rfl)) ?_; clear T ac; intro ac T
  refine gq T 10 2047 rfl (fun _ _ _ _ _ => (rm9 rfl (T.ev 14 rfl))) ?_; clear T ac; intro ac T
  refine gq T 11 4095 rfl (fun _ _ _ _ _ => (rn_add rfl (T.ev 1 rfl) (T.ev 0 rfl) (by omega))) ?_; clear T ac; intro ac T
  refine gq (v := (.pointer (some ⟨g1, 1, none⟩))) T 12 8191 rfl (fun _ _ _ _ _ => (rf9 (off := 1) rfl (T.ev 15 rfl) (fun _ _ _ => by kernel_rfl))) ?_; clear T ac; intro ac T
  refine gq T 13 16383 rfl (fun B w' hD hl hS => (rn_one (Mem.nth (show Mem w noEx w' _ from ((MA.lft hS) (hD.wait (i := 13) (m := 22) (by kernel_rfl) hl))) 1 rfl) rfl (T.ev 0 rfl) rfl)) ?_; clear T ac; intro ac T
  refine gq (v := (.pointer (some ⟨g1, 2, none⟩))) T 14 32767 rfl (fun _ _ _ _ _ => (rf9 (off := 2) rfl (T.ev 17 rfl) (fun _ _ _ => by kernel_rfl))) ?_; clear T ac; intro ac T
  refine gq T 15 65535 rfl (fun B w' hD hl hS => (rn_one (Mem.nth (show Mem w noEx w' _ from ((MA.lft hS) (hD.wait (i := 15) (m := 22) (by kernel_rfl) hl))) 1 rfl) rfl (T.ev 0 rfl) rfl)) ?_; clear T ac; intro ac T
  refine gq T 16 131071 rfl (fun _ _ _ _ _ => (rm9 rfl (T.ev 20 rfl))) ?_; clear T ac; intro ac T
  refine gq T 17 262143 rfl (fun _ _ _ _ _ => (rn_sub rfl (T.ev 1 rfl) (T.ev 0 rfl) (by omega))) ?_; clear T ac; intro ac T
  refine gq (v := (.pointer (some ⟨g1, 3, none⟩))) T 18 524287 rfl (fun _ _ _ _ _ => (rf9 (off := 3) rfl (T.ev 21 rfl) (fun _ _ _ => by kernel_rfl))) ?_; clear T ac; intro ac T
  refine gq T 19 1048575 rfl (fun B w' hD hl hS => (rn_one (Mem.nth (show Mem w noEx w' _ from ((MA.lft hS) (hD.wait (i := 19) (m := 22) (by kernel_rfl) hl))) 1 rfl) rfl (T.ev 0 rfl) rfl)) ?_; clear T ac; intro ac T
  refine gq (v := (.agg #[.int .i64 (b.x + k), .int .i64 b.y, .int .i64 (b.lo - k), .int .i64 b.wi])) T 20 2097151 rfl (fun _ _ _ _ _ => (rn_build rfl (.cons (T.ev 8 rfl) (.cons (T.ev 6 rfl) (.cons (T.ev 2 rfl) (.cons (T.ev 0 rfl) .nil)))) (fun _ => by kernel_rfl))) ?_; clear T ac; intro ac T
  refine gw 21 4194303 ?_; intro K hK
  refine ow_stO M T rfl rfl (T.ev 23 rfl) (T.ev 13 rfl) rfl (.tail .head) rfl (by simp) rfl (by kernel_rfl) ?_; clear M T; intro wc ac M T
  refine so9 hK _ _ (MA.mk (fun _ => M.mask [true, false, true] rfl) (MA.mk (fun h => (no_of (by kernel_rfl) h).elim) (M.mask [false, false, true] rfl))) ?_; clear hK K
  refine gw 22 8388607 ?_; intro K hK
  refine ow_stO M T rfl rfl (T.ev 22 rfl) (T.ev 0 rfl) rfl .head rfl (by simp) rfl (by kernel_rfl) ?_; clear M T; intro wc ac M T
  refine so9 hK _ _ (MA.mk (fun h => (no_of (by kernel_rfl) h).elim) (MA.mk (fun h => (no_of (by kernel_rfl) h).elim) (M.mask [false, false, true] rfl))) ?_; clear hK K
  refine g_done (by kernel_rfl) ?_
  replace T := T.pick [22, 23] rfl
  replace M := M.mask [true, true, false] rfl
  refine nt9 ?_
  refine wp_ret ?_
  refine rt_then ?_
  refine rt_CC M T rfl (T.ev 1 rfl) (T.ev 0 rfl) (nthE_mem (i := 1) rfl) (nthE_mem (i := 0) rfl) rfl rfl ?_
  have e1 : halA b k = ⟨b.x, b.y, k, b.wi⟩ := if_pos (by omega)
  have e2 : halB b k = ⟨b.x + k, b.y, b.lo - k, b.wi⟩ := if_pos (by omega)
  rw [e1, e2]
  exact ⟨rfl, M.below⟩
 intro h1
 refine wp_skip ?_
 refine nt9 ?_
 refine wp_seq ?_
 refine wp_region_lit ?_
 refine lq T (rm9 rfl (T.ev 4 rfl)) ?_; clear T ac; intro ac T
 refine lq (v := (.pointer (some ⟨g1, 2, none⟩))) T (rf9 (off := 2) rfl (T.ev 4 rfl) (fun _ _ _ => by kernel_rfl)) ?_; clear T ac; intro ac T
 refine lq T (rn_one (Mem.nth M 2 rfl) rfl (T.ev 0 rfl) rfl) ?_; clear T ac; intro ac T
 refine lq T (rn_sub rfl (T.ev 2 rfl) (T.ev 0 rfl) (by omega)) ?_; clear T ac; intro ac T
 refine lq T (rn_add rfl (T.ev 0 rfl) evc (by omega)) ?_; clear T ac; intro ac T
 refine l_q (v := (.int .i64 ((k - b.lo) + 1))) (T.pick [0, 1, 2, 3, 4, 5, 6, 7, 8] rfl) rfl rfl rfl rfl (ra9 rfl (T.ev 0 rfl)) ?_; clear T ac; intro ac T
 refine wpList_nil ?_
 replace T := T.pick [0, 7, 8, 9] rfl
 refine nt9 ?_
 refine wp_seq ?_
 refine g_start2 M (M.perm [2] rfl rfl) 23 (by kernel_rfl) rfl (by kernel_rfl) ?_
 clear M; intro wc M
 refine g_addG 21 M ?_
 refine g_addG 22 (M.perm [0, 2] rfl rfl) ?_
 refine gq (v := (.pointer (some ⟨g1, 0, none⟩))) T 0 1 rfl (fun _ _ _ _ _ => (rf9 (off := 0) rfl (T.ev 3 rfl) (fun _ _ _ => by kernel_rfl))) ?_; clear T ac; intro ac T
 refine gq T 1 3 rfl (fun B w' hD hl hS => (rn_one (Mem.nth (show Mem w noEx w' _ from ((MA.lft hS) (hD.wait (i := 1) (m := 22) (by kernel_rfl) hl))) 1 rfl) rfl (T.ev 0 rfl) rfl)) ?_; clear T ac; intro ac T
 refine gq (v := (.pointer (some ⟨g1, 1, none⟩))) T 2 7 rfl (fun _ _ _ _ _ => (rf9 (off := 1) rfl (T.ev 5 rfl) (fun _ _ _ => by kernel_rfl))) ?_; clear T ac; intro ac T
 refine gq T 3 15 rfl (fun B w' hD hl hS => (rn_one (Mem.nth (show Mem w noEx w' _ from ((MA.lft hS) (hD.wait (i := 3) (m := 22) (by kernel_rfl) hl))) 1 rfl) rfl (T.ev 0 rfl) rfl)) ?_; clear T ac; intro ac T
 refine gq (v := (.pointer (some ⟨g1, 2, none⟩))) T 4 31 rfl (fun _ _ _ _ _ => (rf9 (off := 2) rfl (T.ev 7 rfl) (fun _ _ _ => by kernel_rfl))) ?_; clear T ac; intro ac T
 refine gq T 5 63 rfl (fun B w' hD hl hS => (rn_one (Mem.nth (show Mem w noEx w' _ from ((MA.lft hS) (hD.wait (i := 5) (m := 22) (by kernel_rfl) hl))) 1 rfl) rfl (T.ev 0 rfl) rfl)) ?_; clear T ac; intro ac T
 refine gq T 6 127 rfl (fun _ _ _ _ _ => (rm9 rfl (T.ev 6 rfl))) ?_; clear T ac; intro ac T
 refine gq (v := (.agg #[.int .i64 b.x, .int .i64 b.y, .int .i64 b.lo, .int .i64 ((k - b.lo) + 1)])) T 7 255 rfl (fun _ _ _ _ _ => (rn_build rfl (.cons (T.ev 5 rfl) (.cons (T.ev 3 rfl) (.cons (T.ev 1 rfl) (.cons (T.ev 0 rfl) .nil)))) (fun _ => by kernel_rfl))) ?_; clear T ac; intro ac T
 refine gq (v := (.pointer (some ⟨g1, 0, none⟩))) T 8 511 rfl (fun _ _ _ _ _ => (rf9 (off := 0) rfl (T.ev 11 rfl) (fun _ _ _ => by kernel_rfl))) ?_; clear T ac; intro ac T
 refine gq T 9 1023 rfl (fun B w' hD hl hS => (rn_one (Mem.nth (show Mem w noEx w' _ from ((MA.lft hS) (hD.wait (i := 9) (m := 22) (by kernel_rfl) hl))) 1 rfl) rfl (T.ev 0 rfl) rfl)) ?_; clear T ac; intro ac T
 refine gq (v := (.pointer (some ⟨g1, 1, none⟩))) T 10 2047 rfl (fun _ _ _ _ _ => (rf9 (off := 1) rfl (T.ev 13 rfl) (fun _ _ _ => by kernel_rfl))) ?_; clear T ac; intro ac T
 refine gq T 11 4095 rfl (fun B w' hD hl hS => (rn_one (Mem.nth (show Mem w noEx w' _ from ((MA.lft hS) (hD.wait (i := 11) (m := 22) (by kernel_rfl) hl))) 1 rfl) rfl (T.ev 0 rfl) rfl)) ?_; clear T ac; intro ac T
 refine gq T 12 8191 rfl (fun _ _ _ _ _ => (rm9 rfl (T.ev 12 rfl))) ?_; clear T ac; intro ac T
 refine gq T 13 16383 rfl (fun _ _ _ _ _ => (rn_add rfl (T.ev 1 rfl) (T.ev 0 rfl) (by omega))) ?_; clear T ac; intro ac T
 refine gq (v := (.pointer (some ⟨g1, 2, none⟩))) T 14 32767 rfl (fun _ _ _ _ _ => (rf9 (off := 2) rfl (T.ev 17 rfl) (fun _ _ _ => by kernel_rfl))) ?_; clear T ac; intro ac T
 refine gq T 15 65535 rfl (fun B w' hD hl hS => (rn_one (Mem.nth (show Mem w noEx w' _ from ((MA.lft hS) (hD.wait (i := 15) (m := 22) (by kernel_rfl) hl))) 1 rfl) rfl (T.ev 0 rfl) rfl)) ?_; clear T ac; intro ac T
 refine gq (v := (.pointer (some ⟨g1, 3, none⟩))) T 16 131071 rfl (fun _ _ _ _ _ => (rf9 (off := 3) rfl (T.ev 19 rfl) (fun _ _ _ => by kernel_rfl))) ?_; clear T ac; intro ac T
 refine gq T 17 262143 rfl (fun B w' hD hl hS => (rn_one (Mem.nth (show Mem w noEx w' _ from ((MA.lft hS) (hD.wait (i := 17) (m := 22) (by kernel_rfl) hl))) 1 rfl) rfl (T.ev 0 rfl) rfl)) ?_; clear T ac; intro ac T
 refine gq T 18 524287 rfl (fun _ _ _ _ _ => (rm9 rfl (T.ev 18 rfl))) ?_; clear T ac; intro ac T
 refine gq T 19 1048575 rfl (fun _ _ _ _ _ => (rn_sub rfl (T.ev 1 rfl) (T.ev 0 rfl) (by omega))) ?_; clear T ac; intro ac T
 refine gq (v := (.agg #[.int .i64 b.x, .int .i64 (b.y + ((k - b.lo) + 1)), .int .i64 b.lo, .int .i64 (b.wi - ((k - b.lo) + 1))])) T 20 2097151 rfl (fun _ _ _ _ _ => (rn_build rfl (.cons (T.ev 10 rfl) (.cons (T.ev 6 rfl) (.cons (T.ev 4 rfl) (.cons (T.ev 0 rfl) .nil)))) (fun _ => by kernel_rfl))) ?_; clear T ac; intro ac T
 refine gw 21 4194303 ?_; intro K hK
 refine ow_stO M T rfl rfl (T.ev 23 rfl) (T.ev 13 rfl) rfl (.tail .head) rfl (by simp) rfl (by kernel_rfl) ?_; clear M T; intro wc ac M T
 refine so9 hK _ _ (MA.mk (fun _ => M.mask [true, false, true] rfl) (MA.mk (fun h => (no_of (by kernel_rfl) h).elim) (M.mask [false, false, true] rfl))) ?_; clear hK K
 refine gw 22 8388607 ?_; intro K hK
 refine ow_stO M T rfl rfl (T.ev 22 rfl) (T.ev 0 rfl) rfl .head rfl (by simp) rfl (by kernel_rfl) ?_; clear M T; intro wc ac M T
 refine so9 hK _ _ (MA.mk (fun h => (no_of (by kernel_rfl) h).elim) (MA.mk (fun h => (no_of (by kernel_rfl) h).elim) (M.mask [false, false, true] rfl))) ?_; clear hK K
 refine g_done (by kernel_rfl) ?_
 replace T := T.pick [22, 23] rfl
 replace M := M.mask [true, true, false] rfl
 refine nt9 ?_
 refine wp_ret ?_
 refine rt_CC M T rfl (T.ev 1 rfl) (T.ev 0 rfl) (nthE_mem (i := 1) rfl) (nthE_mem (i := 0) rfl) rfl rfl ?_
 have e1 : halA b k = ⟨b.x, b.y, b.lo, k - b.lo + 1⟩ := if_neg (by omega)
 have e2 : halB b k = ⟨b.x, b.y + (k - b.lo + 1), b.lo, b.wi - (k - b.lo + 1)⟩ := if_neg (by omega)
 rw [e1, e2]
 exact ⟨rfl, M.below⟩
end Go.Proofs.YtehpcclfgjccbaaDoor
end

section
/-
 ref8: one blank in a box.
-/
namespace Go.Proofs.YtehpcclfgjccbaaDoor
set_option linter.unusedSimpArgs false
set_option linter.unusedVariables false
open Go.RowKit
def lonS (a c : Int) (p : Pt) (b : Bo) : Spt := if (fitsP a c p b.lo b.wi).2 = true then ⟨b.x, b.y, (fitsP a c p b.lo b.wi).1⟩ else ⟨0, 0, false⟩
theorem lone8_any (s : Sk) (A : Option Addr) (d : Nat) (p : Pt) (b : Bo) (su : Bool)  (w : World) (hsg : s.good) (hpg : p.good)  :
   Calls Tryd.prog 97 #[.agg #[.int .i64 s.lo, .int .i64 s.wi, .int .i64 s.a0, .int .i64 s.a1, .int .i64 s.c0, .int .i64 s.c1, .slice A s.ps.length d], .agg #[.int .i64 p.l, .int .i64 p.w, .bool p.gr, .int .i64 p.pa], .agg #[.int .i64 b.x, .int .i64 b.y, .int .i64 b.lo, .int .i64 b.wi], .bool su] w fun e w' => e = .returned (.tuple #[.agg #[.int .i64 ((lonS (cutA s su) (cutC s su) p b).x), .int .i64 ((lonS (cutA s su) (cutC s su) p b).y), .bool ((lonS (cutA s su) (cutC s su) p b).t)], .bool ((fitsP (cutA s su) (cutC s su) p b.lo b.wi).2)]) ∧ Below w.heap.size w w' := by
 refine px_enter noEx Tryd.func97 rfl 53 rfl [.agg #[.int .i64 s.lo, .int .i64 s.wi, .int .i64 s.a0, .int .i64 s.a1, .int .i64 s.c0, .int .i64 s.c1, .slice A s.ps.length d], .agg #[.int .i64 p.l, .int .i64 p.w, .bool p.gr, .int .i64 p.pa], .agg #[.int .i64 b.x, .int .i64 b.y, .int .i64 b.lo, .int .i64 b.wi], .bool su] rfl rfl (Mem.init w _) ?_
 intro ac wc T M
 refine wp_seq ?_
 refine wp_region_lit ?_
 refine l_w rfl ?_; intro K hK
 refine ow_bx M T rfl rfl rfl rfl (T.ev 0 rfl) rfl ?_; clear M T; intro g1 wc ac M T
 refine so9 hK _ _ ?_; clear hK K
 refine l_w rfl ?_; intro K hK
 refine ow_bx M T rfl rfl rfl rfl (T.ev 2 rfl) rfl ?_; clear M T; intro g2 wc ac M T
 refine so9 hK _ _ ?_; clear hK K
 refine l_w rfl ?_; intro K hK
 refine ow_bx M T rfl rfl rfl rfl (T.ev 4 rfl) rfl ?_; clear M T; intro g3 wc ac M T
 refine so9 hK _ _ ?_; clear hK K
 refine l_w rfl ?_; intro K hK
 refine ow_al M T rfl rfl rfl rfl ?_; clear M T; intro g4 wc ac M T
 refine so9 hK _ _ ?_; clear hK K
 refine lq T (ra9 rfl evc) ?_; clear T ac; intro ac T
 refine wpList_nil ?_
 replace T := T.pick [1, 2, 3, 4, 8] rfl
 refine nt9 ?_
 refine wp_seq ?_
 refine wp_seq ?_
 refine wp_region_lit ?_
 refine lq T (ra9 rfl evc) ?_; clear T ac; intro ac T
 refine wpList_nil ?_
 refine nt9 ?_
 refine wp_block ?_
 refine wp_loop_rounds 4 ?_
 refine rounds_S ?_
 refine wp_seq ?_
 refine wp_seq ?_
 refine wp_region_lit ?_
 refine lq T (rm9 rfl (T.ev 0 rfl)) ?_; clear T ac; intro ac T
 refine lq (v := (.bool true)) T (rn_neqof (rn_lss rfl (T.ev 0 rfl) evc) (by simp)) ?_; clear T ac; intro ac T
 refine wpList_nil ?_
 replace T := T.pick [0, 2, 3, 4, 5, 6, 7] rfl
 refine nt9 ?_
 refine wp_cond_true (T.ev 0 rfl) ?_
 refine wp_skip ?_
 refine nt9 ?_
 refine wp_seq ?_
 refine wp_block ?_
 refine wp_seq ?_
 refine wp_region_lit ?_
 refine lq T (rm9 rfl (T.ev 1 rfl)) ?_; clear T ac; intro ac T
 refine lq (v := (.bool false)) T (rn_neqof (rn_eql rfl (T.ev 0 rfl) evc) (by simp)) ?_; clear T ac; intro ac T
 refine lq T (ra9 rfl (T.ev 0 rfl)) ?_; clear T ac; intro ac T
 refine wpList_nil ?_
 replace T := T.pick [0, 4, 5, 6, 7, 8, 9] rfl
 refine nt9 ?_
 refine wp_seq ?_
 refine wp_region_lit ?_
 refine lq T (rn_rowO (Mem.nth M 3 rfl) rfl (T.ev 5 rfl) rfl) ?_; clear T ac; intro ac T
 refine lq T (rn_rowO (Mem.nth M 2 rfl) rfl (T.ev 5 rfl) rfl) ?_; clear T ac; intro ac T
 refine lq T (rm9 rfl (T.ev 2 rfl)) ?_; clear T ac; intro ac T
 refine lq T (rm9 rfl (T.ev 9 rfl)) ?_; clear T ac; intro ac T
 refine l_w rfl ?_; intro K hK
 refine oc9 (first := []) (cap := []) T rfl rfl rfl rfl evf (.cons (T.ev 3 rfl) (.cons (T.ev 2 rfl) (.cons (T.ev 1 rfl) (.cons (T.ev 0 rfl) .nil)))) Tryd.func94 rfl rfl ?_
 refine Calls.mono (size8_any s A d p false su _ hsg hpg) ?_
 clear T
 rintro e wc ⟨rfl, hb⟩
 intro ac T
 replace M := M.call hb; clear hb
 refine so9 hK _ _ ?_; clear hK K
 refine lq T (rm9 rfl (T.ev 0 rfl)) ?_; clear T ac; intro ac T
 refine lq T (rn_extract rfl (T.ev 0 rfl) rfl) ?_; clear T ac; intro ac T
 refine lq T (rn_extract rfl (T.ev 1 rfl) rfl) ?_; clear T ac; intro ac T
 refine lq T (ra9 rfl (T.ev 1 rfl)) ?_; clear T ac; intro ac T
 refine lq T (ra9 rfl (T.ev 1 rfl)) ?_; clear T ac; intro ac T
 refine wpList_nil ?_
 replace T := T.pick [0, 1, 10, 11, 12, 13, 14, 15, 16] rfl
 refine nt9 ?_
 refine cut_seq (fun ac wc => Tm ac 53 [(3, .bool su), (4, .pointer (some ⟨g1, 0, none⟩)), (5, .pointer (some ⟨g2, 0, none⟩)), (6, .pointer (some ⟨g3, 0, none⟩)), (8, .pointer (some ⟨g4, 0, none⟩)), (10, .int .i64 0), (11, .bool false), (45, .bool ((decide ((sizeL (cutA s su) (cutC s su) p false) ≤ b.lo)) && (decide ((sizeW (cutA s su) (cutC s su) p false) ≤ b.wi))))] ∧ Mem w noEx wc [(g4, .cells [.int .i64 0, .int .i64 0, .bool false]), (g3, .cells [.int .i64 b.x, .int .i64 b.y, .int .i64 b.lo, .int .i64 b.wi]), (g2, .cells [.int .i64 p.l, .int .i64 p.w, .bool p.gr, .int .i64 p.pa]), (g1, .cells [.int .i64 s.lo, .int .i64 s.wi, .int .i64 s.a0, .int .i64 s.a1, .int .i64 s.c0, .int .i64 s.c1, .slice A s.ps.length d])]) ?_ ?_
 ·refine wp_region_lit ?_
  refine lq T (rm9 rfl (T.ev 1 rfl)) ?_; clear T ac; intro ac T
  refine lq (v := (.pointer (some ⟨g3, 2, none⟩))) T (rf9 (off := 2) rfl (T.ev 6 rfl) (fun _ _ _ => by kernel_rfl)) ?_; clear T ac; intro ac T
  refine lq T (rn_one (Mem.nth M 1 rfl) rfl (T.ev 0 rfl) rfl) ?_; clear T ac; intro ac T
  refine lq T (rn_leq rfl (T.ev 2 rfl) (T.ev 0 rfl)) ?_; clear T ac; intro ac T
  refine lq T (rm9 rfl (T.ev 0 rfl)) ?_; clear T ac; intro ac T
  rcases Bool.eq_false_or_eq_true (decide ((sizeL (cutA s su) (cutC s su) p false) ≤ b.lo)) with h1 | h1
  ·replace h1 := of_decide_eq_true h1
   refine lw T (wy9 rfl rfl (T.ev 0 rfl) (decide_eq_true h1)) (rm9 rfl (T.ev 5 rfl)) ?_; clear T ac; intro ac T
   refine lw (v := (.pointer (some ⟨g3, 3, none⟩))) T (wy9 rfl rfl (T.ev 1 rfl) (decide_eq_true h1)) (rf9 (off := 3) rfl (T.ev 11 rfl) (fun _ _ _ => by kernel_rfl)) ?_; clear T ac; intro ac T
   refine lw T (wy9 rfl rfl (T.ev 2 rfl) (decide_eq_true h1)) (rn_one (Mem.nth M 1 rfl) rfl (T.ev 0 rfl) rfl) ?_; clear T ac; intro ac T
   refine lw T (wy9 rfl rfl (T.ev 3 rfl) (decide_eq_true h1)) (rn_leq rfl (T.ev 2 rfl) (T.ev 0 rfl)) ?_; clear T ac; intro ac T
   refine lq T (rn_pick1 rfl (T.ev 4 rfl) (decide_eq_true h1) (T.ev 0 rfl)) ?_; clear T ac; intro ac T
   refine lq T (rm9 rfl (T.ev 0 rfl)) ?_; clear T ac; intro ac T
   rcases Bool.eq_false_or_eq_true (decide ((sizeW (cutA s su) (cutC s su) p false) ≤ b.wi)) with h2 | h2
   ·replace h2 := of_decide_eq_true h2
    refine lw T (wy9 rfl rfl (T.ev 0 rfl) (decide_eq_true h2)) (rm9 rfl (T.ev 13 rfl)) ?_; clear T ac; intro ac T
    refine lw T (wy9 rfl rfl (T.ev 1 rfl) (decide_eq_true h2)) (rm9 rfl (T.ev 0 rfl)) ?_; clear T ac; intro ac T
    refine lp T (wn9 rfl rfl (T.ev 0 rfl) rfl) ?_; clear T ac; intro ac T
    refine lp T (wn9 rfl rfl (T.ev 1 rfl) rfl) ?_; clear T ac; intro ac T
    refine lw T (wy9 rfl rfl (T.ev 4 rfl) (decide_eq_true h2)) (rn_pick0 rfl (T.ev 2 rfl) rfl evc) ?_; clear T ac; intro ac T
    refine lw (v := (.bool true)) T (wy9 rfl rfl (T.ev 5 rfl) (decide_eq_true h2)) (rn_neqof (rn_not rfl (T.ev 0 rfl)) (by simp)) ?_; clear T ac; intro ac T
    refine lq T (rn_pick1 rfl (T.ev 6 rfl) (decide_eq_true h2) (T.ev 0 rfl)) ?_; clear T ac; intro ac T
    refine wpList_nil ?_
    replace T := T.pick [0, 1, 2, 3, 4, 5, 6, 9, 10, 11, 12, 20, 21, 22, 23, 24, 25, 26] rfl
    exact ⟨(T.pick (E' := [(3, .bool su), (4, .pointer (some ⟨g1, 0, none⟩)), (5, .pointer (some ⟨g2, 0, none⟩)), (6, .pointer (some ⟨g3, 0, none⟩)), (8, .pointer (some ⟨g4, 0, none⟩)), (10, .int .i64 0), (11, .bool false), (45, .bool true)]) [17, 16, 15, 14, 13, 12, 11, 0] rfl).as (by (try rw [show (decide ((sizeL (cutA s su) (cutC s su) p false) ≤ b.lo)) = true from (decide_eq_true h1)]); (try rw [show (decide ((sizeW (cutA s su) (cutC s su) p false) ≤ b.wi)) = true from (decide_eq_true h2)]); (try rfl)), M.mask [true, true, true, true] rfl⟩
   replace h2 := of_decide_eq_false h2
   refine lp T (wn9 rfl rfl (T.ev 0 rfl) (decide_eq_false h2)) ?_; clear T ac; intro ac T
   refine lp T (wn9 rfl rfl (T.ev 1 rfl) (decide_eq_false h2)) ?_; clear T ac; intro ac T
   refine lp T (wanted_un rfl rfl (T.ev 0 rfl)) ?_; clear T ac; intro ac T
   refine lp T (wanted_un rfl rfl (T.ev 1 rfl)) ?_; clear T ac; intro ac T
   refine lp T (wn9 rfl rfl (T.ev 4 rfl) (decide_eq_false h2)) ?_; clear T ac; intro ac T
   refine lp T (wn9 rfl rfl (T.ev 5 rfl) (decide_eq_false h2)) ?_; clear T ac; intro ac T
   refine lq T (rn_pick0 rfl (T.ev 6 rfl) (decide_eq_false h2) evc) ?_; clear T ac; intro ac T
   refine wpList_nil ?_
   replace T := T.pick [0, 1, 2, 3, 4, 5, 6, 9, 10, 11, 12, 20, 21, 22, 23, 24, 25, 26] rfl
   exact ⟨(T.pick (E' := [(3, .bool su), (4, .pointer (some ⟨g1, 0, none⟩)), (5, .pointer (some ⟨g2, 0, none⟩)), (6, .pointer (some ⟨g3, 0, none⟩)), (8, .pointer (some ⟨g4, 0, none⟩)), (10, .int .i64 0), (11, .bool false), (45, .bool false)]) [17, 16, 15, 14, 13, 12, 11, 0] rfl).as (by (try rw [show (decide ((sizeL (cutA s su) (cutC s su) p false) ≤ b.lo)) = true from (decide_eq_true h1)]); (try rw [show (decide ((sizeW (cutA s su) (cutC s su) p false) ≤ b.wi)) = false from (decide_eq_false h2)]); (try rfl)), M.mask [true, true, true, true] rfl⟩
  replace h1 := of_decide_eq_false h1
  refine lp T (wn9 rfl rfl (T.ev 0 rfl) (decide_eq_false h1)) ?_; clear T ac; intro ac T
  refine lp T (wn9 rfl rfl (T.ev 1 rfl) (decide_eq_false h1)) ?_; clear T ac; intro ac T
  refine lp T (wn9 rfl rfl (T.ev 2 rfl) (decide_eq_false h1)) ?_; clear T ac; intro ac T
  refine lp T (wn9 rfl rfl (T.ev 3 rfl) (decide_eq_false h1)) ?_; clear T ac; intro ac T
  refine lq T (rn_pick0 rfl (T.ev 4 rfl) (decide_eq_false h1) evc) ?_; clear T ac; intro ac T
  refine lq T (rm9 rfl (T.ev 0 rfl)) ?_; clear T ac; intro ac T
  refine lp T (wn9 rfl rfl (T.ev 0 rfl) rfl) ?_; clear T ac; intro ac T
  refine lp T (wn9 rfl rfl (T.ev 1 rfl) rfl) ?_; clear T ac; intro ac T
  refine lp T (wanted_un rfl rfl (T.ev 0 rfl)) ?_; clear T ac; intro ac T
  refine lp T (wanted_un rfl rfl (T.ev 1 rfl)) ?_; clear T ac; intro ac T
  refine lp T (wn9 rfl rfl (T.ev 4 rfl) rfl) ?_; clear T ac; intro ac T
  refine lp T (wn9 rfl rfl (T.ev 5 rfl) rfl) ?_; clear T ac; intro ac T
  refine lq T (rn_pick0 rfl (T.ev 6 rfl) rfl evc) ?_; clear T ac; intro ac T
  refine wpList_nil ?_
  replace T := T.pick [0, 1, 2, 3, 4, 5, 6, 9, 10, 11, 12, 20, 21, 22, 23, 24, 25, 26] rfl
  exact ⟨(T.pick (E' := [(3, .bool su), (4, .pointer (some ⟨g1, 0, none⟩)), (5, .pointer (some ⟨g2, 0, none⟩)), (6, .pointer (some ⟨g3, 0, none⟩)), (8, .pointer (some ⟨g4, 0, none⟩)), (10, .int .i64 0), (11, .bool false), (45, .bool false)]) [17, 16, 15, 14, 13, 12, 11, 0] rfl).as (by (try rw [show (decide ((sizeL (cutA s su) (cutC s su) p false) ≤ b.lo)) = false from (decide_eq_false h1)]); (try rfl)), M.mask [true, true, true, true] rfl⟩
 clear T M
 rintro ac wc ⟨T, M⟩
 refine wp_cond_split (T.ev 7 rfl) ?_ ?_
 ·intro h3
  (try have h3' := h3; try simp only [Bool.and_eq_true, Bool.or_eq_true, Bool.not_eq_true', Bool.and_eq_false_imp, Bool.or_eq_false_iff, decide_eq_true_eq, decide_eq_false_iff_not] at h3')
  refine wp_seq ?_
  refine wp_region_lit ?_
  refine lq (v := (.pointer (some ⟨g3, 0, none⟩))) T (rf9 (off := 0) rfl (T.ev 3 rfl) (fun _ _ _ => by kernel_rfl)) ?_; clear T ac; intro ac T
  refine lq T (rn_one (Mem.nth M 1 rfl) rfl (T.ev 0 rfl) rfl) ?_; clear T ac; intro ac T
  refine lq (v := (.pointer (some ⟨g3, 1, none⟩))) T (rf9 (off := 1) rfl (T.ev 5 rfl) (fun _ _ _ => by kernel_rfl)) ?_; clear T ac; intro ac T
  refine lq T (rn_one (Mem.nth M 1 rfl) rfl (T.ev 0 rfl) rfl) ?_; clear T ac; intro ac T
  refine lq T (rm9 rfl (T.ev 10 rfl)) ?_; clear T ac; intro ac T
  refine lq (v := (.agg #[.int .i64 b.x, .int .i64 b.y, .bool false])) T (rn_build rfl (.cons (T.ev 3 rfl) (.cons (T.ev 1 rfl) (.cons (T.ev 0 rfl) .nil))) (fun _ => by kernel_rfl)) ?_; clear T ac; intro ac T
  refine l_w rfl ?_; intro K hK
  refine ow_stO M T rfl rfl (T.ev 10 rfl) (T.ev 0 rfl) rfl .head rfl (by simp) rfl (by kernel_rfl) ?_; clear M T; intro wc ac M T
  refine so9 hK _ _ ?_; clear hK K
  refine lq T (ra9 rfl evc) ?_; clear T ac; intro ac T
  refine wpList_nil ?_
  replace T := T.pick [0, 11] rfl
  replace M := M.mask [true, false, false, false] rfl
  refine nt9 ?_
  refine wp_ret ?_
  refine rt_blk ?_
  refine rt_then ?_
  refine rt_then ?_
  refine rt_blk ?_
  refine rt_then ?_
  refine rt_ct M T rfl (T.ev 1 rfl) (T.ev 0 rfl) (nthE_mem (i := 0) rfl) rfl ?_
  have e0 : fitsP (cutA s su) (cutC s su) p b.lo b.wi = if fitsT (cutA s su) (cutC s su) p b.lo b.wi false = true then (false, true) else if fitsT (cutA s su) (cutC s su) p b.lo b.wi true = true then (true, true) else (false, false) := rfl
  have hF9 : fitsT (cutA s su) (cutC s su) p b.lo b.wi false = true := by unfold fitsT; simp_all
  have e1 : fitsP (cutA s su) (cutC s su) p b.lo b.wi = (false, true) := by rw [e0, hF9]; simp
  unfold lonS
  rw [e1]
  exact ⟨rfl, M.below⟩
 intro h3
 (try have h3' := h3; try simp only [Bool.and_eq_true, Bool.or_eq_true, Bool.not_eq_true', Bool.and_eq_false_imp, Bool.or_eq_false_iff, decide_eq_true_eq, decide_eq_false_iff_not] at h3')
 refine wp_skip ?_
 refine nm_blk ?_
 refine nt9 ?_
 refine wp_region_lit ?_
 refine lq T (rm9 rfl (T.ev 5 rfl)) ?_; clear T ac; intro ac T
 refine lq (v := (.int .i64 1)) T (rn_ofI (rn_add rfl (T.ev 0 rfl) evc (by omega)) (by rfl)) ?_; clear T ac; intro ac T
 refine l_q (v := (.int .i64 1)) (T.pick [0, 1, 2, 3, 4, 5, 6, 8, 9] rfl) rfl rfl rfl rfl (ra9 rfl (T.ev 0 rfl)) ?_; clear T ac; intro ac T
 refine wpList_nil ?_
 replace T := T.pick [0, 3, 4, 5, 6, 7] rfl
 refine nt9 ?_
 refine rounds_S ?_
 refine wp_seq ?_
 refine wp_seq ?_
 refine wp_region_lit ?_
 refine lq T (rm9 rfl (T.ev 0 rfl)) ?_; clear T ac; intro ac T
 refine lq (v := (.bool true)) T (rn_neqof (rn_lss rfl (T.ev 0 rfl) evc) (by simp)) ?_; clear T ac; intro ac T
 refine wpList_nil ?_
 replace T := T.pick [0, 2, 3, 4, 5, 6, 7] rfl
 refine nt9 ?_
 refine wp_cond_true (T.ev 0 rfl) ?_
 refine wp_skip ?_
 refine nt9 ?_
 refine wp_seq ?_
 refine wp_block ?_
 refine wp_seq ?_
 refine wp_region_lit ?_
 refine lq T (rm9 rfl (T.ev 1 rfl)) ?_; clear T ac; intro ac T
 refine lq (v := (.bool true)) T (rn_neqof (rn_eql rfl (T.ev 0 rfl) evc) (by simp)) ?_; clear T ac; intro ac T
 refine lq T (ra9 rfl (T.ev 0 rfl)) ?_; clear T ac; intro ac T
 refine wpList_nil ?_
 replace T := T.pick [0, 4, 5, 6, 7, 8, 9] rfl
 refine nt9 ?_
 refine wp_seq ?_
 refine wp_region_lit ?_
 refine lq T (rn_rowO (Mem.nth M 3 rfl) rfl (T.ev 3 rfl) rfl) ?_; clear T ac; intro ac T
 refine lq T (rn_rowO (Mem.nth M 2 rfl) rfl (T.ev 5 rfl) rfl) ?_; clear T ac; intro ac T
 refine lq T (rm9 rfl (T.ev 2 rfl)) ?_; clear T ac; intro ac T
 refine lq T (rm9 rfl (T.ev 5 rfl)) ?_; clear T ac; intro ac T
 refine l_w rfl ?_; intro K hK
 refine oc9 (first := []) (cap := []) T rfl rfl rfl rfl evf (.cons (T.ev 3 rfl) (.cons (T.ev 2 rfl) (.cons (T.ev 1 rfl) (.cons (T.ev 0 rfl) .nil)))) Tryd.func94 rfl rfl ?_
 refine Calls.mono (size8_any s A d p true su _ hsg hpg) ?_
 clear T
 rintro e wc ⟨rfl, hb⟩
 intro ac T
 replace M := M.call hb; clear hb
 refine so9 hK _ _ ?_; clear hK K
 refine lq T (rm9 rfl (T.ev 0 rfl)) ?_; clear T ac; intro ac T
 refine lq T (rn_extract rfl (T.ev 0 rfl) rfl) ?_; clear T ac; intro ac T
 refine lq T (rn_extract rfl (T.ev 1 rfl) rfl) ?_; clear T ac; intro ac T
 refine lq T (ra9 rfl (T.ev 1 rfl)) ?_; clear T ac; intro ac T
 refine lq T (ra9 rfl (T.ev 1 rfl)) ?_; clear T ac; intro ac T
 refine wpList_nil ?_
 replace T := T.pick [0, 1, 10, 11, 12, 13, 14, 15, 16] rfl
 refine nt9 ?_
 refine cut_seq (fun ac wc => Tm ac 53 [(3, .bool su), (4, .pointer (some ⟨g1, 0, none⟩)), (5, .pointer (some ⟨g2, 0, none⟩)), (6, .pointer (some ⟨g3, 0, none⟩)), (8, .pointer (some ⟨g4, 0, none⟩)), (10, .int .i64 1), (11, .bool true), (45, .bool ((decide ((sizeL (cutA s su) (cutC s su) p true) ≤ b.lo)) && ((decide ((sizeW (cutA s su) (cutC s su) p true) ≤ b.wi)) && (!p.gr))))] ∧ Mem w noEx wc [(g4, .cells [.int .i64 0, .int .i64 0, .bool false]), (g3, .cells [.int .i64 b.x, .int .i64 b.y, .int .i64 b.lo, .int .i64 b.wi]), (g2, .cells [.int .i64 p.l, .int .i64 p.w, .bool p.gr, .int .i64 p.pa]), (g1, .cells [.int .i64 s.lo, .int .i64 s.wi, .int .i64 s.a0, .int .i64 s.a1, .int .i64 s.c0, .int .i64 s.c1, .slice A s.ps.length d])]) ?_ ?_
 ·refine wp_region_lit ?_
  refine lq T (rm9 rfl (T.ev 1 rfl)) ?_; clear T ac; intro ac T
  refine lq (v := (.pointer (some ⟨g3, 2, none⟩))) T (rf9 (off := 2) rfl (T.ev 8 rfl) (fun _ _ _ => by kernel_rfl)) ?_; clear T ac; intro ac T
  refine lq T (rn_one (Mem.nth M 1 rfl) rfl (T.ev 0 rfl) rfl) ?_; clear T ac; intro ac T
  refine lq T (rn_leq rfl (T.ev 2 rfl) (T.ev 0 rfl)) ?_; clear T ac; intro ac T
  refine lq T (rm9 rfl (T.ev 0 rfl)) ?_; clear T ac; intro ac T
  rcases Bool.eq_false_or_eq_true (decide ((sizeL (cutA s su) (cutC s su) p true) ≤ b.lo)) with h4 | h4
  ·replace h4 := of_decide_eq_true h4
   refine lw T (wy9 rfl rfl (T.ev 0 rfl) (decide_eq_true h4)) (rm9 rfl (T.ev 5 rfl)) ?_; clear T ac; intro ac T
   refine lw (v := (.pointer (some ⟨g3, 3, none⟩))) T (wy9 rfl rfl (T.ev 1 rfl) (decide_eq_true h4)) (rf9 (off := 3) rfl (T.ev 13 rfl) (fun _ _ _ => by kernel_rfl)) ?_; clear T ac; intro ac T
   refine lw T (wy9 rfl rfl (T.ev 2 rfl) (decide_eq_true h4)) (rn_one (Mem.nth M 1 rfl) rfl (T.ev 0 rfl) rfl) ?_; clear T ac; intro ac T
   refine lw T (wy9 rfl rfl (T.ev 3 rfl) (decide_eq_true h4)) (rn_leq rfl (T.ev 2 rfl) (T.ev 0 rfl)) ?_; clear T ac; intro ac T
   refine lq T (rn_pick1 rfl (T.ev 4 rfl) (decide_eq_true h4) (T.ev 0 rfl)) ?_; clear T ac; intro ac T
   refine lq T (rm9 rfl (T.ev 0 rfl)) ?_; clear T ac; intro ac T
   rcases Bool.eq_false_or_eq_true (decide ((sizeW (cutA s su) (cutC s su) p true) ≤ b.wi)) with h5 | h5
   ·replace h5 := of_decide_eq_true h5
    refine lw T (wy9 rfl rfl (T.ev 0 rfl) (decide_eq_true h5)) (rm9 rfl (T.ev 13 rfl)) ?_; clear T ac; intro ac T
    refine lw T (wy9 rfl rfl (T.ev 1 rfl) (decide_eq_true h5)) (rm9 rfl (T.ev 0 rfl)) ?_; clear T ac; intro ac T
    refine lw (v := (.pointer (some ⟨g2, 2, none⟩))) T (wy9 rfl rfl (T.ev 0 rfl) rfl) (rf9 (off := 2) rfl (T.ev 19 rfl) (fun _ _ _ => by kernel_rfl)) ?_; clear T ac; intro ac T
    refine lw T (wy9 rfl rfl (T.ev 1 rfl) rfl) (rn_one (Mem.nth M 2 rfl) rfl (T.ev 0 rfl) rfl) ?_; clear T ac; intro ac T
    refine lw T (wy9 rfl rfl (T.ev 4 rfl) (decide_eq_true h5)) (rn_pick1 rfl (T.ev 2 rfl) rfl (T.ev 0 rfl)) ?_; clear T ac; intro ac T
    refine lw T (wy9 rfl rfl (T.ev 5 rfl) (decide_eq_true h5)) (rn_not rfl (T.ev 0 rfl)) ?_; clear T ac; intro ac T
    refine lq T (rn_pick1 rfl (T.ev 6 rfl) (decide_eq_true h5) (T.ev 0 rfl)) ?_; clear T ac; intro ac T
    refine wpList_nil ?_
    replace T := T.pick [0, 1, 2, 3, 4, 5, 6, 9, 10, 11, 12, 20, 21, 22, 23, 24, 25, 26] rfl
    exact ⟨(T.pick (E' := [(3, .bool su), (4, .pointer (some ⟨g1, 0, none⟩)), (5, .pointer (some ⟨g2, 0, none⟩)), (6, .pointer (some ⟨g3, 0, none⟩)), (8, .pointer (some ⟨g4, 0, none⟩)), (10, .int .i64 1), (11, .bool true), (45, .bool (!p.gr))]) [13, 14, 15, 16, 17, 12, 11, 0] rfl).as (by (try rw [show (decide ((sizeL (cutA s su) (cutC s su) p true) ≤ b.lo)) = true from (decide_eq_true h4)]); (try rw [show (decide ((sizeW (cutA s su) (cutC s su) p true) ≤ b.wi)) = true from (decide_eq_true h5)]); (try rfl)), M.mask [true, true, true, true] rfl⟩
   replace h5 := of_decide_eq_false h5
   refine lp T (wn9 rfl rfl (T.ev 0 rfl) (decide_eq_false h5)) ?_; clear T ac; intro ac T
   refine lp T (wn9 rfl rfl (T.ev 1 rfl) (decide_eq_false h5)) ?_; clear T ac; intro ac T
   refine lp T (wanted_un rfl rfl (T.ev 0 rfl)) ?_; clear T ac; intro ac T
   refine lp T (wanted_un rfl rfl (T.ev 1 rfl)) ?_; clear T ac; intro ac T
   refine lp T (wn9 rfl rfl (T.ev 4 rfl) (decide_eq_false h5)) ?_; clear T ac; intro ac T
   refine lp T (wn9 rfl rfl (T.ev 5 rfl) (decide_eq_false h5)) ?_; clear T ac; intro ac T
   refine lq T (rn_pick0 rfl (T.ev 6 rfl) (decide_eq_false h5) evc) ?_; clear T ac; intro ac T
   refine wpList_nil ?_
   replace T := T.pick [0, 1, 2, 3, 4, 5, 6, 9, 10, 11, 12, 20, 21, 22, 23, 24, 25, 26] rfl
   exact ⟨(T.pick (E' := [(3, .bool su), (4, .pointer (some ⟨g1, 0, none⟩)), (5, .pointer (some ⟨g2, 0, none⟩)), (6, .pointer (some ⟨g3, 0, none⟩)), (8, .pointer (some ⟨g4, 0, none⟩)), (10, .int .i64 1), (11, .bool true), (45, .bool false)]) [13, 14, 15, 16, 17, 12, 11, 0] rfl).as (by (try rw [show (decide ((sizeL (cutA s su) (cutC s su) p true) ≤ b.lo)) = true from (decide_eq_true h4)]); (try rw [show (decide ((sizeW (cutA s su) (cutC s su) p true) ≤ b.wi)) = false from (decide_eq_false h5)]); (try rfl)), M.mask [true, true, true, true] rfl⟩
  replace h4 := of_decide_eq_false h4
  refine lp T (wn9 rfl rfl (T.ev 0 rfl) (decide_eq_false h4)) ?_; clear T ac; intro ac T
  refine lp T (wn9 rfl rfl (T.ev 1 rfl) (decide_eq_false h4)) ?_; clear T ac; intro ac T
  refine lp T (wn9 rfl rfl (T.ev 2 rfl) (decide_eq_false h4)) ?_; clear T ac; intro ac T
  refine lp T (wn9 rfl rfl (T.ev 3 rfl) (decide_eq_false h4)) ?_; clear T ac; intro ac T
  refine lq T (rn_pick0 rfl (T.ev 4 rfl) (decide_eq_false h4) evc) ?_; clear T ac; intro ac T
  refine lq T (rm9 rfl (T.ev 0 rfl)) ?_; clear T ac; intro ac T
  refine lp T (wn9 rfl rfl (T.ev 0 rfl) rfl) ?_; clear T ac; intro ac T
  refine lp T (wn9 rfl rfl (T.ev 1 rfl) rfl) ?_; clear T ac; intro ac T
  refine lp T (wanted_un rfl rfl (T.ev 0 rfl)) ?_; clear T ac; intro ac T
  refine lp T (wanted_un rfl rfl (T.ev 1 rfl)) ?_; clear T ac; intro ac T
  refine lp T (wn9 rfl rfl (T.ev 4 rfl) rfl) ?_; clear T ac; intro ac T
  refine lp T (wn9 rfl rfl (T.ev 5 rfl) rfl) ?_; clear T ac; intro ac T
  refine lq T (rn_pick0 rfl (T.ev 6 rfl) rfl evc) ?_; clear T ac; intro ac T
  refine wpList_nil ?_
  replace T := T.pick [0, 1, 2, 3, 4, 5, 6, 9, 10, 11, 12, 20, 21, 22, 23, 24, 25, 26] rfl
  exact ⟨(T.pick (E' := [(3, .bool su), (4, .pointer (some ⟨g1, 0, none⟩)), (5, .pointer (some ⟨g2, 0, none⟩)), (6, .pointer (some ⟨g3, 0, none⟩)), (8, .pointer (some ⟨g4, 0, none⟩)), (10, .int .i64 1), (11, .bool true), (45, .bool false)]) [13, 14, 15, 16, 17, 12, 11, 0] rfl).as (by (try rw [show (decide ((sizeL (cutA s su) (cutC s su) p true) ≤ b.lo)) = false from (decide_eq_false h4)]); (try rfl)), M.mask [true, true, true, true] rfl⟩
 clear T M
 rintro ac wc ⟨T, M⟩
 refine wp_cond_split (T.ev 7 rfl) ?_ ?_
 ·intro h6
  (try have h6' := h6; try simp only [Bool.and_eq_true, Bool.or_eq_true, Bool.not_eq_true', Bool.and_eq_false_imp, Bool.or_eq_false_iff, decide_eq_true_eq, decide_eq_false_iff_not] at h6')
  refine wp_seq ?_
  refine wp_region_lit ?_
  refine lq (v := (.pointer (some ⟨g3, 0, none⟩))) T (rf9 (off := 0) rfl (T.ev 3 rfl) (fun _ _ _ => by kernel_rfl)) ?_; clear T ac; intro ac T
  refine lq T (rn_one (Mem.nth M 1 rfl) rfl (T.ev 0 rfl) rfl) ?_; clear T ac; intro ac T
  refine lq (v := (.pointer (some ⟨g3, 1, none⟩))) T (rf9 (off := 1) rfl (T.ev 5 rfl) (fun _ _ _ => by kernel_rfl)) ?_; clear T ac; intro ac T
  refine lq T (rn_one (Mem.nth M 1 rfl) rfl (T.ev 0 rfl) rfl) ?_; clear T ac; intro ac T
  refine lq T (rm9 rfl (T.ev 10 rfl)) ?_; clear T ac; intro ac T
  refine lq (v := (.agg #[.int .i64 b.x, .int .i64 b.y, .bool true])) T (rn_build rfl (.cons (T.ev 3 rfl) (.cons (T.ev 1 rfl) (.cons (T.ev 0 rfl) .nil))) (fun _ => by kernel_rfl)) ?_; clear T ac; intro ac T
  refine l_w rfl ?_; intro K hK
  refine ow_stO M T rfl rfl (T.ev 10 rfl) (T.ev 0 rfl) rfl .head rfl (by simp) rfl (by kernel_rfl) ?_; clear M T; intro wc ac M T
  refine so9 hK _ _ ?_; clear hK K
  refine lq T (ra9 rfl evc) ?_; clear T ac; intro ac T
  refine wpList_nil ?_
  replace T := T.pick [0, 11] rfl
  replace M := M.mask [true, false, false, false] rfl
  refine nt9 ?_
  refine wp_ret ?_
  refine rt_blk ?_
  refine rt_then ?_
  refine rt_then ?_
  refine rt_blk ?_
  refine rt_then ?_
  refine rt_ct M T rfl (T.ev 1 rfl) (T.ev 0 rfl) (nthE_mem (i := 0) rfl) rfl ?_
  have e0 : fitsP (cutA s su) (cutC s su) p b.lo b.wi = if fitsT (cutA s su) (cutC s su) p b.lo b.wi false = true then (false, true) else if fitsT (cutA s su) (cutC s su) p b.lo b.wi true = true then (true, true) else (false, false) := rfl
  have hF9 : fitsT (cutA s su) (cutC s su) p b.lo b.wi false = false := by unfold fitsT; simp_all
  have hT9 : fitsT (cutA s su) (cutC s su) p b.lo b.wi true = true := by unfold fitsT; simp_all
  have e1 : fitsP (cutA s su) (cutC s su) p b.lo b.wi = (true, true) := by rw [e0, hF9, hT9]; simp
  unfold lonS
  rw [e1]
  exact ⟨rfl, M.below⟩
 intro h6
 (try have h6' := h6; try simp only [Bool.and_eq_true, Bool.or_eq_true, Bool.not_eq_true', Bool.and_eq_false_imp, Bool.or_eq_false_iff, decide_eq_true_eq, decide_eq_false_iff_not] at h6')
 refine wp_skip ?_
 refine nm_blk ?_
 refine nt9 ?_
 refine wp_region_lit ?_
 refine lq T (rm9 rfl (T.ev 5 rfl)) ?_; clear T ac; intro ac T
 refine lq (v := (.int .i64 2)) T (rn_ofI (rn_add rfl (T.ev 0 rfl) evc (by omega)) (by rfl)) ?_; clear T ac; intro ac T
 refine l_q (v := (.int .i64 2)) (T.pick [0, 1, 2, 3, 4, 5, 6, 8, 9] rfl) rfl rfl rfl rfl (ra9 rfl (T.ev 0 rfl)) ?_; clear T ac; intro ac T
 refine wpList_nil ?_
 replace T := T.pick [0, 3, 4, 5, 6, 7] rfl
 refine nt9 ?_
 refine rounds_S ?_
 refine wp_seq ?_
 refine wp_seq ?_
 refine wp_region_lit ?_
 refine lq T (rm9 rfl (T.ev 0 rfl)) ?_; clear T ac; intro ac T
 refine lq (v := (.bool false)) T (rn_neqof (rn_lss rfl (T.ev 0 rfl) evc) (by simp)) ?_; clear T ac; intro ac T
 refine wpList_nil ?_
 replace T := T.pick [0, 2, 3, 4, 5, 6, 7] rfl
 refine nt9 ?_
 refine wp_cond_false (T.ev 0 rfl) ?_
 refine wp_exit ?_
 refine ex_then ?_
 refine ex_then ?_
 refine ex_hit ?_
 refine nt9 ?_
 refine wp_seq ?_
 refine wp_region_lit ?_
 refine lq (v := (.agg #[.int .i64 0, .int .i64 0, .bool false])) T (rn_build rfl .nil (fun _ => by kernel_rfl)) ?_; clear T ac; intro ac T
 refine l_w rfl ?_; intro K hK
 refine ow_stO M T rfl rfl (T.ev 7 rfl) (T.ev 0 rfl) rfl .head rfl (by simp) rfl (by kernel_rfl) ?_; clear M T; intro wc ac M T
 refine so9 hK _ _ ?_; clear hK K
 refine lq T (ra9 rfl evc) ?_; clear T ac; intro ac T
 refine wpList_nil ?_
 replace T := T.pick [0, 8] rfl
 replace M := M.mask [true, false, false, false] rfl
 refine nt9 ?_
 refine wp_ret ?_
 refine rt_ct M T rfl (T.ev 1 rfl) (T.ev 0 rfl) (nthE_mem (i := 0) rfl) rfl ?_
 have e0 : fitsP (cutA s su) (cutC s su) p b.lo b.wi = if fitsT (cutA s su) (cutC s su) p b.lo b.wi false = true then (false, true) else if fitsT (cutA s su) (cutC s su) p b.lo b.wi true = true then (true, true) else (false, false) := rfl
 have hF9 : fitsT (cutA s su) (cutC s su) p b.lo b.wi false = false := by unfold fitsT; simp_all
 have hT9 : fitsT (cutA s su) (cutC s su) p b.lo b.wi true = false := by unfold fitsT; simp_all
 have e1 : fitsP (cutA s su) (cutC s su) p b.lo b.wi = (false, false) := by rw [e0, hF9, hT9]; simp
 unfold lonS
 rw [e1]
 exact ⟨rfl, M.below⟩
end Go.Proofs.YtehpcclfgjccbaaDoor
end

section
/-
 sheet's laws, plain: the reference's plan is the program's.
-/
namespace Go.Proofs.YtehpcclfgjccbaaDoor
set_option linter.unusedSimpArgs false
set_option linter.unusedVariables false
open Go.RowKit
def mrg : Nat → Nat → List Spt → List Spt → List Spt
 | 0, _, _, _ => []
 | n + 1, z, X, Y => if z % 2 = 1 then X.headD ⟨0, 0, false⟩ :: mrg n (z / 2) X.tail Y else Y.headD ⟨0, 0, false⟩ :: mrg n (z / 2) X Y.tail
open Classical in
noncomputable def can8 (a c : Int) (L : List Pt) (b : Bo) : Bool := decide (Cut (Fit a c) L b.lo b.wi)
theorem can8_iff {a c : Int} {L : List Pt} {b : Bo} : can8 a c L b = true ↔ Cut (Fit a c) L b.lo b.wi := by simp [can8]
noncomputable def pair8 (a c : Int) (L : List Pt) (b : Bo) (k z : Nat) : Bool := can8 a c (sel L z) (halA b k) && can8 a c (sel L (2 ^ L.length - 1 - z)) (halB b k)
def no8 (a c : Int) (L : List Pt) (b : Bo) (k z : Nat) : Prop := ∀ k' z', 0 < k' → 0 < z' → z' < 2 ^ L.length - 1 → (k' < k ∨ k' = k ∧ z' < z) → pair8 a c L b k' z' = false
inductive Ply (a c : Int) : List Pt → Bo → List Spt → Prop
 | nil {b : Bo} : Ply a c [] b []
 | one {p : Pt} {b : Bo} : Ply a c [p] b [lonS a c p b]
 | cut {L : List Pt} {b : Bo} {k z : Nat} {X Y : List Spt} : 2 ≤ L.length → 0 < k → (k : Int) ≤ b.lo - 1 + b.wi - 1 → 0 < z → z < 2 ^ L.length - 1 → pair8 a c L b k z = true → no8 a c L b k z → Ply a c (sel L z) (halA b k) X → Ply a c (sel L (2 ^ L.length - 1 - z)) (halB b k) Y → Ply a c L b (mrg L.length z X Y)
section
variable {a c : Int}
theorem can8_nil {b : Bo} : can8 a c [] b = true := can8_iff.2 .nil
theorem can8_one {p : Pt} {b : Bo} : can8 a c [p] b = (fitsP a c p b.lo b.wi).2 := by
 rw [Bool.eq_iff_iff, can8_iff, Cut.single, fitsP_iff]
theorem full_and : ∀ n, n < 6 → ∀ z, z < 32 → z < 2 ^ n → z &&& (2 ^ n - 1) = z := by decide +kernel
theorem full_pop : ∀ n, n < 6 → popP (2 ^ n - 1) = n := by decide +kernel
theorem pow5 {n : Nat} (h : n ≤ 5) : 0 < 2 ^ n ∧ 2 ^ n ≤ 32 := ⟨Nat.two_pow_pos _, Nat.pow_le_pow_right (n := 2) (by omega) h⟩
theorem halA_lt {b : Bo} {k : Int} (h : k < b.lo) : halA b k = ⟨b.x, b.y, k, b.wi⟩ ∧ halB b k = ⟨b.x + k, b.y, b.lo - k, b.wi⟩ := ⟨if_pos h, if_pos h⟩
theorem halA_ge {b : Bo} {k : Int} (h : ¬ k < b.lo) : halA b k = ⟨b.x, b.y, b.lo, k - b.lo + 1⟩ ∧ halB b k = ⟨b.x, b.y + (k - b.lo + 1), b.lo, b.wi - (k - b.lo + 1)⟩ := ⟨if_neg h, if_neg h⟩
theorem can8_cut {L : List Pt} {b : Bo} (h5 : L.length ≤ 5) (h2 : 2 ≤ L.length) (hlo : 1 ≤ b.lo) (hwi : 1 ≤ b.wi) : can8 a c L b = true ↔ ∃ k z : Nat, 0 < k ∧ (k : Int) ≤ b.lo - 1 + b.wi - 1 ∧ 0 < z ∧ z < 2 ^ L.length - 1 ∧ pair8 a c L b k z = true := by
 have hp := pow5 h5
 have hc := can_cut (a := a) (c := c) (L := L) (r := ⟨2 ^ L.length - 1, b.lo, b.wi⟩) (by show 2 ^ L.length - 1 < _; omega) h5 (by show 2 ≤ popP (2 ^ L.length - 1); rw [full_pop _ (by omega)]; exact h2)
 have e : canP a c L ⟨2 ^ L.length - 1, b.lo, b.wi⟩ ↔ can8 a c L b = true := by
  rw [can8_iff]
  unfold canP
  rw [sel_all]
 rw [e] at hc
 rw [hc]
 constructor
 ·rintro ⟨q, hq, k1, k2⟩
  rcases mem_rooms.1 hq with ⟨k, h0, h1, hq⟩ | ⟨k, h0, h1, hq⟩
  ·obtain ⟨z, ⟨z1, z2, z3⟩, rfl⟩ := mem_long.1 hq
   have hk : (k : Int) < b.lo := h1
   refine ⟨k, z, h0, by omega, z1, z2, ?_⟩
   rw [pair8, (halA_lt hk).1, (halA_lt hk).2, Bool.and_eq_true, can8_iff, can8_iff]
   exact ⟨k1, k2⟩
  ·obtain ⟨z, ⟨z1, z2, z3⟩, rfl⟩ := mem_wide.1 hq
   have hk : (k : Int) < b.wi := h1
   have hk2 : ¬ ((b.lo.toNat - 1 + k : Nat) : Int) < b.lo := by omega
   refine ⟨b.lo.toNat - 1 + k, z, by omega, by omega, z1, z2, ?_⟩
   rw [pair8, (halA_ge hk2).1, (halA_ge hk2).2, Bool.and_eq_true, can8_iff, can8_iff, show ((b.lo.toNat - 1 + k : Nat) : Int) - b.lo + 1 = (k : Int) by omega]
   exact ⟨k1, k2⟩
 ·rintro ⟨k, z, h0, h1, z1, z2, h⟩
  have z3 := full_and L.length (by omega) z (by omega) (by omega)
  by_cases hk : (k : Int) < b.lo
  ·rw [pair8, (halA_lt hk).1, (halA_lt hk).2, Bool.and_eq_true, can8_iff, can8_iff] at h
   exact ⟨_, mem_rooms.2 (.inl ⟨k, h0, hk, mem_long.2 ⟨z, ⟨z1, z2, z3⟩, rfl⟩⟩), h.1, h.2⟩
  ·rw [pair8, (halA_ge hk).1, (halA_ge hk).2, Bool.and_eq_true, can8_iff, can8_iff] at h
   have e9 : ((k + 1 - b.lo.toNat : Nat) : Int) = k - b.lo + 1 := by omega
   rw [← e9] at h
   exact ⟨_, mem_rooms.2 (.inr ⟨k + 1 - b.lo.toNat, by omega, by show ((k + 1 - b.lo.toNat : Nat) : Int) < b.wi; omega, mem_wide.2 ⟨z, ⟨z1, z2, z3⟩, rfl⟩⟩), h.1, h.2⟩
theorem can8_not {L : List Pt} {b : Bo} (h5 : L.length ≤ 5) (h2 : 2 ≤ L.length) (hlo : 1 ≤ b.lo) (hwi : 1 ≤ b.wi) {k : Nat} (hk : b.lo - 1 + b.wi - 1 < k) {z : Nat} (h : no8 a c L b k z) : can8 a c L b = false := by
 rw [Bool.eq_false_iff]
 intro h9
 obtain ⟨k', z', k1, k2, z1, z2, h8⟩ := (can8_cut h5 h2 hlo hwi).1 h9
 rw [h k' z' k1 z1 z2 (.inl (by omega))] at h8
 cases h8
def dep : Nat → Nat → Nat → Nat
 | 0, _, _ => 0
 | n + 1, s, z => if s % 2 = 1 then z % 2 + 2 * dep n (s / 2) (z / 2) else 2 * dep n (s / 2) z
theorem sel_sel {α : Type} : ∀ (L : List α) (s z : Nat), sel (sel L s) z = sel L (dep L.length s z)
 | [], s, z => rfl
 | x :: L, s, z => by
  simp only [sel, List.length_cons, dep]
  by_cases h : s % 2 = 1
  ·rw [if_pos h, if_pos h]
   simp only [sel]
   rw [show (z % 2 + 2 * dep L.length (s / 2) (z / 2)) / 2 = dep L.length (s / 2) (z / 2) by omega, show (z % 2 + 2 * dep L.length (s / 2) (z / 2)) % 2 = z % 2 by omega, sel_sel L]
  ·rw [if_neg h, if_neg h, if_neg (by omega), show 2 * dep L.length (s / 2) z / 2 = dep L.length (s / 2) z by omega, sel_sel L]
theorem dep_comp : ∀ n, n < 6 → ∀ s, s < 32 → s < 2 ^ n → ∀ z, z < 32 → z < 2 ^ popP s → dep n s (2 ^ popP s - 1 - z) = s - dep n s z := by decide +kernel
theorem fm_congr {α β : Type} {f g : α → List β} : ∀ {l : List α}, (∀ x ∈ l, f x = g x) → l.flatMap f = l.flatMap g
 | [], _ => rfl
 | x :: l, h => by
  rw [List.flatMap_cons, List.flatMap_cons, h x List.mem_cons_self, fm_congr fun y hy => h y (List.mem_cons_of_mem _ hy)]
theorem parts_dep : ∀ n, n < 6 → ∀ s, s < 32 → s < 2 ^ n → partsP s = (List.range (2 ^ popP s - 2)).map fun z => dep n s (z + 1) := by decide +kernel
def two8 (n : Nat) (r : Rm) (k z : Nat) : Two2 := if ((k + 1 : Nat) : Int) < r.lo then ⟨⟨dep n r.s (z + 1), ((k + 1 : Nat) : Int), r.wi⟩, ⟨r.s - dep n r.s (z + 1), r.lo - ((k + 1 : Nat) : Int), r.wi⟩, ((k + 1 : Nat) : Int), 0⟩
 else ⟨⟨dep n r.s (z + 1), r.lo, ((k + 1 : Nat) : Int) - r.lo + 1⟩, ⟨r.s - dep n r.s (z + 1), r.lo, r.wi - (((k + 1 : Nat) : Int) - r.lo + 1)⟩, 0, ((k + 1 : Nat) : Int) - r.lo + 1⟩
theorem rooms_two {n : Nat} {r : Rm} (hn : n ≤ 5) (hs : r.s < 2 ^ n) (hlo : 1 ≤ r.lo) (hwi : 1 ≤ r.wi) : roomsP r = (List.range (r.lo - 1 + r.wi - 1).toNat).flatMap fun k => (List.range (2 ^ popP r.s - 2)).map (two8 n r k) := by
 have h32 := (pow5 hn).2
 have hpd := parts_dep n (by omega) r.s (by omega) hs
 rw [show (r.lo - 1 + r.wi - 1).toNat = (r.lo - 1).toNat + (r.wi - 1).toNat by omega, List.range_add, List.flatMap_append, List.flatMap_map]
 unfold roomsP
 congr 1
 ·apply fm_congr
  intro k hk
  have hk := List.mem_range.1 hk
  unfold longP
  rw [hpd, List.map_map]
  apply List.map_congr_left
  intro z _
  show _ = two8 n r k z
  unfold two8
  rw [if_pos (by omega)]
  rfl
 ·apply fm_congr
  intro k hk
  unfold wideP
  rw [hpd, List.map_map]
  apply List.map_congr_left
  intro z _
  show _ = two8 n r ((r.lo - 1).toNat + k) z
  unfold two8
  rw [if_neg (by omega), show ((((r.lo - 1).toNat + k + 1 : Nat) : Int) - r.lo + 1) = ((k + 1 : Nat) : Int) by omega]
  rfl
theorem find_flat {α : Type} (p : α → Bool) (f : Nat → Nat → α) {N M k z : Nat} (hk : k < N) (hz : z < M) (hp : p (f k z) = true) (hno : ∀ k' z', k' < N → z' < M → (k' < k ∨ k' = k ∧ z' < z) → p (f k' z') = false) : ((List.range N).flatMap fun k => (List.range M).map (f k)).find? p = some (f k z) := by
 refine find_pre (l0 := ((List.range k).flatMap fun k => (List.range M).map (f k)) ++ (List.range z).map (f k)) ?_ ?_ hp
 ·obtain ⟨N', rfl⟩ : ∃ N', N = k + (1 + N') := ⟨N - k - 1, by omega⟩
  obtain ⟨M', rfl⟩ : ∃ M', M = z + (1 + M') := ⟨M - z - 1, by omega⟩
  rw [List.range_add (n := k), List.flatMap_append, List.append_assoc, List.range_add (n := 1), List.map_append, List.flatMap_append]
  refine List.prefix_append_right_inj _ |>.2 ?_
  simp only [List.range_one, List.map_cons, List.map_nil, List.flatMap_cons, List.flatMap_nil, List.append_nil, Nat.add_zero]
  rw [List.range_add (n := z), List.map_append, List.range_add (n := 1), List.map_append, List.map_append]
  simp only [List.range_one, List.map_cons, List.map_nil, Nat.add_zero]
  rw [List.append_assoc]
  refine List.prefix_append_right_inj _ |>.2 ?_
  rw [List.append_assoc]
  exact List.prefix_append _ _
 ·intro x hx
  rcases List.mem_append.1 hx with hx | hx
  ·obtain ⟨k', hk', hx⟩ := List.mem_flatMap.1 hx
   obtain ⟨z', hz', rfl⟩ := List.mem_map.1 hx
   have := List.mem_range.1 hk'
   have := List.mem_range.1 hz'
   exact hno k' z' (by omega) (by omega) (.inl (by omega))
  ·obtain ⟨z', hz', rfl⟩ := List.mem_map.1 hx
   have := List.mem_range.1 hz'
   exact hno k z' hk (by omega) (.inr ⟨rfl, this⟩)
theorem mrg_zip {α : Type} : ∀ (I : List α) (z : Nat) (X Y : List Spt), X.length = (sel I z).length → Y.length = (sel I (2 ^ I.length - 1 - z)).length → z < 2 ^ I.length → (I.zip (mrg I.length z X Y)).Perm ((sel I z).zip X ++ (sel I (2 ^ I.length - 1 - z)).zip Y) ∧ (mrg I.length z X Y).length = I.length
 | [], z, X, Y, _, _, _ => ⟨.refl _, rfl⟩
 | i :: I, z, X, Y, hX, hY, hz => by
  have hpow : 2 ^ (I.length + 1) = 2 * 2 ^ I.length := by rw [Nat.pow_succ]; omega
  simp only [List.length_cons, hpow] at hX hY hz ⊢
  have e1 : (2 * 2 ^ I.length - 1 - z) / 2 = 2 ^ I.length - 1 - z / 2 := by omega
  simp only [sel, mrg] at hX hY ⊢
  rw [e1] at hY ⊢
  by_cases h : z % 2 = 1
  ·have h' : ¬ (2 * 2 ^ I.length - 1 - z) % 2 = 1 := by omega
   simp only [if_pos h, if_neg h'] at hX hY ⊢
   cases X with
   | nil => simp at hX
   | cons x X =>
    obtain ⟨ih, il⟩ := mrg_zip I (z / 2) X Y (by simpa using hX) hY (by omega)
    simp only [List.headD_cons, List.tail_cons, List.zip_cons_cons, List.cons_append, List.length_cons, il, and_true]
    exact ih.cons _
  ·have h' : (2 * 2 ^ I.length - 1 - z) % 2 = 1 := by omega
   simp only [if_neg h, if_pos h'] at hX hY ⊢
   cases Y with
   | nil => simp at hY
   | cons y Y =>
    obtain ⟨ih, il⟩ := mrg_zip I (z / 2) X Y hX (by simpa using hY) (by omega)
    simp only [List.headD_cons, List.tail_cons, List.zip_cons_cons, List.length_cons, il, and_true]
    exact (ih.cons _).trans List.perm_middle.symm
theorem Ply.inv_nil {L : List Pt} {b : Bo} {X : List Spt} (h : Ply a c L b X) (h0 : L.length = 0) : X = [] := by
 cases h with
 | nil => rfl
 | one => simp at h0
 | cut h2 => omega
theorem Ply.inv_one {p : Pt} {b : Bo} {X : List Spt} (h : Ply a c [p] b X) : X = [lonS a c p b] := by
 generalize hL : [p] = L at h
 cases h with
 | nil => simp at hL
 | one => simp at hL; rw [hL]
 | cut h2 => rw [← hL] at h2; simp at h2
theorem Ply.inv_cut {L : List Pt} {b : Bo} {X : List Spt} (h : Ply a c L b X) (h2 : 2 ≤ L.length) : ∃ (k z : Nat) (A B : List Spt), 0 < k ∧ (k : Int) ≤ b.lo - 1 + b.wi - 1 ∧ 0 < z ∧ z < 2 ^ L.length - 1 ∧ pair8 a c L b k z = true ∧ no8 a c L b k z ∧ Ply a c (sel L z) (halA b k) A ∧ Ply a c (sel L (2 ^ L.length - 1 - z)) (halB b k) B ∧ X = mrg L.length z A B := by
 cases h with
 | nil => simp at h2
 | one => simp at h2
 | cut _ h1 h3 h4 h5 h6 h7 h8 h9 => exact ⟨_, _, _, _, h1, h3, h4, h5, h6, h7, h8, h9, rfl⟩
theorem lay_ply {L : List Pt} (h5 : L.length ≤ 5) {r : Rm} {x y : Int} {A : List (Nat × Spt)} (h : Lay a c L r x y A) : r.s < 2 ^ L.length → 1 ≤ r.lo → 1 ≤ r.wi → canP a c L r → ∀ X, Ply a c (sel L r.s) ⟨x, y, r.lo, r.wi⟩ X → ((sel (List.range L.length) r.s).zip X).Perm A ∧ X.length = (sel L r.s).length := by
 have h32 := (pow5 h5).2
 induction h with
 | @none r x y h0 =>
  intro hs _ _ _ X hX
  have hl := sel_length_pop L r.s hs h5
  have := hX.inv_nil (by omega)
  subst this
  rw [List.zip_nil_right]
  exact ⟨.refl _, by rw [List.length_nil]; omega⟩
 | @one r x y h1 =>
  intro hs _ _ hcan X hX
  have hf := fitsP_iff.2 ((can_one hs h5 h1).1 hcan)
  obtain ⟨s1, s2⟩ := sel_one (List.range L.length) r.s (by rw [List.length_range]; exact hs) (by rw [List.length_range]; exact h5) h1
  rw [List.length_range] at s2
  have e9 : (List.range L.length).getD (onlyP r.s) default = onlyP r.s := by rw [List.getD_eq_getElem?_getD, List.getElem?_range s2]; rfl
  rw [(sel_one L r.s hs h5 h1).1] at hX ⊢
  have := hX.inv_one
  subst this
  rw [s1, e9]
  refine ⟨?_, rfl⟩
  have e8 : lonS a c (L.getD (onlyP r.s) default) ⟨x, y, r.lo, r.wi⟩ = ⟨x, y, (fitsP a c (L.getD (onlyP r.s) default) r.lo r.wi).1⟩ := if_pos hf
  rw [e8]
  exact .refl _
 | @cut r x y q A B h2 hq _ _ ih1 ih2 =>
  intro hs hlo hwi hcan X hX
  have hl := sel_length_pop L r.s hs h5
  have hcnt := hX
  obtain ⟨k, z, XA, XB, k1, k2, z1, z2, hp, hno, hA, hB, rfl⟩ := hX.inv_cut (by omega)
  rw [hl] at z2 hB
  have hpw := pow5 (n := popP r.s) (by have := pop_lt r.s; omega)
  obtain ⟨k, rfl⟩ : ∃ k', k = k' + 1 := ⟨k - 1, by omega⟩
  obtain ⟨z, rfl⟩ : ∃ z', z = z' + 1 := ⟨z - 1, by omega⟩
  have hpr : ∀ k' z', z' < 2 ^ popP r.s - 2 → (canB a c L (two8 L.length r k' z').a && canB a c L (two8 L.length r k' z').b) = pair8 a c (sel L r.s) ⟨x, y, r.lo, r.wi⟩ (k' + 1) (z' + 1) := fun k' z' hz' => by
   have d1 := dep_comp L.length (by omega) r.s (by omega) hs (z' + 1) (by omega) (by omega)
   have q1 : ∀ (s : Nat) (b : Bo), canB a c L ⟨s, b.lo, b.wi⟩ = can8 a c (sel L s) b := fun s b => by
    rw [Bool.eq_iff_iff, canB_iff, can8_iff]; rfl
   unfold pair8
   rw [sel_sel, sel_sel, hl, d1]
   unfold two8
   by_cases hk : ((k' + 1 : Nat) : Int) < r.lo
   ·rw [if_pos hk, ← q1, ← q1, (halA_lt (b := ⟨x, y, r.lo, r.wi⟩) hk).1, (halA_lt (b := ⟨x, y, r.lo, r.wi⟩) hk).2]
   ·rw [if_neg hk, ← q1, ← q1, (halA_ge (b := ⟨x, y, r.lo, r.wi⟩) hk).1, (halA_ge (b := ⟨x, y, r.lo, r.wi⟩) hk).2]
  have hfind : ((roomsP r).find? fun q => canB a c L q.a && canB a c L q.b) = some (two8 L.length r k z) := by
   rw [rooms_two h5 hs hlo hwi]
   have k2 : ((k + 1 : Nat) : Int) ≤ r.lo - 1 + r.wi - 1 := k2
   refine find_flat (fun q => canB a c L q.a && canB a c L q.b) (two8 L.length r) (N := (r.lo - 1 + r.wi - 1).toNat) (M := 2 ^ popP r.s - 2) (by omega) (by omega) ((hpr k z (by omega)).trans hp) fun k' z' hk' hz' hlt => ?_
   exact (hpr k' z' hz').trans (hno (k' + 1) (z' + 1) (by omega) (by omega) (by rw [hl]; omega) (by omega))
  rw [hfind] at hq
  injection hq with hq
  subst hq
  have hm := List.mem_of_find?_eq_some hfind
  have hb := List.find?_some hfind
  simp only [Bool.and_eq_true, canB_iff] at hb
  obtain ⟨p1, p2⟩ := rooms_pow hs h5 hm
  have d1 := dep_comp L.length (by omega) r.s (by omega) hs (z + 1) (by omega) (by omega)
  have dims : (1 ≤ (two8 L.length r k z).a.lo ∧ 1 ≤ (two8 L.length r k z).a.wi ∧ 1 ≤ (two8 L.length r k z).b.lo ∧ 1 ≤ (two8 L.length r k z).b.wi) ∧ (two8 L.length r k z).a.s = dep L.length r.s (z + 1) ∧ (two8 L.length r k z).b.s = r.s - dep L.length r.s (z + 1) ∧ halA ⟨x, y, r.lo, r.wi⟩ ((k + 1 : Nat) : Int) = ⟨x, y, (two8 L.length r k z).a.lo, (two8 L.length r k z).a.wi⟩ ∧ halB ⟨x, y, r.lo, r.wi⟩ ((k + 1 : Nat) : Int) = ⟨x + (two8 L.length r k z).x, y + (two8 L.length r k z).y, (two8 L.length r k z).b.lo, (two8 L.length r k z).b.wi⟩ := by
   have k2 : ((k + 1 : Nat) : Int) ≤ r.lo - 1 + r.wi - 1 := k2
   unfold two8
   by_cases hk : ((k + 1 : Nat) : Int) < r.lo
   ·rw [if_pos hk, (halA_lt (b := ⟨x, y, r.lo, r.wi⟩) hk).1, (halA_lt (b := ⟨x, y, r.lo, r.wi⟩) hk).2]
    refine ⟨⟨by dsimp only; omega, by dsimp only; omega, by dsimp only; omega, by dsimp only; omega⟩, rfl, rfl, rfl, ?_⟩
    dsimp only
    rw [Int.add_zero]
   ·rw [if_neg hk, (halA_ge (b := ⟨x, y, r.lo, r.wi⟩) hk).1, (halA_ge (b := ⟨x, y, r.lo, r.wi⟩) hk).2]
    refine ⟨⟨by dsimp only; omega, by dsimp only; omega, by dsimp only; omega, by dsimp only; omega⟩, rfl, rfl, rfl, ?_⟩
    dsimp only
    rw [Int.add_zero]
  obtain ⟨⟨m1, m2, m3, m4⟩, sa, sb, ea, eb⟩ := dims
  have g1 := ih1 p1 m1 m2 hb.1 XA (by rw [sa, ← sel_sel, ← ea]; exact hA)
  have g2 := ih2 p2 m3 m4 hb.2 XB (by rw [sb, ← d1, ← sel_sel, ← eb]; exact hB)
  rw [sa, ← List.length_range (n := L.length)] at g1
  rw [sb, ← d1] at g2
  have r1 : sel (List.range L.length) (dep L.length r.s (z + 1)) = sel (sel (List.range L.length) r.s) (z + 1) := by rw [sel_sel, List.length_range]
  have r2 : sel (List.range L.length) (dep L.length r.s (2 ^ popP r.s - 1 - (z + 1))) = sel (sel (List.range L.length) r.s) (2 ^ popP r.s - 1 - (z + 1)) := by rw [sel_sel, List.length_range]
  have r3 : (sel (List.range L.length) r.s).length = popP r.s := by rw [sel_length_pop _ _ (by rw [List.length_range]; exact hs) (by rw [List.length_range]; exact h5)]
  have len : ∀ s, (sel L s).length = (sel (List.range L.length) s).length := fun s => by rw [sel_cnt, sel_cnt, List.length_range]
  rw [List.length_range] at g1
  rw [len] at g1 g2
  rw [r1] at g1
  rw [r2] at g2
  obtain ⟨w1, w2⟩ := mrg_zip (sel (List.range L.length) r.s) (z + 1) XA XB g1.2 (by rw [r3]; exact g2.2) (by rw [r3]; omega)
  rw [r3] at w1 w2
  rw [hl]
  refine ⟨w1.trans (g1.1.append g2.1), w2⟩
end
theorem ply_plan {s : Sk} {g : List Int} {su : Bool} {X : List Spt} (hg : s.good) (hi : ∀ x ∈ g, 0 ≤ x ∧ x < (s.ps.length : Int)) (hn : g.Nodup) (h0 : planE s g su = 0) (h : Ply (cutA s su) (cutC s su) (gP s g) ⟨0, 0, s.lo, s.wi⟩ X) : planL s g su = X := by
 have hgl : (gP s g).length = g.length := by unfold gP; rw [List.length_map]
 have h5 : (gP s g).length ≤ 5 := by rw [hgl]; exact Nat.le_trans (nodup_short hi hn) hg.len
 have hcan : canS s su (gP s g) = true := by
   rcases plan_cases (su := su) hg hi hn with ⟨-, h1⟩ | ⟨h1, -⟩
   · exact h1
   · omega
 obtain ⟨⟨l1, -⟩, ⟨w1, -⟩, -⟩ := id hg
 obtain ⟨A, hA⟩ := lay_ex (a := cutA s su) (c := cutC s su) h5 6 (whR s (gP s g)) 0 0 (pop_lt _) (whole_pow _) hcan
 have hpl : planL s g su = putS (List.replicate (gP s g).length ⟨0, 0, false⟩) A := by
   unfold planL
   rw [if_pos h0, planA_eq hA]
 have e1 : sel (gP s g) (whR s (gP s g)).s = gP s g := sel_all _
 have e2 : sel (List.range (gP s g).length) (whR s (gP s g)).s = List.range (gP s g).length := by
   have := sel_all (List.range (gP s g).length)
   rwa [List.length_range] at this
 obtain ⟨k1, k2⟩ := lay_ply h5 hA (whole_pow _) l1 w1 (canB_iff.1 hcan) X (by rw [e1]; exact h)
 rw [e1] at k2
 rw [e2] at k1
 rw [hpl]
 have hmap : (A.map (·.1)).Perm (List.range (gP s g).length) := by
   have := (k1.map (·.1)).symm
   rwa [map_zip_fst _ _ (by rw [List.length_range]; exact k2.symm)] at this
 apply List.ext_getElem?
 intro i
 by_cases hi9 : i < (gP s g).length
 · have hm : (i, X[i]'(by omega)) ∈ A := k1.subset (List.mem_iff_getElem.2 ⟨i, by simp; omega, by simp⟩)
   have := putS_get A (List.replicate (gP s g).length ⟨0, 0, false⟩) (hmap.nodup_iff.2 List.nodup_range) (fun z hz => by
     rw [List.length_replicate]
     exact List.mem_range.1 (hmap.subset (List.mem_map.2 ⟨z, hz, rfl⟩))) _ hm
   rw [this, List.getElem?_eq_getElem (by omega)]
 · rw [List.getElem?_eq_none (by rw [putS_length, List.length_replicate]; omega), List.getElem?_eq_none (by omega)]
end Go.Proofs.YtehpcclfgjccbaaDoor
end

section
/-
 ref8: plan.
-/
namespace Go.Proofs.YtehpcclfgjccbaaDoor
set_option linter.unusedSimpArgs false
set_option linter.unusedVariables false
open Go.RowKit
def shlI (x n : Int) : Int := IntKind.i64.wrap (x * 2 ^ min n.toNat 64)
def shrI (x n : Int) : Int := x.fdiv (2 ^ min n.toNat 64)
section
variable {P : Program} {op : Oper} {a : Act} {w : World} {t t' : TypeId} {x y : Operand} {p q : Int}
theorem rn_shl (ho : op.op = .binOp .shl t x y t') (hx : a.eval x = .int .i64 p) (hy : a.eval y = .int .i64 q) (hb : 0 ≤ q) : Runs P op a (.int .i64 (shlI p q)) w :=
 rn_bin ho hx hy (by
  show (Op.shift .shl .i64 p .i64 q).run P w = _
  unfold Op.shift
  rw [if_neg (by omega)]
  rfl)
theorem rn_shr (ho : op.op = .binOp .shr t x y t') (hx : a.eval x = .int .i64 p) (hy : a.eval y = .int .i64 q) (hb : 0 ≤ q) : Runs P op a (.int .i64 (shrI p q)) w :=
 rn_bin ho hx hy (by
  show (Op.shift .shr .i64 p .i64 q).run P w = _
  unfold Op.shift
  rw [if_neg (by omega)]
  rfl)
end
theorem sel_snoc {α : Type} : ∀ (l : List α) (x : α) (z : Nat), sel (l ++ [x]) z = sel l z ++ if z / 2 ^ l.length % 2 = 1 then [x] else []
 | [], x, z => by simp [sel]
 | y :: l, x, z => by
  simp only [sel, List.cons_append, List.length_cons]
  rw [sel_snoc l x (z / 2), Nat.div_div_eq_div_mul, show 2 * 2 ^ l.length = 2 ^ (l.length + 1) by rw [Nat.pow_succ]; omega]
  by_cases h : z % 2 = 1
  ·rw [if_pos h, if_pos h]; rfl
  ·rw [if_neg h, if_neg h]
theorem bit8 : ∀ i, i < 5 → ∀ z, z < 32 → andI (shrI (z : Nat) (i : Nat)) 1 = ((z / 2 ^ i % 2 : Nat) : Int) := by decide +kernel
theorem shl8 : ∀ n, n < 6 → shlI 1 (n : Nat) = ((2 ^ n : Nat) : Int) := by decide +kernel
theorem comp8 : ∀ n, n < 6 → ∀ i, i < n → ∀ z, z < 32 → z < 2 ^ n → (2 ^ n - 1 - z) / 2 ^ i % 2 = 1 - z / 2 ^ i % 2 := by decide +kernel
theorem cnt8 : ∀ n, n < 6 → ∀ z, z < 32 → 0 < z → z < 2 ^ n - 1 → 0 < cntP n z ∧ cntP n z < n ∧ cntP n (2 ^ n - 1 - z) = n - cntP n z := by decide +kernel
theorem cntP_le : ∀ n z, cntP n z ≤ n
 | 0, _ => Nat.le_refl _
 | n + 1, z => by
  have := cntP_le n (z / 2)
  show z % 2 + cntP n (z / 2) ≤ n + 1
  omega
theorem cnt_step {m i z : Nat} (h : i < m) : cntP (m - i) (z / 2 ^ i) = z / 2 ^ i % 2 + cntP (m - (i + 1)) (z / 2 ^ (i + 1)) := by
 rw [show m - i = (m - (i + 1)) + 1 by omega, Nat.pow_succ, ← Nat.div_div_eq_div_mul]
 rfl
theorem mrg_stepX {m i z : Nat} {X Y : List Spt} {q : Spt} (h : i < m) (hb : z / 2 ^ i % 2 = 1) (hX : X[0]? = some q) : mrg (m - i) (z / 2 ^ i) X Y = q :: mrg (m - (i + 1)) (z / 2 ^ (i + 1)) (X.drop 1) Y := by
 rw [show m - i = (m - (i + 1)) + 1 by omega, Nat.pow_succ, ← Nat.div_div_eq_div_mul]
 cases X with
 | nil => simp at hX
 | cons x X =>
  simp only [List.getElem?_cons_zero, Option.some.injEq] at hX
  subst hX
  simp only [mrg, if_pos hb]
  rfl
theorem mrg_stepY {m i z : Nat} {X Y : List Spt} {q : Spt} (h : i < m) (hb : ¬ z / 2 ^ i % 2 = 1) (hY : Y[0]? = some q) : mrg (m - i) (z / 2 ^ i) X Y = q :: mrg (m - (i + 1)) (z / 2 ^ (i + 1)) X (Y.drop 1) := by
 rw [show m - i = (m - (i + 1)) + 1 by omega, Nat.pow_succ, ← Nat.div_div_eq_div_mul]
 cases Y with
 | nil => simp at hY
 | cons x Y =>
  simp only [List.getElem?_cons_zero, Option.some.injEq] at hY
  subst hY
  simp only [mrg, if_neg hb]
  rfl
theorem tc_drop : ∀ (l : List Spt) (k : Nat), (tc l).drop (k * 3) = tc (l.drop k)
 | l, 0 => by simp
 | [], k + 1 => by simp [tc]
 | x :: l, k + 1 => by
  rw [show (k + 1) * 3 = k * 3 + 3 by omega, List.drop_succ_cons, ← tc_drop l k]
  rfl
theorem tc_take : ∀ (l : List Spt) (k : Nat), (tc l).take (k * 3) = tc (l.take k)
 | l, 0 => by simp [tc]
 | [], k + 1 => by simp [tc]
 | x :: l, k + 1 => by
  rw [show (k + 1) * 3 = k * 3 + 3 by omega, List.take_succ_cons, show tc (x :: l.take k) = _ :: _ :: _ :: tc (l.take k) from rfl, ← tc_take l k]
  rfl
theorem tc_part (l : List Spt) (k h : Nat) : ((tc l).drop (k * 3)).take ((h - k) * 3) = tc ((l.drop k).take (h - k)) := by
 rw [tc_drop, tc_take]
theorem sel_map {α β : Type} (f : α → β) : ∀ (l : List α) (z : Nat), (sel l z).map f = sel (l.map f) z
 | [], _ => rfl
 | x :: l, z => by
  simp only [sel, List.map_cons]
  split
  ·rw [List.map_cons, sel_map f l]
  ·exact sel_map f l _
theorem gP_sel {s : Sk} {g : List Int} {z : Nat} : gP s (sel g z) = sel (gP s g) z := sel_map _ _ _
theorem gP_len {s : Sk} {g : List Int} : (gP s g).length = g.length := List.length_map _
def Bo.ok (b : Bo) : Prop := (0 ≤ b.x ∧ 0 ≤ b.y) ∧ (1 ≤ b.lo ∧ 1 ≤ b.wi) ∧ b.x + b.lo ≤ 12 ∧ b.y + b.wi ≤ 12
theorem Bo.ok.few {b : Bo} (h : b.ok) : b.few := by
 unfold Bo.ok at h
 unfold Bo.few
 omega
theorem halA_ok {b : Bo} {k : Int} (h : b.ok) (h0 : 0 < k) (h1 : k ≤ b.lo - 1 + b.wi - 1) : (halA b k).ok ∧ (halB b k).ok := by
 unfold Bo.ok at *
 by_cases hk : k < b.lo
 · rw [(halA_lt hk).1, (halA_lt hk).2]; dsimp only; omega
 · rw [(halA_ge hk).1, (halA_ge hk).2]; dsimp only; omega
theorem no8_succ {a c : Int} {L : List Pt} {b : Bo} {k z : Nat} (h : no8 a c L b k z) (hz : pair8 a c L b k z = false) : no8 a c L b k (z + 1) := fun k' z' h1 h2 h3 h4 => by
 by_cases h5 : k' = k ∧ z' = z
 · rw [h5.1, h5.2]; exact hz
 · exact h k' z' h1 h2 h3 (by omega)
theorem no8_next {a c : Int} {L : List Pt} {b : Bo} {k z : Nat} (h : no8 a c L b k z) (hz : 2 ^ L.length - 1 ≤ z) : no8 a c L b (k + 1) 1 := fun k' z' h1 h2 h3 h4 => h k' z' h1 h2 h3 (by omega)
theorem no8_zero {a c : Int} {L : List Pt} {b : Bo} : no8 a c L b 1 1 := fun k' z' h1 h2 h3 h4 => by omega
theorem ply_cut {s : Sk} {g : List Int} {a c : Int} {b : Bo} {k z : Nat} {X Y : List Spt} (h2 : 2 ≤ g.length) (h0 : 0 < k) (hk : (k : Int) ≤ b.lo - 1 + b.wi - 1) (z0 : 0 < z) (z1 : z < 2 ^ g.length - 1) (hp : pair8 a c (gP s g) b k z = true) (hno : no8 a c (gP s g) b k z) (hX : Ply a c (gP s (sel g z)) (halA b k) X) (hY : Ply a c (gP s (sel g (2 ^ g.length - 1 - z))) (halB b k) Y) : Ply a c (gP s g) b (mrg g.length z X Y) := by
 have := Ply.cut (L := gP s g) (b := b) (by rw [gP_len]; exact h2) h0 hk z0 (by rw [gP_len]; exact z1) hp hno (by rw [← gP_sel]; exact hX) (by rw [gP_len, ← gP_sel]; exact hY)
 rwa [gP_len] at this
theorem can8_of {s : Sk} {g : List Int} {a c : Int} {b : Bo} {k z : Nat} (h5 : g.length ≤ 5) (h2 : 2 ≤ g.length) (hb : b.ok) (h0 : 0 < k) (hk : (k : Int) ≤ b.lo - 1 + b.wi - 1) (z0 : 0 < z) (z1 : z < 2 ^ g.length - 1) (hp : pair8 a c (gP s g) b k z = true) : can8 a c (gP s g) b = true :=
 (can8_cut (by rw [gP_len]; exact h5) (by rw [gP_len]; exact h2) hb.2.1.1 hb.2.1.2).2 ⟨k, z, h0, hk, z0, by rw [gP_len]; exact z1, hp⟩
def PlyPost (a c : Int) (L : List Pt) (b : Bo) (w : World) (e : Ending) (w' : World) : Prop := ∃ A n X I, e = .returned (.tuple #[.slice A X.length n, .bool (can8 a c L b)]) ∧ X.length ≤ n ∧ X.length ≤ L.length ∧ (can8 a c L b = true → Ply a c L b X ∧ X.length = L.length) ∧ (∃ b' o, ∀ (w : World) (ex : Nat → Prop), Sp w ex I A X.length 3 b' o (tc X)) ∧ Mem w noEx w' I
def PlySpec (s : Sk) (A : Option Addr) (d : Nat) (su : Bool) (m : Nat) : Prop := ∀ (g : List Int) (G : Option Addr) (n : Nat) (b : Bo) (w : World), g.length < m → g.length ≤ 5 → (∀ x ∈ g, 0 ≤ x ∧ x < (s.ps.length : Int)) → b.ok → Rd w w.heap.size 4 A s.ps.length (pc s.ps) → Rd w w.heap.size 1 G g.length (ic g) →
 Calls Tryd.prog 67 #[.agg #[.int .i64 s.lo, .int .i64 s.wi, .int .i64 s.a0, .int .i64 s.a1, .int .i64 s.c0, .int .i64 s.c1, .slice A s.ps.length d], .slice G g.length n, .agg #[.int .i64 b.x, .int .i64 b.y, .int .i64 b.lo, .int .i64 b.wi], .bool su] w (PlyPost (cutA s su) (cutC s su) (gP s g) b w)
set_option maxHeartbeats 4000000 in
theorem ply_step (s : Sk) (A : Option Addr) (d : Nat) (su : Bool) (m : Nat) (g : List Int) (G : Option Addr) (n : Nat) (b : Bo)  (w : World) (hsg : s.good) (ih : PlySpec s A d su m) (hm : g.length < m + 1) (hgl5 : g.length ≤ 5) (hgi : ∀ x ∈ g, 0 ≤ x ∧ x < (s.ps.length : Int)) (hb : b.ok) (hA : Rd w w.heap.size 4 A s.ps.length (pc s.ps)) (hG : Rd w w.heap.size 1 G g.length (ic g))  :
   Calls Tryd.prog 67 #[.agg #[.int .i64 s.lo, .int .i64 s.wi, .int .i64 s.a0, .int .i64 s.a1, .int .i64 s.c0, .int .i64 s.c1, .slice A s.ps.length d], .slice G g.length n, .agg #[.int .i64 b.x, .int .i64 b.y, .int .i64 b.lo, .int .i64 b.wi], .bool su] w (PlyPost (cutA s su) (cutC s su) (gP s g) b w) := by
 obtain ⟨bA, oA, SA⟩ := Sp.old hA
 obtain ⟨bG, oG, SG⟩ := Sp.old hG
 have hln := hsg.len
 obtain ⟨hb1, hb2, hb3, hb4⟩ := id hb
 have hsh := shl8 g.length (by omega)
 have hpw := pow5 hgl5
 refine px_enter noEx Tryd.func67 rfl 145 rfl [.agg #[.int .i64 s.lo, .int .i64 s.wi, .int .i64 s.a0, .int .i64 s.a1, .int .i64 s.c0, .int .i64 s.c1, .slice A s.ps.length d], .slice G g.length n, .agg #[.int .i64 b.x, .int .i64 b.y, .int .i64 b.lo, .int .i64 b.wi], .bool su] rfl rfl (Mem.init w _) ?_
 intro ac wc T M
 refine wp_seq ?_
 refine wp_region_lit ?_
 refine l_w rfl ?_; intro K hK
 refine ow_bx M T rfl rfl rfl rfl (T.ev 0 rfl) rfl ?_; clear M T; intro g1 wc ac M T
 refine so9 hK _ _ ?_; clear hK K
 refine l_w rfl ?_; intro K hK
 refine ow_bx M T rfl rfl rfl rfl (T.ev 3 rfl) rfl ?_; clear M T; intro g2 wc ac M T
 refine so9 hK _ _ ?_; clear hK K
 refine lq T (ra9 rfl evc) ?_; clear T ac; intro ac T
 refine lq T (ra9 rfl evc) ?_; clear T ac; intro ac T
 refine wpList_nil ?_
 replace T := T.pick [2, 3, 5, 7] rfl
 refine nt9 ?_
 refine wp_seq ?_
 refine wp_seq ?_
 refine wp_region_lit ?_
 refine lq T (rm9 rfl (T.ev 2 rfl)) ?_; clear T ac; intro ac T
 refine lq T (rn_lenS rfl Tryd.underlying27 (T.ev 0 rfl)) ?_; clear T ac; intro ac T
 refine lq T (rn_eql rfl (T.ev 0 rfl) evc) ?_; clear T ac; intro ac T
 refine wpList_nil ?_
 replace T := T.pick [0, 3, 4, 5, 6] rfl
 refine nt9 ?_
 refine wp_if (T.ev 0 rfl) ?_ ?_
 ·intro h1
  refine wp_seq ?_
  refine wp_region_lit ?_
  refine lq T (ra9 rfl evc) ?_; clear T ac; intro ac T
  refine lq T (ra9 rfl evc) ?_; clear T ac; intro ac T
  refine wpList_nil ?_
  replace T := T.pick [0, 1] rfl
  replace M := M.mask [false, false] rfl
  refine nt9 ?_
  refine wp_ret ?_
  refine rt_then ?_
  refine rt_2 T rfl (T.ev 1 rfl) (T.ev 0 rfl) ?_
  have hg0 : gP s g = [] := List.eq_nil_of_length_eq_zero (by rw [gP_len]; omega)
  unfold PlyPost
  rw [hg0, can8_nil]
  exact ⟨none, 0, [], [], rfl, Nat.le_refl _, Nat.le_refl _, fun _ => ⟨.nil, rfl⟩, ⟨0, 0, fun _ _ => Sp.nil⟩, M.sub (List.nil_sublist _)⟩
 intro h1
 refine wp_skip ?_
 refine nt9 ?_
 refine wp_seq ?_
 refine wp_seq ?_
 refine wp_region_lit ?_
 refine lq T (rm9 rfl (T.ev 3 rfl)) ?_; clear T ac; intro ac T
 refine lq T (rn_lenS rfl Tryd.underlying27 (T.ev 0 rfl)) ?_; clear T ac; intro ac T
 refine lq T (rn_eql rfl (T.ev 0 rfl) evc) ?_; clear T ac; intro ac T
 refine wpList_nil ?_
 replace T := T.pick [0, 4, 5, 6, 7] rfl
 refine nt9 ?_
 refine wp_if (T.ev 0 rfl) ?_ ?_
 ·intro h2
  obtain ⟨x0, hx0, -⟩ := ic_next (l := g) (k := 0) (by omega)
  have hx0r := hgi x0 (List.mem_of_getElem? hx0)
  obtain ⟨k0, hk8⟩ : ∃ k0 : Nat, x0 = (k0 : Int) := ⟨x0.toNat, by omega⟩
  obtain ⟨p, hkp, -⟩ := pc_next (l := s.ps) (k := k0) (by omega)
  have hpg : p.good := hsg.ps p (List.mem_of_getElem? hkp)
  have hgp : gP s g = [p] := by obtain ⟨y9, hy9⟩ := List.length_eq_one_iff.1 (show g.length = 1 by omega); subst hy9; simp at hx0; subst hx0; show [s.ps.getD y9.toNat default] = [p]; rw [List.getD_eq_getElem?_getD, show y9.toNat = k0 by omega, hkp]; rfl
  refine wp_seq ?_
  refine g_start2 M (M.mask [true, true] rfl) 17 (by kernel_rfl) rfl (by kernel_rfl) ?_
  clear M; intro wc M
  refine g_have (fun ac wc => ∃ (gr4_14 : Nat), Tm ac 145 [(10, .pointer (some ⟨gr4_14, 0, none⟩)), (43, .bool ((fitsP (cutA s su) (cutC s su) p b.lo b.wi).2)), (42, .agg #[.int .i64 ((lonS (cutA s su) (cutC s su) p b).x), .int .i64 ((lonS (cutA s su) (cutC s su) p b).y), .bool ((lonS (cutA s su) (cutC s su) p b).t)]), (30, .tuple #[.agg #[.int .i64 ((lonS (cutA s su) (cutC s su) p b).x), .int .i64 ((lonS (cutA s su) (cutC s su) p b).y), .bool ((lonS (cutA s su) (cutC s su) p b).t)], .bool ((fitsP (cutA s su) (cutC s su) p b.lo b.wi).2)]), (41, .tuple #[.agg #[.int .i64 ((lonS (cutA s su) (cutC s su) p b).x), .int .i64 ((lonS (cutA s su) (cutC s su) p b).y), .bool ((lonS (cutA s su) (cutC s su) p b).t)], .bool ((fitsP (cutA s su) (cutC s su) p b.lo b.wi).2)]), (40, .bool su), (39, .agg #[.int .i64 b.x, .int .i64 b.y, .int .i64 b.lo, .int .i64 b.wi]), (38, .agg #[.int .i64 p.l, .int .i64 p.w, .bool p.gr, .int .i64 p.pa]), (37, .pointer (some ⟨bA, oA + k0 * 4, none⟩)), (36, .int .i64 x0), (35, .pointer (some ⟨bG, oG + 0 * 1, none⟩)), (34, .slice G g.length n), (33, .slice A s.ps.length d), (32, .pointer (some ⟨g1, 6, none⟩)), (31, .agg #[.int .i64 s.lo, .int .i64 s.wi, .int .i64 s.a0, .int .i64 s.a1, .int .i64 s.c0, .int .i64 s.c1, .slice A s.ps.length d]), (29, .bool (decide (((g.length : Nat) : Int) = 1))), (6, .pointer (some ⟨g2, 0, none⟩)), (4, .pointer (some ⟨g1, 0, none⟩)), (1, .slice G g.length n), (3, .bool su)] ∧ Mem w noEx wc [(gr4_14, .cells [.int .i64 0, .int .i64 0, .bool false]), (g2, .cells [.int .i64 b.x, .int .i64 b.y, .int .i64 b.lo, .int .i64 b.wi]), (g1, .cells [.int .i64 s.lo, .int .i64 s.wi, .int .i64 s.a0, .int .i64 s.a1, .int .i64 s.c0, .int .i64 s.c1, .slice A s.ps.length d])]) (pbits 17 32767) 2 ?_ ?_
  ·clear T M
   rintro ac wc ⟨gr4_14, T, M⟩
   refine gw 15 65535 ?_; intro K hK
   refine ow_stO M T rfl rfl (T.ev 0 rfl) (T.ev 2 rfl) rfl .head rfl (by simp) rfl (by kernel_rfl) ?_; clear M T; intro wc ac M T
   refine so9 hK _ _ (M.mask [false, true, true] rfl) ?_; clear hK K
   refine gq T 16 131071 rfl (fun _ _ _ _ _ => (ra9 rfl (T.ev 1 rfl))) ?_; clear T ac; intro ac T
   refine g_done (by kernel_rfl) ?_
   replace T := T.pick [0, 1] rfl
   replace M := M.mask [true, false, false] rfl
   refine nt9 ?_
   refine wp_seq ?_
   refine wp_region_lit ?_
   refine lq T (rn_rowO (Mem.nth M 0 rfl) rfl (T.ev 1 rfl) rfl) ?_; clear T ac; intro ac T
   refine l_w rfl ?_; intro K hK
   refine ow_bs (e := 30) [.int .i64 ((lonS (cutA s su) (cutC s su) p b).x), .int .i64 ((lonS (cutA s su) (cutC s su) p b).y), .bool ((lonS (cutA s su) (cutC s su) p b).t)] M T rfl rfl rfl rfl (.cons (T.ev 0 rfl) .nil) (fun _ => by kernel_rfl) ?_; clear M T; intro g3 wc ac M T
   refine so9 hK _ _ ?_; clear hK K
   refine lq T (rm9 rfl (T.ev 2 rfl)) ?_; clear T ac; intro ac T
   refine lq T (ra9 rfl (T.ev 1 rfl)) ?_; clear T ac; intro ac T
   refine lq T (ra9 rfl (T.ev 1 rfl)) ?_; clear T ac; intro ac T
   refine wpList_nil ?_
   replace T := T.pick [0, 1] rfl
   replace M := M.mask [true, false] rfl
   refine nt9 ?_
   refine wp_ret ?_
   refine rt_then ?_
   refine rt_2 T rfl (T.ev 1 rfl) (T.ev 0 rfl) ?_
   have hg1 : gP s g = [p] := hgp
   unfold PlyPost
   rw [hg1, can8_one]
   exact ⟨_, _, [lonS (cutA s su) (cutC s su) p b], [(g3, .cells (tc [lonS (cutA s su) (cutC s su) p b]))], rfl, Nat.le_refl _, Nat.le_refl _, fun _ => ⟨.one, rfl⟩, ⟨g3, 0, fun w ex => Sp.cells (xs := tc [lonS (cutA s su) (cutC s su) p b]) rfl⟩, by exact M⟩
  intro H0
  refine gq T 0 1 rfl (fun B w' hD hl hS => (rn_rowO (Mem.nth (show Mem w noEx w' _ from hS) 1 rfl) rfl (T.ev 2 rfl) rfl)) ?_; clear T ac; intro ac T
  refine gq (v := (.pointer (some ⟨g1, 6, none⟩))) T 1 3 rfl (fun _ _ _ _ _ => (rf9 (off := 6) rfl (T.ev 3 rfl) (fun _ _ _ => by kernel_rfl))) ?_; clear T ac; intro ac T
  refine gq T 2 7 rfl (fun B w' hD hl hS => (rn_one (Mem.nth (show Mem w noEx w' _ from hS) 1 rfl) rfl (T.ev 0 rfl) rfl)) ?_; clear T ac; intro ac T
  refine gq T 3 15 rfl (fun _ _ _ _ _ => (rm9 rfl (T.ev 6 rfl))) ?_; clear T ac; intro ac T
  refine gq T 4 31 rfl (fun _ _ _ _ _ => (rn_indexAddr (size := 1) 0 rfl (T.ev 0 rfl) evc ⟨_, Tryd.underlying27, by kernel_rfl⟩ rfl (by omega) (SG.at0 (by omega)))) ?_; clear T ac; intro ac T
  refine gq T 5 63 rfl (fun B w' hD hl hS => (rn_cell (Sp.ic0 SG (show Mem w noEx w' _ from hS) (List.nil_sublist _) hx0) rfl (T.ev 0 rfl))) ?_; clear T ac; intro ac T
  refine gq T 6 127 rfl (fun _ _ _ _ _ => (rn_indexAddr (size := 4) k0 rfl (T.ev 3 rfl) (T.ev 0 rfl) ⟨_, Tryd.underlying24, by kernel_rfl⟩ hk8 (by omega) (SA.at0 (by omega)))) ?_; clear T ac; intro ac T
  refine gq (v := (.agg #[.int .i64 p.l, .int .i64 p.w, .bool p.gr, .int .i64 p.pa])) T 7 255 rfl (fun B w' hD hl hS => (rn_rowat (Sp.pcR SA (show Mem w noEx w' _ from hS) (List.nil_sublist _) hkp) rfl (T.ev 0 rfl) rfl)) ?_; clear T ac; intro ac T
  refine gq T 8 511 rfl (fun B w' hD hl hS => (rn_rowO (Mem.nth (show Mem w noEx w' _ from hS) 0 rfl) rfl (T.ev 9 rfl) rfl)) ?_; clear T ac; intro ac T
  refine gq T 9 1023 rfl (fun _ _ _ _ _ => (rm9 rfl (T.ev 13 rfl))) ?_; clear T ac; intro ac T
  refine g_m2 (i := 10) (j := 14) (by kernel_rfl) ?_ ?_
  ·refine gi 2047 ?_; intro K hK
   refine oc9 (first := []) (cap := []) T rfl rfl rfl rfl evf (.cons (T.ev 9 rfl) (.cons (T.ev 2 rfl) (.cons (T.ev 1 rfl) (.cons (T.ev 0 rfl) .nil)))) Tryd.func97 rfl rfl ?_
   refine Calls.mono (lone8_any s A d p b su _ hsg hpg) ?_
   clear T
   rintro e wc ⟨rfl, hb⟩
   intro ac T
   replace M := M.call hb; clear hb
   refine so9 hK _ _ (M.mask [true, true] rfl) ?_; clear hK K
   refine gq T 11 4095 rfl (fun _ _ _ _ _ => (rm9 rfl (T.ev 0 rfl))) ?_; clear T ac; intro ac T
   refine gq T 12 8191 rfl (fun _ _ _ _ _ => (rn_extract rfl (T.ev 0 rfl) rfl)) ?_; clear T ac; intro ac T
   refine gq T 13 16383 rfl (fun _ _ _ _ _ => (rn_extract rfl (T.ev 1 rfl) rfl)) ?_; clear T ac; intro ac T
   refine gw 14 32767 ?_; intro K hK
   refine ow_al M T rfl rfl rfl rfl ?_; clear M T; intro gr4_14 wc ac M T
   refine so9 hK _ _ (M.mask [false, true, true] rfl) ?_; clear hK K
   exact H0 _ _ ⟨gr4_14, T, M⟩
  refine gi 17407 ?_; intro K hK
  refine ow_al M T rfl rfl rfl rfl ?_; clear M T; intro gr4_14 wc ac M T
  refine so9 hK _ _ (M.mask [false, true, true] rfl) ?_; clear hK K
  refine gw 10 18431 ?_; intro K hK
  refine oc9 (first := []) (cap := []) T rfl rfl rfl rfl evf (.cons (T.ev 10 rfl) (.cons (T.ev 3 rfl) (.cons (T.ev 2 rfl) (.cons (T.ev 1 rfl) .nil)))) Tryd.func97 rfl rfl ?_
  refine Calls.mono (lone8_any s A d p b su _ hsg hpg) ?_
  clear T
  rintro e wc ⟨rfl, hb⟩
  intro ac T
  replace M := M.call hb; clear hb
  refine so9 hK _ _ (M.mask [false, true, true] rfl) ?_; clear hK K
  refine gq T 11 20479 rfl (fun _ _ _ _ _ => (rm9 rfl (T.ev 0 rfl))) ?_; clear T ac; intro ac T
  refine gq T 12 24575 rfl (fun _ _ _ _ _ => (rn_extract rfl (T.ev 0 rfl) rfl)) ?_; clear T ac; intro ac T
  refine gq T 13 32767 rfl (fun _ _ _ _ _ => (rn_extract rfl (T.ev 1 rfl) rfl)) ?_; clear T ac; intro ac T
  exact H0 _ _ ⟨gr4_14, T.pick [4, 0, 1, 2, 3, 5, 6, 7, 8, 9, 10, 11, 12, 13, 14, 15, 16, 17, 18, 19] rfl, M⟩
 intro h2
 refine wp_skip ?_
 refine nt9 ?_
 refine wp_seq ?_
 refine wp_seq ?_
 refine wp_region_lit ?_
 refine lq T (ra9 rfl evc) ?_; clear T ac; intro ac T
 refine wpList_nil ?_
 replace T := T.pick [0, 2, 3, 4, 5] rfl
 refine nt9 ?_
 refine wp_block ?_
 refine wp_loop_n (fun mz ac wc => ∃ (k : Nat), mz = 100 - k ∧ (0 < k) ∧ ((k : Int) ≤ b.lo - 1 + b.wi - 1 + 1) ∧ (no8 (cutA s su) (cutC s su) (gP s g) b k 1) ∧ Tm ac 145 [(1, .slice G g.length n), (3, .bool su), (4, .pointer (some ⟨g1, 0, none⟩)), (6, .pointer (some ⟨g2, 0, none⟩)), (12, .int .i64 (k : Int))] ∧ Mem w noEx wc [(g2, .cells [.int .i64 b.x, .int .i64 b.y, .int .i64 b.lo, .int .i64 b.wi]), (g1, .cells [.int .i64 s.lo, .int .i64 s.wi, .int .i64 s.a0, .int .i64 s.a1, .int .i64 s.c0, .int .i64 s.c1, .slice A s.ps.length d])]) ?_ ?_
 ·exact ⟨_, 1, rfl, (by omega), (by omega), no8_zero, T.pick [3, 4, 2, 1, 0] rfl, M.mask [true, true] rfl⟩
 clear T M
 rintro mz ac wc ⟨k, hmm1, hk0, hk1, H, T, M⟩
 refine wp_seq ?_
 refine wp_seq ?_
 refine wp_region_lit ?_
 refine lq T (rm9 rfl (T.ev 4 rfl)) ?_; clear T ac; intro ac T
 refine lq (v := (.pointer (some ⟨g2, 2, none⟩))) T (rf9 (off := 2) rfl (T.ev 4 rfl) (fun _ _ _ => by kernel_rfl)) ?_; clear T ac; intro ac T
 refine lq T (rn_one (Mem.nth M 0 rfl) rfl (T.ev 0 rfl) rfl) ?_; clear T ac; intro ac T
 refine lq T (rn_sub rfl (T.ev 0 rfl) evc (by omega)) ?_; clear T ac; intro ac T
 refine lq (v := (.pointer (some ⟨g2, 3, none⟩))) T (rf9 (off := 3) rfl (T.ev 7 rfl) (fun _ _ _ => by kernel_rfl)) ?_; clear T ac; intro ac T
 refine lq T (rn_one (Mem.nth M 0 rfl) rfl (T.ev 0 rfl) rfl) ?_; clear T ac; intro ac T
 refine lq T (rn_add rfl (T.ev 2 rfl) (T.ev 0 rfl) (by omega)) ?_; clear T ac; intro ac T
 refine lq T (rn_sub rfl (T.ev 0 rfl) evc (by omega)) ?_; clear T ac; intro ac T
 refine lq T (rn_leq rfl (T.ev 7 rfl) (T.ev 0 rfl)) ?_; clear T ac; intro ac T
 refine wpList_nil ?_
 replace T := T.pick [0, 9, 10, 11, 12, 13] rfl
 refine nt9 ?_
 refine wp_if (T.ev 0 rfl) ?_ ?_
 ·intro h3
  have hpw2 : 4 ≤ 2 ^ g.length := Nat.pow_le_pow_right (n := 2) (by omega) (show 2 ≤ g.length by omega)
  have hok9 := halA_ok hb (k := (k : Int)) (by omega) (by omega)
  refine wp_skip ?_
  refine nt9 ?_
  refine wp_seq ?_
  refine wp_block ?_
  refine wp_seq ?_
  refine wp_region_lit ?_
  refine lq T (rn_rowO (Mem.nth M 0 rfl) rfl (T.ev 4 rfl) rfl) ?_; clear T ac; intro ac T
  refine lq T (rm9 rfl (T.ev 6 rfl)) ?_; clear T ac; intro ac T
  refine l_w rfl ?_; intro K hK
  refine oc9 (first := []) (cap := []) T rfl rfl rfl rfl evf (.cons (T.ev 1 rfl) (.cons (T.ev 0 rfl) .nil)) Tryd.func98 rfl rfl ?_
  refine Calls.mono (halves8_any b (k : Int) _ hb.few (by omega)) ?_
  clear T
  rintro e wc ⟨rfl, hb⟩
  intro ac T
  replace M := M.call hb; clear hb
  refine so9 hK _ _ ?_; clear hK K
  refine lq T (rm9 rfl (T.ev 0 rfl)) ?_; clear T ac; intro ac T
  refine lq T (rn_extract rfl (T.ev 0 rfl) rfl) ?_; clear T ac; intro ac T
  refine lq T (rn_extract rfl (T.ev 1 rfl) rfl) ?_; clear T ac; intro ac T
  refine l_w rfl ?_; intro K hK
  refine ow_al M T rfl rfl rfl rfl ?_; clear M T; intro g4 wc ac M T
  refine so9 hK _ _ ?_; clear hK K
  refine l_w rfl ?_; intro K hK
  refine ow_al M T rfl rfl rfl rfl ?_; clear M T; intro g5 wc ac M T
  refine so9 hK _ _ ?_; clear hK K
  refine l_w rfl ?_; intro K hK
  refine ow_stO M T rfl rfl (T.ev 1 rfl) (T.ev 3 rfl) rfl (.tail .head) rfl (by simp) rfl (by kernel_rfl) ?_; clear M T; intro wc ac M T
  refine so9 hK _ _ ?_; clear hK K
  refine l_w rfl ?_; intro K hK
  refine ow_stO M T rfl rfl (T.ev 0 rfl) (T.ev 2 rfl) rfl .head rfl (by simp) rfl (by kernel_rfl) ?_; clear M T; intro wc ac M T
  refine so9 hK _ _ ?_; clear hK K
  refine wpList_nil ?_
  replace T := T.pick [0, 1, 9, 10, 11, 12, 13] rfl
  refine nt9 ?_
  refine wp_seq ?_
  refine wp_region_lit ?_
  refine lq T (ra9 rfl evc) ?_; clear T ac; intro ac T
  refine wpList_nil ?_
  refine nt9 ?_
  refine wp_block ?_
  refine wp_loop_n (fun mz ac wc => ∃ (z : Nat), mz = 100 - z ∧ (0 < z) ∧ (z ≤ 2 ^ g.length - 1) ∧ (no8 (cutA s su) (cutC s su) (gP s g) b k z) ∧ Tm ac 145 [(1, .slice G g.length n), (3, .bool su), (4, .pointer (some ⟨g1, 0, none⟩)), (6, .pointer (some ⟨g2, 0, none⟩)), (12, .int .i64 (k : Int)), (13, .pointer (some ⟨g4, 0, none⟩)), (14, .pointer (some ⟨g5, 0, none⟩)), (15, .int .i64 (z : Int))] ∧ Mem w noEx wc [(g5, .cells [.int .i64 ((halB b (k : Int)).x), .int .i64 ((halB b (k : Int)).y), .int .i64 ((halB b (k : Int)).lo), .int .i64 ((halB b (k : Int)).wi)]), (g4, .cells [.int .i64 ((halA b (k : Int)).x), .int .i64 ((halA b (k : Int)).y), .int .i64 ((halA b (k : Int)).lo), .int .i64 ((halA b (k : Int)).wi)]), (g2, .cells [.int .i64 b.x, .int .i64 b.y, .int .i64 b.lo, .int .i64 b.wi]), (g1, .cells [.int .i64 s.lo, .int .i64 s.wi, .int .i64 s.a0, .int .i64 s.a1, .int .i64 s.c0, .int .i64 s.c1, .slice A s.ps.length d])]) ?_ ?_
  ·exact ⟨_, 1, rfl, (by omega), (by omega), H, T.pick [3, 4, 5, 6, 7, 2, 1, 0] rfl, M.mask [true, true, true, true] rfl⟩
  clear T M
  rintro mz ac wc ⟨z, hmm2, hz0, hz1, H2, T, M⟩
  refine wp_seq ?_
  refine wp_seq ?_
  refine wp_region_lit ?_
  refine lq T (rm9 rfl (T.ev 7 rfl)) ?_; clear T ac; intro ac T
  refine lq T (rm9 rfl (T.ev 1 rfl)) ?_; clear T ac; intro ac T
  refine lq T (rn_lenS rfl Tryd.underlying27 (T.ev 0 rfl)) ?_; clear T ac; intro ac T
  refine lq T (rn_shl rfl evc (T.ev 0 rfl) (by omega)) ?_; clear T ac; intro ac T
  refine lq T (rn_sub rfl (T.ev 0 rfl) evc (by omega)) ?_; clear T ac; intro ac T
  refine lq T (rn_lss rfl (T.ev 4 rfl) (T.ev 0 rfl)) ?_; clear T ac; intro ac T
  refine wpList_nil ?_
  replace T := T.pick [0, 6, 7, 8, 9, 10, 11, 12, 13] rfl
  refine nt9 ?_
  refine wp_if (T.ev 0 rfl) ?_ ?_
  ·intro h4
   obtain ⟨hc1, hc2, hc3⟩ := cnt8 g.length (by omega) z (by omega) hz0 (by omega)
   refine wp_skip ?_
   refine nt9 ?_
   refine wp_seq ?_
   refine wp_block ?_
   refine wp_seq ?_
   refine wp_region_lit ?_
   refine lq T (ra9 rfl evc) ?_; clear T ac; intro ac T
   refine lq T (ra9 rfl evc) ?_; clear T ac; intro ac T
   refine wpList_nil ?_
   replace T := T.pick [0, 1, 3, 4, 5, 6, 7, 8, 9, 10] rfl
   refine nt9 ?_
   refine wp_seq ?_
   refine wp_seq ?_
   refine wp_region_lit ?_
   refine lq T (ra9 rfl evc) ?_; clear T ac; intro ac T
   refine wpList_nil ?_
   refine nt9 ?_
   refine wp_block ?_
   refine wp_loop_n (fun mz ac wc => ∃ (i : Nat) (AL BL : List Int) (A3 : Option Addr) (c3 : Nat) (A4 : Option Addr) (c4 : Nat) (Ia Ib : List (Nat × BA)), mz = g.length - i ∧ (i ≤ g.length) ∧ (AL = sel (g.take i) z) ∧ (BL = sel (g.take i) (2 ^ g.length - 1 - z)) ∧ (AL.length + BL.length = i) ∧ (Sl 3 1 (.slice A3 AL.length c3) AL.length (ic AL) Ia) ∧ (Sl 3 1 (.slice A4 BL.length c4) BL.length (ic BL) Ib) ∧ Tm ac 145 [(1, .slice G g.length n), (3, .bool su), (4, .pointer (some ⟨g1, 0, none⟩)), (6, .pointer (some ⟨g2, 0, none⟩)), (12, .int .i64 (k : Int)), (13, .pointer (some ⟨g4, 0, none⟩)), (14, .pointer (some ⟨g5, 0, none⟩)), (15, .int .i64 (z : Int)), (16, .slice A3 AL.length c3), (17, .slice A4 BL.length c4), (18, .int .i64 (i : Int))] ∧ Mem w noEx wc ((g5, .cells [.int .i64 ((halB b (k : Int)).x), .int .i64 ((halB b (k : Int)).y), .int .i64 ((halB b (k : Int)).lo), .int .i64 ((halB b (k : Int)).wi)]) :: (g4, .cells [.int .i64 ((halA b (k : Int)).x), .int .i64 ((halA b (k : Int)).y), .int .i64 ((halA b (k : Int)).lo), .int .i64 ((halA b (k : Int)).wi)]) :: (g2, .cells [.int .i64 b.x, .int .i64 b.y, .int .i64 b.lo, .int .i64 b.wi]) :: (g1, .cells [.int .i64 s.lo, .int .i64 s.wi, .int .i64 s.a0, .int .i64 s.a1, .int .i64 s.c0, .int .i64 s.c1, .slice A s.ps.length d]) :: (Ia ++ Ib))) ?_ ?_
   ·exact ⟨_, 0, [], [], none, 0, none, 0, [], [], rfl, (Nat.zero_le _), rfl, rfl, rfl, (Sl.nil _ _), (Sl.nil _ _), T.pick [3, 4, 5, 6, 7, 8, 9, 10, 2, 1, 0] rfl, M.mask [true, true, true, true] rfl⟩
   clear T M
   rintro mz ac wc ⟨i, AL, BL, A3, c3, A4, c4, Ia, Ib, hmm3, hi, hA, hB, hABl, hslA, hslB, T, M⟩
   refine wp_seq ?_
   refine wp_seq ?_
   refine wp_region_lit ?_
   refine lq T (rm9 rfl (T.ev 10 rfl)) ?_; clear T ac; intro ac T
   refine lq T (rm9 rfl (T.ev 1 rfl)) ?_; clear T ac; intro ac T
   refine lq T (rn_lenS rfl Tryd.underlying27 (T.ev 0 rfl)) ?_; clear T ac; intro ac T
   refine lq T (rn_lss rfl (T.ev 2 rfl) (T.ev 0 rfl)) ?_; clear T ac; intro ac T
   refine wpList_nil ?_
   replace T := T.pick [0, 4, 5, 6, 7, 8, 9, 10, 11, 12, 13, 14] rfl
   refine nt9 ?_
   refine wp_if (T.ev 0 rfl) ?_ ?_
   ·intro h5
    obtain ⟨x, hkx, -⟩ := ic_next (l := g) (k := i) (by omega)
    have hb8 := bit8 i (by omega) z (by omega)
    have hcb := comp8 g.length (by omega) i (by omega) z (by omega) (by omega)
    obtain ⟨bt, hbt⟩ : ∃ bt : Nat, bt = z / 2 ^ i % 2 := ⟨_, rfl⟩
    rw [← hbt] at hb8 hcb
    refine wp_skip ?_
    refine nt9 ?_
    refine wp_seq ?_
    refine wp_block ?_
    refine wp_seq ?_
    refine wp_region_lit ?_
    refine lq T (rm9 rfl (T.ev 8 rfl)) ?_; clear T ac; intro ac T
    refine lq T (rm9 rfl (T.ev 12 rfl)) ?_; clear T ac; intro ac T
    refine lq T (rn_shr rfl (T.ev 1 rfl) (T.ev 0 rfl) (by omega)) ?_; clear T ac; intro ac T
    refine lq T (rn_and rfl (T.ev 0 rfl) evc) ?_; clear T ac; intro ac T
    refine lq T (rn_eql rfl (T.ev 0 rfl) evc) ?_; clear T ac; intro ac T
    refine wpList_nil ?_
    replace T := T.pick [0, 6, 7, 8, 9, 10, 11, 12, 13, 14, 15, 16] rfl
    refine nt9 ?_
    refine wp_if (T.ev 0 rfl) ?_ ?_
    ·intro h6
     refine wp_region_lit ?_
     refine lq T (rm9 rfl (T.ev 9 rfl)) ?_; clear T ac; intro ac T
     refine lq T (rm9 rfl (T.ev 2 rfl)) ?_; clear T ac; intro ac T
     refine lq T (rm9 rfl (T.ev 13 rfl)) ?_; clear T ac; intro ac T
     refine lq T (rn_indexAddr (size := 1) i rfl (T.ev 1 rfl) (T.ev 0 rfl) ⟨_, Tryd.underlying27, by kernel_rfl⟩ rfl (by omega) (SG.at0 (by omega))) ?_; clear T ac; intro ac T
     refine lq T (rn_cell (Sp.ic0 SG M (List.nil_sublist _) hkx) rfl (T.ev 0 rfl)) ?_; clear T ac; intro ac T
     refine l_w rfl ?_; intro K hK
     refine ow_bs (e := 3) [.int .i64 x] M T rfl rfl rfl rfl (.cons (T.ev 0 rfl) .nil) (fun _ => by kernel_rfl) ?_; clear M T; intro g6 wc ac M T
     refine so9 hK _ _ ?_; clear hK K
     refine l_w rfl ?_; intro K hK
     replace M := Mem.swapU [(g6, .cells [.int .i64 x]), (g5, .cells [.int .i64 ((halB b (k : Int)).x), .int .i64 ((halB b (k : Int)).y), .int .i64 ((halB b (k : Int)).lo), .int .i64 ((halB b (k : Int)).wi)]), (g4, .cells [.int .i64 ((halA b (k : Int)).x), .int .i64 ((halA b (k : Int)).y), .int .i64 ((halA b (k : Int)).lo), .int .i64 ((halA b (k : Int)).wi)]), (g2, .cells [.int .i64 b.x, .int .i64 b.y, .int .i64 b.lo, .int .i64 b.wi]), (g1, .cells [.int .i64 s.lo, .int .i64 s.wi, .int .i64 s.a0, .int .i64 s.a1, .int .i64 s.c0, .int .i64 s.c1, .slice A s.ps.length d])] Ia Ib M
     refine ow_app (((g6, .cells [.int .i64 x]) :: (g5, .cells [.int .i64 ((halB b (k : Int)).x), .int .i64 ((halB b (k : Int)).y), .int .i64 ((halB b (k : Int)).lo), .int .i64 ((halB b (k : Int)).wi)]) :: (g4, .cells [.int .i64 ((halA b (k : Int)).x), .int .i64 ((halA b (k : Int)).y), .int .i64 ((halA b (k : Int)).lo), .int .i64 ((halA b (k : Int)).wi)]) :: (g2, .cells [.int .i64 b.x, .int .i64 b.y, .int .i64 b.lo, .int .i64 b.wi]) :: (g1, .cells [.int .i64 s.lo, .int .i64 s.wi, .int .i64 s.a0, .int .i64 s.a1, .int .i64 s.c0, .int .i64 s.c1, .slice A s.ps.length d]) :: Ib)) Tryd.info3 hslA M (by first | rfl | simp) T rfl rfl rfl rfl Tryd.underlying27 rfl rfl rfl (by omega) (T.ev 5 rfl) (T.ev 0 rfl) (nthE_mem (i := 0) rfl) rfl rfl ?_; clear M T; intro ga1 cga1 wc ac M T
     refine so9 hK _ _ ?_; clear hK K
     refine l_q (v := (.slice (some ⟨ga1, 0, none⟩) (AL.length + 1) cga1)) (T.pick [0, 1, 2, 3, 4, 5, 6, 7, 8, 9, 10, 11, 12, 13, 14, 15, 17, 18] rfl) rfl rfl rfl rfl (ra9 rfl (T.ev 0 rfl)) ?_; clear T ac; intro ac T
     refine wpList_nil ?_
     replace T := T.pick [0, 9, 10, 11, 12, 13, 14, 15, 16, 17, 18] rfl
     replace M := M.mask [true, false, true, true, true, true] rfl
     refine nm_blk ?_
     refine nt9 ?_
     refine wp_region_lit ?_
     refine lq T (rm9 rfl (T.ev 10 rfl)) ?_; clear T ac; intro ac T
     refine lq T (rn_add rfl (T.ev 0 rfl) evc (by omega)) ?_; clear T ac; intro ac T
     refine l_q (v := (.int .i64 ((i : Int) + 1))) (T.pick [0, 1, 2, 3, 4, 5, 6, 7, 8, 9, 10, 11] rfl) rfl rfl rfl rfl (ra9 rfl (T.ev 0 rfl)) ?_; clear T ac; intro ac T
     refine wpList_nil ?_
     replace T := T.pick [0, 3, 4, 5, 6, 7, 8, 9, 10, 11, 12] rfl
     refine nt9 ?_
     have e9 : AL.length + 1 = (AL ++ [x]).length := by simp
     have e8 : ((ic AL) ++ [.int .i64 x]) = ic (AL ++ [x]) := by rw [← ic_snoc]
     rw [e9, e8] at M
     rw [e9] at T
     clear e9 e8
     exact ⟨_, by omega, i + 1, (AL ++ [x]), BL, _, _, _, _, [(ga1, .row 3 1 (AL ++ [x]).length (ic (AL ++ [x])) cga1)], Ib, rfl, (by omega), (by rw [List.take_add_one, hkx, Option.toList_some, sel_snoc, List.length_take, show min i g.length = i by omega, hA, if_pos (by omega)]), (by rw [List.take_add_one, hkx, Option.toList_some, sel_snoc, List.length_take, show min i g.length = i by omega, hcb, hB, if_neg (by omega), List.append_nil]), (by simp only [List.length_append, List.length_cons, List.length_nil]; omega), (Sl.row _ _ _ _ _ _), hslB, T.pick [2, 3, 4, 5, 6, 7, 8, 9, 1, 10, 0] rfl, (M.permT [1, 2, 3, 4, 0] 5 rfl rfl rfl rfl)⟩
    intro h6
    refine wp_region_lit ?_
    refine lq T (rm9 rfl (T.ev 10 rfl)) ?_; clear T ac; intro ac T
    refine lq T (rm9 rfl (T.ev 2 rfl)) ?_; clear T ac; intro ac T
    refine lq T (rm9 rfl (T.ev 13 rfl)) ?_; clear T ac; intro ac T
    refine lq T (rn_indexAddr (size := 1) i rfl (T.ev 1 rfl) (T.ev 0 rfl) ⟨_, Tryd.underlying27, by kernel_rfl⟩ rfl (by omega) (SG.at0 (by omega))) ?_; clear T ac; intro ac T
    refine lq T (rn_cell (Sp.ic0 SG M (List.nil_sublist _) hkx) rfl (T.ev 0 rfl)) ?_; clear T ac; intro ac T
    refine l_w rfl ?_; intro K hK
    refine ow_bs (e := 3) [.int .i64 x] M T rfl rfl rfl rfl (.cons (T.ev 0 rfl) .nil) (fun _ => by kernel_rfl) ?_; clear M T; intro g7 wc ac M T
    refine so9 hK _ _ ?_; clear hK K
    refine l_w rfl ?_; intro K hK
    refine ow_app (((g7, .cells [.int .i64 x]) :: (g5, .cells [.int .i64 ((halB b (k : Int)).x), .int .i64 ((halB b (k : Int)).y), .int .i64 ((halB b (k : Int)).lo), .int .i64 ((halB b (k : Int)).wi)]) :: (g4, .cells [.int .i64 ((halA b (k : Int)).x), .int .i64 ((halA b (k : Int)).y), .int .i64 ((halA b (k : Int)).lo), .int .i64 ((halA b (k : Int)).wi)]) :: (g2, .cells [.int .i64 b.x, .int .i64 b.y, .int .i64 b.lo, .int .i64 b.wi]) :: (g1, .cells [.int .i64 s.lo, .int .i64 s.wi, .int .i64 s.a0, .int .i64 s.a1, .int .i64 s.c0, .int .i64 s.c1, .slice A s.ps.length d]) :: Ia)) Tryd.info3 hslB M (by first | rfl | simp) T rfl rfl rfl rfl Tryd.underlying27 rfl rfl rfl (by omega) (T.ev 5 rfl) (T.ev 0 rfl) (nthE_mem (i := 0) rfl) rfl rfl ?_; clear M T; intro ga2 cga2 wc ac M T
    refine so9 hK _ _ ?_; clear hK K
    refine l_q (v := (.slice (some ⟨ga2, 0, none⟩) (BL.length + 1) cga2)) (T.pick [0, 1, 2, 3, 4, 5, 6, 7, 8, 9, 10, 11, 12, 13, 14, 15, 16, 18] rfl) rfl rfl rfl rfl (ra9 rfl (T.ev 0 rfl)) ?_; clear T ac; intro ac T
    refine wpList_nil ?_
    replace T := T.pick [0, 9, 10, 11, 12, 13, 14, 15, 16, 17, 18] rfl
    replace M := M.mask [true, false, true, true, true, true] rfl
    refine nm_blk ?_
    refine nt9 ?_
    refine wp_region_lit ?_
    refine lq T (rm9 rfl (T.ev 10 rfl)) ?_; clear T ac; intro ac T
    refine lq T (rn_add rfl (T.ev 0 rfl) evc (by omega)) ?_; clear T ac; intro ac T
    refine l_q (v := (.int .i64 ((i : Int) + 1))) (T.pick [0, 1, 2, 3, 4, 5, 6, 7, 8, 9, 10, 11] rfl) rfl rfl rfl rfl (ra9 rfl (T.ev 0 rfl)) ?_; clear T ac; intro ac T
    refine wpList_nil ?_
    replace T := T.pick [0, 3, 4, 5, 6, 7, 8, 9, 10, 11, 12] rfl
    refine nt9 ?_
    have e9 : BL.length + 1 = (BL ++ [x]).length := by simp
    have e8 : ((ic BL) ++ [.int .i64 x]) = ic (BL ++ [x]) := by rw [← ic_snoc]
    rw [e9, e8] at M
    rw [e9] at T
    clear e9 e8
    exact ⟨_, by omega, i + 1, AL, (BL ++ [x]), _, _, _, _, Ia, [(ga2, .row 3 1 (BL ++ [x]).length (ic (BL ++ [x])) cga2)], rfl, (by omega), (by rw [List.take_add_one, hkx, Option.toList_some, sel_snoc, List.length_take, show min i g.length = i by omega, hA, if_neg (by omega), List.append_nil]), (by rw [List.take_add_one, hkx, Option.toList_some, sel_snoc, List.length_take, show min i g.length = i by omega, hcb, hB, if_pos (by omega)]), (by simp only [List.length_append, List.length_cons, List.length_nil]; omega), hslA, (Sl.row _ _ _ _ _ _), T.pick [2, 3, 4, 5, 6, 7, 8, 9, 10, 1, 0] rfl, (Mem.swapU [(g5, .cells [.int .i64 ((halB b (k : Int)).x), .int .i64 ((halB b (k : Int)).y), .int .i64 ((halB b (k : Int)).lo), .int .i64 ((halB b (k : Int)).wi)]), (g4, .cells [.int .i64 ((halA b (k : Int)).x), .int .i64 ((halA b (k : Int)).y), .int .i64 ((halA b (k : Int)).lo), .int .i64 ((halA b (k : Int)).wi)]), (g2, .cells [.int .i64 b.x, .int .i64 b.y, .int .i64 b.lo, .int .i64 b.wi]), (g1, .cells [.int .i64 s.lo, .int .i64 s.wi, .int .i64 s.a0, .int .i64 s.a1, .int .i64 s.c0, .int .i64 s.c1, .slice A s.ps.length d])] [(ga2, .row 3 1 (BL ++ [x]).length (ic (BL ++ [x])) cga2)] Ia (M.permT [1, 2, 3, 4, 0] 5 rfl rfl rfl rfl))⟩
   intro h5
   rw [List.take_of_length_le (by omega)] at hA hB
   obtain ⟨bza, oza, SVza⟩ := hslA.spV (by rw [ic_length]; omega)
   have SZA := SVza w noEx
   obtain ⟨bzb, ozb, SVzb⟩ := hslB.spV (by rw [ic_length]; omega)
   have SZB := SVzb w noEx
   have hAl : AL.length = cntP g.length z := by rw [hA, sel_cnt]
   have hpr : pair8 (cutA s su) (cutC s su) (gP s g) b k z = (can8 (cutA s su) (cutC s su) (gP s AL) (halA b k) && can8 (cutA s su) (cutC s su) (gP s BL) (halB b k)) := by rw [hA, hB, gP_sel, gP_sel]; unfold pair8; rw [gP_len]
   have hgA : ∀ x ∈ AL, 0 ≤ x ∧ x < (s.ps.length : Int) := fun x hx => hgi x ((sel_sub _ _).subset (hA ▸ hx))
   have hgB : ∀ x ∈ BL, 0 ≤ x ∧ x < (s.ps.length : Int) := fun x hx => hgi x ((sel_sub _ _).subset (hB ▸ hx))
   refine wp_exit ?_
   refine ex_then ?_
   refine ex_then ?_
   refine ex_hit ?_
   refine nt9 ?_
   refine wp_seq ?_
   refine wp_region_lit ?_
   refine lq T (rn_rowO (Mem.nth M 3 rfl) rfl (T.ev 3 rfl) rfl) ?_; clear T ac; intro ac T
   refine lq T (rm9 rfl (T.ev 10 rfl)) ?_; clear T ac; intro ac T
   refine lq T (rn_rowO (Mem.nth M 1 rfl) rfl (T.ev 8 rfl) rfl) ?_; clear T ac; intro ac T
   refine lq T (rm9 rfl (T.ev 5 rfl)) ?_; clear T ac; intro ac T
   refine l_w rfl ?_; intro K hK
   refine oc9 (first := []) (cap := []) T rfl rfl rfl rfl evf (.cons (T.ev 3 rfl) (.cons (T.ev 2 rfl) (.cons (T.ev 1 rfl) (.cons (T.ev 0 rfl) .nil)))) Tryd.func67 rfl rfl ?_
   refine Calls.mono (ih AL A3 c3 (halA b (k : Int)) _ (by omega) (by omega) hgA hok9.1 (SA.rd M (List.nil_sublist _)) (SZA.rd M (.cons _ (.cons _ (.cons _ (.cons _ (subL (List.Sublist.refl _)))))))) ?_
   clear T
   rintro e wc ⟨APu2, nPu2, XLu2, IPu2, rfl, hcpu2, hlpu2, hpyu2, SVPu2, N⟩
   intro ac T
   obtain ⟨bPu2, oPu2, SVPu2⟩ := SVPu2
   have SPu2 := SVPu2 w noEx
   replace M := (M.join N).swapI
   clear N
   replace M : Mem w noEx wc ((g5, .cells [.int .i64 ((halB b (k : Int)).x), .int .i64 ((halB b (k : Int)).y), .int .i64 ((halB b (k : Int)).lo), .int .i64 ((halB b (k : Int)).wi)]) :: (g4, .cells [.int .i64 ((halA b (k : Int)).x), .int .i64 ((halA b (k : Int)).y), .int .i64 ((halA b (k : Int)).lo), .int .i64 ((halA b (k : Int)).wi)]) :: (g2, .cells [.int .i64 b.x, .int .i64 b.y, .int .i64 b.lo, .int .i64 b.wi]) :: (g1, .cells [.int .i64 s.lo, .int .i64 s.wi, .int .i64 s.a0, .int .i64 s.a1, .int .i64 s.c0, .int .i64 s.c1, .slice A s.ps.length d]) :: (Ia ++ Ib ++ IPu2)) := M
   rw [gP_len] at hlpu2 hpyu2
   refine so9 hK _ _ ?_; clear hK K
   refine lq T (rm9 rfl (T.ev 0 rfl)) ?_; clear T ac; intro ac T
   refine lq T (rn_extract rfl (T.ev 0 rfl) rfl) ?_; clear T ac; intro ac T
   refine lq T (rn_extract rfl (T.ev 1 rfl) rfl) ?_; clear T ac; intro ac T
   refine lq T (ra9 rfl (T.ev 1 rfl)) ?_; clear T ac; intro ac T
   refine lq T (ra9 rfl (T.ev 1 rfl)) ?_; clear T ac; intro ac T
   refine wpList_nil ?_
   replace T := T.pick [0, 1, 11, 12, 13, 14, 15, 16, 17, 18, 20] rfl
   refine nt9 ?_
   refine wp_seq ?_
   refine wp_seq ?_
   refine wp_region_lit ?_
   refine lq T (rm9 rfl (T.ev 0 rfl)) ?_; clear T ac; intro ac T
   refine lq T (rn_not rfl (T.ev 0 rfl)) ?_; clear T ac; intro ac T
   refine wpList_nil ?_
   replace T := T.pick [0, 3, 4, 5, 6, 7, 8, 9, 10, 11, 12] rfl
   refine nt9 ?_
   refine wp_cond_split (T.ev 0 rfl) ?_ ?_
   ·intro h7
    (try have h7' := h7; try simp only [Bool.and_eq_true, Bool.or_eq_true, Bool.not_eq_true', Bool.and_eq_false_imp, Bool.or_eq_false_iff, decide_eq_true_eq, decide_eq_false_iff_not] at h7')
    refine wp_exit ?_
    refine ex_then ?_
    refine ex_hit ?_
    refine nt9 ?_
    refine wp_region_lit ?_
    refine lq T (rm9 rfl (T.ev 9 rfl)) ?_; clear T ac; intro ac T
    refine lq T (rn_add rfl (T.ev 0 rfl) evc (by omega)) ?_; clear T ac; intro ac T
    refine l_q (v := (.int .i64 ((z : Int) + 1))) (T.pick [0, 1, 2, 3, 4, 5, 6, 7, 8, 9, 10, 12] rfl) rfl rfl rfl rfl (ra9 rfl (T.ev 0 rfl)) ?_; clear T ac; intro ac T
    refine wpList_nil ?_
    replace T := T.pick [0, 5, 6, 7, 8, 9, 10, 11] rfl
    refine nt9 ?_
    exact ⟨_, by omega, z + 1, rfl, (by omega), (by omega), (no8_succ H2 (by rw [hpr]; simp_all)), T.pick [1, 2, 3, 4, 5, 6, 7, 0] rfl, ((M.permT [0, 1, 2, 3] 4 rfl rfl rfl rfl).sub (List.sublist_append_left ([(g5, .cells [.int .i64 ((halB b (k : Int)).x), .int .i64 ((halB b (k : Int)).y), .int .i64 ((halB b (k : Int)).lo), .int .i64 ((halB b (k : Int)).wi)]), (g4, .cells [.int .i64 ((halA b (k : Int)).x), .int .i64 ((halA b (k : Int)).y), .int .i64 ((halA b (k : Int)).lo), .int .i64 ((halA b (k : Int)).wi)]), (g2, .cells [.int .i64 b.x, .int .i64 b.y, .int .i64 b.lo, .int .i64 b.wi]), (g1, .cells [.int .i64 s.lo, .int .i64 s.wi, .int .i64 s.a0, .int .i64 s.a1, .int .i64 s.c0, .int .i64 s.c1, .slice A s.ps.length d])] : List (Nat × BA)) _))⟩
   intro h7
   (try have h7' := h7; try simp only [Bool.and_eq_true, Bool.or_eq_true, Bool.not_eq_true', Bool.and_eq_false_imp, Bool.or_eq_false_iff, decide_eq_true_eq, decide_eq_false_iff_not] at h7')
   refine wp_skip ?_
   refine nt9 ?_
   refine wp_seq ?_
   refine wp_region_lit ?_
   refine lq T (rn_rowO (Mem.nth M 3 rfl) rfl (T.ev 4 rfl) rfl) ?_; clear T ac; intro ac T
   refine lq T (rm9 rfl (T.ev 11 rfl)) ?_; clear T ac; intro ac T
   refine lq T (rn_rowO (Mem.nth M 0 rfl) rfl (T.ev 10 rfl) rfl) ?_; clear T ac; intro ac T
   refine lq T (rm9 rfl (T.ev 6 rfl)) ?_; clear T ac; intro ac T
   refine l_w rfl ?_; intro K hK
   refine oc9 (first := []) (cap := []) T rfl rfl rfl rfl evf (.cons (T.ev 3 rfl) (.cons (T.ev 2 rfl) (.cons (T.ev 1 rfl) (.cons (T.ev 0 rfl) .nil)))) Tryd.func67 rfl rfl ?_
   refine Calls.mono (ih BL A4 c4 (halB b (k : Int)) _ (by omega) (by omega) hgB hok9.2 (SA.rd M (List.nil_sublist _)) (SZB.rd M (.cons _ (.cons _ (.cons _ (.cons _ (subL (List.sublist_append_right _ _)))))))) ?_
   clear T
   rintro e wc ⟨APu3, nPu3, XLu3, IPu3, rfl, hcpu3, hlpu3, hpyu3, SVPu3, N⟩
   intro ac T
   obtain ⟨bPu3, oPu3, SVPu3⟩ := SVPu3
   have SPu3 := SVPu3 w noEx
   replace M := (M.join N).swapI
   clear N
   replace M : Mem w noEx wc ((g5, .cells [.int .i64 ((halB b (k : Int)).x), .int .i64 ((halB b (k : Int)).y), .int .i64 ((halB b (k : Int)).lo), .int .i64 ((halB b (k : Int)).wi)]) :: (g4, .cells [.int .i64 ((halA b (k : Int)).x), .int .i64 ((halA b (k : Int)).y), .int .i64 ((halA b (k : Int)).lo), .int .i64 ((halA b (k : Int)).wi)]) :: (g2, .cells [.int .i64 b.x, .int .i64 b.y, .int .i64 b.lo, .int .i64 b.wi]) :: (g1, .cells [.int .i64 s.lo, .int .i64 s.wi, .int .i64 s.a0, .int .i64 s.a1, .int .i64 s.c0, .int .i64 s.c1, .slice A s.ps.length d]) :: (Ia ++ Ib ++ IPu2 ++ IPu3)) := M
   rw [gP_len] at hlpu3 hpyu3
   refine so9 hK _ _ ?_; clear hK K
   refine lq T (rm9 rfl (T.ev 0 rfl)) ?_; clear T ac; intro ac T
   refine lq T (rn_extract rfl (T.ev 0 rfl) rfl) ?_; clear T ac; intro ac T
   refine lq T (rn_extract rfl (T.ev 1 rfl) rfl) ?_; clear T ac; intro ac T
   refine lq T (ra9 rfl (T.ev 1 rfl)) ?_; clear T ac; intro ac T
   refine lq T (ra9 rfl (T.ev 1 rfl)) ?_; clear T ac; intro ac T
   refine wpList_nil ?_
   replace T := T.pick [0, 1, 11, 12, 13, 14, 15, 16, 17, 18, 19] rfl
   refine nt9 ?_
   refine wp_seq ?_
   refine wp_seq ?_
   refine wp_region_lit ?_
   refine lq T (rm9 rfl (T.ev 0 rfl)) ?_; clear T ac; intro ac T
   refine lq T (rn_not rfl (T.ev 0 rfl)) ?_; clear T ac; intro ac T
   refine wpList_nil ?_
   replace T := T.pick [0, 3, 4, 5, 6, 7, 8, 9, 10, 11, 12] rfl
   refine nt9 ?_
   refine wp_cond_split (T.ev 0 rfl) ?_ ?_
   ·intro h8
    (try have h8' := h8; try simp only [Bool.and_eq_true, Bool.or_eq_true, Bool.not_eq_true', Bool.and_eq_false_imp, Bool.or_eq_false_iff, decide_eq_true_eq, decide_eq_false_iff_not] at h8')
    refine wp_exit ?_
    refine ex_then ?_
    refine ex_hit ?_
    refine nt9 ?_
    refine wp_region_lit ?_
    refine lq T (rm9 rfl (T.ev 10 rfl)) ?_; clear T ac; intro ac T
    refine lq T (rn_add rfl (T.ev 0 rfl) evc (by omega)) ?_; clear T ac; intro ac T
    refine l_q (v := (.int .i64 ((z : Int) + 1))) (T.pick [0, 1, 2, 3, 4, 5, 6, 7, 8, 9, 10, 11] rfl) rfl rfl rfl rfl (ra9 rfl (T.ev 0 rfl)) ?_; clear T ac; intro ac T
    refine wpList_nil ?_
    replace T := T.pick [0, 6, 7, 8, 9, 10, 11, 12] rfl
    refine nt9 ?_
    exact ⟨_, by omega, z + 1, rfl, (by omega), (by omega), (no8_succ H2 (by rw [hpr]; simp_all)), T.pick [1, 2, 3, 4, 5, 6, 7, 0] rfl, ((M.permT [0, 1, 2, 3] 4 rfl rfl rfl rfl).sub (List.sublist_append_left ([(g5, .cells [.int .i64 ((halB b (k : Int)).x), .int .i64 ((halB b (k : Int)).y), .int .i64 ((halB b (k : Int)).lo), .int .i64 ((halB b (k : Int)).wi)]), (g4, .cells [.int .i64 ((halA b (k : Int)).x), .int .i64 ((halA b (k : Int)).y), .int .i64 ((halA b (k : Int)).lo), .int .i64 ((halA b (k : Int)).wi)]), (g2, .cells [.int .i64 b.x, .int .i64 b.y, .int .i64 b.lo, .int .i64 b.wi]), (g1, .cells [.int .i64 s.lo, .int .i64 s.wi, .int .i64 s.a0, .int .i64 s.a1, .int .i64 s.c0, .int .i64 s.c1, .slice A s.ps.length d])] : List (Nat × BA)) _))⟩
   intro h8
   (try have h8' := h8; try simp only [Bool.and_eq_true, Bool.or_eq_true, Bool.not_eq_true', Bool.and_eq_false_imp, Bool.or_eq_false_iff, decide_eq_true_eq, decide_eq_false_iff_not] at h8')
   refine wp_skip ?_
   refine nt9 ?_
   refine wp_seq ?_
   refine wp_region_lit ?_
   refine lq T (ra9 rfl evc) ?_; clear T ac; intro ac T
   refine wpList_nil ?_
   replace T := T.pick [0, 2, 3, 4, 11] rfl
   replace M := M.mask [false, false, false, false] rfl
   replace M : Mem w noEx wc ((Ia ++ Ib ++ IPu2 ++ IPu3)) := M
   refine nt9 ?_
   refine wp_seq ?_
   refine wp_seq ?_
   refine wp_region_lit ?_
   refine lq T (ra9 rfl evc) ?_; clear T ac; intro ac T
   refine wpList_nil ?_
   refine nt9 ?_
   refine wp_block ?_
   obtain ⟨hpA, hpB⟩ : can8 (cutA s su) (cutC s su) (gP s AL) (halA b k) = true ∧ can8 (cutA s su) (cutC s su) (gP s BL) (halB b k) = true := by simp_all
   obtain ⟨hplyu2, hlxu2⟩ := hpyu2 hpA
   obtain ⟨hplyu3, hlxu3⟩ := hpyu3 hpB
   refine wp_loop_n (fun mz ac wc => ∃ (r : Nat) (OL : List Spt) (A5 : Option Addr) (c5 : Nat) (AX : Option Addr) (XR : List Spt) (nX bX oX : Nat) (AY : Option Addr) (YR : List Spt) (nY bY oY : Nat) (Io : List (Nat × BA)), mz = g.length - r ∧ (r ≤ g.length) ∧ (OL.length = r) ∧ (OL ++ mrg (g.length - r) (z / 2 ^ r) XR YR = mrg g.length z XLu2 XLu3) ∧ (XR.length = cntP (g.length - r) (z / 2 ^ r)) ∧ (XR.length + YR.length = g.length - r) ∧ (XR.length ≤ nX) ∧ (YR.length ≤ nY) ∧ (Sp w noEx IPu2 AX XR.length 3 bX oX (tc XR)) ∧ (Sp w noEx IPu3 AY YR.length 3 bY oY (tc YR)) ∧ (Sl 30 3 (.slice A5 OL.length c5) OL.length (tc OL) Io) ∧ Tm ac 145 [(1, .slice G g.length n), (15, .int .i64 (z : Int)), (19, .slice AX XR.length nX), (21, .slice AY YR.length nY), (22, .slice A5 OL.length c5), (23, .int .i64 (r : Int))] ∧ Mem w noEx wc ((Ia ++ Ib ++ IPu2 ++ IPu3 ++ Io))) ?_ ?_
   ·exact ⟨_, 0, [], none, 0, APu2, XLu2, nPu2, bPu2, oPu2, APu3, XLu3, nPu3, bPu3, oPu3, [], rfl, (Nat.zero_le _), rfl, (by rw [Nat.sub_zero, Nat.pow_zero, Nat.div_one]; rfl), (by rw [Nat.sub_zero, Nat.pow_zero, Nat.div_one]; omega), (by omega), (by omega), (by omega), SPu2, SPu3, (Sl.nil _ _), T.pick [4, 5, 3, 2, 1, 0] rfl, (by simp only [List.append_nil]; exact M)⟩
   clear T M
   rintro mz ac wc ⟨r, OL, A5, c5, AX, XR, nX, bX, oX, AY, YR, nY, bY, oY, Io, hmm4, hi, hOi, hO, hXl, hYl, hcX, hcY, SXR, SYR, hsl, T, M⟩
   refine wp_seq ?_
   refine wp_seq ?_
   refine wp_region_lit ?_
   refine lq T (rm9 rfl (T.ev 5 rfl)) ?_; clear T ac; intro ac T
   refine lq T (rm9 rfl (T.ev 1 rfl)) ?_; clear T ac; intro ac T
   refine lq T (rn_lenS rfl Tryd.underlying27 (T.ev 0 rfl)) ?_; clear T ac; intro ac T
   refine lq T (rn_lss rfl (T.ev 2 rfl) (T.ev 0 rfl)) ?_; clear T ac; intro ac T
   refine wpList_nil ?_
   replace T := T.pick [0, 4, 5, 6, 7, 8, 9] rfl
   refine nt9 ?_
   refine wp_if (T.ev 0 rfl) ?_ ?_
   ·intro h9
    have hcs := cnt_step (m := g.length) (i := r) (z := z) (by omega)
    have hcl := cntP_le (g.length - (r + 1)) (z / 2 ^ (r + 1))
    have hb8 := bit8 r (by omega) z (by omega)
    obtain ⟨bt, hbt⟩ : ∃ bt : Nat, bt = z / 2 ^ r % 2 := ⟨_, rfl⟩
    rw [← hbt] at hb8 hcs
    refine wp_skip ?_
    refine nt9 ?_
    refine wp_seq ?_
    refine wp_block ?_
    refine wp_seq ?_
    refine wp_region_lit ?_
    refine lq T (rm9 rfl (T.ev 2 rfl)) ?_; clear T ac; intro ac T
    refine lq T (rm9 rfl (T.ev 7 rfl)) ?_; clear T ac; intro ac T
    refine lq T (rn_shr rfl (T.ev 1 rfl) (T.ev 0 rfl) (by omega)) ?_; clear T ac; intro ac T
    refine lq T (rn_and rfl (T.ev 0 rfl) evc) ?_; clear T ac; intro ac T
    refine lq T (rn_eql rfl (T.ev 0 rfl) evc) ?_; clear T ac; intro ac T
    refine wpList_nil ?_
    replace T := T.pick [0, 6, 7, 8, 9, 10, 11] rfl
    refine nt9 ?_
    refine wp_if (T.ev 0 rfl) ?_ ?_
    ·intro h10
     obtain ⟨q1, hq1⟩ : ∃ q, XR[0]? = some q := ⟨_, List.getElem?_eq_getElem (show 0 < XR.length by omega)⟩
     refine g_start2 M (M.sub (List.sublist_append_left _ _)) 10 (by kernel_rfl) rfl (by kernel_rfl) ?_
     clear M; intro wc M
     refine gq T 0 1 rfl (fun _ _ _ _ _ => (rm9 rfl (T.ev 5 rfl))) ?_; clear T ac; intro ac T
     refine gq T 1 3 rfl (fun _ _ _ _ _ => (rm9 rfl (T.ev 4 rfl))) ?_; clear T ac; intro ac T
     refine gq T 2 7 rfl (fun _ _ _ _ _ => (rn_indexAddr (size := 3) 0 rfl (T.ev 0 rfl) evc ⟨_, Tryd.underlying28, by kernel_rfl⟩ rfl (by omega) (SXR.at0 (by omega)))) ?_; clear T ac; intro ac T
     refine gq (v := (.agg #[.int .i64 q1.x, .int .i64 q1.y, .bool q1.t])) T 3 15 rfl (fun B w' hD hl hS => (rn_rowat (Sp.tcR SXR (show Mem w noEx w' _ from hS) (subL (List.sublist_append_right _ _)) hq1) rfl (T.ev 0 rfl) rfl)) ?_; clear T ac; intro ac T
     refine gq T 6 79 rfl (fun _ _ _ _ _ => (rm9 rfl (T.ev 7 rfl))) ?_; clear T ac; intro ac T
     refine gq T 7 207 rfl (fun _ _ _ _ _ => (rn_slice (size := 3) (l := 1) (h := XR.length) rfl Tryd.underlying28 (by kernel_rfl) (T.ev 0 rfl) evc rfl (by omega) (by omega))) ?_; clear T ac; intro ac T
     obtain ⟨Aq1, hAq1⟩ : ∃ q : Option Addr, q = (if nX = 1 then AX else Option.map (fun x : Addr => x.add (1 * 3)) AX) := ⟨_, rfl⟩
     rw [← hAq1] at T
     obtain ⟨lq1, hlq1⟩ : ∃ q, q = (XR.drop 1).take (XR.length - 1) := ⟨_, rfl⟩
     have nlq1 : lq1.length = XR.length - 1 := by rw [hlq1, List.length_take, List.length_drop]; (try simp only [List.length_cons, List.length_append, List.length_nil]); omega
     rw [← nlq1] at T
     have SAq1 : Sp w noEx IPu2 Aq1 lq1.length 3 bX (oX + 1 * 3) (tc lq1) := by rw [nlq1, hAq1, hlq1, ← tc_part]; exact SXR.sub (by omega) (by omega) (by omega)
     refine gw 4 223 ?_; intro K hK
     refine ow_bs (e := 30) [.int .i64 q1.x, .int .i64 q1.y, .bool q1.t] M T rfl rfl rfl rfl (.cons (T.ev 2 rfl) .nil) (fun _ => by kernel_rfl) ?_; clear M T; intro g8 wc ac M T
     refine so9 hK _ _ ((M.mask [false] rfl).sub (List.sublist_append_left _ _)) ?_; clear hK K
     refine gw 5 255 ?_; intro K hK
     refine ow_app (((g8, .cells [.int .i64 q1.x, .int .i64 q1.y, .bool q1.t]) :: (Ia ++ Ib ++ IPu2 ++ IPu3))) Tryd.info30 hsl M (by first | rfl | simp) T rfl rfl rfl rfl Tryd.underlying28 rfl rfl rfl (by omega) (T.ev 6 rfl) (T.ev 0 rfl) (nthE_mem (i := 0) rfl) rfl rfl ?_; clear M T; intro ga3 cga3 wc ac M T
     refine so9 hK _ _ (M.mask [false, false] rfl) ?_; clear hK K
     refine g_q (v := (.slice (some ⟨ga3, 0, none⟩) (OL.length + 1) cga3)) (T := T.pick [0, 1, 2, 3, 4, 5, 6, 7, 8, 9, 10, 11, 12, 14] rfl) (i := 8) rfl (by kernel_rfl) (by kernel_rfl : (pbits 10 255).setIfInBounds 8 true = pbits 10 511) si_U (fun _ _ _ h => h) rfl rfl rfl rfl (fun _ _ _ _ _ => (ra9 rfl (T.ev 0 rfl))) ?_; clear T ac; intro ac T
     refine g_q (v := (.slice Aq1 lq1.length (nX - 1))) (T := T.pick [0, 1, 2, 3, 4, 5, 6, 7, 8, 9, 10, 11, 13, 14] rfl) (i := 9) rfl (by kernel_rfl) (by kernel_rfl : (pbits 10 511).setIfInBounds 9 true = pbits 10 1023) si_U (fun _ _ _ h => h) rfl rfl rfl rfl (fun _ _ _ _ _ => (ra9 rfl (T.ev 3 rfl))) ?_; clear T ac; intro ac T
     refine g_done (by kernel_rfl) ?_
     replace T := T.pick [0, 1, 11, 12, 13, 14] rfl
     replace M := M.mask [true, false] rfl
     replace M : Mem w noEx wc ((ga3, .row 30 3 (OL.length + 1) ((tc OL) ++ [.int .i64 q1.x, .int .i64 q1.y, .bool q1.t]) cga3) :: (Ia ++ Ib ++ IPu2 ++ IPu3)) := M
     refine nm_blk ?_
     refine nt9 ?_
     refine wp_region_lit ?_
     refine lq T (rm9 rfl (T.ev 5 rfl)) ?_; clear T ac; intro ac T
     refine lq T (rn_add rfl (T.ev 0 rfl) evc (by omega)) ?_; clear T ac; intro ac T
     refine l_q (v := (.int .i64 ((r : Int) + 1))) (T.pick [0, 1, 2, 3, 4, 5, 6] rfl) rfl rfl rfl rfl (ra9 rfl (T.ev 0 rfl)) ?_; clear T ac; intro ac T
     refine wpList_nil ?_
     replace T := T.pick [0, 3, 4, 5, 6, 7] rfl
     refine nt9 ?_
     have e9 : OL.length + 1 = (OL ++ [q1]).length := by simp
     have e8 : ((tc OL) ++ [.int .i64 q1.x, .int .i64 q1.y, .bool q1.t]) = tc (OL ++ [q1]) := by rw [← tc_snoc]
     rw [e9, e8] at M
     rw [e9] at T
     clear e9 e8
     have e7 : lq1 = XR.drop 1 := by rw [hlq1]; exact List.take_of_length_le (by simp)
     exact ⟨_, by omega, r + 1, (OL ++ [q1]), _, _, _, lq1, (nX - 1), _, _, _, YR, nY, _, _, [(ga3, .row 30 3 (OL ++ [q1]).length (tc (OL ++ [q1])) cga3)], rfl, (by omega), (by simp only [List.length_append, List.length_cons, List.length_nil]; omega), (by rw [e7, ← hO, mrg_stepX (by omega) (by omega) hq1, List.append_assoc]; rfl), (by omega), (by omega), (by omega), (by omega), SAq1, SYR, (Sl.row _ _ _ _ _ _), T.pick [3, 4, 1, 5, 2, 0] rfl, (Mem.swapI (I := [(ga3, .row 30 3 (OL ++ [q1]).length (tc (OL ++ [q1])) cga3)]) (L := ((Ia ++ Ib ++ IPu2 ++ IPu3))) (M.permT [0] 1 rfl rfl rfl rfl))⟩
    intro h10
    obtain ⟨q2, hq2⟩ : ∃ q, YR[0]? = some q := ⟨_, List.getElem?_eq_getElem (show 0 < YR.length by omega)⟩
    refine g_start2 M (M.sub (List.sublist_append_left _ _)) 10 (by kernel_rfl) rfl (by kernel_rfl) ?_
    clear M; intro wc M
    refine gq T 0 1 rfl (fun _ _ _ _ _ => (rm9 rfl (T.ev 5 rfl))) ?_; clear T ac; intro ac T
    refine gq T 1 3 rfl (fun _ _ _ _ _ => (rm9 rfl (T.ev 5 rfl))) ?_; clear T ac; intro ac T
    refine gq T 2 7 rfl (fun _ _ _ _ _ => (rn_indexAddr (size := 3) 0 rfl (T.ev 0 rfl) evc ⟨_, Tryd.underlying28, by kernel_rfl⟩ rfl (by omega) (SYR.at0 (by omega)))) ?_; clear T ac; intro ac T
    refine gq (v := (.agg #[.int .i64 q2.x, .int .i64 q2.y, .bool q2.t])) T 3 15 rfl (fun B w' hD hl hS => (rn_rowat (Sp.tcR SYR (show Mem w noEx w' _ from hS) (List.sublist_append_right _ _) hq2) rfl (T.ev 0 rfl) rfl)) ?_; clear T ac; intro ac T
    refine gq T 6 79 rfl (fun _ _ _ _ _ => (rm9 rfl (T.ev 8 rfl))) ?_; clear T ac; intro ac T
    refine gq T 7 207 rfl (fun _ _ _ _ _ => (rn_slice (size := 3) (l := 1) (h := YR.length) rfl Tryd.underlying28 (by kernel_rfl) (T.ev 0 rfl) evc rfl (by omega) (by omega))) ?_; clear T ac; intro ac T
    obtain ⟨Aq2, hAq2⟩ : ∃ q : Option Addr, q = (if nY = 1 then AY else Option.map (fun x : Addr => x.add (1 * 3)) AY) := ⟨_, rfl⟩
    rw [← hAq2] at T
    obtain ⟨lq2, hlq2⟩ : ∃ q, q = (YR.drop 1).take (YR.length - 1) := ⟨_, rfl⟩
    have nlq2 : lq2.length = YR.length - 1 := by rw [hlq2, List.length_take, List.length_drop]; (try simp only [List.length_cons, List.length_append, List.length_nil]); omega
    rw [← nlq2] at T
    have SAq2 : Sp w noEx IPu3 Aq2 lq2.length 3 bY (oY + 1 * 3) (tc lq2) := by rw [nlq2, hAq2, hlq2, ← tc_part]; exact SYR.sub (by omega) (by omega) (by omega)
    refine gw 4 223 ?_; intro K hK
    refine ow_bs (e := 30) [.int .i64 q2.x, .int .i64 q2.y, .bool q2.t] M T rfl rfl rfl rfl (.cons (T.ev 2 rfl) .nil) (fun _ => by kernel_rfl) ?_; clear M T; intro g9 wc ac M T
    refine so9 hK _ _ ((M.mask [false] rfl).sub (List.sublist_append_left _ _)) ?_; clear hK K
    refine gw 5 255 ?_; intro K hK
    refine ow_app (((g9, .cells [.int .i64 q2.x, .int .i64 q2.y, .bool q2.t]) :: (Ia ++ Ib ++ IPu2 ++ IPu3))) Tryd.info30 hsl M (by first | rfl | simp) T rfl rfl rfl rfl Tryd.underlying28 rfl rfl rfl (by omega) (T.ev 6 rfl) (T.ev 0 rfl) (nthE_mem (i := 0) rfl) rfl rfl ?_; clear M T; intro ga4 cga4 wc ac M T
    refine so9 hK _ _ (M.mask [false, false] rfl) ?_; clear hK K
    refine g_q (v := (.slice (some ⟨ga4, 0, none⟩) (OL.length + 1) cga4)) (T := T.pick [0, 1, 2, 3, 4, 5, 6, 7, 8, 9, 10, 11, 12, 14] rfl) (i := 8) rfl (by kernel_rfl) (by kernel_rfl : (pbits 10 255).setIfInBounds 8 true = pbits 10 511) si_U (fun _ _ _ h => h) rfl rfl rfl rfl (fun _ _ _ _ _ => (ra9 rfl (T.ev 0 rfl))) ?_; clear T ac; intro ac T
    refine g_q (v := (.slice Aq2 lq2.length (nY - 1))) (T := T.pick [0, 1, 2, 3, 4, 5, 6, 7, 8, 9, 10, 11, 12, 14] rfl) (i := 9) rfl (by kernel_rfl) (by kernel_rfl : (pbits 10 511).setIfInBounds 9 true = pbits 10 1023) si_U (fun _ _ _ h => h) rfl rfl rfl rfl (fun _ _ _ _ _ => (ra9 rfl (T.ev 3 rfl))) ?_; clear T ac; intro ac T
    refine g_done (by kernel_rfl) ?_
    replace T := T.pick [0, 1, 11, 12, 13, 14] rfl
    replace M := M.mask [true, false] rfl
    replace M : Mem w noEx wc ((ga4, .row 30 3 (OL.length + 1) ((tc OL) ++ [.int .i64 q2.x, .int .i64 q2.y, .bool q2.t]) cga4) :: (Ia ++ Ib ++ IPu2 ++ IPu3)) := M
    refine nm_blk ?_
    refine nt9 ?_
    refine wp_region_lit ?_
    refine lq T (rm9 rfl (T.ev 5 rfl)) ?_; clear T ac; intro ac T
    refine lq T (rn_add rfl (T.ev 0 rfl) evc (by omega)) ?_; clear T ac; intro ac T
    refine l_q (v := (.int .i64 ((r : Int) + 1))) (T.pick [0, 1, 2, 3, 4, 5, 6] rfl) rfl rfl rfl rfl (ra9 rfl (T.ev 0 rfl)) ?_; clear T ac; intro ac T
    refine wpList_nil ?_
    replace T := T.pick [0, 3, 4, 5, 6, 7] rfl
    refine nt9 ?_
    have e9 : OL.length + 1 = (OL ++ [q2]).length := by simp
    have e8 : ((tc OL) ++ [.int .i64 q2.x, .int .i64 q2.y, .bool q2.t]) = tc (OL ++ [q2]) := by rw [← tc_snoc]
    rw [e9, e8] at M
    rw [e9] at T
    clear e9 e8
    have e7 : lq2 = YR.drop 1 := by rw [hlq2]; exact List.take_of_length_le (by simp)
    exact ⟨_, by omega, r + 1, (OL ++ [q2]), _, _, _, XR, nX, _, _, _, lq2, (nY - 1), _, _, [(ga4, .row 30 3 (OL ++ [q2]).length (tc (OL ++ [q2])) cga4)], rfl, (by omega), (by simp only [List.length_append, List.length_cons, List.length_nil]; omega), (by rw [e7, ← hO, mrg_stepY (by omega) (by omega) hq2, List.append_assoc]; rfl), (by omega), (by omega), (by omega), (by omega), SXR, SAq2, (Sl.row _ _ _ _ _ _), T.pick [3, 4, 5, 1, 2, 0] rfl, (Mem.swapI (I := [(ga4, .row 30 3 (OL ++ [q2]).length (tc (OL ++ [q2])) cga4)]) (L := ((Ia ++ Ib ++ IPu2 ++ IPu3))) (M.permT [0] 1 rfl rfl rfl rfl))⟩
   intro h9
   have hOf : OL = mrg g.length z XLu2 XLu3 := by rw [← hO, show g.length - r = 0 by omega]; exact (List.append_nil _).symm
   refine wp_exit ?_
   refine ex_then ?_
   refine ex_then ?_
   refine ex_hit ?_
   refine nt9 ?_
   refine wp_seq ?_
   refine wp_region_lit ?_
   refine lq T (rm9 rfl (T.ev 5 rfl)) ?_; clear T ac; intro ac T
   refine lq T (ra9 rfl (T.ev 0 rfl)) ?_; clear T ac; intro ac T
   refine lq T (ra9 rfl evc) ?_; clear T ac; intro ac T
   refine wpList_nil ?_
   replace T := T.pick [0, 1] rfl
   refine nt9 ?_
   refine wp_ret ?_
   refine rt_blk ?_
   refine rt_then ?_
   refine rt_then ?_
   refine rt_blk ?_
   refine rt_blk ?_
   refine rt_then ?_
   refine rt_then ?_
   refine rt_blk ?_
   refine rt_then ?_
   refine rt_2 T rfl (T.ev 1 rfl) (T.ev 0 rfl) ?_
   have hcan := can8_of (s := s) hgl5 (by omega) ⟨hb1, hb2, hb3, hb4⟩ hk0 (by omega) hz0 (by omega) (by rw [hpr, hpA, hpB]; rfl)
   obtain ⟨b9, o9, h9⟩ := hsl.spV (tc_length _)
   have hcap := hsl.capLe M (List.sublist_append_right _ _)
   unfold PlyPost
   rw [hcan]
   refine ⟨A5, c5, OL, Io, rfl, hcap, by rw [gP_len]; omega, fun _ => ⟨?_, by rw [gP_len]; omega⟩, ⟨b9, o9, h9⟩, M.sub (List.sublist_append_right _ _)⟩
   rw [hOf]
   exact ply_cut (by omega) hk0 (by omega) hz0 (by omega) (by rw [hpr, hpA, hpB]; rfl) H2 (by rw [← hA]; exact hplyu2) (by rw [← hB]; exact hplyu3)
  intro h4
  refine wp_exit ?_
  refine ex_then ?_
  refine ex_then ?_
  refine ex_hit ?_
  refine nm_blk ?_
  refine nt9 ?_
  refine wp_region_lit ?_
  refine lq T (rm9 rfl (T.ev 5 rfl)) ?_; clear T ac; intro ac T
  refine lq T (rn_add rfl (T.ev 0 rfl) evc (by omega)) ?_; clear T ac; intro ac T
  refine l_q (v := (.int .i64 ((k : Int) + 1))) (T.pick [0, 1, 2, 3, 4, 5, 6, 8, 9, 10] rfl) rfl rfl rfl rfl (ra9 rfl (T.ev 0 rfl)) ?_; clear T ac; intro ac T
  refine wpList_nil ?_
  replace T := T.pick [0, 4, 5, 6, 7] rfl
  replace M := M.mask [false, false, true, true] rfl
  refine nt9 ?_
  exact ⟨_, by omega, k + 1, rfl, (by omega), (by omega), (no8_next H2 (by rw [gP_len]; omega)), T.pick [1, 2, 3, 4, 0] rfl, M⟩
 intro h3
 have hno := can8_not (by rw [gP_len]; exact hgl5) (by rw [gP_len]; omega) (by omega) (by omega) (by omega) H
 refine wp_exit ?_
 refine ex_then ?_
 refine ex_then ?_
 refine ex_hit ?_
 refine nt9 ?_
 refine wp_seq ?_
 refine wp_region_lit ?_
 refine lq T (ra9 rfl evc) ?_; clear T ac; intro ac T
 refine lq T (ra9 rfl evc) ?_; clear T ac; intro ac T
 refine wpList_nil ?_
 replace T := T.pick [0, 1] rfl
 replace M := M.mask [false, false] rfl
 refine nt9 ?_
 refine wp_ret ?_
 refine rt_2 T rfl (T.ev 1 rfl) (T.ev 0 rfl) ?_
 unfold PlyPost
 rw [hno]
 exact ⟨none, 0, [], [], rfl, Nat.le_refl _, Nat.zero_le _, fun h9 => (by cases h9), ⟨0, 0, fun _ _ => Sp.nil⟩, M.sub (List.nil_sublist _)⟩
theorem ply_any (s : Sk) (A : Option Addr) (d : Nat) (su : Bool) (hsg : s.good) : ∀ m : Nat, PlySpec s A d su m
 | 0 => fun g G n b w h => by omega
 | m + 1 => fun g G n b w h hgl5 hgi hb hA hG => ply_step s A d su m g G n b w hsg (ply_any s A d su hsg m) h hgl5 hgi hb hA hG
end Go.Proofs.YtehpcclfgjccbaaDoor
end

section
/-
 ref8: Plan, Fits.
-/
namespace Go.Proofs.YtehpcclfgjccbaaDoor
set_option linter.unusedSimpArgs false
set_option linter.unusedVariables false
open Go.RowKit
theorem can8_S {s : Sk} {su : Bool} {L : List Pt} : can8 (cutA s su) (cutC s su) L ⟨0, 0, s.lo, s.wi⟩ = canS s su L := by
 rw [Bool.eq_iff_iff, can8_iff, canS_iff]
theorem whole_ok {s : Sk} (h : s.good) : (⟨0, 0, s.lo, s.wi⟩ : Bo).ok := by
 obtain ⟨⟨l1, l2⟩, ⟨w1, w2⟩, -⟩ := h
 unfold Bo.ok
 dsimp only
 omega
theorem Plan8_any (s : Sk) (A : Option Addr) (d : Nat) (G : Option Addr) (n : Nat) (g : List Int) (su : Bool)  (w : World) (hA : Rd w w.heap.size 4 A s.ps.length (pc s.ps)) (hG : Rd w w.heap.size 1 G g.length (ic g)) (nA : s.ps.length ≤ 1000000) (nG : g.length ≤ 1000000)  :
   Calls Tryd.prog 22 #[.agg #[.int .i64 s.lo, .int .i64 s.wi, .int .i64 s.a0, .int .i64 s.a1, .int .i64 s.c0, .int .i64 s.c1, .slice A s.ps.length d], .slice G g.length n, .bool su] w (LsPost 3 (tc (planL s g su)) (planL s g su).length (planE s g su) w) := by
 obtain ⟨bA, oA, SA⟩ := Sp.old hA
 obtain ⟨bG, oG, SG⟩ := Sp.old hG
 refine px_enter noEx Tryd.func22 rfl 29 rfl [.agg #[.int .i64 s.lo, .int .i64 s.wi, .int .i64 s.a0, .int .i64 s.a1, .int .i64 s.c0, .int .i64 s.c1, .slice A s.ps.length d], .slice G g.length n, .bool su] rfl rfl (Mem.init w _) ?_
 intro ac wc T M
 refine wp_seq ?_
 refine wp_region_lit ?_
 refine l_w rfl ?_; intro K hK
 refine ow_bx M T rfl rfl rfl rfl (T.ev 0 rfl) rfl ?_; clear M T; intro g1 wc ac M T
 refine so9 hK _ _ ?_; clear hK K
 refine lq T (ra9 rfl evc) ?_; clear T ac; intro ac T
 refine lq T (ra9 rfl evc) ?_; clear T ac; intro ac T
 refine wpList_nil ?_
 replace T := T.pick [2, 4, 5] rfl
 refine nt9 ?_
 refine wp_seq ?_
 refine wp_seq ?_
 refine wp_region_lit ?_
 refine lq T (rn_rowO (Mem.nth M 0 rfl) rfl (T.ev 0 rfl) rfl) ?_; clear T ac; intro ac T
 refine lq T (rm9 rfl (T.ev 2 rfl)) ?_; clear T ac; intro ac T
 refine l_w rfl ?_; intro K hK
 refine oc9 (first := []) (cap := []) T rfl rfl rfl rfl evf (.cons (T.ev 1 rfl) (.cons (T.ev 0 rfl) .nil)) Tryd.func66 rfl rfl ?_
 refine Calls.mono (checkParts8_any s A d G n g _ (SA.rd M (List.nil_sublist _)) (SG.rd M (List.nil_sublist _)) (by omega) (by omega)) ?_
 clear T
 rintro e wc ⟨rfl, hb⟩
 intro ac T
 replace M := M.call hb; clear hb
 refine so9 hK _ _ ?_; clear hK K
 refine lq T (ra9 rfl (T.ev 0 rfl)) ?_; clear T ac; intro ac T
 refine wpList_nil ?_
 replace T := T.pick [0, 4, 5, 6] rfl
 refine nt9 ?_
 refine wp_seq ?_
 refine wp_region_lit ?_
 refine lq T (rm9 rfl (T.ev 0 rfl)) ?_; clear T ac; intro ac T
 refine lq T (rn_neq rfl (T.ev 0 rfl) evc) ?_; clear T ac; intro ac T
 refine wpList_nil ?_
 replace T := T.pick [0, 2, 3, 4, 5] rfl
 refine nt9 ?_
 refine wp_ifn (T.ev 0 rfl) ?_ ?_
 ·intro h1
  refine wp_seq ?_
  refine wp_region_lit ?_
  refine lq T (rm9 rfl (T.ev 1 rfl)) ?_; clear T ac; intro ac T
  refine lq T (ra9 rfl evc) ?_; clear T ac; intro ac T
  refine lq T (ra9 rfl (T.ev 1 rfl)) ?_; clear T ac; intro ac T
  refine wpList_nil ?_
  replace T := T.pick [0, 1] rfl
  replace M := M.mask [false] rfl
  refine nt9 ?_
  refine wp_ret ?_
  refine rt_then ?_
  refine rt_2 T rfl (T.ev 1 rfl) (T.ev 0 rfl) ?_
  have e9 : planE s g su = lstE s g := if_pos (by omega)
  have e8 : planL s g su = [] := if_neg (by omega)
  rw [e9, e8]
  exact LsPost.nil M
 intro h1
 obtain ⟨hsg, hgi, hgn⟩ := lstE_iff.1 (show lstE s g = 0 by omega)
 have hgl5 : g.length ≤ 5 := Nat.le_trans (nodup_short hgi hgn) hsg.len
 refine wp_skip ?_
 refine nt9 ?_
 refine wp_seq ?_
 refine g_start2 M (M.mask [true] rfl) 11 (by kernel_rfl) rfl (by kernel_rfl) ?_
 clear M; intro wc M
 refine gq T 0 1 rfl (fun B w' hD hl hS => (rn_rowO (Mem.nth (show Mem w noEx w' _ from hS) 0 rfl) rfl (T.ev 2 rfl) rfl)) ?_; clear T ac; intro ac T
 refine gq T 1 3 rfl (fun _ _ _ _ _ => (rm9 rfl (T.ev 4 rfl))) ?_; clear T ac; intro ac T
 refine gq T 2 7 rfl (fun B w' hD hl hS => (rn_rowO (Mem.nth (show Mem w noEx w' _ from hS) 0 rfl) rfl (T.ev 4 rfl) rfl)) ?_; clear T ac; intro ac T
 refine gq T 4 23 rfl (fun _ _ _ _ _ => (rm9 rfl (T.ev 7 rfl))) ?_; clear T ac; intro ac T
 refine gw 3 31 ?_; intro K hK
 refine oc9 (first := []) (cap := []) T rfl rfl rfl rfl evf (.cons (T.ev 1 rfl) .nil) Tryd.func68 rfl rfl ?_
 refine Calls.mono (whole8_any s A d _) ?_
 clear T
 rintro e wc ⟨rfl, hb⟩
 intro ac T
 replace M := M.call hb; clear hb
 refine so9 hK _ _ (M.mask [true] rfl) ?_; clear hK K
 refine gw 5 63 ?_; intro K hK
 refine oc9 (first := []) (cap := []) T rfl rfl rfl rfl evf (.cons (T.ev 4 rfl) (.cons (T.ev 3 rfl) (.cons (T.ev 0 rfl) (.cons (T.ev 1 rfl) .nil)))) Tryd.func67 rfl rfl ?_
 refine Calls.mono (ply_any s A d su hsg (g.length + 1) g G n (⟨0, 0, s.lo, s.wi⟩ : Bo) _ (by omega) hgl5 hgi (whole_ok hsg) (SA.rd M (List.nil_sublist _)) (SG.rd M (List.nil_sublist _))) ?_
 clear T
 rintro e wc ⟨APu3, nPu3, XLu3, IPu3, rfl, hcpu3, hlpu3, hpyu3, SVPu3, N⟩
 intro ac T
 obtain ⟨bPu3, oPu3, SVPu3⟩ := SVPu3
 have SPu3 := SVPu3 w noEx
 replace M := (M.join N).swapI
 clear N
 replace M : Mem w noEx wc ((g1, .cells [.int .i64 s.lo, .int .i64 s.wi, .int .i64 s.a0, .int .i64 s.a1, .int .i64 s.c0, .int .i64 s.c1, .slice A s.ps.length d]) :: IPu3) := M
 refine so9 hK _ _ (M.perm [0] rfl rfl) ?_; clear hK K
 refine gq T 6 127 rfl (fun _ _ _ _ _ => (rm9 rfl (T.ev 0 rfl))) ?_; clear T ac; intro ac T
 refine gq T 7 255 rfl (fun _ _ _ _ _ => (rn_extract rfl (T.ev 0 rfl) rfl)) ?_; clear T ac; intro ac T
 refine gq T 8 511 rfl (fun _ _ _ _ _ => (rn_extract rfl (T.ev 1 rfl) rfl)) ?_; clear T ac; intro ac T
 refine gq T 9 1023 rfl (fun _ _ _ _ _ => (ra9 rfl (T.ev 1 rfl))) ?_; clear T ac; intro ac T
 refine gq T 10 2047 rfl (fun _ _ _ _ _ => (ra9 rfl (T.ev 1 rfl))) ?_; clear T ac; intro ac T
 refine g_done (by kernel_rfl) ?_
 replace T := T.pick [0, 1] rfl
 replace M := M.mask [false] rfl
 refine nt9 ?_
 refine wp_seq ?_
 refine wp_seq ?_
 refine wp_region_lit ?_
 refine lq T (rm9 rfl (T.ev 0 rfl)) ?_; clear T ac; intro ac T
 refine lq T (rn_not rfl (T.ev 0 rfl)) ?_; clear T ac; intro ac T
 refine wpList_nil ?_
 replace T := T.pick [0, 3] rfl
 refine nt9 ?_
 refine wp_cond_split (T.ev 0 rfl) ?_ ?_
 ·intro h2
  (try have h2' := h2; try simp only [Bool.and_eq_true, Bool.or_eq_true, Bool.not_eq_true', Bool.and_eq_false_imp, Bool.or_eq_false_iff, decide_eq_true_eq, decide_eq_false_iff_not] at h2')
  refine wp_seq ?_
  refine wp_region_lit ?_
  refine lq T (ra9 rfl evc) ?_; clear T ac; intro ac T
  refine lq T (ra9 rfl evc) ?_; clear T ac; intro ac T
  refine wpList_nil ?_
  replace T := T.pick [0, 1] rfl
  refine nt9 ?_
  refine wp_ret ?_
  refine rt_then ?_
  refine rt_2 T rfl (T.ev 1 rfl) (T.ev 0 rfl) ?_
  have hcsf : canS s su (gP s g) = false := by rw [← can8_S]; simp_all
  have e9 : planE s g su = 11 := (if_neg (by omega)).trans (if_neg (by rw [hcsf]; decide))
  have e8 : planL s g su = [] := if_neg (by omega)
  rw [e9, e8]
  exact LsPost.nil M
 intro h2
 (try have h2' := h2; try simp only [Bool.and_eq_true, Bool.or_eq_true, Bool.not_eq_true', Bool.and_eq_false_imp, Bool.or_eq_false_iff, decide_eq_true_eq, decide_eq_false_iff_not] at h2')
 refine wp_skip ?_
 refine nt9 ?_
 refine wp_seq ?_
 refine wp_region_lit ?_
 refine lq T (rm9 rfl (T.ev 1 rfl)) ?_; clear T ac; intro ac T
 refine lq T (ra9 rfl (T.ev 0 rfl)) ?_; clear T ac; intro ac T
 refine lq T (ra9 rfl evc) ?_; clear T ac; intro ac T
 refine wpList_nil ?_
 replace T := T.pick [0, 1] rfl
 refine nt9 ?_
 refine wp_ret ?_
 refine rt_2 T rfl (T.ev 1 rfl) (T.ev 0 rfl) ?_
 have hcst : canS s su (gP s g) = true := by rw [← can8_S]; simp_all
 have e9 : planE s g su = 0 := (if_neg (by omega)).trans (if_pos hcst)
 have e8 : planL s g su = XLu3 := ply_plan hsg hgi hgn e9 (hpyu3 (can8_S.trans hcst)).1
 rw [e9, e8]
 exact ⟨_, _, IPu3, rfl, hcpu3, ⟨_, _, SVPu3⟩, M.sub (List.sublist_append_right [] _)⟩
theorem Fits8_any (s : Sk) (A : Option Addr) (d : Nat) (G : Option Addr) (n : Nat) (g : List Int)  (w : World) (hA : Rd w w.heap.size 4 A s.ps.length (pc s.ps)) (hG : Rd w w.heap.size 1 G g.length (ic g)) (nA : s.ps.length ≤ 1000000) (nG : g.length ≤ 1000000)  :
   Calls Tryd.prog 47 #[.agg #[.int .i64 s.lo, .int .i64 s.wi, .int .i64 s.a0, .int .i64 s.a1, .int .i64 s.c0, .int .i64 s.c1, .slice A s.ps.length d], .slice G g.length n] w fun e w' => e = .returned (.tuple #[.int .i64 (fitV s g), .int .i64 (lstE s g)]) ∧ Below w.heap.size w w' := by
 obtain ⟨bA, oA, SA⟩ := Sp.old hA
 obtain ⟨bG, oG, SG⟩ := Sp.old hG
 refine px_enter noEx Tryd.func47 rfl 35 rfl [.agg #[.int .i64 s.lo, .int .i64 s.wi, .int .i64 s.a0, .int .i64 s.a1, .int .i64 s.c0, .int .i64 s.c1, .slice A s.ps.length d], .slice G g.length n] rfl rfl (Mem.init w _) ?_
 intro ac wc T M
 refine wp_seq ?_
 refine wp_region_lit ?_
 refine l_w rfl ?_; intro K hK
 refine ow_bx M T rfl rfl rfl rfl (T.ev 0 rfl) rfl ?_; clear M T; intro g1 wc ac M T
 refine so9 hK _ _ ?_; clear hK K
 refine lq T (ra9 rfl evc) ?_; clear T ac; intro ac T
 refine lq T (ra9 rfl evc) ?_; clear T ac; intro ac T
 refine wpList_nil ?_
 replace T := T.pick [2, 4] rfl
 refine nt9 ?_
 refine wp_seq ?_
 refine wp_seq ?_
 refine wp_region_lit ?_
 refine lq T (rn_rowO (Mem.nth M 0 rfl) rfl (T.ev 0 rfl) rfl) ?_; clear T ac; intro ac T
 refine lq T (rm9 rfl (T.ev 2 rfl)) ?_; clear T ac; intro ac T
 refine l_w rfl ?_; intro K hK
 refine oc9 (first := []) (cap := []) T rfl rfl rfl rfl evf (.cons (T.ev 1 rfl) (.cons (T.ev 0 rfl) .nil)) Tryd.func66 rfl rfl ?_
 refine Calls.mono (checkParts8_any s A d G n g _ (SA.rd M (List.nil_sublist _)) (SG.rd M (List.nil_sublist _)) (by omega) (by omega)) ?_
 clear T
 rintro e wc ⟨rfl, hb⟩
 intro ac T
 replace M := M.call hb; clear hb
 refine so9 hK _ _ ?_; clear hK K
 refine lq T (ra9 rfl (T.ev 0 rfl)) ?_; clear T ac; intro ac T
 refine wpList_nil ?_
 replace T := T.pick [0, 4, 5] rfl
 refine nt9 ?_
 refine wp_seq ?_
 refine wp_region_lit ?_
 refine lq T (rm9 rfl (T.ev 0 rfl)) ?_; clear T ac; intro ac T
 refine lq T (rn_neq rfl (T.ev 0 rfl) evc) ?_; clear T ac; intro ac T
 refine wpList_nil ?_
 replace T := T.pick [0, 2, 3, 4] rfl
 refine nt9 ?_
 refine wp_ifn (T.ev 0 rfl) ?_ ?_
 ·intro h1
  refine wp_seq ?_
  refine wp_region_lit ?_
  refine lq T (rm9 rfl (T.ev 1 rfl)) ?_; clear T ac; intro ac T
  refine lq T (ra9 rfl evc) ?_; clear T ac; intro ac T
  refine lq T (ra9 rfl (T.ev 1 rfl)) ?_; clear T ac; intro ac T
  refine wpList_nil ?_
  replace T := T.pick [0, 1] rfl
  replace M := M.mask [false] rfl
  refine nt9 ?_
  refine wp_ret ?_
  refine rt_then ?_
  refine rt_2 T rfl (T.ev 1 rfl) (T.ev 0 rfl) ?_
  have e9 : fitV s g = 0 := if_pos (by omega)
  rw [e9]
  exact ⟨rfl, M.below⟩
 intro h1
 obtain ⟨hsg, hgi, hgn⟩ := lstE_iff.1 (show lstE s g = 0 by omega)
 have hgl5 : g.length ≤ 5 := Nat.le_trans (nodup_short hgi hgn) hsg.len
 refine wp_skip ?_
 refine nt9 ?_
 refine wp_seq ?_
 refine wp_seq ?_
 refine g_start2 M (M.mask [true] rfl) 10 (by kernel_rfl) rfl (by kernel_rfl) ?_
 clear M; intro wc M
 refine gq T 0 1 rfl (fun B w' hD hl hS => (rn_rowO (Mem.nth (show Mem w noEx w' _ from hS) 0 rfl) rfl (T.ev 2 rfl) rfl)) ?_; clear T ac; intro ac T
 refine gq T 1 3 rfl (fun _ _ _ _ _ => (rm9 rfl (T.ev 4 rfl))) ?_; clear T ac; intro ac T
 refine gq T 2 7 rfl (fun B w' hD hl hS => (rn_rowO (Mem.nth (show Mem w noEx w' _ from hS) 0 rfl) rfl (T.ev 4 rfl) rfl)) ?_; clear T ac; intro ac T
 refine gw 3 15 ?_; intro K hK
 refine oc9 (first := []) (cap := []) T rfl rfl rfl rfl evf (.cons (T.ev 0 rfl) .nil) Tryd.func68 rfl rfl ?_
 refine Calls.mono (whole8_any s A d _) ?_
 clear T
 rintro e wc ⟨rfl, hb⟩
 intro ac T
 replace M := M.call hb; clear hb
 refine so9 hK _ _ (M.mask [true] rfl) ?_; clear hK K
 refine gw 4 31 ?_; intro K hK
 refine oc9 (first := []) (cap := []) T rfl rfl rfl rfl evf (.cons (T.ev 3 rfl) (.cons (T.ev 2 rfl) (.cons (T.ev 0 rfl) (.cons evc .nil)))) Tryd.func67 rfl rfl ?_
 refine Calls.mono (ply_any s A d true hsg (g.length + 1) g G n (⟨0, 0, s.lo, s.wi⟩ : Bo) _ (by omega) hgl5 hgi (whole_ok hsg) (SA.rd M (List.nil_sublist _)) (SG.rd M (List.nil_sublist _))) ?_
 clear T
 rintro e wc ⟨APu3, nPu3, XLu3, IPu3, rfl, hcpu3, hlpu3, hpyu3, SVPu3, N⟩
 intro ac T
 obtain ⟨bPu3, oPu3, SVPu3⟩ := SVPu3
 have SPu3 := SVPu3 w noEx
 replace M := (M.join N).swapI
 clear N
 replace M : Mem w noEx wc ((g1, .cells [.int .i64 s.lo, .int .i64 s.wi, .int .i64 s.a0, .int .i64 s.a1, .int .i64 s.c0, .int .i64 s.c1, .slice A s.ps.length d]) :: IPu3) := M
 refine so9 hK _ _ (M.perm [0] rfl rfl) ?_; clear hK K
 refine gq T 5 63 rfl (fun _ _ _ _ _ => (rm9 rfl (T.ev 0 rfl))) ?_; clear T ac; intro ac T
 refine gq T 6 127 rfl (fun _ _ _ _ _ => (rn_extract rfl (T.ev 0 rfl) rfl)) ?_; clear T ac; intro ac T
 refine gq T 7 255 rfl (fun _ _ _ _ _ => (rn_extract rfl (T.ev 1 rfl) rfl)) ?_; clear T ac; intro ac T
 refine gq T 8 511 rfl (fun _ _ _ _ _ => (ra9 rfl (T.ev 1 rfl))) ?_; clear T ac; intro ac T
 refine gq T 9 1023 rfl (fun _ _ _ _ _ => (ra9 rfl (T.ev 1 rfl))) ?_; clear T ac; intro ac T
 refine g_done (by kernel_rfl) ?_
 replace T := T.pick [0, 12, 13] rfl
 refine nt9 ?_
 refine wp_seq ?_
 refine wp_region_lit ?_
 refine lq T (rm9 rfl (T.ev 0 rfl)) ?_; clear T ac; intro ac T
 refine wpList_nil ?_
 replace T := T.pick [0, 2, 3] rfl
 refine nt9 ?_
 refine wp_cond_split (T.ev 0 rfl) ?_ ?_
 ·intro h2
  refine wp_seq ?_
  refine wp_region_lit ?_
  refine lq T (ra9 rfl evc) ?_; clear T ac; intro ac T
  refine lq T (ra9 rfl evc) ?_; clear T ac; intro ac T
  refine wpList_nil ?_
  replace T := T.pick [0, 1] rfl
  replace M := M.mask [false] rfl
  refine nt9 ?_
  refine wp_ret ?_
  refine rt_then ?_
  refine rt_2 T rfl (T.ev 1 rfl) (T.ev 0 rfl) ?_
  have e8 : lstE s g = 0 := by omega
  have hcst : canS s true (gP s g) = true := by rw [← can8_S]; simp_all
  have e9 : fitV s g = 1 := (if_neg (by omega)).trans (if_pos hcst)
  rw [e9, e8]
  exact ⟨rfl, M.below⟩
 intro h2
 refine wp_skip ?_
 refine nt9 ?_
 refine wp_seq ?_
 refine wp_seq ?_
 refine g_start2 M (M.mask [true] rfl) 10 (by kernel_rfl) rfl (by kernel_rfl) ?_
 clear M; intro wc M
 refine gq T 0 1 rfl (fun B w' hD hl hS => (rn_rowO (Mem.nth (show Mem w noEx w' _ from hS) 0 rfl) rfl (T.ev 1 rfl) rfl)) ?_; clear T ac; intro ac T
 refine gq T 1 3 rfl (fun _ _ _ _ _ => (rm9 rfl (T.ev 3 rfl))) ?_; clear T ac; intro ac T
 refine gq T 2 7 rfl (fun B w' hD hl hS => (rn_rowO (Mem.nth (show Mem w noEx w' _ from hS) 0 rfl) rfl (T.ev 3 rfl) rfl)) ?_; clear T ac; intro ac T
 refine gw 3 15 ?_; intro K hK
 refine oc9 (first := []) (cap := []) T rfl rfl rfl rfl evf (.cons (T.ev 0 rfl) .nil) Tryd.func68 rfl rfl ?_
 refine Calls.mono (whole8_any s A d _) ?_
 clear T
 rintro e wc ⟨rfl, hb⟩
 intro ac T
 replace M := M.call hb; clear hb
 refine so9 hK _ _ (M.mask [true] rfl) ?_; clear hK K
 refine gw 4 31 ?_; intro K hK
 refine oc9 (first := []) (cap := []) T rfl rfl rfl rfl evf (.cons (T.ev 3 rfl) (.cons (T.ev 2 rfl) (.cons (T.ev 0 rfl) (.cons evc .nil)))) Tryd.func67 rfl rfl ?_
 refine Calls.mono (ply_any s A d false hsg (g.length + 1) g G n (⟨0, 0, s.lo, s.wi⟩ : Bo) _ (by omega) hgl5 hgi (whole_ok hsg) (SA.rd M (List.nil_sublist _)) (SG.rd M (List.nil_sublist _))) ?_
 clear T
 rintro e wc ⟨APu5, nPu5, XLu5, IPu5, rfl, hcpu5, hlpu5, hpyu5, SVPu5, N⟩
 intro ac T
 obtain ⟨bPu5, oPu5, SVPu5⟩ := SVPu5
 have SPu5 := SVPu5 w noEx
 replace M := (M.join N).swapI
 clear N
 replace M : Mem w noEx wc ((g1, .cells [.int .i64 s.lo, .int .i64 s.wi, .int .i64 s.a0, .int .i64 s.a1, .int .i64 s.c0, .int .i64 s.c1, .slice A s.ps.length d]) :: (IPu3 ++ IPu5)) := M
 refine so9 hK _ _ ((M.mask [true] rfl).sub (List.Sublist.cons_cons _ (List.sublist_append_left _ _))) ?_; clear hK K
 refine gq T 5 63 rfl (fun _ _ _ _ _ => (rm9 rfl (T.ev 0 rfl))) ?_; clear T ac; intro ac T
 refine gq T 6 127 rfl (fun _ _ _ _ _ => (rn_extract rfl (T.ev 0 rfl) rfl)) ?_; clear T ac; intro ac T
 refine gq T 7 255 rfl (fun _ _ _ _ _ => (rn_extract rfl (T.ev 1 rfl) rfl)) ?_; clear T ac; intro ac T
 refine gq T 8 511 rfl (fun _ _ _ _ _ => (ra9 rfl (T.ev 1 rfl))) ?_; clear T ac; intro ac T
 refine gq T 9 1023 rfl (fun _ _ _ _ _ => (ra9 rfl (T.ev 1 rfl))) ?_; clear T ac; intro ac T
 refine g_done (by kernel_rfl) ?_
 replace T := T.pick [0] rfl
 replace M := M.mask [false] rfl
 refine nt9 ?_
 refine wp_seq ?_
 refine wp_region_lit ?_
 refine lq T (rm9 rfl (T.ev 0 rfl)) ?_; clear T ac; intro ac T
 refine wpList_nil ?_
 replace T := T.pick [0] rfl
 refine nt9 ?_
 refine wp_cond_split (T.ev 0 rfl) ?_ ?_
 ·intro h3
  refine wp_seq ?_
  refine wp_region_lit ?_
  refine lq T (ra9 rfl evc) ?_; clear T ac; intro ac T
  refine lq T (ra9 rfl evc) ?_; clear T ac; intro ac T
  refine wpList_nil ?_
  replace T := T.pick [0, 1] rfl
  refine nt9 ?_
  refine wp_ret ?_
  refine rt_then ?_
  refine rt_2 T rfl (T.ev 1 rfl) (T.ev 0 rfl) ?_
  have e8 : lstE s g = 0 := by omega
  have hcs1 : canS s true (gP s g) = false := by rw [← can8_S]; simp_all
  have hcs2 : canS s false (gP s g) = true := by rw [← can8_S]; simp_all
  have e9 : fitV s g = 3 := (if_neg (by omega)).trans ((if_neg (by rw [hcs1]; decide)).trans (if_pos hcs2))
  rw [e9, e8]
  exact ⟨rfl, M.below⟩
 intro h3
 refine wp_skip ?_
 refine nt9 ?_
 refine wp_seq ?_
 refine wp_region_lit ?_
 refine lq T (ra9 rfl evc) ?_; clear T ac; intro ac T
 refine lq T (ra9 rfl evc) ?_; clear T ac; intro ac T
 refine wpList_nil ?_
 replace T := T.pick [0, 1] rfl
 refine nt9 ?_
 refine wp_ret ?_
 refine rt_2 T rfl (T.ev 1 rfl) (T.ev 0 rfl) ?_
 have e8 : lstE s g = 0 := by omega
 have hcs1 : canS s true (gP s g) = false := by rw [← can8_S]; simp_all
 have hcs2 : canS s false (gP s g) = false := by rw [← can8_S]; simp_all
 have e9 : fitV s g = 2 := (if_neg (by omega)).trans ((if_neg (by rw [hcs1]; decide)).trans (if_neg (by rw [hcs2]; decide)))
 rw [e9, e8]
 exact ⟨rfl, M.below⟩
end Go.Proofs.YtehpcclfgjccbaaDoor
end

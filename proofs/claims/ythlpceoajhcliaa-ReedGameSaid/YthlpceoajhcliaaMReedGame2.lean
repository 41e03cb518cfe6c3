/-
  Walks of functions, and plain laws (texts put together). No condition.
-/
import Derived.Deep.DeepMust
import Derived.Deep.DeepFit
import Derived.Test.YthlpceoajhcliaaMReedGame1

section
/-
  ref1: what is valid; ranges; shifts.
-/
namespace Go.Proofs.Ythlpceoajhcliaa
set_option linter.unusedSimpArgs false
set_option linter.unusedVariables false
open Go.RowKit

abbrev jobL (j : Jb) (A : Option Addr) (c : Nat) : List Value := [.int .i64 j.p0, .int .i64 j.p1, .int .i64 j.t0, .int .i64 j.t1, .int .i64 j.r0, .int .i64 j.r1, .int .i64 j.u0, .int .i64 j.u1, .int .i64 j.d0, .int .i64 j.d1, .int .i64 j.a0, .int .i64 j.a1, .int .i64 j.b0, .int .i64 j.b1, .int .i64 j.le, .slice A j.sh.length c, .int .i64 j.wi, .int .i64 j.me]


set_option maxRecDepth 100000 in
set_option maxHeartbeats 1000000 in
theorem among_any (n lo hi : Int) (w : World)  :
    Calls Try.prog 90 #[.int .i64 n, .int .i64 lo, .int .i64 hi] w fun e w' => e = .returned (.bool (withinB n lo hi)) ∧ Below w.heap.size w w' := by
  refine px_enter noEx Try.func90 rfl 15 rfl [.int .i64 n, .int .i64 lo, .int .i64 hi] rfl rfl (Mem.init w _) ?_
  intro ac wc T M
  refine wp_seq ?_
  refine wp_region_lit ?_
  refine l_q T rfl rfl rfl rfl (rn_assign rfl evc) ?_; clear T ac; intro ac T
  refine wpList_nil ?_
  replace T := T.pick [1, 2, 3] rfl
  refine nm_then ?_
  refine cut_seq (fun ac wc => Tm ac 15 [(6, .bool ((decide (lo ≤ n)) && (decide (n ≤ hi))))] ∧ Mem w noEx wc []) ?_ ?_
  · refine wp_region_lit ?_
    refine l_q T rfl rfl rfl rfl (rn_move rfl (T.ev 0 rfl)) ?_; clear T ac; intro ac T
    refine l_q T rfl rfl rfl rfl (rn_move rfl (T.ev 2 rfl)) ?_; clear T ac; intro ac T
    refine l_q T rfl rfl rfl rfl (rn_geq rfl (T.ev 1 rfl) (T.ev 0 rfl)) ?_; clear T ac; intro ac T
    refine l_q T rfl rfl rfl rfl (rn_move rfl (T.ev 0 rfl)) ?_; clear T ac; intro ac T
    rcases Bool.eq_false_or_eq_true (decide (lo ≤ n)) with h1 | h1
    · replace h1 := of_decide_eq_true h1
      refine l_q T (wanted_yes rfl rfl (T.ev 0 rfl) (decide_eq_true h1)) rfl rfl rfl (rn_move rfl (T.ev 4 rfl)) ?_; clear T ac; intro ac T
      refine l_q T (wanted_yes rfl rfl (T.ev 1 rfl) (decide_eq_true h1)) rfl rfl rfl (rn_move rfl (T.ev 7 rfl)) ?_; clear T ac; intro ac T
      refine l_q T (wanted_yes rfl rfl (T.ev 2 rfl) (decide_eq_true h1)) rfl rfl rfl (rn_leq rfl (T.ev 1 rfl) (T.ev 0 rfl)) ?_; clear T ac; intro ac T
      refine l_q T rfl rfl rfl rfl (rn_pick1 rfl (T.ev 3 rfl) (decide_eq_true h1) (T.ev 0 rfl)) ?_; clear T ac; intro ac T
      refine l_q T rfl rfl rfl rfl (rn_assign rfl (T.ev 0 rfl)) ?_; clear T ac; intro ac T
      refine wpList_nil ?_
      replace T := T.pick [0] rfl
      exact ⟨(T.pick (E' := [(6, .bool (decide (n ≤ hi)))]) [0] rfl).as (by (try rw [show (decide (lo ≤ n)) = true from (decide_eq_true h1)]); rfl), M.mask [] rfl⟩
    · replace h1 := of_decide_eq_false h1
      refine l_pass T (wanted_no rfl rfl (T.ev 0 rfl) (decide_eq_false h1)) rfl rfl rfl ?_; clear T ac; intro ac T
      refine l_pass T (wanted_no rfl rfl (T.ev 1 rfl) (decide_eq_false h1)) rfl rfl rfl ?_; clear T ac; intro ac T
      refine l_pass T (wanted_no rfl rfl (T.ev 2 rfl) (decide_eq_false h1)) rfl rfl rfl ?_; clear T ac; intro ac T
      refine l_q T rfl rfl rfl rfl (rn_pick0 rfl (T.ev 3 rfl) (decide_eq_false h1) evc) ?_; clear T ac; intro ac T
      refine l_q T rfl rfl rfl rfl (rn_assign rfl (T.ev 0 rfl)) ?_; clear T ac; intro ac T
      refine wpList_nil ?_
      replace T := T.pick [0] rfl
      exact ⟨(T.pick (E' := [(6, .bool false)]) [0] rfl).as (by (try rw [show (decide (lo ≤ n)) = false from (decide_eq_false h1)]); rfl), M.mask [] rfl⟩
  · clear T M
    rintro ac wc ⟨T, M⟩
    refine wp_ret ?_
    refine rt_1 T rfl (T.ev 0 rfl) ?_
    exact ⟨ret_bool (by unfold withinB; simp), M.below⟩

set_option maxRecDepth 100000 in
set_option maxHeartbeats 1000000 in
theorem rcheckRange_any (x0 x1 lo hi : Int) (w : World)  :
    Calls Try.prog 94 #[.agg #[.int .i64 x0, .int .i64 x1], .int .i64 lo, .int .i64 hi] w fun e w' => e = .returned (.int .i64 (chkR x0 x1 lo hi)) ∧ Below w.heap.size w w' := by
  refine px_enter noEx Try.func94 rfl 26 rfl [.agg #[.int .i64 x0, .int .i64 x1], .int .i64 lo, .int .i64 hi] rfl rfl (Mem.init w _) ?_
  intro ac wc T M
  refine wp_seq ?_
  refine wp_region_lit ?_
  refine l_w rfl ?_; intro K hK
  refine ow_bx M T rfl rfl rfl rfl (T.ev 0 rfl) rfl ?_; clear M T; intro g1 wc ac M T
  refine sh_out hK _ _ ?_; clear hK K
  refine l_q T rfl rfl rfl rfl (rn_assign rfl evc) ?_; clear T ac; intro ac T
  refine wpList_nil ?_
  replace T := T.pick [1, 3, 4] rfl
  refine nm_then ?_
  refine wp_seq ?_
  refine cut_seq (fun ac wc => Tm ac 26 [(3, .pointer (some ⟨g1, 0, none⟩)), (20, .bool ((!(withinB x0 lo hi)) || (!(withinB x1 lo hi))))] ∧ Mem w noEx wc [(g1, .cells [.int .i64 x0, .int .i64 x1])]) ?_ ?_
  · refine wp_region_lit ?_
    refine l_q (v := (.pointer (some ⟨g1, 0, none⟩))) T rfl rfl rfl rfl (rn_fieldAddr (off := 0) rfl (T.ev 0 rfl) (fun _ _ _ => by kernel_rfl)) ?_; clear T ac; intro ac T
    refine l_q T rfl rfl rfl rfl (rn_one (Mem.nth M 0 rfl) rfl (T.ev 0 rfl) rfl) ?_; clear T ac; intro ac T
    refine l_q T rfl rfl rfl rfl (rn_move rfl (T.ev 3 rfl)) ?_; clear T ac; intro ac T
    refine l_q T rfl rfl rfl rfl (rn_move rfl (T.ev 5 rfl)) ?_; clear T ac; intro ac T
    refine l_w rfl ?_; intro K hK
    refine ow_call (first := []) (cap := []) T rfl rfl rfl rfl evf (.cons (T.ev 2 rfl) (.cons (T.ev 1 rfl) (.cons (T.ev 0 rfl) .nil))) Try.func90 rfl rfl ?_
    refine Calls.mono (among_any x0 lo hi _) ?_
    clear T
    rintro e wc ⟨rfl, hb⟩
    intro ac T
    replace M := M.call hb; clear hb
    refine sh_out hK _ _ ?_; clear hK K
    refine l_q T rfl rfl rfl rfl (rn_not rfl (T.ev 0 rfl)) ?_; clear T ac; intro ac T
    refine l_q T rfl rfl rfl rfl (rn_move rfl (T.ev 0 rfl)) ?_; clear T ac; intro ac T
    rcases Bool.eq_false_or_eq_true (!(withinB x0 lo hi)) with h1 | h1
    · refine l_pass T (wanted_no rfl rfl (T.ev 0 rfl) h1) rfl rfl rfl ?_; clear T ac; intro ac T
      refine l_pass T (wanted_no rfl rfl (T.ev 1 rfl) h1) rfl rfl rfl ?_; clear T ac; intro ac T
      refine l_pass T (wanted_no rfl rfl (T.ev 2 rfl) h1) rfl rfl rfl ?_; clear T ac; intro ac T
      refine l_pass T (wanted_no rfl rfl (T.ev 3 rfl) h1) rfl rfl rfl ?_; clear T ac; intro ac T
      refine l_pass T (wanted_no rfl rfl (T.ev 4 rfl) h1) rfl rfl rfl ?_; clear T ac; intro ac T
      refine l_pass T (wanted_no rfl rfl (T.ev 5 rfl) h1) rfl rfl rfl ?_; clear T ac; intro ac T
      refine l_q T rfl rfl rfl rfl (rn_pick1 rfl (T.ev 6 rfl) h1 evc) ?_; clear T ac; intro ac T
      refine wpList_nil ?_
      replace T := T.pick [0, 14] rfl
      exact ⟨(T.pick (E' := [(3, .pointer (some ⟨g1, 0, none⟩)), (20, .bool true)]) [1, 0] rfl).as (by (try rw [show (!(withinB x0 lo hi)) = true from h1]); rfl), M.mask [true] rfl⟩
    · refine l_q (v := (.pointer (some ⟨g1, 1, none⟩))) T (wanted_yes rfl rfl (T.ev 0 rfl) h1) rfl rfl rfl (rn_fieldAddr (off := 1) rfl (T.ev 7 rfl) (fun _ _ _ => by kernel_rfl)) ?_; clear T ac; intro ac T
      refine l_q T (wanted_yes rfl rfl (T.ev 1 rfl) h1) rfl rfl rfl (rn_one (Mem.nth M 0 rfl) rfl (T.ev 0 rfl) rfl) ?_; clear T ac; intro ac T
      refine l_q T (wanted_yes rfl rfl (T.ev 2 rfl) h1) rfl rfl rfl (rn_move rfl (T.ev 10 rfl)) ?_; clear T ac; intro ac T
      refine l_q T (wanted_yes rfl rfl (T.ev 3 rfl) h1) rfl rfl rfl (rn_move rfl (T.ev 12 rfl)) ?_; clear T ac; intro ac T
      refine l_w (wanted_yes rfl rfl (T.ev 4 rfl) h1) ?_; intro K hK
      refine ow_call (first := []) (cap := []) T rfl rfl rfl rfl evf (.cons (T.ev 2 rfl) (.cons (T.ev 1 rfl) (.cons (T.ev 0 rfl) .nil))) Try.func90 rfl rfl ?_
      refine Calls.mono (among_any x1 lo hi _) ?_
      clear T
      rintro e wc ⟨rfl, hb⟩
      intro ac T
      replace M := M.call hb; clear hb
      refine sh_out hK _ _ ?_; clear hK K
      refine l_q T (wanted_yes rfl rfl (T.ev 5 rfl) h1) rfl rfl rfl (rn_not rfl (T.ev 0 rfl)) ?_; clear T ac; intro ac T
      refine l_q T rfl rfl rfl rfl (rn_pick0 rfl (T.ev 6 rfl) h1 (T.ev 0 rfl)) ?_; clear T ac; intro ac T
      refine wpList_nil ?_
      replace T := T.pick [0, 14] rfl
      exact ⟨(T.pick (E' := [(3, .pointer (some ⟨g1, 0, none⟩)), (20, .bool (!(withinB x1 lo hi)))]) [1, 0] rfl).as (by (try rw [show (!(withinB x0 lo hi)) = false from h1]); rfl), M.mask [true] rfl⟩
  · clear T M
    rintro ac wc ⟨T, M⟩
    refine wp_cond_split (T.ev 1 rfl) ?_ ?_
    · intro h2
      (try have h2' := h2; try simp only [Bool.and_eq_true, Bool.or_eq_true, Bool.not_eq_true', Bool.and_eq_false_imp, Bool.or_eq_false_iff, decide_eq_true_eq, decide_eq_false_iff_not] at h2')
      refine wp_seq ?_
      refine wp_region_lit ?_
      refine l_q T rfl rfl rfl rfl (rn_assign rfl evc) ?_; clear T ac; intro ac T
      refine wpList_nil ?_
      replace T := T.pick [0] rfl
      replace M := M.mask [false] rfl
      refine nm_then ?_
      refine wp_ret ?_
      refine rt_then ?_
      refine rt_1 T rfl (T.ev 0 rfl) ?_
      exact ⟨ret_int (by unfold chkR; first | (simp_all; done) | (simp_all; omega) | (simp_all; intro h8 h9; simp_all)), M.below⟩
    · intro h2
      (try have h2' := h2; try simp only [Bool.and_eq_true, Bool.or_eq_true, Bool.not_eq_true', Bool.and_eq_false_imp, Bool.or_eq_false_iff, decide_eq_true_eq, decide_eq_false_iff_not] at h2')
      refine wp_skip ?_
      refine nm_then ?_
      refine wp_seq ?_
      refine wp_seq ?_
      refine wp_region_lit ?_
      refine l_q (v := (.pointer (some ⟨g1, 0, none⟩))) T rfl rfl rfl rfl (rn_fieldAddr (off := 0) rfl (T.ev 0 rfl) (fun _ _ _ => by kernel_rfl)) ?_; clear T ac; intro ac T
      refine l_q T rfl rfl rfl rfl (rn_one (Mem.nth M 0 rfl) rfl (T.ev 0 rfl) rfl) ?_; clear T ac; intro ac T
      refine l_q (v := (.pointer (some ⟨g1, 1, none⟩))) T rfl rfl rfl rfl (rn_fieldAddr (off := 1) rfl (T.ev 2 rfl) (fun _ _ _ => by kernel_rfl)) ?_; clear T ac; intro ac T
      refine l_q T rfl rfl rfl rfl (rn_one (Mem.nth M 0 rfl) rfl (T.ev 0 rfl) rfl) ?_; clear T ac; intro ac T
      refine l_q T rfl rfl rfl rfl (rn_gtr rfl (T.ev 2 rfl) (T.ev 0 rfl)) ?_; clear T ac; intro ac T
      refine wpList_nil ?_
      replace T := T.pick [0] rfl
      replace M := M.mask [false] rfl
      refine nm_then ?_
      refine wp_if (T.ev 0 rfl) ?_ ?_
      · intro h3
        refine wp_seq ?_
        refine wp_region_lit ?_
        refine l_q T rfl rfl rfl rfl (rn_assign rfl evc) ?_; clear T ac; intro ac T
        refine wpList_nil ?_
        replace T := T.pick [0] rfl
        refine nm_then ?_
        refine wp_ret ?_
        refine rt_then ?_
        refine rt_1 T rfl (T.ev 0 rfl) ?_
        exact ⟨ret_int (by unfold chkR; first | (simp_all; done) | (simp_all; omega) | (simp_all; intro h8 h9; simp_all)), M.below⟩
      · intro h3
        refine wp_skip ?_
        refine nm_then ?_
        refine wp_seq ?_
        refine wp_region_lit ?_
        refine l_q T rfl rfl rfl rfl (rn_assign rfl evc) ?_; clear T ac; intro ac T
        refine wpList_nil ?_
        replace T := T.pick [0] rfl
        refine nm_then ?_
        refine wp_ret ?_
        refine rt_1 T rfl (T.ev 0 rfl) ?_
        exact ⟨ret_int (by unfold chkR; first | (simp_all; done) | (simp_all; omega) | (simp_all; intro h8 h9; simp_all)), M.below⟩

set_option maxRecDepth 100000 in
set_option maxHeartbeats 1000000 in
theorem rcheckAll_any (lo hi : Int) (A : Option Addr) (n c : Nat) (l : List (Int × Int)) (w : World) (hr : Rd w w.heap.size 2 A n (rc l)) (hn : n ≤ 9223372036854775807) :
    Calls Try.prog 95 #[.slice A n c, .int .i64 lo, .int .i64 hi] w fun e w' => e = .returned (.int .i64 (chkAll lo hi l)) ∧ Below w.heap.size w w' := by
  have hl := hr.len2
  obtain ⟨bJ, oJ, SJ⟩ := Sp.old hr
  refine px_enter noEx Try.func95 rfl 25 rfl [.slice A n c, .int .i64 lo, .int .i64 hi] rfl rfl (Mem.init w _) ?_
  intro ac wc T M
  refine wp_seq ?_
  refine wp_region_lit ?_
  refine l_q T rfl rfl rfl rfl (rn_assign rfl evc) ?_; clear T ac; intro ac T
  refine wpList_nil ?_
  replace T := T.pick [1, 2, 3] rfl
  refine nm_then ?_
  refine wp_seq ?_
  refine wp_seq ?_
  refine wp_region_lit ?_
  refine l_q T rfl rfl rfl rfl (rn_assign rfl evc) ?_; clear T ac; intro ac T
  refine wpList_nil ?_
  refine nm_then ?_
  refine wp_block ?_
  refine wp_loop_n (fun mz ac wc => ∃ (k : Nat), mz = n - k ∧ (k ≤ n) ∧ (chkAll lo hi l = chkAll lo hi (l.drop k)) ∧ Tm ac 25 [(0, .slice A n c), (1, .int .i64 lo), (2, .int .i64 hi), (7, .int .i64 (k : Int))] ∧ Mem w noEx wc []) ?_ ?_
  · exact ⟨_, 0, rfl, (by omega), rfl, T.pick [1, 2, 3, 0] rfl, M.mask [] rfl⟩
  · clear T M
    rintro mz ac wc ⟨k, hmm1, hk, H, T, M⟩
    refine wp_seq ?_
    refine wp_seq ?_
    refine wp_region_lit ?_
    refine l_q T rfl rfl rfl rfl (rn_move rfl (T.ev 3 rfl)) ?_; clear T ac; intro ac T
    refine l_q T rfl rfl rfl rfl (rn_move rfl (T.ev 1 rfl)) ?_; clear T ac; intro ac T
    refine l_q T rfl rfl rfl rfl (rn_lenS rfl Try.underlying28 (T.ev 0 rfl)) ?_; clear T ac; intro ac T
    refine l_q T rfl rfl rfl rfl (rn_lss rfl (T.ev 2 rfl) (T.ev 0 rfl)) ?_; clear T ac; intro ac T
    refine wpList_nil ?_
    replace T := T.pick [0, 4, 5, 6, 7] rfl
    refine nm_then ?_
    refine wp_if (T.ev 0 rfl) ?_ ?_
    · intro h1
      obtain ⟨x0, x1, hk1, hd⟩ := rc_next (l := l) (k := k) (by omega)
      rw [hd, chkAll] at H
      refine wp_skip ?_
      refine nm_then ?_
      refine wp_seq ?_
      refine wp_block ?_
      refine wp_seq ?_
      refine wp_region_lit ?_
      refine l_q T rfl rfl rfl rfl (rn_move rfl (T.ev 1 rfl)) ?_; clear T ac; intro ac T
      refine l_q T rfl rfl rfl rfl (rn_move rfl (T.ev 5 rfl)) ?_; clear T ac; intro ac T
      refine l_q T rfl rfl rfl rfl (rn_indexAddr (size := 2) k rfl (T.ev 1 rfl) (T.ev 0 rfl) ⟨_, Try.underlying28, by kernel_rfl⟩ rfl (by omega) (SJ.at0 (by omega))) ?_; clear T ac; intro ac T
      refine l_q (v := (.agg #[.int .i64 x0, .int .i64 x1])) T rfl rfl rfl rfl (rn_rowat (Sp.rcR SJ M (List.nil_sublist _) hk1) rfl (T.ev 0 rfl) rfl) ?_; clear T ac; intro ac T
      refine l_q T rfl rfl rfl rfl (rn_move rfl (T.ev 6 rfl)) ?_; clear T ac; intro ac T
      refine l_q T rfl rfl rfl rfl (rn_move rfl (T.ev 8 rfl)) ?_; clear T ac; intro ac T
      refine l_w rfl ?_; intro K hK
      refine ow_call (first := []) (cap := []) T rfl rfl rfl rfl evf (.cons (T.ev 2 rfl) (.cons (T.ev 1 rfl) (.cons (T.ev 0 rfl) .nil))) Try.func94 rfl rfl ?_
      refine Calls.mono (rcheckRange_any x0 x1 lo hi _) ?_
      clear T
      rintro e wc ⟨rfl, hb⟩
      intro ac T
      replace M := M.call hb; clear hb
      refine sh_out hK _ _ ?_; clear hK K
      refine l_q T rfl rfl rfl rfl (rn_assign rfl (T.ev 0 rfl)) ?_; clear T ac; intro ac T
      refine wpList_nil ?_
      replace T := T.pick [0, 9, 10, 11, 12] rfl
      refine nm_then ?_
      refine wp_seq ?_
      refine wp_region_lit ?_
      refine l_q T rfl rfl rfl rfl (rn_move rfl (T.ev 0 rfl)) ?_; clear T ac; intro ac T
      refine l_q T rfl rfl rfl rfl (rn_neq rfl (T.ev 0 rfl) evc) ?_; clear T ac; intro ac T
      refine wpList_nil ?_
      replace T := T.pick [0, 2, 3, 4, 5, 6] rfl
      refine nm_then ?_
      refine wp_ifn (T.ev 0 rfl) ?_ ?_
      · intro h2
        refine wp_seq ?_
        refine wp_region_lit ?_
        refine l_q T rfl rfl rfl rfl (rn_move rfl (T.ev 1 rfl)) ?_; clear T ac; intro ac T
        refine l_q T rfl rfl rfl rfl (rn_assign rfl (T.ev 0 rfl)) ?_; clear T ac; intro ac T
        refine wpList_nil ?_
        replace T := T.pick [0] rfl
        refine nm_then ?_
        refine wp_ret ?_
        refine rt_blk ?_
        refine rt_then ?_
        refine rt_then ?_
        refine rt_blk ?_
        refine rt_then ?_
        refine rt_1 T rfl (T.ev 0 rfl) ?_
        rw [if_pos (by simp_all)] at H
        exact ⟨ret_int H.symm, M.below⟩
      · intro h2
        refine wp_skip ?_
        refine nm_blk ?_
        refine nm_then ?_
        refine wp_region_lit ?_
        refine l_q T rfl rfl rfl rfl (rn_move rfl (T.ev 5 rfl)) ?_; clear T ac; intro ac T
        refine l_q T rfl rfl rfl rfl (rn_add rfl (T.ev 0 rfl) evc (by omega)) ?_; clear T ac; intro ac T
        refine l_q (v := (.int .i64 ((k : Int) + 1))) (T.pick [0, 1, 2, 3, 4, 5, 6] rfl) rfl rfl rfl rfl (rn_assign rfl (T.ev 0 rfl)) ?_; clear T ac; intro ac T
        refine wpList_nil ?_
        replace T := T.pick [0, 5, 6, 7] rfl
        refine nm_then ?_
        rw [if_neg (by simp_all)] at H
        exact ⟨_, by omega, k + 1, rfl, (by omega), H, T.pick [1, 2, 3, 0] rfl, M.mask [] rfl⟩
    · intro h1
      rw [List.drop_of_length_le (by omega), chkAll] at H
      refine wp_exit ?_
      refine ex_then ?_
      refine ex_then ?_
      refine ex_hit ?_
      refine nm_then ?_
      refine wp_seq ?_
      refine wp_region_lit ?_
      refine l_q T rfl rfl rfl rfl (rn_assign rfl evc) ?_; clear T ac; intro ac T
      refine wpList_nil ?_
      replace T := T.pick [0] rfl
      refine nm_then ?_
      refine wp_ret ?_
      refine rt_1 T rfl (T.ev 0 rfl) ?_
      exact ⟨ret_int H.symm, M.below⟩

set_option maxRecDepth 100000 in
set_option maxHeartbeats 1000000 in
theorem rCheck_any (j : Jb) (A : Option Addr) (c : Nat) (w : World) (hr : Rd w w.heap.size 2 A j.sh.length (rc j.sh)) (hn : j.sh.length ≤ 9223372036854775807) :
    Calls Try.prog 50 #[jobV j A c] w fun e w' => e = .returned (.int .i64 (checkJ j)) ∧ Below w.heap.size w w' := by
  obtain ⟨bJ, oJ, SJ⟩ := Sp.old hr
  refine px_enter noEx Try.func50 rfl 67 rfl [.agg #[.int .i64 j.p0, .int .i64 j.p1, .int .i64 j.t0, .int .i64 j.t1, .int .i64 j.r0, .int .i64 j.r1, .int .i64 j.u0, .int .i64 j.u1, .int .i64 j.d0, .int .i64 j.d1, .int .i64 j.a0, .int .i64 j.a1, .int .i64 j.b0, .int .i64 j.b1, .int .i64 j.le, .slice A j.sh.length c, .int .i64 j.wi, .int .i64 j.me]] rfl rfl (Mem.init w _) ?_
  intro ac wc T M
  refine wp_seq ?_
  refine wp_region_lit ?_
  refine l_w rfl ?_; intro K hK
  refine ow_bx M T rfl rfl rfl rfl (T.ev 0 rfl) rfl ?_; clear M T; intro g1 wc ac M T
  refine sh_out hK _ _ ?_; clear hK K
  refine l_q T rfl rfl rfl rfl (rn_assign rfl evc) ?_; clear T ac; intro ac T
  refine wpList_nil ?_
  replace T := T.pick [1] rfl
  refine nm_then ?_
  refine wp_seq ?_
  refine wp_seq ?_
  refine wp_region_lit ?_
  refine l_q (v := (.pointer (some ⟨g1, 0, none⟩))) T rfl rfl rfl rfl (rn_fieldAddr (off := 0) rfl (T.ev 0 rfl) (fun _ _ _ => by kernel_rfl)) ?_; clear T ac; intro ac T
  refine l_q (v := (.pointer (some ⟨g1, 0, none⟩))) T rfl rfl rfl rfl (rn_fieldAddr (off := 0) rfl (T.ev 0 rfl) (fun _ _ _ => by kernel_rfl)) ?_; clear T ac; intro ac T
  refine l_q T rfl rfl rfl rfl (rn_rowO (Mem.nth M 0 rfl) rfl (T.ev 0 rfl) rfl) ?_; clear T ac; intro ac T
  refine l_w rfl ?_; intro K hK
  refine ow_call (first := []) (cap := []) T rfl rfl rfl rfl evf (.cons (T.ev 0 rfl) (.cons evc (.cons evc .nil))) Try.func94 rfl rfl ?_
  refine Calls.mono (rcheckRange_any j.p0 j.p1 (-60) 60 _) ?_
  clear T
  rintro e wc ⟨rfl, hb⟩
  intro ac T
  replace M := M.call hb; clear hb
  refine sh_out hK _ _ ?_; clear hK K
  refine l_q T rfl rfl rfl rfl (rn_assign rfl (T.ev 0 rfl)) ?_; clear T ac; intro ac T
  refine wpList_nil ?_
  replace T := T.pick [0, 5] rfl
  refine nm_then ?_
  refine wp_seq ?_
  refine wp_region_lit ?_
  refine l_q T rfl rfl rfl rfl (rn_move rfl (T.ev 0 rfl)) ?_; clear T ac; intro ac T
  refine l_q T rfl rfl rfl rfl (rn_neq rfl (T.ev 0 rfl) evc) ?_; clear T ac; intro ac T
  refine wpList_nil ?_
  replace T := T.pick [0, 2, 3] rfl
  refine nm_then ?_
  refine wp_ifn (T.ev 0 rfl) ?_ ?_
  · intro h1
    refine wp_seq ?_
    refine wp_region_lit ?_
    refine l_q T rfl rfl rfl rfl (rn_move rfl (T.ev 1 rfl)) ?_; clear T ac; intro ac T
    refine l_q T rfl rfl rfl rfl (rn_assign rfl (T.ev 0 rfl)) ?_; clear T ac; intro ac T
    refine wpList_nil ?_
    replace T := T.pick [0] rfl
    replace M := M.mask [false] rfl
    refine nm_then ?_
    refine wp_ret ?_
    refine rt_then ?_
    refine rt_1 T rfl (T.ev 0 rfl) ?_
    refine ⟨ret_int ?_, M.below⟩
    unfold checkJ
    first | (simp_all; done) | (simp_all; omega) | (simp_all; intro h9; omega)
  · intro h1
    refine wp_skip ?_
    refine nm_then ?_
    refine wp_seq ?_
    refine wp_seq ?_
    refine wp_region_lit ?_
    refine l_q (v := (.pointer (some ⟨g1, 0, none⟩))) T rfl rfl rfl rfl (rn_fieldAddr (off := 0) rfl (T.ev 2 rfl) (fun _ _ _ => by kernel_rfl)) ?_; clear T ac; intro ac T
    refine l_q (v := (.pointer (some ⟨g1, 2, none⟩))) T rfl rfl rfl rfl (rn_fieldAddr (off := 2) rfl (T.ev 0 rfl) (fun _ _ _ => by kernel_rfl)) ?_; clear T ac; intro ac T
    refine l_q T rfl rfl rfl rfl (rn_rowO (Mem.nth M 0 rfl) rfl (T.ev 0 rfl) rfl) ?_; clear T ac; intro ac T
    refine l_q (v := (.pointer (some ⟨g1, 0, none⟩))) T rfl rfl rfl rfl (rn_fieldAddr (off := 0) rfl (T.ev 5 rfl) (fun _ _ _ => by kernel_rfl)) ?_; clear T ac; intro ac T
    refine l_q (v := (.pointer (some ⟨g1, 4, none⟩))) T rfl rfl rfl rfl (rn_fieldAddr (off := 4) rfl (T.ev 0 rfl) (fun _ _ _ => by kernel_rfl)) ?_; clear T ac; intro ac T
    refine l_q T rfl rfl rfl rfl (rn_rowO (Mem.nth M 0 rfl) rfl (T.ev 0 rfl) rfl) ?_; clear T ac; intro ac T
    refine l_w rfl ?_; intro K hK
    refine ow_bs (e := 23) [.int .i64 j.t0, .int .i64 j.t1, .int .i64 j.r0, .int .i64 j.r1] M T rfl rfl rfl rfl (.cons (T.ev 3 rfl) (.cons (T.ev 0 rfl) .nil)) (fun _ => by kernel_rfl) ?_; clear M T; intro g2 wc ac M T
    refine sh_out hK _ _ ?_; clear hK K
    refine l_w rfl ?_; intro K hK
    refine ow_call (first := []) (cap := []) T rfl rfl rfl rfl evf (.cons (T.ev 0 rfl) (.cons evc (.cons evc .nil))) Try.func95 rfl rfl ?_
    refine Calls.mono (rcheckAll_any 0 100 _ _ _ [(j.t0, j.t1), (j.r0, j.r1)] _ (M.rdOwn (nthE_mem (i := 0) rfl) rfl rfl) (by first | decide | omega)) ?_
    clear T
    rintro e wc ⟨rfl, hb⟩
    intro ac T
    replace M := M.call hb; clear hb
    refine sh_out hK _ _ ?_; clear hK K
    refine l_q T rfl rfl rfl rfl (rn_assign rfl (T.ev 0 rfl)) ?_; clear T ac; intro ac T
    refine wpList_nil ?_
    replace T := T.pick [0, 11] rfl
    replace M := M.mask [false, true] rfl
    refine nm_then ?_
    refine wp_seq ?_
    refine wp_region_lit ?_
    refine l_q T rfl rfl rfl rfl (rn_move rfl (T.ev 0 rfl)) ?_; clear T ac; intro ac T
    refine l_q T rfl rfl rfl rfl (rn_neq rfl (T.ev 0 rfl) evc) ?_; clear T ac; intro ac T
    refine wpList_nil ?_
    replace T := T.pick [0, 2, 3] rfl
    refine nm_then ?_
    refine wp_ifn (T.ev 0 rfl) ?_ ?_
    · intro h2
      refine wp_seq ?_
      refine wp_region_lit ?_
      refine l_q T rfl rfl rfl rfl (rn_move rfl (T.ev 1 rfl)) ?_; clear T ac; intro ac T
      refine l_q T rfl rfl rfl rfl (rn_assign rfl (T.ev 0 rfl)) ?_; clear T ac; intro ac T
      refine wpList_nil ?_
      replace T := T.pick [0] rfl
      replace M := M.mask [false] rfl
      refine nm_then ?_
      refine wp_ret ?_
      refine rt_then ?_
      refine rt_1 T rfl (T.ev 0 rfl) ?_
      refine ⟨ret_int ?_, M.below⟩
      unfold checkJ
      first | (simp_all; done) | (simp_all; omega) | (simp_all; intro h9; omega)
    · intro h2
      refine wp_skip ?_
      refine nm_then ?_
      refine wp_seq ?_
      refine wp_seq ?_
      refine wp_region_lit ?_
      refine l_q (v := (.pointer (some ⟨g1, 6, none⟩))) T rfl rfl rfl rfl (rn_fieldAddr (off := 6) rfl (T.ev 2 rfl) (fun _ _ _ => by kernel_rfl)) ?_; clear T ac; intro ac T
      refine l_q (v := (.pointer (some ⟨g1, 6, none⟩))) T rfl rfl rfl rfl (rn_fieldAddr (off := 0) rfl (T.ev 0 rfl) (fun _ _ _ => by kernel_rfl)) ?_; clear T ac; intro ac T
      refine l_q T rfl rfl rfl rfl (rn_rowO (Mem.nth M 0 rfl) rfl (T.ev 0 rfl) rfl) ?_; clear T ac; intro ac T
      refine l_q (v := (.pointer (some ⟨g1, 6, none⟩))) T rfl rfl rfl rfl (rn_fieldAddr (off := 6) rfl (T.ev 5 rfl) (fun _ _ _ => by kernel_rfl)) ?_; clear T ac; intro ac T
      refine l_q (v := (.pointer (some ⟨g1, 8, none⟩))) T rfl rfl rfl rfl (rn_fieldAddr (off := 2) rfl (T.ev 0 rfl) (fun _ _ _ => by kernel_rfl)) ?_; clear T ac; intro ac T
      refine l_q T rfl rfl rfl rfl (rn_rowO (Mem.nth M 0 rfl) rfl (T.ev 0 rfl) rfl) ?_; clear T ac; intro ac T
      refine l_q (v := (.pointer (some ⟨g1, 6, none⟩))) T rfl rfl rfl rfl (rn_fieldAddr (off := 6) rfl (T.ev 8 rfl) (fun _ _ _ => by kernel_rfl)) ?_; clear T ac; intro ac T
      refine l_q (v := (.pointer (some ⟨g1, 10, none⟩))) T rfl rfl rfl rfl (rn_fieldAddr (off := 4) rfl (T.ev 0 rfl) (fun _ _ _ => by kernel_rfl)) ?_; clear T ac; intro ac T
      refine l_q T rfl rfl rfl rfl (rn_rowO (Mem.nth M 0 rfl) rfl (T.ev 0 rfl) rfl) ?_; clear T ac; intro ac T
      refine l_q (v := (.pointer (some ⟨g1, 6, none⟩))) T rfl rfl rfl rfl (rn_fieldAddr (off := 6) rfl (T.ev 11 rfl) (fun _ _ _ => by kernel_rfl)) ?_; clear T ac; intro ac T
      refine l_q (v := (.pointer (some ⟨g1, 12, none⟩))) T rfl rfl rfl rfl (rn_fieldAddr (off := 6) rfl (T.ev 0 rfl) (fun _ _ _ => by kernel_rfl)) ?_; clear T ac; intro ac T
      refine l_q T rfl rfl rfl rfl (rn_rowO (Mem.nth M 0 rfl) rfl (T.ev 0 rfl) rfl) ?_; clear T ac; intro ac T
      refine l_w rfl ?_; intro K hK
      refine ow_bs (e := 23) [.int .i64 j.u0, .int .i64 j.u1, .int .i64 j.d0, .int .i64 j.d1, .int .i64 j.a0, .int .i64 j.a1, .int .i64 j.b0, .int .i64 j.b1] M T rfl rfl rfl rfl (.cons (T.ev 9 rfl) (.cons (T.ev 6 rfl) (.cons (T.ev 3 rfl) (.cons (T.ev 0 rfl) .nil)))) (fun _ => by kernel_rfl) ?_; clear M T; intro g3 wc ac M T
      refine sh_out hK _ _ ?_; clear hK K
      refine l_w rfl ?_; intro K hK
      refine ow_call (first := []) (cap := []) T rfl rfl rfl rfl evf (.cons (T.ev 0 rfl) (.cons evc (.cons evc .nil))) Try.func95 rfl rfl ?_
      refine Calls.mono (rcheckAll_any 0 12 _ _ _ [(j.u0, j.u1), (j.d0, j.d1), (j.a0, j.a1), (j.b0, j.b1)] _ (M.rdOwn (nthE_mem (i := 0) rfl) rfl rfl) (by first | decide | omega)) ?_
      clear T
      rintro e wc ⟨rfl, hb⟩
      intro ac T
      replace M := M.call hb; clear hb
      refine sh_out hK _ _ ?_; clear hK K
      refine l_q T rfl rfl rfl rfl (rn_assign rfl (T.ev 0 rfl)) ?_; clear T ac; intro ac T
      refine wpList_nil ?_
      replace T := T.pick [0, 17] rfl
      replace M := M.mask [false, true] rfl
      refine nm_then ?_
      refine wp_seq ?_
      refine wp_region_lit ?_
      refine l_q T rfl rfl rfl rfl (rn_move rfl (T.ev 0 rfl)) ?_; clear T ac; intro ac T
      refine l_q T rfl rfl rfl rfl (rn_neq rfl (T.ev 0 rfl) evc) ?_; clear T ac; intro ac T
      refine wpList_nil ?_
      replace T := T.pick [0, 2, 3] rfl
      refine nm_then ?_
      refine wp_ifn (T.ev 0 rfl) ?_ ?_
      · intro h3
        refine wp_seq ?_
        refine wp_region_lit ?_
        refine l_q T rfl rfl rfl rfl (rn_move rfl (T.ev 1 rfl)) ?_; clear T ac; intro ac T
        refine l_q T rfl rfl rfl rfl (rn_assign rfl (T.ev 0 rfl)) ?_; clear T ac; intro ac T
        refine wpList_nil ?_
        replace T := T.pick [0] rfl
        replace M := M.mask [false] rfl
        refine nm_then ?_
        refine wp_ret ?_
        refine rt_then ?_
        refine rt_1 T rfl (T.ev 0 rfl) ?_
        refine ⟨ret_int ?_, M.below⟩
        unfold checkJ
        first | (simp_all; done) | (simp_all; omega) | (simp_all; intro h9; omega)
      · intro h3
        refine wp_skip ?_
        refine nm_then ?_
        refine wp_seq ?_
        refine wp_seq ?_
        refine wp_region_lit ?_
        refine l_q (v := (.pointer (some ⟨g1, 6, none⟩))) T rfl rfl rfl rfl (rn_fieldAddr (off := 6) rfl (T.ev 2 rfl) (fun _ _ _ => by kernel_rfl)) ?_; clear T ac; intro ac T
        refine l_q (v := (.pointer (some ⟨g1, 14, none⟩))) T rfl rfl rfl rfl (rn_fieldAddr (off := 8) rfl (T.ev 0 rfl) (fun _ _ _ => by kernel_rfl)) ?_; clear T ac; intro ac T
        refine l_q T rfl rfl rfl rfl (rn_one (Mem.nth M 0 rfl) rfl (T.ev 0 rfl) rfl) ?_; clear T ac; intro ac T
        refine l_w rfl ?_; intro K hK
        refine ow_call (first := []) (cap := []) T rfl rfl rfl rfl evf (.cons (T.ev 0 rfl) (.cons evc (.cons evc .nil))) Try.func90 rfl rfl ?_
        refine Calls.mono (among_any j.le 0 100 _) ?_
        clear T
        rintro e wc ⟨rfl, hb⟩
        intro ac T
        replace M := M.call hb; clear hb
        refine sh_out hK _ _ ?_; clear hK K
        refine l_q T rfl rfl rfl rfl (rn_not rfl (T.ev 0 rfl)) ?_; clear T ac; intro ac T
        refine wpList_nil ?_
        replace T := T.pick [0, 7] rfl
        refine nm_then ?_
        refine wp_cond_split (T.ev 0 rfl) ?_ ?_
        · intro h4
          (try have h4' := h4; try simp only [Bool.and_eq_true, Bool.or_eq_true, Bool.not_eq_true', Bool.and_eq_false_imp, Bool.or_eq_false_iff, decide_eq_true_eq, decide_eq_false_iff_not] at h4')
          refine wp_seq ?_
          refine wp_region_lit ?_
          refine l_q T rfl rfl rfl rfl (rn_assign rfl evc) ?_; clear T ac; intro ac T
          refine wpList_nil ?_
          replace T := T.pick [0] rfl
          replace M := M.mask [false] rfl
          refine nm_then ?_
          refine wp_ret ?_
          refine rt_then ?_
          refine rt_1 T rfl (T.ev 0 rfl) ?_
          refine ⟨ret_int ?_, M.below⟩
          unfold checkJ
          first | (simp_all; done) | (simp_all; omega) | (simp_all; intro h9; omega)
        · intro h4
          (try have h4' := h4; try simp only [Bool.and_eq_true, Bool.or_eq_true, Bool.not_eq_true', Bool.and_eq_false_imp, Bool.or_eq_false_iff, decide_eq_true_eq, decide_eq_false_iff_not] at h4')
          refine wp_skip ?_
          refine nm_then ?_
          refine wp_seq ?_
          refine wp_seq ?_
          refine wp_region_lit ?_
          refine l_q (v := (.pointer (some ⟨g1, 15, none⟩))) T rfl rfl rfl rfl (rn_fieldAddr (off := 15) rfl (T.ev 1 rfl) (fun _ _ _ => by kernel_rfl)) ?_; clear T ac; intro ac T
          refine l_q T rfl rfl rfl rfl (rn_one (Mem.nth M 0 rfl) rfl (T.ev 0 rfl) rfl) ?_; clear T ac; intro ac T
          refine l_q T rfl rfl rfl rfl (rn_lenS rfl Try.underlying28 (T.ev 0 rfl)) ?_; clear T ac; intro ac T
          refine l_q T rfl rfl rfl rfl (rn_gtr rfl (T.ev 0 rfl) evc) ?_; clear T ac; intro ac T
          refine wpList_nil ?_
          replace T := T.pick [0, 5] rfl
          refine nm_then ?_
          refine wp_if (T.ev 0 rfl) ?_ ?_
          · intro h5
            refine wp_seq ?_
            refine wp_region_lit ?_
            refine l_q T rfl rfl rfl rfl (rn_assign rfl evc) ?_; clear T ac; intro ac T
            refine wpList_nil ?_
            replace T := T.pick [0] rfl
            replace M := M.mask [false] rfl
            refine nm_then ?_
            refine wp_ret ?_
            refine rt_then ?_
            refine rt_1 T rfl (T.ev 0 rfl) ?_
            refine ⟨ret_int ?_, M.below⟩
            unfold checkJ
            first | (simp_all; done) | (simp_all; omega) | (simp_all; intro h9; omega)
          · intro h5
            refine wp_skip ?_
            refine nm_then ?_
            refine wp_seq ?_
            refine wp_seq ?_
            refine wp_region_lit ?_
            refine l_q (v := (.pointer (some ⟨g1, 15, none⟩))) T rfl rfl rfl rfl (rn_fieldAddr (off := 15) rfl (T.ev 1 rfl) (fun _ _ _ => by kernel_rfl)) ?_; clear T ac; intro ac T
            refine l_q T rfl rfl rfl rfl (rn_one (Mem.nth M 0 rfl) rfl (T.ev 0 rfl) rfl) ?_; clear T ac; intro ac T
            refine l_w rfl ?_; intro K hK
            refine ow_call (first := []) (cap := []) T rfl rfl rfl rfl evf (.cons (T.ev 0 rfl) (.cons evc (.cons evc .nil))) Try.func95 rfl rfl ?_
            refine Calls.mono (rcheckAll_any (-60) 60 _ _ _ j.sh _ (SJ.rd M (List.nil_sublist _)) (by first | decide | omega)) ?_
            clear T
            rintro e wc ⟨rfl, hb⟩
            intro ac T
            replace M := M.call hb; clear hb
            refine sh_out hK _ _ ?_; clear hK K
            refine l_q T rfl rfl rfl rfl (rn_assign rfl (T.ev 0 rfl)) ?_; clear T ac; intro ac T
            refine wpList_nil ?_
            replace T := T.pick [0, 5] rfl
            refine nm_then ?_
            refine wp_seq ?_
            refine wp_region_lit ?_
            refine l_q T rfl rfl rfl rfl (rn_move rfl (T.ev 0 rfl)) ?_; clear T ac; intro ac T
            refine l_q T rfl rfl rfl rfl (rn_neq rfl (T.ev 0 rfl) evc) ?_; clear T ac; intro ac T
            refine wpList_nil ?_
            replace T := T.pick [0, 2, 3] rfl
            refine nm_then ?_
            refine wp_ifn (T.ev 0 rfl) ?_ ?_
            · intro h6
              refine wp_seq ?_
              refine wp_region_lit ?_
              refine l_q T rfl rfl rfl rfl (rn_move rfl (T.ev 1 rfl)) ?_; clear T ac; intro ac T
              refine l_q T rfl rfl rfl rfl (rn_assign rfl (T.ev 0 rfl)) ?_; clear T ac; intro ac T
              refine wpList_nil ?_
              replace T := T.pick [0] rfl
              replace M := M.mask [false] rfl
              refine nm_then ?_
              refine wp_ret ?_
              refine rt_then ?_
              refine rt_1 T rfl (T.ev 0 rfl) ?_
              refine ⟨ret_int ?_, M.below⟩
              unfold checkJ
              first | (simp_all; done) | (simp_all; omega) | (simp_all; intro h9; omega)
            · intro h6
              refine wp_skip ?_
              refine nm_then ?_
              refine wp_seq ?_
              refine cut_seq (fun ac wc => Tm ac 67 [(66, .bool ((!(withinB j.wi 0 60)) || (!(withinB j.me 0 6))))] ∧ Mem w noEx wc []) ?_ ?_
              · refine wp_region_lit ?_
                refine l_q (v := (.pointer (some ⟨g1, 16, none⟩))) T rfl rfl rfl rfl (rn_fieldAddr (off := 16) rfl (T.ev 2 rfl) (fun _ _ _ => by kernel_rfl)) ?_; clear T ac; intro ac T
                refine l_q T rfl rfl rfl rfl (rn_one (Mem.nth M 0 rfl) rfl (T.ev 0 rfl) rfl) ?_; clear T ac; intro ac T
                refine l_w rfl ?_; intro K hK
                refine ow_call (first := []) (cap := []) T rfl rfl rfl rfl evf (.cons (T.ev 0 rfl) (.cons evc (.cons evc .nil))) Try.func90 rfl rfl ?_
                refine Calls.mono (among_any j.wi 0 60 _) ?_
                clear T
                rintro e wc ⟨rfl, hb⟩
                intro ac T
                replace M := M.call hb; clear hb
                refine sh_out hK _ _ ?_; clear hK K
                refine l_q T rfl rfl rfl rfl (rn_not rfl (T.ev 0 rfl)) ?_; clear T ac; intro ac T
                refine l_q T rfl rfl rfl rfl (rn_move rfl (T.ev 0 rfl)) ?_; clear T ac; intro ac T
                rcases Bool.eq_false_or_eq_true (!(withinB j.wi 0 60)) with h7 | h7
                · refine l_pass T (wanted_no rfl rfl (T.ev 0 rfl) h7) rfl rfl rfl ?_; clear T ac; intro ac T
                  refine l_pass T (wanted_no rfl rfl (T.ev 1 rfl) h7) rfl rfl rfl ?_; clear T ac; intro ac T
                  refine l_pass T (wanted_no rfl rfl (T.ev 2 rfl) h7) rfl rfl rfl ?_; clear T ac; intro ac T
                  refine l_pass T (wanted_no rfl rfl (T.ev 3 rfl) h7) rfl rfl rfl ?_; clear T ac; intro ac T
                  refine l_q T rfl rfl rfl rfl (rn_pick1 rfl (T.ev 4 rfl) h7 evc) ?_; clear T ac; intro ac T
                  refine wpList_nil ?_
                  replace T := T.pick [0] rfl
                  replace M := M.mask [false] rfl
                  exact ⟨(T.pick (E' := [(66, .bool true)]) [0] rfl).as (by (try rw [show (!(withinB j.wi 0 60)) = true from h7]); rfl), M.mask [] rfl⟩
                · refine l_q (v := (.pointer (some ⟨g1, 17, none⟩))) T (wanted_yes rfl rfl (T.ev 0 rfl) h7) rfl rfl rfl (rn_fieldAddr (off := 17) rfl (T.ev 7 rfl) (fun _ _ _ => by kernel_rfl)) ?_; clear T ac; intro ac T
                  refine l_q T (wanted_yes rfl rfl (T.ev 1 rfl) h7) rfl rfl rfl (rn_one (Mem.nth M 0 rfl) rfl (T.ev 0 rfl) rfl) ?_; clear T ac; intro ac T
                  refine l_w (wanted_yes rfl rfl (T.ev 2 rfl) h7) ?_; intro K hK
                  refine ow_call (first := []) (cap := []) T rfl rfl rfl rfl evf (.cons (T.ev 0 rfl) (.cons evc (.cons evc .nil))) Try.func90 rfl rfl ?_
                  refine Calls.mono (among_any j.me 0 6 _) ?_
                  clear T
                  rintro e wc ⟨rfl, hb⟩
                  intro ac T
                  replace M := M.call hb; clear hb
                  refine sh_out hK _ _ ?_; clear hK K
                  refine l_q T (wanted_yes rfl rfl (T.ev 3 rfl) h7) rfl rfl rfl (rn_not rfl (T.ev 0 rfl)) ?_; clear T ac; intro ac T
                  refine l_q T rfl rfl rfl rfl (rn_pick0 rfl (T.ev 4 rfl) h7 (T.ev 0 rfl)) ?_; clear T ac; intro ac T
                  refine wpList_nil ?_
                  replace T := T.pick [0] rfl
                  replace M := M.mask [false] rfl
                  exact ⟨(T.pick (E' := [(66, .bool (!(withinB j.me 0 6)))]) [0] rfl).as (by (try rw [show (!(withinB j.wi 0 60)) = false from h7]); rfl), M.mask [] rfl⟩
              · clear T M
                rintro ac wc ⟨T, M⟩
                refine wp_cond_split (T.ev 0 rfl) ?_ ?_
                · intro h8
                  (try have h8' := h8; try simp only [Bool.and_eq_true, Bool.or_eq_true, Bool.not_eq_true', Bool.and_eq_false_imp, Bool.or_eq_false_iff, decide_eq_true_eq, decide_eq_false_iff_not] at h8')
                  refine wp_seq ?_
                  refine wp_region_lit ?_
                  refine l_q T rfl rfl rfl rfl (rn_assign rfl evc) ?_; clear T ac; intro ac T
                  refine wpList_nil ?_
                  replace T := T.pick [0] rfl
                  refine nm_then ?_
                  refine wp_ret ?_
                  refine rt_then ?_
                  refine rt_1 T rfl (T.ev 0 rfl) ?_
                  refine ⟨ret_int ?_, M.below⟩
                  unfold checkJ
                  first | (simp_all; done) | (simp_all; omega) | (simp_all; intro h9; omega)
                · intro h8
                  (try have h8' := h8; try simp only [Bool.and_eq_true, Bool.or_eq_true, Bool.not_eq_true', Bool.and_eq_false_imp, Bool.or_eq_false_iff, decide_eq_true_eq, decide_eq_false_iff_not] at h8')
                  refine wp_skip ?_
                  refine nm_then ?_
                  refine wp_seq ?_
                  refine wp_region_lit ?_
                  refine l_q T rfl rfl rfl rfl (rn_assign rfl evc) ?_; clear T ac; intro ac T
                  refine wpList_nil ?_
                  replace T := T.pick [0] rfl
                  refine nm_then ?_
                  refine wp_ret ?_
                  refine rt_1 T rfl (T.ev 0 rfl) ?_
                  refine ⟨ret_int ?_, M.below⟩
                  unfold checkJ
                  first | (simp_all; done) | (simp_all; omega) | (simp_all; intro h9; omega)

set_option maxRecDepth 100000 in
set_option maxHeartbeats 1000000 in
theorem inside_any (x0 x1 y0 y1 : Int) (w : World)  :
    Calls Try.prog 79 #[.agg #[.int .i64 x0, .int .i64 x1], .agg #[.int .i64 y0, .int .i64 y1]] w fun e w' => e = .returned (.bool (hasB y0 y1 x0 x1)) ∧ Below w.heap.size w w' := by
  refine px_enter noEx Try.func79 rfl 17 rfl [.agg #[.int .i64 x0, .int .i64 x1], .agg #[.int .i64 y0, .int .i64 y1]] rfl rfl (Mem.init w _) ?_
  intro ac wc T M
  refine wp_seq ?_
  refine wp_region_lit ?_
  refine l_w rfl ?_; intro K hK
  refine ow_bx M T rfl rfl rfl rfl (T.ev 0 rfl) rfl ?_; clear M T; intro g1 wc ac M T
  refine sh_out hK _ _ ?_; clear hK K
  refine l_w rfl ?_; intro K hK
  refine ow_bx M T rfl rfl rfl rfl (T.ev 2 rfl) rfl ?_; clear M T; intro g2 wc ac M T
  refine sh_out hK _ _ ?_; clear hK K
  refine l_q T rfl rfl rfl rfl (rn_assign rfl evc) ?_; clear T ac; intro ac T
  refine wpList_nil ?_
  replace T := T.pick [1, 2] rfl
  refine nm_then ?_
  refine cut_seq (fun ac wc => Tm ac 17 [(4, .bool ((decide (y0 ≤ x0)) && (decide (x1 ≤ y1))))] ∧ Mem w noEx wc []) ?_ ?_
  · refine wp_region_lit ?_
    refine l_q (v := (.pointer (some ⟨g1, 0, none⟩))) T rfl rfl rfl rfl (rn_fieldAddr (off := 0) rfl (T.ev 1 rfl) (fun _ _ _ => by kernel_rfl)) ?_; clear T ac; intro ac T
    refine l_q T rfl rfl rfl rfl (rn_one (Mem.nth M 1 rfl) rfl (T.ev 0 rfl) rfl) ?_; clear T ac; intro ac T
    refine l_q (v := (.pointer (some ⟨g2, 0, none⟩))) T rfl rfl rfl rfl (rn_fieldAddr (off := 0) rfl (T.ev 2 rfl) (fun _ _ _ => by kernel_rfl)) ?_; clear T ac; intro ac T
    refine l_q T rfl rfl rfl rfl (rn_one (Mem.nth M 0 rfl) rfl (T.ev 0 rfl) rfl) ?_; clear T ac; intro ac T
    refine l_q T rfl rfl rfl rfl (rn_geq rfl (T.ev 2 rfl) (T.ev 0 rfl)) ?_; clear T ac; intro ac T
    refine l_q T rfl rfl rfl rfl (rn_move rfl (T.ev 0 rfl)) ?_; clear T ac; intro ac T
    rcases Bool.eq_false_or_eq_true (decide (y0 ≤ x0)) with h1 | h1
    · replace h1 := of_decide_eq_true h1
      refine l_q (v := (.pointer (some ⟨g1, 1, none⟩))) T (wanted_yes rfl rfl (T.ev 0 rfl) (decide_eq_true h1)) rfl rfl rfl (rn_fieldAddr (off := 1) rfl (T.ev 7 rfl) (fun _ _ _ => by kernel_rfl)) ?_; clear T ac; intro ac T
      refine l_q T (wanted_yes rfl rfl (T.ev 1 rfl) (decide_eq_true h1)) rfl rfl rfl (rn_one (Mem.nth M 1 rfl) rfl (T.ev 0 rfl) rfl) ?_; clear T ac; intro ac T
      refine l_q (v := (.pointer (some ⟨g2, 1, none⟩))) T (wanted_yes rfl rfl (T.ev 2 rfl) (decide_eq_true h1)) rfl rfl rfl (rn_fieldAddr (off := 1) rfl (T.ev 8 rfl) (fun _ _ _ => by kernel_rfl)) ?_; clear T ac; intro ac T
      refine l_q T (wanted_yes rfl rfl (T.ev 3 rfl) (decide_eq_true h1)) rfl rfl rfl (rn_one (Mem.nth M 0 rfl) rfl (T.ev 0 rfl) rfl) ?_; clear T ac; intro ac T
      refine l_q T (wanted_yes rfl rfl (T.ev 4 rfl) (decide_eq_true h1)) rfl rfl rfl (rn_leq rfl (T.ev 2 rfl) (T.ev 0 rfl)) ?_; clear T ac; intro ac T
      refine l_q T rfl rfl rfl rfl (rn_pick1 rfl (T.ev 5 rfl) (decide_eq_true h1) (T.ev 0 rfl)) ?_; clear T ac; intro ac T
      refine l_q T rfl rfl rfl rfl (rn_assign rfl (T.ev 0 rfl)) ?_; clear T ac; intro ac T
      refine wpList_nil ?_
      replace T := T.pick [0] rfl
      replace M := M.mask [false, false] rfl
      exact ⟨(T.pick (E' := [(4, .bool (decide (x1 ≤ y1)))]) [0] rfl).as (by (try rw [show (decide (y0 ≤ x0)) = true from (decide_eq_true h1)]); rfl), M.mask [] rfl⟩
    · replace h1 := of_decide_eq_false h1
      refine l_pass T (wanted_no rfl rfl (T.ev 0 rfl) (decide_eq_false h1)) rfl rfl rfl ?_; clear T ac; intro ac T
      refine l_pass T (wanted_no rfl rfl (T.ev 1 rfl) (decide_eq_false h1)) rfl rfl rfl ?_; clear T ac; intro ac T
      refine l_pass T (wanted_no rfl rfl (T.ev 2 rfl) (decide_eq_false h1)) rfl rfl rfl ?_; clear T ac; intro ac T
      refine l_pass T (wanted_no rfl rfl (T.ev 3 rfl) (decide_eq_false h1)) rfl rfl rfl ?_; clear T ac; intro ac T
      refine l_pass T (wanted_no rfl rfl (T.ev 4 rfl) (decide_eq_false h1)) rfl rfl rfl ?_; clear T ac; intro ac T
      refine l_q T rfl rfl rfl rfl (rn_pick0 rfl (T.ev 5 rfl) (decide_eq_false h1) evc) ?_; clear T ac; intro ac T
      refine l_q T rfl rfl rfl rfl (rn_assign rfl (T.ev 0 rfl)) ?_; clear T ac; intro ac T
      refine wpList_nil ?_
      replace T := T.pick [0] rfl
      replace M := M.mask [false, false] rfl
      exact ⟨(T.pick (E' := [(4, .bool false)]) [0] rfl).as (by (try rw [show (decide (y0 ≤ x0)) = false from (decide_eq_false h1)]); rfl), M.mask [] rfl⟩
  · clear T M
    rintro ac wc ⟨T, M⟩
    refine wp_ret ?_
    refine rt_1 T rfl (T.ev 0 rfl) ?_
    exact ⟨ret_bool (by unfold hasB; simp), M.below⟩

end Go.Proofs.Ythlpceoajhcliaa
end

section
/-
  reed: strokes that may be.
-/
namespace Go.Proofs.Ythlpceoajhcliaa
set_option linter.unusedSimpArgs false
set_option linter.unusedVariables false
open Go.RowKit

def okS (k : Int) : Bool := k == 1 || k == 2
def chkS : List Int → Int
  | [] => 0
  | k :: r => if okS k then chkS r else 8
def checkStrokesJ (j : Jb) (l : List Int) : Int := if (checkJ j != 0) = true then checkJ j else if 6 < l.length then 6 else chkS l

set_option maxHeartbeats 1000000 in
theorem checkStrokes_any (j : Jb) (A : Option Addr) (c : Nat) (B : Option Addr) (d n : Nat) (l : List Int) (w : World) (hr : Rd w w.heap.size 2 A j.sh.length (rc j.sh)) (hn : j.sh.length ≤ 9223372036854775807) (hl : Rd w w.heap.size 1 B n (ic l)) (hm : n ≤ 9223372036854775807) :
    Calls Try.prog 83 #[jobV j A c, .slice B n d] w fun e w' => e = .returned (.int .i64 (checkStrokesJ j l)) ∧ Below w.heap.size w w' := by
  have HR := Lib.hid hr
  have HL := Lib.hid hl
  have HN := Lib.hid hl.len1
  clear hr hl
  have q0 := Bk.new w 30 #[.int .i64 j.p0, .int .i64 j.p1, .int .i64 j.t0, .int .i64 j.t1, .int .i64 j.r0, .int .i64 j.r1, .int .i64 j.u0, .int .i64 j.u1, .int .i64 j.d0, .int .i64 j.d1, .int .i64 j.a0, .int .i64 j.a1, .int .i64 j.b0, .int .i64 j.b1, .int .i64 j.le, .slice A j.sh.length c, .int .i64 j.wi, .int .i64 j.me]
  by_cases h0 : (checkJ j != 0) = true
  · go_enter Try.func83, Try.ntmps83
    go_wp2_with (first | (refine wpList_load_blk (by rfl) 30 (.tmp 2) (by rfl) _ (by rfl) _ q0 _ Try.underlying30 (by rfl) (by kernel_rfl) ?_) | (go_at_call 49; ((with_reducible refine (check_any j _ _ _ ?_ ?_).mono ?_); (exact (HR.out.below (by (repeat' (first | (with_reducible exact Below.refl _ _) | (with_reducible refine Below.alloc ?_ ?_ _) | (with_reducible refine Below.setCell ?_ ?_ _) | (with_reducible refine Below.drew ?_) | ((with_reducible refine Below.trans ?_ (Below.mono (by assumption) ?_))) | go_size)))).more (by go_size)); (exact hn); rintro e w1 ⟨rfl, hb1⟩; have hz1 := hb1.size; (try simp only [World.size_alloc] at hz1))))
    go_ret
    exact ⟨ret_int (by unfold checkStrokesJ; rw [if_pos h0]), by (repeat' (first | (with_reducible exact Below.refl _ _) | (with_reducible refine Below.alloc ?_ ?_ _) | (with_reducible refine Below.setCell ?_ ?_ _) | (with_reducible refine Below.drew ?_) | ((with_reducible refine Below.trans ?_ (Below.mono (by assumption) ?_))) | go_size))⟩
  have h0 : (checkJ j != 0) = false := by simpa using h0
  by_cases h6 : 6 < n
  · go_enter Try.func83, Try.ntmps83
    go_wp2_with (first | (refine wpList_load_blk (by rfl) 30 (.tmp 2) (by rfl) _ (by rfl) _ q0 _ Try.underlying30 (by rfl) (by kernel_rfl) ?_) | (go_at_call 49; ((with_reducible refine (check_any j _ _ _ ?_ ?_).mono ?_); (exact (HR.out.below (by (repeat' (first | (with_reducible exact Below.refl _ _) | (with_reducible refine Below.alloc ?_ ?_ _) | (with_reducible refine Below.setCell ?_ ?_ _) | (with_reducible refine Below.drew ?_) | ((with_reducible refine Below.trans ?_ (Below.mono (by assumption) ?_))) | go_size)))).more (by go_size)); (exact hn); rintro e w1 ⟨rfl, hb1⟩; have hz1 := hb1.size; (try simp only [World.size_alloc] at hz1))))
    go_ret
    exact ⟨ret_int (by unfold checkStrokesJ; rw [if_neg (by rw [h0]; simp), if_pos (by have := HN.out; omega)]), by (repeat' (first | (with_reducible exact Below.refl _ _) | (with_reducible refine Below.alloc ?_ ?_ _) | (with_reducible refine Below.setCell ?_ ?_ _) | (with_reducible refine Below.drew ?_) | ((with_reducible refine Below.trans ?_ (Below.mono (by assumption) ?_))) | go_size))⟩
  have h6' : n ≤ 6 := by omega
  have HE : Hid (checkStrokesJ j l = chkS l) := by show _ = _; unfold checkStrokesJ; rw [if_neg (by rw [h0]; simp), if_neg (by have := HN.out; omega)]
  clear h6
  go_enter Try.func83, Try.ntmps83
  go_wp2_with (first | (refine wpList_load_blk (by rfl) 30 (.tmp 2) (by rfl) _ (by rfl) _ q0 _ Try.underlying30 (by rfl) (by kernel_rfl) ?_) | (go_at_call 49; ((with_reducible refine (check_any j _ _ _ ?_ ?_).mono ?_); (exact (HR.out.below (by (repeat' (first | (with_reducible exact Below.refl _ _) | (with_reducible refine Below.alloc ?_ ?_ _) | (with_reducible refine Below.setCell ?_ ?_ _) | (with_reducible refine Below.drew ?_) | ((with_reducible refine Below.trans ?_ (Below.mono (by assumption) ?_))) | go_size)))).more (by go_size)); (exact hn); rintro e w1 ⟨rfl, hb1⟩; have hz1 := hb1.size; (try simp only [World.size_alloc] at hz1))))
  have hbw : Below w.heap.size w w1 := by (repeat' (first | (with_reducible exact Below.refl _ _) | (with_reducible refine Below.alloc ?_ ?_ _) | (with_reducible refine Below.setCell ?_ ?_ _) | (with_reducible refine Below.drew ?_) | ((with_reducible refine Below.trans ?_ (Below.mono (by assumption) ?_))) | go_size))
  clear hb1
  go_loopw [18] (fun i wr => ∃ k : Nat, k ≤ n ∧ i = .int .i64 k ∧ Hid (chkS l = chkS (l.drop k)) ∧ Below w.heap.size w wr) (fun i _ => n - (intOf i).toNat)
  case atStart => exact ⟨0, Nat.zero_le _, rfl, rfl, hbw⟩
  case round =>
    obtain ⟨k, hk, rfl, he, hb⟩ := hrel
    by_cases hlt : k < n
    · obtain ⟨b, o, x, rfl, hbb, hd, d0⟩ := (HL.out.below hb).at1 hlt
      have HD := Lib.hid hd
      clear hd
      have hz := hb.size
      by_cases h1 : x = 1
      · subst h1
        go_wp2
        go_roundw
        case rel => exact ⟨k + 1, by omega, by go_num, by (show _ = _; rw [he.out, HD.out]; rfl), hb⟩
        case measure => simp [intOf]; omega
      · have e1 : (x != 1) = true := by simpa using h1
        by_cases h2 : x = 2
        · subst h2
          go_wp2
          go_roundw
          case rel => exact ⟨k + 1, by omega, by go_num, by (show _ = _; rw [he.out, HD.out]; rfl), hb⟩
          case measure => simp [intOf]; omega
        · have e2 : (x != 2) = true := by simpa using h2
          go_wp2
          go_ret
          exact ⟨ret_int (by rw [HE.out, he.out, HD.out, chkS, if_neg (by unfold okS; simp [h1, h2])]), hb⟩
    · go_wp2
      go_ret
      exact ⟨ret_int (by rw [HE.out, he.out, List.drop_of_length_le (by have := HN.out; omega)]; rfl), hb⟩

end Go.Proofs.Ythlpceoajhcliaa
end

section
/-
  reed: a tongue after some strokes, in plain words.
-/
namespace Go.Proofs.Ythlpceoajhcliaa
set_option linter.unusedSimpArgs false
set_option linter.unusedVariables false
open Go.RowKit

def Jb.st (j : Jb) : St := ⟨j.p0, j.p1, j.t0, j.t1, j.r0, j.r1, j.u0, j.u1, j.d0, j.d1, j.a0, j.a1, j.b0, j.b1, j.le⟩
def St.filed (s : St) (k : Int) : St := if k = 1 then s.tip else s.root
def St.after (s : St) (l : List Int) : St := l.foldl St.filed s
/-- All numbers of a tongue are within m. -/
structure St.upTo (s : St) (m : Int) : Prop where
  p0 : -m ≤ s.p0 ∧ s.p0 ≤ m
  p1 : -m ≤ s.p1 ∧ s.p1 ≤ m
  t0 : -m ≤ s.t0 ∧ s.t0 ≤ m
  t1 : -m ≤ s.t1 ∧ s.t1 ≤ m
  r0 : -m ≤ s.r0 ∧ s.r0 ≤ m
  r1 : -m ≤ s.r1 ∧ s.r1 ≤ m
  u0 : -100 ≤ s.u0 ∧ s.u0 ≤ 100
  u1 : -100 ≤ s.u1 ∧ s.u1 ≤ 100
  d0 : -100 ≤ s.d0 ∧ s.d0 ≤ 100
  d1 : -100 ≤ s.d1 ∧ s.d1 ≤ 100
  a0 : -100 ≤ s.a0 ∧ s.a0 ≤ 100
  a1 : -100 ≤ s.a1 ∧ s.a1 ≤ 100
  b0 : -100 ≤ s.b0 ∧ s.b0 ≤ 100
  b1 : -100 ≤ s.b1 ∧ s.b1 ≤ 100
theorem St.upTo.ok {s : St} {m : Int} (h : s.upTo m) (hm : m ≤ 1000000) : s.ok := by
  obtain ⟨h1, h2, h3, h4, h5, h6, h7, h8, h9, h10, h11, h12, h13, h14⟩ := h
  constructor <;> omega
theorem St.upTo.filed {s : St} {m : Int} (h : s.upTo m) (k : Int) : (s.filed k).upTo (m + 100) := by
  obtain ⟨h1, h2, h3, h4, h5, h6, h7, h8, h9, h10, h11, h12, h13, h14⟩ := h
  unfold St.filed
  split
  · constructor <;> simp only [St.tip] <;> omega
  · constructor <;> simp only [St.root] <;> omega
theorem filed_any (s : St) (k : Int) (w : World) (h : s.ok) (hk : okS k = true) :
    Calls Try.prog 104 #[stV s, .int .i64 k] w fun e w' => e = .returned (stV (s.filed k)) ∧ Below w.heap.size w w' := by
  unfold St.filed
  by_cases e : k = 1
  · subst e; rw [if_pos rfl]; exact filed_tip s w h
  · have e2 : k = 2 := by unfold okS at hk; simpa [e] using hk
    subst e2; rw [if_neg (by decide)]; exact filed_root s w h
theorem mem_of_drop {α : Type} {l : List α} {k : Nat} {x : α} (h : l.drop k = x :: l.drop (k + 1)) : x ∈ l := List.mem_of_mem_drop (by rw [h]; simp : x ∈ l.drop k)
theorem after_snoc (s : St) (l : List Int) (k : Nat) (x : Int) (h : l.drop k = x :: l.drop (k + 1)) : s.after (l.take (k + 1)) = (s.after (l.take k)).filed x := by
  have hk : k < l.length := by
    rcases Nat.lt_or_ge k l.length with h' | h'
    · exact h'
    · rw [List.drop_of_length_le h'] at h; cases h
  rw [List.drop_eq_getElem_cons hk] at h
  injection h with h _
  rw [List.take_succ_eq_append_getElem hk, St.after, List.foldl_append, h]
  rfl
theorem after_upTo {s : St} {m : Int} (h : s.upTo m) : ∀ (l : List Int), (s.after l).upTo (m + 100 * l.length) := by
  intro l
  induction l generalizing s m with
  | nil => simpa [St.after] using h
  | cons k r ih =>
    have := ih (h.filed k)
    have e : m + 100 + 100 * (r.length : Int) = m + 100 * ((k :: r).length : Int) := by simp only [List.length_cons]; omega
    rw [e] at this
    exact this

end Go.Proofs.Ythlpceoajhcliaa
end

section
/-
  reed: a tongue after some strokes.
-/
namespace Go.Proofs.Ythlpceoajhcliaa
set_option linter.unusedSimpArgs false
set_option linter.unusedVariables false
open Go.RowKit

abbrev stA (s : St) : Array Value := #[.int .i64 s.p0, .int .i64 s.p1, .int .i64 s.t0, .int .i64 s.t1, .int .i64 s.r0, .int .i64 s.r1, .int .i64 s.u0, .int .i64 s.u1, .int .i64 s.d0, .int .i64 s.d1, .int .i64 s.a0, .int .i64 s.a1, .int .i64 s.b0, .int .i64 s.b1, .int .i64 s.le]

set_option maxRecDepth 100000 in
set_option maxHeartbeats 1000000 in
theorem after_any (j : Jb) (A : Option Addr) (c : Nat) (B : Option Addr) (d n : Nat) (l : List Int) (w : World) (hl : Rd w w.heap.size 1 B n (ic l)) (hm : n ≤ 1000) (hs : j.st.upTo 1000) (hk : ∀ k ∈ l, okS k = true) :
    Calls Try.prog 69 #[jobV j A c, .slice B n d] w fun e w' => e = .returned (stV (j.st.after l)) ∧ Below w.heap.size w w' := by
  have HL := Lib.hid hl
  have HN := Lib.hid hl.len1
  have HS := Lib.hid hs
  have HK := Lib.hid hk
  clear hl hs hk
  go_enter Try.func69, Try.ntmps69
  go_wp2
  go_loopw [16] (fun i wr => ∃ (k : Nat) (s : St), k ≤ n ∧ i = .int .i64 k ∧ Hid (j.st.after (l.take k) = s) ∧ Bk wr (w.heap.size + 1) #[.int .i64 0, .int .i64 0, .int .i64 0, .int .i64 0, .int .i64 0, .int .i64 0, .int .i64 0, .int .i64 0, .int .i64 0, .int .i64 0, .int .i64 0, .int .i64 0, .int .i64 0, .int .i64 0, .int .i64 0] ∧ Bk wr (w.heap.size + 2) (stA s) ∧ Below w.heap.size w wr) (fun i _ => n - (intOf i).toNat)
  case atStart => exact ⟨0, j.st, Nat.zero_le _, rfl, rfl, by (repeat' (first | (with_reducible refine Bk.drew ?_) | ((with_reducible refine Bk.newAt _ _ _ _ ?_); (simp; done)) | (with_reducible refine Bk.alloc ?_ _))), Bk.newAt _ _ _ _ (by simp), by (repeat' (first | (with_reducible exact Below.refl _ _) | (with_reducible refine Below.alloc ?_ ?_ _) | (with_reducible refine Below.setCell ?_ ?_ _) | (with_reducible refine Below.drew ?_) | ((with_reducible refine Below.trans ?_ (Below.mono (by assumption) ?_))) | go_size))⟩
  case round =>
    obtain ⟨k, s, hk, rfl, he, b1, b2, hb⟩ := hrel
    have hz := b2.lt
    by_cases hlt : k < n
    · obtain ⟨b, o, x, rfl, hbb, hd, d0⟩ := (HL.out.below hb).at1 hlt
      have HD := Lib.hid hd
      have HO : Hid (okS x = true) := HK.out x (mem_of_drop hd)
      clear hd
      have hb1 : b < wr.heap.size := by omega
      have hu := after_upTo HS.out (l.take k)
      rw [he.out] at hu
      have HU : Hid s.ok := hu.ok (by have : (l.take k).length ≤ k := List.length_take_le _ _; omega)
      clear hu
      go_wp2_with (first
        | (refine wpList_load_blk (by rfl) 92 (.tmp 5) (by rfl) _ (by rfl) _ b2 _ Try.underlying92 (by rfl) (by kernel_rfl) ?_)
        | (go_at_call 104; ((with_reducible refine (filed_any s x _ HU.out HO.out).mono ?_); rintro e w1 ⟨rfl, hb1⟩; have hz1 := hb1.size; (try simp only [World.size_alloc] at hz1); have b1' := b1.below hb1; have b2' := b2.below hb1))
        | (refine wpList_store_blk (by rfl) 92 (.tmp 5) (.tmp 24) (by rfl) _ _ _ (by rfl) (by rfl) b2' (by rfl) (by kernel_rfl) (by simp [Value.oneCell']) ?_; intro w3 b3 ho3))
      go_roundw
      case rel => exact ⟨k + 1, s.filed x, by omega, by go_num, by (show _ = _; rw [after_snoc _ _ _ _ HD.out, he.out]), b1'.oth ho3 (by omega), b3, bl_oth (bl_trans hb hb1 (by omega)) ho3 (by omega)⟩
      case measure => simp [intOf]; omega
    · go_wp2_with (first
        | (refine wpList_load_blk (by rfl) 92 (.tmp 5) (by rfl) _ (by rfl) _ b2 _ Try.underlying92 (by rfl) (by kernel_rfl) ?_)
        | (refine wpList_store_blk (by rfl) 92 (.tmp 4) (.tmp 26) (by rfl) _ _ _ (by rfl) (by rfl) b1 (by rfl) (by kernel_rfl) (by simp [Value.oneCell']) ?_; intro w3 b3 ho3))
      refine ret_blk 4 92 (by rfl) (by rfl) _ (by rfl) _ b3 _ Try.underlying92 (by rfl) (by kernel_rfl) ?_
      have e : l.take k = l := List.take_of_length_le (by have := HN.out; omega)
      have he := he.out
      rw [e] at he
      rw [he]
      exact ⟨rfl, bl_oth hb ho3 (by omega)⟩

end Go.Proofs.Ythlpceoajhcliaa
end

section
/-
  reed: what ranges have in common.
-/
namespace Go.Proofs.Ythlpceoajhcliaa
set_option linter.unusedSimpArgs false
set_option linter.unusedVariables false
open Go.RowKit

/-- What ranges have in common. -/
def mstep (a x : Int × Int) : Int × Int := (if a.1 < x.1 then x.1 else a.1, if x.2 < a.2 then x.2 else a.2)
def meetL (f : Int × Int) (l : List (Int × Int)) : Int × Int := l.foldl mstep f
theorem meetL_snoc (f : Int × Int) (l : List (Int × Int)) (k : Nat) (x0 x1 : Int) (h : l.drop k = (x0, x1) :: l.drop (k + 1)) : meetL f (l.take (k + 1)) = mstep (meetL f (l.take k)) (x0, x1) := by
  have hk : k < l.length := by
    rcases Nat.lt_or_ge k l.length with h' | h'
    · exact h'
    · rw [List.drop_of_length_le h'] at h; cases h
  rw [List.drop_eq_getElem_cons hk] at h
  injection h with h _
  rw [List.take_succ_eq_append_getElem hk, meetL, List.foldl_append, h]
  rfl

set_option maxHeartbeats 1000000 in
theorem meet_any (f0 f1 : Int) (A : Option Addr) (n c : Nat) (l : List (Int × Int)) (w : World) (hr : Rd w w.heap.size 2 A n (rc l)) (hn : n ≤ 9223372036854775807) :
    Calls Try.prog 86 #[R2 f0 f1, .slice A n c] w fun e w' => e = .returned (R2 (meetL (f0, f1) l).1 (meetL (f0, f1) l).2) ∧ Below w.heap.size w w' := by
  have HL := Lib.hid hr.len2
  have HR := Lib.hid hr
  clear hr
  have q0 : Bk ((w.alloc (.cells #[.int .i64 f0, .int .i64 f1] 23)).alloc (.cells #[.int .i64 0, .int .i64 0] 23)) w.heap.size #[.int .i64 f0, .int .i64 f1] := (Bk.new w _ _).alloc _
  have q1 : Bk ((w.alloc (.cells #[.int .i64 f0, .int .i64 f1] 23)).alloc (.cells #[.int .i64 0, .int .i64 0] 23)) (w.heap.size + 1) #[.int .i64 0, .int .i64 0] := by simpa using Bk.new (w.alloc (.cells #[.int .i64 f0, .int .i64 f1] 23)) 23 #[.int .i64 0, .int .i64 0]
  go_enter Try.func86, Try.ntmps86
  go_wp2
  go_loopw [9] (fun i wr => ∃ (k : Nat) (m0 m1 : Int), k ≤ n ∧ i = .int .i64 k ∧ Hid (meetL (f0, f1) (l.take k) = (m0, m1)) ∧ Bk wr w.heap.size #[.int .i64 m0, .int .i64 m1] ∧ Bk wr (w.heap.size + 1) #[.int .i64 0, .int .i64 0] ∧ Below w.heap.size w wr) (fun i _ => n - (intOf i).toNat)
  case atStart => exact ⟨0, f0, f1, Nat.zero_le _, rfl, rfl, q0, q1, by (repeat' (first | (with_reducible exact Below.refl _ _) | (with_reducible refine Below.alloc ?_ ?_ _) | (with_reducible refine Below.setCell ?_ ?_ _) | (with_reducible refine Below.drew ?_) | ((with_reducible refine Below.trans ?_ (Below.mono (by assumption) ?_))) | go_size))⟩
  case round =>
    clear q0 q1
    obtain ⟨k, m0, m1, hk, rfl, he, q0, q1, hb⟩ := hrel
    have hz := q0.lt
    have hz1 := q1.lt
    have c0 := q0.cell
    have c1 := q1.cell
    have g0 := q0.frozen
    have g1 := q1.frozen
    by_cases hlt : k < n
    · obtain ⟨b, o, x0, x1, rfl, hbb, hd, d0, d1⟩ := (HR.out.below hb).at2 hlt
      have HD := Lib.hid hd
      clear hd
      have hb1 : b < wr.heap.size := by omega
      go_wp2
      go_roundw
      case rel => exact ⟨k + 1, _, _, by omega, by go_num, by (show meetL _ _ = _; rw [meetL_snoc _ _ _ _ _ HD.out, he.out]; try rfl), by first | exact q0.put2.alloc _ | exact (q0.alloc _).put2, by first | exact ((q1.far (by simp) _).far (by simp) _).alloc _ | exact ((q1.alloc _).far (by simp) _).far (by simp) _, by (repeat' (first | (with_reducible exact Below.refl _ _) | (with_reducible refine Below.alloc ?_ ?_ _) | (with_reducible refine Below.setCell ?_ ?_ _) | (with_reducible refine Below.drew ?_) | ((with_reducible refine Below.trans ?_ (Below.mono (by assumption) ?_))) | go_size))⟩
      case measure => simp [intOf]; omega
    · go_wp2
      refine ret_blk 4 23 (by rfl) (by rfl) _ (by rfl) _ q1.put2 _ Try.underlying23 (by rfl) (by kernel_rfl) ?_
      have e : l.take k = l := List.take_of_length_le (by have := HL.out; omega)
      have he := he.out
      rw [e] at he
      rw [he]
      exact ⟨rfl, by (repeat' (first | (with_reducible exact Below.refl _ _) | (with_reducible refine Below.alloc ?_ ?_ _) | (with_reducible refine Below.setCell ?_ ?_ _) | (with_reducible refine Below.drew ?_) | ((with_reducible refine Below.trans ?_ (Below.mono (by assumption) ?_))) | go_size))⟩

end Go.Proofs.Ythlpceoajhcliaa
end

section
/-
  reed: the pitches that surely pass, and those that may pass.
-/
namespace Go.Proofs.Ythlpceoajhcliaa
set_option linter.unusedSimpArgs false
set_option linter.unusedVariables false
open Go.RowKit

def strictL (wi : Int) (l : List (Int × Int)) : List (Int × Int) := l.map fun s => (-wi - s.1, wi - s.2)
def looseL (wi : Int) (l : List (Int × Int)) : List (Int × Int) := l.map fun s => (-wi - s.2, wi - s.1)
def winOf (wi : Int) : List (Int × Int) → Int × Int
  | [] => (-wi, wi)
  | f :: r => meetL f r
def winS (j : Jb) : Int × Int := winOf j.wi (strictL j.wi j.sh)
def winL (j : Jb) : Int × Int := winOf j.wi (looseL j.wi j.sh)

/-- Numbers of a job that do not run over. -/
structure Jb.ok (j : Jb) : Prop where
  wi : -1000 ≤ j.wi ∧ j.wi ≤ 1000
  sh : ∀ p ∈ j.sh, -1000 ≤ p.1 ∧ p.1 ≤ 1000 ∧ -1000 ≤ p.2 ∧ p.2 ≤ 1000
  few : j.sh.length ≤ 4

set_option maxHeartbeats 1000000 in
theorem windows_nil (j : Jb) (A : Option Addr) (c : Nat) (w : World) (hj : j.ok) (hs : j.sh = []) :
    Calls Try.prog 84 #[jobV j A c] w fun e w' => e = .returned (.tuple #[R2 (winS j).1 (winS j).2, R2 (winL j).1 (winL j).2]) ∧ Below w.heap.size w w' := by
  obtain ⟨p0, p1, t0, t1, r0, r1, u0, u1, d0, d1, a0, a1, b0, b1, le, sh, wi, me⟩ := j
  simp only at hs
  subst hs
  have hw := hj.wi
  simp only at hw
  clear hj
  go_enter Try.func84, Try.ntmps84
  go_wp2
  refine wp_region_G (fun L W => Bk W (w.heap.size + 3) #[.int .i64 (-wi), .int .i64 wi] ∧ (L.getD 2 true = false → Bk W (w.heap.size + 1) #[.int .i64 0, .int .i64 0]) ∧ (L.getD 2 true = true → Bk W (w.heap.size + 1) #[.int .i64 (-wi), .int .i64 wi]) ∧ (L.getD 3 true = false → Bk W (w.heap.size + 2) #[.int .i64 0, .int .i64 0]) ∧ (L.getD 3 true = true → Bk W (w.heap.size + 2) #[.int .i64 (-wi), .int .i64 wi]) ∧ Below w.heap.size w W) 4 (by kernel_rfl) (by kernel_rfl) ?s0 ?r0
  case s0 => (exact ⟨by (repeat' (first | (with_reducible refine Bk.drew ?_) | ((with_reducible refine Bk.newAt _ _ _ _ ?_); (simp; done)) | (with_reducible refine Bk.alloc ?_ _))), fun _ => by (repeat' (first | (with_reducible refine Bk.drew ?_) | ((with_reducible refine Bk.newAt _ _ _ _ ?_); (simp; done)) | (with_reducible refine Bk.alloc ?_ _))), fun h => (no_of h (by kernel_rfl)).elim, fun _ => by (repeat' (first | (with_reducible refine Bk.drew ?_) | ((with_reducible refine Bk.newAt _ _ _ _ ?_); (simp; done)) | (with_reducible refine Bk.alloc ?_ _))), fun h => (no_of h (by kernel_rfl)).elim, by (repeat' (first | (with_reducible exact Below.refl _ _) | (with_reducible refine Below.alloc ?_ ?_ _) | (with_reducible refine Below.setCell ?_ ?_ _) | (with_reducible refine Below.drew ?_) | ((with_reducible refine Below.trans ?_ (Below.mono (by assumption) ?_))) | go_size))⟩)
  intro W0
  refine wpG_take (i := 0) (v := ?v1) rfl (by kernel_rfl) (by intro L w; simp only [getD_set_ne true (show (0 : Nat) ≠ 2 from by decide), getD_set_ne true (show (0 : Nat) ≠ 3 from by decide)]) (fun _ _ _ h => h) (Or.inl ⟨by rfl, ?y1⟩) ?r1
  case y1 => (intro w' hy; obtain ⟨L, hD, hl, hS⟩ := hy; have qc := hS.1.cell; clear hS hD hl; go_simp; (try with_reducible rfl))
  (try simp only [Act.put, List.getElem_toArray, List.getElem_cons_succ, List.getElem_cons_zero, List.setIfInBounds_toArray, List.set_cons_zero, List.set_cons_succ])
  refine wpG_take (i := 1) (v := ?v2) rfl (by kernel_rfl) (by intro L w; simp only [getD_set_ne true (show (1 : Nat) ≠ 2 from by decide), getD_set_ne true (show (1 : Nat) ≠ 3 from by decide)]) (fun _ _ _ h => h) (Or.inl ⟨by rfl, ?y2⟩) ?r2
  case y2 => (intro w' hy; obtain ⟨L, hD, hl, hS⟩ := hy; have qc := hS.1.cell; clear hS hD hl; go_simp; (try with_reducible rfl))
  (try simp only [Act.put, List.getElem_toArray, List.getElem_cons_succ, List.getElem_cons_zero, List.setIfInBounds_toArray, List.set_cons_zero, List.set_cons_succ])
  refine wpG_step (i := 2) (by kernel_rfl) rfl (by rfl) ?r3
  intro hS K hK
  (have h4 := hS.1; have h1 := hS.2.1 (by kernel_rfl); have h2 := hS.2.2.2.1 (by kernel_rfl); have hb := hS.2.2.2.2.2; clear hS; have qc := h1.cell; have qf := h1.frozen; go_simp; refine hK.out _ _ ⟨h4.far2 (by omega), fun h => (no_of (by kernel_rfl) h).elim, fun _ => h1.put2, fun _ => h2.far2 (by omega), fun h => (no_of h (by kernel_rfl)).elim, bl_set2 hb (by omega)⟩ ?_; clear h4 h1 h2 hb qc qf)
  clear hK K; intro W3
  (try simp only [Act.put, List.getElem_toArray, List.getElem_cons_succ, List.getElem_cons_zero, List.setIfInBounds_toArray, List.set_cons_zero, List.set_cons_succ])
  refine wpG_step (i := 3) (by kernel_rfl) rfl (by rfl) ?r4
  intro hS K hK
  (have h4 := hS.1; have h1 := hS.2.2.1 (by kernel_rfl); have h2 := hS.2.2.2.1 (by kernel_rfl); have hb := hS.2.2.2.2.2; clear hS; have qc := h2.cell; have qf := h2.frozen; go_simp; refine hK.out _ _ ⟨h4.far2 (by omega), fun h => (no_of (by kernel_rfl) h).elim, fun _ => h1.far2 (by omega), fun h => (no_of (by kernel_rfl) h).elim, fun _ => h2.put2, bl_set2 hb (by omega)⟩ ?_; clear h4 h1 h2 hb qc qf)
  clear hK K; intro W4
  (try simp only [Act.put, List.getElem_toArray, List.getElem_cons_succ, List.getElem_cons_zero, List.setIfInBounds_toArray, List.set_cons_zero, List.set_cons_succ])
  refine wpG_end (by kernel_rfl) ?_
  intro W
   hS
  go_wp2
  refine ret_blk2 2 3 23 23 (by rfl) (by rfl) _ _ (by rfl) (by rfl) _ _ (hS.2.2.1 (by kernel_rfl)) (hS.2.2.2.2.1 (by kernel_rfl)) _ _ Try.underlying23 (by rfl) (by kernel_rfl) Try.underlying23 (by rfl) (by kernel_rfl) ?_
  exact ⟨rfl, hS.2.2.2.2.2⟩

theorem Try.infoRangeW : (Try.prog.info? 23).map (fun i => (i.zero, i.size, i.bytes)) = some (some (.agg #[.int .i64 0, .int .i64 0]), 2, 16) := by kernel_rfl

theorem rc_take_succ (l : List (Int × Int)) (k : Nat) (x0 x1 : Int) (h : l.drop k = (x0, x1) :: l.drop (k + 1)) : rc (l.take (k + 1)) = rc (l.take k) ++ [.int .i64 x0, .int .i64 x1] := by
  have hk : k < l.length := by
    rcases Nat.lt_or_ge k l.length with h' | h'
    · exact h'
    · rw [List.drop_of_length_le h'] at h; cases h
  rw [List.drop_eq_getElem_cons hk] at h
  injection h with h _
  rw [List.take_succ_eq_append_getElem hk, rc_append, h]
  rfl
theorem map_drop_cons {f : Int × Int → Int × Int} {l : List (Int × Int)} {k : Nat} {x : Int × Int} (h : l.drop k = x :: l.drop (k + 1)) : (l.map f).drop k = f x :: (l.map f).drop (k + 1) := by
  rw [← List.map_drop, h, List.map_cons, List.map_drop]

/-- What stands at the head of a round. -/
def WRel (j : Jb) (A : Option Addr) (c : Nat) (w : World) (v5 v6 i : Value) (wr : World) : Prop :=
  ∃ k : Nat, k ≤ j.sh.length ∧ i = .int .i64 k ∧ wr.ownsRow (w.heap.size + 4) 23 2 v5 k (rc ((strictL j.wi j.sh).take k)) ∧ wr.ownsRow (w.heap.size + 4) 23 2 v6 k (rc ((looseL j.wi j.sh).take k)) ∧
    (v5.ownBlock = none ∨ v5.ownBlock ≠ v6.ownBlock) ∧ (v6.ownBlock = none ∨ v6.ownBlock ≠ v5.ownBlock) ∧
    Bk wr (w.heap.size + 1) #[.int .i64 0, .int .i64 0] ∧ Bk wr (w.heap.size + 2) #[.int .i64 0, .int .i64 0] ∧ Bk wr (w.heap.size + 3) #[.int .i64 (-j.wi), .int .i64 j.wi] ∧ Below w.heap.size w wr

section
variable {w wr w5 w6 : World} {T k m : Nat} {v5 v6 : Value} {xs ys : List Value} {z m3 cx : Array Value} {H : Nat} {Y Z : Obj}
theorem own_ne {g : Nat} (o5 : wr.ownsRow (H + 4) T 2 v5 k xs) (hg : g < H + 4) : some g ≠ v5.ownBlock := fun e => by have := (o5.lt g e.symm).1; omega
theorem own_ne' {g : Nat} (o5 : wr.ownsRow (H + 4) T 2 v5 k xs) (hg : wr.heap.size ≤ g) : some g ≠ v5.ownBlock := fun e => by have := (o5.lt g e.symm).2; omega
theorem wmid (o5 : wr.ownsRow (H + 4) T 2 v5 k xs) (o6 : wr.ownsRow (H + 4) T 2 v6 k ys) (n6 : v6.ownBlock = none ∨ v6.ownBlock ≠ v5.ownBlock)
    (b1 : Bk wr (H + 1) z) (b2 : Bk wr (H + 2) z) (b3 : Bk wr (H + 3) m3) (hb : Below H w wr) (gr : ((wr.alloc (.cells cx T)).alloc Y).grownBy w5 v5.ownBlock) :
    w5.ownsRow (H + 4) T 2 v6 k ys ∧ Bk w5 (H + 1) z ∧ Bk w5 (H + 2) z ∧ Bk w5 (H + 3) m3 ∧ Bk w5 wr.heap.size cx ∧ Below H w w5 ∧ wr.heap.size + 2 ≤ w5.heap.size := by
  have hl := b3.lt
  have hs := gr.size
  simp only [World.size_alloc] at hs
  refine ⟨((o6.alloc _).alloc _).kept gr n6, ((b1.alloc _).alloc _).grown gr (own_ne o5 (by omega)), ((b2.alloc _).alloc _).grown gr (own_ne o5 (by omega)), ((b3.alloc _).alloc _).grown gr (own_ne o5 (by omega)),
    ((Bk.new wr T cx).alloc _).grown gr (own_ne' o5 (Nat.le_refl _)), ?_, hs⟩
  exact Below.grown ((hb.alloc (by omega) _).alloc (by simp; omega) _) gr (by simp; omega) (fun g hg => by have := (o5.lt g hg).1; omega)
theorem wend (o5 : wr.ownsRow (H + 4) T 2 v5 k xs) (o6' : wr.ownsRow (H + 4) T 2 v6 k ys) (n6 : v6.ownBlock = none ∨ v6.ownBlock ≠ v5.ownBlock) (o6 : w5.ownsRow (H + 4) T 2 v6 k ys) {g5 c5 : Nat} {xs' : List Value}
    (p5 : w5.ownsRow (H + 4) T 2 (.slice (some ⟨g5, 0, none⟩) (k + 1) c5) (k + 1) xs') (at5 : v5.ownBlock = some g5 ∨ g5 = wr.heap.size + 2)
    (b1 : Bk w5 (H + 1) z) (b2 : Bk w5 (H + 2) z) (b3 : Bk w5 (H + 3) m3) (hb : Below H w w5) (gr : (w5.alloc Z).grownBy w6 v6.ownBlock) {g6 : Nat} (at6 : v6.ownBlock = some g6 ∨ g6 = w5.heap.size + 1) :
    w6.ownsRow (H + 4) T 2 (.slice (some ⟨g5, 0, none⟩) (k + 1) c5) (k + 1) xs' ∧ g5 ≠ g6 ∧ Bk w6 (H + 1) z ∧ Bk w6 (H + 2) z ∧ Bk w6 (H + 3) m3 ∧ Below H w w6 := by
  have hl := b3.lt
  have hlt := (p5.lt g5 rfl).2
  have hne : some g5 ≠ v6.ownBlock := fun e => by
    rcases at5 with h | h
    · rcases n6 with h' | h'
      · rw [h'] at e; cases e
      · exact h' (by rw [h, e])
    · have := (o6'.lt g5 e.symm).2; omega
  refine ⟨(p5.alloc _).kept gr (.inr hne), ?_, (b1.alloc _).grown gr (own_ne o6 (by omega)), (b2.alloc _).grown gr (own_ne o6 (by omega)), (b3.alloc _).grown gr (own_ne o6 (by omega)), ?_⟩
  · rintro rfl
    rcases at6 with h | h
    · exact hne h.symm
    · omega
  · exact Below.grown (hb.alloc (by omega) _) gr (by simp; omega) (fun g hg => by have := (o6.lt g hg).1; omega)
end

set_option maxRecDepth 100000 in
set_option maxHeartbeats 2000000 in
theorem windows_cons (j : Jb) (A : Option Addr) (c : Nat) (w : World) (hj : j.ok) (hs : j.sh ≠ []) (hr : Rd w w.heap.size 2 A j.sh.length (rc j.sh)) :
    Calls Try.prog 84 #[jobV j A c] w fun e w' => e = .returned (.tuple #[R2 (winS j).1 (winS j).2, R2 (winL j).1 (winL j).2]) ∧ Below w.heap.size w w' := by
  have hw := hj.wi
  have hfew := hj.few
  have HJ := Lib.hid hj
  have HR := Lib.hid hr
  have hpos : 0 < j.sh.length := List.length_pos_iff.2 hs
  have e0 : (((j.sh.length : Int)) == 0) = false := by simpa using hs
  have e1 : ((j.sh.length) == 0) = false := by simpa using hs
  obtain ⟨s0, s1, sr, l0, l1, lr, hS, hL⟩ : ∃ s0 s1 sr l0 l1 lr, strictL j.wi j.sh = (s0, s1) :: sr ∧ looseL j.wi j.sh = (l0, l1) :: lr := by
    cases hq : j.sh with
    | nil => exact absurd hq hs
    | cons p r => exact ⟨_, _, _, _, _, _, rfl, rfl⟩
  have HS := Lib.hid hS
  have HL := Lib.hid hL
  clear hj hr hs hS hL
  obtain ⟨i0, hi, hz0, hz1, hz2⟩ := info_parts Try.infoRangeW
  have HI := Lib.hid hi
  have HZ0 := Lib.hid hz0
  have HZ1 := Lib.hid hz1
  have HZ2 := Lib.hid hz2
  clear hi hz0 hz1 hz2
  go_enter Try.func84, Try.ntmps84
  go_wp2
  go_loopw [5, 6, 24] (fun v5 v6 i wr => WRel j A c w v5 v6 i wr) (fun _ _ i _ => j.sh.length - (intOf i).toNat)
  case atStart => exact ⟨0, Nat.zero_le _, rfl, ⟨rfl, .inl ⟨rfl, rfl⟩⟩, ⟨rfl, .inl ⟨rfl, rfl⟩⟩, .inl rfl, .inl rfl, by (repeat' (first | (with_reducible refine Bk.drew ?_) | ((with_reducible refine Bk.newAt _ _ _ _ ?_); (simp; done)) | (with_reducible refine Bk.alloc ?_ _))), by (repeat' (first | (with_reducible refine Bk.drew ?_) | ((with_reducible refine Bk.newAt _ _ _ _ ?_); (simp; done)) | (with_reducible refine Bk.alloc ?_ _))), by (repeat' (first | (with_reducible refine Bk.drew ?_) | ((with_reducible refine Bk.newAt _ _ _ _ ?_); (simp; done)) | (with_reducible refine Bk.alloc ?_ _))), by (repeat' (first | (with_reducible exact Below.refl _ _) | (with_reducible refine Below.alloc ?_ ?_ _) | (with_reducible refine Below.setCell ?_ ?_ _) | (with_reducible refine Below.drew ?_) | ((with_reducible refine Below.trans ?_ (Below.mono (by assumption) ?_))) | go_size))⟩
  case round =>
    obtain ⟨k, hk, rfl, o5, o6, n5, n6, b1, b2, b3, hb⟩ := hrel
    have hz := b3.lt
    have c3 := b3.cell
    by_cases hlt : k < j.sh.length
    · obtain ⟨b, o, x0, x1, rfl, hbb, hd, d0, d1⟩ := (HR.out.below hb).at2 hlt
      have HD := Lib.hid hd
      have hx := HJ.out.sh (x0, x1) (by have : (x0, x1) ∈ j.sh.drop k := by rw [hd]; simp
                                        exact List.mem_of_mem_drop this)
      simp only at hx
      clear hd
      have hb1 : b < wr.heap.size := by omega
      have b4 : Bk (wr.alloc (.cells #[.int .i64 x0, .int .i64 x1] 23)) wr.heap.size #[.int .i64 x0, .int .i64 x1] := Bk.new _ _ _
      have n1 := Bk.new1 wr (.cells #[.int .i64 x0, .int .i64 x1] 23) 23 #[.int .i64 (-j.wi - x0), .int .i64 (j.wi - x1)]
      go_wp2_with (at_builtin; first
        | ((refine wpList_app1 (by rfl) (.tmp 28) (.tmp 40) 28 (by rfl) (w.heap.size + 4) 23 i0 _ 16 Try.underlying28 HI.out HZ0.out #[.int .i64 (-j.wi - x0), .int .i64 (j.wi - x1)] HZ1.out HZ2.out (by rfl) (by simp) _ _ _ (by rfl) ((o5.alloc _).alloc _) _ _ (by rfl) n1 (by simp [Value.oneCell']) (by omega) (by omega) (by simp; omega) ?_); intro g5 cap5 w5 p5 gr5 at5 lt5; obtain ⟨o6', b1', b2', b3', b4', hb', hz'⟩ := wmid o5 o6 n6 b1 b2 b3 hb gr5; clear d0 d1 c3; have c3 := b3'.cell; have c4 := b4'.cell; have l3 := b3'.lt)
        | ((refine wpList_app1 (by rfl) (.tmp 42) (.tmp 54) 28 (by rfl) (w.heap.size + 4) 23 i0 _ 16 Try.underlying28 HI.out HZ0.out #[.int .i64 (-j.wi - x1), .int .i64 (j.wi - x0)] HZ1.out HZ2.out (by rfl) (by simp) _ _ _ (by rfl) (o6'.alloc _) _ _ (by rfl) (Bk.new _ _ _) (by simp [Value.oneCell']) (by omega) (by omega) (by simp; omega) ?_); intro g6 cap6 w6 p6 gr6 at6 lt6))
      simp only [World.size_alloc] at at5 at6
      obtain ⟨q5, hne, q1, q2, q3, hb6⟩ := wend o5 o6 n6 o6' p5 at5 b1' b2' b3' hb' gr6 at6
      go_roundw
      case rel => exact ⟨k + 1, by omega, by go_num, by rw [rc_take_succ _ _ _ _ (map_drop_cons HD.out)]; exact q5, by rw [rc_take_succ _ _ _ _ (map_drop_cons HD.out)]; exact p6, .inr (by simpa [Value.ownBlock] using hne), .inr (by simpa [Value.ownBlock] using (Ne.symm hne)), q1, q2, q3, hb6⟩
      case measure => simp [intOf]; omega
    · obtain rfl : k = j.sh.length := by omega
      rw [List.take_of_length_le (by simp [strictL])] at o5
      rw [List.take_of_length_le (by simp [looseL])] at o6
      obtain ⟨g5, c5, rfl, hc5, hm5, hg5, hl5, hr5⟩ := own_form o5 hpos
      obtain ⟨g6, c6, rfl, hc6, hm6, hg6, hl6, hr6⟩ := own_form o6 hpos
      go_wp2
      have hu5 : wr.cell? ⟨g5, 0, none⟩ = some (.int .i64 s0) := hr5 0 _ (by rw [HS.out]; rfl)
      have hv5 : wr.cell? ⟨g5, 1, none⟩ = some (.int .i64 s1) := hr5 1 _ (by rw [HS.out]; rfl)
      have hu6 : wr.cell? ⟨g6, 0, none⟩ = some (.int .i64 l0) := hr6 0 _ (by rw [HL.out]; rfl)
      have hv6 : wr.cell? ⟨g6, 1, none⟩ = some (.int .i64 l1) := hr6 1 _ (by rw [HL.out]; rfl)
      have hn1 : (1 : Int) ≤ (j.sh.length : Int) := by omega
      have hc51 : (j.sh.length : Int) ≤ (c5 : Int) := by omega
      have hc61 : (j.sh.length : Int) ≤ (c6 : Int) := by omega
      refine wp_region_G (fun L W => Ex wr W (fun b => b ≠ w.heap.size + 1 ∧ b ≠ w.heap.size + 2) ∧ (L.getD 12 true = false → Bk W (w.heap.size + 1) #[.int .i64 0, .int .i64 0]) ∧ (L.getD 12 true = true → Bk W (w.heap.size + 1) #[.int .i64 (meetL (s0, s1) sr).1, .int .i64 (meetL (s0, s1) sr).2]) ∧ (L.getD 13 true = false → Bk W (w.heap.size + 2) #[.int .i64 0, .int .i64 0]) ∧ (L.getD 13 true = true → Bk W (w.heap.size + 2) #[.int .i64 (meetL (l0, l1) lr).1, .int .i64 (meetL (l0, l1) lr).2]) ∧ Below w.heap.size w W) 14 (by kernel_rfl) (by kernel_rfl) ?s0 ?r0
      case s0 => (exact ⟨(Ex.refl _ _).drew, fun _ => b1.drew, fun h => (no_of h (by kernel_rfl)).elim, fun _ => b2.drew, fun h => (no_of h (by kernel_rfl)).elim, hb.drew⟩)
      intro W0
      refine wpG_take (i := 0) (v := ?v1) rfl (by kernel_rfl) (by intro L w; simp only [getD_set_ne true (show (0 : Nat) ≠ 12 from by decide), getD_set_ne true (show (0 : Nat) ≠ 13 from by decide)]) (fun _ _ _ h => h) (Or.inl ⟨by rfl, ?y1⟩) ?r1
      case y1 => (intro w' hy; obtain ⟨L, hD, hl, hS⟩ := hy; clear hD hl hS; go_simp; (try with_reducible rfl))
      (try simp only [Act.put, List.getElem_toArray, List.getElem_cons_succ, List.getElem_cons_zero, List.setIfInBounds_toArray, List.set_cons_zero, List.set_cons_succ])
      refine wpG_take (i := 1) (v := ?v2) rfl (by kernel_rfl) (by intro L w; simp only [getD_set_ne true (show (1 : Nat) ≠ 12 from by decide), getD_set_ne true (show (1 : Nat) ≠ 13 from by decide)]) (fun _ _ _ h => h) (Or.inl ⟨by rfl, ?y2⟩) ?r2
      case y2 => (intro w' hy; obtain ⟨L, hD, hl, hS⟩ := hy; clear hD hl hS; go_simp; (try with_reducible rfl))
      (try simp only [Act.put, List.getElem_toArray, List.getElem_cons_succ, List.getElem_cons_zero, List.setIfInBounds_toArray, List.set_cons_zero, List.set_cons_succ])
      refine wpG_take (i := 2) (v := ?v3) rfl (by kernel_rfl) (by intro L w; simp only [getD_set_ne true (show (2 : Nat) ≠ 12 from by decide), getD_set_ne true (show (2 : Nat) ≠ 13 from by decide)]) (fun _ _ _ h => h) (Or.inl ⟨by rfl, ?y3⟩) ?r3
      case y3 => (intro w' hy; obtain ⟨L, hD, hl, hS⟩ := hy; have x5 := hS.1.cell (g := g5) hl5 ⟨by omega, by omega⟩; have x6 := hS.1.cell (g := g6) hl6 ⟨by omega, by omega⟩; clear hS hD hl; go_simp; (try with_reducible rfl))
      (try simp only [Act.put, List.getElem_toArray, List.getElem_cons_succ, List.getElem_cons_zero, List.setIfInBounds_toArray, List.set_cons_zero, List.set_cons_succ])
      refine wpG_take (i := 3) (v := ?v4) rfl (by kernel_rfl) (by intro L w; simp only [getD_set_ne true (show (3 : Nat) ≠ 12 from by decide), getD_set_ne true (show (3 : Nat) ≠ 13 from by decide)]) (fun _ _ _ h => h) (Or.inl ⟨by rfl, ?y4⟩) ?r4
      case y4 => (intro w' hy; obtain ⟨L, hD, hl, hS⟩ := hy; clear hD hl hS; go_simp; (try with_reducible rfl))
      (try simp only [Act.put, List.getElem_toArray, List.getElem_cons_succ, List.getElem_cons_zero, List.setIfInBounds_toArray, List.set_cons_zero, List.set_cons_succ])
      refine wpG_take (i := 4) (v := ?v5) rfl (by kernel_rfl) (by intro L w; simp only [getD_set_ne true (show (4 : Nat) ≠ 12 from by decide), getD_set_ne true (show (4 : Nat) ≠ 13 from by decide)]) (fun _ _ _ h => h) (Or.inl ⟨by rfl, ?y5⟩) ?r5
      case y5 => (intro w' hy; obtain ⟨L, hD, hl, hS⟩ := hy; clear hD hl hS; go_simp; (try with_reducible rfl))
      (try simp only [Act.put, List.getElem_toArray, List.getElem_cons_succ, List.getElem_cons_zero, List.setIfInBounds_toArray, List.set_cons_zero, List.set_cons_succ])
      refine wpG_take (i := 6) (v := ?v6) rfl (by kernel_rfl) (by intro L w; simp only [getD_set_ne true (show (6 : Nat) ≠ 12 from by decide), getD_set_ne true (show (6 : Nat) ≠ 13 from by decide)]) (fun _ _ _ h => h) (Or.inl ⟨by rfl, ?y6⟩) ?r6
      case y6 => (intro w' hy; obtain ⟨L, hD, hl, hS⟩ := hy; clear hD hl hS; go_simp; (try with_reducible rfl))
      (try simp only [Act.put, List.getElem_toArray, List.getElem_cons_succ, List.getElem_cons_zero, List.setIfInBounds_toArray, List.set_cons_zero, List.set_cons_succ])
      refine wpG_take (i := 7) (v := ?v7) rfl (by kernel_rfl) (by intro L w; simp only [getD_set_ne true (show (7 : Nat) ≠ 12 from by decide), getD_set_ne true (show (7 : Nat) ≠ 13 from by decide)]) (fun _ _ _ h => h) (Or.inl ⟨by rfl, ?y7⟩) ?r7
      case y7 => (intro w' hy; obtain ⟨L, hD, hl, hS⟩ := hy; clear hD hl hS; go_simp; (try with_reducible rfl))
      (try simp only [Act.put, List.getElem_toArray, List.getElem_cons_succ, List.getElem_cons_zero, List.setIfInBounds_toArray, List.set_cons_zero, List.set_cons_succ])
      refine wpG_take (i := 8) (v := ?v8) rfl (by kernel_rfl) (by intro L w; simp only [getD_set_ne true (show (8 : Nat) ≠ 12 from by decide), getD_set_ne true (show (8 : Nat) ≠ 13 from by decide)]) (fun _ _ _ h => h) (Or.inl ⟨by rfl, ?y8⟩) ?r8
      case y8 => (intro w' hy; obtain ⟨L, hD, hl, hS⟩ := hy; have x5 := hS.1.cell (g := g5) hl5 ⟨by omega, by omega⟩; have x6 := hS.1.cell (g := g6) hl6 ⟨by omega, by omega⟩; clear hS hD hl; go_simp; (try with_reducible rfl))
      (try simp only [Act.put, List.getElem_toArray, List.getElem_cons_succ, List.getElem_cons_zero, List.setIfInBounds_toArray, List.set_cons_zero, List.set_cons_succ])
      refine wpG_take (i := 9) (v := ?v9) rfl (by kernel_rfl) (by intro L w; simp only [getD_set_ne true (show (9 : Nat) ≠ 12 from by decide), getD_set_ne true (show (9 : Nat) ≠ 13 from by decide)]) (fun _ _ _ h => h) (Or.inl ⟨by rfl, ?y9⟩) ?r9
      case y9 => (intro w' hy; obtain ⟨L, hD, hl, hS⟩ := hy; clear hD hl hS; go_simp; (try with_reducible rfl))
      (try simp only [Act.put, List.getElem_toArray, List.getElem_cons_succ, List.getElem_cons_zero, List.setIfInBounds_toArray, List.set_cons_zero, List.set_cons_succ])
      refine wpG_take (i := 10) (v := ?v10) rfl (by kernel_rfl) (by intro L w; simp only [getD_set_ne true (show (10 : Nat) ≠ 12 from by decide), getD_set_ne true (show (10 : Nat) ≠ 13 from by decide)]) (fun _ _ _ h => h) (Or.inl ⟨by rfl, ?y10⟩) ?r10
      case y10 => (intro w' hy; obtain ⟨L, hD, hl, hS⟩ := hy; clear hD hl hS; go_simp; (try with_reducible rfl))
      (try simp only [Act.put, List.getElem_toArray, List.getElem_cons_succ, List.getElem_cons_zero, List.setIfInBounds_toArray, List.set_cons_zero, List.set_cons_succ])
      refine wpG_step (i := 5) (by kernel_rfl) rfl (by rfl) ?r11
      intro hS K hK
      (have hx := hS.1; have h1 := hS.2.1 (by kernel_rfl); have h2 := hS.2.2.2.1 (by kernel_rfl); have hbb := hS.2.2.2.2.2; clear hS; go_simp; refine (meet_any s0 s1 _ _ _ sr _ (rd_cut (p := (s0, s1)) (by rw [← HS.out]; exact hx.range hr5 hl5 ⟨by omega, by omega⟩) (Nat.lt_of_lt_of_le hl5 hx.size) (by have := congrArg List.length HS.out; simpa [strictL] using this) hc5) (by omega)).mono ?_; rintro e V5 ⟨rfl, hb1⟩; refine hK.out _ _ ⟨hx.below hb1, fun _ => h1.below hb1, fun h => (no_of h (by kernel_rfl)).elim, fun _ => h2.below hb1, fun h => (no_of h (by kernel_rfl)).elim, bl_trans hbb hb1 hbb.size⟩ ?_; clear hx h1 h2 hbb hb1)
      clear hK K; intro W11
      (try simp only [Act.put, List.getElem_toArray, List.getElem_cons_succ, List.getElem_cons_zero, List.setIfInBounds_toArray, List.set_cons_zero, List.set_cons_succ])
      refine wpG_step (i := 11) (by kernel_rfl) rfl (by rfl) ?r12
      intro hS K hK
      (have hx := hS.1; have h1 := hS.2.1 (by kernel_rfl); have h2 := hS.2.2.2.1 (by kernel_rfl); have hbb := hS.2.2.2.2.2; clear hS; go_simp; refine (meet_any l0 l1 _ _ _ lr _ (rd_cut (p := (l0, l1)) (by rw [← HL.out]; exact hx.range hr6 hl6 ⟨by omega, by omega⟩) (Nat.lt_of_lt_of_le hl6 hx.size) (by have := congrArg List.length HL.out; simpa [looseL] using this) hc6) (by omega)).mono ?_; rintro e V6 ⟨rfl, hb1⟩; refine hK.out _ _ ⟨hx.below hb1, fun _ => h1.below hb1, fun h => (no_of h (by kernel_rfl)).elim, fun _ => h2.below hb1, fun h => (no_of h (by kernel_rfl)).elim, bl_trans hbb hb1 hbb.size⟩ ?_; clear hx h1 h2 hbb hb1)
      clear hK K; intro W12
      (try simp only [Act.put, List.getElem_toArray, List.getElem_cons_succ, List.getElem_cons_zero, List.setIfInBounds_toArray, List.set_cons_zero, List.set_cons_succ])
      refine wpG_step (i := 12) (by kernel_rfl) rfl (by rfl) ?r13
      intro hS K hK
      (have hx := hS.1; have h1 := hS.2.1 (by kernel_rfl); have h2 := hS.2.2.2.1 (by kernel_rfl); have hbb := hS.2.2.2.2.2; clear hS; have qc := h1.cell; have qf := h1.frozen; go_simp; refine hK.out _ _ ⟨hx.set2 (by omega), fun h => (no_of (by kernel_rfl) h).elim, fun _ => h1.put2, fun _ => h2.far2 (by omega), fun h => (no_of h (by kernel_rfl)).elim, bl_set2 hbb (by omega)⟩ ?_; clear hx h1 h2 hbb qc qf)
      clear hK K; intro W13
      (try simp only [Act.put, List.getElem_toArray, List.getElem_cons_succ, List.getElem_cons_zero, List.setIfInBounds_toArray, List.set_cons_zero, List.set_cons_succ])
      refine wpG_step (i := 13) (by kernel_rfl) rfl (by rfl) ?r14
      intro hS K hK
      (have hx := hS.1; have h1 := hS.2.2.1 (by kernel_rfl); have h2 := hS.2.2.2.1 (by kernel_rfl); have hbb := hS.2.2.2.2.2; clear hS; have qc := h2.cell; have qf := h2.frozen; go_simp; refine hK.out _ _ ⟨hx.set2 (by omega), fun h => (no_of (by kernel_rfl) h).elim, fun _ => h1.far2 (by omega), fun h => (no_of (by kernel_rfl) h).elim, fun _ => h2.put2, bl_set2 hbb (by omega)⟩ ?_; clear hx h1 h2 hbb qc qf)
      clear hK K; intro W14
      (try simp only [Act.put, List.getElem_toArray, List.getElem_cons_succ, List.getElem_cons_zero, List.setIfInBounds_toArray, List.set_cons_zero, List.set_cons_succ])
      refine wpG_end (by kernel_rfl) ?_
      intro W
       hS
      go_wp2
      all_goals
        refine ret_blk2 2 3 23 23 (by rfl) (by rfl) _ _ (by rfl) (by rfl) _ _ (hS.2.2.1 (by kernel_rfl)) (hS.2.2.2.2.1 (by kernel_rfl)) _ _ Try.underlying23 (by rfl) (by kernel_rfl) Try.underlying23 (by rfl) (by kernel_rfl) ?_
        refine ⟨?_, hS.2.2.2.2.2⟩
        unfold winS winL
        rw [HS.out, HL.out]
        rfl

theorem windows_any (j : Jb) (A : Option Addr) (c : Nat) (w : World) (hj : j.ok) (hr : Rd w w.heap.size 2 A j.sh.length (rc j.sh)) :
    Calls Try.prog 84 #[jobV j A c] w fun e w' => e = .returned (.tuple #[R2 (winS j).1 (winS j).2, R2 (winL j).1 (winL j).2]) ∧ Below w.heap.size w w' := by
  by_cases hs : j.sh = []
  · exact windows_nil j A c w hj hs
  · exact windows_cons j A c w hj hs hr

end Go.Proofs.Ythlpceoajhcliaa
end

section
/-
  reed: the verdict on pitches.
-/
namespace Go.Proofs.Ythlpceoajhcliaa
set_option linter.unusedSimpArgs false
set_option linter.unusedVariables false
open Go.RowKit

def passesJ (j : Jb) (p0 p1 : Int) : Int :=
  if hasB (winS j).1 (winS j).2 p0 p1 = true then 1 else if (meetL (winL j) [(p0, p1)]).2 < (meetL (winL j) [(p0, p1)]).1 then 2 else 3

set_option maxRecDepth 100000 in
set_option maxHeartbeats 1000000 in
theorem passes_any (j : Jb) (A : Option Addr) (c : Nat) (p0 p1 : Int) (w : World) (hj : j.ok) (hr : Rd w w.heap.size 2 A j.sh.length (rc j.sh)) :
    Calls Try.prog 88 #[jobV j A c, R2 p0 p1] w fun e w' => e = .returned (.int .i64 (passesJ j p0 p1)) ∧ Below w.heap.size w w' := by
  have HR := Lib.hid hr
  have HJ := Lib.hid hj
  clear hr hj
  have q0 := (Bk.new w 30 #[.int .i64 j.p0, .int .i64 j.p1, .int .i64 j.t0, .int .i64 j.t1, .int .i64 j.r0, .int .i64 j.r1, .int .i64 j.u0, .int .i64 j.u1, .int .i64 j.d0, .int .i64 j.d1, .int .i64 j.a0, .int .i64 j.a1, .int .i64 j.b0, .int .i64 j.b1, .int .i64 j.le, .slice A j.sh.length c, .int .i64 j.wi, .int .i64 j.me]).alloc (.cells #[.int .i64 p0, .int .i64 p1] 23)
  have h1 : hasB (winS j).1 (winS j).2 p0 p1 = true ∨ hasB (winS j).1 (winS j).2 p0 p1 = false := by cases hasB (winS j).1 (winS j).2 p0 p1 <;> simp
  have h2 : (meetL (winL j) [(p0, p1)]).2 < (meetL (winL j) [(p0, p1)]).1 ∨ ¬ (meetL (winL j) [(p0, p1)]).2 < (meetL (winL j) [(p0, p1)]).1 := Decidable.em _
  have HP : Hid (passesJ j p0 p1 = if hasB (winS j).1 (winS j).2 p0 p1 = true then 1 else if (meetL (winL j) [(p0, p1)]).2 < (meetL (winL j) [(p0, p1)]).1 then 2 else 3) := rfl
  generalize passesJ j p0 p1 = pj at *
  generalize hws : winS j = ws at *
  have HWS := Lib.hid hws
  generalize hwl : winL j = wl at *
  have HWL := Lib.hid hwl
  clear hws hwl
  obtain ⟨s0, s1⟩ := ws
  obtain ⟨l0, l1⟩ := wl
  rcases h1 with h1 | h1 <;> rcases h2 with h2 | h2
  all_goals
    have H1 := Lib.hid h1
    have H2 := Lib.hid h2
    go_enter Try.func88, Try.ntmps88
    go_wp2_with (first
      | (refine wpList_load_blk (by rfl) 30 (.tmp 2) (by rfl) _ (by rfl) _ q0 _ Try.underlying30 (by rfl) (by kernel_rfl) ?_)
      | (go_at_call 84; ((with_reducible refine (windows_any j _ _ _ HJ.out ?_).mono ?_); (exact (HR.out.below (by (repeat' (first | (with_reducible exact Below.refl _ _) | (with_reducible refine Below.alloc ?_ ?_ _) | (with_reducible refine Below.setCell ?_ ?_ _) | (with_reducible refine Below.drew ?_) | ((with_reducible refine Below.trans ?_ (Below.mono (by assumption) ?_))) | go_size)))).more (by go_size)); rintro e w1 ⟨rfl, hb1⟩; have hz1 := hb1.size; (try simp only [World.size_alloc] at hz1); rw [HWS.out, HWL.out]; have q1 := (Bk.newAt (w.alloc (.cells #[.int .i64 j.p0, .int .i64 j.p1, .int .i64 j.t0, .int .i64 j.t1, .int .i64 j.r0, .int .i64 j.r1, .int .i64 j.u0, .int .i64 j.u1, .int .i64 j.d0, .int .i64 j.d1, .int .i64 j.a0, .int .i64 j.a1, .int .i64 j.b0, .int .i64 j.b1, .int .i64 j.le, .slice A j.sh.length c, .int .i64 j.wi, .int .i64 j.me] 30)) 23 #[.int .i64 p0, .int .i64 p1] (w.heap.size + 1) (by simp)).below hb1; have c1 := q1.cell; have y1 := q1.lt; have y0 : w.heap.size < w1.heap.size := (by omega)))
      | (go_at_call 86; ((with_reducible refine (meet_any _ _ _ _ _ [(p0, p1)] _ ?_ ?_).mono ?_); (exact Rd.newAt _ _ _ _ _ _ _ _ (by simp) (by simp) rfl rfl); (omega); rintro e w2 ⟨rfl, hb2⟩; have hz2 := hb2.size; (try simp only [World.size_alloc] at hz2); have q5 : Bk w2 w1.heap.size #[.int .i64 s0, .int .i64 s1] := Bk.below (by (repeat' (first | (with_reducible refine Bk.drew ?_) | ((with_reducible refine Bk.newAt _ _ _ _ ?_); (simp; done)) | (with_reducible refine Bk.alloc ?_ _)))) hb2; have q3 : Bk w2 (w.heap.size + 1) #[.int .i64 p0, .int .i64 p1] := Bk.below (((q1.alloc _).alloc _).alloc _) hb2; clear c1; have c5 := q5.cell; have c3 := q3.cell; have l5 := q5.lt; have l3 := q3.lt; have l4 : w.heap.size < w2.heap.size := (by omega)))
      | (go_at_call 106; ((with_reducible refine (has_any _ _ _ _ _).mono ?_); rintro e w3 ⟨rfl, hb3⟩; have hz3 := hb3.size; (try simp only [World.size_alloc] at hz3); have hbw : Below w.heap.size w w3 := (by (repeat' (first | (with_reducible exact Below.refl _ _) | (with_reducible refine Below.alloc ?_ ?_ _) | (with_reducible refine Below.setCell ?_ ?_ _) | (with_reducible refine Below.drew ?_) | ((with_reducible refine Below.trans ?_ (Below.mono (by assumption) ?_))) | go_size))); have q7 := (Bk.new w2 23 #[.int .i64 (meetL (l0, l1) [(p0, p1)]).1, .int .i64 (meetL (l0, l1) [(p0, p1)]).2]).below hb3; have c7 := q7.cell)))
    go_ret
    refine ⟨ret_int ?_, hbw⟩
    have h1 := H1.out
    have h2 := H2.out
    rw [HP.out]
    (repeat' split)
    all_goals first | rfl | omega | (exfalso; simp_all; done)

end Go.Proofs.Ythlpceoajhcliaa
end

section
/-
  reed: the verdict on a tongue that has been filed.
-/
namespace Go.Proofs.Ythlpceoajhcliaa
set_option linter.unusedSimpArgs false
set_option linter.unusedVariables false
open Go.RowKit

def fineJ (j : Jb) (s : St) : Int :=
  if passesJ j s.p0 s.p1 = 1 ∧ s.spoiled = 2 then 1 else if passesJ j s.p0 s.p1 = 2 ∨ s.spoiled = 1 then 2 else 3

set_option maxRecDepth 100000 in
set_option maxHeartbeats 1000000 in
theorem fine_any (j : Jb) (A : Option Addr) (c : Nat) (s : St) (w : World) (hj : j.ok) (hr : Rd w w.heap.size 2 A j.sh.length (rc j.sh)) :
    Calls Try.prog 68 #[jobV j A c, stV s] w fun e w' => e = .returned (.int .i64 (fineJ j s)) ∧ Below w.heap.size w w' := by
  have HR := Lib.hid hr
  have HJ := Lib.hid hj
  clear hr hj
  have HF : Hid (fineJ j s = if passesJ j s.p0 s.p1 = 1 ∧ s.spoiled = 2 then 1 else if passesJ j s.p0 s.p1 = 2 ∨ s.spoiled = 1 then 2 else 3) := rfl
  generalize fineJ j s = fj at *
  generalize hpj : passesJ j s.p0 s.p1 = pj at *
  have HP := Lib.hid hpj
  generalize hsp : s.spoiled = sp at *
  have HSP := Lib.hid hsp
  clear hpj hsp
  go_enter Try.func68, Try.ntmps68
  go_wp2
  refine wp_region_G (fun _ W => Bk W w.heap.size #[.int .i64 j.p0, .int .i64 j.p1, .int .i64 j.t0, .int .i64 j.t1, .int .i64 j.r0, .int .i64 j.r1, .int .i64 j.u0, .int .i64 j.u1, .int .i64 j.d0, .int .i64 j.d1, .int .i64 j.a0, .int .i64 j.a1, .int .i64 j.b0, .int .i64 j.b1, .int .i64 j.le, .slice A j.sh.length c, .int .i64 j.wi, .int .i64 j.me] ∧ Bk W (w.heap.size + 1) (stA s) ∧ Below w.heap.size w W) 9 (by kernel_rfl) (by kernel_rfl) ?s0 ?r0
  case s0 => (exact ⟨by (repeat' (first | (with_reducible refine Bk.drew ?_) | ((with_reducible refine Bk.newAt _ _ _ _ ?_); (simp; done)) | (with_reducible refine Bk.alloc ?_ _))), by (repeat' (first | (with_reducible refine Bk.drew ?_) | ((with_reducible refine Bk.newAt _ _ _ _ ?_); (simp; done)) | (with_reducible refine Bk.alloc ?_ _))), by (repeat' (first | (with_reducible exact Below.refl _ _) | (with_reducible refine Below.alloc ?_ ?_ _) | (with_reducible refine Below.setCell ?_ ?_ _) | (with_reducible refine Below.drew ?_) | ((with_reducible refine Below.trans ?_ (Below.mono (by assumption) ?_))) | go_size))⟩)
  intro W0
  refine wpG_take (i := 0) (v := ?v1) rfl (by kernel_rfl) (by exact fun _ _ => Iff.rfl) (fun _ _ _ h => h) (Or.inl ⟨by rfl, ?y1⟩) ?r1
  case y1 => (intro w' hy; obtain ⟨L, hD, hl, hS⟩ := hy; ((refine run_load_blk 30 (.tmp 2) ?_ _ ?_ _ hS.1 _ Try.underlying30 ?_ ?_) <;> first | rfl | kernel_rfl); (try with_reducible rfl))
  (try simp only [Act.put, List.getElem_toArray, List.getElem_cons_succ, List.getElem_cons_zero, List.setIfInBounds_toArray, List.set_cons_zero, List.set_cons_succ])
  refine wpG_take (i := 1) (v := ?v2) rfl (by kernel_rfl) (by exact fun _ _ => Iff.rfl) (fun _ _ _ h => h) (Or.inl ⟨by rfl, ?y2⟩) ?r2
  case y2 => (intro w' hy; obtain ⟨L, hD, hl, hS⟩ := hy; clear hD hl hS; go_simp; (try with_reducible rfl))
  (try simp only [Act.put, List.getElem_toArray, List.getElem_cons_succ, List.getElem_cons_zero, List.setIfInBounds_toArray, List.set_cons_zero, List.set_cons_succ])
  refine wpG_take (i := 2) (v := ?v3) rfl (by kernel_rfl) (by exact fun _ _ => Iff.rfl) (fun _ _ _ h => h) (Or.inl ⟨by rfl, ?y3⟩) ?r3
  case y3 => (intro w' hy; obtain ⟨L, hD, hl, hS⟩ := hy; clear hD hl hS; go_simp; (try with_reducible rfl))
  (try simp only [Act.put, List.getElem_toArray, List.getElem_cons_succ, List.getElem_cons_zero, List.setIfInBounds_toArray, List.set_cons_zero, List.set_cons_succ])
  refine wpG_take (i := 3) (v := ?v4) rfl (by kernel_rfl) (by exact fun _ _ => Iff.rfl) (fun _ _ _ h => h) (Or.inl ⟨by rfl, ?y4⟩) ?r4
  case y4 => (intro w' hy; obtain ⟨L, hD, hl, hS⟩ := hy; have qc := hS.2.1.cell; clear hS hD hl; go_simp; (try with_reducible rfl))
  (try simp only [Act.put, List.getElem_toArray, List.getElem_cons_succ, List.getElem_cons_zero, List.setIfInBounds_toArray, List.set_cons_zero, List.set_cons_succ])
  refine wpG_take (i := 5) (v := ?v5) rfl (by kernel_rfl) (by exact fun _ _ => Iff.rfl) (fun _ _ _ h => h) (Or.inl ⟨by rfl, ?y5⟩) ?r5
  case y5 => (intro w' hy; obtain ⟨L, hD, hl, hS⟩ := hy; ((refine run_load_blk 92 (.tmp 3) ?_ _ ?_ _ hS.2.1 _ Try.underlying92 ?_ ?_) <;> first | rfl | kernel_rfl); (try with_reducible rfl))
  (try simp only [Act.put, List.getElem_toArray, List.getElem_cons_succ, List.getElem_cons_zero, List.setIfInBounds_toArray, List.set_cons_zero, List.set_cons_succ])
  refine wpG_step (i := 4) (by kernel_rfl) rfl (by rfl) ?r6
  intro hS K hK
  (obtain ⟨h1, h2, hb⟩ := hS; go_simp; refine (passes_any j _ _ _ _ _ HJ.out ((HR.out.below hb).more hb.size)).mono ?_; rintro e V1 ⟨rfl, hb1⟩; rw [HP.out]; refine hK.out _ _ ⟨h1.below hb1, h2.below hb1, bl_trans hb hb1 hb.size⟩ ?_; clear h1 h2 hb hb1)
  clear hK K; intro W6
  (try simp only [Act.put, List.getElem_toArray, List.getElem_cons_succ, List.getElem_cons_zero, List.setIfInBounds_toArray, List.set_cons_zero, List.set_cons_succ])
  refine wpG_step (i := 6) (by kernel_rfl) rfl (by rfl) ?r7
  intro hS K hK
  (obtain ⟨h1, h2, hb⟩ := hS; go_simp; refine (spoiled_any s _).mono ?_; rintro e V2 ⟨rfl, hb1⟩; rw [HSP.out]; refine hK.out _ _ ⟨h1.below hb1, h2.below hb1, bl_trans hb hb1 hb.size⟩ ?_; clear h1 h2 hb hb1)
  clear hK K; intro W7
  (try simp only [Act.put, List.getElem_toArray, List.getElem_cons_succ, List.getElem_cons_zero, List.setIfInBounds_toArray, List.set_cons_zero, List.set_cons_succ])
  refine wpG_take (i := 7) (v := ?v8) rfl (by kernel_rfl) (by exact fun _ _ => Iff.rfl) (fun _ _ _ h => h) (Or.inl ⟨by rfl, ?y8⟩) ?r8
  case y8 => (intro w' hy; obtain ⟨L, hD, hl, hS⟩ := hy; clear hD hl hS; go_simp; (try with_reducible rfl))
  (try simp only [Act.put, List.getElem_toArray, List.getElem_cons_succ, List.getElem_cons_zero, List.setIfInBounds_toArray, List.set_cons_zero, List.set_cons_succ])
  refine wpG_take (i := 8) (v := ?v9) rfl (by kernel_rfl) (by exact fun _ _ => Iff.rfl) (fun _ _ _ h => h) (Or.inl ⟨by rfl, ?y9⟩) ?r9
  case y9 => (intro w' hy; obtain ⟨L, hD, hl, hS⟩ := hy; clear hD hl hS; go_simp; (try with_reducible rfl))
  (try simp only [Act.put, List.getElem_toArray, List.getElem_cons_succ, List.getElem_cons_zero, List.setIfInBounds_toArray, List.set_cons_zero, List.set_cons_succ])
  refine wpG_end (by kernel_rfl) ?_
  intro W
   hS
  have hb := hS.2.2
  clear hS
  go_wp2
  all_goals
    go_ret
    refine ⟨ret_int ?_, hb⟩
    rw [HF.out]
    (repeat' split)
    all_goals first | rfl | (exfalso; simp_all; done)

end Go.Proofs.Ythlpceoajhcliaa
end

section
/-
  reed: jobs that are valid, in plain words.
-/
namespace Go.Proofs.Ythlpceoajhcliaa
set_option linter.unusedSimpArgs false
set_option linter.unusedVariables false
open Go.RowKit

theorem within_of {n lo hi : Int} (h : withinB n lo hi = true) : lo ≤ n ∧ n ≤ hi := by unfold withinB at h; simpa using h
theorem chkR_of {x0 x1 lo hi : Int} (h : chkR x0 x1 lo hi = 0) : lo ≤ x0 ∧ x0 ≤ x1 ∧ x1 ≤ hi := by
  unfold chkR at h
  split at h
  · rename_i h1
    have a := within_of h1.1
    have b := within_of h1.2
    split at h
    · omega
    · omega
  · omega
theorem chkAll_of {lo hi : Int} : ∀ {l : List (Int × Int)}, chkAll lo hi l = 0 → ∀ p ∈ l, lo ≤ p.1 ∧ p.1 ≤ p.2 ∧ p.2 ≤ hi := by
  intro l
  induction l with
  | nil => intro _ p hp; cases hp
  | cons q r ih =>
    intro h p hp
    unfold chkAll at h
    split at h
    · rename_i h1; rw [h] at h1; simp at h1
    · rename_i h1
      have h0 : chkR q.1 q.2 lo hi = 0 := by simpa using h1
      rcases List.mem_cons.1 hp with rfl | hp
      · exact chkR_of h0
      · exact ih h p hp

/-- A valid job. -/
structure Jb.good (j : Jb) : Prop where
  p : -60 ≤ j.p0 ∧ j.p0 ≤ j.p1 ∧ j.p1 ≤ 60
  t : 0 ≤ j.t0 ∧ j.t0 ≤ j.t1 ∧ j.t1 ≤ 100
  r : 0 ≤ j.r0 ∧ j.r0 ≤ j.r1 ∧ j.r1 ≤ 100
  u : 0 ≤ j.u0 ∧ j.u0 ≤ j.u1 ∧ j.u1 ≤ 12
  d : 0 ≤ j.d0 ∧ j.d0 ≤ j.d1 ∧ j.d1 ≤ 12
  a : 0 ≤ j.a0 ∧ j.a0 ≤ j.a1 ∧ j.a1 ≤ 12
  b : 0 ≤ j.b0 ∧ j.b0 ≤ j.b1 ∧ j.b1 ≤ 12
  le : 0 ≤ j.le ∧ j.le ≤ 100
  few : j.sh.length ≤ 4
  sh : ∀ p ∈ j.sh, -60 ≤ p.1 ∧ p.1 ≤ p.2 ∧ p.2 ≤ 60
  wi : 0 ≤ j.wi ∧ j.wi ≤ 60
  me : 0 ≤ j.me ∧ j.me ≤ 6
theorem bne_no {n : Int} (h : ¬ (n != 0) = true) : n = 0 := by simpa using h
theorem good_of {j : Jb} (h : checkJ j = 0) : j.good := by
  unfold checkJ at h
  split at h
  · rename_i h1; rw [h] at h1; simp at h1
  rename_i h1
  split at h
  · rename_i h2; rw [h] at h2; simp at h2
  rename_i h2
  split at h
  · rename_i h3; rw [h] at h3; simp at h3
  rename_i h3
  split at h
  · omega
  rename_i h4
  split at h
  · omega
  rename_i h5
  split at h
  · rename_i h6; rw [h] at h6; simp at h6
  rename_i h6
  split at h
  · omega
  rename_i h7
  have e1 := chkR_of (bne_no h1)
  have e2 := chkAll_of (bne_no h2)
  have e3 := chkAll_of (bne_no h3)
  have e6 := chkAll_of (bne_no h6)
  have e4 := within_of (by simpa using h4 : withinB j.le 0 100 = true)
  simp only [not_or, Bool.not_eq_true', Bool.not_eq_false] at h7
  have e7 := within_of h7.1
  have e8 := within_of h7.2
  exact ⟨e1, e2 (j.t0, j.t1) (by simp), e2 (j.r0, j.r1) (by simp), e3 (j.u0, j.u1) (by simp), e3 (j.d0, j.d1) (by simp), e3 (j.a0, j.a1) (by simp), e3 (j.b0, j.b1) (by simp), e4, by omega, e6, e7, e8⟩
theorem Jb.good.ok {j : Jb} (h : j.good) : j.ok := by
  have := h.wi
  exact ⟨by omega, fun p hp => by have := h.sh p hp; omega, h.few⟩
theorem Jb.good.st {j : Jb} (h : j.good) : j.st.upTo 1000 := by
  obtain ⟨h1, h2, h3, h4, h5, h6, h7, h8, h9, h10, h11, h12⟩ := h
  constructor <;> simp only [Jb.st] <;> omega
theorem chkS_of : ∀ {l : List Int}, chkS l = 0 → ∀ k ∈ l, okS k = true := by
  intro l
  induction l with
  | nil => intro _ k hk; cases hk
  | cons q r ih =>
    intro h k hk
    unfold chkS at h
    split at h
    · rename_i h1
      rcases List.mem_cons.1 hk with rfl | hk
      · exact h1
      · exact ih h k hk
    · omega

end Go.Proofs.Ythlpceoajhcliaa
end

section
/-
  reed: After.
-/
namespace Go.Proofs.Ythlpceoajhcliaa
set_option linter.unusedSimpArgs false
set_option linter.unusedVariables false
open Go.RowKit

def St.tongue (s : St) : Array Value := #[.int .i64 s.p0, .int .i64 s.p1, .int .i64 s.t0, .int .i64 s.t1, .int .i64 s.r0, .int .i64 s.r1]
def tongue0 : Array Value := #[.int .i64 0, .int .i64 0, .int .i64 0, .int .i64 0, .int .i64 0, .int .i64 0]
def afterC (j : Jb) (l : List Int) : Array Value := if checkStrokesJ j l = 0 then (j.st.after l).tongue else tongue0

theorem Try.fieldTongue (w : World) (a b c d e f g h i j k l m n o : Value) : (Instr.field 92 (.agg #[a, b, c, d, e, f, g, h, i, j, k, l, m, n, o]) 0).run Try.prog w = .ok (.agg #[a, b, c, d, e, f]) w := by kernel_rfl

theorem strokes_of {j : Jb} {l : List Int} (h : checkStrokesJ j l = 0) : checkJ j = 0 ∧ l.length ≤ 6 ∧ ∀ k ∈ l, okS k = true := by
  unfold checkStrokesJ at h
  split at h
  · rename_i h1; rw [h] at h1; simp at h1
  rename_i h1
  split at h
  · omega
  · exact ⟨bne_no h1, by omega, chkS_of h⟩

set_option maxRecDepth 100000 in
set_option maxHeartbeats 1000000 in
theorem After_any (j : Jb) (A : Option Addr) (c : Nat) (B : Option Addr) (d n : Nat) (l : List Int) (w : World) (hr : Rd w w.heap.size 2 A j.sh.length (rc j.sh)) (hn : j.sh.length ≤ 9223372036854775807) (hl : Rd w w.heap.size 1 B n (ic l)) (hm : n ≤ 9223372036854775807) :
    Calls Try.prog 34 #[jobV j A c, .slice B n d] w fun e w' => e = .returned (.tuple #[.agg (afterC j l), .int .i64 (checkStrokesJ j l)]) ∧ Below w.heap.size w w' := by
  have HR := Lib.hid hr
  have HL := Lib.hid hl
  have HN := Lib.hid hl.len1
  clear hr hl
  have q0 := (Bk.new w 30 #[.int .i64 j.p0, .int .i64 j.p1, .int .i64 j.t0, .int .i64 j.t1, .int .i64 j.r0, .int .i64 j.r1, .int .i64 j.u0, .int .i64 j.u1, .int .i64 j.d0, .int .i64 j.d1, .int .i64 j.a0, .int .i64 j.a1, .int .i64 j.b0, .int .i64 j.b1, .int .i64 j.le, .slice A j.sh.length c, .int .i64 j.wi, .int .i64 j.me]).alloc (.cells #[.int .i64 0, .int .i64 0, .int .i64 0, .int .i64 0, .int .i64 0, .int .i64 0] 25)
  have z0 : Bk ((w.alloc (.cells #[.int .i64 j.p0, .int .i64 j.p1, .int .i64 j.t0, .int .i64 j.t1, .int .i64 j.r0, .int .i64 j.r1, .int .i64 j.u0, .int .i64 j.u1, .int .i64 j.d0, .int .i64 j.d1, .int .i64 j.a0, .int .i64 j.a1, .int .i64 j.b0, .int .i64 j.b1, .int .i64 j.le, .slice A j.sh.length c, .int .i64 j.wi, .int .i64 j.me] 30)).alloc (.cells #[.int .i64 0, .int .i64 0, .int .i64 0, .int .i64 0, .int .i64 0, .int .i64 0] 25)) (w.heap.size + 1) #[.int .i64 0, .int .i64 0, .int .i64 0, .int .i64 0, .int .i64 0, .int .i64 0] := by (repeat' (first | (with_reducible refine Bk.drew ?_) | ((with_reducible refine Bk.newAt _ _ _ _ ?_); (simp; done)) | (with_reducible refine Bk.alloc ?_ _)))
  by_cases h0 : checkStrokesJ j l = 0
  · obtain ⟨hc, h6, hk⟩ := strokes_of h0
    have HU := Lib.hid (good_of hc).st
    have HK := Lib.hid hk
    have h6' : n ≤ 6 := by have := HN.out; omega
    have HA : Hid (afterC j l = (j.st.after l).tongue) := by show _ = _; unfold afterC; rw [if_pos h0]
    have H0 := Lib.hid h0
    clear hc h6 hk h0
    generalize afterC j l = ac at *
    generalize hcs : checkStrokesJ j l = cs at *
    have HCS := Lib.hid hcs
    clear hcs
    have hfld := Try.fieldTongue
    go_enter Try.func34, Try.ntmps34
    go_wp2_with (first
      | (refine wpList_load_blk (by rfl) 30 (.tmp 2) (by rfl) _ (by rfl) _ q0 _ Try.underlying30 (by rfl) (by kernel_rfl) ?_)
      | (go_at_call 83; ((with_reducible refine (checkStrokes_any j _ _ _ _ _ l _ ?_ hn ?_ hm).mono ?_); (exact (HR.out.below (by (repeat' (first | (with_reducible exact Below.refl _ _) | (with_reducible refine Below.alloc ?_ ?_ _) | (with_reducible refine Below.setCell ?_ ?_ _) | (with_reducible refine Below.drew ?_) | ((with_reducible refine Below.trans ?_ (Below.mono (by assumption) ?_))) | go_size)))).more (by go_size)); (exact (HL.out.below (by (repeat' (first | (with_reducible exact Below.refl _ _) | (with_reducible refine Below.alloc ?_ ?_ _) | (with_reducible refine Below.setCell ?_ ?_ _) | (with_reducible refine Below.drew ?_) | ((with_reducible refine Below.trans ?_ (Below.mono (by assumption) ?_))) | go_size)))).more (by go_size)); rintro e w1 ⟨rfl, hb1⟩; have hz1 := hb1.size; (try simp only [World.size_alloc] at hz1); rw [HCS.out, H0.out]; have hbw1 : Below w.heap.size w w1 := (by (repeat' (first | (with_reducible exact Below.refl _ _) | (with_reducible refine Below.alloc ?_ ?_ _) | (with_reducible refine Below.setCell ?_ ?_ _) | (with_reducible refine Below.drew ?_) | ((with_reducible refine Below.trans ?_ (Below.mono (by assumption) ?_))) | go_size))); have q1 := q0.below hb1; have z1 := z0.below hb1))
      | (refine wpList_load_blk (by rfl) 30 (.tmp 2) (by rfl) _ (by rfl) _ q1 _ Try.underlying30 (by rfl) (by kernel_rfl) ?_)
      | (go_at_call 69; ((with_reducible refine (after_any j _ _ _ _ _ l _ ?_ (by omega) HU.out HK.out).mono ?_); (exact (HL.out.below hbw1).more hbw1.size); rintro e w2 ⟨rfl, hb2⟩; have hz2 := hb2.size; (try simp only [World.size_alloc] at hz2); have hbw2 : Below w.heap.size w w2 := bl_trans hbw1 hb2 hbw1.size; have z2 := z1.below hb2))
      | (refine wpList_store_blk (by rfl) 25 (.tmp 4) (.tmp 17) (by rfl) _ _ _ (by rfl) (by rfl) z2 (by rfl) (by kernel_rfl) (by simp [Value.oneCell']) ?_; intro w3 z3 ho3))
    refine ret_blk1 4 5 25 (by rfl) (by rfl) _ _ (by rfl) (by rfl) _ z3 _ Try.underlying25 (by rfl) (by kernel_rfl) ?_
    rw [HA.out, H0.out]
    exact ⟨rfl, bl_oth hbw2 ho3 (by omega)⟩
  · have h1 : (checkStrokesJ j l != 0) = true := by simpa using h0
    have HA : Hid (afterC j l = tongue0) := by show _ = _; unfold afterC; rw [if_neg h0]
    clear h0
    generalize afterC j l = ac at *
    go_enter Try.func34, Try.ntmps34
    go_wp2_with (first
      | (refine wpList_load_blk (by rfl) 30 (.tmp 2) (by rfl) _ (by rfl) _ q0 _ Try.underlying30 (by rfl) (by kernel_rfl) ?_)
      | (go_at_call 83; ((with_reducible refine (checkStrokes_any j _ _ _ _ _ l _ ?_ hn ?_ hm).mono ?_); (exact (HR.out.below (by (repeat' (first | (with_reducible exact Below.refl _ _) | (with_reducible refine Below.alloc ?_ ?_ _) | (with_reducible refine Below.setCell ?_ ?_ _) | (with_reducible refine Below.drew ?_) | ((with_reducible refine Below.trans ?_ (Below.mono (by assumption) ?_))) | go_size)))).more (by go_size)); (exact (HL.out.below (by (repeat' (first | (with_reducible exact Below.refl _ _) | (with_reducible refine Below.alloc ?_ ?_ _) | (with_reducible refine Below.setCell ?_ ?_ _) | (with_reducible refine Below.drew ?_) | ((with_reducible refine Below.trans ?_ (Below.mono (by assumption) ?_))) | go_size)))).more (by go_size)); rintro e w1 ⟨rfl, hb1⟩; have hz1 := hb1.size; (try simp only [World.size_alloc] at hz1); have hbw1 : Below w.heap.size w w1 := (by (repeat' (first | (with_reducible exact Below.refl _ _) | (with_reducible refine Below.alloc ?_ ?_ _) | (with_reducible refine Below.setCell ?_ ?_ _) | (with_reducible refine Below.drew ?_) | ((with_reducible refine Below.trans ?_ (Below.mono (by assumption) ?_))) | go_size))); have z1 := z0.below hb1))
      | (refine wpList_store_blk (by rfl) 25 (.tmp 4) (.tmp 12) (by rfl) _ _ _ (by rfl) (by rfl) z1 (by rfl) (by kernel_rfl) (by simp [Value.oneCell']) ?_; intro w3 z3 ho3))
    refine ret_blk1 4 5 25 (by rfl) (by rfl) _ _ (by rfl) (by rfl) _ z3 _ Try.underlying25 (by rfl) (by kernel_rfl) ?_
    rw [HA.out]
    exact ⟨rfl, bl_oth hbw1 ho3 (by omega)⟩

end Go.Proofs.Ythlpceoajhcliaa
end

section
/-
  reed: Passes and Worst.
-/
namespace Go.Proofs.Ythlpceoajhcliaa
set_option linter.unusedSimpArgs false
set_option linter.unusedVariables false
open Go.RowKit

def passesT (j : Jb) : Int × Int := if checkJ j = 0 then (passesJ j j.p0 j.p1, 0) else (0, checkJ j)

set_option maxRecDepth 100000 in
set_option maxHeartbeats 1000000 in
theorem Passes_any (j : Jb) (A : Option Addr) (c : Nat) (w : World) (hr : Rd w w.heap.size 2 A j.sh.length (rc j.sh)) (hn : j.sh.length ≤ 9223372036854775807) :
    Calls Try.prog 46 #[jobV j A c] w fun e w' => e = .returned (.tuple #[.int .i64 (passesT j).1, .int .i64 (passesT j).2]) ∧ Below w.heap.size w w' := by
  have HR := Lib.hid hr
  clear hr
  by_cases h0 : checkJ j = 0
  · have HO := Lib.hid (good_of h0).ok
    have HW : Hid (passesT j = (passesJ j j.p0 j.p1, 0)) := by show _ = _; unfold passesT; rw [if_pos h0]
    have H0 := Lib.hid h0
    clear h0
    generalize passesT j = gj at *
    go_enter Try.func46, Try.ntmps46
    refine start noEx ?_
    intro wc M
    go_wp2_with (first | (refine m_ld1 M rfl rfl rfl (by (repeat' (first | exact List.mem_cons_self | refine List.mem_cons_of_mem _ ?_))) (by rfl) ?_) | (refine m_ldr M rfl rfl rfl (by (repeat' (first | exact List.mem_cons_self | refine List.mem_cons_of_mem _ ?_))) (by (try simp only [List.take_succ_cons, List.take_zero, List.take_nil, List.drop_succ_cons, List.drop_zero, List.drop_nil, List.cons_append, List.nil_append, List.append_nil, List.length_cons, List.length_nil, Nat.reduceAdd, Nat.zero_add, Nat.add_zero]); rfl) (by rfl) ?_) | (refine m_st M rfl rfl rfl (by first | exact (rfl : _ = Value.agg _) | exact (rfl : _ = Value.int _ _) | exact (rfl : _ = Value.bool _) | exact (rfl : _ = Value.slice _ _ _) | exact (rfl : _ = Value.pointer _) | exact (rfl : _ = Value.map _) | exact (rfl : _ = Value.func _ _ _) | exact (rfl : _ = Value.string _)) (by rfl) (by (repeat (first | exact Upd.head | apply Upd.tail))) (by (try simp only [List.take_succ_cons, List.take_zero, List.take_nil, List.drop_succ_cons, List.drop_zero, List.drop_nil, List.cons_append, List.nil_append, List.append_nil, List.length_cons, List.length_nil, Nat.reduceAdd, Nat.zero_add, Nat.add_zero]); rfl) (by simp) (by simp [Value.oneCell']) (by kernel_rfl) ?_; clear M; (try clear wc); intro wc M) | (refine m_al M rfl rfl ?_; clear M; (try clear wc); intro g wc M) | (refine m_bx M rfl rfl (by first | exact (rfl : _ = Value.agg _) | exact (rfl : _ = Value.int _ _) | exact (rfl : _ = Value.bool _) | exact (rfl : _ = Value.slice _ _ _) | exact (rfl : _ = Value.pointer _) | exact (rfl : _ = Value.map _) | exact (rfl : _ = Value.func _ _ _) | exact (rfl : _ = Value.string _)) (by rfl) ?_; clear M; (try clear wc); intro g wc M) | (go_at_call 49; ((with_reducible refine (check_any j _ _ _ ?_ ?_).mono ?_); ((exact M.rd HR.out (Nat.le_refl _)); (exact hn)); rw [H0.out]; rintro e wc ⟨rfl, hb⟩; replace M := M.call hb; clear hb)) | (go_at_call 88; ((with_reducible refine (passes_any j _ _ _ _ _ HO.out ?_).mono ?_); (exact M.rd HR.out (Nat.le_refl _)); rintro e wc ⟨rfl, hb⟩; replace M := M.call hb; clear hb)))
    go_ret2
    rw [HW.out]
    exact ⟨rfl, M.below⟩
  · have h1 : (checkJ j != 0) = true := by simpa using h0
    have HW : Hid (passesT j = (0, checkJ j)) := by show _ = _; unfold passesT; rw [if_neg h0]
    clear h0
    generalize passesT j = gj at *
    go_enter Try.func46, Try.ntmps46
    refine start noEx ?_
    intro wc M
    go_wp2_with (first | (refine m_ld1 M rfl rfl rfl (by (repeat' (first | exact List.mem_cons_self | refine List.mem_cons_of_mem _ ?_))) (by rfl) ?_) | (refine m_ldr M rfl rfl rfl (by (repeat' (first | exact List.mem_cons_self | refine List.mem_cons_of_mem _ ?_))) (by (try simp only [List.take_succ_cons, List.take_zero, List.take_nil, List.drop_succ_cons, List.drop_zero, List.drop_nil, List.cons_append, List.nil_append, List.append_nil, List.length_cons, List.length_nil, Nat.reduceAdd, Nat.zero_add, Nat.add_zero]); rfl) (by rfl) ?_) | (refine m_st M rfl rfl rfl (by first | exact (rfl : _ = Value.agg _) | exact (rfl : _ = Value.int _ _) | exact (rfl : _ = Value.bool _) | exact (rfl : _ = Value.slice _ _ _) | exact (rfl : _ = Value.pointer _) | exact (rfl : _ = Value.map _) | exact (rfl : _ = Value.func _ _ _) | exact (rfl : _ = Value.string _)) (by rfl) (by (repeat (first | exact Upd.head | apply Upd.tail))) (by (try simp only [List.take_succ_cons, List.take_zero, List.take_nil, List.drop_succ_cons, List.drop_zero, List.drop_nil, List.cons_append, List.nil_append, List.append_nil, List.length_cons, List.length_nil, Nat.reduceAdd, Nat.zero_add, Nat.add_zero]); rfl) (by simp) (by simp [Value.oneCell']) (by kernel_rfl) ?_; clear M; (try clear wc); intro wc M) | (refine m_al M rfl rfl ?_; clear M; (try clear wc); intro g wc M) | (refine m_bx M rfl rfl (by first | exact (rfl : _ = Value.agg _) | exact (rfl : _ = Value.int _ _) | exact (rfl : _ = Value.bool _) | exact (rfl : _ = Value.slice _ _ _) | exact (rfl : _ = Value.pointer _) | exact (rfl : _ = Value.map _) | exact (rfl : _ = Value.func _ _ _) | exact (rfl : _ = Value.string _)) (by rfl) ?_; clear M; (try clear wc); intro g wc M) | (go_at_call 49; ((with_reducible refine (check_any j _ _ _ ?_ ?_).mono ?_); ((exact M.rd HR.out (Nat.le_refl _)); (exact hn)); rintro e wc ⟨rfl, hb⟩; replace M := M.call hb; clear hb)))
    go_ret2
    rw [HW.out]
    exact ⟨rfl, M.below⟩

def wstep (p0 p1 : Int) (out : Int) (s : Int × Int) : Int := if (if out < -(p0 + s.1) then -(p0 + s.1) else out) < p1 + s.2 then p1 + s.2 else if out < -(p0 + s.1) then -(p0 + s.1) else out
theorem wstep_bd {p0 p1 out : Int} {s : Int × Int} (h0 : 0 ≤ out ∧ out ≤ 10000) (hp : -2000 ≤ p0 ∧ p1 ≤ 2000) (hs : -60 ≤ s.1 ∧ s.2 ≤ 60) : 0 ≤ wstep p0 p1 out s ∧ wstep p0 p1 out s ≤ 10000 := by unfold wstep; (repeat' split) <;> omega
def worstF (p0 p1 : Int) (sh : List (Int × Int)) : Int := (if sh = [] then [(0, 0)] else sh).foldl (wstep p0 p1) 0
def worstT (j : Jb) (l : List Int) : Int × Int := if checkStrokesJ j l = 0 then (worstF (j.st.after l).p0 (j.st.after l).p1 j.sh, 0) else (0, checkStrokesJ j l)
theorem fold_snoc (p0 p1 : Int) (l : List (Int × Int)) (k : Nat) (x0 x1 : Int) (h : l.drop k = (x0, x1) :: l.drop (k + 1)) : (l.take (k + 1)).foldl (wstep p0 p1) 0 = wstep p0 p1 ((l.take k).foldl (wstep p0 p1) 0) (x0, x1) := by
  have hk : k < l.length := by
    rcases Nat.lt_or_ge k l.length with h' | h'
    · exact h'
    · rw [List.drop_of_length_le h'] at h; cases h
  rw [List.drop_eq_getElem_cons hk] at h
  injection h with h _
  rw [List.take_succ_eq_append_getElem hk, List.foldl_append, h]
  rfl

theorem Try.fieldPitch (w : World) (a b c d e f : Value) : (Instr.field 25 (.agg #[a, b, c, d, e, f]) 0).run Try.prog w = .ok (.agg #[a, b]) w := by kernel_rfl

set_option maxRecDepth 100000 in
set_option maxHeartbeats 1000000 in
theorem Worst_any (j : Jb) (A : Option Addr) (c : Nat) (B : Option Addr) (d n : Nat) (l : List Int) (w : World) (hr : Rd w w.heap.size 2 A j.sh.length (rc j.sh)) (hn : j.sh.length ≤ 9223372036854775807) (hl : Rd w w.heap.size 1 B n (ic l)) (hm : n ≤ 9223372036854775807) :
    Calls Try.prog 51 #[jobV j A c, .slice B n d] w fun e w' => e = .returned (.tuple #[.int .i64 (worstT j l).1, .int .i64 (worstT j l).2]) ∧ Below w.heap.size w w' := by
  have HR := Lib.hid hr
  have HL := Lib.hid hl
  have HN := Lib.hid hl.len1
  clear hr hl
  by_cases h0 : checkStrokesJ j l = 0
  · obtain ⟨hc, h6, hk⟩ := strokes_of h0
    have HU := Lib.hid (good_of hc).st
    have HQ := Lib.hid (good_of hc)
    have HK := Lib.hid hk
    have h6' : n ≤ 6 := by have := HN.out; omega
    have HW : Hid (worstT j l = (worstF (j.st.after l).p0 (j.st.after l).p1 j.sh, 0)) := by show _ = _; unfold worstT; rw [if_pos h0]
    have H0 := Lib.hid h0
    have HUA := Lib.hid (after_upTo (good_of hc).st l)
    clear hc h6 hk h0
    have hfld := Try.fieldTongue
    have hfp := Try.fieldPitch
    have hb0 := HUA.out.p0
    have hb1 := HUA.out.p1
    have hln := HN.out
    rw [hln] at hb0 hb1
    clear hln HUA
    generalize worstT j l = gj at *
    generalize hst : j.st.after l = st at *
    have HST := Lib.hid hst
    clear hst
    by_cases hs0 : j.sh = []
    · have HS0 := Lib.hid hs0
      have hs1 : ((j.sh.length : Int) == 0) = true := by simpa using hs0
      have hs2 : (j.sh.length == 0) = true := by simpa using hs0
      have HF : Hid (worstF st.p0 st.p1 j.sh = wstep st.p0 st.p1 0 (0, 0)) := by show _ = _; unfold worstF; rw [if_pos hs0]; rfl
      clear hs0
      go_enter Try.func51, Try.ntmps51
      refine start noEx ?_
      intro wc M
      go_wp2_with (first | (refine m_ld1 M rfl rfl rfl (by (repeat' (first | exact List.mem_cons_self | refine List.mem_cons_of_mem _ ?_))) (by rfl) ?_) | (refine m_ldr M rfl rfl rfl (by (repeat' (first | exact List.mem_cons_self | refine List.mem_cons_of_mem _ ?_))) (by (try simp only [List.take_succ_cons, List.take_zero, List.take_nil, List.drop_succ_cons, List.drop_zero, List.drop_nil, List.cons_append, List.nil_append, List.append_nil, List.length_cons, List.length_nil, Nat.reduceAdd, Nat.zero_add, Nat.add_zero]); rfl) (by rfl) ?_) | (refine m_st M rfl rfl rfl (by first | exact (rfl : _ = Value.agg _) | exact (rfl : _ = Value.int _ _) | exact (rfl : _ = Value.bool _) | exact (rfl : _ = Value.slice _ _ _) | exact (rfl : _ = Value.pointer _) | exact (rfl : _ = Value.map _) | exact (rfl : _ = Value.func _ _ _) | exact (rfl : _ = Value.string _)) (by rfl) (by (repeat (first | exact Upd.head | apply Upd.tail))) (by (try simp only [List.take_succ_cons, List.take_zero, List.take_nil, List.drop_succ_cons, List.drop_zero, List.drop_nil, List.cons_append, List.nil_append, List.append_nil, List.length_cons, List.length_nil, Nat.reduceAdd, Nat.zero_add, Nat.add_zero]); rfl) (by simp) (by simp [Value.oneCell']) (by kernel_rfl) ?_; clear M; (try clear wc); intro wc M) | (refine m_al M rfl rfl ?_; clear M; (try clear wc); intro g wc M) | (refine m_bx M rfl rfl (by first | exact (rfl : _ = Value.agg _) | exact (rfl : _ = Value.int _ _) | exact (rfl : _ = Value.bool _) | exact (rfl : _ = Value.slice _ _ _) | exact (rfl : _ = Value.pointer _) | exact (rfl : _ = Value.map _) | exact (rfl : _ = Value.func _ _ _) | exact (rfl : _ = Value.string _)) (by rfl) ?_; clear M; (try clear wc); intro g wc M) | (refine absorb M ?_; intro M'; clear M; (obtain ⟨M, -⟩ : _ ∧ True := ⟨M', trivial⟩); clear M'; revert M; generalize World.alloc _ _ = wn; generalize wc.heap.size = g; (try clear wc); intro M; (obtain ⟨wc, rfl⟩ : ∃ x : World, x = wn := ⟨_, rfl⟩)) | (go_at_call 83; ((with_reducible refine (checkStrokes_any j _ _ _ _ _ l _ ?_ hn ?_ hm).mono ?_); ((exact M.rd HR.out (Nat.le_refl _)); (exact M.rd HL.out (Nat.le_refl _))); rw [H0.out]; rintro e wc ⟨rfl, hb⟩; replace M := M.call hb; clear hb)) | (go_at_call 69; ((with_reducible refine (after_any j _ _ _ _ _ l _ ?_ (by omega) HU.out HK.out).mono ?_); (exact M.rd HL.out (Nat.le_refl _)); rw [HST.out]; rintro e wc ⟨rfl, hb⟩; replace M := M.call hb; clear hb)))
      rename_i gJ wq1 wq2 gP K0 hK0
      go_loopw [9, 33] (fun out i wr => ∃ (k : Nat) (m : Int), k ≤ 1 ∧ i = .int .i64 k ∧ out = .int .i64 m ∧ Hid ((k = 0 ∧ m = 0) ∨ (k = 1 ∧ m = wstep st.p0 st.p1 0 (0, 0))) ∧ Mem w noEx wr [(g, .cells [.int .i64 0, .int .i64 0]), (gP, .cells [.int .i64 st.p0, .int .i64 st.p1])]) (fun _ i _ => 1 - (intOf i).toNat)
      case atStart => exact ⟨0, 0, by omega, rfl, rfl, .inl ⟨rfl, rfl⟩, M.sub (by (repeat (first | exact List.Sublist.slnil | apply List.Sublist.cons_cons | apply List.Sublist.cons)))⟩
      case round =>
        clear M wc
        obtain ⟨k, m, hk, rfl, rfl, he, M⟩ := hrel
        obtain ⟨wc, rfl⟩ : ∃ x : World, x = wr := ⟨_, rfl⟩
        rcases he.out with ⟨rfl, rfl⟩ | ⟨rfl, rfl⟩
        · clear he
          go_wp2_with (first | (refine m_ld1 M rfl rfl rfl (by (repeat' (first | exact List.mem_cons_self | refine List.mem_cons_of_mem _ ?_))) (by rfl) ?_) | (refine m_ldr M rfl rfl rfl (by (repeat' (first | exact List.mem_cons_self | refine List.mem_cons_of_mem _ ?_))) (by (try simp only [List.take_succ_cons, List.take_zero, List.take_nil, List.drop_succ_cons, List.drop_zero, List.drop_nil, List.cons_append, List.nil_append, List.append_nil, List.length_cons, List.length_nil, Nat.reduceAdd, Nat.zero_add, Nat.add_zero]); rfl) (by rfl) ?_) | (refine m_st M rfl rfl rfl (by first | exact (rfl : _ = Value.agg _) | exact (rfl : _ = Value.int _ _) | exact (rfl : _ = Value.bool _) | exact (rfl : _ = Value.slice _ _ _) | exact (rfl : _ = Value.pointer _) | exact (rfl : _ = Value.map _) | exact (rfl : _ = Value.func _ _ _) | exact (rfl : _ = Value.string _)) (by rfl) (by (repeat (first | exact Upd.head | apply Upd.tail))) (by (try simp only [List.take_succ_cons, List.take_zero, List.take_nil, List.drop_succ_cons, List.drop_zero, List.drop_nil, List.cons_append, List.nil_append, List.append_nil, List.length_cons, List.length_nil, Nat.reduceAdd, Nat.zero_add, Nat.add_zero]); rfl) (by simp) (by simp [Value.oneCell']) (by kernel_rfl) ?_; clear M; (try clear wc); intro wc M) | (refine m_al M rfl rfl ?_; clear M; (try clear wc); intro g wc M) | (refine m_bx M rfl rfl (by first | exact (rfl : _ = Value.agg _) | exact (rfl : _ = Value.int _ _) | exact (rfl : _ = Value.bool _) | exact (rfl : _ = Value.slice _ _ _) | exact (rfl : _ = Value.pointer _) | exact (rfl : _ = Value.map _) | exact (rfl : _ = Value.func _ _ _) | exact (rfl : _ = Value.string _)) (by rfl) ?_; clear M; (try clear wc); intro g wc M) | (go_at_call 96; ((with_reducible refine (plus_any _ _ _ _ _ (by omega) (by omega) (by omega) (by omega)).mono ?_); skip; rintro e wc ⟨rfl, hb⟩; replace M := M.call hb; clear hb)))
          go_roundw
          case rel => exact ⟨1, wstep st.p0 st.p1 0 (0, 0), by omega, rfl, congrArg (Value.int .i64) (by unfold wstep; dsimp only; (repeat' split) <;> omega), .inr ⟨rfl, rfl⟩, M.sub (by (repeat (first | exact List.Sublist.slnil | apply List.Sublist.cons_cons | apply List.Sublist.cons)))⟩
          case measure => simp [intOf]
        · clear he
          generalize hwv : wstep st.p0 st.p1 0 (0, 0) = wv at *
          have HWV := Lib.hid hwv
          clear hwv
          go_wp2_with (first | (refine m_ld1 M rfl rfl rfl (by (repeat' (first | exact List.mem_cons_self | refine List.mem_cons_of_mem _ ?_))) (by rfl) ?_) | (refine m_ldr M rfl rfl rfl (by (repeat' (first | exact List.mem_cons_self | refine List.mem_cons_of_mem _ ?_))) (by (try simp only [List.take_succ_cons, List.take_zero, List.take_nil, List.drop_succ_cons, List.drop_zero, List.drop_nil, List.cons_append, List.nil_append, List.append_nil, List.length_cons, List.length_nil, Nat.reduceAdd, Nat.zero_add, Nat.add_zero]); rfl) (by rfl) ?_) | (refine m_st M rfl rfl rfl (by first | exact (rfl : _ = Value.agg _) | exact (rfl : _ = Value.int _ _) | exact (rfl : _ = Value.bool _) | exact (rfl : _ = Value.slice _ _ _) | exact (rfl : _ = Value.pointer _) | exact (rfl : _ = Value.map _) | exact (rfl : _ = Value.func _ _ _) | exact (rfl : _ = Value.string _)) (by rfl) (by (repeat (first | exact Upd.head | apply Upd.tail))) (by (try simp only [List.take_succ_cons, List.take_zero, List.take_nil, List.drop_succ_cons, List.drop_zero, List.drop_nil, List.cons_append, List.nil_append, List.append_nil, List.length_cons, List.length_nil, Nat.reduceAdd, Nat.zero_add, Nat.add_zero]); rfl) (by simp) (by simp [Value.oneCell']) (by kernel_rfl) ?_; clear M; (try clear wc); intro wc M) | (refine m_al M rfl rfl ?_; clear M; (try clear wc); intro g wc M) | (refine m_bx M rfl rfl (by first | exact (rfl : _ = Value.agg _) | exact (rfl : _ = Value.int _ _) | exact (rfl : _ = Value.bool _) | exact (rfl : _ = Value.slice _ _ _) | exact (rfl : _ = Value.pointer _) | exact (rfl : _ = Value.map _) | exact (rfl : _ = Value.func _ _ _) | exact (rfl : _ = Value.string _)) (by rfl) ?_; clear M; (try clear wc); intro g wc M))
          go_ret2
          rw [HW.out, HF.out]
          exact ⟨rfl, M.below⟩
    · have hs1 : ((j.sh.length : Int) == 0) = false := by simpa using hs0
      have hs2 : (j.sh.length == 0) = false := by simpa using hs0
      have HF : Hid (worstF st.p0 st.p1 j.sh = j.sh.foldl (wstep st.p0 st.p1) 0) := by show _ = _; unfold worstF; rw [if_neg hs0]
      clear hs0
      go_enter Try.func51, Try.ntmps51
      refine start noEx ?_
      intro wc M
      go_wp2_with (first | (refine m_ld1 M rfl rfl rfl (by (repeat' (first | exact List.mem_cons_self | refine List.mem_cons_of_mem _ ?_))) (by rfl) ?_) | (refine m_ldr M rfl rfl rfl (by (repeat' (first | exact List.mem_cons_self | refine List.mem_cons_of_mem _ ?_))) (by (try simp only [List.take_succ_cons, List.take_zero, List.take_nil, List.drop_succ_cons, List.drop_zero, List.drop_nil, List.cons_append, List.nil_append, List.append_nil, List.length_cons, List.length_nil, Nat.reduceAdd, Nat.zero_add, Nat.add_zero]); rfl) (by rfl) ?_) | (refine m_st M rfl rfl rfl (by first | exact (rfl : _ = Value.agg _) | exact (rfl : _ = Value.int _ _) | exact (rfl : _ = Value.bool _) | exact (rfl : _ = Value.slice _ _ _) | exact (rfl : _ = Value.pointer _) | exact (rfl : _ = Value.map _) | exact (rfl : _ = Value.func _ _ _) | exact (rfl : _ = Value.string _)) (by rfl) (by (repeat (first | exact Upd.head | apply Upd.tail))) (by (try simp only [List.take_succ_cons, List.take_zero, List.take_nil, List.drop_succ_cons, List.drop_zero, List.drop_nil, List.cons_append, List.nil_append, List.append_nil, List.length_cons, List.length_nil, Nat.reduceAdd, Nat.zero_add, Nat.add_zero]); rfl) (by simp) (by simp [Value.oneCell']) (by kernel_rfl) ?_; clear M; (try clear wc); intro wc M) | (refine m_al M rfl rfl ?_; clear M; (try clear wc); intro g wc M) | (refine m_bx M rfl rfl (by first | exact (rfl : _ = Value.agg _) | exact (rfl : _ = Value.int _ _) | exact (rfl : _ = Value.bool _) | exact (rfl : _ = Value.slice _ _ _) | exact (rfl : _ = Value.pointer _) | exact (rfl : _ = Value.map _) | exact (rfl : _ = Value.func _ _ _) | exact (rfl : _ = Value.string _)) (by rfl) ?_; clear M; (try clear wc); intro g wc M) | (go_at_call 83; ((with_reducible refine (checkStrokes_any j _ _ _ _ _ l _ ?_ hn ?_ hm).mono ?_); ((exact M.rd HR.out (Nat.le_refl _)); (exact M.rd HL.out (Nat.le_refl _))); rw [H0.out]; rintro e wc ⟨rfl, hb⟩; replace M := M.call hb; clear hb)) | (go_at_call 69; ((with_reducible refine (after_any j _ _ _ _ _ l _ ?_ (by omega) HU.out HK.out).mono ?_); (exact M.rd HL.out (Nat.le_refl _)); rw [HST.out]; rintro e wc ⟨rfl, hb⟩; replace M := M.call hb; clear hb)))
      rename_i gJ wq K0 hK0
      go_loopw [9, 33] (fun out i wr => ∃ (k : Nat) (m : Int), k ≤ j.sh.length ∧ i = .int .i64 k ∧ out = .int .i64 m ∧ Hid ((j.sh.take k).foldl (wstep st.p0 st.p1) 0 = m) ∧ 0 ≤ m ∧ m ≤ 10000 ∧ Mem w noEx wr [(g, .cells [.int .i64 st.p0, .int .i64 st.p1])]) (fun _ i _ => j.sh.length - (intOf i).toNat)
      case atStart => exact ⟨0, 0, by omega, rfl, rfl, rfl, by omega, by omega, M.sub (by (repeat (first | exact List.Sublist.slnil | apply List.Sublist.cons_cons | apply List.Sublist.cons)))⟩
      case round =>
        clear M wc
        obtain ⟨k, m, hk, rfl, rfl, he, hm0, hm1, M⟩ := hrel
        obtain ⟨wc, rfl⟩ : ∃ x : World, x = wr := ⟨_, rfl⟩
        by_cases hlt : k < j.sh.length
        · obtain ⟨b, o, x0, x1, rfl, hbb, hd, d0, d1⟩ := (M.rd HR.out (Nat.le_refl _)).at2 hlt
          have HX := Lib.hid (HQ.out.sh (x0, x1) (by have : (x0, x1) ∈ j.sh.drop k := (by rw [hd]; exact List.mem_cons_self); exact List.mem_of_mem_drop this))
          have hx := HX.out
          have HD := Lib.hid hd
          clear hd
          go_wp2_with (first | (refine m_ld1 M rfl rfl rfl (by (repeat' (first | exact List.mem_cons_self | refine List.mem_cons_of_mem _ ?_))) (by rfl) ?_) | (refine m_ldr M rfl rfl rfl (by (repeat' (first | exact List.mem_cons_self | refine List.mem_cons_of_mem _ ?_))) (by (try simp only [List.take_succ_cons, List.take_zero, List.take_nil, List.drop_succ_cons, List.drop_zero, List.drop_nil, List.cons_append, List.nil_append, List.append_nil, List.length_cons, List.length_nil, Nat.reduceAdd, Nat.zero_add, Nat.add_zero]); rfl) (by rfl) ?_) | (refine m_st M rfl rfl rfl (by first | exact (rfl : _ = Value.agg _) | exact (rfl : _ = Value.int _ _) | exact (rfl : _ = Value.bool _) | exact (rfl : _ = Value.slice _ _ _) | exact (rfl : _ = Value.pointer _) | exact (rfl : _ = Value.map _) | exact (rfl : _ = Value.func _ _ _) | exact (rfl : _ = Value.string _)) (by rfl) (by (repeat (first | exact Upd.head | apply Upd.tail))) (by (try simp only [List.take_succ_cons, List.take_zero, List.take_nil, List.drop_succ_cons, List.drop_zero, List.drop_nil, List.cons_append, List.nil_append, List.append_nil, List.length_cons, List.length_nil, Nat.reduceAdd, Nat.zero_add, Nat.add_zero]); rfl) (by simp) (by simp [Value.oneCell']) (by kernel_rfl) ?_; clear M; (try clear wc); intro wc M) | (refine m_al M rfl rfl ?_; clear M; (try clear wc); intro g wc M) | (refine m_bx M rfl rfl (by first | exact (rfl : _ = Value.agg _) | exact (rfl : _ = Value.int _ _) | exact (rfl : _ = Value.bool _) | exact (rfl : _ = Value.slice _ _ _) | exact (rfl : _ = Value.pointer _) | exact (rfl : _ = Value.map _) | exact (rfl : _ = Value.func _ _ _) | exact (rfl : _ = Value.string _)) (by rfl) ?_; clear M; (try clear wc); intro g wc M) | (go_at_call 96; ((with_reducible refine (plus_any _ _ _ _ _ (by dsimp only at hx; omega) (by dsimp only at hx; omega) (by dsimp only at hx; omega) (by dsimp only at hx; omega)).mono ?_); skip; rintro e wc ⟨rfl, hb⟩; replace M := M.call hb; clear hb)))
          have hbd := wstep_bd (p0 := st.p0) (p1 := st.p1) (s := (x0, x1)) ⟨hm0, hm1⟩ ⟨by omega, by omega⟩ ⟨by dsimp only at hx ⊢; omega, by dsimp only at hx ⊢; omega⟩
          go_roundw
          case rel => exact ⟨k + 1, wstep st.p0 st.p1 m (x0, x1), by omega, by go_num, rfl, by (show _ = _; rw [fold_snoc _ _ _ _ _ _ HD.out, he.out]), hbd.1, hbd.2, M.sub (by (repeat (first | exact List.Sublist.slnil | apply List.Sublist.cons_cons | apply List.Sublist.cons)))⟩
          case measure => simp [intOf]; omega
        · go_wp2_with (first | (refine m_ld1 M rfl rfl rfl (by (repeat' (first | exact List.mem_cons_self | refine List.mem_cons_of_mem _ ?_))) (by rfl) ?_) | (refine m_ldr M rfl rfl rfl (by (repeat' (first | exact List.mem_cons_self | refine List.mem_cons_of_mem _ ?_))) (by (try simp only [List.take_succ_cons, List.take_zero, List.take_nil, List.drop_succ_cons, List.drop_zero, List.drop_nil, List.cons_append, List.nil_append, List.append_nil, List.length_cons, List.length_nil, Nat.reduceAdd, Nat.zero_add, Nat.add_zero]); rfl) (by rfl) ?_) | (refine m_st M rfl rfl rfl (by first | exact (rfl : _ = Value.agg _) | exact (rfl : _ = Value.int _ _) | exact (rfl : _ = Value.bool _) | exact (rfl : _ = Value.slice _ _ _) | exact (rfl : _ = Value.pointer _) | exact (rfl : _ = Value.map _) | exact (rfl : _ = Value.func _ _ _) | exact (rfl : _ = Value.string _)) (by rfl) (by (repeat (first | exact Upd.head | apply Upd.tail))) (by (try simp only [List.take_succ_cons, List.take_zero, List.take_nil, List.drop_succ_cons, List.drop_zero, List.drop_nil, List.cons_append, List.nil_append, List.append_nil, List.length_cons, List.length_nil, Nat.reduceAdd, Nat.zero_add, Nat.add_zero]); rfl) (by simp) (by simp [Value.oneCell']) (by kernel_rfl) ?_; clear M; (try clear wc); intro wc M) | (refine m_al M rfl rfl ?_; clear M; (try clear wc); intro g wc M) | (refine m_bx M rfl rfl (by first | exact (rfl : _ = Value.agg _) | exact (rfl : _ = Value.int _ _) | exact (rfl : _ = Value.bool _) | exact (rfl : _ = Value.slice _ _ _) | exact (rfl : _ = Value.pointer _) | exact (rfl : _ = Value.map _) | exact (rfl : _ = Value.func _ _ _) | exact (rfl : _ = Value.string _)) (by rfl) ?_; clear M; (try clear wc); intro g wc M))
          go_ret2
          have e : j.sh.take k = j.sh := List.take_of_length_le (by omega)
          have h := he.out
          rw [e] at h
          rw [HW.out, HF.out, h]
          exact ⟨rfl, M.below⟩
  · have h1 : (checkStrokesJ j l != 0) = true := by simpa using h0
    have HW : Hid (worstT j l = (0, checkStrokesJ j l)) := by show _ = _; unfold worstT; rw [if_neg h0]
    clear h0
    generalize worstT j l = gj at *
    go_enter Try.func51, Try.ntmps51
    refine start noEx ?_
    intro wc M
    go_wp2_with (first | (refine m_ld1 M rfl rfl rfl (by (repeat' (first | exact List.mem_cons_self | refine List.mem_cons_of_mem _ ?_))) (by rfl) ?_) | (refine m_ldr M rfl rfl rfl (by (repeat' (first | exact List.mem_cons_self | refine List.mem_cons_of_mem _ ?_))) (by (try simp only [List.take_succ_cons, List.take_zero, List.take_nil, List.drop_succ_cons, List.drop_zero, List.drop_nil, List.cons_append, List.nil_append, List.append_nil, List.length_cons, List.length_nil, Nat.reduceAdd, Nat.zero_add, Nat.add_zero]); rfl) (by rfl) ?_) | (refine m_st M rfl rfl rfl (by first | exact (rfl : _ = Value.agg _) | exact (rfl : _ = Value.int _ _) | exact (rfl : _ = Value.bool _) | exact (rfl : _ = Value.slice _ _ _) | exact (rfl : _ = Value.pointer _) | exact (rfl : _ = Value.map _) | exact (rfl : _ = Value.func _ _ _) | exact (rfl : _ = Value.string _)) (by rfl) (by (repeat (first | exact Upd.head | apply Upd.tail))) (by (try simp only [List.take_succ_cons, List.take_zero, List.take_nil, List.drop_succ_cons, List.drop_zero, List.drop_nil, List.cons_append, List.nil_append, List.append_nil, List.length_cons, List.length_nil, Nat.reduceAdd, Nat.zero_add, Nat.add_zero]); rfl) (by simp) (by simp [Value.oneCell']) (by kernel_rfl) ?_; clear M; (try clear wc); intro wc M) | (refine m_al M rfl rfl ?_; clear M; (try clear wc); intro g wc M) | (refine m_bx M rfl rfl (by first | exact (rfl : _ = Value.agg _) | exact (rfl : _ = Value.int _ _) | exact (rfl : _ = Value.bool _) | exact (rfl : _ = Value.slice _ _ _) | exact (rfl : _ = Value.pointer _) | exact (rfl : _ = Value.map _) | exact (rfl : _ = Value.func _ _ _) | exact (rfl : _ = Value.string _)) (by rfl) ?_; clear M; (try clear wc); intro g wc M) | (go_at_call 83; ((with_reducible refine (checkStrokes_any j _ _ _ _ _ l _ ?_ hn ?_ hm).mono ?_); ((exact M.rd HR.out (Nat.le_refl _)); (exact M.rd HL.out (Nat.le_refl _))); rintro e wc ⟨rfl, hb⟩; replace M := M.call hb; clear hb)))
    go_ret2
    rw [HW.out]
    exact ⟨rfl, M.below⟩

end Go.Proofs.Ythlpceoajhcliaa
end

section
/-
  reed: Window.
-/
namespace Go.Proofs.Ythlpceoajhcliaa
set_option linter.unusedSimpArgs false
set_option linter.unusedVariables false
open Go.RowKit

def windowJ (j : Jb) : (Int × Int) × Int := if checkJ j = 0 then (if (winS j).2 < (winS j).1 then ((0, 0), 11) else (winS j, 0)) else ((0, 0), checkJ j)

set_option maxRecDepth 100000 in
set_option maxHeartbeats 1000000 in
theorem Window_any (j : Jb) (A : Option Addr) (c : Nat) (w : World) (hr : Rd w w.heap.size 2 A j.sh.length (rc j.sh)) (hn : j.sh.length ≤ 9223372036854775807) :
    Calls Try.prog 33 #[jobV j A c] w fun e w' => e = .returned (.tuple #[R2 (windowJ j).1.1 (windowJ j).1.2, .int .i64 (windowJ j).2]) ∧ Below w.heap.size w w' := by
  have HR := Lib.hid hr
  clear hr
  have q0 := (Bk.new w 30 #[.int .i64 j.p0, .int .i64 j.p1, .int .i64 j.t0, .int .i64 j.t1, .int .i64 j.r0, .int .i64 j.r1, .int .i64 j.u0, .int .i64 j.u1, .int .i64 j.d0, .int .i64 j.d1, .int .i64 j.a0, .int .i64 j.a1, .int .i64 j.b0, .int .i64 j.b1, .int .i64 j.le, .slice A j.sh.length c, .int .i64 j.wi, .int .i64 j.me]).alloc (.cells #[.int .i64 0, .int .i64 0] 23)
  have z0 : Bk ((w.alloc (.cells #[.int .i64 j.p0, .int .i64 j.p1, .int .i64 j.t0, .int .i64 j.t1, .int .i64 j.r0, .int .i64 j.r1, .int .i64 j.u0, .int .i64 j.u1, .int .i64 j.d0, .int .i64 j.d1, .int .i64 j.a0, .int .i64 j.a1, .int .i64 j.b0, .int .i64 j.b1, .int .i64 j.le, .slice A j.sh.length c, .int .i64 j.wi, .int .i64 j.me] 30)).alloc (.cells #[.int .i64 0, .int .i64 0] 23)) (w.heap.size + 1) #[.int .i64 0, .int .i64 0] := by (repeat' (first | (with_reducible refine Bk.drew ?_) | ((with_reducible refine Bk.newAt _ _ _ _ ?_); (simp; done)) | (with_reducible refine Bk.alloc ?_ _)))
  by_cases h0 : checkJ j = 0
  · have g := good_of h0
    have HO := Lib.hid g.ok
    have HW : Hid (windowJ j = if (winS j).2 < (winS j).1 then ((0, 0), 11) else (winS j, 0)) := by show _ = _; unfold windowJ; rw [if_pos h0]
    have H0 := Lib.hid h0
    clear g h0
    have h2 : (winS j).2 < (winS j).1 ∨ ¬ (winS j).2 < (winS j).1 := Decidable.em _
    generalize windowJ j = wj at *
    generalize hws : winS j = ws at *
    have HWS := Lib.hid hws
    clear hws
    obtain ⟨s0, s1⟩ := ws
    rcases h2 with h2 | h2
    all_goals
      have H2 := Lib.hid h2
      go_enter Try.func33, Try.ntmps33
      go_wp2_with (first
        | (refine wpList_load_blk (by rfl) 30 (.tmp 1) (by rfl) _ (by rfl) _ q0 _ Try.underlying30 (by rfl) (by kernel_rfl) ?_)
        | (go_at_call 49; ((with_reducible refine (check_any j _ _ _ ?_ ?_).mono ?_); (exact (HR.out.below (by (repeat' (first | (with_reducible exact Below.refl _ _) | (with_reducible refine Below.alloc ?_ ?_ _) | (with_reducible refine Below.setCell ?_ ?_ _) | (with_reducible refine Below.drew ?_) | ((with_reducible refine Below.trans ?_ (Below.mono (by assumption) ?_))) | go_size)))).more (by go_size)); (exact hn); rintro e w1 ⟨rfl, hb1⟩; have hz1 := hb1.size; (try simp only [World.size_alloc] at hz1); rw [H0.out]; have hbw1 : Below w.heap.size w w1 := (by (repeat' (first | (with_reducible exact Below.refl _ _) | (with_reducible refine Below.alloc ?_ ?_ _) | (with_reducible refine Below.setCell ?_ ?_ _) | (with_reducible refine Below.drew ?_) | ((with_reducible refine Below.trans ?_ (Below.mono (by assumption) ?_))) | go_size))); have q1 := q0.below hb1; have z1 := z0.below hb1))
        | (refine wpList_load_blk (by rfl) 30 (.tmp 1) (by rfl) _ (by rfl) _ q1 _ Try.underlying30 (by rfl) (by kernel_rfl) ?_)
        | (go_at_call 84; ((with_reducible refine (windows_any j _ _ _ HO.out ?_).mono ?_); (exact (HR.out.below hbw1).more hbw1.size); rintro e w2 ⟨rfl, hb2⟩; have hz2 := hb2.size; (try simp only [World.size_alloc] at hz2); rw [HWS.out]; have hbw2 : Below w.heap.size w w2 := bl_trans hbw1 hb2 hbw1.size; have z2 := z1.below hb2; have c2 := z2.cell; have f2 := z2.frozen; have l2 := z2.lt; have m2 : w.heap.size < w2.heap.size := (by omega))))
      refine ret_blk1 2 3 23 (by rfl) (by rfl) _ _ (by rfl) (by rfl) _ (by first | exact z2.put2 | exact (z2.put2.alloc _).alloc _ | exact ((z2.alloc _).alloc _).put2) _ Try.underlying23 (by rfl) (by kernel_rfl) ?_
      rw [HW.out]
      first | rw [if_pos (by have := H2.out; omega)] | rw [if_neg (by have := H2.out; omega)]
      exact ⟨rfl, by first | exact bl_set2 hbw2 (by omega) | exact ((bl_set2 hbw2 (by omega)).alloc (by simp; omega) _).alloc (by simp; omega) _ | exact bl_set2 ((hbw2.alloc (by omega) _).alloc (by simp; omega) _) (by omega)⟩
  · have h1 : (checkJ j != 0) = true := by simpa using h0
    have HW : Hid (windowJ j = ((0, 0), checkJ j)) := by show _ = _; unfold windowJ; rw [if_neg h0]
    clear h0
    generalize windowJ j = wj at *
    go_enter Try.func33, Try.ntmps33
    go_wp2_with (first
      | (refine wpList_load_blk (by rfl) 30 (.tmp 1) (by rfl) _ (by rfl) _ q0 _ Try.underlying30 (by rfl) (by kernel_rfl) ?_)
      | (go_at_call 49; ((with_reducible refine (check_any j _ _ _ ?_ ?_).mono ?_); (exact (HR.out.below (by (repeat' (first | (with_reducible exact Below.refl _ _) | (with_reducible refine Below.alloc ?_ ?_ _) | (with_reducible refine Below.setCell ?_ ?_ _) | (with_reducible refine Below.drew ?_) | ((with_reducible refine Below.trans ?_ (Below.mono (by assumption) ?_))) | go_size)))).more (by go_size)); (exact hn); rintro e w1 ⟨rfl, hb1⟩; have hz1 := hb1.size; (try simp only [World.size_alloc] at hz1); have hbw1 : Below w.heap.size w w1 := (by (repeat' (first | (with_reducible exact Below.refl _ _) | (with_reducible refine Below.alloc ?_ ?_ _) | (with_reducible refine Below.setCell ?_ ?_ _) | (with_reducible refine Below.drew ?_) | ((with_reducible refine Below.trans ?_ (Below.mono (by assumption) ?_))) | go_size))); have z1 := z0.below hb1; have c1 := z1.cell; have f1 := z1.frozen; have l1 := z1.lt)))
    refine ret_blk1 2 3 23 (by rfl) (by rfl) _ _ (by rfl) (by rfl) _ z1.put2 _ Try.underlying23 (by rfl) (by kernel_rfl) ?_
    rw [HW.out]
    exact ⟨rfl, bl_set2 hbw1 (by omega)⟩

end Go.Proofs.Ythlpceoajhcliaa
end

section
/-
  Plain laws: windows, deviations, and verdicts.
-/
namespace Go.Proofs.Ythlpceoajhcliaa
set_option linter.unusedSimpArgs false
set_option linter.unusedVariables false

theorem within_mk {n lo hi : Int} (h : lo ≤ n ∧ n ≤ hi) : withinB n lo hi = true := by unfold withinB; simpa using h
theorem chkR_mk {x0 x1 lo hi : Int} (h : lo ≤ x0 ∧ x0 ≤ x1 ∧ x1 ≤ hi) : chkR x0 x1 lo hi = 0 := by
  unfold chkR
  rw [if_pos ⟨within_mk (by omega), within_mk (by omega)⟩, if_neg (by omega)]
theorem chkAll_mk {lo hi : Int} : ∀ {l : List (Int × Int)}, (∀ p ∈ l, lo ≤ p.1 ∧ p.1 ≤ p.2 ∧ p.2 ≤ hi) → chkAll lo hi l = 0 := by
  intro l
  induction l with
  | nil => intro _; rfl
  | cons q r ih =>
    intro h
    have h0 := chkR_mk (h q (by simp))
    unfold chkAll
    rw [if_neg (by rw [h0]; simp)]
    exact ih fun p hp => h p (List.mem_cons_of_mem _ hp)
theorem check_of_good {j : Jb} (h : j.good) : checkJ j = 0 := by
  have e1 := chkR_mk h.p
  have e2 : chkAll 0 100 [(j.t0, j.t1), (j.r0, j.r1)] = 0 := chkAll_mk (by
    intro p hp
    simp only [List.mem_cons, List.not_mem_nil, or_false] at hp
    rcases hp with rfl | rfl
    · exact h.t
    · exact h.r)
  have e3 : chkAll 0 12 [(j.u0, j.u1), (j.d0, j.d1), (j.a0, j.a1), (j.b0, j.b1)] = 0 := chkAll_mk (by
    intro p hp
    simp only [List.mem_cons, List.not_mem_nil, or_false] at hp
    rcases hp with rfl | rfl | rfl | rfl
    · exact h.u
    · exact h.d
    · exact h.a
    · exact h.b)
  have e4 := within_mk h.le
  have e6 := chkAll_mk h.sh
  have e7 := within_mk h.wi
  have e8 := within_mk h.me
  have e5 := h.few
  unfold checkJ
  rw [if_neg (by rw [e1]; simp), if_neg (by rw [e2]; simp), if_neg (by rw [e3]; simp), if_neg (by rw [e4]; simp), if_neg (by omega), if_neg (by rw [e6]; simp), if_neg (by rw [e7, e8]; simp)]
theorem strokes_nil {j : Jb} (h : j.good) : checkStrokesJ j [] = 0 := by
  unfold checkStrokesJ
  rw [if_neg (by rw [check_of_good h]; simp)]
  rfl

theorem meet_lo (n : Int) : ∀ (l : List (Int × Int)) (f : Int × Int), (meetL f l).1 ≤ n ↔ f.1 ≤ n ∧ ∀ s ∈ l, s.1 ≤ n
  | [], f => by simp [meetL]
  | q :: r, f => by
    have h := meet_lo n r (mstep f q)
    have e : meetL f (q :: r) = meetL (mstep f q) r := rfl
    rw [e, h]
    simp only [mstep, List.mem_cons, forall_eq_or_imp]
    constructor
    · rintro ⟨h1, h2⟩
      split at h1
      · exact ⟨by omega, h1, h2⟩
      · exact ⟨h1, by omega, h2⟩
    · rintro ⟨h1, h2, h3⟩
      refine ⟨?_, h3⟩
      split <;> assumption
theorem meet_hi (n : Int) : ∀ (l : List (Int × Int)) (f : Int × Int), n ≤ (meetL f l).2 ↔ n ≤ f.2 ∧ ∀ s ∈ l, n ≤ s.2
  | [], f => by simp [meetL]
  | q :: r, f => by
    have h := meet_hi n r (mstep f q)
    have e : meetL f (q :: r) = meetL (mstep f q) r := rfl
    rw [e, h]
    simp only [mstep, List.mem_cons, forall_eq_or_imp]
    constructor
    · rintro ⟨h1, h2⟩
      split at h1
      · exact ⟨by omega, h1, h2⟩
      · exact ⟨h1, by omega, h2⟩
    · rintro ⟨h1, h2, h3⟩
      refine ⟨?_, h3⟩
      split <;> assumption
/-- The shifts under all conditions. -/
def shx (sh : List (Int × Int)) : List (Int × Int) := if sh = [] then [(0, 0)] else sh
theorem winS_lo (j : Jb) (n : Int) : (winS j).1 ≤ n ↔ ∀ s ∈ shx j.sh, -j.wi - s.1 ≤ n := by
  unfold winS strictL shx
  cases h : j.sh with
  | nil => simp [winOf]
  | cons q r =>
    simp only [List.map_cons, winOf, meet_lo, List.mem_map, forall_exists_index, and_imp, forall_apply_eq_imp_iff₂, reduceCtorEq, if_false, List.mem_cons, forall_eq_or_imp]
theorem winS_hi (j : Jb) (n : Int) : n ≤ (winS j).2 ↔ ∀ s ∈ shx j.sh, n ≤ j.wi - s.2 := by
  unfold winS strictL shx
  cases h : j.sh with
  | nil => simp [winOf]
  | cons q r =>
    simp only [List.map_cons, winOf, meet_hi, List.mem_map, forall_exists_index, and_imp, forall_apply_eq_imp_iff₂, reduceCtorEq, if_false, List.mem_cons, forall_eq_or_imp]
theorem wfold_le (p0 p1 wi : Int) : ∀ (l : List (Int × Int)) (out : Int), l.foldl (wstep p0 p1) out ≤ wi ↔ out ≤ wi ∧ ∀ s ∈ l, -(p0 + s.1) ≤ wi ∧ p1 + s.2 ≤ wi
  | [], out => by simp
  | q :: r, out => by
    rw [List.foldl_cons, wfold_le p0 p1 wi r]
    simp only [List.mem_cons, forall_eq_or_imp]
    have : wstep p0 p1 out q ≤ wi ↔ out ≤ wi ∧ -(p0 + q.1) ≤ wi ∧ p1 + q.2 ≤ wi := by
      unfold wstep
      (repeat' split) <;> omega
    rw [this]
    constructor
    · rintro ⟨⟨h1, h2⟩, h3⟩; exact ⟨h1, h2, h3⟩
    · rintro ⟨h1, h2, h3⟩; exact ⟨⟨h1, h2⟩, h3⟩
theorem worst_le (p0 p1 wi : Int) (hw : 0 ≤ wi) (sh : List (Int × Int)) : worstF p0 p1 sh ≤ wi ↔ ∀ s ∈ shx sh, -(p0 + s.1) ≤ wi ∧ p1 + s.2 ≤ wi := by
  show (shx sh).foldl (wstep p0 p1) 0 ≤ wi ↔ _
  rw [wfold_le]
  constructor
  · exact fun h => h.2
  · exact fun h => ⟨hw, h⟩
theorem has_iff (j : Jb) (n : Int) : hasB (winS j).1 (winS j).2 n n = decide (worstF n n j.sh ≤ j.wi) ∨ j.wi < 0 := by
  by_cases hw : 0 ≤ j.wi
  · refine .inl ?_
    unfold hasB
    rw [decide_eq_decide, worst_le n n j.wi hw, winS_lo, winS_hi]
    constructor
    · rintro ⟨h1, h2⟩ s hs
      have a := h1 s hs
      have b := h2 s hs
      omega
    · intro h
      exact ⟨fun s hs => by have := h s hs; omega, fun s hs => by have := h s hs; omega⟩
  · exact .inr (by omega)
theorem passes_1 (j : Jb) (p0 p1 : Int) : (passesJ j p0 p1 == 1) = hasB (winS j).1 (winS j).2 p0 p1 := by
  unfold passesJ
  cases hasB (winS j).1 (winS j).2 p0 p1
  · simp only [Bool.false_eq_true, if_false]
    split <;> rfl
  · rfl
theorem passes_13 (j : Jb) (p0 p1 : Int) : 1 ≤ passesJ j p0 p1 ∧ passesJ j p0 p1 ≤ 3 := by
  unfold passesJ
  (repeat' split) <;> omega

end Go.Proofs.Ythlpceoajhcliaa
end

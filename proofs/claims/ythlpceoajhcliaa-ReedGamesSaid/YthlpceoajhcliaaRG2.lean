/-
  ref1: Guided and Next.
-/
import Derived.Test.YthlpceoajhcliaaRG
namespace Go.Proofs.Ythlpceoajhcliaa
set_option linter.unusedSimpArgs false
set_option linter.unusedVariables false
open Go.RowKit

theorem bnd_zero {j : Jb} (h : j.good) {n : Nat} (hn : n ≤ 10) : Bnd n j.p0 j.p1 0 0 := by
  have := h.p
  constructor <;> omega
def gref (j : Jb) : Int := match guidedF j with | some n => (n : Int) | none => -1


set_option maxRecDepth 100000 in
set_option maxHeartbeats 1000000 in
theorem rguided_any (j : Jb) (A : Option Addr) (c : Nat) (w : World) (hj : j.good) (hr : Rd w w.heap.size 2 A j.sh.length (rc j.sh)) :
    Calls Try.prog 76 #[jobV j A c] w fun e w' => e = .returned (.int .i64 (gref j)) ∧ Below w.heap.size w w' := by
  obtain ⟨bJ, oJ, SJ⟩ := Sp.old hr
  refine px_enter noEx Try.func76 rfl 14 rfl [.agg #[.int .i64 j.p0, .int .i64 j.p1, .int .i64 j.t0, .int .i64 j.t1, .int .i64 j.r0, .int .i64 j.r1, .int .i64 j.u0, .int .i64 j.u1, .int .i64 j.d0, .int .i64 j.d1, .int .i64 j.a0, .int .i64 j.a1, .int .i64 j.b0, .int .i64 j.b1, .int .i64 j.le, .slice A j.sh.length c, .int .i64 j.wi, .int .i64 j.me]] rfl rfl (Mem.init w _) ?_
  intro ac wc T M
  refine wp_seq ?_
  refine wp_region_lit ?_
  refine l_w rfl ?_; intro K hK
  refine ow_bx M T rfl rfl rfl rfl (T.ev 0 rfl) rfl ?_; clear M T; intro g1 wc ac M T
  refine sh_out hK _ _ ?_; clear hK K
  refine l_q T rfl rfl rfl rfl (rn_assign rfl evc) ?_; clear T ac; intro ac T
  refine wpList_nil ?_
  replace T := T.pick [1] rfl
  refine nm_then ?_
  refine wp_seq ?_
  refine wp_seq ?_
  refine wp_region_lit ?_
  refine l_q T rfl rfl rfl rfl (rn_assign rfl evc) ?_; clear T ac; intro ac T
  refine wpList_nil ?_
  refine nm_then ?_
  refine wp_block ?_
  refine wp_loop_n (fun mz ac wc => ∃ (k : Nat), mz = 5 - k ∧ (k ≤ 5) ∧ (guidedF j = firstB (fun n => readsP j (winS j).1 (winS j).2 n j.p0 j.p1 0 0) (5 - k) k) ∧ Tm ac 14 [(1, .pointer (some ⟨g1, 0, none⟩)), (3, .int .i64 (k : Int))] ∧ Mem w noEx wc [(g1, .cells [.int .i64 j.p0, .int .i64 j.p1, .int .i64 j.t0, .int .i64 j.t1, .int .i64 j.r0, .int .i64 j.r1, .int .i64 j.u0, .int .i64 j.u1, .int .i64 j.d0, .int .i64 j.d1, .int .i64 j.a0, .int .i64 j.a1, .int .i64 j.b0, .int .i64 j.b1, .int .i64 j.le, .slice A j.sh.length c, .int .i64 j.wi, .int .i64 j.me])]) ?_ ?_
  · exact ⟨_, 0, rfl, (by omega), rfl, T.pick [1, 0] rfl, M.mask [true] rfl⟩
  · clear T M
    rintro mz ac wc ⟨k, hmm1, hk, H, T, M⟩
    refine wp_seq ?_
    refine wp_seq ?_
    refine wp_region_lit ?_
    refine l_q T rfl rfl rfl rfl (rn_move rfl (T.ev 1 rfl)) ?_; clear T ac; intro ac T
    refine l_q T rfl rfl rfl rfl (rn_leq rfl (T.ev 0 rfl) evc) ?_; clear T ac; intro ac T
    refine wpList_nil ?_
    replace T := T.pick [0, 2, 3] rfl
    refine nm_then ?_
    refine wp_if (T.ev 0 rfl) ?_ ?_
    · intro h1
      refine wp_skip ?_
      refine nm_then ?_
      refine wp_seq ?_
      refine wp_block ?_
      refine wp_seq ?_
      refine wp_region_lit ?_
      refine l_q (v := (.agg #[.int .i64 j.p0, .int .i64 j.p1, .int .i64 j.t0, .int .i64 j.t1, .int .i64 j.r0, .int .i64 j.r1, .int .i64 j.u0, .int .i64 j.u1, .int .i64 j.d0, .int .i64 j.d1, .int .i64 j.a0, .int .i64 j.a1, .int .i64 j.b0, .int .i64 j.b1, .int .i64 j.le, .slice A j.sh.length c, .int .i64 j.wi, .int .i64 j.me])) T rfl rfl rfl rfl (rn_row (Mem.nth M 0 rfl) rfl (T.ev 1 rfl) rfl rfl) ?_; clear T ac; intro ac T
      refine l_q (v := (.pointer (some ⟨g1, 0, none⟩))) T rfl rfl rfl rfl (rn_fieldAddr (off := 0) rfl (T.ev 2 rfl) (fun _ _ _ => by kernel_rfl)) ?_; clear T ac; intro ac T
      refine l_q (v := (.agg #[.int .i64 j.p0, .int .i64 j.p1, .int .i64 j.t0, .int .i64 j.t1, .int .i64 j.r0, .int .i64 j.r1])) T rfl rfl rfl rfl (rn_row (Mem.nth M 0 rfl) rfl (T.ev 0 rfl) rfl rfl) ?_; clear T ac; intro ac T
      refine l_q T rfl rfl rfl rfl (rn_move rfl (T.ev 5 rfl)) ?_; clear T ac; intro ac T
      refine l_w rfl ?_; intro K hK
      refine ow_call (first := []) (cap := []) T rfl rfl rfl rfl evf (.cons (T.ev 3 rfl) (.cons (T.ev 1 rfl) (.cons (T.ev 0 rfl) .nil))) Try.func108 rfl rfl ?_
      refine Calls.mono (Calls.cast (by rw [thin_zero]; rfl) ((knows_any hj _ _ k).2 j.p0 j.p1 0 0 _ (bnd_zero hj (by omega)) (SJ.rd M (List.nil_sublist _)))) ?_
      clear T
      rintro e wc ⟨rfl, hb⟩
      intro ac T
      replace M := M.call hb; clear hb
      refine sh_out hK _ _ ?_; clear hK K
      refine wpList_nil ?_
      replace T := T.pick [0, 6, 7] rfl
      refine nm_then ?_
      refine wp_cond_split (T.ev 0 rfl) ?_ ?_
      · intro h2
        refine wp_seq ?_
        refine wp_region_lit ?_
        refine l_q T rfl rfl rfl rfl (rn_move rfl (T.ev 2 rfl)) ?_; clear T ac; intro ac T
        refine l_q T rfl rfl rfl rfl (rn_assign rfl (T.ev 0 rfl)) ?_; clear T ac; intro ac T
        refine wpList_nil ?_
        replace T := T.pick [0] rfl
        replace M := M.mask [false] rfl
        refine nm_then ?_
        refine wp_ret ?_
        refine rt_blk ?_
        refine rt_then ?_
        refine rt_then ?_
        refine rt_blk ?_
        refine rt_then ?_
        refine rt_1 T rfl (T.ev 0 rfl) ?_
        rw [first_hit (by omega) (by simpa using h2)] at H
        refine ⟨ret_int ?_, M.below⟩
        unfold gref
        rw [H]
      · intro h2
        refine wp_skip ?_
        refine nm_blk ?_
        refine nm_then ?_
        refine wp_region_lit ?_
        refine l_q T rfl rfl rfl rfl (rn_move rfl (T.ev 2 rfl)) ?_; clear T ac; intro ac T
        refine l_q T rfl rfl rfl rfl (rn_add rfl (T.ev 0 rfl) evc (by omega)) ?_; clear T ac; intro ac T
        refine l_q (v := (.int .i64 ((k : Int) + 1))) (T.pick [0, 1, 2, 3] rfl) rfl rfl rfl rfl (rn_assign rfl (T.ev 0 rfl)) ?_; clear T ac; intro ac T
        refine wpList_nil ?_
        replace T := T.pick [0, 4] rfl
        refine nm_then ?_
        rw [first_miss (by omega) (by simpa using h2)] at H
        exact ⟨_, by omega, (k + 1), rfl, (by omega), H, T.pick [1, 0] rfl, M.mask [true] rfl⟩
    · intro h1
      refine wp_exit ?_
      refine ex_then ?_
      refine ex_then ?_
      refine ex_hit ?_
      refine nm_then ?_
      refine wp_seq ?_
      refine wp_region_lit ?_
      refine l_q T rfl rfl rfl rfl (rn_assign rfl evc) ?_; clear T ac; intro ac T
      refine wpList_nil ?_
      replace T := T.pick [0] rfl
      replace M := M.mask [false] rfl
      refine nm_then ?_
      refine wp_ret ?_
      refine rt_1 T rfl (T.ev 0 rfl) ?_
      rw [first_end (by omega)] at H
      refine ⟨ret_int ?_, M.below⟩
      unfold gref
      rw [H]

set_option maxRecDepth 100000 in
set_option maxHeartbeats 1000000 in
theorem rGuided_any (j : Jb) (A : Option Addr) (c : Nat) (w : World) (hr : Rd w w.heap.size 2 A j.sh.length (rc j.sh)) (hn : j.sh.length ≤ 9223372036854775807) :
    Calls Try.prog 25 #[jobV j A c] w fun e w' => e = .returned (.tuple #[.int .i64 ((guidedJ j).1), .int .i64 ((guidedJ j).2)]) ∧ Below w.heap.size w w' := by
  obtain ⟨bJ, oJ, SJ⟩ := Sp.old hr
  refine px_enter noEx Try.func25 rfl 16 rfl [.agg #[.int .i64 j.p0, .int .i64 j.p1, .int .i64 j.t0, .int .i64 j.t1, .int .i64 j.r0, .int .i64 j.r1, .int .i64 j.u0, .int .i64 j.u1, .int .i64 j.d0, .int .i64 j.d1, .int .i64 j.a0, .int .i64 j.a1, .int .i64 j.b0, .int .i64 j.b1, .int .i64 j.le, .slice A j.sh.length c, .int .i64 j.wi, .int .i64 j.me]] rfl rfl (Mem.init w _) ?_
  intro ac wc T M
  refine wp_seq ?_
  refine wp_region_lit ?_
  refine l_w rfl ?_; intro K hK
  refine ow_bx M T rfl rfl rfl rfl (T.ev 0 rfl) rfl ?_; clear M T; intro g1 wc ac M T
  refine sh_out hK _ _ ?_; clear hK K
  refine l_q T rfl rfl rfl rfl (rn_assign rfl evc) ?_; clear T ac; intro ac T
  refine l_q T rfl rfl rfl rfl (rn_assign rfl evc) ?_; clear T ac; intro ac T
  refine wpList_nil ?_
  replace T := T.pick [2] rfl
  refine nm_then ?_
  refine wp_seq ?_
  refine wp_seq ?_
  refine wp_region_lit ?_
  refine l_q (v := (.agg #[.int .i64 j.p0, .int .i64 j.p1, .int .i64 j.t0, .int .i64 j.t1, .int .i64 j.r0, .int .i64 j.r1, .int .i64 j.u0, .int .i64 j.u1, .int .i64 j.d0, .int .i64 j.d1, .int .i64 j.a0, .int .i64 j.a1, .int .i64 j.b0, .int .i64 j.b1, .int .i64 j.le, .slice A j.sh.length c, .int .i64 j.wi, .int .i64 j.me])) T rfl rfl rfl rfl (rn_row (Mem.nth M 0 rfl) rfl (T.ev 0 rfl) rfl rfl) ?_; clear T ac; intro ac T
  refine l_w rfl ?_; intro K hK
  refine ow_call (first := []) (cap := []) T rfl rfl rfl rfl evf (.cons (T.ev 0 rfl) .nil) Try.func50 rfl rfl ?_
  refine Calls.mono (rCheck_any j _ _ _ (SJ.rd M (List.nil_sublist _)) (by omega)) ?_
  clear T
  rintro e wc ⟨rfl, hb⟩
  intro ac T
  replace M := M.call hb; clear hb
  refine sh_out hK _ _ ?_; clear hK K
  refine l_q T rfl rfl rfl rfl (rn_assign rfl (T.ev 0 rfl)) ?_; clear T ac; intro ac T
  refine wpList_nil ?_
  replace T := T.pick [0, 3] rfl
  refine nm_then ?_
  refine wp_seq ?_
  refine wp_region_lit ?_
  refine l_q T rfl rfl rfl rfl (rn_move rfl (T.ev 0 rfl)) ?_; clear T ac; intro ac T
  refine l_q T rfl rfl rfl rfl (rn_neq rfl (T.ev 0 rfl) evc) ?_; clear T ac; intro ac T
  refine wpList_nil ?_
  replace T := T.pick [0, 2, 3] rfl
  refine nm_then ?_
  refine wp_ifn (T.ev 0 rfl) ?_ ?_
  · intro h1
    refine wp_seq ?_
    refine wp_region_lit ?_
    refine l_q T rfl rfl rfl rfl (rn_move rfl (T.ev 1 rfl)) ?_; clear T ac; intro ac T
    refine l_q T rfl rfl rfl rfl (rn_assign rfl evc) ?_; clear T ac; intro ac T
    refine l_q T rfl rfl rfl rfl (rn_assign rfl (T.ev 1 rfl)) ?_; clear T ac; intro ac T
    refine wpList_nil ?_
    replace T := T.pick [0, 1] rfl
    replace M := M.mask [false] rfl
    refine nm_then ?_
    refine wp_ret ?_
    refine rt_then ?_
    refine rt_2 T rfl (T.ev 1 rfl) (T.ev 0 rfl) ?_
    refine ⟨?_, M.below⟩
    unfold guidedJ
    rw [if_neg h1]
  · intro h1
    refine wp_skip ?_
    refine nm_then ?_
    refine wp_seq ?_
    refine wp_region_lit ?_
    refine l_q (v := (.agg #[.int .i64 j.p0, .int .i64 j.p1, .int .i64 j.t0, .int .i64 j.t1, .int .i64 j.r0, .int .i64 j.r1, .int .i64 j.u0, .int .i64 j.u1, .int .i64 j.d0, .int .i64 j.d1, .int .i64 j.a0, .int .i64 j.a1, .int .i64 j.b0, .int .i64 j.b1, .int .i64 j.le, .slice A j.sh.length c, .int .i64 j.wi, .int .i64 j.me])) T rfl rfl rfl rfl (rn_row (Mem.nth M 0 rfl) rfl (T.ev 2 rfl) rfl rfl) ?_; clear T ac; intro ac T
    refine l_w rfl ?_; intro K hK
    refine ow_call (first := []) (cap := []) T rfl rfl rfl rfl evf (.cons (T.ev 0 rfl) .nil) Try.func76 rfl rfl ?_
    refine Calls.mono (rguided_any j _ _ _ (good_of (by simpa using h1)) (SJ.rd M (List.nil_sublist _))) ?_
    clear T
    rintro e wc ⟨rfl, hb⟩
    intro ac T
    replace M := M.call hb; clear hb
    refine sh_out hK _ _ ?_; clear hK K
    refine l_q T rfl rfl rfl rfl (rn_assign rfl (T.ev 0 rfl)) ?_; clear T ac; intro ac T
    refine wpList_nil ?_
    replace T := T.pick [0] rfl
    replace M := M.mask [false] rfl
    refine nm_then ?_
    refine wp_seq ?_
    refine wp_seq ?_
    refine wp_region_lit ?_
    refine l_q T rfl rfl rfl rfl (rn_move rfl (T.ev 0 rfl)) ?_; clear T ac; intro ac T
    refine l_q T rfl rfl rfl rfl (rn_lss rfl (T.ev 0 rfl) evc) ?_; clear T ac; intro ac T
    refine wpList_nil ?_
    replace T := T.pick [0, 2] rfl
    refine nm_then ?_
    refine wp_if (T.ev 0 rfl) ?_ ?_
    · intro h2
      refine wp_seq ?_
      refine wp_region_lit ?_
      refine l_q T rfl rfl rfl rfl (rn_assign rfl evc) ?_; clear T ac; intro ac T
      refine l_q T rfl rfl rfl rfl (rn_assign rfl evc) ?_; clear T ac; intro ac T
      refine wpList_nil ?_
      replace T := T.pick [0, 1] rfl
      refine nm_then ?_
      refine wp_ret ?_
      refine rt_then ?_
      refine rt_2 T rfl (T.ev 1 rfl) (T.ev 0 rfl) ?_
      refine ⟨?_, M.below⟩
      unfold guidedJ
      rw [if_pos h1]
      unfold gref at h2
      cases hg : guidedF j with
      | none => rfl
      | some m => rw [hg] at h2; exfalso; simp only at h2; omega
    · intro h2
      refine wp_skip ?_
      refine nm_then ?_
      refine wp_seq ?_
      refine wp_region_lit ?_
      refine l_q T rfl rfl rfl rfl (rn_move rfl (T.ev 1 rfl)) ?_; clear T ac; intro ac T
      refine l_q T rfl rfl rfl rfl (rn_assign rfl (T.ev 0 rfl)) ?_; clear T ac; intro ac T
      refine l_q T rfl rfl rfl rfl (rn_assign rfl evc) ?_; clear T ac; intro ac T
      refine wpList_nil ?_
      replace T := T.pick [0, 1] rfl
      refine nm_then ?_
      refine wp_ret ?_
      refine rt_2 T rfl (T.ev 1 rfl) (T.ev 0 rfl) ?_
      refine ⟨?_, M.below⟩
      unfold guidedJ
      rw [if_pos h1]
      unfold gref at h2 ⊢
      cases hg : guidedF j with
      | none => rw [hg] at h2; exfalso; simp only at h2; omega
      | some m => rfl

set_option maxRecDepth 100000 in
set_option maxHeartbeats 1000000 in
theorem rNext_any (j : Jb) (A : Option Addr) (c : Nat) (w : World) (hr : Rd w w.heap.size 2 A j.sh.length (rc j.sh)) (hn : j.sh.length ≤ 9223372036854775807) :
    Calls Try.prog 27 #[jobV j A c] w fun e w' => e = .returned (.tuple #[.int .i64 ((nextJ j).1), .int .i64 ((nextJ j).2.1), .int .i64 ((nextJ j).2.2)]) ∧ Below w.heap.size w w' := by
  obtain ⟨bJ, oJ, SJ⟩ := Sp.old hr
  refine px_enter noEx Try.func27 rfl 35 rfl [.agg #[.int .i64 j.p0, .int .i64 j.p1, .int .i64 j.t0, .int .i64 j.t1, .int .i64 j.r0, .int .i64 j.r1, .int .i64 j.u0, .int .i64 j.u1, .int .i64 j.d0, .int .i64 j.d1, .int .i64 j.a0, .int .i64 j.a1, .int .i64 j.b0, .int .i64 j.b1, .int .i64 j.le, .slice A j.sh.length c, .int .i64 j.wi, .int .i64 j.me]] rfl rfl (Mem.init w _) ?_
  intro ac wc T M
  refine wp_seq ?_
  refine wp_region_lit ?_
  refine l_w rfl ?_; intro K hK
  refine ow_bx M T rfl rfl rfl rfl (T.ev 0 rfl) rfl ?_; clear M T; intro g1 wc ac M T
  refine sh_out hK _ _ ?_; clear hK K
  refine l_q T rfl rfl rfl rfl (rn_assign rfl evc) ?_; clear T ac; intro ac T
  refine l_q T rfl rfl rfl rfl (rn_assign rfl evc) ?_; clear T ac; intro ac T
  refine l_q T rfl rfl rfl rfl (rn_assign rfl evc) ?_; clear T ac; intro ac T
  refine wpList_nil ?_
  replace T := T.pick [3] rfl
  refine nm_then ?_
  refine wp_seq ?_
  refine wp_seq ?_
  refine wp_region_lit ?_
  refine l_q (v := (.agg #[.int .i64 j.p0, .int .i64 j.p1, .int .i64 j.t0, .int .i64 j.t1, .int .i64 j.r0, .int .i64 j.r1, .int .i64 j.u0, .int .i64 j.u1, .int .i64 j.d0, .int .i64 j.d1, .int .i64 j.a0, .int .i64 j.a1, .int .i64 j.b0, .int .i64 j.b1, .int .i64 j.le, .slice A j.sh.length c, .int .i64 j.wi, .int .i64 j.me])) T rfl rfl rfl rfl (rn_row (Mem.nth M 0 rfl) rfl (T.ev 0 rfl) rfl rfl) ?_; clear T ac; intro ac T
  refine l_w rfl ?_; intro K hK
  refine ow_call (first := []) (cap := []) T rfl rfl rfl rfl evf (.cons (T.ev 0 rfl) .nil) Try.func50 rfl rfl ?_
  refine Calls.mono (rCheck_any j _ _ _ (SJ.rd M (List.nil_sublist _)) (by omega)) ?_
  clear T
  rintro e wc ⟨rfl, hb⟩
  intro ac T
  replace M := M.call hb; clear hb
  refine sh_out hK _ _ ?_; clear hK K
  refine l_q T rfl rfl rfl rfl (rn_assign rfl (T.ev 0 rfl)) ?_; clear T ac; intro ac T
  refine wpList_nil ?_
  replace T := T.pick [0, 3] rfl
  refine nm_then ?_
  refine wp_seq ?_
  refine wp_region_lit ?_
  refine l_q T rfl rfl rfl rfl (rn_move rfl (T.ev 0 rfl)) ?_; clear T ac; intro ac T
  refine l_q T rfl rfl rfl rfl (rn_neq rfl (T.ev 0 rfl) evc) ?_; clear T ac; intro ac T
  refine wpList_nil ?_
  replace T := T.pick [0, 2, 3] rfl
  refine nm_then ?_
  refine wp_ifn (T.ev 0 rfl) ?_ ?_
  · intro h1
    refine wp_seq ?_
    refine wp_region_lit ?_
    refine l_q T rfl rfl rfl rfl (rn_move rfl (T.ev 1 rfl)) ?_; clear T ac; intro ac T
    refine l_q T rfl rfl rfl rfl (rn_assign rfl evc) ?_; clear T ac; intro ac T
    refine l_q T rfl rfl rfl rfl (rn_assign rfl evc) ?_; clear T ac; intro ac T
    refine l_q T rfl rfl rfl rfl (rn_assign rfl (T.ev 2 rfl)) ?_; clear T ac; intro ac T
    refine wpList_nil ?_
    replace T := T.pick [0, 1, 2] rfl
    replace M := M.mask [false] rfl
    refine nm_then ?_
    refine wp_ret ?_
    refine rt_then ?_
    refine rt_3 T rfl (T.ev 2 rfl) (T.ev 1 rfl) (T.ev 0 rfl) ?_
    refine ⟨?_, M.below⟩
    unfold nextJ
    rw [if_neg h1]
  · intro h1
    have hj := good_of h1
    refine wp_skip ?_
    refine nm_then ?_
    refine wp_seq ?_
    refine wp_seq ?_
    refine g_start2 M (M.mask [true] rfl) 6 (by kernel_rfl) rfl (by kernel_rfl) ?_
    clear M; intro wc M
    refine g_q (v := (.pointer (some ⟨g1, 0, none⟩))) (T := T) (i := 0) rfl (by kernel_rfl) (by kernel_rfl : (pbits 6 0).setIfInBounds 0 true = pbits 6 1) si_U (fun _ _ _ h => h) rfl rfl rfl rfl (fun _ _ _ _ _ => (rn_fieldAddr (off := 0) rfl (T.ev 2 rfl) (fun _ _ _ => by kernel_rfl))) ?_; clear T ac; intro ac T
    refine g_q (v := (.pointer (some ⟨g1, 0, none⟩))) (T := T) (i := 1) rfl (by kernel_rfl) (by kernel_rfl : (pbits 6 1).setIfInBounds 1 true = pbits 6 3) si_U (fun _ _ _ h => h) rfl rfl rfl rfl (fun _ _ _ _ _ => (rn_fieldAddr (off := 0) rfl (T.ev 0 rfl) (fun _ _ _ => by kernel_rfl))) ?_; clear T ac; intro ac T
    refine g_q (v := (.agg #[.int .i64 j.p0, .int .i64 j.p1])) (T := T) (i := 2) rfl (by kernel_rfl) (by kernel_rfl : (pbits 6 3).setIfInBounds 2 true = pbits 6 7) si_U (fun _ _ _ h => h) rfl rfl rfl rfl (fun B w' hD hl hS => (rn_row (Mem.nth (show Mem w noEx w' _ from hS) 0 rfl) rfl (T.ev 0 rfl) rfl rfl)) ?_; clear T ac; intro ac T
    refine g_q (v := (.agg #[.int .i64 j.p0, .int .i64 j.p1, .int .i64 j.t0, .int .i64 j.t1, .int .i64 j.r0, .int .i64 j.r1, .int .i64 j.u0, .int .i64 j.u1, .int .i64 j.d0, .int .i64 j.d1, .int .i64 j.a0, .int .i64 j.a1, .int .i64 j.b0, .int .i64 j.b1, .int .i64 j.le, .slice A j.sh.length c, .int .i64 j.wi, .int .i64 j.me])) (T := T) (i := 3) rfl (by kernel_rfl) (by kernel_rfl : (pbits 6 7).setIfInBounds 3 true = pbits 6 15) si_U (fun _ _ _ h => h) rfl rfl rfl rfl (fun B w' hD hl hS => (rn_row (Mem.nth (show Mem w noEx w' _ from hS) 0 rfl) rfl (T.ev 5 rfl) rfl rfl)) ?_; clear T ac; intro ac T
    refine g_w (i := 4) (by kernel_rfl) rfl (by kernel_rfl : (pbits 6 15).setIfInBounds 4 true = pbits 6 31) rfl ?_; intro K hK
    refine ow_call (first := []) (cap := []) T rfl rfl rfl rfl evf (.cons (T.ev 0 rfl) .nil) Try.func80 rfl rfl ?_
    refine Calls.mono (rwindow_any j _ _ _ hj (SJ.rd M (List.nil_sublist _))) ?_
    clear T
    rintro e wc ⟨rfl, hb⟩
    intro ac T
    replace M := M.call hb; clear hb
    refine sh_out hK _ _ (M.mask [true] rfl) ?_; clear hK K
    refine g_w (i := 5) (by kernel_rfl) rfl (by kernel_rfl : (pbits 6 31).setIfInBounds 5 true = pbits 6 63) rfl ?_; intro K hK
    refine ow_call (first := []) (cap := []) T rfl rfl rfl rfl evf (.cons (T.ev 2 rfl) (.cons (T.ev 0 rfl) .nil)) Try.func79 rfl rfl ?_
    refine Calls.mono (inside_any j.p0 j.p1 (rwin j).1 (rwin j).2 _) ?_
    clear T
    rintro e wc ⟨rfl, hb⟩
    intro ac T
    replace M := M.call hb; clear hb
    refine sh_out hK _ _ (M.mask [true] rfl) ?_; clear hK K
    refine g_done (by kernel_rfl) ?_
    replace T := T.pick [0, 8] rfl
    refine nm_then ?_
    refine wp_cond_split (T.ev 0 rfl) ?_ ?_
    · intro h2
      refine wp_seq ?_
      refine wp_region_lit ?_
      refine l_q T rfl rfl rfl rfl (rn_assign rfl evc) ?_; clear T ac; intro ac T
      refine l_q T rfl rfl rfl rfl (rn_assign rfl evc) ?_; clear T ac; intro ac T
      refine l_q T rfl rfl rfl rfl (rn_assign rfl evc) ?_; clear T ac; intro ac T
      refine wpList_nil ?_
      replace T := T.pick [0, 1, 2] rfl
      replace M := M.mask [false] rfl
      refine nm_then ?_
      refine wp_ret ?_
      refine rt_then ?_
      refine rt_3 T rfl (T.ev 2 rfl) (T.ev 1 rfl) (T.ev 0 rfl) ?_
      rw [rwin_eq] at h2
      have H : nextF j = some 0 := first_hit (b := fun n => stopsP j (winS j).1 (winS j).2 n j.p0 j.p1 0 0) (n := 0) (by omega) (by show hasB _ _ _ _ = true; simpa using h2)
      refine ⟨?_, M.below⟩
      unfold nextJ
      rw [if_pos h1, H]
      rfl
    · intro h2
      refine wp_skip ?_
      refine nm_then ?_
      refine wp_seq ?_
      refine wp_seq ?_
      refine wp_region_lit ?_
      refine l_q T rfl rfl rfl rfl (rn_assign rfl evc) ?_; clear T ac; intro ac T
      refine wpList_nil ?_
      replace T := T.pick [0, 2] rfl
      refine nm_then ?_
      refine wp_block ?_
      refine wp_loop_n (fun mz ac wc => ∃ (m : Nat), mz = 4 - m ∧ (m ≤ 4) ∧ (nextF j = firstB (fun n => stopsP j (winS j).1 (winS j).2 n j.p0 j.p1 0 0) (5 - (m + 1)) (m + 1)) ∧ Tm ac 35 [(1, .pointer (some ⟨g1, 0, none⟩)), (6, .int .i64 ((m + 1 : Nat) : Int))] ∧ Mem w noEx wc [(g1, .cells [.int .i64 j.p0, .int .i64 j.p1, .int .i64 j.t0, .int .i64 j.t1, .int .i64 j.r0, .int .i64 j.r1, .int .i64 j.u0, .int .i64 j.u1, .int .i64 j.d0, .int .i64 j.d1, .int .i64 j.a0, .int .i64 j.a1, .int .i64 j.b0, .int .i64 j.b1, .int .i64 j.le, .slice A j.sh.length c, .int .i64 j.wi, .int .i64 j.me])]) ?_ ?_
      · exact ⟨_, 0, rfl, (by omega), (by rw [rwin_eq] at h2; exact first_miss (b := fun n => stopsP j (winS j).1 (winS j).2 n j.p0 j.p1 0 0) (n := 0) (by omega) (by show hasB _ _ _ _ = false; simpa using h2)), T.pick [1, 0] rfl, M.mask [true] rfl⟩
      · clear T M
        rintro mz ac wc ⟨m, hmm1, hm, H, T, M⟩
        refine wp_seq ?_
        refine wp_seq ?_
        refine wp_region_lit ?_
        refine l_q T rfl rfl rfl rfl (rn_move rfl (T.ev 1 rfl)) ?_; clear T ac; intro ac T
        refine l_q T rfl rfl rfl rfl (rn_leq rfl (T.ev 0 rfl) evc) ?_; clear T ac; intro ac T
        refine wpList_nil ?_
        replace T := T.pick [0, 2, 3] rfl
        refine nm_then ?_
        refine wp_if (T.ev 0 rfl) ?_ ?_
        · intro h3
          have hst1 : stopsP j (winS j).1 (winS j).2 (m + 1) j.p0 j.p1 0 0 = (hasB (winS j).1 (winS j).2 j.p0 j.p1 || ((okT j (0 + 1) 0 && readsP j (winS j).1 (winS j).2 m (j.p0 + j.u0) (j.p1 + j.u1) (0 + 1) 0) || (okT j 0 (0 + 1) && readsP j (winS j).1 (winS j).2 m (j.p0 - j.d1) (j.p1 - j.d0) 0 (0 + 1)))) := rfl
          rw [show hasB (winS j).1 (winS j).2 j.p0 j.p1 = false by rw [rwin_eq] at h2; simpa using h2, Bool.false_or] at hst1
          refine wp_skip ?_
          refine nm_then ?_
          refine wp_seq ?_
          refine wp_block ?_
          refine wp_seq ?_
          refine wp_region_lit ?_
          refine l_q T rfl rfl rfl rfl (rn_assign rfl evc) ?_; clear T ac; intro ac T
          refine wpList_nil ?_
          replace T := T.pick [0, 2, 3] rfl
          refine nm_then ?_
          refine wp_block ?_
          refine wp_loop_rounds 3 ?_
          refine rounds_S ?_
          refine wp_seq ?_
          refine wp_seq ?_
          refine wp_region_lit ?_
          refine l_q T rfl rfl rfl rfl (rn_move rfl (T.ev 0 rfl)) ?_; clear T ac; intro ac T
          refine l_q (v := (.bool true)) T rfl rfl rfl rfl (rn_neqof (rn_leq rfl (T.ev 0 rfl) evc) (by simp)) ?_; clear T ac; intro ac T
          refine wpList_nil ?_
          replace T := T.pick [0, 2, 3, 4] rfl
          refine nm_then ?_
          refine wp_cond_true (T.ev 0 rfl) ?_
          refine wp_skip ?_
          refine nm_then ?_
          refine wp_seq ?_
          refine wp_block ?_
          refine wp_seq ?_
          refine wp_region_lit ?_
          refine l_q (v := (.agg #[.int .i64 j.p0, .int .i64 j.p1, .int .i64 j.t0, .int .i64 j.t1, .int .i64 j.r0, .int .i64 j.r1, .int .i64 j.u0, .int .i64 j.u1, .int .i64 j.d0, .int .i64 j.d1, .int .i64 j.a0, .int .i64 j.a1, .int .i64 j.b0, .int .i64 j.b1, .int .i64 j.le, .slice A j.sh.length c, .int .i64 j.wi, .int .i64 j.me])) T rfl rfl rfl rfl (rn_row (Mem.nth M 0 rfl) rfl (T.ev 2 rfl) rfl rfl) ?_; clear T ac; intro ac T
          refine l_q (v := (.pointer (some ⟨g1, 0, none⟩))) T rfl rfl rfl rfl (rn_fieldAddr (off := 0) rfl (T.ev 3 rfl) (fun _ _ _ => by kernel_rfl)) ?_; clear T ac; intro ac T
          refine l_q (v := (.agg #[.int .i64 j.p0, .int .i64 j.p1, .int .i64 j.t0, .int .i64 j.t1, .int .i64 j.r0, .int .i64 j.r1])) T rfl rfl rfl rfl (rn_row (Mem.nth M 0 rfl) rfl (T.ev 0 rfl) rfl rfl) ?_; clear T ac; intro ac T
          refine l_q T rfl rfl rfl rfl (rn_move rfl (T.ev 4 rfl)) ?_; clear T ac; intro ac T
          refine l_q T rfl rfl rfl rfl (rn_move rfl (T.ev 7 rfl)) ?_; clear T ac; intro ac T
          refine l_w rfl ?_; intro K hK
          refine ow_call (first := []) (cap := []) T rfl rfl rfl rfl evf (.cons (T.ev 4 rfl) (.cons (T.ev 2 rfl) (.cons (T.ev 1 rfl) (.cons (T.ev 0 rfl) .nil)))) Try.func81 rfl rfl ?_
          refine Calls.mono (Calls.cast (by rw [thin_zero]; rfl) (makes_1 j _ _ m j.p0 j.p1 0 0 _ hj (bnd_zero hj (by omega)) (SJ.rd M (List.nil_sublist _)) (knows_any hj _ _ m).2)) ?_
          clear T
          rintro e wc ⟨rfl, hb⟩
          intro ac T
          replace M := M.call hb; clear hb
          refine sh_out hK _ _ ?_; clear hK K
          refine wpList_nil ?_
          replace T := T.pick [0, 7, 8, 9] rfl
          refine nm_then ?_
          refine wp_cond_split (T.ev 0 rfl) ?_ ?_
          · intro h4
            refine wp_seq ?_
            refine wp_region_lit ?_
            refine l_q T rfl rfl rfl rfl (rn_move rfl (T.ev 1 rfl)) ?_; clear T ac; intro ac T
            refine l_q T rfl rfl rfl rfl (rn_move rfl (T.ev 4 rfl)) ?_; clear T ac; intro ac T
            refine l_q T rfl rfl rfl rfl (rn_assign rfl (T.ev 1 rfl)) ?_; clear T ac; intro ac T
            refine l_q T rfl rfl rfl rfl (rn_assign rfl (T.ev 1 rfl)) ?_; clear T ac; intro ac T
            refine l_q T rfl rfl rfl rfl (rn_assign rfl evc) ?_; clear T ac; intro ac T
            refine wpList_nil ?_
            replace T := T.pick [0, 1, 2] rfl
            replace M := M.mask [false] rfl
            refine nm_then ?_
            refine wp_ret ?_
            refine rt_blk ?_
            refine rt_then ?_
            refine rt_then ?_
            refine rt_blk ?_
            refine rt_blk ?_
            refine rt_then ?_
            refine rt_then ?_
            refine rt_blk ?_
            refine rt_then ?_
            refine rt_3 T rfl (T.ev 2 rfl) (T.ev 1 rfl) (T.ev 0 rfl) ?_
            have hA : (okT j (0 + 1) 0 && readsP j (winS j).1 (winS j).2 m (j.p0 + j.u0) (j.p1 + j.u1) (0 + 1) 0) = true := by simpa using h4
            rw [hA] at hst1
            rw [first_hit (by omega) (by rw [hst1]; rfl)] at H
            have hs : strokeP j (winS j).1 (winS j).2 (m + 1) j.p0 j.p1 0 0 = 1 := if_pos hA
            refine ⟨?_, M.below⟩
            unfold nextJ
            rw [if_pos h1, H]
            simp only [Nat.add_one_ne_zero, if_false, hs]
          · intro h4
            refine wp_skip ?_
            refine nm_blk ?_
            refine nm_then ?_
            refine wp_region_lit ?_
            refine l_q T rfl rfl rfl rfl (rn_move rfl (T.ev 1 rfl)) ?_; clear T ac; intro ac T
            refine l_q (v := (.int .i64 2)) T rfl rfl rfl rfl (rn_ofI (rn_add rfl (T.ev 0 rfl) evc (by omega)) (by rfl)) ?_; clear T ac; intro ac T
            refine l_q (v := (.int .i64 2)) (T.pick [0, 1, 2, 4, 5] rfl) rfl rfl rfl rfl (rn_assign rfl (T.ev 0 rfl)) ?_; clear T ac; intro ac T
            refine wpList_nil ?_
            replace T := T.pick [0, 4, 5] rfl
            refine nm_then ?_
            refine rounds_S ?_
            refine wp_seq ?_
            refine wp_seq ?_
            refine wp_region_lit ?_
            refine l_q T rfl rfl rfl rfl (rn_move rfl (T.ev 0 rfl)) ?_; clear T ac; intro ac T
            refine l_q (v := (.bool true)) T rfl rfl rfl rfl (rn_neqof (rn_leq rfl (T.ev 0 rfl) evc) (by simp)) ?_; clear T ac; intro ac T
            refine wpList_nil ?_
            replace T := T.pick [0, 2, 3, 4] rfl
            refine nm_then ?_
            refine wp_cond_true (T.ev 0 rfl) ?_
            refine wp_skip ?_
            refine nm_then ?_
            refine wp_seq ?_
            refine wp_block ?_
            refine wp_seq ?_
            refine wp_region_lit ?_
            refine l_q (v := (.agg #[.int .i64 j.p0, .int .i64 j.p1, .int .i64 j.t0, .int .i64 j.t1, .int .i64 j.r0, .int .i64 j.r1, .int .i64 j.u0, .int .i64 j.u1, .int .i64 j.d0, .int .i64 j.d1, .int .i64 j.a0, .int .i64 j.a1, .int .i64 j.b0, .int .i64 j.b1, .int .i64 j.le, .slice A j.sh.length c, .int .i64 j.wi, .int .i64 j.me])) T rfl rfl rfl rfl (rn_row (Mem.nth M 0 rfl) rfl (T.ev 2 rfl) rfl rfl) ?_; clear T ac; intro ac T
            refine l_q (v := (.pointer (some ⟨g1, 0, none⟩))) T rfl rfl rfl rfl (rn_fieldAddr (off := 0) rfl (T.ev 3 rfl) (fun _ _ _ => by kernel_rfl)) ?_; clear T ac; intro ac T
            refine l_q (v := (.agg #[.int .i64 j.p0, .int .i64 j.p1, .int .i64 j.t0, .int .i64 j.t1, .int .i64 j.r0, .int .i64 j.r1])) T rfl rfl rfl rfl (rn_row (Mem.nth M 0 rfl) rfl (T.ev 0 rfl) rfl rfl) ?_; clear T ac; intro ac T
            refine l_q T rfl rfl rfl rfl (rn_move rfl (T.ev 4 rfl)) ?_; clear T ac; intro ac T
            refine l_q T rfl rfl rfl rfl (rn_move rfl (T.ev 7 rfl)) ?_; clear T ac; intro ac T
            refine l_w rfl ?_; intro K hK
            refine ow_call (first := []) (cap := []) T rfl rfl rfl rfl evf (.cons (T.ev 4 rfl) (.cons (T.ev 2 rfl) (.cons (T.ev 1 rfl) (.cons (T.ev 0 rfl) .nil)))) Try.func81 rfl rfl ?_
            refine Calls.mono (Calls.cast (by rw [thin_zero]; rfl) (makes_2 j _ _ m j.p0 j.p1 0 0 _ hj (bnd_zero hj (by omega)) (SJ.rd M (List.nil_sublist _)) (knows_any hj _ _ m).2)) ?_
            clear T
            rintro e wc ⟨rfl, hb⟩
            intro ac T
            replace M := M.call hb; clear hb
            refine sh_out hK _ _ ?_; clear hK K
            refine wpList_nil ?_
            replace T := T.pick [0, 7, 8, 9] rfl
            refine nm_then ?_
            refine wp_cond_split (T.ev 0 rfl) ?_ ?_
            · intro h5
              refine wp_seq ?_
              refine wp_region_lit ?_
              refine l_q T rfl rfl rfl rfl (rn_move rfl (T.ev 1 rfl)) ?_; clear T ac; intro ac T
              refine l_q T rfl rfl rfl rfl (rn_move rfl (T.ev 4 rfl)) ?_; clear T ac; intro ac T
              refine l_q T rfl rfl rfl rfl (rn_assign rfl (T.ev 1 rfl)) ?_; clear T ac; intro ac T
              refine l_q T rfl rfl rfl rfl (rn_assign rfl (T.ev 1 rfl)) ?_; clear T ac; intro ac T
              refine l_q T rfl rfl rfl rfl (rn_assign rfl evc) ?_; clear T ac; intro ac T
              refine wpList_nil ?_
              replace T := T.pick [0, 1, 2] rfl
              replace M := M.mask [false] rfl
              refine nm_then ?_
              refine wp_ret ?_
              refine rt_blk ?_
              refine rt_then ?_
              refine rt_then ?_
              refine rt_blk ?_
              refine rt_blk ?_
              refine rt_then ?_
              refine rt_then ?_
              refine rt_blk ?_
              refine rt_then ?_
              refine rt_3 T rfl (T.ev 2 rfl) (T.ev 1 rfl) (T.ev 0 rfl) ?_
              have hA : (okT j (0 + 1) 0 && readsP j (winS j).1 (winS j).2 m (j.p0 + j.u0) (j.p1 + j.u1) (0 + 1) 0) = false := by simpa using h4
              have hB : (okT j 0 (0 + 1) && readsP j (winS j).1 (winS j).2 m (j.p0 - j.d1) (j.p1 - j.d0) 0 (0 + 1)) = true := by simpa using h5
              rw [hA, hB] at hst1
              rw [first_hit (by omega) (by rw [hst1]; rfl)] at H
              have hs : strokeP j (winS j).1 (winS j).2 (m + 1) j.p0 j.p1 0 0 = 2 := (if_neg (by rw [hA]; simp)).trans (if_pos hB)
              refine ⟨?_, M.below⟩
              unfold nextJ
              rw [if_pos h1, H]
              simp only [Nat.add_one_ne_zero, if_false, hs]
            · intro h5
              refine wp_skip ?_
              refine nm_blk ?_
              refine nm_then ?_
              refine wp_region_lit ?_
              refine l_q T rfl rfl rfl rfl (rn_move rfl (T.ev 1 rfl)) ?_; clear T ac; intro ac T
              refine l_q (v := (.int .i64 3)) T rfl rfl rfl rfl (rn_ofI (rn_add rfl (T.ev 0 rfl) evc (by omega)) (by rfl)) ?_; clear T ac; intro ac T
              refine l_q (v := (.int .i64 3)) (T.pick [0, 1, 2, 4, 5] rfl) rfl rfl rfl rfl (rn_assign rfl (T.ev 0 rfl)) ?_; clear T ac; intro ac T
              refine wpList_nil ?_
              replace T := T.pick [0, 4, 5] rfl
              refine nm_then ?_
              refine rounds_S ?_
              refine wp_seq ?_
              refine wp_seq ?_
              refine wp_region_lit ?_
              refine l_q T rfl rfl rfl rfl (rn_move rfl (T.ev 0 rfl)) ?_; clear T ac; intro ac T
              refine l_q (v := (.bool false)) T rfl rfl rfl rfl (rn_neqof (rn_leq rfl (T.ev 0 rfl) evc) (by simp)) ?_; clear T ac; intro ac T
              refine wpList_nil ?_
              replace T := T.pick [0, 2, 3, 4] rfl
              refine nm_then ?_
              refine wp_cond_false (T.ev 0 rfl) ?_
              refine wp_exit ?_
              refine ex_then ?_
              refine ex_then ?_
              refine ex_hit ?_
              refine nm_blk ?_
              refine nm_then ?_
              refine wp_region_lit ?_
              refine l_q T rfl rfl rfl rfl (rn_move rfl (T.ev 3 rfl)) ?_; clear T ac; intro ac T
              refine l_q T rfl rfl rfl rfl (rn_add rfl (T.ev 0 rfl) evc (by omega)) ?_; clear T ac; intro ac T
              refine l_q (v := (.int .i64 (((m + 1 : Nat) : Int) + 1))) (T.pick [0, 1, 2, 3, 4] rfl) rfl rfl rfl rfl (rn_assign rfl (T.ev 0 rfl)) ?_; clear T ac; intro ac T
              refine wpList_nil ?_
              replace T := T.pick [0, 5] rfl
              refine nm_then ?_
              rw [show (okT j (0 + 1) 0 && readsP j (winS j).1 (winS j).2 m (j.p0 + j.u0) (j.p1 + j.u1) (0 + 1) 0) = false by simpa using h4, show (okT j 0 (0 + 1) && readsP j (winS j).1 (winS j).2 m (j.p0 - j.d1) (j.p1 - j.d0) 0 (0 + 1)) = false by simpa using h5] at hst1
              rw [first_miss (by omega) hst1] at H
              exact ⟨_, by omega, (m + 1), rfl, (by omega), H, T.pick [1, 0] rfl, M.mask [true] rfl⟩
        · intro h3
          refine wp_exit ?_
          refine ex_then ?_
          refine ex_then ?_
          refine ex_hit ?_
          refine nm_then ?_
          refine wp_seq ?_
          refine wp_region_lit ?_
          refine l_q T rfl rfl rfl rfl (rn_assign rfl evc) ?_; clear T ac; intro ac T
          refine l_q T rfl rfl rfl rfl (rn_assign rfl evc) ?_; clear T ac; intro ac T
          refine l_q T rfl rfl rfl rfl (rn_assign rfl evc) ?_; clear T ac; intro ac T
          refine wpList_nil ?_
          replace T := T.pick [0, 1, 2] rfl
          replace M := M.mask [false] rfl
          refine nm_then ?_
          refine wp_ret ?_
          refine rt_3 T rfl (T.ev 2 rfl) (T.ev 1 rfl) (T.ev 0 rfl) ?_
          rw [first_end (by omega)] at H
          refine ⟨?_, M.below⟩
          unfold nextJ
          rw [if_pos h1, H]

end Go.Proofs.Ythlpceoajhcliaa
/-
  The law ReedHeard, walked.
-/
import Derived.Test.YthlpceoajhcliaaPHeard
import Derived.Test.YthlpceoajhcliaaK4
namespace Go.Proofs.Ythlpceoajhcliaa
set_option linter.unusedSimpArgs false
set_option linter.unusedVariables false
open Go.RowKit

theorem Jb.good.one {j : Jb} (h : j.good) : j.one.sg := by
  obtain ⟨g1, g2, g3, g4, g5, g6, g7, g8, g9, g10, g11, g12⟩ := h
  exact ⟨⟨by dsimp only [Jb.one]; omega, g2, g3, by dsimp only [Jb.one]; omega, by dsimp only [Jb.one]; omega, by dsimp only [Jb.one]; omega, by dsimp only [Jb.one]; omega, by dsimp only [Jb.one]; omega, g9, g10, g11, g12⟩, rfl, rfl, rfl, by dsimp only [Jb.one]; omega, by dsimp only [Jb.one]; omega⟩
theorem short_cases {j : Jb} (hj : j.good) : (shortE j = 0 ∧ (shortL j).length ≤ 4 ∧ (guidedJ j).2 = 0 ∧ (guidedJ j).1 ≤ (shortL j).length) ∨ (shortE j = 0 ∧ 4 < (shortL j).length) ∨ shortE j = 11 := by
  have hc := check_of_good hj
  have h : shortE j = 0 ∨ shortE j = 11 := by
    unfold shortE
    rw [if_pos hc]
    split
    · exact .inl rfl
    · exact .inr rfl
  rcases h with h | h
  · rcases Nat.lt_or_ge 4 (shortL j).length with h2 | h2
    · exact .inr (.inl ⟨h, h2⟩)
    · obtain ⟨a, b⟩ := heard1 hj h h2
      exact .inl ⟨h, h2, a, b⟩
  · exact .inr (.inr h)


set_option maxRecDepth 100000 in
set_option maxHeartbeats 1000000 in
theorem ReedHeard_any (D : Option Addr) (n d : Nat) (l : List Int) (w : World) (hl : Rd w w.heap.size 1 D n (ic l)) (hm : n ≤ 9223372036854775807) :
    Calls Try.prog 5 #[.slice D n d] w fun e w' => e = .returned (.bool true) ∧ Below w.heap.size w w' := by
  have hll := hl.len1
  obtain ⟨bI, oI, SI⟩ := Sp.old hl
  refine px_enter noEx Try.func5 rfl 133 rfl [.slice D n d] rfl rfl (Mem.init w _) ?_
  intro ac wc T M
  refine wp_seq ?_
  refine wp_region_lit ?_
  refine l_q T rfl rfl rfl rfl (rn_assign rfl evc) ?_; clear T ac; intro ac T
  refine wpList_nil ?_
  replace T := T.pick [1] rfl
  refine nm_then ?_
  refine wp_seq ?_
  refine wp_region_lit ?_
  refine l_q T rfl rfl rfl rfl (rn_move rfl (T.ev 0 rfl)) ?_; clear T ac; intro ac T
  refine l_w rfl ?_; intro K hK
  refine ow_call (first := []) (cap := []) T rfl rfl rfl rfl evf (.cons (T.ev 0 rfl) .nil) Try.func16 rfl rfl ?_
  refine Calls.mono (newPot_any _ _ _ l _ (SI.rd M (List.nil_sublist _)) (by omega)) ?_
  clear T
  rintro e wc ⟨bpu1, su1, hsu1, rfl, N⟩
  intro ac T
  replace M := M.join N; clear N
  replace M := M.mask [true] rfl
  refine sh_out hK _ _ ?_; clear hK K
  refine l_q T rfl rfl rfl rfl (rn_assign rfl (T.ev 0 rfl)) ?_; clear T ac; intro ac T
  refine wpList_nil ?_
  replace T := T.pick [0] rfl
  refine nm_then ?_
  refine wp_seq ?_
  refine wp_region_lit ?_
  refine l_q T rfl rfl rfl rfl (rn_move rfl (T.ev 0 rfl)) ?_; clear T ac; intro ac T
  refine l_w rfl ?_; intro K hK
  refine ow_call (first := []) (cap := []) T rfl rfl rfl rfl evf (.cons (T.ev 0 rfl) (.cons evc (.cons evc .nil))) Try.func17 rfl rfl ?_
  refine Calls.mono (jobOf_any _ bpu1 1 1 _ (by omega) (by omega) (by omega) (by omega) (M.nth 0 rfl) hsu1) ?_
  clear T
  rintro e wc ⟨ju2, Au2, cu2, su2, Iu2, rfl, hmu2, hsu2, hslu2, N⟩
  intro ac T
  obtain ⟨bu2, ou2, Su2⟩ := hslu2.sp (w := w) (ex := noEx) (rc_length _)
  replace M := (M.joinW .head N).swapI
  replace M := M.mask [true] rfl
  clear N hslu2
  have hgu2 := hmu2.good
  have hfewu2 := hgu2.few
  refine sh_out hK _ _ ?_; clear hK K
  refine l_w rfl ?_; intro K hK
  refine ow_al M T rfl rfl rfl rfl ?_; clear M T; intro g1 wc ac M T
  refine sh_out hK _ _ ?_; clear hK K
  refine l_w rfl ?_; intro K hK
  refine ow_st [.int .i64 ju2.p0, .int .i64 ju2.p1, .int .i64 ju2.t0, .int .i64 ju2.t1, .int .i64 ju2.r0, .int .i64 ju2.r1, .int .i64 ju2.u0, .int .i64 ju2.u1, .int .i64 ju2.d0, .int .i64 ju2.d1, .int .i64 ju2.a0, .int .i64 ju2.a1, .int .i64 ju2.b0, .int .i64 ju2.b1, .int .i64 ju2.le, .slice Au2 ju2.sh.length cu2, .int .i64 ju2.wi, .int .i64 ju2.me] M T rfl rfl (T.ev 0 rfl) (T.ev 1 rfl) rfl .head rfl rfl rfl (by kernel_rfl) ?_; clear M T; intro wc ac M T
  refine sh_out hK _ _ ?_; clear hK K
  refine wpList_nil ?_
  replace T := T.pick [0] rfl
  replace M := M.mask [true, false] rfl
  refine nm_then ?_
  refine wp_seq ?_
  refine wp_region_lit ?_
  refine l_q (v := (.agg #[.int .i64 ju2.p0, .int .i64 ju2.p1, .int .i64 ju2.t0, .int .i64 ju2.t1, .int .i64 ju2.r0, .int .i64 ju2.r1, .int .i64 ju2.u0, .int .i64 ju2.u1, .int .i64 ju2.d0, .int .i64 ju2.d1, .int .i64 ju2.a0, .int .i64 ju2.a1, .int .i64 ju2.b0, .int .i64 ju2.b1, .int .i64 ju2.le, .slice Au2 ju2.sh.length cu2, .int .i64 ju2.wi, .int .i64 ju2.me])) T rfl rfl rfl rfl (rn_row (Mem.nth M 0 rfl) rfl (T.ev 0 rfl) rfl rfl) ?_; clear T ac; intro ac T
  refine l_w rfl ?_; intro K hK
  refine ow_call (first := []) (cap := []) T rfl rfl rfl rfl evf (.cons (T.ev 0 rfl) .nil) Try.func18 rfl rfl ?_
  refine Calls.mono (copyJob_any ju2 _ _ _ (Su2.rd M (.cons _ (List.Sublist.refl _))) (by first | omega | (dsimp only [Jb.one]; omega))) ?_
  clear T
  rintro e wc ⟨Au3, cu3, Iu3, rfl, hsnu3, N⟩
  intro ac T
  obtain ⟨bu3, ou3, Su3⟩ := hsnu3.sp (w := w) (ex := noEx) (rc_length _)
  replace M := (M.join N).swapI
  replace M := M.mask [true] rfl
  clear N hsnu3
  refine sh_out hK _ _ ?_; clear hK K
  refine l_w rfl ?_; intro K hK
  refine ow_al M T rfl rfl rfl rfl ?_; clear M T; intro g2 wc ac M T
  refine sh_out hK _ _ ?_; clear hK K
  refine l_w rfl ?_; intro K hK
  refine ow_st [.int .i64 ju2.p0, .int .i64 ju2.p1, .int .i64 ju2.t0, .int .i64 ju2.t1, .int .i64 ju2.r0, .int .i64 ju2.r1, .int .i64 ju2.u0, .int .i64 ju2.u1, .int .i64 ju2.d0, .int .i64 ju2.d1, .int .i64 ju2.a0, .int .i64 ju2.a1, .int .i64 ju2.b0, .int .i64 ju2.b1, .int .i64 ju2.le, .slice Au3 ju2.sh.length cu3, .int .i64 ju2.wi, .int .i64 ju2.me] M T rfl rfl (T.ev 0 rfl) (T.ev 1 rfl) rfl .head rfl rfl rfl (by kernel_rfl) ?_; clear M T; intro wc ac M T
  refine sh_out hK _ _ ?_; clear hK K
  refine wpList_nil ?_
  replace T := T.pick [0, 3] rfl
  refine nm_then ?_
  refine wp_seq ?_
  refine wp_region_lit ?_
  refine l_q (v := (.pointer (some ⟨g2, 0, none⟩))) T rfl rfl rfl rfl (rn_fieldAddr (off := 0) rfl (T.ev 0 rfl) (fun _ _ _ => by kernel_rfl)) ?_; clear T ac; intro ac T
  refine l_q (v := (.pointer (some ⟨g2, 0, none⟩))) T rfl rfl rfl rfl (rn_fieldAddr (off := 0) rfl (T.ev 0 rfl) (fun _ _ _ => by kernel_rfl)) ?_; clear T ac; intro ac T
  refine l_q (v := (.pointer (some ⟨g2, 0, none⟩))) T rfl rfl rfl rfl (rn_fieldAddr (off := 0) rfl (T.ev 0 rfl) (fun _ _ _ => by kernel_rfl)) ?_; clear T ac; intro ac T
  refine l_q T rfl rfl rfl rfl (rn_one (Mem.nth M 0 rfl) rfl (T.ev 0 rfl) rfl) ?_; clear T ac; intro ac T
  refine l_q (v := (.pointer (some ⟨g2, 6, none⟩))) T rfl rfl rfl rfl (rn_fieldAddr (off := 6) rfl (T.ev 4 rfl) (fun _ _ _ => by kernel_rfl)) ?_; clear T ac; intro ac T
  refine l_q (v := (.pointer (some ⟨g2, 6, none⟩))) T rfl rfl rfl rfl (rn_fieldAddr (off := 0) rfl (T.ev 0 rfl) (fun _ _ _ => by kernel_rfl)) ?_; clear T ac; intro ac T
  refine l_q (v := (.pointer (some ⟨g2, 6, none⟩))) T rfl rfl rfl rfl (rn_fieldAddr (off := 0) rfl (T.ev 0 rfl) (fun _ _ _ => by kernel_rfl)) ?_; clear T ac; intro ac T
  refine l_q T rfl rfl rfl rfl (rn_one (Mem.nth M 0 rfl) rfl (T.ev 0 rfl) rfl) ?_; clear T ac; intro ac T
  refine l_q (v := (.pointer (some ⟨g2, 6, none⟩))) T rfl rfl rfl rfl (rn_fieldAddr (off := 6) rfl (T.ev 8 rfl) (fun _ _ _ => by kernel_rfl)) ?_; clear T ac; intro ac T
  refine l_q (v := (.pointer (some ⟨g2, 8, none⟩))) T rfl rfl rfl rfl (rn_fieldAddr (off := 2) rfl (T.ev 0 rfl) (fun _ _ _ => by kernel_rfl)) ?_; clear T ac; intro ac T
  refine l_q (v := (.pointer (some ⟨g2, 8, none⟩))) T rfl rfl rfl rfl (rn_fieldAddr (off := 0) rfl (T.ev 0 rfl) (fun _ _ _ => by kernel_rfl)) ?_; clear T ac; intro ac T
  refine l_q T rfl rfl rfl rfl (rn_one (Mem.nth M 0 rfl) rfl (T.ev 0 rfl) rfl) ?_; clear T ac; intro ac T
  refine l_q (v := (.pointer (some ⟨g2, 6, none⟩))) T rfl rfl rfl rfl (rn_fieldAddr (off := 6) rfl (T.ev 12 rfl) (fun _ _ _ => by kernel_rfl)) ?_; clear T ac; intro ac T
  refine l_q (v := (.pointer (some ⟨g2, 10, none⟩))) T rfl rfl rfl rfl (rn_fieldAddr (off := 4) rfl (T.ev 0 rfl) (fun _ _ _ => by kernel_rfl)) ?_; clear T ac; intro ac T
  refine l_q (v := (.pointer (some ⟨g2, 10, none⟩))) T rfl rfl rfl rfl (rn_fieldAddr (off := 0) rfl (T.ev 0 rfl) (fun _ _ _ => by kernel_rfl)) ?_; clear T ac; intro ac T
  refine l_q T rfl rfl rfl rfl (rn_one (Mem.nth M 0 rfl) rfl (T.ev 0 rfl) rfl) ?_; clear T ac; intro ac T
  refine l_q (v := (.pointer (some ⟨g2, 6, none⟩))) T rfl rfl rfl rfl (rn_fieldAddr (off := 6) rfl (T.ev 16 rfl) (fun _ _ _ => by kernel_rfl)) ?_; clear T ac; intro ac T
  refine l_q (v := (.pointer (some ⟨g2, 12, none⟩))) T rfl rfl rfl rfl (rn_fieldAddr (off := 6) rfl (T.ev 0 rfl) (fun _ _ _ => by kernel_rfl)) ?_; clear T ac; intro ac T
  refine l_q (v := (.pointer (some ⟨g2, 12, none⟩))) T rfl rfl rfl rfl (rn_fieldAddr (off := 0) rfl (T.ev 0 rfl) (fun _ _ _ => by kernel_rfl)) ?_; clear T ac; intro ac T
  refine l_q T rfl rfl rfl rfl (rn_one (Mem.nth M 0 rfl) rfl (T.ev 0 rfl) rfl) ?_; clear T ac; intro ac T
  refine l_q (v := (.pointer (some ⟨g2, 0, none⟩))) T rfl rfl rfl rfl (rn_fieldAddr (off := 0) rfl (T.ev 20 rfl) (fun _ _ _ => by kernel_rfl)) ?_; clear T ac; intro ac T
  refine l_q (v := (.pointer (some ⟨g2, 0, none⟩))) T rfl rfl rfl rfl (rn_fieldAddr (off := 0) rfl (T.ev 0 rfl) (fun _ _ _ => by kernel_rfl)) ?_; clear T ac; intro ac T
  refine l_q (v := (.pointer (some ⟨g2, 1, none⟩))) T rfl rfl rfl rfl (rn_fieldAddr (off := 1) rfl (T.ev 0 rfl) (fun _ _ _ => by kernel_rfl)) ?_; clear T ac; intro ac T
  refine l_w rfl ?_; intro K hK
  refine ow_st [.int .i64 ju2.p0, .int .i64 ju2.p0, .int .i64 ju2.t0, .int .i64 ju2.t1, .int .i64 ju2.r0, .int .i64 ju2.r1, .int .i64 ju2.u0, .int .i64 ju2.u1, .int .i64 ju2.d0, .int .i64 ju2.d1, .int .i64 ju2.a0, .int .i64 ju2.a1, .int .i64 ju2.b0, .int .i64 ju2.b1, .int .i64 ju2.le, .slice Au3 ju2.sh.length cu3, .int .i64 ju2.wi, .int .i64 ju2.me] M T rfl rfl (T.ev 0 rfl) (T.ev 19 rfl) rfl .head rfl rfl rfl (by kernel_rfl) ?_; clear M T; intro wc ac M T
  refine sh_out hK _ _ ?_; clear hK K
  refine l_q (v := (.pointer (some ⟨g2, 6, none⟩))) T rfl rfl rfl rfl (rn_fieldAddr (off := 6) rfl (T.ev 23 rfl) (fun _ _ _ => by kernel_rfl)) ?_; clear T ac; intro ac T
  refine l_q (v := (.pointer (some ⟨g2, 6, none⟩))) T rfl rfl rfl rfl (rn_fieldAddr (off := 0) rfl (T.ev 0 rfl) (fun _ _ _ => by kernel_rfl)) ?_; clear T ac; intro ac T
  refine l_q (v := (.pointer (some ⟨g2, 7, none⟩))) T rfl rfl rfl rfl (rn_fieldAddr (off := 1) rfl (T.ev 0 rfl) (fun _ _ _ => by kernel_rfl)) ?_; clear T ac; intro ac T
  refine l_w rfl ?_; intro K hK
  refine ow_st [.int .i64 ju2.p0, .int .i64 ju2.p0, .int .i64 ju2.t0, .int .i64 ju2.t1, .int .i64 ju2.r0, .int .i64 ju2.r1, .int .i64 ju2.u0, .int .i64 ju2.u0, .int .i64 ju2.d0, .int .i64 ju2.d1, .int .i64 ju2.a0, .int .i64 ju2.a1, .int .i64 ju2.b0, .int .i64 ju2.b1, .int .i64 ju2.le, .slice Au3 ju2.sh.length cu3, .int .i64 ju2.wi, .int .i64 ju2.me] M T rfl rfl (T.ev 0 rfl) (T.ev 18 rfl) rfl .head rfl rfl rfl (by kernel_rfl) ?_; clear M T; intro wc ac M T
  refine sh_out hK _ _ ?_; clear hK K
  refine l_q (v := (.pointer (some ⟨g2, 6, none⟩))) T rfl rfl rfl rfl (rn_fieldAddr (off := 6) rfl (T.ev 26 rfl) (fun _ _ _ => by kernel_rfl)) ?_; clear T ac; intro ac T
  refine l_q (v := (.pointer (some ⟨g2, 8, none⟩))) T rfl rfl rfl rfl (rn_fieldAddr (off := 2) rfl (T.ev 0 rfl) (fun _ _ _ => by kernel_rfl)) ?_; clear T ac; intro ac T
  refine l_q (v := (.pointer (some ⟨g2, 9, none⟩))) T rfl rfl rfl rfl (rn_fieldAddr (off := 1) rfl (T.ev 0 rfl) (fun _ _ _ => by kernel_rfl)) ?_; clear T ac; intro ac T
  refine l_w rfl ?_; intro K hK
  refine ow_st [.int .i64 ju2.p0, .int .i64 ju2.p0, .int .i64 ju2.t0, .int .i64 ju2.t1, .int .i64 ju2.r0, .int .i64 ju2.r1, .int .i64 ju2.u0, .int .i64 ju2.u0, .int .i64 ju2.d0, .int .i64 ju2.d0, .int .i64 ju2.a0, .int .i64 ju2.a1, .int .i64 ju2.b0, .int .i64 ju2.b1, .int .i64 ju2.le, .slice Au3 ju2.sh.length cu3, .int .i64 ju2.wi, .int .i64 ju2.me] M T rfl rfl (T.ev 0 rfl) (T.ev 17 rfl) rfl .head rfl rfl rfl (by kernel_rfl) ?_; clear M T; intro wc ac M T
  refine sh_out hK _ _ ?_; clear hK K
  refine l_q (v := (.pointer (some ⟨g2, 6, none⟩))) T rfl rfl rfl rfl (rn_fieldAddr (off := 6) rfl (T.ev 29 rfl) (fun _ _ _ => by kernel_rfl)) ?_; clear T ac; intro ac T
  refine l_q (v := (.pointer (some ⟨g2, 10, none⟩))) T rfl rfl rfl rfl (rn_fieldAddr (off := 4) rfl (T.ev 0 rfl) (fun _ _ _ => by kernel_rfl)) ?_; clear T ac; intro ac T
  refine l_q (v := (.pointer (some ⟨g2, 11, none⟩))) T rfl rfl rfl rfl (rn_fieldAddr (off := 1) rfl (T.ev 0 rfl) (fun _ _ _ => by kernel_rfl)) ?_; clear T ac; intro ac T
  refine l_w rfl ?_; intro K hK
  refine ow_st [.int .i64 ju2.p0, .int .i64 ju2.p0, .int .i64 ju2.t0, .int .i64 ju2.t1, .int .i64 ju2.r0, .int .i64 ju2.r1, .int .i64 ju2.u0, .int .i64 ju2.u0, .int .i64 ju2.d0, .int .i64 ju2.d0, .int .i64 ju2.a0, .int .i64 ju2.a0, .int .i64 ju2.b0, .int .i64 ju2.b1, .int .i64 ju2.le, .slice Au3 ju2.sh.length cu3, .int .i64 ju2.wi, .int .i64 ju2.me] M T rfl rfl (T.ev 0 rfl) (T.ev 16 rfl) rfl .head rfl rfl rfl (by kernel_rfl) ?_; clear M T; intro wc ac M T
  refine sh_out hK _ _ ?_; clear hK K
  refine l_q (v := (.pointer (some ⟨g2, 6, none⟩))) T rfl rfl rfl rfl (rn_fieldAddr (off := 6) rfl (T.ev 32 rfl) (fun _ _ _ => by kernel_rfl)) ?_; clear T ac; intro ac T
  refine l_q (v := (.pointer (some ⟨g2, 12, none⟩))) T rfl rfl rfl rfl (rn_fieldAddr (off := 6) rfl (T.ev 0 rfl) (fun _ _ _ => by kernel_rfl)) ?_; clear T ac; intro ac T
  refine l_q (v := (.pointer (some ⟨g2, 13, none⟩))) T rfl rfl rfl rfl (rn_fieldAddr (off := 1) rfl (T.ev 0 rfl) (fun _ _ _ => by kernel_rfl)) ?_; clear T ac; intro ac T
  refine l_w rfl ?_; intro K hK
  refine ow_st [.int .i64 ju2.p0, .int .i64 ju2.p0, .int .i64 ju2.t0, .int .i64 ju2.t1, .int .i64 ju2.r0, .int .i64 ju2.r1, .int .i64 ju2.u0, .int .i64 ju2.u0, .int .i64 ju2.d0, .int .i64 ju2.d0, .int .i64 ju2.a0, .int .i64 ju2.a0, .int .i64 ju2.b0, .int .i64 ju2.b0, .int .i64 ju2.le, .slice Au3 ju2.sh.length cu3, .int .i64 ju2.wi, .int .i64 ju2.me] M T rfl rfl (T.ev 0 rfl) (T.ev 15 rfl) rfl .head rfl rfl rfl (by kernel_rfl) ?_; clear M T; intro wc ac M T
  refine sh_out hK _ _ ?_; clear hK K
  refine wpList_nil ?_
  replace T := T.pick [35, 36] rfl
  refine nm_then ?_
  refine wp_seq ?_
  refine wp_region_lit ?_
  refine l_q (v := (.pointer (some ⟨g2, 6, none⟩))) T rfl rfl rfl rfl (rn_fieldAddr (off := 6) rfl (T.ev 0 rfl) (fun _ _ _ => by kernel_rfl)) ?_; clear T ac; intro ac T
  refine l_q (v := (.pointer (some ⟨g2, 14, none⟩))) T rfl rfl rfl rfl (rn_fieldAddr (off := 8) rfl (T.ev 0 rfl) (fun _ _ _ => by kernel_rfl)) ?_; clear T ac; intro ac T
  refine l_q T rfl rfl rfl rfl (rn_one (Mem.nth M 0 rfl) rfl (T.ev 0 rfl) rfl) ?_; clear T ac; intro ac T
  refine l_q (v := (.pointer (some ⟨g2, 0, none⟩))) T rfl rfl rfl rfl (rn_fieldAddr (off := 0) rfl (T.ev 3 rfl) (fun _ _ _ => by kernel_rfl)) ?_; clear T ac; intro ac T
  refine l_q (v := (.pointer (some ⟨g2, 2, none⟩))) T rfl rfl rfl rfl (rn_fieldAddr (off := 2) rfl (T.ev 0 rfl) (fun _ _ _ => by kernel_rfl)) ?_; clear T ac; intro ac T
  refine l_q (v := (.pointer (some ⟨g2, 2, none⟩))) T rfl rfl rfl rfl (rn_fieldAddr (off := 0) rfl (T.ev 0 rfl) (fun _ _ _ => by kernel_rfl)) ?_; clear T ac; intro ac T
  refine l_q T rfl rfl rfl rfl (rn_one (Mem.nth M 0 rfl) rfl (T.ev 0 rfl) rfl) ?_; clear T ac; intro ac T
  refine l_q (v := (.pointer (some ⟨g2, 0, none⟩))) T rfl rfl rfl rfl (rn_fieldAddr (off := 0) rfl (T.ev 7 rfl) (fun _ _ _ => by kernel_rfl)) ?_; clear T ac; intro ac T
  refine l_q (v := (.pointer (some ⟨g2, 4, none⟩))) T rfl rfl rfl rfl (rn_fieldAddr (off := 4) rfl (T.ev 0 rfl) (fun _ _ _ => by kernel_rfl)) ?_; clear T ac; intro ac T
  refine l_q (v := (.pointer (some ⟨g2, 4, none⟩))) T rfl rfl rfl rfl (rn_fieldAddr (off := 0) rfl (T.ev 0 rfl) (fun _ _ _ => by kernel_rfl)) ?_; clear T ac; intro ac T
  refine l_q T rfl rfl rfl rfl (rn_one (Mem.nth M 0 rfl) rfl (T.ev 0 rfl) rfl) ?_; clear T ac; intro ac T
  refine l_q T rfl rfl rfl rfl (rn_min3 rfl (T.ev 8 rfl) (T.ev 4 rfl) (T.ev 0 rfl)) ?_; clear T ac; intro ac T
  refine l_q (v := (.pointer (some ⟨g2, 6, none⟩))) T rfl rfl rfl rfl (rn_fieldAddr (off := 6) rfl (T.ev 12 rfl) (fun _ _ _ => by kernel_rfl)) ?_; clear T ac; intro ac T
  refine l_q (v := (.pointer (some ⟨g2, 14, none⟩))) T rfl rfl rfl rfl (rn_fieldAddr (off := 8) rfl (T.ev 0 rfl) (fun _ _ _ => by kernel_rfl)) ?_; clear T ac; intro ac T
  refine l_w rfl ?_; intro K hK
  refine ow_st [.int .i64 ju2.p0, .int .i64 ju2.p0, .int .i64 ju2.t0, .int .i64 ju2.t1, .int .i64 ju2.r0, .int .i64 ju2.r1, .int .i64 ju2.u0, .int .i64 ju2.u0, .int .i64 ju2.d0, .int .i64 ju2.d0, .int .i64 ju2.a0, .int .i64 ju2.a0, .int .i64 ju2.b0, .int .i64 ju2.b0, .int .i64 (min (min ju2.le ju2.t0) ju2.r0), .slice Au3 ju2.sh.length cu3, .int .i64 ju2.wi, .int .i64 ju2.me] M T rfl rfl (T.ev 0 rfl) (T.ev 2 rfl) rfl .head rfl rfl rfl (by kernel_rfl) ?_; clear M T; intro wc ac M T
  refine sh_out hK _ _ ?_; clear hK K
  refine wpList_nil ?_
  replace T := T.pick [14, 15] rfl
  refine nm_then ?_
  refine wp_seq ?_
  refine wp_region_lit ?_
  refine l_q (v := (.agg #[.int .i64 ju2.p0, .int .i64 ju2.p1, .int .i64 ju2.t0, .int .i64 ju2.t1, .int .i64 ju2.r0, .int .i64 ju2.r1, .int .i64 ju2.u0, .int .i64 ju2.u1, .int .i64 ju2.d0, .int .i64 ju2.d1, .int .i64 ju2.a0, .int .i64 ju2.a1, .int .i64 ju2.b0, .int .i64 ju2.b1, .int .i64 ju2.le, .slice Au2 ju2.sh.length cu2, .int .i64 ju2.wi, .int .i64 ju2.me])) T rfl rfl rfl rfl (rn_row (Mem.nth M 1 rfl) rfl (T.ev 1 rfl) rfl rfl) ?_; clear T ac; intro ac T
  refine l_w rfl ?_; intro K hK
  refine ow_call (first := []) (cap := []) T rfl rfl rfl rfl evf (.cons (T.ev 0 rfl) .nil) Try.func19 rfl rfl ?_
  refine Calls.mono (Shortest_any ju2 _ _ _ (Su2.rd M (.cons _ (.cons _ (List.Sublist.trans (List.Sublist.refl _) (List.sublist_append_left _ _))))) (by first | omega | (dsimp only [Jb.one]; omega))) ?_
  clear T
  rintro e wc ⟨Au4, cu4, rfl, hrlu4, hb⟩
  intro ac T
  replace M := M.call hb; clear hb
  clear hrlu4
  refine sh_out hK _ _ ?_; clear hK K
  refine l_q T rfl rfl rfl rfl (rn_move rfl (T.ev 0 rfl)) ?_; clear T ac; intro ac T
  refine l_q T rfl rfl rfl rfl (rn_extract rfl (T.ev 0 rfl) rfl) ?_; clear T ac; intro ac T
  refine l_q T rfl rfl rfl rfl (rn_extract rfl (T.ev 1 rfl) rfl) ?_; clear T ac; intro ac T
  refine l_q T rfl rfl rfl rfl (rn_assign rfl (T.ev 1 rfl)) ?_; clear T ac; intro ac T
  refine l_q T rfl rfl rfl rfl (rn_assign rfl (T.ev 1 rfl)) ?_; clear T ac; intro ac T
  refine wpList_nil ?_
  replace T := T.pick [0, 1, 7, 8] rfl
  refine nm_then ?_
  refine wp_seq ?_
  refine wp_region_lit ?_
  refine l_q (v := (.agg #[.int .i64 ju2.p0, .int .i64 ju2.p1, .int .i64 ju2.t0, .int .i64 ju2.t1, .int .i64 ju2.r0, .int .i64 ju2.r1, .int .i64 ju2.u0, .int .i64 ju2.u1, .int .i64 ju2.d0, .int .i64 ju2.d1, .int .i64 ju2.a0, .int .i64 ju2.a1, .int .i64 ju2.b0, .int .i64 ju2.b1, .int .i64 ju2.le, .slice Au2 ju2.sh.length cu2, .int .i64 ju2.wi, .int .i64 ju2.me])) T rfl rfl rfl rfl (rn_row (Mem.nth M 1 rfl) rfl (T.ev 3 rfl) rfl rfl) ?_; clear T ac; intro ac T
  refine l_w rfl ?_; intro K hK
  refine ow_call (first := []) (cap := []) T rfl rfl rfl rfl evf (.cons (T.ev 0 rfl) .nil) Try.func24 rfl rfl ?_
  refine Calls.mono (Guided_any ju2 _ _ _ (Su2.rd M (.cons _ (.cons _ (List.Sublist.trans (List.Sublist.refl _) (List.sublist_append_left _ _))))) (by first | omega | (dsimp only [Jb.one]; omega))) ?_
  clear T
  rintro e wc ⟨rfl, hb⟩
  intro ac T
  replace M := M.call hb; clear hb
  refine sh_out hK _ _ ?_; clear hK K
  refine l_q T rfl rfl rfl rfl (rn_move rfl (T.ev 0 rfl)) ?_; clear T ac; intro ac T
  refine l_q T rfl rfl rfl rfl (rn_extract rfl (T.ev 0 rfl) rfl) ?_; clear T ac; intro ac T
  refine l_q T rfl rfl rfl rfl (rn_extract rfl (T.ev 1 rfl) rfl) ?_; clear T ac; intro ac T
  refine l_q T rfl rfl rfl rfl (rn_assign rfl (T.ev 1 rfl)) ?_; clear T ac; intro ac T
  refine l_q T rfl rfl rfl rfl (rn_assign rfl (T.ev 1 rfl)) ?_; clear T ac; intro ac T
  refine wpList_nil ?_
  replace T := T.pick [0, 1, 7, 8, 9] rfl
  replace M := M.mask [true, false] rfl
  refine nm_then ?_
  refine wp_seq ?_
  refine cut_seq (fun ac wc => Tm ac 133 [(5, .pointer (some ⟨g2, 0, none⟩)), (91, .bool ((decide ((shortE ju2) = 0)) && ((decide ((((shortL ju2).length : Nat) : Int) ≤ 4)) && ((!(decide (((guidedJ ju2).2) = 0))) || (decide ((((shortL ju2).length : Nat) : Int) < ((guidedJ ju2).1)))))))] ∧ Mem w noEx wc ((g2, .cells [.int .i64 ju2.p0, .int .i64 ju2.p0, .int .i64 ju2.t0, .int .i64 ju2.t1, .int .i64 ju2.r0, .int .i64 ju2.r1, .int .i64 ju2.u0, .int .i64 ju2.u0, .int .i64 ju2.d0, .int .i64 ju2.d0, .int .i64 ju2.a0, .int .i64 ju2.a0, .int .i64 ju2.b0, .int .i64 ju2.b0, .int .i64 (min (min ju2.le ju2.t0) ju2.r0), .slice Au3 ju2.sh.length cu3, .int .i64 ju2.wi, .int .i64 ju2.me]) :: (Iu2 ++ Iu3))) ?_ ?_
  · refine wp_region_lit ?_
    refine l_q T rfl rfl rfl rfl (rn_move rfl (T.ev 2 rfl)) ?_; clear T ac; intro ac T
    refine l_q T rfl rfl rfl rfl (rn_eql rfl (T.ev 0 rfl) evc) ?_; clear T ac; intro ac T
    refine l_q T rfl rfl rfl rfl (rn_move rfl (T.ev 0 rfl)) ?_; clear T ac; intro ac T
    rcases Bool.eq_false_or_eq_true (decide ((shortE ju2) = 0)) with h1 | h1
    · replace h1 := of_decide_eq_true h1
      refine l_q T (wanted_yes rfl rfl (T.ev 0 rfl) (decide_eq_true h1)) rfl rfl rfl (rn_move rfl (T.ev 6 rfl)) ?_; clear T ac; intro ac T
      refine l_q T (wanted_yes rfl rfl (T.ev 1 rfl) (decide_eq_true h1)) rfl rfl rfl (rn_lenS rfl Try.underlying31 (T.ev 0 rfl)) ?_; clear T ac; intro ac T
      refine l_q T (wanted_yes rfl rfl (T.ev 2 rfl) (decide_eq_true h1)) rfl rfl rfl (rn_leq rfl (T.ev 0 rfl) evc) ?_; clear T ac; intro ac T
      refine l_q T rfl rfl rfl rfl (rn_pick1 rfl (T.ev 3 rfl) (decide_eq_true h1) (T.ev 0 rfl)) ?_; clear T ac; intro ac T
      refine l_q T rfl rfl rfl rfl (rn_move rfl (T.ev 0 rfl)) ?_; clear T ac; intro ac T
      rcases Bool.eq_false_or_eq_true (decide ((((shortL ju2).length : Nat) : Int) ≤ 4)) with h2 | h2
      · replace h2 := of_decide_eq_true h2
        refine l_q T (wanted_yes rfl rfl (T.ev 0 rfl) (decide_eq_true h2)) rfl rfl rfl (rn_move rfl (T.ev 8 rfl)) ?_; clear T ac; intro ac T
        refine l_q T (wanted_yes rfl rfl (T.ev 1 rfl) (decide_eq_true h2)) rfl rfl rfl (rn_neq rfl (T.ev 0 rfl) evc) ?_; clear T ac; intro ac T
        refine l_q T (wanted_yes rfl rfl (T.ev 2 rfl) (decide_eq_true h2)) rfl rfl rfl (rn_move rfl (T.ev 0 rfl)) ?_; clear T ac; intro ac T
        rcases Bool.eq_false_or_eq_true (!(decide (((guidedJ ju2).2) = 0))) with h3 | h3
        · replace h3 : ¬ (((guidedJ ju2).2) = 0) := by simpa using h3
          refine l_pass T (wanted_no rfl rfl (T.ev 0 rfl) (by simp [h3])) rfl rfl rfl ?_; clear T ac; intro ac T
          refine l_pass T (wanted_no rfl rfl (T.ev 1 rfl) (by simp [h3])) rfl rfl rfl ?_; clear T ac; intro ac T
          refine l_pass T (wanted_no rfl rfl (T.ev 2 rfl) (by simp [h3])) rfl rfl rfl ?_; clear T ac; intro ac T
          refine l_pass T (wanted_no rfl rfl (T.ev 3 rfl) (by simp [h3])) rfl rfl rfl ?_; clear T ac; intro ac T
          refine l_q T (wanted_yes rfl rfl (T.ev 7 rfl) (decide_eq_true h2)) rfl rfl rfl (rn_pick1 rfl (T.ev 4 rfl) (by simp [h3]) evc) ?_; clear T ac; intro ac T
          refine l_q T rfl rfl rfl rfl (rn_pick1 rfl (T.ev 8 rfl) (decide_eq_true h2) (T.ev 0 rfl)) ?_; clear T ac; intro ac T
          refine wpList_nil ?_
          replace T := T.pick [0, 21] rfl
          exact ⟨(T.pick (E' := [(5, .pointer (some ⟨g2, 0, none⟩)), (91, .bool true)]) [1, 0] rfl).as (by (try rw [show (decide ((shortE ju2) = 0)) = true from (decide_eq_true h1)]); (try rw [show (decide ((((shortL ju2).length : Nat) : Int) ≤ 4)) = true from (decide_eq_true h2)]); (try rw [show (!(decide (((guidedJ ju2).2) = 0))) = true from (by simp [h3])]); rfl), M.mask [true] rfl⟩
        · replace h3 : ((guidedJ ju2).2) = 0 := by simpa using h3
          refine l_q T (wanted_yes rfl rfl (T.ev 0 rfl) (by simp [h3])) rfl rfl rfl (rn_move rfl (T.ev 12 rfl)) ?_; clear T ac; intro ac T
          refine l_q T (wanted_yes rfl rfl (T.ev 1 rfl) (by simp [h3])) rfl rfl rfl (rn_move rfl (T.ev 15 rfl)) ?_; clear T ac; intro ac T
          refine l_q T (wanted_yes rfl rfl (T.ev 2 rfl) (by simp [h3])) rfl rfl rfl (rn_lenS rfl Try.underlying31 (T.ev 0 rfl)) ?_; clear T ac; intro ac T
          refine l_q T (wanted_yes rfl rfl (T.ev 3 rfl) (by simp [h3])) rfl rfl rfl (rn_gtr rfl (T.ev 2 rfl) (T.ev 0 rfl)) ?_; clear T ac; intro ac T
          refine l_q T (wanted_yes rfl rfl (T.ev 7 rfl) (decide_eq_true h2)) rfl rfl rfl (rn_pick0 rfl (T.ev 4 rfl) (by simp [h3]) (T.ev 0 rfl)) ?_; clear T ac; intro ac T
          refine l_q T rfl rfl rfl rfl (rn_pick1 rfl (T.ev 8 rfl) (decide_eq_true h2) (T.ev 0 rfl)) ?_; clear T ac; intro ac T
          refine wpList_nil ?_
          replace T := T.pick [0, 21] rfl
          exact ⟨(T.pick (E' := [(5, .pointer (some ⟨g2, 0, none⟩)), (91, .bool (decide ((((shortL ju2).length : Nat) : Int) < ((guidedJ ju2).1))))]) [1, 0] rfl).as (by (try rw [show (decide ((shortE ju2) = 0)) = true from (decide_eq_true h1)]); (try rw [show (decide ((((shortL ju2).length : Nat) : Int) ≤ 4)) = true from (decide_eq_true h2)]); (try rw [show (!(decide (((guidedJ ju2).2) = 0))) = false from (by simp [h3])]); rfl), M.mask [true] rfl⟩
      · replace h2 := of_decide_eq_false h2
        refine l_pass T (wanted_no rfl rfl (T.ev 0 rfl) (decide_eq_false h2)) rfl rfl rfl ?_; clear T ac; intro ac T
        refine l_pass T (wanted_no rfl rfl (T.ev 1 rfl) (decide_eq_false h2)) rfl rfl rfl ?_; clear T ac; intro ac T
        refine l_pass T (wanted_no rfl rfl (T.ev 2 rfl) (decide_eq_false h2)) rfl rfl rfl ?_; clear T ac; intro ac T
        refine l_pass T (wanted_un rfl rfl (T.ev 0 rfl)) rfl rfl rfl ?_; clear T ac; intro ac T
        refine l_pass T (wanted_un rfl rfl (T.ev 1 rfl)) rfl rfl rfl ?_; clear T ac; intro ac T
        refine l_pass T (wanted_un rfl rfl (T.ev 2 rfl)) rfl rfl rfl ?_; clear T ac; intro ac T
        refine l_pass T (wanted_un rfl rfl (T.ev 3 rfl)) rfl rfl rfl ?_; clear T ac; intro ac T
        refine l_pass T (wanted_no rfl rfl (T.ev 7 rfl) (decide_eq_false h2)) rfl rfl rfl ?_; clear T ac; intro ac T
        refine l_q T rfl rfl rfl rfl (rn_pick0 rfl (T.ev 8 rfl) (decide_eq_false h2) evc) ?_; clear T ac; intro ac T
        refine wpList_nil ?_
        replace T := T.pick [0, 21] rfl
        exact ⟨(T.pick (E' := [(5, .pointer (some ⟨g2, 0, none⟩)), (91, .bool false)]) [1, 0] rfl).as (by (try rw [show (decide ((shortE ju2) = 0)) = true from (decide_eq_true h1)]); (try rw [show (decide ((((shortL ju2).length : Nat) : Int) ≤ 4)) = false from (decide_eq_false h2)]); rfl), M.mask [true] rfl⟩
    · replace h1 := of_decide_eq_false h1
      refine l_pass T (wanted_no rfl rfl (T.ev 0 rfl) (decide_eq_false h1)) rfl rfl rfl ?_; clear T ac; intro ac T
      refine l_pass T (wanted_no rfl rfl (T.ev 1 rfl) (decide_eq_false h1)) rfl rfl rfl ?_; clear T ac; intro ac T
      refine l_pass T (wanted_no rfl rfl (T.ev 2 rfl) (decide_eq_false h1)) rfl rfl rfl ?_; clear T ac; intro ac T
      refine l_q T rfl rfl rfl rfl (rn_pick0 rfl (T.ev 3 rfl) (decide_eq_false h1) evc) ?_; clear T ac; intro ac T
      refine l_q T rfl rfl rfl rfl (rn_move rfl (T.ev 0 rfl)) ?_; clear T ac; intro ac T
      refine l_pass T (wanted_no rfl rfl (T.ev 0 rfl) rfl) rfl rfl rfl ?_; clear T ac; intro ac T
      refine l_pass T (wanted_no rfl rfl (T.ev 1 rfl) rfl) rfl rfl rfl ?_; clear T ac; intro ac T
      refine l_pass T (wanted_no rfl rfl (T.ev 2 rfl) rfl) rfl rfl rfl ?_; clear T ac; intro ac T
      refine l_pass T (wanted_un rfl rfl (T.ev 0 rfl)) rfl rfl rfl ?_; clear T ac; intro ac T
      refine l_pass T (wanted_un rfl rfl (T.ev 1 rfl)) rfl rfl rfl ?_; clear T ac; intro ac T
      refine l_pass T (wanted_un rfl rfl (T.ev 2 rfl)) rfl rfl rfl ?_; clear T ac; intro ac T
      refine l_pass T (wanted_un rfl rfl (T.ev 3 rfl)) rfl rfl rfl ?_; clear T ac; intro ac T
      refine l_pass T (wanted_no rfl rfl (T.ev 7 rfl) rfl) rfl rfl rfl ?_; clear T ac; intro ac T
      refine l_q T rfl rfl rfl rfl (rn_pick0 rfl (T.ev 8 rfl) rfl evc) ?_; clear T ac; intro ac T
      refine wpList_nil ?_
      replace T := T.pick [0, 21] rfl
      exact ⟨(T.pick (E' := [(5, .pointer (some ⟨g2, 0, none⟩)), (91, .bool false)]) [1, 0] rfl).as (by (try rw [show (decide ((shortE ju2) = 0)) = false from (decide_eq_false h1)]); rfl), M.mask [true] rfl⟩
  · clear T M
    rintro ac wc ⟨T, M⟩
    refine wp_cond_split (T.ev 1 rfl) ?_ ?_
    · intro h4
      (try have h4' := h4; try simp only [Bool.and_eq_true, Bool.or_eq_true, Bool.not_eq_true', Bool.and_eq_false_imp, Bool.or_eq_false_iff, decide_eq_true_eq, decide_eq_false_iff_not] at h4')
      refine wp_seq ?_
      refine wp_region_lit ?_
      refine l_q T rfl rfl rfl rfl (rn_assign rfl evc) ?_; clear T ac; intro ac T
      refine wpList_nil ?_
      replace T := T.pick [0] rfl
      replace M := M.mask [false] rfl
      refine nm_then ?_
      refine wp_ret ?_
      refine rt_then ?_
      refine rt_1 T rfl (T.ev 0 rfl) ?_
      exfalso
      simp only [Bool.and_eq_true, Bool.or_eq_true, Bool.not_eq_true', Bool.and_eq_false_iff, Bool.or_eq_false_iff, decide_eq_true_eq, decide_eq_false_iff_not] at h4
      rcases short_cases hgu2 with ⟨q1, q2, q3, q4⟩ | ⟨q1, q2⟩ | q1 <;> omega
    · intro h4
      (try have h4' := h4; try simp only [Bool.and_eq_true, Bool.or_eq_true, Bool.not_eq_true', Bool.and_eq_false_imp, Bool.or_eq_false_iff, decide_eq_true_eq, decide_eq_false_iff_not] at h4')
      refine wp_skip ?_
      refine nm_then ?_
      refine wp_seq ?_
      refine wp_region_lit ?_
      refine l_q (v := (.agg #[.int .i64 ju2.p0, .int .i64 ju2.p0, .int .i64 ju2.t0, .int .i64 ju2.t1, .int .i64 ju2.r0, .int .i64 ju2.r1, .int .i64 ju2.u0, .int .i64 ju2.u0, .int .i64 ju2.d0, .int .i64 ju2.d0, .int .i64 ju2.a0, .int .i64 ju2.a0, .int .i64 ju2.b0, .int .i64 ju2.b0, .int .i64 (min (min ju2.le ju2.t0) ju2.r0), .slice Au3 ju2.sh.length cu3, .int .i64 ju2.wi, .int .i64 ju2.me])) T rfl rfl rfl rfl (rn_row (Mem.nth M 0 rfl) rfl (T.ev 0 rfl) rfl rfl) ?_; clear T ac; intro ac T
      refine l_w rfl ?_; intro K hK
      refine ow_call (first := []) (cap := []) T rfl rfl rfl rfl evf (.cons (T.ev 0 rfl) .nil) Try.func19 rfl rfl ?_
      refine Calls.mono (Shortest_any ju2.one _ _ _ (Su3.rd M (.cons _ (List.sublist_append_right _ _))) (by first | omega | (dsimp only [Jb.one]; omega))) ?_
      clear T
      rintro e wc ⟨Au6, cu6, rfl, hrlu6, hb⟩
      intro ac T
      replace M := M.call hb; clear hb
      clear hrlu6
      refine sh_out hK _ _ ?_; clear hK K
      refine l_q T rfl rfl rfl rfl (rn_move rfl (T.ev 0 rfl)) ?_; clear T ac; intro ac T
      refine l_q T rfl rfl rfl rfl (rn_extract rfl (T.ev 0 rfl) rfl) ?_; clear T ac; intro ac T
      refine l_q T rfl rfl rfl rfl (rn_extract rfl (T.ev 1 rfl) rfl) ?_; clear T ac; intro ac T
      refine l_q T rfl rfl rfl rfl (rn_assign rfl (T.ev 1 rfl)) ?_; clear T ac; intro ac T
      refine l_q T rfl rfl rfl rfl (rn_assign rfl (T.ev 1 rfl)) ?_; clear T ac; intro ac T
      refine wpList_nil ?_
      replace T := T.pick [0, 1, 7] rfl
      refine nm_then ?_
      refine wp_seq ?_
      refine wp_region_lit ?_
      refine l_q (v := (.agg #[.int .i64 ju2.p0, .int .i64 ju2.p0, .int .i64 ju2.t0, .int .i64 ju2.t1, .int .i64 ju2.r0, .int .i64 ju2.r1, .int .i64 ju2.u0, .int .i64 ju2.u0, .int .i64 ju2.d0, .int .i64 ju2.d0, .int .i64 ju2.a0, .int .i64 ju2.a0, .int .i64 ju2.b0, .int .i64 ju2.b0, .int .i64 (min (min ju2.le ju2.t0) ju2.r0), .slice Au3 ju2.sh.length cu3, .int .i64 ju2.wi, .int .i64 ju2.me])) T rfl rfl rfl rfl (rn_row (Mem.nth M 0 rfl) rfl (T.ev 2 rfl) rfl rfl) ?_; clear T ac; intro ac T
      refine l_w rfl ?_; intro K hK
      refine ow_call (first := []) (cap := []) T rfl rfl rfl rfl evf (.cons (T.ev 0 rfl) .nil) Try.func24 rfl rfl ?_
      refine Calls.mono (Guided_any ju2.one _ _ _ (Su3.rd M (.cons _ (List.sublist_append_right _ _))) (by first | omega | (dsimp only [Jb.one]; omega))) ?_
      clear T
      rintro e wc ⟨rfl, hb⟩
      intro ac T
      replace M := M.call hb; clear hb
      refine sh_out hK _ _ ?_; clear hK K
      refine l_q T rfl rfl rfl rfl (rn_move rfl (T.ev 0 rfl)) ?_; clear T ac; intro ac T
      refine l_q T rfl rfl rfl rfl (rn_extract rfl (T.ev 0 rfl) rfl) ?_; clear T ac; intro ac T
      refine l_q T rfl rfl rfl rfl (rn_extract rfl (T.ev 1 rfl) rfl) ?_; clear T ac; intro ac T
      refine l_q T rfl rfl rfl rfl (rn_assign rfl (T.ev 1 rfl)) ?_; clear T ac; intro ac T
      refine l_q T rfl rfl rfl rfl (rn_assign rfl (T.ev 1 rfl)) ?_; clear T ac; intro ac T
      refine wpList_nil ?_
      replace T := T.pick [0, 1, 7, 8] rfl
      replace M := M.mask [false] rfl
      refine nm_then ?_
      refine wp_seq ?_
      refine wp_seq ?_
      refine wp_region_lit ?_
      refine l_q T rfl rfl rfl rfl (rn_move rfl (T.ev 0 rfl)) ?_; clear T ac; intro ac T
      refine l_q T rfl rfl rfl rfl (rn_eql rfl (T.ev 0 rfl) evc) ?_; clear T ac; intro ac T
      refine wpList_nil ?_
      replace T := T.pick [0, 2, 3, 4, 5] rfl
      refine nm_then ?_
      refine wp_if (T.ev 0 rfl) ?_ ?_
      · intro h5
        refine cut_seq (fun ac wc => Tm ac 133 [(2, .bool ((decide ((shortE ju2.one) = 0)) && (decide (((guidedJ ju2.one).1) = (((shortL ju2.one).length : Nat) : Int)))))] ∧ Mem w noEx wc ((Iu2 ++ Iu3))) ?_ ?_
        · refine wp_region_lit ?_
          refine l_q T rfl rfl rfl rfl (rn_move rfl (T.ev 3 rfl)) ?_; clear T ac; intro ac T
          refine l_q T rfl rfl rfl rfl (rn_eql rfl (T.ev 0 rfl) evc) ?_; clear T ac; intro ac T
          refine l_q T rfl rfl rfl rfl (rn_move rfl (T.ev 0 rfl)) ?_; clear T ac; intro ac T
          rcases Bool.eq_false_or_eq_true (decide ((shortE ju2.one) = 0)) with h6 | h6
          · replace h6 := of_decide_eq_true h6
            refine l_q T (wanted_yes rfl rfl (T.ev 0 rfl) (decide_eq_true h6)) rfl rfl rfl (rn_move rfl (T.ev 5 rfl)) ?_; clear T ac; intro ac T
            refine l_q T (wanted_yes rfl rfl (T.ev 1 rfl) (decide_eq_true h6)) rfl rfl rfl (rn_move rfl (T.ev 8 rfl)) ?_; clear T ac; intro ac T
            refine l_q T (wanted_yes rfl rfl (T.ev 2 rfl) (decide_eq_true h6)) rfl rfl rfl (rn_lenS rfl Try.underlying31 (T.ev 0 rfl)) ?_; clear T ac; intro ac T
            refine l_q T (wanted_yes rfl rfl (T.ev 3 rfl) (decide_eq_true h6)) rfl rfl rfl (rn_eql rfl (T.ev 2 rfl) (T.ev 0 rfl)) ?_; clear T ac; intro ac T
            refine l_q T rfl rfl rfl rfl (rn_pick1 rfl (T.ev 4 rfl) (decide_eq_true h6) (T.ev 0 rfl)) ?_; clear T ac; intro ac T
            refine l_q T rfl rfl rfl rfl (rn_move rfl (T.ev 0 rfl)) ?_; clear T ac; intro ac T
            rcases Bool.eq_false_or_eq_true (decide (((guidedJ ju2.one).1) = (((shortL ju2.one).length : Nat) : Int))) with h7 | h7
            · replace h7 := of_decide_eq_true h7
              refine l_w (wanted_yes rfl rfl (T.ev 0 rfl) (decide_eq_true h7)) ?_; intro K hK
              refine ow_call (first := []) (cap := []) T rfl rfl rfl rfl evf .nil Try.func15 rfl rfl ?_
              refine Calls.mono (tuned_any _) ?_
              clear T
              rintro e wc ⟨rfl, hb⟩
              intro ac T
              replace M := M.call hb; clear hb
              refine sh_out hK _ _ ?_; clear hK K
              refine l_q T rfl rfl rfl rfl (rn_pick1 rfl (T.ev 1 rfl) (decide_eq_true h7) (T.ev 0 rfl)) ?_; clear T ac; intro ac T
              refine l_q T rfl rfl rfl rfl (rn_assign rfl (T.ev 0 rfl)) ?_; clear T ac; intro ac T
              refine wpList_nil ?_
              replace T := T.pick [0] rfl
              exact ⟨(T.pick (E' := [(2, .bool true)]) [0] rfl).as (by (try rw [show (decide ((shortE ju2.one) = 0)) = true from (decide_eq_true h6)]); (try rw [show (decide (((guidedJ ju2.one).1) = (((shortL ju2.one).length : Nat) : Int))) = true from (decide_eq_true h7)]); rfl), M.mask [] rfl⟩
            · replace h7 := of_decide_eq_false h7
              refine l_pass T (wanted_no rfl rfl (T.ev 0 rfl) (decide_eq_false h7)) rfl rfl rfl ?_; clear T ac; intro ac T
              refine l_q T rfl rfl rfl rfl (rn_pick0 rfl (T.ev 1 rfl) (decide_eq_false h7) evc) ?_; clear T ac; intro ac T
              refine l_q T rfl rfl rfl rfl (rn_assign rfl (T.ev 0 rfl)) ?_; clear T ac; intro ac T
              refine wpList_nil ?_
              replace T := T.pick [0] rfl
              exact ⟨(T.pick (E' := [(2, .bool false)]) [0] rfl).as (by (try rw [show (decide ((shortE ju2.one) = 0)) = true from (decide_eq_true h6)]); (try rw [show (decide (((guidedJ ju2.one).1) = (((shortL ju2.one).length : Nat) : Int))) = false from (decide_eq_false h7)]); rfl), M.mask [] rfl⟩
          · replace h6 := of_decide_eq_false h6
            refine l_pass T (wanted_no rfl rfl (T.ev 0 rfl) (decide_eq_false h6)) rfl rfl rfl ?_; clear T ac; intro ac T
            refine l_pass T (wanted_no rfl rfl (T.ev 1 rfl) (decide_eq_false h6)) rfl rfl rfl ?_; clear T ac; intro ac T
            refine l_pass T (wanted_no rfl rfl (T.ev 2 rfl) (decide_eq_false h6)) rfl rfl rfl ?_; clear T ac; intro ac T
            refine l_pass T (wanted_no rfl rfl (T.ev 3 rfl) (decide_eq_false h6)) rfl rfl rfl ?_; clear T ac; intro ac T
            refine l_q T rfl rfl rfl rfl (rn_pick0 rfl (T.ev 4 rfl) (decide_eq_false h6) evc) ?_; clear T ac; intro ac T
            refine l_q T rfl rfl rfl rfl (rn_move rfl (T.ev 0 rfl)) ?_; clear T ac; intro ac T
            refine l_pass T (wanted_no rfl rfl (T.ev 0 rfl) rfl) rfl rfl rfl ?_; clear T ac; intro ac T
            refine l_q T rfl rfl rfl rfl (rn_pick0 rfl (T.ev 1 rfl) rfl evc) ?_; clear T ac; intro ac T
            refine l_q T rfl rfl rfl rfl (rn_assign rfl (T.ev 0 rfl)) ?_; clear T ac; intro ac T
            refine wpList_nil ?_
            replace T := T.pick [0] rfl
            exact ⟨(T.pick (E' := [(2, .bool false)]) [0] rfl).as (by (try rw [show (decide ((shortE ju2.one) = 0)) = false from (decide_eq_false h6)]); rfl), M.mask [] rfl⟩
        · clear T M
          rintro ac wc ⟨T, M⟩
          refine wp_ret ?_
          refine rt_then ?_
          refine rt_1 T rfl (T.ev 0 rfl) ?_
          refine ⟨ret_bool ?_, M.below⟩
          have hx := heard2 hgu2.one
          simp only [Bool.and_eq_true, decide_eq_true_eq]
          rcases hx with ⟨q1, q2, q3⟩ | ⟨q1, q2⟩
          · exact ⟨q2, q3⟩
          · exfalso; omega
      · intro h5
        refine wp_skip ?_
        refine nm_then ?_
        refine cut_seq (fun ac wc => Tm ac 133 [(2, .bool ((decide (((guidedJ ju2.one).2) = 11)) && ((decide ((shortE ju2.one) = 11)) || ((decide ((shortE ju2.one) = 0)) && (decide (4 < (((shortL ju2.one).length : Nat) : Int)))))))] ∧ Mem w noEx wc ((Iu2 ++ Iu3))) ?_ ?_
        · refine wp_region_lit ?_
          refine l_q T rfl rfl rfl rfl (rn_move rfl (T.ev 1 rfl)) ?_; clear T ac; intro ac T
          refine l_q T rfl rfl rfl rfl (rn_eql rfl (T.ev 0 rfl) evc) ?_; clear T ac; intro ac T
          refine l_q T rfl rfl rfl rfl (rn_move rfl (T.ev 0 rfl)) ?_; clear T ac; intro ac T
          rcases Bool.eq_false_or_eq_true (decide (((guidedJ ju2.one).2) = 11)) with h8 | h8
          · replace h8 := of_decide_eq_true h8
            refine l_q T (wanted_yes rfl rfl (T.ev 0 rfl) (decide_eq_true h8)) rfl rfl rfl (rn_move rfl (T.ev 6 rfl)) ?_; clear T ac; intro ac T
            refine l_q T (wanted_yes rfl rfl (T.ev 1 rfl) (decide_eq_true h8)) rfl rfl rfl (rn_eql rfl (T.ev 0 rfl) evc) ?_; clear T ac; intro ac T
            refine l_q T (wanted_yes rfl rfl (T.ev 2 rfl) (decide_eq_true h8)) rfl rfl rfl (rn_move rfl (T.ev 0 rfl)) ?_; clear T ac; intro ac T
            rcases Bool.eq_false_or_eq_true (decide ((shortE ju2.one) = 11)) with h9 | h9
            · replace h9 := of_decide_eq_true h9
              refine l_pass T (wanted_no rfl rfl (T.ev 0 rfl) (decide_eq_true h9)) rfl rfl rfl ?_; clear T ac; intro ac T
              refine l_pass T (wanted_no rfl rfl (T.ev 1 rfl) (decide_eq_true h9)) rfl rfl rfl ?_; clear T ac; intro ac T
              refine l_pass T (wanted_no rfl rfl (T.ev 2 rfl) (decide_eq_true h9)) rfl rfl rfl ?_; clear T ac; intro ac T
              refine l_pass T (wanted_un rfl rfl (T.ev 0 rfl)) rfl rfl rfl ?_; clear T ac; intro ac T
              refine l_pass T (wanted_un rfl rfl (T.ev 1 rfl)) rfl rfl rfl ?_; clear T ac; intro ac T
              refine l_pass T (wanted_un rfl rfl (T.ev 2 rfl)) rfl rfl rfl ?_; clear T ac; intro ac T
              refine l_pass T (wanted_no rfl rfl (T.ev 6 rfl) (decide_eq_true h9)) rfl rfl rfl ?_; clear T ac; intro ac T
              refine l_q T (wanted_yes rfl rfl (T.ev 10 rfl) (decide_eq_true h8)) rfl rfl rfl (rn_pick1 rfl (T.ev 7 rfl) (decide_eq_true h9) evc) ?_; clear T ac; intro ac T
              refine l_q T rfl rfl rfl rfl (rn_pick1 rfl (T.ev 11 rfl) (decide_eq_true h8) (T.ev 0 rfl)) ?_; clear T ac; intro ac T
              refine l_q T rfl rfl rfl rfl (rn_move rfl (T.ev 0 rfl)) ?_; clear T ac; intro ac T
              refine l_w (wanted_yes rfl rfl (T.ev 0 rfl) rfl) ?_; intro K hK
              refine ow_call (first := []) (cap := []) T rfl rfl rfl rfl evf .nil Try.func15 rfl rfl ?_
              refine Calls.mono (tuned_any _) ?_
              clear T
              rintro e wc ⟨rfl, hb⟩
              intro ac T
              replace M := M.call hb; clear hb
              refine sh_out hK _ _ ?_; clear hK K
              refine l_q T rfl rfl rfl rfl (rn_pick1 rfl (T.ev 1 rfl) rfl (T.ev 0 rfl)) ?_; clear T ac; intro ac T
              refine l_q T rfl rfl rfl rfl (rn_assign rfl (T.ev 0 rfl)) ?_; clear T ac; intro ac T
              refine wpList_nil ?_
              replace T := T.pick [0] rfl
              exact ⟨(T.pick (E' := [(2, .bool true)]) [0] rfl).as (by (try rw [show (decide (((guidedJ ju2.one).2) = 11)) = true from (decide_eq_true h8)]); (try rw [show (decide ((shortE ju2.one) = 11)) = true from (decide_eq_true h9)]); rfl), M.mask [] rfl⟩
            · replace h9 := of_decide_eq_false h9
              refine l_q T (wanted_yes rfl rfl (T.ev 0 rfl) (decide_eq_false h9)) rfl rfl rfl (rn_move rfl (T.ev 9 rfl)) ?_; clear T ac; intro ac T
              refine l_q T (wanted_yes rfl rfl (T.ev 1 rfl) (decide_eq_false h9)) rfl rfl rfl (rn_eql rfl (T.ev 0 rfl) evc) ?_; clear T ac; intro ac T
              refine l_q T (wanted_yes rfl rfl (T.ev 2 rfl) (decide_eq_false h9)) rfl rfl rfl (rn_move rfl (T.ev 0 rfl)) ?_; clear T ac; intro ac T
              rcases Bool.eq_false_or_eq_true (decide ((shortE ju2.one) = 0)) with h10 | h10
              · replace h10 := of_decide_eq_true h10
                refine l_q T (wanted_yes rfl rfl (T.ev 0 rfl) (decide_eq_true h10)) rfl rfl rfl (rn_move rfl (T.ev 13 rfl)) ?_; clear T ac; intro ac T
                refine l_q T (wanted_yes rfl rfl (T.ev 1 rfl) (decide_eq_true h10)) rfl rfl rfl (rn_lenS rfl Try.underlying31 (T.ev 0 rfl)) ?_; clear T ac; intro ac T
                refine l_q T (wanted_yes rfl rfl (T.ev 2 rfl) (decide_eq_true h10)) rfl rfl rfl (rn_gtr rfl (T.ev 0 rfl) evc) ?_; clear T ac; intro ac T
                refine l_q T (wanted_yes rfl rfl (T.ev 6 rfl) (decide_eq_false h9)) rfl rfl rfl (rn_pick1 rfl (T.ev 3 rfl) (decide_eq_true h10) (T.ev 0 rfl)) ?_; clear T ac; intro ac T
                refine l_q T (wanted_yes rfl rfl (T.ev 10 rfl) (decide_eq_true h8)) rfl rfl rfl (rn_pick0 rfl (T.ev 7 rfl) (decide_eq_false h9) (T.ev 0 rfl)) ?_; clear T ac; intro ac T
                refine l_q T rfl rfl rfl rfl (rn_pick1 rfl (T.ev 11 rfl) (decide_eq_true h8) (T.ev 0 rfl)) ?_; clear T ac; intro ac T
                refine l_q T rfl rfl rfl rfl (rn_move rfl (T.ev 0 rfl)) ?_; clear T ac; intro ac T
                rcases Bool.eq_false_or_eq_true (decide (4 < (((shortL ju2.one).length : Nat) : Int))) with h11 | h11
                · replace h11 := of_decide_eq_true h11
                  refine l_w (wanted_yes rfl rfl (T.ev 0 rfl) (decide_eq_true h11)) ?_; intro K hK
                  refine ow_call (first := []) (cap := []) T rfl rfl rfl rfl evf .nil Try.func15 rfl rfl ?_
                  refine Calls.mono (tuned_any _) ?_
                  clear T
                  rintro e wc ⟨rfl, hb⟩
                  intro ac T
                  replace M := M.call hb; clear hb
                  refine sh_out hK _ _ ?_; clear hK K
                  refine l_q T rfl rfl rfl rfl (rn_pick1 rfl (T.ev 1 rfl) (decide_eq_true h11) (T.ev 0 rfl)) ?_; clear T ac; intro ac T
                  refine l_q T rfl rfl rfl rfl (rn_assign rfl (T.ev 0 rfl)) ?_; clear T ac; intro ac T
                  refine wpList_nil ?_
                  replace T := T.pick [0] rfl
                  exact ⟨(T.pick (E' := [(2, .bool true)]) [0] rfl).as (by (try rw [show (decide (((guidedJ ju2.one).2) = 11)) = true from (decide_eq_true h8)]); (try rw [show (decide ((shortE ju2.one) = 11)) = false from (decide_eq_false h9)]); (try rw [show (decide ((shortE ju2.one) = 0)) = true from (decide_eq_true h10)]); (try rw [show (decide (4 < (((shortL ju2.one).length : Nat) : Int))) = true from (decide_eq_true h11)]); rfl), M.mask [] rfl⟩
                · replace h11 := of_decide_eq_false h11
                  refine l_pass T (wanted_no rfl rfl (T.ev 0 rfl) (decide_eq_false h11)) rfl rfl rfl ?_; clear T ac; intro ac T
                  refine l_q T rfl rfl rfl rfl (rn_pick0 rfl (T.ev 1 rfl) (decide_eq_false h11) evc) ?_; clear T ac; intro ac T
                  refine l_q T rfl rfl rfl rfl (rn_assign rfl (T.ev 0 rfl)) ?_; clear T ac; intro ac T
                  refine wpList_nil ?_
                  replace T := T.pick [0] rfl
                  exact ⟨(T.pick (E' := [(2, .bool false)]) [0] rfl).as (by (try rw [show (decide (((guidedJ ju2.one).2) = 11)) = true from (decide_eq_true h8)]); (try rw [show (decide ((shortE ju2.one) = 11)) = false from (decide_eq_false h9)]); (try rw [show (decide ((shortE ju2.one) = 0)) = true from (decide_eq_true h10)]); (try rw [show (decide (4 < (((shortL ju2.one).length : Nat) : Int))) = false from (decide_eq_false h11)]); rfl), M.mask [] rfl⟩
              · replace h10 := of_decide_eq_false h10
                refine l_pass T (wanted_no rfl rfl (T.ev 0 rfl) (decide_eq_false h10)) rfl rfl rfl ?_; clear T ac; intro ac T
                refine l_pass T (wanted_no rfl rfl (T.ev 1 rfl) (decide_eq_false h10)) rfl rfl rfl ?_; clear T ac; intro ac T
                refine l_pass T (wanted_no rfl rfl (T.ev 2 rfl) (decide_eq_false h10)) rfl rfl rfl ?_; clear T ac; intro ac T
                refine l_q T (wanted_yes rfl rfl (T.ev 6 rfl) (decide_eq_false h9)) rfl rfl rfl (rn_pick0 rfl (T.ev 3 rfl) (decide_eq_false h10) evc) ?_; clear T ac; intro ac T
                refine l_q T (wanted_yes rfl rfl (T.ev 10 rfl) (decide_eq_true h8)) rfl rfl rfl (rn_pick0 rfl (T.ev 7 rfl) (decide_eq_false h9) (T.ev 0 rfl)) ?_; clear T ac; intro ac T
                refine l_q T rfl rfl rfl rfl (rn_pick1 rfl (T.ev 11 rfl) (decide_eq_true h8) (T.ev 0 rfl)) ?_; clear T ac; intro ac T
                refine l_q T rfl rfl rfl rfl (rn_move rfl (T.ev 0 rfl)) ?_; clear T ac; intro ac T
                refine l_pass T (wanted_no rfl rfl (T.ev 0 rfl) rfl) rfl rfl rfl ?_; clear T ac; intro ac T
                refine l_q T rfl rfl rfl rfl (rn_pick0 rfl (T.ev 1 rfl) rfl evc) ?_; clear T ac; intro ac T
                refine l_q T rfl rfl rfl rfl (rn_assign rfl (T.ev 0 rfl)) ?_; clear T ac; intro ac T
                refine wpList_nil ?_
                replace T := T.pick [0] rfl
                exact ⟨(T.pick (E' := [(2, .bool false)]) [0] rfl).as (by (try rw [show (decide (((guidedJ ju2.one).2) = 11)) = true from (decide_eq_true h8)]); (try rw [show (decide ((shortE ju2.one) = 11)) = false from (decide_eq_false h9)]); (try rw [show (decide ((shortE ju2.one) = 0)) = false from (decide_eq_false h10)]); rfl), M.mask [] rfl⟩
          · replace h8 := of_decide_eq_false h8
            refine l_pass T (wanted_no rfl rfl (T.ev 0 rfl) (decide_eq_false h8)) rfl rfl rfl ?_; clear T ac; intro ac T
            refine l_pass T (wanted_no rfl rfl (T.ev 1 rfl) (decide_eq_false h8)) rfl rfl rfl ?_; clear T ac; intro ac T
            refine l_pass T (wanted_no rfl rfl (T.ev 2 rfl) (decide_eq_false h8)) rfl rfl rfl ?_; clear T ac; intro ac T
            refine l_pass T (wanted_un rfl rfl (T.ev 0 rfl)) rfl rfl rfl ?_; clear T ac; intro ac T
            refine l_pass T (wanted_un rfl rfl (T.ev 1 rfl)) rfl rfl rfl ?_; clear T ac; intro ac T
            refine l_pass T (wanted_un rfl rfl (T.ev 2 rfl)) rfl rfl rfl ?_; clear T ac; intro ac T
            refine l_pass T (wanted_un rfl rfl (T.ev 0 rfl)) rfl rfl rfl ?_; clear T ac; intro ac T
            refine l_pass T (wanted_un rfl rfl (T.ev 1 rfl)) rfl rfl rfl ?_; clear T ac; intro ac T
            refine l_pass T (wanted_un rfl rfl (T.ev 2 rfl)) rfl rfl rfl ?_; clear T ac; intro ac T
            refine l_pass T (wanted_un rfl rfl (T.ev 6 rfl)) rfl rfl rfl ?_; clear T ac; intro ac T
            refine l_pass T (wanted_no rfl rfl (T.ev 10 rfl) (decide_eq_false h8)) rfl rfl rfl ?_; clear T ac; intro ac T
            refine l_q T rfl rfl rfl rfl (rn_pick0 rfl (T.ev 11 rfl) (decide_eq_false h8) evc) ?_; clear T ac; intro ac T
            refine l_q T rfl rfl rfl rfl (rn_move rfl (T.ev 0 rfl)) ?_; clear T ac; intro ac T
            refine l_pass T (wanted_no rfl rfl (T.ev 0 rfl) rfl) rfl rfl rfl ?_; clear T ac; intro ac T
            refine l_q T rfl rfl rfl rfl (rn_pick0 rfl (T.ev 1 rfl) rfl evc) ?_; clear T ac; intro ac T
            refine l_q T rfl rfl rfl rfl (rn_assign rfl (T.ev 0 rfl)) ?_; clear T ac; intro ac T
            refine wpList_nil ?_
            replace T := T.pick [0] rfl
            exact ⟨(T.pick (E' := [(2, .bool false)]) [0] rfl).as (by (try rw [show (decide (((guidedJ ju2.one).2) = 11)) = false from (decide_eq_false h8)]); rfl), M.mask [] rfl⟩
        · clear T M
          rintro ac wc ⟨T, M⟩
          refine wp_ret ?_
          refine rt_1 T rfl (T.ev 0 rfl) ?_
          refine ⟨ret_bool ?_, M.below⟩
          have hx := heard2 hgu2.one
          simp only [Bool.and_eq_true, Bool.or_eq_true, decide_eq_true_eq]
          rcases hx with ⟨q1, q2, q3⟩ | ⟨q1, q2⟩
          · exfalso; omega
          · exact ⟨q1, by rcases q2 with q2 | ⟨q2, q3⟩; exact .inl q2; exact .inr ⟨q2, by omega⟩⟩

end Go.Proofs.Ythlpceoajhcliaa
/-
  The law ReedWindows, walked.
-/
import Derived.Test.YthlpceoajhcliaaK4
namespace Go.Proofs.Ythlpceoajhcliaa
set_option linter.unusedSimpArgs false
set_option linter.unusedVariables false
open Go.RowKit

theorem rhearT_eq (j : Jb) (r : Int) : rhearT j r = hearT j r := by
  unfold rhearT hearT
  have e : rheard j.p0 j.p1 r j.me = meetL (j.p0, j.p1) [(r - j.me, r + j.me)] := by
    show _ = mstep (j.p0, j.p1) (r - j.me, r + j.me)
    unfold rheard mstep
    refine Prod.ext ?_ ?_
    · dsimp only; split <;> omega
    · dsimp only; split <;> omega
  rw [e]
theorem rWindow_J (j : Jb) (A : Option Addr) (c : Nat) (w : World) (hr : Rd w w.heap.size 2 A j.sh.length (rc j.sh)) (hn : j.sh.length ≤ 9223372036854775807) :
    Calls Try.prog 45 #[jobV j A c] w fun e w' => e = .returned (.tuple #[R2 (windowJ j).1.1 (windowJ j).1.2, .int .i64 (windowJ j).2]) ∧ Below w.heap.size w w' := by
  have h := rWindow_any j A c w hr hn
  rw [windowR_eq] at h
  exact h
theorem rPasses_J (j : Jb) (A : Option Addr) (c : Nat) (w : World) (hr : Rd w w.heap.size 2 A j.sh.length (rc j.sh)) (hn : j.sh.length ≤ 9223372036854775807) :
    Calls Try.prog 47 #[jobV j A c] w fun e w' => e = .returned (.tuple #[.int .i64 (passesT j).1, .int .i64 (passesT j).2]) ∧ Below w.heap.size w w' := by
  have h := rPasses_any j A c w hr hn
  rw [rpassT_eq] at h
  exact h
theorem rHear_J (j : Jb) (A : Option Addr) (c : Nat) (r : Int) (w : World) (hr : Rd w w.heap.size 2 A j.sh.length (rc j.sh)) (hn : j.sh.length ≤ 9223372036854775807) :
    Calls Try.prog 48 #[jobV j A c, .int .i64 r] w fun e w' => e = .returned (.tuple #[R2 (hearT j r).1.1 (hearT j r).1.2, .int .i64 (hearT j r).2]) ∧ Below w.heap.size w w' := by
  have h := rHear_any j A c r w hr hn
  rw [rhearT_eq] at h
  exact h
theorem few_more {j : Jb} (h : j.sh.length ≤ 4) (x y : Int) : (j.more x y).sh.length ≤ 5 := by rw [← more_length]; omega


set_option maxRecDepth 100000 in
set_option maxHeartbeats 1000000 in
theorem ReedWindows_any (j : Jb) (A : Option Addr) (c : Nat) (y0 y1 r : Int) (D : Option Addr) (d n : Nat) (l : List Int) (w : World) (hr : Rd w w.heap.size 2 A j.sh.length (rc j.sh)) (hn : j.sh.length ≤ 9223372036854775807) (hl : Rd w w.heap.size 1 D n (ic l)) (hm : n ≤ 9223372036854775807) :
    Calls Try.prog 10 #[jobV j A c, R2 y0 y1, .int .i64 r, .slice D n d] w fun e w' => e = .returned (.bool true) ∧ Below w.heap.size w w' := by
  obtain ⟨bJ, oJ, SJ⟩ := Sp.old hr
  have hll := hl.len1
  obtain ⟨bI, oI, SI⟩ := Sp.old hl
  refine px_enter noEx Try.func10 rfl 178 rfl [.agg #[.int .i64 j.p0, .int .i64 j.p1, .int .i64 j.t0, .int .i64 j.t1, .int .i64 j.r0, .int .i64 j.r1, .int .i64 j.u0, .int .i64 j.u1, .int .i64 j.d0, .int .i64 j.d1, .int .i64 j.a0, .int .i64 j.a1, .int .i64 j.b0, .int .i64 j.b1, .int .i64 j.le, .slice A j.sh.length c, .int .i64 j.wi, .int .i64 j.me], .agg #[.int .i64 y0, .int .i64 y1], .int .i64 r, .slice D n d] rfl rfl (Mem.init w _) ?_
  intro ac wc T M
  refine wp_seq ?_
  refine wp_region_lit ?_
  refine l_w rfl ?_; intro K hK
  refine ow_bx M T rfl rfl rfl rfl (T.ev 0 rfl) rfl ?_; clear M T; intro g1 wc ac M T
  refine sh_out hK _ _ ?_; clear hK K
  refine l_w rfl ?_; intro K hK
  refine ow_bx M T rfl rfl rfl rfl (T.ev 2 rfl) rfl ?_; clear M T; intro g2 wc ac M T
  refine sh_out hK _ _ ?_; clear hK K
  refine l_q T rfl rfl rfl rfl (rn_assign rfl evc) ?_; clear T ac; intro ac T
  refine wpList_nil ?_
  replace T := T.pick [1, 2, 5, 6] rfl
  refine nm_then ?_
  refine wp_seq ?_
  refine wp_seq ?_
  refine wp_region_lit ?_
  refine l_q (v := (.pointer (some ⟨g1, 15, none⟩))) T rfl rfl rfl rfl (rn_fieldAddr (off := 15) rfl (T.ev 1 rfl) (fun _ _ _ => by kernel_rfl)) ?_; clear T ac; intro ac T
  refine l_q T rfl rfl rfl rfl (rn_one (Mem.nth M 1 rfl) rfl (T.ev 0 rfl) rfl) ?_; clear T ac; intro ac T
  refine l_q T rfl rfl rfl rfl (rn_lenS rfl Try.underlying28 (T.ev 0 rfl)) ?_; clear T ac; intro ac T
  refine l_q T rfl rfl rfl rfl (rn_gtr rfl (T.ev 0 rfl) evc) ?_; clear T ac; intro ac T
  refine wpList_nil ?_
  replace T := T.pick [0, 4, 5, 6, 7] rfl
  refine nm_then ?_
  refine wp_if (T.ev 0 rfl) ?_ ?_
  · intro h1
    refine wp_seq ?_
    refine wp_region_lit ?_
    refine l_w rfl ?_; intro K hK
    refine ow_call (first := []) (cap := []) T rfl rfl rfl rfl evf .nil Try.func15 rfl rfl ?_
    refine Calls.mono (tuned_any _) ?_
    clear T
    rintro e wc ⟨rfl, hb⟩
    intro ac T
    replace M := M.call hb; clear hb
    refine sh_out hK _ _ ?_; clear hK K
    refine l_q T rfl rfl rfl rfl (rn_assign rfl (T.ev 0 rfl)) ?_; clear T ac; intro ac T
    refine wpList_nil ?_
    replace T := T.pick [0] rfl
    replace M := M.mask [false, false] rfl
    refine nm_then ?_
    refine wp_ret ?_
    refine rt_then ?_
    refine rt_1 T rfl (T.ev 0 rfl) ?_
    exact ⟨rfl, M.below⟩
  · intro h1
    refine wp_skip ?_
    refine nm_then ?_
    refine wp_seq ?_
    refine wp_region_lit ?_
    refine l_q T rfl rfl rfl rfl (rn_move rfl (T.ev 4 rfl)) ?_; clear T ac; intro ac T
    refine l_w rfl ?_; intro K hK
    refine ow_call (first := []) (cap := []) T rfl rfl rfl rfl evf (.cons (T.ev 0 rfl) .nil) Try.func16 rfl rfl ?_
    refine Calls.mono (newPot_any _ _ _ l _ (SI.rd M (List.nil_sublist _)) (by omega)) ?_
    clear T
    rintro e wc ⟨bpu2, su2, hsu2, rfl, N⟩
    intro ac T
    replace M := M.join N; clear N
    replace M := M.mask [true, true, true] rfl
    refine sh_out hK _ _ ?_; clear hK K
    refine l_q T rfl rfl rfl rfl (rn_assign rfl (T.ev 0 rfl)) ?_; clear T ac; intro ac T
    refine wpList_nil ?_
    replace T := T.pick [0, 4, 5, 6] rfl
    refine nm_then ?_
    refine wp_seq ?_
    refine wp_region_lit ?_
    refine l_q T rfl rfl rfl rfl (rn_move rfl (T.ev 0 rfl)) ?_; clear T ac; intro ac T
    refine l_w rfl ?_; intro K hK
    refine ow_call (first := []) (cap := []) T rfl rfl rfl rfl evf (.cons (T.ev 0 rfl) (.cons evc (.cons evc .nil))) Try.func17 rfl rfl ?_
    refine Calls.mono (jobOf_any _ bpu2 9 4 _ (by omega) (by omega) (by omega) (by omega) (M.nth 0 rfl) hsu2) ?_
    clear T
    rintro e wc ⟨ju3, Au3, cu3, su3, Iu3, rfl, hmu3, hsu3, hslu3, N⟩
    intro ac T
    obtain ⟨bu3, ou3, Su3⟩ := hslu3.sp (w := w) (ex := noEx) (rc_length _)
    replace M := (M.joinW .head N).swapI
    replace M := M.mask [true, true, true] rfl
    clear N hslu3
    have hgu3 := hmu3.good
    have hfewu3 := hgu3.few
    have hpu3 := hgu3.p
    have hmeu3 := hgu3.me
    refine sh_out hK _ _ ?_; clear hK K
    refine l_w rfl ?_; intro K hK
    refine ow_al M T rfl rfl rfl rfl ?_; clear M T; intro g3 wc ac M T
    refine sh_out hK _ _ ?_; clear hK K
    refine l_w rfl ?_; intro K hK
    refine ow_stO M T rfl rfl (T.ev 0 rfl) (T.ev 1 rfl) rfl .head rfl (by simp) rfl (by kernel_rfl) ?_; clear M T; intro wc ac M T
    refine sh_out hK _ _ ?_; clear hK K
    refine wpList_nil ?_
    replace T := T.pick [0, 3, 4, 5, 6] rfl
    refine nm_then ?_
    refine wp_seq ?_
    refine wp_region_lit ?_
    refine l_q T rfl rfl rfl rfl (rn_rowO (Mem.nth M 0 rfl) rfl (T.ev 0 rfl) rfl) ?_; clear T ac; intro ac T
    refine l_w rfl ?_; intro K hK
    refine ow_call (first := []) (cap := []) T rfl rfl rfl rfl evf (.cons (T.ev 0 rfl) .nil) Try.func18 rfl rfl ?_
    refine Calls.mono (copyJob_own ju3 _ _ _ (Su3.rd M (.cons _ (.cons _ (.cons _ (.cons _ (List.Sublist.refl _)))))) (by first | omega | (have := few_more hfewu3 y0 y1; omega))) ?_
    clear T
    rintro e wc ⟨Au4, cu4, Iu4, rfl, hsnu4, N⟩
    intro ac T
    obtain ⟨bu4, ou4, Su4⟩ := hsnu4.sp (w := w) (ex := noEx) (rc_length _)
    replace M := (M.join N).swapI
    replace M := M.mask [true, true, true, true] rfl
    clear N
    refine sh_out hK _ _ ?_; clear hK K
    refine l_w rfl ?_; intro K hK
    refine ow_al M T rfl rfl rfl rfl ?_; clear M T; intro g4 wc ac M T
    refine sh_out hK _ _ ?_; clear hK K
    refine l_w rfl ?_; intro K hK
    refine ow_stO M T rfl rfl (T.ev 0 rfl) (T.ev 1 rfl) rfl .head rfl (by simp) rfl (by kernel_rfl) ?_; clear M T; intro wc ac M T
    refine sh_out hK _ _ ?_; clear hK K
    refine wpList_nil ?_
    replace T := T.pick [0, 3, 4, 5, 6, 7] rfl
    refine nm_then ?_
    refine wp_seq ?_
    refine wp_region_lit ?_
    refine l_q (v := (.pointer (some ⟨g4, 15, none⟩))) T rfl rfl rfl rfl (rn_fieldAddr (off := 15) rfl (T.ev 0 rfl) (fun _ _ _ => by kernel_rfl)) ?_; clear T ac; intro ac T
    refine l_q T rfl rfl rfl rfl (rn_one (Mem.nth M 0 rfl) rfl (T.ev 0 rfl) rfl) ?_; clear T ac; intro ac T
    refine l_q T rfl rfl rfl rfl (rn_rowO (Mem.nth M 3 rfl) rfl (T.ev 5 rfl) rfl) ?_; clear T ac; intro ac T
    refine l_w rfl ?_; intro K hK
    refine ow_bs (e := 23) [.int .i64 y0, .int .i64 y1] M T rfl rfl rfl rfl (.cons (T.ev 0 rfl) .nil) (fun _ => by kernel_rfl) ?_; clear M T; intro g5 wc ac M T
    refine sh_out hK _ _ ?_; clear hK K
    refine l_w rfl ?_; intro K hK
    refine ow_appM (((g5, .cells [.int .i64 y0, .int .i64 y1]) :: (g4, .cells (jobL ju3 Au4 cu4)) :: (g3, .cells (jobL ju3 Au3 cu3)) :: (bpu2, .cells [.int .u64 su3]) :: (g2, .cells [.int .i64 y0, .int .i64 y1]) :: (g1, .cells (jobL j A c)) :: Iu3)) Try.info23 hsnu4 M (by first | rfl | simp) T rfl rfl rfl rfl Try.underlying28 rfl rfl rfl (by omega) (T.ev 2 rfl) (T.ev 0 rfl) (nthE_mem (i := 0) rfl) rfl rfl ?_; clear M T; intro ga1 cga1 wc ac M T
    rw [more_length ju3 y0 y1] at M T; rw [rc_snoc] at M
    refine sh_out hK _ _ ?_; clear hK K
    refine l_q (v := (.pointer (some ⟨g4, 15, none⟩))) T rfl rfl rfl rfl (rn_fieldAddr (off := 15) rfl (T.ev 5 rfl) (fun _ _ _ => by kernel_rfl)) ?_; clear T ac; intro ac T
    refine l_w rfl ?_; intro K hK
    refine ow_stO M T rfl rfl (T.ev 0 rfl) (T.ev 1 rfl) rfl (.tail (.tail .head)) rfl (by simp) rfl (by kernel_rfl) ?_; clear M T; intro wc ac M T
    refine sh_out hK _ _ ?_; clear hK K
    refine wpList_nil ?_
    replace T := T.pick [6, 7, 8, 10, 11] rfl
    replace M := M.mask [true, false, true, true, true, false, true] rfl
    refine nm_then ?_
    refine cut_seq (fun ac wc => ∃ (xur7_23 : Int), ∃ (sur7_23 : Int), (((ju3.p0 - ju3.me) - 1) ≤ xur7_23 ∧ xur7_23 ≤ ((ju3.p1 + ju3.me) + 1)) ∧ (u64ok sur7_23) ∧ ∃ (gr7_26 gr7_4 : Nat), Tm ac 178 [(12, .slice (some ⟨gr7_4, 0, none⟩) 4 4), (13, .slice (some ⟨gr7_26, 0, none⟩) 4 4)] ∧ Mem w noEx wc ((gr7_4, .cells (jobL j A c ++ jobL ju3 Au3 cu3 ++ [.int .i64 ju3.p0, .int .i64 ju3.p1, .int .i64 ju3.t0, .int .i64 ju3.t1, .int .i64 ju3.r0, .int .i64 ju3.r1, .int .i64 ju3.u0, .int .i64 ju3.u1, .int .i64 ju3.d0, .int .i64 ju3.d1, .int .i64 ju3.a0, .int .i64 ju3.a1, .int .i64 ju3.b0, .int .i64 ju3.b1, .int .i64 ju3.le, .slice (some ⟨ga1, 0, none⟩) ((ju3.more y0 y1).sh.length) cga1, .int .i64 ju3.wi, .int .i64 ju3.me] ++ jobL ju3 Au3 cu3)) :: (gr7_26, .cells [.int .i64 r, .int .i64 xur7_23, .int .i64 r, .int .i64 r]) :: (ga1, .row 23 2 (ju3.more y0 y1).sh.length (rc (ju3.more y0 y1).sh) cga1) :: Iu3)) ?_ ?_
    · refine g_start2 M (M.mask [true, true, true, false, true] rfl) 29 (by kernel_rfl) rfl (by kernel_rfl) ?_
      clear M; intro wc M
      refine g_addG 23 M ?_
      refine g_q (T := T) (i := 0) rfl (by kernel_rfl) (by kernel_rfl : (pbits 29 0).setIfInBounds 0 true = pbits 29 1) (si_and (si_G rfl) si_U) (fun _ _ _ h => h) rfl rfl rfl rfl (fun B w' hD hl hS => (rn_rowO (Mem.nth (show Mem w noEx w' _ from (MA.rgt hS)) 3 rfl) rfl (T.ev 3 rfl) rfl)) ?_; clear T ac; intro ac T
      refine g_q (T := T) (i := 1) rfl (by kernel_rfl) (by kernel_rfl : (pbits 29 1).setIfInBounds 1 true = pbits 29 3) (si_and (si_G rfl) si_U) (fun _ _ _ h => h) rfl rfl rfl rfl (fun B w' hD hl hS => (rn_rowO (Mem.nth (show Mem w noEx w' _ from (MA.rgt hS)) 2 rfl) rfl (T.ev 2 rfl) rfl)) ?_; clear T ac; intro ac T
      refine g_q (T := T) (i := 2) rfl (by kernel_rfl) (by kernel_rfl : (pbits 29 3).setIfInBounds 2 true = pbits 29 7) (si_and (si_G rfl) si_U) (fun _ _ _ h => h) rfl rfl rfl rfl (fun B w' hD hl hS => (rn_rowO (Mem.nth (show Mem w noEx w' _ from (MA.rgt hS)) 1 rfl) rfl (T.ev 2 rfl) rfl)) ?_; clear T ac; intro ac T
      refine g_q (T := T) (i := 3) rfl (by kernel_rfl) (by kernel_rfl : (pbits 29 7).setIfInBounds 3 true = pbits 29 15) (si_and (si_G rfl) si_U) (fun _ _ _ h => h) rfl rfl rfl rfl (fun B w' hD hl hS => (rn_rowO (Mem.nth (show Mem w noEx w' _ from (MA.rgt hS)) 2 rfl) rfl (T.ev 4 rfl) rfl)) ?_; clear T ac; intro ac T
      refine g_q (T := T) (i := 5) rfl (by kernel_rfl) (by kernel_rfl : (pbits 29 15).setIfInBounds 5 true = pbits 29 47) (si_and (si_G rfl) si_U) (fun _ _ _ h => h) rfl rfl rfl rfl (fun _ _ _ _ _ => (rn_move rfl (T.ev 8 rfl))) ?_; clear T ac; intro ac T
      refine g_q (T := T) (i := 6) rfl (by kernel_rfl) (by kernel_rfl : (pbits 29 47).setIfInBounds 6 true = pbits 29 111) (si_and (si_G rfl) si_U) (fun _ _ _ h => h) rfl rfl rfl rfl (fun _ _ _ _ _ => (rn_move rfl (T.ev 7 rfl))) ?_; clear T ac; intro ac T
      refine g_q (v := (.pointer (some ⟨g3, 0, none⟩))) (T := T) (i := 7) rfl (by kernel_rfl) (by kernel_rfl : (pbits 29 111).setIfInBounds 7 true = pbits 29 239) (si_and (si_G rfl) si_U) (fun _ _ _ h => h) rfl rfl rfl rfl (fun _ _ _ _ _ => (rn_fieldAddr (off := 0) rfl (T.ev 7 rfl) (fun _ _ _ => by kernel_rfl))) ?_; clear T ac; intro ac T
      refine g_q (v := (.pointer (some ⟨g3, 0, none⟩))) (T := T) (i := 8) rfl (by kernel_rfl) (by kernel_rfl : (pbits 29 239).setIfInBounds 8 true = pbits 29 495) (si_and (si_G rfl) si_U) (fun _ _ _ h => h) rfl rfl rfl rfl (fun _ _ _ _ _ => (rn_fieldAddr (off := 0) rfl (T.ev 0 rfl) (fun _ _ _ => by kernel_rfl))) ?_; clear T ac; intro ac T
      refine g_q (v := (.pointer (some ⟨g3, 0, none⟩))) (T := T) (i := 9) rfl (by kernel_rfl) (by kernel_rfl : (pbits 29 495).setIfInBounds 9 true = pbits 29 1007) (si_and (si_G rfl) si_U) (fun _ _ _ h => h) rfl rfl rfl rfl (fun _ _ _ _ _ => (rn_fieldAddr (off := 0) rfl (T.ev 0 rfl) (fun _ _ _ => by kernel_rfl))) ?_; clear T ac; intro ac T
      refine g_q (T := T) (i := 10) rfl (by kernel_rfl) (by kernel_rfl : (pbits 29 1007).setIfInBounds 10 true = pbits 29 2031) (si_and (si_G rfl) si_U) (fun _ _ _ h => h) rfl rfl rfl rfl (fun B w' hD hl hS => (rn_one (Mem.nth (show Mem w noEx w' _ from ((MA.lft hS) (hD.wait (i := 14) (m := 23) (by kernel_rfl) (hD.wait (i := 13) (m := 14) (by kernel_rfl) (hD.wait (i := 10) (m := 13) (by kernel_rfl) hl))))) 2 rfl) rfl (T.ev 0 rfl) rfl)) ?_; clear T ac; intro ac T
      refine g_q (v := (.pointer (some ⟨g3, 17, none⟩))) (T := T) (i := 11) rfl (by kernel_rfl) (by kernel_rfl : (pbits 29 2031).setIfInBounds 11 true = pbits 29 4079) (si_and (si_G rfl) si_U) (fun _ _ _ h => h) rfl rfl rfl rfl (fun _ _ _ _ _ => (rn_fieldAddr (off := 17) rfl (T.ev 11 rfl) (fun _ _ _ => by kernel_rfl))) ?_; clear T ac; intro ac T
      refine g_q (T := T) (i := 12) rfl (by kernel_rfl) (by kernel_rfl : (pbits 29 4079).setIfInBounds 12 true = pbits 29 8175) (si_and (si_G rfl) si_U) (fun _ _ _ h => h) rfl rfl rfl rfl (fun B w' hD hl hS => (rn_one (Mem.nth (show Mem w noEx w' _ from ((MA.lft hS) (hD.wait (i := 14) (m := 23) (by kernel_rfl) (hD.wait (i := 13) (m := 14) (by kernel_rfl) (hD.wait (i := 12) (m := 13) (by kernel_rfl) hl))))) 2 rfl) rfl (T.ev 0 rfl) rfl)) ?_; clear T ac; intro ac T
      refine g_q (T := T) (i := 13) rfl (by kernel_rfl) (by kernel_rfl : (pbits 29 8175).setIfInBounds 13 true = pbits 29 16367) (si_and (si_G rfl) si_U) (fun _ _ _ h => h) rfl rfl rfl rfl (fun _ _ _ _ _ => (rn_sub rfl (T.ev 2 rfl) (T.ev 0 rfl) (by omega))) ?_; clear T ac; intro ac T
      refine g_q (T := T) (i := 14) rfl (by kernel_rfl) (by kernel_rfl : (pbits 29 16367).setIfInBounds 14 true = pbits 29 32751) (si_and (si_G rfl) si_U) (fun _ _ _ h => h) rfl rfl rfl rfl (fun _ _ _ _ _ => (rn_sub rfl (T.ev 0 rfl) evc (by omega))) ?_; clear T ac; intro ac T
      refine g_q (v := (.pointer (some ⟨g3, 0, none⟩))) (T := T) (i := 15) rfl (by kernel_rfl) (by kernel_rfl : (pbits 29 32751).setIfInBounds 15 true = pbits 29 65519) (si_and (si_G rfl) si_U) (fun _ _ _ h => h) rfl rfl rfl rfl (fun _ _ _ _ _ => (rn_fieldAddr (off := 0) rfl (T.ev 15 rfl) (fun _ _ _ => by kernel_rfl))) ?_; clear T ac; intro ac T
      refine g_q (v := (.pointer (some ⟨g3, 0, none⟩))) (T := T) (i := 16) rfl (by kernel_rfl) (by kernel_rfl : (pbits 29 65519).setIfInBounds 16 true = pbits 29 131055) (si_and (si_G rfl) si_U) (fun _ _ _ h => h) rfl rfl rfl rfl (fun _ _ _ _ _ => (rn_fieldAddr (off := 0) rfl (T.ev 0 rfl) (fun _ _ _ => by kernel_rfl))) ?_; clear T ac; intro ac T
      refine g_q (v := (.pointer (some ⟨g3, 1, none⟩))) (T := T) (i := 17) rfl (by kernel_rfl) (by kernel_rfl : (pbits 29 131055).setIfInBounds 17 true = pbits 29 262127) (si_and (si_G rfl) si_U) (fun _ _ _ h => h) rfl rfl rfl rfl (fun _ _ _ _ _ => (rn_fieldAddr (off := 1) rfl (T.ev 0 rfl) (fun _ _ _ => by kernel_rfl))) ?_; clear T ac; intro ac T
      refine g_q (T := T) (i := 18) rfl (by kernel_rfl) (by kernel_rfl : (pbits 29 262127).setIfInBounds 18 true = pbits 29 524271) (si_and (si_G rfl) si_U) (fun _ _ _ h => h) rfl rfl rfl rfl (fun B w' hD hl hS => (rn_one (Mem.nth (show Mem w noEx w' _ from ((MA.lft hS) (hD.wait (i := 22) (m := 23) (by kernel_rfl) (hD.wait (i := 21) (m := 22) (by kernel_rfl) (hD.wait (i := 18) (m := 21) (by kernel_rfl) hl))))) 2 rfl) rfl (T.ev 0 rfl) rfl)) ?_; clear T ac; intro ac T
      refine g_q (v := (.pointer (some ⟨g3, 17, none⟩))) (T := T) (i := 19) rfl (by kernel_rfl) (by kernel_rfl : (pbits 29 524271).setIfInBounds 19 true = pbits 29 1048559) (si_and (si_G rfl) si_U) (fun _ _ _ h => h) rfl rfl rfl rfl (fun _ _ _ _ _ => (rn_fieldAddr (off := 17) rfl (T.ev 19 rfl) (fun _ _ _ => by kernel_rfl))) ?_; clear T ac; intro ac T
      refine g_q (T := T) (i := 20) rfl (by kernel_rfl) (by kernel_rfl : (pbits 29 1048559).setIfInBounds 20 true = pbits 29 2097135) (si_and (si_G rfl) si_U) (fun _ _ _ h => h) rfl rfl rfl rfl (fun B w' hD hl hS => (rn_one (Mem.nth (show Mem w noEx w' _ from ((MA.lft hS) (hD.wait (i := 22) (m := 23) (by kernel_rfl) (hD.wait (i := 21) (m := 22) (by kernel_rfl) (hD.wait (i := 20) (m := 21) (by kernel_rfl) hl))))) 2 rfl) rfl (T.ev 0 rfl) rfl)) ?_; clear T ac; intro ac T
      refine g_q (T := T) (i := 21) rfl (by kernel_rfl) (by kernel_rfl : (pbits 29 2097135).setIfInBounds 21 true = pbits 29 4194287) (si_and (si_G rfl) si_U) (fun _ _ _ h => h) rfl rfl rfl rfl (fun _ _ _ _ _ => (rn_add rfl (T.ev 2 rfl) (T.ev 0 rfl) (by omega))) ?_; clear T ac; intro ac T
      refine g_q (T := T) (i := 22) rfl (by kernel_rfl) (by kernel_rfl : (pbits 29 4194287).setIfInBounds 22 true = pbits 29 8388591) (si_and (si_G rfl) si_U) (fun _ _ _ h => h) rfl rfl rfl rfl (fun _ _ _ _ _ => (rn_add rfl (T.ev 0 rfl) evc (by omega))) ?_; clear T ac; intro ac T
      refine g_q (T := T) (i := 24) rfl (by kernel_rfl) (by kernel_rfl : (pbits 29 8388591).setIfInBounds 24 true = pbits 29 25165807) (si_and (si_G rfl) si_U) (fun _ _ _ h => h) rfl rfl rfl rfl (fun _ _ _ _ _ => (rn_move rfl (T.ev 26 rfl))) ?_; clear T ac; intro ac T
      refine g_q (T := T) (i := 25) rfl (by kernel_rfl) (by kernel_rfl : (pbits 29 25165807).setIfInBounds 25 true = pbits 29 58720239) (si_and (si_G rfl) si_U) (fun _ _ _ h => h) rfl rfl rfl rfl (fun _ _ _ _ _ => (rn_move rfl (T.ev 27 rfl))) ?_; clear T ac; intro ac T
      refine g_m2 (i := 4) (j := 23) (by kernel_rfl) ?_ ?_
      · refine g_i rfl (by kernel_rfl : (pbits 29 58720239).setIfInBounds 4 true = pbits 29 58720255) rfl ?_; intro K hK
        refine ow_bs (e := 30) [.int .i64 j.p0, .int .i64 j.p1, .int .i64 j.t0, .int .i64 j.t1, .int .i64 j.r0, .int .i64 j.r1, .int .i64 j.u0, .int .i64 j.u1, .int .i64 j.d0, .int .i64 j.d1, .int .i64 j.a0, .int .i64 j.a1, .int .i64 j.b0, .int .i64 j.b1, .int .i64 j.le, .slice A j.sh.length c, .int .i64 j.wi, .int .i64 j.me, .int .i64 ju3.p0, .int .i64 ju3.p1, .int .i64 ju3.t0, .int .i64 ju3.t1, .int .i64 ju3.r0, .int .i64 ju3.r1, .int .i64 ju3.u0, .int .i64 ju3.u1, .int .i64 ju3.d0, .int .i64 ju3.d1, .int .i64 ju3.a0, .int .i64 ju3.a1, .int .i64 ju3.b0, .int .i64 ju3.b1, .int .i64 ju3.le, .slice Au3 ju3.sh.length cu3, .int .i64 ju3.wi, .int .i64 ju3.me, .int .i64 ju3.p0, .int .i64 ju3.p1, .int .i64 ju3.t0, .int .i64 ju3.t1, .int .i64 ju3.r0, .int .i64 ju3.r1, .int .i64 ju3.u0, .int .i64 ju3.u1, .int .i64 ju3.d0, .int .i64 ju3.d1, .int .i64 ju3.a0, .int .i64 ju3.a1, .int .i64 ju3.b0, .int .i64 ju3.b1, .int .i64 ju3.le, .slice (some ⟨ga1, 0, none⟩) ((ju3.more y0 y1).sh.length) cga1, .int .i64 ju3.wi, .int .i64 ju3.me, .int .i64 ju3.p0, .int .i64 ju3.p1, .int .i64 ju3.t0, .int .i64 ju3.t1, .int .i64 ju3.r0, .int .i64 ju3.r1, .int .i64 ju3.u0, .int .i64 ju3.u1, .int .i64 ju3.d0, .int .i64 ju3.d1, .int .i64 ju3.a0, .int .i64 ju3.a1, .int .i64 ju3.b0, .int .i64 ju3.b1, .int .i64 ju3.le, .slice Au3 ju3.sh.length cu3, .int .i64 ju3.wi, .int .i64 ju3.me] M T rfl rfl rfl rfl (.cons (T.ev 23 rfl) (.cons (T.ev 22 rfl) (.cons (T.ev 21 rfl) (.cons (T.ev 20 rfl) .nil)))) (fun _ => by kernel_rfl) ?_; clear M T; intro gr7_4 wc ac M T
        refine sh_out hK _ _ (MA.mk (fun _ => M.mask [false, true, true, true, true, true] rfl) (M.mask [false, true, true, true, false, true] rfl)) ?_; clear hK K
        refine g_w (i := 23) (by kernel_rfl) rfl (by kernel_rfl : (pbits 29 58720255).setIfInBounds 23 true = pbits 29 67108863) rfl ?_; intro K hK
        refine ow_call (first := []) (cap := []) T rfl rfl rfl rfl evf (.cons (T.ev 19 rfl) (.cons (T.ev 11 rfl) (.cons (T.ev 3 rfl) .nil))) Try.func38 rfl rfl ?_
        refine Calls.mono (within_pot _ bpu2 ((ju3.p0 - ju3.me) - 1) ((ju3.p1 + ju3.me) + 1) _ (by omega) (by omega) (by omega) (M.nth 4 rfl) hsu3) ?_
        clear T
        rintro e wc ⟨xur7_23, sur7_23, hxur7_23, hsur7_23, rfl, hgr, hbk⟩
        intro ac T
        replace M := M.callC (cs' := [.int .u64 sur7_23]) (.tail (.tail (.tail (.tail .head)))) hgr hbk
        clear hgr hbk
        refine sh_out hK _ _ (MA.mk (fun h => (no_of (by kernel_rfl) h).elim) (M.mask [false, true, true, true, false, true] rfl)) ?_; clear hK K
        refine g_q (T := T) (i := 27) rfl (by kernel_rfl) (by kernel_rfl : (pbits 29 67108863).setIfInBounds 27 true = pbits 29 201326591) (si_and (si_G rfl) si_U) (fun _ _ _ h => h) rfl rfl rfl rfl (fun _ _ _ _ _ => (rn_assign rfl (T.ev 1 rfl))) ?_; clear T ac; intro ac T
        refine g_w (i := 26) (by kernel_rfl) rfl (by kernel_rfl : (pbits 29 201326591).setIfInBounds 26 true = pbits 29 268435455) rfl ?_; intro K hK
        refine ow_bs (e := 3) [.int .i64 r, .int .i64 xur7_23, .int .i64 r, .int .i64 r] M T rfl rfl rfl rfl (.cons (T.ev 22 rfl) (.cons (T.ev 1 rfl) (.cons (T.ev 4 rfl) (.cons (T.ev 3 rfl) .nil)))) (fun _ => by kernel_rfl) ?_; clear M T; intro gr7_26 wc ac M T
        refine sh_out hK _ _ (MA.mk (fun h => (no_of (by kernel_rfl) h).elim) (M.mask [false, false, true, true, true, false, true] rfl)) ?_; clear hK K
        refine g_q (T := T) (i := 28) rfl (by kernel_rfl) (by kernel_rfl : (pbits 29 268435455).setIfInBounds 28 true = pbits 29 536870911) (si_and (si_G rfl) si_U) (fun _ _ _ h => h) rfl rfl rfl rfl (fun _ _ _ _ _ => (rn_assign rfl (T.ev 0 rfl))) ?_; clear T ac; intro ac T
        refine g_done (by kernel_rfl) ?_
        replace T := T.pick [0, 2] rfl
        replace M := M.mask [true, true, true, false, false, false, false] rfl
        exact ⟨xur7_23, sur7_23, hxur7_23, hsur7_23, gr7_26, gr7_4, (T.pick (E' := [(12, .slice (some ⟨gr7_4, 0, none⟩) 4 4), (13, .slice (some ⟨gr7_26, 0, none⟩) 4 4)]) [1, 0] rfl).as (by rfl), M.permT [1, 0, 2] 3 rfl rfl rfl rfl⟩
      · refine g_i rfl (by kernel_rfl : (pbits 29 58720239).setIfInBounds 23 true = pbits 29 67108847) rfl ?_; intro K hK
        refine ow_call (first := []) (cap := []) T rfl rfl rfl rfl evf (.cons (T.ev 18 rfl) (.cons (T.ev 10 rfl) (.cons (T.ev 2 rfl) .nil))) Try.func38 rfl rfl ?_
        refine Calls.mono (within_pot _ bpu2 ((ju3.p0 - ju3.me) - 1) ((ju3.p1 + ju3.me) + 1) _ (by omega) (by omega) (by omega) (M.nth 3 rfl) hsu3) ?_
        clear T
        rintro e wc ⟨xur7_23, sur7_23, hxur7_23, hsur7_23, rfl, hgr, hbk⟩
        intro ac T
        replace M := M.callC (cs' := [.int .u64 sur7_23]) (.tail (.tail (.tail .head))) hgr hbk
        clear hgr hbk
        refine sh_out hK _ _ (MA.mk (fun h => (no_of (by kernel_rfl) h).elim) (M.mask [true, true, true, false, true] rfl)) ?_; clear hK K
        refine g_m2 (i := 4) (j := 26) (by kernel_rfl) ?_ ?_
        · refine g_i rfl (by kernel_rfl : (pbits 29 67108847).setIfInBounds 4 true = pbits 29 67108863) rfl ?_; intro K hK
          refine ow_bs (e := 30) [.int .i64 j.p0, .int .i64 j.p1, .int .i64 j.t0, .int .i64 j.t1, .int .i64 j.r0, .int .i64 j.r1, .int .i64 j.u0, .int .i64 j.u1, .int .i64 j.d0, .int .i64 j.d1, .int .i64 j.a0, .int .i64 j.a1, .int .i64 j.b0, .int .i64 j.b1, .int .i64 j.le, .slice A j.sh.length c, .int .i64 j.wi, .int .i64 j.me, .int .i64 ju3.p0, .int .i64 ju3.p1, .int .i64 ju3.t0, .int .i64 ju3.t1, .int .i64 ju3.r0, .int .i64 ju3.r1, .int .i64 ju3.u0, .int .i64 ju3.u1, .int .i64 ju3.d0, .int .i64 ju3.d1, .int .i64 ju3.a0, .int .i64 ju3.a1, .int .i64 ju3.b0, .int .i64 ju3.b1, .int .i64 ju3.le, .slice Au3 ju3.sh.length cu3, .int .i64 ju3.wi, .int .i64 ju3.me, .int .i64 ju3.p0, .int .i64 ju3.p1, .int .i64 ju3.t0, .int .i64 ju3.t1, .int .i64 ju3.r0, .int .i64 ju3.r1, .int .i64 ju3.u0, .int .i64 ju3.u1, .int .i64 ju3.d0, .int .i64 ju3.d1, .int .i64 ju3.a0, .int .i64 ju3.a1, .int .i64 ju3.b0, .int .i64 ju3.b1, .int .i64 ju3.le, .slice (some ⟨ga1, 0, none⟩) ((ju3.more y0 y1).sh.length) cga1, .int .i64 ju3.wi, .int .i64 ju3.me, .int .i64 ju3.p0, .int .i64 ju3.p1, .int .i64 ju3.t0, .int .i64 ju3.t1, .int .i64 ju3.r0, .int .i64 ju3.r1, .int .i64 ju3.u0, .int .i64 ju3.u1, .int .i64 ju3.d0, .int .i64 ju3.d1, .int .i64 ju3.a0, .int .i64 ju3.a1, .int .i64 ju3.b0, .int .i64 ju3.b1, .int .i64 ju3.le, .slice Au3 ju3.sh.length cu3, .int .i64 ju3.wi, .int .i64 ju3.me] M T rfl rfl rfl rfl (.cons (T.ev 24 rfl) (.cons (T.ev 23 rfl) (.cons (T.ev 22 rfl) (.cons (T.ev 21 rfl) .nil)))) (fun _ => by kernel_rfl) ?_; clear M T; intro gr7_4 wc ac M T
          refine sh_out hK _ _ (MA.mk (fun h => (no_of (by kernel_rfl) h).elim) (M.mask [false, true, true, true, false, true] rfl)) ?_; clear hK K
          refine g_q (T := T) (i := 27) rfl (by kernel_rfl) (by kernel_rfl : (pbits 29 67108863).setIfInBounds 27 true = pbits 29 201326591) (si_and (si_G rfl) si_U) (fun _ _ _ h => h) rfl rfl rfl rfl (fun _ _ _ _ _ => (rn_assign rfl (T.ev 0 rfl))) ?_; clear T ac; intro ac T
          refine g_w (i := 26) (by kernel_rfl) rfl (by kernel_rfl : (pbits 29 201326591).setIfInBounds 26 true = pbits 29 268435455) rfl ?_; intro K hK
          refine ow_bs (e := 3) [.int .i64 r, .int .i64 xur7_23, .int .i64 r, .int .i64 r] M T rfl rfl rfl rfl (.cons (T.ev 22 rfl) (.cons (T.ev 2 rfl) (.cons (T.ev 4 rfl) (.cons (T.ev 3 rfl) .nil)))) (fun _ => by kernel_rfl) ?_; clear M T; intro gr7_26 wc ac M T
          refine sh_out hK _ _ (MA.mk (fun h => (no_of (by kernel_rfl) h).elim) (M.mask [false, false, true, true, true, false, true] rfl)) ?_; clear hK K
          refine g_q (T := T) (i := 28) rfl (by kernel_rfl) (by kernel_rfl : (pbits 29 268435455).setIfInBounds 28 true = pbits 29 536870911) (si_and (si_G rfl) si_U) (fun _ _ _ h => h) rfl rfl rfl rfl (fun _ _ _ _ _ => (rn_assign rfl (T.ev 0 rfl))) ?_; clear T ac; intro ac T
          refine g_done (by kernel_rfl) ?_
          replace T := T.pick [0, 2] rfl
          replace M := M.mask [true, true, true, false, false, false, false] rfl
          exact ⟨xur7_23, sur7_23, hxur7_23, hsur7_23, gr7_26, gr7_4, (T.pick (E' := [(12, .slice (some ⟨gr7_4, 0, none⟩) 4 4), (13, .slice (some ⟨gr7_26, 0, none⟩) 4 4)]) [1, 0] rfl).as (by rfl), M.permT [1, 0, 2] 3 rfl rfl rfl rfl⟩
        · refine g_i rfl (by kernel_rfl : (pbits 29 67108847).setIfInBounds 26 true = pbits 29 134217711) rfl ?_; intro K hK
          refine ow_bs (e := 3) [.int .i64 r, .int .i64 xur7_23, .int .i64 r, .int .i64 r] M T rfl rfl rfl rfl (.cons (T.ev 20 rfl) (.cons (T.ev 0 rfl) (.cons (T.ev 2 rfl) (.cons (T.ev 1 rfl) .nil)))) (fun _ => by kernel_rfl) ?_; clear M T; intro gr7_26 wc ac M T
          refine sh_out hK _ _ (MA.mk (fun h => (no_of (by kernel_rfl) h).elim) (M.mask [false, true, true, true, false, true] rfl)) ?_; clear hK K
          refine g_w (i := 4) (by kernel_rfl) rfl (by kernel_rfl : (pbits 29 134217711).setIfInBounds 4 true = pbits 29 134217727) rfl ?_; intro K hK
          refine ow_bs (e := 30) [.int .i64 j.p0, .int .i64 j.p1, .int .i64 j.t0, .int .i64 j.t1, .int .i64 j.r0, .int .i64 j.r1, .int .i64 j.u0, .int .i64 j.u1, .int .i64 j.d0, .int .i64 j.d1, .int .i64 j.a0, .int .i64 j.a1, .int .i64 j.b0, .int .i64 j.b1, .int .i64 j.le, .slice A j.sh.length c, .int .i64 j.wi, .int .i64 j.me, .int .i64 ju3.p0, .int .i64 ju3.p1, .int .i64 ju3.t0, .int .i64 ju3.t1, .int .i64 ju3.r0, .int .i64 ju3.r1, .int .i64 ju3.u0, .int .i64 ju3.u1, .int .i64 ju3.d0, .int .i64 ju3.d1, .int .i64 ju3.a0, .int .i64 ju3.a1, .int .i64 ju3.b0, .int .i64 ju3.b1, .int .i64 ju3.le, .slice Au3 ju3.sh.length cu3, .int .i64 ju3.wi, .int .i64 ju3.me, .int .i64 ju3.p0, .int .i64 ju3.p1, .int .i64 ju3.t0, .int .i64 ju3.t1, .int .i64 ju3.r0, .int .i64 ju3.r1, .int .i64 ju3.u0, .int .i64 ju3.u1, .int .i64 ju3.d0, .int .i64 ju3.d1, .int .i64 ju3.a0, .int .i64 ju3.a1, .int .i64 ju3.b0, .int .i64 ju3.b1, .int .i64 ju3.le, .slice (some ⟨ga1, 0, none⟩) ((ju3.more y0 y1).sh.length) cga1, .int .i64 ju3.wi, .int .i64 ju3.me, .int .i64 ju3.p0, .int .i64 ju3.p1, .int .i64 ju3.t0, .int .i64 ju3.t1, .int .i64 ju3.r0, .int .i64 ju3.r1, .int .i64 ju3.u0, .int .i64 ju3.u1, .int .i64 ju3.d0, .int .i64 ju3.d1, .int .i64 ju3.a0, .int .i64 ju3.a1, .int .i64 ju3.b0, .int .i64 ju3.b1, .int .i64 ju3.le, .slice Au3 ju3.sh.length cu3, .int .i64 ju3.wi, .int .i64 ju3.me] M T rfl rfl rfl rfl (.cons (T.ev 25 rfl) (.cons (T.ev 24 rfl) (.cons (T.ev 23 rfl) (.cons (T.ev 22 rfl) .nil)))) (fun _ => by kernel_rfl) ?_; clear M T; intro gr7_4 wc ac M T
          refine sh_out hK _ _ (MA.mk (fun h => (no_of (by kernel_rfl) h).elim) (M.mask [false, false, true, true, true, false, true] rfl)) ?_; clear hK K
          refine g_q (T := T) (i := 27) rfl (by kernel_rfl) (by kernel_rfl : (pbits 29 134217727).setIfInBounds 27 true = pbits 29 268435455) (si_and (si_G rfl) si_U) (fun _ _ _ h => h) rfl rfl rfl rfl (fun _ _ _ _ _ => (rn_assign rfl (T.ev 0 rfl))) ?_; clear T ac; intro ac T
          refine g_q (T := T) (i := 28) rfl (by kernel_rfl) (by kernel_rfl : (pbits 29 268435455).setIfInBounds 28 true = pbits 29 536870911) (si_and (si_G rfl) si_U) (fun _ _ _ h => h) rfl rfl rfl rfl (fun _ _ _ _ _ => (rn_assign rfl (T.ev 2 rfl))) ?_; clear T ac; intro ac T
          refine g_done (by kernel_rfl) ?_
          replace T := T.pick [0, 1] rfl
          replace M := M.mask [true, true, true, false, false, false, false] rfl
          exact ⟨xur7_23, sur7_23, hxur7_23, hsur7_23, gr7_26, gr7_4, (T.pick (E' := [(12, .slice (some ⟨gr7_4, 0, none⟩) 4 4), (13, .slice (some ⟨gr7_26, 0, none⟩) 4 4)]) [1, 0] rfl).as (by rfl), M.mask [true, true, true] rfl⟩
    · clear T M
      rintro ac wc ⟨xur7_23, sur7_23, hxur7_23, hsur7_23, gr7_26, gr7_4, T, M⟩
      refine wp_seq ?_
      refine wp_seq ?_
      refine wp_region_lit ?_
      refine l_q T rfl rfl rfl rfl (rn_assign rfl evc) ?_; clear T ac; intro ac T
      refine wpList_nil ?_
      refine nm_then ?_
      refine wp_block ?_
      refine wp_loop_rounds 5 ?_
      refine rounds_S ?_
      refine wp_seq ?_
      refine wp_seq ?_
      refine wp_region_lit ?_
      refine l_q T rfl rfl rfl rfl (rn_move rfl (T.ev 0 rfl)) ?_; clear T ac; intro ac T
      refine l_q T rfl rfl rfl rfl (rn_move rfl (T.ev 2 rfl)) ?_; clear T ac; intro ac T
      refine l_q (v := (.int .i64 4)) T rfl rfl rfl rfl (rn_lenS rfl Try.underlying36 (T.ev 0 rfl)) ?_; clear T ac; intro ac T
      refine l_q (v := (.bool true)) T rfl rfl rfl rfl (rn_neqof (rn_lss rfl (T.ev 2 rfl) (T.ev 0 rfl)) (by simp)) ?_; clear T ac; intro ac T
      refine wpList_nil ?_
      replace T := T.pick [0, 4, 5, 6] rfl
      refine nm_then ?_
      refine wp_cond_true (T.ev 0 rfl) ?_
      refine wp_skip ?_
      refine nm_then ?_
      refine wp_seq ?_
      refine wp_block ?_
      refine wp_seq ?_
      refine wp_region_lit ?_
      refine l_q T rfl rfl rfl rfl (rn_move rfl (T.ev 2 rfl)) ?_; clear T ac; intro ac T
      refine l_q T rfl rfl rfl rfl (rn_move rfl (T.ev 2 rfl)) ?_; clear T ac; intro ac T
      refine l_q (v := (.pointer (some ⟨gr7_4, 0, none⟩))) T rfl rfl rfl rfl (rn_indexAddr (size := 18) 0 rfl (T.ev 1 rfl) (T.ev 0 rfl) ⟨_, Try.underlying36, by kernel_rfl⟩ rfl (by decide) rfl) ?_; clear T ac; intro ac T
      refine l_q T rfl rfl rfl rfl (rn_rowO (Mem.nth M 0 rfl) rfl (T.ev 0 rfl) rfl) ?_; clear T ac; intro ac T
      refine l_w rfl ?_; intro K hK
      refine ow_call (first := []) (cap := []) T rfl rfl rfl rfl evf (.cons (T.ev 0 rfl) .nil) Try.func18 rfl rfl ?_
      refine Calls.mono (copyJob_own j _ _ _ (SJ.rd M (List.nil_sublist _)) (by first | omega | (have := few_more hfewu3 y0 y1; omega))) ?_
      clear T
      rintro e wc ⟨Au5, cu5, Iu5, rfl, hsnu5, N⟩
      intro ac T
      obtain ⟨bu5, ou5, Su5⟩ := hsnu5.sp (w := w) (ex := noEx) (rc_length _)
      replace M := (M.join N).swapI
      replace M := M.mask [true, true, true] rfl
      clear N
      refine sh_out hK _ _ ?_; clear hK K
      refine l_w rfl ?_; intro K hK
      refine ow_al M T rfl rfl rfl rfl ?_; clear M T; intro g6 wc ac M T
      refine sh_out hK _ _ ?_; clear hK K
      refine l_w rfl ?_; intro K hK
      refine ow_stO M T rfl rfl (T.ev 0 rfl) (T.ev 1 rfl) rfl .head rfl (by simp) rfl (by kernel_rfl) ?_; clear M T; intro wc ac M T
      refine sh_out hK _ _ ?_; clear hK K
      refine wpList_nil ?_
      replace T := T.pick [0, 7, 8, 9] rfl
      refine nm_then ?_
      refine wp_seq ?_
      refine wp_region_lit ?_
      refine l_q T rfl rfl rfl rfl (rn_rowO (Mem.nth M 0 rfl) rfl (T.ev 0 rfl) rfl) ?_; clear T ac; intro ac T
      refine l_w rfl ?_; intro K hK
      refine ow_call (first := []) (cap := []) T rfl rfl rfl rfl evf (.cons (T.ev 0 rfl) .nil) Try.func33 rfl rfl ?_
      refine Calls.mono (Window_any j _ _ _ (Su5.rd M (.cons _ (.cons _ (.cons _ (.cons _ (List.sublist_append_right _ _)))))) (by first | omega | (have := few_more hfewu3 y0 y1; omega))) ?_
      clear T
      rintro e wc ⟨rfl, hb⟩
      intro ac T
      replace M := M.call hb; clear hb
      refine sh_out hK _ _ ?_; clear hK K
      refine l_q T rfl rfl rfl rfl (rn_move rfl (T.ev 0 rfl)) ?_; clear T ac; intro ac T
      refine l_q T rfl rfl rfl rfl (rn_extract rfl (T.ev 0 rfl) rfl) ?_; clear T ac; intro ac T
      refine l_q T rfl rfl rfl rfl (rn_extract rfl (T.ev 1 rfl) rfl) ?_; clear T ac; intro ac T
      refine l_w rfl ?_; intro K hK
      refine ow_al M T rfl rfl rfl rfl ?_; clear M T; intro g7 wc ac M T
      refine sh_out hK _ _ ?_; clear hK K
      refine l_w rfl ?_; intro K hK
      refine ow_stO M T rfl rfl (T.ev 0 rfl) (T.ev 2 rfl) rfl .head rfl (by simp) rfl (by kernel_rfl) ?_; clear M T; intro wc ac M T
      refine sh_out hK _ _ ?_; clear hK K
      refine l_q T rfl rfl rfl rfl (rn_assign rfl (T.ev 1 rfl)) ?_; clear T ac; intro ac T
      refine wpList_nil ?_
      replace T := T.pick [0, 1, 7, 8, 9, 10] rfl
      refine nm_then ?_
      refine wp_seq ?_
      refine wp_region_lit ?_
      refine l_q T rfl rfl rfl rfl (rn_move rfl (T.ev 4 rfl)) ?_; clear T ac; intro ac T
      refine l_q T rfl rfl rfl rfl (rn_move rfl (T.ev 4 rfl)) ?_; clear T ac; intro ac T
      refine l_q (v := (.pointer (some ⟨gr7_4, 0, none⟩))) T rfl rfl rfl rfl (rn_indexAddr (size := 18) 0 rfl (T.ev 1 rfl) (T.ev 0 rfl) ⟨_, Try.underlying36, by kernel_rfl⟩ rfl (by decide) rfl) ?_; clear T ac; intro ac T
      refine l_q T rfl rfl rfl rfl (rn_rowO (Mem.nth M 2 rfl) rfl (T.ev 0 rfl) rfl) ?_; clear T ac; intro ac T
      refine l_w rfl ?_; intro K hK
      refine ow_call (first := []) (cap := []) T rfl rfl rfl rfl evf (.cons (T.ev 0 rfl) .nil) Try.func45 rfl rfl ?_
      refine Calls.mono (rWindow_J j _ _ _ (SJ.rd M (List.nil_sublist _)) (by first | omega | (have := few_more hfewu3 y0 y1; omega))) ?_
      clear T
      rintro e wc ⟨rfl, hb⟩
      intro ac T
      replace M := M.call hb; clear hb
      refine sh_out hK _ _ ?_; clear hK K
      refine l_q T rfl rfl rfl rfl (rn_move rfl (T.ev 0 rfl)) ?_; clear T ac; intro ac T
      refine l_q T rfl rfl rfl rfl (rn_extract rfl (T.ev 0 rfl) rfl) ?_; clear T ac; intro ac T
      refine l_q T rfl rfl rfl rfl (rn_extract rfl (T.ev 1 rfl) rfl) ?_; clear T ac; intro ac T
      refine l_w rfl ?_; intro K hK
      refine ow_al M T rfl rfl rfl rfl ?_; clear M T; intro g8 wc ac M T
      refine sh_out hK _ _ ?_; clear hK K
      refine l_w rfl ?_; intro K hK
      refine ow_stO M T rfl rfl (T.ev 0 rfl) (T.ev 2 rfl) rfl .head rfl (by simp) rfl (by kernel_rfl) ?_; clear M T; intro wc ac M T
      refine sh_out hK _ _ ?_; clear hK K
      refine l_q T rfl rfl rfl rfl (rn_assign rfl (T.ev 1 rfl)) ?_; clear T ac; intro ac T
      refine wpList_nil ?_
      replace T := T.pick [0, 1, 10, 11, 12, 13, 14, 15] rfl
      refine nm_then ?_
      refine wp_seq ?_
      refine wp_region_lit ?_
      refine l_q T rfl rfl rfl rfl (rn_rowO (Mem.nth M 2 rfl) rfl (T.ev 4 rfl) rfl) ?_; clear T ac; intro ac T
      refine l_w rfl ?_; intro K hK
      refine ow_call (first := []) (cap := []) T rfl rfl rfl rfl evf (.cons (T.ev 0 rfl) .nil) Try.func46 rfl rfl ?_
      refine Calls.mono (Passes_any j _ _ _ (Su5.rd M (.cons _ (.cons _ (.cons _ (.cons _ (.cons _ (.cons _ (List.sublist_append_right _ _)))))))) (by first | omega | (have := few_more hfewu3 y0 y1; omega))) ?_
      clear T
      rintro e wc ⟨rfl, hb⟩
      intro ac T
      replace M := M.call hb; clear hb
      refine sh_out hK _ _ ?_; clear hK K
      refine l_q T rfl rfl rfl rfl (rn_move rfl (T.ev 0 rfl)) ?_; clear T ac; intro ac T
      refine l_q T rfl rfl rfl rfl (rn_extract rfl (T.ev 0 rfl) rfl) ?_; clear T ac; intro ac T
      refine l_q T rfl rfl rfl rfl (rn_extract rfl (T.ev 1 rfl) rfl) ?_; clear T ac; intro ac T
      refine l_q T rfl rfl rfl rfl (rn_assign rfl (T.ev 1 rfl)) ?_; clear T ac; intro ac T
      refine l_q T rfl rfl rfl rfl (rn_assign rfl (T.ev 1 rfl)) ?_; clear T ac; intro ac T
      refine wpList_nil ?_
      replace T := T.pick [0, 1, 7, 8, 9, 10, 11, 12, 13, 14] rfl
      refine nm_then ?_
      refine wp_seq ?_
      refine wp_region_lit ?_
      refine l_q T rfl rfl rfl rfl (rn_move rfl (T.ev 8 rfl)) ?_; clear T ac; intro ac T
      refine l_q T rfl rfl rfl rfl (rn_move rfl (T.ev 8 rfl)) ?_; clear T ac; intro ac T
      refine l_q (v := (.pointer (some ⟨gr7_4, 0, none⟩))) T rfl rfl rfl rfl (rn_indexAddr (size := 18) 0 rfl (T.ev 1 rfl) (T.ev 0 rfl) ⟨_, Try.underlying36, by kernel_rfl⟩ rfl (by decide) rfl) ?_; clear T ac; intro ac T
      refine l_q T rfl rfl rfl rfl (rn_rowO (Mem.nth M 3 rfl) rfl (T.ev 0 rfl) rfl) ?_; clear T ac; intro ac T
      refine l_w rfl ?_; intro K hK
      refine ow_call (first := []) (cap := []) T rfl rfl rfl rfl evf (.cons (T.ev 0 rfl) .nil) Try.func47 rfl rfl ?_
      refine Calls.mono (rPasses_J j _ _ _ (SJ.rd M (List.nil_sublist _)) (by first | omega | (have := few_more hfewu3 y0 y1; omega))) ?_
      clear T
      rintro e wc ⟨rfl, hb⟩
      intro ac T
      replace M := M.call hb; clear hb
      refine sh_out hK _ _ ?_; clear hK K
      refine l_q T rfl rfl rfl rfl (rn_move rfl (T.ev 0 rfl)) ?_; clear T ac; intro ac T
      refine l_q T rfl rfl rfl rfl (rn_extract rfl (T.ev 0 rfl) rfl) ?_; clear T ac; intro ac T
      refine l_q T rfl rfl rfl rfl (rn_extract rfl (T.ev 1 rfl) rfl) ?_; clear T ac; intro ac T
      refine l_q T rfl rfl rfl rfl (rn_assign rfl (T.ev 1 rfl)) ?_; clear T ac; intro ac T
      refine l_q T rfl rfl rfl rfl (rn_assign rfl (T.ev 1 rfl)) ?_; clear T ac; intro ac T
      refine wpList_nil ?_
      replace T := T.pick [0, 1, 10, 11, 12, 13, 14, 15, 16, 17, 18, 19] rfl
      refine nm_then ?_
      refine cut_seq (fun ac wc => ∃ (gr16_9 : Nat), Tm ac 178 [(12, .slice (some ⟨gr7_4, 0, none⟩) 4 4), (13, .slice (some ⟨gr7_26, 0, none⟩) 4 4), (14, .int .i64 0), (15, .pointer (some ⟨g6, 0, none⟩)), (16, .pointer (some ⟨g7, 0, none⟩)), (17, .int .i64 ((windowJ j).2)), (18, .pointer (some ⟨g8, 0, none⟩)), (19, .int .i64 ((windowJ j).2)), (20, .int .i64 ((passesT j).1)), (21, .int .i64 ((passesT j).2)), (22, .int .i64 ((passesT j).1)), (23, .int .i64 ((passesT j).2)), (24, .pointer (some ⟨gr16_9, 0, none⟩)), (25, .int .i64 ((hearT j r).2))] ∧ Mem w noEx wc ((gr16_9, .cells [.int .i64 ((hearT j r).1.1), .int .i64 ((hearT j r).1.2)]) :: (g8, .cells [.int .i64 ((windowJ j).1.1), .int .i64 ((windowJ j).1.2)]) :: (g7, .cells [.int .i64 ((windowJ j).1.1), .int .i64 ((windowJ j).1.2)]) :: (g6, .cells (jobL j Au5 cu5)) :: (gr7_4, .cells (jobL j A c ++ jobL ju3 Au3 cu3 ++ [.int .i64 ju3.p0, .int .i64 ju3.p1, .int .i64 ju3.t0, .int .i64 ju3.t1, .int .i64 ju3.r0, .int .i64 ju3.r1, .int .i64 ju3.u0, .int .i64 ju3.u1, .int .i64 ju3.d0, .int .i64 ju3.d1, .int .i64 ju3.a0, .int .i64 ju3.a1, .int .i64 ju3.b0, .int .i64 ju3.b1, .int .i64 ju3.le, .slice (some ⟨ga1, 0, none⟩) ((ju3.more y0 y1).sh.length) cga1, .int .i64 ju3.wi, .int .i64 ju3.me] ++ jobL ju3 Au3 cu3)) :: (gr7_26, .cells [.int .i64 r, .int .i64 xur7_23, .int .i64 r, .int .i64 r]) :: (ga1, .row 23 2 (ju3.more y0 y1).sh.length (rc (ju3.more y0 y1).sh) cga1) :: (Iu3 ++ Iu5))) ?_ ?_
      · refine g_start2 M (M.mask [true, true, true, true, true, true] rfl) 12 (by kernel_rfl) rfl (by kernel_rfl) ?_
        clear M; intro wc M
        refine g_q (T := T) (i := 0) rfl (by kernel_rfl) (by kernel_rfl : (pbits 12 0).setIfInBounds 0 true = pbits 12 1) si_U (fun _ _ _ h => h) rfl rfl rfl rfl (fun B w' hD hl hS => (rn_rowO (Mem.nth (show Mem w noEx w' _ from hS) 2 rfl) rfl (T.ev 8 rfl) rfl)) ?_; clear T ac; intro ac T
        refine g_q (T := T) (i := 1) rfl (by kernel_rfl) (by kernel_rfl : (pbits 12 1).setIfInBounds 1 true = pbits 12 3) si_U (fun _ _ _ h => h) rfl rfl rfl rfl (fun _ _ _ _ _ => (rn_move rfl (T.ev 12 rfl))) ?_; clear T ac; intro ac T
        refine g_q (T := T) (i := 2) rfl (by kernel_rfl) (by kernel_rfl : (pbits 12 3).setIfInBounds 2 true = pbits 12 7) si_U (fun _ _ _ h => h) rfl rfl rfl rfl (fun _ _ _ _ _ => (rn_move rfl (T.ev 11 rfl))) ?_; clear T ac; intro ac T
        refine g_q (v := (.pointer (some ⟨gr7_26, 0, none⟩))) (T := T) (i := 3) rfl (by kernel_rfl) (by kernel_rfl : (pbits 12 7).setIfInBounds 3 true = pbits 12 15) si_U (fun _ _ _ h => h) rfl rfl rfl rfl (fun _ _ _ _ _ => (rn_indexAddr (size := 1) 0 rfl (T.ev 1 rfl) (T.ev 0 rfl) ⟨_, Try.underlying31, by kernel_rfl⟩ rfl (by decide) rfl)) ?_; clear T ac; intro ac T
        refine g_q (T := T) (i := 4) rfl (by kernel_rfl) (by kernel_rfl : (pbits 12 15).setIfInBounds 4 true = pbits 12 31) si_U (fun _ _ _ h => h) rfl rfl rfl rfl (fun B w' hD hl hS => (rn_one (Mem.nth (show Mem w noEx w' _ from hS) 4 rfl) rfl (T.ev 0 rfl) rfl)) ?_; clear T ac; intro ac T
        refine g_m2 (i := 5) (j := 9) (by kernel_rfl) ?_ ?_
        · refine g_i rfl (by kernel_rfl : (pbits 12 31).setIfInBounds 5 true = pbits 12 63) rfl ?_; intro K hK
          refine ow_call (first := []) (cap := []) T rfl rfl rfl rfl evf (.cons (T.ev 4 rfl) (.cons (T.ev 0 rfl) .nil)) Try.func37 rfl rfl ?_
          refine Calls.mono (Hear_any j _ _ r _ (Su5.rd M (.cons _ (.cons _ (.cons _ (.cons _ (.cons _ (.cons _ (List.sublist_append_right _ _)))))))) (by first | omega | (have := few_more hfewu3 y0 y1; omega))) ?_
          clear T
          rintro e wc ⟨rfl, hb⟩
          intro ac T
          replace M := M.call hb; clear hb
          refine sh_out hK _ _ (M.mask [true, true, true, true, true, true] rfl) ?_; clear hK K
          refine g_q (T := T) (i := 6) rfl (by kernel_rfl) (by kernel_rfl : (pbits 12 63).setIfInBounds 6 true = pbits 12 127) si_U (fun _ _ _ h => h) rfl rfl rfl rfl (fun _ _ _ _ _ => (rn_move rfl (T.ev 0 rfl))) ?_; clear T ac; intro ac T
          refine g_q (T := T) (i := 7) rfl (by kernel_rfl) (by kernel_rfl : (pbits 12 127).setIfInBounds 7 true = pbits 12 255) si_U (fun _ _ _ h => h) rfl rfl rfl rfl (fun _ _ _ _ _ => (rn_extract rfl (T.ev 0 rfl) rfl)) ?_; clear T ac; intro ac T
          refine g_q (T := T) (i := 8) rfl (by kernel_rfl) (by kernel_rfl : (pbits 12 255).setIfInBounds 8 true = pbits 12 511) si_U (fun _ _ _ h => h) rfl rfl rfl rfl (fun _ _ _ _ _ => (rn_extract rfl (T.ev 1 rfl) rfl)) ?_; clear T ac; intro ac T
          refine g_w (i := 9) (by kernel_rfl) rfl (by kernel_rfl : (pbits 12 511).setIfInBounds 9 true = pbits 12 1023) rfl ?_; intro K hK
          refine ow_al M T rfl rfl rfl rfl ?_; clear M T; intro gr16_9 wc ac M T
          refine sh_out hK _ _ (M.mask [false, true, true, true, true, true, true] rfl) ?_; clear hK K
          refine g_w (i := 10) (by kernel_rfl) rfl (by kernel_rfl : (pbits 12 1023).setIfInBounds 10 true = pbits 12 2047) rfl ?_; intro K hK
          refine ow_stO M T rfl rfl (T.ev 0 rfl) (T.ev 2 rfl) rfl .head rfl (by simp) rfl (by kernel_rfl) ?_; clear M T; intro wc ac M T
          refine sh_out hK _ _ (M.mask [false, true, true, true, true, true, true] rfl) ?_; clear hK K
          refine g_q (T := T) (i := 11) rfl (by kernel_rfl) (by kernel_rfl : (pbits 12 2047).setIfInBounds 11 true = pbits 12 4095) si_U (fun _ _ _ h => h) rfl rfl rfl rfl (fun _ _ _ _ _ => (rn_assign rfl (T.ev 1 rfl))) ?_; clear T ac; intro ac T
          refine g_done (by kernel_rfl) ?_
          replace T := T.pick [0, 1, 11, 12, 13, 14, 15, 16, 17, 18, 19, 20, 21, 22] rfl
          exact ⟨gr16_9, (T.pick (E' := [(12, .slice (some ⟨gr7_4, 0, none⟩) 4 4), (13, .slice (some ⟨gr7_26, 0, none⟩) 4 4), (14, .int .i64 0), (15, .pointer (some ⟨g6, 0, none⟩)), (16, .pointer (some ⟨g7, 0, none⟩)), (17, .int .i64 ((windowJ j).2)), (18, .pointer (some ⟨g8, 0, none⟩)), (19, .int .i64 ((windowJ j).2)), (20, .int .i64 ((passesT j).1)), (21, .int .i64 ((passesT j).2)), (22, .int .i64 ((passesT j).1)), (23, .int .i64 ((passesT j).2)), (24, .pointer (some ⟨gr16_9, 0, none⟩)), (25, .int .i64 ((hearT j r).2))]) [12, 13, 11, 10, 9, 8, 7, 6, 5, 4, 3, 2, 1, 0] rfl).as (by rfl), M.mask [true, true, true, true, true, true, true] rfl⟩
        · refine g_i rfl (by kernel_rfl : (pbits 12 31).setIfInBounds 9 true = pbits 12 543) rfl ?_; intro K hK
          refine ow_al M T rfl rfl rfl rfl ?_; clear M T; intro gr16_9 wc ac M T
          refine sh_out hK _ _ (M.mask [false, true, true, true, true, true, true] rfl) ?_; clear hK K
          refine g_w (i := 5) (by kernel_rfl) rfl (by kernel_rfl : (pbits 12 543).setIfInBounds 5 true = pbits 12 575) rfl ?_; intro K hK
          refine ow_call (first := []) (cap := []) T rfl rfl rfl rfl evf (.cons (T.ev 5 rfl) (.cons (T.ev 1 rfl) .nil)) Try.func37 rfl rfl ?_
          refine Calls.mono (Hear_any j _ _ r _ (Su5.rd M (.cons _ (.cons _ (.cons _ (.cons _ (.cons _ (.cons _ (.cons _ (List.sublist_append_right _ _))))))))) (by first | omega | (have := few_more hfewu3 y0 y1; omega))) ?_
          clear T
          rintro e wc ⟨rfl, hb⟩
          intro ac T
          replace M := M.call hb; clear hb
          refine sh_out hK _ _ (M.mask [false, true, true, true, true, true, true] rfl) ?_; clear hK K
          refine g_q (T := T) (i := 6) rfl (by kernel_rfl) (by kernel_rfl : (pbits 12 575).setIfInBounds 6 true = pbits 12 639) si_U (fun _ _ _ h => h) rfl rfl rfl rfl (fun _ _ _ _ _ => (rn_move rfl (T.ev 0 rfl))) ?_; clear T ac; intro ac T
          refine g_q (T := T) (i := 7) rfl (by kernel_rfl) (by kernel_rfl : (pbits 12 639).setIfInBounds 7 true = pbits 12 767) si_U (fun _ _ _ h => h) rfl rfl rfl rfl (fun _ _ _ _ _ => (rn_extract rfl (T.ev 0 rfl) rfl)) ?_; clear T ac; intro ac T
          refine g_q (T := T) (i := 8) rfl (by kernel_rfl) (by kernel_rfl : (pbits 12 767).setIfInBounds 8 true = pbits 12 1023) si_U (fun _ _ _ h => h) rfl rfl rfl rfl (fun _ _ _ _ _ => (rn_extract rfl (T.ev 1 rfl) rfl)) ?_; clear T ac; intro ac T
          refine g_w (i := 10) (by kernel_rfl) rfl (by kernel_rfl : (pbits 12 1023).setIfInBounds 10 true = pbits 12 2047) rfl ?_; intro K hK
          refine ow_stO M T rfl rfl (T.ev 4 rfl) (T.ev 1 rfl) rfl .head rfl (by simp) rfl (by kernel_rfl) ?_; clear M T; intro wc ac M T
          refine sh_out hK _ _ (M.mask [false, true, true, true, true, true, true] rfl) ?_; clear hK K
          refine g_q (T := T) (i := 11) rfl (by kernel_rfl) (by kernel_rfl : (pbits 12 2047).setIfInBounds 11 true = pbits 12 4095) si_U (fun _ _ _ h => h) rfl rfl rfl rfl (fun _ _ _ _ _ => (rn_assign rfl (T.ev 0 rfl))) ?_; clear T ac; intro ac T
          refine g_done (by kernel_rfl) ?_
          replace T := T.pick [0, 5, 11, 12, 13, 14, 15, 16, 17, 18, 19, 20, 21, 22] rfl
          exact ⟨gr16_9, (T.pick (E' := [(12, .slice (some ⟨gr7_4, 0, none⟩) 4 4), (13, .slice (some ⟨gr7_26, 0, none⟩) 4 4), (14, .int .i64 0), (15, .pointer (some ⟨g6, 0, none⟩)), (16, .pointer (some ⟨g7, 0, none⟩)), (17, .int .i64 ((windowJ j).2)), (18, .pointer (some ⟨g8, 0, none⟩)), (19, .int .i64 ((windowJ j).2)), (20, .int .i64 ((passesT j).1)), (21, .int .i64 ((passesT j).2)), (22, .int .i64 ((passesT j).1)), (23, .int .i64 ((passesT j).2)), (24, .pointer (some ⟨gr16_9, 0, none⟩)), (25, .int .i64 ((hearT j r).2))]) [12, 13, 11, 10, 9, 8, 7, 6, 5, 4, 3, 2, 1, 0] rfl).as (by rfl), M.mask [true, true, true, true, true, true, true] rfl⟩
      · clear T M
        rintro ac wc ⟨gr16_9, T, M⟩
        refine cut_seq (fun ac wc => ∃ (gr17_12 : Nat), Tm ac 178 [(12, .slice (some ⟨gr7_4, 0, none⟩) 4 4), (13, .slice (some ⟨gr7_26, 0, none⟩) 4 4), (14, .int .i64 0), (15, .pointer (some ⟨g6, 0, none⟩)), (16, .pointer (some ⟨g7, 0, none⟩)), (17, .int .i64 ((windowJ j).2)), (18, .pointer (some ⟨g8, 0, none⟩)), (19, .int .i64 ((windowJ j).2)), (20, .int .i64 ((passesT j).1)), (21, .int .i64 ((passesT j).2)), (22, .int .i64 ((passesT j).1)), (23, .int .i64 ((passesT j).2)), (24, .pointer (some ⟨gr16_9, 0, none⟩)), (25, .int .i64 ((hearT j r).2)), (26, .pointer (some ⟨gr17_12, 0, none⟩)), (27, .int .i64 ((hearT j r).2))] ∧ Mem w noEx wc ((gr17_12, .cells [.int .i64 ((hearT j r).1.1), .int .i64 ((hearT j r).1.2)]) :: (gr16_9, .cells [.int .i64 ((hearT j r).1.1), .int .i64 ((hearT j r).1.2)]) :: (g8, .cells [.int .i64 ((windowJ j).1.1), .int .i64 ((windowJ j).1.2)]) :: (g7, .cells [.int .i64 ((windowJ j).1.1), .int .i64 ((windowJ j).1.2)]) :: (g6, .cells (jobL j Au5 cu5)) :: (gr7_4, .cells (jobL j A c ++ jobL ju3 Au3 cu3 ++ [.int .i64 ju3.p0, .int .i64 ju3.p1, .int .i64 ju3.t0, .int .i64 ju3.t1, .int .i64 ju3.r0, .int .i64 ju3.r1, .int .i64 ju3.u0, .int .i64 ju3.u1, .int .i64 ju3.d0, .int .i64 ju3.d1, .int .i64 ju3.a0, .int .i64 ju3.a1, .int .i64 ju3.b0, .int .i64 ju3.b1, .int .i64 ju3.le, .slice (some ⟨ga1, 0, none⟩) ((ju3.more y0 y1).sh.length) cga1, .int .i64 ju3.wi, .int .i64 ju3.me] ++ jobL ju3 Au3 cu3)) :: (gr7_26, .cells [.int .i64 r, .int .i64 xur7_23, .int .i64 r, .int .i64 r]) :: (ga1, .row 23 2 (ju3.more y0 y1).sh.length (rc (ju3.more y0 y1).sh) cga1) :: (Iu3 ++ Iu5))) ?_ ?_
        · refine g_start2 M (M.mask [true, true, true, true, true, true, true] rfl) 15 (by kernel_rfl) rfl (by kernel_rfl) ?_
          clear M; intro wc M
          refine g_q (T := T) (i := 0) rfl (by kernel_rfl) (by kernel_rfl : (pbits 15 0).setIfInBounds 0 true = pbits 15 1) si_U (fun _ _ _ h => h) rfl rfl rfl rfl (fun _ _ _ _ _ => (rn_move rfl (T.ev 0 rfl))) ?_; clear T ac; intro ac T
          refine g_q (T := T) (i := 1) rfl (by kernel_rfl) (by kernel_rfl : (pbits 15 1).setIfInBounds 1 true = pbits 15 3) si_U (fun _ _ _ h => h) rfl rfl rfl rfl (fun _ _ _ _ _ => (rn_move rfl (T.ev 3 rfl))) ?_; clear T ac; intro ac T
          refine g_q (v := (.pointer (some ⟨gr7_4, 0, none⟩))) (T := T) (i := 2) rfl (by kernel_rfl) (by kernel_rfl : (pbits 15 3).setIfInBounds 2 true = pbits 15 7) si_U (fun _ _ _ h => h) rfl rfl rfl rfl (fun _ _ _ _ _ => (rn_indexAddr (size := 18) 0 rfl (T.ev 1 rfl) (T.ev 0 rfl) ⟨_, Try.underlying36, by kernel_rfl⟩ rfl (by decide) rfl)) ?_; clear T ac; intro ac T
          refine g_q (T := T) (i := 3) rfl (by kernel_rfl) (by kernel_rfl : (pbits 15 7).setIfInBounds 3 true = pbits 15 15) si_U (fun _ _ _ h => h) rfl rfl rfl rfl (fun B w' hD hl hS => (rn_rowO (Mem.nth (show Mem w noEx w' _ from hS) 4 rfl) rfl (T.ev 0 rfl) rfl)) ?_; clear T ac; intro ac T
          refine g_q (T := T) (i := 4) rfl (by kernel_rfl) (by kernel_rfl : (pbits 15 15).setIfInBounds 4 true = pbits 15 31) si_U (fun _ _ _ h => h) rfl rfl rfl rfl (fun _ _ _ _ _ => (rn_move rfl (T.ev 5 rfl))) ?_; clear T ac; intro ac T
          refine g_q (T := T) (i := 5) rfl (by kernel_rfl) (by kernel_rfl : (pbits 15 31).setIfInBounds 5 true = pbits 15 63) si_U (fun _ _ _ h => h) rfl rfl rfl rfl (fun _ _ _ _ _ => (rn_move rfl (T.ev 7 rfl))) ?_; clear T ac; intro ac T
          refine g_q (v := (.pointer (some ⟨gr7_26, 0, none⟩))) (T := T) (i := 6) rfl (by kernel_rfl) (by kernel_rfl : (pbits 15 63).setIfInBounds 6 true = pbits 15 127) si_U (fun _ _ _ h => h) rfl rfl rfl rfl (fun _ _ _ _ _ => (rn_indexAddr (size := 1) 0 rfl (T.ev 1 rfl) (T.ev 0 rfl) ⟨_, Try.underlying31, by kernel_rfl⟩ rfl (by decide) rfl)) ?_; clear T ac; intro ac T
          refine g_q (T := T) (i := 7) rfl (by kernel_rfl) (by kernel_rfl : (pbits 15 127).setIfInBounds 7 true = pbits 15 255) si_U (fun _ _ _ h => h) rfl rfl rfl rfl (fun B w' hD hl hS => (rn_one (Mem.nth (show Mem w noEx w' _ from hS) 5 rfl) rfl (T.ev 0 rfl) rfl)) ?_; clear T ac; intro ac T
          refine g_m2 (i := 8) (j := 12) (by kernel_rfl) ?_ ?_
          · refine g_i rfl (by kernel_rfl : (pbits 15 255).setIfInBounds 8 true = pbits 15 511) rfl ?_; intro K hK
            refine ow_call (first := []) (cap := []) T rfl rfl rfl rfl evf (.cons (T.ev 4 rfl) (.cons (T.ev 0 rfl) .nil)) Try.func48 rfl rfl ?_
            refine Calls.mono (rHear_J j _ _ r _ (SJ.rd M (List.nil_sublist _)) (by first | omega | (have := few_more hfewu3 y0 y1; omega))) ?_
            clear T
            rintro e wc ⟨rfl, hb⟩
            intro ac T
            replace M := M.call hb; clear hb
            refine sh_out hK _ _ (M.mask [true, true, true, true, true, true, true] rfl) ?_; clear hK K
            refine g_q (T := T) (i := 9) rfl (by kernel_rfl) (by kernel_rfl : (pbits 15 511).setIfInBounds 9 true = pbits 15 1023) si_U (fun _ _ _ h => h) rfl rfl rfl rfl (fun _ _ _ _ _ => (rn_move rfl (T.ev 0 rfl))) ?_; clear T ac; intro ac T
            refine g_q (T := T) (i := 10) rfl (by kernel_rfl) (by kernel_rfl : (pbits 15 1023).setIfInBounds 10 true = pbits 15 2047) si_U (fun _ _ _ h => h) rfl rfl rfl rfl (fun _ _ _ _ _ => (rn_extract rfl (T.ev 0 rfl) rfl)) ?_; clear T ac; intro ac T
            refine g_q (T := T) (i := 11) rfl (by kernel_rfl) (by kernel_rfl : (pbits 15 2047).setIfInBounds 11 true = pbits 15 4095) si_U (fun _ _ _ h => h) rfl rfl rfl rfl (fun _ _ _ _ _ => (rn_extract rfl (T.ev 1 rfl) rfl)) ?_; clear T ac; intro ac T
            refine g_w (i := 12) (by kernel_rfl) rfl (by kernel_rfl : (pbits 15 4095).setIfInBounds 12 true = pbits 15 8191) rfl ?_; intro K hK
            refine ow_al M T rfl rfl rfl rfl ?_; clear M T; intro gr17_12 wc ac M T
            refine sh_out hK _ _ (M.mask [false, true, true, true, true, true, true, true] rfl) ?_; clear hK K
            refine g_w (i := 13) (by kernel_rfl) rfl (by kernel_rfl : (pbits 15 8191).setIfInBounds 13 true = pbits 15 16383) rfl ?_; intro K hK
            refine ow_stO M T rfl rfl (T.ev 0 rfl) (T.ev 2 rfl) rfl .head rfl (by simp) rfl (by kernel_rfl) ?_; clear M T; intro wc ac M T
            refine sh_out hK _ _ (M.mask [false, true, true, true, true, true, true, true] rfl) ?_; clear hK K
            refine g_q (T := T) (i := 14) rfl (by kernel_rfl) (by kernel_rfl : (pbits 15 16383).setIfInBounds 14 true = pbits 15 32767) si_U (fun _ _ _ h => h) rfl rfl rfl rfl (fun _ _ _ _ _ => (rn_assign rfl (T.ev 1 rfl))) ?_; clear T ac; intro ac T
            refine g_done (by kernel_rfl) ?_
            replace T := T.pick [0, 1, 14, 15, 16, 17, 18, 19, 20, 21, 22, 23, 24, 25, 26, 27] rfl
            exact ⟨gr17_12, (T.pick (E' := [(12, .slice (some ⟨gr7_4, 0, none⟩) 4 4), (13, .slice (some ⟨gr7_26, 0, none⟩) 4 4), (14, .int .i64 0), (15, .pointer (some ⟨g6, 0, none⟩)), (16, .pointer (some ⟨g7, 0, none⟩)), (17, .int .i64 ((windowJ j).2)), (18, .pointer (some ⟨g8, 0, none⟩)), (19, .int .i64 ((windowJ j).2)), (20, .int .i64 ((passesT j).1)), (21, .int .i64 ((passesT j).2)), (22, .int .i64 ((passesT j).1)), (23, .int .i64 ((passesT j).2)), (24, .pointer (some ⟨gr16_9, 0, none⟩)), (25, .int .i64 ((hearT j r).2)), (26, .pointer (some ⟨gr17_12, 0, none⟩)), (27, .int .i64 ((hearT j r).2))]) [2, 3, 4, 5, 6, 7, 8, 9, 10, 11, 12, 13, 14, 15, 1, 0] rfl).as (by rfl), M.mask [true, true, true, true, true, true, true, true] rfl⟩
          · refine g_i rfl (by kernel_rfl : (pbits 15 255).setIfInBounds 12 true = pbits 15 4351) rfl ?_; intro K hK
            refine ow_al M T rfl rfl rfl rfl ?_; clear M T; intro gr17_12 wc ac M T
            refine sh_out hK _ _ (M.mask [false, true, true, true, true, true, true, true] rfl) ?_; clear hK K
            refine g_w (i := 8) (by kernel_rfl) rfl (by kernel_rfl : (pbits 15 4351).setIfInBounds 8 true = pbits 15 4607) rfl ?_; intro K hK
            refine ow_call (first := []) (cap := []) T rfl rfl rfl rfl evf (.cons (T.ev 5 rfl) (.cons (T.ev 1 rfl) .nil)) Try.func48 rfl rfl ?_
            refine Calls.mono (rHear_J j _ _ r _ (SJ.rd M (List.nil_sublist _)) (by first | omega | (have := few_more hfewu3 y0 y1; omega))) ?_
            clear T
            rintro e wc ⟨rfl, hb⟩
            intro ac T
            replace M := M.call hb; clear hb
            refine sh_out hK _ _ (M.mask [false, true, true, true, true, true, true, true] rfl) ?_; clear hK K
            refine g_q (T := T) (i := 9) rfl (by kernel_rfl) (by kernel_rfl : (pbits 15 4607).setIfInBounds 9 true = pbits 15 5119) si_U (fun _ _ _ h => h) rfl rfl rfl rfl (fun _ _ _ _ _ => (rn_move rfl (T.ev 0 rfl))) ?_; clear T ac; intro ac T
            refine g_q (T := T) (i := 10) rfl (by kernel_rfl) (by kernel_rfl : (pbits 15 5119).setIfInBounds 10 true = pbits 15 6143) si_U (fun _ _ _ h => h) rfl rfl rfl rfl (fun _ _ _ _ _ => (rn_extract rfl (T.ev 0 rfl) rfl)) ?_; clear T ac; intro ac T
            refine g_q (T := T) (i := 11) rfl (by kernel_rfl) (by kernel_rfl : (pbits 15 6143).setIfInBounds 11 true = pbits 15 8191) si_U (fun _ _ _ h => h) rfl rfl rfl rfl (fun _ _ _ _ _ => (rn_extract rfl (T.ev 1 rfl) rfl)) ?_; clear T ac; intro ac T
            refine g_w (i := 13) (by kernel_rfl) rfl (by kernel_rfl : (pbits 15 8191).setIfInBounds 13 true = pbits 15 16383) rfl ?_; intro K hK
            refine ow_stO M T rfl rfl (T.ev 4 rfl) (T.ev 1 rfl) rfl .head rfl (by simp) rfl (by kernel_rfl) ?_; clear M T; intro wc ac M T
            refine sh_out hK _ _ (M.mask [false, true, true, true, true, true, true, true] rfl) ?_; clear hK K
            refine g_q (T := T) (i := 14) rfl (by kernel_rfl) (by kernel_rfl : (pbits 15 16383).setIfInBounds 14 true = pbits 15 32767) si_U (fun _ _ _ h => h) rfl rfl rfl rfl (fun _ _ _ _ _ => (rn_assign rfl (T.ev 0 rfl))) ?_; clear T ac; intro ac T
            refine g_done (by kernel_rfl) ?_
            replace T := T.pick [0, 5, 14, 15, 16, 17, 18, 19, 20, 21, 22, 23, 24, 25, 26, 27] rfl
            exact ⟨gr17_12, (T.pick (E' := [(12, .slice (some ⟨gr7_4, 0, none⟩) 4 4), (13, .slice (some ⟨gr7_26, 0, none⟩) 4 4), (14, .int .i64 0), (15, .pointer (some ⟨g6, 0, none⟩)), (16, .pointer (some ⟨g7, 0, none⟩)), (17, .int .i64 ((windowJ j).2)), (18, .pointer (some ⟨g8, 0, none⟩)), (19, .int .i64 ((windowJ j).2)), (20, .int .i64 ((passesT j).1)), (21, .int .i64 ((passesT j).2)), (22, .int .i64 ((passesT j).1)), (23, .int .i64 ((passesT j).2)), (24, .pointer (some ⟨gr16_9, 0, none⟩)), (25, .int .i64 ((hearT j r).2)), (26, .pointer (some ⟨gr17_12, 0, none⟩)), (27, .int .i64 ((hearT j r).2))]) [2, 3, 4, 5, 6, 7, 8, 9, 10, 11, 12, 13, 14, 15, 1, 0] rfl).as (by rfl), M.mask [true, true, true, true, true, true, true, true] rfl⟩
        · clear T M
          rintro ac wc ⟨gr17_12, T, M⟩
          refine wp_seq ?_
          refine g_start2 M (M.mask [true, true, true, true, true, true, true, true] rfl) 47 (by kernel_rfl) rfl (by kernel_rfl) ?_
          clear M; intro wc M
          refine g_q (T := T) (i := 0) rfl (by kernel_rfl) (by kernel_rfl : (pbits 47 0).setIfInBounds 0 true = pbits 47 1) si_U (fun _ _ _ h => h) rfl rfl rfl rfl (fun B w' hD hl hS => (rn_rowO (Mem.nth (show Mem w noEx w' _ from hS) 4 rfl) rfl (T.ev 3 rfl) rfl)) ?_; clear T ac; intro ac T
          refine g_q (T := T) (i := 2) rfl (by kernel_rfl) (by kernel_rfl : (pbits 47 1).setIfInBounds 2 true = pbits 47 5) si_U (fun _ _ _ h => h) rfl rfl rfl rfl (fun _ _ _ _ _ => (rn_move rfl (T.ev 1 rfl))) ?_; clear T ac; intro ac T
          refine g_q (T := T) (i := 3) rfl (by kernel_rfl) (by kernel_rfl : (pbits 47 5).setIfInBounds 3 true = pbits 47 13) si_U (fun _ _ _ h => h) rfl rfl rfl rfl (fun _ _ _ _ _ => (rn_move rfl (T.ev 4 rfl))) ?_; clear T ac; intro ac T
          refine g_q (v := (.pointer (some ⟨gr7_4, 0, none⟩))) (T := T) (i := 4) rfl (by kernel_rfl) (by kernel_rfl : (pbits 47 13).setIfInBounds 4 true = pbits 47 29) si_U (fun _ _ _ h => h) rfl rfl rfl rfl (fun _ _ _ _ _ => (rn_indexAddr (size := 18) 0 rfl (T.ev 1 rfl) (T.ev 0 rfl) ⟨_, Try.underlying36, by kernel_rfl⟩ rfl (by decide) rfl)) ?_; clear T ac; intro ac T
          refine g_q (T := T) (i := 5) rfl (by kernel_rfl) (by kernel_rfl : (pbits 47 29).setIfInBounds 5 true = pbits 47 61) si_U (fun _ _ _ h => h) rfl rfl rfl rfl (fun B w' hD hl hS => (rn_rowO (Mem.nth (show Mem w noEx w' _ from hS) 5 rfl) rfl (T.ev 0 rfl) rfl)) ?_; clear T ac; intro ac T
          refine g_w (i := 1) (by kernel_rfl) rfl (by kernel_rfl : (pbits 47 61).setIfInBounds 1 true = pbits 47 63) rfl ?_; intro K hK
          refine ow_call (first := []) (cap := []) T rfl rfl rfl rfl evf (.cons (T.ev 4 rfl) .nil) Try.func49 rfl rfl ?_
          refine Calls.mono (check_any j _ _ _ (Su5.rd M (.cons _ (.cons _ (.cons _ (.cons _ (.cons _ (.cons _ (.cons _ (.cons _ (List.sublist_append_right _ _)))))))))) (by first | omega | (have := few_more hfewu3 y0 y1; omega))) ?_
          clear T
          rintro e wc ⟨rfl, hb⟩
          intro ac T
          replace M := M.call hb; clear hb
          refine sh_out hK _ _ (M.mask [true, true, true, true, true, true, true, true] rfl) ?_; clear hK K
          refine g_addU M ?_
          refine g_w (i := 6) (by kernel_rfl) rfl (by kernel_rfl : (pbits 47 63).setIfInBounds 6 true = pbits 47 127) rfl ?_; intro K hK
          refine ow_call (first := []) (cap := []) T rfl rfl rfl rfl evf (.cons (T.ev 1 rfl) .nil) Try.func50 rfl rfl ?_
          refine Calls.mono (rCheck_any j _ _ _ (SJ.rd M (List.nil_sublist _)) (by first | omega | (have := few_more hfewu3 y0 y1; omega))) ?_
          clear T
          rintro e wc ⟨rfl, hb⟩
          intro ac T
          replace M := M.call hb; clear hb
          refine sh_out hK _ _ (MA.mk (M.mask [true, true, true, true, true, true, true, true] rfl) (M.mask [true, true, true, true, true, true, true, true] rfl)) ?_; clear hK K
          refine g_addU M ?_
          refine g_q (v := (.bool false)) (T := T) (i := 7) rfl (by kernel_rfl) (by kernel_rfl : (pbits 47 127).setIfInBounds 7 true = pbits 47 255) (si_and si_U (si_and si_U si_U)) (fun _ _ _ h => h) rfl rfl rfl rfl (fun _ _ _ _ _ => (rn_neqof (rn_neq rfl (T.ev 1 rfl) (T.ev 0 rfl)) (by simp))) ?_; clear T ac; intro ac T
          refine g_q (T := T) (i := 8) rfl (by kernel_rfl) (by kernel_rfl : (pbits 47 255).setIfInBounds 8 true = pbits 47 511) (si_and si_U (si_and si_U si_U)) (fun _ _ _ h => h) rfl rfl rfl rfl (fun _ _ _ _ _ => (rn_move rfl (T.ev 0 rfl))) ?_; clear T ac; intro ac T
          refine g_q (T := T) (i := 9) rfl (by kernel_rfl) (by kernel_rfl : (pbits 47 511).setIfInBounds 9 true = pbits 47 1023) (si_and si_U (si_and si_U si_U)) (fun _ _ _ h => h) (wanted_yes rfl rfl (T.ev 0 rfl) rfl) rfl rfl rfl (fun B w' hD hl hS => (rn_rowO (Mem.nth (show Mem w noEx w' _ from (MA.lft hS)) 3 rfl) rfl (T.ev 13 rfl) rfl)) ?_; clear T ac; intro ac T
          refine g_q (T := T) (i := 10) rfl (by kernel_rfl) (by kernel_rfl : (pbits 47 1023).setIfInBounds 10 true = pbits 47 2047) (si_and si_U (si_and si_U si_U)) (fun _ _ _ h => h) (wanted_yes rfl rfl (T.ev 1 rfl) rfl) rfl rfl rfl (fun B w' hD hl hS => (rn_rowO (Mem.nth (show Mem w noEx w' _ from (MA.lft hS)) 2 rfl) rfl (T.ev 16 rfl) rfl)) ?_; clear T ac; intro ac T
          refine g_q (v := (.bool false)) (T := T) (i := 11) rfl (by kernel_rfl) (by kernel_rfl : (pbits 47 2047).setIfInBounds 11 true = pbits 47 4095) (si_and si_U (si_and si_U si_U)) (fun _ _ _ h => h) (wanted_yes rfl rfl (T.ev 2 rfl) rfl) rfl rfl rfl (fun _ _ _ _ _ => (rn_neqof (rn_bin rfl (T.ev 1 rfl) (T.ev 0 rfl) neT23) (by simp))) ?_; clear T ac; intro ac T
          refine g_q (T := T) (i := 12) rfl (by kernel_rfl) (by kernel_rfl : (pbits 47 4095).setIfInBounds 12 true = pbits 47 8191) (si_and si_U (si_and si_U si_U)) (fun _ _ _ h => h) rfl rfl rfl rfl (fun _ _ _ _ _ => (rn_pick0 rfl (T.ev 3 rfl) rfl (T.ev 0 rfl))) ?_; clear T ac; intro ac T
          refine g_q (T := T) (i := 13) rfl (by kernel_rfl) (by kernel_rfl : (pbits 47 8191).setIfInBounds 13 true = pbits 47 16383) (si_and si_U (si_and si_U si_U)) (fun _ _ _ h => h) rfl rfl rfl rfl (fun _ _ _ _ _ => (rn_move rfl (T.ev 0 rfl))) ?_; clear T ac; intro ac T
          refine g_q (T := T) (i := 14) rfl (by kernel_rfl) (by kernel_rfl : (pbits 47 16383).setIfInBounds 14 true = pbits 47 32767) (si_and si_U (si_and si_U si_U)) (fun _ _ _ h => h) (wanted_yes rfl rfl (T.ev 0 rfl) rfl) rfl rfl rfl (fun _ _ _ _ _ => (rn_move rfl (T.ev 19 rfl))) ?_; clear T ac; intro ac T
          refine g_q (T := T) (i := 15) rfl (by kernel_rfl) (by kernel_rfl : (pbits 47 32767).setIfInBounds 15 true = pbits 47 65535) (si_and si_U (si_and si_U si_U)) (fun _ _ _ h => h) (wanted_yes rfl rfl (T.ev 1 rfl) rfl) rfl rfl rfl (fun _ _ _ _ _ => (rn_move rfl (T.ev 22 rfl))) ?_; clear T ac; intro ac T
          refine g_q (v := (.bool false)) (T := T) (i := 16) rfl (by kernel_rfl) (by kernel_rfl : (pbits 47 65535).setIfInBounds 16 true = pbits 47 131071) (si_and si_U (si_and si_U si_U)) (fun _ _ _ h => h) (wanted_yes rfl rfl (T.ev 2 rfl) rfl) rfl rfl rfl (fun _ _ _ _ _ => (rn_neqof (rn_neq rfl (T.ev 1 rfl) (T.ev 0 rfl)) (by simp))) ?_; clear T ac; intro ac T
          refine g_q (T := T) (i := 17) rfl (by kernel_rfl) (by kernel_rfl : (pbits 47 131071).setIfInBounds 17 true = pbits 47 262143) (si_and si_U (si_and si_U si_U)) (fun _ _ _ h => h) rfl rfl rfl rfl (fun _ _ _ _ _ => (rn_pick0 rfl (T.ev 3 rfl) rfl (T.ev 0 rfl))) ?_; clear T ac; intro ac T
          refine g_q (T := T) (i := 18) rfl (by kernel_rfl) (by kernel_rfl : (pbits 47 262143).setIfInBounds 18 true = pbits 47 524287) (si_and si_U (si_and si_U si_U)) (fun _ _ _ h => h) rfl rfl rfl rfl (fun _ _ _ _ _ => (rn_move rfl (T.ev 0 rfl))) ?_; clear T ac; intro ac T
          refine g_q (T := T) (i := 19) rfl (by kernel_rfl) (by kernel_rfl : (pbits 47 524287).setIfInBounds 19 true = pbits 47 1048575) (si_and si_U (si_and si_U si_U)) (fun _ _ _ h => h) (wanted_yes rfl rfl (T.ev 0 rfl) rfl) rfl rfl rfl (fun _ _ _ _ _ => (rn_move rfl (T.ev 27 rfl))) ?_; clear T ac; intro ac T
          refine g_q (T := T) (i := 20) rfl (by kernel_rfl) (by kernel_rfl : (pbits 47 1048575).setIfInBounds 20 true = pbits 47 2097151) (si_and si_U (si_and si_U si_U)) (fun _ _ _ h => h) (wanted_yes rfl rfl (T.ev 1 rfl) rfl) rfl rfl rfl (fun _ _ _ _ _ => (rn_move rfl (T.ev 30 rfl))) ?_; clear T ac; intro ac T
          refine g_q (v := (.bool false)) (T := T) (i := 21) rfl (by kernel_rfl) (by kernel_rfl : (pbits 47 2097151).setIfInBounds 21 true = pbits 47 4194303) (si_and si_U (si_and si_U si_U)) (fun _ _ _ h => h) (wanted_yes rfl rfl (T.ev 2 rfl) rfl) rfl rfl rfl (fun _ _ _ _ _ => (rn_neqof (rn_neq rfl (T.ev 1 rfl) (T.ev 0 rfl)) (by simp))) ?_; clear T ac; intro ac T
          refine g_q (T := T) (i := 22) rfl (by kernel_rfl) (by kernel_rfl : (pbits 47 4194303).setIfInBounds 22 true = pbits 47 8388607) (si_and si_U (si_and si_U si_U)) (fun _ _ _ h => h) rfl rfl rfl rfl (fun _ _ _ _ _ => (rn_pick0 rfl (T.ev 3 rfl) rfl (T.ev 0 rfl))) ?_; clear T ac; intro ac T
          refine g_q (T := T) (i := 23) rfl (by kernel_rfl) (by kernel_rfl : (pbits 47 8388607).setIfInBounds 23 true = pbits 47 16777215) (si_and si_U (si_and si_U si_U)) (fun _ _ _ h => h) rfl rfl rfl rfl (fun _ _ _ _ _ => (rn_move rfl (T.ev 0 rfl))) ?_; clear T ac; intro ac T
          refine g_q (T := T) (i := 24) rfl (by kernel_rfl) (by kernel_rfl : (pbits 47 16777215).setIfInBounds 24 true = pbits 47 33554431) (si_and si_U (si_and si_U si_U)) (fun _ _ _ h => h) (wanted_yes rfl rfl (T.ev 0 rfl) rfl) rfl rfl rfl (fun _ _ _ _ _ => (rn_move rfl (T.ev 33 rfl))) ?_; clear T ac; intro ac T
          refine g_q (T := T) (i := 25) rfl (by kernel_rfl) (by kernel_rfl : (pbits 47 33554431).setIfInBounds 25 true = pbits 47 67108863) (si_and si_U (si_and si_U si_U)) (fun _ _ _ h => h) (wanted_yes rfl rfl (T.ev 1 rfl) rfl) rfl rfl rfl (fun _ _ _ _ _ => (rn_move rfl (T.ev 36 rfl))) ?_; clear T ac; intro ac T
          refine g_q (v := (.bool false)) (T := T) (i := 26) rfl (by kernel_rfl) (by kernel_rfl : (pbits 47 67108863).setIfInBounds 26 true = pbits 47 134217727) (si_and si_U (si_and si_U si_U)) (fun _ _ _ h => h) (wanted_yes rfl rfl (T.ev 2 rfl) rfl) rfl rfl rfl (fun _ _ _ _ _ => (rn_neqof (rn_neq rfl (T.ev 1 rfl) (T.ev 0 rfl)) (by simp))) ?_; clear T ac; intro ac T
          refine g_q (T := T) (i := 27) rfl (by kernel_rfl) (by kernel_rfl : (pbits 47 134217727).setIfInBounds 27 true = pbits 47 268435455) (si_and si_U (si_and si_U si_U)) (fun _ _ _ h => h) rfl rfl rfl rfl (fun _ _ _ _ _ => (rn_pick0 rfl (T.ev 3 rfl) rfl (T.ev 0 rfl))) ?_; clear T ac; intro ac T
          refine g_q (T := T) (i := 28) rfl (by kernel_rfl) (by kernel_rfl : (pbits 47 268435455).setIfInBounds 28 true = pbits 47 536870911) (si_and si_U (si_and si_U si_U)) (fun _ _ _ h => h) rfl rfl rfl rfl (fun _ _ _ _ _ => (rn_move rfl (T.ev 0 rfl))) ?_; clear T ac; intro ac T
          refine g_q (T := T) (i := 29) rfl (by kernel_rfl) (by kernel_rfl : (pbits 47 536870911).setIfInBounds 29 true = pbits 47 1073741823) (si_and si_U (si_and si_U si_U)) (fun _ _ _ h => h) (wanted_yes rfl rfl (T.ev 0 rfl) rfl) rfl rfl rfl (fun B w' hD hl hS => (rn_rowO (Mem.nth (show Mem w noEx w' _ from (MA.lft hS)) 1 rfl) rfl (T.ev 41 rfl) rfl)) ?_; clear T ac; intro ac T
          refine g_q (T := T) (i := 30) rfl (by kernel_rfl) (by kernel_rfl : (pbits 47 1073741823).setIfInBounds 30 true = pbits 47 2147483647) (si_and si_U (si_and si_U si_U)) (fun _ _ _ h => h) (wanted_yes rfl rfl (T.ev 1 rfl) rfl) rfl rfl rfl (fun B w' hD hl hS => (rn_rowO (Mem.nth (show Mem w noEx w' _ from (MA.lft hS)) 0 rfl) rfl (T.ev 44 rfl) rfl)) ?_; clear T ac; intro ac T
          refine g_q (v := (.bool false)) (T := T) (i := 31) rfl (by kernel_rfl) (by kernel_rfl : (pbits 47 2147483647).setIfInBounds 31 true = pbits 47 4294967295) (si_and si_U (si_and si_U si_U)) (fun _ _ _ h => h) (wanted_yes rfl rfl (T.ev 2 rfl) rfl) rfl rfl rfl (fun _ _ _ _ _ => (rn_neqof (rn_bin rfl (T.ev 1 rfl) (T.ev 0 rfl) neT23) (by simp))) ?_; clear T ac; intro ac T
          refine g_q (T := T) (i := 32) rfl (by kernel_rfl) (by kernel_rfl : (pbits 47 4294967295).setIfInBounds 32 true = pbits 47 8589934591) (si_and si_U (si_and si_U si_U)) (fun _ _ _ h => h) rfl rfl rfl rfl (fun _ _ _ _ _ => (rn_pick0 rfl (T.ev 3 rfl) rfl (T.ev 0 rfl))) ?_; clear T ac; intro ac T
          refine g_q (T := T) (i := 33) rfl (by kernel_rfl) (by kernel_rfl : (pbits 47 8589934591).setIfInBounds 33 true = pbits 47 17179869183) (si_and si_U (si_and si_U si_U)) (fun _ _ _ h => h) rfl rfl rfl rfl (fun _ _ _ _ _ => (rn_move rfl (T.ev 0 rfl))) ?_; clear T ac; intro ac T
          refine g_q (T := T) (i := 34) rfl (by kernel_rfl) (by kernel_rfl : (pbits 47 17179869183).setIfInBounds 34 true = pbits 47 34359738367) (si_and si_U (si_and si_U si_U)) (fun _ _ _ h => h) (wanted_yes rfl rfl (T.ev 0 rfl) rfl) rfl rfl rfl (fun _ _ _ _ _ => (rn_move rfl (T.ev 47 rfl))) ?_; clear T ac; intro ac T
          refine g_q (T := T) (i := 35) rfl (by kernel_rfl) (by kernel_rfl : (pbits 47 34359738367).setIfInBounds 35 true = pbits 47 68719476735) (si_and si_U (si_and si_U si_U)) (fun _ _ _ h => h) (wanted_yes rfl rfl (T.ev 1 rfl) rfl) rfl rfl rfl (fun _ _ _ _ _ => (rn_move rfl (T.ev 50 rfl))) ?_; clear T ac; intro ac T
          refine g_q (v := (.bool false)) (T := T) (i := 36) rfl (by kernel_rfl) (by kernel_rfl : (pbits 47 68719476735).setIfInBounds 36 true = pbits 47 137438953471) (si_and si_U (si_and si_U si_U)) (fun _ _ _ h => h) (wanted_yes rfl rfl (T.ev 2 rfl) rfl) rfl rfl rfl (fun _ _ _ _ _ => (rn_neqof (rn_neq rfl (T.ev 1 rfl) (T.ev 0 rfl)) (by simp))) ?_; clear T ac; intro ac T
          refine g_q (T := T) (i := 37) rfl (by kernel_rfl) (by kernel_rfl : (pbits 47 137438953471).setIfInBounds 37 true = pbits 47 274877906943) (si_and si_U (si_and si_U si_U)) (fun _ _ _ h => h) rfl rfl rfl rfl (fun _ _ _ _ _ => (rn_pick0 rfl (T.ev 3 rfl) rfl (T.ev 0 rfl))) ?_; clear T ac; intro ac T
          refine g_q (T := T) (i := 38) rfl (by kernel_rfl) (by kernel_rfl : (pbits 47 274877906943).setIfInBounds 38 true = pbits 47 549755813887) (si_and si_U (si_and si_U si_U)) (fun _ _ _ h => h) rfl rfl rfl rfl (fun _ _ _ _ _ => (rn_move rfl (T.ev 0 rfl))) ?_; clear T ac; intro ac T
          refine g_q (T := T) (i := 39) rfl (by kernel_rfl) (by kernel_rfl : (pbits 47 549755813887).setIfInBounds 39 true = pbits 47 1099511627775) (si_and si_U (si_and si_U si_U)) (fun _ _ _ h => h) (wanted_yes rfl rfl (T.ev 0 rfl) rfl) rfl rfl rfl (fun B w' hD hl hS => (rn_rowO (Mem.nth (show Mem w noEx w' _ from (MA.lft hS)) 4 rfl) rfl (T.ev 42 rfl) rfl)) ?_; clear T ac; intro ac T
          refine g_q (T := T) (i := 40) rfl (by kernel_rfl) (by kernel_rfl : (pbits 47 1099511627775).setIfInBounds 40 true = pbits 47 2199023255551) (si_and si_U (si_and si_U si_U)) (fun _ _ _ h => h) (wanted_yes rfl rfl (T.ev 1 rfl) rfl) rfl rfl rfl (fun _ _ _ _ _ => (rn_move rfl (T.ev 40 rfl))) ?_; clear T ac; intro ac T
          refine g_q (T := T) (i := 41) rfl (by kernel_rfl) (by kernel_rfl : (pbits 47 2199023255551).setIfInBounds 41 true = pbits 47 4398046511103) (si_and si_U (si_and si_U si_U)) (fun _ _ _ h => h) (wanted_yes rfl rfl (T.ev 2 rfl) rfl) rfl rfl rfl (fun _ _ _ _ _ => (rn_move rfl (T.ev 43 rfl))) ?_; clear T ac; intro ac T
          refine g_q (v := (.pointer (some ⟨gr7_4, 0, none⟩))) (T := T) (i := 42) rfl (by kernel_rfl) (by kernel_rfl : (pbits 47 4398046511103).setIfInBounds 42 true = pbits 47 8796093022207) (si_and si_U (si_and si_U si_U)) (fun _ _ _ h => h) (wanted_yes rfl rfl (T.ev 3 rfl) rfl) rfl rfl rfl (fun _ _ _ _ _ => (rn_indexAddr (size := 18) 0 rfl (T.ev 1 rfl) (T.ev 0 rfl) ⟨_, Try.underlying36, by kernel_rfl⟩ rfl (by decide) rfl)) ?_; clear T ac; intro ac T
          refine g_q (T := T) (i := 43) rfl (by kernel_rfl) (by kernel_rfl : (pbits 47 8796093022207).setIfInBounds 43 true = pbits 47 17592186044415) (si_and si_U (si_and si_U si_U)) (fun _ _ _ h => h) (wanted_yes rfl rfl (T.ev 4 rfl) rfl) rfl rfl rfl (fun B w' hD hl hS => (rn_rowO (Mem.nth (show Mem w noEx w' _ from (MA.lft hS)) 5 rfl) rfl (T.ev 0 rfl) rfl)) ?_; clear T ac; intro ac T
          refine g_w (i := 44) (by kernel_rfl) rfl (by kernel_rfl : (pbits 47 17592186044415).setIfInBounds 44 true = pbits 47 35184372088831) (wanted_yes rfl rfl (T.ev 5 rfl) rfl) ?_; intro K hK
          refine ow_call (first := []) (cap := []) T rfl rfl rfl rfl evf (.cons (T.ev 4 rfl) (.cons (T.ev 0 rfl) .nil)) Try.func22 rfl rfl ?_
          refine Calls.mono (sameJobs_same j _ _ _ _ _ (Su5.rd M (.cons _ (.cons _ (.cons _ (.cons _ (.cons _ (.cons _ (.cons _ (.cons _ (List.sublist_append_right _ _)))))))))) (SJ.rd M (List.nil_sublist _)) (by first | omega | (have := few_more hfewu3 y0 y1; omega))) ?_
          clear T
          rintro e wc ⟨rfl, hb⟩
          intro ac T
          replace M := M.call hb; clear hb
          refine sh_out hK _ _ (MA.mk (M.mask [true, true, true, true, true, true, true, true] rfl) (MA.mk (M.mask [true, true, true, true, true, true, true, true] rfl) (M.mask [true, true, true, true, true, true, true, true] rfl))) ?_; clear hK K
          refine g_q (v := (.bool false)) (T := T) (i := 45) rfl (by kernel_rfl) (by kernel_rfl : (pbits 47 35184372088831).setIfInBounds 45 true = pbits 47 70368744177663) (si_and si_U (si_and si_U si_U)) (fun _ _ _ h => h) (wanted_yes rfl rfl (T.ev 6 rfl) rfl) rfl rfl rfl (fun _ _ _ _ _ => (rn_neqof (rn_not rfl (T.ev 0 rfl)) (by simp))) ?_; clear T ac; intro ac T
          refine g_q (T := T) (i := 46) rfl (by kernel_rfl) (by kernel_rfl : (pbits 47 70368744177663).setIfInBounds 46 true = pbits 47 140737488355327) (si_and si_U (si_and si_U si_U)) (fun _ _ _ h => h) rfl rfl rfl rfl (fun _ _ _ _ _ => (rn_pick0 rfl (T.ev 7 rfl) rfl (T.ev 0 rfl))) ?_; clear T ac; intro ac T
          refine g_done (by kernel_rfl) ?_
          replace T := T.pick [0, 1, 2, 3, 4, 5, 6, 7, 10, 11, 12, 15, 16, 17, 20, 21, 22, 25, 26, 27, 30, 31, 32, 35, 36, 37, 47, 48, 49] rfl
          replace M := M.mask [false, false, false, false, false, true, true, true] rfl
          refine nm_then ?_
          refine wp_cond_false (T.ev 0 rfl) ?_
          refine wp_skip ?_
          refine nm_blk ?_
          refine nm_then ?_
          refine wp_region_lit ?_
          refine l_q T rfl rfl rfl rfl (rn_move rfl (T.ev 28 rfl)) ?_; clear T ac; intro ac T
          refine l_q (v := (.int .i64 1)) T rfl rfl rfl rfl (rn_ofI (rn_add rfl (T.ev 0 rfl) evc (by omega)) (by rfl)) ?_; clear T ac; intro ac T
          refine l_q (v := (.int .i64 1)) (T.pick [0, 1, 2, 3, 4, 5, 6, 7, 8, 9, 10, 11, 12, 13, 14, 15, 16, 17, 18, 19, 20, 21, 22, 23, 24, 25, 26, 27, 28, 29] rfl) rfl rfl rfl rfl (rn_assign rfl (T.ev 0 rfl)) ?_; clear T ac; intro ac T
          refine wpList_nil ?_
          replace T := T.pick [0, 4, 5, 6, 7, 8, 9, 10, 11, 12, 13, 14, 15, 16, 17, 18, 19, 20, 21, 22, 23, 24, 25, 26, 27, 28, 29, 30] rfl
          refine nm_then ?_
          refine rounds_S ?_
          refine wp_seq ?_
          refine wp_seq ?_
          refine wp_region_lit ?_
          refine l_q T rfl rfl rfl rfl (rn_move rfl (T.ev 0 rfl)) ?_; clear T ac; intro ac T
          refine l_q T rfl rfl rfl rfl (rn_move rfl (T.ev 27 rfl)) ?_; clear T ac; intro ac T
          refine l_q (v := (.int .i64 4)) T rfl rfl rfl rfl (rn_lenS rfl Try.underlying36 (T.ev 0 rfl)) ?_; clear T ac; intro ac T
          refine l_q (v := (.bool true)) T rfl rfl rfl rfl (rn_neqof (rn_lss rfl (T.ev 2 rfl) (T.ev 0 rfl)) (by simp)) ?_; clear T ac; intro ac T
          refine wpList_nil ?_
          replace T := T.pick [0, 4, 5, 6, 7, 8, 9, 10, 11, 12, 13, 14, 15, 16, 17, 18, 19, 20, 21, 22, 23, 24, 25, 26, 27, 28, 29, 30, 31] rfl
          refine nm_then ?_
          refine wp_cond_true (T.ev 0 rfl) ?_
          refine wp_skip ?_
          refine nm_then ?_
          refine wp_seq ?_
          refine wp_block ?_
          refine wp_seq ?_
          refine wp_region_lit ?_
          refine l_q T rfl rfl rfl rfl (rn_move rfl (T.ev 27 rfl)) ?_; clear T ac; intro ac T
          refine l_q T rfl rfl rfl rfl (rn_move rfl (T.ev 2 rfl)) ?_; clear T ac; intro ac T
          refine l_q (v := (.pointer (some ⟨gr7_4, 18, none⟩))) T rfl rfl rfl rfl (rn_indexAddr (size := 18) 1 rfl (T.ev 1 rfl) (T.ev 0 rfl) ⟨_, Try.underlying36, by kernel_rfl⟩ rfl (by decide) rfl) ?_; clear T ac; intro ac T
          refine l_q T rfl rfl rfl rfl (rn_rowO (Mem.nth M 0 rfl) rfl (T.ev 0 rfl) rfl) ?_; clear T ac; intro ac T
          refine l_w rfl ?_; intro K hK
          refine ow_call (first := []) (cap := []) T rfl rfl rfl rfl evf (.cons (T.ev 0 rfl) .nil) Try.func18 rfl rfl ?_
          refine Calls.mono (copyJob_own ju3 _ _ _ (Su3.rd M (.cons _ (.cons _ (.cons _ (List.Sublist.trans (List.Sublist.refl _) (List.sublist_append_left _ _)))))) (by first | omega | (have := few_more hfewu3 y0 y1; omega))) ?_
          clear T
          rintro e wc ⟨Au13, cu13, Iu13, rfl, hsnu13, N⟩
          intro ac T
          obtain ⟨bu13, ou13, Su13⟩ := hsnu13.sp (w := w) (ex := noEx) (rc_length _)
          replace M := (M.join N).swapI
          replace M := M.mask [true, true, true] rfl
          clear N
          refine sh_out hK _ _ ?_; clear hK K
          refine l_w rfl ?_; intro K hK
          refine ow_al M T rfl rfl rfl rfl ?_; clear M T; intro g9 wc ac M T
          refine sh_out hK _ _ ?_; clear hK K
          refine l_w rfl ?_; intro K hK
          refine ow_stO M T rfl rfl (T.ev 0 rfl) (T.ev 1 rfl) rfl .head rfl (by simp) rfl (by kernel_rfl) ?_; clear M T; intro wc ac M T
          refine sh_out hK _ _ ?_; clear hK K
          refine wpList_nil ?_
          replace T := T.pick [0, 7, 8, 9, 10, 11, 12, 13, 14, 15, 16, 17, 18, 19, 20, 21, 22, 23, 24, 25, 26, 27, 28, 29, 30, 31, 32, 33, 34] rfl
          refine nm_then ?_
          refine wp_seq ?_
          refine wp_region_lit ?_
          refine l_q T rfl rfl rfl rfl (rn_rowO (Mem.nth M 0 rfl) rfl (T.ev 0 rfl) rfl) ?_; clear T ac; intro ac T
          refine l_w rfl ?_; intro K hK
          refine ow_call (first := []) (cap := []) T rfl rfl rfl rfl evf (.cons (T.ev 0 rfl) .nil) Try.func33 rfl rfl ?_
          refine Calls.mono (Window_any ju3 _ _ _ (Su13.rd M (.cons _ (.cons _ (.cons _ (.cons _ (List.sublist_append_right _ _)))))) (by first | omega | (have := few_more hfewu3 y0 y1; omega))) ?_
          clear T
          rintro e wc ⟨rfl, hb⟩
          intro ac T
          replace M := M.call hb; clear hb
          refine sh_out hK _ _ ?_; clear hK K
          refine l_q T rfl rfl rfl rfl (rn_move rfl (T.ev 0 rfl)) ?_; clear T ac; intro ac T
          refine l_q T rfl rfl rfl rfl (rn_extract rfl (T.ev 0 rfl) rfl) ?_; clear T ac; intro ac T
          refine l_q T rfl rfl rfl rfl (rn_extract rfl (T.ev 1 rfl) rfl) ?_; clear T ac; intro ac T
          refine l_w rfl ?_; intro K hK
          refine ow_al M T rfl rfl rfl rfl ?_; clear M T; intro g10 wc ac M T
          refine sh_out hK _ _ ?_; clear hK K
          refine l_w rfl ?_; intro K hK
          refine ow_stO M T rfl rfl (T.ev 0 rfl) (T.ev 2 rfl) rfl .head rfl (by simp) rfl (by kernel_rfl) ?_; clear M T; intro wc ac M T
          refine sh_out hK _ _ ?_; clear hK K
          refine l_q T rfl rfl rfl rfl (rn_assign rfl (T.ev 1 rfl)) ?_; clear T ac; intro ac T
          refine wpList_nil ?_
          replace T := T.pick [0, 1, 7, 8, 9, 10, 11, 12, 13, 14, 15, 16, 17, 18, 19, 20, 21, 22, 23, 24, 25, 26, 27, 28, 29, 30, 31, 32, 33, 34, 35] rfl
          refine nm_then ?_
          refine wp_seq ?_
          refine wp_region_lit ?_
          refine l_q T rfl rfl rfl rfl (rn_move rfl (T.ev 29 rfl)) ?_; clear T ac; intro ac T
          refine l_q T rfl rfl rfl rfl (rn_move rfl (T.ev 4 rfl)) ?_; clear T ac; intro ac T
          refine l_q (v := (.pointer (some ⟨gr7_4, 18, none⟩))) T rfl rfl rfl rfl (rn_indexAddr (size := 18) 1 rfl (T.ev 1 rfl) (T.ev 0 rfl) ⟨_, Try.underlying36, by kernel_rfl⟩ rfl (by decide) rfl) ?_; clear T ac; intro ac T
          refine l_q T rfl rfl rfl rfl (rn_rowO (Mem.nth M 2 rfl) rfl (T.ev 0 rfl) rfl) ?_; clear T ac; intro ac T
          refine l_w rfl ?_; intro K hK
          refine ow_call (first := []) (cap := []) T rfl rfl rfl rfl evf (.cons (T.ev 0 rfl) .nil) Try.func45 rfl rfl ?_
          refine Calls.mono (rWindow_J ju3 _ _ _ (Su3.rd M (.cons _ (.cons _ (.cons _ (.cons _ (.cons _ (List.Sublist.trans (List.Sublist.trans (List.Sublist.refl _) (List.sublist_append_left _ _)) (List.sublist_append_left _ _)))))))) (by first | omega | (have := few_more hfewu3 y0 y1; omega))) ?_
          clear T
          rintro e wc ⟨rfl, hb⟩
          intro ac T
          replace M := M.call hb; clear hb
          refine sh_out hK _ _ ?_; clear hK K
          refine l_q T rfl rfl rfl rfl (rn_move rfl (T.ev 0 rfl)) ?_; clear T ac; intro ac T
          refine l_q T rfl rfl rfl rfl (rn_extract rfl (T.ev 0 rfl) rfl) ?_; clear T ac; intro ac T
          refine l_q T rfl rfl rfl rfl (rn_extract rfl (T.ev 1 rfl) rfl) ?_; clear T ac; intro ac T
          refine l_w rfl ?_; intro K hK
          refine ow_al M T rfl rfl rfl rfl ?_; clear M T; intro g11 wc ac M T
          refine sh_out hK _ _ ?_; clear hK K
          refine l_w rfl ?_; intro K hK
          refine ow_stO M T rfl rfl (T.ev 0 rfl) (T.ev 2 rfl) rfl .head rfl (by simp) rfl (by kernel_rfl) ?_; clear M T; intro wc ac M T
          refine sh_out hK _ _ ?_; clear hK K
          refine l_q T rfl rfl rfl rfl (rn_assign rfl (T.ev 1 rfl)) ?_; clear T ac; intro ac T
          refine wpList_nil ?_
          replace T := T.pick [0, 1, 10, 11, 12, 13, 14, 15, 16, 17, 18, 19, 20, 21, 22, 23, 24, 25, 26, 27, 28, 29, 30, 31, 32, 33, 34, 35, 36, 37, 38, 39, 40] rfl
          refine nm_then ?_
          refine wp_seq ?_
          refine wp_region_lit ?_
          refine l_q T rfl rfl rfl rfl (rn_rowO (Mem.nth M 2 rfl) rfl (T.ev 4 rfl) rfl) ?_; clear T ac; intro ac T
          refine l_w rfl ?_; intro K hK
          refine ow_call (first := []) (cap := []) T rfl rfl rfl rfl evf (.cons (T.ev 0 rfl) .nil) Try.func46 rfl rfl ?_
          refine Calls.mono (Passes_any ju3 _ _ _ (Su13.rd M (.cons _ (.cons _ (.cons _ (.cons _ (.cons _ (.cons _ (List.sublist_append_right _ _)))))))) (by first | omega | (have := few_more hfewu3 y0 y1; omega))) ?_
          clear T
          rintro e wc ⟨rfl, hb⟩
          intro ac T
          replace M := M.call hb; clear hb
          refine sh_out hK _ _ ?_; clear hK K
          refine l_q T rfl rfl rfl rfl (rn_move rfl (T.ev 0 rfl)) ?_; clear T ac; intro ac T
          refine l_q T rfl rfl rfl rfl (rn_extract rfl (T.ev 0 rfl) rfl) ?_; clear T ac; intro ac T
          refine l_q T rfl rfl rfl rfl (rn_extract rfl (T.ev 1 rfl) rfl) ?_; clear T ac; intro ac T
          refine l_q T rfl rfl rfl rfl (rn_assign rfl (T.ev 1 rfl)) ?_; clear T ac; intro ac T
          refine l_q T rfl rfl rfl rfl (rn_assign rfl (T.ev 1 rfl)) ?_; clear T ac; intro ac T
          refine wpList_nil ?_
          replace T := T.pick [0, 1, 7, 8, 9, 10, 11, 12, 13, 14, 15, 16, 17, 18, 19, 20, 21, 22, 23, 24, 25, 26, 27, 28, 29, 30, 31, 32, 33, 34, 35, 36, 37, 38, 39] rfl
          refine nm_then ?_
          refine wp_seq ?_
          refine wp_region_lit ?_
          refine l_q T rfl rfl rfl rfl (rn_move rfl (T.ev 33 rfl)) ?_; clear T ac; intro ac T
          refine l_q T rfl rfl rfl rfl (rn_move rfl (T.ev 8 rfl)) ?_; clear T ac; intro ac T
          refine l_q (v := (.pointer (some ⟨gr7_4, 18, none⟩))) T rfl rfl rfl rfl (rn_indexAddr (size := 18) 1 rfl (T.ev 1 rfl) (T.ev 0 rfl) ⟨_, Try.underlying36, by kernel_rfl⟩ rfl (by decide) rfl) ?_; clear T ac; intro ac T
          refine l_q T rfl rfl rfl rfl (rn_rowO (Mem.nth M 3 rfl) rfl (T.ev 0 rfl) rfl) ?_; clear T ac; intro ac T
          refine l_w rfl ?_; intro K hK
          refine ow_call (first := []) (cap := []) T rfl rfl rfl rfl evf (.cons (T.ev 0 rfl) .nil) Try.func47 rfl rfl ?_
          refine Calls.mono (rPasses_J ju3 _ _ _ (Su3.rd M (.cons _ (.cons _ (.cons _ (.cons _ (.cons _ (.cons _ (List.Sublist.trans (List.Sublist.trans (List.Sublist.refl _) (List.sublist_append_left _ _)) (List.sublist_append_left _ _))))))))) (by first | omega | (have := few_more hfewu3 y0 y1; omega))) ?_
          clear T
          rintro e wc ⟨rfl, hb⟩
          intro ac T
          replace M := M.call hb; clear hb
          refine sh_out hK _ _ ?_; clear hK K
          refine l_q T rfl rfl rfl rfl (rn_move rfl (T.ev 0 rfl)) ?_; clear T ac; intro ac T
          refine l_q T rfl rfl rfl rfl (rn_extract rfl (T.ev 0 rfl) rfl) ?_; clear T ac; intro ac T
          refine l_q T rfl rfl rfl rfl (rn_extract rfl (T.ev 1 rfl) rfl) ?_; clear T ac; intro ac T
          refine l_q T rfl rfl rfl rfl (rn_assign rfl (T.ev 1 rfl)) ?_; clear T ac; intro ac T
          refine l_q T rfl rfl rfl rfl (rn_assign rfl (T.ev 1 rfl)) ?_; clear T ac; intro ac T
          refine wpList_nil ?_
          replace T := T.pick [0, 1, 10, 11, 12, 13, 14, 15, 16, 17, 18, 19, 20, 21, 22, 23, 24, 25, 26, 27, 28, 29, 30, 31, 32, 33, 34, 35, 36, 37, 38, 39, 40, 41, 42, 43, 44] rfl
          refine nm_then ?_
          refine cut_seq (fun ac wc => ∃ (gr16_9 : Nat), Tm ac 178 [(12, .slice (some ⟨gr7_4, 0, none⟩) 4 4), (13, .slice (some ⟨gr7_26, 0, none⟩) 4 4), (14, .int .i64 1), (15, .pointer (some ⟨g9, 0, none⟩)), (16, .pointer (some ⟨g10, 0, none⟩)), (17, .int .i64 ((windowJ ju3).2)), (18, .pointer (some ⟨g11, 0, none⟩)), (19, .int .i64 ((windowJ ju3).2)), (20, .int .i64 ((passesT ju3).1)), (21, .int .i64 ((passesT ju3).2)), (22, .int .i64 ((passesT ju3).1)), (23, .int .i64 ((passesT ju3).2)), (24, .pointer (some ⟨gr16_9, 0, none⟩)), (25, .int .i64 ((hearT ju3 xur7_23).2)), (139, .agg #[.int .i64 ((windowJ j).1.1), .int .i64 ((windowJ j).1.2)]), (140, .agg #[.int .i64 ((windowJ j).1.1), .int .i64 ((windowJ j).1.2)]), (141, .bool false), (144, .int .i64 ((windowJ j).2)), (145, .int .i64 ((windowJ j).2)), (146, .bool false), (149, .int .i64 ((passesT j).1)), (150, .int .i64 ((passesT j).1)), (151, .bool false), (154, .int .i64 ((passesT j).2)), (155, .int .i64 ((passesT j).2)), (156, .bool false), (159, .agg #[.int .i64 ((hearT j r).1.1), .int .i64 ((hearT j r).1.2)]), (160, .agg #[.int .i64 ((hearT j r).1.1), .int .i64 ((hearT j r).1.2)]), (161, .bool false), (164, .int .i64 ((hearT j r).2)), (165, .int .i64 ((hearT j r).2)), (166, .bool false), (169, .agg #[.int .i64 j.p0, .int .i64 j.p1, .int .i64 j.t0, .int .i64 j.t1, .int .i64 j.r0, .int .i64 j.r1, .int .i64 j.u0, .int .i64 j.u1, .int .i64 j.d0, .int .i64 j.d1, .int .i64 j.a0, .int .i64 j.a1, .int .i64 j.b0, .int .i64 j.b1, .int .i64 j.le, .slice Au5 j.sh.length cu5, .int .i64 j.wi, .int .i64 j.me]), (170, .slice (some ⟨gr7_4, 0, none⟩) 4 4), (171, .int .i64 0), (172, .pointer (some ⟨gr7_4, 0, none⟩)), (173, .agg #[.int .i64 j.p0, .int .i64 j.p1, .int .i64 j.t0, .int .i64 j.t1, .int .i64 j.r0, .int .i64 j.r1, .int .i64 j.u0, .int .i64 j.u1, .int .i64 j.d0, .int .i64 j.d1, .int .i64 j.a0, .int .i64 j.a1, .int .i64 j.b0, .int .i64 j.b1, .int .i64 j.le, .slice A j.sh.length c, .int .i64 j.wi, .int .i64 j.me]), (174, .bool true), (175, .bool false)] ∧ Mem w noEx wc ((gr16_9, .cells [.int .i64 ((hearT ju3 xur7_23).1.1), .int .i64 ((hearT ju3 xur7_23).1.2)]) :: (g11, .cells [.int .i64 ((windowJ ju3).1.1), .int .i64 ((windowJ ju3).1.2)]) :: (g10, .cells [.int .i64 ((windowJ ju3).1.1), .int .i64 ((windowJ ju3).1.2)]) :: (g9, .cells (jobL ju3 Au13 cu13)) :: (gr7_4, .cells (jobL j A c ++ jobL ju3 Au3 cu3 ++ [.int .i64 ju3.p0, .int .i64 ju3.p1, .int .i64 ju3.t0, .int .i64 ju3.t1, .int .i64 ju3.r0, .int .i64 ju3.r1, .int .i64 ju3.u0, .int .i64 ju3.u1, .int .i64 ju3.d0, .int .i64 ju3.d1, .int .i64 ju3.a0, .int .i64 ju3.a1, .int .i64 ju3.b0, .int .i64 ju3.b1, .int .i64 ju3.le, .slice (some ⟨ga1, 0, none⟩) ((ju3.more y0 y1).sh.length) cga1, .int .i64 ju3.wi, .int .i64 ju3.me] ++ jobL ju3 Au3 cu3)) :: (gr7_26, .cells [.int .i64 r, .int .i64 xur7_23, .int .i64 r, .int .i64 r]) :: (ga1, .row 23 2 (ju3.more y0 y1).sh.length (rc (ju3.more y0 y1).sh) cga1) :: (Iu3 ++ Iu5 ++ Iu13))) ?_ ?_
          · refine g_start2 M (M.mask [true, true, true, true, true, true] rfl) 12 (by kernel_rfl) rfl (by kernel_rfl) ?_
            clear M; intro wc M
            refine g_q (T := T) (i := 0) rfl (by kernel_rfl) (by kernel_rfl : (pbits 12 0).setIfInBounds 0 true = pbits 12 1) si_U (fun _ _ _ h => h) rfl rfl rfl rfl (fun B w' hD hl hS => (rn_rowO (Mem.nth (show Mem w noEx w' _ from hS) 2 rfl) rfl (T.ev 8 rfl) rfl)) ?_; clear T ac; intro ac T
            refine g_q (T := T) (i := 1) rfl (by kernel_rfl) (by kernel_rfl : (pbits 12 1).setIfInBounds 1 true = pbits 12 3) si_U (fun _ _ _ h => h) rfl rfl rfl rfl (fun _ _ _ _ _ => (rn_move rfl (T.ev 37 rfl))) ?_; clear T ac; intro ac T
            refine g_q (T := T) (i := 2) rfl (by kernel_rfl) (by kernel_rfl : (pbits 12 3).setIfInBounds 2 true = pbits 12 7) si_U (fun _ _ _ h => h) rfl rfl rfl rfl (fun _ _ _ _ _ => (rn_move rfl (T.ev 11 rfl))) ?_; clear T ac; intro ac T
            refine g_q (v := (.pointer (some ⟨gr7_26, 1, none⟩))) (T := T) (i := 3) rfl (by kernel_rfl) (by kernel_rfl : (pbits 12 7).setIfInBounds 3 true = pbits 12 15) si_U (fun _ _ _ h => h) rfl rfl rfl rfl (fun _ _ _ _ _ => (rn_indexAddr (size := 1) 1 rfl (T.ev 1 rfl) (T.ev 0 rfl) ⟨_, Try.underlying31, by kernel_rfl⟩ rfl (by decide) rfl)) ?_; clear T ac; intro ac T
            refine g_q (T := T) (i := 4) rfl (by kernel_rfl) (by kernel_rfl : (pbits 12 15).setIfInBounds 4 true = pbits 12 31) si_U (fun _ _ _ h => h) rfl rfl rfl rfl (fun B w' hD hl hS => (rn_one (Mem.nth (show Mem w noEx w' _ from hS) 4 rfl) rfl (T.ev 0 rfl) rfl)) ?_; clear T ac; intro ac T
            refine g_m2 (i := 5) (j := 9) (by kernel_rfl) ?_ ?_
            · refine g_i rfl (by kernel_rfl : (pbits 12 31).setIfInBounds 5 true = pbits 12 63) rfl ?_; intro K hK
              refine ow_call (first := []) (cap := []) T rfl rfl rfl rfl evf (.cons (T.ev 4 rfl) (.cons (T.ev 0 rfl) .nil)) Try.func37 rfl rfl ?_
              refine Calls.mono (Hear_any ju3 _ _ xur7_23 _ (Su13.rd M (.cons _ (.cons _ (.cons _ (.cons _ (.cons _ (.cons _ (List.sublist_append_right _ _)))))))) (by first | omega | (have := few_more hfewu3 y0 y1; omega))) ?_
              clear T
              rintro e wc ⟨rfl, hb⟩
              intro ac T
              replace M := M.call hb; clear hb
              refine sh_out hK _ _ (M.mask [true, true, true, true, true, true] rfl) ?_; clear hK K
              refine g_q (T := T) (i := 6) rfl (by kernel_rfl) (by kernel_rfl : (pbits 12 63).setIfInBounds 6 true = pbits 12 127) si_U (fun _ _ _ h => h) rfl rfl rfl rfl (fun _ _ _ _ _ => (rn_move rfl (T.ev 0 rfl))) ?_; clear T ac; intro ac T
              refine g_q (T := T) (i := 7) rfl (by kernel_rfl) (by kernel_rfl : (pbits 12 127).setIfInBounds 7 true = pbits 12 255) si_U (fun _ _ _ h => h) rfl rfl rfl rfl (fun _ _ _ _ _ => (rn_extract rfl (T.ev 0 rfl) rfl)) ?_; clear T ac; intro ac T
              refine g_q (T := T) (i := 8) rfl (by kernel_rfl) (by kernel_rfl : (pbits 12 255).setIfInBounds 8 true = pbits 12 511) si_U (fun _ _ _ h => h) rfl rfl rfl rfl (fun _ _ _ _ _ => (rn_extract rfl (T.ev 1 rfl) rfl)) ?_; clear T ac; intro ac T
              refine g_w (i := 9) (by kernel_rfl) rfl (by kernel_rfl : (pbits 12 511).setIfInBounds 9 true = pbits 12 1023) rfl ?_; intro K hK
              refine ow_al M T rfl rfl rfl rfl ?_; clear M T; intro gr16_9 wc ac M T
              refine sh_out hK _ _ (M.mask [false, true, true, true, true, true, true] rfl) ?_; clear hK K
              refine g_w (i := 10) (by kernel_rfl) rfl (by kernel_rfl : (pbits 12 1023).setIfInBounds 10 true = pbits 12 2047) rfl ?_; intro K hK
              refine ow_stO M T rfl rfl (T.ev 0 rfl) (T.ev 2 rfl) rfl .head rfl (by simp) rfl (by kernel_rfl) ?_; clear M T; intro wc ac M T
              refine sh_out hK _ _ (M.mask [false, true, true, true, true, true, true] rfl) ?_; clear hK K
              refine g_q (T := T) (i := 11) rfl (by kernel_rfl) (by kernel_rfl : (pbits 12 2047).setIfInBounds 11 true = pbits 12 4095) si_U (fun _ _ _ h => h) rfl rfl rfl rfl (fun _ _ _ _ _ => (rn_assign rfl (T.ev 1 rfl))) ?_; clear T ac; intro ac T
              refine g_done (by kernel_rfl) ?_
              replace T := T.pick [0, 1, 11, 12, 13, 14, 15, 16, 17, 18, 19, 20, 21, 22, 23, 24, 25, 26, 27, 28, 29, 30, 31, 32, 33, 34, 35, 36, 37, 38, 39, 40, 41, 42, 43, 44, 45, 46, 47] rfl
              exact ⟨gr16_9, (T.pick (E' := [(12, .slice (some ⟨gr7_4, 0, none⟩) 4 4), (13, .slice (some ⟨gr7_26, 0, none⟩) 4 4), (14, .int .i64 1), (15, .pointer (some ⟨g9, 0, none⟩)), (16, .pointer (some ⟨g10, 0, none⟩)), (17, .int .i64 ((windowJ ju3).2)), (18, .pointer (some ⟨g11, 0, none⟩)), (19, .int .i64 ((windowJ ju3).2)), (20, .int .i64 ((passesT ju3).1)), (21, .int .i64 ((passesT ju3).2)), (22, .int .i64 ((passesT ju3).1)), (23, .int .i64 ((passesT ju3).2)), (24, .pointer (some ⟨gr16_9, 0, none⟩)), (25, .int .i64 ((hearT ju3 xur7_23).2)), (139, .agg #[.int .i64 ((windowJ j).1.1), .int .i64 ((windowJ j).1.2)]), (140, .agg #[.int .i64 ((windowJ j).1.1), .int .i64 ((windowJ j).1.2)]), (141, .bool false), (144, .int .i64 ((windowJ j).2)), (145, .int .i64 ((windowJ j).2)), (146, .bool false), (149, .int .i64 ((passesT j).1)), (150, .int .i64 ((passesT j).1)), (151, .bool false), (154, .int .i64 ((passesT j).2)), (155, .int .i64 ((passesT j).2)), (156, .bool false), (159, .agg #[.int .i64 ((hearT j r).1.1), .int .i64 ((hearT j r).1.2)]), (160, .agg #[.int .i64 ((hearT j r).1.1), .int .i64 ((hearT j r).1.2)]), (161, .bool false), (164, .int .i64 ((hearT j r).2)), (165, .int .i64 ((hearT j r).2)), (166, .bool false), (169, .agg #[.int .i64 j.p0, .int .i64 j.p1, .int .i64 j.t0, .int .i64 j.t1, .int .i64 j.r0, .int .i64 j.r1, .int .i64 j.u0, .int .i64 j.u1, .int .i64 j.d0, .int .i64 j.d1, .int .i64 j.a0, .int .i64 j.a1, .int .i64 j.b0, .int .i64 j.b1, .int .i64 j.le, .slice Au5 j.sh.length cu5, .int .i64 j.wi, .int .i64 j.me]), (170, .slice (some ⟨gr7_4, 0, none⟩) 4 4), (171, .int .i64 0), (172, .pointer (some ⟨gr7_4, 0, none⟩)), (173, .agg #[.int .i64 j.p0, .int .i64 j.p1, .int .i64 j.t0, .int .i64 j.t1, .int .i64 j.r0, .int .i64 j.r1, .int .i64 j.u0, .int .i64 j.u1, .int .i64 j.d0, .int .i64 j.d1, .int .i64 j.a0, .int .i64 j.a1, .int .i64 j.b0, .int .i64 j.b1, .int .i64 j.le, .slice A j.sh.length c, .int .i64 j.wi, .int .i64 j.me]), (174, .bool true), (175, .bool false)]) [37, 38, 11, 10, 9, 8, 7, 6, 5, 4, 3, 2, 1, 0, 36, 35, 34, 33, 32, 31, 30, 29, 28, 27, 26, 25, 24, 23, 22, 21, 20, 19, 18, 17, 16, 15, 14, 13, 12] rfl).as (by rfl), M.mask [true, true, true, true, true, true, true] rfl⟩
            · refine g_i rfl (by kernel_rfl : (pbits 12 31).setIfInBounds 9 true = pbits 12 543) rfl ?_; intro K hK
              refine ow_al M T rfl rfl rfl rfl ?_; clear M T; intro gr16_9 wc ac M T
              refine sh_out hK _ _ (M.mask [false, true, true, true, true, true, true] rfl) ?_; clear hK K
              refine g_w (i := 5) (by kernel_rfl) rfl (by kernel_rfl : (pbits 12 543).setIfInBounds 5 true = pbits 12 575) rfl ?_; intro K hK
              refine ow_call (first := []) (cap := []) T rfl rfl rfl rfl evf (.cons (T.ev 5 rfl) (.cons (T.ev 1 rfl) .nil)) Try.func37 rfl rfl ?_
              refine Calls.mono (Hear_any ju3 _ _ xur7_23 _ (Su13.rd M (.cons _ (.cons _ (.cons _ (.cons _ (.cons _ (.cons _ (.cons _ (List.sublist_append_right _ _))))))))) (by first | omega | (have := few_more hfewu3 y0 y1; omega))) ?_
              clear T
              rintro e wc ⟨rfl, hb⟩
              intro ac T
              replace M := M.call hb; clear hb
              refine sh_out hK _ _ (M.mask [false, true, true, true, true, true, true] rfl) ?_; clear hK K
              refine g_q (T := T) (i := 6) rfl (by kernel_rfl) (by kernel_rfl : (pbits 12 575).setIfInBounds 6 true = pbits 12 639) si_U (fun _ _ _ h => h) rfl rfl rfl rfl (fun _ _ _ _ _ => (rn_move rfl (T.ev 0 rfl))) ?_; clear T ac; intro ac T
              refine g_q (T := T) (i := 7) rfl (by kernel_rfl) (by kernel_rfl : (pbits 12 639).setIfInBounds 7 true = pbits 12 767) si_U (fun _ _ _ h => h) rfl rfl rfl rfl (fun _ _ _ _ _ => (rn_extract rfl (T.ev 0 rfl) rfl)) ?_; clear T ac; intro ac T
              refine g_q (T := T) (i := 8) rfl (by kernel_rfl) (by kernel_rfl : (pbits 12 767).setIfInBounds 8 true = pbits 12 1023) si_U (fun _ _ _ h => h) rfl rfl rfl rfl (fun _ _ _ _ _ => (rn_extract rfl (T.ev 1 rfl) rfl)) ?_; clear T ac; intro ac T
              refine g_w (i := 10) (by kernel_rfl) rfl (by kernel_rfl : (pbits 12 1023).setIfInBounds 10 true = pbits 12 2047) rfl ?_; intro K hK
              refine ow_stO M T rfl rfl (T.ev 4 rfl) (T.ev 1 rfl) rfl .head rfl (by simp) rfl (by kernel_rfl) ?_; clear M T; intro wc ac M T
              refine sh_out hK _ _ (M.mask [false, true, true, true, true, true, true] rfl) ?_; clear hK K
              refine g_q (T := T) (i := 11) rfl (by kernel_rfl) (by kernel_rfl : (pbits 12 2047).setIfInBounds 11 true = pbits 12 4095) si_U (fun _ _ _ h => h) rfl rfl rfl rfl (fun _ _ _ _ _ => (rn_assign rfl (T.ev 0 rfl))) ?_; clear T ac; intro ac T
              refine g_done (by kernel_rfl) ?_
              replace T := T.pick [0, 5, 11, 12, 13, 14, 15, 16, 17, 18, 19, 20, 21, 22, 23, 24, 25, 26, 27, 28, 29, 30, 31, 32, 33, 34, 35, 36, 37, 38, 39, 40, 41, 42, 43, 44, 45, 46, 47] rfl
              exact ⟨gr16_9, (T.pick (E' := [(12, .slice (some ⟨gr7_4, 0, none⟩) 4 4), (13, .slice (some ⟨gr7_26, 0, none⟩) 4 4), (14, .int .i64 1), (15, .pointer (some ⟨g9, 0, none⟩)), (16, .pointer (some ⟨g10, 0, none⟩)), (17, .int .i64 ((windowJ ju3).2)), (18, .pointer (some ⟨g11, 0, none⟩)), (19, .int .i64 ((windowJ ju3).2)), (20, .int .i64 ((passesT ju3).1)), (21, .int .i64 ((passesT ju3).2)), (22, .int .i64 ((passesT ju3).1)), (23, .int .i64 ((passesT ju3).2)), (24, .pointer (some ⟨gr16_9, 0, none⟩)), (25, .int .i64 ((hearT ju3 xur7_23).2)), (139, .agg #[.int .i64 ((windowJ j).1.1), .int .i64 ((windowJ j).1.2)]), (140, .agg #[.int .i64 ((windowJ j).1.1), .int .i64 ((windowJ j).1.2)]), (141, .bool false), (144, .int .i64 ((windowJ j).2)), (145, .int .i64 ((windowJ j).2)), (146, .bool false), (149, .int .i64 ((passesT j).1)), (150, .int .i64 ((passesT j).1)), (151, .bool false), (154, .int .i64 ((passesT j).2)), (155, .int .i64 ((passesT j).2)), (156, .bool false), (159, .agg #[.int .i64 ((hearT j r).1.1), .int .i64 ((hearT j r).1.2)]), (160, .agg #[.int .i64 ((hearT j r).1.1), .int .i64 ((hearT j r).1.2)]), (161, .bool false), (164, .int .i64 ((hearT j r).2)), (165, .int .i64 ((hearT j r).2)), (166, .bool false), (169, .agg #[.int .i64 j.p0, .int .i64 j.p1, .int .i64 j.t0, .int .i64 j.t1, .int .i64 j.r0, .int .i64 j.r1, .int .i64 j.u0, .int .i64 j.u1, .int .i64 j.d0, .int .i64 j.d1, .int .i64 j.a0, .int .i64 j.a1, .int .i64 j.b0, .int .i64 j.b1, .int .i64 j.le, .slice Au5 j.sh.length cu5, .int .i64 j.wi, .int .i64 j.me]), (170, .slice (some ⟨gr7_4, 0, none⟩) 4 4), (171, .int .i64 0), (172, .pointer (some ⟨gr7_4, 0, none⟩)), (173, .agg #[.int .i64 j.p0, .int .i64 j.p1, .int .i64 j.t0, .int .i64 j.t1, .int .i64 j.r0, .int .i64 j.r1, .int .i64 j.u0, .int .i64 j.u1, .int .i64 j.d0, .int .i64 j.d1, .int .i64 j.a0, .int .i64 j.a1, .int .i64 j.b0, .int .i64 j.b1, .int .i64 j.le, .slice A j.sh.length c, .int .i64 j.wi, .int .i64 j.me]), (174, .bool true), (175, .bool false)]) [37, 38, 11, 10, 9, 8, 7, 6, 5, 4, 3, 2, 1, 0, 36, 35, 34, 33, 32, 31, 30, 29, 28, 27, 26, 25, 24, 23, 22, 21, 20, 19, 18, 17, 16, 15, 14, 13, 12] rfl).as (by rfl), M.mask [true, true, true, true, true, true, true] rfl⟩
          · clear T M
            rintro ac wc ⟨gr16_9, T, M⟩
            refine cut_seq (fun ac wc => ∃ (gr17_12 : Nat), Tm ac 178 [(12, .slice (some ⟨gr7_4, 0, none⟩) 4 4), (13, .slice (some ⟨gr7_26, 0, none⟩) 4 4), (14, .int .i64 1), (15, .pointer (some ⟨g9, 0, none⟩)), (16, .pointer (some ⟨g10, 0, none⟩)), (17, .int .i64 ((windowJ ju3).2)), (18, .pointer (some ⟨g11, 0, none⟩)), (19, .int .i64 ((windowJ ju3).2)), (20, .int .i64 ((passesT ju3).1)), (21, .int .i64 ((passesT ju3).2)), (22, .int .i64 ((passesT ju3).1)), (23, .int .i64 ((passesT ju3).2)), (24, .pointer (some ⟨gr16_9, 0, none⟩)), (25, .int .i64 ((hearT ju3 xur7_23).2)), (26, .pointer (some ⟨gr17_12, 0, none⟩)), (27, .int .i64 ((hearT ju3 xur7_23).2)), (139, .agg #[.int .i64 ((windowJ j).1.1), .int .i64 ((windowJ j).1.2)]), (140, .agg #[.int .i64 ((windowJ j).1.1), .int .i64 ((windowJ j).1.2)]), (141, .bool false), (144, .int .i64 ((windowJ j).2)), (145, .int .i64 ((windowJ j).2)), (146, .bool false), (149, .int .i64 ((passesT j).1)), (150, .int .i64 ((passesT j).1)), (151, .bool false), (154, .int .i64 ((passesT j).2)), (155, .int .i64 ((passesT j).2)), (156, .bool false), (159, .agg #[.int .i64 ((hearT j r).1.1), .int .i64 ((hearT j r).1.2)]), (160, .agg #[.int .i64 ((hearT j r).1.1), .int .i64 ((hearT j r).1.2)]), (161, .bool false), (164, .int .i64 ((hearT j r).2)), (165, .int .i64 ((hearT j r).2)), (166, .bool false), (169, .agg #[.int .i64 j.p0, .int .i64 j.p1, .int .i64 j.t0, .int .i64 j.t1, .int .i64 j.r0, .int .i64 j.r1, .int .i64 j.u0, .int .i64 j.u1, .int .i64 j.d0, .int .i64 j.d1, .int .i64 j.a0, .int .i64 j.a1, .int .i64 j.b0, .int .i64 j.b1, .int .i64 j.le, .slice Au5 j.sh.length cu5, .int .i64 j.wi, .int .i64 j.me]), (170, .slice (some ⟨gr7_4, 0, none⟩) 4 4), (171, .int .i64 0), (172, .pointer (some ⟨gr7_4, 0, none⟩)), (173, .agg #[.int .i64 j.p0, .int .i64 j.p1, .int .i64 j.t0, .int .i64 j.t1, .int .i64 j.r0, .int .i64 j.r1, .int .i64 j.u0, .int .i64 j.u1, .int .i64 j.d0, .int .i64 j.d1, .int .i64 j.a0, .int .i64 j.a1, .int .i64 j.b0, .int .i64 j.b1, .int .i64 j.le, .slice A j.sh.length c, .int .i64 j.wi, .int .i64 j.me]), (174, .bool true), (175, .bool false)] ∧ Mem w noEx wc ((gr17_12, .cells [.int .i64 ((hearT ju3 xur7_23).1.1), .int .i64 ((hearT ju3 xur7_23).1.2)]) :: (gr16_9, .cells [.int .i64 ((hearT ju3 xur7_23).1.1), .int .i64 ((hearT ju3 xur7_23).1.2)]) :: (g11, .cells [.int .i64 ((windowJ ju3).1.1), .int .i64 ((windowJ ju3).1.2)]) :: (g10, .cells [.int .i64 ((windowJ ju3).1.1), .int .i64 ((windowJ ju3).1.2)]) :: (g9, .cells (jobL ju3 Au13 cu13)) :: (gr7_4, .cells (jobL j A c ++ jobL ju3 Au3 cu3 ++ [.int .i64 ju3.p0, .int .i64 ju3.p1, .int .i64 ju3.t0, .int .i64 ju3.t1, .int .i64 ju3.r0, .int .i64 ju3.r1, .int .i64 ju3.u0, .int .i64 ju3.u1, .int .i64 ju3.d0, .int .i64 ju3.d1, .int .i64 ju3.a0, .int .i64 ju3.a1, .int .i64 ju3.b0, .int .i64 ju3.b1, .int .i64 ju3.le, .slice (some ⟨ga1, 0, none⟩) ((ju3.more y0 y1).sh.length) cga1, .int .i64 ju3.wi, .int .i64 ju3.me] ++ jobL ju3 Au3 cu3)) :: (gr7_26, .cells [.int .i64 r, .int .i64 xur7_23, .int .i64 r, .int .i64 r]) :: (ga1, .row 23 2 (ju3.more y0 y1).sh.length (rc (ju3.more y0 y1).sh) cga1) :: (Iu3 ++ Iu5 ++ Iu13))) ?_ ?_
            · refine g_start2 M (M.mask [true, true, true, true, true, true, true] rfl) 15 (by kernel_rfl) rfl (by kernel_rfl) ?_
              clear M; intro wc M
              refine g_q (T := T) (i := 0) rfl (by kernel_rfl) (by kernel_rfl : (pbits 15 0).setIfInBounds 0 true = pbits 15 1) si_U (fun _ _ _ h => h) rfl rfl rfl rfl (fun _ _ _ _ _ => (rn_move rfl (T.ev 0 rfl))) ?_; clear T ac; intro ac T
              refine g_q (T := T) (i := 1) rfl (by kernel_rfl) (by kernel_rfl : (pbits 15 1).setIfInBounds 1 true = pbits 15 3) si_U (fun _ _ _ h => h) rfl rfl rfl rfl (fun _ _ _ _ _ => (rn_move rfl (T.ev 3 rfl))) ?_; clear T ac; intro ac T
              refine g_q (v := (.pointer (some ⟨gr7_4, 18, none⟩))) (T := T) (i := 2) rfl (by kernel_rfl) (by kernel_rfl : (pbits 15 3).setIfInBounds 2 true = pbits 15 7) si_U (fun _ _ _ h => h) rfl rfl rfl rfl (fun _ _ _ _ _ => (rn_indexAddr (size := 18) 1 rfl (T.ev 1 rfl) (T.ev 0 rfl) ⟨_, Try.underlying36, by kernel_rfl⟩ rfl (by decide) rfl)) ?_; clear T ac; intro ac T
              refine g_q (T := T) (i := 3) rfl (by kernel_rfl) (by kernel_rfl : (pbits 15 7).setIfInBounds 3 true = pbits 15 15) si_U (fun _ _ _ h => h) rfl rfl rfl rfl (fun B w' hD hl hS => (rn_rowO (Mem.nth (show Mem w noEx w' _ from hS) 4 rfl) rfl (T.ev 0 rfl) rfl)) ?_; clear T ac; intro ac T
              refine g_q (T := T) (i := 4) rfl (by kernel_rfl) (by kernel_rfl : (pbits 15 15).setIfInBounds 4 true = pbits 15 31) si_U (fun _ _ _ h => h) rfl rfl rfl rfl (fun _ _ _ _ _ => (rn_move rfl (T.ev 5 rfl))) ?_; clear T ac; intro ac T
              refine g_q (T := T) (i := 5) rfl (by kernel_rfl) (by kernel_rfl : (pbits 15 31).setIfInBounds 5 true = pbits 15 63) si_U (fun _ _ _ h => h) rfl rfl rfl rfl (fun _ _ _ _ _ => (rn_move rfl (T.ev 7 rfl))) ?_; clear T ac; intro ac T
              refine g_q (v := (.pointer (some ⟨gr7_26, 1, none⟩))) (T := T) (i := 6) rfl (by kernel_rfl) (by kernel_rfl : (pbits 15 63).setIfInBounds 6 true = pbits 15 127) si_U (fun _ _ _ h => h) rfl rfl rfl rfl (fun _ _ _ _ _ => (rn_indexAddr (size := 1) 1 rfl (T.ev 1 rfl) (T.ev 0 rfl) ⟨_, Try.underlying31, by kernel_rfl⟩ rfl (by decide) rfl)) ?_; clear T ac; intro ac T
              refine g_q (T := T) (i := 7) rfl (by kernel_rfl) (by kernel_rfl : (pbits 15 127).setIfInBounds 7 true = pbits 15 255) si_U (fun _ _ _ h => h) rfl rfl rfl rfl (fun B w' hD hl hS => (rn_one (Mem.nth (show Mem w noEx w' _ from hS) 5 rfl) rfl (T.ev 0 rfl) rfl)) ?_; clear T ac; intro ac T
              refine g_m2 (i := 8) (j := 12) (by kernel_rfl) ?_ ?_
              · refine g_i rfl (by kernel_rfl : (pbits 15 255).setIfInBounds 8 true = pbits 15 511) rfl ?_; intro K hK
                refine ow_call (first := []) (cap := []) T rfl rfl rfl rfl evf (.cons (T.ev 4 rfl) (.cons (T.ev 0 rfl) .nil)) Try.func48 rfl rfl ?_
                refine Calls.mono (rHear_J ju3 _ _ xur7_23 _ (Su3.rd M (.cons _ (.cons _ (.cons _ (.cons _ (.cons _ (.cons _ (.cons _ (List.Sublist.trans (List.Sublist.trans (List.Sublist.refl _) (List.sublist_append_left _ _)) (List.sublist_append_left _ _)))))))))) (by first | omega | (have := few_more hfewu3 y0 y1; omega))) ?_
                clear T
                rintro e wc ⟨rfl, hb⟩
                intro ac T
                replace M := M.call hb; clear hb
                refine sh_out hK _ _ (M.mask [true, true, true, true, true, true, true] rfl) ?_; clear hK K
                refine g_q (T := T) (i := 9) rfl (by kernel_rfl) (by kernel_rfl : (pbits 15 511).setIfInBounds 9 true = pbits 15 1023) si_U (fun _ _ _ h => h) rfl rfl rfl rfl (fun _ _ _ _ _ => (rn_move rfl (T.ev 0 rfl))) ?_; clear T ac; intro ac T
                refine g_q (T := T) (i := 10) rfl (by kernel_rfl) (by kernel_rfl : (pbits 15 1023).setIfInBounds 10 true = pbits 15 2047) si_U (fun _ _ _ h => h) rfl rfl rfl rfl (fun _ _ _ _ _ => (rn_extract rfl (T.ev 0 rfl) rfl)) ?_; clear T ac; intro ac T
                refine g_q (T := T) (i := 11) rfl (by kernel_rfl) (by kernel_rfl : (pbits 15 2047).setIfInBounds 11 true = pbits 15 4095) si_U (fun _ _ _ h => h) rfl rfl rfl rfl (fun _ _ _ _ _ => (rn_extract rfl (T.ev 1 rfl) rfl)) ?_; clear T ac; intro ac T
                refine g_w (i := 12) (by kernel_rfl) rfl (by kernel_rfl : (pbits 15 4095).setIfInBounds 12 true = pbits 15 8191) rfl ?_; intro K hK
                refine ow_al M T rfl rfl rfl rfl ?_; clear M T; intro gr17_12 wc ac M T
                refine sh_out hK _ _ (M.mask [false, true, true, true, true, true, true, true] rfl) ?_; clear hK K
                refine g_w (i := 13) (by kernel_rfl) rfl (by kernel_rfl : (pbits 15 8191).setIfInBounds 13 true = pbits 15 16383) rfl ?_; intro K hK
                refine ow_stO M T rfl rfl (T.ev 0 rfl) (T.ev 2 rfl) rfl .head rfl (by simp) rfl (by kernel_rfl) ?_; clear M T; intro wc ac M T
                refine sh_out hK _ _ (M.mask [false, true, true, true, true, true, true, true] rfl) ?_; clear hK K
                refine g_q (T := T) (i := 14) rfl (by kernel_rfl) (by kernel_rfl : (pbits 15 16383).setIfInBounds 14 true = pbits 15 32767) si_U (fun _ _ _ h => h) rfl rfl rfl rfl (fun _ _ _ _ _ => (rn_assign rfl (T.ev 1 rfl))) ?_; clear T ac; intro ac T
                refine g_done (by kernel_rfl) ?_
                replace T := T.pick [0, 1, 14, 15, 16, 17, 18, 19, 20, 21, 22, 23, 24, 25, 26, 27, 28, 29, 30, 31, 32, 33, 34, 35, 36, 37, 38, 39, 40, 41, 42, 43, 44, 45, 46, 47, 48, 49, 50, 51, 52] rfl
                exact ⟨gr17_12, (T.pick (E' := [(12, .slice (some ⟨gr7_4, 0, none⟩) 4 4), (13, .slice (some ⟨gr7_26, 0, none⟩) 4 4), (14, .int .i64 1), (15, .pointer (some ⟨g9, 0, none⟩)), (16, .pointer (some ⟨g10, 0, none⟩)), (17, .int .i64 ((windowJ ju3).2)), (18, .pointer (some ⟨g11, 0, none⟩)), (19, .int .i64 ((windowJ ju3).2)), (20, .int .i64 ((passesT ju3).1)), (21, .int .i64 ((passesT ju3).2)), (22, .int .i64 ((passesT ju3).1)), (23, .int .i64 ((passesT ju3).2)), (24, .pointer (some ⟨gr16_9, 0, none⟩)), (25, .int .i64 ((hearT ju3 xur7_23).2)), (26, .pointer (some ⟨gr17_12, 0, none⟩)), (27, .int .i64 ((hearT ju3 xur7_23).2)), (139, .agg #[.int .i64 ((windowJ j).1.1), .int .i64 ((windowJ j).1.2)]), (140, .agg #[.int .i64 ((windowJ j).1.1), .int .i64 ((windowJ j).1.2)]), (141, .bool false), (144, .int .i64 ((windowJ j).2)), (145, .int .i64 ((windowJ j).2)), (146, .bool false), (149, .int .i64 ((passesT j).1)), (150, .int .i64 ((passesT j).1)), (151, .bool false), (154, .int .i64 ((passesT j).2)), (155, .int .i64 ((passesT j).2)), (156, .bool false), (159, .agg #[.int .i64 ((hearT j r).1.1), .int .i64 ((hearT j r).1.2)]), (160, .agg #[.int .i64 ((hearT j r).1.1), .int .i64 ((hearT j r).1.2)]), (161, .bool false), (164, .int .i64 ((hearT j r).2)), (165, .int .i64 ((hearT j r).2)), (166, .bool false), (169, .agg #[.int .i64 j.p0, .int .i64 j.p1, .int .i64 j.t0, .int .i64 j.t1, .int .i64 j.r0, .int .i64 j.r1, .int .i64 j.u0, .int .i64 j.u1, .int .i64 j.d0, .int .i64 j.d1, .int .i64 j.a0, .int .i64 j.a1, .int .i64 j.b0, .int .i64 j.b1, .int .i64 j.le, .slice Au5 j.sh.length cu5, .int .i64 j.wi, .int .i64 j.me]), (170, .slice (some ⟨gr7_4, 0, none⟩) 4 4), (171, .int .i64 0), (172, .pointer (some ⟨gr7_4, 0, none⟩)), (173, .agg #[.int .i64 j.p0, .int .i64 j.p1, .int .i64 j.t0, .int .i64 j.t1, .int .i64 j.r0, .int .i64 j.r1, .int .i64 j.u0, .int .i64 j.u1, .int .i64 j.d0, .int .i64 j.d1, .int .i64 j.a0, .int .i64 j.a1, .int .i64 j.b0, .int .i64 j.b1, .int .i64 j.le, .slice A j.sh.length c, .int .i64 j.wi, .int .i64 j.me]), (174, .bool true), (175, .bool false)]) [2, 3, 4, 5, 6, 7, 8, 9, 10, 11, 12, 13, 14, 15, 1, 0, 16, 17, 18, 19, 20, 21, 22, 23, 24, 25, 26, 27, 28, 29, 30, 31, 32, 33, 34, 35, 36, 37, 38, 39, 40] rfl).as (by rfl), M.mask [true, true, true, true, true, true, true, true] rfl⟩
              · refine g_i rfl (by kernel_rfl : (pbits 15 255).setIfInBounds 12 true = pbits 15 4351) rfl ?_; intro K hK
                refine ow_al M T rfl rfl rfl rfl ?_; clear M T; intro gr17_12 wc ac M T
                refine sh_out hK _ _ (M.mask [false, true, true, true, true, true, true, true] rfl) ?_; clear hK K
                refine g_w (i := 8) (by kernel_rfl) rfl (by kernel_rfl : (pbits 15 4351).setIfInBounds 8 true = pbits 15 4607) rfl ?_; intro K hK
                refine ow_call (first := []) (cap := []) T rfl rfl rfl rfl evf (.cons (T.ev 5 rfl) (.cons (T.ev 1 rfl) .nil)) Try.func48 rfl rfl ?_
                refine Calls.mono (rHear_J ju3 _ _ xur7_23 _ (Su3.rd M (.cons _ (.cons _ (.cons _ (.cons _ (.cons _ (.cons _ (.cons _ (.cons _ (List.Sublist.trans (List.Sublist.trans (List.Sublist.refl _) (List.sublist_append_left _ _)) (List.sublist_append_left _ _))))))))))) (by first | omega | (have := few_more hfewu3 y0 y1; omega))) ?_
                clear T
                rintro e wc ⟨rfl, hb⟩
                intro ac T
                replace M := M.call hb; clear hb
                refine sh_out hK _ _ (M.mask [false, true, true, true, true, true, true, true] rfl) ?_; clear hK K
                refine g_q (T := T) (i := 9) rfl (by kernel_rfl) (by kernel_rfl : (pbits 15 4607).setIfInBounds 9 true = pbits 15 5119) si_U (fun _ _ _ h => h) rfl rfl rfl rfl (fun _ _ _ _ _ => (rn_move rfl (T.ev 0 rfl))) ?_; clear T ac; intro ac T
                refine g_q (T := T) (i := 10) rfl (by kernel_rfl) (by kernel_rfl : (pbits 15 5119).setIfInBounds 10 true = pbits 15 6143) si_U (fun _ _ _ h => h) rfl rfl rfl rfl (fun _ _ _ _ _ => (rn_extract rfl (T.ev 0 rfl) rfl)) ?_; clear T ac; intro ac T
                refine g_q (T := T) (i := 11) rfl (by kernel_rfl) (by kernel_rfl : (pbits 15 6143).setIfInBounds 11 true = pbits 15 8191) si_U (fun _ _ _ h => h) rfl rfl rfl rfl (fun _ _ _ _ _ => (rn_extract rfl (T.ev 1 rfl) rfl)) ?_; clear T ac; intro ac T
                refine g_w (i := 13) (by kernel_rfl) rfl (by kernel_rfl : (pbits 15 8191).setIfInBounds 13 true = pbits 15 16383) rfl ?_; intro K hK
                refine ow_stO M T rfl rfl (T.ev 4 rfl) (T.ev 1 rfl) rfl .head rfl (by simp) rfl (by kernel_rfl) ?_; clear M T; intro wc ac M T
                refine sh_out hK _ _ (M.mask [false, true, true, true, true, true, true, true] rfl) ?_; clear hK K
                refine g_q (T := T) (i := 14) rfl (by kernel_rfl) (by kernel_rfl : (pbits 15 16383).setIfInBounds 14 true = pbits 15 32767) si_U (fun _ _ _ h => h) rfl rfl rfl rfl (fun _ _ _ _ _ => (rn_assign rfl (T.ev 0 rfl))) ?_; clear T ac; intro ac T
                refine g_done (by kernel_rfl) ?_
                replace T := T.pick [0, 5, 14, 15, 16, 17, 18, 19, 20, 21, 22, 23, 24, 25, 26, 27, 28, 29, 30, 31, 32, 33, 34, 35, 36, 37, 38, 39, 40, 41, 42, 43, 44, 45, 46, 47, 48, 49, 50, 51, 52] rfl
                exact ⟨gr17_12, (T.pick (E' := [(12, .slice (some ⟨gr7_4, 0, none⟩) 4 4), (13, .slice (some ⟨gr7_26, 0, none⟩) 4 4), (14, .int .i64 1), (15, .pointer (some ⟨g9, 0, none⟩)), (16, .pointer (some ⟨g10, 0, none⟩)), (17, .int .i64 ((windowJ ju3).2)), (18, .pointer (some ⟨g11, 0, none⟩)), (19, .int .i64 ((windowJ ju3).2)), (20, .int .i64 ((passesT ju3).1)), (21, .int .i64 ((passesT ju3).2)), (22, .int .i64 ((passesT ju3).1)), (23, .int .i64 ((passesT ju3).2)), (24, .pointer (some ⟨gr16_9, 0, none⟩)), (25, .int .i64 ((hearT ju3 xur7_23).2)), (26, .pointer (some ⟨gr17_12, 0, none⟩)), (27, .int .i64 ((hearT ju3 xur7_23).2)), (139, .agg #[.int .i64 ((windowJ j).1.1), .int .i64 ((windowJ j).1.2)]), (140, .agg #[.int .i64 ((windowJ j).1.1), .int .i64 ((windowJ j).1.2)]), (141, .bool false), (144, .int .i64 ((windowJ j).2)), (145, .int .i64 ((windowJ j).2)), (146, .bool false), (149, .int .i64 ((passesT j).1)), (150, .int .i64 ((passesT j).1)), (151, .bool false), (154, .int .i64 ((passesT j).2)), (155, .int .i64 ((passesT j).2)), (156, .bool false), (159, .agg #[.int .i64 ((hearT j r).1.1), .int .i64 ((hearT j r).1.2)]), (160, .agg #[.int .i64 ((hearT j r).1.1), .int .i64 ((hearT j r).1.2)]), (161, .bool false), (164, .int .i64 ((hearT j r).2)), (165, .int .i64 ((hearT j r).2)), (166, .bool false), (169, .agg #[.int .i64 j.p0, .int .i64 j.p1, .int .i64 j.t0, .int .i64 j.t1, .int .i64 j.r0, .int .i64 j.r1, .int .i64 j.u0, .int .i64 j.u1, .int .i64 j.d0, .int .i64 j.d1, .int .i64 j.a0, .int .i64 j.a1, .int .i64 j.b0, .int .i64 j.b1, .int .i64 j.le, .slice Au5 j.sh.length cu5, .int .i64 j.wi, .int .i64 j.me]), (170, .slice (some ⟨gr7_4, 0, none⟩) 4 4), (171, .int .i64 0), (172, .pointer (some ⟨gr7_4, 0, none⟩)), (173, .agg #[.int .i64 j.p0, .int .i64 j.p1, .int .i64 j.t0, .int .i64 j.t1, .int .i64 j.r0, .int .i64 j.r1, .int .i64 j.u0, .int .i64 j.u1, .int .i64 j.d0, .int .i64 j.d1, .int .i64 j.a0, .int .i64 j.a1, .int .i64 j.b0, .int .i64 j.b1, .int .i64 j.le, .slice A j.sh.length c, .int .i64 j.wi, .int .i64 j.me]), (174, .bool true), (175, .bool false)]) [2, 3, 4, 5, 6, 7, 8, 9, 10, 11, 12, 13, 14, 15, 1, 0, 16, 17, 18, 19, 20, 21, 22, 23, 24, 25, 26, 27, 28, 29, 30, 31, 32, 33, 34, 35, 36, 37, 38, 39, 40] rfl).as (by rfl), M.mask [true, true, true, true, true, true, true, true] rfl⟩
            · clear T M
              rintro ac wc ⟨gr17_12, T, M⟩
              refine wp_seq ?_
              refine g_start2 M (M.mask [true, true, true, true, true, true, true, true] rfl) 47 (by kernel_rfl) rfl (by kernel_rfl) ?_
              clear M; intro wc M
              refine g_q (T := T) (i := 0) rfl (by kernel_rfl) (by kernel_rfl : (pbits 47 0).setIfInBounds 0 true = pbits 47 1) si_U (fun _ _ _ h => h) rfl rfl rfl rfl (fun B w' hD hl hS => (rn_rowO (Mem.nth (show Mem w noEx w' _ from hS) 4 rfl) rfl (T.ev 3 rfl) rfl)) ?_; clear T ac; intro ac T
              refine g_q (T := T) (i := 2) rfl (by kernel_rfl) (by kernel_rfl : (pbits 47 1).setIfInBounds 2 true = pbits 47 5) si_U (fun _ _ _ h => h) rfl rfl rfl rfl (fun _ _ _ _ _ => (rn_move rfl (T.ev 1 rfl))) ?_; clear T ac; intro ac T
              refine g_q (T := T) (i := 3) rfl (by kernel_rfl) (by kernel_rfl : (pbits 47 5).setIfInBounds 3 true = pbits 47 13) si_U (fun _ _ _ h => h) rfl rfl rfl rfl (fun _ _ _ _ _ => (rn_move rfl (T.ev 4 rfl))) ?_; clear T ac; intro ac T
              refine g_q (v := (.pointer (some ⟨gr7_4, 18, none⟩))) (T := T) (i := 4) rfl (by kernel_rfl) (by kernel_rfl : (pbits 47 13).setIfInBounds 4 true = pbits 47 29) si_U (fun _ _ _ h => h) rfl rfl rfl rfl (fun _ _ _ _ _ => (rn_indexAddr (size := 18) 1 rfl (T.ev 1 rfl) (T.ev 0 rfl) ⟨_, Try.underlying36, by kernel_rfl⟩ rfl (by decide) rfl)) ?_; clear T ac; intro ac T
              refine g_q (T := T) (i := 5) rfl (by kernel_rfl) (by kernel_rfl : (pbits 47 29).setIfInBounds 5 true = pbits 47 61) si_U (fun _ _ _ h => h) rfl rfl rfl rfl (fun B w' hD hl hS => (rn_rowO (Mem.nth (show Mem w noEx w' _ from hS) 5 rfl) rfl (T.ev 0 rfl) rfl)) ?_; clear T ac; intro ac T
              refine g_w (i := 1) (by kernel_rfl) rfl (by kernel_rfl : (pbits 47 61).setIfInBounds 1 true = pbits 47 63) rfl ?_; intro K hK
              refine ow_call (first := []) (cap := []) T rfl rfl rfl rfl evf (.cons (T.ev 4 rfl) .nil) Try.func49 rfl rfl ?_
              refine Calls.mono (check_any ju3 _ _ _ (Su13.rd M (.cons _ (.cons _ (.cons _ (.cons _ (.cons _ (.cons _ (.cons _ (.cons _ (List.sublist_append_right _ _)))))))))) (by first | omega | (have := few_more hfewu3 y0 y1; omega))) ?_
              clear T
              rintro e wc ⟨rfl, hb⟩
              intro ac T
              replace M := M.call hb; clear hb
              refine sh_out hK _ _ (M.mask [true, true, true, true, true, true, true, true] rfl) ?_; clear hK K
              refine g_addU M ?_
              refine g_w (i := 6) (by kernel_rfl) rfl (by kernel_rfl : (pbits 47 63).setIfInBounds 6 true = pbits 47 127) rfl ?_; intro K hK
              refine ow_call (first := []) (cap := []) T rfl rfl rfl rfl evf (.cons (T.ev 1 rfl) .nil) Try.func50 rfl rfl ?_
              refine Calls.mono (rCheck_any ju3 _ _ _ (Su3.rd M (.cons _ (.cons _ (.cons _ (.cons _ (.cons _ (.cons _ (.cons _ (.cons _ (List.Sublist.trans (List.Sublist.trans (List.Sublist.refl _) (List.sublist_append_left _ _)) (List.sublist_append_left _ _))))))))))) (by first | omega | (have := few_more hfewu3 y0 y1; omega))) ?_
              clear T
              rintro e wc ⟨rfl, hb⟩
              intro ac T
              replace M := M.call hb; clear hb
              refine sh_out hK _ _ (MA.mk (M.mask [true, true, true, true, true, true, true, true] rfl) (M.mask [true, true, true, true, true, true, true, true] rfl)) ?_; clear hK K
              refine g_addU M ?_
              refine g_q (v := (.bool false)) (T := T) (i := 7) rfl (by kernel_rfl) (by kernel_rfl : (pbits 47 127).setIfInBounds 7 true = pbits 47 255) (si_and si_U (si_and si_U si_U)) (fun _ _ _ h => h) rfl rfl rfl rfl (fun _ _ _ _ _ => (rn_neqof (rn_neq rfl (T.ev 1 rfl) (T.ev 0 rfl)) (by simp))) ?_; clear T ac; intro ac T
              refine g_q (T := T) (i := 8) rfl (by kernel_rfl) (by kernel_rfl : (pbits 47 255).setIfInBounds 8 true = pbits 47 511) (si_and si_U (si_and si_U si_U)) (fun _ _ _ h => h) rfl rfl rfl rfl (fun _ _ _ _ _ => (rn_move rfl (T.ev 0 rfl))) ?_; clear T ac; intro ac T
              refine g_q (v := (.agg #[.int .i64 ((windowJ ju3).1.1), .int .i64 ((windowJ ju3).1.2)])) (T := T.pick [0, 1, 2, 3, 4, 5, 6, 7, 8, 9, 10, 11, 12, 13, 14, 15, 16, 17, 18, 19, 20, 21, 22, 23, 24, 26, 27, 28, 29, 30, 31, 32, 33, 34, 35, 36, 37, 38, 39, 40, 41, 42, 43, 44, 45, 46, 47, 48, 49] rfl) (i := 9) rfl (by kernel_rfl) (by kernel_rfl : (pbits 47 511).setIfInBounds 9 true = pbits 47 1023) (si_and si_U (si_and si_U si_U)) (fun _ _ _ h => h) (wanted_yes rfl rfl (T.ev 0 rfl) rfl) rfl rfl rfl (fun B w' hD hl hS => (rn_rowO (Mem.nth (show Mem w noEx w' _ from (MA.lft hS)) 3 rfl) rfl (T.ev 13 rfl) rfl)) ?_; clear T ac; intro ac T
              refine g_q (v := (.agg #[.int .i64 ((windowJ ju3).1.1), .int .i64 ((windowJ ju3).1.2)])) (T := T.pick [0, 1, 2, 3, 4, 5, 6, 7, 8, 9, 10, 11, 12, 13, 14, 15, 16, 17, 18, 19, 20, 21, 22, 23, 24, 25, 27, 28, 29, 30, 31, 32, 33, 34, 35, 36, 37, 38, 39, 40, 41, 42, 43, 44, 45, 46, 47, 48, 49] rfl) (i := 10) rfl (by kernel_rfl) (by kernel_rfl : (pbits 47 1023).setIfInBounds 10 true = pbits 47 2047) (si_and si_U (si_and si_U si_U)) (fun _ _ _ h => h) (wanted_yes rfl rfl (T.ev 1 rfl) rfl) rfl rfl rfl (fun B w' hD hl hS => (rn_rowO (Mem.nth (show Mem w noEx w' _ from (MA.lft hS)) 2 rfl) rfl (T.ev 16 rfl) rfl)) ?_; clear T ac; intro ac T
              refine g_q (v := (.bool false)) (T := T.pick [0, 1, 2, 3, 4, 5, 6, 7, 8, 9, 10, 11, 12, 13, 14, 15, 16, 17, 18, 19, 20, 21, 22, 23, 24, 25, 26, 28, 29, 30, 31, 32, 33, 34, 35, 36, 37, 38, 39, 40, 41, 42, 43, 44, 45, 46, 47, 48, 49] rfl) (i := 11) rfl (by kernel_rfl) (by kernel_rfl : (pbits 47 2047).setIfInBounds 11 true = pbits 47 4095) (si_and si_U (si_and si_U si_U)) (fun _ _ _ h => h) (wanted_yes rfl rfl (T.ev 2 rfl) rfl) rfl rfl rfl (fun _ _ _ _ _ => (rn_neqof (rn_bin rfl (T.ev 1 rfl) (T.ev 0 rfl) neT23) (by simp))) ?_; clear T ac; intro ac T
              refine g_q (T := T) (i := 12) rfl (by kernel_rfl) (by kernel_rfl : (pbits 47 4095).setIfInBounds 12 true = pbits 47 8191) (si_and si_U (si_and si_U si_U)) (fun _ _ _ h => h) rfl rfl rfl rfl (fun _ _ _ _ _ => (rn_pick0 rfl (T.ev 3 rfl) rfl (T.ev 0 rfl))) ?_; clear T ac; intro ac T
              refine g_q (T := T) (i := 13) rfl (by kernel_rfl) (by kernel_rfl : (pbits 47 8191).setIfInBounds 13 true = pbits 47 16383) (si_and si_U (si_and si_U si_U)) (fun _ _ _ h => h) rfl rfl rfl rfl (fun _ _ _ _ _ => (rn_move rfl (T.ev 0 rfl))) ?_; clear T ac; intro ac T
              refine g_q (v := (.int .i64 ((windowJ ju3).2))) (T := T.pick [0, 1, 2, 3, 4, 5, 6, 7, 8, 9, 10, 11, 12, 13, 14, 15, 16, 17, 18, 19, 20, 21, 22, 23, 24, 25, 26, 27, 28, 29, 31, 32, 33, 34, 35, 36, 37, 38, 39, 40, 41, 42, 43, 44, 45, 46, 47, 48, 49, 50, 51] rfl) (i := 14) rfl (by kernel_rfl) (by kernel_rfl : (pbits 47 16383).setIfInBounds 14 true = pbits 47 32767) (si_and si_U (si_and si_U si_U)) (fun _ _ _ h => h) (wanted_yes rfl rfl (T.ev 0 rfl) rfl) rfl rfl rfl (fun _ _ _ _ _ => (rn_move rfl (T.ev 19 rfl))) ?_; clear T ac; intro ac T
              refine g_q (v := (.int .i64 ((windowJ ju3).2))) (T := T.pick [0, 1, 2, 3, 4, 5, 6, 7, 8, 9, 10, 11, 12, 13, 14, 15, 16, 17, 18, 19, 20, 21, 22, 23, 24, 25, 26, 27, 28, 29, 30, 32, 33, 34, 35, 36, 37, 38, 39, 40, 41, 42, 43, 44, 45, 46, 47, 48, 49, 50, 51] rfl) (i := 15) rfl (by kernel_rfl) (by kernel_rfl : (pbits 47 32767).setIfInBounds 15 true = pbits 47 65535) (si_and si_U (si_and si_U si_U)) (fun _ _ _ h => h) (wanted_yes rfl rfl (T.ev 1 rfl) rfl) rfl rfl rfl (fun _ _ _ _ _ => (rn_move rfl (T.ev 22 rfl))) ?_; clear T ac; intro ac T
              refine g_q (v := (.bool false)) (T := T.pick [0, 1, 2, 3, 4, 5, 6, 7, 8, 9, 10, 11, 12, 13, 14, 15, 16, 17, 18, 19, 20, 21, 22, 23, 24, 25, 26, 27, 28, 29, 30, 31, 33, 34, 35, 36, 37, 38, 39, 40, 41, 42, 43, 44, 45, 46, 47, 48, 49, 50, 51] rfl) (i := 16) rfl (by kernel_rfl) (by kernel_rfl : (pbits 47 65535).setIfInBounds 16 true = pbits 47 131071) (si_and si_U (si_and si_U si_U)) (fun _ _ _ h => h) (wanted_yes rfl rfl (T.ev 2 rfl) rfl) rfl rfl rfl (fun _ _ _ _ _ => (rn_neqof (rn_neq rfl (T.ev 1 rfl) (T.ev 0 rfl)) (by simp))) ?_; clear T ac; intro ac T
              refine g_q (T := T) (i := 17) rfl (by kernel_rfl) (by kernel_rfl : (pbits 47 131071).setIfInBounds 17 true = pbits 47 262143) (si_and si_U (si_and si_U si_U)) (fun _ _ _ h => h) rfl rfl rfl rfl (fun _ _ _ _ _ => (rn_pick0 rfl (T.ev 3 rfl) rfl (T.ev 0 rfl))) ?_; clear T ac; intro ac T
              refine g_q (T := T) (i := 18) rfl (by kernel_rfl) (by kernel_rfl : (pbits 47 262143).setIfInBounds 18 true = pbits 47 524287) (si_and si_U (si_and si_U si_U)) (fun _ _ _ h => h) rfl rfl rfl rfl (fun _ _ _ _ _ => (rn_move rfl (T.ev 0 rfl))) ?_; clear T ac; intro ac T
              refine g_q (v := (.int .i64 ((passesT ju3).1))) (T := T.pick [0, 1, 2, 3, 4, 5, 6, 7, 8, 9, 10, 11, 12, 13, 14, 15, 16, 17, 18, 19, 20, 21, 22, 23, 24, 25, 26, 27, 28, 29, 30, 31, 32, 33, 34, 36, 37, 38, 39, 40, 41, 42, 43, 44, 45, 46, 47, 48, 49, 50, 51, 52, 53] rfl) (i := 19) rfl (by kernel_rfl) (by kernel_rfl : (pbits 47 524287).setIfInBounds 19 true = pbits 47 1048575) (si_and si_U (si_and si_U si_U)) (fun _ _ _ h => h) (wanted_yes rfl rfl (T.ev 0 rfl) rfl) rfl rfl rfl (fun _ _ _ _ _ => (rn_move rfl (T.ev 27 rfl))) ?_; clear T ac; intro ac T
              refine g_q (v := (.int .i64 ((passesT ju3).1))) (T := T.pick [0, 1, 2, 3, 4, 5, 6, 7, 8, 9, 10, 11, 12, 13, 14, 15, 16, 17, 18, 19, 20, 21, 22, 23, 24, 25, 26, 27, 28, 29, 30, 31, 32, 33, 34, 35, 37, 38, 39, 40, 41, 42, 43, 44, 45, 46, 47, 48, 49, 50, 51, 52, 53] rfl) (i := 20) rfl (by kernel_rfl) (by kernel_rfl : (pbits 47 1048575).setIfInBounds 20 true = pbits 47 2097151) (si_and si_U (si_and si_U si_U)) (fun _ _ _ h => h) (wanted_yes rfl rfl (T.ev 1 rfl) rfl) rfl rfl rfl (fun _ _ _ _ _ => (rn_move rfl (T.ev 30 rfl))) ?_; clear T ac; intro ac T
              refine g_q (v := (.bool false)) (T := T.pick [0, 1, 2, 3, 4, 5, 6, 7, 8, 9, 10, 11, 12, 13, 14, 15, 16, 17, 18, 19, 20, 21, 22, 23, 24, 25, 26, 27, 28, 29, 30, 31, 32, 33, 34, 35, 36, 38, 39, 40, 41, 42, 43, 44, 45, 46, 47, 48, 49, 50, 51, 52, 53] rfl) (i := 21) rfl (by kernel_rfl) (by kernel_rfl : (pbits 47 2097151).setIfInBounds 21 true = pbits 47 4194303) (si_and si_U (si_and si_U si_U)) (fun _ _ _ h => h) (wanted_yes rfl rfl (T.ev 2 rfl) rfl) rfl rfl rfl (fun _ _ _ _ _ => (rn_neqof (rn_neq rfl (T.ev 1 rfl) (T.ev 0 rfl)) (by simp))) ?_; clear T ac; intro ac T
              refine g_q (T := T) (i := 22) rfl (by kernel_rfl) (by kernel_rfl : (pbits 47 4194303).setIfInBounds 22 true = pbits 47 8388607) (si_and si_U (si_and si_U si_U)) (fun _ _ _ h => h) rfl rfl rfl rfl (fun _ _ _ _ _ => (rn_pick0 rfl (T.ev 3 rfl) rfl (T.ev 0 rfl))) ?_; clear T ac; intro ac T
              refine g_q (T := T) (i := 23) rfl (by kernel_rfl) (by kernel_rfl : (pbits 47 8388607).setIfInBounds 23 true = pbits 47 16777215) (si_and si_U (si_and si_U si_U)) (fun _ _ _ h => h) rfl rfl rfl rfl (fun _ _ _ _ _ => (rn_move rfl (T.ev 0 rfl))) ?_; clear T ac; intro ac T
              refine g_q (v := (.int .i64 ((passesT ju3).2))) (T := T.pick [0, 1, 2, 3, 4, 5, 6, 7, 8, 9, 10, 11, 12, 13, 14, 15, 16, 17, 18, 19, 20, 21, 22, 23, 24, 25, 26, 27, 28, 29, 30, 31, 32, 33, 34, 35, 36, 37, 38, 39, 41, 42, 43, 44, 45, 46, 47, 48, 49, 50, 51, 52, 53, 54, 55] rfl) (i := 24) rfl (by kernel_rfl) (by kernel_rfl : (pbits 47 16777215).setIfInBounds 24 true = pbits 47 33554431) (si_and si_U (si_and si_U si_U)) (fun _ _ _ h => h) (wanted_yes rfl rfl (T.ev 0 rfl) rfl) rfl rfl rfl (fun _ _ _ _ _ => (rn_move rfl (T.ev 33 rfl))) ?_; clear T ac; intro ac T
              refine g_q (v := (.int .i64 ((passesT ju3).2))) (T := T.pick [0, 1, 2, 3, 4, 5, 6, 7, 8, 9, 10, 11, 12, 13, 14, 15, 16, 17, 18, 19, 20, 21, 22, 23, 24, 25, 26, 27, 28, 29, 30, 31, 32, 33, 34, 35, 36, 37, 38, 39, 40, 42, 43, 44, 45, 46, 47, 48, 49, 50, 51, 52, 53, 54, 55] rfl) (i := 25) rfl (by kernel_rfl) (by kernel_rfl : (pbits 47 33554431).setIfInBounds 25 true = pbits 47 67108863) (si_and si_U (si_and si_U si_U)) (fun _ _ _ h => h) (wanted_yes rfl rfl (T.ev 1 rfl) rfl) rfl rfl rfl (fun _ _ _ _ _ => (rn_move rfl (T.ev 36 rfl))) ?_; clear T ac; intro ac T
              refine g_q (v := (.bool false)) (T := T.pick [0, 1, 2, 3, 4, 5, 6, 7, 8, 9, 10, 11, 12, 13, 14, 15, 16, 17, 18, 19, 20, 21, 22, 23, 24, 25, 26, 27, 28, 29, 30, 31, 32, 33, 34, 35, 36, 37, 38, 39, 40, 41, 43, 44, 45, 46, 47, 48, 49, 50, 51, 52, 53, 54, 55] rfl) (i := 26) rfl (by kernel_rfl) (by kernel_rfl : (pbits 47 67108863).setIfInBounds 26 true = pbits 47 134217727) (si_and si_U (si_and si_U si_U)) (fun _ _ _ h => h) (wanted_yes rfl rfl (T.ev 2 rfl) rfl) rfl rfl rfl (fun _ _ _ _ _ => (rn_neqof (rn_neq rfl (T.ev 1 rfl) (T.ev 0 rfl)) (by simp))) ?_; clear T ac; intro ac T
              refine g_q (T := T) (i := 27) rfl (by kernel_rfl) (by kernel_rfl : (pbits 47 134217727).setIfInBounds 27 true = pbits 47 268435455) (si_and si_U (si_and si_U si_U)) (fun _ _ _ h => h) rfl rfl rfl rfl (fun _ _ _ _ _ => (rn_pick0 rfl (T.ev 3 rfl) rfl (T.ev 0 rfl))) ?_; clear T ac; intro ac T
              refine g_q (T := T) (i := 28) rfl (by kernel_rfl) (by kernel_rfl : (pbits 47 268435455).setIfInBounds 28 true = pbits 47 536870911) (si_and si_U (si_and si_U si_U)) (fun _ _ _ h => h) rfl rfl rfl rfl (fun _ _ _ _ _ => (rn_move rfl (T.ev 0 rfl))) ?_; clear T ac; intro ac T
              refine g_q (v := (.agg #[.int .i64 ((hearT ju3 xur7_23).1.1), .int .i64 ((hearT ju3 xur7_23).1.2)])) (T := T.pick [0, 1, 2, 3, 4, 5, 6, 7, 8, 9, 10, 11, 12, 13, 14, 15, 16, 17, 18, 19, 20, 21, 22, 23, 24, 25, 26, 27, 28, 29, 30, 31, 32, 33, 34, 35, 36, 37, 38, 39, 40, 41, 42, 43, 44, 46, 47, 48, 49, 50, 51, 52, 53, 54, 55, 56, 57] rfl) (i := 29) rfl (by kernel_rfl) (by kernel_rfl : (pbits 47 536870911).setIfInBounds 29 true = pbits 47 1073741823) (si_and si_U (si_and si_U si_U)) (fun _ _ _ h => h) (wanted_yes rfl rfl (T.ev 0 rfl) rfl) rfl rfl rfl (fun B w' hD hl hS => (rn_rowO (Mem.nth (show Mem w noEx w' _ from (MA.lft hS)) 1 rfl) rfl (T.ev 41 rfl) rfl)) ?_; clear T ac; intro ac T
              refine g_q (v := (.agg #[.int .i64 ((hearT ju3 xur7_23).1.1), .int .i64 ((hearT ju3 xur7_23).1.2)])) (T := T.pick [0, 1, 2, 3, 4, 5, 6, 7, 8, 9, 10, 11, 12, 13, 14, 15, 16, 17, 18, 19, 20, 21, 22, 23, 24, 25, 26, 27, 28, 29, 30, 31, 32, 33, 34, 35, 36, 37, 38, 39, 40, 41, 42, 43, 44, 45, 47, 48, 49, 50, 51, 52, 53, 54, 55, 56, 57] rfl) (i := 30) rfl (by kernel_rfl) (by kernel_rfl : (pbits 47 1073741823).setIfInBounds 30 true = pbits 47 2147483647) (si_and si_U (si_and si_U si_U)) (fun _ _ _ h => h) (wanted_yes rfl rfl (T.ev 1 rfl) rfl) rfl rfl rfl (fun B w' hD hl hS => (rn_rowO (Mem.nth (show Mem w noEx w' _ from (MA.lft hS)) 0 rfl) rfl (T.ev 44 rfl) rfl)) ?_; clear T ac; intro ac T
              refine g_q (v := (.bool false)) (T := T.pick [0, 1, 2, 3, 4, 5, 6, 7, 8, 9, 10, 11, 12, 13, 14, 15, 16, 17, 18, 19, 20, 21, 22, 23, 24, 25, 26, 27, 28, 29, 30, 31, 32, 33, 34, 35, 36, 37, 38, 39, 40, 41, 42, 43, 44, 45, 46, 48, 49, 50, 51, 52, 53, 54, 55, 56, 57] rfl) (i := 31) rfl (by kernel_rfl) (by kernel_rfl : (pbits 47 2147483647).setIfInBounds 31 true = pbits 47 4294967295) (si_and si_U (si_and si_U si_U)) (fun _ _ _ h => h) (wanted_yes rfl rfl (T.ev 2 rfl) rfl) rfl rfl rfl (fun _ _ _ _ _ => (rn_neqof (rn_bin rfl (T.ev 1 rfl) (T.ev 0 rfl) neT23) (by simp))) ?_; clear T ac; intro ac T
              refine g_q (T := T) (i := 32) rfl (by kernel_rfl) (by kernel_rfl : (pbits 47 4294967295).setIfInBounds 32 true = pbits 47 8589934591) (si_and si_U (si_and si_U si_U)) (fun _ _ _ h => h) rfl rfl rfl rfl (fun _ _ _ _ _ => (rn_pick0 rfl (T.ev 3 rfl) rfl (T.ev 0 rfl))) ?_; clear T ac; intro ac T
              refine g_q (T := T) (i := 33) rfl (by kernel_rfl) (by kernel_rfl : (pbits 47 8589934591).setIfInBounds 33 true = pbits 47 17179869183) (si_and si_U (si_and si_U si_U)) (fun _ _ _ h => h) rfl rfl rfl rfl (fun _ _ _ _ _ => (rn_move rfl (T.ev 0 rfl))) ?_; clear T ac; intro ac T
              refine g_q (v := (.int .i64 ((hearT ju3 xur7_23).2))) (T := T.pick [0, 1, 2, 3, 4, 5, 6, 7, 8, 9, 10, 11, 12, 13, 14, 15, 16, 17, 18, 19, 20, 21, 22, 23, 24, 25, 26, 27, 28, 29, 30, 31, 32, 33, 34, 35, 36, 37, 38, 39, 40, 41, 42, 43, 44, 45, 46, 47, 48, 49, 51, 52, 53, 54, 55, 56, 57, 58, 59] rfl) (i := 34) rfl (by kernel_rfl) (by kernel_rfl : (pbits 47 17179869183).setIfInBounds 34 true = pbits 47 34359738367) (si_and si_U (si_and si_U si_U)) (fun _ _ _ h => h) (wanted_yes rfl rfl (T.ev 0 rfl) rfl) rfl rfl rfl (fun _ _ _ _ _ => (rn_move rfl (T.ev 47 rfl))) ?_; clear T ac; intro ac T
              refine g_q (v := (.int .i64 ((hearT ju3 xur7_23).2))) (T := T.pick [0, 1, 2, 3, 4, 5, 6, 7, 8, 9, 10, 11, 12, 13, 14, 15, 16, 17, 18, 19, 20, 21, 22, 23, 24, 25, 26, 27, 28, 29, 30, 31, 32, 33, 34, 35, 36, 37, 38, 39, 40, 41, 42, 43, 44, 45, 46, 47, 48, 49, 50, 52, 53, 54, 55, 56, 57, 58, 59] rfl) (i := 35) rfl (by kernel_rfl) (by kernel_rfl : (pbits 47 34359738367).setIfInBounds 35 true = pbits 47 68719476735) (si_and si_U (si_and si_U si_U)) (fun _ _ _ h => h) (wanted_yes rfl rfl (T.ev 1 rfl) rfl) rfl rfl rfl (fun _ _ _ _ _ => (rn_move rfl (T.ev 50 rfl))) ?_; clear T ac; intro ac T
              refine g_q (v := (.bool false)) (T := T.pick [0, 1, 2, 3, 4, 5, 6, 7, 8, 9, 10, 11, 12, 13, 14, 15, 16, 17, 18, 19, 20, 21, 22, 23, 24, 25, 26, 27, 28, 29, 30, 31, 32, 33, 34, 35, 36, 37, 38, 39, 40, 41, 42, 43, 44, 45, 46, 47, 48, 49, 50, 51, 53, 54, 55, 56, 57, 58, 59] rfl) (i := 36) rfl (by kernel_rfl) (by kernel_rfl : (pbits 47 68719476735).setIfInBounds 36 true = pbits 47 137438953471) (si_and si_U (si_and si_U si_U)) (fun _ _ _ h => h) (wanted_yes rfl rfl (T.ev 2 rfl) rfl) rfl rfl rfl (fun _ _ _ _ _ => (rn_neqof (rn_neq rfl (T.ev 1 rfl) (T.ev 0 rfl)) (by simp))) ?_; clear T ac; intro ac T
              refine g_q (T := T) (i := 37) rfl (by kernel_rfl) (by kernel_rfl : (pbits 47 137438953471).setIfInBounds 37 true = pbits 47 274877906943) (si_and si_U (si_and si_U si_U)) (fun _ _ _ h => h) rfl rfl rfl rfl (fun _ _ _ _ _ => (rn_pick0 rfl (T.ev 3 rfl) rfl (T.ev 0 rfl))) ?_; clear T ac; intro ac T
              refine g_q (T := T) (i := 38) rfl (by kernel_rfl) (by kernel_rfl : (pbits 47 274877906943).setIfInBounds 38 true = pbits 47 549755813887) (si_and si_U (si_and si_U si_U)) (fun _ _ _ h => h) rfl rfl rfl rfl (fun _ _ _ _ _ => (rn_move rfl (T.ev 0 rfl))) ?_; clear T ac; intro ac T
              refine g_q (v := (.agg #[.int .i64 ju3.p0, .int .i64 ju3.p1, .int .i64 ju3.t0, .int .i64 ju3.t1, .int .i64 ju3.r0, .int .i64 ju3.r1, .int .i64 ju3.u0, .int .i64 ju3.u1, .int .i64 ju3.d0, .int .i64 ju3.d1, .int .i64 ju3.a0, .int .i64 ju3.a1, .int .i64 ju3.b0, .int .i64 ju3.b1, .int .i64 ju3.le, .slice Au13 ju3.sh.length cu13, .int .i64 ju3.wi, .int .i64 ju3.me])) (T := T.pick [0, 1, 2, 3, 4, 5, 6, 7, 8, 9, 10, 11, 12, 13, 14, 15, 16, 17, 18, 19, 20, 21, 22, 23, 24, 25, 26, 27, 28, 29, 30, 31, 32, 33, 34, 35, 36, 37, 38, 39, 40, 41, 42, 43, 44, 45, 46, 47, 48, 49, 50, 51, 52, 53, 54, 56, 57, 58, 59, 60, 61] rfl) (i := 39) rfl (by kernel_rfl) (by kernel_rfl : (pbits 47 549755813887).setIfInBounds 39 true = pbits 47 1099511627775) (si_and si_U (si_and si_U si_U)) (fun _ _ _ h => h) (wanted_yes rfl rfl (T.ev 0 rfl) rfl) rfl rfl rfl (fun B w' hD hl hS => (rn_rowO (Mem.nth (show Mem w noEx w' _ from (MA.lft hS)) 4 rfl) rfl (T.ev 42 rfl) rfl)) ?_; clear T ac; intro ac T
              refine g_q (v := (.slice (some ⟨gr7_4, 0, none⟩) 4 4)) (T := T.pick [0, 1, 2, 3, 4, 5, 6, 7, 8, 9, 10, 11, 12, 13, 14, 15, 16, 17, 18, 19, 20, 21, 22, 23, 24, 25, 26, 27, 28, 29, 30, 31, 32, 33, 34, 35, 36, 37, 38, 39, 40, 41, 42, 43, 44, 45, 46, 47, 48, 49, 50, 51, 52, 53, 54, 55, 57, 58, 59, 60, 61] rfl) (i := 40) rfl (by kernel_rfl) (by kernel_rfl : (pbits 47 1099511627775).setIfInBounds 40 true = pbits 47 2199023255551) (si_and si_U (si_and si_U si_U)) (fun _ _ _ h => h) (wanted_yes rfl rfl (T.ev 1 rfl) rfl) rfl rfl rfl (fun _ _ _ _ _ => (rn_move rfl (T.ev 40 rfl))) ?_; clear T ac; intro ac T
              refine g_q (v := (.int .i64 1)) (T := T.pick [0, 1, 2, 3, 4, 5, 6, 7, 8, 9, 10, 11, 12, 13, 14, 15, 16, 17, 18, 19, 20, 21, 22, 23, 24, 25, 26, 27, 28, 29, 30, 31, 32, 33, 34, 35, 36, 37, 38, 39, 40, 41, 42, 43, 44, 45, 46, 47, 48, 49, 50, 51, 52, 53, 54, 55, 56, 58, 59, 60, 61] rfl) (i := 41) rfl (by kernel_rfl) (by kernel_rfl : (pbits 47 2199023255551).setIfInBounds 41 true = pbits 47 4398046511103) (si_and si_U (si_and si_U si_U)) (fun _ _ _ h => h) (wanted_yes rfl rfl (T.ev 2 rfl) rfl) rfl rfl rfl (fun _ _ _ _ _ => (rn_move rfl (T.ev 43 rfl))) ?_; clear T ac; intro ac T
              refine g_q (v := (.pointer (some ⟨gr7_4, 18, none⟩))) (T := T.pick [0, 1, 2, 3, 4, 5, 6, 7, 8, 9, 10, 11, 12, 13, 14, 15, 16, 17, 18, 19, 20, 21, 22, 23, 24, 25, 26, 27, 28, 29, 30, 31, 32, 33, 34, 35, 36, 37, 38, 39, 40, 41, 42, 43, 44, 45, 46, 47, 48, 49, 50, 51, 52, 53, 54, 55, 56, 57, 59, 60, 61] rfl) (i := 42) rfl (by kernel_rfl) (by kernel_rfl : (pbits 47 4398046511103).setIfInBounds 42 true = pbits 47 8796093022207) (si_and si_U (si_and si_U si_U)) (fun _ _ _ h => h) (wanted_yes rfl rfl (T.ev 3 rfl) rfl) rfl rfl rfl (fun _ _ _ _ _ => (rn_indexAddr (size := 18) 1 rfl (T.ev 1 rfl) (T.ev 0 rfl) ⟨_, Try.underlying36, by kernel_rfl⟩ rfl (by decide) rfl)) ?_; clear T ac; intro ac T
              refine g_q (v := (.agg #[.int .i64 ju3.p0, .int .i64 ju3.p1, .int .i64 ju3.t0, .int .i64 ju3.t1, .int .i64 ju3.r0, .int .i64 ju3.r1, .int .i64 ju3.u0, .int .i64 ju3.u1, .int .i64 ju3.d0, .int .i64 ju3.d1, .int .i64 ju3.a0, .int .i64 ju3.a1, .int .i64 ju3.b0, .int .i64 ju3.b1, .int .i64 ju3.le, .slice Au3 ju3.sh.length cu3, .int .i64 ju3.wi, .int .i64 ju3.me])) (T := T.pick [0, 1, 2, 3, 4, 5, 6, 7, 8, 9, 10, 11, 12, 13, 14, 15, 16, 17, 18, 19, 20, 21, 22, 23, 24, 25, 26, 27, 28, 29, 30, 31, 32, 33, 34, 35, 36, 37, 38, 39, 40, 41, 42, 43, 44, 45, 46, 47, 48, 49, 50, 51, 52, 53, 54, 55, 56, 57, 58, 60, 61] rfl) (i := 43) rfl (by kernel_rfl) (by kernel_rfl : (pbits 47 8796093022207).setIfInBounds 43 true = pbits 47 17592186044415) (si_and si_U (si_and si_U si_U)) (fun _ _ _ h => h) (wanted_yes rfl rfl (T.ev 4 rfl) rfl) rfl rfl rfl (fun B w' hD hl hS => (rn_rowO (Mem.nth (show Mem w noEx w' _ from (MA.lft hS)) 5 rfl) rfl (T.ev 0 rfl) rfl)) ?_; clear T ac; intro ac T
              refine g_w (i := 44) (by kernel_rfl) rfl (by kernel_rfl : (pbits 47 17592186044415).setIfInBounds 44 true = pbits 47 35184372088831) (wanted_yes rfl rfl (T.ev 5 rfl) rfl) ?_; intro K hK
              replace T := T.pick [0, 1, 2, 3, 4, 5, 6, 7, 8, 9, 10, 11, 12, 13, 14, 15, 16, 17, 18, 19, 20, 21, 22, 23, 24, 25, 26, 27, 28, 29, 30, 31, 32, 33, 34, 35, 36, 37, 38, 39, 40, 41, 42, 43, 44, 45, 46, 47, 48, 49, 50, 51, 52, 53, 54, 55, 56, 57, 58, 59, 61] rfl
              refine ow_call (first := []) (cap := []) T rfl rfl rfl rfl evf (.cons (T.ev 4 rfl) (.cons (T.ev 0 rfl) .nil)) Try.func22 rfl rfl ?_
              refine Calls.mono (sameJobs_same ju3 _ _ _ _ _ (Su13.rd M (.cons _ (.cons _ (.cons _ (.cons _ (.cons _ (.cons _ (.cons _ (.cons _ (List.sublist_append_right _ _)))))))))) (Su3.rd M (.cons _ (.cons _ (.cons _ (.cons _ (.cons _ (.cons _ (.cons _ (.cons _ (List.Sublist.trans (List.Sublist.trans (List.Sublist.refl _) (List.sublist_append_left _ _)) (List.sublist_append_left _ _))))))))))) (by first | omega | (have := few_more hfewu3 y0 y1; omega))) ?_
              clear T
              rintro e wc ⟨rfl, hb⟩
              intro ac T
              replace M := M.call hb; clear hb
              refine sh_out hK _ _ (MA.mk (M.mask [true, true, true, true, true, true, true, true] rfl) (MA.mk (M.mask [true, true, true, true, true, true, true, true] rfl) (M.mask [true, true, true, true, true, true, true, true] rfl))) ?_; clear hK K
              refine g_q (v := (.bool false)) (T := T.pick [0, 1, 2, 3, 4, 5, 6, 7, 8, 9, 10, 11, 12, 13, 14, 15, 16, 17, 18, 19, 20, 21, 22, 23, 24, 25, 26, 27, 28, 29, 30, 31, 32, 33, 34, 35, 36, 37, 38, 39, 40, 41, 42, 43, 44, 45, 46, 47, 48, 49, 50, 51, 52, 53, 54, 55, 56, 57, 58, 59, 60] rfl) (i := 45) rfl (by kernel_rfl) (by kernel_rfl : (pbits 47 35184372088831).setIfInBounds 45 true = pbits 47 70368744177663) (si_and si_U (si_and si_U si_U)) (fun _ _ _ h => h) (wanted_yes rfl rfl (T.ev 6 rfl) rfl) rfl rfl rfl (fun _ _ _ _ _ => (rn_neqof (rn_not rfl (T.ev 0 rfl)) (by simp))) ?_; clear T ac; intro ac T
              refine g_q (T := T) (i := 46) rfl (by kernel_rfl) (by kernel_rfl : (pbits 47 70368744177663).setIfInBounds 46 true = pbits 47 140737488355327) (si_and si_U (si_and si_U si_U)) (fun _ _ _ h => h) rfl rfl rfl rfl (fun _ _ _ _ _ => (rn_pick0 rfl (T.ev 7 rfl) rfl (T.ev 0 rfl))) ?_; clear T ac; intro ac T
              refine g_done (by kernel_rfl) ?_
              replace T := T.pick [0, 1, 2, 3, 4, 5, 6, 7, 10, 11, 12, 15, 16, 17, 20, 21, 22, 25, 26, 27, 30, 31, 32, 35, 36, 37, 47, 48, 49] rfl
              replace M := M.mask [false, false, false, false, false, true, true, true] rfl
              refine nm_then ?_
              refine wp_cond_false (T.ev 0 rfl) ?_
              refine wp_skip ?_
              refine nm_blk ?_
              refine nm_then ?_
              refine wp_region_lit ?_
              refine l_q T rfl rfl rfl rfl (rn_move rfl (T.ev 28 rfl)) ?_; clear T ac; intro ac T
              refine l_q (v := (.int .i64 2)) T rfl rfl rfl rfl (rn_ofI (rn_add rfl (T.ev 0 rfl) evc (by omega)) (by rfl)) ?_; clear T ac; intro ac T
              refine l_q (v := (.int .i64 2)) (T.pick [0, 1, 2, 3, 4, 5, 6, 7, 8, 9, 10, 11, 12, 13, 14, 15, 16, 17, 18, 19, 20, 21, 22, 23, 24, 25, 26, 27, 28, 29] rfl) rfl rfl rfl rfl (rn_assign rfl (T.ev 0 rfl)) ?_; clear T ac; intro ac T
              refine wpList_nil ?_
              replace T := T.pick [0, 4, 5, 6, 7, 8, 9, 10, 11, 12, 13, 14, 15, 16, 17, 18, 19, 20, 21, 22, 23, 24, 25, 26, 27, 28, 29, 30] rfl
              refine nm_then ?_
              refine rounds_S ?_
              refine wp_seq ?_
              refine wp_seq ?_
              refine wp_region_lit ?_
              refine l_q T rfl rfl rfl rfl (rn_move rfl (T.ev 0 rfl)) ?_; clear T ac; intro ac T
              refine l_q T rfl rfl rfl rfl (rn_move rfl (T.ev 27 rfl)) ?_; clear T ac; intro ac T
              refine l_q (v := (.int .i64 4)) T rfl rfl rfl rfl (rn_lenS rfl Try.underlying36 (T.ev 0 rfl)) ?_; clear T ac; intro ac T
              refine l_q (v := (.bool true)) T rfl rfl rfl rfl (rn_neqof (rn_lss rfl (T.ev 2 rfl) (T.ev 0 rfl)) (by simp)) ?_; clear T ac; intro ac T
              refine wpList_nil ?_
              replace T := T.pick [0, 4, 5, 6, 7, 8, 9, 10, 11, 12, 13, 14, 15, 16, 17, 18, 19, 20, 21, 22, 23, 24, 25, 26, 27, 28, 29, 30, 31] rfl
              refine nm_then ?_
              refine wp_cond_true (T.ev 0 rfl) ?_
              refine wp_skip ?_
              refine nm_then ?_
              refine wp_seq ?_
              refine wp_block ?_
              refine wp_seq ?_
              refine wp_region_lit ?_
              refine l_q T rfl rfl rfl rfl (rn_move rfl (T.ev 27 rfl)) ?_; clear T ac; intro ac T
              refine l_q T rfl rfl rfl rfl (rn_move rfl (T.ev 2 rfl)) ?_; clear T ac; intro ac T
              refine l_q (v := (.pointer (some ⟨gr7_4, 36, none⟩))) T rfl rfl rfl rfl (rn_indexAddr (size := 18) 2 rfl (T.ev 1 rfl) (T.ev 0 rfl) ⟨_, Try.underlying36, by kernel_rfl⟩ rfl (by decide) rfl) ?_; clear T ac; intro ac T
              refine l_q T rfl rfl rfl rfl (rn_rowO (Mem.nth M 0 rfl) rfl (T.ev 0 rfl) rfl) ?_; clear T ac; intro ac T
              refine l_w rfl ?_; intro K hK
              refine ow_call (first := []) (cap := []) T rfl rfl rfl rfl evf (.cons (T.ev 0 rfl) .nil) Try.func18 rfl rfl ?_
              refine Calls.mono (copyJob_own (ju3.more y0 y1) _ _ _ (M.rdRow (nthE_mem (i := 2) rfl)) (by first | omega | (have := few_more hfewu3 y0 y1; omega))) ?_
              clear T
              rintro e wc ⟨Au21, cu21, Iu21, rfl, hsnu21, N⟩
              intro ac T
              obtain ⟨bu21, ou21, Su21⟩ := hsnu21.sp (w := w) (ex := noEx) (rc_length _)
              replace M := (M.join N).swapI
              replace M := M.mask [true, true, true] rfl
              clear N
              refine sh_out hK _ _ ?_; clear hK K
              refine l_w rfl ?_; intro K hK
              refine ow_al M T rfl rfl rfl rfl ?_; clear M T; intro g12 wc ac M T
              refine sh_out hK _ _ ?_; clear hK K
              refine l_w rfl ?_; intro K hK
              refine ow_stO M T rfl rfl (T.ev 0 rfl) (T.ev 1 rfl) rfl .head rfl (by simp) rfl (by kernel_rfl) ?_; clear M T; intro wc ac M T
              refine sh_out hK _ _ ?_; clear hK K
              refine wpList_nil ?_
              replace T := T.pick [0, 7, 8, 9, 10, 11, 12, 13, 14, 15, 16, 17, 18, 19, 20, 21, 22, 23, 24, 25, 26, 27, 28, 29, 30, 31, 32, 33, 34] rfl
              refine nm_then ?_
              refine wp_seq ?_
              refine wp_region_lit ?_
              refine l_q T rfl rfl rfl rfl (rn_rowO (Mem.nth M 0 rfl) rfl (T.ev 0 rfl) rfl) ?_; clear T ac; intro ac T
              refine l_w rfl ?_; intro K hK
              refine ow_call (first := []) (cap := []) T rfl rfl rfl rfl evf (.cons (T.ev 0 rfl) .nil) Try.func33 rfl rfl ?_
              refine Calls.mono (Window_any (ju3.more y0 y1) _ _ _ (Su21.rd M (.cons _ (.cons _ (.cons _ (.cons _ (List.sublist_append_right _ _)))))) (by first | omega | (have := few_more hfewu3 y0 y1; omega))) ?_
              clear T
              rintro e wc ⟨rfl, hb⟩
              intro ac T
              replace M := M.call hb; clear hb
              refine sh_out hK _ _ ?_; clear hK K
              refine l_q T rfl rfl rfl rfl (rn_move rfl (T.ev 0 rfl)) ?_; clear T ac; intro ac T
              refine l_q T rfl rfl rfl rfl (rn_extract rfl (T.ev 0 rfl) rfl) ?_; clear T ac; intro ac T
              refine l_q T rfl rfl rfl rfl (rn_extract rfl (T.ev 1 rfl) rfl) ?_; clear T ac; intro ac T
              refine l_w rfl ?_; intro K hK
              refine ow_al M T rfl rfl rfl rfl ?_; clear M T; intro g13 wc ac M T
              refine sh_out hK _ _ ?_; clear hK K
              refine l_w rfl ?_; intro K hK
              refine ow_stO M T rfl rfl (T.ev 0 rfl) (T.ev 2 rfl) rfl .head rfl (by simp) rfl (by kernel_rfl) ?_; clear M T; intro wc ac M T
              refine sh_out hK _ _ ?_; clear hK K
              refine l_q T rfl rfl rfl rfl (rn_assign rfl (T.ev 1 rfl)) ?_; clear T ac; intro ac T
              refine wpList_nil ?_
              replace T := T.pick [0, 1, 7, 8, 9, 10, 11, 12, 13, 14, 15, 16, 17, 18, 19, 20, 21, 22, 23, 24, 25, 26, 27, 28, 29, 30, 31, 32, 33, 34, 35] rfl
              refine nm_then ?_
              refine wp_seq ?_
              refine wp_region_lit ?_
              refine l_q T rfl rfl rfl rfl (rn_move rfl (T.ev 29 rfl)) ?_; clear T ac; intro ac T
              refine l_q T rfl rfl rfl rfl (rn_move rfl (T.ev 4 rfl)) ?_; clear T ac; intro ac T
              refine l_q (v := (.pointer (some ⟨gr7_4, 36, none⟩))) T rfl rfl rfl rfl (rn_indexAddr (size := 18) 2 rfl (T.ev 1 rfl) (T.ev 0 rfl) ⟨_, Try.underlying36, by kernel_rfl⟩ rfl (by decide) rfl) ?_; clear T ac; intro ac T
              refine l_q T rfl rfl rfl rfl (rn_rowO (Mem.nth M 2 rfl) rfl (T.ev 0 rfl) rfl) ?_; clear T ac; intro ac T
              refine l_w rfl ?_; intro K hK
              refine ow_call (first := []) (cap := []) T rfl rfl rfl rfl evf (.cons (T.ev 0 rfl) .nil) Try.func45 rfl rfl ?_
              refine Calls.mono (rWindow_J (ju3.more y0 y1) _ _ _ (M.rdRow (nthE_mem (i := 4) rfl)) (by first | omega | (have := few_more hfewu3 y0 y1; omega))) ?_
              clear T
              rintro e wc ⟨rfl, hb⟩
              intro ac T
              replace M := M.call hb; clear hb
              refine sh_out hK _ _ ?_; clear hK K
              refine l_q T rfl rfl rfl rfl (rn_move rfl (T.ev 0 rfl)) ?_; clear T ac; intro ac T
              refine l_q T rfl rfl rfl rfl (rn_extract rfl (T.ev 0 rfl) rfl) ?_; clear T ac; intro ac T
              refine l_q T rfl rfl rfl rfl (rn_extract rfl (T.ev 1 rfl) rfl) ?_; clear T ac; intro ac T
              refine l_w rfl ?_; intro K hK
              refine ow_al M T rfl rfl rfl rfl ?_; clear M T; intro g14 wc ac M T
              refine sh_out hK _ _ ?_; clear hK K
              refine l_w rfl ?_; intro K hK
              refine ow_stO M T rfl rfl (T.ev 0 rfl) (T.ev 2 rfl) rfl .head rfl (by simp) rfl (by kernel_rfl) ?_; clear M T; intro wc ac M T
              refine sh_out hK _ _ ?_; clear hK K
              refine l_q T rfl rfl rfl rfl (rn_assign rfl (T.ev 1 rfl)) ?_; clear T ac; intro ac T
              refine wpList_nil ?_
              replace T := T.pick [0, 1, 10, 11, 12, 13, 14, 15, 16, 17, 18, 19, 20, 21, 22, 23, 24, 25, 26, 27, 28, 29, 30, 31, 32, 33, 34, 35, 36, 37, 38, 39, 40] rfl
              refine nm_then ?_
              refine wp_seq ?_
              refine wp_region_lit ?_
              refine l_q T rfl rfl rfl rfl (rn_rowO (Mem.nth M 2 rfl) rfl (T.ev 4 rfl) rfl) ?_; clear T ac; intro ac T
              refine l_w rfl ?_; intro K hK
              refine ow_call (first := []) (cap := []) T rfl rfl rfl rfl evf (.cons (T.ev 0 rfl) .nil) Try.func46 rfl rfl ?_
              refine Calls.mono (Passes_any (ju3.more y0 y1) _ _ _ (Su21.rd M (.cons _ (.cons _ (.cons _ (.cons _ (.cons _ (.cons _ (List.sublist_append_right _ _)))))))) (by first | omega | (have := few_more hfewu3 y0 y1; omega))) ?_
              clear T
              rintro e wc ⟨rfl, hb⟩
              intro ac T
              replace M := M.call hb; clear hb
              refine sh_out hK _ _ ?_; clear hK K
              refine l_q T rfl rfl rfl rfl (rn_move rfl (T.ev 0 rfl)) ?_; clear T ac; intro ac T
              refine l_q T rfl rfl rfl rfl (rn_extract rfl (T.ev 0 rfl) rfl) ?_; clear T ac; intro ac T
              refine l_q T rfl rfl rfl rfl (rn_extract rfl (T.ev 1 rfl) rfl) ?_; clear T ac; intro ac T
              refine l_q T rfl rfl rfl rfl (rn_assign rfl (T.ev 1 rfl)) ?_; clear T ac; intro ac T
              refine l_q T rfl rfl rfl rfl (rn_assign rfl (T.ev 1 rfl)) ?_; clear T ac; intro ac T
              refine wpList_nil ?_
              replace T := T.pick [0, 1, 7, 8, 9, 10, 11, 12, 13, 14, 15, 16, 17, 18, 19, 20, 21, 22, 23, 24, 25, 26, 27, 28, 29, 30, 31, 32, 33, 34, 35, 36, 37, 38, 39] rfl
              refine nm_then ?_
              refine wp_seq ?_
              refine wp_region_lit ?_
              refine l_q T rfl rfl rfl rfl (rn_move rfl (T.ev 33 rfl)) ?_; clear T ac; intro ac T
              refine l_q T rfl rfl rfl rfl (rn_move rfl (T.ev 8 rfl)) ?_; clear T ac; intro ac T
              refine l_q (v := (.pointer (some ⟨gr7_4, 36, none⟩))) T rfl rfl rfl rfl (rn_indexAddr (size := 18) 2 rfl (T.ev 1 rfl) (T.ev 0 rfl) ⟨_, Try.underlying36, by kernel_rfl⟩ rfl (by decide) rfl) ?_; clear T ac; intro ac T
              refine l_q T rfl rfl rfl rfl (rn_rowO (Mem.nth M 3 rfl) rfl (T.ev 0 rfl) rfl) ?_; clear T ac; intro ac T
              refine l_w rfl ?_; intro K hK
              refine ow_call (first := []) (cap := []) T rfl rfl rfl rfl evf (.cons (T.ev 0 rfl) .nil) Try.func47 rfl rfl ?_
              refine Calls.mono (rPasses_J (ju3.more y0 y1) _ _ _ (M.rdRow (nthE_mem (i := 5) rfl)) (by first | omega | (have := few_more hfewu3 y0 y1; omega))) ?_
              clear T
              rintro e wc ⟨rfl, hb⟩
              intro ac T
              replace M := M.call hb; clear hb
              refine sh_out hK _ _ ?_; clear hK K
              refine l_q T rfl rfl rfl rfl (rn_move rfl (T.ev 0 rfl)) ?_; clear T ac; intro ac T
              refine l_q T rfl rfl rfl rfl (rn_extract rfl (T.ev 0 rfl) rfl) ?_; clear T ac; intro ac T
              refine l_q T rfl rfl rfl rfl (rn_extract rfl (T.ev 1 rfl) rfl) ?_; clear T ac; intro ac T
              refine l_q T rfl rfl rfl rfl (rn_assign rfl (T.ev 1 rfl)) ?_; clear T ac; intro ac T
              refine l_q T rfl rfl rfl rfl (rn_assign rfl (T.ev 1 rfl)) ?_; clear T ac; intro ac T
              refine wpList_nil ?_
              replace T := T.pick [0, 1, 10, 11, 12, 13, 14, 15, 16, 17, 18, 19, 20, 21, 22, 23, 24, 25, 26, 27, 28, 29, 30, 31, 32, 33, 34, 35, 36, 37, 38, 39, 40, 41, 42, 43, 44] rfl
              refine nm_then ?_
              refine cut_seq (fun ac wc => ∃ (gr16_9 : Nat), Tm ac 178 [(12, .slice (some ⟨gr7_4, 0, none⟩) 4 4), (13, .slice (some ⟨gr7_26, 0, none⟩) 4 4), (14, .int .i64 2), (15, .pointer (some ⟨g12, 0, none⟩)), (16, .pointer (some ⟨g13, 0, none⟩)), (17, .int .i64 ((windowJ (ju3.more y0 y1)).2)), (18, .pointer (some ⟨g14, 0, none⟩)), (19, .int .i64 ((windowJ (ju3.more y0 y1)).2)), (20, .int .i64 ((passesT (ju3.more y0 y1)).1)), (21, .int .i64 ((passesT (ju3.more y0 y1)).2)), (22, .int .i64 ((passesT (ju3.more y0 y1)).1)), (23, .int .i64 ((passesT (ju3.more y0 y1)).2)), (24, .pointer (some ⟨gr16_9, 0, none⟩)), (25, .int .i64 ((hearT (ju3.more y0 y1) r).2)), (139, .agg #[.int .i64 ((windowJ ju3).1.1), .int .i64 ((windowJ ju3).1.2)]), (140, .agg #[.int .i64 ((windowJ ju3).1.1), .int .i64 ((windowJ ju3).1.2)]), (141, .bool false), (144, .int .i64 ((windowJ ju3).2)), (145, .int .i64 ((windowJ ju3).2)), (146, .bool false), (149, .int .i64 ((passesT ju3).1)), (150, .int .i64 ((passesT ju3).1)), (151, .bool false), (154, .int .i64 ((passesT ju3).2)), (155, .int .i64 ((passesT ju3).2)), (156, .bool false), (159, .agg #[.int .i64 ((hearT ju3 xur7_23).1.1), .int .i64 ((hearT ju3 xur7_23).1.2)]), (160, .agg #[.int .i64 ((hearT ju3 xur7_23).1.1), .int .i64 ((hearT ju3 xur7_23).1.2)]), (161, .bool false), (164, .int .i64 ((hearT ju3 xur7_23).2)), (165, .int .i64 ((hearT ju3 xur7_23).2)), (166, .bool false), (169, .agg #[.int .i64 ju3.p0, .int .i64 ju3.p1, .int .i64 ju3.t0, .int .i64 ju3.t1, .int .i64 ju3.r0, .int .i64 ju3.r1, .int .i64 ju3.u0, .int .i64 ju3.u1, .int .i64 ju3.d0, .int .i64 ju3.d1, .int .i64 ju3.a0, .int .i64 ju3.a1, .int .i64 ju3.b0, .int .i64 ju3.b1, .int .i64 ju3.le, .slice Au13 ju3.sh.length cu13, .int .i64 ju3.wi, .int .i64 ju3.me]), (170, .slice (some ⟨gr7_4, 0, none⟩) 4 4), (171, .int .i64 1), (172, .pointer (some ⟨gr7_4, 18, none⟩)), (173, .agg #[.int .i64 ju3.p0, .int .i64 ju3.p1, .int .i64 ju3.t0, .int .i64 ju3.t1, .int .i64 ju3.r0, .int .i64 ju3.r1, .int .i64 ju3.u0, .int .i64 ju3.u1, .int .i64 ju3.d0, .int .i64 ju3.d1, .int .i64 ju3.a0, .int .i64 ju3.a1, .int .i64 ju3.b0, .int .i64 ju3.b1, .int .i64 ju3.le, .slice Au3 ju3.sh.length cu3, .int .i64 ju3.wi, .int .i64 ju3.me]), (174, .bool true), (175, .bool false)] ∧ Mem w noEx wc ((gr16_9, .cells [.int .i64 ((hearT (ju3.more y0 y1) r).1.1), .int .i64 ((hearT (ju3.more y0 y1) r).1.2)]) :: (g14, .cells [.int .i64 ((windowJ (ju3.more y0 y1)).1.1), .int .i64 ((windowJ (ju3.more y0 y1)).1.2)]) :: (g13, .cells [.int .i64 ((windowJ (ju3.more y0 y1)).1.1), .int .i64 ((windowJ (ju3.more y0 y1)).1.2)]) :: (g12, .cells (jobL (ju3.more y0 y1) Au21 cu21)) :: (gr7_4, .cells (jobL j A c ++ jobL ju3 Au3 cu3 ++ [.int .i64 ju3.p0, .int .i64 ju3.p1, .int .i64 ju3.t0, .int .i64 ju3.t1, .int .i64 ju3.r0, .int .i64 ju3.r1, .int .i64 ju3.u0, .int .i64 ju3.u1, .int .i64 ju3.d0, .int .i64 ju3.d1, .int .i64 ju3.a0, .int .i64 ju3.a1, .int .i64 ju3.b0, .int .i64 ju3.b1, .int .i64 ju3.le, .slice (some ⟨ga1, 0, none⟩) ((ju3.more y0 y1).sh.length) cga1, .int .i64 ju3.wi, .int .i64 ju3.me] ++ jobL ju3 Au3 cu3)) :: (gr7_26, .cells [.int .i64 r, .int .i64 xur7_23, .int .i64 r, .int .i64 r]) :: (ga1, .row 23 2 (ju3.more y0 y1).sh.length (rc (ju3.more y0 y1).sh) cga1) :: (Iu3 ++ Iu5 ++ Iu13 ++ Iu21))) ?_ ?_
              · refine g_start2 M (M.mask [true, true, true, true, true, true] rfl) 12 (by kernel_rfl) rfl (by kernel_rfl) ?_
                clear M; intro wc M
                refine g_q (T := T) (i := 0) rfl (by kernel_rfl) (by kernel_rfl : (pbits 12 0).setIfInBounds 0 true = pbits 12 1) si_U (fun _ _ _ h => h) rfl rfl rfl rfl (fun B w' hD hl hS => (rn_rowO (Mem.nth (show Mem w noEx w' _ from hS) 2 rfl) rfl (T.ev 8 rfl) rfl)) ?_; clear T ac; intro ac T
                refine g_q (T := T) (i := 1) rfl (by kernel_rfl) (by kernel_rfl : (pbits 12 1).setIfInBounds 1 true = pbits 12 3) si_U (fun _ _ _ h => h) rfl rfl rfl rfl (fun _ _ _ _ _ => (rn_move rfl (T.ev 37 rfl))) ?_; clear T ac; intro ac T
                refine g_q (T := T) (i := 2) rfl (by kernel_rfl) (by kernel_rfl : (pbits 12 3).setIfInBounds 2 true = pbits 12 7) si_U (fun _ _ _ h => h) rfl rfl rfl rfl (fun _ _ _ _ _ => (rn_move rfl (T.ev 11 rfl))) ?_; clear T ac; intro ac T
                refine g_q (v := (.pointer (some ⟨gr7_26, 2, none⟩))) (T := T) (i := 3) rfl (by kernel_rfl) (by kernel_rfl : (pbits 12 7).setIfInBounds 3 true = pbits 12 15) si_U (fun _ _ _ h => h) rfl rfl rfl rfl (fun _ _ _ _ _ => (rn_indexAddr (size := 1) 2 rfl (T.ev 1 rfl) (T.ev 0 rfl) ⟨_, Try.underlying31, by kernel_rfl⟩ rfl (by decide) rfl)) ?_; clear T ac; intro ac T
                refine g_q (T := T) (i := 4) rfl (by kernel_rfl) (by kernel_rfl : (pbits 12 15).setIfInBounds 4 true = pbits 12 31) si_U (fun _ _ _ h => h) rfl rfl rfl rfl (fun B w' hD hl hS => (rn_one (Mem.nth (show Mem w noEx w' _ from hS) 4 rfl) rfl (T.ev 0 rfl) rfl)) ?_; clear T ac; intro ac T
                refine g_m2 (i := 5) (j := 9) (by kernel_rfl) ?_ ?_
                · refine g_i rfl (by kernel_rfl : (pbits 12 31).setIfInBounds 5 true = pbits 12 63) rfl ?_; intro K hK
                  refine ow_call (first := []) (cap := []) T rfl rfl rfl rfl evf (.cons (T.ev 4 rfl) (.cons (T.ev 0 rfl) .nil)) Try.func37 rfl rfl ?_
                  refine Calls.mono (Hear_any (ju3.more y0 y1) _ _ r _ (Su21.rd M (.cons _ (.cons _ (.cons _ (.cons _ (.cons _ (.cons _ (List.sublist_append_right _ _)))))))) (by first | omega | (have := few_more hfewu3 y0 y1; omega))) ?_
                  clear T
                  rintro e wc ⟨rfl, hb⟩
                  intro ac T
                  replace M := M.call hb; clear hb
                  refine sh_out hK _ _ (M.mask [true, true, true, true, true, true] rfl) ?_; clear hK K
                  refine g_q (T := T) (i := 6) rfl (by kernel_rfl) (by kernel_rfl : (pbits 12 63).setIfInBounds 6 true = pbits 12 127) si_U (fun _ _ _ h => h) rfl rfl rfl rfl (fun _ _ _ _ _ => (rn_move rfl (T.ev 0 rfl))) ?_; clear T ac; intro ac T
                  refine g_q (T := T) (i := 7) rfl (by kernel_rfl) (by kernel_rfl : (pbits 12 127).setIfInBounds 7 true = pbits 12 255) si_U (fun _ _ _ h => h) rfl rfl rfl rfl (fun _ _ _ _ _ => (rn_extract rfl (T.ev 0 rfl) rfl)) ?_; clear T ac; intro ac T
                  refine g_q (T := T) (i := 8) rfl (by kernel_rfl) (by kernel_rfl : (pbits 12 255).setIfInBounds 8 true = pbits 12 511) si_U (fun _ _ _ h => h) rfl rfl rfl rfl (fun _ _ _ _ _ => (rn_extract rfl (T.ev 1 rfl) rfl)) ?_; clear T ac; intro ac T
                  refine g_w (i := 9) (by kernel_rfl) rfl (by kernel_rfl : (pbits 12 511).setIfInBounds 9 true = pbits 12 1023) rfl ?_; intro K hK
                  refine ow_al M T rfl rfl rfl rfl ?_; clear M T; intro gr16_9 wc ac M T
                  refine sh_out hK _ _ (M.mask [false, true, true, true, true, true, true] rfl) ?_; clear hK K
                  refine g_w (i := 10) (by kernel_rfl) rfl (by kernel_rfl : (pbits 12 1023).setIfInBounds 10 true = pbits 12 2047) rfl ?_; intro K hK
                  refine ow_stO M T rfl rfl (T.ev 0 rfl) (T.ev 2 rfl) rfl .head rfl (by simp) rfl (by kernel_rfl) ?_; clear M T; intro wc ac M T
                  refine sh_out hK _ _ (M.mask [false, true, true, true, true, true, true] rfl) ?_; clear hK K
                  refine g_q (T := T) (i := 11) rfl (by kernel_rfl) (by kernel_rfl : (pbits 12 2047).setIfInBounds 11 true = pbits 12 4095) si_U (fun _ _ _ h => h) rfl rfl rfl rfl (fun _ _ _ _ _ => (rn_assign rfl (T.ev 1 rfl))) ?_; clear T ac; intro ac T
                  refine g_done (by kernel_rfl) ?_
                  replace T := T.pick [0, 1, 11, 12, 13, 14, 15, 16, 17, 18, 19, 20, 21, 22, 23, 24, 25, 26, 27, 28, 29, 30, 31, 32, 33, 34, 35, 36, 37, 38, 39, 40, 41, 42, 43, 44, 45, 46, 47] rfl
                  exact ⟨gr16_9, (T.pick (E' := [(12, .slice (some ⟨gr7_4, 0, none⟩) 4 4), (13, .slice (some ⟨gr7_26, 0, none⟩) 4 4), (14, .int .i64 2), (15, .pointer (some ⟨g12, 0, none⟩)), (16, .pointer (some ⟨g13, 0, none⟩)), (17, .int .i64 ((windowJ (ju3.more y0 y1)).2)), (18, .pointer (some ⟨g14, 0, none⟩)), (19, .int .i64 ((windowJ (ju3.more y0 y1)).2)), (20, .int .i64 ((passesT (ju3.more y0 y1)).1)), (21, .int .i64 ((passesT (ju3.more y0 y1)).2)), (22, .int .i64 ((passesT (ju3.more y0 y1)).1)), (23, .int .i64 ((passesT (ju3.more y0 y1)).2)), (24, .pointer (some ⟨gr16_9, 0, none⟩)), (25, .int .i64 ((hearT (ju3.more y0 y1) r).2)), (139, .agg #[.int .i64 ((windowJ ju3).1.1), .int .i64 ((windowJ ju3).1.2)]), (140, .agg #[.int .i64 ((windowJ ju3).1.1), .int .i64 ((windowJ ju3).1.2)]), (141, .bool false), (144, .int .i64 ((windowJ ju3).2)), (145, .int .i64 ((windowJ ju3).2)), (146, .bool false), (149, .int .i64 ((passesT ju3).1)), (150, .int .i64 ((passesT ju3).1)), (151, .bool false), (154, .int .i64 ((passesT ju3).2)), (155, .int .i64 ((passesT ju3).2)), (156, .bool false), (159, .agg #[.int .i64 ((hearT ju3 xur7_23).1.1), .int .i64 ((hearT ju3 xur7_23).1.2)]), (160, .agg #[.int .i64 ((hearT ju3 xur7_23).1.1), .int .i64 ((hearT ju3 xur7_23).1.2)]), (161, .bool false), (164, .int .i64 ((hearT ju3 xur7_23).2)), (165, .int .i64 ((hearT ju3 xur7_23).2)), (166, .bool false), (169, .agg #[.int .i64 ju3.p0, .int .i64 ju3.p1, .int .i64 ju3.t0, .int .i64 ju3.t1, .int .i64 ju3.r0, .int .i64 ju3.r1, .int .i64 ju3.u0, .int .i64 ju3.u1, .int .i64 ju3.d0, .int .i64 ju3.d1, .int .i64 ju3.a0, .int .i64 ju3.a1, .int .i64 ju3.b0, .int .i64 ju3.b1, .int .i64 ju3.le, .slice Au13 ju3.sh.length cu13, .int .i64 ju3.wi, .int .i64 ju3.me]), (170, .slice (some ⟨gr7_4, 0, none⟩) 4 4), (171, .int .i64 1), (172, .pointer (some ⟨gr7_4, 18, none⟩)), (173, .agg #[.int .i64 ju3.p0, .int .i64 ju3.p1, .int .i64 ju3.t0, .int .i64 ju3.t1, .int .i64 ju3.r0, .int .i64 ju3.r1, .int .i64 ju3.u0, .int .i64 ju3.u1, .int .i64 ju3.d0, .int .i64 ju3.d1, .int .i64 ju3.a0, .int .i64 ju3.a1, .int .i64 ju3.b0, .int .i64 ju3.b1, .int .i64 ju3.le, .slice Au3 ju3.sh.length cu3, .int .i64 ju3.wi, .int .i64 ju3.me]), (174, .bool true), (175, .bool false)]) [37, 38, 11, 10, 9, 8, 7, 6, 5, 4, 3, 2, 1, 0, 36, 35, 34, 33, 32, 31, 30, 29, 28, 27, 26, 25, 24, 23, 22, 21, 20, 19, 18, 17, 16, 15, 14, 13, 12] rfl).as (by rfl), M.mask [true, true, true, true, true, true, true] rfl⟩
                · refine g_i rfl (by kernel_rfl : (pbits 12 31).setIfInBounds 9 true = pbits 12 543) rfl ?_; intro K hK
                  refine ow_al M T rfl rfl rfl rfl ?_; clear M T; intro gr16_9 wc ac M T
                  refine sh_out hK _ _ (M.mask [false, true, true, true, true, true, true] rfl) ?_; clear hK K
                  refine g_w (i := 5) (by kernel_rfl) rfl (by kernel_rfl : (pbits 12 543).setIfInBounds 5 true = pbits 12 575) rfl ?_; intro K hK
                  refine ow_call (first := []) (cap := []) T rfl rfl rfl rfl evf (.cons (T.ev 5 rfl) (.cons (T.ev 1 rfl) .nil)) Try.func37 rfl rfl ?_
                  refine Calls.mono (Hear_any (ju3.more y0 y1) _ _ r _ (Su21.rd M (.cons _ (.cons _ (.cons _ (.cons _ (.cons _ (.cons _ (.cons _ (List.sublist_append_right _ _))))))))) (by first | omega | (have := few_more hfewu3 y0 y1; omega))) ?_
                  clear T
                  rintro e wc ⟨rfl, hb⟩
                  intro ac T
                  replace M := M.call hb; clear hb
                  refine sh_out hK _ _ (M.mask [false, true, true, true, true, true, true] rfl) ?_; clear hK K
                  refine g_q (T := T) (i := 6) rfl (by kernel_rfl) (by kernel_rfl : (pbits 12 575).setIfInBounds 6 true = pbits 12 639) si_U (fun _ _ _ h => h) rfl rfl rfl rfl (fun _ _ _ _ _ => (rn_move rfl (T.ev 0 rfl))) ?_; clear T ac; intro ac T
                  refine g_q (T := T) (i := 7) rfl (by kernel_rfl) (by kernel_rfl : (pbits 12 639).setIfInBounds 7 true = pbits 12 767) si_U (fun _ _ _ h => h) rfl rfl rfl rfl (fun _ _ _ _ _ => (rn_extract rfl (T.ev 0 rfl) rfl)) ?_; clear T ac; intro ac T
                  refine g_q (T := T) (i := 8) rfl (by kernel_rfl) (by kernel_rfl : (pbits 12 767).setIfInBounds 8 true = pbits 12 1023) si_U (fun _ _ _ h => h) rfl rfl rfl rfl (fun _ _ _ _ _ => (rn_extract rfl (T.ev 1 rfl) rfl)) ?_; clear T ac; intro ac T
                  refine g_w (i := 10) (by kernel_rfl) rfl (by kernel_rfl : (pbits 12 1023).setIfInBounds 10 true = pbits 12 2047) rfl ?_; intro K hK
                  refine ow_stO M T rfl rfl (T.ev 4 rfl) (T.ev 1 rfl) rfl .head rfl (by simp) rfl (by kernel_rfl) ?_; clear M T; intro wc ac M T
                  refine sh_out hK _ _ (M.mask [false, true, true, true, true, true, true] rfl) ?_; clear hK K
                  refine g_q (T := T) (i := 11) rfl (by kernel_rfl) (by kernel_rfl : (pbits 12 2047).setIfInBounds 11 true = pbits 12 4095) si_U (fun _ _ _ h => h) rfl rfl rfl rfl (fun _ _ _ _ _ => (rn_assign rfl (T.ev 0 rfl))) ?_; clear T ac; intro ac T
                  refine g_done (by kernel_rfl) ?_
                  replace T := T.pick [0, 5, 11, 12, 13, 14, 15, 16, 17, 18, 19, 20, 21, 22, 23, 24, 25, 26, 27, 28, 29, 30, 31, 32, 33, 34, 35, 36, 37, 38, 39, 40, 41, 42, 43, 44, 45, 46, 47] rfl
                  exact ⟨gr16_9, (T.pick (E' := [(12, .slice (some ⟨gr7_4, 0, none⟩) 4 4), (13, .slice (some ⟨gr7_26, 0, none⟩) 4 4), (14, .int .i64 2), (15, .pointer (some ⟨g12, 0, none⟩)), (16, .pointer (some ⟨g13, 0, none⟩)), (17, .int .i64 ((windowJ (ju3.more y0 y1)).2)), (18, .pointer (some ⟨g14, 0, none⟩)), (19, .int .i64 ((windowJ (ju3.more y0 y1)).2)), (20, .int .i64 ((passesT (ju3.more y0 y1)).1)), (21, .int .i64 ((passesT (ju3.more y0 y1)).2)), (22, .int .i64 ((passesT (ju3.more y0 y1)).1)), (23, .int .i64 ((passesT (ju3.more y0 y1)).2)), (24, .pointer (some ⟨gr16_9, 0, none⟩)), (25, .int .i64 ((hearT (ju3.more y0 y1) r).2)), (139, .agg #[.int .i64 ((windowJ ju3).1.1), .int .i64 ((windowJ ju3).1.2)]), (140, .agg #[.int .i64 ((windowJ ju3).1.1), .int .i64 ((windowJ ju3).1.2)]), (141, .bool false), (144, .int .i64 ((windowJ ju3).2)), (145, .int .i64 ((windowJ ju3).2)), (146, .bool false), (149, .int .i64 ((passesT ju3).1)), (150, .int .i64 ((passesT ju3).1)), (151, .bool false), (154, .int .i64 ((passesT ju3).2)), (155, .int .i64 ((passesT ju3).2)), (156, .bool false), (159, .agg #[.int .i64 ((hearT ju3 xur7_23).1.1), .int .i64 ((hearT ju3 xur7_23).1.2)]), (160, .agg #[.int .i64 ((hearT ju3 xur7_23).1.1), .int .i64 ((hearT ju3 xur7_23).1.2)]), (161, .bool false), (164, .int .i64 ((hearT ju3 xur7_23).2)), (165, .int .i64 ((hearT ju3 xur7_23).2)), (166, .bool false), (169, .agg #[.int .i64 ju3.p0, .int .i64 ju3.p1, .int .i64 ju3.t0, .int .i64 ju3.t1, .int .i64 ju3.r0, .int .i64 ju3.r1, .int .i64 ju3.u0, .int .i64 ju3.u1, .int .i64 ju3.d0, .int .i64 ju3.d1, .int .i64 ju3.a0, .int .i64 ju3.a1, .int .i64 ju3.b0, .int .i64 ju3.b1, .int .i64 ju3.le, .slice Au13 ju3.sh.length cu13, .int .i64 ju3.wi, .int .i64 ju3.me]), (170, .slice (some ⟨gr7_4, 0, none⟩) 4 4), (171, .int .i64 1), (172, .pointer (some ⟨gr7_4, 18, none⟩)), (173, .agg #[.int .i64 ju3.p0, .int .i64 ju3.p1, .int .i64 ju3.t0, .int .i64 ju3.t1, .int .i64 ju3.r0, .int .i64 ju3.r1, .int .i64 ju3.u0, .int .i64 ju3.u1, .int .i64 ju3.d0, .int .i64 ju3.d1, .int .i64 ju3.a0, .int .i64 ju3.a1, .int .i64 ju3.b0, .int .i64 ju3.b1, .int .i64 ju3.le, .slice Au3 ju3.sh.length cu3, .int .i64 ju3.wi, .int .i64 ju3.me]), (174, .bool true), (175, .bool false)]) [37, 38, 11, 10, 9, 8, 7, 6, 5, 4, 3, 2, 1, 0, 36, 35, 34, 33, 32, 31, 30, 29, 28, 27, 26, 25, 24, 23, 22, 21, 20, 19, 18, 17, 16, 15, 14, 13, 12] rfl).as (by rfl), M.mask [true, true, true, true, true, true, true] rfl⟩
              · clear T M
                rintro ac wc ⟨gr16_9, T, M⟩
                refine cut_seq (fun ac wc => ∃ (gr17_12 : Nat), Tm ac 178 [(12, .slice (some ⟨gr7_4, 0, none⟩) 4 4), (13, .slice (some ⟨gr7_26, 0, none⟩) 4 4), (14, .int .i64 2), (15, .pointer (some ⟨g12, 0, none⟩)), (16, .pointer (some ⟨g13, 0, none⟩)), (17, .int .i64 ((windowJ (ju3.more y0 y1)).2)), (18, .pointer (some ⟨g14, 0, none⟩)), (19, .int .i64 ((windowJ (ju3.more y0 y1)).2)), (20, .int .i64 ((passesT (ju3.more y0 y1)).1)), (21, .int .i64 ((passesT (ju3.more y0 y1)).2)), (22, .int .i64 ((passesT (ju3.more y0 y1)).1)), (23, .int .i64 ((passesT (ju3.more y0 y1)).2)), (24, .pointer (some ⟨gr16_9, 0, none⟩)), (25, .int .i64 ((hearT (ju3.more y0 y1) r).2)), (26, .pointer (some ⟨gr17_12, 0, none⟩)), (27, .int .i64 ((hearT (ju3.more y0 y1) r).2)), (139, .agg #[.int .i64 ((windowJ ju3).1.1), .int .i64 ((windowJ ju3).1.2)]), (140, .agg #[.int .i64 ((windowJ ju3).1.1), .int .i64 ((windowJ ju3).1.2)]), (141, .bool false), (144, .int .i64 ((windowJ ju3).2)), (145, .int .i64 ((windowJ ju3).2)), (146, .bool false), (149, .int .i64 ((passesT ju3).1)), (150, .int .i64 ((passesT ju3).1)), (151, .bool false), (154, .int .i64 ((passesT ju3).2)), (155, .int .i64 ((passesT ju3).2)), (156, .bool false), (159, .agg #[.int .i64 ((hearT ju3 xur7_23).1.1), .int .i64 ((hearT ju3 xur7_23).1.2)]), (160, .agg #[.int .i64 ((hearT ju3 xur7_23).1.1), .int .i64 ((hearT ju3 xur7_23).1.2)]), (161, .bool false), (164, .int .i64 ((hearT ju3 xur7_23).2)), (165, .int .i64 ((hearT ju3 xur7_23).2)), (166, .bool false), (169, .agg #[.int .i64 ju3.p0, .int .i64 ju3.p1, .int .i64 ju3.t0, .int .i64 ju3.t1, .int .i64 ju3.r0, .int .i64 ju3.r1, .int .i64 ju3.u0, .int .i64 ju3.u1, .int .i64 ju3.d0, .int .i64 ju3.d1, .int .i64 ju3.a0, .int .i64 ju3.a1, .int .i64 ju3.b0, .int .i64 ju3.b1, .int .i64 ju3.le, .slice Au13 ju3.sh.length cu13, .int .i64 ju3.wi, .int .i64 ju3.me]), (170, .slice (some ⟨gr7_4, 0, none⟩) 4 4), (171, .int .i64 1), (172, .pointer (some ⟨gr7_4, 18, none⟩)), (173, .agg #[.int .i64 ju3.p0, .int .i64 ju3.p1, .int .i64 ju3.t0, .int .i64 ju3.t1, .int .i64 ju3.r0, .int .i64 ju3.r1, .int .i64 ju3.u0, .int .i64 ju3.u1, .int .i64 ju3.d0, .int .i64 ju3.d1, .int .i64 ju3.a0, .int .i64 ju3.a1, .int .i64 ju3.b0, .int .i64 ju3.b1, .int .i64 ju3.le, .slice Au3 ju3.sh.length cu3, .int .i64 ju3.wi, .int .i64 ju3.me]), (174, .bool true), (175, .bool false)] ∧ Mem w noEx wc ((gr17_12, .cells [.int .i64 ((hearT (ju3.more y0 y1) r).1.1), .int .i64 ((hearT (ju3.more y0 y1) r).1.2)]) :: (gr16_9, .cells [.int .i64 ((hearT (ju3.more y0 y1) r).1.1), .int .i64 ((hearT (ju3.more y0 y1) r).1.2)]) :: (g14, .cells [.int .i64 ((windowJ (ju3.more y0 y1)).1.1), .int .i64 ((windowJ (ju3.more y0 y1)).1.2)]) :: (g13, .cells [.int .i64 ((windowJ (ju3.more y0 y1)).1.1), .int .i64 ((windowJ (ju3.more y0 y1)).1.2)]) :: (g12, .cells (jobL (ju3.more y0 y1) Au21 cu21)) :: (gr7_4, .cells (jobL j A c ++ jobL ju3 Au3 cu3 ++ [.int .i64 ju3.p0, .int .i64 ju3.p1, .int .i64 ju3.t0, .int .i64 ju3.t1, .int .i64 ju3.r0, .int .i64 ju3.r1, .int .i64 ju3.u0, .int .i64 ju3.u1, .int .i64 ju3.d0, .int .i64 ju3.d1, .int .i64 ju3.a0, .int .i64 ju3.a1, .int .i64 ju3.b0, .int .i64 ju3.b1, .int .i64 ju3.le, .slice (some ⟨ga1, 0, none⟩) ((ju3.more y0 y1).sh.length) cga1, .int .i64 ju3.wi, .int .i64 ju3.me] ++ jobL ju3 Au3 cu3)) :: (gr7_26, .cells [.int .i64 r, .int .i64 xur7_23, .int .i64 r, .int .i64 r]) :: (ga1, .row 23 2 (ju3.more y0 y1).sh.length (rc (ju3.more y0 y1).sh) cga1) :: (Iu3 ++ Iu5 ++ Iu13 ++ Iu21))) ?_ ?_
                · refine g_start2 M (M.mask [true, true, true, true, true, true, true] rfl) 15 (by kernel_rfl) rfl (by kernel_rfl) ?_
                  clear M; intro wc M
                  refine g_q (T := T) (i := 0) rfl (by kernel_rfl) (by kernel_rfl : (pbits 15 0).setIfInBounds 0 true = pbits 15 1) si_U (fun _ _ _ h => h) rfl rfl rfl rfl (fun _ _ _ _ _ => (rn_move rfl (T.ev 0 rfl))) ?_; clear T ac; intro ac T
                  refine g_q (T := T) (i := 1) rfl (by kernel_rfl) (by kernel_rfl : (pbits 15 1).setIfInBounds 1 true = pbits 15 3) si_U (fun _ _ _ h => h) rfl rfl rfl rfl (fun _ _ _ _ _ => (rn_move rfl (T.ev 3 rfl))) ?_; clear T ac; intro ac T
                  refine g_q (v := (.pointer (some ⟨gr7_4, 36, none⟩))) (T := T) (i := 2) rfl (by kernel_rfl) (by kernel_rfl : (pbits 15 3).setIfInBounds 2 true = pbits 15 7) si_U (fun _ _ _ h => h) rfl rfl rfl rfl (fun _ _ _ _ _ => (rn_indexAddr (size := 18) 2 rfl (T.ev 1 rfl) (T.ev 0 rfl) ⟨_, Try.underlying36, by kernel_rfl⟩ rfl (by decide) rfl)) ?_; clear T ac; intro ac T
                  refine g_q (T := T) (i := 3) rfl (by kernel_rfl) (by kernel_rfl : (pbits 15 7).setIfInBounds 3 true = pbits 15 15) si_U (fun _ _ _ h => h) rfl rfl rfl rfl (fun B w' hD hl hS => (rn_rowO (Mem.nth (show Mem w noEx w' _ from hS) 4 rfl) rfl (T.ev 0 rfl) rfl)) ?_; clear T ac; intro ac T
                  refine g_q (T := T) (i := 4) rfl (by kernel_rfl) (by kernel_rfl : (pbits 15 15).setIfInBounds 4 true = pbits 15 31) si_U (fun _ _ _ h => h) rfl rfl rfl rfl (fun _ _ _ _ _ => (rn_move rfl (T.ev 5 rfl))) ?_; clear T ac; intro ac T
                  refine g_q (T := T) (i := 5) rfl (by kernel_rfl) (by kernel_rfl : (pbits 15 31).setIfInBounds 5 true = pbits 15 63) si_U (fun _ _ _ h => h) rfl rfl rfl rfl (fun _ _ _ _ _ => (rn_move rfl (T.ev 7 rfl))) ?_; clear T ac; intro ac T
                  refine g_q (v := (.pointer (some ⟨gr7_26, 2, none⟩))) (T := T) (i := 6) rfl (by kernel_rfl) (by kernel_rfl : (pbits 15 63).setIfInBounds 6 true = pbits 15 127) si_U (fun _ _ _ h => h) rfl rfl rfl rfl (fun _ _ _ _ _ => (rn_indexAddr (size := 1) 2 rfl (T.ev 1 rfl) (T.ev 0 rfl) ⟨_, Try.underlying31, by kernel_rfl⟩ rfl (by decide) rfl)) ?_; clear T ac; intro ac T
                  refine g_q (T := T) (i := 7) rfl (by kernel_rfl) (by kernel_rfl : (pbits 15 127).setIfInBounds 7 true = pbits 15 255) si_U (fun _ _ _ h => h) rfl rfl rfl rfl (fun B w' hD hl hS => (rn_one (Mem.nth (show Mem w noEx w' _ from hS) 5 rfl) rfl (T.ev 0 rfl) rfl)) ?_; clear T ac; intro ac T
                  refine g_m2 (i := 8) (j := 12) (by kernel_rfl) ?_ ?_
                  · refine g_i rfl (by kernel_rfl : (pbits 15 255).setIfInBounds 8 true = pbits 15 511) rfl ?_; intro K hK
                    refine ow_call (first := []) (cap := []) T rfl rfl rfl rfl evf (.cons (T.ev 4 rfl) (.cons (T.ev 0 rfl) .nil)) Try.func48 rfl rfl ?_
                    refine Calls.mono (rHear_J (ju3.more y0 y1) _ _ r _ (M.rdRow (nthE_mem (i := 6) rfl)) (by first | omega | (have := few_more hfewu3 y0 y1; omega))) ?_
                    clear T
                    rintro e wc ⟨rfl, hb⟩
                    intro ac T
                    replace M := M.call hb; clear hb
                    refine sh_out hK _ _ (M.mask [true, true, true, true, true, true, true] rfl) ?_; clear hK K
                    refine g_q (T := T) (i := 9) rfl (by kernel_rfl) (by kernel_rfl : (pbits 15 511).setIfInBounds 9 true = pbits 15 1023) si_U (fun _ _ _ h => h) rfl rfl rfl rfl (fun _ _ _ _ _ => (rn_move rfl (T.ev 0 rfl))) ?_; clear T ac; intro ac T
                    refine g_q (T := T) (i := 10) rfl (by kernel_rfl) (by kernel_rfl : (pbits 15 1023).setIfInBounds 10 true = pbits 15 2047) si_U (fun _ _ _ h => h) rfl rfl rfl rfl (fun _ _ _ _ _ => (rn_extract rfl (T.ev 0 rfl) rfl)) ?_; clear T ac; intro ac T
                    refine g_q (T := T) (i := 11) rfl (by kernel_rfl) (by kernel_rfl : (pbits 15 2047).setIfInBounds 11 true = pbits 15 4095) si_U (fun _ _ _ h => h) rfl rfl rfl rfl (fun _ _ _ _ _ => (rn_extract rfl (T.ev 1 rfl) rfl)) ?_; clear T ac; intro ac T
                    refine g_w (i := 12) (by kernel_rfl) rfl (by kernel_rfl : (pbits 15 4095).setIfInBounds 12 true = pbits 15 8191) rfl ?_; intro K hK
                    refine ow_al M T rfl rfl rfl rfl ?_; clear M T; intro gr17_12 wc ac M T
                    refine sh_out hK _ _ (M.mask [false, true, true, true, true, true, true, true] rfl) ?_; clear hK K
                    refine g_w (i := 13) (by kernel_rfl) rfl (by kernel_rfl : (pbits 15 8191).setIfInBounds 13 true = pbits 15 16383) rfl ?_; intro K hK
                    refine ow_stO M T rfl rfl (T.ev 0 rfl) (T.ev 2 rfl) rfl .head rfl (by simp) rfl (by kernel_rfl) ?_; clear M T; intro wc ac M T
                    refine sh_out hK _ _ (M.mask [false, true, true, true, true, true, true, true] rfl) ?_; clear hK K
                    refine g_q (T := T) (i := 14) rfl (by kernel_rfl) (by kernel_rfl : (pbits 15 16383).setIfInBounds 14 true = pbits 15 32767) si_U (fun _ _ _ h => h) rfl rfl rfl rfl (fun _ _ _ _ _ => (rn_assign rfl (T.ev 1 rfl))) ?_; clear T ac; intro ac T
                    refine g_done (by kernel_rfl) ?_
                    replace T := T.pick [0, 1, 14, 15, 16, 17, 18, 19, 20, 21, 22, 23, 24, 25, 26, 27, 28, 29, 30, 31, 32, 33, 34, 35, 36, 37, 38, 39, 40, 41, 42, 43, 44, 45, 46, 47, 48, 49, 50, 51, 52] rfl
                    exact ⟨gr17_12, (T.pick (E' := [(12, .slice (some ⟨gr7_4, 0, none⟩) 4 4), (13, .slice (some ⟨gr7_26, 0, none⟩) 4 4), (14, .int .i64 2), (15, .pointer (some ⟨g12, 0, none⟩)), (16, .pointer (some ⟨g13, 0, none⟩)), (17, .int .i64 ((windowJ (ju3.more y0 y1)).2)), (18, .pointer (some ⟨g14, 0, none⟩)), (19, .int .i64 ((windowJ (ju3.more y0 y1)).2)), (20, .int .i64 ((passesT (ju3.more y0 y1)).1)), (21, .int .i64 ((passesT (ju3.more y0 y1)).2)), (22, .int .i64 ((passesT (ju3.more y0 y1)).1)), (23, .int .i64 ((passesT (ju3.more y0 y1)).2)), (24, .pointer (some ⟨gr16_9, 0, none⟩)), (25, .int .i64 ((hearT (ju3.more y0 y1) r).2)), (26, .pointer (some ⟨gr17_12, 0, none⟩)), (27, .int .i64 ((hearT (ju3.more y0 y1) r).2)), (139, .agg #[.int .i64 ((windowJ ju3).1.1), .int .i64 ((windowJ ju3).1.2)]), (140, .agg #[.int .i64 ((windowJ ju3).1.1), .int .i64 ((windowJ ju3).1.2)]), (141, .bool false), (144, .int .i64 ((windowJ ju3).2)), (145, .int .i64 ((windowJ ju3).2)), (146, .bool false), (149, .int .i64 ((passesT ju3).1)), (150, .int .i64 ((passesT ju3).1)), (151, .bool false), (154, .int .i64 ((passesT ju3).2)), (155, .int .i64 ((passesT ju3).2)), (156, .bool false), (159, .agg #[.int .i64 ((hearT ju3 xur7_23).1.1), .int .i64 ((hearT ju3 xur7_23).1.2)]), (160, .agg #[.int .i64 ((hearT ju3 xur7_23).1.1), .int .i64 ((hearT ju3 xur7_23).1.2)]), (161, .bool false), (164, .int .i64 ((hearT ju3 xur7_23).2)), (165, .int .i64 ((hearT ju3 xur7_23).2)), (166, .bool false), (169, .agg #[.int .i64 ju3.p0, .int .i64 ju3.p1, .int .i64 ju3.t0, .int .i64 ju3.t1, .int .i64 ju3.r0, .int .i64 ju3.r1, .int .i64 ju3.u0, .int .i64 ju3.u1, .int .i64 ju3.d0, .int .i64 ju3.d1, .int .i64 ju3.a0, .int .i64 ju3.a1, .int .i64 ju3.b0, .int .i64 ju3.b1, .int .i64 ju3.le, .slice Au13 ju3.sh.length cu13, .int .i64 ju3.wi, .int .i64 ju3.me]), (170, .slice (some ⟨gr7_4, 0, none⟩) 4 4), (171, .int .i64 1), (172, .pointer (some ⟨gr7_4, 18, none⟩)), (173, .agg #[.int .i64 ju3.p0, .int .i64 ju3.p1, .int .i64 ju3.t0, .int .i64 ju3.t1, .int .i64 ju3.r0, .int .i64 ju3.r1, .int .i64 ju3.u0, .int .i64 ju3.u1, .int .i64 ju3.d0, .int .i64 ju3.d1, .int .i64 ju3.a0, .int .i64 ju3.a1, .int .i64 ju3.b0, .int .i64 ju3.b1, .int .i64 ju3.le, .slice Au3 ju3.sh.length cu3, .int .i64 ju3.wi, .int .i64 ju3.me]), (174, .bool true), (175, .bool false)]) [2, 3, 4, 5, 6, 7, 8, 9, 10, 11, 12, 13, 14, 15, 1, 0, 16, 17, 18, 19, 20, 21, 22, 23, 24, 25, 26, 27, 28, 29, 30, 31, 32, 33, 34, 35, 36, 37, 38, 39, 40] rfl).as (by rfl), M.mask [true, true, true, true, true, true, true, true] rfl⟩
                  · refine g_i rfl (by kernel_rfl : (pbits 15 255).setIfInBounds 12 true = pbits 15 4351) rfl ?_; intro K hK
                    refine ow_al M T rfl rfl rfl rfl ?_; clear M T; intro gr17_12 wc ac M T
                    refine sh_out hK _ _ (M.mask [false, true, true, true, true, true, true, true] rfl) ?_; clear hK K
                    refine g_w (i := 8) (by kernel_rfl) rfl (by kernel_rfl : (pbits 15 4351).setIfInBounds 8 true = pbits 15 4607) rfl ?_; intro K hK
                    refine ow_call (first := []) (cap := []) T rfl rfl rfl rfl evf (.cons (T.ev 5 rfl) (.cons (T.ev 1 rfl) .nil)) Try.func48 rfl rfl ?_
                    refine Calls.mono (rHear_J (ju3.more y0 y1) _ _ r _ (M.rdRow (nthE_mem (i := 7) rfl)) (by first | omega | (have := few_more hfewu3 y0 y1; omega))) ?_
                    clear T
                    rintro e wc ⟨rfl, hb⟩
                    intro ac T
                    replace M := M.call hb; clear hb
                    refine sh_out hK _ _ (M.mask [false, true, true, true, true, true, true, true] rfl) ?_; clear hK K
                    refine g_q (T := T) (i := 9) rfl (by kernel_rfl) (by kernel_rfl : (pbits 15 4607).setIfInBounds 9 true = pbits 15 5119) si_U (fun _ _ _ h => h) rfl rfl rfl rfl (fun _ _ _ _ _ => (rn_move rfl (T.ev 0 rfl))) ?_; clear T ac; intro ac T
                    refine g_q (T := T) (i := 10) rfl (by kernel_rfl) (by kernel_rfl : (pbits 15 5119).setIfInBounds 10 true = pbits 15 6143) si_U (fun _ _ _ h => h) rfl rfl rfl rfl (fun _ _ _ _ _ => (rn_extract rfl (T.ev 0 rfl) rfl)) ?_; clear T ac; intro ac T
                    refine g_q (T := T) (i := 11) rfl (by kernel_rfl) (by kernel_rfl : (pbits 15 6143).setIfInBounds 11 true = pbits 15 8191) si_U (fun _ _ _ h => h) rfl rfl rfl rfl (fun _ _ _ _ _ => (rn_extract rfl (T.ev 1 rfl) rfl)) ?_; clear T ac; intro ac T
                    refine g_w (i := 13) (by kernel_rfl) rfl (by kernel_rfl : (pbits 15 8191).setIfInBounds 13 true = pbits 15 16383) rfl ?_; intro K hK
                    refine ow_stO M T rfl rfl (T.ev 4 rfl) (T.ev 1 rfl) rfl .head rfl (by simp) rfl (by kernel_rfl) ?_; clear M T; intro wc ac M T
                    refine sh_out hK _ _ (M.mask [false, true, true, true, true, true, true, true] rfl) ?_; clear hK K
                    refine g_q (T := T) (i := 14) rfl (by kernel_rfl) (by kernel_rfl : (pbits 15 16383).setIfInBounds 14 true = pbits 15 32767) si_U (fun _ _ _ h => h) rfl rfl rfl rfl (fun _ _ _ _ _ => (rn_assign rfl (T.ev 0 rfl))) ?_; clear T ac; intro ac T
                    refine g_done (by kernel_rfl) ?_
                    replace T := T.pick [0, 5, 14, 15, 16, 17, 18, 19, 20, 21, 22, 23, 24, 25, 26, 27, 28, 29, 30, 31, 32, 33, 34, 35, 36, 37, 38, 39, 40, 41, 42, 43, 44, 45, 46, 47, 48, 49, 50, 51, 52] rfl
                    exact ⟨gr17_12, (T.pick (E' := [(12, .slice (some ⟨gr7_4, 0, none⟩) 4 4), (13, .slice (some ⟨gr7_26, 0, none⟩) 4 4), (14, .int .i64 2), (15, .pointer (some ⟨g12, 0, none⟩)), (16, .pointer (some ⟨g13, 0, none⟩)), (17, .int .i64 ((windowJ (ju3.more y0 y1)).2)), (18, .pointer (some ⟨g14, 0, none⟩)), (19, .int .i64 ((windowJ (ju3.more y0 y1)).2)), (20, .int .i64 ((passesT (ju3.more y0 y1)).1)), (21, .int .i64 ((passesT (ju3.more y0 y1)).2)), (22, .int .i64 ((passesT (ju3.more y0 y1)).1)), (23, .int .i64 ((passesT (ju3.more y0 y1)).2)), (24, .pointer (some ⟨gr16_9, 0, none⟩)), (25, .int .i64 ((hearT (ju3.more y0 y1) r).2)), (26, .pointer (some ⟨gr17_12, 0, none⟩)), (27, .int .i64 ((hearT (ju3.more y0 y1) r).2)), (139, .agg #[.int .i64 ((windowJ ju3).1.1), .int .i64 ((windowJ ju3).1.2)]), (140, .agg #[.int .i64 ((windowJ ju3).1.1), .int .i64 ((windowJ ju3).1.2)]), (141, .bool false), (144, .int .i64 ((windowJ ju3).2)), (145, .int .i64 ((windowJ ju3).2)), (146, .bool false), (149, .int .i64 ((passesT ju3).1)), (150, .int .i64 ((passesT ju3).1)), (151, .bool false), (154, .int .i64 ((passesT ju3).2)), (155, .int .i64 ((passesT ju3).2)), (156, .bool false), (159, .agg #[.int .i64 ((hearT ju3 xur7_23).1.1), .int .i64 ((hearT ju3 xur7_23).1.2)]), (160, .agg #[.int .i64 ((hearT ju3 xur7_23).1.1), .int .i64 ((hearT ju3 xur7_23).1.2)]), (161, .bool false), (164, .int .i64 ((hearT ju3 xur7_23).2)), (165, .int .i64 ((hearT ju3 xur7_23).2)), (166, .bool false), (169, .agg #[.int .i64 ju3.p0, .int .i64 ju3.p1, .int .i64 ju3.t0, .int .i64 ju3.t1, .int .i64 ju3.r0, .int .i64 ju3.r1, .int .i64 ju3.u0, .int .i64 ju3.u1, .int .i64 ju3.d0, .int .i64 ju3.d1, .int .i64 ju3.a0, .int .i64 ju3.a1, .int .i64 ju3.b0, .int .i64 ju3.b1, .int .i64 ju3.le, .slice Au13 ju3.sh.length cu13, .int .i64 ju3.wi, .int .i64 ju3.me]), (170, .slice (some ⟨gr7_4, 0, none⟩) 4 4), (171, .int .i64 1), (172, .pointer (some ⟨gr7_4, 18, none⟩)), (173, .agg #[.int .i64 ju3.p0, .int .i64 ju3.p1, .int .i64 ju3.t0, .int .i64 ju3.t1, .int .i64 ju3.r0, .int .i64 ju3.r1, .int .i64 ju3.u0, .int .i64 ju3.u1, .int .i64 ju3.d0, .int .i64 ju3.d1, .int .i64 ju3.a0, .int .i64 ju3.a1, .int .i64 ju3.b0, .int .i64 ju3.b1, .int .i64 ju3.le, .slice Au3 ju3.sh.length cu3, .int .i64 ju3.wi, .int .i64 ju3.me]), (174, .bool true), (175, .bool false)]) [2, 3, 4, 5, 6, 7, 8, 9, 10, 11, 12, 13, 14, 15, 1, 0, 16, 17, 18, 19, 20, 21, 22, 23, 24, 25, 26, 27, 28, 29, 30, 31, 32, 33, 34, 35, 36, 37, 38, 39, 40] rfl).as (by rfl), M.mask [true, true, true, true, true, true, true, true] rfl⟩
                · clear T M
                  rintro ac wc ⟨gr17_12, T, M⟩
                  refine wp_seq ?_
                  refine g_start2 M (M.mask [true, true, true, true, true, true, true, true] rfl) 47 (by kernel_rfl) rfl (by kernel_rfl) ?_
                  clear M; intro wc M
                  refine g_q (T := T) (i := 0) rfl (by kernel_rfl) (by kernel_rfl : (pbits 47 0).setIfInBounds 0 true = pbits 47 1) si_U (fun _ _ _ h => h) rfl rfl rfl rfl (fun B w' hD hl hS => (rn_rowO (Mem.nth (show Mem w noEx w' _ from hS) 4 rfl) rfl (T.ev 3 rfl) rfl)) ?_; clear T ac; intro ac T
                  refine g_q (T := T) (i := 2) rfl (by kernel_rfl) (by kernel_rfl : (pbits 47 1).setIfInBounds 2 true = pbits 47 5) si_U (fun _ _ _ h => h) rfl rfl rfl rfl (fun _ _ _ _ _ => (rn_move rfl (T.ev 1 rfl))) ?_; clear T ac; intro ac T
                  refine g_q (T := T) (i := 3) rfl (by kernel_rfl) (by kernel_rfl : (pbits 47 5).setIfInBounds 3 true = pbits 47 13) si_U (fun _ _ _ h => h) rfl rfl rfl rfl (fun _ _ _ _ _ => (rn_move rfl (T.ev 4 rfl))) ?_; clear T ac; intro ac T
                  refine g_q (v := (.pointer (some ⟨gr7_4, 36, none⟩))) (T := T) (i := 4) rfl (by kernel_rfl) (by kernel_rfl : (pbits 47 13).setIfInBounds 4 true = pbits 47 29) si_U (fun _ _ _ h => h) rfl rfl rfl rfl (fun _ _ _ _ _ => (rn_indexAddr (size := 18) 2 rfl (T.ev 1 rfl) (T.ev 0 rfl) ⟨_, Try.underlying36, by kernel_rfl⟩ rfl (by decide) rfl)) ?_; clear T ac; intro ac T
                  refine g_q (T := T) (i := 5) rfl (by kernel_rfl) (by kernel_rfl : (pbits 47 29).setIfInBounds 5 true = pbits 47 61) si_U (fun _ _ _ h => h) rfl rfl rfl rfl (fun B w' hD hl hS => (rn_rowO (Mem.nth (show Mem w noEx w' _ from hS) 5 rfl) rfl (T.ev 0 rfl) rfl)) ?_; clear T ac; intro ac T
                  refine g_w (i := 1) (by kernel_rfl) rfl (by kernel_rfl : (pbits 47 61).setIfInBounds 1 true = pbits 47 63) rfl ?_; intro K hK
                  refine ow_call (first := []) (cap := []) T rfl rfl rfl rfl evf (.cons (T.ev 4 rfl) .nil) Try.func49 rfl rfl ?_
                  refine Calls.mono (check_any (ju3.more y0 y1) _ _ _ (Su21.rd M (.cons _ (.cons _ (.cons _ (.cons _ (.cons _ (.cons _ (.cons _ (.cons _ (List.sublist_append_right _ _)))))))))) (by first | omega | (have := few_more hfewu3 y0 y1; omega))) ?_
                  clear T
                  rintro e wc ⟨rfl, hb⟩
                  intro ac T
                  replace M := M.call hb; clear hb
                  refine sh_out hK _ _ (M.mask [true, true, true, true, true, true, true, true] rfl) ?_; clear hK K
                  refine g_addU M ?_
                  refine g_w (i := 6) (by kernel_rfl) rfl (by kernel_rfl : (pbits 47 63).setIfInBounds 6 true = pbits 47 127) rfl ?_; intro K hK
                  refine ow_call (first := []) (cap := []) T rfl rfl rfl rfl evf (.cons (T.ev 1 rfl) .nil) Try.func50 rfl rfl ?_
                  refine Calls.mono (rCheck_any (ju3.more y0 y1) _ _ _ (M.rdRow (nthE_mem (i := 7) rfl)) (by first | omega | (have := few_more hfewu3 y0 y1; omega))) ?_
                  clear T
                  rintro e wc ⟨rfl, hb⟩
                  intro ac T
                  replace M := M.call hb; clear hb
                  refine sh_out hK _ _ (MA.mk (M.mask [true, true, true, true, true, true, true, true] rfl) (M.mask [true, true, true, true, true, true, true, true] rfl)) ?_; clear hK K
                  refine g_addU M ?_
                  refine g_q (v := (.bool false)) (T := T) (i := 7) rfl (by kernel_rfl) (by kernel_rfl : (pbits 47 127).setIfInBounds 7 true = pbits 47 255) (si_and si_U (si_and si_U si_U)) (fun _ _ _ h => h) rfl rfl rfl rfl (fun _ _ _ _ _ => (rn_neqof (rn_neq rfl (T.ev 1 rfl) (T.ev 0 rfl)) (by simp))) ?_; clear T ac; intro ac T
                  refine g_q (T := T) (i := 8) rfl (by kernel_rfl) (by kernel_rfl : (pbits 47 255).setIfInBounds 8 true = pbits 47 511) (si_and si_U (si_and si_U si_U)) (fun _ _ _ h => h) rfl rfl rfl rfl (fun _ _ _ _ _ => (rn_move rfl (T.ev 0 rfl))) ?_; clear T ac; intro ac T
                  refine g_q (v := (.agg #[.int .i64 ((windowJ (ju3.more y0 y1)).1.1), .int .i64 ((windowJ (ju3.more y0 y1)).1.2)])) (T := T.pick [0, 1, 2, 3, 4, 5, 6, 7, 8, 9, 10, 11, 12, 13, 14, 15, 16, 17, 18, 19, 20, 21, 22, 23, 24, 26, 27, 28, 29, 30, 31, 32, 33, 34, 35, 36, 37, 38, 39, 40, 41, 42, 43, 44, 45, 46, 47, 48, 49] rfl) (i := 9) rfl (by kernel_rfl) (by kernel_rfl : (pbits 47 511).setIfInBounds 9 true = pbits 47 1023) (si_and si_U (si_and si_U si_U)) (fun _ _ _ h => h) (wanted_yes rfl rfl (T.ev 0 rfl) rfl) rfl rfl rfl (fun B w' hD hl hS => (rn_rowO (Mem.nth (show Mem w noEx w' _ from (MA.lft hS)) 3 rfl) rfl (T.ev 13 rfl) rfl)) ?_; clear T ac; intro ac T
                  refine g_q (v := (.agg #[.int .i64 ((windowJ (ju3.more y0 y1)).1.1), .int .i64 ((windowJ (ju3.more y0 y1)).1.2)])) (T := T.pick [0, 1, 2, 3, 4, 5, 6, 7, 8, 9, 10, 11, 12, 13, 14, 15, 16, 17, 18, 19, 20, 21, 22, 23, 24, 25, 27, 28, 29, 30, 31, 32, 33, 34, 35, 36, 37, 38, 39, 40, 41, 42, 43, 44, 45, 46, 47, 48, 49] rfl) (i := 10) rfl (by kernel_rfl) (by kernel_rfl : (pbits 47 1023).setIfInBounds 10 true = pbits 47 2047) (si_and si_U (si_and si_U si_U)) (fun _ _ _ h => h) (wanted_yes rfl rfl (T.ev 1 rfl) rfl) rfl rfl rfl (fun B w' hD hl hS => (rn_rowO (Mem.nth (show Mem w noEx w' _ from (MA.lft hS)) 2 rfl) rfl (T.ev 16 rfl) rfl)) ?_; clear T ac; intro ac T
                  refine g_q (v := (.bool false)) (T := T.pick [0, 1, 2, 3, 4, 5, 6, 7, 8, 9, 10, 11, 12, 13, 14, 15, 16, 17, 18, 19, 20, 21, 22, 23, 24, 25, 26, 28, 29, 30, 31, 32, 33, 34, 35, 36, 37, 38, 39, 40, 41, 42, 43, 44, 45, 46, 47, 48, 49] rfl) (i := 11) rfl (by kernel_rfl) (by kernel_rfl : (pbits 47 2047).setIfInBounds 11 true = pbits 47 4095) (si_and si_U (si_and si_U si_U)) (fun _ _ _ h => h) (wanted_yes rfl rfl (T.ev 2 rfl) rfl) rfl rfl rfl (fun _ _ _ _ _ => (rn_neqof (rn_bin rfl (T.ev 1 rfl) (T.ev 0 rfl) neT23) (by simp))) ?_; clear T ac; intro ac T
                  refine g_q (T := T) (i := 12) rfl (by kernel_rfl) (by kernel_rfl : (pbits 47 4095).setIfInBounds 12 true = pbits 47 8191) (si_and si_U (si_and si_U si_U)) (fun _ _ _ h => h) rfl rfl rfl rfl (fun _ _ _ _ _ => (rn_pick0 rfl (T.ev 3 rfl) rfl (T.ev 0 rfl))) ?_; clear T ac; intro ac T
                  refine g_q (T := T) (i := 13) rfl (by kernel_rfl) (by kernel_rfl : (pbits 47 8191).setIfInBounds 13 true = pbits 47 16383) (si_and si_U (si_and si_U si_U)) (fun _ _ _ h => h) rfl rfl rfl rfl (fun _ _ _ _ _ => (rn_move rfl (T.ev 0 rfl))) ?_; clear T ac; intro ac T
                  refine g_q (v := (.int .i64 ((windowJ (ju3.more y0 y1)).2))) (T := T.pick [0, 1, 2, 3, 4, 5, 6, 7, 8, 9, 10, 11, 12, 13, 14, 15, 16, 17, 18, 19, 20, 21, 22, 23, 24, 25, 26, 27, 28, 29, 31, 32, 33, 34, 35, 36, 37, 38, 39, 40, 41, 42, 43, 44, 45, 46, 47, 48, 49, 50, 51] rfl) (i := 14) rfl (by kernel_rfl) (by kernel_rfl : (pbits 47 16383).setIfInBounds 14 true = pbits 47 32767) (si_and si_U (si_and si_U si_U)) (fun _ _ _ h => h) (wanted_yes rfl rfl (T.ev 0 rfl) rfl) rfl rfl rfl (fun _ _ _ _ _ => (rn_move rfl (T.ev 19 rfl))) ?_; clear T ac; intro ac T
                  refine g_q (v := (.int .i64 ((windowJ (ju3.more y0 y1)).2))) (T := T.pick [0, 1, 2, 3, 4, 5, 6, 7, 8, 9, 10, 11, 12, 13, 14, 15, 16, 17, 18, 19, 20, 21, 22, 23, 24, 25, 26, 27, 28, 29, 30, 32, 33, 34, 35, 36, 37, 38, 39, 40, 41, 42, 43, 44, 45, 46, 47, 48, 49, 50, 51] rfl) (i := 15) rfl (by kernel_rfl) (by kernel_rfl : (pbits 47 32767).setIfInBounds 15 true = pbits 47 65535) (si_and si_U (si_and si_U si_U)) (fun _ _ _ h => h) (wanted_yes rfl rfl (T.ev 1 rfl) rfl) rfl rfl rfl (fun _ _ _ _ _ => (rn_move rfl (T.ev 22 rfl))) ?_; clear T ac; intro ac T
                  refine g_q (v := (.bool false)) (T := T.pick [0, 1, 2, 3, 4, 5, 6, 7, 8, 9, 10, 11, 12, 13, 14, 15, 16, 17, 18, 19, 20, 21, 22, 23, 24, 25, 26, 27, 28, 29, 30, 31, 33, 34, 35, 36, 37, 38, 39, 40, 41, 42, 43, 44, 45, 46, 47, 48, 49, 50, 51] rfl) (i := 16) rfl (by kernel_rfl) (by kernel_rfl : (pbits 47 65535).setIfInBounds 16 true = pbits 47 131071) (si_and si_U (si_and si_U si_U)) (fun _ _ _ h => h) (wanted_yes rfl rfl (T.ev 2 rfl) rfl) rfl rfl rfl (fun _ _ _ _ _ => (rn_neqof (rn_neq rfl (T.ev 1 rfl) (T.ev 0 rfl)) (by simp))) ?_; clear T ac; intro ac T
                  refine g_q (T := T) (i := 17) rfl (by kernel_rfl) (by kernel_rfl : (pbits 47 131071).setIfInBounds 17 true = pbits 47 262143) (si_and si_U (si_and si_U si_U)) (fun _ _ _ h => h) rfl rfl rfl rfl (fun _ _ _ _ _ => (rn_pick0 rfl (T.ev 3 rfl) rfl (T.ev 0 rfl))) ?_; clear T ac; intro ac T
                  refine g_q (T := T) (i := 18) rfl (by kernel_rfl) (by kernel_rfl : (pbits 47 262143).setIfInBounds 18 true = pbits 47 524287) (si_and si_U (si_and si_U si_U)) (fun _ _ _ h => h) rfl rfl rfl rfl (fun _ _ _ _ _ => (rn_move rfl (T.ev 0 rfl))) ?_; clear T ac; intro ac T
                  refine g_q (v := (.int .i64 ((passesT (ju3.more y0 y1)).1))) (T := T.pick [0, 1, 2, 3, 4, 5, 6, 7, 8, 9, 10, 11, 12, 13, 14, 15, 16, 17, 18, 19, 20, 21, 22, 23, 24, 25, 26, 27, 28, 29, 30, 31, 32, 33, 34, 36, 37, 38, 39, 40, 41, 42, 43, 44, 45, 46, 47, 48, 49, 50, 51, 52, 53] rfl) (i := 19) rfl (by kernel_rfl) (by kernel_rfl : (pbits 47 524287).setIfInBounds 19 true = pbits 47 1048575) (si_and si_U (si_and si_U si_U)) (fun _ _ _ h => h) (wanted_yes rfl rfl (T.ev 0 rfl) rfl) rfl rfl rfl (fun _ _ _ _ _ => (rn_move rfl (T.ev 27 rfl))) ?_; clear T ac; intro ac T
                  refine g_q (v := (.int .i64 ((passesT (ju3.more y0 y1)).1))) (T := T.pick [0, 1, 2, 3, 4, 5, 6, 7, 8, 9, 10, 11, 12, 13, 14, 15, 16, 17, 18, 19, 20, 21, 22, 23, 24, 25, 26, 27, 28, 29, 30, 31, 32, 33, 34, 35, 37, 38, 39, 40, 41, 42, 43, 44, 45, 46, 47, 48, 49, 50, 51, 52, 53] rfl) (i := 20) rfl (by kernel_rfl) (by kernel_rfl : (pbits 47 1048575).setIfInBounds 20 true = pbits 47 2097151) (si_and si_U (si_and si_U si_U)) (fun _ _ _ h => h) (wanted_yes rfl rfl (T.ev 1 rfl) rfl) rfl rfl rfl (fun _ _ _ _ _ => (rn_move rfl (T.ev 30 rfl))) ?_; clear T ac; intro ac T
                  refine g_q (v := (.bool false)) (T := T.pick [0, 1, 2, 3, 4, 5, 6, 7, 8, 9, 10, 11, 12, 13, 14, 15, 16, 17, 18, 19, 20, 21, 22, 23, 24, 25, 26, 27, 28, 29, 30, 31, 32, 33, 34, 35, 36, 38, 39, 40, 41, 42, 43, 44, 45, 46, 47, 48, 49, 50, 51, 52, 53] rfl) (i := 21) rfl (by kernel_rfl) (by kernel_rfl : (pbits 47 2097151).setIfInBounds 21 true = pbits 47 4194303) (si_and si_U (si_and si_U si_U)) (fun _ _ _ h => h) (wanted_yes rfl rfl (T.ev 2 rfl) rfl) rfl rfl rfl (fun _ _ _ _ _ => (rn_neqof (rn_neq rfl (T.ev 1 rfl) (T.ev 0 rfl)) (by simp))) ?_; clear T ac; intro ac T
                  refine g_q (T := T) (i := 22) rfl (by kernel_rfl) (by kernel_rfl : (pbits 47 4194303).setIfInBounds 22 true = pbits 47 8388607) (si_and si_U (si_and si_U si_U)) (fun _ _ _ h => h) rfl rfl rfl rfl (fun _ _ _ _ _ => (rn_pick0 rfl (T.ev 3 rfl) rfl (T.ev 0 rfl))) ?_; clear T ac; intro ac T
                  refine g_q (T := T) (i := 23) rfl (by kernel_rfl) (by kernel_rfl : (pbits 47 8388607).setIfInBounds 23 true = pbits 47 16777215) (si_and si_U (si_and si_U si_U)) (fun _ _ _ h => h) rfl rfl rfl rfl (fun _ _ _ _ _ => (rn_move rfl (T.ev 0 rfl))) ?_; clear T ac; intro ac T
                  refine g_q (v := (.int .i64 ((passesT (ju3.more y0 y1)).2))) (T := T.pick [0, 1, 2, 3, 4, 5, 6, 7, 8, 9, 10, 11, 12, 13, 14, 15, 16, 17, 18, 19, 20, 21, 22, 23, 24, 25, 26, 27, 28, 29, 30, 31, 32, 33, 34, 35, 36, 37, 38, 39, 41, 42, 43, 44, 45, 46, 47, 48, 49, 50, 51, 52, 53, 54, 55] rfl) (i := 24) rfl (by kernel_rfl) (by kernel_rfl : (pbits 47 16777215).setIfInBounds 24 true = pbits 47 33554431) (si_and si_U (si_and si_U si_U)) (fun _ _ _ h => h) (wanted_yes rfl rfl (T.ev 0 rfl) rfl) rfl rfl rfl (fun _ _ _ _ _ => (rn_move rfl (T.ev 33 rfl))) ?_; clear T ac; intro ac T
                  refine g_q (v := (.int .i64 ((passesT (ju3.more y0 y1)).2))) (T := T.pick [0, 1, 2, 3, 4, 5, 6, 7, 8, 9, 10, 11, 12, 13, 14, 15, 16, 17, 18, 19, 20, 21, 22, 23, 24, 25, 26, 27, 28, 29, 30, 31, 32, 33, 34, 35, 36, 37, 38, 39, 40, 42, 43, 44, 45, 46, 47, 48, 49, 50, 51, 52, 53, 54, 55] rfl) (i := 25) rfl (by kernel_rfl) (by kernel_rfl : (pbits 47 33554431).setIfInBounds 25 true = pbits 47 67108863) (si_and si_U (si_and si_U si_U)) (fun _ _ _ h => h) (wanted_yes rfl rfl (T.ev 1 rfl) rfl) rfl rfl rfl (fun _ _ _ _ _ => (rn_move rfl (T.ev 36 rfl))) ?_; clear T ac; intro ac T
                  refine g_q (v := (.bool false)) (T := T.pick [0, 1, 2, 3, 4, 5, 6, 7, 8, 9, 10, 11, 12, 13, 14, 15, 16, 17, 18, 19, 20, 21, 22, 23, 24, 25, 26, 27, 28, 29, 30, 31, 32, 33, 34, 35, 36, 37, 38, 39, 40, 41, 43, 44, 45, 46, 47, 48, 49, 50, 51, 52, 53, 54, 55] rfl) (i := 26) rfl (by kernel_rfl) (by kernel_rfl : (pbits 47 67108863).setIfInBounds 26 true = pbits 47 134217727) (si_and si_U (si_and si_U si_U)) (fun _ _ _ h => h) (wanted_yes rfl rfl (T.ev 2 rfl) rfl) rfl rfl rfl (fun _ _ _ _ _ => (rn_neqof (rn_neq rfl (T.ev 1 rfl) (T.ev 0 rfl)) (by simp))) ?_; clear T ac; intro ac T
                  refine g_q (T := T) (i := 27) rfl (by kernel_rfl) (by kernel_rfl : (pbits 47 134217727).setIfInBounds 27 true = pbits 47 268435455) (si_and si_U (si_and si_U si_U)) (fun _ _ _ h => h) rfl rfl rfl rfl (fun _ _ _ _ _ => (rn_pick0 rfl (T.ev 3 rfl) rfl (T.ev 0 rfl))) ?_; clear T ac; intro ac T
                  refine g_q (T := T) (i := 28) rfl (by kernel_rfl) (by kernel_rfl : (pbits 47 268435455).setIfInBounds 28 true = pbits 47 536870911) (si_and si_U (si_and si_U si_U)) (fun _ _ _ h => h) rfl rfl rfl rfl (fun _ _ _ _ _ => (rn_move rfl (T.ev 0 rfl))) ?_; clear T ac; intro ac T
                  refine g_q (v := (.agg #[.int .i64 ((hearT (ju3.more y0 y1) r).1.1), .int .i64 ((hearT (ju3.more y0 y1) r).1.2)])) (T := T.pick [0, 1, 2, 3, 4, 5, 6, 7, 8, 9, 10, 11, 12, 13, 14, 15, 16, 17, 18, 19, 20, 21, 22, 23, 24, 25, 26, 27, 28, 29, 30, 31, 32, 33, 34, 35, 36, 37, 38, 39, 40, 41, 42, 43, 44, 46, 47, 48, 49, 50, 51, 52, 53, 54, 55, 56, 57] rfl) (i := 29) rfl (by kernel_rfl) (by kernel_rfl : (pbits 47 536870911).setIfInBounds 29 true = pbits 47 1073741823) (si_and si_U (si_and si_U si_U)) (fun _ _ _ h => h) (wanted_yes rfl rfl (T.ev 0 rfl) rfl) rfl rfl rfl (fun B w' hD hl hS => (rn_rowO (Mem.nth (show Mem w noEx w' _ from (MA.lft hS)) 1 rfl) rfl (T.ev 41 rfl) rfl)) ?_; clear T ac; intro ac T
                  refine g_q (v := (.agg #[.int .i64 ((hearT (ju3.more y0 y1) r).1.1), .int .i64 ((hearT (ju3.more y0 y1) r).1.2)])) (T := T.pick [0, 1, 2, 3, 4, 5, 6, 7, 8, 9, 10, 11, 12, 13, 14, 15, 16, 17, 18, 19, 20, 21, 22, 23, 24, 25, 26, 27, 28, 29, 30, 31, 32, 33, 34, 35, 36, 37, 38, 39, 40, 41, 42, 43, 44, 45, 47, 48, 49, 50, 51, 52, 53, 54, 55, 56, 57] rfl) (i := 30) rfl (by kernel_rfl) (by kernel_rfl : (pbits 47 1073741823).setIfInBounds 30 true = pbits 47 2147483647) (si_and si_U (si_and si_U si_U)) (fun _ _ _ h => h) (wanted_yes rfl rfl (T.ev 1 rfl) rfl) rfl rfl rfl (fun B w' hD hl hS => (rn_rowO (Mem.nth (show Mem w noEx w' _ from (MA.lft hS)) 0 rfl) rfl (T.ev 44 rfl) rfl)) ?_; clear T ac; intro ac T
                  refine g_q (v := (.bool false)) (T := T.pick [0, 1, 2, 3, 4, 5, 6, 7, 8, 9, 10, 11, 12, 13, 14, 15, 16, 17, 18, 19, 20, 21, 22, 23, 24, 25, 26, 27, 28, 29, 30, 31, 32, 33, 34, 35, 36, 37, 38, 39, 40, 41, 42, 43, 44, 45, 46, 48, 49, 50, 51, 52, 53, 54, 55, 56, 57] rfl) (i := 31) rfl (by kernel_rfl) (by kernel_rfl : (pbits 47 2147483647).setIfInBounds 31 true = pbits 47 4294967295) (si_and si_U (si_and si_U si_U)) (fun _ _ _ h => h) (wanted_yes rfl rfl (T.ev 2 rfl) rfl) rfl rfl rfl (fun _ _ _ _ _ => (rn_neqof (rn_bin rfl (T.ev 1 rfl) (T.ev 0 rfl) neT23) (by simp))) ?_; clear T ac; intro ac T
                  refine g_q (T := T) (i := 32) rfl (by kernel_rfl) (by kernel_rfl : (pbits 47 4294967295).setIfInBounds 32 true = pbits 47 8589934591) (si_and si_U (si_and si_U si_U)) (fun _ _ _ h => h) rfl rfl rfl rfl (fun _ _ _ _ _ => (rn_pick0 rfl (T.ev 3 rfl) rfl (T.ev 0 rfl))) ?_; clear T ac; intro ac T
                  refine g_q (T := T) (i := 33) rfl (by kernel_rfl) (by kernel_rfl : (pbits 47 8589934591).setIfInBounds 33 true = pbits 47 17179869183) (si_and si_U (si_and si_U si_U)) (fun _ _ _ h => h) rfl rfl rfl rfl (fun _ _ _ _ _ => (rn_move rfl (T.ev 0 rfl))) ?_; clear T ac; intro ac T
                  refine g_q (v := (.int .i64 ((hearT (ju3.more y0 y1) r).2))) (T := T.pick [0, 1, 2, 3, 4, 5, 6, 7, 8, 9, 10, 11, 12, 13, 14, 15, 16, 17, 18, 19, 20, 21, 22, 23, 24, 25, 26, 27, 28, 29, 30, 31, 32, 33, 34, 35, 36, 37, 38, 39, 40, 41, 42, 43, 44, 45, 46, 47, 48, 49, 51, 52, 53, 54, 55, 56, 57, 58, 59] rfl) (i := 34) rfl (by kernel_rfl) (by kernel_rfl : (pbits 47 17179869183).setIfInBounds 34 true = pbits 47 34359738367) (si_and si_U (si_and si_U si_U)) (fun _ _ _ h => h) (wanted_yes rfl rfl (T.ev 0 rfl) rfl) rfl rfl rfl (fun _ _ _ _ _ => (rn_move rfl (T.ev 47 rfl))) ?_; clear T ac; intro ac T
                  refine g_q (v := (.int .i64 ((hearT (ju3.more y0 y1) r).2))) (T := T.pick [0, 1, 2, 3, 4, 5, 6, 7, 8, 9, 10, 11, 12, 13, 14, 15, 16, 17, 18, 19, 20, 21, 22, 23, 24, 25, 26, 27, 28, 29, 30, 31, 32, 33, 34, 35, 36, 37, 38, 39, 40, 41, 42, 43, 44, 45, 46, 47, 48, 49, 50, 52, 53, 54, 55, 56, 57, 58, 59] rfl) (i := 35) rfl (by kernel_rfl) (by kernel_rfl : (pbits 47 34359738367).setIfInBounds 35 true = pbits 47 68719476735) (si_and si_U (si_and si_U si_U)) (fun _ _ _ h => h) (wanted_yes rfl rfl (T.ev 1 rfl) rfl) rfl rfl rfl (fun _ _ _ _ _ => (rn_move rfl (T.ev 50 rfl))) ?_; clear T ac; intro ac T
                  refine g_q (v := (.bool false)) (T := T.pick [0, 1, 2, 3, 4, 5, 6, 7, 8, 9, 10, 11, 12, 13, 14, 15, 16, 17, 18, 19, 20, 21, 22, 23, 24, 25, 26, 27, 28, 29, 30, 31, 32, 33, 34, 35, 36, 37, 38, 39, 40, 41, 42, 43, 44, 45, 46, 47, 48, 49, 50, 51, 53, 54, 55, 56, 57, 58, 59] rfl) (i := 36) rfl (by kernel_rfl) (by kernel_rfl : (pbits 47 68719476735).setIfInBounds 36 true = pbits 47 137438953471) (si_and si_U (si_and si_U si_U)) (fun _ _ _ h => h) (wanted_yes rfl rfl (T.ev 2 rfl) rfl) rfl rfl rfl (fun _ _ _ _ _ => (rn_neqof (rn_neq rfl (T.ev 1 rfl) (T.ev 0 rfl)) (by simp))) ?_; clear T ac; intro ac T
                  refine g_q (T := T) (i := 37) rfl (by kernel_rfl) (by kernel_rfl : (pbits 47 137438953471).setIfInBounds 37 true = pbits 47 274877906943) (si_and si_U (si_and si_U si_U)) (fun _ _ _ h => h) rfl rfl rfl rfl (fun _ _ _ _ _ => (rn_pick0 rfl (T.ev 3 rfl) rfl (T.ev 0 rfl))) ?_; clear T ac; intro ac T
                  refine g_q (T := T) (i := 38) rfl (by kernel_rfl) (by kernel_rfl : (pbits 47 274877906943).setIfInBounds 38 true = pbits 47 549755813887) (si_and si_U (si_and si_U si_U)) (fun _ _ _ h => h) rfl rfl rfl rfl (fun _ _ _ _ _ => (rn_move rfl (T.ev 0 rfl))) ?_; clear T ac; intro ac T
                  refine g_q (v := (.agg #[.int .i64 ((ju3.more y0 y1).p0), .int .i64 ((ju3.more y0 y1).p1), .int .i64 ((ju3.more y0 y1).t0), .int .i64 ((ju3.more y0 y1).t1), .int .i64 ((ju3.more y0 y1).r0), .int .i64 ((ju3.more y0 y1).r1), .int .i64 ((ju3.more y0 y1).u0), .int .i64 ((ju3.more y0 y1).u1), .int .i64 ((ju3.more y0 y1).d0), .int .i64 ((ju3.more y0 y1).d1), .int .i64 ((ju3.more y0 y1).a0), .int .i64 ((ju3.more y0 y1).a1), .int .i64 ((ju3.more y0 y1).b0), .int .i64 ((ju3.more y0 y1).b1), .int .i64 ((ju3.more y0 y1).le), .slice Au21 ((ju3.more y0 y1).sh.length) cu21, .int .i64 ((ju3.more y0 y1).wi), .int .i64 ((ju3.more y0 y1).me)])) (T := T.pick [0, 1, 2, 3, 4, 5, 6, 7, 8, 9, 10, 11, 12, 13, 14, 15, 16, 17, 18, 19, 20, 21, 22, 23, 24, 25, 26, 27, 28, 29, 30, 31, 32, 33, 34, 35, 36, 37, 38, 39, 40, 41, 42, 43, 44, 45, 46, 47, 48, 49, 50, 51, 52, 53, 54, 56, 57, 58, 59, 60, 61] rfl) (i := 39) rfl (by kernel_rfl) (by kernel_rfl : (pbits 47 549755813887).setIfInBounds 39 true = pbits 47 1099511627775) (si_and si_U (si_and si_U si_U)) (fun _ _ _ h => h) (wanted_yes rfl rfl (T.ev 0 rfl) rfl) rfl rfl rfl (fun B w' hD hl hS => (rn_rowO (Mem.nth (show Mem w noEx w' _ from (MA.lft hS)) 4 rfl) rfl (T.ev 42 rfl) rfl)) ?_; clear T ac; intro ac T
                  refine g_q (v := (.slice (some ⟨gr7_4, 0, none⟩) 4 4)) (T := T.pick [0, 1, 2, 3, 4, 5, 6, 7, 8, 9, 10, 11, 12, 13, 14, 15, 16, 17, 18, 19, 20, 21, 22, 23, 24, 25, 26, 27, 28, 29, 30, 31, 32, 33, 34, 35, 36, 37, 38, 39, 40, 41, 42, 43, 44, 45, 46, 47, 48, 49, 50, 51, 52, 53, 54, 55, 57, 58, 59, 60, 61] rfl) (i := 40) rfl (by kernel_rfl) (by kernel_rfl : (pbits 47 1099511627775).setIfInBounds 40 true = pbits 47 2199023255551) (si_and si_U (si_and si_U si_U)) (fun _ _ _ h => h) (wanted_yes rfl rfl (T.ev 1 rfl) rfl) rfl rfl rfl (fun _ _ _ _ _ => (rn_move rfl (T.ev 40 rfl))) ?_; clear T ac; intro ac T
                  refine g_q (v := (.int .i64 2)) (T := T.pick [0, 1, 2, 3, 4, 5, 6, 7, 8, 9, 10, 11, 12, 13, 14, 15, 16, 17, 18, 19, 20, 21, 22, 23, 24, 25, 26, 27, 28, 29, 30, 31, 32, 33, 34, 35, 36, 37, 38, 39, 40, 41, 42, 43, 44, 45, 46, 47, 48, 49, 50, 51, 52, 53, 54, 55, 56, 58, 59, 60, 61] rfl) (i := 41) rfl (by kernel_rfl) (by kernel_rfl : (pbits 47 2199023255551).setIfInBounds 41 true = pbits 47 4398046511103) (si_and si_U (si_and si_U si_U)) (fun _ _ _ h => h) (wanted_yes rfl rfl (T.ev 2 rfl) rfl) rfl rfl rfl (fun _ _ _ _ _ => (rn_move rfl (T.ev 43 rfl))) ?_; clear T ac; intro ac T
                  refine g_q (v := (.pointer (some ⟨gr7_4, 36, none⟩))) (T := T.pick [0, 1, 2, 3, 4, 5, 6, 7, 8, 9, 10, 11, 12, 13, 14, 15, 16, 17, 18, 19, 20, 21, 22, 23, 24, 25, 26, 27, 28, 29, 30, 31, 32, 33, 34, 35, 36, 37, 38, 39, 40, 41, 42, 43, 44, 45, 46, 47, 48, 49, 50, 51, 52, 53, 54, 55, 56, 57, 59, 60, 61] rfl) (i := 42) rfl (by kernel_rfl) (by kernel_rfl : (pbits 47 4398046511103).setIfInBounds 42 true = pbits 47 8796093022207) (si_and si_U (si_and si_U si_U)) (fun _ _ _ h => h) (wanted_yes rfl rfl (T.ev 3 rfl) rfl) rfl rfl rfl (fun _ _ _ _ _ => (rn_indexAddr (size := 18) 2 rfl (T.ev 1 rfl) (T.ev 0 rfl) ⟨_, Try.underlying36, by kernel_rfl⟩ rfl (by decide) rfl)) ?_; clear T ac; intro ac T
                  refine g_q (v := (.agg #[.int .i64 ju3.p0, .int .i64 ju3.p1, .int .i64 ju3.t0, .int .i64 ju3.t1, .int .i64 ju3.r0, .int .i64 ju3.r1, .int .i64 ju3.u0, .int .i64 ju3.u1, .int .i64 ju3.d0, .int .i64 ju3.d1, .int .i64 ju3.a0, .int .i64 ju3.a1, .int .i64 ju3.b0, .int .i64 ju3.b1, .int .i64 ju3.le, .slice (some ⟨ga1, 0, none⟩) ((ju3.more y0 y1).sh.length) cga1, .int .i64 ju3.wi, .int .i64 ju3.me])) (T := T.pick [0, 1, 2, 3, 4, 5, 6, 7, 8, 9, 10, 11, 12, 13, 14, 15, 16, 17, 18, 19, 20, 21, 22, 23, 24, 25, 26, 27, 28, 29, 30, 31, 32, 33, 34, 35, 36, 37, 38, 39, 40, 41, 42, 43, 44, 45, 46, 47, 48, 49, 50, 51, 52, 53, 54, 55, 56, 57, 58, 60, 61] rfl) (i := 43) rfl (by kernel_rfl) (by kernel_rfl : (pbits 47 8796093022207).setIfInBounds 43 true = pbits 47 17592186044415) (si_and si_U (si_and si_U si_U)) (fun _ _ _ h => h) (wanted_yes rfl rfl (T.ev 4 rfl) rfl) rfl rfl rfl (fun B w' hD hl hS => (rn_rowO (Mem.nth (show Mem w noEx w' _ from (MA.lft hS)) 5 rfl) rfl (T.ev 0 rfl) rfl)) ?_; clear T ac; intro ac T
                  refine g_w (i := 44) (by kernel_rfl) rfl (by kernel_rfl : (pbits 47 17592186044415).setIfInBounds 44 true = pbits 47 35184372088831) (wanted_yes rfl rfl (T.ev 5 rfl) rfl) ?_; intro K hK
                  replace T := T.pick [0, 1, 2, 3, 4, 5, 6, 7, 8, 9, 10, 11, 12, 13, 14, 15, 16, 17, 18, 19, 20, 21, 22, 23, 24, 25, 26, 27, 28, 29, 30, 31, 32, 33, 34, 35, 36, 37, 38, 39, 40, 41, 42, 43, 44, 45, 46, 47, 48, 49, 50, 51, 52, 53, 54, 55, 56, 57, 58, 59, 61] rfl
                  refine ow_call (first := []) (cap := []) T rfl rfl rfl rfl evf (.cons (T.ev 4 rfl) (.cons (T.ev 0 rfl) .nil)) Try.func22 rfl rfl ?_
                  refine Calls.mono (sameJobs_same (ju3.more y0 y1) _ _ _ _ _ (Su21.rd M (.cons _ (.cons _ (.cons _ (.cons _ (.cons _ (.cons _ (.cons _ (.cons _ (List.sublist_append_right _ _)))))))))) (M.rdRow (nthE_mem (i := 7) rfl)) (by first | omega | (have := few_more hfewu3 y0 y1; omega))) ?_
                  clear T
                  rintro e wc ⟨rfl, hb⟩
                  intro ac T
                  replace M := M.call hb; clear hb
                  refine sh_out hK _ _ (MA.mk (M.mask [true, true, true, true, true, true, true, true] rfl) (MA.mk (M.mask [true, true, true, true, true, true, true, true] rfl) (M.mask [true, true, true, true, true, true, true, true] rfl))) ?_; clear hK K
                  refine g_q (v := (.bool false)) (T := T.pick [0, 1, 2, 3, 4, 5, 6, 7, 8, 9, 10, 11, 12, 13, 14, 15, 16, 17, 18, 19, 20, 21, 22, 23, 24, 25, 26, 27, 28, 29, 30, 31, 32, 33, 34, 35, 36, 37, 38, 39, 40, 41, 42, 43, 44, 45, 46, 47, 48, 49, 50, 51, 52, 53, 54, 55, 56, 57, 58, 59, 60] rfl) (i := 45) rfl (by kernel_rfl) (by kernel_rfl : (pbits 47 35184372088831).setIfInBounds 45 true = pbits 47 70368744177663) (si_and si_U (si_and si_U si_U)) (fun _ _ _ h => h) (wanted_yes rfl rfl (T.ev 6 rfl) rfl) rfl rfl rfl (fun _ _ _ _ _ => (rn_neqof (rn_not rfl (T.ev 0 rfl)) (by simp))) ?_; clear T ac; intro ac T
                  refine g_q (T := T) (i := 46) rfl (by kernel_rfl) (by kernel_rfl : (pbits 47 70368744177663).setIfInBounds 46 true = pbits 47 140737488355327) (si_and si_U (si_and si_U si_U)) (fun _ _ _ h => h) rfl rfl rfl rfl (fun _ _ _ _ _ => (rn_pick0 rfl (T.ev 7 rfl) rfl (T.ev 0 rfl))) ?_; clear T ac; intro ac T
                  refine g_done (by kernel_rfl) ?_
                  replace T := T.pick [0, 1, 2, 3, 4, 5, 6, 7, 10, 11, 12, 15, 16, 17, 20, 21, 22, 25, 26, 27, 30, 31, 32, 35, 36, 37, 47, 48, 49] rfl
                  replace M := M.mask [false, false, false, false, false, true, true, true] rfl
                  refine nm_then ?_
                  refine wp_cond_false (T.ev 0 rfl) ?_
                  refine wp_skip ?_
                  refine nm_blk ?_
                  refine nm_then ?_
                  refine wp_region_lit ?_
                  refine l_q T rfl rfl rfl rfl (rn_move rfl (T.ev 28 rfl)) ?_; clear T ac; intro ac T
                  refine l_q (v := (.int .i64 3)) T rfl rfl rfl rfl (rn_ofI (rn_add rfl (T.ev 0 rfl) evc (by omega)) (by rfl)) ?_; clear T ac; intro ac T
                  refine l_q (v := (.int .i64 3)) (T.pick [0, 1, 2, 3, 4, 5, 6, 7, 8, 9, 10, 11, 12, 13, 14, 15, 16, 17, 18, 19, 20, 21, 22, 23, 24, 25, 26, 27, 28, 29] rfl) rfl rfl rfl rfl (rn_assign rfl (T.ev 0 rfl)) ?_; clear T ac; intro ac T
                  refine wpList_nil ?_
                  replace T := T.pick [0, 4, 5, 6, 7, 8, 9, 10, 11, 12, 13, 14, 15, 16, 17, 18, 19, 20, 21, 22, 23, 24, 25, 26, 27, 28, 29, 30] rfl
                  refine nm_then ?_
                  refine rounds_S ?_
                  refine wp_seq ?_
                  refine wp_seq ?_
                  refine wp_region_lit ?_
                  refine l_q T rfl rfl rfl rfl (rn_move rfl (T.ev 0 rfl)) ?_; clear T ac; intro ac T
                  refine l_q T rfl rfl rfl rfl (rn_move rfl (T.ev 27 rfl)) ?_; clear T ac; intro ac T
                  refine l_q (v := (.int .i64 4)) T rfl rfl rfl rfl (rn_lenS rfl Try.underlying36 (T.ev 0 rfl)) ?_; clear T ac; intro ac T
                  refine l_q (v := (.bool true)) T rfl rfl rfl rfl (rn_neqof (rn_lss rfl (T.ev 2 rfl) (T.ev 0 rfl)) (by simp)) ?_; clear T ac; intro ac T
                  refine wpList_nil ?_
                  replace T := T.pick [0, 4, 5, 6, 7, 8, 9, 10, 11, 12, 13, 14, 15, 16, 17, 18, 19, 20, 21, 22, 23, 24, 25, 26, 27, 28, 29, 30, 31] rfl
                  refine nm_then ?_
                  refine wp_cond_true (T.ev 0 rfl) ?_
                  refine wp_skip ?_
                  refine nm_then ?_
                  refine wp_seq ?_
                  refine wp_block ?_
                  refine wp_seq ?_
                  refine wp_region_lit ?_
                  refine l_q T rfl rfl rfl rfl (rn_move rfl (T.ev 27 rfl)) ?_; clear T ac; intro ac T
                  refine l_q T rfl rfl rfl rfl (rn_move rfl (T.ev 2 rfl)) ?_; clear T ac; intro ac T
                  refine l_q (v := (.pointer (some ⟨gr7_4, 54, none⟩))) T rfl rfl rfl rfl (rn_indexAddr (size := 18) 3 rfl (T.ev 1 rfl) (T.ev 0 rfl) ⟨_, Try.underlying36, by kernel_rfl⟩ rfl (by decide) rfl) ?_; clear T ac; intro ac T
                  refine l_q T rfl rfl rfl rfl (rn_rowO (Mem.nth M 0 rfl) rfl (T.ev 0 rfl) rfl) ?_; clear T ac; intro ac T
                  refine l_w rfl ?_; intro K hK
                  refine ow_call (first := []) (cap := []) T rfl rfl rfl rfl evf (.cons (T.ev 0 rfl) .nil) Try.func18 rfl rfl ?_
                  refine Calls.mono (copyJob_own ju3 _ _ _ (Su3.rd M (.cons _ (.cons _ (.cons _ (List.Sublist.trans (List.Sublist.trans (List.Sublist.trans (List.Sublist.refl _) (List.sublist_append_left _ _)) (List.sublist_append_left _ _)) (List.sublist_append_left _ _)))))) (by first | omega | (have := few_more hfewu3 y0 y1; omega))) ?_
                  clear T
                  rintro e wc ⟨Au29, cu29, Iu29, rfl, hsnu29, N⟩
                  intro ac T
                  obtain ⟨bu29, ou29, Su29⟩ := hsnu29.sp (w := w) (ex := noEx) (rc_length _)
                  replace M := (M.join N).swapI
                  replace M := M.mask [true, true, true] rfl
                  clear N
                  refine sh_out hK _ _ ?_; clear hK K
                  refine l_w rfl ?_; intro K hK
                  refine ow_al M T rfl rfl rfl rfl ?_; clear M T; intro g15 wc ac M T
                  refine sh_out hK _ _ ?_; clear hK K
                  refine l_w rfl ?_; intro K hK
                  refine ow_stO M T rfl rfl (T.ev 0 rfl) (T.ev 1 rfl) rfl .head rfl (by simp) rfl (by kernel_rfl) ?_; clear M T; intro wc ac M T
                  refine sh_out hK _ _ ?_; clear hK K
                  refine wpList_nil ?_
                  replace T := T.pick [0, 7, 8, 9, 10, 11, 12, 13, 14, 15, 16, 17, 18, 19, 20, 21, 22, 23, 24, 25, 26, 27, 28, 29, 30, 31, 32, 33, 34] rfl
                  refine nm_then ?_
                  refine wp_seq ?_
                  refine wp_region_lit ?_
                  refine l_q T rfl rfl rfl rfl (rn_rowO (Mem.nth M 0 rfl) rfl (T.ev 0 rfl) rfl) ?_; clear T ac; intro ac T
                  refine l_w rfl ?_; intro K hK
                  refine ow_call (first := []) (cap := []) T rfl rfl rfl rfl evf (.cons (T.ev 0 rfl) .nil) Try.func33 rfl rfl ?_
                  refine Calls.mono (Window_any ju3 _ _ _ (Su29.rd M (.cons _ (.cons _ (.cons _ (.cons _ (List.sublist_append_right _ _)))))) (by first | omega | (have := few_more hfewu3 y0 y1; omega))) ?_
                  clear T
                  rintro e wc ⟨rfl, hb⟩
                  intro ac T
                  replace M := M.call hb; clear hb
                  refine sh_out hK _ _ ?_; clear hK K
                  refine l_q T rfl rfl rfl rfl (rn_move rfl (T.ev 0 rfl)) ?_; clear T ac; intro ac T
                  refine l_q T rfl rfl rfl rfl (rn_extract rfl (T.ev 0 rfl) rfl) ?_; clear T ac; intro ac T
                  refine l_q T rfl rfl rfl rfl (rn_extract rfl (T.ev 1 rfl) rfl) ?_; clear T ac; intro ac T
                  refine l_w rfl ?_; intro K hK
                  refine ow_al M T rfl rfl rfl rfl ?_; clear M T; intro g16 wc ac M T
                  refine sh_out hK _ _ ?_; clear hK K
                  refine l_w rfl ?_; intro K hK
                  refine ow_stO M T rfl rfl (T.ev 0 rfl) (T.ev 2 rfl) rfl .head rfl (by simp) rfl (by kernel_rfl) ?_; clear M T; intro wc ac M T
                  refine sh_out hK _ _ ?_; clear hK K
                  refine l_q T rfl rfl rfl rfl (rn_assign rfl (T.ev 1 rfl)) ?_; clear T ac; intro ac T
                  refine wpList_nil ?_
                  replace T := T.pick [0, 1, 7, 8, 9, 10, 11, 12, 13, 14, 15, 16, 17, 18, 19, 20, 21, 22, 23, 24, 25, 26, 27, 28, 29, 30, 31, 32, 33, 34, 35] rfl
                  refine nm_then ?_
                  refine wp_seq ?_
                  refine wp_region_lit ?_
                  refine l_q T rfl rfl rfl rfl (rn_move rfl (T.ev 29 rfl)) ?_; clear T ac; intro ac T
                  refine l_q T rfl rfl rfl rfl (rn_move rfl (T.ev 4 rfl)) ?_; clear T ac; intro ac T
                  refine l_q (v := (.pointer (some ⟨gr7_4, 54, none⟩))) T rfl rfl rfl rfl (rn_indexAddr (size := 18) 3 rfl (T.ev 1 rfl) (T.ev 0 rfl) ⟨_, Try.underlying36, by kernel_rfl⟩ rfl (by decide) rfl) ?_; clear T ac; intro ac T
                  refine l_q T rfl rfl rfl rfl (rn_rowO (Mem.nth M 2 rfl) rfl (T.ev 0 rfl) rfl) ?_; clear T ac; intro ac T
                  refine l_w rfl ?_; intro K hK
                  refine ow_call (first := []) (cap := []) T rfl rfl rfl rfl evf (.cons (T.ev 0 rfl) .nil) Try.func45 rfl rfl ?_
                  refine Calls.mono (rWindow_J ju3 _ _ _ (Su3.rd M (.cons _ (.cons _ (.cons _ (.cons _ (.cons _ (List.Sublist.trans (List.Sublist.trans (List.Sublist.trans (List.Sublist.trans (List.Sublist.refl _) (List.sublist_append_left _ _)) (List.sublist_append_left _ _)) (List.sublist_append_left _ _)) (List.sublist_append_left _ _)))))))) (by first | omega | (have := few_more hfewu3 y0 y1; omega))) ?_
                  clear T
                  rintro e wc ⟨rfl, hb⟩
                  intro ac T
                  replace M := M.call hb; clear hb
                  refine sh_out hK _ _ ?_; clear hK K
                  refine l_q T rfl rfl rfl rfl (rn_move rfl (T.ev 0 rfl)) ?_; clear T ac; intro ac T
                  refine l_q T rfl rfl rfl rfl (rn_extract rfl (T.ev 0 rfl) rfl) ?_; clear T ac; intro ac T
                  refine l_q T rfl rfl rfl rfl (rn_extract rfl (T.ev 1 rfl) rfl) ?_; clear T ac; intro ac T
                  refine l_w rfl ?_; intro K hK
                  refine ow_al M T rfl rfl rfl rfl ?_; clear M T; intro g17 wc ac M T
                  refine sh_out hK _ _ ?_; clear hK K
                  refine l_w rfl ?_; intro K hK
                  refine ow_stO M T rfl rfl (T.ev 0 rfl) (T.ev 2 rfl) rfl .head rfl (by simp) rfl (by kernel_rfl) ?_; clear M T; intro wc ac M T
                  refine sh_out hK _ _ ?_; clear hK K
                  refine l_q T rfl rfl rfl rfl (rn_assign rfl (T.ev 1 rfl)) ?_; clear T ac; intro ac T
                  refine wpList_nil ?_
                  replace T := T.pick [0, 1, 10, 11, 12, 13, 14, 15, 16, 17, 18, 19, 20, 21, 22, 23, 24, 25, 26, 27, 28, 29, 30, 31, 32, 33, 34, 35, 36, 37, 38, 39, 40] rfl
                  refine nm_then ?_
                  refine wp_seq ?_
                  refine wp_region_lit ?_
                  refine l_q T rfl rfl rfl rfl (rn_rowO (Mem.nth M 2 rfl) rfl (T.ev 4 rfl) rfl) ?_; clear T ac; intro ac T
                  refine l_w rfl ?_; intro K hK
                  refine ow_call (first := []) (cap := []) T rfl rfl rfl rfl evf (.cons (T.ev 0 rfl) .nil) Try.func46 rfl rfl ?_
                  refine Calls.mono (Passes_any ju3 _ _ _ (Su29.rd M (.cons _ (.cons _ (.cons _ (.cons _ (.cons _ (.cons _ (List.sublist_append_right _ _)))))))) (by first | omega | (have := few_more hfewu3 y0 y1; omega))) ?_
                  clear T
                  rintro e wc ⟨rfl, hb⟩
                  intro ac T
                  replace M := M.call hb; clear hb
                  refine sh_out hK _ _ ?_; clear hK K
                  refine l_q T rfl rfl rfl rfl (rn_move rfl (T.ev 0 rfl)) ?_; clear T ac; intro ac T
                  refine l_q T rfl rfl rfl rfl (rn_extract rfl (T.ev 0 rfl) rfl) ?_; clear T ac; intro ac T
                  refine l_q T rfl rfl rfl rfl (rn_extract rfl (T.ev 1 rfl) rfl) ?_; clear T ac; intro ac T
                  refine l_q T rfl rfl rfl rfl (rn_assign rfl (T.ev 1 rfl)) ?_; clear T ac; intro ac T
                  refine l_q T rfl rfl rfl rfl (rn_assign rfl (T.ev 1 rfl)) ?_; clear T ac; intro ac T
                  refine wpList_nil ?_
                  replace T := T.pick [0, 1, 7, 8, 9, 10, 11, 12, 13, 14, 15, 16, 17, 18, 19, 20, 21, 22, 23, 24, 25, 26, 27, 28, 29, 30, 31, 32, 33, 34, 35, 36, 37, 38, 39] rfl
                  refine nm_then ?_
                  refine wp_seq ?_
                  refine wp_region_lit ?_
                  refine l_q T rfl rfl rfl rfl (rn_move rfl (T.ev 33 rfl)) ?_; clear T ac; intro ac T
                  refine l_q T rfl rfl rfl rfl (rn_move rfl (T.ev 8 rfl)) ?_; clear T ac; intro ac T
                  refine l_q (v := (.pointer (some ⟨gr7_4, 54, none⟩))) T rfl rfl rfl rfl (rn_indexAddr (size := 18) 3 rfl (T.ev 1 rfl) (T.ev 0 rfl) ⟨_, Try.underlying36, by kernel_rfl⟩ rfl (by decide) rfl) ?_; clear T ac; intro ac T
                  refine l_q T rfl rfl rfl rfl (rn_rowO (Mem.nth M 3 rfl) rfl (T.ev 0 rfl) rfl) ?_; clear T ac; intro ac T
                  refine l_w rfl ?_; intro K hK
                  refine ow_call (first := []) (cap := []) T rfl rfl rfl rfl evf (.cons (T.ev 0 rfl) .nil) Try.func47 rfl rfl ?_
                  refine Calls.mono (rPasses_J ju3 _ _ _ (Su3.rd M (.cons _ (.cons _ (.cons _ (.cons _ (.cons _ (.cons _ (List.Sublist.trans (List.Sublist.trans (List.Sublist.trans (List.Sublist.trans (List.Sublist.refl _) (List.sublist_append_left _ _)) (List.sublist_append_left _ _)) (List.sublist_append_left _ _)) (List.sublist_append_left _ _))))))))) (by first | omega | (have := few_more hfewu3 y0 y1; omega))) ?_
                  clear T
                  rintro e wc ⟨rfl, hb⟩
                  intro ac T
                  replace M := M.call hb; clear hb
                  refine sh_out hK _ _ ?_; clear hK K
                  refine l_q T rfl rfl rfl rfl (rn_move rfl (T.ev 0 rfl)) ?_; clear T ac; intro ac T
                  refine l_q T rfl rfl rfl rfl (rn_extract rfl (T.ev 0 rfl) rfl) ?_; clear T ac; intro ac T
                  refine l_q T rfl rfl rfl rfl (rn_extract rfl (T.ev 1 rfl) rfl) ?_; clear T ac; intro ac T
                  refine l_q T rfl rfl rfl rfl (rn_assign rfl (T.ev 1 rfl)) ?_; clear T ac; intro ac T
                  refine l_q T rfl rfl rfl rfl (rn_assign rfl (T.ev 1 rfl)) ?_; clear T ac; intro ac T
                  refine wpList_nil ?_
                  replace T := T.pick [0, 1, 10, 11, 12, 13, 14, 15, 16, 17, 18, 19, 20, 21, 22, 23, 24, 25, 26, 27, 28, 29, 30, 31, 32, 33, 34, 35, 36, 37, 38, 39, 40, 41, 42, 43, 44] rfl
                  refine nm_then ?_
                  refine cut_seq (fun ac wc => ∃ (gr16_9 : Nat), Tm ac 178 [(12, .slice (some ⟨gr7_4, 0, none⟩) 4 4), (13, .slice (some ⟨gr7_26, 0, none⟩) 4 4), (14, .int .i64 3), (15, .pointer (some ⟨g15, 0, none⟩)), (16, .pointer (some ⟨g16, 0, none⟩)), (17, .int .i64 ((windowJ ju3).2)), (18, .pointer (some ⟨g17, 0, none⟩)), (19, .int .i64 ((windowJ ju3).2)), (20, .int .i64 ((passesT ju3).1)), (21, .int .i64 ((passesT ju3).2)), (22, .int .i64 ((passesT ju3).1)), (23, .int .i64 ((passesT ju3).2)), (24, .pointer (some ⟨gr16_9, 0, none⟩)), (25, .int .i64 ((hearT ju3 r).2)), (139, .agg #[.int .i64 ((windowJ (ju3.more y0 y1)).1.1), .int .i64 ((windowJ (ju3.more y0 y1)).1.2)]), (140, .agg #[.int .i64 ((windowJ (ju3.more y0 y1)).1.1), .int .i64 ((windowJ (ju3.more y0 y1)).1.2)]), (141, .bool false), (144, .int .i64 ((windowJ (ju3.more y0 y1)).2)), (145, .int .i64 ((windowJ (ju3.more y0 y1)).2)), (146, .bool false), (149, .int .i64 ((passesT (ju3.more y0 y1)).1)), (150, .int .i64 ((passesT (ju3.more y0 y1)).1)), (151, .bool false), (154, .int .i64 ((passesT (ju3.more y0 y1)).2)), (155, .int .i64 ((passesT (ju3.more y0 y1)).2)), (156, .bool false), (159, .agg #[.int .i64 ((hearT (ju3.more y0 y1) r).1.1), .int .i64 ((hearT (ju3.more y0 y1) r).1.2)]), (160, .agg #[.int .i64 ((hearT (ju3.more y0 y1) r).1.1), .int .i64 ((hearT (ju3.more y0 y1) r).1.2)]), (161, .bool false), (164, .int .i64 ((hearT (ju3.more y0 y1) r).2)), (165, .int .i64 ((hearT (ju3.more y0 y1) r).2)), (166, .bool false), (169, .agg #[.int .i64 ((ju3.more y0 y1).p0), .int .i64 ((ju3.more y0 y1).p1), .int .i64 ((ju3.more y0 y1).t0), .int .i64 ((ju3.more y0 y1).t1), .int .i64 ((ju3.more y0 y1).r0), .int .i64 ((ju3.more y0 y1).r1), .int .i64 ((ju3.more y0 y1).u0), .int .i64 ((ju3.more y0 y1).u1), .int .i64 ((ju3.more y0 y1).d0), .int .i64 ((ju3.more y0 y1).d1), .int .i64 ((ju3.more y0 y1).a0), .int .i64 ((ju3.more y0 y1).a1), .int .i64 ((ju3.more y0 y1).b0), .int .i64 ((ju3.more y0 y1).b1), .int .i64 ((ju3.more y0 y1).le), .slice Au21 ((ju3.more y0 y1).sh.length) cu21, .int .i64 ((ju3.more y0 y1).wi), .int .i64 ((ju3.more y0 y1).me)]), (170, .slice (some ⟨gr7_4, 0, none⟩) 4 4), (171, .int .i64 2), (172, .pointer (some ⟨gr7_4, 36, none⟩)), (173, .agg #[.int .i64 ju3.p0, .int .i64 ju3.p1, .int .i64 ju3.t0, .int .i64 ju3.t1, .int .i64 ju3.r0, .int .i64 ju3.r1, .int .i64 ju3.u0, .int .i64 ju3.u1, .int .i64 ju3.d0, .int .i64 ju3.d1, .int .i64 ju3.a0, .int .i64 ju3.a1, .int .i64 ju3.b0, .int .i64 ju3.b1, .int .i64 ju3.le, .slice (some ⟨ga1, 0, none⟩) ((ju3.more y0 y1).sh.length) cga1, .int .i64 ju3.wi, .int .i64 ju3.me]), (174, .bool true), (175, .bool false)] ∧ Mem w noEx wc ((gr16_9, .cells [.int .i64 ((hearT ju3 r).1.1), .int .i64 ((hearT ju3 r).1.2)]) :: (g17, .cells [.int .i64 ((windowJ ju3).1.1), .int .i64 ((windowJ ju3).1.2)]) :: (g16, .cells [.int .i64 ((windowJ ju3).1.1), .int .i64 ((windowJ ju3).1.2)]) :: (g15, .cells (jobL ju3 Au29 cu29)) :: (gr7_4, .cells (jobL j A c ++ jobL ju3 Au3 cu3 ++ [.int .i64 ju3.p0, .int .i64 ju3.p1, .int .i64 ju3.t0, .int .i64 ju3.t1, .int .i64 ju3.r0, .int .i64 ju3.r1, .int .i64 ju3.u0, .int .i64 ju3.u1, .int .i64 ju3.d0, .int .i64 ju3.d1, .int .i64 ju3.a0, .int .i64 ju3.a1, .int .i64 ju3.b0, .int .i64 ju3.b1, .int .i64 ju3.le, .slice (some ⟨ga1, 0, none⟩) ((ju3.more y0 y1).sh.length) cga1, .int .i64 ju3.wi, .int .i64 ju3.me] ++ jobL ju3 Au3 cu3)) :: (gr7_26, .cells [.int .i64 r, .int .i64 xur7_23, .int .i64 r, .int .i64 r]) :: (ga1, .row 23 2 (ju3.more y0 y1).sh.length (rc (ju3.more y0 y1).sh) cga1) :: (Iu3 ++ Iu5 ++ Iu13 ++ Iu21 ++ Iu29))) ?_ ?_
                  · refine g_start2 M (M.mask [true, true, true, true, true, true] rfl) 12 (by kernel_rfl) rfl (by kernel_rfl) ?_
                    clear M; intro wc M
                    refine g_q (T := T) (i := 0) rfl (by kernel_rfl) (by kernel_rfl : (pbits 12 0).setIfInBounds 0 true = pbits 12 1) si_U (fun _ _ _ h => h) rfl rfl rfl rfl (fun B w' hD hl hS => (rn_rowO (Mem.nth (show Mem w noEx w' _ from hS) 2 rfl) rfl (T.ev 8 rfl) rfl)) ?_; clear T ac; intro ac T
                    refine g_q (T := T) (i := 1) rfl (by kernel_rfl) (by kernel_rfl : (pbits 12 1).setIfInBounds 1 true = pbits 12 3) si_U (fun _ _ _ h => h) rfl rfl rfl rfl (fun _ _ _ _ _ => (rn_move rfl (T.ev 37 rfl))) ?_; clear T ac; intro ac T
                    refine g_q (T := T) (i := 2) rfl (by kernel_rfl) (by kernel_rfl : (pbits 12 3).setIfInBounds 2 true = pbits 12 7) si_U (fun _ _ _ h => h) rfl rfl rfl rfl (fun _ _ _ _ _ => (rn_move rfl (T.ev 11 rfl))) ?_; clear T ac; intro ac T
                    refine g_q (v := (.pointer (some ⟨gr7_26, 3, none⟩))) (T := T) (i := 3) rfl (by kernel_rfl) (by kernel_rfl : (pbits 12 7).setIfInBounds 3 true = pbits 12 15) si_U (fun _ _ _ h => h) rfl rfl rfl rfl (fun _ _ _ _ _ => (rn_indexAddr (size := 1) 3 rfl (T.ev 1 rfl) (T.ev 0 rfl) ⟨_, Try.underlying31, by kernel_rfl⟩ rfl (by decide) rfl)) ?_; clear T ac; intro ac T
                    refine g_q (T := T) (i := 4) rfl (by kernel_rfl) (by kernel_rfl : (pbits 12 15).setIfInBounds 4 true = pbits 12 31) si_U (fun _ _ _ h => h) rfl rfl rfl rfl (fun B w' hD hl hS => (rn_one (Mem.nth (show Mem w noEx w' _ from hS) 4 rfl) rfl (T.ev 0 rfl) rfl)) ?_; clear T ac; intro ac T
                    refine g_m2 (i := 5) (j := 9) (by kernel_rfl) ?_ ?_
                    · refine g_i rfl (by kernel_rfl : (pbits 12 31).setIfInBounds 5 true = pbits 12 63) rfl ?_; intro K hK
                      refine ow_call (first := []) (cap := []) T rfl rfl rfl rfl evf (.cons (T.ev 4 rfl) (.cons (T.ev 0 rfl) .nil)) Try.func37 rfl rfl ?_
                      refine Calls.mono (Hear_any ju3 _ _ r _ (Su29.rd M (.cons _ (.cons _ (.cons _ (.cons _ (.cons _ (.cons _ (List.sublist_append_right _ _)))))))) (by first | omega | (have := few_more hfewu3 y0 y1; omega))) ?_
                      clear T
                      rintro e wc ⟨rfl, hb⟩
                      intro ac T
                      replace M := M.call hb; clear hb
                      refine sh_out hK _ _ (M.mask [true, true, true, true, true, true] rfl) ?_; clear hK K
                      refine g_q (T := T) (i := 6) rfl (by kernel_rfl) (by kernel_rfl : (pbits 12 63).setIfInBounds 6 true = pbits 12 127) si_U (fun _ _ _ h => h) rfl rfl rfl rfl (fun _ _ _ _ _ => (rn_move rfl (T.ev 0 rfl))) ?_; clear T ac; intro ac T
                      refine g_q (T := T) (i := 7) rfl (by kernel_rfl) (by kernel_rfl : (pbits 12 127).setIfInBounds 7 true = pbits 12 255) si_U (fun _ _ _ h => h) rfl rfl rfl rfl (fun _ _ _ _ _ => (rn_extract rfl (T.ev 0 rfl) rfl)) ?_; clear T ac; intro ac T
                      refine g_q (T := T) (i := 8) rfl (by kernel_rfl) (by kernel_rfl : (pbits 12 255).setIfInBounds 8 true = pbits 12 511) si_U (fun _ _ _ h => h) rfl rfl rfl rfl (fun _ _ _ _ _ => (rn_extract rfl (T.ev 1 rfl) rfl)) ?_; clear T ac; intro ac T
                      refine g_w (i := 9) (by kernel_rfl) rfl (by kernel_rfl : (pbits 12 511).setIfInBounds 9 true = pbits 12 1023) rfl ?_; intro K hK
                      refine ow_al M T rfl rfl rfl rfl ?_; clear M T; intro gr16_9 wc ac M T
                      refine sh_out hK _ _ (M.mask [false, true, true, true, true, true, true] rfl) ?_; clear hK K
                      refine g_w (i := 10) (by kernel_rfl) rfl (by kernel_rfl : (pbits 12 1023).setIfInBounds 10 true = pbits 12 2047) rfl ?_; intro K hK
                      refine ow_stO M T rfl rfl (T.ev 0 rfl) (T.ev 2 rfl) rfl .head rfl (by simp) rfl (by kernel_rfl) ?_; clear M T; intro wc ac M T
                      refine sh_out hK _ _ (M.mask [false, true, true, true, true, true, true] rfl) ?_; clear hK K
                      refine g_q (T := T) (i := 11) rfl (by kernel_rfl) (by kernel_rfl : (pbits 12 2047).setIfInBounds 11 true = pbits 12 4095) si_U (fun _ _ _ h => h) rfl rfl rfl rfl (fun _ _ _ _ _ => (rn_assign rfl (T.ev 1 rfl))) ?_; clear T ac; intro ac T
                      refine g_done (by kernel_rfl) ?_
                      replace T := T.pick [0, 1, 11, 12, 13, 14, 15, 16, 17, 18, 19, 20, 21, 22, 23, 24, 25, 26, 27, 28, 29, 30, 31, 32, 33, 34, 35, 36, 37, 38, 39, 40, 41, 42, 43, 44, 45, 46, 47] rfl
                      exact ⟨gr16_9, (T.pick (E' := [(12, .slice (some ⟨gr7_4, 0, none⟩) 4 4), (13, .slice (some ⟨gr7_26, 0, none⟩) 4 4), (14, .int .i64 3), (15, .pointer (some ⟨g15, 0, none⟩)), (16, .pointer (some ⟨g16, 0, none⟩)), (17, .int .i64 ((windowJ ju3).2)), (18, .pointer (some ⟨g17, 0, none⟩)), (19, .int .i64 ((windowJ ju3).2)), (20, .int .i64 ((passesT ju3).1)), (21, .int .i64 ((passesT ju3).2)), (22, .int .i64 ((passesT ju3).1)), (23, .int .i64 ((passesT ju3).2)), (24, .pointer (some ⟨gr16_9, 0, none⟩)), (25, .int .i64 ((hearT ju3 r).2)), (139, .agg #[.int .i64 ((windowJ (ju3.more y0 y1)).1.1), .int .i64 ((windowJ (ju3.more y0 y1)).1.2)]), (140, .agg #[.int .i64 ((windowJ (ju3.more y0 y1)).1.1), .int .i64 ((windowJ (ju3.more y0 y1)).1.2)]), (141, .bool false), (144, .int .i64 ((windowJ (ju3.more y0 y1)).2)), (145, .int .i64 ((windowJ (ju3.more y0 y1)).2)), (146, .bool false), (149, .int .i64 ((passesT (ju3.more y0 y1)).1)), (150, .int .i64 ((passesT (ju3.more y0 y1)).1)), (151, .bool false), (154, .int .i64 ((passesT (ju3.more y0 y1)).2)), (155, .int .i64 ((passesT (ju3.more y0 y1)).2)), (156, .bool false), (159, .agg #[.int .i64 ((hearT (ju3.more y0 y1) r).1.1), .int .i64 ((hearT (ju3.more y0 y1) r).1.2)]), (160, .agg #[.int .i64 ((hearT (ju3.more y0 y1) r).1.1), .int .i64 ((hearT (ju3.more y0 y1) r).1.2)]), (161, .bool false), (164, .int .i64 ((hearT (ju3.more y0 y1) r).2)), (165, .int .i64 ((hearT (ju3.more y0 y1) r).2)), (166, .bool false), (169, .agg #[.int .i64 ((ju3.more y0 y1).p0), .int .i64 ((ju3.more y0 y1).p1), .int .i64 ((ju3.more y0 y1).t0), .int .i64 ((ju3.more y0 y1).t1), .int .i64 ((ju3.more y0 y1).r0), .int .i64 ((ju3.more y0 y1).r1), .int .i64 ((ju3.more y0 y1).u0), .int .i64 ((ju3.more y0 y1).u1), .int .i64 ((ju3.more y0 y1).d0), .int .i64 ((ju3.more y0 y1).d1), .int .i64 ((ju3.more y0 y1).a0), .int .i64 ((ju3.more y0 y1).a1), .int .i64 ((ju3.more y0 y1).b0), .int .i64 ((ju3.more y0 y1).b1), .int .i64 ((ju3.more y0 y1).le), .slice Au21 ((ju3.more y0 y1).sh.length) cu21, .int .i64 ((ju3.more y0 y1).wi), .int .i64 ((ju3.more y0 y1).me)]), (170, .slice (some ⟨gr7_4, 0, none⟩) 4 4), (171, .int .i64 2), (172, .pointer (some ⟨gr7_4, 36, none⟩)), (173, .agg #[.int .i64 ju3.p0, .int .i64 ju3.p1, .int .i64 ju3.t0, .int .i64 ju3.t1, .int .i64 ju3.r0, .int .i64 ju3.r1, .int .i64 ju3.u0, .int .i64 ju3.u1, .int .i64 ju3.d0, .int .i64 ju3.d1, .int .i64 ju3.a0, .int .i64 ju3.a1, .int .i64 ju3.b0, .int .i64 ju3.b1, .int .i64 ju3.le, .slice (some ⟨ga1, 0, none⟩) ((ju3.more y0 y1).sh.length) cga1, .int .i64 ju3.wi, .int .i64 ju3.me]), (174, .bool true), (175, .bool false)]) [37, 38, 11, 10, 9, 8, 7, 6, 5, 4, 3, 2, 1, 0, 36, 35, 34, 33, 32, 31, 30, 29, 28, 27, 26, 25, 24, 23, 22, 21, 20, 19, 18, 17, 16, 15, 14, 13, 12] rfl).as (by rfl), M.mask [true, true, true, true, true, true, true] rfl⟩
                    · refine g_i rfl (by kernel_rfl : (pbits 12 31).setIfInBounds 9 true = pbits 12 543) rfl ?_; intro K hK
                      refine ow_al M T rfl rfl rfl rfl ?_; clear M T; intro gr16_9 wc ac M T
                      refine sh_out hK _ _ (M.mask [false, true, true, true, true, true, true] rfl) ?_; clear hK K
                      refine g_w (i := 5) (by kernel_rfl) rfl (by kernel_rfl : (pbits 12 543).setIfInBounds 5 true = pbits 12 575) rfl ?_; intro K hK
                      refine ow_call (first := []) (cap := []) T rfl rfl rfl rfl evf (.cons (T.ev 5 rfl) (.cons (T.ev 1 rfl) .nil)) Try.func37 rfl rfl ?_
                      refine Calls.mono (Hear_any ju3 _ _ r _ (Su29.rd M (.cons _ (.cons _ (.cons _ (.cons _ (.cons _ (.cons _ (.cons _ (List.sublist_append_right _ _))))))))) (by first | omega | (have := few_more hfewu3 y0 y1; omega))) ?_
                      clear T
                      rintro e wc ⟨rfl, hb⟩
                      intro ac T
                      replace M := M.call hb; clear hb
                      refine sh_out hK _ _ (M.mask [false, true, true, true, true, true, true] rfl) ?_; clear hK K
                      refine g_q (T := T) (i := 6) rfl (by kernel_rfl) (by kernel_rfl : (pbits 12 575).setIfInBounds 6 true = pbits 12 639) si_U (fun _ _ _ h => h) rfl rfl rfl rfl (fun _ _ _ _ _ => (rn_move rfl (T.ev 0 rfl))) ?_; clear T ac; intro ac T
                      refine g_q (T := T) (i := 7) rfl (by kernel_rfl) (by kernel_rfl : (pbits 12 639).setIfInBounds 7 true = pbits 12 767) si_U (fun _ _ _ h => h) rfl rfl rfl rfl (fun _ _ _ _ _ => (rn_extract rfl (T.ev 0 rfl) rfl)) ?_; clear T ac; intro ac T
                      refine g_q (T := T) (i := 8) rfl (by kernel_rfl) (by kernel_rfl : (pbits 12 767).setIfInBounds 8 true = pbits 12 1023) si_U (fun _ _ _ h => h) rfl rfl rfl rfl (fun _ _ _ _ _ => (rn_extract rfl (T.ev 1 rfl) rfl)) ?_; clear T ac; intro ac T
                      refine g_w (i := 10) (by kernel_rfl) rfl (by kernel_rfl : (pbits 12 1023).setIfInBounds 10 true = pbits 12 2047) rfl ?_; intro K hK
                      refine ow_stO M T rfl rfl (T.ev 4 rfl) (T.ev 1 rfl) rfl .head rfl (by simp) rfl (by kernel_rfl) ?_; clear M T; intro wc ac M T
                      refine sh_out hK _ _ (M.mask [false, true, true, true, true, true, true] rfl) ?_; clear hK K
                      refine g_q (T := T) (i := 11) rfl (by kernel_rfl) (by kernel_rfl : (pbits 12 2047).setIfInBounds 11 true = pbits 12 4095) si_U (fun _ _ _ h => h) rfl rfl rfl rfl (fun _ _ _ _ _ => (rn_assign rfl (T.ev 0 rfl))) ?_; clear T ac; intro ac T
                      refine g_done (by kernel_rfl) ?_
                      replace T := T.pick [0, 5, 11, 12, 13, 14, 15, 16, 17, 18, 19, 20, 21, 22, 23, 24, 25, 26, 27, 28, 29, 30, 31, 32, 33, 34, 35, 36, 37, 38, 39, 40, 41, 42, 43, 44, 45, 46, 47] rfl
                      exact ⟨gr16_9, (T.pick (E' := [(12, .slice (some ⟨gr7_4, 0, none⟩) 4 4), (13, .slice (some ⟨gr7_26, 0, none⟩) 4 4), (14, .int .i64 3), (15, .pointer (some ⟨g15, 0, none⟩)), (16, .pointer (some ⟨g16, 0, none⟩)), (17, .int .i64 ((windowJ ju3).2)), (18, .pointer (some ⟨g17, 0, none⟩)), (19, .int .i64 ((windowJ ju3).2)), (20, .int .i64 ((passesT ju3).1)), (21, .int .i64 ((passesT ju3).2)), (22, .int .i64 ((passesT ju3).1)), (23, .int .i64 ((passesT ju3).2)), (24, .pointer (some ⟨gr16_9, 0, none⟩)), (25, .int .i64 ((hearT ju3 r).2)), (139, .agg #[.int .i64 ((windowJ (ju3.more y0 y1)).1.1), .int .i64 ((windowJ (ju3.more y0 y1)).1.2)]), (140, .agg #[.int .i64 ((windowJ (ju3.more y0 y1)).1.1), .int .i64 ((windowJ (ju3.more y0 y1)).1.2)]), (141, .bool false), (144, .int .i64 ((windowJ (ju3.more y0 y1)).2)), (145, .int .i64 ((windowJ (ju3.more y0 y1)).2)), (146, .bool false), (149, .int .i64 ((passesT (ju3.more y0 y1)).1)), (150, .int .i64 ((passesT (ju3.more y0 y1)).1)), (151, .bool false), (154, .int .i64 ((passesT (ju3.more y0 y1)).2)), (155, .int .i64 ((passesT (ju3.more y0 y1)).2)), (156, .bool false), (159, .agg #[.int .i64 ((hearT (ju3.more y0 y1) r).1.1), .int .i64 ((hearT (ju3.more y0 y1) r).1.2)]), (160, .agg #[.int .i64 ((hearT (ju3.more y0 y1) r).1.1), .int .i64 ((hearT (ju3.more y0 y1) r).1.2)]), (161, .bool false), (164, .int .i64 ((hearT (ju3.more y0 y1) r).2)), (165, .int .i64 ((hearT (ju3.more y0 y1) r).2)), (166, .bool false), (169, .agg #[.int .i64 ((ju3.more y0 y1).p0), .int .i64 ((ju3.more y0 y1).p1), .int .i64 ((ju3.more y0 y1).t0), .int .i64 ((ju3.more y0 y1).t1), .int .i64 ((ju3.more y0 y1).r0), .int .i64 ((ju3.more y0 y1).r1), .int .i64 ((ju3.more y0 y1).u0), .int .i64 ((ju3.more y0 y1).u1), .int .i64 ((ju3.more y0 y1).d0), .int .i64 ((ju3.more y0 y1).d1), .int .i64 ((ju3.more y0 y1).a0), .int .i64 ((ju3.more y0 y1).a1), .int .i64 ((ju3.more y0 y1).b0), .int .i64 ((ju3.more y0 y1).b1), .int .i64 ((ju3.more y0 y1).le), .slice Au21 ((ju3.more y0 y1).sh.length) cu21, .int .i64 ((ju3.more y0 y1).wi), .int .i64 ((ju3.more y0 y1).me)]), (170, .slice (some ⟨gr7_4, 0, none⟩) 4 4), (171, .int .i64 2), (172, .pointer (some ⟨gr7_4, 36, none⟩)), (173, .agg #[.int .i64 ju3.p0, .int .i64 ju3.p1, .int .i64 ju3.t0, .int .i64 ju3.t1, .int .i64 ju3.r0, .int .i64 ju3.r1, .int .i64 ju3.u0, .int .i64 ju3.u1, .int .i64 ju3.d0, .int .i64 ju3.d1, .int .i64 ju3.a0, .int .i64 ju3.a1, .int .i64 ju3.b0, .int .i64 ju3.b1, .int .i64 ju3.le, .slice (some ⟨ga1, 0, none⟩) ((ju3.more y0 y1).sh.length) cga1, .int .i64 ju3.wi, .int .i64 ju3.me]), (174, .bool true), (175, .bool false)]) [37, 38, 11, 10, 9, 8, 7, 6, 5, 4, 3, 2, 1, 0, 36, 35, 34, 33, 32, 31, 30, 29, 28, 27, 26, 25, 24, 23, 22, 21, 20, 19, 18, 17, 16, 15, 14, 13, 12] rfl).as (by rfl), M.mask [true, true, true, true, true, true, true] rfl⟩
                  · clear T M
                    rintro ac wc ⟨gr16_9, T, M⟩
                    refine cut_seq (fun ac wc => ∃ (gr17_12 : Nat), Tm ac 178 [(12, .slice (some ⟨gr7_4, 0, none⟩) 4 4), (13, .slice (some ⟨gr7_26, 0, none⟩) 4 4), (14, .int .i64 3), (15, .pointer (some ⟨g15, 0, none⟩)), (16, .pointer (some ⟨g16, 0, none⟩)), (17, .int .i64 ((windowJ ju3).2)), (18, .pointer (some ⟨g17, 0, none⟩)), (19, .int .i64 ((windowJ ju3).2)), (20, .int .i64 ((passesT ju3).1)), (21, .int .i64 ((passesT ju3).2)), (22, .int .i64 ((passesT ju3).1)), (23, .int .i64 ((passesT ju3).2)), (24, .pointer (some ⟨gr16_9, 0, none⟩)), (25, .int .i64 ((hearT ju3 r).2)), (26, .pointer (some ⟨gr17_12, 0, none⟩)), (27, .int .i64 ((hearT ju3 r).2)), (139, .agg #[.int .i64 ((windowJ (ju3.more y0 y1)).1.1), .int .i64 ((windowJ (ju3.more y0 y1)).1.2)]), (140, .agg #[.int .i64 ((windowJ (ju3.more y0 y1)).1.1), .int .i64 ((windowJ (ju3.more y0 y1)).1.2)]), (141, .bool false), (144, .int .i64 ((windowJ (ju3.more y0 y1)).2)), (145, .int .i64 ((windowJ (ju3.more y0 y1)).2)), (146, .bool false), (149, .int .i64 ((passesT (ju3.more y0 y1)).1)), (150, .int .i64 ((passesT (ju3.more y0 y1)).1)), (151, .bool false), (154, .int .i64 ((passesT (ju3.more y0 y1)).2)), (155, .int .i64 ((passesT (ju3.more y0 y1)).2)), (156, .bool false), (159, .agg #[.int .i64 ((hearT (ju3.more y0 y1) r).1.1), .int .i64 ((hearT (ju3.more y0 y1) r).1.2)]), (160, .agg #[.int .i64 ((hearT (ju3.more y0 y1) r).1.1), .int .i64 ((hearT (ju3.more y0 y1) r).1.2)]), (161, .bool false), (164, .int .i64 ((hearT (ju3.more y0 y1) r).2)), (165, .int .i64 ((hearT (ju3.more y0 y1) r).2)), (166, .bool false), (169, .agg #[.int .i64 ((ju3.more y0 y1).p0), .int .i64 ((ju3.more y0 y1).p1), .int .i64 ((ju3.more y0 y1).t0), .int .i64 ((ju3.more y0 y1).t1), .int .i64 ((ju3.more y0 y1).r0), .int .i64 ((ju3.more y0 y1).r1), .int .i64 ((ju3.more y0 y1).u0), .int .i64 ((ju3.more y0 y1).u1), .int .i64 ((ju3.more y0 y1).d0), .int .i64 ((ju3.more y0 y1).d1), .int .i64 ((ju3.more y0 y1).a0), .int .i64 ((ju3.more y0 y1).a1), .int .i64 ((ju3.more y0 y1).b0), .int .i64 ((ju3.more y0 y1).b1), .int .i64 ((ju3.more y0 y1).le), .slice Au21 ((ju3.more y0 y1).sh.length) cu21, .int .i64 ((ju3.more y0 y1).wi), .int .i64 ((ju3.more y0 y1).me)]), (170, .slice (some ⟨gr7_4, 0, none⟩) 4 4), (171, .int .i64 2), (172, .pointer (some ⟨gr7_4, 36, none⟩)), (173, .agg #[.int .i64 ju3.p0, .int .i64 ju3.p1, .int .i64 ju3.t0, .int .i64 ju3.t1, .int .i64 ju3.r0, .int .i64 ju3.r1, .int .i64 ju3.u0, .int .i64 ju3.u1, .int .i64 ju3.d0, .int .i64 ju3.d1, .int .i64 ju3.a0, .int .i64 ju3.a1, .int .i64 ju3.b0, .int .i64 ju3.b1, .int .i64 ju3.le, .slice (some ⟨ga1, 0, none⟩) ((ju3.more y0 y1).sh.length) cga1, .int .i64 ju3.wi, .int .i64 ju3.me]), (174, .bool true), (175, .bool false)] ∧ Mem w noEx wc ((gr17_12, .cells [.int .i64 ((hearT ju3 r).1.1), .int .i64 ((hearT ju3 r).1.2)]) :: (gr16_9, .cells [.int .i64 ((hearT ju3 r).1.1), .int .i64 ((hearT ju3 r).1.2)]) :: (g17, .cells [.int .i64 ((windowJ ju3).1.1), .int .i64 ((windowJ ju3).1.2)]) :: (g16, .cells [.int .i64 ((windowJ ju3).1.1), .int .i64 ((windowJ ju3).1.2)]) :: (g15, .cells (jobL ju3 Au29 cu29)) :: (gr7_4, .cells (jobL j A c ++ jobL ju3 Au3 cu3 ++ [.int .i64 ju3.p0, .int .i64 ju3.p1, .int .i64 ju3.t0, .int .i64 ju3.t1, .int .i64 ju3.r0, .int .i64 ju3.r1, .int .i64 ju3.u0, .int .i64 ju3.u1, .int .i64 ju3.d0, .int .i64 ju3.d1, .int .i64 ju3.a0, .int .i64 ju3.a1, .int .i64 ju3.b0, .int .i64 ju3.b1, .int .i64 ju3.le, .slice (some ⟨ga1, 0, none⟩) ((ju3.more y0 y1).sh.length) cga1, .int .i64 ju3.wi, .int .i64 ju3.me] ++ jobL ju3 Au3 cu3)) :: (gr7_26, .cells [.int .i64 r, .int .i64 xur7_23, .int .i64 r, .int .i64 r]) :: (ga1, .row 23 2 (ju3.more y0 y1).sh.length (rc (ju3.more y0 y1).sh) cga1) :: (Iu3 ++ Iu5 ++ Iu13 ++ Iu21 ++ Iu29))) ?_ ?_
                    · refine g_start2 M (M.mask [true, true, true, true, true, true, true] rfl) 15 (by kernel_rfl) rfl (by kernel_rfl) ?_
                      clear M; intro wc M
                      refine g_q (T := T) (i := 0) rfl (by kernel_rfl) (by kernel_rfl : (pbits 15 0).setIfInBounds 0 true = pbits 15 1) si_U (fun _ _ _ h => h) rfl rfl rfl rfl (fun _ _ _ _ _ => (rn_move rfl (T.ev 0 rfl))) ?_; clear T ac; intro ac T
                      refine g_q (T := T) (i := 1) rfl (by kernel_rfl) (by kernel_rfl : (pbits 15 1).setIfInBounds 1 true = pbits 15 3) si_U (fun _ _ _ h => h) rfl rfl rfl rfl (fun _ _ _ _ _ => (rn_move rfl (T.ev 3 rfl))) ?_; clear T ac; intro ac T
                      refine g_q (v := (.pointer (some ⟨gr7_4, 54, none⟩))) (T := T) (i := 2) rfl (by kernel_rfl) (by kernel_rfl : (pbits 15 3).setIfInBounds 2 true = pbits 15 7) si_U (fun _ _ _ h => h) rfl rfl rfl rfl (fun _ _ _ _ _ => (rn_indexAddr (size := 18) 3 rfl (T.ev 1 rfl) (T.ev 0 rfl) ⟨_, Try.underlying36, by kernel_rfl⟩ rfl (by decide) rfl)) ?_; clear T ac; intro ac T
                      refine g_q (T := T) (i := 3) rfl (by kernel_rfl) (by kernel_rfl : (pbits 15 7).setIfInBounds 3 true = pbits 15 15) si_U (fun _ _ _ h => h) rfl rfl rfl rfl (fun B w' hD hl hS => (rn_rowO (Mem.nth (show Mem w noEx w' _ from hS) 4 rfl) rfl (T.ev 0 rfl) rfl)) ?_; clear T ac; intro ac T
                      refine g_q (T := T) (i := 4) rfl (by kernel_rfl) (by kernel_rfl : (pbits 15 15).setIfInBounds 4 true = pbits 15 31) si_U (fun _ _ _ h => h) rfl rfl rfl rfl (fun _ _ _ _ _ => (rn_move rfl (T.ev 5 rfl))) ?_; clear T ac; intro ac T
                      refine g_q (T := T) (i := 5) rfl (by kernel_rfl) (by kernel_rfl : (pbits 15 31).setIfInBounds 5 true = pbits 15 63) si_U (fun _ _ _ h => h) rfl rfl rfl rfl (fun _ _ _ _ _ => (rn_move rfl (T.ev 7 rfl))) ?_; clear T ac; intro ac T
                      refine g_q (v := (.pointer (some ⟨gr7_26, 3, none⟩))) (T := T) (i := 6) rfl (by kernel_rfl) (by kernel_rfl : (pbits 15 63).setIfInBounds 6 true = pbits 15 127) si_U (fun _ _ _ h => h) rfl rfl rfl rfl (fun _ _ _ _ _ => (rn_indexAddr (size := 1) 3 rfl (T.ev 1 rfl) (T.ev 0 rfl) ⟨_, Try.underlying31, by kernel_rfl⟩ rfl (by decide) rfl)) ?_; clear T ac; intro ac T
                      refine g_q (T := T) (i := 7) rfl (by kernel_rfl) (by kernel_rfl : (pbits 15 127).setIfInBounds 7 true = pbits 15 255) si_U (fun _ _ _ h => h) rfl rfl rfl rfl (fun B w' hD hl hS => (rn_one (Mem.nth (show Mem w noEx w' _ from hS) 5 rfl) rfl (T.ev 0 rfl) rfl)) ?_; clear T ac; intro ac T
                      refine g_m2 (i := 8) (j := 12) (by kernel_rfl) ?_ ?_
                      · refine g_i rfl (by kernel_rfl : (pbits 15 255).setIfInBounds 8 true = pbits 15 511) rfl ?_; intro K hK
                        refine ow_call (first := []) (cap := []) T rfl rfl rfl rfl evf (.cons (T.ev 4 rfl) (.cons (T.ev 0 rfl) .nil)) Try.func48 rfl rfl ?_
                        refine Calls.mono (rHear_J ju3 _ _ r _ (Su3.rd M (.cons _ (.cons _ (.cons _ (.cons _ (.cons _ (.cons _ (.cons _ (List.Sublist.trans (List.Sublist.trans (List.Sublist.trans (List.Sublist.trans (List.Sublist.refl _) (List.sublist_append_left _ _)) (List.sublist_append_left _ _)) (List.sublist_append_left _ _)) (List.sublist_append_left _ _)))))))))) (by first | omega | (have := few_more hfewu3 y0 y1; omega))) ?_
                        clear T
                        rintro e wc ⟨rfl, hb⟩
                        intro ac T
                        replace M := M.call hb; clear hb
                        refine sh_out hK _ _ (M.mask [true, true, true, true, true, true, true] rfl) ?_; clear hK K
                        refine g_q (T := T) (i := 9) rfl (by kernel_rfl) (by kernel_rfl : (pbits 15 511).setIfInBounds 9 true = pbits 15 1023) si_U (fun _ _ _ h => h) rfl rfl rfl rfl (fun _ _ _ _ _ => (rn_move rfl (T.ev 0 rfl))) ?_; clear T ac; intro ac T
                        refine g_q (T := T) (i := 10) rfl (by kernel_rfl) (by kernel_rfl : (pbits 15 1023).setIfInBounds 10 true = pbits 15 2047) si_U (fun _ _ _ h => h) rfl rfl rfl rfl (fun _ _ _ _ _ => (rn_extract rfl (T.ev 0 rfl) rfl)) ?_; clear T ac; intro ac T
                        refine g_q (T := T) (i := 11) rfl (by kernel_rfl) (by kernel_rfl : (pbits 15 2047).setIfInBounds 11 true = pbits 15 4095) si_U (fun _ _ _ h => h) rfl rfl rfl rfl (fun _ _ _ _ _ => (rn_extract rfl (T.ev 1 rfl) rfl)) ?_; clear T ac; intro ac T
                        refine g_w (i := 12) (by kernel_rfl) rfl (by kernel_rfl : (pbits 15 4095).setIfInBounds 12 true = pbits 15 8191) rfl ?_; intro K hK
                        refine ow_al M T rfl rfl rfl rfl ?_; clear M T; intro gr17_12 wc ac M T
                        refine sh_out hK _ _ (M.mask [false, true, true, true, true, true, true, true] rfl) ?_; clear hK K
                        refine g_w (i := 13) (by kernel_rfl) rfl (by kernel_rfl : (pbits 15 8191).setIfInBounds 13 true = pbits 15 16383) rfl ?_; intro K hK
                        refine ow_stO M T rfl rfl (T.ev 0 rfl) (T.ev 2 rfl) rfl .head rfl (by simp) rfl (by kernel_rfl) ?_; clear M T; intro wc ac M T
                        refine sh_out hK _ _ (M.mask [false, true, true, true, true, true, true, true] rfl) ?_; clear hK K
                        refine g_q (T := T) (i := 14) rfl (by kernel_rfl) (by kernel_rfl : (pbits 15 16383).setIfInBounds 14 true = pbits 15 32767) si_U (fun _ _ _ h => h) rfl rfl rfl rfl (fun _ _ _ _ _ => (rn_assign rfl (T.ev 1 rfl))) ?_; clear T ac; intro ac T
                        refine g_done (by kernel_rfl) ?_
                        replace T := T.pick [0, 1, 14, 15, 16, 17, 18, 19, 20, 21, 22, 23, 24, 25, 26, 27, 28, 29, 30, 31, 32, 33, 34, 35, 36, 37, 38, 39, 40, 41, 42, 43, 44, 45, 46, 47, 48, 49, 50, 51, 52] rfl
                        exact ⟨gr17_12, (T.pick (E' := [(12, .slice (some ⟨gr7_4, 0, none⟩) 4 4), (13, .slice (some ⟨gr7_26, 0, none⟩) 4 4), (14, .int .i64 3), (15, .pointer (some ⟨g15, 0, none⟩)), (16, .pointer (some ⟨g16, 0, none⟩)), (17, .int .i64 ((windowJ ju3).2)), (18, .pointer (some ⟨g17, 0, none⟩)), (19, .int .i64 ((windowJ ju3).2)), (20, .int .i64 ((passesT ju3).1)), (21, .int .i64 ((passesT ju3).2)), (22, .int .i64 ((passesT ju3).1)), (23, .int .i64 ((passesT ju3).2)), (24, .pointer (some ⟨gr16_9, 0, none⟩)), (25, .int .i64 ((hearT ju3 r).2)), (26, .pointer (some ⟨gr17_12, 0, none⟩)), (27, .int .i64 ((hearT ju3 r).2)), (139, .agg #[.int .i64 ((windowJ (ju3.more y0 y1)).1.1), .int .i64 ((windowJ (ju3.more y0 y1)).1.2)]), (140, .agg #[.int .i64 ((windowJ (ju3.more y0 y1)).1.1), .int .i64 ((windowJ (ju3.more y0 y1)).1.2)]), (141, .bool false), (144, .int .i64 ((windowJ (ju3.more y0 y1)).2)), (145, .int .i64 ((windowJ (ju3.more y0 y1)).2)), (146, .bool false), (149, .int .i64 ((passesT (ju3.more y0 y1)).1)), (150, .int .i64 ((passesT (ju3.more y0 y1)).1)), (151, .bool false), (154, .int .i64 ((passesT (ju3.more y0 y1)).2)), (155, .int .i64 ((passesT (ju3.more y0 y1)).2)), (156, .bool false), (159, .agg #[.int .i64 ((hearT (ju3.more y0 y1) r).1.1), .int .i64 ((hearT (ju3.more y0 y1) r).1.2)]), (160, .agg #[.int .i64 ((hearT (ju3.more y0 y1) r).1.1), .int .i64 ((hearT (ju3.more y0 y1) r).1.2)]), (161, .bool false), (164, .int .i64 ((hearT (ju3.more y0 y1) r).2)), (165, .int .i64 ((hearT (ju3.more y0 y1) r).2)), (166, .bool false), (169, .agg #[.int .i64 ((ju3.more y0 y1).p0), .int .i64 ((ju3.more y0 y1).p1), .int .i64 ((ju3.more y0 y1).t0), .int .i64 ((ju3.more y0 y1).t1), .int .i64 ((ju3.more y0 y1).r0), .int .i64 ((ju3.more y0 y1).r1), .int .i64 ((ju3.more y0 y1).u0), .int .i64 ((ju3.more y0 y1).u1), .int .i64 ((ju3.more y0 y1).d0), .int .i64 ((ju3.more y0 y1).d1), .int .i64 ((ju3.more y0 y1).a0), .int .i64 ((ju3.more y0 y1).a1), .int .i64 ((ju3.more y0 y1).b0), .int .i64 ((ju3.more y0 y1).b1), .int .i64 ((ju3.more y0 y1).le), .slice Au21 ((ju3.more y0 y1).sh.length) cu21, .int .i64 ((ju3.more y0 y1).wi), .int .i64 ((ju3.more y0 y1).me)]), (170, .slice (some ⟨gr7_4, 0, none⟩) 4 4), (171, .int .i64 2), (172, .pointer (some ⟨gr7_4, 36, none⟩)), (173, .agg #[.int .i64 ju3.p0, .int .i64 ju3.p1, .int .i64 ju3.t0, .int .i64 ju3.t1, .int .i64 ju3.r0, .int .i64 ju3.r1, .int .i64 ju3.u0, .int .i64 ju3.u1, .int .i64 ju3.d0, .int .i64 ju3.d1, .int .i64 ju3.a0, .int .i64 ju3.a1, .int .i64 ju3.b0, .int .i64 ju3.b1, .int .i64 ju3.le, .slice (some ⟨ga1, 0, none⟩) ((ju3.more y0 y1).sh.length) cga1, .int .i64 ju3.wi, .int .i64 ju3.me]), (174, .bool true), (175, .bool false)]) [2, 3, 4, 5, 6, 7, 8, 9, 10, 11, 12, 13, 14, 15, 1, 0, 16, 17, 18, 19, 20, 21, 22, 23, 24, 25, 26, 27, 28, 29, 30, 31, 32, 33, 34, 35, 36, 37, 38, 39, 40] rfl).as (by rfl), M.mask [true, true, true, true, true, true, true, true] rfl⟩
                      · refine g_i rfl (by kernel_rfl : (pbits 15 255).setIfInBounds 12 true = pbits 15 4351) rfl ?_; intro K hK
                        refine ow_al M T rfl rfl rfl rfl ?_; clear M T; intro gr17_12 wc ac M T
                        refine sh_out hK _ _ (M.mask [false, true, true, true, true, true, true, true] rfl) ?_; clear hK K
                        refine g_w (i := 8) (by kernel_rfl) rfl (by kernel_rfl : (pbits 15 4351).setIfInBounds 8 true = pbits 15 4607) rfl ?_; intro K hK
                        refine ow_call (first := []) (cap := []) T rfl rfl rfl rfl evf (.cons (T.ev 5 rfl) (.cons (T.ev 1 rfl) .nil)) Try.func48 rfl rfl ?_
                        refine Calls.mono (rHear_J ju3 _ _ r _ (Su3.rd M (.cons _ (.cons _ (.cons _ (.cons _ (.cons _ (.cons _ (.cons _ (.cons _ (List.Sublist.trans (List.Sublist.trans (List.Sublist.trans (List.Sublist.trans (List.Sublist.refl _) (List.sublist_append_left _ _)) (List.sublist_append_left _ _)) (List.sublist_append_left _ _)) (List.sublist_append_left _ _))))))))))) (by first | omega | (have := few_more hfewu3 y0 y1; omega))) ?_
                        clear T
                        rintro e wc ⟨rfl, hb⟩
                        intro ac T
                        replace M := M.call hb; clear hb
                        refine sh_out hK _ _ (M.mask [false, true, true, true, true, true, true, true] rfl) ?_; clear hK K
                        refine g_q (T := T) (i := 9) rfl (by kernel_rfl) (by kernel_rfl : (pbits 15 4607).setIfInBounds 9 true = pbits 15 5119) si_U (fun _ _ _ h => h) rfl rfl rfl rfl (fun _ _ _ _ _ => (rn_move rfl (T.ev 0 rfl))) ?_; clear T ac; intro ac T
                        refine g_q (T := T) (i := 10) rfl (by kernel_rfl) (by kernel_rfl : (pbits 15 5119).setIfInBounds 10 true = pbits 15 6143) si_U (fun _ _ _ h => h) rfl rfl rfl rfl (fun _ _ _ _ _ => (rn_extract rfl (T.ev 0 rfl) rfl)) ?_; clear T ac; intro ac T
                        refine g_q (T := T) (i := 11) rfl (by kernel_rfl) (by kernel_rfl : (pbits 15 6143).setIfInBounds 11 true = pbits 15 8191) si_U (fun _ _ _ h => h) rfl rfl rfl rfl (fun _ _ _ _ _ => (rn_extract rfl (T.ev 1 rfl) rfl)) ?_; clear T ac; intro ac T
                        refine g_w (i := 13) (by kernel_rfl) rfl (by kernel_rfl : (pbits 15 8191).setIfInBounds 13 true = pbits 15 16383) rfl ?_; intro K hK
                        refine ow_stO M T rfl rfl (T.ev 4 rfl) (T.ev 1 rfl) rfl .head rfl (by simp) rfl (by kernel_rfl) ?_; clear M T; intro wc ac M T
                        refine sh_out hK _ _ (M.mask [false, true, true, true, true, true, true, true] rfl) ?_; clear hK K
                        refine g_q (T := T) (i := 14) rfl (by kernel_rfl) (by kernel_rfl : (pbits 15 16383).setIfInBounds 14 true = pbits 15 32767) si_U (fun _ _ _ h => h) rfl rfl rfl rfl (fun _ _ _ _ _ => (rn_assign rfl (T.ev 0 rfl))) ?_; clear T ac; intro ac T
                        refine g_done (by kernel_rfl) ?_
                        replace T := T.pick [0, 5, 14, 15, 16, 17, 18, 19, 20, 21, 22, 23, 24, 25, 26, 27, 28, 29, 30, 31, 32, 33, 34, 35, 36, 37, 38, 39, 40, 41, 42, 43, 44, 45, 46, 47, 48, 49, 50, 51, 52] rfl
                        exact ⟨gr17_12, (T.pick (E' := [(12, .slice (some ⟨gr7_4, 0, none⟩) 4 4), (13, .slice (some ⟨gr7_26, 0, none⟩) 4 4), (14, .int .i64 3), (15, .pointer (some ⟨g15, 0, none⟩)), (16, .pointer (some ⟨g16, 0, none⟩)), (17, .int .i64 ((windowJ ju3).2)), (18, .pointer (some ⟨g17, 0, none⟩)), (19, .int .i64 ((windowJ ju3).2)), (20, .int .i64 ((passesT ju3).1)), (21, .int .i64 ((passesT ju3).2)), (22, .int .i64 ((passesT ju3).1)), (23, .int .i64 ((passesT ju3).2)), (24, .pointer (some ⟨gr16_9, 0, none⟩)), (25, .int .i64 ((hearT ju3 r).2)), (26, .pointer (some ⟨gr17_12, 0, none⟩)), (27, .int .i64 ((hearT ju3 r).2)), (139, .agg #[.int .i64 ((windowJ (ju3.more y0 y1)).1.1), .int .i64 ((windowJ (ju3.more y0 y1)).1.2)]), (140, .agg #[.int .i64 ((windowJ (ju3.more y0 y1)).1.1), .int .i64 ((windowJ (ju3.more y0 y1)).1.2)]), (141, .bool false), (144, .int .i64 ((windowJ (ju3.more y0 y1)).2)), (145, .int .i64 ((windowJ (ju3.more y0 y1)).2)), (146, .bool false), (149, .int .i64 ((passesT (ju3.more y0 y1)).1)), (150, .int .i64 ((passesT (ju3.more y0 y1)).1)), (151, .bool false), (154, .int .i64 ((passesT (ju3.more y0 y1)).2)), (155, .int .i64 ((passesT (ju3.more y0 y1)).2)), (156, .bool false), (159, .agg #[.int .i64 ((hearT (ju3.more y0 y1) r).1.1), .int .i64 ((hearT (ju3.more y0 y1) r).1.2)]), (160, .agg #[.int .i64 ((hearT (ju3.more y0 y1) r).1.1), .int .i64 ((hearT (ju3.more y0 y1) r).1.2)]), (161, .bool false), (164, .int .i64 ((hearT (ju3.more y0 y1) r).2)), (165, .int .i64 ((hearT (ju3.more y0 y1) r).2)), (166, .bool false), (169, .agg #[.int .i64 ((ju3.more y0 y1).p0), .int .i64 ((ju3.more y0 y1).p1), .int .i64 ((ju3.more y0 y1).t0), .int .i64 ((ju3.more y0 y1).t1), .int .i64 ((ju3.more y0 y1).r0), .int .i64 ((ju3.more y0 y1).r1), .int .i64 ((ju3.more y0 y1).u0), .int .i64 ((ju3.more y0 y1).u1), .int .i64 ((ju3.more y0 y1).d0), .int .i64 ((ju3.more y0 y1).d1), .int .i64 ((ju3.more y0 y1).a0), .int .i64 ((ju3.more y0 y1).a1), .int .i64 ((ju3.more y0 y1).b0), .int .i64 ((ju3.more y0 y1).b1), .int .i64 ((ju3.more y0 y1).le), .slice Au21 ((ju3.more y0 y1).sh.length) cu21, .int .i64 ((ju3.more y0 y1).wi), .int .i64 ((ju3.more y0 y1).me)]), (170, .slice (some ⟨gr7_4, 0, none⟩) 4 4), (171, .int .i64 2), (172, .pointer (some ⟨gr7_4, 36, none⟩)), (173, .agg #[.int .i64 ju3.p0, .int .i64 ju3.p1, .int .i64 ju3.t0, .int .i64 ju3.t1, .int .i64 ju3.r0, .int .i64 ju3.r1, .int .i64 ju3.u0, .int .i64 ju3.u1, .int .i64 ju3.d0, .int .i64 ju3.d1, .int .i64 ju3.a0, .int .i64 ju3.a1, .int .i64 ju3.b0, .int .i64 ju3.b1, .int .i64 ju3.le, .slice (some ⟨ga1, 0, none⟩) ((ju3.more y0 y1).sh.length) cga1, .int .i64 ju3.wi, .int .i64 ju3.me]), (174, .bool true), (175, .bool false)]) [2, 3, 4, 5, 6, 7, 8, 9, 10, 11, 12, 13, 14, 15, 1, 0, 16, 17, 18, 19, 20, 21, 22, 23, 24, 25, 26, 27, 28, 29, 30, 31, 32, 33, 34, 35, 36, 37, 38, 39, 40] rfl).as (by rfl), M.mask [true, true, true, true, true, true, true, true] rfl⟩
                    · clear T M
                      rintro ac wc ⟨gr17_12, T, M⟩
                      refine wp_seq ?_
                      refine g_start2 M (M.mask [true, true, true, true, true, true, true, true] rfl) 47 (by kernel_rfl) rfl (by kernel_rfl) ?_
                      clear M; intro wc M
                      refine g_q (T := T) (i := 0) rfl (by kernel_rfl) (by kernel_rfl : (pbits 47 0).setIfInBounds 0 true = pbits 47 1) si_U (fun _ _ _ h => h) rfl rfl rfl rfl (fun B w' hD hl hS => (rn_rowO (Mem.nth (show Mem w noEx w' _ from hS) 4 rfl) rfl (T.ev 3 rfl) rfl)) ?_; clear T ac; intro ac T
                      refine g_q (T := T) (i := 2) rfl (by kernel_rfl) (by kernel_rfl : (pbits 47 1).setIfInBounds 2 true = pbits 47 5) si_U (fun _ _ _ h => h) rfl rfl rfl rfl (fun _ _ _ _ _ => (rn_move rfl (T.ev 1 rfl))) ?_; clear T ac; intro ac T
                      refine g_q (T := T) (i := 3) rfl (by kernel_rfl) (by kernel_rfl : (pbits 47 5).setIfInBounds 3 true = pbits 47 13) si_U (fun _ _ _ h => h) rfl rfl rfl rfl (fun _ _ _ _ _ => (rn_move rfl (T.ev 4 rfl))) ?_; clear T ac; intro ac T
                      refine g_q (v := (.pointer (some ⟨gr7_4, 54, none⟩))) (T := T) (i := 4) rfl (by kernel_rfl) (by kernel_rfl : (pbits 47 13).setIfInBounds 4 true = pbits 47 29) si_U (fun _ _ _ h => h) rfl rfl rfl rfl (fun _ _ _ _ _ => (rn_indexAddr (size := 18) 3 rfl (T.ev 1 rfl) (T.ev 0 rfl) ⟨_, Try.underlying36, by kernel_rfl⟩ rfl (by decide) rfl)) ?_; clear T ac; intro ac T
                      refine g_q (T := T) (i := 5) rfl (by kernel_rfl) (by kernel_rfl : (pbits 47 29).setIfInBounds 5 true = pbits 47 61) si_U (fun _ _ _ h => h) rfl rfl rfl rfl (fun B w' hD hl hS => (rn_rowO (Mem.nth (show Mem w noEx w' _ from hS) 5 rfl) rfl (T.ev 0 rfl) rfl)) ?_; clear T ac; intro ac T
                      refine g_w (i := 1) (by kernel_rfl) rfl (by kernel_rfl : (pbits 47 61).setIfInBounds 1 true = pbits 47 63) rfl ?_; intro K hK
                      refine ow_call (first := []) (cap := []) T rfl rfl rfl rfl evf (.cons (T.ev 4 rfl) .nil) Try.func49 rfl rfl ?_
                      refine Calls.mono (check_any ju3 _ _ _ (Su29.rd M (.cons _ (.cons _ (.cons _ (.cons _ (.cons _ (.cons _ (.cons _ (.cons _ (List.sublist_append_right _ _)))))))))) (by first | omega | (have := few_more hfewu3 y0 y1; omega))) ?_
                      clear T
                      rintro e wc ⟨rfl, hb⟩
                      intro ac T
                      replace M := M.call hb; clear hb
                      refine sh_out hK _ _ (M.mask [true, true, true, true, true, true, true, true] rfl) ?_; clear hK K
                      refine g_addU M ?_
                      refine g_w (i := 6) (by kernel_rfl) rfl (by kernel_rfl : (pbits 47 63).setIfInBounds 6 true = pbits 47 127) rfl ?_; intro K hK
                      refine ow_call (first := []) (cap := []) T rfl rfl rfl rfl evf (.cons (T.ev 1 rfl) .nil) Try.func50 rfl rfl ?_
                      refine Calls.mono (rCheck_any ju3 _ _ _ (Su3.rd M (.cons _ (.cons _ (.cons _ (.cons _ (.cons _ (.cons _ (.cons _ (.cons _ (List.Sublist.trans (List.Sublist.trans (List.Sublist.trans (List.Sublist.trans (List.Sublist.refl _) (List.sublist_append_left _ _)) (List.sublist_append_left _ _)) (List.sublist_append_left _ _)) (List.sublist_append_left _ _))))))))))) (by first | omega | (have := few_more hfewu3 y0 y1; omega))) ?_
                      clear T
                      rintro e wc ⟨rfl, hb⟩
                      intro ac T
                      replace M := M.call hb; clear hb
                      refine sh_out hK _ _ (MA.mk (M.mask [true, true, true, true, true, true, true, true] rfl) (M.mask [true, true, true, true, true, true, true, true] rfl)) ?_; clear hK K
                      refine g_addU M ?_
                      refine g_q (v := (.bool false)) (T := T) (i := 7) rfl (by kernel_rfl) (by kernel_rfl : (pbits 47 127).setIfInBounds 7 true = pbits 47 255) (si_and si_U (si_and si_U si_U)) (fun _ _ _ h => h) rfl rfl rfl rfl (fun _ _ _ _ _ => (rn_neqof (rn_neq rfl (T.ev 1 rfl) (T.ev 0 rfl)) (by simp))) ?_; clear T ac; intro ac T
                      refine g_q (T := T) (i := 8) rfl (by kernel_rfl) (by kernel_rfl : (pbits 47 255).setIfInBounds 8 true = pbits 47 511) (si_and si_U (si_and si_U si_U)) (fun _ _ _ h => h) rfl rfl rfl rfl (fun _ _ _ _ _ => (rn_move rfl (T.ev 0 rfl))) ?_; clear T ac; intro ac T
                      refine g_q (v := (.agg #[.int .i64 ((windowJ ju3).1.1), .int .i64 ((windowJ ju3).1.2)])) (T := T.pick [0, 1, 2, 3, 4, 5, 6, 7, 8, 9, 10, 11, 12, 13, 14, 15, 16, 17, 18, 19, 20, 21, 22, 23, 24, 26, 27, 28, 29, 30, 31, 32, 33, 34, 35, 36, 37, 38, 39, 40, 41, 42, 43, 44, 45, 46, 47, 48, 49] rfl) (i := 9) rfl (by kernel_rfl) (by kernel_rfl : (pbits 47 511).setIfInBounds 9 true = pbits 47 1023) (si_and si_U (si_and si_U si_U)) (fun _ _ _ h => h) (wanted_yes rfl rfl (T.ev 0 rfl) rfl) rfl rfl rfl (fun B w' hD hl hS => (rn_rowO (Mem.nth (show Mem w noEx w' _ from (MA.lft hS)) 3 rfl) rfl (T.ev 13 rfl) rfl)) ?_; clear T ac; intro ac T
                      refine g_q (v := (.agg #[.int .i64 ((windowJ ju3).1.1), .int .i64 ((windowJ ju3).1.2)])) (T := T.pick [0, 1, 2, 3, 4, 5, 6, 7, 8, 9, 10, 11, 12, 13, 14, 15, 16, 17, 18, 19, 20, 21, 22, 23, 24, 25, 27, 28, 29, 30, 31, 32, 33, 34, 35, 36, 37, 38, 39, 40, 41, 42, 43, 44, 45, 46, 47, 48, 49] rfl) (i := 10) rfl (by kernel_rfl) (by kernel_rfl : (pbits 47 1023).setIfInBounds 10 true = pbits 47 2047) (si_and si_U (si_and si_U si_U)) (fun _ _ _ h => h) (wanted_yes rfl rfl (T.ev 1 rfl) rfl) rfl rfl rfl (fun B w' hD hl hS => (rn_rowO (Mem.nth (show Mem w noEx w' _ from (MA.lft hS)) 2 rfl) rfl (T.ev 16 rfl) rfl)) ?_; clear T ac; intro ac T
                      refine g_q (v := (.bool false)) (T := T.pick [0, 1, 2, 3, 4, 5, 6, 7, 8, 9, 10, 11, 12, 13, 14, 15, 16, 17, 18, 19, 20, 21, 22, 23, 24, 25, 26, 28, 29, 30, 31, 32, 33, 34, 35, 36, 37, 38, 39, 40, 41, 42, 43, 44, 45, 46, 47, 48, 49] rfl) (i := 11) rfl (by kernel_rfl) (by kernel_rfl : (pbits 47 2047).setIfInBounds 11 true = pbits 47 4095) (si_and si_U (si_and si_U si_U)) (fun _ _ _ h => h) (wanted_yes rfl rfl (T.ev 2 rfl) rfl) rfl rfl rfl (fun _ _ _ _ _ => (rn_neqof (rn_bin rfl (T.ev 1 rfl) (T.ev 0 rfl) neT23) (by simp))) ?_; clear T ac; intro ac T
                      refine g_q (T := T) (i := 12) rfl (by kernel_rfl) (by kernel_rfl : (pbits 47 4095).setIfInBounds 12 true = pbits 47 8191) (si_and si_U (si_and si_U si_U)) (fun _ _ _ h => h) rfl rfl rfl rfl (fun _ _ _ _ _ => (rn_pick0 rfl (T.ev 3 rfl) rfl (T.ev 0 rfl))) ?_; clear T ac; intro ac T
                      refine g_q (T := T) (i := 13) rfl (by kernel_rfl) (by kernel_rfl : (pbits 47 8191).setIfInBounds 13 true = pbits 47 16383) (si_and si_U (si_and si_U si_U)) (fun _ _ _ h => h) rfl rfl rfl rfl (fun _ _ _ _ _ => (rn_move rfl (T.ev 0 rfl))) ?_; clear T ac; intro ac T
                      refine g_q (v := (.int .i64 ((windowJ ju3).2))) (T := T.pick [0, 1, 2, 3, 4, 5, 6, 7, 8, 9, 10, 11, 12, 13, 14, 15, 16, 17, 18, 19, 20, 21, 22, 23, 24, 25, 26, 27, 28, 29, 31, 32, 33, 34, 35, 36, 37, 38, 39, 40, 41, 42, 43, 44, 45, 46, 47, 48, 49, 50, 51] rfl) (i := 14) rfl (by kernel_rfl) (by kernel_rfl : (pbits 47 16383).setIfInBounds 14 true = pbits 47 32767) (si_and si_U (si_and si_U si_U)) (fun _ _ _ h => h) (wanted_yes rfl rfl (T.ev 0 rfl) rfl) rfl rfl rfl (fun _ _ _ _ _ => (rn_move rfl (T.ev 19 rfl))) ?_; clear T ac; intro ac T
                      refine g_q (v := (.int .i64 ((windowJ ju3).2))) (T := T.pick [0, 1, 2, 3, 4, 5, 6, 7, 8, 9, 10, 11, 12, 13, 14, 15, 16, 17, 18, 19, 20, 21, 22, 23, 24, 25, 26, 27, 28, 29, 30, 32, 33, 34, 35, 36, 37, 38, 39, 40, 41, 42, 43, 44, 45, 46, 47, 48, 49, 50, 51] rfl) (i := 15) rfl (by kernel_rfl) (by kernel_rfl : (pbits 47 32767).setIfInBounds 15 true = pbits 47 65535) (si_and si_U (si_and si_U si_U)) (fun _ _ _ h => h) (wanted_yes rfl rfl (T.ev 1 rfl) rfl) rfl rfl rfl (fun _ _ _ _ _ => (rn_move rfl (T.ev 22 rfl))) ?_; clear T ac; intro ac T
                      refine g_q (v := (.bool false)) (T := T.pick [0, 1, 2, 3, 4, 5, 6, 7, 8, 9, 10, 11, 12, 13, 14, 15, 16, 17, 18, 19, 20, 21, 22, 23, 24, 25, 26, 27, 28, 29, 30, 31, 33, 34, 35, 36, 37, 38, 39, 40, 41, 42, 43, 44, 45, 46, 47, 48, 49, 50, 51] rfl) (i := 16) rfl (by kernel_rfl) (by kernel_rfl : (pbits 47 65535).setIfInBounds 16 true = pbits 47 131071) (si_and si_U (si_and si_U si_U)) (fun _ _ _ h => h) (wanted_yes rfl rfl (T.ev 2 rfl) rfl) rfl rfl rfl (fun _ _ _ _ _ => (rn_neqof (rn_neq rfl (T.ev 1 rfl) (T.ev 0 rfl)) (by simp))) ?_; clear T ac; intro ac T
                      refine g_q (T := T) (i := 17) rfl (by kernel_rfl) (by kernel_rfl : (pbits 47 131071).setIfInBounds 17 true = pbits 47 262143) (si_and si_U (si_and si_U si_U)) (fun _ _ _ h => h) rfl rfl rfl rfl (fun _ _ _ _ _ => (rn_pick0 rfl (T.ev 3 rfl) rfl (T.ev 0 rfl))) ?_; clear T ac; intro ac T
                      refine g_q (T := T) (i := 18) rfl (by kernel_rfl) (by kernel_rfl : (pbits 47 262143).setIfInBounds 18 true = pbits 47 524287) (si_and si_U (si_and si_U si_U)) (fun _ _ _ h => h) rfl rfl rfl rfl (fun _ _ _ _ _ => (rn_move rfl (T.ev 0 rfl))) ?_; clear T ac; intro ac T
                      refine g_q (v := (.int .i64 ((passesT ju3).1))) (T := T.pick [0, 1, 2, 3, 4, 5, 6, 7, 8, 9, 10, 11, 12, 13, 14, 15, 16, 17, 18, 19, 20, 21, 22, 23, 24, 25, 26, 27, 28, 29, 30, 31, 32, 33, 34, 36, 37, 38, 39, 40, 41, 42, 43, 44, 45, 46, 47, 48, 49, 50, 51, 52, 53] rfl) (i := 19) rfl (by kernel_rfl) (by kernel_rfl : (pbits 47 524287).setIfInBounds 19 true = pbits 47 1048575) (si_and si_U (si_and si_U si_U)) (fun _ _ _ h => h) (wanted_yes rfl rfl (T.ev 0 rfl) rfl) rfl rfl rfl (fun _ _ _ _ _ => (rn_move rfl (T.ev 27 rfl))) ?_; clear T ac; intro ac T
                      refine g_q (v := (.int .i64 ((passesT ju3).1))) (T := T.pick [0, 1, 2, 3, 4, 5, 6, 7, 8, 9, 10, 11, 12, 13, 14, 15, 16, 17, 18, 19, 20, 21, 22, 23, 24, 25, 26, 27, 28, 29, 30, 31, 32, 33, 34, 35, 37, 38, 39, 40, 41, 42, 43, 44, 45, 46, 47, 48, 49, 50, 51, 52, 53] rfl) (i := 20) rfl (by kernel_rfl) (by kernel_rfl : (pbits 47 1048575).setIfInBounds 20 true = pbits 47 2097151) (si_and si_U (si_and si_U si_U)) (fun _ _ _ h => h) (wanted_yes rfl rfl (T.ev 1 rfl) rfl) rfl rfl rfl (fun _ _ _ _ _ => (rn_move rfl (T.ev 30 rfl))) ?_; clear T ac; intro ac T
                      refine g_q (v := (.bool false)) (T := T.pick [0, 1, 2, 3, 4, 5, 6, 7, 8, 9, 10, 11, 12, 13, 14, 15, 16, 17, 18, 19, 20, 21, 22, 23, 24, 25, 26, 27, 28, 29, 30, 31, 32, 33, 34, 35, 36, 38, 39, 40, 41, 42, 43, 44, 45, 46, 47, 48, 49, 50, 51, 52, 53] rfl) (i := 21) rfl (by kernel_rfl) (by kernel_rfl : (pbits 47 2097151).setIfInBounds 21 true = pbits 47 4194303) (si_and si_U (si_and si_U si_U)) (fun _ _ _ h => h) (wanted_yes rfl rfl (T.ev 2 rfl) rfl) rfl rfl rfl (fun _ _ _ _ _ => (rn_neqof (rn_neq rfl (T.ev 1 rfl) (T.ev 0 rfl)) (by simp))) ?_; clear T ac; intro ac T
                      refine g_q (T := T) (i := 22) rfl (by kernel_rfl) (by kernel_rfl : (pbits 47 4194303).setIfInBounds 22 true = pbits 47 8388607) (si_and si_U (si_and si_U si_U)) (fun _ _ _ h => h) rfl rfl rfl rfl (fun _ _ _ _ _ => (rn_pick0 rfl (T.ev 3 rfl) rfl (T.ev 0 rfl))) ?_; clear T ac; intro ac T
                      refine g_q (T := T) (i := 23) rfl (by kernel_rfl) (by kernel_rfl : (pbits 47 8388607).setIfInBounds 23 true = pbits 47 16777215) (si_and si_U (si_and si_U si_U)) (fun _ _ _ h => h) rfl rfl rfl rfl (fun _ _ _ _ _ => (rn_move rfl (T.ev 0 rfl))) ?_; clear T ac; intro ac T
                      refine g_q (v := (.int .i64 ((passesT ju3).2))) (T := T.pick [0, 1, 2, 3, 4, 5, 6, 7, 8, 9, 10, 11, 12, 13, 14, 15, 16, 17, 18, 19, 20, 21, 22, 23, 24, 25, 26, 27, 28, 29, 30, 31, 32, 33, 34, 35, 36, 37, 38, 39, 41, 42, 43, 44, 45, 46, 47, 48, 49, 50, 51, 52, 53, 54, 55] rfl) (i := 24) rfl (by kernel_rfl) (by kernel_rfl : (pbits 47 16777215).setIfInBounds 24 true = pbits 47 33554431) (si_and si_U (si_and si_U si_U)) (fun _ _ _ h => h) (wanted_yes rfl rfl (T.ev 0 rfl) rfl) rfl rfl rfl (fun _ _ _ _ _ => (rn_move rfl (T.ev 33 rfl))) ?_; clear T ac; intro ac T
                      refine g_q (v := (.int .i64 ((passesT ju3).2))) (T := T.pick [0, 1, 2, 3, 4, 5, 6, 7, 8, 9, 10, 11, 12, 13, 14, 15, 16, 17, 18, 19, 20, 21, 22, 23, 24, 25, 26, 27, 28, 29, 30, 31, 32, 33, 34, 35, 36, 37, 38, 39, 40, 42, 43, 44, 45, 46, 47, 48, 49, 50, 51, 52, 53, 54, 55] rfl) (i := 25) rfl (by kernel_rfl) (by kernel_rfl : (pbits 47 33554431).setIfInBounds 25 true = pbits 47 67108863) (si_and si_U (si_and si_U si_U)) (fun _ _ _ h => h) (wanted_yes rfl rfl (T.ev 1 rfl) rfl) rfl rfl rfl (fun _ _ _ _ _ => (rn_move rfl (T.ev 36 rfl))) ?_; clear T ac; intro ac T
                      refine g_q (v := (.bool false)) (T := T.pick [0, 1, 2, 3, 4, 5, 6, 7, 8, 9, 10, 11, 12, 13, 14, 15, 16, 17, 18, 19, 20, 21, 22, 23, 24, 25, 26, 27, 28, 29, 30, 31, 32, 33, 34, 35, 36, 37, 38, 39, 40, 41, 43, 44, 45, 46, 47, 48, 49, 50, 51, 52, 53, 54, 55] rfl) (i := 26) rfl (by kernel_rfl) (by kernel_rfl : (pbits 47 67108863).setIfInBounds 26 true = pbits 47 134217727) (si_and si_U (si_and si_U si_U)) (fun _ _ _ h => h) (wanted_yes rfl rfl (T.ev 2 rfl) rfl) rfl rfl rfl (fun _ _ _ _ _ => (rn_neqof (rn_neq rfl (T.ev 1 rfl) (T.ev 0 rfl)) (by simp))) ?_; clear T ac; intro ac T
                      refine g_q (T := T) (i := 27) rfl (by kernel_rfl) (by kernel_rfl : (pbits 47 134217727).setIfInBounds 27 true = pbits 47 268435455) (si_and si_U (si_and si_U si_U)) (fun _ _ _ h => h) rfl rfl rfl rfl (fun _ _ _ _ _ => (rn_pick0 rfl (T.ev 3 rfl) rfl (T.ev 0 rfl))) ?_; clear T ac; intro ac T
                      refine g_q (T := T) (i := 28) rfl (by kernel_rfl) (by kernel_rfl : (pbits 47 268435455).setIfInBounds 28 true = pbits 47 536870911) (si_and si_U (si_and si_U si_U)) (fun _ _ _ h => h) rfl rfl rfl rfl (fun _ _ _ _ _ => (rn_move rfl (T.ev 0 rfl))) ?_; clear T ac; intro ac T
                      refine g_q (v := (.agg #[.int .i64 ((hearT ju3 r).1.1), .int .i64 ((hearT ju3 r).1.2)])) (T := T.pick [0, 1, 2, 3, 4, 5, 6, 7, 8, 9, 10, 11, 12, 13, 14, 15, 16, 17, 18, 19, 20, 21, 22, 23, 24, 25, 26, 27, 28, 29, 30, 31, 32, 33, 34, 35, 36, 37, 38, 39, 40, 41, 42, 43, 44, 46, 47, 48, 49, 50, 51, 52, 53, 54, 55, 56, 57] rfl) (i := 29) rfl (by kernel_rfl) (by kernel_rfl : (pbits 47 536870911).setIfInBounds 29 true = pbits 47 1073741823) (si_and si_U (si_and si_U si_U)) (fun _ _ _ h => h) (wanted_yes rfl rfl (T.ev 0 rfl) rfl) rfl rfl rfl (fun B w' hD hl hS => (rn_rowO (Mem.nth (show Mem w noEx w' _ from (MA.lft hS)) 1 rfl) rfl (T.ev 41 rfl) rfl)) ?_; clear T ac; intro ac T
                      refine g_q (v := (.agg #[.int .i64 ((hearT ju3 r).1.1), .int .i64 ((hearT ju3 r).1.2)])) (T := T.pick [0, 1, 2, 3, 4, 5, 6, 7, 8, 9, 10, 11, 12, 13, 14, 15, 16, 17, 18, 19, 20, 21, 22, 23, 24, 25, 26, 27, 28, 29, 30, 31, 32, 33, 34, 35, 36, 37, 38, 39, 40, 41, 42, 43, 44, 45, 47, 48, 49, 50, 51, 52, 53, 54, 55, 56, 57] rfl) (i := 30) rfl (by kernel_rfl) (by kernel_rfl : (pbits 47 1073741823).setIfInBounds 30 true = pbits 47 2147483647) (si_and si_U (si_and si_U si_U)) (fun _ _ _ h => h) (wanted_yes rfl rfl (T.ev 1 rfl) rfl) rfl rfl rfl (fun B w' hD hl hS => (rn_rowO (Mem.nth (show Mem w noEx w' _ from (MA.lft hS)) 0 rfl) rfl (T.ev 44 rfl) rfl)) ?_; clear T ac; intro ac T
                      refine g_q (v := (.bool false)) (T := T.pick [0, 1, 2, 3, 4, 5, 6, 7, 8, 9, 10, 11, 12, 13, 14, 15, 16, 17, 18, 19, 20, 21, 22, 23, 24, 25, 26, 27, 28, 29, 30, 31, 32, 33, 34, 35, 36, 37, 38, 39, 40, 41, 42, 43, 44, 45, 46, 48, 49, 50, 51, 52, 53, 54, 55, 56, 57] rfl) (i := 31) rfl (by kernel_rfl) (by kernel_rfl : (pbits 47 2147483647).setIfInBounds 31 true = pbits 47 4294967295) (si_and si_U (si_and si_U si_U)) (fun _ _ _ h => h) (wanted_yes rfl rfl (T.ev 2 rfl) rfl) rfl rfl rfl (fun _ _ _ _ _ => (rn_neqof (rn_bin rfl (T.ev 1 rfl) (T.ev 0 rfl) neT23) (by simp))) ?_; clear T ac; intro ac T
                      refine g_q (T := T) (i := 32) rfl (by kernel_rfl) (by kernel_rfl : (pbits 47 4294967295).setIfInBounds 32 true = pbits 47 8589934591) (si_and si_U (si_and si_U si_U)) (fun _ _ _ h => h) rfl rfl rfl rfl (fun _ _ _ _ _ => (rn_pick0 rfl (T.ev 3 rfl) rfl (T.ev 0 rfl))) ?_; clear T ac; intro ac T
                      refine g_q (T := T) (i := 33) rfl (by kernel_rfl) (by kernel_rfl : (pbits 47 8589934591).setIfInBounds 33 true = pbits 47 17179869183) (si_and si_U (si_and si_U si_U)) (fun _ _ _ h => h) rfl rfl rfl rfl (fun _ _ _ _ _ => (rn_move rfl (T.ev 0 rfl))) ?_; clear T ac; intro ac T
                      refine g_q (v := (.int .i64 ((hearT ju3 r).2))) (T := T.pick [0, 1, 2, 3, 4, 5, 6, 7, 8, 9, 10, 11, 12, 13, 14, 15, 16, 17, 18, 19, 20, 21, 22, 23, 24, 25, 26, 27, 28, 29, 30, 31, 32, 33, 34, 35, 36, 37, 38, 39, 40, 41, 42, 43, 44, 45, 46, 47, 48, 49, 51, 52, 53, 54, 55, 56, 57, 58, 59] rfl) (i := 34) rfl (by kernel_rfl) (by kernel_rfl : (pbits 47 17179869183).setIfInBounds 34 true = pbits 47 34359738367) (si_and si_U (si_and si_U si_U)) (fun _ _ _ h => h) (wanted_yes rfl rfl (T.ev 0 rfl) rfl) rfl rfl rfl (fun _ _ _ _ _ => (rn_move rfl (T.ev 47 rfl))) ?_; clear T ac; intro ac T
                      refine g_q (v := (.int .i64 ((hearT ju3 r).2))) (T := T.pick [0, 1, 2, 3, 4, 5, 6, 7, 8, 9, 10, 11, 12, 13, 14, 15, 16, 17, 18, 19, 20, 21, 22, 23, 24, 25, 26, 27, 28, 29, 30, 31, 32, 33, 34, 35, 36, 37, 38, 39, 40, 41, 42, 43, 44, 45, 46, 47, 48, 49, 50, 52, 53, 54, 55, 56, 57, 58, 59] rfl) (i := 35) rfl (by kernel_rfl) (by kernel_rfl : (pbits 47 34359738367).setIfInBounds 35 true = pbits 47 68719476735) (si_and si_U (si_and si_U si_U)) (fun _ _ _ h => h) (wanted_yes rfl rfl (T.ev 1 rfl) rfl) rfl rfl rfl (fun _ _ _ _ _ => (rn_move rfl (T.ev 50 rfl))) ?_; clear T ac; intro ac T
                      refine g_q (v := (.bool false)) (T := T.pick [0, 1, 2, 3, 4, 5, 6, 7, 8, 9, 10, 11, 12, 13, 14, 15, 16, 17, 18, 19, 20, 21, 22, 23, 24, 25, 26, 27, 28, 29, 30, 31, 32, 33, 34, 35, 36, 37, 38, 39, 40, 41, 42, 43, 44, 45, 46, 47, 48, 49, 50, 51, 53, 54, 55, 56, 57, 58, 59] rfl) (i := 36) rfl (by kernel_rfl) (by kernel_rfl : (pbits 47 68719476735).setIfInBounds 36 true = pbits 47 137438953471) (si_and si_U (si_and si_U si_U)) (fun _ _ _ h => h) (wanted_yes rfl rfl (T.ev 2 rfl) rfl) rfl rfl rfl (fun _ _ _ _ _ => (rn_neqof (rn_neq rfl (T.ev 1 rfl) (T.ev 0 rfl)) (by simp))) ?_; clear T ac; intro ac T
                      refine g_q (T := T) (i := 37) rfl (by kernel_rfl) (by kernel_rfl : (pbits 47 137438953471).setIfInBounds 37 true = pbits 47 274877906943) (si_and si_U (si_and si_U si_U)) (fun _ _ _ h => h) rfl rfl rfl rfl (fun _ _ _ _ _ => (rn_pick0 rfl (T.ev 3 rfl) rfl (T.ev 0 rfl))) ?_; clear T ac; intro ac T
                      refine g_q (T := T) (i := 38) rfl (by kernel_rfl) (by kernel_rfl : (pbits 47 274877906943).setIfInBounds 38 true = pbits 47 549755813887) (si_and si_U (si_and si_U si_U)) (fun _ _ _ h => h) rfl rfl rfl rfl (fun _ _ _ _ _ => (rn_move rfl (T.ev 0 rfl))) ?_; clear T ac; intro ac T
                      refine g_q (v := (.agg #[.int .i64 ju3.p0, .int .i64 ju3.p1, .int .i64 ju3.t0, .int .i64 ju3.t1, .int .i64 ju3.r0, .int .i64 ju3.r1, .int .i64 ju3.u0, .int .i64 ju3.u1, .int .i64 ju3.d0, .int .i64 ju3.d1, .int .i64 ju3.a0, .int .i64 ju3.a1, .int .i64 ju3.b0, .int .i64 ju3.b1, .int .i64 ju3.le, .slice Au29 ju3.sh.length cu29, .int .i64 ju3.wi, .int .i64 ju3.me])) (T := T.pick [0, 1, 2, 3, 4, 5, 6, 7, 8, 9, 10, 11, 12, 13, 14, 15, 16, 17, 18, 19, 20, 21, 22, 23, 24, 25, 26, 27, 28, 29, 30, 31, 32, 33, 34, 35, 36, 37, 38, 39, 40, 41, 42, 43, 44, 45, 46, 47, 48, 49, 50, 51, 52, 53, 54, 56, 57, 58, 59, 60, 61] rfl) (i := 39) rfl (by kernel_rfl) (by kernel_rfl : (pbits 47 549755813887).setIfInBounds 39 true = pbits 47 1099511627775) (si_and si_U (si_and si_U si_U)) (fun _ _ _ h => h) (wanted_yes rfl rfl (T.ev 0 rfl) rfl) rfl rfl rfl (fun B w' hD hl hS => (rn_rowO (Mem.nth (show Mem w noEx w' _ from (MA.lft hS)) 4 rfl) rfl (T.ev 42 rfl) rfl)) ?_; clear T ac; intro ac T
                      refine g_q (v := (.slice (some ⟨gr7_4, 0, none⟩) 4 4)) (T := T.pick [0, 1, 2, 3, 4, 5, 6, 7, 8, 9, 10, 11, 12, 13, 14, 15, 16, 17, 18, 19, 20, 21, 22, 23, 24, 25, 26, 27, 28, 29, 30, 31, 32, 33, 34, 35, 36, 37, 38, 39, 40, 41, 42, 43, 44, 45, 46, 47, 48, 49, 50, 51, 52, 53, 54, 55, 57, 58, 59, 60, 61] rfl) (i := 40) rfl (by kernel_rfl) (by kernel_rfl : (pbits 47 1099511627775).setIfInBounds 40 true = pbits 47 2199023255551) (si_and si_U (si_and si_U si_U)) (fun _ _ _ h => h) (wanted_yes rfl rfl (T.ev 1 rfl) rfl) rfl rfl rfl (fun _ _ _ _ _ => (rn_move rfl (T.ev 40 rfl))) ?_; clear T ac; intro ac T
                      refine g_q (v := (.int .i64 3)) (T := T.pick [0, 1, 2, 3, 4, 5, 6, 7, 8, 9, 10, 11, 12, 13, 14, 15, 16, 17, 18, 19, 20, 21, 22, 23, 24, 25, 26, 27, 28, 29, 30, 31, 32, 33, 34, 35, 36, 37, 38, 39, 40, 41, 42, 43, 44, 45, 46, 47, 48, 49, 50, 51, 52, 53, 54, 55, 56, 58, 59, 60, 61] rfl) (i := 41) rfl (by kernel_rfl) (by kernel_rfl : (pbits 47 2199023255551).setIfInBounds 41 true = pbits 47 4398046511103) (si_and si_U (si_and si_U si_U)) (fun _ _ _ h => h) (wanted_yes rfl rfl (T.ev 2 rfl) rfl) rfl rfl rfl (fun _ _ _ _ _ => (rn_move rfl (T.ev 43 rfl))) ?_; clear T ac; intro ac T
                      refine g_q (v := (.pointer (some ⟨gr7_4, 54, none⟩))) (T := T.pick [0, 1, 2, 3, 4, 5, 6, 7, 8, 9, 10, 11, 12, 13, 14, 15, 16, 17, 18, 19, 20, 21, 22, 23, 24, 25, 26, 27, 28, 29, 30, 31, 32, 33, 34, 35, 36, 37, 38, 39, 40, 41, 42, 43, 44, 45, 46, 47, 48, 49, 50, 51, 52, 53, 54, 55, 56, 57, 59, 60, 61] rfl) (i := 42) rfl (by kernel_rfl) (by kernel_rfl : (pbits 47 4398046511103).setIfInBounds 42 true = pbits 47 8796093022207) (si_and si_U (si_and si_U si_U)) (fun _ _ _ h => h) (wanted_yes rfl rfl (T.ev 3 rfl) rfl) rfl rfl rfl (fun _ _ _ _ _ => (rn_indexAddr (size := 18) 3 rfl (T.ev 1 rfl) (T.ev 0 rfl) ⟨_, Try.underlying36, by kernel_rfl⟩ rfl (by decide) rfl)) ?_; clear T ac; intro ac T
                      refine g_q (v := (.agg #[.int .i64 ju3.p0, .int .i64 ju3.p1, .int .i64 ju3.t0, .int .i64 ju3.t1, .int .i64 ju3.r0, .int .i64 ju3.r1, .int .i64 ju3.u0, .int .i64 ju3.u1, .int .i64 ju3.d0, .int .i64 ju3.d1, .int .i64 ju3.a0, .int .i64 ju3.a1, .int .i64 ju3.b0, .int .i64 ju3.b1, .int .i64 ju3.le, .slice Au3 ju3.sh.length cu3, .int .i64 ju3.wi, .int .i64 ju3.me])) (T := T.pick [0, 1, 2, 3, 4, 5, 6, 7, 8, 9, 10, 11, 12, 13, 14, 15, 16, 17, 18, 19, 20, 21, 22, 23, 24, 25, 26, 27, 28, 29, 30, 31, 32, 33, 34, 35, 36, 37, 38, 39, 40, 41, 42, 43, 44, 45, 46, 47, 48, 49, 50, 51, 52, 53, 54, 55, 56, 57, 58, 60, 61] rfl) (i := 43) rfl (by kernel_rfl) (by kernel_rfl : (pbits 47 8796093022207).setIfInBounds 43 true = pbits 47 17592186044415) (si_and si_U (si_and si_U si_U)) (fun _ _ _ h => h) (wanted_yes rfl rfl (T.ev 4 rfl) rfl) rfl rfl rfl (fun B w' hD hl hS => (rn_rowO (Mem.nth (show Mem w noEx w' _ from (MA.lft hS)) 5 rfl) rfl (T.ev 0 rfl) rfl)) ?_; clear T ac; intro ac T
                      refine g_w (i := 44) (by kernel_rfl) rfl (by kernel_rfl : (pbits 47 17592186044415).setIfInBounds 44 true = pbits 47 35184372088831) (wanted_yes rfl rfl (T.ev 5 rfl) rfl) ?_; intro K hK
                      replace T := T.pick [0, 1, 2, 3, 4, 5, 6, 7, 8, 9, 10, 11, 12, 13, 14, 15, 16, 17, 18, 19, 20, 21, 22, 23, 24, 25, 26, 27, 28, 29, 30, 31, 32, 33, 34, 35, 36, 37, 38, 39, 40, 41, 42, 43, 44, 45, 46, 47, 48, 49, 50, 51, 52, 53, 54, 55, 56, 57, 58, 59, 61] rfl
                      refine ow_call (first := []) (cap := []) T rfl rfl rfl rfl evf (.cons (T.ev 4 rfl) (.cons (T.ev 0 rfl) .nil)) Try.func22 rfl rfl ?_
                      refine Calls.mono (sameJobs_same ju3 _ _ _ _ _ (Su29.rd M (.cons _ (.cons _ (.cons _ (.cons _ (.cons _ (.cons _ (.cons _ (.cons _ (List.sublist_append_right _ _)))))))))) (Su3.rd M (.cons _ (.cons _ (.cons _ (.cons _ (.cons _ (.cons _ (.cons _ (.cons _ (List.Sublist.trans (List.Sublist.trans (List.Sublist.trans (List.Sublist.trans (List.Sublist.refl _) (List.sublist_append_left _ _)) (List.sublist_append_left _ _)) (List.sublist_append_left _ _)) (List.sublist_append_left _ _))))))))))) (by first | omega | (have := few_more hfewu3 y0 y1; omega))) ?_
                      clear T
                      rintro e wc ⟨rfl, hb⟩
                      intro ac T
                      replace M := M.call hb; clear hb
                      refine sh_out hK _ _ (MA.mk (M.mask [true, true, true, true, true, true, true, true] rfl) (MA.mk (M.mask [true, true, true, true, true, true, true, true] rfl) (M.mask [true, true, true, true, true, true, true, true] rfl))) ?_; clear hK K
                      refine g_q (v := (.bool false)) (T := T.pick [0, 1, 2, 3, 4, 5, 6, 7, 8, 9, 10, 11, 12, 13, 14, 15, 16, 17, 18, 19, 20, 21, 22, 23, 24, 25, 26, 27, 28, 29, 30, 31, 32, 33, 34, 35, 36, 37, 38, 39, 40, 41, 42, 43, 44, 45, 46, 47, 48, 49, 50, 51, 52, 53, 54, 55, 56, 57, 58, 59, 60] rfl) (i := 45) rfl (by kernel_rfl) (by kernel_rfl : (pbits 47 35184372088831).setIfInBounds 45 true = pbits 47 70368744177663) (si_and si_U (si_and si_U si_U)) (fun _ _ _ h => h) (wanted_yes rfl rfl (T.ev 6 rfl) rfl) rfl rfl rfl (fun _ _ _ _ _ => (rn_neqof (rn_not rfl (T.ev 0 rfl)) (by simp))) ?_; clear T ac; intro ac T
                      refine g_q (T := T) (i := 46) rfl (by kernel_rfl) (by kernel_rfl : (pbits 47 70368744177663).setIfInBounds 46 true = pbits 47 140737488355327) (si_and si_U (si_and si_U si_U)) (fun _ _ _ h => h) rfl rfl rfl rfl (fun _ _ _ _ _ => (rn_pick0 rfl (T.ev 7 rfl) rfl (T.ev 0 rfl))) ?_; clear T ac; intro ac T
                      refine g_done (by kernel_rfl) ?_
                      replace T := T.pick [0, 1, 2, 3, 4, 5, 6, 7, 10, 11, 12, 15, 16, 17, 20, 21, 22, 25, 26, 27, 30, 31, 32, 35, 36, 37, 47, 48, 49] rfl
                      replace M := M.mask [false, false, false, false, false, true, true, true] rfl
                      refine nm_then ?_
                      refine wp_cond_false (T.ev 0 rfl) ?_
                      refine wp_skip ?_
                      refine nm_blk ?_
                      refine nm_then ?_
                      refine wp_region_lit ?_
                      refine l_q T rfl rfl rfl rfl (rn_move rfl (T.ev 28 rfl)) ?_; clear T ac; intro ac T
                      refine l_q (v := (.int .i64 4)) T rfl rfl rfl rfl (rn_ofI (rn_add rfl (T.ev 0 rfl) evc (by omega)) (by rfl)) ?_; clear T ac; intro ac T
                      refine l_q (v := (.int .i64 4)) (T.pick [0, 1, 2, 3, 4, 5, 6, 7, 8, 9, 10, 11, 12, 13, 14, 15, 16, 17, 18, 19, 20, 21, 22, 23, 24, 25, 26, 27, 28, 29] rfl) rfl rfl rfl rfl (rn_assign rfl (T.ev 0 rfl)) ?_; clear T ac; intro ac T
                      refine wpList_nil ?_
                      replace T := T.pick [0, 4, 5, 6, 7, 8, 9, 10, 11, 12, 13, 14, 15, 16, 17, 18, 19, 20, 21, 22, 23, 24, 25, 26, 27, 28, 29, 30] rfl
                      refine nm_then ?_
                      refine rounds_S ?_
                      refine wp_seq ?_
                      refine wp_seq ?_
                      refine wp_region_lit ?_
                      refine l_q T rfl rfl rfl rfl (rn_move rfl (T.ev 0 rfl)) ?_; clear T ac; intro ac T
                      refine l_q T rfl rfl rfl rfl (rn_move rfl (T.ev 27 rfl)) ?_; clear T ac; intro ac T
                      refine l_q (v := (.int .i64 4)) T rfl rfl rfl rfl (rn_lenS rfl Try.underlying36 (T.ev 0 rfl)) ?_; clear T ac; intro ac T
                      refine l_q (v := (.bool false)) T rfl rfl rfl rfl (rn_neqof (rn_lss rfl (T.ev 2 rfl) (T.ev 0 rfl)) (by simp)) ?_; clear T ac; intro ac T
                      refine wpList_nil ?_
                      replace T := T.pick [0, 4, 5, 6, 7, 8, 9, 10, 11, 12, 13, 14, 15, 16, 17, 18, 19, 20, 21, 22, 23, 24, 25, 26, 27, 28, 29, 30, 31] rfl
                      refine nm_then ?_
                      refine wp_cond_false (T.ev 0 rfl) ?_
                      refine wp_exit ?_
                      refine ex_then ?_
                      refine ex_then ?_
                      refine ex_hit ?_
                      refine nm_then ?_
                      refine wp_seq ?_
                      refine wp_region_lit ?_
                      refine l_w rfl ?_; intro K hK
                      refine ow_call (first := []) (cap := []) T rfl rfl rfl rfl evf .nil Try.func15 rfl rfl ?_
                      refine Calls.mono (tuned_any _) ?_
                      clear T
                      rintro e wc ⟨rfl, hb⟩
                      intro ac T
                      replace M := M.call hb; clear hb
                      refine sh_out hK _ _ ?_; clear hK K
                      refine l_q T rfl rfl rfl rfl (rn_assign rfl (T.ev 0 rfl)) ?_; clear T ac; intro ac T
                      refine wpList_nil ?_
                      replace T := T.pick [0] rfl
                      replace M := M.mask [false, false, true] rfl
                      refine nm_then ?_
                      refine wp_ret ?_
                      refine rt_1 T rfl (T.ev 0 rfl) ?_
                      exact ⟨rfl, M.below⟩

end Go.Proofs.Ythlpceoajhcliaa
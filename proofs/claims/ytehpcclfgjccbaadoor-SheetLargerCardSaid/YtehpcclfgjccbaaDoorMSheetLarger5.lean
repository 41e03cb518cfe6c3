/-
  sheet's law: what is easier.
-/
import Derived.Test.YtehpcclfgjccbaaDoorMSheetLarger1
import Derived.Test.YtehpcclfgjccbaaDoorMSheetLarger2
import Derived.Test.YtehpcclfgjccbaaDoorMSheetLarger3
import Derived.Test.YtehpcclfgjccbaaDoorMSheetLarger4
namespace Go.Proofs.YtehpcclfgjccbaaDoor
set_option linter.unusedSimpArgs false
set_option linter.unusedVariables false
open Go.RowKit
set_option maxRecDepth 100000 in
set_option maxHeartbeats 4000000 in
theorem SheetLarger_any (D : Option Addr) (n d : Nat) (l : List Int) (w : World) (hl : Rd w w.heap.size 1 D n (ic l)) (hm : n ≤ 9223372036854775807) (hT : TabW w) :
   Calls Tryd.prog 6 #[.slice D n d] w fun e w' => e = .returned (.bool true) ∧ Below w.heap.size w w' := by
 have hll := hl.len1
 obtain ⟨bI, oI, SI⟩ := Sp.old hl
 refine px_enter noEx Tryd.func6 rfl 155 rfl [.slice D n d] rfl rfl (Mem.init w _) ?_
 intro ac wc T M
 refine wp_seq ?_
 refine wp_region_lit ?_
 refine lq T (rn_assign rfl evc) ?_; clear T ac; intro ac T
 refine wpList_nil ?_
 replace T := T.pick [1] rfl
 refine nm_then ?_
 refine wp_seq ?_
 refine wp_region_lit ?_
 refine lq T (rn_move rfl (T.ev 0 rfl)) ?_; clear T ac; intro ac T
 refine l_w rfl ?_; intro K hK
 refine ow_call (first := []) (cap := []) T rfl rfl rfl rfl evf (.cons (T.ev 0 rfl) .nil) Tryd.func18 rfl rfl ?_
 refine Calls.mono (newPot_any _ _ _ l _ (SI.rd M (List.nil_sublist _)) (by omega)) ?_
 clear T
 rintro e wc ⟨bpu1, su1, hsu1, rfl, N⟩
 intro ac T
 replace M := M.join N; clear N
 replace M := M.mask [true] rfl
 refine sh_out hK _ _ ?_; clear hK K
 refine lq T (rn_assign rfl (T.ev 0 rfl)) ?_; clear T ac; intro ac T
 refine wpList_nil ?_
 replace T := T.pick [0] rfl
 refine nm_then ?_
 refine wp_seq ?_
 refine wp_region_lit ?_
 refine lq T (rn_move rfl (T.ev 0 rfl)) ?_; clear T ac; intro ac T
 refine l_w rfl ?_; intro K hK
 refine ow_call (first := []) (cap := []) T rfl rfl rfl rfl evf (.cons (T.ev 0 rfl) (.cons evc (.cons evc .nil))) Tryd.func19 rfl rfl ?_
 refine Calls.mono (sheetOf_any _ bpu1 5 4 _ (by omega) (by omega) (M.nth 0 rfl) hsu1) ?_
 clear T
 rintro e wc ⟨s, AKu2, cKu2, sdu2, IKu2, rfl, hsgs, ⟨⟨hbls, hbws⟩, hbps⟩, hsu2, hcpKu2, SVKu2, N⟩
 intro ac T
 obtain ⟨bAKu2, oAKu2, SVKu2⟩ := SVKu2
 have SAKu2 := SVKu2 w noEx
 replace M := M.joinEI N .head
 clear N
 replace M : Mem w noEx wc ((bpu1, .cells [.int .u64 sdu2]) :: IKu2) := M
 have hlns := hsgs.len
 obtain ⟨hg1s, hg2s, hg3s, hg4s, -, -⟩ := id hsgs
 refine sh_out hK _ _ ?_; clear hK K
 refine l_w rfl ?_; intro K hK
 refine ow_al M T rfl rfl rfl rfl ?_; clear M T; intro g1 wc ac M T
 refine sh_out hK _ _ ?_; clear hK K
 refine l_w rfl ?_; intro K hK
 refine ow_stO M T rfl rfl (T.ev 0 rfl) (T.ev 1 rfl) rfl .head rfl (by simp) rfl (by kernel_rfl) ?_; clear M T; intro wc ac M T
 refine sh_out hK _ _ ?_; clear hK K
 refine wpList_nil ?_
 replace T := T.pick [0, 3] rfl
 refine nm_then ?_
 refine wp_seq ?_
 refine wp_region_lit ?_
 refine lq T (rn_rowO (Mem.nth M 0 rfl) rfl (T.ev 0 rfl) rfl) ?_; clear T ac; intro ac T
 refine l_w rfl ?_; intro K hK
 refine ow_call (first := []) (cap := []) T rfl rfl rfl rfl evf (.cons (T.ev 0 rfl) .nil) Tryd.func25 rfl rfl ?_
 refine Calls.mono (copySheet_any s AKu2 cKu2 _ (SAKu2.rd M (.cons _ (.cons _ (List.Sublist.refl _)))) (by first | omega | (dsimp only; omega))) ?_
 clear T
 rintro e wc ⟨ACu3, cCu3, ICu3, rfl, hclu3, N⟩
 intro ac T
 obtain ⟨LX, hLX⟩ : ∃ q : List Pt, q = s.ps := ⟨_, rfl⟩
 rw [← hLX] at hclu3
 replace M := (M.join N).swapI
 clear N
 replace M : Mem w noEx wc ((g1, .cells [.int .i64 s.lo, .int .i64 s.wi, .int .i64 s.a0, .int .i64 s.a1, .int .i64 s.c0, .int .i64 s.c1, .slice AKu2 s.ps.length cKu2]) :: (bpu1, .cells [.int .u64 sdu2]) :: (IKu2 ++ ICu3)) := M
 have hcpC := hclu3.capLe M (.cons _ (.cons _ (List.sublist_append_right _ _)))
 obtain ⟨bX, IX, hswX, M⟩ := hclu3.sw (L := ((g1, .cells [.int .i64 s.lo, .int .i64 s.wi, .int .i64 s.a0, .int .i64 s.a1, .int .i64 s.c0, .int .i64 s.c1, .slice AKu2 s.ps.length cKu2]) :: (bpu1, .cells [.int .u64 sdu2]) :: IKu2)) M
 replace M : Mem w noEx wc ((g1, .cells [.int .i64 s.lo, .int .i64 s.wi, .int .i64 s.a0, .int .i64 s.a1, .int .i64 s.c0, .int .i64 s.c1, .slice AKu2 s.ps.length cKu2]) :: (bpu1, .cells [.int .u64 sdu2]) :: (IKu2 ++ IX)) := M
 have SX := hswX.sp (w := w) (ex := noEx)
 have hLl9 : LX.length = s.ps.length := by rw [hLX]
 rw [← hLl9] at T
 refine sh_out hK _ _ ?_; clear hK K
 refine l_w rfl ?_; intro K hK
 refine ow_al M T rfl rfl rfl rfl ?_; clear M T; intro g2 wc ac M T
 refine sh_out hK _ _ ?_; clear hK K
 refine l_w rfl ?_; intro K hK
 refine ow_stO M T rfl rfl (T.ev 0 rfl) (T.ev 1 rfl) rfl .head rfl (by simp) rfl (by kernel_rfl) ?_; clear M T; intro wc ac M T
 refine sh_out hK _ _ ?_; clear hK K
 refine wpList_nil ?_
 replace T := T.pick [0, 3, 4] rfl
 refine nm_then ?_
 refine wp_seq ?_
 refine g_start2 M (M.mask [false, true, false] rfl) 14 (by kernel_rfl) rfl (by kernel_rfl) ?_
 clear M; intro wc M
 refine g_addG 3 M ?_
 refine g_addG 11 (M.mask [true, true, false] rfl) ?_
 refine gq (v := (.pointer (some ⟨g1, 0, none⟩))) T 0 1 rfl (fun _ _ _ _ _ => (rn_fieldAddr (off := 0) rfl (T.ev 1 rfl) (fun _ _ _ => by kernel_rfl))) ?_; clear T ac; intro ac T
 refine gq T 1 3 rfl (fun B w' hD hl hS => (rn_one (Mem.nth (show Mem w noEx w' _ from ((MA.lft hS) (hD.wait (i := 1) (m := 11) (by kernel_rfl) hl))) 1 rfl) rfl (T.ev 0 rfl) rfl)) ?_; clear T ac; intro ac T
 refine gq T 2 7 rfl (fun _ _ _ _ _ => (rn_move rfl (T.ev 4 rfl))) ?_; clear T ac; intro ac T
 refine gq (v := (.pointer (some ⟨g1, 1, none⟩))) T 5 39 rfl (fun _ _ _ _ _ => (rn_fieldAddr (off := 1) rfl (T.ev 4 rfl) (fun _ _ _ => by kernel_rfl))) ?_; clear T ac; intro ac T
 refine gq T 6 103 rfl (fun B w' hD hl hS => (rn_one (Mem.nth (show Mem w noEx w' _ from (MA.rgt (MA.rgt hS))) 0 rfl) rfl (T.ev 0 rfl) rfl)) ?_; clear T ac; intro ac T
 refine gq T 7 231 rfl (fun _ _ _ _ _ => (rn_move rfl (T.ev 7 rfl))) ?_; clear T ac; intro ac T
 refine gw 3 239 ?_; intro K hK
 refine ow_call (first := []) (cap := []) T rfl rfl rfl rfl evf (.cons (T.ev 3 rfl) (.cons evc .nil)) Tryd.func21 rfl rfl ?_
 refine Calls.mono (upto_any _ bpu1 1 _ (by omega) (by omega) (M.nth 2 rfl) hsu2) ?_
 clear T
 rintro e wc ⟨xu4, su4, hxu4, hsu4, rfl, hgr, hbk⟩
 intro ac T
 replace M := M.callC (cs' := [.int .u64 su4]) (.tail (.tail .head)) hgr hbk
 clear hgr hbk
 refine sh_out hK _ _ (MA.mk (fun _ => M.mask [true, true, false] rfl) (MA.mk (fun h => (no_of (by kernel_rfl) h).elim) (M.mask [false, true, false] rfl))) ?_; clear hK K
 refine gq T 4 255 rfl (fun _ _ _ _ _ => (rn_add rfl (T.ev 5 rfl) (T.ev 0 rfl) (by omega))) ?_; clear T ac; intro ac T
 refine gq (v := (.pointer (some ⟨g2, 0, none⟩))) T 10 1279 rfl (fun _ _ _ _ _ => (rn_fieldAddr (off := 0) rfl (T.ev 8 rfl) (fun _ _ _ => by kernel_rfl))) ?_; clear T ac; intro ac T
 refine gw 8 1535 ?_; intro K hK
 refine ow_call (first := []) (cap := []) T rfl rfl rfl rfl evf (.cons (T.ev 3 rfl) (.cons evc .nil)) Tryd.func21 rfl rfl ?_
 refine Calls.mono (upto_any _ bpu1 1 _ (by omega) (by omega) (M.nth 2 rfl) hsu4) ?_
 clear T
 rintro e wc ⟨xu5, su5, hxu5, hsu5, rfl, hgr, hbk⟩
 intro ac T
 replace M := M.callC (cs' := [.int .u64 su5]) (.tail (.tail .head)) hgr hbk
 clear hgr hbk
 refine sh_out hK _ _ (MA.mk (fun _ => M.mask [true, true, false] rfl) (MA.mk (fun h => (no_of (by kernel_rfl) h).elim) (M.mask [false, true, false] rfl))) ?_; clear hK K
 refine gq T 9 2047 rfl (fun _ _ _ _ _ => (rn_add rfl (T.ev 5 rfl) (T.ev 0 rfl) (by omega))) ?_; clear T ac; intro ac T
 refine gw 11 4095 ?_; intro K hK
 refine ow_stO M T rfl rfl (T.ev 2 rfl) (T.ev 3 rfl) rfl .head rfl (by simp) rfl (by kernel_rfl) ?_; clear M T; intro wc ac M T
 refine sh_out hK _ _ (MA.mk (fun h => (no_of (by kernel_rfl) h).elim) (MA.mk (fun h => (no_of (by kernel_rfl) h).elim) (M.mask [false, true, false] rfl))) ?_; clear hK K
 refine gq (v := (.pointer (some ⟨g2, 1, none⟩))) T 12 8191 rfl (fun _ _ _ _ _ => (rn_fieldAddr (off := 1) rfl (T.ev 11 rfl) (fun _ _ _ => by kernel_rfl))) ?_; clear T ac; intro ac T
 refine gw 13 16383 ?_; intro K hK
 refine ow_stO M T rfl rfl (T.ev 0 rfl) (T.ev 1 rfl) rfl .head rfl (by simp) rfl (by kernel_rfl) ?_; clear M T; intro wc ac M T
 refine sh_out hK _ _ (MA.mk (fun h => (no_of (by kernel_rfl) h).elim) (MA.mk (fun h => (no_of (by kernel_rfl) h).elim) (M.mask [false, true, false] rfl))) ?_; clear hK K
 refine g_done (by kernel_rfl) ?_
 replace T := T.pick [12, 13, 14] rfl
 refine nm_then ?_
 refine wp_seq ?_
 refine g_start2 M (M.mask [false, true, false] rfl) 25 (by kernel_rfl) rfl (by kernel_rfl) ?_
 clear M; intro wc M
 refine g_addG 4 M ?_
 refine g_addG 22 (M.mask [true, true, false] rfl) ?_
 refine gq T 0 1 rfl (fun _ _ _ _ _ => (rn_move rfl (T.ev 2 rfl))) ?_; clear T ac; intro ac T
 refine gq (v := (.pointer (some ⟨g1, 2, none⟩))) T 1 3 rfl (fun _ _ _ _ _ => (rn_fieldAddr (off := 2) rfl (T.ev 2 rfl) (fun _ _ _ => by kernel_rfl))) ?_; clear T ac; intro ac T
 refine gq (v := (.pointer (some ⟨g1, 2, none⟩))) T 2 7 rfl (fun _ _ _ _ _ => (rn_fieldAddr (off := 0) rfl (T.ev 0 rfl) (fun _ _ _ => by kernel_rfl))) ?_; clear T ac; intro ac T
 refine gq T 3 15 rfl (fun B w' hD hl hS => (rn_one (Mem.nth (show Mem w noEx w' _ from ((MA.lft hS) (hD.wait (i := 3) (m := 22) (by kernel_rfl) hl))) 1 rfl) rfl (T.ev 0 rfl) rfl)) ?_; clear T ac; intro ac T
 refine gq (v := (.pointer (some ⟨g1, 2, none⟩))) T 5 47 rfl (fun _ _ _ _ _ => (rn_fieldAddr (off := 2) rfl (T.ev 5 rfl) (fun _ _ _ => by kernel_rfl))) ?_; clear T ac; intro ac T
 refine gq (v := (.pointer (some ⟨g1, 3, none⟩))) T 6 111 rfl (fun _ _ _ _ _ => (rn_fieldAddr (off := 1) rfl (T.ev 0 rfl) (fun _ _ _ => by kernel_rfl))) ?_; clear T ac; intro ac T
 refine gq T 7 239 rfl (fun B w' hD hl hS => (rn_one (Mem.nth (show Mem w noEx w' _ from ((MA.lft hS) (hD.wait (i := 7) (m := 22) (by kernel_rfl) hl))) 1 rfl) rfl (T.ev 0 rfl) rfl)) ?_; clear T ac; intro ac T
 refine gq (v := (.pointer (some ⟨g1, 4, none⟩))) T 9 751 rfl (fun _ _ _ _ _ => (rn_fieldAddr (off := 4) rfl (T.ev 8 rfl) (fun _ _ _ => by kernel_rfl))) ?_; clear T ac; intro ac T
 refine gq (v := (.pointer (some ⟨g1, 4, none⟩))) T 10 1775 rfl (fun _ _ _ _ _ => (rn_fieldAddr (off := 0) rfl (T.ev 0 rfl) (fun _ _ _ => by kernel_rfl))) ?_; clear T ac; intro ac T
 refine gq T 11 3823 rfl (fun B w' hD hl hS => (rn_one (Mem.nth (show Mem w noEx w' _ from ((MA.lft hS) (hD.wait (i := 20) (m := 22) (by kernel_rfl) (hD.wait (i := 11) (m := 20) (by kernel_rfl) hl)))) 1 rfl) rfl (T.ev 0 rfl) rfl)) ?_; clear T ac; intro ac T
 refine gq T 12 7919 rfl (fun _ _ _ _ _ => (rn_move rfl (T.ev 12 rfl))) ?_; clear T ac; intro ac T
 refine gq (v := (.pointer (some ⟨g1, 4, none⟩))) T 13 16111 rfl (fun _ _ _ _ _ => (rn_fieldAddr (off := 4) rfl (T.ev 12 rfl) (fun _ _ _ => by kernel_rfl))) ?_; clear T ac; intro ac T
 refine gq (v := (.pointer (some ⟨g1, 4, none⟩))) T 14 32495 rfl (fun _ _ _ _ _ => (rn_fieldAddr (off := 0) rfl (T.ev 0 rfl) (fun _ _ _ => by kernel_rfl))) ?_; clear T ac; intro ac T
 refine gq T 15 65263 rfl (fun B w' hD hl hS => (rn_one (Mem.nth (show Mem w noEx w' _ from ((MA.lft hS) (hD.wait (i := 20) (m := 22) (by kernel_rfl) (hD.wait (i := 19) (m := 20) (by kernel_rfl) (hD.wait (i := 15) (m := 19) (by kernel_rfl) hl))))) 1 rfl) rfl (T.ev 0 rfl) rfl)) ?_; clear T ac; intro ac T
 refine gq (v := (.pointer (some ⟨g1, 4, none⟩))) T 16 130799 rfl (fun _ _ _ _ _ => (rn_fieldAddr (off := 4) rfl (T.ev 15 rfl) (fun _ _ _ => by kernel_rfl))) ?_; clear T ac; intro ac T
 refine gq (v := (.pointer (some ⟨g1, 5, none⟩))) T 17 261871 rfl (fun _ _ _ _ _ => (rn_fieldAddr (off := 1) rfl (T.ev 0 rfl) (fun _ _ _ => by kernel_rfl))) ?_; clear T ac; intro ac T
 refine gq T 18 524015 rfl (fun B w' hD hl hS => (rn_one (Mem.nth (show Mem w noEx w' _ from ((MA.lft hS) (hD.wait (i := 20) (m := 22) (by kernel_rfl) (hD.wait (i := 19) (m := 20) (by kernel_rfl) (hD.wait (i := 18) (m := 19) (by kernel_rfl) hl))))) 1 rfl) rfl (T.ev 0 rfl) rfl)) ?_; clear T ac; intro ac T
 refine gw 4 524031 ?_; intro K hK
 refine ow_call (first := []) (cap := []) T rfl rfl rfl rfl evf (.cons (T.ev 16 rfl) (.cons evc (.cons (T.ev 13 rfl) .nil))) Tryd.func39 rfl rfl ?_
 refine Calls.mono (within_pot _ bpu1 0 s.a0 _ (by omega) (by omega) (by omega) (M.nth 2 rfl) hsu5) ?_
 clear T
 rintro e wc ⟨xu6, su6, hxu6, hsu6, rfl, hgr, hbk⟩
 intro ac T
 replace M := M.callC (cs' := [.int .u64 su6]) (.tail (.tail .head)) hgr hbk
 clear hgr hbk
 refine sh_out hK _ _ (MA.mk (fun _ => M.mask [true, true, false] rfl) (MA.mk (fun h => (no_of (by kernel_rfl) h).elim) (M.mask [false, true, false] rfl))) ?_; clear hK K
 refine gw 8 524287 ?_; intro K hK
 refine ow_call (first := []) (cap := []) T rfl rfl rfl rfl evf (.cons (T.ev 0 rfl) (.cons (T.ev 11 rfl) .nil)) Tryd.func38 rfl rfl ?_
 refine Calls.mono (to8_any xu6 s.a1 _) ?_
 clear T
 rintro e wc ⟨rfl, hb⟩
 intro ac T
 replace M := M.call hb; clear hb
 refine sh_out hK _ _ (MA.mk (fun _ => M.mask [true, true, false] rfl) (MA.mk (fun h => (no_of (by kernel_rfl) h).elim) (M.mask [false, true, false] rfl))) ?_; clear hK K
 refine gq (v := (.pointer (some ⟨g2, 2, none⟩))) T 21 2621439 rfl (fun _ _ _ _ _ => (rn_fieldAddr (off := 2) rfl (T.ev 19 rfl) (fun _ _ _ => by kernel_rfl))) ?_; clear T ac; intro ac T
 refine gw 19 3145727 ?_; intro K hK
 refine ow_call (first := []) (cap := []) T rfl rfl rfl rfl evf (.cons (T.ev 9 rfl) (.cons (T.ev 6 rfl) (.cons (T.ev 3 rfl) .nil))) Tryd.func39 rfl rfl ?_
 refine Calls.mono (within_pot _ bpu1 s.c0 s.c1 _ (by omega) (by omega) (by omega) (M.nth 2 rfl) hsu6) ?_
 clear T
 rintro e wc ⟨xu8, su8, hxu8, hsu8, rfl, hgr, hbk⟩
 intro ac T
 replace M := M.callC (cs' := [.int .u64 su8]) (.tail (.tail .head)) hgr hbk
 clear hgr hbk
 refine sh_out hK _ _ (MA.mk (fun _ => M.mask [true, true, false] rfl) (MA.mk (fun h => (no_of (by kernel_rfl) h).elim) (M.mask [false, true, false] rfl))) ?_; clear hK K
 refine gw 20 4194303 ?_; intro K hK
 refine ow_call (first := []) (cap := []) T rfl rfl rfl rfl evf (.cons (T.ev 11 rfl) (.cons (T.ev 0 rfl) .nil)) Tryd.func38 rfl rfl ?_
 refine Calls.mono (to8_any s.c0 xu8 _) ?_
 clear T
 rintro e wc ⟨rfl, hb⟩
 intro ac T
 replace M := M.call hb; clear hb
 refine sh_out hK _ _ (MA.mk (fun _ => M.mask [true, true, false] rfl) (MA.mk (fun h => (no_of (by kernel_rfl) h).elim) (M.mask [false, true, false] rfl))) ?_; clear hK K
 refine gw 22 8388607 ?_; intro K hK
 refine ow_stO M T rfl rfl (T.ev 2 rfl) (T.ev 3 rfl) rfl .head rfl (by simp) rfl (by kernel_rfl) ?_; clear M T; intro wc ac M T
 refine sh_out hK _ _ (MA.mk (fun h => (no_of (by kernel_rfl) h).elim) (MA.mk (fun h => (no_of (by kernel_rfl) h).elim) (M.mask [false, true, false] rfl))) ?_; clear hK K
 refine gq (v := (.pointer (some ⟨g2, 4, none⟩))) T 23 16777215 rfl (fun _ _ _ _ _ => (rn_fieldAddr (off := 4) rfl (T.ev 22 rfl) (fun _ _ _ => by kernel_rfl))) ?_; clear T ac; intro ac T
 refine gw 24 33554431 ?_; intro K hK
 refine ow_stO M T rfl rfl (T.ev 0 rfl) (T.ev 1 rfl) rfl .head rfl (by simp) rfl (by kernel_rfl) ?_; clear M T; intro wc ac M T
 refine sh_out hK _ _ (MA.mk (fun h => (no_of (by kernel_rfl) h).elim) (MA.mk (fun h => (no_of (by kernel_rfl) h).elim) (M.mask [false, true, false] rfl))) ?_; clear hK K
 refine g_done (by kernel_rfl) ?_
 replace T := T.pick [23, 24, 25] rfl
 refine nm_then ?_
 refine wp_seq ?_
 refine wp_seq ?_
 refine wp_region_lit ?_
 refine lq T (rn_assign rfl evc) ?_; clear T ac; intro ac T
 refine wpList_nil ?_
 refine nm_then ?_
 refine wp_block ?_
 refine wp_loop_n (fun mz ac wc => ∃ (i : Nat) (L : List Pt) (s9 : Int) (Iw : List (Nat × BA)), mz = s.ps.length - i ∧ (i ≤ s.ps.length) ∧ (easierL s.ps L) ∧ (L.length = s.ps.length) ∧ (u64ok s9) ∧ (Sw 4 ACu3 L.length bX (pc L) Iw) ∧ Tm ac 155 [(3, .pointer (some ⟨bpu1, 0, none⟩)), (4, .pointer (some ⟨g1, 0, none⟩)), (5, .pointer (some ⟨g2, 0, none⟩)), (6, .int .i64 (i : Int))] ∧ Mem w noEx wc ((g2, .cells [.int .i64 (s.lo + xu4), .int .i64 (s.wi + xu5), .int .i64 xu6, .int .i64 s.a1, .int .i64 s.c0, .int .i64 xu8, .slice ACu3 L.length cCu3]) :: (g1, .cells [.int .i64 s.lo, .int .i64 s.wi, .int .i64 s.a0, .int .i64 s.a1, .int .i64 s.c0, .int .i64 s.c1, .slice AKu2 s.ps.length cKu2]) :: (bpu1, .cells [.int .u64 s9]) :: (IKu2 ++ Iw))) ?_ ?_
 ·exact ⟨_, 0, LX, _, IX, rfl, (Nat.zero_le _), (by rw [hLX]; exact easierL.refl _), (by rw [hLX]), hsu8, hswX, T.pick [3, 2, 1, 0] rfl, M.mask [true, true, true] rfl⟩
 clear T M
 rintro mz ac wc ⟨i, L, s9, Iw, hmm1, hi, he, hLl, hs, hsw, T, M⟩
 refine wp_seq ?_
 refine wp_seq ?_
 refine wp_region_lit ?_
 refine lq T (rn_move rfl (T.ev 3 rfl)) ?_; clear T ac; intro ac T
 refine lq (v := (.pointer (some ⟨g2, 6, none⟩))) T (rn_fieldAddr (off := 6) rfl (T.ev 3 rfl) (fun _ _ _ => by kernel_rfl)) ?_; clear T ac; intro ac T
 refine lq T (rn_one (Mem.nth M 0 rfl) rfl (T.ev 0 rfl) rfl) ?_; clear T ac; intro ac T
 refine lq T (rn_lenS rfl Tryd.underlying24 (T.ev 0 rfl)) ?_; clear T ac; intro ac T
 refine lq T (rn_lss rfl (T.ev 3 rfl) (T.ev 0 rfl)) ?_; clear T ac; intro ac T
 refine wpList_nil ?_
 replace T := T.pick [0, 5, 6, 7, 8] rfl
 refine nm_then ?_
 refine wp_if (T.ev 0 rfl) ?_ ?_
 ·intro h1
  have SL9 := hsw.sp (w := w) (ex := noEx)
  obtain ⟨q, hkq, -⟩ := pc_next (l := L) (k := i) (by omega)
  refine wp_skip ?_
  refine nm_then ?_
  refine wp_seq ?_
  refine wp_block ?_
  refine wp_seq ?_
  refine wp_seq ?_
  refine wp_region_lit ?_
  refine lq T (rn_move rfl (T.ev 1 rfl)) ?_; clear T ac; intro ac T
  refine l_w rfl ?_; intro K hK
  refine ow_call (first := []) (cap := []) T rfl rfl rfl rfl evf (.cons (T.ev 0 rfl) (.cons evc (.cons evc .nil))) Tryd.func23 rfl rfl ?_
  refine Calls.mono (odds_any _ bpu1 1 2 _ (by omega) (by omega) (M.nth 2 rfl) hs) ?_
  clear T
  rintro e wc ⟨bu10, su10, hsu10, rfl, hgr, hbk⟩
  intro ac T
  replace M := M.callC (cs' := [.int .u64 su10]) (.tail (.tail .head)) hgr hbk
  clear hgr hbk
  refine sh_out hK _ _ ?_; clear hK K
  refine wpList_nil ?_
  replace T := T.pick [0, 3, 4, 5, 6] rfl
  refine nm_then ?_
  refine wp_cond_split (T.ev 0 rfl) ?_ ?_
  ·intro h2
   refine wp_region_lit ?_
   refine lq (v := (.pointer (some ⟨g2, 6, none⟩))) T (rn_fieldAddr (off := 6) rfl (T.ev 3 rfl) (fun _ _ _ => by kernel_rfl)) ?_; clear T ac; intro ac T
   refine lq T (rn_one (Mem.nth M 0 rfl) rfl (T.ev 0 rfl) rfl) ?_; clear T ac; intro ac T
   refine lq T (rn_move rfl (T.ev 6 rfl)) ?_; clear T ac; intro ac T
   refine lq T (rn_indexAddr (size := 4) i rfl (T.ev 1 rfl) (T.ev 0 rfl) ⟨_, Tryd.underlying24, by kernel_rfl⟩ rfl (by omega) (SL9.at0 (by omega))) ?_; clear T ac; intro ac T
   refine lq T (rn_fieldAddr (off := 2) rfl (T.ev 0 rfl) (fun _ _ _ => by kernel_rfl)) ?_; clear T ac; intro ac T
   refine l_w rfl ?_; intro K hK
   refine ow_stTK pcE 4 (fun _ => rfl) 2 (p' := ({ q with gr := false } : Pt)) (((g2, .cells [.int .i64 (s.lo + xu4), .int .i64 (s.wi + xu5), .int .i64 xu6, .int .i64 s.a1, .int .i64 s.c0, .int .i64 xu8, .slice ACu3 L.length cCu3]) :: (g1, .cells [.int .i64 s.lo, .int .i64 s.wi, .int .i64 s.a0, .int .i64 s.a1, .int .i64 s.c0, .int .i64 s.c1, .slice AKu2 s.ps.length cKu2]) :: (bpu1, .cells [.int .u64 su10]) :: IKu2)) M (by first | rfl | simp) hsw T rfl rfl (T.ev 0 rfl) evc rfl hkq (by omega) rfl (Nat.le_of_ble_eq_true rfl) rfl rfl ?_; clear M T; intro Jw1 wc ac hsw1 M T
   replace M : Mem w noEx wc ((g2, .cells [.int .i64 (s.lo + xu4), .int .i64 (s.wi + xu5), .int .i64 xu6, .int .i64 s.a1, .int .i64 s.c0, .int .i64 xu8, .slice ACu3 L.length cCu3]) :: (g1, .cells [.int .i64 s.lo, .int .i64 s.wi, .int .i64 s.a0, .int .i64 s.a1, .int .i64 s.c0, .int .i64 s.c1, .slice AKu2 s.ps.length cKu2]) :: (bpu1, .cells [.int .u64 su10]) :: (IKu2 ++ Jw1)) := M
   obtain ⟨lo1, hlo1⟩ : ∃ qq9 : List Pt, qq9 = L.set i ({ q with gr := false }) := ⟨_, rfl⟩
   replace hsw1 : Sw 4 ACu3 L.length bX (pc lo1) Jw1 := by rw [hlo1]; exact hsw1
   have lhlo1 : lo1.length = L.length := by rw [hlo1, List.length_set]
   have Ss1 := hsw1.sp (w := w) (ex := noEx)
   have hello1 : lo1[i]? = some ({ q with gr := false } : Pt) := by rw [hlo1]; exact List.getElem?_set_self (by omega)
   refine sh_out hK _ _ ?_; clear hK K
   refine wpList_nil ?_
   replace T := T.pick [6, 7, 8, 9] rfl
   refine nm_then ?_
   refine wp_seq ?_
   refine wp_region_lit ?_
   refine lq T (rn_move rfl (T.ev 0 rfl)) ?_; clear T ac; intro ac T
   refine l_w rfl ?_; intro K hK
   refine ow_call (first := []) (cap := []) T rfl rfl rfl rfl evf (.cons (T.ev 0 rfl) (.cons evc (.cons evc .nil))) Tryd.func23 rfl rfl ?_
   refine Calls.mono (odds_any _ bpu1 1 2 _ (by omega) (by omega) (M.nth 2 rfl) hsu10) ?_
   clear T
   rintro e wc ⟨bu11, su11, hsu11, rfl, hgr, hbk⟩
   intro ac T
   replace M := M.callC (cs' := [.int .u64 su11]) (.tail (.tail .head)) hgr hbk
   clear hgr hbk
   refine sh_out hK _ _ ?_; clear hK K
   refine wpList_nil ?_
   replace T := T.pick [0, 2, 3, 4, 5] rfl
   refine nm_then ?_
   refine wp_cond_split (T.ev 0 rfl) ?_ ?_
   ·intro h3
    refine wp_region_lit ?_
    refine lq (v := (.pointer (some ⟨g2, 6, none⟩))) T (rn_fieldAddr (off := 6) rfl (T.ev 3 rfl) (fun _ _ _ => by kernel_rfl)) ?_; clear T ac; intro ac T
    refine lq T (rn_one (Mem.nth M 0 rfl) rfl (T.ev 0 rfl) rfl) ?_; clear T ac; intro ac T
    refine lq T (rn_move rfl (T.ev 6 rfl)) ?_; clear T ac; intro ac T
    refine lq T (rn_indexAddr (size := 4) i rfl (T.ev 1 rfl) (T.ev 0 rfl) ⟨_, Tryd.underlying24, by kernel_rfl⟩ rfl (by omega) (Ss1.at0 (by omega))) ?_; clear T ac; intro ac T
    refine lq T (rn_fieldAddr (off := 3) rfl (T.ev 0 rfl) (fun _ _ _ => by kernel_rfl)) ?_; clear T ac; intro ac T
    refine l_w rfl ?_; intro K hK
    refine ow_stTK pcE 4 (fun _ => rfl) 3 (p' := ({ ({ q with gr := false } : Pt) with pa := 0 } : Pt)) (((g2, .cells [.int .i64 (s.lo + xu4), .int .i64 (s.wi + xu5), .int .i64 xu6, .int .i64 s.a1, .int .i64 s.c0, .int .i64 xu8, .slice ACu3 L.length cCu3]) :: (g1, .cells [.int .i64 s.lo, .int .i64 s.wi, .int .i64 s.a0, .int .i64 s.a1, .int .i64 s.c0, .int .i64 s.c1, .slice AKu2 s.ps.length cKu2]) :: (bpu1, .cells [.int .u64 su11]) :: IKu2)) M (by first | rfl | simp) hsw1 T rfl rfl (T.ev 0 rfl) evc rfl hello1 (by omega) rfl (Nat.le_of_ble_eq_true rfl) rfl rfl ?_; clear M T; intro Jw2 wc ac hsw2 M T
    replace M : Mem w noEx wc ((g2, .cells [.int .i64 (s.lo + xu4), .int .i64 (s.wi + xu5), .int .i64 xu6, .int .i64 s.a1, .int .i64 s.c0, .int .i64 xu8, .slice ACu3 L.length cCu3]) :: (g1, .cells [.int .i64 s.lo, .int .i64 s.wi, .int .i64 s.a0, .int .i64 s.a1, .int .i64 s.c0, .int .i64 s.c1, .slice AKu2 s.ps.length cKu2]) :: (bpu1, .cells [.int .u64 su11]) :: (IKu2 ++ Jw2)) := M
    obtain ⟨lo2, hlo2⟩ : ∃ qq9 : List Pt, qq9 = lo1.set i ({ ({ q with gr := false } : Pt) with pa := 0 }) := ⟨_, rfl⟩
    replace hsw2 : Sw 4 ACu3 L.length bX (pc lo2) Jw2 := by rw [hlo2]; exact hsw2
    have lhlo2 : lo2.length = lo1.length := by rw [hlo2, List.length_set]
    have Ss2 := hsw2.sp (w := w) (ex := noEx)
    have hello2 : lo2[i]? = some ({ ({ q with gr := false } : Pt) with pa := 0 } : Pt) := by rw [hlo2]; exact List.getElem?_set_self (by omega)
    refine sh_out hK _ _ ?_; clear hK K
    refine wpList_nil ?_
    replace T := T.pick [6, 7, 8, 9] rfl
    refine nm_blk ?_
    refine nm_then ?_
    refine wp_region_lit ?_
    refine lq T (rn_move rfl (T.ev 3 rfl)) ?_; clear T ac; intro ac T
    refine lq T (rn_add rfl (T.ev 0 rfl) evc (by omega)) ?_; clear T ac; intro ac T
    refine l_q (v := (.int .i64 ((i : Int) + 1))) (T.pick [0, 1, 2, 3, 4] rfl) rfl rfl rfl rfl (rn_assign rfl (T.ev 0 rfl)) ?_; clear T ac; intro ac T
    refine wpList_nil ?_
    replace T := T.pick [0, 3, 4, 5] rfl
    refine nm_then ?_
    have e9 : L.length = lo2.length := by omega
    rw [e9] at M
    rw [e9] at hsw2
    clear e9
    exact ⟨_, by omega, i + 1, lo2, _, Jw2, rfl, (by omega), (by rw [hlo2]; exact easierL.set (by rw [hlo1]; exact easierL.set he hkq (fun p h => ⟨h.1, h.2.1, .inr rfl, h.2.2.2⟩)) hello1 (fun p h => ⟨h.1, h.2.1, h.2.2.1, .inr rfl⟩)), (by omega), hsu11, hsw2, T.pick [1, 2, 3, 0] rfl, (M.permT [0, 1, 2] 3 rfl rfl rfl rfl)⟩
   intro h3
   refine wp_skip ?_
   refine nm_blk ?_
   refine nm_then ?_
   refine wp_region_lit ?_
   refine lq T (rn_move rfl (T.ev 4 rfl)) ?_; clear T ac; intro ac T
   refine lq T (rn_add rfl (T.ev 0 rfl) evc (by omega)) ?_; clear T ac; intro ac T
   refine l_q (v := (.int .i64 ((i : Int) + 1))) (T.pick [0, 1, 2, 3, 4, 5] rfl) rfl rfl rfl rfl (rn_assign rfl (T.ev 0 rfl)) ?_; clear T ac; intro ac T
   refine wpList_nil ?_
   replace T := T.pick [0, 4, 5, 6] rfl
   refine nm_then ?_
   have e9 : L.length = lo1.length := by omega
   rw [e9] at M
   rw [e9] at hsw1
   clear e9
   exact ⟨_, by omega, i + 1, lo1, _, Jw1, rfl, (by omega), (by rw [hlo1]; exact easierL.set he hkq (fun p h => ⟨h.1, h.2.1, .inr rfl, h.2.2.2⟩)), (by omega), hsu11, hsw1, T.pick [1, 2, 3, 0] rfl, (M.permT [0, 1, 2] 3 rfl rfl rfl rfl)⟩
  intro h2
  refine wp_skip ?_
  refine nm_then ?_
  refine wp_seq ?_
  refine wp_region_lit ?_
  refine lq T (rn_move rfl (T.ev 1 rfl)) ?_; clear T ac; intro ac T
  refine l_w rfl ?_; intro K hK
  refine ow_call (first := []) (cap := []) T rfl rfl rfl rfl evf (.cons (T.ev 0 rfl) (.cons evc (.cons evc .nil))) Tryd.func23 rfl rfl ?_
  refine Calls.mono (odds_any _ bpu1 1 2 _ (by omega) (by omega) (M.nth 2 rfl) hsu10) ?_
  clear T
  rintro e wc ⟨bu12, su12, hsu12, rfl, hgr, hbk⟩
  intro ac T
  replace M := M.callC (cs' := [.int .u64 su12]) (.tail (.tail .head)) hgr hbk
  clear hgr hbk
  refine sh_out hK _ _ ?_; clear hK K
  refine wpList_nil ?_
  replace T := T.pick [0, 3, 4, 5, 6] rfl
  refine nm_then ?_
  refine wp_cond_split (T.ev 0 rfl) ?_ ?_
  ·intro h4
   refine wp_region_lit ?_
   refine lq (v := (.pointer (some ⟨g2, 6, none⟩))) T (rn_fieldAddr (off := 6) rfl (T.ev 3 rfl) (fun _ _ _ => by kernel_rfl)) ?_; clear T ac; intro ac T
   refine lq T (rn_one (Mem.nth M 0 rfl) rfl (T.ev 0 rfl) rfl) ?_; clear T ac; intro ac T
   refine lq T (rn_move rfl (T.ev 6 rfl)) ?_; clear T ac; intro ac T
   refine lq T (rn_indexAddr (size := 4) i rfl (T.ev 1 rfl) (T.ev 0 rfl) ⟨_, Tryd.underlying24, by kernel_rfl⟩ rfl (by omega) (SL9.at0 (by omega))) ?_; clear T ac; intro ac T
   refine lq T (rn_fieldAddr (off := 3) rfl (T.ev 0 rfl) (fun _ _ _ => by kernel_rfl)) ?_; clear T ac; intro ac T
   refine l_w rfl ?_; intro K hK
   refine ow_stTK pcE 4 (fun _ => rfl) 3 (p' := ({ q with pa := 0 } : Pt)) (((g2, .cells [.int .i64 (s.lo + xu4), .int .i64 (s.wi + xu5), .int .i64 xu6, .int .i64 s.a1, .int .i64 s.c0, .int .i64 xu8, .slice ACu3 L.length cCu3]) :: (g1, .cells [.int .i64 s.lo, .int .i64 s.wi, .int .i64 s.a0, .int .i64 s.a1, .int .i64 s.c0, .int .i64 s.c1, .slice AKu2 s.ps.length cKu2]) :: (bpu1, .cells [.int .u64 su12]) :: IKu2)) M (by first | rfl | simp) hsw T rfl rfl (T.ev 0 rfl) evc rfl hkq (by omega) rfl (Nat.le_of_ble_eq_true rfl) rfl rfl ?_; clear M T; intro Jw3 wc ac hsw3 M T
   replace M : Mem w noEx wc ((g2, .cells [.int .i64 (s.lo + xu4), .int .i64 (s.wi + xu5), .int .i64 xu6, .int .i64 s.a1, .int .i64 s.c0, .int .i64 xu8, .slice ACu3 L.length cCu3]) :: (g1, .cells [.int .i64 s.lo, .int .i64 s.wi, .int .i64 s.a0, .int .i64 s.a1, .int .i64 s.c0, .int .i64 s.c1, .slice AKu2 s.ps.length cKu2]) :: (bpu1, .cells [.int .u64 su12]) :: (IKu2 ++ Jw3)) := M
   obtain ⟨lo3, hlo3⟩ : ∃ qq9 : List Pt, qq9 = L.set i ({ q with pa := 0 }) := ⟨_, rfl⟩
   replace hsw3 : Sw 4 ACu3 L.length bX (pc lo3) Jw3 := by rw [hlo3]; exact hsw3
   have lhlo3 : lo3.length = L.length := by rw [hlo3, List.length_set]
   have Ss3 := hsw3.sp (w := w) (ex := noEx)
   have hello3 : lo3[i]? = some ({ q with pa := 0 } : Pt) := by rw [hlo3]; exact List.getElem?_set_self (by omega)
   refine sh_out hK _ _ ?_; clear hK K
   refine wpList_nil ?_
   replace T := T.pick [6, 7, 8, 9] rfl
   refine nm_blk ?_
   refine nm_then ?_
   refine wp_region_lit ?_
   refine lq T (rn_move rfl (T.ev 3 rfl)) ?_; clear T ac; intro ac T
   refine lq T (rn_add rfl (T.ev 0 rfl) evc (by omega)) ?_; clear T ac; intro ac T
   refine l_q (v := (.int .i64 ((i : Int) + 1))) (T.pick [0, 1, 2, 3, 4] rfl) rfl rfl rfl rfl (rn_assign rfl (T.ev 0 rfl)) ?_; clear T ac; intro ac T
   refine wpList_nil ?_
   replace T := T.pick [0, 3, 4, 5] rfl
   refine nm_then ?_
   have e9 : L.length = lo3.length := by omega
   rw [e9] at M
   rw [e9] at hsw3
   clear e9
   exact ⟨_, by omega, i + 1, lo3, _, Jw3, rfl, (by omega), (by rw [hlo3]; exact easierL.set he hkq (fun p h => ⟨h.1, h.2.1, h.2.2.1, .inr rfl⟩)), (by omega), hsu12, hsw3, T.pick [1, 2, 3, 0] rfl, (M.permT [0, 1, 2] 3 rfl rfl rfl rfl)⟩
  intro h4
  refine wp_skip ?_
  refine nm_blk ?_
  refine nm_then ?_
  refine wp_region_lit ?_
  refine lq T (rn_move rfl (T.ev 4 rfl)) ?_; clear T ac; intro ac T
  refine lq T (rn_add rfl (T.ev 0 rfl) evc (by omega)) ?_; clear T ac; intro ac T
  refine l_q (v := (.int .i64 ((i : Int) + 1))) (T.pick [0, 1, 2, 3, 4, 5] rfl) rfl rfl rfl rfl (rn_assign rfl (T.ev 0 rfl)) ?_; clear T ac; intro ac T
  refine wpList_nil ?_
  replace T := T.pick [0, 4, 5, 6] rfl
  refine nm_then ?_
  exact ⟨_, by omega, i + 1, L, _, Iw, rfl, (by omega), he, (by omega), hsu12, hsw, T.pick [1, 2, 3, 0] rfl, (M.permT [0, 1, 2] 3 rfl rfl rfl rfl)⟩
 intro h1
 have SL9 := hsw.sp (w := w) (ex := noEx)
 have hgx : ({ s with lo := (s.lo + xu4), wi := (s.wi + xu5), a0 := xu6, c1 := xu8, ps := L } : Sk).good := ⟨by dsimp only; omega, by dsimp only; omega, by dsimp only; omega, by dsimp only; omega, by dsimp only; omega, he.good hsgs.ps⟩
 refine wp_exit ?_
 refine ex_then ?_
 refine ex_then ?_
 refine ex_hit ?_
 refine nm_then ?_
 refine wp_seq ?_
 refine wp_region_lit ?_
 refine lq T (rn_rowO (Mem.nth M 1 rfl) rfl (T.ev 2 rfl) rfl) ?_; clear T ac; intro ac T
 refine l_w rfl ?_; intro K hK
 refine ow_call (first := []) (cap := []) T rfl rfl rfl rfl evf (.cons (T.ev 0 rfl) (.cons evc .nil)) Tryd.func34 rfl rfl ?_
 refine Calls.mono (Sheets_any s AKu2 cKu2 true _ (SAKu2.rd M (.cons _ (.cons _ (.cons _ (subL (List.Sublist.refl _)))))) (by first | omega | (dsimp only; omega)) (by first | omega | (dsimp only; omega)) (hT.mem M (fun h => h))) ?_
 clear T
 rintro e wc ⟨ASu13, cSu13, ISu13, rfl, hcpSu13, SVSu13, N⟩
 intro ac T
 obtain ⟨bASu13, oASu13, SVSu13⟩ := SVSu13
 have SASu13 := SVSu13 w noEx
 replace M := (M.join N).swapI
 clear N
 replace M : Mem w noEx wc ((g2, .cells [.int .i64 (s.lo + xu4), .int .i64 (s.wi + xu5), .int .i64 xu6, .int .i64 s.a1, .int .i64 s.c0, .int .i64 xu8, .slice ACu3 L.length cCu3]) :: (g1, .cells [.int .i64 s.lo, .int .i64 s.wi, .int .i64 s.a0, .int .i64 s.a1, .int .i64 s.c0, .int .i64 s.c1, .slice AKu2 s.ps.length cKu2]) :: (bpu1, .cells [.int .u64 s9]) :: (IKu2 ++ Iw ++ ISu13)) := M
 refine sh_out hK _ _ ?_; clear hK K
 refine lq T (rn_move rfl (T.ev 0 rfl)) ?_; clear T ac; intro ac T
 refine lq T (rn_extract rfl (T.ev 0 rfl) rfl) ?_; clear T ac; intro ac T
 refine lq T (rn_extract rfl (T.ev 1 rfl) rfl) ?_; clear T ac; intro ac T
 refine lq T (rn_extract rfl (T.ev 2 rfl) rfl) ?_; clear T ac; intro ac T
 refine lq T (rn_assign rfl (T.ev 2 rfl)) ?_; clear T ac; intro ac T
 refine lq T (rn_assign rfl (T.ev 2 rfl)) ?_; clear T ac; intro ac T
 refine lq T (rn_assign rfl (T.ev 2 rfl)) ?_; clear T ac; intro ac T
 refine wpList_nil ?_
 replace T := T.pick [0, 1, 11, 12] rfl
 replace M := M.mask [true, true, false] rfl
 replace M : Mem w noEx wc ((g2, .cells [.int .i64 (s.lo + xu4), .int .i64 (s.wi + xu5), .int .i64 xu6, .int .i64 s.a1, .int .i64 s.c0, .int .i64 xu8, .slice ACu3 L.length cCu3]) :: (g1, .cells [.int .i64 s.lo, .int .i64 s.wi, .int .i64 s.a0, .int .i64 s.a1, .int .i64 s.c0, .int .i64 s.c1, .slice AKu2 s.ps.length cKu2]) :: (IKu2 ++ Iw ++ ISu13)) := M
 refine nm_then ?_
 refine wp_seq ?_
 refine wp_region_lit ?_
 refine lq T (rn_rowO (Mem.nth M 1 rfl) rfl (T.ev 2 rfl) rfl) ?_; clear T ac; intro ac T
 refine l_w rfl ?_; intro K hK
 refine ow_call (first := []) (cap := []) T rfl rfl rfl rfl evf (.cons (T.ev 0 rfl) (.cons evc .nil)) Tryd.func34 rfl rfl ?_
 refine Calls.mono (Sheets_any s AKu2 cKu2 false _ (SAKu2.rd M (.cons _ (.cons _ (subL (subL (List.Sublist.refl _)))))) (by first | omega | (dsimp only; omega)) (by first | omega | (dsimp only; omega)) (hT.mem M (fun h => h))) ?_
 clear T
 rintro e wc ⟨ASu14, cSu14, ISu14, rfl, hcpSu14, SVSu14, N⟩
 intro ac T
 obtain ⟨bASu14, oASu14, SVSu14⟩ := SVSu14
 have SASu14 := SVSu14 w noEx
 replace M := (M.join N).swapI
 clear N
 replace M : Mem w noEx wc ((g2, .cells [.int .i64 (s.lo + xu4), .int .i64 (s.wi + xu5), .int .i64 xu6, .int .i64 s.a1, .int .i64 s.c0, .int .i64 xu8, .slice ACu3 L.length cCu3]) :: (g1, .cells [.int .i64 s.lo, .int .i64 s.wi, .int .i64 s.a0, .int .i64 s.a1, .int .i64 s.c0, .int .i64 s.c1, .slice AKu2 s.ps.length cKu2]) :: (IKu2 ++ Iw ++ ISu13 ++ ISu14)) := M
 refine sh_out hK _ _ ?_; clear hK K
 refine lq T (rn_move rfl (T.ev 0 rfl)) ?_; clear T ac; intro ac T
 refine lq T (rn_extract rfl (T.ev 0 rfl) rfl) ?_; clear T ac; intro ac T
 refine lq T (rn_extract rfl (T.ev 1 rfl) rfl) ?_; clear T ac; intro ac T
 refine lq T (rn_extract rfl (T.ev 2 rfl) rfl) ?_; clear T ac; intro ac T
 refine lq T (rn_assign rfl (T.ev 2 rfl)) ?_; clear T ac; intro ac T
 refine lq T (rn_assign rfl (T.ev 2 rfl)) ?_; clear T ac; intro ac T
 refine lq T (rn_assign rfl (T.ev 2 rfl)) ?_; clear T ac; intro ac T
 refine wpList_nil ?_
 replace T := T.pick [0, 1, 9, 10, 12] rfl
 replace M := M.mask [true, false] rfl
 replace M : Mem w noEx wc ((g2, .cells [.int .i64 (s.lo + xu4), .int .i64 (s.wi + xu5), .int .i64 xu6, .int .i64 s.a1, .int .i64 s.c0, .int .i64 xu8, .slice ACu3 L.length cCu3]) :: (IKu2 ++ Iw ++ ISu13 ++ ISu14)) := M
 refine nm_then ?_
 refine wp_seq ?_
 refine wp_region_lit ?_
 refine lq T (rn_rowO (Mem.nth M 0 rfl) rfl (T.ev 4 rfl) rfl) ?_; clear T ac; intro ac T
 refine l_w rfl ?_; intro K hK
 have hlX : L.length ≤ 5 := by omega
 have hcX : L.length ≤ cCu3 := by omega
 refine ow_call (first := []) (cap := []) T rfl rfl rfl rfl evf (.cons (T.ev 0 rfl) (.cons evc .nil)) Tryd.func34 rfl rfl ?_
 refine Calls.mono (Sheets_any ({ s with lo := (s.lo + xu4), wi := (s.wi + xu5), a0 := xu6, c1 := xu8, ps := L } : Sk) ACu3 cCu3 true _ (SL9.rd M (.cons _ (subL (subL (List.sublist_append_right _ _))))) (by first | omega | (dsimp only; omega)) (by first | omega | (dsimp only; omega)) (hT.mem M (fun h => h))) ?_
 clear T
 rintro e wc ⟨ASu15, cSu15, ISu15, rfl, hcpSu15, SVSu15, N⟩
 intro ac T
 have hXt : ∀ sv, cutA ({ s with lo := (s.lo + xu4), wi := (s.wi + xu5), a0 := xu6, c1 := xu8, ps := L } : Sk) true ≤ cutA s sv → cutC ({ s with lo := (s.lo + xu4), wi := (s.wi + xu5), a0 := xu6, c1 := xu8, ps := L } : Sk) true ≤ cutC s sv → shE s sv = 0 → shE ({ s with lo := (s.lo + xu4), wi := (s.wi + xu5), a0 := xu6, c1 := xu8, ps := L } : Sk) true = 0 ∧ shN ({ s with lo := (s.lo + xu4), wi := (s.wi + xu5), a0 := xu6, c1 := xu8, ps := L } : Sk) true ≤ shN s sv := fun sv h1 h2 h0 => larger_law hsgs hgx (by dsimp only; omega) (by dsimp only; omega) h1 h2 he h0
 obtain ⟨bASu15, oASu15, SVSu15⟩ := SVSu15
 have SASu15 := SVSu15 w noEx
 replace M := (M.join N).swapI
 clear N
 replace M : Mem w noEx wc ((g2, .cells [.int .i64 (s.lo + xu4), .int .i64 (s.wi + xu5), .int .i64 xu6, .int .i64 s.a1, .int .i64 s.c0, .int .i64 xu8, .slice ACu3 L.length cCu3]) :: (IKu2 ++ Iw ++ ISu13 ++ ISu14 ++ ISu15)) := M
 refine sh_out hK _ _ ?_; clear hK K
 refine lq T (rn_move rfl (T.ev 0 rfl)) ?_; clear T ac; intro ac T
 refine lq T (rn_extract rfl (T.ev 0 rfl) rfl) ?_; clear T ac; intro ac T
 refine lq T (rn_extract rfl (T.ev 1 rfl) rfl) ?_; clear T ac; intro ac T
 refine lq T (rn_extract rfl (T.ev 2 rfl) rfl) ?_; clear T ac; intro ac T
 refine lq T (rn_assign rfl (T.ev 2 rfl)) ?_; clear T ac; intro ac T
 refine lq T (rn_assign rfl (T.ev 2 rfl)) ?_; clear T ac; intro ac T
 refine lq T (rn_assign rfl (T.ev 2 rfl)) ?_; clear T ac; intro ac T
 refine wpList_nil ?_
 replace T := T.pick [0, 1, 9, 10, 11, 12, 13] rfl
 refine nm_then ?_
 refine wp_seq ?_
 refine wp_region_lit ?_
 refine lq T (rn_rowO (Mem.nth M 0 rfl) rfl (T.ev 6 rfl) rfl) ?_; clear T ac; intro ac T
 refine l_w rfl ?_; intro K hK
 have hlX : L.length ≤ 5 := by omega
 have hcX : L.length ≤ cCu3 := by omega
 refine ow_call (first := []) (cap := []) T rfl rfl rfl rfl evf (.cons (T.ev 0 rfl) (.cons evc .nil)) Tryd.func34 rfl rfl ?_
 refine Calls.mono (Sheets_any ({ s with lo := (s.lo + xu4), wi := (s.wi + xu5), a0 := xu6, c1 := xu8, ps := L } : Sk) ACu3 cCu3 false _ (SL9.rd M (.cons _ (subL (subL (subL (List.sublist_append_right _ _)))))) (by first | omega | (dsimp only; omega)) (by first | omega | (dsimp only; omega)) (hT.mem M (fun h => h))) ?_
 clear T
 rintro e wc ⟨ASu16, cSu16, ISu16, rfl, hcpSu16, SVSu16, N⟩
 intro ac T
 have hXf : ∀ sv, cutA ({ s with lo := (s.lo + xu4), wi := (s.wi + xu5), a0 := xu6, c1 := xu8, ps := L } : Sk) false ≤ cutA s sv → cutC ({ s with lo := (s.lo + xu4), wi := (s.wi + xu5), a0 := xu6, c1 := xu8, ps := L } : Sk) false ≤ cutC s sv → shE s sv = 0 → shE ({ s with lo := (s.lo + xu4), wi := (s.wi + xu5), a0 := xu6, c1 := xu8, ps := L } : Sk) false = 0 ∧ shN ({ s with lo := (s.lo + xu4), wi := (s.wi + xu5), a0 := xu6, c1 := xu8, ps := L } : Sk) false ≤ shN s sv := fun sv h1 h2 h0 => larger_law hsgs hgx (by dsimp only; omega) (by dsimp only; omega) h1 h2 he h0
 obtain ⟨bASu16, oASu16, SVSu16⟩ := SVSu16
 have SASu16 := SVSu16 w noEx
 replace M := (M.join N).swapI
 clear N
 replace M : Mem w noEx wc ((g2, .cells [.int .i64 (s.lo + xu4), .int .i64 (s.wi + xu5), .int .i64 xu6, .int .i64 s.a1, .int .i64 s.c0, .int .i64 xu8, .slice ACu3 L.length cCu3]) :: (IKu2 ++ Iw ++ ISu13 ++ ISu14 ++ ISu15 ++ ISu16)) := M
 refine sh_out hK _ _ ?_; clear hK K
 refine lq T (rn_move rfl (T.ev 0 rfl)) ?_; clear T ac; intro ac T
 refine lq T (rn_extract rfl (T.ev 0 rfl) rfl) ?_; clear T ac; intro ac T
 refine lq T (rn_extract rfl (T.ev 1 rfl) rfl) ?_; clear T ac; intro ac T
 refine lq T (rn_extract rfl (T.ev 2 rfl) rfl) ?_; clear T ac; intro ac T
 refine lq T (rn_assign rfl (T.ev 2 rfl)) ?_; clear T ac; intro ac T
 refine lq T (rn_assign rfl (T.ev 2 rfl)) ?_; clear T ac; intro ac T
 refine lq T (rn_assign rfl (T.ev 2 rfl)) ?_; clear T ac; intro ac T
 refine wpList_nil ?_
 replace T := T.pick [0, 1, 9, 10, 11, 12, 13, 14] rfl
 replace M := M.mask [false] rfl
 replace M : Mem w noEx wc ((IKu2 ++ Iw ++ ISu13 ++ ISu14 ++ ISu15 ++ ISu16)) := M
 refine nm_then ?_
 refine wp_seq ?_
 refine cut_seq (fun ac wc => Tm ac 155 [(8, .int .i64 (shN s true : Int)), (9, .int .i64 (shE s true)), (11, .int .i64 (shN s false : Int)), (12, .int .i64 (shE s false)), (14, .int .i64 (shN ({ s with lo := (s.lo + xu4), wi := (s.wi + xu5), a0 := xu6, c1 := xu8, ps := L } : Sk) true : Int)), (15, .int .i64 (shE ({ s with lo := (s.lo + xu4), wi := (s.wi + xu5), a0 := xu6, c1 := xu8, ps := L } : Sk) true)), (17, .int .i64 (shN ({ s with lo := (s.lo + xu4), wi := (s.wi + xu5), a0 := xu6, c1 := xu8, ps := L } : Sk) false : Int)), (18, .int .i64 (shE ({ s with lo := (s.lo + xu4), wi := (s.wi + xu5), a0 := xu6, c1 := xu8, ps := L } : Sk) false)), (118, .bool (bif (!(decide ((shE s true) = 0))) then ((!(decide ((shE s true) = 11))) || ((!(decide ((shE s false) = 0))) && (!(decide ((shE s false) = 11))))) else ((!(decide ((shE s false) = 0))) && (!(decide ((shE s false) = 11))))))] ∧ Mem w noEx wc ((IKu2 ++ Iw ++ ISu13 ++ ISu14 ++ ISu15 ++ ISu16))) ?_ ?_
 ·refine wp_region_lit ?_
  refine lq T (rn_move rfl (T.ev 6 rfl)) ?_; clear T ac; intro ac T
  refine lq T (rn_neq rfl (T.ev 0 rfl) evc) ?_; clear T ac; intro ac T
  refine lq T (rn_move rfl (T.ev 0 rfl)) ?_; clear T ac; intro ac T
  rcases Bool.eq_false_or_eq_true (!(decide ((shE s true) = 0))) with h5 | h5
  ·replace h5 : ¬ ((shE s true) = 0) := by first | (rw [Bool.not_eq_true'] at h5; exact of_decide_eq_false h5) | simpa using h5
   refine lw T (wanted_yes rfl rfl (T.ev 0 rfl) (by simp [h5])) (rn_move rfl (T.ev 9 rfl)) ?_; clear T ac; intro ac T
   refine lw T (wanted_yes rfl rfl (T.ev 1 rfl) (by simp [h5])) (rn_neq rfl (T.ev 0 rfl) evc) ?_; clear T ac; intro ac T
   refine lq T (rn_pick1 rfl (T.ev 2 rfl) (by simp [h5]) (T.ev 0 rfl)) ?_; clear T ac; intro ac T
   refine lq T (rn_move rfl (T.ev 0 rfl)) ?_; clear T ac; intro ac T
   rcases Bool.eq_false_or_eq_true (!(decide ((shE s true) = 11))) with h6 | h6
   ·replace h6 : ¬ ((shE s true) = 11) := by first | (rw [Bool.not_eq_true'] at h6; exact of_decide_eq_false h6) | simpa using h6
    refine lp T (wanted_no rfl rfl (T.ev 0 rfl) (by simp [h6])) ?_; clear T ac; intro ac T
    refine lp T (wanted_no rfl rfl (T.ev 1 rfl) (by simp [h6])) ?_; clear T ac; intro ac T
    refine lp T (wanted_no rfl rfl (T.ev 2 rfl) (by simp [h6])) ?_; clear T ac; intro ac T
    refine lp T (wanted_un rfl rfl (T.ev 0 rfl)) ?_; clear T ac; intro ac T
    refine lp T (wanted_un rfl rfl (T.ev 1 rfl)) ?_; clear T ac; intro ac T
    refine lp T (wanted_no rfl rfl (T.ev 5 rfl) (by simp [h6])) ?_; clear T ac; intro ac T
    refine lq T (rn_pick1 rfl (T.ev 6 rfl) (by simp [h6]) evc) ?_; clear T ac; intro ac T
    refine wpList_nil ?_
    replace T := T.pick [0, 14, 15, 16, 17, 18, 19, 20, 21] rfl
    exact ⟨(T.pick (E' := [(8, .int .i64 (shN s true : Int)), (9, .int .i64 (shE s true)), (11, .int .i64 (shN s false : Int)), (12, .int .i64 (shE s false)), (14, .int .i64 (shN ({ s with lo := (s.lo + xu4), wi := (s.wi + xu5), a0 := xu6, c1 := xu8, ps := L } : Sk) true : Int)), (15, .int .i64 (shE ({ s with lo := (s.lo + xu4), wi := (s.wi + xu5), a0 := xu6, c1 := xu8, ps := L } : Sk) true)), (17, .int .i64 (shN ({ s with lo := (s.lo + xu4), wi := (s.wi + xu5), a0 := xu6, c1 := xu8, ps := L } : Sk) false : Int)), (18, .int .i64 (shE ({ s with lo := (s.lo + xu4), wi := (s.wi + xu5), a0 := xu6, c1 := xu8, ps := L } : Sk) false)), (118, .bool true)]) [8, 7, 6, 5, 4, 3, 2, 1, 0] rfl).as (by (try rw [show (!(decide ((shE s true) = 0))) = true from (by simp [h5])]); (try rw [show (!(decide ((shE s true) = 11))) = true from (by simp [h6])]); (try rfl)), M.mask [] rfl⟩
   replace h6 : (shE s true) = 11 := by first | (rw [Bool.not_eq_false'] at h6; exact of_decide_eq_true h6) | simpa using h6
   refine lw T (wanted_yes rfl rfl (T.ev 0 rfl) (by simp [h6])) (rn_move rfl (T.ev 11 rfl)) ?_; clear T ac; intro ac T
   refine lw T (wanted_yes rfl rfl (T.ev 1 rfl) (by simp [h6])) (rn_neq rfl (T.ev 0 rfl) evc) ?_; clear T ac; intro ac T
   refine lw T (wanted_yes rfl rfl (T.ev 2 rfl) (by simp [h6])) (rn_move rfl (T.ev 0 rfl)) ?_; clear T ac; intro ac T
   rcases Bool.eq_false_or_eq_true (!(decide ((shE s false) = 0))) with h7 | h7
   ·replace h7 : ¬ ((shE s false) = 0) := by first | (rw [Bool.not_eq_true'] at h7; exact of_decide_eq_false h7) | simpa using h7
    refine lw T (wanted_yes rfl rfl (T.ev 0 rfl) (by simp [h7])) (rn_move rfl (T.ev 14 rfl)) ?_; clear T ac; intro ac T
    refine lw T (wanted_yes rfl rfl (T.ev 1 rfl) (by simp [h7])) (rn_neq rfl (T.ev 0 rfl) evc) ?_; clear T ac; intro ac T
    refine lw T (wanted_yes rfl rfl (T.ev 5 rfl) (by simp [h6])) (rn_pick1 rfl (T.ev 2 rfl) (by simp [h7]) (T.ev 0 rfl)) ?_; clear T ac; intro ac T
    refine lq T (rn_pick0 rfl (T.ev 6 rfl) (by simp [h6]) (T.ev 0 rfl)) ?_; clear T ac; intro ac T
    refine wpList_nil ?_
    replace T := T.pick [0, 14, 15, 16, 17, 18, 19, 20, 21] rfl
    exact ⟨(T.pick (E' := [(8, .int .i64 (shN s true : Int)), (9, .int .i64 (shE s true)), (11, .int .i64 (shN s false : Int)), (12, .int .i64 (shE s false)), (14, .int .i64 (shN ({ s with lo := (s.lo + xu4), wi := (s.wi + xu5), a0 := xu6, c1 := xu8, ps := L } : Sk) true : Int)), (15, .int .i64 (shE ({ s with lo := (s.lo + xu4), wi := (s.wi + xu5), a0 := xu6, c1 := xu8, ps := L } : Sk) true)), (17, .int .i64 (shN ({ s with lo := (s.lo + xu4), wi := (s.wi + xu5), a0 := xu6, c1 := xu8, ps := L } : Sk) false : Int)), (18, .int .i64 (shE ({ s with lo := (s.lo + xu4), wi := (s.wi + xu5), a0 := xu6, c1 := xu8, ps := L } : Sk) false)), (118, .bool (!(decide ((shE s false) = 11))))]) [8, 7, 6, 5, 4, 3, 2, 1, 0] rfl).as (by (try rw [show (!(decide ((shE s true) = 0))) = true from (by simp [h5])]); (try rw [show (!(decide ((shE s true) = 11))) = false from (by simp [h6])]); (try rw [show (!(decide ((shE s false) = 0))) = true from (by simp [h7])]); (try rfl)), M.mask [] rfl⟩
   replace h7 : (shE s false) = 0 := by first | (rw [Bool.not_eq_false'] at h7; exact of_decide_eq_true h7) | simpa using h7
   refine lp T (wanted_no rfl rfl (T.ev 0 rfl) (by simp [h7])) ?_; clear T ac; intro ac T
   refine lp T (wanted_no rfl rfl (T.ev 1 rfl) (by simp [h7])) ?_; clear T ac; intro ac T
   refine lw T (wanted_yes rfl rfl (T.ev 5 rfl) (by simp [h6])) (rn_pick0 rfl (T.ev 2 rfl) (by simp [h7]) evc) ?_; clear T ac; intro ac T
   refine lq T (rn_pick0 rfl (T.ev 6 rfl) (by simp [h6]) (T.ev 0 rfl)) ?_; clear T ac; intro ac T
   refine wpList_nil ?_
   replace T := T.pick [0, 14, 15, 16, 17, 18, 19, 20, 21] rfl
   exact ⟨(T.pick (E' := [(8, .int .i64 (shN s true : Int)), (9, .int .i64 (shE s true)), (11, .int .i64 (shN s false : Int)), (12, .int .i64 (shE s false)), (14, .int .i64 (shN ({ s with lo := (s.lo + xu4), wi := (s.wi + xu5), a0 := xu6, c1 := xu8, ps := L } : Sk) true : Int)), (15, .int .i64 (shE ({ s with lo := (s.lo + xu4), wi := (s.wi + xu5), a0 := xu6, c1 := xu8, ps := L } : Sk) true)), (17, .int .i64 (shN ({ s with lo := (s.lo + xu4), wi := (s.wi + xu5), a0 := xu6, c1 := xu8, ps := L } : Sk) false : Int)), (18, .int .i64 (shE ({ s with lo := (s.lo + xu4), wi := (s.wi + xu5), a0 := xu6, c1 := xu8, ps := L } : Sk) false)), (118, .bool false)]) [8, 7, 6, 5, 4, 3, 2, 1, 0] rfl).as (by (try rw [show (!(decide ((shE s true) = 0))) = true from (by simp [h5])]); (try rw [show (!(decide ((shE s true) = 11))) = false from (by simp [h6])]); (try rw [show (!(decide ((shE s false) = 0))) = false from (by simp [h7])]); (try rfl)), M.mask [] rfl⟩
  replace h5 : (shE s true) = 0 := by first | (rw [Bool.not_eq_false'] at h5; exact of_decide_eq_true h5) | simpa using h5
  refine lp T (wanted_no rfl rfl (T.ev 0 rfl) (by simp [h5])) ?_; clear T ac; intro ac T
  refine lp T (wanted_no rfl rfl (T.ev 1 rfl) (by simp [h5])) ?_; clear T ac; intro ac T
  refine lq T (rn_pick0 rfl (T.ev 2 rfl) (by simp [h5]) evc) ?_; clear T ac; intro ac T
  refine lq T (rn_move rfl (T.ev 0 rfl)) ?_; clear T ac; intro ac T
  refine lw T (wanted_yes rfl rfl (T.ev 0 rfl) rfl) (rn_move rfl (T.ev 11 rfl)) ?_; clear T ac; intro ac T
  refine lw T (wanted_yes rfl rfl (T.ev 1 rfl) rfl) (rn_neq rfl (T.ev 0 rfl) evc) ?_; clear T ac; intro ac T
  refine lw T (wanted_yes rfl rfl (T.ev 2 rfl) rfl) (rn_move rfl (T.ev 0 rfl)) ?_; clear T ac; intro ac T
  rcases Bool.eq_false_or_eq_true (!(decide ((shE s false) = 0))) with h8 | h8
  ·replace h8 : ¬ ((shE s false) = 0) := by first | (rw [Bool.not_eq_true'] at h8; exact of_decide_eq_false h8) | simpa using h8
   refine lw T (wanted_yes rfl rfl (T.ev 0 rfl) (by simp [h8])) (rn_move rfl (T.ev 14 rfl)) ?_; clear T ac; intro ac T
   refine lw T (wanted_yes rfl rfl (T.ev 1 rfl) (by simp [h8])) (rn_neq rfl (T.ev 0 rfl) evc) ?_; clear T ac; intro ac T
   refine lw T (wanted_yes rfl rfl (T.ev 5 rfl) rfl) (rn_pick1 rfl (T.ev 2 rfl) (by simp [h8]) (T.ev 0 rfl)) ?_; clear T ac; intro ac T
   refine lq T (rn_pick0 rfl (T.ev 6 rfl) rfl (T.ev 0 rfl)) ?_; clear T ac; intro ac T
   refine wpList_nil ?_
   replace T := T.pick [0, 14, 15, 16, 17, 18, 19, 20, 21] rfl
   exact ⟨(T.pick (E' := [(8, .int .i64 (shN s true : Int)), (9, .int .i64 (shE s true)), (11, .int .i64 (shN s false : Int)), (12, .int .i64 (shE s false)), (14, .int .i64 (shN ({ s with lo := (s.lo + xu4), wi := (s.wi + xu5), a0 := xu6, c1 := xu8, ps := L } : Sk) true : Int)), (15, .int .i64 (shE ({ s with lo := (s.lo + xu4), wi := (s.wi + xu5), a0 := xu6, c1 := xu8, ps := L } : Sk) true)), (17, .int .i64 (shN ({ s with lo := (s.lo + xu4), wi := (s.wi + xu5), a0 := xu6, c1 := xu8, ps := L } : Sk) false : Int)), (18, .int .i64 (shE ({ s with lo := (s.lo + xu4), wi := (s.wi + xu5), a0 := xu6, c1 := xu8, ps := L } : Sk) false)), (118, .bool (!(decide ((shE s false) = 11))))]) [8, 7, 6, 5, 4, 3, 2, 1, 0] rfl).as (by (try rw [show (!(decide ((shE s true) = 0))) = false from (by simp [h5])]); (try rw [show (!(decide ((shE s false) = 0))) = true from (by simp [h8])]); (try rfl)), M.mask [] rfl⟩
  replace h8 : (shE s false) = 0 := by first | (rw [Bool.not_eq_false'] at h8; exact of_decide_eq_true h8) | simpa using h8
  refine lp T (wanted_no rfl rfl (T.ev 0 rfl) (by simp [h8])) ?_; clear T ac; intro ac T
  refine lp T (wanted_no rfl rfl (T.ev 1 rfl) (by simp [h8])) ?_; clear T ac; intro ac T
  refine lw T (wanted_yes rfl rfl (T.ev 5 rfl) rfl) (rn_pick0 rfl (T.ev 2 rfl) (by simp [h8]) evc) ?_; clear T ac; intro ac T
  refine lq T (rn_pick0 rfl (T.ev 6 rfl) rfl (T.ev 0 rfl)) ?_; clear T ac; intro ac T
  refine wpList_nil ?_
  replace T := T.pick [0, 14, 15, 16, 17, 18, 19, 20, 21] rfl
  exact ⟨(T.pick (E' := [(8, .int .i64 (shN s true : Int)), (9, .int .i64 (shE s true)), (11, .int .i64 (shN s false : Int)), (12, .int .i64 (shE s false)), (14, .int .i64 (shN ({ s with lo := (s.lo + xu4), wi := (s.wi + xu5), a0 := xu6, c1 := xu8, ps := L } : Sk) true : Int)), (15, .int .i64 (shE ({ s with lo := (s.lo + xu4), wi := (s.wi + xu5), a0 := xu6, c1 := xu8, ps := L } : Sk) true)), (17, .int .i64 (shN ({ s with lo := (s.lo + xu4), wi := (s.wi + xu5), a0 := xu6, c1 := xu8, ps := L } : Sk) false : Int)), (18, .int .i64 (shE ({ s with lo := (s.lo + xu4), wi := (s.wi + xu5), a0 := xu6, c1 := xu8, ps := L } : Sk) false)), (118, .bool false)]) [8, 7, 6, 5, 4, 3, 2, 1, 0] rfl).as (by (try rw [show (!(decide ((shE s true) = 0))) = false from (by simp [h5])]); (try rw [show (!(decide ((shE s false) = 0))) = false from (by simp [h8])]); (try rfl)), M.mask [] rfl⟩
 clear T M
 rintro ac wc ⟨T, M⟩
 refine wp_cond_split (T.ev 8 rfl) ?_ ?_
 ·intro h9
  (try have h9' := h9; try simp only [Bool.and_eq_true, Bool.or_eq_true, Bool.not_eq_true', Bool.and_eq_false_imp, Bool.or_eq_false_iff, decide_eq_true_eq, decide_eq_false_iff_not] at h9')
  refine wp_seq ?_
  refine wp_region_lit ?_
  refine lq T (rn_assign rfl evc) ?_; clear T ac; intro ac T
  refine wpList_nil ?_
  replace T := T.pick [0] rfl
  refine nm_then ?_
  refine wp_ret ?_
  refine rt_then ?_
  refine rt_1 T rfl (T.ev 0 rfl) ?_
  exact ⟨ret_bool (by have hA := hXt true; have hB := hXf false; have hH := fun h => hope_law hsgs h; have hA := hA (by unfold cutA; simp) (by unfold cutC; simp; omega); have hB := hB (by unfold cutA; simp; omega) (by unfold cutC; simp); rcases shE_cases hsgs true with a1 | a1 <;> rcases shE_cases hsgs false with a2 | a2 <;> simp_all), M.below⟩
 intro h9
 (try have h9' := h9; try simp only [Bool.and_eq_true, Bool.or_eq_true, Bool.not_eq_true', Bool.and_eq_false_imp, Bool.or_eq_false_iff, decide_eq_true_eq, decide_eq_false_iff_not] at h9')
 refine wp_skip ?_
 refine nm_then ?_
 refine cut_seq (fun ac wc => Tm ac 155 [(2, .bool (bif (!(decide ((shE s true) = 0))) then ((!(decide ((shE s false) = 0))) || ((decide ((shE ({ s with lo := (s.lo + xu4), wi := (s.wi + xu5), a0 := xu6, c1 := xu8, ps := L } : Sk) false) = 0)) && (decide ((shN ({ s with lo := (s.lo + xu4), wi := (s.wi + xu5), a0 := xu6, c1 := xu8, ps := L } : Sk) false : Int) ≤ (shN s false : Int))))) else ((decide ((shE s false) = 0)) && ((decide ((shN s false : Int) ≤ (shN s true : Int))) && ((decide ((shE ({ s with lo := (s.lo + xu4), wi := (s.wi + xu5), a0 := xu6, c1 := xu8, ps := L } : Sk) true) = 0)) && ((decide ((shN ({ s with lo := (s.lo + xu4), wi := (s.wi + xu5), a0 := xu6, c1 := xu8, ps := L } : Sk) true : Int) ≤ (shN s true : Int))) && ((decide ((shE ({ s with lo := (s.lo + xu4), wi := (s.wi + xu5), a0 := xu6, c1 := xu8, ps := L } : Sk) false) = 0)) && (decide ((shN ({ s with lo := (s.lo + xu4), wi := (s.wi + xu5), a0 := xu6, c1 := xu8, ps := L } : Sk) false : Int) ≤ (shN s false : Int))))))))))] ∧ Mem w noEx wc ((IKu2 ++ Iw ++ ISu13 ++ ISu14 ++ ISu15 ++ ISu16))) ?_ ?_
 ·refine wp_region_lit ?_
  refine lq T (rn_move rfl (T.ev 1 rfl)) ?_; clear T ac; intro ac T
  refine lq T (rn_neq rfl (T.ev 0 rfl) evc) ?_; clear T ac; intro ac T
  refine lq T (rn_move rfl (T.ev 0 rfl)) ?_; clear T ac; intro ac T
  rcases Bool.eq_false_or_eq_true (!(decide ((shE s true) = 0))) with h10 | h10
  ·replace h10 : ¬ ((shE s true) = 0) := by first | (rw [Bool.not_eq_true'] at h10; exact of_decide_eq_false h10) | simpa using h10
   refine lp T (wanted_no rfl rfl (T.ev 0 rfl) (by simp [h10])) ?_; clear T ac; intro ac T
   refine lp T (wanted_no rfl rfl (T.ev 1 rfl) (by simp [h10])) ?_; clear T ac; intro ac T
   refine lp T (wanted_no rfl rfl (T.ev 2 rfl) (by simp [h10])) ?_; clear T ac; intro ac T
   refine lp T (wanted_un rfl rfl (T.ev 0 rfl)) ?_; clear T ac; intro ac T
   refine lp T (wanted_un rfl rfl (T.ev 1 rfl)) ?_; clear T ac; intro ac T
   refine lp T (wanted_un rfl rfl (T.ev 2 rfl)) ?_; clear T ac; intro ac T
   refine lp T (wanted_no rfl rfl (T.ev 6 rfl) (by simp [h10])) ?_; clear T ac; intro ac T
   refine lp T (wanted_no rfl rfl (T.ev 7 rfl) (by simp [h10])) ?_; clear T ac; intro ac T
   refine lp T (wanted_un rfl rfl (T.ev 0 rfl)) ?_; clear T ac; intro ac T
   refine lp T (wanted_un rfl rfl (T.ev 1 rfl)) ?_; clear T ac; intro ac T
   refine lp T (wanted_no rfl rfl (T.ev 10 rfl) (by simp [h10])) ?_; clear T ac; intro ac T
   refine lp T (wanted_no rfl rfl (T.ev 11 rfl) (by simp [h10])) ?_; clear T ac; intro ac T
   refine lp T (wanted_un rfl rfl (T.ev 0 rfl)) ?_; clear T ac; intro ac T
   refine lp T (wanted_un rfl rfl (T.ev 1 rfl)) ?_; clear T ac; intro ac T
   refine lp T (wanted_un rfl rfl (T.ev 2 rfl)) ?_; clear T ac; intro ac T
   refine lp T (wanted_no rfl rfl (T.ev 15 rfl) (by simp [h10])) ?_; clear T ac; intro ac T
   refine lq T (rn_pick1 rfl (T.ev 16 rfl) (by simp [h10]) evc) ?_; clear T ac; intro ac T
   refine lq T (rn_move rfl (T.ev 0 rfl)) ?_; clear T ac; intro ac T
   refine lw T (wanted_yes rfl rfl (T.ev 0 rfl) rfl) (rn_move rfl (T.ev 24 rfl)) ?_; clear T ac; intro ac T
   refine lw T (wanted_yes rfl rfl (T.ev 1 rfl) rfl) (rn_neq rfl (T.ev 0 rfl) evc) ?_; clear T ac; intro ac T
   refine lw T (wanted_yes rfl rfl (T.ev 2 rfl) rfl) (rn_move rfl (T.ev 0 rfl)) ?_; clear T ac; intro ac T
   rcases Bool.eq_false_or_eq_true (!(decide ((shE s false) = 0))) with h11 | h11
   ·replace h11 : ¬ ((shE s false) = 0) := by first | (rw [Bool.not_eq_true'] at h11; exact of_decide_eq_false h11) | simpa using h11
    refine lp T (wanted_no rfl rfl (T.ev 0 rfl) (by simp [h11])) ?_; clear T ac; intro ac T
    refine lp T (wanted_no rfl rfl (T.ev 1 rfl) (by simp [h11])) ?_; clear T ac; intro ac T
    refine lp T (wanted_no rfl rfl (T.ev 2 rfl) (by simp [h11])) ?_; clear T ac; intro ac T
    refine lp T (wanted_un rfl rfl (T.ev 0 rfl)) ?_; clear T ac; intro ac T
    refine lp T (wanted_un rfl rfl (T.ev 1 rfl)) ?_; clear T ac; intro ac T
    refine lp T (wanted_un rfl rfl (T.ev 2 rfl)) ?_; clear T ac; intro ac T
    refine lp T (wanted_no rfl rfl (T.ev 6 rfl) (by simp [h11])) ?_; clear T ac; intro ac T
    refine lw T (wanted_yes rfl rfl (T.ev 10 rfl) rfl) (rn_pick1 rfl (T.ev 7 rfl) (by simp [h11]) evc) ?_; clear T ac; intro ac T
    refine lq T (rn_pick1 rfl (T.ev 11 rfl) rfl (T.ev 0 rfl)) ?_; clear T ac; intro ac T
    refine lq T (rn_move rfl (T.ev 0 rfl)) ?_; clear T ac; intro ac T
    refine l_w (wanted_yes rfl rfl (T.ev 0 rfl) rfl) ?_; intro K hK
    refine ow_call (first := []) (cap := []) T rfl rfl rfl rfl evf .nil Tryd.func17 rfl rfl ?_
    refine Calls.mono (sawn8_any _ (hT.mem M (fun h => h))) ?_
    clear T
    rintro e wc ⟨rfl, hb⟩
    intro ac T
    replace M := M.call hb; clear hb
    refine sh_out hK _ _ ?_; clear hK K
    refine lq T (rn_pick1 rfl (T.ev 1 rfl) rfl (T.ev 0 rfl)) ?_; clear T ac; intro ac T
    refine lq T (rn_assign rfl (T.ev 0 rfl)) ?_; clear T ac; intro ac T
    refine wpList_nil ?_
    replace T := T.pick [0] rfl
    exact ⟨(T.pick (E' := [(2, .bool true)]) [0] rfl).as (by (try rw [show (!(decide ((shE s true) = 0))) = true from (by simp [h10])]); (try rw [show (!(decide ((shE s false) = 0))) = true from (by simp [h11])]); (try rfl)), M.mask [] rfl⟩
   replace h11 : (shE s false) = 0 := by first | (rw [Bool.not_eq_false'] at h11; exact of_decide_eq_true h11) | simpa using h11
   refine lw T (wanted_yes rfl rfl (T.ev 0 rfl) (by simp [h11])) (rn_move rfl (T.ev 31 rfl)) ?_; clear T ac; intro ac T
   refine lw T (wanted_yes rfl rfl (T.ev 1 rfl) (by simp [h11])) (rn_eql rfl (T.ev 0 rfl) evc) ?_; clear T ac; intro ac T
   refine lw T (wanted_yes rfl rfl (T.ev 2 rfl) (by simp [h11])) (rn_move rfl (T.ev 0 rfl)) ?_; clear T ac; intro ac T
   rcases Bool.eq_false_or_eq_true (decide ((shE ({ s with lo := (s.lo + xu4), wi := (s.wi + xu5), a0 := xu6, c1 := xu8, ps := L } : Sk) false) = 0)) with h12 | h12
   ·replace h12 := of_decide_eq_true h12
    refine lw T (wanted_yes rfl rfl (T.ev 0 rfl) (decide_eq_true h12)) (rn_move rfl (T.ev 33 rfl)) ?_; clear T ac; intro ac T
    refine lw T (wanted_yes rfl rfl (T.ev 1 rfl) (decide_eq_true h12)) (rn_move rfl (T.ev 30 rfl)) ?_; clear T ac; intro ac T
    refine lw T (wanted_yes rfl rfl (T.ev 2 rfl) (decide_eq_true h12)) (rn_leq rfl (T.ev 1 rfl) (T.ev 0 rfl)) ?_; clear T ac; intro ac T
    refine lw T (wanted_yes rfl rfl (T.ev 6 rfl) (by simp [h11])) (rn_pick1 rfl (T.ev 3 rfl) (decide_eq_true h12) (T.ev 0 rfl)) ?_; clear T ac; intro ac T
    refine lw T (wanted_yes rfl rfl (T.ev 10 rfl) rfl) (rn_pick0 rfl (T.ev 7 rfl) (by simp [h11]) (T.ev 0 rfl)) ?_; clear T ac; intro ac T
    refine lq T (rn_pick1 rfl (T.ev 11 rfl) rfl (T.ev 0 rfl)) ?_; clear T ac; intro ac T
    refine lq T (rn_move rfl (T.ev 0 rfl)) ?_; clear T ac; intro ac T
    rcases Bool.eq_false_or_eq_true (decide ((shN ({ s with lo := (s.lo + xu4), wi := (s.wi + xu5), a0 := xu6, c1 := xu8, ps := L } : Sk) false : Int) ≤ (shN s false : Int))) with h13 | h13
    ·replace h13 := of_decide_eq_true h13
     refine l_w (wanted_yes rfl rfl (T.ev 0 rfl) (decide_eq_true h13)) ?_; intro K hK
     refine ow_call (first := []) (cap := []) T rfl rfl rfl rfl evf .nil Tryd.func17 rfl rfl ?_
     refine Calls.mono (sawn8_any _ (hT.mem M (fun h => h))) ?_
     clear T
     rintro e wc ⟨rfl, hb⟩
     intro ac T
     replace M := M.call hb; clear hb
     refine sh_out hK _ _ ?_; clear hK K
     refine lq T (rn_pick1 rfl (T.ev 1 rfl) (decide_eq_true h13) (T.ev 0 rfl)) ?_; clear T ac; intro ac T
     refine lq T (rn_assign rfl (T.ev 0 rfl)) ?_; clear T ac; intro ac T
     refine wpList_nil ?_
     replace T := T.pick [0] rfl
     exact ⟨(T.pick (E' := [(2, .bool true)]) [0] rfl).as (by (try rw [show (!(decide ((shE s true) = 0))) = true from (by simp [h10])]); (try rw [show (!(decide ((shE s false) = 0))) = false from (by simp [h11])]); (try rw [show (decide ((shE ({ s with lo := (s.lo + xu4), wi := (s.wi + xu5), a0 := xu6, c1 := xu8, ps := L } : Sk) false) = 0)) = true from (decide_eq_true h12)]); (try rw [show (decide ((shN ({ s with lo := (s.lo + xu4), wi := (s.wi + xu5), a0 := xu6, c1 := xu8, ps := L } : Sk) false : Int) ≤ (shN s false : Int))) = true from (decide_eq_true h13)]); (try rfl)), M.mask [] rfl⟩
    replace h13 := of_decide_eq_false h13
    refine lp T (wanted_no rfl rfl (T.ev 0 rfl) (decide_eq_false h13)) ?_; clear T ac; intro ac T
    refine lq T (rn_pick0 rfl (T.ev 1 rfl) (decide_eq_false h13) evc) ?_; clear T ac; intro ac T
    refine lq T (rn_assign rfl (T.ev 0 rfl)) ?_; clear T ac; intro ac T
    refine wpList_nil ?_
    replace T := T.pick [0] rfl
    exact ⟨(T.pick (E' := [(2, .bool false)]) [0] rfl).as (by (try rw [show (!(decide ((shE s true) = 0))) = true from (by simp [h10])]); (try rw [show (!(decide ((shE s false) = 0))) = false from (by simp [h11])]); (try rw [show (decide ((shE ({ s with lo := (s.lo + xu4), wi := (s.wi + xu5), a0 := xu6, c1 := xu8, ps := L } : Sk) false) = 0)) = true from (decide_eq_true h12)]); (try rw [show (decide ((shN ({ s with lo := (s.lo + xu4), wi := (s.wi + xu5), a0 := xu6, c1 := xu8, ps := L } : Sk) false : Int) ≤ (shN s false : Int))) = false from (decide_eq_false h13)]); (try rfl)), M.mask [] rfl⟩
   replace h12 := of_decide_eq_false h12
   refine lp T (wanted_no rfl rfl (T.ev 0 rfl) (decide_eq_false h12)) ?_; clear T ac; intro ac T
   refine lp T (wanted_no rfl rfl (T.ev 1 rfl) (decide_eq_false h12)) ?_; clear T ac; intro ac T
   refine lp T (wanted_no rfl rfl (T.ev 2 rfl) (decide_eq_false h12)) ?_; clear T ac; intro ac T
   refine lw T (wanted_yes rfl rfl (T.ev 6 rfl) (by simp [h11])) (rn_pick0 rfl (T.ev 3 rfl) (decide_eq_false h12) evc) ?_; clear T ac; intro ac T
   refine lw T (wanted_yes rfl rfl (T.ev 10 rfl) rfl) (rn_pick0 rfl (T.ev 7 rfl) (by simp [h11]) (T.ev 0 rfl)) ?_; clear T ac; intro ac T
   refine lq T (rn_pick1 rfl (T.ev 11 rfl) rfl (T.ev 0 rfl)) ?_; clear T ac; intro ac T
   refine lq T (rn_move rfl (T.ev 0 rfl)) ?_; clear T ac; intro ac T
   refine lp T (wanted_no rfl rfl (T.ev 0 rfl) rfl) ?_; clear T ac; intro ac T
   refine lq T (rn_pick0 rfl (T.ev 1 rfl) rfl evc) ?_; clear T ac; intro ac T
   refine lq T (rn_assign rfl (T.ev 0 rfl)) ?_; clear T ac; intro ac T
   refine wpList_nil ?_
   replace T := T.pick [0] rfl
   exact ⟨(T.pick (E' := [(2, .bool false)]) [0] rfl).as (by (try rw [show (!(decide ((shE s true) = 0))) = true from (by simp [h10])]); (try rw [show (!(decide ((shE s false) = 0))) = false from (by simp [h11])]); (try rw [show (decide ((shE ({ s with lo := (s.lo + xu4), wi := (s.wi + xu5), a0 := xu6, c1 := xu8, ps := L } : Sk) false) = 0)) = false from (decide_eq_false h12)]); (try rfl)), M.mask [] rfl⟩
  replace h10 : (shE s true) = 0 := by first | (rw [Bool.not_eq_false'] at h10; exact of_decide_eq_true h10) | simpa using h10
  refine lw T (wanted_yes rfl rfl (T.ev 0 rfl) (by simp [h10])) (rn_move rfl (T.ev 6 rfl)) ?_; clear T ac; intro ac T
  refine lw T (wanted_yes rfl rfl (T.ev 1 rfl) (by simp [h10])) (rn_eql rfl (T.ev 0 rfl) evc) ?_; clear T ac; intro ac T
  refine lw T (wanted_yes rfl rfl (T.ev 2 rfl) (by simp [h10])) (rn_move rfl (T.ev 0 rfl)) ?_; clear T ac; intro ac T
  rcases Bool.eq_false_or_eq_true (decide ((shE s false) = 0)) with h14 | h14
  ·replace h14 := of_decide_eq_true h14
   refine lw T (wanted_yes rfl rfl (T.ev 0 rfl) (decide_eq_true h14)) (rn_move rfl (T.ev 8 rfl)) ?_; clear T ac; intro ac T
   refine lw T (wanted_yes rfl rfl (T.ev 1 rfl) (decide_eq_true h14)) (rn_move rfl (T.ev 7 rfl)) ?_; clear T ac; intro ac T
   refine lw T (wanted_yes rfl rfl (T.ev 2 rfl) (decide_eq_true h14)) (rn_leq rfl (T.ev 1 rfl) (T.ev 0 rfl)) ?_; clear T ac; intro ac T
   refine lw T (wanted_yes rfl rfl (T.ev 6 rfl) (by simp [h10])) (rn_pick1 rfl (T.ev 3 rfl) (decide_eq_true h14) (T.ev 0 rfl)) ?_; clear T ac; intro ac T
   refine lw T (wanted_yes rfl rfl (T.ev 7 rfl) (by simp [h10])) (rn_move rfl (T.ev 0 rfl)) ?_; clear T ac; intro ac T
   rcases Bool.eq_false_or_eq_true (decide ((shN s false : Int) ≤ (shN s true : Int))) with h15 | h15
   ·replace h15 := of_decide_eq_true h15
    refine lw T (wanted_yes rfl rfl (T.ev 0 rfl) (decide_eq_true h15)) (rn_move rfl (T.ev 16 rfl)) ?_; clear T ac; intro ac T
    refine lw T (wanted_yes rfl rfl (T.ev 1 rfl) (decide_eq_true h15)) (rn_eql rfl (T.ev 0 rfl) evc) ?_; clear T ac; intro ac T
    refine lw T (wanted_yes rfl rfl (T.ev 10 rfl) (by simp [h10])) (rn_pick1 rfl (T.ev 2 rfl) (decide_eq_true h15) (T.ev 0 rfl)) ?_; clear T ac; intro ac T
    refine lw T (wanted_yes rfl rfl (T.ev 11 rfl) (by simp [h10])) (rn_move rfl (T.ev 0 rfl)) ?_; clear T ac; intro ac T
    rcases Bool.eq_false_or_eq_true (decide ((shE ({ s with lo := (s.lo + xu4), wi := (s.wi + xu5), a0 := xu6, c1 := xu8, ps := L } : Sk) true) = 0)) with h16 | h16
    ·replace h16 := of_decide_eq_true h16
     refine lw T (wanted_yes rfl rfl (T.ev 0 rfl) (decide_eq_true h16)) (rn_move rfl (T.ev 19 rfl)) ?_; clear T ac; intro ac T
     refine lw T (wanted_yes rfl rfl (T.ev 1 rfl) (decide_eq_true h16)) (rn_move rfl (T.ev 16 rfl)) ?_; clear T ac; intro ac T
     refine lw T (wanted_yes rfl rfl (T.ev 2 rfl) (decide_eq_true h16)) (rn_leq rfl (T.ev 1 rfl) (T.ev 0 rfl)) ?_; clear T ac; intro ac T
     refine lw T (wanted_yes rfl rfl (T.ev 15 rfl) (by simp [h10])) (rn_pick1 rfl (T.ev 3 rfl) (decide_eq_true h16) (T.ev 0 rfl)) ?_; clear T ac; intro ac T
     refine lq T (rn_pick0 rfl (T.ev 16 rfl) (by simp [h10]) (T.ev 0 rfl)) ?_; clear T ac; intro ac T
     refine lq T (rn_move rfl (T.ev 0 rfl)) ?_; clear T ac; intro ac T
     rcases Bool.eq_false_or_eq_true (decide ((shN ({ s with lo := (s.lo + xu4), wi := (s.wi + xu5), a0 := xu6, c1 := xu8, ps := L } : Sk) true : Int) ≤ (shN s true : Int))) with h17 | h17
     ·replace h17 := of_decide_eq_true h17
      refine lw T (wanted_yes rfl rfl (T.ev 0 rfl) (decide_eq_true h17)) (rn_move rfl (T.ev 24 rfl)) ?_; clear T ac; intro ac T
      refine lw T (wanted_yes rfl rfl (T.ev 1 rfl) (decide_eq_true h17)) (rn_neq rfl (T.ev 0 rfl) evc) ?_; clear T ac; intro ac T
      refine lw T (wanted_yes rfl rfl (T.ev 2 rfl) (decide_eq_true h17)) (rn_move rfl (T.ev 0 rfl)) ?_; clear T ac; intro ac T
      refine lw T (wanted_yes rfl rfl (T.ev 0 rfl) (by rw [show (decide ((shE s false) = 0)) = true from (decide_eq_true h14)]; rfl)) (rn_move rfl (T.ev 31 rfl)) ?_; clear T ac; intro ac T
      refine lw T (wanted_yes rfl rfl (T.ev 1 rfl) (by rw [show (decide ((shE s false) = 0)) = true from (decide_eq_true h14)]; rfl)) (rn_eql rfl (T.ev 0 rfl) evc) ?_; clear T ac; intro ac T
      refine lw T (wanted_yes rfl rfl (T.ev 2 rfl) (by rw [show (decide ((shE s false) = 0)) = true from (decide_eq_true h14)]; rfl)) (rn_move rfl (T.ev 0 rfl)) ?_; clear T ac; intro ac T
      rcases Bool.eq_false_or_eq_true (decide ((shE ({ s with lo := (s.lo + xu4), wi := (s.wi + xu5), a0 := xu6, c1 := xu8, ps := L } : Sk) false) = 0)) with h18 | h18
      ·replace h18 := of_decide_eq_true h18
       refine lw T (wanted_yes rfl rfl (T.ev 0 rfl) (decide_eq_true h18)) (rn_move rfl (T.ev 33 rfl)) ?_; clear T ac; intro ac T
       refine lw T (wanted_yes rfl rfl (T.ev 1 rfl) (decide_eq_true h18)) (rn_move rfl (T.ev 30 rfl)) ?_; clear T ac; intro ac T
       refine lw T (wanted_yes rfl rfl (T.ev 2 rfl) (decide_eq_true h18)) (rn_leq rfl (T.ev 1 rfl) (T.ev 0 rfl)) ?_; clear T ac; intro ac T
       refine lw T (wanted_yes rfl rfl (T.ev 6 rfl) (by rw [show (decide ((shE s false) = 0)) = true from (decide_eq_true h14)]; rfl)) (rn_pick1 rfl (T.ev 3 rfl) (decide_eq_true h18) (T.ev 0 rfl)) ?_; clear T ac; intro ac T
       refine lw T (wanted_yes rfl rfl (T.ev 10 rfl) (decide_eq_true h17)) (rn_pick0 rfl (T.ev 7 rfl) (by rw [show (decide ((shE s false) = 0)) = true from (decide_eq_true h14)]; rfl) (T.ev 0 rfl)) ?_; clear T ac; intro ac T
       refine lq T (rn_pick1 rfl (T.ev 11 rfl) (decide_eq_true h17) (T.ev 0 rfl)) ?_; clear T ac; intro ac T
       refine lq T (rn_move rfl (T.ev 0 rfl)) ?_; clear T ac; intro ac T
       rcases Bool.eq_false_or_eq_true (decide ((shN ({ s with lo := (s.lo + xu4), wi := (s.wi + xu5), a0 := xu6, c1 := xu8, ps := L } : Sk) false : Int) ≤ (shN s false : Int))) with h19 | h19
       ·replace h19 := of_decide_eq_true h19
        refine l_w (wanted_yes rfl rfl (T.ev 0 rfl) (decide_eq_true h19)) ?_; intro K hK
        refine ow_call (first := []) (cap := []) T rfl rfl rfl rfl evf .nil Tryd.func17 rfl rfl ?_
        refine Calls.mono (sawn8_any _ (hT.mem M (fun h => h))) ?_
        clear T
        rintro e wc ⟨rfl, hb⟩
        intro ac T
        replace M := M.call hb; clear hb
        refine sh_out hK _ _ ?_; clear hK K
        refine lq T (rn_pick1 rfl (T.ev 1 rfl) (decide_eq_true h19) (T.ev 0 rfl)) ?_; clear T ac; intro ac T
        refine lq T (rn_assign rfl (T.ev 0 rfl)) ?_; clear T ac; intro ac T
        refine wpList_nil ?_
        replace T := T.pick [0] rfl
        exact ⟨(T.pick (E' := [(2, .bool true)]) [0] rfl).as (by (try rw [show (!(decide ((shE s true) = 0))) = false from (by simp [h10])]); (try rw [show (decide ((shE s false) = 0)) = true from (decide_eq_true h14)]); (try rw [show (decide ((shN s false : Int) ≤ (shN s true : Int))) = true from (decide_eq_true h15)]); (try rw [show (decide ((shE ({ s with lo := (s.lo + xu4), wi := (s.wi + xu5), a0 := xu6, c1 := xu8, ps := L } : Sk) true) = 0)) = true from (decide_eq_true h16)]); (try rw [show (decide ((shN ({ s with lo := (s.lo + xu4), wi := (s.wi + xu5), a0 := xu6, c1 := xu8, ps := L } : Sk) true : Int) ≤ (shN s true : Int))) = true from (decide_eq_true h17)]); (try rw [show (decide ((shE ({ s with lo := (s.lo + xu4), wi := (s.wi + xu5), a0 := xu6, c1 := xu8, ps := L } : Sk) false) = 0)) = true from (decide_eq_true h18)]); (try rw [show (decide ((shN ({ s with lo := (s.lo + xu4), wi := (s.wi + xu5), a0 := xu6, c1 := xu8, ps := L } : Sk) false : Int) ≤ (shN s false : Int))) = true from (decide_eq_true h19)]); (try rfl)), M.mask [] rfl⟩
       replace h19 := of_decide_eq_false h19
       refine lp T (wanted_no rfl rfl (T.ev 0 rfl) (decide_eq_false h19)) ?_; clear T ac; intro ac T
       refine lq T (rn_pick0 rfl (T.ev 1 rfl) (decide_eq_false h19) evc) ?_; clear T ac; intro ac T
       refine lq T (rn_assign rfl (T.ev 0 rfl)) ?_; clear T ac; intro ac T
       refine wpList_nil ?_
       replace T := T.pick [0] rfl
       exact ⟨(T.pick (E' := [(2, .bool false)]) [0] rfl).as (by (try rw [show (!(decide ((shE s true) = 0))) = false from (by simp [h10])]); (try rw [show (decide ((shE s false) = 0)) = true from (decide_eq_true h14)]); (try rw [show (decide ((shN s false : Int) ≤ (shN s true : Int))) = true from (decide_eq_true h15)]); (try rw [show (decide ((shE ({ s with lo := (s.lo + xu4), wi := (s.wi + xu5), a0 := xu6, c1 := xu8, ps := L } : Sk) true) = 0)) = true from (decide_eq_true h16)]); (try rw [show (decide ((shN ({ s with lo := (s.lo + xu4), wi := (s.wi + xu5), a0 := xu6, c1 := xu8, ps := L } : Sk) true : Int) ≤ (shN s true : Int))) = true from (decide_eq_true h17)]); (try rw [show (decide ((shE ({ s with lo := (s.lo + xu4), wi := (s.wi + xu5), a0 := xu6, c1 := xu8, ps := L } : Sk) false) = 0)) = true from (decide_eq_true h18)]); (try rw [show (decide ((shN ({ s with lo := (s.lo + xu4), wi := (s.wi + xu5), a0 := xu6, c1 := xu8, ps := L } : Sk) false : Int) ≤ (shN s false : Int))) = false from (decide_eq_false h19)]); (try rfl)), M.mask [] rfl⟩
      replace h18 := of_decide_eq_false h18
      refine lp T (wanted_no rfl rfl (T.ev 0 rfl) (decide_eq_false h18)) ?_; clear T ac; intro ac T
      refine lp T (wanted_no rfl rfl (T.ev 1 rfl) (decide_eq_false h18)) ?_; clear T ac; intro ac T
      refine lp T (wanted_no rfl rfl (T.ev 2 rfl) (decide_eq_false h18)) ?_; clear T ac; intro ac T
      refine lw T (wanted_yes rfl rfl (T.ev 6 rfl) (by rw [show (decide ((shE s false) = 0)) = true from (decide_eq_true h14)]; rfl)) (rn_pick0 rfl (T.ev 3 rfl) (decide_eq_false h18) evc) ?_; clear T ac; intro ac T
      refine lw T (wanted_yes rfl rfl (T.ev 10 rfl) (decide_eq_true h17)) (rn_pick0 rfl (T.ev 7 rfl) (by rw [show (decide ((shE s false) = 0)) = true from (decide_eq_true h14)]; rfl) (T.ev 0 rfl)) ?_; clear T ac; intro ac T
      refine lq T (rn_pick1 rfl (T.ev 11 rfl) (decide_eq_true h17) (T.ev 0 rfl)) ?_; clear T ac; intro ac T
      refine lq T (rn_move rfl (T.ev 0 rfl)) ?_; clear T ac; intro ac T
      refine lp T (wanted_no rfl rfl (T.ev 0 rfl) rfl) ?_; clear T ac; intro ac T
      refine lq T (rn_pick0 rfl (T.ev 1 rfl) rfl evc) ?_; clear T ac; intro ac T
      refine lq T (rn_assign rfl (T.ev 0 rfl)) ?_; clear T ac; intro ac T
      refine wpList_nil ?_
      replace T := T.pick [0] rfl
      exact ⟨(T.pick (E' := [(2, .bool false)]) [0] rfl).as (by (try rw [show (!(decide ((shE s true) = 0))) = false from (by simp [h10])]); (try rw [show (decide ((shE s false) = 0)) = true from (decide_eq_true h14)]); (try rw [show (decide ((shN s false : Int) ≤ (shN s true : Int))) = true from (decide_eq_true h15)]); (try rw [show (decide ((shE ({ s with lo := (s.lo + xu4), wi := (s.wi + xu5), a0 := xu6, c1 := xu8, ps := L } : Sk) true) = 0)) = true from (decide_eq_true h16)]); (try rw [show (decide ((shN ({ s with lo := (s.lo + xu4), wi := (s.wi + xu5), a0 := xu6, c1 := xu8, ps := L } : Sk) true : Int) ≤ (shN s true : Int))) = true from (decide_eq_true h17)]); (try rw [show (decide ((shE ({ s with lo := (s.lo + xu4), wi := (s.wi + xu5), a0 := xu6, c1 := xu8, ps := L } : Sk) false) = 0)) = false from (decide_eq_false h18)]); (try rfl)), M.mask [] rfl⟩
     replace h17 := of_decide_eq_false h17
     refine lp T (wanted_no rfl rfl (T.ev 0 rfl) (decide_eq_false h17)) ?_; clear T ac; intro ac T
     refine lp T (wanted_no rfl rfl (T.ev 1 rfl) (decide_eq_false h17)) ?_; clear T ac; intro ac T
     refine lp T (wanted_no rfl rfl (T.ev 2 rfl) (decide_eq_false h17)) ?_; clear T ac; intro ac T
     refine lp T (wanted_un rfl rfl (T.ev 0 rfl)) ?_; clear T ac; intro ac T
     refine lp T (wanted_un rfl rfl (T.ev 1 rfl)) ?_; clear T ac; intro ac T
     refine lp T (wanted_un rfl rfl (T.ev 2 rfl)) ?_; clear T ac; intro ac T
     refine lp T (wanted_un rfl rfl (T.ev 0 rfl)) ?_; clear T ac; intro ac T
     refine lp T (wanted_un rfl rfl (T.ev 1 rfl)) ?_; clear T ac; intro ac T
     refine lp T (wanted_un rfl rfl (T.ev 2 rfl)) ?_; clear T ac; intro ac T
     refine lp T (wanted_un rfl rfl (T.ev 6 rfl)) ?_; clear T ac; intro ac T
     refine lp T (wanted_no rfl rfl (T.ev 10 rfl) (decide_eq_false h17)) ?_; clear T ac; intro ac T
     refine lq T (rn_pick0 rfl (T.ev 11 rfl) (decide_eq_false h17) evc) ?_; clear T ac; intro ac T
     refine lq T (rn_move rfl (T.ev 0 rfl)) ?_; clear T ac; intro ac T
     refine lp T (wanted_no rfl rfl (T.ev 0 rfl) rfl) ?_; clear T ac; intro ac T
     refine lq T (rn_pick0 rfl (T.ev 1 rfl) rfl evc) ?_; clear T ac; intro ac T
     refine lq T (rn_assign rfl (T.ev 0 rfl)) ?_; clear T ac; intro ac T
     refine wpList_nil ?_
     replace T := T.pick [0] rfl
     exact ⟨(T.pick (E' := [(2, .bool false)]) [0] rfl).as (by (try rw [show (!(decide ((shE s true) = 0))) = false from (by simp [h10])]); (try rw [show (decide ((shE s false) = 0)) = true from (decide_eq_true h14)]); (try rw [show (decide ((shN s false : Int) ≤ (shN s true : Int))) = true from (decide_eq_true h15)]); (try rw [show (decide ((shE ({ s with lo := (s.lo + xu4), wi := (s.wi + xu5), a0 := xu6, c1 := xu8, ps := L } : Sk) true) = 0)) = true from (decide_eq_true h16)]); (try rw [show (decide ((shN ({ s with lo := (s.lo + xu4), wi := (s.wi + xu5), a0 := xu6, c1 := xu8, ps := L } : Sk) true : Int) ≤ (shN s true : Int))) = false from (decide_eq_false h17)]); (try rfl)), M.mask [] rfl⟩
    replace h16 := of_decide_eq_false h16
    refine lp T (wanted_no rfl rfl (T.ev 0 rfl) (decide_eq_false h16)) ?_; clear T ac; intro ac T
    refine lp T (wanted_no rfl rfl (T.ev 1 rfl) (decide_eq_false h16)) ?_; clear T ac; intro ac T
    refine lp T (wanted_no rfl rfl (T.ev 2 rfl) (decide_eq_false h16)) ?_; clear T ac; intro ac T
    refine lw T (wanted_yes rfl rfl (T.ev 15 rfl) (by simp [h10])) (rn_pick0 rfl (T.ev 3 rfl) (decide_eq_false h16) evc) ?_; clear T ac; intro ac T
    refine lq T (rn_pick0 rfl (T.ev 16 rfl) (by simp [h10]) (T.ev 0 rfl)) ?_; clear T ac; intro ac T
    refine lq T (rn_move rfl (T.ev 0 rfl)) ?_; clear T ac; intro ac T
    refine lp T (wanted_no rfl rfl (T.ev 0 rfl) rfl) ?_; clear T ac; intro ac T
    refine lp T (wanted_no rfl rfl (T.ev 1 rfl) rfl) ?_; clear T ac; intro ac T
    refine lp T (wanted_no rfl rfl (T.ev 2 rfl) rfl) ?_; clear T ac; intro ac T
    refine lp T (wanted_un rfl rfl (T.ev 0 rfl)) ?_; clear T ac; intro ac T
    refine lp T (wanted_un rfl rfl (T.ev 1 rfl)) ?_; clear T ac; intro ac T
    refine lp T (wanted_un rfl rfl (T.ev 2 rfl)) ?_; clear T ac; intro ac T
    refine lp T (wanted_un rfl rfl (T.ev 0 rfl)) ?_; clear T ac; intro ac T
    refine lp T (wanted_un rfl rfl (T.ev 1 rfl)) ?_; clear T ac; intro ac T
    refine lp T (wanted_un rfl rfl (T.ev 2 rfl)) ?_; clear T ac; intro ac T
    refine lp T (wanted_un rfl rfl (T.ev 6 rfl)) ?_; clear T ac; intro ac T
    refine lp T (wanted_no rfl rfl (T.ev 10 rfl) rfl) ?_; clear T ac; intro ac T
    refine lq T (rn_pick0 rfl (T.ev 11 rfl) rfl evc) ?_; clear T ac; intro ac T
    refine lq T (rn_move rfl (T.ev 0 rfl)) ?_; clear T ac; intro ac T
    refine lp T (wanted_no rfl rfl (T.ev 0 rfl) rfl) ?_; clear T ac; intro ac T
    refine lq T (rn_pick0 rfl (T.ev 1 rfl) rfl evc) ?_; clear T ac; intro ac T
    refine lq T (rn_assign rfl (T.ev 0 rfl)) ?_; clear T ac; intro ac T
    refine wpList_nil ?_
    replace T := T.pick [0] rfl
    exact ⟨(T.pick (E' := [(2, .bool false)]) [0] rfl).as (by (try rw [show (!(decide ((shE s true) = 0))) = false from (by simp [h10])]); (try rw [show (decide ((shE s false) = 0)) = true from (decide_eq_true h14)]); (try rw [show (decide ((shN s false : Int) ≤ (shN s true : Int))) = true from (decide_eq_true h15)]); (try rw [show (decide ((shE ({ s with lo := (s.lo + xu4), wi := (s.wi + xu5), a0 := xu6, c1 := xu8, ps := L } : Sk) true) = 0)) = false from (decide_eq_false h16)]); (try rfl)), M.mask [] rfl⟩
   replace h15 := of_decide_eq_false h15
   refine lp T (wanted_no rfl rfl (T.ev 0 rfl) (decide_eq_false h15)) ?_; clear T ac; intro ac T
   refine lp T (wanted_no rfl rfl (T.ev 1 rfl) (decide_eq_false h15)) ?_; clear T ac; intro ac T
   refine lw T (wanted_yes rfl rfl (T.ev 10 rfl) (by simp [h10])) (rn_pick0 rfl (T.ev 2 rfl) (decide_eq_false h15) evc) ?_; clear T ac; intro ac T
   refine lw T (wanted_yes rfl rfl (T.ev 11 rfl) (by simp [h10])) (rn_move rfl (T.ev 0 rfl)) ?_; clear T ac; intro ac T
   refine lp T (wanted_no rfl rfl (T.ev 0 rfl) rfl) ?_; clear T ac; intro ac T
   refine lp T (wanted_no rfl rfl (T.ev 1 rfl) rfl) ?_; clear T ac; intro ac T
   refine lp T (wanted_no rfl rfl (T.ev 2 rfl) rfl) ?_; clear T ac; intro ac T
   refine lw T (wanted_yes rfl rfl (T.ev 15 rfl) (by simp [h10])) (rn_pick0 rfl (T.ev 3 rfl) rfl evc) ?_; clear T ac; intro ac T
   refine lq T (rn_pick0 rfl (T.ev 16 rfl) (by simp [h10]) (T.ev 0 rfl)) ?_; clear T ac; intro ac T
   refine lq T (rn_move rfl (T.ev 0 rfl)) ?_; clear T ac; intro ac T
   refine lp T (wanted_no rfl rfl (T.ev 0 rfl) rfl) ?_; clear T ac; intro ac T
   refine lp T (wanted_no rfl rfl (T.ev 1 rfl) rfl) ?_; clear T ac; intro ac T
   refine lp T (wanted_no rfl rfl (T.ev 2 rfl) rfl) ?_; clear T ac; intro ac T
   refine lp T (wanted_un rfl rfl (T.ev 0 rfl)) ?_; clear T ac; intro ac T
   refine lp T (wanted_un rfl rfl (T.ev 1 rfl)) ?_; clear T ac; intro ac T
   refine lp T (wanted_un rfl rfl (T.ev 2 rfl)) ?_; clear T ac; intro ac T
   refine lp T (wanted_un rfl rfl (T.ev 0 rfl)) ?_; clear T ac; intro ac T
   refine lp T (wanted_un rfl rfl (T.ev 1 rfl)) ?_; clear T ac; intro ac T
   refine lp T (wanted_un rfl rfl (T.ev 2 rfl)) ?_; clear T ac; intro ac T
   refine lp T (wanted_un rfl rfl (T.ev 6 rfl)) ?_; clear T ac; intro ac T
   refine lp T (wanted_no rfl rfl (T.ev 10 rfl) rfl) ?_; clear T ac; intro ac T
   refine lq T (rn_pick0 rfl (T.ev 11 rfl) rfl evc) ?_; clear T ac; intro ac T
   refine lq T (rn_move rfl (T.ev 0 rfl)) ?_; clear T ac; intro ac T
   refine lp T (wanted_no rfl rfl (T.ev 0 rfl) rfl) ?_; clear T ac; intro ac T
   refine lq T (rn_pick0 rfl (T.ev 1 rfl) rfl evc) ?_; clear T ac; intro ac T
   refine lq T (rn_assign rfl (T.ev 0 rfl)) ?_; clear T ac; intro ac T
   refine wpList_nil ?_
   replace T := T.pick [0] rfl
   exact ⟨(T.pick (E' := [(2, .bool false)]) [0] rfl).as (by (try rw [show (!(decide ((shE s true) = 0))) = false from (by simp [h10])]); (try rw [show (decide ((shE s false) = 0)) = true from (decide_eq_true h14)]); (try rw [show (decide ((shN s false : Int) ≤ (shN s true : Int))) = false from (decide_eq_false h15)]); (try rfl)), M.mask [] rfl⟩
  replace h14 := of_decide_eq_false h14
  refine lp T (wanted_no rfl rfl (T.ev 0 rfl) (decide_eq_false h14)) ?_; clear T ac; intro ac T
  refine lp T (wanted_no rfl rfl (T.ev 1 rfl) (decide_eq_false h14)) ?_; clear T ac; intro ac T
  refine lp T (wanted_no rfl rfl (T.ev 2 rfl) (decide_eq_false h14)) ?_; clear T ac; intro ac T
  refine lw T (wanted_yes rfl rfl (T.ev 6 rfl) (by simp [h10])) (rn_pick0 rfl (T.ev 3 rfl) (decide_eq_false h14) evc) ?_; clear T ac; intro ac T
  refine lw T (wanted_yes rfl rfl (T.ev 7 rfl) (by simp [h10])) (rn_move rfl (T.ev 0 rfl)) ?_; clear T ac; intro ac T
  refine lp T (wanted_no rfl rfl (T.ev 0 rfl) rfl) ?_; clear T ac; intro ac T
  refine lp T (wanted_no rfl rfl (T.ev 1 rfl) rfl) ?_; clear T ac; intro ac T
  refine lw T (wanted_yes rfl rfl (T.ev 10 rfl) (by simp [h10])) (rn_pick0 rfl (T.ev 2 rfl) rfl evc) ?_; clear T ac; intro ac T
  refine lw T (wanted_yes rfl rfl (T.ev 11 rfl) (by simp [h10])) (rn_move rfl (T.ev 0 rfl)) ?_; clear T ac; intro ac T
  refine lp T (wanted_no rfl rfl (T.ev 0 rfl) rfl) ?_; clear T ac; intro ac T
  refine lp T (wanted_no rfl rfl (T.ev 1 rfl) rfl) ?_; clear T ac; intro ac T
  refine lp T (wanted_no rfl rfl (T.ev 2 rfl) rfl) ?_; clear T ac; intro ac T
  refine lw T (wanted_yes rfl rfl (T.ev 15 rfl) (by simp [h10])) (rn_pick0 rfl (T.ev 3 rfl) rfl evc) ?_; clear T ac; intro ac T
  refine lq T (rn_pick0 rfl (T.ev 16 rfl) (by simp [h10]) (T.ev 0 rfl)) ?_; clear T ac; intro ac T
  refine lq T (rn_move rfl (T.ev 0 rfl)) ?_; clear T ac; intro ac T
  refine lp T (wanted_no rfl rfl (T.ev 0 rfl) rfl) ?_; clear T ac; intro ac T
  refine lp T (wanted_no rfl rfl (T.ev 1 rfl) rfl) ?_; clear T ac; intro ac T
  refine lp T (wanted_no rfl rfl (T.ev 2 rfl) rfl) ?_; clear T ac; intro ac T
  refine lp T (wanted_un rfl rfl (T.ev 0 rfl)) ?_; clear T ac; intro ac T
  refine lp T (wanted_un rfl rfl (T.ev 1 rfl)) ?_; clear T ac; intro ac T
  refine lp T (wanted_un rfl rfl (T.ev 2 rfl)) ?_; clear T ac; intro ac T
  refine lp T (wanted_un rfl rfl (T.ev 0 rfl)) ?_; clear T ac; intro ac T
  refine lp T (wanted_un rfl rfl (T.ev 1 rfl)) ?_; clear T ac; intro ac T
  refine lp T (wanted_un rfl rfl (T.ev 2 rfl)) ?_; clear T ac; intro ac T
  refine lp T (wanted_un rfl rfl (T.ev 6 rfl)) ?_; clear T ac; intro ac T
  refine lp T (wanted_no rfl rfl (T.ev 10 rfl) rfl) ?_; clear T ac; intro ac T
  refine lq T (rn_pick0 rfl (T.ev 11 rfl) rfl evc) ?_; clear T ac; intro ac T
  refine lq T (rn_move rfl (T.ev 0 rfl)) ?_; clear T ac; intro ac T
  refine lp T (wanted_no rfl rfl (T.ev 0 rfl) rfl) ?_; clear T ac; intro ac T
  refine lq T (rn_pick0 rfl (T.ev 1 rfl) rfl evc) ?_; clear T ac; intro ac T
  refine lq T (rn_assign rfl (T.ev 0 rfl)) ?_; clear T ac; intro ac T
  refine wpList_nil ?_
  replace T := T.pick [0] rfl
  exact ⟨(T.pick (E' := [(2, .bool false)]) [0] rfl).as (by (try rw [show (!(decide ((shE s true) = 0))) = false from (by simp [h10])]); (try rw [show (decide ((shE s false) = 0)) = false from (decide_eq_false h14)]); (try rfl)), M.mask [] rfl⟩
 clear T M
 rintro ac wc ⟨T, M⟩
 refine wp_ret ?_
 refine rt_1 T rfl (T.ev 0 rfl) ?_
 exact ⟨ret_bool (by have hA := hXt true; have hB := hXf false; have hH := fun h => hope_law hsgs h; have hA := hA (by unfold cutA; simp) (by unfold cutC; simp; omega); have hB := hB (by unfold cutA; simp; omega) (by unfold cutC; simp); rcases shE_cases hsgs true with a1 | a1 <;> rcases shE_cases hsgs false with a2 | a2 <;> simp_all), M.below⟩
end Go.Proofs.YtehpcclfgjccbaaDoor

/-
  The law ReedMirrored, walked.
-/
import Derived.Test.YthlpceoajhcliaaK6
import Derived.Test.YthlpceoajhcliaaPMir
namespace Go.Proofs.Ythlpceoajhcliaa
set_option linter.unusedSimpArgs false
set_option linter.unusedVariables false
open Go.RowKit

theorem mir_set {l : List (Int × Int)} {k : Nat} {x y : Int} (h : l[k]? = some (x, y)) : ((l.take k).map m2 ++ l.drop k).set k (-y, -x) = (l.take (k + 1)).map m2 ++ l.drop (k + 1) := by
  have hk := (List.getElem?_eq_some_iff.1 h).1
  have hx := (List.getElem?_eq_some_iff.1 h).2
  rw [List.set_append, if_neg (by simp only [List.length_map, List.length_take]; omega), List.drop_eq_getElem_cons hk, List.take_succ_eq_append_getElem hk, List.map_append, List.append_assoc]
  congr 1
  simp only [List.length_map, List.length_take, Nat.min_eq_left (Nat.le_of_lt hk), Nat.sub_self, List.set_cons_zero, List.map_cons, List.map_nil, List.singleton_append, hx, m2]
theorem mir_take {l : List Int} {k : Nat} {x : Int} (h : l[k]? = some x) : ic ((l.take k).map (3 - ·)) ++ [.int .i64 (3 - x)] = ic ((l.take (k + 1)).map (3 - ·)) := by
  have hk := (List.getElem?_eq_some_iff.1 h).1
  rw [List.take_succ_eq_append_getElem hk, (List.getElem?_eq_some_iff.1 h).2, List.map_append]
  simp [ic]
theorem fine_ok {j : Jb} (h : j.good) {l : List Int} (hl : l.length ≤ 6) (hk : ∀ k ∈ l, k = 1 ∨ k = 2) : fineT j l = (fineJ j (j.st.after l), 0) ∧ afT j l = j.st.after l ∧ checkStrokesJ j l = 0 := by
  have e := strokes_ok h hl hk
  unfold fineT afT
  rw [if_pos e, if_pos e]
  exact ⟨rfl, rfl, e⟩
theorem mirrored {j : Jb} (h : j.good) {l : List Int} (hl : l.length ≤ 6) (hk : ∀ k ∈ l, k = 1 ∨ k = 2) : fineT (mirJ j) (l.map (3 - ·)) = fineT j l ∧ (fineT j l).2 = 0 ∧ checkStrokesJ (mirJ j) (l.map (3 - ·)) = 0 ∧ checkStrokesJ j l = 0 ∧ afT (mirJ j) (l.map (3 - ·)) = mirS (afT j l) := by
  have a := fine_ok h hl hk
  have b := fine_ok (good_m h) (l := l.map (3 - ·)) (by rw [List.length_map]; exact hl) (fun k h9 => by obtain ⟨q, hq, rfl⟩ := List.mem_map.1 h9; rcases hk q hq with rfl | rfl <;> omega)
  rw [a.1, b.1, a.2.1, b.2.1, st_m, after_m l _ hk, fine_m]
  exact ⟨rfl, rfl, b.2.2, a.2.2, rfl⟩


set_option maxRecDepth 100000 in
set_option maxHeartbeats 1000000 in
theorem ReedMirrored_any (D : Option Addr) (n d : Nat) (l : List Int) (w : World) (hl : Rd w w.heap.size 1 D n (ic l)) (hm : n ≤ 9223372036854775807) :
    Calls Try.prog 7 #[.slice D n d] w fun e w' => e = .returned (.bool true) ∧ Below w.heap.size w w' := by
  have hll := hl.len1
  obtain ⟨bI, oI, SI⟩ := Sp.old hl
  refine px_enter noEx Try.func7 rfl 285 rfl [.slice D n d] rfl rfl (Mem.init w _) ?_
  intro ac wc T M
  refine wp_seq ?_
  refine wp_region_lit ?_
  refine l_q T rfl rfl rfl rfl (rn_assign rfl evc) ?_; clear T ac; intro ac T
  refine wpList_nil ?_
  replace T := T.pick [1] rfl
  refine nm_then ?_
  refine wp_seq ?_
  refine wp_region_lit ?_
  refine l_q T rfl rfl rfl rfl (rn_move rfl (T.ev 0 rfl)) ?_; clear T ac; intro ac T
  refine l_w rfl ?_; intro K hK
  refine ow_call (first := []) (cap := []) T rfl rfl rfl rfl evf (.cons (T.ev 0 rfl) .nil) Try.func16 rfl rfl ?_
  refine Calls.mono (newPot_any _ _ _ l _ (SI.rd M (List.nil_sublist _)) (by omega)) ?_
  clear T
  rintro e wc ⟨bpu1, su1, hsu1, rfl, N⟩
  intro ac T
  replace M := M.join N; clear N
  replace M := M.mask [true] rfl
  refine sh_out hK _ _ ?_; clear hK K
  refine l_q T rfl rfl rfl rfl (rn_assign rfl (T.ev 0 rfl)) ?_; clear T ac; intro ac T
  refine wpList_nil ?_
  replace T := T.pick [0] rfl
  refine nm_then ?_
  refine wp_seq ?_
  refine wp_region_lit ?_
  refine l_q T rfl rfl rfl rfl (rn_move rfl (T.ev 0 rfl)) ?_; clear T ac; intro ac T
  refine l_w rfl ?_; intro K hK
  refine ow_call (first := []) (cap := []) T rfl rfl rfl rfl evf (.cons (T.ev 0 rfl) (.cons evc (.cons evc .nil))) Try.func17 rfl rfl ?_
  refine Calls.mono (jobOf_any _ bpu1 3 1 _ (by omega) (by omega) (by omega) (by omega) (M.nth 0 rfl) hsu1) ?_
  clear T
  rintro e wc ⟨ju2, Au2, cu2, su2, Iu2, rfl, hmu2, hsu2, hslu2, N⟩
  intro ac T
  obtain ⟨bu2, ou2, Su2⟩ := hslu2.sp (w := w) (ex := noEx) (rc_length _)
  replace M := (M.joinW .head N).swapI
  replace M := M.mask [true] rfl
  clear N hslu2
  have hgu2 := hmu2.good
  have hfewu2 := hgu2.few
  have hpu2 := hgu2.p
  have hmeu2 := hgu2.me
  refine sh_out hK _ _ ?_; clear hK K
  refine l_w rfl ?_; intro K hK
  refine ow_al M T rfl rfl rfl rfl ?_; clear M T; intro g1 wc ac M T
  refine sh_out hK _ _ ?_; clear hK K
  refine l_w rfl ?_; intro K hK
  refine ow_stO M T rfl rfl (T.ev 0 rfl) (T.ev 1 rfl) rfl .head rfl (by simp) rfl (by kernel_rfl) ?_; clear M T; intro wc ac M T
  refine sh_out hK _ _ ?_; clear hK K
  refine wpList_nil ?_
  replace T := T.pick [0, 3] rfl
  refine nm_then ?_
  refine wp_seq ?_
  refine wp_region_lit ?_
  refine l_q T rfl rfl rfl rfl (rn_rowO (Mem.nth M 0 rfl) rfl (T.ev 0 rfl) rfl) ?_; clear T ac; intro ac T
  refine l_w rfl ?_; intro K hK
  refine ow_call (first := []) (cap := []) T rfl rfl rfl rfl evf (.cons (T.ev 0 rfl) .nil) Try.func18 rfl rfl ?_
  refine Calls.mono (copyJob_own ju2 _ _ _ (Su2.rd M (.cons _ (.cons _ (List.Sublist.refl _)))) (by omega)) ?_
  clear T
  rintro e wc ⟨Au3, cu3, Iu3, rfl, hsmu3, N⟩
  intro ac T
  replace M := (M.join N).swapI
  obtain ⟨bu3, Ju3, hswu3, M⟩ := Sm.sw (L := ((g1, .cells (jobL ju2 Au2 cu2)) :: (bpu1, .cells [.int .u64 su2]) :: Iu2)) hsmu3 M
  replace M : Mem w noEx wc ((g1, .cells (jobL ju2 Au2 cu2)) :: (bpu1, .cells [.int .u64 su2]) :: (Iu2 ++ Ju3)) := M
  have Su3 := hswu3.sp (w := w) (ex := noEx)
  clear N hsmu3
  refine sh_out hK _ _ ?_; clear hK K
  refine l_w rfl ?_; intro K hK
  refine ow_al M T rfl rfl rfl rfl ?_; clear M T; intro g2 wc ac M T
  refine sh_out hK _ _ ?_; clear hK K
  refine l_w rfl ?_; intro K hK
  refine ow_stO M T rfl rfl (T.ev 0 rfl) (T.ev 1 rfl) rfl .head rfl (by simp) rfl (by kernel_rfl) ?_; clear M T; intro wc ac M T
  refine sh_out hK _ _ ?_; clear hK K
  refine wpList_nil ?_
  replace T := T.pick [0, 3, 4] rfl
  refine nm_then ?_
  refine wp_seq ?_
  refine wp_region_lit ?_
  refine l_q (v := (.pointer (some ⟨g1, 0, none⟩))) T rfl rfl rfl rfl (rn_fieldAddr (off := 0) rfl (T.ev 1 rfl) (fun _ _ _ => by kernel_rfl)) ?_; clear T ac; intro ac T
  refine l_q (v := (.pointer (some ⟨g1, 0, none⟩))) T rfl rfl rfl rfl (rn_fieldAddr (off := 0) rfl (T.ev 0 rfl) (fun _ _ _ => by kernel_rfl)) ?_; clear T ac; intro ac T
  refine l_q (v := (.pointer (some ⟨g1, 1, none⟩))) T rfl rfl rfl rfl (rn_fieldAddr (off := 1) rfl (T.ev 0 rfl) (fun _ _ _ => by kernel_rfl)) ?_; clear T ac; intro ac T
  refine l_q T rfl rfl rfl rfl (rn_one (Mem.nth M 1 rfl) rfl (T.ev 0 rfl) rfl) ?_; clear T ac; intro ac T
  refine l_q T rfl rfl rfl rfl (rn_neg rfl (T.ev 0 rfl) (by omega)) ?_; clear T ac; intro ac T
  refine l_q (v := (.pointer (some ⟨g1, 0, none⟩))) T rfl rfl rfl rfl (rn_fieldAddr (off := 0) rfl (T.ev 6 rfl) (fun _ _ _ => by kernel_rfl)) ?_; clear T ac; intro ac T
  refine l_q (v := (.pointer (some ⟨g1, 0, none⟩))) T rfl rfl rfl rfl (rn_fieldAddr (off := 0) rfl (T.ev 0 rfl) (fun _ _ _ => by kernel_rfl)) ?_; clear T ac; intro ac T
  refine l_q (v := (.pointer (some ⟨g1, 0, none⟩))) T rfl rfl rfl rfl (rn_fieldAddr (off := 0) rfl (T.ev 0 rfl) (fun _ _ _ => by kernel_rfl)) ?_; clear T ac; intro ac T
  refine l_q T rfl rfl rfl rfl (rn_one (Mem.nth M 1 rfl) rfl (T.ev 0 rfl) rfl) ?_; clear T ac; intro ac T
  refine l_q T rfl rfl rfl rfl (rn_neg rfl (T.ev 0 rfl) (by omega)) ?_; clear T ac; intro ac T
  refine l_w rfl ?_; intro K hK
  refine ow_call (first := []) (cap := []) T rfl rfl rfl rfl evf (.cons (T.ev 5 rfl) (.cons (T.ev 0 rfl) .nil)) Try.func31 rfl rfl ?_
  refine Calls.mono (to_any (-ju2.p1) (-ju2.p0) _) ?_
  clear T
  rintro e wc ⟨rfl, hb⟩
  intro ac T
  replace M := M.call hb; clear hb
  refine sh_out hK _ _ ?_; clear hK K
  refine l_q (v := (.pointer (some ⟨g2, 0, none⟩))) T rfl rfl rfl rfl (rn_fieldAddr (off := 0) rfl (T.ev 11 rfl) (fun _ _ _ => by kernel_rfl)) ?_; clear T ac; intro ac T
  refine l_q (v := (.pointer (some ⟨g2, 0, none⟩))) T rfl rfl rfl rfl (rn_fieldAddr (off := 0) rfl (T.ev 0 rfl) (fun _ _ _ => by kernel_rfl)) ?_; clear T ac; intro ac T
  refine l_w rfl ?_; intro K hK
  refine ow_stO M T rfl rfl (T.ev 0 rfl) (T.ev 2 rfl) rfl .head rfl (by simp) rfl (by kernel_rfl) ?_; clear M T; intro wc ac M T
  refine sh_out hK _ _ ?_; clear hK K
  refine wpList_nil ?_
  replace T := T.pick [13, 14, 15] rfl
  refine nm_then ?_
  refine wp_seq ?_
  refine g_start2 M (M.mask [false, true, true] rfl) 36 (by kernel_rfl) rfl (by kernel_rfl) ?_
  clear M; intro wc M
  refine g_addG 20 M ?_
  refine g_q (v := (.pointer (some ⟨g1, 0, none⟩))) (T := T) (i := 0) rfl (by kernel_rfl) (by kernel_rfl : (pbits 36 0).setIfInBounds 0 true = pbits 36 1) (si_and (si_G rfl) si_U) (fun _ _ _ h => h) rfl rfl rfl rfl (fun _ _ _ _ _ => (rn_fieldAddr (off := 0) rfl (T.ev 1 rfl) (fun _ _ _ => by kernel_rfl))) ?_; clear T ac; intro ac T
  refine g_q (v := (.pointer (some ⟨g1, 4, none⟩))) (T := T) (i := 1) rfl (by kernel_rfl) (by kernel_rfl : (pbits 36 1).setIfInBounds 1 true = pbits 36 3) (si_and (si_G rfl) si_U) (fun _ _ _ h => h) rfl rfl rfl rfl (fun _ _ _ _ _ => (rn_fieldAddr (off := 4) rfl (T.ev 0 rfl) (fun _ _ _ => by kernel_rfl))) ?_; clear T ac; intro ac T
  refine g_q (T := T) (i := 2) rfl (by kernel_rfl) (by kernel_rfl : (pbits 36 3).setIfInBounds 2 true = pbits 36 7) (si_and (si_G rfl) si_U) (fun _ _ _ h => h) rfl rfl rfl rfl (fun B w' hD hl hS => (rn_rowO (Mem.nth (show Mem w noEx w' _ from ((MA.lft hS) (hD.wait (i := 2) (m := 20) (by kernel_rfl) hl))) 1 rfl) rfl (T.ev 0 rfl) rfl)) ?_; clear T ac; intro ac T
  refine g_q (v := (.pointer (some ⟨g1, 0, none⟩))) (T := T) (i := 3) rfl (by kernel_rfl) (by kernel_rfl : (pbits 36 7).setIfInBounds 3 true = pbits 36 15) (si_and (si_G rfl) si_U) (fun _ _ _ h => h) rfl rfl rfl rfl (fun _ _ _ _ _ => (rn_fieldAddr (off := 0) rfl (T.ev 4 rfl) (fun _ _ _ => by kernel_rfl))) ?_; clear T ac; intro ac T
  refine g_q (v := (.pointer (some ⟨g1, 2, none⟩))) (T := T) (i := 4) rfl (by kernel_rfl) (by kernel_rfl : (pbits 36 15).setIfInBounds 4 true = pbits 36 31) (si_and (si_G rfl) si_U) (fun _ _ _ h => h) rfl rfl rfl rfl (fun _ _ _ _ _ => (rn_fieldAddr (off := 2) rfl (T.ev 0 rfl) (fun _ _ _ => by kernel_rfl))) ?_; clear T ac; intro ac T
  refine g_q (T := T) (i := 5) rfl (by kernel_rfl) (by kernel_rfl : (pbits 36 31).setIfInBounds 5 true = pbits 36 63) (si_and (si_G rfl) si_U) (fun _ _ _ h => h) rfl rfl rfl rfl (fun B w' hD hl hS => (rn_rowO (Mem.nth (show Mem w noEx w' _ from (MA.rgt hS)) 0 rfl) rfl (T.ev 0 rfl) rfl)) ?_; clear T ac; intro ac T
  refine g_q (v := (.pointer (some ⟨g1, 6, none⟩))) (T := T) (i := 6) rfl (by kernel_rfl) (by kernel_rfl : (pbits 36 63).setIfInBounds 6 true = pbits 36 127) (si_and (si_G rfl) si_U) (fun _ _ _ h => h) rfl rfl rfl rfl (fun _ _ _ _ _ => (rn_fieldAddr (off := 6) rfl (T.ev 7 rfl) (fun _ _ _ => by kernel_rfl))) ?_; clear T ac; intro ac T
  refine g_q (v := (.pointer (some ⟨g1, 8, none⟩))) (T := T) (i := 7) rfl (by kernel_rfl) (by kernel_rfl : (pbits 36 127).setIfInBounds 7 true = pbits 36 255) (si_and (si_G rfl) si_U) (fun _ _ _ h => h) rfl rfl rfl rfl (fun _ _ _ _ _ => (rn_fieldAddr (off := 2) rfl (T.ev 0 rfl) (fun _ _ _ => by kernel_rfl))) ?_; clear T ac; intro ac T
  refine g_q (T := T) (i := 8) rfl (by kernel_rfl) (by kernel_rfl : (pbits 36 255).setIfInBounds 8 true = pbits 36 511) (si_and (si_G rfl) si_U) (fun _ _ _ h => h) rfl rfl rfl rfl (fun B w' hD hl hS => (rn_rowO (Mem.nth (show Mem w noEx w' _ from (MA.rgt hS)) 0 rfl) rfl (T.ev 0 rfl) rfl)) ?_; clear T ac; intro ac T
  refine g_q (v := (.pointer (some ⟨g1, 6, none⟩))) (T := T) (i := 9) rfl (by kernel_rfl) (by kernel_rfl : (pbits 36 511).setIfInBounds 9 true = pbits 36 1023) (si_and (si_G rfl) si_U) (fun _ _ _ h => h) rfl rfl rfl rfl (fun _ _ _ _ _ => (rn_fieldAddr (off := 6) rfl (T.ev 10 rfl) (fun _ _ _ => by kernel_rfl))) ?_; clear T ac; intro ac T
  refine g_q (v := (.pointer (some ⟨g1, 6, none⟩))) (T := T) (i := 10) rfl (by kernel_rfl) (by kernel_rfl : (pbits 36 1023).setIfInBounds 10 true = pbits 36 2047) (si_and (si_G rfl) si_U) (fun _ _ _ h => h) rfl rfl rfl rfl (fun _ _ _ _ _ => (rn_fieldAddr (off := 0) rfl (T.ev 0 rfl) (fun _ _ _ => by kernel_rfl))) ?_; clear T ac; intro ac T
  refine g_q (T := T) (i := 11) rfl (by kernel_rfl) (by kernel_rfl : (pbits 36 2047).setIfInBounds 11 true = pbits 36 4095) (si_and (si_G rfl) si_U) (fun _ _ _ h => h) rfl rfl rfl rfl (fun B w' hD hl hS => (rn_rowO (Mem.nth (show Mem w noEx w' _ from (MA.rgt hS)) 0 rfl) rfl (T.ev 0 rfl) rfl)) ?_; clear T ac; intro ac T
  refine g_q (v := (.pointer (some ⟨g1, 6, none⟩))) (T := T) (i := 12) rfl (by kernel_rfl) (by kernel_rfl : (pbits 36 4095).setIfInBounds 12 true = pbits 36 8191) (si_and (si_G rfl) si_U) (fun _ _ _ h => h) rfl rfl rfl rfl (fun _ _ _ _ _ => (rn_fieldAddr (off := 6) rfl (T.ev 13 rfl) (fun _ _ _ => by kernel_rfl))) ?_; clear T ac; intro ac T
  refine g_q (v := (.pointer (some ⟨g1, 12, none⟩))) (T := T) (i := 13) rfl (by kernel_rfl) (by kernel_rfl : (pbits 36 8191).setIfInBounds 13 true = pbits 36 16383) (si_and (si_G rfl) si_U) (fun _ _ _ h => h) rfl rfl rfl rfl (fun _ _ _ _ _ => (rn_fieldAddr (off := 6) rfl (T.ev 0 rfl) (fun _ _ _ => by kernel_rfl))) ?_; clear T ac; intro ac T
  refine g_q (T := T) (i := 14) rfl (by kernel_rfl) (by kernel_rfl : (pbits 36 16383).setIfInBounds 14 true = pbits 36 32767) (si_and (si_G rfl) si_U) (fun _ _ _ h => h) rfl rfl rfl rfl (fun B w' hD hl hS => (rn_rowO (Mem.nth (show Mem w noEx w' _ from (MA.rgt hS)) 0 rfl) rfl (T.ev 0 rfl) rfl)) ?_; clear T ac; intro ac T
  refine g_q (v := (.pointer (some ⟨g1, 6, none⟩))) (T := T) (i := 15) rfl (by kernel_rfl) (by kernel_rfl : (pbits 36 32767).setIfInBounds 15 true = pbits 36 65535) (si_and (si_G rfl) si_U) (fun _ _ _ h => h) rfl rfl rfl rfl (fun _ _ _ _ _ => (rn_fieldAddr (off := 6) rfl (T.ev 16 rfl) (fun _ _ _ => by kernel_rfl))) ?_; clear T ac; intro ac T
  refine g_q (v := (.pointer (some ⟨g1, 10, none⟩))) (T := T) (i := 16) rfl (by kernel_rfl) (by kernel_rfl : (pbits 36 65535).setIfInBounds 16 true = pbits 36 131071) (si_and (si_G rfl) si_U) (fun _ _ _ h => h) rfl rfl rfl rfl (fun _ _ _ _ _ => (rn_fieldAddr (off := 4) rfl (T.ev 0 rfl) (fun _ _ _ => by kernel_rfl))) ?_; clear T ac; intro ac T
  refine g_q (T := T) (i := 17) rfl (by kernel_rfl) (by kernel_rfl : (pbits 36 131071).setIfInBounds 17 true = pbits 36 262143) (si_and (si_G rfl) si_U) (fun _ _ _ h => h) rfl rfl rfl rfl (fun B w' hD hl hS => (rn_rowO (Mem.nth (show Mem w noEx w' _ from (MA.rgt hS)) 0 rfl) rfl (T.ev 0 rfl) rfl)) ?_; clear T ac; intro ac T
  refine g_q (v := (.pointer (some ⟨g2, 0, none⟩))) (T := T) (i := 18) rfl (by kernel_rfl) (by kernel_rfl : (pbits 36 262143).setIfInBounds 18 true = pbits 36 524287) (si_and (si_G rfl) si_U) (fun _ _ _ h => h) rfl rfl rfl rfl (fun _ _ _ _ _ => (rn_fieldAddr (off := 0) rfl (T.ev 18 rfl) (fun _ _ _ => by kernel_rfl))) ?_; clear T ac; intro ac T
  refine g_q (v := (.pointer (some ⟨g2, 2, none⟩))) (T := T) (i := 19) rfl (by kernel_rfl) (by kernel_rfl : (pbits 36 524287).setIfInBounds 19 true = pbits 36 1048575) (si_and (si_G rfl) si_U) (fun _ _ _ h => h) rfl rfl rfl rfl (fun _ _ _ _ _ => (rn_fieldAddr (off := 2) rfl (T.ev 0 rfl) (fun _ _ _ => by kernel_rfl))) ?_; clear T ac; intro ac T
  refine g_w (i := 20) (by kernel_rfl) rfl (by kernel_rfl : (pbits 36 1048575).setIfInBounds 20 true = pbits 36 2097151) rfl ?_; intro K hK
  refine ow_stO M T rfl rfl (T.ev 0 rfl) (T.ev 17 rfl) rfl .head rfl (by simp) rfl (by kernel_rfl) ?_; clear M T; intro wc ac M T
  refine sh_out hK _ _ (MA.mk (fun h => (no_of (by kernel_rfl) h).elim) (M.mask [false, true, true] rfl)) ?_; clear hK K
  refine g_q (v := (.pointer (some ⟨g2, 0, none⟩))) (T := T) (i := 21) rfl (by kernel_rfl) (by kernel_rfl : (pbits 36 2097151).setIfInBounds 21 true = pbits 36 4194303) (si_and (si_G rfl) si_U) (fun _ _ _ h => h) rfl rfl rfl rfl (fun _ _ _ _ _ => (rn_fieldAddr (off := 0) rfl (T.ev 20 rfl) (fun _ _ _ => by kernel_rfl))) ?_; clear T ac; intro ac T
  refine g_q (v := (.pointer (some ⟨g2, 4, none⟩))) (T := T) (i := 22) rfl (by kernel_rfl) (by kernel_rfl : (pbits 36 4194303).setIfInBounds 22 true = pbits 36 8388607) (si_and (si_G rfl) si_U) (fun _ _ _ h => h) rfl rfl rfl rfl (fun _ _ _ _ _ => (rn_fieldAddr (off := 4) rfl (T.ev 0 rfl) (fun _ _ _ => by kernel_rfl))) ?_; clear T ac; intro ac T
  refine g_w (i := 23) (by kernel_rfl) rfl (by kernel_rfl : (pbits 36 8388607).setIfInBounds 23 true = pbits 36 16777215) rfl ?_; intro K hK
  refine ow_stO M T rfl rfl (T.ev 0 rfl) (T.ev 16 rfl) rfl .head rfl (by simp) rfl (by kernel_rfl) ?_; clear M T; intro wc ac M T
  refine sh_out hK _ _ (MA.mk (fun h => (no_of (by kernel_rfl) h).elim) (M.mask [false, true, true] rfl)) ?_; clear hK K
  refine g_q (v := (.pointer (some ⟨g2, 6, none⟩))) (T := T) (i := 24) rfl (by kernel_rfl) (by kernel_rfl : (pbits 36 16777215).setIfInBounds 24 true = pbits 36 33554431) (si_and (si_G rfl) si_U) (fun _ _ _ h => h) rfl rfl rfl rfl (fun _ _ _ _ _ => (rn_fieldAddr (off := 6) rfl (T.ev 22 rfl) (fun _ _ _ => by kernel_rfl))) ?_; clear T ac; intro ac T
  refine g_q (v := (.pointer (some ⟨g2, 6, none⟩))) (T := T) (i := 25) rfl (by kernel_rfl) (by kernel_rfl : (pbits 36 33554431).setIfInBounds 25 true = pbits 36 67108863) (si_and (si_G rfl) si_U) (fun _ _ _ h => h) rfl rfl rfl rfl (fun _ _ _ _ _ => (rn_fieldAddr (off := 0) rfl (T.ev 0 rfl) (fun _ _ _ => by kernel_rfl))) ?_; clear T ac; intro ac T
  refine g_w (i := 26) (by kernel_rfl) rfl (by kernel_rfl : (pbits 36 67108863).setIfInBounds 26 true = pbits 36 134217727) rfl ?_; intro K hK
  refine ow_stO M T rfl rfl (T.ev 0 rfl) (T.ev 15 rfl) rfl .head rfl (by simp) rfl (by kernel_rfl) ?_; clear M T; intro wc ac M T
  refine sh_out hK _ _ (MA.mk (fun h => (no_of (by kernel_rfl) h).elim) (M.mask [false, true, true] rfl)) ?_; clear hK K
  refine g_q (v := (.pointer (some ⟨g2, 6, none⟩))) (T := T) (i := 27) rfl (by kernel_rfl) (by kernel_rfl : (pbits 36 134217727).setIfInBounds 27 true = pbits 36 268435455) (si_and (si_G rfl) si_U) (fun _ _ _ h => h) rfl rfl rfl rfl (fun _ _ _ _ _ => (rn_fieldAddr (off := 6) rfl (T.ev 24 rfl) (fun _ _ _ => by kernel_rfl))) ?_; clear T ac; intro ac T
  refine g_q (v := (.pointer (some ⟨g2, 8, none⟩))) (T := T) (i := 28) rfl (by kernel_rfl) (by kernel_rfl : (pbits 36 268435455).setIfInBounds 28 true = pbits 36 536870911) (si_and (si_G rfl) si_U) (fun _ _ _ h => h) rfl rfl rfl rfl (fun _ _ _ _ _ => (rn_fieldAddr (off := 2) rfl (T.ev 0 rfl) (fun _ _ _ => by kernel_rfl))) ?_; clear T ac; intro ac T
  refine g_w (i := 29) (by kernel_rfl) rfl (by kernel_rfl : (pbits 36 536870911).setIfInBounds 29 true = pbits 36 1073741823) rfl ?_; intro K hK
  refine ow_stO M T rfl rfl (T.ev 0 rfl) (T.ev 14 rfl) rfl .head rfl (by simp) rfl (by kernel_rfl) ?_; clear M T; intro wc ac M T
  refine sh_out hK _ _ (MA.mk (fun h => (no_of (by kernel_rfl) h).elim) (M.mask [false, true, true] rfl)) ?_; clear hK K
  refine g_q (v := (.pointer (some ⟨g2, 6, none⟩))) (T := T) (i := 30) rfl (by kernel_rfl) (by kernel_rfl : (pbits 36 1073741823).setIfInBounds 30 true = pbits 36 2147483647) (si_and (si_G rfl) si_U) (fun _ _ _ h => h) rfl rfl rfl rfl (fun _ _ _ _ _ => (rn_fieldAddr (off := 6) rfl (T.ev 26 rfl) (fun _ _ _ => by kernel_rfl))) ?_; clear T ac; intro ac T
  refine g_q (v := (.pointer (some ⟨g2, 10, none⟩))) (T := T) (i := 31) rfl (by kernel_rfl) (by kernel_rfl : (pbits 36 2147483647).setIfInBounds 31 true = pbits 36 4294967295) (si_and (si_G rfl) si_U) (fun _ _ _ h => h) rfl rfl rfl rfl (fun _ _ _ _ _ => (rn_fieldAddr (off := 4) rfl (T.ev 0 rfl) (fun _ _ _ => by kernel_rfl))) ?_; clear T ac; intro ac T
  refine g_w (i := 32) (by kernel_rfl) rfl (by kernel_rfl : (pbits 36 4294967295).setIfInBounds 32 true = pbits 36 8589934591) rfl ?_; intro K hK
  refine ow_stO M T rfl rfl (T.ev 0 rfl) (T.ev 13 rfl) rfl .head rfl (by simp) rfl (by kernel_rfl) ?_; clear M T; intro wc ac M T
  refine sh_out hK _ _ (MA.mk (fun h => (no_of (by kernel_rfl) h).elim) (M.mask [false, true, true] rfl)) ?_; clear hK K
  refine g_q (v := (.pointer (some ⟨g2, 6, none⟩))) (T := T) (i := 33) rfl (by kernel_rfl) (by kernel_rfl : (pbits 36 8589934591).setIfInBounds 33 true = pbits 36 17179869183) (si_and (si_G rfl) si_U) (fun _ _ _ h => h) rfl rfl rfl rfl (fun _ _ _ _ _ => (rn_fieldAddr (off := 6) rfl (T.ev 28 rfl) (fun _ _ _ => by kernel_rfl))) ?_; clear T ac; intro ac T
  refine g_q (v := (.pointer (some ⟨g2, 12, none⟩))) (T := T) (i := 34) rfl (by kernel_rfl) (by kernel_rfl : (pbits 36 17179869183).setIfInBounds 34 true = pbits 36 34359738367) (si_and (si_G rfl) si_U) (fun _ _ _ h => h) rfl rfl rfl rfl (fun _ _ _ _ _ => (rn_fieldAddr (off := 6) rfl (T.ev 0 rfl) (fun _ _ _ => by kernel_rfl))) ?_; clear T ac; intro ac T
  refine g_w (i := 35) (by kernel_rfl) rfl (by kernel_rfl : (pbits 36 34359738367).setIfInBounds 35 true = pbits 36 68719476735) rfl ?_; intro K hK
  refine ow_stO M T rfl rfl (T.ev 0 rfl) (T.ev 12 rfl) rfl .head rfl (by simp) rfl (by kernel_rfl) ?_; clear M T; intro wc ac M T
  refine sh_out hK _ _ (MA.mk (fun h => (no_of (by kernel_rfl) h).elim) (M.mask [false, true, true] rfl)) ?_; clear hK K
  refine g_done (by kernel_rfl) ?_
  replace T := T.pick [30, 31, 32] rfl
  refine nm_then ?_
  refine wp_seq ?_
  refine wp_seq ?_
  refine wp_region_lit ?_
  refine l_q T rfl rfl rfl rfl (rn_assign rfl evc) ?_; clear T ac; intro ac T
  refine wpList_nil ?_
  refine nm_then ?_
  refine wp_block ?_
  refine wp_loop_n (fun mz ac wc => ∃ (k : Nat) (lx : List (Int × Int)) (Ix : List (Nat × BA)), mz = ju2.sh.length - k ∧ (k ≤ ju2.sh.length) ∧ (lx = (ju2.sh.take k).map m2 ++ ju2.sh.drop k) ∧ (lx.length = ju2.sh.length) ∧ (Sw 2 Au3 ju2.sh.length bu3 (rc lx) Ix) ∧ Tm ac 285 [(3, .pointer (some ⟨bpu1, 0, none⟩)), (4, .pointer (some ⟨g1, 0, none⟩)), (5, .pointer (some ⟨g2, 0, none⟩)), (6, .int .i64 (k : Int))] ∧ Mem w noEx wc ((g2, .cells [.int .i64 (-ju2.p1), .int .i64 (-ju2.p0), .int .i64 ju2.r0, .int .i64 ju2.r1, .int .i64 ju2.t0, .int .i64 ju2.t1, .int .i64 ju2.d0, .int .i64 ju2.d1, .int .i64 ju2.u0, .int .i64 ju2.u1, .int .i64 ju2.b0, .int .i64 ju2.b1, .int .i64 ju2.a0, .int .i64 ju2.a1, .int .i64 ju2.le, .slice Au3 ju2.sh.length cu3, .int .i64 ju2.wi, .int .i64 ju2.me]) :: (g1, .cells (jobL ju2 Au2 cu2)) :: (bpu1, .cells [.int .u64 su2]) :: (Iu2 ++ Ix))) ?_ ?_
  · exact ⟨_, 0, ju2.sh, Ju3, rfl, (by omega), (by simp), rfl, hswu3, T.pick [3, 2, 1, 0] rfl, M.mask [true, true, true] rfl⟩
  · clear T M
    rintro mz ac wc ⟨k, lx, Ix, hmm1, hk, hlx, hll, hsw, T, M⟩
    have Sx := hsw.sp (w := w) (ex := noEx)
    refine wp_seq ?_
    refine wp_seq ?_
    refine wp_region_lit ?_
    refine l_q T rfl rfl rfl rfl (rn_move rfl (T.ev 3 rfl)) ?_; clear T ac; intro ac T
    refine l_q (v := (.pointer (some ⟨g2, 15, none⟩))) T rfl rfl rfl rfl (rn_fieldAddr (off := 15) rfl (T.ev 3 rfl) (fun _ _ _ => by kernel_rfl)) ?_; clear T ac; intro ac T
    refine l_q T rfl rfl rfl rfl (rn_one (Mem.nth M 0 rfl) rfl (T.ev 0 rfl) rfl) ?_; clear T ac; intro ac T
    refine l_q T rfl rfl rfl rfl (rn_lenS rfl Try.underlying28 (T.ev 0 rfl)) ?_; clear T ac; intro ac T
    refine l_q T rfl rfl rfl rfl (rn_lss rfl (T.ev 3 rfl) (T.ev 0 rfl)) ?_; clear T ac; intro ac T
    refine wpList_nil ?_
    replace T := T.pick [0, 5, 6, 7, 8] rfl
    refine nm_then ?_
    refine wp_if (T.ev 0 rfl) ?_ ?_
    · intro h1
      obtain ⟨x0, x1, hk1, hd⟩ := rc_next (l := ju2.sh) (k := k) (by omega)
      have hbx := hgu2.sh _ (List.mem_of_getElem? hk1)
      dsimp only at hbx
      refine wp_skip ?_
      refine nm_then ?_
      refine wp_seq ?_
      refine wp_block ?_
      refine g_start2 M (M.perm [] rfl rfl) 20 (by kernel_rfl) rfl (by kernel_rfl) ?_
      clear M; intro wc M
      refine g_addG 19 M ?_
      refine g_q (v := (.pointer (some ⟨g2, 15, none⟩))) (T := T) (i := 0) rfl (by kernel_rfl) (by kernel_rfl : (pbits 20 0).setIfInBounds 0 true = pbits 20 1) (si_and (si_G rfl) si_U) (fun _ _ _ h => h) rfl rfl rfl rfl (fun _ _ _ _ _ => (rn_fieldAddr (off := 15) rfl (T.ev 3 rfl) (fun _ _ _ => by kernel_rfl))) ?_; clear T ac; intro ac T
      refine g_q (T := T) (i := 1) rfl (by kernel_rfl) (by kernel_rfl : (pbits 20 1).setIfInBounds 1 true = pbits 20 3) (si_and (si_G rfl) si_U) (fun _ _ _ h => h) rfl rfl rfl rfl (fun B w' hD hl hS => (rn_one (Mem.nth (show Mem w noEx w' _ from ((MA.lft hS) (hD.wait (i := 1) (m := 19) (by kernel_rfl) hl))) 0 rfl) rfl (T.ev 0 rfl) rfl)) ?_; clear T ac; intro ac T
      refine g_q (T := T) (i := 2) rfl (by kernel_rfl) (by kernel_rfl : (pbits 20 3).setIfInBounds 2 true = pbits 20 7) (si_and (si_G rfl) si_U) (fun _ _ _ h => h) rfl rfl rfl rfl (fun _ _ _ _ _ => (rn_move rfl (T.ev 6 rfl))) ?_; clear T ac; intro ac T
      refine g_q (v := (.pointer (some ⟨g1, 15, none⟩))) (T := T) (i := 3) rfl (by kernel_rfl) (by kernel_rfl : (pbits 20 7).setIfInBounds 3 true = pbits 20 15) (si_and (si_G rfl) si_U) (fun _ _ _ h => h) rfl rfl rfl rfl (fun _ _ _ _ _ => (rn_fieldAddr (off := 15) rfl (T.ev 5 rfl) (fun _ _ _ => by kernel_rfl))) ?_; clear T ac; intro ac T
      refine g_q (T := T) (i := 4) rfl (by kernel_rfl) (by kernel_rfl : (pbits 20 15).setIfInBounds 4 true = pbits 20 31) (si_and (si_G rfl) si_U) (fun _ _ _ h => h) rfl rfl rfl rfl (fun B w' hD hl hS => (rn_one (Mem.nth (show Mem w noEx w' _ from ((MA.lft hS) (hD.wait (i := 4) (m := 19) (by kernel_rfl) hl))) 1 rfl) rfl (T.ev 0 rfl) rfl)) ?_; clear T ac; intro ac T
      refine g_q (T := T) (i := 5) rfl (by kernel_rfl) (by kernel_rfl : (pbits 20 31).setIfInBounds 5 true = pbits 20 63) (si_and (si_G rfl) si_U) (fun _ _ _ h => h) rfl rfl rfl rfl (fun _ _ _ _ _ => (rn_move rfl (T.ev 9 rfl))) ?_; clear T ac; intro ac T
      refine g_q (T := T) (i := 6) rfl (by kernel_rfl) (by kernel_rfl : (pbits 20 63).setIfInBounds 6 true = pbits 20 127) (si_and (si_G rfl) si_U) (fun _ _ _ h => h) rfl rfl rfl rfl (fun _ _ _ _ _ => (rn_indexAddr (size := 2) k rfl (T.ev 1 rfl) (T.ev 0 rfl) ⟨_, Try.underlying28, by kernel_rfl⟩ rfl (by omega) (Su2.at0 (by omega)))) ?_; clear T ac; intro ac T
      refine g_q (T := T) (i := 7) rfl (by kernel_rfl) (by kernel_rfl : (pbits 20 127).setIfInBounds 7 true = pbits 20 255) (si_and (si_G rfl) si_U) (fun _ _ _ h => h) rfl rfl rfl rfl (fun _ _ _ _ _ => (rn_fieldAddr (off := 1) rfl (T.ev 0 rfl) (fun _ _ _ => by kernel_rfl))) ?_; clear T ac; intro ac T
      refine g_q (T := T) (i := 8) rfl (by kernel_rfl) (by kernel_rfl : (pbits 20 255).setIfInBounds 8 true = pbits 20 511) (si_and (si_G rfl) si_U) (fun _ _ _ h => h) rfl rfl rfl rfl (fun B w' hD hl hS => (rn_cell (Sp.rc1 Su2 (show Mem w noEx w' _ from ((MA.lft hS) (hD.wait (i := 8) (m := 19) (by kernel_rfl) hl))) (.cons _ (.cons _ (.cons _ (List.Sublist.trans (List.Sublist.refl _) (List.sublist_append_left _ _))))) hk1) rfl (T.ev 0 rfl))) ?_; clear T ac; intro ac T
      refine g_q (T := T) (i := 9) rfl (by kernel_rfl) (by kernel_rfl : (pbits 20 511).setIfInBounds 9 true = pbits 20 1023) (si_and (si_G rfl) si_U) (fun _ _ _ h => h) rfl rfl rfl rfl (fun _ _ _ _ _ => (rn_neg rfl (T.ev 0 rfl) (by omega))) ?_; clear T ac; intro ac T
      refine g_q (v := (.pointer (some ⟨g1, 15, none⟩))) (T := T) (i := 10) rfl (by kernel_rfl) (by kernel_rfl : (pbits 20 1023).setIfInBounds 10 true = pbits 20 2047) (si_and (si_G rfl) si_U) (fun _ _ _ h => h) rfl rfl rfl rfl (fun _ _ _ _ _ => (rn_fieldAddr (off := 15) rfl (T.ev 12 rfl) (fun _ _ _ => by kernel_rfl))) ?_; clear T ac; intro ac T
      refine g_q (T := T) (i := 11) rfl (by kernel_rfl) (by kernel_rfl : (pbits 20 2047).setIfInBounds 11 true = pbits 20 4095) (si_and (si_G rfl) si_U) (fun _ _ _ h => h) rfl rfl rfl rfl (fun B w' hD hl hS => (rn_one (Mem.nth (show Mem w noEx w' _ from ((MA.lft hS) (hD.wait (i := 11) (m := 19) (by kernel_rfl) hl))) 1 rfl) rfl (T.ev 0 rfl) rfl)) ?_; clear T ac; intro ac T
      refine g_q (T := T) (i := 12) rfl (by kernel_rfl) (by kernel_rfl : (pbits 20 4095).setIfInBounds 12 true = pbits 20 8191) (si_and (si_G rfl) si_U) (fun _ _ _ h => h) rfl rfl rfl rfl (fun _ _ _ _ _ => (rn_move rfl (T.ev 16 rfl))) ?_; clear T ac; intro ac T
      refine g_q (T := T) (i := 13) rfl (by kernel_rfl) (by kernel_rfl : (pbits 20 8191).setIfInBounds 13 true = pbits 20 16383) (si_and (si_G rfl) si_U) (fun _ _ _ h => h) rfl rfl rfl rfl (fun _ _ _ _ _ => (rn_indexAddr (size := 2) k rfl (T.ev 1 rfl) (T.ev 0 rfl) ⟨_, Try.underlying28, by kernel_rfl⟩ rfl (by omega) (Su2.at0 (by omega)))) ?_; clear T ac; intro ac T
      refine g_q (T := T) (i := 14) rfl (by kernel_rfl) (by kernel_rfl : (pbits 20 16383).setIfInBounds 14 true = pbits 20 32767) (si_and (si_G rfl) si_U) (fun _ _ _ h => h) rfl rfl rfl rfl (fun _ _ _ _ _ => (rn_fieldAddr (off := 0) rfl (T.ev 0 rfl) (fun _ _ _ => by kernel_rfl))) ?_; clear T ac; intro ac T
      refine g_q (T := T) (i := 15) rfl (by kernel_rfl) (by kernel_rfl : (pbits 20 32767).setIfInBounds 15 true = pbits 20 65535) (si_and (si_G rfl) si_U) (fun _ _ _ h => h) rfl rfl rfl rfl (fun B w' hD hl hS => (rn_cell (Sp.rc0 Su2 (show Mem w noEx w' _ from ((MA.lft hS) (hD.wait (i := 15) (m := 19) (by kernel_rfl) hl))) (.cons _ (.cons _ (.cons _ (List.Sublist.trans (List.Sublist.refl _) (List.sublist_append_left _ _))))) hk1) rfl (T.ev 0 rfl))) ?_; clear T ac; intro ac T
      refine g_q (T := T) (i := 16) rfl (by kernel_rfl) (by kernel_rfl : (pbits 20 65535).setIfInBounds 16 true = pbits 20 131071) (si_and (si_G rfl) si_U) (fun _ _ _ h => h) rfl rfl rfl rfl (fun _ _ _ _ _ => (rn_neg rfl (T.ev 0 rfl) (by omega))) ?_; clear T ac; intro ac T
      refine g_w (i := 17) (by kernel_rfl) rfl (by kernel_rfl : (pbits 20 131071).setIfInBounds 17 true = pbits 20 262143) rfl ?_; intro K hK
      refine ow_call (first := []) (cap := []) T rfl rfl rfl rfl evf (.cons (T.ev 7 rfl) (.cons (T.ev 0 rfl) .nil)) Try.func31 rfl rfl ?_
      refine Calls.mono (to_any (-x1) (-x0) _) ?_
      clear T
      rintro e wc ⟨rfl, hb⟩
      intro ac T
      replace M := M.call hb; clear hb
      refine sh_out hK _ _ (MA.mk (fun _ => M.mask [true, true, true] rfl) (M.perm [] rfl rfl)) ?_; clear hK K
      refine g_q (T := T) (i := 18) rfl (by kernel_rfl) (by kernel_rfl : (pbits 20 262143).setIfInBounds 18 true = pbits 20 524287) (si_and (si_G rfl) si_U) (fun _ _ _ h => h) rfl rfl rfl rfl (fun _ _ _ _ _ => (rn_indexAddr (size := 2) k rfl (T.ev 16 rfl) (T.ev 15 rfl) ⟨_, Try.underlying28, by kernel_rfl⟩ rfl (by omega) (Sx.at0 (by omega)))) ?_; clear T ac; intro ac T
      refine g_w (i := 19) (by kernel_rfl) rfl (by kernel_rfl : (pbits 20 524287).setIfInBounds 19 true = pbits 20 1048575) rfl ?_; intro K hK
      refine ow_stT (((g2, .cells [.int .i64 (-ju2.p1), .int .i64 (-ju2.p0), .int .i64 ju2.r0, .int .i64 ju2.r1, .int .i64 ju2.t0, .int .i64 ju2.t1, .int .i64 ju2.d0, .int .i64 ju2.d1, .int .i64 ju2.u0, .int .i64 ju2.u1, .int .i64 ju2.b0, .int .i64 ju2.b1, .int .i64 ju2.a0, .int .i64 ju2.a1, .int .i64 ju2.le, .slice Au3 ju2.sh.length cu3, .int .i64 ju2.wi, .int .i64 ju2.me]) :: (g1, .cells (jobL ju2 Au2 cu2)) :: (bpu1, .cells [.int .u64 su2]) :: Iu2)) M (by first | rfl | simp) hsw T rfl rfl (T.ev 0 rfl) (T.ev 1 rfl) (by omega) rfl ?_; clear M T; intro Jw1 wc ac hsw1 M T
      replace M : Mem w noEx wc ((g2, .cells [.int .i64 (-ju2.p1), .int .i64 (-ju2.p0), .int .i64 ju2.r0, .int .i64 ju2.r1, .int .i64 ju2.t0, .int .i64 ju2.t1, .int .i64 ju2.d0, .int .i64 ju2.d1, .int .i64 ju2.u0, .int .i64 ju2.u1, .int .i64 ju2.b0, .int .i64 ju2.b1, .int .i64 ju2.a0, .int .i64 ju2.a1, .int .i64 ju2.le, .slice Au3 ju2.sh.length cu3, .int .i64 ju2.wi, .int .i64 ju2.me]) :: (g1, .cells (jobL ju2 Au2 cu2)) :: (bpu1, .cells [.int .u64 su2]) :: (Iu2 ++ Jw1)) := M
      obtain ⟨lo1, hlo1⟩ : ∃ q, q = lx.set k ((-x1), (-x0)) := ⟨_, rfl⟩
      rw [← hlo1] at hsw1
      have lhlo1 : lo1.length = lx.length := by rw [hlo1, List.length_set]
      have Ss1 := hsw1.sp (w := w) (ex := noEx)
      refine sh_out hK _ _ (MA.mk (fun h => (no_of (by kernel_rfl) h).elim) (M.perm [] rfl rfl)) ?_; clear hK K
      refine g_done (by kernel_rfl) ?_
      replace T := T.pick [20, 21, 22, 23] rfl
      refine nm_blk ?_
      refine nm_then ?_
      refine wp_region_lit ?_
      refine l_q T rfl rfl rfl rfl (rn_move rfl (T.ev 3 rfl)) ?_; clear T ac; intro ac T
      refine l_q T rfl rfl rfl rfl (rn_add rfl (T.ev 0 rfl) evc (by omega)) ?_; clear T ac; intro ac T
      refine l_q (v := (.int .i64 ((k : Int) + 1))) (T.pick [0, 1, 2, 3, 4] rfl) rfl rfl rfl rfl (rn_assign rfl (T.ev 0 rfl)) ?_; clear T ac; intro ac T
      refine wpList_nil ?_
      replace T := T.pick [0, 3, 4, 5] rfl
      refine nm_then ?_
      exact ⟨_, by omega, k + 1, lo1, Jw1, rfl, (by omega), (by rw [hlo1, hlx]; exact mir_set hk1), (by omega), hsw1, T.pick [1, 2, 3, 0] rfl, M.mask [true, true, true] rfl⟩
    · intro h1
      obtain ⟨jm, hjm⟩ : ∃ q, q = mirJ ju2 := ⟨_, rfl⟩
      have hlm : lx = jm.sh := by rw [hjm, hlx, List.drop_of_length_le (by omega), List.take_of_length_le (by omega), List.append_nil]; rfl
      have hln : ju2.sh.length = jm.sh.length := by rw [hjm]; exact (List.length_map _).symm
      have Sjm : Sp w noEx Ix Au3 jm.sh.length 2 bu3 0 (rc jm.sh) := by rw [← hln, ← hlm]; exact hsw.sp
      replace M : Mem w noEx wc ((g2, .cells (jobL jm Au3 cu3)) :: (g1, .cells (jobL ju2 Au2 cu2)) :: (bpu1, .cells [.int .u64 su2]) :: (Iu2 ++ Ix)) := by
        have e : jobL jm Au3 cu3 = [.int .i64 (-ju2.p1), .int .i64 (-ju2.p0), .int .i64 ju2.r0, .int .i64 ju2.r1, .int .i64 ju2.t0, .int .i64 ju2.t1, .int .i64 ju2.d0, .int .i64 ju2.d1, .int .i64 ju2.u0, .int .i64 ju2.u1, .int .i64 ju2.b0, .int .i64 ju2.b1, .int .i64 ju2.a0, .int .i64 ju2.a1, .int .i64 ju2.le, .slice Au3 ju2.sh.length cu3, .int .i64 ju2.wi, .int .i64 ju2.me] := by rw [hjm]; unfold jobL mirJ; simp only [List.length_map]
        rw [e]; exact M
      have hgm : jm.good := by rw [hjm]; exact good_m hgu2
      have hfm := hgm.few
      have hwb := window_bd hgu2
      refine wp_exit ?_
      refine ex_then ?_
      refine ex_then ?_
      refine ex_hit ?_
      refine nm_then ?_
      refine wp_seq ?_
      refine wp_region_lit ?_
      refine l_q T rfl rfl rfl rfl (rn_move rfl (T.ev 1 rfl)) ?_; clear T ac; intro ac T
      refine l_w rfl ?_; intro K hK
      refine ow_call (first := []) (cap := []) T rfl rfl rfl rfl evf (.cons (T.ev 0 rfl) (.cons evc .nil)) Try.func32 rfl rfl ?_
      refine Calls.mono (strokesOf_any _ bpu1 4 _ (by omega) (by omega) (M.nth 2 rfl) hsu2) ?_
      clear T
      rintro e wc ⟨lu6, Au6, cu6, su6, Iu6, rfl, ⟨hfewu6, hqu6⟩, hsu6, hslu6, N⟩
      intro ac T
      obtain ⟨bu6, ou6, Su6⟩ := hslu6.sp (w := w) (ex := noEx) (by simp [ic_length])
      replace M := (M.joinW (.tail (.tail .head)) N).swapI
      replace M := M.mask [true, true, true] rfl
      clear N hslu6
      refine sh_out hK _ _ ?_; clear hK K
      refine l_q T rfl rfl rfl rfl (rn_assign rfl (T.ev 0 rfl)) ?_; clear T ac; intro ac T
      refine wpList_nil ?_
      replace T := T.pick [0, 5, 6] rfl
      replace M := M.mask [true, true, false] rfl
      refine nm_then ?_
      refine wp_seq ?_
      refine wp_region_lit ?_
      refine l_q T rfl rfl rfl rfl (rn_assign rfl evc) ?_; clear T ac; intro ac T
      refine wpList_nil ?_
      refine nm_then ?_
      refine wp_seq ?_
      refine wp_seq ?_
      refine wp_region_lit ?_
      refine l_q T rfl rfl rfl rfl (rn_assign rfl evc) ?_; clear T ac; intro ac T
      refine wpList_nil ?_
      refine nm_then ?_
      refine wp_block ?_
      refine wp_loop_n (fun mz ac wc => ∃ (k : Nat) (A8 : Option Addr) (c8 : Nat) (I8 : List (Nat × BA)), mz = lu6.length - k ∧ (k ≤ lu6.length) ∧ (Sl 3 1 (.slice A8 k c8) k (ic ((lu6.take k).map (3 - ·))) I8) ∧ Tm ac 285 [(4, .pointer (some ⟨g1, 0, none⟩)), (5, .pointer (some ⟨g2, 0, none⟩)), (7, .slice Au6 lu6.length cu6), (8, .slice A8 k c8), (9, .int .i64 (k : Int))] ∧ Mem w noEx wc ((g2, .cells (jobL jm Au3 cu3)) :: (g1, .cells (jobL ju2 Au2 cu2)) :: (Iu2 ++ Ix ++ Iu6 ++ I8))) ?_ ?_
      · exact ⟨_, 0, none, 0, [], rfl, (by omega), (Sl.nil _ _), T.pick [3, 4, 2, 1, 0] rfl, (by simp only [List.append_nil]; exact M)⟩
      · clear T M
        rintro mz ac wc ⟨k, A8, c8, I8, hmm2, hk, hsl, T, M⟩
        refine wp_seq ?_
        refine wp_seq ?_
        refine wp_region_lit ?_
        refine l_q T rfl rfl rfl rfl (rn_move rfl (T.ev 4 rfl)) ?_; clear T ac; intro ac T
        refine l_q T rfl rfl rfl rfl (rn_move rfl (T.ev 3 rfl)) ?_; clear T ac; intro ac T
        refine l_q T rfl rfl rfl rfl (rn_lenS rfl Try.underlying31 (T.ev 0 rfl)) ?_; clear T ac; intro ac T
        refine l_q T rfl rfl rfl rfl (rn_lss rfl (T.ev 2 rfl) (T.ev 0 rfl)) ?_; clear T ac; intro ac T
        refine wpList_nil ?_
        replace T := T.pick [0, 4, 5, 6, 7, 8] rfl
        refine nm_then ?_
        refine wp_if (T.ev 0 rfl) ?_ ?_
        · intro h2
          obtain ⟨y0, hk1, hd⟩ := ic_next (l := lu6) (k := k) (by omega)
          have hy0 := hqu6 _ (List.mem_of_getElem? hk1)
          refine wp_skip ?_
          refine nm_then ?_
          refine wp_seq ?_
          refine wp_block ?_
          refine wp_region_lit ?_
          refine l_q T rfl rfl rfl rfl (rn_move rfl (T.ev 4 rfl)) ?_; clear T ac; intro ac T
          refine l_q T rfl rfl rfl rfl (rn_move rfl (T.ev 4 rfl)) ?_; clear T ac; intro ac T
          refine l_q T rfl rfl rfl rfl (rn_move rfl (T.ev 7 rfl)) ?_; clear T ac; intro ac T
          refine l_q T rfl rfl rfl rfl (rn_indexAddr (size := 1) k rfl (T.ev 1 rfl) (T.ev 0 rfl) ⟨_, Try.underlying31, by kernel_rfl⟩ rfl (by omega) (Su6.at0 (by omega))) ?_; clear T ac; intro ac T
          refine l_q T rfl rfl rfl rfl (rn_cell (Sp.ic0 Su6 M (.cons _ (.cons _ (List.Sublist.trans (List.sublist_append_right _ _) (List.sublist_append_left _ _)))) hk1) rfl (T.ev 0 rfl)) ?_; clear T ac; intro ac T
          refine l_q T rfl rfl rfl rfl (rn_sub rfl evc (T.ev 0 rfl) (by omega)) ?_; clear T ac; intro ac T
          refine l_w rfl ?_; intro K hK
          refine ow_bs (e := 3) [.int .i64 (3 - y0)] M T rfl rfl rfl rfl (.cons (T.ev 0 rfl) .nil) (fun _ => by kernel_rfl) ?_; clear M T; intro g3 wc ac M T
          refine sh_out hK _ _ ?_; clear hK K
          refine l_w rfl ?_; intro K hK
          refine ow_app (((g3, .cells [.int .i64 (3 - y0)]) :: (g2, .cells (jobL jm Au3 cu3)) :: (g1, .cells (jobL ju2 Au2 cu2)) :: (Iu2 ++ Ix ++ Iu6))) Try.info3 hsl M (by first | rfl | simp) T rfl rfl rfl rfl Try.underlying31 rfl rfl rfl (by omega) (T.ev 6 rfl) (T.ev 0 rfl) (nthE_mem (i := 0) rfl) rfl rfl ?_; clear M T; intro ga1 cga1 wc ac M T
          refine sh_out hK _ _ ?_; clear hK K
          refine l_q (v := (.slice (some ⟨ga1, 0, none⟩) (k + 1) cga1)) (T.pick [0, 1, 2, 3, 4, 5, 6, 7, 8, 9, 10, 11, 13] rfl) rfl rfl rfl rfl (rn_assign rfl (T.ev 0 rfl)) ?_; clear T ac; intro ac T
          refine wpList_nil ?_
          replace T := T.pick [0, 10, 11, 12, 13] rfl
          replace M := M.mask [true, false, true, true] rfl
          refine nm_blk ?_
          refine nm_then ?_
          refine wp_region_lit ?_
          refine l_q T rfl rfl rfl rfl (rn_move rfl (T.ev 4 rfl)) ?_; clear T ac; intro ac T
          refine l_q T rfl rfl rfl rfl (rn_add rfl (T.ev 0 rfl) evc (by omega)) ?_; clear T ac; intro ac T
          refine l_q (v := (.int .i64 ((k : Int) + 1))) (T.pick [0, 1, 2, 3, 4, 5] rfl) rfl rfl rfl rfl (rn_assign rfl (T.ev 0 rfl)) ?_; clear T ac; intro ac T
          refine wpList_nil ?_
          replace T := T.pick [0, 3, 4, 5, 6] rfl
          refine nm_then ?_
          rw [mir_take hk1] at M
          exact ⟨_, by omega, (k + 1), _, cga1, [(ga1, .row 3 1 (k + 1) (ic ((lu6.take (k + 1)).map (3 - ·))) cga1)], rfl, (by omega), (Sl.row _ _ _ _ _ _), T.pick [2, 3, 4, 1, 0] rfl, (Mem.swapI (I := [(ga1, .row 3 1 (k + 1) (ic ((lu6.take (k + 1)).map (3 - ·))) cga1)]) (L := ((g2, .cells (jobL jm Au3 cu3)) :: (g1, .cells (jobL ju2 Au2 cu2)) :: (Iu2 ++ Ix ++ Iu6))) (M.permT [0, 1, 2] 3 rfl rfl rfl rfl))⟩
        · intro h2
          obtain ⟨lm, hlm⟩ : ∃ q, q = lu6.map (3 - ·) := ⟨_, rfl⟩
          have hkl : k = lm.length := by rw [hlm, List.length_map]; omega
          rw [List.take_of_length_le (by omega), ← hlm] at hsl
          clear hk
          subst hkl
          obtain ⟨b8, o8, S8⟩ := hsl.sp (w := w) (ex := noEx) (by simp [ic_length])
          clear hsl
          have hll8 : lm.length ≤ 4 := by rw [hlm, List.length_map]; omega
          have hmr := mirrored hgu2 (l := lu6) (by omega) hqu6
          rw [← hjm, ← hlm] at hmr
          have hup := after_up hgu2.st lu6
          rw [← (fine_ok hgu2 (l := lu6) (by omega) hqu6).2.1] at hup
          have hap0 := hup.p0
          have hap1 := hup.p1
          clear hup
          refine wp_exit ?_
          refine ex_then ?_
          refine ex_then ?_
          refine ex_hit ?_
          refine nm_then ?_
          refine wp_seq ?_
          refine wp_region_lit ?_
          refine l_q T rfl rfl rfl rfl (rn_rowO (Mem.nth M 1 rfl) rfl (T.ev 1 rfl) rfl) ?_; clear T ac; intro ac T
          refine l_w rfl ?_; intro K hK
          refine ow_call (first := []) (cap := []) T rfl rfl rfl rfl evf (.cons (T.ev 0 rfl) .nil) Try.func33 rfl rfl ?_
          refine Calls.mono (Window_any ju2 _ _ _ (Su2.rd M (.cons _ (.cons _ (List.Sublist.trans (List.Sublist.trans (List.Sublist.trans (List.Sublist.refl _) (List.sublist_append_left _ _)) (List.sublist_append_left _ _)) (List.sublist_append_left _ _))))) (by first | omega | (dsimp only [Jb.one]; omega))) ?_
          clear T
          rintro e wc ⟨rfl, hb⟩
          intro ac T
          replace M := M.call hb; clear hb
          refine sh_out hK _ _ ?_; clear hK K
          refine l_q T rfl rfl rfl rfl (rn_move rfl (T.ev 0 rfl)) ?_; clear T ac; intro ac T
          refine l_q T rfl rfl rfl rfl (rn_extract rfl (T.ev 0 rfl) rfl) ?_; clear T ac; intro ac T
          refine l_q T rfl rfl rfl rfl (rn_extract rfl (T.ev 1 rfl) rfl) ?_; clear T ac; intro ac T
          refine l_w rfl ?_; intro K hK
          refine ow_al M T rfl rfl rfl rfl ?_; clear M T; intro g4 wc ac M T
          refine sh_out hK _ _ ?_; clear hK K
          refine l_w rfl ?_; intro K hK
          refine ow_stO M T rfl rfl (T.ev 0 rfl) (T.ev 2 rfl) rfl .head rfl (by simp) rfl (by kernel_rfl) ?_; clear M T; intro wc ac M T
          refine sh_out hK _ _ ?_; clear hK K
          refine l_q T rfl rfl rfl rfl (rn_assign rfl (T.ev 1 rfl)) ?_; clear T ac; intro ac T
          refine wpList_nil ?_
          replace T := T.pick [0, 1, 8, 9, 10, 11] rfl
          refine nm_then ?_
          refine wp_seq ?_
          refine wp_region_lit ?_
          refine l_q T rfl rfl rfl rfl (rn_rowO (Mem.nth M 1 rfl) rfl (T.ev 3 rfl) rfl) ?_; clear T ac; intro ac T
          refine l_w rfl ?_; intro K hK
          refine ow_call (first := []) (cap := []) T rfl rfl rfl rfl evf (.cons (T.ev 0 rfl) .nil) Try.func33 rfl rfl ?_
          refine Calls.mono (Window_any jm _ _ _ (Sjm.rd M (.cons _ (.cons _ (.cons _ (List.Sublist.trans (List.Sublist.trans (List.sublist_append_right _ _) (List.sublist_append_left _ _)) (List.sublist_append_left _ _)))))) (by first | omega | (dsimp only [Jb.one]; omega))) ?_
          clear T
          rintro e wc ⟨rfl, hb⟩
          intro ac T
          replace M := M.call hb; clear hb
          refine sh_out hK _ _ ?_; clear hK K
          refine l_q T rfl rfl rfl rfl (rn_move rfl (T.ev 0 rfl)) ?_; clear T ac; intro ac T
          refine l_q T rfl rfl rfl rfl (rn_extract rfl (T.ev 0 rfl) rfl) ?_; clear T ac; intro ac T
          refine l_q T rfl rfl rfl rfl (rn_extract rfl (T.ev 1 rfl) rfl) ?_; clear T ac; intro ac T
          refine l_w rfl ?_; intro K hK
          refine ow_al M T rfl rfl rfl rfl ?_; clear M T; intro g5 wc ac M T
          refine sh_out hK _ _ ?_; clear hK K
          refine l_w rfl ?_; intro K hK
          refine ow_stO M T rfl rfl (T.ev 0 rfl) (T.ev 2 rfl) rfl .head rfl (by simp) rfl (by kernel_rfl) ?_; clear M T; intro wc ac M T
          refine sh_out hK _ _ ?_; clear hK K
          refine l_q T rfl rfl rfl rfl (rn_assign rfl (T.ev 1 rfl)) ?_; clear T ac; intro ac T
          refine wpList_nil ?_
          replace T := T.pick [0, 1, 7, 8, 9, 10, 11, 12] rfl
          refine nm_then ?_
          refine wp_seq ?_
          refine cut_seq (fun ac wc => Tm ac 285 [(4, .pointer (some ⟨g1, 0, none⟩)), (5, .pointer (some ⟨g2, 0, none⟩)), (7, .slice Au6 lu6.length cu6), (8, .slice A8 lm.length c8), (148, .bool ((!(decide (((windowJ ju2).2) = ((windowJ jm).2)))) || ((decide (((windowJ ju2).2) = 0)) && (!((decide (((windowJ jm).1.1) = (-((windowJ ju2).1.2)))) && (decide (((windowJ jm).1.2) = (-((windowJ ju2).1.1)))))))))] ∧ Mem w noEx wc ((g2, .cells (jobL jm Au3 cu3)) :: (g1, .cells (jobL ju2 Au2 cu2)) :: (Iu2 ++ Ix ++ Iu6 ++ I8))) ?_ ?_
          · refine g_start2 M (M.mask [true, true, true, true] rfl) 18 (by kernel_rfl) rfl (by kernel_rfl) ?_
            clear M; intro wc M
            refine g_q (T := T) (i := 0) rfl (by kernel_rfl) (by kernel_rfl : (pbits 18 0).setIfInBounds 0 true = pbits 18 1) si_U (fun _ _ _ h => h) rfl rfl rfl rfl (fun _ _ _ _ _ => (rn_move rfl (T.ev 2 rfl))) ?_; clear T ac; intro ac T
            refine g_q (T := T) (i := 1) rfl (by kernel_rfl) (by kernel_rfl : (pbits 18 1).setIfInBounds 1 true = pbits 18 3) si_U (fun _ _ _ h => h) rfl rfl rfl rfl (fun _ _ _ _ _ => (rn_move rfl (T.ev 1 rfl))) ?_; clear T ac; intro ac T
            refine g_q (T := T) (i := 2) rfl (by kernel_rfl) (by kernel_rfl : (pbits 18 3).setIfInBounds 2 true = pbits 18 7) si_U (fun _ _ _ h => h) rfl rfl rfl rfl (fun _ _ _ _ _ => (rn_neq rfl (T.ev 1 rfl) (T.ev 0 rfl))) ?_; clear T ac; intro ac T
            refine g_q (T := T) (i := 3) rfl (by kernel_rfl) (by kernel_rfl : (pbits 18 7).setIfInBounds 3 true = pbits 18 15) si_U (fun _ _ _ h => h) rfl rfl rfl rfl (fun _ _ _ _ _ => (rn_move rfl (T.ev 0 rfl))) ?_; clear T ac; intro ac T
            rcases Bool.eq_false_or_eq_true (!(decide (((windowJ ju2).2) = ((windowJ jm).2)))) with h3 | h3
            · replace h3 : ¬ (((windowJ ju2).2) = ((windowJ jm).2)) := by simpa using h3
              refine g_pass (T := T) (i := 4) rfl (by kernel_rfl) (by kernel_rfl : (pbits 18 15).setIfInBounds 4 true = pbits 18 31) si_U (fun _ _ _ h => h) (wanted_no rfl rfl (T.ev 0 rfl) (by simp [h3])) rfl rfl rfl ?_; clear T ac; intro ac T
              refine g_pass (T := T) (i := 5) rfl (by kernel_rfl) (by kernel_rfl : (pbits 18 31).setIfInBounds 5 true = pbits 18 63) si_U (fun _ _ _ h => h) (wanted_no rfl rfl (T.ev 1 rfl) (by simp [h3])) rfl rfl rfl ?_; clear T ac; intro ac T
              refine g_pass (T := T) (i := 6) rfl (by kernel_rfl) (by kernel_rfl : (pbits 18 63).setIfInBounds 6 true = pbits 18 127) si_U (fun _ _ _ h => h) (wanted_no rfl rfl (T.ev 2 rfl) (by simp [h3])) rfl rfl rfl ?_; clear T ac; intro ac T
              refine g_pass (T := T) (i := 7) rfl (by kernel_rfl) (by kernel_rfl : (pbits 18 127).setIfInBounds 7 true = pbits 18 255) si_U (fun _ _ _ h => h) (wanted_un rfl rfl (T.ev 0 rfl)) rfl rfl rfl ?_; clear T ac; intro ac T
              refine g_pass (T := T) (i := 8) rfl (by kernel_rfl) (by kernel_rfl : (pbits 18 255).setIfInBounds 8 true = pbits 18 511) si_U (fun _ _ _ h => h) (wanted_un rfl rfl (T.ev 1 rfl)) rfl rfl rfl ?_; clear T ac; intro ac T
              refine g_pass (T := T) (i := 9) rfl (by kernel_rfl) (by kernel_rfl : (pbits 18 511).setIfInBounds 9 true = pbits 18 1023) si_U (fun _ _ _ h => h) (wanted_un rfl rfl (T.ev 2 rfl)) rfl rfl rfl ?_; clear T ac; intro ac T
              refine g_pass (T := T) (i := 10) rfl (by kernel_rfl) (by kernel_rfl : (pbits 18 1023).setIfInBounds 10 true = pbits 18 2047) si_U (fun _ _ _ h => h) (wanted_un rfl rfl (T.ev 3 rfl)) rfl rfl rfl ?_; clear T ac; intro ac T
              refine g_pass (T := T) (i := 11) rfl (by kernel_rfl) (by kernel_rfl : (pbits 18 2047).setIfInBounds 11 true = pbits 18 4095) si_U (fun _ _ _ h => h) (wanted_un rfl rfl (T.ev 4 rfl)) rfl rfl rfl ?_; clear T ac; intro ac T
              refine g_pass (T := T) (i := 12) rfl (by kernel_rfl) (by kernel_rfl : (pbits 18 4095).setIfInBounds 12 true = pbits 18 8191) si_U (fun _ _ _ h => h) (wanted_un rfl rfl (T.ev 5 rfl)) rfl rfl rfl ?_; clear T ac; intro ac T
              refine g_pass (T := T) (i := 13) rfl (by kernel_rfl) (by kernel_rfl : (pbits 18 8191).setIfInBounds 13 true = pbits 18 16383) si_U (fun _ _ _ h => h) (wanted_un rfl rfl (T.ev 6 rfl)) rfl rfl rfl ?_; clear T ac; intro ac T
              refine g_pass (T := T) (i := 14) rfl (by kernel_rfl) (by kernel_rfl : (pbits 18 16383).setIfInBounds 14 true = pbits 18 32767) si_U (fun _ _ _ h => h) (wanted_un rfl rfl (T.ev 7 rfl)) rfl rfl rfl ?_; clear T ac; intro ac T
              refine g_pass (T := T) (i := 15) rfl (by kernel_rfl) (by kernel_rfl : (pbits 18 32767).setIfInBounds 15 true = pbits 18 65535) si_U (fun _ _ _ h => h) (wanted_un rfl rfl (T.ev 8 rfl)) rfl rfl rfl ?_; clear T ac; intro ac T
              refine g_pass (T := T) (i := 16) rfl (by kernel_rfl) (by kernel_rfl : (pbits 18 65535).setIfInBounds 16 true = pbits 18 131071) si_U (fun _ _ _ h => h) (wanted_no rfl rfl (T.ev 12 rfl) (by simp [h3])) rfl rfl rfl ?_; clear T ac; intro ac T
              refine g_q (T := T) (i := 17) rfl (by kernel_rfl) (by kernel_rfl : (pbits 18 131071).setIfInBounds 17 true = pbits 18 262143) si_U (fun _ _ _ h => h) rfl rfl rfl rfl (fun _ _ _ _ _ => (rn_pick1 rfl (T.ev 13 rfl) (by simp [h3]) evc)) ?_; clear T ac; intro ac T
              refine g_done (by kernel_rfl) ?_
              replace T := T.pick [0, 22, 23, 24, 25] rfl
              replace M := M.mask [false, false, true, true] rfl
              exact ⟨(T.pick (E' := [(4, .pointer (some ⟨g1, 0, none⟩)), (5, .pointer (some ⟨g2, 0, none⟩)), (7, .slice Au6 lu6.length cu6), (8, .slice A8 lm.length c8), (148, .bool true)]) [1, 2, 3, 4, 0] rfl).as (by (try rw [show (!(decide (((windowJ ju2).2) = ((windowJ jm).2)))) = true from (by simp [h3])]); rfl), M.mask [true, true] rfl⟩
            · replace h3 : ((windowJ ju2).2) = ((windowJ jm).2) := by simpa using h3
              refine g_q (T := T) (i := 4) rfl (by kernel_rfl) (by kernel_rfl : (pbits 18 15).setIfInBounds 4 true = pbits 18 31) si_U (fun _ _ _ h => h) (wanted_yes rfl rfl (T.ev 0 rfl) (by simp [h3])) rfl rfl rfl (fun _ _ _ _ _ => (rn_move rfl (T.ev 6 rfl))) ?_; clear T ac; intro ac T
              refine g_q (T := T) (i := 5) rfl (by kernel_rfl) (by kernel_rfl : (pbits 18 31).setIfInBounds 5 true = pbits 18 63) si_U (fun _ _ _ h => h) (wanted_yes rfl rfl (T.ev 1 rfl) (by simp [h3])) rfl rfl rfl (fun _ _ _ _ _ => (rn_eql rfl (T.ev 0 rfl) evc)) ?_; clear T ac; intro ac T
              refine g_q (T := T) (i := 6) rfl (by kernel_rfl) (by kernel_rfl : (pbits 18 63).setIfInBounds 6 true = pbits 18 127) si_U (fun _ _ _ h => h) (wanted_yes rfl rfl (T.ev 2 rfl) (by simp [h3])) rfl rfl rfl (fun _ _ _ _ _ => (rn_move rfl (T.ev 0 rfl))) ?_; clear T ac; intro ac T
              rcases Bool.eq_false_or_eq_true (decide (((windowJ ju2).2) = 0)) with h4 | h4
              · replace h4 := of_decide_eq_true h4
                refine g_q (T := T) (i := 7) rfl (by kernel_rfl) (by kernel_rfl : (pbits 18 127).setIfInBounds 7 true = pbits 18 255) si_U (fun _ _ _ h => h) (wanted_yes rfl rfl (T.ev 0 rfl) (decide_eq_true h4)) rfl rfl rfl (fun B w' hD hl hS => (rn_rowO (Mem.nth (show Mem w noEx w' _ from hS) 0 rfl) rfl (T.ev 8 rfl) rfl)) ?_; clear T ac; intro ac T
                refine g_q (v := (.pointer (some ⟨g4, 1, none⟩))) (T := T) (i := 8) rfl (by kernel_rfl) (by kernel_rfl : (pbits 18 255).setIfInBounds 8 true = pbits 18 511) si_U (fun _ _ _ h => h) (wanted_yes rfl rfl (T.ev 1 rfl) (decide_eq_true h4)) rfl rfl rfl (fun _ _ _ _ _ => (rn_fieldAddr (off := 1) rfl (T.ev 11 rfl) (fun _ _ _ => by kernel_rfl))) ?_; clear T ac; intro ac T
                refine g_q (T := T) (i := 9) rfl (by kernel_rfl) (by kernel_rfl : (pbits 18 511).setIfInBounds 9 true = pbits 18 1023) si_U (fun _ _ _ h => h) (wanted_yes rfl rfl (T.ev 2 rfl) (decide_eq_true h4)) rfl rfl rfl (fun B w' hD hl hS => (rn_one (Mem.nth (show Mem w noEx w' _ from hS) 1 rfl) rfl (T.ev 0 rfl) rfl)) ?_; clear T ac; intro ac T
                refine g_q (T := T) (i := 10) rfl (by kernel_rfl) (by kernel_rfl : (pbits 18 1023).setIfInBounds 10 true = pbits 18 2047) si_U (fun _ _ _ h => h) (wanted_yes rfl rfl (T.ev 3 rfl) (decide_eq_true h4)) rfl rfl rfl (fun _ _ _ _ _ => (rn_neg rfl (T.ev 0 rfl) (by omega))) ?_; clear T ac; intro ac T
                refine g_q (v := (.pointer (some ⟨g4, 0, none⟩))) (T := T) (i := 11) rfl (by kernel_rfl) (by kernel_rfl : (pbits 18 2047).setIfInBounds 11 true = pbits 18 4095) si_U (fun _ _ _ h => h) (wanted_yes rfl rfl (T.ev 4 rfl) (decide_eq_true h4)) rfl rfl rfl (fun _ _ _ _ _ => (rn_fieldAddr (off := 0) rfl (T.ev 14 rfl) (fun _ _ _ => by kernel_rfl))) ?_; clear T ac; intro ac T
                refine g_q (T := T) (i := 12) rfl (by kernel_rfl) (by kernel_rfl : (pbits 18 4095).setIfInBounds 12 true = pbits 18 8191) si_U (fun _ _ _ h => h) (wanted_yes rfl rfl (T.ev 5 rfl) (decide_eq_true h4)) rfl rfl rfl (fun B w' hD hl hS => (rn_one (Mem.nth (show Mem w noEx w' _ from hS) 1 rfl) rfl (T.ev 0 rfl) rfl)) ?_; clear T ac; intro ac T
                refine g_q (T := T) (i := 13) rfl (by kernel_rfl) (by kernel_rfl : (pbits 18 8191).setIfInBounds 13 true = pbits 18 16383) si_U (fun _ _ _ h => h) (wanted_yes rfl rfl (T.ev 6 rfl) (decide_eq_true h4)) rfl rfl rfl (fun _ _ _ _ _ => (rn_neg rfl (T.ev 0 rfl) (by omega))) ?_; clear T ac; intro ac T
                refine g_w (i := 14) (by kernel_rfl) rfl (by kernel_rfl : (pbits 18 16383).setIfInBounds 14 true = pbits 18 32767) (wanted_yes rfl rfl (T.ev 7 rfl) (decide_eq_true h4)) ?_; intro K hK
                refine ow_call (first := []) (cap := []) T rfl rfl rfl rfl evf (.cons (T.ev 3 rfl) (.cons (T.ev 0 rfl) .nil)) Try.func31 rfl rfl ?_
                refine Calls.mono (to_any (-((windowJ ju2).1.2)) (-((windowJ ju2).1.1)) _) ?_
                clear T
                rintro e wc ⟨rfl, hb⟩
                intro ac T
                replace M := M.call hb; clear hb
                refine sh_out hK _ _ (M.mask [true, true, true, true] rfl) ?_; clear hK K
                refine g_q (v := (.bool (!((decide (((windowJ jm).1.1) = (-((windowJ ju2).1.2)))) && (decide (((windowJ jm).1.2) = (-((windowJ ju2).1.1)))))))) (T := T) (i := 15) rfl (by kernel_rfl) (by kernel_rfl : (pbits 18 32767).setIfInBounds 15 true = pbits 18 65535) si_U (fun _ _ _ h => h) (wanted_yes rfl rfl (T.ev 8 rfl) (decide_eq_true h4)) rfl rfl rfl (fun _ _ _ _ _ => (rn_bin rfl (T.ev 7 rfl) (T.ev 0 rfl) neT23)) ?_; clear T ac; intro ac T
                refine g_q (T := T) (i := 16) rfl (by kernel_rfl) (by kernel_rfl : (pbits 18 65535).setIfInBounds 16 true = pbits 18 131071) si_U (fun _ _ _ h => h) (wanted_yes rfl rfl (T.ev 12 rfl) (by simp [h3])) rfl rfl rfl (fun _ _ _ _ _ => (rn_pick1 rfl (T.ev 9 rfl) (decide_eq_true h4) (T.ev 0 rfl))) ?_; clear T ac; intro ac T
                refine g_q (T := T) (i := 17) rfl (by kernel_rfl) (by kernel_rfl : (pbits 18 131071).setIfInBounds 17 true = pbits 18 262143) si_U (fun _ _ _ h => h) rfl rfl rfl rfl (fun _ _ _ _ _ => (rn_pick0 rfl (T.ev 13 rfl) (by simp [h3]) (T.ev 0 rfl))) ?_; clear T ac; intro ac T
                refine g_done (by kernel_rfl) ?_
                replace T := T.pick [0, 22, 23, 24, 25] rfl
                replace M := M.mask [false, false, true, true] rfl
                exact ⟨(T.pick (E' := [(4, .pointer (some ⟨g1, 0, none⟩)), (5, .pointer (some ⟨g2, 0, none⟩)), (7, .slice Au6 lu6.length cu6), (8, .slice A8 lm.length c8), (148, .bool (!((decide (((windowJ jm).1.1) = (-((windowJ ju2).1.2)))) && (decide (((windowJ jm).1.2) = (-((windowJ ju2).1.1)))))))]) [1, 2, 3, 4, 0] rfl).as (by (try rw [show (!(decide (((windowJ ju2).2) = ((windowJ jm).2)))) = false from (by simp [h3])]); (try rw [show (decide (((windowJ ju2).2) = 0)) = true from (decide_eq_true h4)]); rfl), M.mask [true, true] rfl⟩
              · replace h4 := of_decide_eq_false h4
                refine g_pass (T := T) (i := 7) rfl (by kernel_rfl) (by kernel_rfl : (pbits 18 127).setIfInBounds 7 true = pbits 18 255) si_U (fun _ _ _ h => h) (wanted_no rfl rfl (T.ev 0 rfl) (decide_eq_false h4)) rfl rfl rfl ?_; clear T ac; intro ac T
                refine g_pass (T := T) (i := 8) rfl (by kernel_rfl) (by kernel_rfl : (pbits 18 255).setIfInBounds 8 true = pbits 18 511) si_U (fun _ _ _ h => h) (wanted_no rfl rfl (T.ev 1 rfl) (decide_eq_false h4)) rfl rfl rfl ?_; clear T ac; intro ac T
                refine g_pass (T := T) (i := 9) rfl (by kernel_rfl) (by kernel_rfl : (pbits 18 511).setIfInBounds 9 true = pbits 18 1023) si_U (fun _ _ _ h => h) (wanted_no rfl rfl (T.ev 2 rfl) (decide_eq_false h4)) rfl rfl rfl ?_; clear T ac; intro ac T
                refine g_pass (T := T) (i := 10) rfl (by kernel_rfl) (by kernel_rfl : (pbits 18 1023).setIfInBounds 10 true = pbits 18 2047) si_U (fun _ _ _ h => h) (wanted_no rfl rfl (T.ev 3 rfl) (decide_eq_false h4)) rfl rfl rfl ?_; clear T ac; intro ac T
                refine g_pass (T := T) (i := 11) rfl (by kernel_rfl) (by kernel_rfl : (pbits 18 2047).setIfInBounds 11 true = pbits 18 4095) si_U (fun _ _ _ h => h) (wanted_no rfl rfl (T.ev 4 rfl) (decide_eq_false h4)) rfl rfl rfl ?_; clear T ac; intro ac T
                refine g_pass (T := T) (i := 12) rfl (by kernel_rfl) (by kernel_rfl : (pbits 18 4095).setIfInBounds 12 true = pbits 18 8191) si_U (fun _ _ _ h => h) (wanted_no rfl rfl (T.ev 5 rfl) (decide_eq_false h4)) rfl rfl rfl ?_; clear T ac; intro ac T
                refine g_pass (T := T) (i := 13) rfl (by kernel_rfl) (by kernel_rfl : (pbits 18 8191).setIfInBounds 13 true = pbits 18 16383) si_U (fun _ _ _ h => h) (wanted_no rfl rfl (T.ev 6 rfl) (decide_eq_false h4)) rfl rfl rfl ?_; clear T ac; intro ac T
                refine g_pass (T := T) (i := 14) rfl (by kernel_rfl) (by kernel_rfl : (pbits 18 16383).setIfInBounds 14 true = pbits 18 32767) si_U (fun _ _ _ h => h) (wanted_no rfl rfl (T.ev 7 rfl) (decide_eq_false h4)) rfl rfl rfl ?_; clear T ac; intro ac T
                refine g_pass (T := T) (i := 15) rfl (by kernel_rfl) (by kernel_rfl : (pbits 18 32767).setIfInBounds 15 true = pbits 18 65535) si_U (fun _ _ _ h => h) (wanted_no rfl rfl (T.ev 8 rfl) (decide_eq_false h4)) rfl rfl rfl ?_; clear T ac; intro ac T
                refine g_q (T := T) (i := 16) rfl (by kernel_rfl) (by kernel_rfl : (pbits 18 65535).setIfInBounds 16 true = pbits 18 131071) si_U (fun _ _ _ h => h) (wanted_yes rfl rfl (T.ev 12 rfl) (by simp [h3])) rfl rfl rfl (fun _ _ _ _ _ => (rn_pick0 rfl (T.ev 9 rfl) (decide_eq_false h4) evc)) ?_; clear T ac; intro ac T
                refine g_q (T := T) (i := 17) rfl (by kernel_rfl) (by kernel_rfl : (pbits 18 131071).setIfInBounds 17 true = pbits 18 262143) si_U (fun _ _ _ h => h) rfl rfl rfl rfl (fun _ _ _ _ _ => (rn_pick0 rfl (T.ev 13 rfl) (by simp [h3]) (T.ev 0 rfl))) ?_; clear T ac; intro ac T
                refine g_done (by kernel_rfl) ?_
                replace T := T.pick [0, 22, 23, 24, 25] rfl
                replace M := M.mask [false, false, true, true] rfl
                exact ⟨(T.pick (E' := [(4, .pointer (some ⟨g1, 0, none⟩)), (5, .pointer (some ⟨g2, 0, none⟩)), (7, .slice Au6 lu6.length cu6), (8, .slice A8 lm.length c8), (148, .bool false)]) [1, 2, 3, 4, 0] rfl).as (by (try rw [show (!(decide (((windowJ ju2).2) = ((windowJ jm).2)))) = false from (by simp [h3])]); (try rw [show (decide (((windowJ ju2).2) = 0)) = false from (decide_eq_false h4)]); rfl), M.mask [true, true] rfl⟩
          · clear T M
            rintro ac wc ⟨T, M⟩
            refine wp_cond_split (T.ev 4 rfl) ?_ ?_
            · intro h5
              (try have h5' := h5; try simp only [Bool.and_eq_true, Bool.or_eq_true, Bool.not_eq_true', Bool.and_eq_false_imp, Bool.or_eq_false_iff, decide_eq_true_eq, decide_eq_false_iff_not] at h5')
              refine wp_seq ?_
              refine wp_region_lit ?_
              refine l_q T rfl rfl rfl rfl (rn_assign rfl evc) ?_; clear T ac; intro ac T
              refine wpList_nil ?_
              replace T := T.pick [0] rfl
              replace M := M.mask [false, false] rfl
              refine nm_then ?_
              refine wp_ret ?_
              refine rt_then ?_
              refine rt_1 T rfl (T.ev 0 rfl) ?_
              exfalso
              obtain ⟨q1, q2⟩ := window_m hgu2
              rw [← hjm] at q1
              rcases q2 with q2 | q2
              · rw [if_pos q2] at q1; rw [q1] at h5'; simp [m2, q2] at h5'
              · rw [if_neg (by omega)] at q1; rw [q1] at h5'; simp [q2] at h5'
            · intro h5
              (try have h5' := h5; try simp only [Bool.and_eq_true, Bool.or_eq_true, Bool.not_eq_true', Bool.and_eq_false_imp, Bool.or_eq_false_iff, decide_eq_true_eq, decide_eq_false_iff_not] at h5')
              refine wp_skip ?_
              refine nm_then ?_
              refine wp_seq ?_
              refine wp_region_lit ?_
              refine l_q T rfl rfl rfl rfl (rn_rowO (Mem.nth M 1 rfl) rfl (T.ev 0 rfl) rfl) ?_; clear T ac; intro ac T
              refine l_q T rfl rfl rfl rfl (rn_move rfl (T.ev 3 rfl)) ?_; clear T ac; intro ac T
              refine l_w rfl ?_; intro K hK
              refine ow_call (first := []) (cap := []) T rfl rfl rfl rfl evf (.cons (T.ev 1 rfl) (.cons (T.ev 0 rfl) .nil)) Try.func34 rfl rfl ?_
              refine Calls.mono (After_T ju2 _ _ _ _ _ lu6 _ (Su2.rd M (.cons _ (.cons _ (List.Sublist.trans (List.Sublist.trans (List.Sublist.trans (List.Sublist.refl _) (List.sublist_append_left _ _)) (List.sublist_append_left _ _)) (List.sublist_append_left _ _))))) (by first | omega | (simp only [List.length_cons, List.length_nil, List.length_set]; omega)) (Su6.rd M (.cons _ (.cons _ (List.Sublist.trans (List.sublist_append_right _ _) (List.sublist_append_left _ _))))) (by first | omega | (simp only [List.length_cons, List.length_nil, List.length_set]; omega))) ?_
              clear T
              rintro e wc ⟨rfl, hb⟩
              intro ac T
              replace M := M.call hb; clear hb
              refine sh_out hK _ _ ?_; clear hK K
              refine l_q T rfl rfl rfl rfl (rn_move rfl (T.ev 0 rfl)) ?_; clear T ac; intro ac T
              refine l_q T rfl rfl rfl rfl (rn_extract rfl (T.ev 0 rfl) rfl) ?_; clear T ac; intro ac T
              refine l_q T rfl rfl rfl rfl (rn_extract rfl (T.ev 1 rfl) rfl) ?_; clear T ac; intro ac T
              refine l_w rfl ?_; intro K hK
              refine ow_al M T rfl rfl rfl rfl ?_; clear M T; intro g6 wc ac M T
              refine sh_out hK _ _ ?_; clear hK K
              refine l_w rfl ?_; intro K hK
              refine ow_stO M T rfl rfl (T.ev 0 rfl) (T.ev 2 rfl) rfl .head rfl (by simp) rfl (by kernel_rfl) ?_; clear M T; intro wc ac M T
              refine sh_out hK _ _ ?_; clear hK K
              refine l_q T rfl rfl rfl rfl (rn_assign rfl (T.ev 1 rfl)) ?_; clear T ac; intro ac T
              refine wpList_nil ?_
              replace T := T.pick [0, 1, 8, 9, 10, 11] rfl
              refine nm_then ?_
              refine wp_seq ?_
              refine wp_region_lit ?_
              refine l_q T rfl rfl rfl rfl (rn_rowO (Mem.nth M 1 rfl) rfl (T.ev 3 rfl) rfl) ?_; clear T ac; intro ac T
              refine l_q T rfl rfl rfl rfl (rn_move rfl (T.ev 6 rfl)) ?_; clear T ac; intro ac T
              refine l_w rfl ?_; intro K hK
              refine ow_call (first := []) (cap := []) T rfl rfl rfl rfl evf (.cons (T.ev 1 rfl) (.cons (T.ev 0 rfl) .nil)) Try.func34 rfl rfl ?_
              refine Calls.mono (After_T jm _ _ _ _ _ lm _ (Sjm.rd M (.cons _ (.cons _ (.cons _ (List.Sublist.trans (List.Sublist.trans (List.sublist_append_right _ _) (List.sublist_append_left _ _)) (List.sublist_append_left _ _)))))) (by first | omega | (simp only [List.length_cons, List.length_nil, List.length_set]; omega)) (S8.rd M (.cons _ (.cons _ (.cons _ (List.sublist_append_right _ _))))) (by first | omega | (simp only [List.length_cons, List.length_nil, List.length_set]; omega))) ?_
              clear T
              rintro e wc ⟨rfl, hb⟩
              intro ac T
              replace M := M.call hb; clear hb
              refine sh_out hK _ _ ?_; clear hK K
              refine l_q T rfl rfl rfl rfl (rn_move rfl (T.ev 0 rfl)) ?_; clear T ac; intro ac T
              refine l_q T rfl rfl rfl rfl (rn_extract rfl (T.ev 0 rfl) rfl) ?_; clear T ac; intro ac T
              refine l_q T rfl rfl rfl rfl (rn_extract rfl (T.ev 1 rfl) rfl) ?_; clear T ac; intro ac T
              refine l_w rfl ?_; intro K hK
              refine ow_al M T rfl rfl rfl rfl ?_; clear M T; intro g7 wc ac M T
              refine sh_out hK _ _ ?_; clear hK K
              refine l_w rfl ?_; intro K hK
              refine ow_stO M T rfl rfl (T.ev 0 rfl) (T.ev 2 rfl) rfl .head rfl (by simp) rfl (by kernel_rfl) ?_; clear M T; intro wc ac M T
              refine sh_out hK _ _ ?_; clear hK K
              refine l_q T rfl rfl rfl rfl (rn_assign rfl (T.ev 1 rfl)) ?_; clear T ac; intro ac T
              refine wpList_nil ?_
              replace T := T.pick [0, 1, 8, 9, 10, 11, 12, 13] rfl
              refine nm_then ?_
              refine wp_seq ?_
              refine wp_region_lit ?_
              refine l_q T rfl rfl rfl rfl (rn_rowO (Mem.nth M 3 rfl) rfl (T.ev 4 rfl) rfl) ?_; clear T ac; intro ac T
              refine l_q T rfl rfl rfl rfl (rn_move rfl (T.ev 7 rfl)) ?_; clear T ac; intro ac T
              refine l_w rfl ?_; intro K hK
              refine ow_call (first := []) (cap := []) T rfl rfl rfl rfl evf (.cons (T.ev 1 rfl) (.cons (T.ev 0 rfl) .nil)) Try.func30 rfl rfl ?_
              refine Calls.mono (Fine_any ju2 _ _ _ _ _ lu6 _ (Su2.rd M (.cons _ (.cons _ (.cons _ (.cons _ (List.Sublist.trans (List.Sublist.trans (List.Sublist.trans (List.Sublist.refl _) (List.sublist_append_left _ _)) (List.sublist_append_left _ _)) (List.sublist_append_left _ _))))))) (by first | omega | (simp only [List.length_cons, List.length_nil, List.length_set]; omega)) (Su6.rd M (.cons _ (.cons _ (.cons _ (.cons _ (List.Sublist.trans (List.sublist_append_right _ _) (List.sublist_append_left _ _))))))) (by first | omega | (simp only [List.length_cons, List.length_nil, List.length_set]; omega))) ?_
              clear T
              rintro e wc ⟨rfl, hb⟩
              intro ac T
              replace M := M.call hb; clear hb
              refine sh_out hK _ _ ?_; clear hK K
              refine l_q T rfl rfl rfl rfl (rn_move rfl (T.ev 0 rfl)) ?_; clear T ac; intro ac T
              refine l_q T rfl rfl rfl rfl (rn_extract rfl (T.ev 0 rfl) rfl) ?_; clear T ac; intro ac T
              refine l_q T rfl rfl rfl rfl (rn_extract rfl (T.ev 1 rfl) rfl) ?_; clear T ac; intro ac T
              refine l_q T rfl rfl rfl rfl (rn_assign rfl (T.ev 1 rfl)) ?_; clear T ac; intro ac T
              refine l_q T rfl rfl rfl rfl (rn_assign rfl (T.ev 1 rfl)) ?_; clear T ac; intro ac T
              refine wpList_nil ?_
              replace T := T.pick [0, 1, 8, 9, 10, 11, 12, 13, 15] rfl
              refine nm_then ?_
              refine wp_seq ?_
              refine wp_region_lit ?_
              refine l_q T rfl rfl rfl rfl (rn_rowO (Mem.nth M 2 rfl) rfl (T.ev 7 rfl) rfl) ?_; clear T ac; intro ac T
              refine l_q T rfl rfl rfl rfl (rn_move rfl (T.ev 9 rfl)) ?_; clear T ac; intro ac T
              refine l_w rfl ?_; intro K hK
              refine ow_call (first := []) (cap := []) T rfl rfl rfl rfl evf (.cons (T.ev 1 rfl) (.cons (T.ev 0 rfl) .nil)) Try.func30 rfl rfl ?_
              refine Calls.mono (Fine_any jm _ _ _ _ _ lm _ (Sjm.rd M (.cons _ (.cons _ (.cons _ (.cons _ (List.Sublist.trans (List.Sublist.trans (List.sublist_append_right _ _) (List.sublist_append_left _ _)) (List.sublist_append_left _ _))))))) (by first | omega | (simp only [List.length_cons, List.length_nil, List.length_set]; omega)) (S8.rd M (.cons _ (.cons _ (.cons _ (.cons _ (List.sublist_append_right _ _)))))) (by first | omega | (simp only [List.length_cons, List.length_nil, List.length_set]; omega))) ?_
              clear T
              rintro e wc ⟨rfl, hb⟩
              intro ac T
              replace M := M.call hb; clear hb
              refine sh_out hK _ _ ?_; clear hK K
              refine l_q T rfl rfl rfl rfl (rn_move rfl (T.ev 0 rfl)) ?_; clear T ac; intro ac T
              refine l_q T rfl rfl rfl rfl (rn_extract rfl (T.ev 0 rfl) rfl) ?_; clear T ac; intro ac T
              refine l_q T rfl rfl rfl rfl (rn_extract rfl (T.ev 1 rfl) rfl) ?_; clear T ac; intro ac T
              refine l_q T rfl rfl rfl rfl (rn_assign rfl (T.ev 1 rfl)) ?_; clear T ac; intro ac T
              refine l_q T rfl rfl rfl rfl (rn_assign rfl (T.ev 1 rfl)) ?_; clear T ac; intro ac T
              refine wpList_nil ?_
              replace T := T.pick [0, 1, 8, 9, 10, 11, 12, 13, 14, 15] rfl
              refine nm_then ?_
              refine wp_seq ?_
              refine cut_seq (fun ac wc => Tm ac 285 [(4, .pointer (some ⟨g1, 0, none⟩)), (5, .pointer (some ⟨g2, 0, none⟩)), (219, .bool ((!(decide ((checkStrokesJ ju2 lu6) = 0))) || ((!(decide ((checkStrokesJ jm lm) = 0))) || ((!(decide (((fineT ju2 lu6).2) = 0))) || ((!(decide (((fineT jm lm).2) = 0))) || ((!(decide (((fineT ju2 lu6).1) = ((fineT jm lm).1)))) || ((!((decide (((afT jm lm).p0) = (-((afT ju2 lu6).p1)))) && (decide (((afT jm lm).p1) = (-((afT ju2 lu6).p0)))))) || ((!((decide (((afT jm lm).t0) = ((afT ju2 lu6).r0))) && (decide (((afT jm lm).t1) = ((afT ju2 lu6).r1))))) || (!((decide (((afT jm lm).r0) = ((afT ju2 lu6).t0))) && (decide (((afT jm lm).r1) = ((afT ju2 lu6).t1)))))))))))))] ∧ Mem w noEx wc ((g2, .cells (jobL jm Au3 cu3)) :: (g1, .cells (jobL ju2 Au2 cu2)) :: (Iu2 ++ Ix ++ Iu6 ++ I8))) ?_ ?_
              · refine g_start2 M (M.mask [true, true, true, true] rfl) 47 (by kernel_rfl) rfl (by kernel_rfl) ?_
                clear M; intro wc M
                refine g_q (T := T) (i := 0) rfl (by kernel_rfl) (by kernel_rfl : (pbits 47 0).setIfInBounds 0 true = pbits 47 1) si_U (fun _ _ _ h => h) rfl rfl rfl rfl (fun _ _ _ _ _ => (rn_move rfl (T.ev 6 rfl))) ?_; clear T ac; intro ac T
                refine g_q (T := T) (i := 1) rfl (by kernel_rfl) (by kernel_rfl : (pbits 47 1).setIfInBounds 1 true = pbits 47 3) si_U (fun _ _ _ h => h) rfl rfl rfl rfl (fun _ _ _ _ _ => (rn_neq rfl (T.ev 0 rfl) evc)) ?_; clear T ac; intro ac T
                refine g_q (T := T) (i := 2) rfl (by kernel_rfl) (by kernel_rfl : (pbits 47 3).setIfInBounds 2 true = pbits 47 7) si_U (fun _ _ _ h => h) rfl rfl rfl rfl (fun _ _ _ _ _ => (rn_move rfl (T.ev 0 rfl))) ?_; clear T ac; intro ac T
                rcases Bool.eq_false_or_eq_true (!(decide ((checkStrokesJ ju2 lu6) = 0))) with h6 | h6
                · replace h6 : ¬ ((checkStrokesJ ju2 lu6) = 0) := by simpa using h6
                  refine g_pass (T := T) (i := 3) rfl (by kernel_rfl) (by kernel_rfl : (pbits 47 7).setIfInBounds 3 true = pbits 47 15) si_U (fun _ _ _ h => h) (wanted_no rfl rfl (T.ev 0 rfl) (by simp [h6])) rfl rfl rfl ?_; clear T ac; intro ac T
                  refine g_pass (T := T) (i := 4) rfl (by kernel_rfl) (by kernel_rfl : (pbits 47 15).setIfInBounds 4 true = pbits 47 31) si_U (fun _ _ _ h => h) (wanted_no rfl rfl (T.ev 1 rfl) (by simp [h6])) rfl rfl rfl ?_; clear T ac; intro ac T
                  refine g_q (T := T) (i := 5) rfl (by kernel_rfl) (by kernel_rfl : (pbits 47 31).setIfInBounds 5 true = pbits 47 63) si_U (fun _ _ _ h => h) rfl rfl rfl rfl (fun _ _ _ _ _ => (rn_pick1 rfl (T.ev 2 rfl) (by simp [h6]) evc)) ?_; clear T ac; intro ac T
                  refine g_q (T := T) (i := 6) rfl (by kernel_rfl) (by kernel_rfl : (pbits 47 63).setIfInBounds 6 true = pbits 47 127) si_U (fun _ _ _ h => h) rfl rfl rfl rfl (fun _ _ _ _ _ => (rn_move rfl (T.ev 0 rfl))) ?_; clear T ac; intro ac T
                  refine g_pass (T := T) (i := 7) rfl (by kernel_rfl) (by kernel_rfl : (pbits 47 127).setIfInBounds 7 true = pbits 47 255) si_U (fun _ _ _ h => h) (wanted_no rfl rfl (T.ev 0 rfl) rfl) rfl rfl rfl ?_; clear T ac; intro ac T
                  refine g_pass (T := T) (i := 8) rfl (by kernel_rfl) (by kernel_rfl : (pbits 47 255).setIfInBounds 8 true = pbits 47 511) si_U (fun _ _ _ h => h) (wanted_no rfl rfl (T.ev 1 rfl) rfl) rfl rfl rfl ?_; clear T ac; intro ac T
                  refine g_q (T := T) (i := 9) rfl (by kernel_rfl) (by kernel_rfl : (pbits 47 511).setIfInBounds 9 true = pbits 47 1023) si_U (fun _ _ _ h => h) rfl rfl rfl rfl (fun _ _ _ _ _ => (rn_pick1 rfl (T.ev 2 rfl) rfl evc)) ?_; clear T ac; intro ac T
                  refine g_q (T := T) (i := 10) rfl (by kernel_rfl) (by kernel_rfl : (pbits 47 1023).setIfInBounds 10 true = pbits 47 2047) si_U (fun _ _ _ h => h) rfl rfl rfl rfl (fun _ _ _ _ _ => (rn_move rfl (T.ev 0 rfl))) ?_; clear T ac; intro ac T
                  refine g_pass (T := T) (i := 11) rfl (by kernel_rfl) (by kernel_rfl : (pbits 47 2047).setIfInBounds 11 true = pbits 47 4095) si_U (fun _ _ _ h => h) (wanted_no rfl rfl (T.ev 0 rfl) rfl) rfl rfl rfl ?_; clear T ac; intro ac T
                  refine g_pass (T := T) (i := 12) rfl (by kernel_rfl) (by kernel_rfl : (pbits 47 4095).setIfInBounds 12 true = pbits 47 8191) si_U (fun _ _ _ h => h) (wanted_no rfl rfl (T.ev 1 rfl) rfl) rfl rfl rfl ?_; clear T ac; intro ac T
                  refine g_q (T := T) (i := 13) rfl (by kernel_rfl) (by kernel_rfl : (pbits 47 8191).setIfInBounds 13 true = pbits 47 16383) si_U (fun _ _ _ h => h) rfl rfl rfl rfl (fun _ _ _ _ _ => (rn_pick1 rfl (T.ev 2 rfl) rfl evc)) ?_; clear T ac; intro ac T
                  refine g_q (T := T) (i := 14) rfl (by kernel_rfl) (by kernel_rfl : (pbits 47 16383).setIfInBounds 14 true = pbits 47 32767) si_U (fun _ _ _ h => h) rfl rfl rfl rfl (fun _ _ _ _ _ => (rn_move rfl (T.ev 0 rfl))) ?_; clear T ac; intro ac T
                  refine g_pass (T := T) (i := 15) rfl (by kernel_rfl) (by kernel_rfl : (pbits 47 32767).setIfInBounds 15 true = pbits 47 65535) si_U (fun _ _ _ h => h) (wanted_no rfl rfl (T.ev 0 rfl) rfl) rfl rfl rfl ?_; clear T ac; intro ac T
                  refine g_pass (T := T) (i := 16) rfl (by kernel_rfl) (by kernel_rfl : (pbits 47 65535).setIfInBounds 16 true = pbits 47 131071) si_U (fun _ _ _ h => h) (wanted_no rfl rfl (T.ev 1 rfl) rfl) rfl rfl rfl ?_; clear T ac; intro ac T
                  refine g_pass (T := T) (i := 17) rfl (by kernel_rfl) (by kernel_rfl : (pbits 47 131071).setIfInBounds 17 true = pbits 47 262143) si_U (fun _ _ _ h => h) (wanted_no rfl rfl (T.ev 2 rfl) rfl) rfl rfl rfl ?_; clear T ac; intro ac T
                  refine g_q (T := T) (i := 18) rfl (by kernel_rfl) (by kernel_rfl : (pbits 47 262143).setIfInBounds 18 true = pbits 47 524287) si_U (fun _ _ _ h => h) rfl rfl rfl rfl (fun _ _ _ _ _ => (rn_pick1 rfl (T.ev 3 rfl) rfl evc)) ?_; clear T ac; intro ac T
                  refine g_q (T := T) (i := 19) rfl (by kernel_rfl) (by kernel_rfl : (pbits 47 524287).setIfInBounds 19 true = pbits 47 1048575) si_U (fun _ _ _ h => h) rfl rfl rfl rfl (fun _ _ _ _ _ => (rn_move rfl (T.ev 0 rfl))) ?_; clear T ac; intro ac T
                  refine g_pass (T := T) (i := 20) rfl (by kernel_rfl) (by kernel_rfl : (pbits 47 1048575).setIfInBounds 20 true = pbits 47 2097151) si_U (fun _ _ _ h => h) (wanted_no rfl rfl (T.ev 0 rfl) rfl) rfl rfl rfl ?_; clear T ac; intro ac T
                  refine g_pass (T := T) (i := 21) rfl (by kernel_rfl) (by kernel_rfl : (pbits 47 2097151).setIfInBounds 21 true = pbits 47 4194303) si_U (fun _ _ _ h => h) (wanted_no rfl rfl (T.ev 1 rfl) rfl) rfl rfl rfl ?_; clear T ac; intro ac T
                  refine g_pass (T := T) (i := 22) rfl (by kernel_rfl) (by kernel_rfl : (pbits 47 4194303).setIfInBounds 22 true = pbits 47 8388607) si_U (fun _ _ _ h => h) (wanted_no rfl rfl (T.ev 2 rfl) rfl) rfl rfl rfl ?_; clear T ac; intro ac T
                  refine g_pass (T := T) (i := 23) rfl (by kernel_rfl) (by kernel_rfl : (pbits 47 8388607).setIfInBounds 23 true = pbits 47 16777215) si_U (fun _ _ _ h => h) (wanted_no rfl rfl (T.ev 3 rfl) rfl) rfl rfl rfl ?_; clear T ac; intro ac T
                  refine g_pass (T := T) (i := 24) rfl (by kernel_rfl) (by kernel_rfl : (pbits 47 16777215).setIfInBounds 24 true = pbits 47 33554431) si_U (fun _ _ _ h => h) (wanted_no rfl rfl (T.ev 4 rfl) rfl) rfl rfl rfl ?_; clear T ac; intro ac T
                  refine g_pass (T := T) (i := 25) rfl (by kernel_rfl) (by kernel_rfl : (pbits 47 33554431).setIfInBounds 25 true = pbits 47 67108863) si_U (fun _ _ _ h => h) (wanted_no rfl rfl (T.ev 5 rfl) rfl) rfl rfl rfl ?_; clear T ac; intro ac T
                  refine g_pass (T := T) (i := 26) rfl (by kernel_rfl) (by kernel_rfl : (pbits 47 67108863).setIfInBounds 26 true = pbits 47 134217727) si_U (fun _ _ _ h => h) (wanted_no rfl rfl (T.ev 6 rfl) rfl) rfl rfl rfl ?_; clear T ac; intro ac T
                  refine g_pass (T := T) (i := 27) rfl (by kernel_rfl) (by kernel_rfl : (pbits 47 134217727).setIfInBounds 27 true = pbits 47 268435455) si_U (fun _ _ _ h => h) (wanted_no rfl rfl (T.ev 7 rfl) rfl) rfl rfl rfl ?_; clear T ac; intro ac T
                  refine g_pass (T := T) (i := 28) rfl (by kernel_rfl) (by kernel_rfl : (pbits 47 268435455).setIfInBounds 28 true = pbits 47 536870911) si_U (fun _ _ _ h => h) (wanted_no rfl rfl (T.ev 8 rfl) rfl) rfl rfl rfl ?_; clear T ac; intro ac T
                  refine g_pass (T := T) (i := 29) rfl (by kernel_rfl) (by kernel_rfl : (pbits 47 536870911).setIfInBounds 29 true = pbits 47 1073741823) si_U (fun _ _ _ h => h) (wanted_no rfl rfl (T.ev 9 rfl) rfl) rfl rfl rfl ?_; clear T ac; intro ac T
                  refine g_pass (T := T) (i := 30) rfl (by kernel_rfl) (by kernel_rfl : (pbits 47 1073741823).setIfInBounds 30 true = pbits 47 2147483647) si_U (fun _ _ _ h => h) (wanted_no rfl rfl (T.ev 10 rfl) rfl) rfl rfl rfl ?_; clear T ac; intro ac T
                  refine g_pass (T := T) (i := 31) rfl (by kernel_rfl) (by kernel_rfl : (pbits 47 2147483647).setIfInBounds 31 true = pbits 47 4294967295) si_U (fun _ _ _ h => h) (wanted_no rfl rfl (T.ev 11 rfl) rfl) rfl rfl rfl ?_; clear T ac; intro ac T
                  refine g_q (T := T) (i := 32) rfl (by kernel_rfl) (by kernel_rfl : (pbits 47 4294967295).setIfInBounds 32 true = pbits 47 8589934591) si_U (fun _ _ _ h => h) rfl rfl rfl rfl (fun _ _ _ _ _ => (rn_pick1 rfl (T.ev 12 rfl) rfl evc)) ?_; clear T ac; intro ac T
                  refine g_q (T := T) (i := 33) rfl (by kernel_rfl) (by kernel_rfl : (pbits 47 8589934591).setIfInBounds 33 true = pbits 47 17179869183) si_U (fun _ _ _ h => h) rfl rfl rfl rfl (fun _ _ _ _ _ => (rn_move rfl (T.ev 0 rfl))) ?_; clear T ac; intro ac T
                  refine g_pass (T := T) (i := 34) rfl (by kernel_rfl) (by kernel_rfl : (pbits 47 17179869183).setIfInBounds 34 true = pbits 47 34359738367) si_U (fun _ _ _ h => h) (wanted_no rfl rfl (T.ev 0 rfl) rfl) rfl rfl rfl ?_; clear T ac; intro ac T
                  refine g_pass (T := T) (i := 35) rfl (by kernel_rfl) (by kernel_rfl : (pbits 47 34359738367).setIfInBounds 35 true = pbits 47 68719476735) si_U (fun _ _ _ h => h) (wanted_no rfl rfl (T.ev 1 rfl) rfl) rfl rfl rfl ?_; clear T ac; intro ac T
                  refine g_pass (T := T) (i := 36) rfl (by kernel_rfl) (by kernel_rfl : (pbits 47 68719476735).setIfInBounds 36 true = pbits 47 137438953471) si_U (fun _ _ _ h => h) (wanted_no rfl rfl (T.ev 2 rfl) rfl) rfl rfl rfl ?_; clear T ac; intro ac T
                  refine g_pass (T := T) (i := 37) rfl (by kernel_rfl) (by kernel_rfl : (pbits 47 137438953471).setIfInBounds 37 true = pbits 47 274877906943) si_U (fun _ _ _ h => h) (wanted_no rfl rfl (T.ev 3 rfl) rfl) rfl rfl rfl ?_; clear T ac; intro ac T
                  refine g_pass (T := T) (i := 38) rfl (by kernel_rfl) (by kernel_rfl : (pbits 47 274877906943).setIfInBounds 38 true = pbits 47 549755813887) si_U (fun _ _ _ h => h) (wanted_no rfl rfl (T.ev 4 rfl) rfl) rfl rfl rfl ?_; clear T ac; intro ac T
                  refine g_q (T := T) (i := 39) rfl (by kernel_rfl) (by kernel_rfl : (pbits 47 549755813887).setIfInBounds 39 true = pbits 47 1099511627775) si_U (fun _ _ _ h => h) rfl rfl rfl rfl (fun _ _ _ _ _ => (rn_pick1 rfl (T.ev 5 rfl) rfl evc)) ?_; clear T ac; intro ac T
                  refine g_q (T := T) (i := 40) rfl (by kernel_rfl) (by kernel_rfl : (pbits 47 1099511627775).setIfInBounds 40 true = pbits 47 2199023255551) si_U (fun _ _ _ h => h) rfl rfl rfl rfl (fun _ _ _ _ _ => (rn_move rfl (T.ev 0 rfl))) ?_; clear T ac; intro ac T
                  refine g_pass (T := T) (i := 41) rfl (by kernel_rfl) (by kernel_rfl : (pbits 47 2199023255551).setIfInBounds 41 true = pbits 47 4398046511103) si_U (fun _ _ _ h => h) (wanted_no rfl rfl (T.ev 0 rfl) rfl) rfl rfl rfl ?_; clear T ac; intro ac T
                  refine g_pass (T := T) (i := 42) rfl (by kernel_rfl) (by kernel_rfl : (pbits 47 4398046511103).setIfInBounds 42 true = pbits 47 8796093022207) si_U (fun _ _ _ h => h) (wanted_no rfl rfl (T.ev 1 rfl) rfl) rfl rfl rfl ?_; clear T ac; intro ac T
                  refine g_pass (T := T) (i := 43) rfl (by kernel_rfl) (by kernel_rfl : (pbits 47 8796093022207).setIfInBounds 43 true = pbits 47 17592186044415) si_U (fun _ _ _ h => h) (wanted_no rfl rfl (T.ev 2 rfl) rfl) rfl rfl rfl ?_; clear T ac; intro ac T
                  refine g_pass (T := T) (i := 44) rfl (by kernel_rfl) (by kernel_rfl : (pbits 47 17592186044415).setIfInBounds 44 true = pbits 47 35184372088831) si_U (fun _ _ _ h => h) (wanted_no rfl rfl (T.ev 3 rfl) rfl) rfl rfl rfl ?_; clear T ac; intro ac T
                  refine g_pass (T := T) (i := 45) rfl (by kernel_rfl) (by kernel_rfl : (pbits 47 35184372088831).setIfInBounds 45 true = pbits 47 70368744177663) si_U (fun _ _ _ h => h) (wanted_no rfl rfl (T.ev 4 rfl) rfl) rfl rfl rfl ?_; clear T ac; intro ac T
                  refine g_q (T := T) (i := 46) rfl (by kernel_rfl) (by kernel_rfl : (pbits 47 70368744177663).setIfInBounds 46 true = pbits 47 140737488355327) si_U (fun _ _ _ h => h) rfl rfl rfl rfl (fun _ _ _ _ _ => (rn_pick1 rfl (T.ev 5 rfl) rfl evc)) ?_; clear T ac; intro ac T
                  refine g_done (by kernel_rfl) ?_
                  replace T := T.pick [0, 55, 56] rfl
                  replace M := M.mask [false, false, true, true] rfl
                  exact ⟨(T.pick (E' := [(4, .pointer (some ⟨g1, 0, none⟩)), (5, .pointer (some ⟨g2, 0, none⟩)), (219, .bool true)]) [1, 2, 0] rfl).as (by (try rw [show (!(decide ((checkStrokesJ ju2 lu6) = 0))) = true from (by simp [h6])]); rfl), M.mask [true, true] rfl⟩
                · replace h6 : (checkStrokesJ ju2 lu6) = 0 := by simpa using h6
                  refine g_q (T := T) (i := 3) rfl (by kernel_rfl) (by kernel_rfl : (pbits 47 7).setIfInBounds 3 true = pbits 47 15) si_U (fun _ _ _ h => h) (wanted_yes rfl rfl (T.ev 0 rfl) (by simp [h6])) rfl rfl rfl (fun _ _ _ _ _ => (rn_move rfl (T.ev 7 rfl))) ?_; clear T ac; intro ac T
                  refine g_q (T := T) (i := 4) rfl (by kernel_rfl) (by kernel_rfl : (pbits 47 15).setIfInBounds 4 true = pbits 47 31) si_U (fun _ _ _ h => h) (wanted_yes rfl rfl (T.ev 1 rfl) (by simp [h6])) rfl rfl rfl (fun _ _ _ _ _ => (rn_neq rfl (T.ev 0 rfl) evc)) ?_; clear T ac; intro ac T
                  refine g_q (T := T) (i := 5) rfl (by kernel_rfl) (by kernel_rfl : (pbits 47 31).setIfInBounds 5 true = pbits 47 63) si_U (fun _ _ _ h => h) rfl rfl rfl rfl (fun _ _ _ _ _ => (rn_pick0 rfl (T.ev 2 rfl) (by simp [h6]) (T.ev 0 rfl))) ?_; clear T ac; intro ac T
                  refine g_q (T := T) (i := 6) rfl (by kernel_rfl) (by kernel_rfl : (pbits 47 63).setIfInBounds 6 true = pbits 47 127) si_U (fun _ _ _ h => h) rfl rfl rfl rfl (fun _ _ _ _ _ => (rn_move rfl (T.ev 0 rfl))) ?_; clear T ac; intro ac T
                  rcases Bool.eq_false_or_eq_true (!(decide ((checkStrokesJ jm lm) = 0))) with h7 | h7
                  · replace h7 : ¬ ((checkStrokesJ jm lm) = 0) := by simpa using h7
                    refine g_pass (T := T) (i := 7) rfl (by kernel_rfl) (by kernel_rfl : (pbits 47 127).setIfInBounds 7 true = pbits 47 255) si_U (fun _ _ _ h => h) (wanted_no rfl rfl (T.ev 0 rfl) (by simp [h7])) rfl rfl rfl ?_; clear T ac; intro ac T
                    refine g_pass (T := T) (i := 8) rfl (by kernel_rfl) (by kernel_rfl : (pbits 47 255).setIfInBounds 8 true = pbits 47 511) si_U (fun _ _ _ h => h) (wanted_no rfl rfl (T.ev 1 rfl) (by simp [h7])) rfl rfl rfl ?_; clear T ac; intro ac T
                    refine g_q (T := T) (i := 9) rfl (by kernel_rfl) (by kernel_rfl : (pbits 47 511).setIfInBounds 9 true = pbits 47 1023) si_U (fun _ _ _ h => h) rfl rfl rfl rfl (fun _ _ _ _ _ => (rn_pick1 rfl (T.ev 2 rfl) (by simp [h7]) evc)) ?_; clear T ac; intro ac T
                    refine g_q (T := T) (i := 10) rfl (by kernel_rfl) (by kernel_rfl : (pbits 47 1023).setIfInBounds 10 true = pbits 47 2047) si_U (fun _ _ _ h => h) rfl rfl rfl rfl (fun _ _ _ _ _ => (rn_move rfl (T.ev 0 rfl))) ?_; clear T ac; intro ac T
                    refine g_pass (T := T) (i := 11) rfl (by kernel_rfl) (by kernel_rfl : (pbits 47 2047).setIfInBounds 11 true = pbits 47 4095) si_U (fun _ _ _ h => h) (wanted_no rfl rfl (T.ev 0 rfl) rfl) rfl rfl rfl ?_; clear T ac; intro ac T
                    refine g_pass (T := T) (i := 12) rfl (by kernel_rfl) (by kernel_rfl : (pbits 47 4095).setIfInBounds 12 true = pbits 47 8191) si_U (fun _ _ _ h => h) (wanted_no rfl rfl (T.ev 1 rfl) rfl) rfl rfl rfl ?_; clear T ac; intro ac T
                    refine g_q (T := T) (i := 13) rfl (by kernel_rfl) (by kernel_rfl : (pbits 47 8191).setIfInBounds 13 true = pbits 47 16383) si_U (fun _ _ _ h => h) rfl rfl rfl rfl (fun _ _ _ _ _ => (rn_pick1 rfl (T.ev 2 rfl) rfl evc)) ?_; clear T ac; intro ac T
                    refine g_q (T := T) (i := 14) rfl (by kernel_rfl) (by kernel_rfl : (pbits 47 16383).setIfInBounds 14 true = pbits 47 32767) si_U (fun _ _ _ h => h) rfl rfl rfl rfl (fun _ _ _ _ _ => (rn_move rfl (T.ev 0 rfl))) ?_; clear T ac; intro ac T
                    refine g_pass (T := T) (i := 15) rfl (by kernel_rfl) (by kernel_rfl : (pbits 47 32767).setIfInBounds 15 true = pbits 47 65535) si_U (fun _ _ _ h => h) (wanted_no rfl rfl (T.ev 0 rfl) rfl) rfl rfl rfl ?_; clear T ac; intro ac T
                    refine g_pass (T := T) (i := 16) rfl (by kernel_rfl) (by kernel_rfl : (pbits 47 65535).setIfInBounds 16 true = pbits 47 131071) si_U (fun _ _ _ h => h) (wanted_no rfl rfl (T.ev 1 rfl) rfl) rfl rfl rfl ?_; clear T ac; intro ac T
                    refine g_pass (T := T) (i := 17) rfl (by kernel_rfl) (by kernel_rfl : (pbits 47 131071).setIfInBounds 17 true = pbits 47 262143) si_U (fun _ _ _ h => h) (wanted_no rfl rfl (T.ev 2 rfl) rfl) rfl rfl rfl ?_; clear T ac; intro ac T
                    refine g_q (T := T) (i := 18) rfl (by kernel_rfl) (by kernel_rfl : (pbits 47 262143).setIfInBounds 18 true = pbits 47 524287) si_U (fun _ _ _ h => h) rfl rfl rfl rfl (fun _ _ _ _ _ => (rn_pick1 rfl (T.ev 3 rfl) rfl evc)) ?_; clear T ac; intro ac T
                    refine g_q (T := T) (i := 19) rfl (by kernel_rfl) (by kernel_rfl : (pbits 47 524287).setIfInBounds 19 true = pbits 47 1048575) si_U (fun _ _ _ h => h) rfl rfl rfl rfl (fun _ _ _ _ _ => (rn_move rfl (T.ev 0 rfl))) ?_; clear T ac; intro ac T
                    refine g_pass (T := T) (i := 20) rfl (by kernel_rfl) (by kernel_rfl : (pbits 47 1048575).setIfInBounds 20 true = pbits 47 2097151) si_U (fun _ _ _ h => h) (wanted_no rfl rfl (T.ev 0 rfl) rfl) rfl rfl rfl ?_; clear T ac; intro ac T
                    refine g_pass (T := T) (i := 21) rfl (by kernel_rfl) (by kernel_rfl : (pbits 47 2097151).setIfInBounds 21 true = pbits 47 4194303) si_U (fun _ _ _ h => h) (wanted_no rfl rfl (T.ev 1 rfl) rfl) rfl rfl rfl ?_; clear T ac; intro ac T
                    refine g_pass (T := T) (i := 22) rfl (by kernel_rfl) (by kernel_rfl : (pbits 47 4194303).setIfInBounds 22 true = pbits 47 8388607) si_U (fun _ _ _ h => h) (wanted_no rfl rfl (T.ev 2 rfl) rfl) rfl rfl rfl ?_; clear T ac; intro ac T
                    refine g_pass (T := T) (i := 23) rfl (by kernel_rfl) (by kernel_rfl : (pbits 47 8388607).setIfInBounds 23 true = pbits 47 16777215) si_U (fun _ _ _ h => h) (wanted_no rfl rfl (T.ev 3 rfl) rfl) rfl rfl rfl ?_; clear T ac; intro ac T
                    refine g_pass (T := T) (i := 24) rfl (by kernel_rfl) (by kernel_rfl : (pbits 47 16777215).setIfInBounds 24 true = pbits 47 33554431) si_U (fun _ _ _ h => h) (wanted_no rfl rfl (T.ev 4 rfl) rfl) rfl rfl rfl ?_; clear T ac; intro ac T
                    refine g_pass (T := T) (i := 25) rfl (by kernel_rfl) (by kernel_rfl : (pbits 47 33554431).setIfInBounds 25 true = pbits 47 67108863) si_U (fun _ _ _ h => h) (wanted_no rfl rfl (T.ev 5 rfl) rfl) rfl rfl rfl ?_; clear T ac; intro ac T
                    refine g_pass (T := T) (i := 26) rfl (by kernel_rfl) (by kernel_rfl : (pbits 47 67108863).setIfInBounds 26 true = pbits 47 134217727) si_U (fun _ _ _ h => h) (wanted_no rfl rfl (T.ev 6 rfl) rfl) rfl rfl rfl ?_; clear T ac; intro ac T
                    refine g_pass (T := T) (i := 27) rfl (by kernel_rfl) (by kernel_rfl : (pbits 47 134217727).setIfInBounds 27 true = pbits 47 268435455) si_U (fun _ _ _ h => h) (wanted_no rfl rfl (T.ev 7 rfl) rfl) rfl rfl rfl ?_; clear T ac; intro ac T
                    refine g_pass (T := T) (i := 28) rfl (by kernel_rfl) (by kernel_rfl : (pbits 47 268435455).setIfInBounds 28 true = pbits 47 536870911) si_U (fun _ _ _ h => h) (wanted_no rfl rfl (T.ev 8 rfl) rfl) rfl rfl rfl ?_; clear T ac; intro ac T
                    refine g_pass (T := T) (i := 29) rfl (by kernel_rfl) (by kernel_rfl : (pbits 47 536870911).setIfInBounds 29 true = pbits 47 1073741823) si_U (fun _ _ _ h => h) (wanted_no rfl rfl (T.ev 9 rfl) rfl) rfl rfl rfl ?_; clear T ac; intro ac T
                    refine g_pass (T := T) (i := 30) rfl (by kernel_rfl) (by kernel_rfl : (pbits 47 1073741823).setIfInBounds 30 true = pbits 47 2147483647) si_U (fun _ _ _ h => h) (wanted_no rfl rfl (T.ev 10 rfl) rfl) rfl rfl rfl ?_; clear T ac; intro ac T
                    refine g_pass (T := T) (i := 31) rfl (by kernel_rfl) (by kernel_rfl : (pbits 47 2147483647).setIfInBounds 31 true = pbits 47 4294967295) si_U (fun _ _ _ h => h) (wanted_no rfl rfl (T.ev 11 rfl) rfl) rfl rfl rfl ?_; clear T ac; intro ac T
                    refine g_q (T := T) (i := 32) rfl (by kernel_rfl) (by kernel_rfl : (pbits 47 4294967295).setIfInBounds 32 true = pbits 47 8589934591) si_U (fun _ _ _ h => h) rfl rfl rfl rfl (fun _ _ _ _ _ => (rn_pick1 rfl (T.ev 12 rfl) rfl evc)) ?_; clear T ac; intro ac T
                    refine g_q (T := T) (i := 33) rfl (by kernel_rfl) (by kernel_rfl : (pbits 47 8589934591).setIfInBounds 33 true = pbits 47 17179869183) si_U (fun _ _ _ h => h) rfl rfl rfl rfl (fun _ _ _ _ _ => (rn_move rfl (T.ev 0 rfl))) ?_; clear T ac; intro ac T
                    refine g_pass (T := T) (i := 34) rfl (by kernel_rfl) (by kernel_rfl : (pbits 47 17179869183).setIfInBounds 34 true = pbits 47 34359738367) si_U (fun _ _ _ h => h) (wanted_no rfl rfl (T.ev 0 rfl) rfl) rfl rfl rfl ?_; clear T ac; intro ac T
                    refine g_pass (T := T) (i := 35) rfl (by kernel_rfl) (by kernel_rfl : (pbits 47 34359738367).setIfInBounds 35 true = pbits 47 68719476735) si_U (fun _ _ _ h => h) (wanted_no rfl rfl (T.ev 1 rfl) rfl) rfl rfl rfl ?_; clear T ac; intro ac T
                    refine g_pass (T := T) (i := 36) rfl (by kernel_rfl) (by kernel_rfl : (pbits 47 68719476735).setIfInBounds 36 true = pbits 47 137438953471) si_U (fun _ _ _ h => h) (wanted_no rfl rfl (T.ev 2 rfl) rfl) rfl rfl rfl ?_; clear T ac; intro ac T
                    refine g_pass (T := T) (i := 37) rfl (by kernel_rfl) (by kernel_rfl : (pbits 47 137438953471).setIfInBounds 37 true = pbits 47 274877906943) si_U (fun _ _ _ h => h) (wanted_no rfl rfl (T.ev 3 rfl) rfl) rfl rfl rfl ?_; clear T ac; intro ac T
                    refine g_pass (T := T) (i := 38) rfl (by kernel_rfl) (by kernel_rfl : (pbits 47 274877906943).setIfInBounds 38 true = pbits 47 549755813887) si_U (fun _ _ _ h => h) (wanted_no rfl rfl (T.ev 4 rfl) rfl) rfl rfl rfl ?_; clear T ac; intro ac T
                    refine g_q (T := T) (i := 39) rfl (by kernel_rfl) (by kernel_rfl : (pbits 47 549755813887).setIfInBounds 39 true = pbits 47 1099511627775) si_U (fun _ _ _ h => h) rfl rfl rfl rfl (fun _ _ _ _ _ => (rn_pick1 rfl (T.ev 5 rfl) rfl evc)) ?_; clear T ac; intro ac T
                    refine g_q (T := T) (i := 40) rfl (by kernel_rfl) (by kernel_rfl : (pbits 47 1099511627775).setIfInBounds 40 true = pbits 47 2199023255551) si_U (fun _ _ _ h => h) rfl rfl rfl rfl (fun _ _ _ _ _ => (rn_move rfl (T.ev 0 rfl))) ?_; clear T ac; intro ac T
                    refine g_pass (T := T) (i := 41) rfl (by kernel_rfl) (by kernel_rfl : (pbits 47 2199023255551).setIfInBounds 41 true = pbits 47 4398046511103) si_U (fun _ _ _ h => h) (wanted_no rfl rfl (T.ev 0 rfl) rfl) rfl rfl rfl ?_; clear T ac; intro ac T
                    refine g_pass (T := T) (i := 42) rfl (by kernel_rfl) (by kernel_rfl : (pbits 47 4398046511103).setIfInBounds 42 true = pbits 47 8796093022207) si_U (fun _ _ _ h => h) (wanted_no rfl rfl (T.ev 1 rfl) rfl) rfl rfl rfl ?_; clear T ac; intro ac T
                    refine g_pass (T := T) (i := 43) rfl (by kernel_rfl) (by kernel_rfl : (pbits 47 8796093022207).setIfInBounds 43 true = pbits 47 17592186044415) si_U (fun _ _ _ h => h) (wanted_no rfl rfl (T.ev 2 rfl) rfl) rfl rfl rfl ?_; clear T ac; intro ac T
                    refine g_pass (T := T) (i := 44) rfl (by kernel_rfl) (by kernel_rfl : (pbits 47 17592186044415).setIfInBounds 44 true = pbits 47 35184372088831) si_U (fun _ _ _ h => h) (wanted_no rfl rfl (T.ev 3 rfl) rfl) rfl rfl rfl ?_; clear T ac; intro ac T
                    refine g_pass (T := T) (i := 45) rfl (by kernel_rfl) (by kernel_rfl : (pbits 47 35184372088831).setIfInBounds 45 true = pbits 47 70368744177663) si_U (fun _ _ _ h => h) (wanted_no rfl rfl (T.ev 4 rfl) rfl) rfl rfl rfl ?_; clear T ac; intro ac T
                    refine g_q (T := T) (i := 46) rfl (by kernel_rfl) (by kernel_rfl : (pbits 47 70368744177663).setIfInBounds 46 true = pbits 47 140737488355327) si_U (fun _ _ _ h => h) rfl rfl rfl rfl (fun _ _ _ _ _ => (rn_pick1 rfl (T.ev 5 rfl) rfl evc)) ?_; clear T ac; intro ac T
                    refine g_done (by kernel_rfl) ?_
                    replace T := T.pick [0, 55, 56] rfl
                    replace M := M.mask [false, false, true, true] rfl
                    exact ⟨(T.pick (E' := [(4, .pointer (some ⟨g1, 0, none⟩)), (5, .pointer (some ⟨g2, 0, none⟩)), (219, .bool true)]) [1, 2, 0] rfl).as (by (try rw [show (!(decide ((checkStrokesJ ju2 lu6) = 0))) = false from (by simp [h6])]); (try rw [show (!(decide ((checkStrokesJ jm lm) = 0))) = true from (by simp [h7])]); rfl), M.mask [true, true] rfl⟩
                  · replace h7 : (checkStrokesJ jm lm) = 0 := by simpa using h7
                    refine g_q (T := T) (i := 7) rfl (by kernel_rfl) (by kernel_rfl : (pbits 47 127).setIfInBounds 7 true = pbits 47 255) si_U (fun _ _ _ h => h) (wanted_yes rfl rfl (T.ev 0 rfl) (by simp [h7])) rfl rfl rfl (fun _ _ _ _ _ => (rn_move rfl (T.ev 9 rfl))) ?_; clear T ac; intro ac T
                    refine g_q (T := T) (i := 8) rfl (by kernel_rfl) (by kernel_rfl : (pbits 47 255).setIfInBounds 8 true = pbits 47 511) si_U (fun _ _ _ h => h) (wanted_yes rfl rfl (T.ev 1 rfl) (by simp [h7])) rfl rfl rfl (fun _ _ _ _ _ => (rn_neq rfl (T.ev 0 rfl) evc)) ?_; clear T ac; intro ac T
                    refine g_q (T := T) (i := 9) rfl (by kernel_rfl) (by kernel_rfl : (pbits 47 511).setIfInBounds 9 true = pbits 47 1023) si_U (fun _ _ _ h => h) rfl rfl rfl rfl (fun _ _ _ _ _ => (rn_pick0 rfl (T.ev 2 rfl) (by simp [h7]) (T.ev 0 rfl))) ?_; clear T ac; intro ac T
                    refine g_q (T := T) (i := 10) rfl (by kernel_rfl) (by kernel_rfl : (pbits 47 1023).setIfInBounds 10 true = pbits 47 2047) si_U (fun _ _ _ h => h) rfl rfl rfl rfl (fun _ _ _ _ _ => (rn_move rfl (T.ev 0 rfl))) ?_; clear T ac; intro ac T
                    rcases Bool.eq_false_or_eq_true (!(decide (((fineT ju2 lu6).2) = 0))) with h8 | h8
                    · replace h8 : ¬ (((fineT ju2 lu6).2) = 0) := by simpa using h8
                      refine g_pass (T := T) (i := 11) rfl (by kernel_rfl) (by kernel_rfl : (pbits 47 2047).setIfInBounds 11 true = pbits 47 4095) si_U (fun _ _ _ h => h) (wanted_no rfl rfl (T.ev 0 rfl) (by simp [h8])) rfl rfl rfl ?_; clear T ac; intro ac T
                      refine g_pass (T := T) (i := 12) rfl (by kernel_rfl) (by kernel_rfl : (pbits 47 4095).setIfInBounds 12 true = pbits 47 8191) si_U (fun _ _ _ h => h) (wanted_no rfl rfl (T.ev 1 rfl) (by simp [h8])) rfl rfl rfl ?_; clear T ac; intro ac T
                      refine g_q (T := T) (i := 13) rfl (by kernel_rfl) (by kernel_rfl : (pbits 47 8191).setIfInBounds 13 true = pbits 47 16383) si_U (fun _ _ _ h => h) rfl rfl rfl rfl (fun _ _ _ _ _ => (rn_pick1 rfl (T.ev 2 rfl) (by simp [h8]) evc)) ?_; clear T ac; intro ac T
                      refine g_q (T := T) (i := 14) rfl (by kernel_rfl) (by kernel_rfl : (pbits 47 16383).setIfInBounds 14 true = pbits 47 32767) si_U (fun _ _ _ h => h) rfl rfl rfl rfl (fun _ _ _ _ _ => (rn_move rfl (T.ev 0 rfl))) ?_; clear T ac; intro ac T
                      refine g_pass (T := T) (i := 15) rfl (by kernel_rfl) (by kernel_rfl : (pbits 47 32767).setIfInBounds 15 true = pbits 47 65535) si_U (fun _ _ _ h => h) (wanted_no rfl rfl (T.ev 0 rfl) rfl) rfl rfl rfl ?_; clear T ac; intro ac T
                      refine g_pass (T := T) (i := 16) rfl (by kernel_rfl) (by kernel_rfl : (pbits 47 65535).setIfInBounds 16 true = pbits 47 131071) si_U (fun _ _ _ h => h) (wanted_no rfl rfl (T.ev 1 rfl) rfl) rfl rfl rfl ?_; clear T ac; intro ac T
                      refine g_pass (T := T) (i := 17) rfl (by kernel_rfl) (by kernel_rfl : (pbits 47 131071).setIfInBounds 17 true = pbits 47 262143) si_U (fun _ _ _ h => h) (wanted_no rfl rfl (T.ev 2 rfl) rfl) rfl rfl rfl ?_; clear T ac; intro ac T
                      refine g_q (T := T) (i := 18) rfl (by kernel_rfl) (by kernel_rfl : (pbits 47 262143).setIfInBounds 18 true = pbits 47 524287) si_U (fun _ _ _ h => h) rfl rfl rfl rfl (fun _ _ _ _ _ => (rn_pick1 rfl (T.ev 3 rfl) rfl evc)) ?_; clear T ac; intro ac T
                      refine g_q (T := T) (i := 19) rfl (by kernel_rfl) (by kernel_rfl : (pbits 47 524287).setIfInBounds 19 true = pbits 47 1048575) si_U (fun _ _ _ h => h) rfl rfl rfl rfl (fun _ _ _ _ _ => (rn_move rfl (T.ev 0 rfl))) ?_; clear T ac; intro ac T
                      refine g_pass (T := T) (i := 20) rfl (by kernel_rfl) (by kernel_rfl : (pbits 47 1048575).setIfInBounds 20 true = pbits 47 2097151) si_U (fun _ _ _ h => h) (wanted_no rfl rfl (T.ev 0 rfl) rfl) rfl rfl rfl ?_; clear T ac; intro ac T
                      refine g_pass (T := T) (i := 21) rfl (by kernel_rfl) (by kernel_rfl : (pbits 47 2097151).setIfInBounds 21 true = pbits 47 4194303) si_U (fun _ _ _ h => h) (wanted_no rfl rfl (T.ev 1 rfl) rfl) rfl rfl rfl ?_; clear T ac; intro ac T
                      refine g_pass (T := T) (i := 22) rfl (by kernel_rfl) (by kernel_rfl : (pbits 47 4194303).setIfInBounds 22 true = pbits 47 8388607) si_U (fun _ _ _ h => h) (wanted_no rfl rfl (T.ev 2 rfl) rfl) rfl rfl rfl ?_; clear T ac; intro ac T
                      refine g_pass (T := T) (i := 23) rfl (by kernel_rfl) (by kernel_rfl : (pbits 47 8388607).setIfInBounds 23 true = pbits 47 16777215) si_U (fun _ _ _ h => h) (wanted_no rfl rfl (T.ev 3 rfl) rfl) rfl rfl rfl ?_; clear T ac; intro ac T
                      refine g_pass (T := T) (i := 24) rfl (by kernel_rfl) (by kernel_rfl : (pbits 47 16777215).setIfInBounds 24 true = pbits 47 33554431) si_U (fun _ _ _ h => h) (wanted_no rfl rfl (T.ev 4 rfl) rfl) rfl rfl rfl ?_; clear T ac; intro ac T
                      refine g_pass (T := T) (i := 25) rfl (by kernel_rfl) (by kernel_rfl : (pbits 47 33554431).setIfInBounds 25 true = pbits 47 67108863) si_U (fun _ _ _ h => h) (wanted_no rfl rfl (T.ev 5 rfl) rfl) rfl rfl rfl ?_; clear T ac; intro ac T
                      refine g_pass (T := T) (i := 26) rfl (by kernel_rfl) (by kernel_rfl : (pbits 47 67108863).setIfInBounds 26 true = pbits 47 134217727) si_U (fun _ _ _ h => h) (wanted_no rfl rfl (T.ev 6 rfl) rfl) rfl rfl rfl ?_; clear T ac; intro ac T
                      refine g_pass (T := T) (i := 27) rfl (by kernel_rfl) (by kernel_rfl : (pbits 47 134217727).setIfInBounds 27 true = pbits 47 268435455) si_U (fun _ _ _ h => h) (wanted_no rfl rfl (T.ev 7 rfl) rfl) rfl rfl rfl ?_; clear T ac; intro ac T
                      refine g_pass (T := T) (i := 28) rfl (by kernel_rfl) (by kernel_rfl : (pbits 47 268435455).setIfInBounds 28 true = pbits 47 536870911) si_U (fun _ _ _ h => h) (wanted_no rfl rfl (T.ev 8 rfl) rfl) rfl rfl rfl ?_; clear T ac; intro ac T
                      refine g_pass (T := T) (i := 29) rfl (by kernel_rfl) (by kernel_rfl : (pbits 47 536870911).setIfInBounds 29 true = pbits 47 1073741823) si_U (fun _ _ _ h => h) (wanted_no rfl rfl (T.ev 9 rfl) rfl) rfl rfl rfl ?_; clear T ac; intro ac T
                      refine g_pass (T := T) (i := 30) rfl (by kernel_rfl) (by kernel_rfl : (pbits 47 1073741823).setIfInBounds 30 true = pbits 47 2147483647) si_U (fun _ _ _ h => h) (wanted_no rfl rfl (T.ev 10 rfl) rfl) rfl rfl rfl ?_; clear T ac; intro ac T
                      refine g_pass (T := T) (i := 31) rfl (by kernel_rfl) (by kernel_rfl : (pbits 47 2147483647).setIfInBounds 31 true = pbits 47 4294967295) si_U (fun _ _ _ h => h) (wanted_no rfl rfl (T.ev 11 rfl) rfl) rfl rfl rfl ?_; clear T ac; intro ac T
                      refine g_q (T := T) (i := 32) rfl (by kernel_rfl) (by kernel_rfl : (pbits 47 4294967295).setIfInBounds 32 true = pbits 47 8589934591) si_U (fun _ _ _ h => h) rfl rfl rfl rfl (fun _ _ _ _ _ => (rn_pick1 rfl (T.ev 12 rfl) rfl evc)) ?_; clear T ac; intro ac T
                      refine g_q (T := T) (i := 33) rfl (by kernel_rfl) (by kernel_rfl : (pbits 47 8589934591).setIfInBounds 33 true = pbits 47 17179869183) si_U (fun _ _ _ h => h) rfl rfl rfl rfl (fun _ _ _ _ _ => (rn_move rfl (T.ev 0 rfl))) ?_; clear T ac; intro ac T
                      refine g_pass (T := T) (i := 34) rfl (by kernel_rfl) (by kernel_rfl : (pbits 47 17179869183).setIfInBounds 34 true = pbits 47 34359738367) si_U (fun _ _ _ h => h) (wanted_no rfl rfl (T.ev 0 rfl) rfl) rfl rfl rfl ?_; clear T ac; intro ac T
                      refine g_pass (T := T) (i := 35) rfl (by kernel_rfl) (by kernel_rfl : (pbits 47 34359738367).setIfInBounds 35 true = pbits 47 68719476735) si_U (fun _ _ _ h => h) (wanted_no rfl rfl (T.ev 1 rfl) rfl) rfl rfl rfl ?_; clear T ac; intro ac T
                      refine g_pass (T := T) (i := 36) rfl (by kernel_rfl) (by kernel_rfl : (pbits 47 68719476735).setIfInBounds 36 true = pbits 47 137438953471) si_U (fun _ _ _ h => h) (wanted_no rfl rfl (T.ev 2 rfl) rfl) rfl rfl rfl ?_; clear T ac; intro ac T
                      refine g_pass (T := T) (i := 37) rfl (by kernel_rfl) (by kernel_rfl : (pbits 47 137438953471).setIfInBounds 37 true = pbits 47 274877906943) si_U (fun _ _ _ h => h) (wanted_no rfl rfl (T.ev 3 rfl) rfl) rfl rfl rfl ?_; clear T ac; intro ac T
                      refine g_pass (T := T) (i := 38) rfl (by kernel_rfl) (by kernel_rfl : (pbits 47 274877906943).setIfInBounds 38 true = pbits 47 549755813887) si_U (fun _ _ _ h => h) (wanted_no rfl rfl (T.ev 4 rfl) rfl) rfl rfl rfl ?_; clear T ac; intro ac T
                      refine g_q (T := T) (i := 39) rfl (by kernel_rfl) (by kernel_rfl : (pbits 47 549755813887).setIfInBounds 39 true = pbits 47 1099511627775) si_U (fun _ _ _ h => h) rfl rfl rfl rfl (fun _ _ _ _ _ => (rn_pick1 rfl (T.ev 5 rfl) rfl evc)) ?_; clear T ac; intro ac T
                      refine g_q (T := T) (i := 40) rfl (by kernel_rfl) (by kernel_rfl : (pbits 47 1099511627775).setIfInBounds 40 true = pbits 47 2199023255551) si_U (fun _ _ _ h => h) rfl rfl rfl rfl (fun _ _ _ _ _ => (rn_move rfl (T.ev 0 rfl))) ?_; clear T ac; intro ac T
                      refine g_pass (T := T) (i := 41) rfl (by kernel_rfl) (by kernel_rfl : (pbits 47 2199023255551).setIfInBounds 41 true = pbits 47 4398046511103) si_U (fun _ _ _ h => h) (wanted_no rfl rfl (T.ev 0 rfl) rfl) rfl rfl rfl ?_; clear T ac; intro ac T
                      refine g_pass (T := T) (i := 42) rfl (by kernel_rfl) (by kernel_rfl : (pbits 47 4398046511103).setIfInBounds 42 true = pbits 47 8796093022207) si_U (fun _ _ _ h => h) (wanted_no rfl rfl (T.ev 1 rfl) rfl) rfl rfl rfl ?_; clear T ac; intro ac T
                      refine g_pass (T := T) (i := 43) rfl (by kernel_rfl) (by kernel_rfl : (pbits 47 8796093022207).setIfInBounds 43 true = pbits 47 17592186044415) si_U (fun _ _ _ h => h) (wanted_no rfl rfl (T.ev 2 rfl) rfl) rfl rfl rfl ?_; clear T ac; intro ac T
                      refine g_pass (T := T) (i := 44) rfl (by kernel_rfl) (by kernel_rfl : (pbits 47 17592186044415).setIfInBounds 44 true = pbits 47 35184372088831) si_U (fun _ _ _ h => h) (wanted_no rfl rfl (T.ev 3 rfl) rfl) rfl rfl rfl ?_; clear T ac; intro ac T
                      refine g_pass (T := T) (i := 45) rfl (by kernel_rfl) (by kernel_rfl : (pbits 47 35184372088831).setIfInBounds 45 true = pbits 47 70368744177663) si_U (fun _ _ _ h => h) (wanted_no rfl rfl (T.ev 4 rfl) rfl) rfl rfl rfl ?_; clear T ac; intro ac T
                      refine g_q (T := T) (i := 46) rfl (by kernel_rfl) (by kernel_rfl : (pbits 47 70368744177663).setIfInBounds 46 true = pbits 47 140737488355327) si_U (fun _ _ _ h => h) rfl rfl rfl rfl (fun _ _ _ _ _ => (rn_pick1 rfl (T.ev 5 rfl) rfl evc)) ?_; clear T ac; intro ac T
                      refine g_done (by kernel_rfl) ?_
                      replace T := T.pick [0, 55, 56] rfl
                      replace M := M.mask [false, false, true, true] rfl
                      exact ⟨(T.pick (E' := [(4, .pointer (some ⟨g1, 0, none⟩)), (5, .pointer (some ⟨g2, 0, none⟩)), (219, .bool true)]) [1, 2, 0] rfl).as (by (try rw [show (!(decide ((checkStrokesJ ju2 lu6) = 0))) = false from (by simp [h6])]); (try rw [show (!(decide ((checkStrokesJ jm lm) = 0))) = false from (by simp [h7])]); (try rw [show (!(decide (((fineT ju2 lu6).2) = 0))) = true from (by simp [h8])]); rfl), M.mask [true, true] rfl⟩
                    · replace h8 : ((fineT ju2 lu6).2) = 0 := by simpa using h8
                      refine g_q (T := T) (i := 11) rfl (by kernel_rfl) (by kernel_rfl : (pbits 47 2047).setIfInBounds 11 true = pbits 47 4095) si_U (fun _ _ _ h => h) (wanted_yes rfl rfl (T.ev 0 rfl) (by simp [h8])) rfl rfl rfl (fun _ _ _ _ _ => (rn_move rfl (T.ev 11 rfl))) ?_; clear T ac; intro ac T
                      refine g_q (T := T) (i := 12) rfl (by kernel_rfl) (by kernel_rfl : (pbits 47 4095).setIfInBounds 12 true = pbits 47 8191) si_U (fun _ _ _ h => h) (wanted_yes rfl rfl (T.ev 1 rfl) (by simp [h8])) rfl rfl rfl (fun _ _ _ _ _ => (rn_neq rfl (T.ev 0 rfl) evc)) ?_; clear T ac; intro ac T
                      refine g_q (T := T) (i := 13) rfl (by kernel_rfl) (by kernel_rfl : (pbits 47 8191).setIfInBounds 13 true = pbits 47 16383) si_U (fun _ _ _ h => h) rfl rfl rfl rfl (fun _ _ _ _ _ => (rn_pick0 rfl (T.ev 2 rfl) (by simp [h8]) (T.ev 0 rfl))) ?_; clear T ac; intro ac T
                      refine g_q (T := T) (i := 14) rfl (by kernel_rfl) (by kernel_rfl : (pbits 47 16383).setIfInBounds 14 true = pbits 47 32767) si_U (fun _ _ _ h => h) rfl rfl rfl rfl (fun _ _ _ _ _ => (rn_move rfl (T.ev 0 rfl))) ?_; clear T ac; intro ac T
                      rcases Bool.eq_false_or_eq_true (!(decide (((fineT jm lm).2) = 0))) with h9 | h9
                      · replace h9 : ¬ (((fineT jm lm).2) = 0) := by simpa using h9
                        refine g_pass (T := T) (i := 15) rfl (by kernel_rfl) (by kernel_rfl : (pbits 47 32767).setIfInBounds 15 true = pbits 47 65535) si_U (fun _ _ _ h => h) (wanted_no rfl rfl (T.ev 0 rfl) (by simp [h9])) rfl rfl rfl ?_; clear T ac; intro ac T
                        refine g_pass (T := T) (i := 16) rfl (by kernel_rfl) (by kernel_rfl : (pbits 47 65535).setIfInBounds 16 true = pbits 47 131071) si_U (fun _ _ _ h => h) (wanted_no rfl rfl (T.ev 1 rfl) (by simp [h9])) rfl rfl rfl ?_; clear T ac; intro ac T
                        refine g_pass (T := T) (i := 17) rfl (by kernel_rfl) (by kernel_rfl : (pbits 47 131071).setIfInBounds 17 true = pbits 47 262143) si_U (fun _ _ _ h => h) (wanted_no rfl rfl (T.ev 2 rfl) (by simp [h9])) rfl rfl rfl ?_; clear T ac; intro ac T
                        refine g_q (T := T) (i := 18) rfl (by kernel_rfl) (by kernel_rfl : (pbits 47 262143).setIfInBounds 18 true = pbits 47 524287) si_U (fun _ _ _ h => h) rfl rfl rfl rfl (fun _ _ _ _ _ => (rn_pick1 rfl (T.ev 3 rfl) (by simp [h9]) evc)) ?_; clear T ac; intro ac T
                        refine g_q (T := T) (i := 19) rfl (by kernel_rfl) (by kernel_rfl : (pbits 47 524287).setIfInBounds 19 true = pbits 47 1048575) si_U (fun _ _ _ h => h) rfl rfl rfl rfl (fun _ _ _ _ _ => (rn_move rfl (T.ev 0 rfl))) ?_; clear T ac; intro ac T
                        refine g_pass (T := T) (i := 20) rfl (by kernel_rfl) (by kernel_rfl : (pbits 47 1048575).setIfInBounds 20 true = pbits 47 2097151) si_U (fun _ _ _ h => h) (wanted_no rfl rfl (T.ev 0 rfl) rfl) rfl rfl rfl ?_; clear T ac; intro ac T
                        refine g_pass (T := T) (i := 21) rfl (by kernel_rfl) (by kernel_rfl : (pbits 47 2097151).setIfInBounds 21 true = pbits 47 4194303) si_U (fun _ _ _ h => h) (wanted_no rfl rfl (T.ev 1 rfl) rfl) rfl rfl rfl ?_; clear T ac; intro ac T
                        refine g_pass (T := T) (i := 22) rfl (by kernel_rfl) (by kernel_rfl : (pbits 47 4194303).setIfInBounds 22 true = pbits 47 8388607) si_U (fun _ _ _ h => h) (wanted_no rfl rfl (T.ev 2 rfl) rfl) rfl rfl rfl ?_; clear T ac; intro ac T
                        refine g_pass (T := T) (i := 23) rfl (by kernel_rfl) (by kernel_rfl : (pbits 47 8388607).setIfInBounds 23 true = pbits 47 16777215) si_U (fun _ _ _ h => h) (wanted_no rfl rfl (T.ev 3 rfl) rfl) rfl rfl rfl ?_; clear T ac; intro ac T
                        refine g_pass (T := T) (i := 24) rfl (by kernel_rfl) (by kernel_rfl : (pbits 47 16777215).setIfInBounds 24 true = pbits 47 33554431) si_U (fun _ _ _ h => h) (wanted_no rfl rfl (T.ev 4 rfl) rfl) rfl rfl rfl ?_; clear T ac; intro ac T
                        refine g_pass (T := T) (i := 25) rfl (by kernel_rfl) (by kernel_rfl : (pbits 47 33554431).setIfInBounds 25 true = pbits 47 67108863) si_U (fun _ _ _ h => h) (wanted_no rfl rfl (T.ev 5 rfl) rfl) rfl rfl rfl ?_; clear T ac; intro ac T
                        refine g_pass (T := T) (i := 26) rfl (by kernel_rfl) (by kernel_rfl : (pbits 47 67108863).setIfInBounds 26 true = pbits 47 134217727) si_U (fun _ _ _ h => h) (wanted_no rfl rfl (T.ev 6 rfl) rfl) rfl rfl rfl ?_; clear T ac; intro ac T
                        refine g_pass (T := T) (i := 27) rfl (by kernel_rfl) (by kernel_rfl : (pbits 47 134217727).setIfInBounds 27 true = pbits 47 268435455) si_U (fun _ _ _ h => h) (wanted_no rfl rfl (T.ev 7 rfl) rfl) rfl rfl rfl ?_; clear T ac; intro ac T
                        refine g_pass (T := T) (i := 28) rfl (by kernel_rfl) (by kernel_rfl : (pbits 47 268435455).setIfInBounds 28 true = pbits 47 536870911) si_U (fun _ _ _ h => h) (wanted_no rfl rfl (T.ev 8 rfl) rfl) rfl rfl rfl ?_; clear T ac; intro ac T
                        refine g_pass (T := T) (i := 29) rfl (by kernel_rfl) (by kernel_rfl : (pbits 47 536870911).setIfInBounds 29 true = pbits 47 1073741823) si_U (fun _ _ _ h => h) (wanted_no rfl rfl (T.ev 9 rfl) rfl) rfl rfl rfl ?_; clear T ac; intro ac T
                        refine g_pass (T := T) (i := 30) rfl (by kernel_rfl) (by kernel_rfl : (pbits 47 1073741823).setIfInBounds 30 true = pbits 47 2147483647) si_U (fun _ _ _ h => h) (wanted_no rfl rfl (T.ev 10 rfl) rfl) rfl rfl rfl ?_; clear T ac; intro ac T
                        refine g_pass (T := T) (i := 31) rfl (by kernel_rfl) (by kernel_rfl : (pbits 47 2147483647).setIfInBounds 31 true = pbits 47 4294967295) si_U (fun _ _ _ h => h) (wanted_no rfl rfl (T.ev 11 rfl) rfl) rfl rfl rfl ?_; clear T ac; intro ac T
                        refine g_q (T := T) (i := 32) rfl (by kernel_rfl) (by kernel_rfl : (pbits 47 4294967295).setIfInBounds 32 true = pbits 47 8589934591) si_U (fun _ _ _ h => h) rfl rfl rfl rfl (fun _ _ _ _ _ => (rn_pick1 rfl (T.ev 12 rfl) rfl evc)) ?_; clear T ac; intro ac T
                        refine g_q (T := T) (i := 33) rfl (by kernel_rfl) (by kernel_rfl : (pbits 47 8589934591).setIfInBounds 33 true = pbits 47 17179869183) si_U (fun _ _ _ h => h) rfl rfl rfl rfl (fun _ _ _ _ _ => (rn_move rfl (T.ev 0 rfl))) ?_; clear T ac; intro ac T
                        refine g_pass (T := T) (i := 34) rfl (by kernel_rfl) (by kernel_rfl : (pbits 47 17179869183).setIfInBounds 34 true = pbits 47 34359738367) si_U (fun _ _ _ h => h) (wanted_no rfl rfl (T.ev 0 rfl) rfl) rfl rfl rfl ?_; clear T ac; intro ac T
                        refine g_pass (T := T) (i := 35) rfl (by kernel_rfl) (by kernel_rfl : (pbits 47 34359738367).setIfInBounds 35 true = pbits 47 68719476735) si_U (fun _ _ _ h => h) (wanted_no rfl rfl (T.ev 1 rfl) rfl) rfl rfl rfl ?_; clear T ac; intro ac T
                        refine g_pass (T := T) (i := 36) rfl (by kernel_rfl) (by kernel_rfl : (pbits 47 68719476735).setIfInBounds 36 true = pbits 47 137438953471) si_U (fun _ _ _ h => h) (wanted_no rfl rfl (T.ev 2 rfl) rfl) rfl rfl rfl ?_; clear T ac; intro ac T
                        refine g_pass (T := T) (i := 37) rfl (by kernel_rfl) (by kernel_rfl : (pbits 47 137438953471).setIfInBounds 37 true = pbits 47 274877906943) si_U (fun _ _ _ h => h) (wanted_no rfl rfl (T.ev 3 rfl) rfl) rfl rfl rfl ?_; clear T ac; intro ac T
                        refine g_pass (T := T) (i := 38) rfl (by kernel_rfl) (by kernel_rfl : (pbits 47 274877906943).setIfInBounds 38 true = pbits 47 549755813887) si_U (fun _ _ _ h => h) (wanted_no rfl rfl (T.ev 4 rfl) rfl) rfl rfl rfl ?_; clear T ac; intro ac T
                        refine g_q (T := T) (i := 39) rfl (by kernel_rfl) (by kernel_rfl : (pbits 47 549755813887).setIfInBounds 39 true = pbits 47 1099511627775) si_U (fun _ _ _ h => h) rfl rfl rfl rfl (fun _ _ _ _ _ => (rn_pick1 rfl (T.ev 5 rfl) rfl evc)) ?_; clear T ac; intro ac T
                        refine g_q (T := T) (i := 40) rfl (by kernel_rfl) (by kernel_rfl : (pbits 47 1099511627775).setIfInBounds 40 true = pbits 47 2199023255551) si_U (fun _ _ _ h => h) rfl rfl rfl rfl (fun _ _ _ _ _ => (rn_move rfl (T.ev 0 rfl))) ?_; clear T ac; intro ac T
                        refine g_pass (T := T) (i := 41) rfl (by kernel_rfl) (by kernel_rfl : (pbits 47 2199023255551).setIfInBounds 41 true = pbits 47 4398046511103) si_U (fun _ _ _ h => h) (wanted_no rfl rfl (T.ev 0 rfl) rfl) rfl rfl rfl ?_; clear T ac; intro ac T
                        refine g_pass (T := T) (i := 42) rfl (by kernel_rfl) (by kernel_rfl : (pbits 47 4398046511103).setIfInBounds 42 true = pbits 47 8796093022207) si_U (fun _ _ _ h => h) (wanted_no rfl rfl (T.ev 1 rfl) rfl) rfl rfl rfl ?_; clear T ac; intro ac T
                        refine g_pass (T := T) (i := 43) rfl (by kernel_rfl) (by kernel_rfl : (pbits 47 8796093022207).setIfInBounds 43 true = pbits 47 17592186044415) si_U (fun _ _ _ h => h) (wanted_no rfl rfl (T.ev 2 rfl) rfl) rfl rfl rfl ?_; clear T ac; intro ac T
                        refine g_pass (T := T) (i := 44) rfl (by kernel_rfl) (by kernel_rfl : (pbits 47 17592186044415).setIfInBounds 44 true = pbits 47 35184372088831) si_U (fun _ _ _ h => h) (wanted_no rfl rfl (T.ev 3 rfl) rfl) rfl rfl rfl ?_; clear T ac; intro ac T
                        refine g_pass (T := T) (i := 45) rfl (by kernel_rfl) (by kernel_rfl : (pbits 47 35184372088831).setIfInBounds 45 true = pbits 47 70368744177663) si_U (fun _ _ _ h => h) (wanted_no rfl rfl (T.ev 4 rfl) rfl) rfl rfl rfl ?_; clear T ac; intro ac T
                        refine g_q (T := T) (i := 46) rfl (by kernel_rfl) (by kernel_rfl : (pbits 47 70368744177663).setIfInBounds 46 true = pbits 47 140737488355327) si_U (fun _ _ _ h => h) rfl rfl rfl rfl (fun _ _ _ _ _ => (rn_pick1 rfl (T.ev 5 rfl) rfl evc)) ?_; clear T ac; intro ac T
                        refine g_done (by kernel_rfl) ?_
                        replace T := T.pick [0, 55, 56] rfl
                        replace M := M.mask [false, false, true, true] rfl
                        exact ⟨(T.pick (E' := [(4, .pointer (some ⟨g1, 0, none⟩)), (5, .pointer (some ⟨g2, 0, none⟩)), (219, .bool true)]) [1, 2, 0] rfl).as (by (try rw [show (!(decide ((checkStrokesJ ju2 lu6) = 0))) = false from (by simp [h6])]); (try rw [show (!(decide ((checkStrokesJ jm lm) = 0))) = false from (by simp [h7])]); (try rw [show (!(decide (((fineT ju2 lu6).2) = 0))) = false from (by simp [h8])]); (try rw [show (!(decide (((fineT jm lm).2) = 0))) = true from (by simp [h9])]); rfl), M.mask [true, true] rfl⟩
                      · replace h9 : ((fineT jm lm).2) = 0 := by simpa using h9
                        refine g_q (T := T) (i := 15) rfl (by kernel_rfl) (by kernel_rfl : (pbits 47 32767).setIfInBounds 15 true = pbits 47 65535) si_U (fun _ _ _ h => h) (wanted_yes rfl rfl (T.ev 0 rfl) (by simp [h9])) rfl rfl rfl (fun _ _ _ _ _ => (rn_move rfl (T.ev 18 rfl))) ?_; clear T ac; intro ac T
                        refine g_q (T := T) (i := 16) rfl (by kernel_rfl) (by kernel_rfl : (pbits 47 65535).setIfInBounds 16 true = pbits 47 131071) si_U (fun _ _ _ h => h) (wanted_yes rfl rfl (T.ev 1 rfl) (by simp [h9])) rfl rfl rfl (fun _ _ _ _ _ => (rn_move rfl (T.ev 17 rfl))) ?_; clear T ac; intro ac T
                        refine g_q (T := T) (i := 17) rfl (by kernel_rfl) (by kernel_rfl : (pbits 47 131071).setIfInBounds 17 true = pbits 47 262143) si_U (fun _ _ _ h => h) (wanted_yes rfl rfl (T.ev 2 rfl) (by simp [h9])) rfl rfl rfl (fun _ _ _ _ _ => (rn_neq rfl (T.ev 1 rfl) (T.ev 0 rfl))) ?_; clear T ac; intro ac T
                        refine g_q (T := T) (i := 18) rfl (by kernel_rfl) (by kernel_rfl : (pbits 47 262143).setIfInBounds 18 true = pbits 47 524287) si_U (fun _ _ _ h => h) rfl rfl rfl rfl (fun _ _ _ _ _ => (rn_pick0 rfl (T.ev 3 rfl) (by simp [h9]) (T.ev 0 rfl))) ?_; clear T ac; intro ac T
                        refine g_q (T := T) (i := 19) rfl (by kernel_rfl) (by kernel_rfl : (pbits 47 524287).setIfInBounds 19 true = pbits 47 1048575) si_U (fun _ _ _ h => h) rfl rfl rfl rfl (fun _ _ _ _ _ => (rn_move rfl (T.ev 0 rfl))) ?_; clear T ac; intro ac T
                        rcases Bool.eq_false_or_eq_true (!(decide (((fineT ju2 lu6).1) = ((fineT jm lm).1)))) with h10 | h10
                        · replace h10 : ¬ (((fineT ju2 lu6).1) = ((fineT jm lm).1)) := by simpa using h10
                          refine g_pass (T := T) (i := 20) rfl (by kernel_rfl) (by kernel_rfl : (pbits 47 1048575).setIfInBounds 20 true = pbits 47 2097151) si_U (fun _ _ _ h => h) (wanted_no rfl rfl (T.ev 0 rfl) (by simp [h10])) rfl rfl rfl ?_; clear T ac; intro ac T
                          refine g_pass (T := T) (i := 21) rfl (by kernel_rfl) (by kernel_rfl : (pbits 47 2097151).setIfInBounds 21 true = pbits 47 4194303) si_U (fun _ _ _ h => h) (wanted_no rfl rfl (T.ev 1 rfl) (by simp [h10])) rfl rfl rfl ?_; clear T ac; intro ac T
                          refine g_pass (T := T) (i := 22) rfl (by kernel_rfl) (by kernel_rfl : (pbits 47 4194303).setIfInBounds 22 true = pbits 47 8388607) si_U (fun _ _ _ h => h) (wanted_no rfl rfl (T.ev 2 rfl) (by simp [h10])) rfl rfl rfl ?_; clear T ac; intro ac T
                          refine g_pass (T := T) (i := 23) rfl (by kernel_rfl) (by kernel_rfl : (pbits 47 8388607).setIfInBounds 23 true = pbits 47 16777215) si_U (fun _ _ _ h => h) (wanted_no rfl rfl (T.ev 3 rfl) (by simp [h10])) rfl rfl rfl ?_; clear T ac; intro ac T
                          refine g_pass (T := T) (i := 24) rfl (by kernel_rfl) (by kernel_rfl : (pbits 47 16777215).setIfInBounds 24 true = pbits 47 33554431) si_U (fun _ _ _ h => h) (wanted_no rfl rfl (T.ev 4 rfl) (by simp [h10])) rfl rfl rfl ?_; clear T ac; intro ac T
                          refine g_pass (T := T) (i := 25) rfl (by kernel_rfl) (by kernel_rfl : (pbits 47 33554431).setIfInBounds 25 true = pbits 47 67108863) si_U (fun _ _ _ h => h) (wanted_no rfl rfl (T.ev 5 rfl) (by simp [h10])) rfl rfl rfl ?_; clear T ac; intro ac T
                          refine g_pass (T := T) (i := 26) rfl (by kernel_rfl) (by kernel_rfl : (pbits 47 67108863).setIfInBounds 26 true = pbits 47 134217727) si_U (fun _ _ _ h => h) (wanted_no rfl rfl (T.ev 6 rfl) (by simp [h10])) rfl rfl rfl ?_; clear T ac; intro ac T
                          refine g_pass (T := T) (i := 27) rfl (by kernel_rfl) (by kernel_rfl : (pbits 47 134217727).setIfInBounds 27 true = pbits 47 268435455) si_U (fun _ _ _ h => h) (wanted_no rfl rfl (T.ev 7 rfl) (by simp [h10])) rfl rfl rfl ?_; clear T ac; intro ac T
                          refine g_pass (T := T) (i := 28) rfl (by kernel_rfl) (by kernel_rfl : (pbits 47 268435455).setIfInBounds 28 true = pbits 47 536870911) si_U (fun _ _ _ h => h) (wanted_no rfl rfl (T.ev 8 rfl) (by simp [h10])) rfl rfl rfl ?_; clear T ac; intro ac T
                          refine g_pass (T := T) (i := 29) rfl (by kernel_rfl) (by kernel_rfl : (pbits 47 536870911).setIfInBounds 29 true = pbits 47 1073741823) si_U (fun _ _ _ h => h) (wanted_no rfl rfl (T.ev 9 rfl) (by simp [h10])) rfl rfl rfl ?_; clear T ac; intro ac T
                          refine g_pass (T := T) (i := 30) rfl (by kernel_rfl) (by kernel_rfl : (pbits 47 1073741823).setIfInBounds 30 true = pbits 47 2147483647) si_U (fun _ _ _ h => h) (wanted_no rfl rfl (T.ev 10 rfl) (by simp [h10])) rfl rfl rfl ?_; clear T ac; intro ac T
                          refine g_pass (T := T) (i := 31) rfl (by kernel_rfl) (by kernel_rfl : (pbits 47 2147483647).setIfInBounds 31 true = pbits 47 4294967295) si_U (fun _ _ _ h => h) (wanted_no rfl rfl (T.ev 11 rfl) (by simp [h10])) rfl rfl rfl ?_; clear T ac; intro ac T
                          refine g_q (T := T) (i := 32) rfl (by kernel_rfl) (by kernel_rfl : (pbits 47 4294967295).setIfInBounds 32 true = pbits 47 8589934591) si_U (fun _ _ _ h => h) rfl rfl rfl rfl (fun _ _ _ _ _ => (rn_pick1 rfl (T.ev 12 rfl) (by simp [h10]) evc)) ?_; clear T ac; intro ac T
                          refine g_q (T := T) (i := 33) rfl (by kernel_rfl) (by kernel_rfl : (pbits 47 8589934591).setIfInBounds 33 true = pbits 47 17179869183) si_U (fun _ _ _ h => h) rfl rfl rfl rfl (fun _ _ _ _ _ => (rn_move rfl (T.ev 0 rfl))) ?_; clear T ac; intro ac T
                          refine g_pass (T := T) (i := 34) rfl (by kernel_rfl) (by kernel_rfl : (pbits 47 17179869183).setIfInBounds 34 true = pbits 47 34359738367) si_U (fun _ _ _ h => h) (wanted_no rfl rfl (T.ev 0 rfl) rfl) rfl rfl rfl ?_; clear T ac; intro ac T
                          refine g_pass (T := T) (i := 35) rfl (by kernel_rfl) (by kernel_rfl : (pbits 47 34359738367).setIfInBounds 35 true = pbits 47 68719476735) si_U (fun _ _ _ h => h) (wanted_no rfl rfl (T.ev 1 rfl) rfl) rfl rfl rfl ?_; clear T ac; intro ac T
                          refine g_pass (T := T) (i := 36) rfl (by kernel_rfl) (by kernel_rfl : (pbits 47 68719476735).setIfInBounds 36 true = pbits 47 137438953471) si_U (fun _ _ _ h => h) (wanted_no rfl rfl (T.ev 2 rfl) rfl) rfl rfl rfl ?_; clear T ac; intro ac T
                          refine g_pass (T := T) (i := 37) rfl (by kernel_rfl) (by kernel_rfl : (pbits 47 137438953471).setIfInBounds 37 true = pbits 47 274877906943) si_U (fun _ _ _ h => h) (wanted_no rfl rfl (T.ev 3 rfl) rfl) rfl rfl rfl ?_; clear T ac; intro ac T
                          refine g_pass (T := T) (i := 38) rfl (by kernel_rfl) (by kernel_rfl : (pbits 47 274877906943).setIfInBounds 38 true = pbits 47 549755813887) si_U (fun _ _ _ h => h) (wanted_no rfl rfl (T.ev 4 rfl) rfl) rfl rfl rfl ?_; clear T ac; intro ac T
                          refine g_q (T := T) (i := 39) rfl (by kernel_rfl) (by kernel_rfl : (pbits 47 549755813887).setIfInBounds 39 true = pbits 47 1099511627775) si_U (fun _ _ _ h => h) rfl rfl rfl rfl (fun _ _ _ _ _ => (rn_pick1 rfl (T.ev 5 rfl) rfl evc)) ?_; clear T ac; intro ac T
                          refine g_q (T := T) (i := 40) rfl (by kernel_rfl) (by kernel_rfl : (pbits 47 1099511627775).setIfInBounds 40 true = pbits 47 2199023255551) si_U (fun _ _ _ h => h) rfl rfl rfl rfl (fun _ _ _ _ _ => (rn_move rfl (T.ev 0 rfl))) ?_; clear T ac; intro ac T
                          refine g_pass (T := T) (i := 41) rfl (by kernel_rfl) (by kernel_rfl : (pbits 47 2199023255551).setIfInBounds 41 true = pbits 47 4398046511103) si_U (fun _ _ _ h => h) (wanted_no rfl rfl (T.ev 0 rfl) rfl) rfl rfl rfl ?_; clear T ac; intro ac T
                          refine g_pass (T := T) (i := 42) rfl (by kernel_rfl) (by kernel_rfl : (pbits 47 4398046511103).setIfInBounds 42 true = pbits 47 8796093022207) si_U (fun _ _ _ h => h) (wanted_no rfl rfl (T.ev 1 rfl) rfl) rfl rfl rfl ?_; clear T ac; intro ac T
                          refine g_pass (T := T) (i := 43) rfl (by kernel_rfl) (by kernel_rfl : (pbits 47 8796093022207).setIfInBounds 43 true = pbits 47 17592186044415) si_U (fun _ _ _ h => h) (wanted_no rfl rfl (T.ev 2 rfl) rfl) rfl rfl rfl ?_; clear T ac; intro ac T
                          refine g_pass (T := T) (i := 44) rfl (by kernel_rfl) (by kernel_rfl : (pbits 47 17592186044415).setIfInBounds 44 true = pbits 47 35184372088831) si_U (fun _ _ _ h => h) (wanted_no rfl rfl (T.ev 3 rfl) rfl) rfl rfl rfl ?_; clear T ac; intro ac T
                          refine g_pass (T := T) (i := 45) rfl (by kernel_rfl) (by kernel_rfl : (pbits 47 35184372088831).setIfInBounds 45 true = pbits 47 70368744177663) si_U (fun _ _ _ h => h) (wanted_no rfl rfl (T.ev 4 rfl) rfl) rfl rfl rfl ?_; clear T ac; intro ac T
                          refine g_q (T := T) (i := 46) rfl (by kernel_rfl) (by kernel_rfl : (pbits 47 70368744177663).setIfInBounds 46 true = pbits 47 140737488355327) si_U (fun _ _ _ h => h) rfl rfl rfl rfl (fun _ _ _ _ _ => (rn_pick1 rfl (T.ev 5 rfl) rfl evc)) ?_; clear T ac; intro ac T
                          refine g_done (by kernel_rfl) ?_
                          replace T := T.pick [0, 55, 56] rfl
                          replace M := M.mask [false, false, true, true] rfl
                          exact ⟨(T.pick (E' := [(4, .pointer (some ⟨g1, 0, none⟩)), (5, .pointer (some ⟨g2, 0, none⟩)), (219, .bool true)]) [1, 2, 0] rfl).as (by (try rw [show (!(decide ((checkStrokesJ ju2 lu6) = 0))) = false from (by simp [h6])]); (try rw [show (!(decide ((checkStrokesJ jm lm) = 0))) = false from (by simp [h7])]); (try rw [show (!(decide (((fineT ju2 lu6).2) = 0))) = false from (by simp [h8])]); (try rw [show (!(decide (((fineT jm lm).2) = 0))) = false from (by simp [h9])]); (try rw [show (!(decide (((fineT ju2 lu6).1) = ((fineT jm lm).1)))) = true from (by simp [h10])]); rfl), M.mask [true, true] rfl⟩
                        · replace h10 : ((fineT ju2 lu6).1) = ((fineT jm lm).1) := by simpa using h10
                          refine g_q (v := (.pointer (some ⟨g7, 0, none⟩))) (T := T) (i := 20) rfl (by kernel_rfl) (by kernel_rfl : (pbits 47 1048575).setIfInBounds 20 true = pbits 47 2097151) si_U (fun _ _ _ h => h) (wanted_yes rfl rfl (T.ev 0 rfl) (by simp [h10])) rfl rfl rfl (fun _ _ _ _ _ => (rn_fieldAddr (off := 0) rfl (T.ev 25 rfl) (fun _ _ _ => by kernel_rfl))) ?_; clear T ac; intro ac T
                          refine g_q (T := T) (i := 21) rfl (by kernel_rfl) (by kernel_rfl : (pbits 47 2097151).setIfInBounds 21 true = pbits 47 4194303) si_U (fun _ _ _ h => h) (wanted_yes rfl rfl (T.ev 1 rfl) (by simp [h10])) rfl rfl rfl (fun B w' hD hl hS => (rn_rowO (Mem.nth (show Mem w noEx w' _ from hS) 0 rfl) rfl (T.ev 0 rfl) rfl)) ?_; clear T ac; intro ac T
                          refine g_q (v := (.pointer (some ⟨g6, 0, none⟩))) (T := T) (i := 22) rfl (by kernel_rfl) (by kernel_rfl : (pbits 47 4194303).setIfInBounds 22 true = pbits 47 8388607) si_U (fun _ _ _ h => h) (wanted_yes rfl rfl (T.ev 2 rfl) (by simp [h10])) rfl rfl rfl (fun _ _ _ _ _ => (rn_fieldAddr (off := 0) rfl (T.ev 29 rfl) (fun _ _ _ => by kernel_rfl))) ?_; clear T ac; intro ac T
                          refine g_q (v := (.pointer (some ⟨g6, 1, none⟩))) (T := T) (i := 23) rfl (by kernel_rfl) (by kernel_rfl : (pbits 47 8388607).setIfInBounds 23 true = pbits 47 16777215) si_U (fun _ _ _ h => h) (wanted_yes rfl rfl (T.ev 3 rfl) (by simp [h10])) rfl rfl rfl (fun _ _ _ _ _ => (rn_fieldAddr (off := 1) rfl (T.ev 0 rfl) (fun _ _ _ => by kernel_rfl))) ?_; clear T ac; intro ac T
                          refine g_q (T := T) (i := 24) rfl (by kernel_rfl) (by kernel_rfl : (pbits 47 16777215).setIfInBounds 24 true = pbits 47 33554431) si_U (fun _ _ _ h => h) (wanted_yes rfl rfl (T.ev 4 rfl) (by simp [h10])) rfl rfl rfl (fun B w' hD hl hS => (rn_one (Mem.nth (show Mem w noEx w' _ from hS) 1 rfl) rfl (T.ev 0 rfl) rfl)) ?_; clear T ac; intro ac T
                          refine g_q (T := T) (i := 25) rfl (by kernel_rfl) (by kernel_rfl : (pbits 47 33554431).setIfInBounds 25 true = pbits 47 67108863) si_U (fun _ _ _ h => h) (wanted_yes rfl rfl (T.ev 5 rfl) (by simp [h10])) rfl rfl rfl (fun _ _ _ _ _ => (rn_neg rfl (T.ev 0 rfl) (by omega))) ?_; clear T ac; intro ac T
                          refine g_q (v := (.pointer (some ⟨g6, 0, none⟩))) (T := T) (i := 26) rfl (by kernel_rfl) (by kernel_rfl : (pbits 47 67108863).setIfInBounds 26 true = pbits 47 134217727) si_U (fun _ _ _ h => h) (wanted_yes rfl rfl (T.ev 6 rfl) (by simp [h10])) rfl rfl rfl (fun _ _ _ _ _ => (rn_fieldAddr (off := 0) rfl (T.ev 33 rfl) (fun _ _ _ => by kernel_rfl))) ?_; clear T ac; intro ac T
                          refine g_q (v := (.pointer (some ⟨g6, 0, none⟩))) (T := T) (i := 27) rfl (by kernel_rfl) (by kernel_rfl : (pbits 47 134217727).setIfInBounds 27 true = pbits 47 268435455) si_U (fun _ _ _ h => h) (wanted_yes rfl rfl (T.ev 7 rfl) (by simp [h10])) rfl rfl rfl (fun _ _ _ _ _ => (rn_fieldAddr (off := 0) rfl (T.ev 0 rfl) (fun _ _ _ => by kernel_rfl))) ?_; clear T ac; intro ac T
                          refine g_q (T := T) (i := 28) rfl (by kernel_rfl) (by kernel_rfl : (pbits 47 268435455).setIfInBounds 28 true = pbits 47 536870911) si_U (fun _ _ _ h => h) (wanted_yes rfl rfl (T.ev 8 rfl) (by simp [h10])) rfl rfl rfl (fun B w' hD hl hS => (rn_one (Mem.nth (show Mem w noEx w' _ from hS) 1 rfl) rfl (T.ev 0 rfl) rfl)) ?_; clear T ac; intro ac T
                          refine g_q (T := T) (i := 29) rfl (by kernel_rfl) (by kernel_rfl : (pbits 47 536870911).setIfInBounds 29 true = pbits 47 1073741823) si_U (fun _ _ _ h => h) (wanted_yes rfl rfl (T.ev 9 rfl) (by simp [h10])) rfl rfl rfl (fun _ _ _ _ _ => (rn_neg rfl (T.ev 0 rfl) (by omega))) ?_; clear T ac; intro ac T
                          refine g_w (i := 30) (by kernel_rfl) rfl (by kernel_rfl : (pbits 47 1073741823).setIfInBounds 30 true = pbits 47 2147483647) (wanted_yes rfl rfl (T.ev 10 rfl) (by simp [h10])) ?_; intro K hK
                          refine ow_call (first := []) (cap := []) T rfl rfl rfl rfl evf (.cons (T.ev 4 rfl) (.cons (T.ev 0 rfl) .nil)) Try.func31 rfl rfl ?_
                          refine Calls.mono (to_any (-((afT ju2 lu6).p1)) (-((afT ju2 lu6).p0)) _) ?_
                          clear T
                          rintro e wc ⟨rfl, hb⟩
                          intro ac T
                          replace M := M.call hb; clear hb
                          refine sh_out hK _ _ (M.mask [true, true, true, true] rfl) ?_; clear hK K
                          refine g_addU M ?_
                          refine g_q (v := (.bool (!((decide (((afT jm lm).p0) = (-((afT ju2 lu6).p1)))) && (decide (((afT jm lm).p1) = (-((afT ju2 lu6).p0)))))))) (T := T) (i := 31) rfl (by kernel_rfl) (by kernel_rfl : (pbits 47 2147483647).setIfInBounds 31 true = pbits 47 4294967295) (si_and si_U si_U) (fun _ _ _ h => h) (wanted_yes rfl rfl (T.ev 11 rfl) (by simp [h10])) rfl rfl rfl (fun _ _ _ _ _ => (rn_bin rfl (T.ev 9 rfl) (T.ev 0 rfl) neT23)) ?_; clear T ac; intro ac T
                          refine g_q (T := T) (i := 32) rfl (by kernel_rfl) (by kernel_rfl : (pbits 47 4294967295).setIfInBounds 32 true = pbits 47 8589934591) (si_and si_U si_U) (fun _ _ _ h => h) rfl rfl rfl rfl (fun _ _ _ _ _ => (rn_pick0 rfl (T.ev 12 rfl) (by simp [h10]) (T.ev 0 rfl))) ?_; clear T ac; intro ac T
                          refine g_q (T := T) (i := 33) rfl (by kernel_rfl) (by kernel_rfl : (pbits 47 8589934591).setIfInBounds 33 true = pbits 47 17179869183) (si_and si_U si_U) (fun _ _ _ h => h) rfl rfl rfl rfl (fun _ _ _ _ _ => (rn_move rfl (T.ev 0 rfl))) ?_; clear T ac; intro ac T
                          rcases Bool.eq_false_or_eq_true (!((decide (((afT jm lm).p0) = (-((afT ju2 lu6).p1)))) && (decide (((afT jm lm).p1) = (-((afT ju2 lu6).p0)))))) with h11 | h11
                          · refine g_pass (T := T) (i := 34) rfl (by kernel_rfl) (by kernel_rfl : (pbits 47 17179869183).setIfInBounds 34 true = pbits 47 34359738367) (si_and si_U si_U) (fun _ _ _ h => h) (wanted_no rfl rfl (T.ev 0 rfl) h11) rfl rfl rfl ?_; clear T ac; intro ac T
                            refine g_pass (T := T) (i := 35) rfl (by kernel_rfl) (by kernel_rfl : (pbits 47 34359738367).setIfInBounds 35 true = pbits 47 68719476735) (si_and si_U si_U) (fun _ _ _ h => h) (wanted_no rfl rfl (T.ev 1 rfl) h11) rfl rfl rfl ?_; clear T ac; intro ac T
                            refine g_pass (T := T) (i := 36) rfl (by kernel_rfl) (by kernel_rfl : (pbits 47 68719476735).setIfInBounds 36 true = pbits 47 137438953471) (si_and si_U si_U) (fun _ _ _ h => h) (wanted_no rfl rfl (T.ev 2 rfl) h11) rfl rfl rfl ?_; clear T ac; intro ac T
                            refine g_pass (T := T) (i := 37) rfl (by kernel_rfl) (by kernel_rfl : (pbits 47 137438953471).setIfInBounds 37 true = pbits 47 274877906943) (si_and si_U si_U) (fun _ _ _ h => h) (wanted_no rfl rfl (T.ev 3 rfl) h11) rfl rfl rfl ?_; clear T ac; intro ac T
                            refine g_pass (T := T) (i := 38) rfl (by kernel_rfl) (by kernel_rfl : (pbits 47 274877906943).setIfInBounds 38 true = pbits 47 549755813887) (si_and si_U si_U) (fun _ _ _ h => h) (wanted_no rfl rfl (T.ev 4 rfl) h11) rfl rfl rfl ?_; clear T ac; intro ac T
                            refine g_q (T := T) (i := 39) rfl (by kernel_rfl) (by kernel_rfl : (pbits 47 549755813887).setIfInBounds 39 true = pbits 47 1099511627775) (si_and si_U si_U) (fun _ _ _ h => h) rfl rfl rfl rfl (fun _ _ _ _ _ => (rn_pick1 rfl (T.ev 5 rfl) h11 evc)) ?_; clear T ac; intro ac T
                            refine g_q (T := T) (i := 40) rfl (by kernel_rfl) (by kernel_rfl : (pbits 47 1099511627775).setIfInBounds 40 true = pbits 47 2199023255551) (si_and si_U si_U) (fun _ _ _ h => h) rfl rfl rfl rfl (fun _ _ _ _ _ => (rn_move rfl (T.ev 0 rfl))) ?_; clear T ac; intro ac T
                            refine g_pass (T := T) (i := 41) rfl (by kernel_rfl) (by kernel_rfl : (pbits 47 2199023255551).setIfInBounds 41 true = pbits 47 4398046511103) (si_and si_U si_U) (fun _ _ _ h => h) (wanted_no rfl rfl (T.ev 0 rfl) rfl) rfl rfl rfl ?_; clear T ac; intro ac T
                            refine g_pass (T := T) (i := 42) rfl (by kernel_rfl) (by kernel_rfl : (pbits 47 4398046511103).setIfInBounds 42 true = pbits 47 8796093022207) (si_and si_U si_U) (fun _ _ _ h => h) (wanted_no rfl rfl (T.ev 1 rfl) rfl) rfl rfl rfl ?_; clear T ac; intro ac T
                            refine g_pass (T := T) (i := 43) rfl (by kernel_rfl) (by kernel_rfl : (pbits 47 8796093022207).setIfInBounds 43 true = pbits 47 17592186044415) (si_and si_U si_U) (fun _ _ _ h => h) (wanted_no rfl rfl (T.ev 2 rfl) rfl) rfl rfl rfl ?_; clear T ac; intro ac T
                            refine g_pass (T := T) (i := 44) rfl (by kernel_rfl) (by kernel_rfl : (pbits 47 17592186044415).setIfInBounds 44 true = pbits 47 35184372088831) (si_and si_U si_U) (fun _ _ _ h => h) (wanted_no rfl rfl (T.ev 3 rfl) rfl) rfl rfl rfl ?_; clear T ac; intro ac T
                            refine g_pass (T := T) (i := 45) rfl (by kernel_rfl) (by kernel_rfl : (pbits 47 35184372088831).setIfInBounds 45 true = pbits 47 70368744177663) (si_and si_U si_U) (fun _ _ _ h => h) (wanted_no rfl rfl (T.ev 4 rfl) rfl) rfl rfl rfl ?_; clear T ac; intro ac T
                            refine g_q (T := T) (i := 46) rfl (by kernel_rfl) (by kernel_rfl : (pbits 47 70368744177663).setIfInBounds 46 true = pbits 47 140737488355327) (si_and si_U si_U) (fun _ _ _ h => h) rfl rfl rfl rfl (fun _ _ _ _ _ => (rn_pick1 rfl (T.ev 5 rfl) rfl evc)) ?_; clear T ac; intro ac T
                            refine g_done (by kernel_rfl) ?_
                            replace T := T.pick [0, 55, 56] rfl
                            replace M := M.mask [false, false, true, true] rfl
                            exact ⟨(T.pick (E' := [(4, .pointer (some ⟨g1, 0, none⟩)), (5, .pointer (some ⟨g2, 0, none⟩)), (219, .bool true)]) [1, 2, 0] rfl).as (by (try rw [show (!(decide ((checkStrokesJ ju2 lu6) = 0))) = false from (by simp [h6])]); (try rw [show (!(decide ((checkStrokesJ jm lm) = 0))) = false from (by simp [h7])]); (try rw [show (!(decide (((fineT ju2 lu6).2) = 0))) = false from (by simp [h8])]); (try rw [show (!(decide (((fineT jm lm).2) = 0))) = false from (by simp [h9])]); (try rw [show (!(decide (((fineT ju2 lu6).1) = ((fineT jm lm).1)))) = false from (by simp [h10])]); (try rw [show (!((decide (((afT jm lm).p0) = (-((afT ju2 lu6).p1)))) && (decide (((afT jm lm).p1) = (-((afT ju2 lu6).p0)))))) = true from h11]); rfl), M.mask [true, true] rfl⟩
                          · refine g_q (v := (.pointer (some ⟨g7, 2, none⟩))) (T := T) (i := 34) rfl (by kernel_rfl) (by kernel_rfl : (pbits 47 17179869183).setIfInBounds 34 true = pbits 47 34359738367) (si_and si_U si_U) (fun _ _ _ h => h) (wanted_yes rfl rfl (T.ev 0 rfl) h11) rfl rfl rfl (fun _ _ _ _ _ => (rn_fieldAddr (off := 2) rfl (T.ev 39 rfl) (fun _ _ _ => by kernel_rfl))) ?_; clear T ac; intro ac T
                            refine g_q (T := T) (i := 35) rfl (by kernel_rfl) (by kernel_rfl : (pbits 47 34359738367).setIfInBounds 35 true = pbits 47 68719476735) (si_and si_U si_U) (fun _ _ _ h => h) (wanted_yes rfl rfl (T.ev 1 rfl) h11) rfl rfl rfl (fun B w' hD hl hS => (rn_rowO (Mem.nth (show Mem w noEx w' _ from (MA.lft hS)) 0 rfl) rfl (T.ev 0 rfl) rfl)) ?_; clear T ac; intro ac T
                            refine g_q (v := (.pointer (some ⟨g6, 4, none⟩))) (T := T) (i := 36) rfl (by kernel_rfl) (by kernel_rfl : (pbits 47 68719476735).setIfInBounds 36 true = pbits 47 137438953471) (si_and si_U si_U) (fun _ _ _ h => h) (wanted_yes rfl rfl (T.ev 2 rfl) h11) rfl rfl rfl (fun _ _ _ _ _ => (rn_fieldAddr (off := 4) rfl (T.ev 43 rfl) (fun _ _ _ => by kernel_rfl))) ?_; clear T ac; intro ac T
                            refine g_q (T := T) (i := 37) rfl (by kernel_rfl) (by kernel_rfl : (pbits 47 137438953471).setIfInBounds 37 true = pbits 47 274877906943) (si_and si_U si_U) (fun _ _ _ h => h) (wanted_yes rfl rfl (T.ev 3 rfl) h11) rfl rfl rfl (fun B w' hD hl hS => (rn_rowO (Mem.nth (show Mem w noEx w' _ from (MA.lft hS)) 1 rfl) rfl (T.ev 0 rfl) rfl)) ?_; clear T ac; intro ac T
                            refine g_q (v := (.bool (!((decide (((afT jm lm).t0) = ((afT ju2 lu6).r0))) && (decide (((afT jm lm).t1) = ((afT ju2 lu6).r1))))))) (T := T) (i := 38) rfl (by kernel_rfl) (by kernel_rfl : (pbits 47 274877906943).setIfInBounds 38 true = pbits 47 549755813887) (si_and si_U si_U) (fun _ _ _ h => h) (wanted_yes rfl rfl (T.ev 4 rfl) h11) rfl rfl rfl (fun _ _ _ _ _ => (rn_bin rfl (T.ev 2 rfl) (T.ev 0 rfl) neT23)) ?_; clear T ac; intro ac T
                            refine g_q (T := T) (i := 39) rfl (by kernel_rfl) (by kernel_rfl : (pbits 47 549755813887).setIfInBounds 39 true = pbits 47 1099511627775) (si_and si_U si_U) (fun _ _ _ h => h) rfl rfl rfl rfl (fun _ _ _ _ _ => (rn_pick0 rfl (T.ev 5 rfl) h11 (T.ev 0 rfl))) ?_; clear T ac; intro ac T
                            refine g_q (T := T) (i := 40) rfl (by kernel_rfl) (by kernel_rfl : (pbits 47 1099511627775).setIfInBounds 40 true = pbits 47 2199023255551) (si_and si_U si_U) (fun _ _ _ h => h) rfl rfl rfl rfl (fun _ _ _ _ _ => (rn_move rfl (T.ev 0 rfl))) ?_; clear T ac; intro ac T
                            rcases Bool.eq_false_or_eq_true (!((decide (((afT jm lm).t0) = ((afT ju2 lu6).r0))) && (decide (((afT jm lm).t1) = ((afT ju2 lu6).r1))))) with h12 | h12
                            · refine g_pass (T := T) (i := 41) rfl (by kernel_rfl) (by kernel_rfl : (pbits 47 2199023255551).setIfInBounds 41 true = pbits 47 4398046511103) (si_and si_U si_U) (fun _ _ _ h => h) (wanted_no rfl rfl (T.ev 0 rfl) h12) rfl rfl rfl ?_; clear T ac; intro ac T
                              refine g_pass (T := T) (i := 42) rfl (by kernel_rfl) (by kernel_rfl : (pbits 47 4398046511103).setIfInBounds 42 true = pbits 47 8796093022207) (si_and si_U si_U) (fun _ _ _ h => h) (wanted_no rfl rfl (T.ev 1 rfl) h12) rfl rfl rfl ?_; clear T ac; intro ac T
                              refine g_pass (T := T) (i := 43) rfl (by kernel_rfl) (by kernel_rfl : (pbits 47 8796093022207).setIfInBounds 43 true = pbits 47 17592186044415) (si_and si_U si_U) (fun _ _ _ h => h) (wanted_no rfl rfl (T.ev 2 rfl) h12) rfl rfl rfl ?_; clear T ac; intro ac T
                              refine g_pass (T := T) (i := 44) rfl (by kernel_rfl) (by kernel_rfl : (pbits 47 17592186044415).setIfInBounds 44 true = pbits 47 35184372088831) (si_and si_U si_U) (fun _ _ _ h => h) (wanted_no rfl rfl (T.ev 3 rfl) h12) rfl rfl rfl ?_; clear T ac; intro ac T
                              refine g_pass (T := T) (i := 45) rfl (by kernel_rfl) (by kernel_rfl : (pbits 47 35184372088831).setIfInBounds 45 true = pbits 47 70368744177663) (si_and si_U si_U) (fun _ _ _ h => h) (wanted_no rfl rfl (T.ev 4 rfl) h12) rfl rfl rfl ?_; clear T ac; intro ac T
                              refine g_q (T := T) (i := 46) rfl (by kernel_rfl) (by kernel_rfl : (pbits 47 70368744177663).setIfInBounds 46 true = pbits 47 140737488355327) (si_and si_U si_U) (fun _ _ _ h => h) rfl rfl rfl rfl (fun _ _ _ _ _ => (rn_pick1 rfl (T.ev 5 rfl) h12 evc)) ?_; clear T ac; intro ac T
                              refine g_done (by kernel_rfl) ?_
                              replace T := T.pick [0, 55, 56] rfl
                              replace M := M.mask [false, false, true, true] rfl
                              exact ⟨(T.pick (E' := [(4, .pointer (some ⟨g1, 0, none⟩)), (5, .pointer (some ⟨g2, 0, none⟩)), (219, .bool true)]) [1, 2, 0] rfl).as (by (try rw [show (!(decide ((checkStrokesJ ju2 lu6) = 0))) = false from (by simp [h6])]); (try rw [show (!(decide ((checkStrokesJ jm lm) = 0))) = false from (by simp [h7])]); (try rw [show (!(decide (((fineT ju2 lu6).2) = 0))) = false from (by simp [h8])]); (try rw [show (!(decide (((fineT jm lm).2) = 0))) = false from (by simp [h9])]); (try rw [show (!(decide (((fineT ju2 lu6).1) = ((fineT jm lm).1)))) = false from (by simp [h10])]); (try rw [show (!((decide (((afT jm lm).p0) = (-((afT ju2 lu6).p1)))) && (decide (((afT jm lm).p1) = (-((afT ju2 lu6).p0)))))) = false from h11]); (try rw [show (!((decide (((afT jm lm).t0) = ((afT ju2 lu6).r0))) && (decide (((afT jm lm).t1) = ((afT ju2 lu6).r1))))) = true from h12]); rfl), M.mask [true, true] rfl⟩
                            · refine g_q (v := (.pointer (some ⟨g7, 4, none⟩))) (T := T) (i := 41) rfl (by kernel_rfl) (by kernel_rfl : (pbits 47 2199023255551).setIfInBounds 41 true = pbits 47 4398046511103) (si_and si_U si_U) (fun _ _ _ h => h) (wanted_yes rfl rfl (T.ev 0 rfl) h12) rfl rfl rfl (fun _ _ _ _ _ => (rn_fieldAddr (off := 4) rfl (T.ev 46 rfl) (fun _ _ _ => by kernel_rfl))) ?_; clear T ac; intro ac T
                              refine g_q (T := T) (i := 42) rfl (by kernel_rfl) (by kernel_rfl : (pbits 47 4398046511103).setIfInBounds 42 true = pbits 47 8796093022207) (si_and si_U si_U) (fun _ _ _ h => h) (wanted_yes rfl rfl (T.ev 1 rfl) h12) rfl rfl rfl (fun B w' hD hl hS => (rn_rowO (Mem.nth (show Mem w noEx w' _ from (MA.lft hS)) 0 rfl) rfl (T.ev 0 rfl) rfl)) ?_; clear T ac; intro ac T
                              refine g_q (v := (.pointer (some ⟨g6, 2, none⟩))) (T := T) (i := 43) rfl (by kernel_rfl) (by kernel_rfl : (pbits 47 8796093022207).setIfInBounds 43 true = pbits 47 17592186044415) (si_and si_U si_U) (fun _ _ _ h => h) (wanted_yes rfl rfl (T.ev 2 rfl) h12) rfl rfl rfl (fun _ _ _ _ _ => (rn_fieldAddr (off := 2) rfl (T.ev 50 rfl) (fun _ _ _ => by kernel_rfl))) ?_; clear T ac; intro ac T
                              refine g_q (T := T) (i := 44) rfl (by kernel_rfl) (by kernel_rfl : (pbits 47 17592186044415).setIfInBounds 44 true = pbits 47 35184372088831) (si_and si_U si_U) (fun _ _ _ h => h) (wanted_yes rfl rfl (T.ev 3 rfl) h12) rfl rfl rfl (fun B w' hD hl hS => (rn_rowO (Mem.nth (show Mem w noEx w' _ from (MA.lft hS)) 1 rfl) rfl (T.ev 0 rfl) rfl)) ?_; clear T ac; intro ac T
                              refine g_q (v := (.bool (!((decide (((afT jm lm).r0) = ((afT ju2 lu6).t0))) && (decide (((afT jm lm).r1) = ((afT ju2 lu6).t1))))))) (T := T) (i := 45) rfl (by kernel_rfl) (by kernel_rfl : (pbits 47 35184372088831).setIfInBounds 45 true = pbits 47 70368744177663) (si_and si_U si_U) (fun _ _ _ h => h) (wanted_yes rfl rfl (T.ev 4 rfl) h12) rfl rfl rfl (fun _ _ _ _ _ => (rn_bin rfl (T.ev 2 rfl) (T.ev 0 rfl) neT23)) ?_; clear T ac; intro ac T
                              refine g_q (T := T) (i := 46) rfl (by kernel_rfl) (by kernel_rfl : (pbits 47 70368744177663).setIfInBounds 46 true = pbits 47 140737488355327) (si_and si_U si_U) (fun _ _ _ h => h) rfl rfl rfl rfl (fun _ _ _ _ _ => (rn_pick0 rfl (T.ev 5 rfl) h12 (T.ev 0 rfl))) ?_; clear T ac; intro ac T
                              refine g_done (by kernel_rfl) ?_
                              replace T := T.pick [0, 55, 56] rfl
                              replace M := M.mask [false, false, true, true] rfl
                              exact ⟨(T.pick (E' := [(4, .pointer (some ⟨g1, 0, none⟩)), (5, .pointer (some ⟨g2, 0, none⟩)), (219, .bool (!((decide (((afT jm lm).r0) = ((afT ju2 lu6).t0))) && (decide (((afT jm lm).r1) = ((afT ju2 lu6).t1))))))]) [1, 2, 0] rfl).as (by (try rw [show (!(decide ((checkStrokesJ ju2 lu6) = 0))) = false from (by simp [h6])]); (try rw [show (!(decide ((checkStrokesJ jm lm) = 0))) = false from (by simp [h7])]); (try rw [show (!(decide (((fineT ju2 lu6).2) = 0))) = false from (by simp [h8])]); (try rw [show (!(decide (((fineT jm lm).2) = 0))) = false from (by simp [h9])]); (try rw [show (!(decide (((fineT ju2 lu6).1) = ((fineT jm lm).1)))) = false from (by simp [h10])]); (try rw [show (!((decide (((afT jm lm).p0) = (-((afT ju2 lu6).p1)))) && (decide (((afT jm lm).p1) = (-((afT ju2 lu6).p0)))))) = false from h11]); (try rw [show (!((decide (((afT jm lm).t0) = ((afT ju2 lu6).r0))) && (decide (((afT jm lm).t1) = ((afT ju2 lu6).r1))))) = false from h12]); rfl), M.mask [true, true] rfl⟩
              · clear T M
                rintro ac wc ⟨T, M⟩
                refine wp_cond_split (T.ev 2 rfl) ?_ ?_
                · intro h13
                  (try have h13' := h13; try simp only [Bool.and_eq_true, Bool.or_eq_true, Bool.not_eq_true', Bool.and_eq_false_imp, Bool.or_eq_false_iff, decide_eq_true_eq, decide_eq_false_iff_not] at h13')
                  refine wp_seq ?_
                  refine wp_region_lit ?_
                  refine l_q T rfl rfl rfl rfl (rn_assign rfl evc) ?_; clear T ac; intro ac T
                  refine wpList_nil ?_
                  replace T := T.pick [0] rfl
                  replace M := M.mask [false, false] rfl
                  refine nm_then ?_
                  refine wp_ret ?_
                  refine rt_then ?_
                  refine rt_1 T rfl (T.ev 0 rfl) ?_
                  exfalso
                  obtain ⟨m1, m9, m3, m4, m5⟩ := hmr
                  rw [m1, m5] at h13'
                  simp [mirS, m9, m3, m4] at h13'
                · intro h13
                  (try have h13' := h13; try simp only [Bool.and_eq_true, Bool.or_eq_true, Bool.not_eq_true', Bool.and_eq_false_imp, Bool.or_eq_false_iff, decide_eq_true_eq, decide_eq_false_iff_not] at h13')
                  refine wp_skip ?_
                  refine nm_then ?_
                  refine wp_seq ?_
                  refine wp_region_lit ?_
                  refine l_q T rfl rfl rfl rfl (rn_rowO (Mem.nth M 1 rfl) rfl (T.ev 0 rfl) rfl) ?_; clear T ac; intro ac T
                  refine l_w rfl ?_; intro K hK
                  refine ow_call (first := []) (cap := []) T rfl rfl rfl rfl evf (.cons (T.ev 0 rfl) .nil) Try.func19 rfl rfl ?_
                  refine Calls.mono (Shortest_any ju2 _ _ _ (Su2.rd M (.cons _ (.cons _ (List.Sublist.trans (List.Sublist.trans (List.Sublist.trans (List.Sublist.refl _) (List.sublist_append_left _ _)) (List.sublist_append_left _ _)) (List.sublist_append_left _ _))))) (by first | omega | (dsimp only [Jb.one]; omega))) ?_
                  clear T
                  rintro e wc ⟨Au15, cu15, rfl, hrlu15, hb⟩
                  intro ac T
                  replace M := M.call hb; clear hb
                  clear hrlu15
                  refine sh_out hK _ _ ?_; clear hK K
                  refine l_q T rfl rfl rfl rfl (rn_move rfl (T.ev 0 rfl)) ?_; clear T ac; intro ac T
                  refine l_q T rfl rfl rfl rfl (rn_extract rfl (T.ev 0 rfl) rfl) ?_; clear T ac; intro ac T
                  refine l_q T rfl rfl rfl rfl (rn_extract rfl (T.ev 1 rfl) rfl) ?_; clear T ac; intro ac T
                  refine l_q T rfl rfl rfl rfl (rn_assign rfl (T.ev 1 rfl)) ?_; clear T ac; intro ac T
                  refine l_q T rfl rfl rfl rfl (rn_assign rfl (T.ev 1 rfl)) ?_; clear T ac; intro ac T
                  refine wpList_nil ?_
                  replace T := T.pick [0, 1, 7, 8] rfl
                  refine nm_then ?_
                  refine wp_seq ?_
                  refine wp_region_lit ?_
                  refine l_q T rfl rfl rfl rfl (rn_rowO (Mem.nth M 0 rfl) rfl (T.ev 3 rfl) rfl) ?_; clear T ac; intro ac T
                  refine l_w rfl ?_; intro K hK
                  refine ow_call (first := []) (cap := []) T rfl rfl rfl rfl evf (.cons (T.ev 0 rfl) .nil) Try.func19 rfl rfl ?_
                  refine Calls.mono (Shortest_any jm _ _ _ (Sjm.rd M (.cons _ (.cons _ (List.Sublist.trans (List.Sublist.trans (List.sublist_append_right _ _) (List.sublist_append_left _ _)) (List.sublist_append_left _ _))))) (by first | omega | (dsimp only [Jb.one]; omega))) ?_
                  clear T
                  rintro e wc ⟨Au16, cu16, rfl, hrlu16, hb⟩
                  intro ac T
                  replace M := M.call hb; clear hb
                  clear hrlu16
                  refine sh_out hK _ _ ?_; clear hK K
                  refine l_q T rfl rfl rfl rfl (rn_move rfl (T.ev 0 rfl)) ?_; clear T ac; intro ac T
                  refine l_q T rfl rfl rfl rfl (rn_extract rfl (T.ev 0 rfl) rfl) ?_; clear T ac; intro ac T
                  refine l_q T rfl rfl rfl rfl (rn_extract rfl (T.ev 1 rfl) rfl) ?_; clear T ac; intro ac T
                  refine l_q T rfl rfl rfl rfl (rn_assign rfl (T.ev 1 rfl)) ?_; clear T ac; intro ac T
                  refine l_q T rfl rfl rfl rfl (rn_assign rfl (T.ev 1 rfl)) ?_; clear T ac; intro ac T
                  refine wpList_nil ?_
                  replace T := T.pick [0, 1, 7, 8, 9, 10] rfl
                  refine nm_then ?_
                  refine wp_seq ?_
                  refine wp_region_lit ?_
                  refine l_q T rfl rfl rfl rfl (rn_rowO (Mem.nth M 1 rfl) rfl (T.ev 4 rfl) rfl) ?_; clear T ac; intro ac T
                  refine l_w rfl ?_; intro K hK
                  refine ow_call (first := []) (cap := []) T rfl rfl rfl rfl evf (.cons (T.ev 0 rfl) .nil) Try.func24 rfl rfl ?_
                  refine Calls.mono (Guided_any ju2 _ _ _ (Su2.rd M (.cons _ (.cons _ (List.Sublist.trans (List.Sublist.trans (List.Sublist.trans (List.Sublist.refl _) (List.sublist_append_left _ _)) (List.sublist_append_left _ _)) (List.sublist_append_left _ _))))) (by first | omega | (dsimp only [Jb.one]; omega))) ?_
                  clear T
                  rintro e wc ⟨rfl, hb⟩
                  intro ac T
                  replace M := M.call hb; clear hb
                  refine sh_out hK _ _ ?_; clear hK K
                  refine l_q T rfl rfl rfl rfl (rn_move rfl (T.ev 0 rfl)) ?_; clear T ac; intro ac T
                  refine l_q T rfl rfl rfl rfl (rn_extract rfl (T.ev 0 rfl) rfl) ?_; clear T ac; intro ac T
                  refine l_q T rfl rfl rfl rfl (rn_extract rfl (T.ev 1 rfl) rfl) ?_; clear T ac; intro ac T
                  refine l_q T rfl rfl rfl rfl (rn_assign rfl (T.ev 1 rfl)) ?_; clear T ac; intro ac T
                  refine l_q T rfl rfl rfl rfl (rn_assign rfl (T.ev 1 rfl)) ?_; clear T ac; intro ac T
                  refine wpList_nil ?_
                  replace T := T.pick [0, 1, 7, 8, 9, 10, 11, 12] rfl
                  refine nm_then ?_
                  refine wp_seq ?_
                  refine wp_region_lit ?_
                  refine l_q T rfl rfl rfl rfl (rn_rowO (Mem.nth M 0 rfl) rfl (T.ev 7 rfl) rfl) ?_; clear T ac; intro ac T
                  refine l_w rfl ?_; intro K hK
                  refine ow_call (first := []) (cap := []) T rfl rfl rfl rfl evf (.cons (T.ev 0 rfl) .nil) Try.func24 rfl rfl ?_
                  refine Calls.mono (Guided_any jm _ _ _ (Sjm.rd M (.cons _ (.cons _ (List.Sublist.trans (List.Sublist.trans (List.sublist_append_right _ _) (List.sublist_append_left _ _)) (List.sublist_append_left _ _))))) (by first | omega | (dsimp only [Jb.one]; omega))) ?_
                  clear T
                  rintro e wc ⟨rfl, hb⟩
                  intro ac T
                  replace M := M.call hb; clear hb
                  refine sh_out hK _ _ ?_; clear hK K
                  refine l_q T rfl rfl rfl rfl (rn_move rfl (T.ev 0 rfl)) ?_; clear T ac; intro ac T
                  refine l_q T rfl rfl rfl rfl (rn_extract rfl (T.ev 0 rfl) rfl) ?_; clear T ac; intro ac T
                  refine l_q T rfl rfl rfl rfl (rn_extract rfl (T.ev 1 rfl) rfl) ?_; clear T ac; intro ac T
                  refine l_q T rfl rfl rfl rfl (rn_assign rfl (T.ev 1 rfl)) ?_; clear T ac; intro ac T
                  refine l_q T rfl rfl rfl rfl (rn_assign rfl (T.ev 1 rfl)) ?_; clear T ac; intro ac T
                  refine wpList_nil ?_
                  replace T := T.pick [0, 1, 7, 8, 9, 10, 11, 12, 13, 14] rfl
                  refine nm_then ?_
                  refine wp_seq ?_
                  refine wp_region_lit ?_
                  refine l_q T rfl rfl rfl rfl (rn_rowO (Mem.nth M 1 rfl) rfl (T.ev 8 rfl) rfl) ?_; clear T ac; intro ac T
                  refine l_w rfl ?_; intro K hK
                  refine ow_call (first := []) (cap := []) T rfl rfl rfl rfl evf (.cons (T.ev 0 rfl) .nil) Try.func26 rfl rfl ?_
                  refine Calls.mono (Next_any ju2 _ _ _ (Su2.rd M (.cons _ (.cons _ (List.Sublist.trans (List.Sublist.trans (List.Sublist.trans (List.Sublist.refl _) (List.sublist_append_left _ _)) (List.sublist_append_left _ _)) (List.sublist_append_left _ _))))) (by first | omega | (dsimp only [Jb.one]; omega))) ?_
                  clear T
                  rintro e wc ⟨rfl, hb⟩
                  intro ac T
                  replace M := M.call hb; clear hb
                  refine sh_out hK _ _ ?_; clear hK K
                  refine l_q T rfl rfl rfl rfl (rn_move rfl (T.ev 0 rfl)) ?_; clear T ac; intro ac T
                  refine l_q T rfl rfl rfl rfl (rn_extract rfl (T.ev 0 rfl) rfl) ?_; clear T ac; intro ac T
                  refine l_q T rfl rfl rfl rfl (rn_extract rfl (T.ev 1 rfl) rfl) ?_; clear T ac; intro ac T
                  refine l_q T rfl rfl rfl rfl (rn_extract rfl (T.ev 2 rfl) rfl) ?_; clear T ac; intro ac T
                  refine l_q T rfl rfl rfl rfl (rn_assign rfl (T.ev 2 rfl)) ?_; clear T ac; intro ac T
                  refine l_q T rfl rfl rfl rfl (rn_assign rfl (T.ev 2 rfl)) ?_; clear T ac; intro ac T
                  refine l_q T rfl rfl rfl rfl (rn_assign rfl (T.ev 2 rfl)) ?_; clear T ac; intro ac T
                  refine wpList_nil ?_
                  replace T := T.pick [0, 1, 9, 10, 11, 12, 13, 14, 15, 16, 18] rfl
                  replace M := M.mask [true, false] rfl
                  refine nm_then ?_
                  refine wp_seq ?_
                  refine wp_region_lit ?_
                  refine l_q T rfl rfl rfl rfl (rn_rowO (Mem.nth M 0 rfl) rfl (T.ev 10 rfl) rfl) ?_; clear T ac; intro ac T
                  refine l_w rfl ?_; intro K hK
                  refine ow_call (first := []) (cap := []) T rfl rfl rfl rfl evf (.cons (T.ev 0 rfl) .nil) Try.func26 rfl rfl ?_
                  refine Calls.mono (Next_any jm _ _ _ (Sjm.rd M (.cons _ (List.Sublist.trans (List.Sublist.trans (List.sublist_append_right _ _) (List.sublist_append_left _ _)) (List.sublist_append_left _ _)))) (by first | omega | (dsimp only [Jb.one]; omega))) ?_
                  clear T
                  rintro e wc ⟨rfl, hb⟩
                  intro ac T
                  replace M := M.call hb; clear hb
                  refine sh_out hK _ _ ?_; clear hK K
                  refine l_q T rfl rfl rfl rfl (rn_move rfl (T.ev 0 rfl)) ?_; clear T ac; intro ac T
                  refine l_q T rfl rfl rfl rfl (rn_extract rfl (T.ev 0 rfl) rfl) ?_; clear T ac; intro ac T
                  refine l_q T rfl rfl rfl rfl (rn_extract rfl (T.ev 1 rfl) rfl) ?_; clear T ac; intro ac T
                  refine l_q T rfl rfl rfl rfl (rn_extract rfl (T.ev 2 rfl) rfl) ?_; clear T ac; intro ac T
                  refine l_q T rfl rfl rfl rfl (rn_assign rfl (T.ev 2 rfl)) ?_; clear T ac; intro ac T
                  refine l_q T rfl rfl rfl rfl (rn_assign rfl (T.ev 2 rfl)) ?_; clear T ac; intro ac T
                  refine l_q T rfl rfl rfl rfl (rn_assign rfl (T.ev 2 rfl)) ?_; clear T ac; intro ac T
                  refine wpList_nil ?_
                  replace T := T.pick [0, 1, 9, 10, 11, 12, 13, 14, 15, 16, 17, 18] rfl
                  replace M := M.mask [false] rfl
                  refine nm_then ?_
                  refine cut_seq (fun ac wc => Tm ac 285 [(2, .bool ((decide ((shortE ju2) = (shortE jm))) && ((decide ((((shortL ju2).length : Nat) : Int) = (((shortL jm).length : Nat) : Int))) && ((decide (((guidedJ ju2).2) = ((guidedJ jm).2))) && ((decide (((guidedJ ju2).1) = ((guidedJ jm).1))) && ((decide (((nextJ ju2).2.2) = ((nextJ jm).2.2))) && (decide (((nextJ ju2).2.1) = ((nextJ jm).2.1)))))))))] ∧ Mem w noEx wc ((Iu2 ++ Ix ++ Iu6 ++ I8))) ?_ ?_
                  · refine wp_region_lit ?_
                    refine l_q T rfl rfl rfl rfl (rn_move rfl (T.ev 10 rfl)) ?_; clear T ac; intro ac T
                    refine l_q T rfl rfl rfl rfl (rn_move rfl (T.ev 9 rfl)) ?_; clear T ac; intro ac T
                    refine l_q T rfl rfl rfl rfl (rn_eql rfl (T.ev 1 rfl) (T.ev 0 rfl)) ?_; clear T ac; intro ac T
                    refine l_q T rfl rfl rfl rfl (rn_move rfl (T.ev 0 rfl)) ?_; clear T ac; intro ac T
                    rcases Bool.eq_false_or_eq_true (decide ((shortE ju2) = (shortE jm))) with h14 | h14
                    · replace h14 := of_decide_eq_true h14
                      refine l_q T (wanted_yes rfl rfl (T.ev 0 rfl) (decide_eq_true h14)) rfl rfl rfl (rn_move rfl (T.ev 15 rfl)) ?_; clear T ac; intro ac T
                      refine l_q T (wanted_yes rfl rfl (T.ev 1 rfl) (decide_eq_true h14)) rfl rfl rfl (rn_lenS rfl Try.underlying31 (T.ev 0 rfl)) ?_; clear T ac; intro ac T
                      refine l_q T (wanted_yes rfl rfl (T.ev 2 rfl) (decide_eq_true h14)) rfl rfl rfl (rn_move rfl (T.ev 15 rfl)) ?_; clear T ac; intro ac T
                      refine l_q T (wanted_yes rfl rfl (T.ev 3 rfl) (decide_eq_true h14)) rfl rfl rfl (rn_lenS rfl Try.underlying31 (T.ev 0 rfl)) ?_; clear T ac; intro ac T
                      refine l_q T (wanted_yes rfl rfl (T.ev 4 rfl) (decide_eq_true h14)) rfl rfl rfl (rn_eql rfl (T.ev 2 rfl) (T.ev 0 rfl)) ?_; clear T ac; intro ac T
                      refine l_q T rfl rfl rfl rfl (rn_pick1 rfl (T.ev 5 rfl) (decide_eq_true h14) (T.ev 0 rfl)) ?_; clear T ac; intro ac T
                      refine l_q T rfl rfl rfl rfl (rn_move rfl (T.ev 0 rfl)) ?_; clear T ac; intro ac T
                      rcases Bool.eq_false_or_eq_true (decide ((((shortL ju2).length : Nat) : Int) = (((shortL jm).length : Nat) : Int))) with h15 | h15
                      · replace h15 := of_decide_eq_true h15
                        refine l_q T (wanted_yes rfl rfl (T.ev 0 rfl) (decide_eq_true h15)) rfl rfl rfl (rn_move rfl (T.ev 17 rfl)) ?_; clear T ac; intro ac T
                        refine l_q T (wanted_yes rfl rfl (T.ev 1 rfl) (decide_eq_true h15)) rfl rfl rfl (rn_move rfl (T.ev 16 rfl)) ?_; clear T ac; intro ac T
                        refine l_q T (wanted_yes rfl rfl (T.ev 2 rfl) (decide_eq_true h15)) rfl rfl rfl (rn_eql rfl (T.ev 1 rfl) (T.ev 0 rfl)) ?_; clear T ac; intro ac T
                        refine l_q T rfl rfl rfl rfl (rn_pick1 rfl (T.ev 3 rfl) (decide_eq_true h15) (T.ev 0 rfl)) ?_; clear T ac; intro ac T
                        refine l_q T rfl rfl rfl rfl (rn_move rfl (T.ev 0 rfl)) ?_; clear T ac; intro ac T
                        rcases Bool.eq_false_or_eq_true (decide (((guidedJ ju2).2) = ((guidedJ jm).2))) with h16 | h16
                        · replace h16 := of_decide_eq_true h16
                          refine l_q T (wanted_yes rfl rfl (T.ev 0 rfl) (decide_eq_true h16)) rfl rfl rfl (rn_move rfl (T.ev 23 rfl)) ?_; clear T ac; intro ac T
                          refine l_q T (wanted_yes rfl rfl (T.ev 1 rfl) (decide_eq_true h16)) rfl rfl rfl (rn_move rfl (T.ev 22 rfl)) ?_; clear T ac; intro ac T
                          refine l_q T (wanted_yes rfl rfl (T.ev 2 rfl) (decide_eq_true h16)) rfl rfl rfl (rn_eql rfl (T.ev 1 rfl) (T.ev 0 rfl)) ?_; clear T ac; intro ac T
                          refine l_q T rfl rfl rfl rfl (rn_pick1 rfl (T.ev 3 rfl) (decide_eq_true h16) (T.ev 0 rfl)) ?_; clear T ac; intro ac T
                          refine l_q T rfl rfl rfl rfl (rn_move rfl (T.ev 0 rfl)) ?_; clear T ac; intro ac T
                          rcases Bool.eq_false_or_eq_true (decide (((guidedJ ju2).1) = ((guidedJ jm).1))) with h17 | h17
                          · replace h17 := of_decide_eq_true h17
                            refine l_q T (wanted_yes rfl rfl (T.ev 0 rfl) (decide_eq_true h17)) rfl rfl rfl (rn_move rfl (T.ev 23 rfl)) ?_; clear T ac; intro ac T
                            refine l_q T (wanted_yes rfl rfl (T.ev 1 rfl) (decide_eq_true h17)) rfl rfl rfl (rn_move rfl (T.ev 22 rfl)) ?_; clear T ac; intro ac T
                            refine l_q T (wanted_yes rfl rfl (T.ev 2 rfl) (decide_eq_true h17)) rfl rfl rfl (rn_eql rfl (T.ev 1 rfl) (T.ev 0 rfl)) ?_; clear T ac; intro ac T
                            refine l_q T rfl rfl rfl rfl (rn_pick1 rfl (T.ev 3 rfl) (decide_eq_true h17) (T.ev 0 rfl)) ?_; clear T ac; intro ac T
                            refine l_q T rfl rfl rfl rfl (rn_move rfl (T.ev 0 rfl)) ?_; clear T ac; intro ac T
                            rcases Bool.eq_false_or_eq_true (decide (((nextJ ju2).2.2) = ((nextJ jm).2.2))) with h18 | h18
                            · replace h18 := of_decide_eq_true h18
                              refine l_q T (wanted_yes rfl rfl (T.ev 0 rfl) (decide_eq_true h18)) rfl rfl rfl (rn_move rfl (T.ev 29 rfl)) ?_; clear T ac; intro ac T
                              refine l_q T (wanted_yes rfl rfl (T.ev 1 rfl) (decide_eq_true h18)) rfl rfl rfl (rn_move rfl (T.ev 28 rfl)) ?_; clear T ac; intro ac T
                              refine l_q T (wanted_yes rfl rfl (T.ev 2 rfl) (decide_eq_true h18)) rfl rfl rfl (rn_eql rfl (T.ev 1 rfl) (T.ev 0 rfl)) ?_; clear T ac; intro ac T
                              refine l_q T rfl rfl rfl rfl (rn_pick1 rfl (T.ev 3 rfl) (decide_eq_true h18) (T.ev 0 rfl)) ?_; clear T ac; intro ac T
                              refine l_q T rfl rfl rfl rfl (rn_move rfl (T.ev 0 rfl)) ?_; clear T ac; intro ac T
                              rcases Bool.eq_false_or_eq_true (decide (((nextJ ju2).2.1) = ((nextJ jm).2.1))) with h19 | h19
                              · replace h19 := of_decide_eq_true h19
                                refine l_w (wanted_yes rfl rfl (T.ev 0 rfl) (decide_eq_true h19)) ?_; intro K hK
                                refine ow_call (first := []) (cap := []) T rfl rfl rfl rfl evf .nil Try.func15 rfl rfl ?_
                                refine Calls.mono (tuned_any _) ?_
                                clear T
                                rintro e wc ⟨rfl, hb⟩
                                intro ac T
                                replace M := M.call hb; clear hb
                                refine sh_out hK _ _ ?_; clear hK K
                                refine l_q T rfl rfl rfl rfl (rn_pick1 rfl (T.ev 1 rfl) (decide_eq_true h19) (T.ev 0 rfl)) ?_; clear T ac; intro ac T
                                refine l_q T rfl rfl rfl rfl (rn_assign rfl (T.ev 0 rfl)) ?_; clear T ac; intro ac T
                                refine wpList_nil ?_
                                replace T := T.pick [0] rfl
                                exact ⟨(T.pick (E' := [(2, .bool true)]) [0] rfl).as (by (try rw [show (decide ((shortE ju2) = (shortE jm))) = true from (decide_eq_true h14)]); (try rw [show (decide ((((shortL ju2).length : Nat) : Int) = (((shortL jm).length : Nat) : Int))) = true from (decide_eq_true h15)]); (try rw [show (decide (((guidedJ ju2).2) = ((guidedJ jm).2))) = true from (decide_eq_true h16)]); (try rw [show (decide (((guidedJ ju2).1) = ((guidedJ jm).1))) = true from (decide_eq_true h17)]); (try rw [show (decide (((nextJ ju2).2.2) = ((nextJ jm).2.2))) = true from (decide_eq_true h18)]); (try rw [show (decide (((nextJ ju2).2.1) = ((nextJ jm).2.1))) = true from (decide_eq_true h19)]); rfl), M.mask [] rfl⟩
                              · replace h19 := of_decide_eq_false h19
                                refine l_pass T (wanted_no rfl rfl (T.ev 0 rfl) (decide_eq_false h19)) rfl rfl rfl ?_; clear T ac; intro ac T
                                refine l_q T rfl rfl rfl rfl (rn_pick0 rfl (T.ev 1 rfl) (decide_eq_false h19) evc) ?_; clear T ac; intro ac T
                                refine l_q T rfl rfl rfl rfl (rn_assign rfl (T.ev 0 rfl)) ?_; clear T ac; intro ac T
                                refine wpList_nil ?_
                                replace T := T.pick [0] rfl
                                exact ⟨(T.pick (E' := [(2, .bool false)]) [0] rfl).as (by (try rw [show (decide ((shortE ju2) = (shortE jm))) = true from (decide_eq_true h14)]); (try rw [show (decide ((((shortL ju2).length : Nat) : Int) = (((shortL jm).length : Nat) : Int))) = true from (decide_eq_true h15)]); (try rw [show (decide (((guidedJ ju2).2) = ((guidedJ jm).2))) = true from (decide_eq_true h16)]); (try rw [show (decide (((guidedJ ju2).1) = ((guidedJ jm).1))) = true from (decide_eq_true h17)]); (try rw [show (decide (((nextJ ju2).2.2) = ((nextJ jm).2.2))) = true from (decide_eq_true h18)]); (try rw [show (decide (((nextJ ju2).2.1) = ((nextJ jm).2.1))) = false from (decide_eq_false h19)]); rfl), M.mask [] rfl⟩
                            · replace h18 := of_decide_eq_false h18
                              refine l_pass T (wanted_no rfl rfl (T.ev 0 rfl) (decide_eq_false h18)) rfl rfl rfl ?_; clear T ac; intro ac T
                              refine l_pass T (wanted_no rfl rfl (T.ev 1 rfl) (decide_eq_false h18)) rfl rfl rfl ?_; clear T ac; intro ac T
                              refine l_pass T (wanted_no rfl rfl (T.ev 2 rfl) (decide_eq_false h18)) rfl rfl rfl ?_; clear T ac; intro ac T
                              refine l_q T rfl rfl rfl rfl (rn_pick0 rfl (T.ev 3 rfl) (decide_eq_false h18) evc) ?_; clear T ac; intro ac T
                              refine l_q T rfl rfl rfl rfl (rn_move rfl (T.ev 0 rfl)) ?_; clear T ac; intro ac T
                              refine l_pass T (wanted_no rfl rfl (T.ev 0 rfl) rfl) rfl rfl rfl ?_; clear T ac; intro ac T
                              refine l_q T rfl rfl rfl rfl (rn_pick0 rfl (T.ev 1 rfl) rfl evc) ?_; clear T ac; intro ac T
                              refine l_q T rfl rfl rfl rfl (rn_assign rfl (T.ev 0 rfl)) ?_; clear T ac; intro ac T
                              refine wpList_nil ?_
                              replace T := T.pick [0] rfl
                              exact ⟨(T.pick (E' := [(2, .bool false)]) [0] rfl).as (by (try rw [show (decide ((shortE ju2) = (shortE jm))) = true from (decide_eq_true h14)]); (try rw [show (decide ((((shortL ju2).length : Nat) : Int) = (((shortL jm).length : Nat) : Int))) = true from (decide_eq_true h15)]); (try rw [show (decide (((guidedJ ju2).2) = ((guidedJ jm).2))) = true from (decide_eq_true h16)]); (try rw [show (decide (((guidedJ ju2).1) = ((guidedJ jm).1))) = true from (decide_eq_true h17)]); (try rw [show (decide (((nextJ ju2).2.2) = ((nextJ jm).2.2))) = false from (decide_eq_false h18)]); rfl), M.mask [] rfl⟩
                          · replace h17 := of_decide_eq_false h17
                            refine l_pass T (wanted_no rfl rfl (T.ev 0 rfl) (decide_eq_false h17)) rfl rfl rfl ?_; clear T ac; intro ac T
                            refine l_pass T (wanted_no rfl rfl (T.ev 1 rfl) (decide_eq_false h17)) rfl rfl rfl ?_; clear T ac; intro ac T
                            refine l_pass T (wanted_no rfl rfl (T.ev 2 rfl) (decide_eq_false h17)) rfl rfl rfl ?_; clear T ac; intro ac T
                            refine l_q T rfl rfl rfl rfl (rn_pick0 rfl (T.ev 3 rfl) (decide_eq_false h17) evc) ?_; clear T ac; intro ac T
                            refine l_q T rfl rfl rfl rfl (rn_move rfl (T.ev 0 rfl)) ?_; clear T ac; intro ac T
                            refine l_pass T (wanted_no rfl rfl (T.ev 0 rfl) rfl) rfl rfl rfl ?_; clear T ac; intro ac T
                            refine l_pass T (wanted_no rfl rfl (T.ev 1 rfl) rfl) rfl rfl rfl ?_; clear T ac; intro ac T
                            refine l_pass T (wanted_no rfl rfl (T.ev 2 rfl) rfl) rfl rfl rfl ?_; clear T ac; intro ac T
                            refine l_q T rfl rfl rfl rfl (rn_pick0 rfl (T.ev 3 rfl) rfl evc) ?_; clear T ac; intro ac T
                            refine l_q T rfl rfl rfl rfl (rn_move rfl (T.ev 0 rfl)) ?_; clear T ac; intro ac T
                            refine l_pass T (wanted_no rfl rfl (T.ev 0 rfl) rfl) rfl rfl rfl ?_; clear T ac; intro ac T
                            refine l_q T rfl rfl rfl rfl (rn_pick0 rfl (T.ev 1 rfl) rfl evc) ?_; clear T ac; intro ac T
                            refine l_q T rfl rfl rfl rfl (rn_assign rfl (T.ev 0 rfl)) ?_; clear T ac; intro ac T
                            refine wpList_nil ?_
                            replace T := T.pick [0] rfl
                            exact ⟨(T.pick (E' := [(2, .bool false)]) [0] rfl).as (by (try rw [show (decide ((shortE ju2) = (shortE jm))) = true from (decide_eq_true h14)]); (try rw [show (decide ((((shortL ju2).length : Nat) : Int) = (((shortL jm).length : Nat) : Int))) = true from (decide_eq_true h15)]); (try rw [show (decide (((guidedJ ju2).2) = ((guidedJ jm).2))) = true from (decide_eq_true h16)]); (try rw [show (decide (((guidedJ ju2).1) = ((guidedJ jm).1))) = false from (decide_eq_false h17)]); rfl), M.mask [] rfl⟩
                        · replace h16 := of_decide_eq_false h16
                          refine l_pass T (wanted_no rfl rfl (T.ev 0 rfl) (decide_eq_false h16)) rfl rfl rfl ?_; clear T ac; intro ac T
                          refine l_pass T (wanted_no rfl rfl (T.ev 1 rfl) (decide_eq_false h16)) rfl rfl rfl ?_; clear T ac; intro ac T
                          refine l_pass T (wanted_no rfl rfl (T.ev 2 rfl) (decide_eq_false h16)) rfl rfl rfl ?_; clear T ac; intro ac T
                          refine l_q T rfl rfl rfl rfl (rn_pick0 rfl (T.ev 3 rfl) (decide_eq_false h16) evc) ?_; clear T ac; intro ac T
                          refine l_q T rfl rfl rfl rfl (rn_move rfl (T.ev 0 rfl)) ?_; clear T ac; intro ac T
                          refine l_pass T (wanted_no rfl rfl (T.ev 0 rfl) rfl) rfl rfl rfl ?_; clear T ac; intro ac T
                          refine l_pass T (wanted_no rfl rfl (T.ev 1 rfl) rfl) rfl rfl rfl ?_; clear T ac; intro ac T
                          refine l_pass T (wanted_no rfl rfl (T.ev 2 rfl) rfl) rfl rfl rfl ?_; clear T ac; intro ac T
                          refine l_q T rfl rfl rfl rfl (rn_pick0 rfl (T.ev 3 rfl) rfl evc) ?_; clear T ac; intro ac T
                          refine l_q T rfl rfl rfl rfl (rn_move rfl (T.ev 0 rfl)) ?_; clear T ac; intro ac T
                          refine l_pass T (wanted_no rfl rfl (T.ev 0 rfl) rfl) rfl rfl rfl ?_; clear T ac; intro ac T
                          refine l_pass T (wanted_no rfl rfl (T.ev 1 rfl) rfl) rfl rfl rfl ?_; clear T ac; intro ac T
                          refine l_pass T (wanted_no rfl rfl (T.ev 2 rfl) rfl) rfl rfl rfl ?_; clear T ac; intro ac T
                          refine l_q T rfl rfl rfl rfl (rn_pick0 rfl (T.ev 3 rfl) rfl evc) ?_; clear T ac; intro ac T
                          refine l_q T rfl rfl rfl rfl (rn_move rfl (T.ev 0 rfl)) ?_; clear T ac; intro ac T
                          refine l_pass T (wanted_no rfl rfl (T.ev 0 rfl) rfl) rfl rfl rfl ?_; clear T ac; intro ac T
                          refine l_q T rfl rfl rfl rfl (rn_pick0 rfl (T.ev 1 rfl) rfl evc) ?_; clear T ac; intro ac T
                          refine l_q T rfl rfl rfl rfl (rn_assign rfl (T.ev 0 rfl)) ?_; clear T ac; intro ac T
                          refine wpList_nil ?_
                          replace T := T.pick [0] rfl
                          exact ⟨(T.pick (E' := [(2, .bool false)]) [0] rfl).as (by (try rw [show (decide ((shortE ju2) = (shortE jm))) = true from (decide_eq_true h14)]); (try rw [show (decide ((((shortL ju2).length : Nat) : Int) = (((shortL jm).length : Nat) : Int))) = true from (decide_eq_true h15)]); (try rw [show (decide (((guidedJ ju2).2) = ((guidedJ jm).2))) = false from (decide_eq_false h16)]); rfl), M.mask [] rfl⟩
                      · replace h15 := of_decide_eq_false h15
                        refine l_pass T (wanted_no rfl rfl (T.ev 0 rfl) (decide_eq_false h15)) rfl rfl rfl ?_; clear T ac; intro ac T
                        refine l_pass T (wanted_no rfl rfl (T.ev 1 rfl) (decide_eq_false h15)) rfl rfl rfl ?_; clear T ac; intro ac T
                        refine l_pass T (wanted_no rfl rfl (T.ev 2 rfl) (decide_eq_false h15)) rfl rfl rfl ?_; clear T ac; intro ac T
                        refine l_q T rfl rfl rfl rfl (rn_pick0 rfl (T.ev 3 rfl) (decide_eq_false h15) evc) ?_; clear T ac; intro ac T
                        refine l_q T rfl rfl rfl rfl (rn_move rfl (T.ev 0 rfl)) ?_; clear T ac; intro ac T
                        refine l_pass T (wanted_no rfl rfl (T.ev 0 rfl) rfl) rfl rfl rfl ?_; clear T ac; intro ac T
                        refine l_pass T (wanted_no rfl rfl (T.ev 1 rfl) rfl) rfl rfl rfl ?_; clear T ac; intro ac T
                        refine l_pass T (wanted_no rfl rfl (T.ev 2 rfl) rfl) rfl rfl rfl ?_; clear T ac; intro ac T
                        refine l_q T rfl rfl rfl rfl (rn_pick0 rfl (T.ev 3 rfl) rfl evc) ?_; clear T ac; intro ac T
                        refine l_q T rfl rfl rfl rfl (rn_move rfl (T.ev 0 rfl)) ?_; clear T ac; intro ac T
                        refine l_pass T (wanted_no rfl rfl (T.ev 0 rfl) rfl) rfl rfl rfl ?_; clear T ac; intro ac T
                        refine l_pass T (wanted_no rfl rfl (T.ev 1 rfl) rfl) rfl rfl rfl ?_; clear T ac; intro ac T
                        refine l_pass T (wanted_no rfl rfl (T.ev 2 rfl) rfl) rfl rfl rfl ?_; clear T ac; intro ac T
                        refine l_q T rfl rfl rfl rfl (rn_pick0 rfl (T.ev 3 rfl) rfl evc) ?_; clear T ac; intro ac T
                        refine l_q T rfl rfl rfl rfl (rn_move rfl (T.ev 0 rfl)) ?_; clear T ac; intro ac T
                        refine l_pass T (wanted_no rfl rfl (T.ev 0 rfl) rfl) rfl rfl rfl ?_; clear T ac; intro ac T
                        refine l_pass T (wanted_no rfl rfl (T.ev 1 rfl) rfl) rfl rfl rfl ?_; clear T ac; intro ac T
                        refine l_pass T (wanted_no rfl rfl (T.ev 2 rfl) rfl) rfl rfl rfl ?_; clear T ac; intro ac T
                        refine l_q T rfl rfl rfl rfl (rn_pick0 rfl (T.ev 3 rfl) rfl evc) ?_; clear T ac; intro ac T
                        refine l_q T rfl rfl rfl rfl (rn_move rfl (T.ev 0 rfl)) ?_; clear T ac; intro ac T
                        refine l_pass T (wanted_no rfl rfl (T.ev 0 rfl) rfl) rfl rfl rfl ?_; clear T ac; intro ac T
                        refine l_q T rfl rfl rfl rfl (rn_pick0 rfl (T.ev 1 rfl) rfl evc) ?_; clear T ac; intro ac T
                        refine l_q T rfl rfl rfl rfl (rn_assign rfl (T.ev 0 rfl)) ?_; clear T ac; intro ac T
                        refine wpList_nil ?_
                        replace T := T.pick [0] rfl
                        exact ⟨(T.pick (E' := [(2, .bool false)]) [0] rfl).as (by (try rw [show (decide ((shortE ju2) = (shortE jm))) = true from (decide_eq_true h14)]); (try rw [show (decide ((((shortL ju2).length : Nat) : Int) = (((shortL jm).length : Nat) : Int))) = false from (decide_eq_false h15)]); rfl), M.mask [] rfl⟩
                    · replace h14 := of_decide_eq_false h14
                      refine l_pass T (wanted_no rfl rfl (T.ev 0 rfl) (decide_eq_false h14)) rfl rfl rfl ?_; clear T ac; intro ac T
                      refine l_pass T (wanted_no rfl rfl (T.ev 1 rfl) (decide_eq_false h14)) rfl rfl rfl ?_; clear T ac; intro ac T
                      refine l_pass T (wanted_no rfl rfl (T.ev 2 rfl) (decide_eq_false h14)) rfl rfl rfl ?_; clear T ac; intro ac T
                      refine l_pass T (wanted_no rfl rfl (T.ev 3 rfl) (decide_eq_false h14)) rfl rfl rfl ?_; clear T ac; intro ac T
                      refine l_pass T (wanted_no rfl rfl (T.ev 4 rfl) (decide_eq_false h14)) rfl rfl rfl ?_; clear T ac; intro ac T
                      refine l_q T rfl rfl rfl rfl (rn_pick0 rfl (T.ev 5 rfl) (decide_eq_false h14) evc) ?_; clear T ac; intro ac T
                      refine l_q T rfl rfl rfl rfl (rn_move rfl (T.ev 0 rfl)) ?_; clear T ac; intro ac T
                      refine l_pass T (wanted_no rfl rfl (T.ev 0 rfl) rfl) rfl rfl rfl ?_; clear T ac; intro ac T
                      refine l_pass T (wanted_no rfl rfl (T.ev 1 rfl) rfl) rfl rfl rfl ?_; clear T ac; intro ac T
                      refine l_pass T (wanted_no rfl rfl (T.ev 2 rfl) rfl) rfl rfl rfl ?_; clear T ac; intro ac T
                      refine l_q T rfl rfl rfl rfl (rn_pick0 rfl (T.ev 3 rfl) rfl evc) ?_; clear T ac; intro ac T
                      refine l_q T rfl rfl rfl rfl (rn_move rfl (T.ev 0 rfl)) ?_; clear T ac; intro ac T
                      refine l_pass T (wanted_no rfl rfl (T.ev 0 rfl) rfl) rfl rfl rfl ?_; clear T ac; intro ac T
                      refine l_pass T (wanted_no rfl rfl (T.ev 1 rfl) rfl) rfl rfl rfl ?_; clear T ac; intro ac T
                      refine l_pass T (wanted_no rfl rfl (T.ev 2 rfl) rfl) rfl rfl rfl ?_; clear T ac; intro ac T
                      refine l_q T rfl rfl rfl rfl (rn_pick0 rfl (T.ev 3 rfl) rfl evc) ?_; clear T ac; intro ac T
                      refine l_q T rfl rfl rfl rfl (rn_move rfl (T.ev 0 rfl)) ?_; clear T ac; intro ac T
                      refine l_pass T (wanted_no rfl rfl (T.ev 0 rfl) rfl) rfl rfl rfl ?_; clear T ac; intro ac T
                      refine l_pass T (wanted_no rfl rfl (T.ev 1 rfl) rfl) rfl rfl rfl ?_; clear T ac; intro ac T
                      refine l_pass T (wanted_no rfl rfl (T.ev 2 rfl) rfl) rfl rfl rfl ?_; clear T ac; intro ac T
                      refine l_q T rfl rfl rfl rfl (rn_pick0 rfl (T.ev 3 rfl) rfl evc) ?_; clear T ac; intro ac T
                      refine l_q T rfl rfl rfl rfl (rn_move rfl (T.ev 0 rfl)) ?_; clear T ac; intro ac T
                      refine l_pass T (wanted_no rfl rfl (T.ev 0 rfl) rfl) rfl rfl rfl ?_; clear T ac; intro ac T
                      refine l_pass T (wanted_no rfl rfl (T.ev 1 rfl) rfl) rfl rfl rfl ?_; clear T ac; intro ac T
                      refine l_pass T (wanted_no rfl rfl (T.ev 2 rfl) rfl) rfl rfl rfl ?_; clear T ac; intro ac T
                      refine l_q T rfl rfl rfl rfl (rn_pick0 rfl (T.ev 3 rfl) rfl evc) ?_; clear T ac; intro ac T
                      refine l_q T rfl rfl rfl rfl (rn_move rfl (T.ev 0 rfl)) ?_; clear T ac; intro ac T
                      refine l_pass T (wanted_no rfl rfl (T.ev 0 rfl) rfl) rfl rfl rfl ?_; clear T ac; intro ac T
                      refine l_q T rfl rfl rfl rfl (rn_pick0 rfl (T.ev 1 rfl) rfl evc) ?_; clear T ac; intro ac T
                      refine l_q T rfl rfl rfl rfl (rn_assign rfl (T.ev 0 rfl)) ?_; clear T ac; intro ac T
                      refine wpList_nil ?_
                      replace T := T.pick [0] rfl
                      exact ⟨(T.pick (E' := [(2, .bool false)]) [0] rfl).as (by (try rw [show (decide ((shortE ju2) = (shortE jm))) = false from (decide_eq_false h14)]); rfl), M.mask [] rfl⟩
                  · clear T M
                    rintro ac wc ⟨T, M⟩
                    refine wp_ret ?_
                    refine rt_1 T rfl (T.ev 0 rfl) ?_
                    refine ⟨ret_bool ?_, M.below⟩
                    have s1 := short_m hgu2
                    have s2 := guided_m hgu2
                    have s3 := next_m hgu2
                    rw [← hjm] at s1 s2 s3
                    rw [s2, s3]
                    simp [s1.1, s1.2]

end Go.Proofs.Ythlpceoajhcliaa
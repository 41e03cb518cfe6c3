/-
  The law ReedBetter, walked.
-/
import Derived.Test.YthlpceoajhcliaaK6
import Derived.Test.YthlpceoajhcliaaPMir
namespace Go.Proofs.Ythlpceoajhcliaa
set_option linter.unusedSimpArgs false
set_option linter.unusedVariables false
open Go.RowKit

def NarL (lx l : List (Int × Int)) : Prop := ∀ (i : Nat) (y : Int × Int), lx[i]? = some y → ∃ s, l[i]? = some s ∧ s.1 ≤ y.1 ∧ y.1 ≤ y.2 ∧ y.2 ≤ s.2
theorem NarL.set {lx l : List (Int × Int)} (h : NarL lx l) {k : Nat} {x y a b : Int} (hk : lx[k]? = some (x, y)) (h1 : x ≤ a ∧ a ≤ b ∧ b ≤ y) : NarL (lx.set k (a, b)) l := by
  intro i z hz
  by_cases e : k = i
  · subst e
    rw [List.getElem?_set_self (List.getElem?_eq_some_iff.1 hk).1] at hz
    injection hz with hz
    subst hz
    obtain ⟨s, h2, h3, h4, h5⟩ := h k _ hk
    dsimp only at *
    exact ⟨s, h2, by omega, by omega, by omega⟩
  · rw [List.getElem?_set_ne e] at hz
    exact h i z hz


set_option maxRecDepth 100000 in
set_option maxHeartbeats 1000000 in
theorem ReedBetter_any (D : Option Addr) (n d : Nat) (l : List Int) (w : World) (hl : Rd w w.heap.size 1 D n (ic l)) (hm : n ≤ 9223372036854775807) :
    Calls Try.prog 9 #[.slice D n d] w fun e w' => e = .returned (.bool true) ∧ Below w.heap.size w w' := by
  have hll := hl.len1
  obtain ⟨bI, oI, SI⟩ := Sp.old hl
  refine px_enter noEx Try.func9 rfl 263 rfl [.slice D n d] rfl rfl (Mem.init w _) ?_
  intro ac wc T M
  refine wp_seq ?_
  refine wp_region_lit ?_
  refine l_q T rfl rfl rfl rfl (rn_assign rfl evc) ?_; clear T ac; intro ac T
  refine wpList_nil ?_
  replace T := T.pick [1] rfl
  refine nm_then ?_
  refine wp_seq ?_
  refine wp_region_lit ?_
  refine l_q T rfl rfl rfl rfl (rn_move rfl (T.ev 0 rfl)) ?_; clear T ac; intro ac T
  refine l_w rfl ?_; intro K hK
  refine ow_call (first := []) (cap := []) T rfl rfl rfl rfl evf (.cons (T.ev 0 rfl) .nil) Try.func16 rfl rfl ?_
  refine Calls.mono (newPot_any _ _ _ l _ (SI.rd M (List.nil_sublist _)) (by omega)) ?_
  clear T
  rintro e wc ⟨bpu1, su1, hsu1, rfl, N⟩
  intro ac T
  replace M := M.join N; clear N
  replace M := M.mask [true] rfl
  refine sh_out hK _ _ ?_; clear hK K
  refine l_q T rfl rfl rfl rfl (rn_assign rfl (T.ev 0 rfl)) ?_; clear T ac; intro ac T
  refine wpList_nil ?_
  replace T := T.pick [0] rfl
  refine nm_then ?_
  refine wp_seq ?_
  refine wp_region_lit ?_
  refine l_q T rfl rfl rfl rfl (rn_move rfl (T.ev 0 rfl)) ?_; clear T ac; intro ac T
  refine l_w rfl ?_; intro K hK
  refine ow_call (first := []) (cap := []) T rfl rfl rfl rfl evf (.cons (T.ev 0 rfl) (.cons evc (.cons evc .nil))) Try.func17 rfl rfl ?_
  refine Calls.mono (jobOf_any _ bpu1 2 1 _ (by omega) (by omega) (by omega) (by omega) (M.nth 0 rfl) hsu1) ?_
  clear T
  rintro e wc ⟨ju2, Au2, cu2, su2, Iu2, rfl, hmu2, hsu2, hslu2, N⟩
  intro ac T
  obtain ⟨bu2, ou2, Su2⟩ := hslu2.sp (w := w) (ex := noEx) (rc_length _)
  replace M := (M.joinW .head N).swapI
  replace M := M.mask [true] rfl
  clear N hslu2
  have hgu2 := hmu2.good
  have hfewu2 := hgu2.few
  have hpu2 := hgu2.p
  have hmeu2 := hgu2.me
  refine sh_out hK _ _ ?_; clear hK K
  refine l_w rfl ?_; intro K hK
  refine ow_al M T rfl rfl rfl rfl ?_; clear M T; intro g1 wc ac M T
  refine sh_out hK _ _ ?_; clear hK K
  refine l_w rfl ?_; intro K hK
  refine ow_stO M T rfl rfl (T.ev 0 rfl) (T.ev 1 rfl) rfl .head rfl (by simp) rfl (by kernel_rfl) ?_; clear M T; intro wc ac M T
  refine sh_out hK _ _ ?_; clear hK K
  refine wpList_nil ?_
  replace T := T.pick [0, 3] rfl
  refine nm_then ?_
  refine wp_seq ?_
  refine wp_region_lit ?_
  refine l_q T rfl rfl rfl rfl (rn_rowO (Mem.nth M 0 rfl) rfl (T.ev 0 rfl) rfl) ?_; clear T ac; intro ac T
  refine l_w rfl ?_; intro K hK
  refine ow_call (first := []) (cap := []) T rfl rfl rfl rfl evf (.cons (T.ev 0 rfl) .nil) Try.func18 rfl rfl ?_
  refine Calls.mono (copyJob_own ju2 _ _ _ (Su2.rd M (.cons _ (.cons _ (List.Sublist.refl _)))) (by omega)) ?_
  clear T
  rintro e wc ⟨Au3, cu3, Iu3, rfl, hsmu3, N⟩
  intro ac T
  replace M := (M.join N).swapI
  obtain ⟨bu3, Ju3, hswu3, M⟩ := Sm.sw (L := ((g1, .cells (jobL ju2 Au2 cu2)) :: (bpu1, .cells [.int .u64 su2]) :: Iu2)) hsmu3 M
  replace M : Mem w noEx wc ((g1, .cells (jobL ju2 Au2 cu2)) :: (bpu1, .cells [.int .u64 su2]) :: (Iu2 ++ Ju3)) := M
  have Su3 := hswu3.sp (w := w) (ex := noEx)
  clear N hsmu3
  have ht9 := hgu2.t
  have hr9 := hgu2.r
  have hu9 := hgu2.u
  have hd9 := hgu2.d
  have ha9 := hgu2.a
  have hb9 := hgu2.b
  refine sh_out hK _ _ ?_; clear hK K
  refine l_w rfl ?_; intro K hK
  refine ow_al M T rfl rfl rfl rfl ?_; clear M T; intro g2 wc ac M T
  refine sh_out hK _ _ ?_; clear hK K
  refine l_w rfl ?_; intro K hK
  refine ow_stO M T rfl rfl (T.ev 0 rfl) (T.ev 1 rfl) rfl .head rfl (by simp) rfl (by kernel_rfl) ?_; clear M T; intro wc ac M T
  refine sh_out hK _ _ ?_; clear hK K
  refine wpList_nil ?_
  replace T := T.pick [0, 3, 4] rfl
  refine nm_then ?_
  refine wp_seq ?_
  refine g_start2 M (M.mask [false, true, false] rfl) 39 (by kernel_rfl) rfl (by kernel_rfl) ?_
  clear M; intro wc M
  refine g_addG 8 M ?_
  refine g_addG 32 (M.mask [true, true, false] rfl) ?_
  refine g_q (T := T) (i := 0) rfl (by kernel_rfl) (by kernel_rfl : (pbits 39 0).setIfInBounds 0 true = pbits 39 1) (si_and (si_G rfl) (si_and (si_G rfl) si_U)) (fun _ _ _ h => h) rfl rfl rfl rfl (fun _ _ _ _ _ => (rn_move rfl (T.ev 2 rfl))) ?_; clear T ac; intro ac T
  refine g_q (v := (.pointer (some ⟨g1, 0, none⟩))) (T := T) (i := 1) rfl (by kernel_rfl) (by kernel_rfl : (pbits 39 1).setIfInBounds 1 true = pbits 39 3) (si_and (si_G rfl) (si_and (si_G rfl) si_U)) (fun _ _ _ h => h) rfl rfl rfl rfl (fun _ _ _ _ _ => (rn_fieldAddr (off := 0) rfl (T.ev 2 rfl) (fun _ _ _ => by kernel_rfl))) ?_; clear T ac; intro ac T
  refine g_q (v := (.pointer (some ⟨g1, 0, none⟩))) (T := T) (i := 2) rfl (by kernel_rfl) (by kernel_rfl : (pbits 39 3).setIfInBounds 2 true = pbits 39 7) (si_and (si_G rfl) (si_and (si_G rfl) si_U)) (fun _ _ _ h => h) rfl rfl rfl rfl (fun _ _ _ _ _ => (rn_fieldAddr (off := 0) rfl (T.ev 0 rfl) (fun _ _ _ => by kernel_rfl))) ?_; clear T ac; intro ac T
  refine g_q (T := T) (i := 3) rfl (by kernel_rfl) (by kernel_rfl : (pbits 39 7).setIfInBounds 3 true = pbits 39 15) (si_and (si_G rfl) (si_and (si_G rfl) si_U)) (fun _ _ _ h => h) rfl rfl rfl rfl (fun B w' hD hl hS => (rn_rowO (Mem.nth (show Mem w noEx w' _ from ((MA.lft hS) (hD.wait (i := 3) (m := 32) (by kernel_rfl) hl))) 1 rfl) rfl (T.ev 0 rfl) rfl)) ?_; clear T ac; intro ac T
  refine g_q (T := T) (i := 4) rfl (by kernel_rfl) (by kernel_rfl : (pbits 39 15).setIfInBounds 4 true = pbits 39 31) (si_and (si_G rfl) (si_and (si_G rfl) si_U)) (fun _ _ _ h => h) rfl rfl rfl rfl (fun _ _ _ _ _ => (rn_move rfl (T.ev 6 rfl))) ?_; clear T ac; intro ac T
  refine g_q (v := (.pointer (some ⟨g1, 0, none⟩))) (T := T) (i := 5) rfl (by kernel_rfl) (by kernel_rfl : (pbits 39 31).setIfInBounds 5 true = pbits 39 63) (si_and (si_G rfl) (si_and (si_G rfl) si_U)) (fun _ _ _ h => h) rfl rfl rfl rfl (fun _ _ _ _ _ => (rn_fieldAddr (off := 0) rfl (T.ev 6 rfl) (fun _ _ _ => by kernel_rfl))) ?_; clear T ac; intro ac T
  refine g_q (v := (.pointer (some ⟨g1, 0, none⟩))) (T := T) (i := 6) rfl (by kernel_rfl) (by kernel_rfl : (pbits 39 63).setIfInBounds 6 true = pbits 39 127) (si_and (si_G rfl) (si_and (si_G rfl) si_U)) (fun _ _ _ h => h) rfl rfl rfl rfl (fun _ _ _ _ _ => (rn_fieldAddr (off := 0) rfl (T.ev 0 rfl) (fun _ _ _ => by kernel_rfl))) ?_; clear T ac; intro ac T
  refine g_q (T := T) (i := 7) rfl (by kernel_rfl) (by kernel_rfl : (pbits 39 127).setIfInBounds 7 true = pbits 39 255) (si_and (si_G rfl) (si_and (si_G rfl) si_U)) (fun _ _ _ h => h) rfl rfl rfl rfl (fun B w' hD hl hS => (rn_rowO (Mem.nth (show Mem w noEx w' _ from ((MA.lft hS) (hD.wait (i := 7) (m := 32) (by kernel_rfl) hl))) 1 rfl) rfl (T.ev 0 rfl) rfl)) ?_; clear T ac; intro ac T
  refine g_q (T := T) (i := 10) rfl (by kernel_rfl) (by kernel_rfl : (pbits 39 255).setIfInBounds 10 true = pbits 39 1279) (si_and (si_G rfl) (si_and (si_G rfl) si_U)) (fun _ _ _ h => h) rfl rfl rfl rfl (fun _ _ _ _ _ => (rn_move rfl (T.ev 10 rfl))) ?_; clear T ac; intro ac T
  refine g_q (v := (.pointer (some ⟨g1, 0, none⟩))) (T := T) (i := 11) rfl (by kernel_rfl) (by kernel_rfl : (pbits 39 1279).setIfInBounds 11 true = pbits 39 3327) (si_and (si_G rfl) (si_and (si_G rfl) si_U)) (fun _ _ _ h => h) rfl rfl rfl rfl (fun _ _ _ _ _ => (rn_fieldAddr (off := 0) rfl (T.ev 10 rfl) (fun _ _ _ => by kernel_rfl))) ?_; clear T ac; intro ac T
  refine g_q (v := (.pointer (some ⟨g1, 2, none⟩))) (T := T) (i := 12) rfl (by kernel_rfl) (by kernel_rfl : (pbits 39 3327).setIfInBounds 12 true = pbits 39 7423) (si_and (si_G rfl) (si_and (si_G rfl) si_U)) (fun _ _ _ h => h) rfl rfl rfl rfl (fun _ _ _ _ _ => (rn_fieldAddr (off := 2) rfl (T.ev 0 rfl) (fun _ _ _ => by kernel_rfl))) ?_; clear T ac; intro ac T
  refine g_q (T := T) (i := 13) rfl (by kernel_rfl) (by kernel_rfl : (pbits 39 7423).setIfInBounds 13 true = pbits 39 15615) (si_and (si_G rfl) (si_and (si_G rfl) si_U)) (fun _ _ _ h => h) rfl rfl rfl rfl (fun B w' hD hl hS => (rn_rowO (Mem.nth (show Mem w noEx w' _ from ((MA.lft hS) (hD.wait (i := 29) (m := 32) (by kernel_rfl) (hD.wait (i := 28) (m := 29) (by kernel_rfl) (hD.wait (i := 19) (m := 28) (by kernel_rfl) (hD.wait (i := 13) (m := 19) (by kernel_rfl) hl)))))) 1 rfl) rfl (T.ev 0 rfl) rfl)) ?_; clear T ac; intro ac T
  refine g_q (T := T) (i := 14) rfl (by kernel_rfl) (by kernel_rfl : (pbits 39 15615).setIfInBounds 14 true = pbits 39 31999) (si_and (si_G rfl) (si_and (si_G rfl) si_U)) (fun _ _ _ h => h) rfl rfl rfl rfl (fun _ _ _ _ _ => (rn_move rfl (T.ev 14 rfl))) ?_; clear T ac; intro ac T
  refine g_q (v := (.pointer (some ⟨g1, 0, none⟩))) (T := T) (i := 15) rfl (by kernel_rfl) (by kernel_rfl : (pbits 39 31999).setIfInBounds 15 true = pbits 39 64767) (si_and (si_G rfl) (si_and (si_G rfl) si_U)) (fun _ _ _ h => h) rfl rfl rfl rfl (fun _ _ _ _ _ => (rn_fieldAddr (off := 0) rfl (T.ev 14 rfl) (fun _ _ _ => by kernel_rfl))) ?_; clear T ac; intro ac T
  refine g_q (v := (.pointer (some ⟨g1, 2, none⟩))) (T := T) (i := 16) rfl (by kernel_rfl) (by kernel_rfl : (pbits 39 64767).setIfInBounds 16 true = pbits 39 130303) (si_and (si_G rfl) (si_and (si_G rfl) si_U)) (fun _ _ _ h => h) rfl rfl rfl rfl (fun _ _ _ _ _ => (rn_fieldAddr (off := 2) rfl (T.ev 0 rfl) (fun _ _ _ => by kernel_rfl))) ?_; clear T ac; intro ac T
  refine g_q (T := T) (i := 17) rfl (by kernel_rfl) (by kernel_rfl : (pbits 39 130303).setIfInBounds 17 true = pbits 39 261375) (si_and (si_G rfl) (si_and (si_G rfl) si_U)) (fun _ _ _ h => h) rfl rfl rfl rfl (fun B w' hD hl hS => (rn_rowO (Mem.nth (show Mem w noEx w' _ from ((MA.lft hS) (hD.wait (i := 29) (m := 32) (by kernel_rfl) (hD.wait (i := 28) (m := 29) (by kernel_rfl) (hD.wait (i := 19) (m := 28) (by kernel_rfl) (hD.wait (i := 18) (m := 19) (by kernel_rfl) (hD.wait (i := 17) (m := 18) (by kernel_rfl) hl))))))) 1 rfl) rfl (T.ev 0 rfl) rfl)) ?_; clear T ac; intro ac T
  refine g_q (T := T) (i := 20) rfl (by kernel_rfl) (by kernel_rfl : (pbits 39 261375).setIfInBounds 20 true = pbits 39 1309951) (si_and (si_G rfl) (si_and (si_G rfl) si_U)) (fun _ _ _ h => h) rfl rfl rfl rfl (fun _ _ _ _ _ => (rn_move rfl (T.ev 18 rfl))) ?_; clear T ac; intro ac T
  refine g_q (v := (.pointer (some ⟨g1, 0, none⟩))) (T := T) (i := 21) rfl (by kernel_rfl) (by kernel_rfl : (pbits 39 1309951).setIfInBounds 21 true = pbits 39 3407103) (si_and (si_G rfl) (si_and (si_G rfl) si_U)) (fun _ _ _ h => h) rfl rfl rfl rfl (fun _ _ _ _ _ => (rn_fieldAddr (off := 0) rfl (T.ev 18 rfl) (fun _ _ _ => by kernel_rfl))) ?_; clear T ac; intro ac T
  refine g_q (v := (.pointer (some ⟨g1, 4, none⟩))) (T := T) (i := 22) rfl (by kernel_rfl) (by kernel_rfl : (pbits 39 3407103).setIfInBounds 22 true = pbits 39 7601407) (si_and (si_G rfl) (si_and (si_G rfl) si_U)) (fun _ _ _ h => h) rfl rfl rfl rfl (fun _ _ _ _ _ => (rn_fieldAddr (off := 4) rfl (T.ev 0 rfl) (fun _ _ _ => by kernel_rfl))) ?_; clear T ac; intro ac T
  refine g_q (T := T) (i := 23) rfl (by kernel_rfl) (by kernel_rfl : (pbits 39 7601407).setIfInBounds 23 true = pbits 39 15990015) (si_and (si_G rfl) (si_and (si_G rfl) si_U)) (fun _ _ _ h => h) rfl rfl rfl rfl (fun B w' hD hl hS => (rn_rowO (Mem.nth (show Mem w noEx w' _ from ((MA.lft hS) (hD.wait (i := 29) (m := 32) (by kernel_rfl) (hD.wait (i := 23) (m := 29) (by kernel_rfl) hl)))) 1 rfl) rfl (T.ev 0 rfl) rfl)) ?_; clear T ac; intro ac T
  refine g_q (T := T) (i := 24) rfl (by kernel_rfl) (by kernel_rfl : (pbits 39 15990015).setIfInBounds 24 true = pbits 39 32767231) (si_and (si_G rfl) (si_and (si_G rfl) si_U)) (fun _ _ _ h => h) rfl rfl rfl rfl (fun _ _ _ _ _ => (rn_move rfl (T.ev 22 rfl))) ?_; clear T ac; intro ac T
  refine g_q (v := (.pointer (some ⟨g1, 0, none⟩))) (T := T) (i := 25) rfl (by kernel_rfl) (by kernel_rfl : (pbits 39 32767231).setIfInBounds 25 true = pbits 39 66321663) (si_and (si_G rfl) (si_and (si_G rfl) si_U)) (fun _ _ _ h => h) rfl rfl rfl rfl (fun _ _ _ _ _ => (rn_fieldAddr (off := 0) rfl (T.ev 22 rfl) (fun _ _ _ => by kernel_rfl))) ?_; clear T ac; intro ac T
  refine g_q (v := (.pointer (some ⟨g1, 4, none⟩))) (T := T) (i := 26) rfl (by kernel_rfl) (by kernel_rfl : (pbits 39 66321663).setIfInBounds 26 true = pbits 39 133430527) (si_and (si_G rfl) (si_and (si_G rfl) si_U)) (fun _ _ _ h => h) rfl rfl rfl rfl (fun _ _ _ _ _ => (rn_fieldAddr (off := 4) rfl (T.ev 0 rfl) (fun _ _ _ => by kernel_rfl))) ?_; clear T ac; intro ac T
  refine g_q (T := T) (i := 27) rfl (by kernel_rfl) (by kernel_rfl : (pbits 39 133430527).setIfInBounds 27 true = pbits 39 267648255) (si_and (si_G rfl) (si_and (si_G rfl) si_U)) (fun _ _ _ h => h) rfl rfl rfl rfl (fun B w' hD hl hS => (rn_rowO (Mem.nth (show Mem w noEx w' _ from ((MA.lft hS) (hD.wait (i := 29) (m := 32) (by kernel_rfl) (hD.wait (i := 28) (m := 29) (by kernel_rfl) (hD.wait (i := 27) (m := 28) (by kernel_rfl) hl))))) 1 rfl) rfl (T.ev 0 rfl) rfl)) ?_; clear T ac; intro ac T
  refine g_w (i := 8) (by kernel_rfl) rfl (by kernel_rfl : (pbits 39 267648255).setIfInBounds 8 true = pbits 39 267648511) rfl ?_; intro K hK
  refine ow_call (first := []) (cap := []) T rfl rfl rfl rfl evf (.cons (T.ev 19 rfl) (.cons (T.ev 16 rfl) .nil)) Try.func43 rfl rfl ?_
  refine Calls.mono (inner_any _ bpu1 ju2.p0 ju2.p1 _ (by omega) (by omega) (by omega) (M.nth 2 rfl) hsu2) ?_
  clear T
  rintro e wc ⟨xu4, su4, hxu4, hsu4, rfl, hgr, hbk⟩
  intro ac T
  replace M := M.callC (cs' := [.int .u64 su4]) (.tail (.tail .head)) hgr hbk
  clear hgr hbk
  refine sh_out hK _ _ (MA.mk (fun _ => M.mask [true, true, false] rfl) (MA.mk (fun h => (no_of (by kernel_rfl) h).elim) (M.mask [false, true, false] rfl))) ?_; clear hK K
  refine g_w (i := 9) (by kernel_rfl) rfl (by kernel_rfl : (pbits 39 267648511).setIfInBounds 9 true = pbits 39 267649023) rfl ?_; intro K hK
  refine ow_call (first := []) (cap := []) T rfl rfl rfl rfl evf (.cons (T.ev 24 rfl) (.cons (T.ev 21 rfl) (.cons (T.ev 0 rfl) .nil))) Try.func42 rfl rfl ?_
  refine Calls.mono (narrow_any _ bpu1 ju2.p0 ju2.p1 xu4 _ (by omega) (by omega) (by omega) (by omega) (M.nth 2 rfl) hsu4) ?_
  clear T
  rintro e wc ⟨xu5, yu5, su5, hxu5, hsu5, rfl, hgr, hbk⟩
  intro ac T
  replace M := M.callC (cs' := [.int .u64 su5]) (.tail (.tail .head)) hgr hbk
  clear hgr hbk
  refine sh_out hK _ _ (MA.mk (fun _ => M.mask [true, true, false] rfl) (MA.mk (fun h => (no_of (by kernel_rfl) h).elim) (M.mask [false, true, false] rfl))) ?_; clear hK K
  refine g_q (v := (.pointer (some ⟨g2, 0, none⟩))) (T := T) (i := 30) rfl (by kernel_rfl) (by kernel_rfl : (pbits 39 267649023).setIfInBounds 30 true = pbits 39 1341390847) (si_and (si_G rfl) (si_and (si_G rfl) si_U)) (fun _ _ _ h => h) rfl rfl rfl rfl (fun _ _ _ _ _ => (rn_fieldAddr (off := 0) rfl (T.ev 26 rfl) (fun _ _ _ => by kernel_rfl))) ?_; clear T ac; intro ac T
  refine g_q (v := (.pointer (some ⟨g2, 0, none⟩))) (T := T) (i := 31) rfl (by kernel_rfl) (by kernel_rfl : (pbits 39 1341390847).setIfInBounds 31 true = pbits 39 3488874495) (si_and (si_G rfl) (si_and (si_G rfl) si_U)) (fun _ _ _ h => h) rfl rfl rfl rfl (fun _ _ _ _ _ => (rn_fieldAddr (off := 0) rfl (T.ev 0 rfl) (fun _ _ _ => by kernel_rfl))) ?_; clear T ac; intro ac T
  refine g_w (i := 18) (by kernel_rfl) rfl (by kernel_rfl : (pbits 39 3488874495).setIfInBounds 18 true = pbits 39 3489136639) rfl ?_; intro K hK
  refine ow_call (first := []) (cap := []) T rfl rfl rfl rfl evf (.cons (T.ev 15 rfl) (.cons (T.ev 12 rfl) .nil)) Try.func43 rfl rfl ?_
  refine Calls.mono (inner_any _ bpu1 ju2.t0 ju2.t1 _ (by omega) (by omega) (by omega) (M.nth 2 rfl) hsu5) ?_
  clear T
  rintro e wc ⟨xu6, su6, hxu6, hsu6, rfl, hgr, hbk⟩
  intro ac T
  replace M := M.callC (cs' := [.int .u64 su6]) (.tail (.tail .head)) hgr hbk
  clear hgr hbk
  refine sh_out hK _ _ (MA.mk (fun _ => M.mask [true, true, false] rfl) (MA.mk (fun h => (no_of (by kernel_rfl) h).elim) (M.mask [false, true, false] rfl))) ?_; clear hK K
  refine g_w (i := 19) (by kernel_rfl) rfl (by kernel_rfl : (pbits 39 3489136639).setIfInBounds 19 true = pbits 39 3489660927) rfl ?_; intro K hK
  refine ow_call (first := []) (cap := []) T rfl rfl rfl rfl evf (.cons (T.ev 20 rfl) (.cons (T.ev 17 rfl) (.cons (T.ev 0 rfl) .nil))) Try.func42 rfl rfl ?_
  refine Calls.mono (narrow_any _ bpu1 ju2.t0 ju2.t1 xu6 _ (by omega) (by omega) (by omega) (by omega) (M.nth 2 rfl) hsu6) ?_
  clear T
  rintro e wc ⟨xu7, yu7, su7, hxu7, hsu7, rfl, hgr, hbk⟩
  intro ac T
  replace M := M.callC (cs' := [.int .u64 su7]) (.tail (.tail .head)) hgr hbk
  clear hgr hbk
  refine sh_out hK _ _ (MA.mk (fun _ => M.mask [true, true, false] rfl) (MA.mk (fun h => (no_of (by kernel_rfl) h).elim) (M.mask [false, true, false] rfl))) ?_; clear hK K
  refine g_w (i := 28) (by kernel_rfl) rfl (by kernel_rfl : (pbits 39 3489660927).setIfInBounds 28 true = pbits 39 3758096383) rfl ?_; intro K hK
  refine ow_call (first := []) (cap := []) T rfl rfl rfl rfl evf (.cons (T.ev 9 rfl) (.cons (T.ev 6 rfl) .nil)) Try.func43 rfl rfl ?_
  refine Calls.mono (inner_any _ bpu1 ju2.r0 ju2.r1 _ (by omega) (by omega) (by omega) (M.nth 2 rfl) hsu7) ?_
  clear T
  rintro e wc ⟨xu8, su8, hxu8, hsu8, rfl, hgr, hbk⟩
  intro ac T
  replace M := M.callC (cs' := [.int .u64 su8]) (.tail (.tail .head)) hgr hbk
  clear hgr hbk
  refine sh_out hK _ _ (MA.mk (fun _ => M.mask [true, true, false] rfl) (MA.mk (fun h => (no_of (by kernel_rfl) h).elim) (M.mask [false, true, false] rfl))) ?_; clear hK K
  refine g_w (i := 29) (by kernel_rfl) rfl (by kernel_rfl : (pbits 39 3758096383).setIfInBounds 29 true = pbits 39 4294967295) rfl ?_; intro K hK
  refine ow_call (first := []) (cap := []) T rfl rfl rfl rfl evf (.cons (T.ev 14 rfl) (.cons (T.ev 11 rfl) (.cons (T.ev 0 rfl) .nil))) Try.func42 rfl rfl ?_
  refine Calls.mono (narrow_any _ bpu1 ju2.r0 ju2.r1 xu8 _ (by omega) (by omega) (by omega) (by omega) (M.nth 2 rfl) hsu8) ?_
  clear T
  rintro e wc ⟨xu9, yu9, su9, hxu9, hsu9, rfl, hgr, hbk⟩
  intro ac T
  replace M := M.callC (cs' := [.int .u64 su9]) (.tail (.tail .head)) hgr hbk
  clear hgr hbk
  refine sh_out hK _ _ (MA.mk (fun _ => M.mask [true, true, false] rfl) (MA.mk (fun h => (no_of (by kernel_rfl) h).elim) (M.mask [false, true, false] rfl))) ?_; clear hK K
  refine g_w (i := 32) (by kernel_rfl) rfl (by kernel_rfl : (pbits 39 4294967295).setIfInBounds 32 true = pbits 39 8589934591) rfl ?_; intro K hK
  refine ow_stO M T rfl rfl (T.ev 4 rfl) (T.ev 6 rfl) rfl .head rfl (by simp) rfl (by kernel_rfl) ?_; clear M T; intro wc ac M T
  refine sh_out hK _ _ (MA.mk (fun h => (no_of (by kernel_rfl) h).elim) (MA.mk (fun h => (no_of (by kernel_rfl) h).elim) (M.mask [false, true, false] rfl))) ?_; clear hK K
  refine g_q (v := (.pointer (some ⟨g2, 0, none⟩))) (T := T) (i := 33) rfl (by kernel_rfl) (by kernel_rfl : (pbits 39 8589934591).setIfInBounds 33 true = pbits 39 17179869183) (si_and (si_G rfl) (si_and (si_G rfl) si_U)) (fun _ _ _ h => h) rfl rfl rfl rfl (fun _ _ _ _ _ => (rn_fieldAddr (off := 0) rfl (T.ev 32 rfl) (fun _ _ _ => by kernel_rfl))) ?_; clear T ac; intro ac T
  refine g_q (v := (.pointer (some ⟨g2, 2, none⟩))) (T := T) (i := 34) rfl (by kernel_rfl) (by kernel_rfl : (pbits 39 17179869183).setIfInBounds 34 true = pbits 39 34359738367) (si_and (si_G rfl) (si_and (si_G rfl) si_U)) (fun _ _ _ h => h) rfl rfl rfl rfl (fun _ _ _ _ _ => (rn_fieldAddr (off := 2) rfl (T.ev 0 rfl) (fun _ _ _ => by kernel_rfl))) ?_; clear T ac; intro ac T
  refine g_w (i := 35) (by kernel_rfl) rfl (by kernel_rfl : (pbits 39 34359738367).setIfInBounds 35 true = pbits 39 68719476735) rfl ?_; intro K hK
  refine ow_stO M T rfl rfl (T.ev 0 rfl) (T.ev 4 rfl) rfl .head rfl (by simp) rfl (by kernel_rfl) ?_; clear M T; intro wc ac M T
  refine sh_out hK _ _ (MA.mk (fun h => (no_of (by kernel_rfl) h).elim) (MA.mk (fun h => (no_of (by kernel_rfl) h).elim) (M.mask [false, true, false] rfl))) ?_; clear hK K
  refine g_q (v := (.pointer (some ⟨g2, 0, none⟩))) (T := T) (i := 36) rfl (by kernel_rfl) (by kernel_rfl : (pbits 39 68719476735).setIfInBounds 36 true = pbits 39 137438953471) (si_and (si_G rfl) (si_and (si_G rfl) si_U)) (fun _ _ _ h => h) rfl rfl rfl rfl (fun _ _ _ _ _ => (rn_fieldAddr (off := 0) rfl (T.ev 34 rfl) (fun _ _ _ => by kernel_rfl))) ?_; clear T ac; intro ac T
  refine g_q (v := (.pointer (some ⟨g2, 4, none⟩))) (T := T) (i := 37) rfl (by kernel_rfl) (by kernel_rfl : (pbits 39 137438953471).setIfInBounds 37 true = pbits 39 274877906943) (si_and (si_G rfl) (si_and (si_G rfl) si_U)) (fun _ _ _ h => h) rfl rfl rfl rfl (fun _ _ _ _ _ => (rn_fieldAddr (off := 4) rfl (T.ev 0 rfl) (fun _ _ _ => by kernel_rfl))) ?_; clear T ac; intro ac T
  refine g_w (i := 38) (by kernel_rfl) rfl (by kernel_rfl : (pbits 39 274877906943).setIfInBounds 38 true = pbits 39 549755813887) rfl ?_; intro K hK
  refine ow_stO M T rfl rfl (T.ev 0 rfl) (T.ev 4 rfl) rfl .head rfl (by simp) rfl (by kernel_rfl) ?_; clear M T; intro wc ac M T
  refine sh_out hK _ _ (MA.mk (fun h => (no_of (by kernel_rfl) h).elim) (MA.mk (fun h => (no_of (by kernel_rfl) h).elim) (M.mask [false, true, false] rfl))) ?_; clear hK K
  refine g_done (by kernel_rfl) ?_
  replace T := T.pick [36, 37, 38] rfl
  refine nm_then ?_
  refine wp_seq ?_
  refine g_start2 M (M.mask [false, true, false] rfl) 26 (by kernel_rfl) rfl (by kernel_rfl) ?_
  clear M; intro wc M
  refine g_addG 8 M ?_
  refine g_addG 22 (M.mask [true, true, false] rfl) ?_
  refine g_q (T := T) (i := 0) rfl (by kernel_rfl) (by kernel_rfl : (pbits 26 0).setIfInBounds 0 true = pbits 26 1) (si_and (si_G rfl) (si_and (si_G rfl) si_U)) (fun _ _ _ h => h) rfl rfl rfl rfl (fun _ _ _ _ _ => (rn_move rfl (T.ev 2 rfl))) ?_; clear T ac; intro ac T
  refine g_q (v := (.pointer (some ⟨g1, 6, none⟩))) (T := T) (i := 1) rfl (by kernel_rfl) (by kernel_rfl : (pbits 26 1).setIfInBounds 1 true = pbits 26 3) (si_and (si_G rfl) (si_and (si_G rfl) si_U)) (fun _ _ _ h => h) rfl rfl rfl rfl (fun _ _ _ _ _ => (rn_fieldAddr (off := 6) rfl (T.ev 2 rfl) (fun _ _ _ => by kernel_rfl))) ?_; clear T ac; intro ac T
  refine g_q (v := (.pointer (some ⟨g1, 6, none⟩))) (T := T) (i := 2) rfl (by kernel_rfl) (by kernel_rfl : (pbits 26 3).setIfInBounds 2 true = pbits 26 7) (si_and (si_G rfl) (si_and (si_G rfl) si_U)) (fun _ _ _ h => h) rfl rfl rfl rfl (fun _ _ _ _ _ => (rn_fieldAddr (off := 0) rfl (T.ev 0 rfl) (fun _ _ _ => by kernel_rfl))) ?_; clear T ac; intro ac T
  refine g_q (T := T) (i := 3) rfl (by kernel_rfl) (by kernel_rfl : (pbits 26 7).setIfInBounds 3 true = pbits 26 15) (si_and (si_G rfl) (si_and (si_G rfl) si_U)) (fun _ _ _ h => h) rfl rfl rfl rfl (fun B w' hD hl hS => (rn_rowO (Mem.nth (show Mem w noEx w' _ from ((MA.lft hS) (hD.wait (i := 3) (m := 22) (by kernel_rfl) hl))) 1 rfl) rfl (T.ev 0 rfl) rfl)) ?_; clear T ac; intro ac T
  refine g_q (T := T) (i := 4) rfl (by kernel_rfl) (by kernel_rfl : (pbits 26 15).setIfInBounds 4 true = pbits 26 31) (si_and (si_G rfl) (si_and (si_G rfl) si_U)) (fun _ _ _ h => h) rfl rfl rfl rfl (fun _ _ _ _ _ => (rn_move rfl (T.ev 6 rfl))) ?_; clear T ac; intro ac T
  refine g_q (v := (.pointer (some ⟨g1, 6, none⟩))) (T := T) (i := 5) rfl (by kernel_rfl) (by kernel_rfl : (pbits 26 31).setIfInBounds 5 true = pbits 26 63) (si_and (si_G rfl) (si_and (si_G rfl) si_U)) (fun _ _ _ h => h) rfl rfl rfl rfl (fun _ _ _ _ _ => (rn_fieldAddr (off := 6) rfl (T.ev 6 rfl) (fun _ _ _ => by kernel_rfl))) ?_; clear T ac; intro ac T
  refine g_q (v := (.pointer (some ⟨g1, 6, none⟩))) (T := T) (i := 6) rfl (by kernel_rfl) (by kernel_rfl : (pbits 26 63).setIfInBounds 6 true = pbits 26 127) (si_and (si_G rfl) (si_and (si_G rfl) si_U)) (fun _ _ _ h => h) rfl rfl rfl rfl (fun _ _ _ _ _ => (rn_fieldAddr (off := 0) rfl (T.ev 0 rfl) (fun _ _ _ => by kernel_rfl))) ?_; clear T ac; intro ac T
  refine g_q (T := T) (i := 7) rfl (by kernel_rfl) (by kernel_rfl : (pbits 26 127).setIfInBounds 7 true = pbits 26 255) (si_and (si_G rfl) (si_and (si_G rfl) si_U)) (fun _ _ _ h => h) rfl rfl rfl rfl (fun B w' hD hl hS => (rn_rowO (Mem.nth (show Mem w noEx w' _ from ((MA.lft hS) (hD.wait (i := 7) (m := 22) (by kernel_rfl) hl))) 1 rfl) rfl (T.ev 0 rfl) rfl)) ?_; clear T ac; intro ac T
  refine g_q (T := T) (i := 10) rfl (by kernel_rfl) (by kernel_rfl : (pbits 26 255).setIfInBounds 10 true = pbits 26 1279) (si_and (si_G rfl) (si_and (si_G rfl) si_U)) (fun _ _ _ h => h) rfl rfl rfl rfl (fun _ _ _ _ _ => (rn_move rfl (T.ev 10 rfl))) ?_; clear T ac; intro ac T
  refine g_q (v := (.pointer (some ⟨g1, 6, none⟩))) (T := T) (i := 11) rfl (by kernel_rfl) (by kernel_rfl : (pbits 26 1279).setIfInBounds 11 true = pbits 26 3327) (si_and (si_G rfl) (si_and (si_G rfl) si_U)) (fun _ _ _ h => h) rfl rfl rfl rfl (fun _ _ _ _ _ => (rn_fieldAddr (off := 6) rfl (T.ev 10 rfl) (fun _ _ _ => by kernel_rfl))) ?_; clear T ac; intro ac T
  refine g_q (v := (.pointer (some ⟨g1, 8, none⟩))) (T := T) (i := 12) rfl (by kernel_rfl) (by kernel_rfl : (pbits 26 3327).setIfInBounds 12 true = pbits 26 7423) (si_and (si_G rfl) (si_and (si_G rfl) si_U)) (fun _ _ _ h => h) rfl rfl rfl rfl (fun _ _ _ _ _ => (rn_fieldAddr (off := 2) rfl (T.ev 0 rfl) (fun _ _ _ => by kernel_rfl))) ?_; clear T ac; intro ac T
  refine g_q (T := T) (i := 13) rfl (by kernel_rfl) (by kernel_rfl : (pbits 26 7423).setIfInBounds 13 true = pbits 26 15615) (si_and (si_G rfl) (si_and (si_G rfl) si_U)) (fun _ _ _ h => h) rfl rfl rfl rfl (fun B w' hD hl hS => (rn_rowO (Mem.nth (show Mem w noEx w' _ from ((MA.lft hS) (hD.wait (i := 19) (m := 22) (by kernel_rfl) (hD.wait (i := 13) (m := 19) (by kernel_rfl) hl)))) 1 rfl) rfl (T.ev 0 rfl) rfl)) ?_; clear T ac; intro ac T
  refine g_q (T := T) (i := 14) rfl (by kernel_rfl) (by kernel_rfl : (pbits 26 15615).setIfInBounds 14 true = pbits 26 31999) (si_and (si_G rfl) (si_and (si_G rfl) si_U)) (fun _ _ _ h => h) rfl rfl rfl rfl (fun _ _ _ _ _ => (rn_move rfl (T.ev 14 rfl))) ?_; clear T ac; intro ac T
  refine g_q (v := (.pointer (some ⟨g1, 6, none⟩))) (T := T) (i := 15) rfl (by kernel_rfl) (by kernel_rfl : (pbits 26 31999).setIfInBounds 15 true = pbits 26 64767) (si_and (si_G rfl) (si_and (si_G rfl) si_U)) (fun _ _ _ h => h) rfl rfl rfl rfl (fun _ _ _ _ _ => (rn_fieldAddr (off := 6) rfl (T.ev 14 rfl) (fun _ _ _ => by kernel_rfl))) ?_; clear T ac; intro ac T
  refine g_q (v := (.pointer (some ⟨g1, 8, none⟩))) (T := T) (i := 16) rfl (by kernel_rfl) (by kernel_rfl : (pbits 26 64767).setIfInBounds 16 true = pbits 26 130303) (si_and (si_G rfl) (si_and (si_G rfl) si_U)) (fun _ _ _ h => h) rfl rfl rfl rfl (fun _ _ _ _ _ => (rn_fieldAddr (off := 2) rfl (T.ev 0 rfl) (fun _ _ _ => by kernel_rfl))) ?_; clear T ac; intro ac T
  refine g_q (T := T) (i := 17) rfl (by kernel_rfl) (by kernel_rfl : (pbits 26 130303).setIfInBounds 17 true = pbits 26 261375) (si_and (si_G rfl) (si_and (si_G rfl) si_U)) (fun _ _ _ h => h) rfl rfl rfl rfl (fun B w' hD hl hS => (rn_rowO (Mem.nth (show Mem w noEx w' _ from ((MA.lft hS) (hD.wait (i := 19) (m := 22) (by kernel_rfl) (hD.wait (i := 18) (m := 19) (by kernel_rfl) (hD.wait (i := 17) (m := 18) (by kernel_rfl) hl))))) 1 rfl) rfl (T.ev 0 rfl) rfl)) ?_; clear T ac; intro ac T
  refine g_w (i := 8) (by kernel_rfl) rfl (by kernel_rfl : (pbits 26 261375).setIfInBounds 8 true = pbits 26 261631) rfl ?_; intro K hK
  refine ow_call (first := []) (cap := []) T rfl rfl rfl rfl evf (.cons (T.ev 11 rfl) (.cons (T.ev 8 rfl) .nil)) Try.func43 rfl rfl ?_
  refine Calls.mono (inner_any _ bpu1 ju2.u0 ju2.u1 _ (by omega) (by omega) (by omega) (M.nth 2 rfl) hsu9) ?_
  clear T
  rintro e wc ⟨xu10, su10, hxu10, hsu10, rfl, hgr, hbk⟩
  intro ac T
  replace M := M.callC (cs' := [.int .u64 su10]) (.tail (.tail .head)) hgr hbk
  clear hgr hbk
  refine sh_out hK _ _ (MA.mk (fun _ => M.mask [true, true, false] rfl) (MA.mk (fun h => (no_of (by kernel_rfl) h).elim) (M.mask [false, true, false] rfl))) ?_; clear hK K
  refine g_w (i := 9) (by kernel_rfl) rfl (by kernel_rfl : (pbits 26 261631).setIfInBounds 9 true = pbits 26 262143) rfl ?_; intro K hK
  refine ow_call (first := []) (cap := []) T rfl rfl rfl rfl evf (.cons (T.ev 16 rfl) (.cons (T.ev 13 rfl) (.cons (T.ev 0 rfl) .nil))) Try.func42 rfl rfl ?_
  refine Calls.mono (narrow_any _ bpu1 ju2.u0 ju2.u1 xu10 _ (by omega) (by omega) (by omega) (by omega) (M.nth 2 rfl) hsu10) ?_
  clear T
  rintro e wc ⟨xu11, yu11, su11, hxu11, hsu11, rfl, hgr, hbk⟩
  intro ac T
  replace M := M.callC (cs' := [.int .u64 su11]) (.tail (.tail .head)) hgr hbk
  clear hgr hbk
  refine sh_out hK _ _ (MA.mk (fun _ => M.mask [true, true, false] rfl) (MA.mk (fun h => (no_of (by kernel_rfl) h).elim) (M.mask [false, true, false] rfl))) ?_; clear hK K
  refine g_q (v := (.pointer (some ⟨g2, 6, none⟩))) (T := T) (i := 20) rfl (by kernel_rfl) (by kernel_rfl : (pbits 26 262143).setIfInBounds 20 true = pbits 26 1310719) (si_and (si_G rfl) (si_and (si_G rfl) si_U)) (fun _ _ _ h => h) rfl rfl rfl rfl (fun _ _ _ _ _ => (rn_fieldAddr (off := 6) rfl (T.ev 18 rfl) (fun _ _ _ => by kernel_rfl))) ?_; clear T ac; intro ac T
  refine g_q (v := (.pointer (some ⟨g2, 6, none⟩))) (T := T) (i := 21) rfl (by kernel_rfl) (by kernel_rfl : (pbits 26 1310719).setIfInBounds 21 true = pbits 26 3407871) (si_and (si_G rfl) (si_and (si_G rfl) si_U)) (fun _ _ _ h => h) rfl rfl rfl rfl (fun _ _ _ _ _ => (rn_fieldAddr (off := 0) rfl (T.ev 0 rfl) (fun _ _ _ => by kernel_rfl))) ?_; clear T ac; intro ac T
  refine g_w (i := 18) (by kernel_rfl) rfl (by kernel_rfl : (pbits 26 3407871).setIfInBounds 18 true = pbits 26 3670015) rfl ?_; intro K hK
  refine ow_call (first := []) (cap := []) T rfl rfl rfl rfl evf (.cons (T.ev 7 rfl) (.cons (T.ev 4 rfl) .nil)) Try.func43 rfl rfl ?_
  refine Calls.mono (inner_any _ bpu1 ju2.d0 ju2.d1 _ (by omega) (by omega) (by omega) (M.nth 2 rfl) hsu11) ?_
  clear T
  rintro e wc ⟨xu12, su12, hxu12, hsu12, rfl, hgr, hbk⟩
  intro ac T
  replace M := M.callC (cs' := [.int .u64 su12]) (.tail (.tail .head)) hgr hbk
  clear hgr hbk
  refine sh_out hK _ _ (MA.mk (fun _ => M.mask [true, true, false] rfl) (MA.mk (fun h => (no_of (by kernel_rfl) h).elim) (M.mask [false, true, false] rfl))) ?_; clear hK K
  refine g_w (i := 19) (by kernel_rfl) rfl (by kernel_rfl : (pbits 26 3670015).setIfInBounds 19 true = pbits 26 4194303) rfl ?_; intro K hK
  refine ow_call (first := []) (cap := []) T rfl rfl rfl rfl evf (.cons (T.ev 12 rfl) (.cons (T.ev 9 rfl) (.cons (T.ev 0 rfl) .nil))) Try.func42 rfl rfl ?_
  refine Calls.mono (narrow_any _ bpu1 ju2.d0 ju2.d1 xu12 _ (by omega) (by omega) (by omega) (by omega) (M.nth 2 rfl) hsu12) ?_
  clear T
  rintro e wc ⟨xu13, yu13, su13, hxu13, hsu13, rfl, hgr, hbk⟩
  intro ac T
  replace M := M.callC (cs' := [.int .u64 su13]) (.tail (.tail .head)) hgr hbk
  clear hgr hbk
  refine sh_out hK _ _ (MA.mk (fun _ => M.mask [true, true, false] rfl) (MA.mk (fun h => (no_of (by kernel_rfl) h).elim) (M.mask [false, true, false] rfl))) ?_; clear hK K
  refine g_w (i := 22) (by kernel_rfl) rfl (by kernel_rfl : (pbits 26 4194303).setIfInBounds 22 true = pbits 26 8388607) rfl ?_; intro K hK
  refine ow_stO M T rfl rfl (T.ev 2 rfl) (T.ev 4 rfl) rfl .head rfl (by simp) rfl (by kernel_rfl) ?_; clear M T; intro wc ac M T
  refine sh_out hK _ _ (MA.mk (fun h => (no_of (by kernel_rfl) h).elim) (MA.mk (fun h => (no_of (by kernel_rfl) h).elim) (M.mask [false, true, false] rfl))) ?_; clear hK K
  refine g_q (v := (.pointer (some ⟨g2, 6, none⟩))) (T := T) (i := 23) rfl (by kernel_rfl) (by kernel_rfl : (pbits 26 8388607).setIfInBounds 23 true = pbits 26 16777215) (si_and (si_G rfl) (si_and (si_G rfl) si_U)) (fun _ _ _ h => h) rfl rfl rfl rfl (fun _ _ _ _ _ => (rn_fieldAddr (off := 6) rfl (T.ev 22 rfl) (fun _ _ _ => by kernel_rfl))) ?_; clear T ac; intro ac T
  refine g_q (v := (.pointer (some ⟨g2, 8, none⟩))) (T := T) (i := 24) rfl (by kernel_rfl) (by kernel_rfl : (pbits 26 16777215).setIfInBounds 24 true = pbits 26 33554431) (si_and (si_G rfl) (si_and (si_G rfl) si_U)) (fun _ _ _ h => h) rfl rfl rfl rfl (fun _ _ _ _ _ => (rn_fieldAddr (off := 2) rfl (T.ev 0 rfl) (fun _ _ _ => by kernel_rfl))) ?_; clear T ac; intro ac T
  refine g_w (i := 25) (by kernel_rfl) rfl (by kernel_rfl : (pbits 26 33554431).setIfInBounds 25 true = pbits 26 67108863) rfl ?_; intro K hK
  refine ow_stO M T rfl rfl (T.ev 0 rfl) (T.ev 2 rfl) rfl .head rfl (by simp) rfl (by kernel_rfl) ?_; clear M T; intro wc ac M T
  refine sh_out hK _ _ (MA.mk (fun h => (no_of (by kernel_rfl) h).elim) (MA.mk (fun h => (no_of (by kernel_rfl) h).elim) (M.mask [false, true, false] rfl))) ?_; clear hK K
  refine g_done (by kernel_rfl) ?_
  replace T := T.pick [24, 25, 26] rfl
  refine nm_then ?_
  refine wp_seq ?_
  refine g_start2 M (M.mask [false, true, false] rfl) 26 (by kernel_rfl) rfl (by kernel_rfl) ?_
  clear M; intro wc M
  refine g_addG 8 M ?_
  refine g_addG 22 (M.mask [true, true, false] rfl) ?_
  refine g_q (T := T) (i := 0) rfl (by kernel_rfl) (by kernel_rfl : (pbits 26 0).setIfInBounds 0 true = pbits 26 1) (si_and (si_G rfl) (si_and (si_G rfl) si_U)) (fun _ _ _ h => h) rfl rfl rfl rfl (fun _ _ _ _ _ => (rn_move rfl (T.ev 2 rfl))) ?_; clear T ac; intro ac T
  refine g_q (v := (.pointer (some ⟨g1, 6, none⟩))) (T := T) (i := 1) rfl (by kernel_rfl) (by kernel_rfl : (pbits 26 1).setIfInBounds 1 true = pbits 26 3) (si_and (si_G rfl) (si_and (si_G rfl) si_U)) (fun _ _ _ h => h) rfl rfl rfl rfl (fun _ _ _ _ _ => (rn_fieldAddr (off := 6) rfl (T.ev 2 rfl) (fun _ _ _ => by kernel_rfl))) ?_; clear T ac; intro ac T
  refine g_q (v := (.pointer (some ⟨g1, 10, none⟩))) (T := T) (i := 2) rfl (by kernel_rfl) (by kernel_rfl : (pbits 26 3).setIfInBounds 2 true = pbits 26 7) (si_and (si_G rfl) (si_and (si_G rfl) si_U)) (fun _ _ _ h => h) rfl rfl rfl rfl (fun _ _ _ _ _ => (rn_fieldAddr (off := 4) rfl (T.ev 0 rfl) (fun _ _ _ => by kernel_rfl))) ?_; clear T ac; intro ac T
  refine g_q (T := T) (i := 3) rfl (by kernel_rfl) (by kernel_rfl : (pbits 26 7).setIfInBounds 3 true = pbits 26 15) (si_and (si_G rfl) (si_and (si_G rfl) si_U)) (fun _ _ _ h => h) rfl rfl rfl rfl (fun B w' hD hl hS => (rn_rowO (Mem.nth (show Mem w noEx w' _ from ((MA.lft hS) (hD.wait (i := 3) (m := 22) (by kernel_rfl) hl))) 1 rfl) rfl (T.ev 0 rfl) rfl)) ?_; clear T ac; intro ac T
  refine g_q (T := T) (i := 4) rfl (by kernel_rfl) (by kernel_rfl : (pbits 26 15).setIfInBounds 4 true = pbits 26 31) (si_and (si_G rfl) (si_and (si_G rfl) si_U)) (fun _ _ _ h => h) rfl rfl rfl rfl (fun _ _ _ _ _ => (rn_move rfl (T.ev 6 rfl))) ?_; clear T ac; intro ac T
  refine g_q (v := (.pointer (some ⟨g1, 6, none⟩))) (T := T) (i := 5) rfl (by kernel_rfl) (by kernel_rfl : (pbits 26 31).setIfInBounds 5 true = pbits 26 63) (si_and (si_G rfl) (si_and (si_G rfl) si_U)) (fun _ _ _ h => h) rfl rfl rfl rfl (fun _ _ _ _ _ => (rn_fieldAddr (off := 6) rfl (T.ev 6 rfl) (fun _ _ _ => by kernel_rfl))) ?_; clear T ac; intro ac T
  refine g_q (v := (.pointer (some ⟨g1, 10, none⟩))) (T := T) (i := 6) rfl (by kernel_rfl) (by kernel_rfl : (pbits 26 63).setIfInBounds 6 true = pbits 26 127) (si_and (si_G rfl) (si_and (si_G rfl) si_U)) (fun _ _ _ h => h) rfl rfl rfl rfl (fun _ _ _ _ _ => (rn_fieldAddr (off := 4) rfl (T.ev 0 rfl) (fun _ _ _ => by kernel_rfl))) ?_; clear T ac; intro ac T
  refine g_q (T := T) (i := 7) rfl (by kernel_rfl) (by kernel_rfl : (pbits 26 127).setIfInBounds 7 true = pbits 26 255) (si_and (si_G rfl) (si_and (si_G rfl) si_U)) (fun _ _ _ h => h) rfl rfl rfl rfl (fun B w' hD hl hS => (rn_rowO (Mem.nth (show Mem w noEx w' _ from ((MA.lft hS) (hD.wait (i := 7) (m := 22) (by kernel_rfl) hl))) 1 rfl) rfl (T.ev 0 rfl) rfl)) ?_; clear T ac; intro ac T
  refine g_q (T := T) (i := 10) rfl (by kernel_rfl) (by kernel_rfl : (pbits 26 255).setIfInBounds 10 true = pbits 26 1279) (si_and (si_G rfl) (si_and (si_G rfl) si_U)) (fun _ _ _ h => h) rfl rfl rfl rfl (fun _ _ _ _ _ => (rn_move rfl (T.ev 10 rfl))) ?_; clear T ac; intro ac T
  refine g_q (v := (.pointer (some ⟨g1, 6, none⟩))) (T := T) (i := 11) rfl (by kernel_rfl) (by kernel_rfl : (pbits 26 1279).setIfInBounds 11 true = pbits 26 3327) (si_and (si_G rfl) (si_and (si_G rfl) si_U)) (fun _ _ _ h => h) rfl rfl rfl rfl (fun _ _ _ _ _ => (rn_fieldAddr (off := 6) rfl (T.ev 10 rfl) (fun _ _ _ => by kernel_rfl))) ?_; clear T ac; intro ac T
  refine g_q (v := (.pointer (some ⟨g1, 12, none⟩))) (T := T) (i := 12) rfl (by kernel_rfl) (by kernel_rfl : (pbits 26 3327).setIfInBounds 12 true = pbits 26 7423) (si_and (si_G rfl) (si_and (si_G rfl) si_U)) (fun _ _ _ h => h) rfl rfl rfl rfl (fun _ _ _ _ _ => (rn_fieldAddr (off := 6) rfl (T.ev 0 rfl) (fun _ _ _ => by kernel_rfl))) ?_; clear T ac; intro ac T
  refine g_q (T := T) (i := 13) rfl (by kernel_rfl) (by kernel_rfl : (pbits 26 7423).setIfInBounds 13 true = pbits 26 15615) (si_and (si_G rfl) (si_and (si_G rfl) si_U)) (fun _ _ _ h => h) rfl rfl rfl rfl (fun B w' hD hl hS => (rn_rowO (Mem.nth (show Mem w noEx w' _ from ((MA.lft hS) (hD.wait (i := 19) (m := 22) (by kernel_rfl) (hD.wait (i := 13) (m := 19) (by kernel_rfl) hl)))) 1 rfl) rfl (T.ev 0 rfl) rfl)) ?_; clear T ac; intro ac T
  refine g_q (T := T) (i := 14) rfl (by kernel_rfl) (by kernel_rfl : (pbits 26 15615).setIfInBounds 14 true = pbits 26 31999) (si_and (si_G rfl) (si_and (si_G rfl) si_U)) (fun _ _ _ h => h) rfl rfl rfl rfl (fun _ _ _ _ _ => (rn_move rfl (T.ev 14 rfl))) ?_; clear T ac; intro ac T
  refine g_q (v := (.pointer (some ⟨g1, 6, none⟩))) (T := T) (i := 15) rfl (by kernel_rfl) (by kernel_rfl : (pbits 26 31999).setIfInBounds 15 true = pbits 26 64767) (si_and (si_G rfl) (si_and (si_G rfl) si_U)) (fun _ _ _ h => h) rfl rfl rfl rfl (fun _ _ _ _ _ => (rn_fieldAddr (off := 6) rfl (T.ev 14 rfl) (fun _ _ _ => by kernel_rfl))) ?_; clear T ac; intro ac T
  refine g_q (v := (.pointer (some ⟨g1, 12, none⟩))) (T := T) (i := 16) rfl (by kernel_rfl) (by kernel_rfl : (pbits 26 64767).setIfInBounds 16 true = pbits 26 130303) (si_and (si_G rfl) (si_and (si_G rfl) si_U)) (fun _ _ _ h => h) rfl rfl rfl rfl (fun _ _ _ _ _ => (rn_fieldAddr (off := 6) rfl (T.ev 0 rfl) (fun _ _ _ => by kernel_rfl))) ?_; clear T ac; intro ac T
  refine g_q (T := T) (i := 17) rfl (by kernel_rfl) (by kernel_rfl : (pbits 26 130303).setIfInBounds 17 true = pbits 26 261375) (si_and (si_G rfl) (si_and (si_G rfl) si_U)) (fun _ _ _ h => h) rfl rfl rfl rfl (fun B w' hD hl hS => (rn_rowO (Mem.nth (show Mem w noEx w' _ from ((MA.lft hS) (hD.wait (i := 19) (m := 22) (by kernel_rfl) (hD.wait (i := 18) (m := 19) (by kernel_rfl) (hD.wait (i := 17) (m := 18) (by kernel_rfl) hl))))) 1 rfl) rfl (T.ev 0 rfl) rfl)) ?_; clear T ac; intro ac T
  refine g_w (i := 8) (by kernel_rfl) rfl (by kernel_rfl : (pbits 26 261375).setIfInBounds 8 true = pbits 26 261631) rfl ?_; intro K hK
  refine ow_call (first := []) (cap := []) T rfl rfl rfl rfl evf (.cons (T.ev 11 rfl) (.cons (T.ev 8 rfl) .nil)) Try.func43 rfl rfl ?_
  refine Calls.mono (inner_any _ bpu1 ju2.a0 ju2.a1 _ (by omega) (by omega) (by omega) (M.nth 2 rfl) hsu13) ?_
  clear T
  rintro e wc ⟨xu14, su14, hxu14, hsu14, rfl, hgr, hbk⟩
  intro ac T
  replace M := M.callC (cs' := [.int .u64 su14]) (.tail (.tail .head)) hgr hbk
  clear hgr hbk
  refine sh_out hK _ _ (MA.mk (fun _ => M.mask [true, true, false] rfl) (MA.mk (fun h => (no_of (by kernel_rfl) h).elim) (M.mask [false, true, false] rfl))) ?_; clear hK K
  refine g_w (i := 9) (by kernel_rfl) rfl (by kernel_rfl : (pbits 26 261631).setIfInBounds 9 true = pbits 26 262143) rfl ?_; intro K hK
  refine ow_call (first := []) (cap := []) T rfl rfl rfl rfl evf (.cons (T.ev 16 rfl) (.cons (T.ev 13 rfl) (.cons (T.ev 0 rfl) .nil))) Try.func42 rfl rfl ?_
  refine Calls.mono (narrow_any _ bpu1 ju2.a0 ju2.a1 xu14 _ (by omega) (by omega) (by omega) (by omega) (M.nth 2 rfl) hsu14) ?_
  clear T
  rintro e wc ⟨xu15, yu15, su15, hxu15, hsu15, rfl, hgr, hbk⟩
  intro ac T
  replace M := M.callC (cs' := [.int .u64 su15]) (.tail (.tail .head)) hgr hbk
  clear hgr hbk
  refine sh_out hK _ _ (MA.mk (fun _ => M.mask [true, true, false] rfl) (MA.mk (fun h => (no_of (by kernel_rfl) h).elim) (M.mask [false, true, false] rfl))) ?_; clear hK K
  refine g_q (v := (.pointer (some ⟨g2, 6, none⟩))) (T := T) (i := 20) rfl (by kernel_rfl) (by kernel_rfl : (pbits 26 262143).setIfInBounds 20 true = pbits 26 1310719) (si_and (si_G rfl) (si_and (si_G rfl) si_U)) (fun _ _ _ h => h) rfl rfl rfl rfl (fun _ _ _ _ _ => (rn_fieldAddr (off := 6) rfl (T.ev 18 rfl) (fun _ _ _ => by kernel_rfl))) ?_; clear T ac; intro ac T
  refine g_q (v := (.pointer (some ⟨g2, 10, none⟩))) (T := T) (i := 21) rfl (by kernel_rfl) (by kernel_rfl : (pbits 26 1310719).setIfInBounds 21 true = pbits 26 3407871) (si_and (si_G rfl) (si_and (si_G rfl) si_U)) (fun _ _ _ h => h) rfl rfl rfl rfl (fun _ _ _ _ _ => (rn_fieldAddr (off := 4) rfl (T.ev 0 rfl) (fun _ _ _ => by kernel_rfl))) ?_; clear T ac; intro ac T
  refine g_w (i := 18) (by kernel_rfl) rfl (by kernel_rfl : (pbits 26 3407871).setIfInBounds 18 true = pbits 26 3670015) rfl ?_; intro K hK
  refine ow_call (first := []) (cap := []) T rfl rfl rfl rfl evf (.cons (T.ev 7 rfl) (.cons (T.ev 4 rfl) .nil)) Try.func43 rfl rfl ?_
  refine Calls.mono (inner_any _ bpu1 ju2.b0 ju2.b1 _ (by omega) (by omega) (by omega) (M.nth 2 rfl) hsu15) ?_
  clear T
  rintro e wc ⟨xu16, su16, hxu16, hsu16, rfl, hgr, hbk⟩
  intro ac T
  replace M := M.callC (cs' := [.int .u64 su16]) (.tail (.tail .head)) hgr hbk
  clear hgr hbk
  refine sh_out hK _ _ (MA.mk (fun _ => M.mask [true, true, false] rfl) (MA.mk (fun h => (no_of (by kernel_rfl) h).elim) (M.mask [false, true, false] rfl))) ?_; clear hK K
  refine g_w (i := 19) (by kernel_rfl) rfl (by kernel_rfl : (pbits 26 3670015).setIfInBounds 19 true = pbits 26 4194303) rfl ?_; intro K hK
  refine ow_call (first := []) (cap := []) T rfl rfl rfl rfl evf (.cons (T.ev 12 rfl) (.cons (T.ev 9 rfl) (.cons (T.ev 0 rfl) .nil))) Try.func42 rfl rfl ?_
  refine Calls.mono (narrow_any _ bpu1 ju2.b0 ju2.b1 xu16 _ (by omega) (by omega) (by omega) (by omega) (M.nth 2 rfl) hsu16) ?_
  clear T
  rintro e wc ⟨xu17, yu17, su17, hxu17, hsu17, rfl, hgr, hbk⟩
  intro ac T
  replace M := M.callC (cs' := [.int .u64 su17]) (.tail (.tail .head)) hgr hbk
  clear hgr hbk
  refine sh_out hK _ _ (MA.mk (fun _ => M.mask [true, true, false] rfl) (MA.mk (fun h => (no_of (by kernel_rfl) h).elim) (M.mask [false, true, false] rfl))) ?_; clear hK K
  refine g_w (i := 22) (by kernel_rfl) rfl (by kernel_rfl : (pbits 26 4194303).setIfInBounds 22 true = pbits 26 8388607) rfl ?_; intro K hK
  refine ow_stO M T rfl rfl (T.ev 2 rfl) (T.ev 4 rfl) rfl .head rfl (by simp) rfl (by kernel_rfl) ?_; clear M T; intro wc ac M T
  refine sh_out hK _ _ (MA.mk (fun h => (no_of (by kernel_rfl) h).elim) (MA.mk (fun h => (no_of (by kernel_rfl) h).elim) (M.mask [false, true, false] rfl))) ?_; clear hK K
  refine g_q (v := (.pointer (some ⟨g2, 6, none⟩))) (T := T) (i := 23) rfl (by kernel_rfl) (by kernel_rfl : (pbits 26 8388607).setIfInBounds 23 true = pbits 26 16777215) (si_and (si_G rfl) (si_and (si_G rfl) si_U)) (fun _ _ _ h => h) rfl rfl rfl rfl (fun _ _ _ _ _ => (rn_fieldAddr (off := 6) rfl (T.ev 22 rfl) (fun _ _ _ => by kernel_rfl))) ?_; clear T ac; intro ac T
  refine g_q (v := (.pointer (some ⟨g2, 12, none⟩))) (T := T) (i := 24) rfl (by kernel_rfl) (by kernel_rfl : (pbits 26 16777215).setIfInBounds 24 true = pbits 26 33554431) (si_and (si_G rfl) (si_and (si_G rfl) si_U)) (fun _ _ _ h => h) rfl rfl rfl rfl (fun _ _ _ _ _ => (rn_fieldAddr (off := 6) rfl (T.ev 0 rfl) (fun _ _ _ => by kernel_rfl))) ?_; clear T ac; intro ac T
  refine g_w (i := 25) (by kernel_rfl) rfl (by kernel_rfl : (pbits 26 33554431).setIfInBounds 25 true = pbits 26 67108863) rfl ?_; intro K hK
  refine ow_stO M T rfl rfl (T.ev 0 rfl) (T.ev 2 rfl) rfl .head rfl (by simp) rfl (by kernel_rfl) ?_; clear M T; intro wc ac M T
  refine sh_out hK _ _ (MA.mk (fun h => (no_of (by kernel_rfl) h).elim) (MA.mk (fun h => (no_of (by kernel_rfl) h).elim) (M.mask [false, true, false] rfl))) ?_; clear hK K
  refine g_done (by kernel_rfl) ?_
  replace T := T.pick [24, 25, 26] rfl
  refine nm_then ?_
  refine wp_seq ?_
  refine wp_seq ?_
  refine wp_region_lit ?_
  refine l_q T rfl rfl rfl rfl (rn_assign rfl evc) ?_; clear T ac; intro ac T
  refine wpList_nil ?_
  refine nm_then ?_
  refine wp_block ?_
  refine wp_loop_n (fun mz ac wc => ∃ (k : Nat) (lx : List (Int × Int)) (s : Int) (Ix : List (Nat × BA)), mz = ju2.sh.length - k ∧ (k ≤ ju2.sh.length) ∧ (NarL lx ju2.sh) ∧ (lx.length = ju2.sh.length) ∧ (u64ok s) ∧ (Sw 2 Au3 ju2.sh.length bu3 (rc lx) Ix) ∧ Tm ac 263 [(3, .pointer (some ⟨bpu1, 0, none⟩)), (4, .pointer (some ⟨g1, 0, none⟩)), (5, .pointer (some ⟨g2, 0, none⟩)), (6, .int .i64 (k : Int))] ∧ Mem w noEx wc ((g2, .cells [.int .i64 xu5, .int .i64 yu5, .int .i64 xu7, .int .i64 yu7, .int .i64 xu9, .int .i64 yu9, .int .i64 xu11, .int .i64 yu11, .int .i64 xu13, .int .i64 yu13, .int .i64 xu15, .int .i64 yu15, .int .i64 xu17, .int .i64 yu17, .int .i64 ju2.le, .slice Au3 ju2.sh.length cu3, .int .i64 ju2.wi, .int .i64 ju2.me]) :: (g1, .cells (jobL ju2 Au2 cu2)) :: (bpu1, .cells [.int .u64 s]) :: (Iu2 ++ Ix))) ?_ ?_
  · exact ⟨_, 0, ju2.sh, _, Ju3, rfl, (by omega), (fun i y hy => ⟨y, hy, Int.le_refl _, (hgu2.sh _ (List.mem_of_getElem? hy)).2.1, Int.le_refl _⟩), rfl, hsu17, hswu3, T.pick [3, 2, 1, 0] rfl, M.mask [true, true, true] rfl⟩
  · clear T M
    rintro mz ac wc ⟨k, lx, s, Ix, hmm1, hk, hlx, hll, hs, hsw, T, M⟩
    have Sx := hsw.sp (w := w) (ex := noEx)
    refine wp_seq ?_
    refine wp_seq ?_
    refine wp_region_lit ?_
    refine l_q T rfl rfl rfl rfl (rn_move rfl (T.ev 3 rfl)) ?_; clear T ac; intro ac T
    refine l_q (v := (.pointer (some ⟨g2, 15, none⟩))) T rfl rfl rfl rfl (rn_fieldAddr (off := 15) rfl (T.ev 3 rfl) (fun _ _ _ => by kernel_rfl)) ?_; clear T ac; intro ac T
    refine l_q T rfl rfl rfl rfl (rn_one (Mem.nth M 0 rfl) rfl (T.ev 0 rfl) rfl) ?_; clear T ac; intro ac T
    refine l_q T rfl rfl rfl rfl (rn_lenS rfl Try.underlying28 (T.ev 0 rfl)) ?_; clear T ac; intro ac T
    refine l_q T rfl rfl rfl rfl (rn_lss rfl (T.ev 3 rfl) (T.ev 0 rfl)) ?_; clear T ac; intro ac T
    refine wpList_nil ?_
    replace T := T.pick [0, 5, 6, 7, 8] rfl
    refine nm_then ?_
    refine wp_if (T.ev 0 rfl) ?_ ?_
    · intro h1
      obtain ⟨x0, x1, hk1, hd⟩ := rc_next (l := lx) (k := k) (by omega)
      obtain ⟨q9, hq9, hx1, hx2, hx3⟩ := hlx k _ hk1
      have hbx := hgu2.sh _ (List.mem_of_getElem? hq9)
      dsimp only at hx1 hx2 hx3
      refine wp_skip ?_
      refine nm_then ?_
      refine wp_seq ?_
      refine wp_block ?_
      refine g_start2 M (M.perm [] rfl rfl) 19 (by kernel_rfl) rfl (by kernel_rfl) ?_
      clear M; intro wc M
      refine g_addG 15 M ?_
      refine g_addG 18 (M.mask [true, true, false] rfl) ?_
      refine g_q (v := (.pointer (some ⟨g2, 15, none⟩))) (T := T) (i := 0) rfl (by kernel_rfl) (by kernel_rfl : (pbits 19 0).setIfInBounds 0 true = pbits 19 1) (si_and (si_G rfl) (si_and (si_G rfl) si_U)) (fun _ _ _ h => h) rfl rfl rfl rfl (fun _ _ _ _ _ => (rn_fieldAddr (off := 15) rfl (T.ev 3 rfl) (fun _ _ _ => by kernel_rfl))) ?_; clear T ac; intro ac T
      refine g_q (T := T) (i := 1) rfl (by kernel_rfl) (by kernel_rfl : (pbits 19 1).setIfInBounds 1 true = pbits 19 3) (si_and (si_G rfl) (si_and (si_G rfl) si_U)) (fun _ _ _ h => h) rfl rfl rfl rfl (fun B w' hD hl hS => (rn_one (Mem.nth (show Mem w noEx w' _ from ((MA.lft hS) (hD.wait (i := 1) (m := 18) (by kernel_rfl) hl))) 0 rfl) rfl (T.ev 0 rfl) rfl)) ?_; clear T ac; intro ac T
      refine g_q (T := T) (i := 2) rfl (by kernel_rfl) (by kernel_rfl : (pbits 19 3).setIfInBounds 2 true = pbits 19 7) (si_and (si_G rfl) (si_and (si_G rfl) si_U)) (fun _ _ _ h => h) rfl rfl rfl rfl (fun _ _ _ _ _ => (rn_move rfl (T.ev 6 rfl))) ?_; clear T ac; intro ac T
      refine g_q (T := T) (i := 3) rfl (by kernel_rfl) (by kernel_rfl : (pbits 19 7).setIfInBounds 3 true = pbits 19 15) (si_and (si_G rfl) (si_and (si_G rfl) si_U)) (fun _ _ _ h => h) rfl rfl rfl rfl (fun _ _ _ _ _ => (rn_move rfl (T.ev 4 rfl))) ?_; clear T ac; intro ac T
      refine g_q (v := (.pointer (some ⟨g2, 15, none⟩))) (T := T) (i := 4) rfl (by kernel_rfl) (by kernel_rfl : (pbits 19 15).setIfInBounds 4 true = pbits 19 31) (si_and (si_G rfl) (si_and (si_G rfl) si_U)) (fun _ _ _ h => h) rfl rfl rfl rfl (fun _ _ _ _ _ => (rn_fieldAddr (off := 15) rfl (T.ev 7 rfl) (fun _ _ _ => by kernel_rfl))) ?_; clear T ac; intro ac T
      refine g_q (T := T) (i := 5) rfl (by kernel_rfl) (by kernel_rfl : (pbits 19 31).setIfInBounds 5 true = pbits 19 63) (si_and (si_G rfl) (si_and (si_G rfl) si_U)) (fun _ _ _ h => h) rfl rfl rfl rfl (fun B w' hD hl hS => (rn_one (Mem.nth (show Mem w noEx w' _ from ((MA.lft hS) (hD.wait (i := 5) (m := 18) (by kernel_rfl) hl))) 0 rfl) rfl (T.ev 0 rfl) rfl)) ?_; clear T ac; intro ac T
      refine g_q (T := T) (i := 6) rfl (by kernel_rfl) (by kernel_rfl : (pbits 19 63).setIfInBounds 6 true = pbits 19 127) (si_and (si_G rfl) (si_and (si_G rfl) si_U)) (fun _ _ _ h => h) rfl rfl rfl rfl (fun _ _ _ _ _ => (rn_move rfl (T.ev 10 rfl))) ?_; clear T ac; intro ac T
      refine g_q (T := T) (i := 7) rfl (by kernel_rfl) (by kernel_rfl : (pbits 19 127).setIfInBounds 7 true = pbits 19 255) (si_and (si_G rfl) (si_and (si_G rfl) si_U)) (fun _ _ _ h => h) rfl rfl rfl rfl (fun _ _ _ _ _ => (rn_indexAddr (size := 2) k rfl (T.ev 1 rfl) (T.ev 0 rfl) ⟨_, Try.underlying28, by kernel_rfl⟩ rfl (by omega) (Sx.at0 (by omega)))) ?_; clear T ac; intro ac T
      refine g_q (v := (.agg #[.int .i64 x0, .int .i64 x1])) (T := T) (i := 8) rfl (by kernel_rfl) (by kernel_rfl : (pbits 19 255).setIfInBounds 8 true = pbits 19 511) (si_and (si_G rfl) (si_and (si_G rfl) si_U)) (fun _ _ _ h => h) rfl rfl rfl rfl (fun B w' hD hl hS => (rn_rowat (Sp.rcR Sx (show Mem w noEx w' _ from ((MA.lft hS) (hD.wait (i := 8) (m := 18) (by kernel_rfl) hl))) (.cons _ (.cons _ (List.sublist_append_right _ _))) hk1) rfl (T.ev 0 rfl) rfl)) ?_; clear T ac; intro ac T
      refine g_q (T := T) (i := 9) rfl (by kernel_rfl) (by kernel_rfl : (pbits 19 511).setIfInBounds 9 true = pbits 19 1023) (si_and (si_G rfl) (si_and (si_G rfl) si_U)) (fun _ _ _ h => h) rfl rfl rfl rfl (fun _ _ _ _ _ => (rn_move rfl (T.ev 10 rfl))) ?_; clear T ac; intro ac T
      refine g_q (v := (.pointer (some ⟨g2, 15, none⟩))) (T := T) (i := 10) rfl (by kernel_rfl) (by kernel_rfl : (pbits 19 1023).setIfInBounds 10 true = pbits 19 2047) (si_and (si_G rfl) (si_and (si_G rfl) si_U)) (fun _ _ _ h => h) rfl rfl rfl rfl (fun _ _ _ _ _ => (rn_fieldAddr (off := 15) rfl (T.ev 13 rfl) (fun _ _ _ => by kernel_rfl))) ?_; clear T ac; intro ac T
      refine g_q (T := T) (i := 11) rfl (by kernel_rfl) (by kernel_rfl : (pbits 19 2047).setIfInBounds 11 true = pbits 19 4095) (si_and (si_G rfl) (si_and (si_G rfl) si_U)) (fun _ _ _ h => h) rfl rfl rfl rfl (fun B w' hD hl hS => (rn_one (Mem.nth (show Mem w noEx w' _ from ((MA.lft hS) (hD.wait (i := 11) (m := 18) (by kernel_rfl) hl))) 0 rfl) rfl (T.ev 0 rfl) rfl)) ?_; clear T ac; intro ac T
      refine g_q (T := T) (i := 12) rfl (by kernel_rfl) (by kernel_rfl : (pbits 19 4095).setIfInBounds 12 true = pbits 19 8191) (si_and (si_G rfl) (si_and (si_G rfl) si_U)) (fun _ _ _ h => h) rfl rfl rfl rfl (fun _ _ _ _ _ => (rn_move rfl (T.ev 16 rfl))) ?_; clear T ac; intro ac T
      refine g_q (T := T) (i := 13) rfl (by kernel_rfl) (by kernel_rfl : (pbits 19 8191).setIfInBounds 13 true = pbits 19 16383) (si_and (si_G rfl) (si_and (si_G rfl) si_U)) (fun _ _ _ h => h) rfl rfl rfl rfl (fun _ _ _ _ _ => (rn_indexAddr (size := 2) k rfl (T.ev 1 rfl) (T.ev 0 rfl) ⟨_, Try.underlying28, by kernel_rfl⟩ rfl (by omega) (Sx.at0 (by omega)))) ?_; clear T ac; intro ac T
      refine g_q (v := (.agg #[.int .i64 x0, .int .i64 x1])) (T := T) (i := 14) rfl (by kernel_rfl) (by kernel_rfl : (pbits 19 16383).setIfInBounds 14 true = pbits 19 32767) (si_and (si_G rfl) (si_and (si_G rfl) si_U)) (fun _ _ _ h => h) rfl rfl rfl rfl (fun B w' hD hl hS => (rn_rowat (Sp.rcR Sx (show Mem w noEx w' _ from ((MA.lft hS) (hD.wait (i := 14) (m := 18) (by kernel_rfl) hl))) (.cons _ (.cons _ (List.sublist_append_right _ _))) hk1) rfl (T.ev 0 rfl) rfl)) ?_; clear T ac; intro ac T
      refine g_w (i := 15) (by kernel_rfl) rfl (by kernel_rfl : (pbits 19 32767).setIfInBounds 15 true = pbits 19 65535) rfl ?_; intro K hK
      refine ow_call (first := []) (cap := []) T rfl rfl rfl rfl evf (.cons (T.ev 5 rfl) (.cons (T.ev 0 rfl) .nil)) Try.func43 rfl rfl ?_
      refine Calls.mono (inner_any _ bpu1 x0 x1 _ (by omega) (by omega) (by omega) (M.nth 2 rfl) hs) ?_
      clear T
      rintro e wc ⟨xu18, su18, hxu18, hsu18, rfl, hgr, hbk⟩
      intro ac T
      replace M := M.callC (cs' := [.int .u64 su18]) (.tail (.tail .head)) hgr hbk
      clear hgr hbk
      refine sh_out hK _ _ (MA.mk (fun _ => M.mask [true, true, false] rfl) (MA.mk (fun h => (no_of (by kernel_rfl) h).elim) (M.perm [] rfl rfl))) ?_; clear hK K
      refine g_w (i := 16) (by kernel_rfl) rfl (by kernel_rfl : (pbits 19 65535).setIfInBounds 16 true = pbits 19 131071) rfl ?_; intro K hK
      refine ow_call (first := []) (cap := []) T rfl rfl rfl rfl evf (.cons (T.ev 12 rfl) (.cons (T.ev 7 rfl) (.cons (T.ev 0 rfl) .nil))) Try.func42 rfl rfl ?_
      refine Calls.mono (narrow_any _ bpu1 x0 x1 xu18 _ (by omega) (by omega) (by omega) (by omega) (M.nth 2 rfl) hsu18) ?_
      clear T
      rintro e wc ⟨xu19, yu19, su19, hxu19, hsu19, rfl, hgr, hbk⟩
      intro ac T
      replace M := M.callC (cs' := [.int .u64 su19]) (.tail (.tail .head)) hgr hbk
      clear hgr hbk
      refine sh_out hK _ _ (MA.mk (fun _ => M.mask [true, true, false] rfl) (MA.mk (fun h => (no_of (by kernel_rfl) h).elim) (M.perm [] rfl rfl))) ?_; clear hK K
      refine g_q (T := T) (i := 17) rfl (by kernel_rfl) (by kernel_rfl : (pbits 19 131071).setIfInBounds 17 true = pbits 19 262143) (si_and (si_G rfl) (si_and (si_G rfl) si_U)) (fun _ _ _ h => h) rfl rfl rfl rfl (fun _ _ _ _ _ => (rn_indexAddr (size := 2) k rfl (T.ev 15 rfl) (T.ev 14 rfl) ⟨_, Try.underlying28, by kernel_rfl⟩ rfl (by omega) (Sx.at0 (by omega)))) ?_; clear T ac; intro ac T
      refine g_w (i := 18) (by kernel_rfl) rfl (by kernel_rfl : (pbits 19 262143).setIfInBounds 18 true = pbits 19 524287) rfl ?_; intro K hK
      refine ow_stT (((g2, .cells [.int .i64 xu5, .int .i64 yu5, .int .i64 xu7, .int .i64 yu7, .int .i64 xu9, .int .i64 yu9, .int .i64 xu11, .int .i64 yu11, .int .i64 xu13, .int .i64 yu13, .int .i64 xu15, .int .i64 yu15, .int .i64 xu17, .int .i64 yu17, .int .i64 ju2.le, .slice Au3 ju2.sh.length cu3, .int .i64 ju2.wi, .int .i64 ju2.me]) :: (g1, .cells (jobL ju2 Au2 cu2)) :: (bpu1, .cells [.int .u64 su19]) :: Iu2)) M (by first | rfl | simp) hsw T rfl rfl (T.ev 0 rfl) (T.ev 1 rfl) (by omega) rfl ?_; clear M T; intro Jw1 wc ac hsw1 M T
      replace M : Mem w noEx wc ((g2, .cells [.int .i64 xu5, .int .i64 yu5, .int .i64 xu7, .int .i64 yu7, .int .i64 xu9, .int .i64 yu9, .int .i64 xu11, .int .i64 yu11, .int .i64 xu13, .int .i64 yu13, .int .i64 xu15, .int .i64 yu15, .int .i64 xu17, .int .i64 yu17, .int .i64 ju2.le, .slice Au3 ju2.sh.length cu3, .int .i64 ju2.wi, .int .i64 ju2.me]) :: (g1, .cells (jobL ju2 Au2 cu2)) :: (bpu1, .cells [.int .u64 su19]) :: (Iu2 ++ Jw1)) := M
      obtain ⟨lo1, hlo1⟩ : ∃ q, q = lx.set k (xu19, yu19) := ⟨_, rfl⟩
      rw [← hlo1] at hsw1
      have lhlo1 : lo1.length = lx.length := by rw [hlo1, List.length_set]
      have Ss1 := hsw1.sp (w := w) (ex := noEx)
      refine sh_out hK _ _ (MA.mk (fun h => (no_of (by kernel_rfl) h).elim) (MA.mk (fun h => (no_of (by kernel_rfl) h).elim) (M.perm [] rfl rfl))) ?_; clear hK K
      refine g_done (by kernel_rfl) ?_
      replace T := T.pick [19, 20, 21, 22] rfl
      refine nm_blk ?_
      refine nm_then ?_
      refine wp_region_lit ?_
      refine l_q T rfl rfl rfl rfl (rn_move rfl (T.ev 3 rfl)) ?_; clear T ac; intro ac T
      refine l_q T rfl rfl rfl rfl (rn_add rfl (T.ev 0 rfl) evc (by omega)) ?_; clear T ac; intro ac T
      refine l_q (v := (.int .i64 ((k : Int) + 1))) (T.pick [0, 1, 2, 3, 4] rfl) rfl rfl rfl rfl (rn_assign rfl (T.ev 0 rfl)) ?_; clear T ac; intro ac T
      refine wpList_nil ?_
      replace T := T.pick [0, 3, 4, 5] rfl
      refine nm_then ?_
      exact ⟨_, by omega, k + 1, lo1, su19, Jw1, rfl, (by omega), (by rw [hlo1]; exact hlx.set hk1 (by omega)), (by omega), hsu19, hsw1, T.pick [1, 2, 3, 0] rfl, M.mask [true, true, true] rfl⟩
    · intro h1
      refine wp_exit ?_
      refine ex_then ?_
      refine ex_then ?_
      refine ex_hit ?_
      refine nm_then ?_
      refine wp_seq ?_
      refine wp_region_lit ?_
      refine l_q T rfl rfl rfl rfl (rn_move rfl (T.ev 1 rfl)) ?_; clear T ac; intro ac T
      refine l_q (v := (.pointer (some ⟨g1, 17, none⟩))) T rfl rfl rfl rfl (rn_fieldAddr (off := 17) rfl (T.ev 3 rfl) (fun _ _ _ => by kernel_rfl)) ?_; clear T ac; intro ac T
      refine l_q T rfl rfl rfl rfl (rn_one (Mem.nth M 1 rfl) rfl (T.ev 0 rfl) rfl) ?_; clear T ac; intro ac T
      refine l_w rfl ?_; intro K hK
      refine ow_call (first := []) (cap := []) T rfl rfl rfl rfl evf (.cons (T.ev 2 rfl) (.cons (T.ev 0 rfl) .nil)) Try.func28 rfl rfl ?_
      refine Calls.mono (upto_any _ bpu1 ju2.me _ (by omega) (by omega) (M.nth 2 rfl) hs) ?_
      clear T
      rintro e wc ⟨xu20, su20, hxu20, hsu20, rfl, hgr, hbk⟩
      intro ac T
      replace M := M.callC (cs' := [.int .u64 su20]) (.tail (.tail .head)) hgr hbk
      clear hgr hbk
      refine sh_out hK _ _ ?_; clear hK K
      refine l_q (v := (.pointer (some ⟨g2, 17, none⟩))) T rfl rfl rfl rfl (rn_fieldAddr (off := 17) rfl (T.ev 7 rfl) (fun _ _ _ => by kernel_rfl)) ?_; clear T ac; intro ac T
      refine l_w rfl ?_; intro K hK
      refine ow_stO M T rfl rfl (T.ev 0 rfl) (T.ev 1 rfl) rfl .head rfl (by simp) rfl (by kernel_rfl) ?_; clear M T; intro wc ac M T
      refine sh_out hK _ _ ?_; clear hK K
      refine wpList_nil ?_
      replace T := T.pick [6, 7, 8] rfl
      refine nm_then ?_
      refine wp_seq ?_
      refine wp_region_lit ?_
      refine l_q T rfl rfl rfl rfl (rn_move rfl (T.ev 0 rfl)) ?_; clear T ac; intro ac T
      refine l_w rfl ?_; intro K hK
      refine ow_call (first := []) (cap := []) T rfl rfl rfl rfl evf (.cons (T.ev 0 rfl) (.cons evc .nil)) Try.func32 rfl rfl ?_
      refine Calls.mono (strokesOf_any _ bpu1 3 _ (by omega) (by omega) (M.nth 2 rfl) hsu20) ?_
      clear T
      rintro e wc ⟨lu21, Au21, cu21, su21, Iu21, rfl, ⟨hfewu21, hqu21⟩, hsu21, hslu21, N⟩
      intro ac T
      obtain ⟨bu21, ou21, Su21⟩ := hslu21.sp (w := w) (ex := noEx) (by simp [ic_length])
      replace M := (M.joinW (.tail (.tail .head)) N).swapI
      replace M := M.mask [true, true, true] rfl
      clear N hslu21
      obtain ⟨jm, hjm⟩ : ∃ q : Jb, q = ⟨xu5, yu5, xu7, yu7, xu9, yu9, xu11, yu11, xu13, yu13, xu15, yu15, xu17, yu17, ju2.le, lx, ju2.wi, xu20⟩ := ⟨_, rfl⟩
      have hlm : lx = jm.sh := by rw [hjm]
      have hln : ju2.sh.length = jm.sh.length := by rw [← hlm]; omega
      have Sjm : Sp w noEx Ix Au3 jm.sh.length 2 bu3 0 (rc jm.sh) := by rw [← hln, ← hlm]; exact hsw.sp
      replace M : Mem w noEx wc ((g2, .cells (jobL jm Au3 cu3)) :: (g1, .cells (jobL ju2 Au2 cu2)) :: (bpu1, .cells [.int .u64 su21]) :: (Iu2 ++ Ix ++ Iu21)) := by
        have e : jobL jm Au3 cu3 = [.int .i64 xu5, .int .i64 yu5, .int .i64 xu7, .int .i64 yu7, .int .i64 xu9, .int .i64 yu9, .int .i64 xu11, .int .i64 yu11, .int .i64 xu13, .int .i64 yu13, .int .i64 xu15, .int .i64 yu15, .int .i64 xu17, .int .i64 yu17, .int .i64 ju2.le, .slice Au3 ju2.sh.length cu3, .int .i64 ju2.wi, .int .i64 xu20] := by rw [hln, hjm]
        rw [e]; exact M
      have hn9 : Nar jm ju2 := by
        rw [hjm]
        exact ⟨by dsimp only; omega, by dsimp only; omega, by dsimp only; omega, by dsimp only; omega, by dsimp only; omega, by dsimp only; omega, by dsimp only; omega, rfl, rfl, by dsimp only; omega, by dsimp only; omega, fun i y hy => by obtain ⟨q, h1, h2, h3, h4⟩ := hlx i y hy; exact ⟨q, h1, h2, h4⟩⟩
      have hgm : jm.good := by
        rw [hjm]
        exact ⟨by dsimp only; omega, by dsimp only; omega, by dsimp only; omega, by dsimp only; omega, by dsimp only; omega, by dsimp only; omega, by dsimp only; omega, hgu2.le, by dsimp only; omega, fun y hy => by obtain ⟨i, hi⟩ := List.getElem?_of_mem hy; obtain ⟨q, h1, h2, h3, h4⟩ := hlx i y hi; have h5 := hgu2.sh _ (List.mem_of_getElem? h1); omega, hgu2.wi, by dsimp only; omega⟩
      have hfm := hgm.few
      clear hjm hsw
      have hb1 := better hn9 hgu2 hgm (l := lu21) (by omega) hqu21
      refine sh_out hK _ _ ?_; clear hK K
      refine l_q T rfl rfl rfl rfl (rn_assign rfl (T.ev 0 rfl)) ?_; clear T ac; intro ac T
      refine wpList_nil ?_
      replace T := T.pick [0, 4, 5] rfl
      replace M := M.mask [true, true, false] rfl
      refine nm_then ?_
      refine wp_seq ?_
      refine wp_region_lit ?_
      refine l_q T rfl rfl rfl rfl (rn_rowO (Mem.nth M 1 rfl) rfl (T.ev 1 rfl) rfl) ?_; clear T ac; intro ac T
      refine l_q T rfl rfl rfl rfl (rn_move rfl (T.ev 1 rfl)) ?_; clear T ac; intro ac T
      refine l_w rfl ?_; intro K hK
      refine ow_call (first := []) (cap := []) T rfl rfl rfl rfl evf (.cons (T.ev 1 rfl) (.cons (T.ev 0 rfl) .nil)) Try.func30 rfl rfl ?_
      refine Calls.mono (Fine_any ju2 _ _ _ _ _ lu21 _ (Su2.rd M (.cons _ (.cons _ (List.Sublist.trans (List.Sublist.trans (List.Sublist.refl _) (List.sublist_append_left _ _)) (List.sublist_append_left _ _))))) (by first | omega | (simp only [List.length_cons, List.length_nil, List.length_set]; omega)) (Su21.rd M (.cons _ (.cons _ (List.sublist_append_right _ _)))) (by first | omega | (simp only [List.length_cons, List.length_nil, List.length_set]; omega))) ?_
      clear T
      rintro e wc ⟨rfl, hb⟩
      intro ac T
      replace M := M.call hb; clear hb
      refine sh_out hK _ _ ?_; clear hK K
      refine l_q T rfl rfl rfl rfl (rn_move rfl (T.ev 0 rfl)) ?_; clear T ac; intro ac T
      refine l_q T rfl rfl rfl rfl (rn_extract rfl (T.ev 0 rfl) rfl) ?_; clear T ac; intro ac T
      refine l_q T rfl rfl rfl rfl (rn_extract rfl (T.ev 1 rfl) rfl) ?_; clear T ac; intro ac T
      refine l_q T rfl rfl rfl rfl (rn_assign rfl (T.ev 1 rfl)) ?_; clear T ac; intro ac T
      refine l_q T rfl rfl rfl rfl (rn_assign rfl (T.ev 1 rfl)) ?_; clear T ac; intro ac T
      refine wpList_nil ?_
      replace T := T.pick [0, 1, 8, 9, 10] rfl
      refine nm_then ?_
      refine wp_seq ?_
      refine wp_region_lit ?_
      refine l_q T rfl rfl rfl rfl (rn_rowO (Mem.nth M 0 rfl) rfl (T.ev 4 rfl) rfl) ?_; clear T ac; intro ac T
      refine l_q T rfl rfl rfl rfl (rn_move rfl (T.ev 3 rfl)) ?_; clear T ac; intro ac T
      refine l_w rfl ?_; intro K hK
      refine ow_call (first := []) (cap := []) T rfl rfl rfl rfl evf (.cons (T.ev 1 rfl) (.cons (T.ev 0 rfl) .nil)) Try.func30 rfl rfl ?_
      refine Calls.mono (Fine_any jm _ _ _ _ _ lu21 _ (Sjm.rd M (.cons _ (.cons _ (List.Sublist.trans (List.sublist_append_right _ _) (List.sublist_append_left _ _))))) (by first | omega | (simp only [List.length_cons, List.length_nil, List.length_set]; omega)) (Su21.rd M (.cons _ (.cons _ (List.sublist_append_right _ _)))) (by first | omega | (simp only [List.length_cons, List.length_nil, List.length_set]; omega))) ?_
      clear T
      rintro e wc ⟨rfl, hb⟩
      intro ac T
      replace M := M.call hb; clear hb
      refine sh_out hK _ _ ?_; clear hK K
      refine l_q T rfl rfl rfl rfl (rn_move rfl (T.ev 0 rfl)) ?_; clear T ac; intro ac T
      refine l_q T rfl rfl rfl rfl (rn_extract rfl (T.ev 0 rfl) rfl) ?_; clear T ac; intro ac T
      refine l_q T rfl rfl rfl rfl (rn_extract rfl (T.ev 1 rfl) rfl) ?_; clear T ac; intro ac T
      refine l_q T rfl rfl rfl rfl (rn_assign rfl (T.ev 1 rfl)) ?_; clear T ac; intro ac T
      refine l_q T rfl rfl rfl rfl (rn_assign rfl (T.ev 1 rfl)) ?_; clear T ac; intro ac T
      refine wpList_nil ?_
      replace T := T.pick [0, 1, 8, 9, 10, 11, 12] rfl
      refine nm_then ?_
      refine wp_seq ?_
      refine wp_region_lit ?_
      refine l_q T rfl rfl rfl rfl (rn_rowO (Mem.nth M 1 rfl) rfl (T.ev 5 rfl) rfl) ?_; clear T ac; intro ac T
      refine l_q T rfl rfl rfl rfl (rn_move rfl (T.ev 5 rfl)) ?_; clear T ac; intro ac T
      refine l_w rfl ?_; intro K hK
      refine ow_call (first := []) (cap := []) T rfl rfl rfl rfl evf (.cons (T.ev 1 rfl) (.cons (T.ev 0 rfl) .nil)) Try.func44 rfl rfl ?_
      refine Calls.mono (Spoiled_any ju2 _ _ _ _ _ lu21 _ (Su2.rd M (.cons _ (.cons _ (List.Sublist.trans (List.Sublist.trans (List.Sublist.refl _) (List.sublist_append_left _ _)) (List.sublist_append_left _ _))))) (by first | omega | (simp only [List.length_cons, List.length_nil, List.length_set]; omega)) (Su21.rd M (.cons _ (.cons _ (List.sublist_append_right _ _)))) (by first | omega | (simp only [List.length_cons, List.length_nil, List.length_set]; omega))) ?_
      clear T
      rintro e wc ⟨rfl, hb⟩
      intro ac T
      replace M := M.call hb; clear hb
      refine sh_out hK _ _ ?_; clear hK K
      refine l_q T rfl rfl rfl rfl (rn_move rfl (T.ev 0 rfl)) ?_; clear T ac; intro ac T
      refine l_q T rfl rfl rfl rfl (rn_extract rfl (T.ev 0 rfl) rfl) ?_; clear T ac; intro ac T
      refine l_q T rfl rfl rfl rfl (rn_extract rfl (T.ev 1 rfl) rfl) ?_; clear T ac; intro ac T
      refine l_q T rfl rfl rfl rfl (rn_assign rfl (T.ev 1 rfl)) ?_; clear T ac; intro ac T
      refine l_q T rfl rfl rfl rfl (rn_assign rfl (T.ev 1 rfl)) ?_; clear T ac; intro ac T
      refine wpList_nil ?_
      replace T := T.pick [0, 1, 8, 9, 10, 11, 12, 13, 14] rfl
      refine nm_then ?_
      refine wp_seq ?_
      refine wp_region_lit ?_
      refine l_q T rfl rfl rfl rfl (rn_rowO (Mem.nth M 0 rfl) rfl (T.ev 8 rfl) rfl) ?_; clear T ac; intro ac T
      refine l_q T rfl rfl rfl rfl (rn_move rfl (T.ev 7 rfl)) ?_; clear T ac; intro ac T
      refine l_w rfl ?_; intro K hK
      refine ow_call (first := []) (cap := []) T rfl rfl rfl rfl evf (.cons (T.ev 1 rfl) (.cons (T.ev 0 rfl) .nil)) Try.func44 rfl rfl ?_
      refine Calls.mono (Spoiled_any jm _ _ _ _ _ lu21 _ (Sjm.rd M (.cons _ (.cons _ (List.Sublist.trans (List.sublist_append_right _ _) (List.sublist_append_left _ _))))) (by first | omega | (simp only [List.length_cons, List.length_nil, List.length_set]; omega)) (Su21.rd M (.cons _ (.cons _ (List.sublist_append_right _ _)))) (by first | omega | (simp only [List.length_cons, List.length_nil, List.length_set]; omega))) ?_
      clear T
      rintro e wc ⟨rfl, hb⟩
      intro ac T
      replace M := M.call hb; clear hb
      refine sh_out hK _ _ ?_; clear hK K
      refine l_q T rfl rfl rfl rfl (rn_move rfl (T.ev 0 rfl)) ?_; clear T ac; intro ac T
      refine l_q T rfl rfl rfl rfl (rn_extract rfl (T.ev 0 rfl) rfl) ?_; clear T ac; intro ac T
      refine l_q T rfl rfl rfl rfl (rn_extract rfl (T.ev 1 rfl) rfl) ?_; clear T ac; intro ac T
      refine l_q T rfl rfl rfl rfl (rn_assign rfl (T.ev 1 rfl)) ?_; clear T ac; intro ac T
      refine l_q T rfl rfl rfl rfl (rn_assign rfl (T.ev 1 rfl)) ?_; clear T ac; intro ac T
      refine wpList_nil ?_
      replace T := T.pick [0, 1, 8, 9, 10, 11, 12, 13, 15, 16] rfl
      refine nm_then ?_
      refine wp_seq ?_
      refine cut_seq (fun ac wc => Tm ac 263 [(4, .pointer (some ⟨g1, 0, none⟩)), (5, .pointer (some ⟨g2, 0, none⟩)), (197, .bool ((!(decide (((fineT ju2 lu21).2) = 0))) || ((!(decide (((fineT jm lu21).2) = 0))) || ((!(decide (((spoiledT ju2 lu21).2) = 0))) || ((!(decide (((spoiledT jm lu21).2) = 0))) || (bif (!(decide (((fineT ju2 lu21).1) = 3))) then ((!(decide (((fineT ju2 lu21).1) = ((fineT jm lu21).1)))) || ((!(decide (((spoiledT ju2 lu21).1) = 3))) && (!(decide (((spoiledT ju2 lu21).1) = ((spoiledT jm lu21).1)))))) else ((!(decide (((spoiledT ju2 lu21).1) = 3))) && (!(decide (((spoiledT ju2 lu21).1) = ((spoiledT jm lu21).1)))))))))))] ∧ Mem w noEx wc ((g2, .cells (jobL jm Au3 cu3)) :: (g1, .cells (jobL ju2 Au2 cu2)) :: (Iu2 ++ Ix ++ Iu21))) ?_ ?_
      · refine wp_region_lit ?_
        refine l_q T rfl rfl rfl rfl (rn_move rfl (T.ev 6 rfl)) ?_; clear T ac; intro ac T
        refine l_q T rfl rfl rfl rfl (rn_neq rfl (T.ev 0 rfl) evc) ?_; clear T ac; intro ac T
        refine l_q T rfl rfl rfl rfl (rn_move rfl (T.ev 0 rfl)) ?_; clear T ac; intro ac T
        rcases Bool.eq_false_or_eq_true (!(decide (((fineT ju2 lu21).2) = 0))) with h2 | h2
        · replace h2 : ¬ (((fineT ju2 lu21).2) = 0) := by simpa using h2
          refine l_pass T (wanted_no rfl rfl (T.ev 0 rfl) (by simp [h2])) rfl rfl rfl ?_; clear T ac; intro ac T
          refine l_pass T (wanted_no rfl rfl (T.ev 1 rfl) (by simp [h2])) rfl rfl rfl ?_; clear T ac; intro ac T
          refine l_q T rfl rfl rfl rfl (rn_pick1 rfl (T.ev 2 rfl) (by simp [h2]) evc) ?_; clear T ac; intro ac T
          refine l_q T rfl rfl rfl rfl (rn_move rfl (T.ev 0 rfl)) ?_; clear T ac; intro ac T
          refine l_pass T (wanted_no rfl rfl (T.ev 0 rfl) rfl) rfl rfl rfl ?_; clear T ac; intro ac T
          refine l_pass T (wanted_no rfl rfl (T.ev 1 rfl) rfl) rfl rfl rfl ?_; clear T ac; intro ac T
          refine l_q T rfl rfl rfl rfl (rn_pick1 rfl (T.ev 2 rfl) rfl evc) ?_; clear T ac; intro ac T
          refine l_q T rfl rfl rfl rfl (rn_move rfl (T.ev 0 rfl)) ?_; clear T ac; intro ac T
          refine l_pass T (wanted_no rfl rfl (T.ev 0 rfl) rfl) rfl rfl rfl ?_; clear T ac; intro ac T
          refine l_pass T (wanted_no rfl rfl (T.ev 1 rfl) rfl) rfl rfl rfl ?_; clear T ac; intro ac T
          refine l_q T rfl rfl rfl rfl (rn_pick1 rfl (T.ev 2 rfl) rfl evc) ?_; clear T ac; intro ac T
          refine l_q T rfl rfl rfl rfl (rn_move rfl (T.ev 0 rfl)) ?_; clear T ac; intro ac T
          refine l_pass T (wanted_no rfl rfl (T.ev 0 rfl) rfl) rfl rfl rfl ?_; clear T ac; intro ac T
          refine l_pass T (wanted_no rfl rfl (T.ev 1 rfl) rfl) rfl rfl rfl ?_; clear T ac; intro ac T
          refine l_pass T (wanted_no rfl rfl (T.ev 2 rfl) rfl) rfl rfl rfl ?_; clear T ac; intro ac T
          refine l_pass T (wanted_un rfl rfl (T.ev 0 rfl)) rfl rfl rfl ?_; clear T ac; intro ac T
          refine l_pass T (wanted_un rfl rfl (T.ev 1 rfl)) rfl rfl rfl ?_; clear T ac; intro ac T
          refine l_pass T (wanted_un rfl rfl (T.ev 2 rfl)) rfl rfl rfl ?_; clear T ac; intro ac T
          refine l_pass T (wanted_no rfl rfl (T.ev 6 rfl) rfl) rfl rfl rfl ?_; clear T ac; intro ac T
          refine l_q T rfl rfl rfl rfl (rn_pick1 rfl (T.ev 7 rfl) rfl evc) ?_; clear T ac; intro ac T
          refine l_q T rfl rfl rfl rfl (rn_move rfl (T.ev 0 rfl)) ?_; clear T ac; intro ac T
          refine l_pass T (wanted_no rfl rfl (T.ev 0 rfl) rfl) rfl rfl rfl ?_; clear T ac; intro ac T
          refine l_pass T (wanted_no rfl rfl (T.ev 1 rfl) rfl) rfl rfl rfl ?_; clear T ac; intro ac T
          refine l_pass T (wanted_no rfl rfl (T.ev 2 rfl) rfl) rfl rfl rfl ?_; clear T ac; intro ac T
          refine l_pass T (wanted_un rfl rfl (T.ev 0 rfl)) rfl rfl rfl ?_; clear T ac; intro ac T
          refine l_pass T (wanted_un rfl rfl (T.ev 1 rfl)) rfl rfl rfl ?_; clear T ac; intro ac T
          refine l_pass T (wanted_un rfl rfl (T.ev 2 rfl)) rfl rfl rfl ?_; clear T ac; intro ac T
          refine l_pass T (wanted_no rfl rfl (T.ev 6 rfl) rfl) rfl rfl rfl ?_; clear T ac; intro ac T
          refine l_q T rfl rfl rfl rfl (rn_pick1 rfl (T.ev 7 rfl) rfl evc) ?_; clear T ac; intro ac T
          refine wpList_nil ?_
          replace T := T.pick [0, 40, 41] rfl
          exact ⟨(T.pick (E' := [(4, .pointer (some ⟨g1, 0, none⟩)), (5, .pointer (some ⟨g2, 0, none⟩)), (197, .bool true)]) [1, 2, 0] rfl).as (by (try rw [show (!(decide (((fineT ju2 lu21).2) = 0))) = true from (by simp [h2])]); rfl), M.mask [true, true] rfl⟩
        · replace h2 : ((fineT ju2 lu21).2) = 0 := by simpa using h2
          refine l_q T (wanted_yes rfl rfl (T.ev 0 rfl) (by simp [h2])) rfl rfl rfl (rn_move rfl (T.ev 7 rfl)) ?_; clear T ac; intro ac T
          refine l_q T (wanted_yes rfl rfl (T.ev 1 rfl) (by simp [h2])) rfl rfl rfl (rn_neq rfl (T.ev 0 rfl) evc) ?_; clear T ac; intro ac T
          refine l_q T rfl rfl rfl rfl (rn_pick0 rfl (T.ev 2 rfl) (by simp [h2]) (T.ev 0 rfl)) ?_; clear T ac; intro ac T
          refine l_q T rfl rfl rfl rfl (rn_move rfl (T.ev 0 rfl)) ?_; clear T ac; intro ac T
          rcases Bool.eq_false_or_eq_true (!(decide (((fineT jm lu21).2) = 0))) with h3 | h3
          · replace h3 : ¬ (((fineT jm lu21).2) = 0) := by simpa using h3
            refine l_pass T (wanted_no rfl rfl (T.ev 0 rfl) (by simp [h3])) rfl rfl rfl ?_; clear T ac; intro ac T
            refine l_pass T (wanted_no rfl rfl (T.ev 1 rfl) (by simp [h3])) rfl rfl rfl ?_; clear T ac; intro ac T
            refine l_q T rfl rfl rfl rfl (rn_pick1 rfl (T.ev 2 rfl) (by simp [h3]) evc) ?_; clear T ac; intro ac T
            refine l_q T rfl rfl rfl rfl (rn_move rfl (T.ev 0 rfl)) ?_; clear T ac; intro ac T
            refine l_pass T (wanted_no rfl rfl (T.ev 0 rfl) rfl) rfl rfl rfl ?_; clear T ac; intro ac T
            refine l_pass T (wanted_no rfl rfl (T.ev 1 rfl) rfl) rfl rfl rfl ?_; clear T ac; intro ac T
            refine l_q T rfl rfl rfl rfl (rn_pick1 rfl (T.ev 2 rfl) rfl evc) ?_; clear T ac; intro ac T
            refine l_q T rfl rfl rfl rfl (rn_move rfl (T.ev 0 rfl)) ?_; clear T ac; intro ac T
            refine l_pass T (wanted_no rfl rfl (T.ev 0 rfl) rfl) rfl rfl rfl ?_; clear T ac; intro ac T
            refine l_pass T (wanted_no rfl rfl (T.ev 1 rfl) rfl) rfl rfl rfl ?_; clear T ac; intro ac T
            refine l_pass T (wanted_no rfl rfl (T.ev 2 rfl) rfl) rfl rfl rfl ?_; clear T ac; intro ac T
            refine l_pass T (wanted_un rfl rfl (T.ev 0 rfl)) rfl rfl rfl ?_; clear T ac; intro ac T
            refine l_pass T (wanted_un rfl rfl (T.ev 1 rfl)) rfl rfl rfl ?_; clear T ac; intro ac T
            refine l_pass T (wanted_un rfl rfl (T.ev 2 rfl)) rfl rfl rfl ?_; clear T ac; intro ac T
            refine l_pass T (wanted_no rfl rfl (T.ev 6 rfl) rfl) rfl rfl rfl ?_; clear T ac; intro ac T
            refine l_q T rfl rfl rfl rfl (rn_pick1 rfl (T.ev 7 rfl) rfl evc) ?_; clear T ac; intro ac T
            refine l_q T rfl rfl rfl rfl (rn_move rfl (T.ev 0 rfl)) ?_; clear T ac; intro ac T
            refine l_pass T (wanted_no rfl rfl (T.ev 0 rfl) rfl) rfl rfl rfl ?_; clear T ac; intro ac T
            refine l_pass T (wanted_no rfl rfl (T.ev 1 rfl) rfl) rfl rfl rfl ?_; clear T ac; intro ac T
            refine l_pass T (wanted_no rfl rfl (T.ev 2 rfl) rfl) rfl rfl rfl ?_; clear T ac; intro ac T
            refine l_pass T (wanted_un rfl rfl (T.ev 0 rfl)) rfl rfl rfl ?_; clear T ac; intro ac T
            refine l_pass T (wanted_un rfl rfl (T.ev 1 rfl)) rfl rfl rfl ?_; clear T ac; intro ac T
            refine l_pass T (wanted_un rfl rfl (T.ev 2 rfl)) rfl rfl rfl ?_; clear T ac; intro ac T
            refine l_pass T (wanted_no rfl rfl (T.ev 6 rfl) rfl) rfl rfl rfl ?_; clear T ac; intro ac T
            refine l_q T rfl rfl rfl rfl (rn_pick1 rfl (T.ev 7 rfl) rfl evc) ?_; clear T ac; intro ac T
            refine wpList_nil ?_
            replace T := T.pick [0, 40, 41] rfl
            exact ⟨(T.pick (E' := [(4, .pointer (some ⟨g1, 0, none⟩)), (5, .pointer (some ⟨g2, 0, none⟩)), (197, .bool true)]) [1, 2, 0] rfl).as (by (try rw [show (!(decide (((fineT ju2 lu21).2) = 0))) = false from (by simp [h2])]); (try rw [show (!(decide (((fineT jm lu21).2) = 0))) = true from (by simp [h3])]); rfl), M.mask [true, true] rfl⟩
          · replace h3 : ((fineT jm lu21).2) = 0 := by simpa using h3
            refine l_q T (wanted_yes rfl rfl (T.ev 0 rfl) (by simp [h3])) rfl rfl rfl (rn_move rfl (T.ev 9 rfl)) ?_; clear T ac; intro ac T
            refine l_q T (wanted_yes rfl rfl (T.ev 1 rfl) (by simp [h3])) rfl rfl rfl (rn_neq rfl (T.ev 0 rfl) evc) ?_; clear T ac; intro ac T
            refine l_q T rfl rfl rfl rfl (rn_pick0 rfl (T.ev 2 rfl) (by simp [h3]) (T.ev 0 rfl)) ?_; clear T ac; intro ac T
            refine l_q T rfl rfl rfl rfl (rn_move rfl (T.ev 0 rfl)) ?_; clear T ac; intro ac T
            rcases Bool.eq_false_or_eq_true (!(decide (((spoiledT ju2 lu21).2) = 0))) with h4 | h4
            · replace h4 : ¬ (((spoiledT ju2 lu21).2) = 0) := by simpa using h4
              refine l_pass T (wanted_no rfl rfl (T.ev 0 rfl) (by simp [h4])) rfl rfl rfl ?_; clear T ac; intro ac T
              refine l_pass T (wanted_no rfl rfl (T.ev 1 rfl) (by simp [h4])) rfl rfl rfl ?_; clear T ac; intro ac T
              refine l_q T rfl rfl rfl rfl (rn_pick1 rfl (T.ev 2 rfl) (by simp [h4]) evc) ?_; clear T ac; intro ac T
              refine l_q T rfl rfl rfl rfl (rn_move rfl (T.ev 0 rfl)) ?_; clear T ac; intro ac T
              refine l_pass T (wanted_no rfl rfl (T.ev 0 rfl) rfl) rfl rfl rfl ?_; clear T ac; intro ac T
              refine l_pass T (wanted_no rfl rfl (T.ev 1 rfl) rfl) rfl rfl rfl ?_; clear T ac; intro ac T
              refine l_pass T (wanted_no rfl rfl (T.ev 2 rfl) rfl) rfl rfl rfl ?_; clear T ac; intro ac T
              refine l_pass T (wanted_un rfl rfl (T.ev 0 rfl)) rfl rfl rfl ?_; clear T ac; intro ac T
              refine l_pass T (wanted_un rfl rfl (T.ev 1 rfl)) rfl rfl rfl ?_; clear T ac; intro ac T
              refine l_pass T (wanted_un rfl rfl (T.ev 2 rfl)) rfl rfl rfl ?_; clear T ac; intro ac T
              refine l_pass T (wanted_no rfl rfl (T.ev 6 rfl) rfl) rfl rfl rfl ?_; clear T ac; intro ac T
              refine l_q T rfl rfl rfl rfl (rn_pick1 rfl (T.ev 7 rfl) rfl evc) ?_; clear T ac; intro ac T
              refine l_q T rfl rfl rfl rfl (rn_move rfl (T.ev 0 rfl)) ?_; clear T ac; intro ac T
              refine l_pass T (wanted_no rfl rfl (T.ev 0 rfl) rfl) rfl rfl rfl ?_; clear T ac; intro ac T
              refine l_pass T (wanted_no rfl rfl (T.ev 1 rfl) rfl) rfl rfl rfl ?_; clear T ac; intro ac T
              refine l_pass T (wanted_no rfl rfl (T.ev 2 rfl) rfl) rfl rfl rfl ?_; clear T ac; intro ac T
              refine l_pass T (wanted_un rfl rfl (T.ev 0 rfl)) rfl rfl rfl ?_; clear T ac; intro ac T
              refine l_pass T (wanted_un rfl rfl (T.ev 1 rfl)) rfl rfl rfl ?_; clear T ac; intro ac T
              refine l_pass T (wanted_un rfl rfl (T.ev 2 rfl)) rfl rfl rfl ?_; clear T ac; intro ac T
              refine l_pass T (wanted_no rfl rfl (T.ev 6 rfl) rfl) rfl rfl rfl ?_; clear T ac; intro ac T
              refine l_q T rfl rfl rfl rfl (rn_pick1 rfl (T.ev 7 rfl) rfl evc) ?_; clear T ac; intro ac T
              refine wpList_nil ?_
              replace T := T.pick [0, 40, 41] rfl
              exact ⟨(T.pick (E' := [(4, .pointer (some ⟨g1, 0, none⟩)), (5, .pointer (some ⟨g2, 0, none⟩)), (197, .bool true)]) [1, 2, 0] rfl).as (by (try rw [show (!(decide (((fineT ju2 lu21).2) = 0))) = false from (by simp [h2])]); (try rw [show (!(decide (((fineT jm lu21).2) = 0))) = false from (by simp [h3])]); (try rw [show (!(decide (((spoiledT ju2 lu21).2) = 0))) = true from (by simp [h4])]); rfl), M.mask [true, true] rfl⟩
            · replace h4 : ((spoiledT ju2 lu21).2) = 0 := by simpa using h4
              refine l_q T (wanted_yes rfl rfl (T.ev 0 rfl) (by simp [h4])) rfl rfl rfl (rn_move rfl (T.ev 11 rfl)) ?_; clear T ac; intro ac T
              refine l_q T (wanted_yes rfl rfl (T.ev 1 rfl) (by simp [h4])) rfl rfl rfl (rn_neq rfl (T.ev 0 rfl) evc) ?_; clear T ac; intro ac T
              refine l_q T rfl rfl rfl rfl (rn_pick0 rfl (T.ev 2 rfl) (by simp [h4]) (T.ev 0 rfl)) ?_; clear T ac; intro ac T
              refine l_q T rfl rfl rfl rfl (rn_move rfl (T.ev 0 rfl)) ?_; clear T ac; intro ac T
              rcases Bool.eq_false_or_eq_true (!(decide (((spoiledT jm lu21).2) = 0))) with h5 | h5
              · replace h5 : ¬ (((spoiledT jm lu21).2) = 0) := by simpa using h5
                refine l_pass T (wanted_no rfl rfl (T.ev 0 rfl) (by simp [h5])) rfl rfl rfl ?_; clear T ac; intro ac T
                refine l_pass T (wanted_no rfl rfl (T.ev 1 rfl) (by simp [h5])) rfl rfl rfl ?_; clear T ac; intro ac T
                refine l_pass T (wanted_no rfl rfl (T.ev 2 rfl) (by simp [h5])) rfl rfl rfl ?_; clear T ac; intro ac T
                refine l_pass T (wanted_un rfl rfl (T.ev 0 rfl)) rfl rfl rfl ?_; clear T ac; intro ac T
                refine l_pass T (wanted_un rfl rfl (T.ev 1 rfl)) rfl rfl rfl ?_; clear T ac; intro ac T
                refine l_pass T (wanted_un rfl rfl (T.ev 2 rfl)) rfl rfl rfl ?_; clear T ac; intro ac T
                refine l_pass T (wanted_no rfl rfl (T.ev 6 rfl) (by simp [h5])) rfl rfl rfl ?_; clear T ac; intro ac T
                refine l_q T rfl rfl rfl rfl (rn_pick1 rfl (T.ev 7 rfl) (by simp [h5]) evc) ?_; clear T ac; intro ac T
                refine l_q T rfl rfl rfl rfl (rn_move rfl (T.ev 0 rfl)) ?_; clear T ac; intro ac T
                refine l_pass T (wanted_no rfl rfl (T.ev 0 rfl) rfl) rfl rfl rfl ?_; clear T ac; intro ac T
                refine l_pass T (wanted_no rfl rfl (T.ev 1 rfl) rfl) rfl rfl rfl ?_; clear T ac; intro ac T
                refine l_pass T (wanted_no rfl rfl (T.ev 2 rfl) rfl) rfl rfl rfl ?_; clear T ac; intro ac T
                refine l_pass T (wanted_un rfl rfl (T.ev 0 rfl)) rfl rfl rfl ?_; clear T ac; intro ac T
                refine l_pass T (wanted_un rfl rfl (T.ev 1 rfl)) rfl rfl rfl ?_; clear T ac; intro ac T
                refine l_pass T (wanted_un rfl rfl (T.ev 2 rfl)) rfl rfl rfl ?_; clear T ac; intro ac T
                refine l_pass T (wanted_no rfl rfl (T.ev 6 rfl) rfl) rfl rfl rfl ?_; clear T ac; intro ac T
                refine l_q T rfl rfl rfl rfl (rn_pick1 rfl (T.ev 7 rfl) rfl evc) ?_; clear T ac; intro ac T
                refine wpList_nil ?_
                replace T := T.pick [0, 40, 41] rfl
                exact ⟨(T.pick (E' := [(4, .pointer (some ⟨g1, 0, none⟩)), (5, .pointer (some ⟨g2, 0, none⟩)), (197, .bool true)]) [1, 2, 0] rfl).as (by (try rw [show (!(decide (((fineT ju2 lu21).2) = 0))) = false from (by simp [h2])]); (try rw [show (!(decide (((fineT jm lu21).2) = 0))) = false from (by simp [h3])]); (try rw [show (!(decide (((spoiledT ju2 lu21).2) = 0))) = false from (by simp [h4])]); (try rw [show (!(decide (((spoiledT jm lu21).2) = 0))) = true from (by simp [h5])]); rfl), M.mask [true, true] rfl⟩
              · replace h5 : ((spoiledT jm lu21).2) = 0 := by simpa using h5
                refine l_q T (wanted_yes rfl rfl (T.ev 0 rfl) (by simp [h5])) rfl rfl rfl (rn_move rfl (T.ev 22 rfl)) ?_; clear T ac; intro ac T
                refine l_q T (wanted_yes rfl rfl (T.ev 1 rfl) (by simp [h5])) rfl rfl rfl (rn_neq rfl (T.ev 0 rfl) evc) ?_; clear T ac; intro ac T
                refine l_q T (wanted_yes rfl rfl (T.ev 2 rfl) (by simp [h5])) rfl rfl rfl (rn_move rfl (T.ev 0 rfl)) ?_; clear T ac; intro ac T
                rcases Bool.eq_false_or_eq_true (!(decide (((fineT ju2 lu21).1) = 3))) with h6 | h6
                · replace h6 : ¬ (((fineT ju2 lu21).1) = 3) := by simpa using h6
                  refine l_q T (wanted_yes rfl rfl (T.ev 0 rfl) (by simp [h6])) rfl rfl rfl (rn_move rfl (T.ev 25 rfl)) ?_; clear T ac; intro ac T
                  refine l_q T (wanted_yes rfl rfl (T.ev 1 rfl) (by simp [h6])) rfl rfl rfl (rn_move rfl (T.ev 24 rfl)) ?_; clear T ac; intro ac T
                  refine l_q T (wanted_yes rfl rfl (T.ev 2 rfl) (by simp [h6])) rfl rfl rfl (rn_neq rfl (T.ev 1 rfl) (T.ev 0 rfl)) ?_; clear T ac; intro ac T
                  refine l_q T (wanted_yes rfl rfl (T.ev 6 rfl) (by simp [h5])) rfl rfl rfl (rn_pick1 rfl (T.ev 3 rfl) (by simp [h6]) (T.ev 0 rfl)) ?_; clear T ac; intro ac T
                  refine l_q T rfl rfl rfl rfl (rn_pick0 rfl (T.ev 7 rfl) (by simp [h5]) (T.ev 0 rfl)) ?_; clear T ac; intro ac T
                  refine l_q T rfl rfl rfl rfl (rn_move rfl (T.ev 0 rfl)) ?_; clear T ac; intro ac T
                  rcases Bool.eq_false_or_eq_true (!(decide (((fineT ju2 lu21).1) = ((fineT jm lu21).1)))) with h7 | h7
                  · replace h7 : ¬ (((fineT ju2 lu21).1) = ((fineT jm lu21).1)) := by simpa using h7
                    refine l_pass T (wanted_no rfl rfl (T.ev 0 rfl) (by simp [h7])) rfl rfl rfl ?_; clear T ac; intro ac T
                    refine l_pass T (wanted_no rfl rfl (T.ev 1 rfl) (by simp [h7])) rfl rfl rfl ?_; clear T ac; intro ac T
                    refine l_pass T (wanted_no rfl rfl (T.ev 2 rfl) (by simp [h7])) rfl rfl rfl ?_; clear T ac; intro ac T
                    refine l_pass T (wanted_un rfl rfl (T.ev 0 rfl)) rfl rfl rfl ?_; clear T ac; intro ac T
                    refine l_pass T (wanted_un rfl rfl (T.ev 1 rfl)) rfl rfl rfl ?_; clear T ac; intro ac T
                    refine l_pass T (wanted_un rfl rfl (T.ev 2 rfl)) rfl rfl rfl ?_; clear T ac; intro ac T
                    refine l_pass T (wanted_no rfl rfl (T.ev 6 rfl) (by simp [h7])) rfl rfl rfl ?_; clear T ac; intro ac T
                    refine l_q T rfl rfl rfl rfl (rn_pick1 rfl (T.ev 7 rfl) (by simp [h7]) evc) ?_; clear T ac; intro ac T
                    refine wpList_nil ?_
                    replace T := T.pick [0, 40, 41] rfl
                    exact ⟨(T.pick (E' := [(4, .pointer (some ⟨g1, 0, none⟩)), (5, .pointer (some ⟨g2, 0, none⟩)), (197, .bool true)]) [1, 2, 0] rfl).as (by (try rw [show (!(decide (((fineT ju2 lu21).2) = 0))) = false from (by simp [h2])]); (try rw [show (!(decide (((fineT jm lu21).2) = 0))) = false from (by simp [h3])]); (try rw [show (!(decide (((spoiledT ju2 lu21).2) = 0))) = false from (by simp [h4])]); (try rw [show (!(decide (((spoiledT jm lu21).2) = 0))) = false from (by simp [h5])]); (try rw [show (!(decide (((fineT ju2 lu21).1) = 3))) = true from (by simp [h6])]); (try rw [show (!(decide (((fineT ju2 lu21).1) = ((fineT jm lu21).1)))) = true from (by simp [h7])]); rfl), M.mask [true, true] rfl⟩
                  · replace h7 : ((fineT ju2 lu21).1) = ((fineT jm lu21).1) := by simpa using h7
                    refine l_q T (wanted_yes rfl rfl (T.ev 0 rfl) (by simp [h7])) rfl rfl rfl (rn_move rfl (T.ev 27 rfl)) ?_; clear T ac; intro ac T
                    refine l_q T (wanted_yes rfl rfl (T.ev 1 rfl) (by simp [h7])) rfl rfl rfl (rn_neq rfl (T.ev 0 rfl) evc) ?_; clear T ac; intro ac T
                    refine l_q T (wanted_yes rfl rfl (T.ev 2 rfl) (by simp [h7])) rfl rfl rfl (rn_move rfl (T.ev 0 rfl)) ?_; clear T ac; intro ac T
                    rcases Bool.eq_false_or_eq_true (!(decide (((spoiledT ju2 lu21).1) = 3))) with h8 | h8
                    · replace h8 : ¬ (((spoiledT ju2 lu21).1) = 3) := by simpa using h8
                      refine l_q T (wanted_yes rfl rfl (T.ev 0 rfl) (by simp [h8])) rfl rfl rfl (rn_move rfl (T.ev 30 rfl)) ?_; clear T ac; intro ac T
                      refine l_q T (wanted_yes rfl rfl (T.ev 1 rfl) (by simp [h8])) rfl rfl rfl (rn_move rfl (T.ev 29 rfl)) ?_; clear T ac; intro ac T
                      refine l_q T (wanted_yes rfl rfl (T.ev 2 rfl) (by simp [h8])) rfl rfl rfl (rn_neq rfl (T.ev 1 rfl) (T.ev 0 rfl)) ?_; clear T ac; intro ac T
                      refine l_q T (wanted_yes rfl rfl (T.ev 6 rfl) (by simp [h7])) rfl rfl rfl (rn_pick1 rfl (T.ev 3 rfl) (by simp [h8]) (T.ev 0 rfl)) ?_; clear T ac; intro ac T
                      refine l_q T rfl rfl rfl rfl (rn_pick0 rfl (T.ev 7 rfl) (by simp [h7]) (T.ev 0 rfl)) ?_; clear T ac; intro ac T
                      refine wpList_nil ?_
                      replace T := T.pick [0, 40, 41] rfl
                      exact ⟨(T.pick (E' := [(4, .pointer (some ⟨g1, 0, none⟩)), (5, .pointer (some ⟨g2, 0, none⟩)), (197, .bool (!(decide (((spoiledT ju2 lu21).1) = ((spoiledT jm lu21).1)))))]) [1, 2, 0] rfl).as (by (try rw [show (!(decide (((fineT ju2 lu21).2) = 0))) = false from (by simp [h2])]); (try rw [show (!(decide (((fineT jm lu21).2) = 0))) = false from (by simp [h3])]); (try rw [show (!(decide (((spoiledT ju2 lu21).2) = 0))) = false from (by simp [h4])]); (try rw [show (!(decide (((spoiledT jm lu21).2) = 0))) = false from (by simp [h5])]); (try rw [show (!(decide (((fineT ju2 lu21).1) = 3))) = true from (by simp [h6])]); (try rw [show (!(decide (((fineT ju2 lu21).1) = ((fineT jm lu21).1)))) = false from (by simp [h7])]); (try rw [show (!(decide (((spoiledT ju2 lu21).1) = 3))) = true from (by simp [h8])]); rfl), M.mask [true, true] rfl⟩
                    · replace h8 : ((spoiledT ju2 lu21).1) = 3 := by simpa using h8
                      refine l_pass T (wanted_no rfl rfl (T.ev 0 rfl) (by simp [h8])) rfl rfl rfl ?_; clear T ac; intro ac T
                      refine l_pass T (wanted_no rfl rfl (T.ev 1 rfl) (by simp [h8])) rfl rfl rfl ?_; clear T ac; intro ac T
                      refine l_pass T (wanted_no rfl rfl (T.ev 2 rfl) (by simp [h8])) rfl rfl rfl ?_; clear T ac; intro ac T
                      refine l_q T (wanted_yes rfl rfl (T.ev 6 rfl) (by simp [h7])) rfl rfl rfl (rn_pick0 rfl (T.ev 3 rfl) (by simp [h8]) evc) ?_; clear T ac; intro ac T
                      refine l_q T rfl rfl rfl rfl (rn_pick0 rfl (T.ev 7 rfl) (by simp [h7]) (T.ev 0 rfl)) ?_; clear T ac; intro ac T
                      refine wpList_nil ?_
                      replace T := T.pick [0, 40, 41] rfl
                      exact ⟨(T.pick (E' := [(4, .pointer (some ⟨g1, 0, none⟩)), (5, .pointer (some ⟨g2, 0, none⟩)), (197, .bool false)]) [1, 2, 0] rfl).as (by (try rw [show (!(decide (((fineT ju2 lu21).2) = 0))) = false from (by simp [h2])]); (try rw [show (!(decide (((fineT jm lu21).2) = 0))) = false from (by simp [h3])]); (try rw [show (!(decide (((spoiledT ju2 lu21).2) = 0))) = false from (by simp [h4])]); (try rw [show (!(decide (((spoiledT jm lu21).2) = 0))) = false from (by simp [h5])]); (try rw [show (!(decide (((fineT ju2 lu21).1) = 3))) = true from (by simp [h6])]); (try rw [show (!(decide (((fineT ju2 lu21).1) = ((fineT jm lu21).1)))) = false from (by simp [h7])]); (try rw [show (!(decide (((spoiledT ju2 lu21).1) = 3))) = false from (by simp [h8])]); rfl), M.mask [true, true] rfl⟩
                · replace h6 : ((fineT ju2 lu21).1) = 3 := by simpa using h6
                  refine l_pass T (wanted_no rfl rfl (T.ev 0 rfl) (by simp [h6])) rfl rfl rfl ?_; clear T ac; intro ac T
                  refine l_pass T (wanted_no rfl rfl (T.ev 1 rfl) (by simp [h6])) rfl rfl rfl ?_; clear T ac; intro ac T
                  refine l_pass T (wanted_no rfl rfl (T.ev 2 rfl) (by simp [h6])) rfl rfl rfl ?_; clear T ac; intro ac T
                  refine l_q T (wanted_yes rfl rfl (T.ev 6 rfl) (by simp [h5])) rfl rfl rfl (rn_pick0 rfl (T.ev 3 rfl) (by simp [h6]) evc) ?_; clear T ac; intro ac T
                  refine l_q T rfl rfl rfl rfl (rn_pick0 rfl (T.ev 7 rfl) (by simp [h5]) (T.ev 0 rfl)) ?_; clear T ac; intro ac T
                  refine l_q T rfl rfl rfl rfl (rn_move rfl (T.ev 0 rfl)) ?_; clear T ac; intro ac T
                  refine l_q T (wanted_yes rfl rfl (T.ev 0 rfl) rfl) rfl rfl rfl (rn_move rfl (T.ev 27 rfl)) ?_; clear T ac; intro ac T
                  refine l_q T (wanted_yes rfl rfl (T.ev 1 rfl) rfl) rfl rfl rfl (rn_neq rfl (T.ev 0 rfl) evc) ?_; clear T ac; intro ac T
                  refine l_q T (wanted_yes rfl rfl (T.ev 2 rfl) rfl) rfl rfl rfl (rn_move rfl (T.ev 0 rfl)) ?_; clear T ac; intro ac T
                  rcases Bool.eq_false_or_eq_true (!(decide (((spoiledT ju2 lu21).1) = 3))) with h9 | h9
                  · replace h9 : ¬ (((spoiledT ju2 lu21).1) = 3) := by simpa using h9
                    refine l_q T (wanted_yes rfl rfl (T.ev 0 rfl) (by simp [h9])) rfl rfl rfl (rn_move rfl (T.ev 30 rfl)) ?_; clear T ac; intro ac T
                    refine l_q T (wanted_yes rfl rfl (T.ev 1 rfl) (by simp [h9])) rfl rfl rfl (rn_move rfl (T.ev 29 rfl)) ?_; clear T ac; intro ac T
                    refine l_q T (wanted_yes rfl rfl (T.ev 2 rfl) (by simp [h9])) rfl rfl rfl (rn_neq rfl (T.ev 1 rfl) (T.ev 0 rfl)) ?_; clear T ac; intro ac T
                    refine l_q T (wanted_yes rfl rfl (T.ev 6 rfl) rfl) rfl rfl rfl (rn_pick1 rfl (T.ev 3 rfl) (by simp [h9]) (T.ev 0 rfl)) ?_; clear T ac; intro ac T
                    refine l_q T rfl rfl rfl rfl (rn_pick0 rfl (T.ev 7 rfl) rfl (T.ev 0 rfl)) ?_; clear T ac; intro ac T
                    refine wpList_nil ?_
                    replace T := T.pick [0, 40, 41] rfl
                    exact ⟨(T.pick (E' := [(4, .pointer (some ⟨g1, 0, none⟩)), (5, .pointer (some ⟨g2, 0, none⟩)), (197, .bool (!(decide (((spoiledT ju2 lu21).1) = ((spoiledT jm lu21).1)))))]) [1, 2, 0] rfl).as (by (try rw [show (!(decide (((fineT ju2 lu21).2) = 0))) = false from (by simp [h2])]); (try rw [show (!(decide (((fineT jm lu21).2) = 0))) = false from (by simp [h3])]); (try rw [show (!(decide (((spoiledT ju2 lu21).2) = 0))) = false from (by simp [h4])]); (try rw [show (!(decide (((spoiledT jm lu21).2) = 0))) = false from (by simp [h5])]); (try rw [show (!(decide (((fineT ju2 lu21).1) = 3))) = false from (by simp [h6])]); (try rw [show (!(decide (((spoiledT ju2 lu21).1) = 3))) = true from (by simp [h9])]); rfl), M.mask [true, true] rfl⟩
                  · replace h9 : ((spoiledT ju2 lu21).1) = 3 := by simpa using h9
                    refine l_pass T (wanted_no rfl rfl (T.ev 0 rfl) (by simp [h9])) rfl rfl rfl ?_; clear T ac; intro ac T
                    refine l_pass T (wanted_no rfl rfl (T.ev 1 rfl) (by simp [h9])) rfl rfl rfl ?_; clear T ac; intro ac T
                    refine l_pass T (wanted_no rfl rfl (T.ev 2 rfl) (by simp [h9])) rfl rfl rfl ?_; clear T ac; intro ac T
                    refine l_q T (wanted_yes rfl rfl (T.ev 6 rfl) rfl) rfl rfl rfl (rn_pick0 rfl (T.ev 3 rfl) (by simp [h9]) evc) ?_; clear T ac; intro ac T
                    refine l_q T rfl rfl rfl rfl (rn_pick0 rfl (T.ev 7 rfl) rfl (T.ev 0 rfl)) ?_; clear T ac; intro ac T
                    refine wpList_nil ?_
                    replace T := T.pick [0, 40, 41] rfl
                    exact ⟨(T.pick (E' := [(4, .pointer (some ⟨g1, 0, none⟩)), (5, .pointer (some ⟨g2, 0, none⟩)), (197, .bool false)]) [1, 2, 0] rfl).as (by (try rw [show (!(decide (((fineT ju2 lu21).2) = 0))) = false from (by simp [h2])]); (try rw [show (!(decide (((fineT jm lu21).2) = 0))) = false from (by simp [h3])]); (try rw [show (!(decide (((spoiledT ju2 lu21).2) = 0))) = false from (by simp [h4])]); (try rw [show (!(decide (((spoiledT jm lu21).2) = 0))) = false from (by simp [h5])]); (try rw [show (!(decide (((fineT ju2 lu21).1) = 3))) = false from (by simp [h6])]); (try rw [show (!(decide (((spoiledT ju2 lu21).1) = 3))) = false from (by simp [h9])]); rfl), M.mask [true, true] rfl⟩
      · clear T M
        rintro ac wc ⟨T, M⟩
        refine wp_cond_split (T.ev 2 rfl) ?_ ?_
        · intro h10
          (try have h10' := h10; try simp only [Bool.and_eq_true, Bool.or_eq_true, Bool.not_eq_true', Bool.and_eq_false_imp, Bool.or_eq_false_iff, decide_eq_true_eq, decide_eq_false_iff_not] at h10')
          refine wp_seq ?_
          refine wp_region_lit ?_
          refine l_q T rfl rfl rfl rfl (rn_assign rfl evc) ?_; clear T ac; intro ac T
          refine wpList_nil ?_
          replace T := T.pick [0] rfl
          replace M := M.mask [false, false] rfl
          refine nm_then ?_
          refine wp_ret ?_
          refine rt_then ?_
          refine rt_1 T rfl (T.ev 0 rfl) ?_
          exfalso
          obtain ⟨⟨q1, q2, q3, q4⟩, e, f⟩ := hb1
          simp only [q1, q2, q3, q4] at h10
          rcases e with e | e <;> rcases f with f | f <;> simp [e, f] at h10
        · intro h10
          (try have h10' := h10; try simp only [Bool.and_eq_true, Bool.or_eq_true, Bool.not_eq_true', Bool.and_eq_false_imp, Bool.or_eq_false_iff, decide_eq_true_eq, decide_eq_false_iff_not] at h10')
          refine wp_skip ?_
          refine nm_then ?_
          refine wp_seq ?_
          refine wp_region_lit ?_
          refine l_q T rfl rfl rfl rfl (rn_rowO (Mem.nth M 1 rfl) rfl (T.ev 0 rfl) rfl) ?_; clear T ac; intro ac T
          refine l_w rfl ?_; intro K hK
          refine ow_call (first := []) (cap := []) T rfl rfl rfl rfl evf (.cons (T.ev 0 rfl) .nil) Try.func19 rfl rfl ?_
          refine Calls.mono (Shortest_any ju2 _ _ _ (Su2.rd M (.cons _ (.cons _ (List.Sublist.trans (List.Sublist.trans (List.Sublist.refl _) (List.sublist_append_left _ _)) (List.sublist_append_left _ _))))) (by first | omega | (dsimp only [Jb.one]; omega))) ?_
          clear T
          rintro e wc ⟨Au26, cu26, rfl, hrlu26, hb⟩
          intro ac T
          replace M := M.call hb; clear hb
          clear hrlu26
          refine sh_out hK _ _ ?_; clear hK K
          refine l_q T rfl rfl rfl rfl (rn_move rfl (T.ev 0 rfl)) ?_; clear T ac; intro ac T
          refine l_q T rfl rfl rfl rfl (rn_extract rfl (T.ev 0 rfl) rfl) ?_; clear T ac; intro ac T
          refine l_q T rfl rfl rfl rfl (rn_extract rfl (T.ev 1 rfl) rfl) ?_; clear T ac; intro ac T
          refine l_q T rfl rfl rfl rfl (rn_assign rfl (T.ev 1 rfl)) ?_; clear T ac; intro ac T
          refine l_q T rfl rfl rfl rfl (rn_assign rfl (T.ev 1 rfl)) ?_; clear T ac; intro ac T
          refine wpList_nil ?_
          replace T := T.pick [0, 1, 7, 8] rfl
          refine nm_then ?_
          refine wp_seq ?_
          refine wp_region_lit ?_
          refine l_q T rfl rfl rfl rfl (rn_rowO (Mem.nth M 0 rfl) rfl (T.ev 3 rfl) rfl) ?_; clear T ac; intro ac T
          refine l_w rfl ?_; intro K hK
          refine ow_call (first := []) (cap := []) T rfl rfl rfl rfl evf (.cons (T.ev 0 rfl) .nil) Try.func19 rfl rfl ?_
          refine Calls.mono (Shortest_any jm _ _ _ (Sjm.rd M (.cons _ (.cons _ (List.Sublist.trans (List.sublist_append_right _ _) (List.sublist_append_left _ _))))) (by first | omega | (dsimp only [Jb.one]; omega))) ?_
          clear T
          rintro e wc ⟨Au27, cu27, rfl, hrlu27, hb⟩
          intro ac T
          replace M := M.call hb; clear hb
          clear hrlu27
          refine sh_out hK _ _ ?_; clear hK K
          refine l_q T rfl rfl rfl rfl (rn_move rfl (T.ev 0 rfl)) ?_; clear T ac; intro ac T
          refine l_q T rfl rfl rfl rfl (rn_extract rfl (T.ev 0 rfl) rfl) ?_; clear T ac; intro ac T
          refine l_q T rfl rfl rfl rfl (rn_extract rfl (T.ev 1 rfl) rfl) ?_; clear T ac; intro ac T
          refine l_q T rfl rfl rfl rfl (rn_assign rfl (T.ev 1 rfl)) ?_; clear T ac; intro ac T
          refine l_q T rfl rfl rfl rfl (rn_assign rfl (T.ev 1 rfl)) ?_; clear T ac; intro ac T
          refine wpList_nil ?_
          replace T := T.pick [0, 1, 7, 8, 9, 10] rfl
          refine nm_then ?_
          refine wp_seq ?_
          refine wp_region_lit ?_
          refine l_q T rfl rfl rfl rfl (rn_rowO (Mem.nth M 1 rfl) rfl (T.ev 4 rfl) rfl) ?_; clear T ac; intro ac T
          refine l_w rfl ?_; intro K hK
          refine ow_call (first := []) (cap := []) T rfl rfl rfl rfl evf (.cons (T.ev 0 rfl) .nil) Try.func24 rfl rfl ?_
          refine Calls.mono (Guided_any ju2 _ _ _ (Su2.rd M (.cons _ (.cons _ (List.Sublist.trans (List.Sublist.trans (List.Sublist.refl _) (List.sublist_append_left _ _)) (List.sublist_append_left _ _))))) (by first | omega | (dsimp only [Jb.one]; omega))) ?_
          clear T
          rintro e wc ⟨rfl, hb⟩
          intro ac T
          replace M := M.call hb; clear hb
          refine sh_out hK _ _ ?_; clear hK K
          refine l_q T rfl rfl rfl rfl (rn_move rfl (T.ev 0 rfl)) ?_; clear T ac; intro ac T
          refine l_q T rfl rfl rfl rfl (rn_extract rfl (T.ev 0 rfl) rfl) ?_; clear T ac; intro ac T
          refine l_q T rfl rfl rfl rfl (rn_extract rfl (T.ev 1 rfl) rfl) ?_; clear T ac; intro ac T
          refine l_q T rfl rfl rfl rfl (rn_assign rfl (T.ev 1 rfl)) ?_; clear T ac; intro ac T
          refine l_q T rfl rfl rfl rfl (rn_assign rfl (T.ev 1 rfl)) ?_; clear T ac; intro ac T
          refine wpList_nil ?_
          replace T := T.pick [0, 1, 7, 8, 9, 10, 12] rfl
          replace M := M.mask [true, false] rfl
          refine nm_then ?_
          refine wp_seq ?_
          refine wp_region_lit ?_
          refine l_q T rfl rfl rfl rfl (rn_rowO (Mem.nth M 0 rfl) rfl (T.ev 6 rfl) rfl) ?_; clear T ac; intro ac T
          refine l_w rfl ?_; intro K hK
          refine ow_call (first := []) (cap := []) T rfl rfl rfl rfl evf (.cons (T.ev 0 rfl) .nil) Try.func24 rfl rfl ?_
          refine Calls.mono (Guided_any jm _ _ _ (Sjm.rd M (.cons _ (List.Sublist.trans (List.sublist_append_right _ _) (List.sublist_append_left _ _)))) (by first | omega | (dsimp only [Jb.one]; omega))) ?_
          clear T
          rintro e wc ⟨rfl, hb⟩
          intro ac T
          replace M := M.call hb; clear hb
          refine sh_out hK _ _ ?_; clear hK K
          refine l_q T rfl rfl rfl rfl (rn_move rfl (T.ev 0 rfl)) ?_; clear T ac; intro ac T
          refine l_q T rfl rfl rfl rfl (rn_extract rfl (T.ev 0 rfl) rfl) ?_; clear T ac; intro ac T
          refine l_q T rfl rfl rfl rfl (rn_extract rfl (T.ev 1 rfl) rfl) ?_; clear T ac; intro ac T
          refine l_q T rfl rfl rfl rfl (rn_assign rfl (T.ev 1 rfl)) ?_; clear T ac; intro ac T
          refine l_q T rfl rfl rfl rfl (rn_assign rfl (T.ev 1 rfl)) ?_; clear T ac; intro ac T
          refine wpList_nil ?_
          replace T := T.pick [0, 1, 7, 8, 9, 10, 11, 12] rfl
          replace M := M.mask [false] rfl
          refine nm_then ?_
          refine cut_seq (fun ac wc => Tm ac 263 [(2, .bool (bif (!(decide ((shortE ju2) = 0))) then (bif (!(decide (((guidedJ ju2).2) = 0))) then (bif (decide ((shortE jm) = 0)) then ((decide (((guidedJ jm).2) = 0)) || (decide (((guidedJ jm).2) = 11))) else ((decide ((shortE jm) = 11)) && ((decide (((guidedJ jm).2) = 0)) || (decide (((guidedJ jm).2) = 11))))) else ((decide (((guidedJ jm).2) = 0)) && ((decide (((guidedJ jm).1) ≤ ((guidedJ ju2).1))) && ((decide ((shortE jm) = 0)) || (decide ((shortE jm) = 11)))))) else ((decide ((shortE jm) = 0)) && ((decide ((((shortL jm).length : Nat) : Int) ≤ (((shortL ju2).length : Nat) : Int))) && (bif (!(decide (((guidedJ ju2).2) = 0))) then ((decide (((guidedJ jm).2) = 0)) || (decide (((guidedJ jm).2) = 11))) else ((decide (((guidedJ jm).2) = 0)) && (decide (((guidedJ jm).1) ≤ ((guidedJ ju2).1)))))))))] ∧ Mem w noEx wc ((Iu2 ++ Ix ++ Iu21))) ?_ ?_
          · refine wp_region_lit ?_
            refine l_q T rfl rfl rfl rfl (rn_move rfl (T.ev 6 rfl)) ?_; clear T ac; intro ac T
            refine l_q T rfl rfl rfl rfl (rn_neq rfl (T.ev 0 rfl) evc) ?_; clear T ac; intro ac T
            refine l_q T rfl rfl rfl rfl (rn_move rfl (T.ev 0 rfl)) ?_; clear T ac; intro ac T
            rcases Bool.eq_false_or_eq_true (!(decide ((shortE ju2) = 0))) with h11 | h11
            · replace h11 : ¬ ((shortE ju2) = 0) := by simpa using h11
              refine l_pass T (wanted_no rfl rfl (T.ev 0 rfl) (by simp [h11])) rfl rfl rfl ?_; clear T ac; intro ac T
              refine l_pass T (wanted_no rfl rfl (T.ev 1 rfl) (by simp [h11])) rfl rfl rfl ?_; clear T ac; intro ac T
              refine l_pass T (wanted_no rfl rfl (T.ev 2 rfl) (by simp [h11])) rfl rfl rfl ?_; clear T ac; intro ac T
              refine l_pass T (wanted_un rfl rfl (T.ev 0 rfl)) rfl rfl rfl ?_; clear T ac; intro ac T
              refine l_pass T (wanted_un rfl rfl (T.ev 1 rfl)) rfl rfl rfl ?_; clear T ac; intro ac T
              refine l_pass T (wanted_un rfl rfl (T.ev 2 rfl)) rfl rfl rfl ?_; clear T ac; intro ac T
              refine l_pass T (wanted_un rfl rfl (T.ev 3 rfl)) rfl rfl rfl ?_; clear T ac; intro ac T
              refine l_pass T (wanted_un rfl rfl (T.ev 4 rfl)) rfl rfl rfl ?_; clear T ac; intro ac T
              refine l_pass T (wanted_no rfl rfl (T.ev 8 rfl) (by simp [h11])) rfl rfl rfl ?_; clear T ac; intro ac T
              refine l_q T rfl rfl rfl rfl (rn_pick1 rfl (T.ev 9 rfl) (by simp [h11]) evc) ?_; clear T ac; intro ac T
              refine l_q T rfl rfl rfl rfl (rn_move rfl (T.ev 0 rfl)) ?_; clear T ac; intro ac T
              refine l_q T (wanted_yes rfl rfl (T.ev 0 rfl) rfl) rfl rfl rfl (rn_move rfl (T.ev 16 rfl)) ?_; clear T ac; intro ac T
              refine l_q T (wanted_yes rfl rfl (T.ev 1 rfl) rfl) rfl rfl rfl (rn_neq rfl (T.ev 0 rfl) evc) ?_; clear T ac; intro ac T
              refine l_q T (wanted_yes rfl rfl (T.ev 2 rfl) rfl) rfl rfl rfl (rn_move rfl (T.ev 0 rfl)) ?_; clear T ac; intro ac T
              rcases Bool.eq_false_or_eq_true (!(decide (((guidedJ ju2).2) = 0))) with h12 | h12
              · replace h12 : ¬ (((guidedJ ju2).2) = 0) := by simpa using h12
                refine l_pass T (wanted_no rfl rfl (T.ev 0 rfl) (by simp [h12])) rfl rfl rfl ?_; clear T ac; intro ac T
                refine l_pass T (wanted_no rfl rfl (T.ev 1 rfl) (by simp [h12])) rfl rfl rfl ?_; clear T ac; intro ac T
                refine l_pass T (wanted_no rfl rfl (T.ev 2 rfl) (by simp [h12])) rfl rfl rfl ?_; clear T ac; intro ac T
                refine l_pass T (wanted_un rfl rfl (T.ev 0 rfl)) rfl rfl rfl ?_; clear T ac; intro ac T
                refine l_pass T (wanted_un rfl rfl (T.ev 1 rfl)) rfl rfl rfl ?_; clear T ac; intro ac T
                refine l_pass T (wanted_un rfl rfl (T.ev 2 rfl)) rfl rfl rfl ?_; clear T ac; intro ac T
                refine l_pass T (wanted_no rfl rfl (T.ev 6 rfl) (by simp [h12])) rfl rfl rfl ?_; clear T ac; intro ac T
                refine l_q T (wanted_yes rfl rfl (T.ev 10 rfl) rfl) rfl rfl rfl (rn_pick1 rfl (T.ev 7 rfl) (by simp [h12]) evc) ?_; clear T ac; intro ac T
                refine l_q T rfl rfl rfl rfl (rn_pick1 rfl (T.ev 11 rfl) rfl (T.ev 0 rfl)) ?_; clear T ac; intro ac T
                refine l_q T rfl rfl rfl rfl (rn_move rfl (T.ev 0 rfl)) ?_; clear T ac; intro ac T
                refine l_q T (wanted_yes rfl rfl (T.ev 0 rfl) rfl) rfl rfl rfl (rn_move rfl (T.ev 31 rfl)) ?_; clear T ac; intro ac T
                refine l_q T (wanted_yes rfl rfl (T.ev 1 rfl) rfl) rfl rfl rfl (rn_eql rfl (T.ev 0 rfl) evc) ?_; clear T ac; intro ac T
                refine l_q T (wanted_yes rfl rfl (T.ev 2 rfl) rfl) rfl rfl rfl (rn_move rfl (T.ev 0 rfl)) ?_; clear T ac; intro ac T
                rcases Bool.eq_false_or_eq_true (decide ((shortE jm) = 0)) with h13 | h13
                · replace h13 := of_decide_eq_true h13
                  refine l_pass T (wanted_no rfl rfl (T.ev 0 rfl) (decide_eq_true h13)) rfl rfl rfl ?_; clear T ac; intro ac T
                  refine l_pass T (wanted_no rfl rfl (T.ev 1 rfl) (decide_eq_true h13)) rfl rfl rfl ?_; clear T ac; intro ac T
                  refine l_q T (wanted_yes rfl rfl (T.ev 5 rfl) rfl) rfl rfl rfl (rn_pick1 rfl (T.ev 2 rfl) (decide_eq_true h13) evc) ?_; clear T ac; intro ac T
                  refine l_q T rfl rfl rfl rfl (rn_pick1 rfl (T.ev 6 rfl) rfl (T.ev 0 rfl)) ?_; clear T ac; intro ac T
                  refine l_q T rfl rfl rfl rfl (rn_move rfl (T.ev 0 rfl)) ?_; clear T ac; intro ac T
                  refine l_q T (wanted_yes rfl rfl (T.ev 0 rfl) rfl) rfl rfl rfl (rn_move rfl (T.ev 35 rfl)) ?_; clear T ac; intro ac T
                  refine l_q T (wanted_yes rfl rfl (T.ev 1 rfl) rfl) rfl rfl rfl (rn_eql rfl (T.ev 0 rfl) evc) ?_; clear T ac; intro ac T
                  refine l_q T (wanted_yes rfl rfl (T.ev 2 rfl) rfl) rfl rfl rfl (rn_move rfl (T.ev 0 rfl)) ?_; clear T ac; intro ac T
                  rcases Bool.eq_false_or_eq_true (decide (((guidedJ jm).2) = 0)) with h14 | h14
                  · replace h14 := of_decide_eq_true h14
                    refine l_pass T (wanted_no rfl rfl (T.ev 0 rfl) (decide_eq_true h14)) rfl rfl rfl ?_; clear T ac; intro ac T
                    refine l_pass T (wanted_no rfl rfl (T.ev 1 rfl) (decide_eq_true h14)) rfl rfl rfl ?_; clear T ac; intro ac T
                    refine l_q T (wanted_yes rfl rfl (T.ev 5 rfl) rfl) rfl rfl rfl (rn_pick1 rfl (T.ev 2 rfl) (decide_eq_true h14) evc) ?_; clear T ac; intro ac T
                    refine l_q T rfl rfl rfl rfl (rn_pick1 rfl (T.ev 6 rfl) rfl (T.ev 0 rfl)) ?_; clear T ac; intro ac T
                    refine l_q T rfl rfl rfl rfl (rn_move rfl (T.ev 0 rfl)) ?_; clear T ac; intro ac T
                    refine l_w (wanted_yes rfl rfl (T.ev 0 rfl) rfl) ?_; intro K hK
                    refine ow_call (first := []) (cap := []) T rfl rfl rfl rfl evf .nil Try.func15 rfl rfl ?_
                    refine Calls.mono (tuned_any _) ?_
                    clear T
                    rintro e wc ⟨rfl, hb⟩
                    intro ac T
                    replace M := M.call hb; clear hb
                    refine sh_out hK _ _ ?_; clear hK K
                    refine l_q T rfl rfl rfl rfl (rn_pick1 rfl (T.ev 1 rfl) rfl (T.ev 0 rfl)) ?_; clear T ac; intro ac T
                    refine l_q T rfl rfl rfl rfl (rn_assign rfl (T.ev 0 rfl)) ?_; clear T ac; intro ac T
                    refine wpList_nil ?_
                    replace T := T.pick [0] rfl
                    exact ⟨(T.pick (E' := [(2, .bool true)]) [0] rfl).as (by (try rw [show (!(decide ((shortE ju2) = 0))) = true from (by simp [h11])]); (try rw [show (!(decide (((guidedJ ju2).2) = 0))) = true from (by simp [h12])]); (try rw [show (decide ((shortE jm) = 0)) = true from (decide_eq_true h13)]); (try rw [show (decide (((guidedJ jm).2) = 0)) = true from (decide_eq_true h14)]); rfl), M.mask [] rfl⟩
                  · replace h14 := of_decide_eq_false h14
                    refine l_q T (wanted_yes rfl rfl (T.ev 0 rfl) (decide_eq_false h14)) rfl rfl rfl (rn_move rfl (T.ev 38 rfl)) ?_; clear T ac; intro ac T
                    refine l_q T (wanted_yes rfl rfl (T.ev 1 rfl) (decide_eq_false h14)) rfl rfl rfl (rn_eql rfl (T.ev 0 rfl) evc) ?_; clear T ac; intro ac T
                    refine l_q T (wanted_yes rfl rfl (T.ev 5 rfl) rfl) rfl rfl rfl (rn_pick0 rfl (T.ev 2 rfl) (decide_eq_false h14) (T.ev 0 rfl)) ?_; clear T ac; intro ac T
                    refine l_q T rfl rfl rfl rfl (rn_pick1 rfl (T.ev 6 rfl) rfl (T.ev 0 rfl)) ?_; clear T ac; intro ac T
                    refine l_q T rfl rfl rfl rfl (rn_move rfl (T.ev 0 rfl)) ?_; clear T ac; intro ac T
                    rcases Bool.eq_false_or_eq_true (decide (((guidedJ jm).2) = 11)) with h15 | h15
                    · replace h15 := of_decide_eq_true h15
                      refine l_w (wanted_yes rfl rfl (T.ev 0 rfl) (decide_eq_true h15)) ?_; intro K hK
                      refine ow_call (first := []) (cap := []) T rfl rfl rfl rfl evf .nil Try.func15 rfl rfl ?_
                      refine Calls.mono (tuned_any _) ?_
                      clear T
                      rintro e wc ⟨rfl, hb⟩
                      intro ac T
                      replace M := M.call hb; clear hb
                      refine sh_out hK _ _ ?_; clear hK K
                      refine l_q T rfl rfl rfl rfl (rn_pick1 rfl (T.ev 1 rfl) (decide_eq_true h15) (T.ev 0 rfl)) ?_; clear T ac; intro ac T
                      refine l_q T rfl rfl rfl rfl (rn_assign rfl (T.ev 0 rfl)) ?_; clear T ac; intro ac T
                      refine wpList_nil ?_
                      replace T := T.pick [0] rfl
                      exact ⟨(T.pick (E' := [(2, .bool true)]) [0] rfl).as (by (try rw [show (!(decide ((shortE ju2) = 0))) = true from (by simp [h11])]); (try rw [show (!(decide (((guidedJ ju2).2) = 0))) = true from (by simp [h12])]); (try rw [show (decide ((shortE jm) = 0)) = true from (decide_eq_true h13)]); (try rw [show (decide (((guidedJ jm).2) = 0)) = false from (decide_eq_false h14)]); (try rw [show (decide (((guidedJ jm).2) = 11)) = true from (decide_eq_true h15)]); rfl), M.mask [] rfl⟩
                    · replace h15 := of_decide_eq_false h15
                      refine l_pass T (wanted_no rfl rfl (T.ev 0 rfl) (decide_eq_false h15)) rfl rfl rfl ?_; clear T ac; intro ac T
                      refine l_q T rfl rfl rfl rfl (rn_pick0 rfl (T.ev 1 rfl) (decide_eq_false h15) evc) ?_; clear T ac; intro ac T
                      refine l_q T rfl rfl rfl rfl (rn_assign rfl (T.ev 0 rfl)) ?_; clear T ac; intro ac T
                      refine wpList_nil ?_
                      replace T := T.pick [0] rfl
                      exact ⟨(T.pick (E' := [(2, .bool false)]) [0] rfl).as (by (try rw [show (!(decide ((shortE ju2) = 0))) = true from (by simp [h11])]); (try rw [show (!(decide (((guidedJ ju2).2) = 0))) = true from (by simp [h12])]); (try rw [show (decide ((shortE jm) = 0)) = true from (decide_eq_true h13)]); (try rw [show (decide (((guidedJ jm).2) = 0)) = false from (decide_eq_false h14)]); (try rw [show (decide (((guidedJ jm).2) = 11)) = false from (decide_eq_false h15)]); rfl), M.mask [] rfl⟩
                · replace h13 := of_decide_eq_false h13
                  refine l_q T (wanted_yes rfl rfl (T.ev 0 rfl) (decide_eq_false h13)) rfl rfl rfl (rn_move rfl (T.ev 34 rfl)) ?_; clear T ac; intro ac T
                  refine l_q T (wanted_yes rfl rfl (T.ev 1 rfl) (decide_eq_false h13)) rfl rfl rfl (rn_eql rfl (T.ev 0 rfl) evc) ?_; clear T ac; intro ac T
                  refine l_q T (wanted_yes rfl rfl (T.ev 5 rfl) rfl) rfl rfl rfl (rn_pick0 rfl (T.ev 2 rfl) (decide_eq_false h13) (T.ev 0 rfl)) ?_; clear T ac; intro ac T
                  refine l_q T rfl rfl rfl rfl (rn_pick1 rfl (T.ev 6 rfl) rfl (T.ev 0 rfl)) ?_; clear T ac; intro ac T
                  refine l_q T rfl rfl rfl rfl (rn_move rfl (T.ev 0 rfl)) ?_; clear T ac; intro ac T
                  rcases Bool.eq_false_or_eq_true (decide ((shortE jm) = 11)) with h16 | h16
                  · replace h16 := of_decide_eq_true h16
                    refine l_q T (wanted_yes rfl rfl (T.ev 0 rfl) (decide_eq_true h16)) rfl rfl rfl (rn_move rfl (T.ev 35 rfl)) ?_; clear T ac; intro ac T
                    refine l_q T (wanted_yes rfl rfl (T.ev 1 rfl) (decide_eq_true h16)) rfl rfl rfl (rn_eql rfl (T.ev 0 rfl) evc) ?_; clear T ac; intro ac T
                    refine l_q T (wanted_yes rfl rfl (T.ev 2 rfl) (decide_eq_true h16)) rfl rfl rfl (rn_move rfl (T.ev 0 rfl)) ?_; clear T ac; intro ac T
                    rcases Bool.eq_false_or_eq_true (decide (((guidedJ jm).2) = 0)) with h17 | h17
                    · replace h17 := of_decide_eq_true h17
                      refine l_pass T (wanted_no rfl rfl (T.ev 0 rfl) (decide_eq_true h17)) rfl rfl rfl ?_; clear T ac; intro ac T
                      refine l_pass T (wanted_no rfl rfl (T.ev 1 rfl) (decide_eq_true h17)) rfl rfl rfl ?_; clear T ac; intro ac T
                      refine l_q T (wanted_yes rfl rfl (T.ev 5 rfl) (decide_eq_true h16)) rfl rfl rfl (rn_pick1 rfl (T.ev 2 rfl) (decide_eq_true h17) evc) ?_; clear T ac; intro ac T
                      refine l_q T rfl rfl rfl rfl (rn_pick1 rfl (T.ev 6 rfl) (decide_eq_true h16) (T.ev 0 rfl)) ?_; clear T ac; intro ac T
                      refine l_q T rfl rfl rfl rfl (rn_move rfl (T.ev 0 rfl)) ?_; clear T ac; intro ac T
                      refine l_w (wanted_yes rfl rfl (T.ev 0 rfl) rfl) ?_; intro K hK
                      refine ow_call (first := []) (cap := []) T rfl rfl rfl rfl evf .nil Try.func15 rfl rfl ?_
                      refine Calls.mono (tuned_any _) ?_
                      clear T
                      rintro e wc ⟨rfl, hb⟩
                      intro ac T
                      replace M := M.call hb; clear hb
                      refine sh_out hK _ _ ?_; clear hK K
                      refine l_q T rfl rfl rfl rfl (rn_pick1 rfl (T.ev 1 rfl) rfl (T.ev 0 rfl)) ?_; clear T ac; intro ac T
                      refine l_q T rfl rfl rfl rfl (rn_assign rfl (T.ev 0 rfl)) ?_; clear T ac; intro ac T
                      refine wpList_nil ?_
                      replace T := T.pick [0] rfl
                      exact ⟨(T.pick (E' := [(2, .bool true)]) [0] rfl).as (by (try rw [show (!(decide ((shortE ju2) = 0))) = true from (by simp [h11])]); (try rw [show (!(decide (((guidedJ ju2).2) = 0))) = true from (by simp [h12])]); (try rw [show (decide ((shortE jm) = 0)) = false from (decide_eq_false h13)]); (try rw [show (decide ((shortE jm) = 11)) = true from (decide_eq_true h16)]); (try rw [show (decide (((guidedJ jm).2) = 0)) = true from (decide_eq_true h17)]); rfl), M.mask [] rfl⟩
                    · replace h17 := of_decide_eq_false h17
                      refine l_q T (wanted_yes rfl rfl (T.ev 0 rfl) (decide_eq_false h17)) rfl rfl rfl (rn_move rfl (T.ev 38 rfl)) ?_; clear T ac; intro ac T
                      refine l_q T (wanted_yes rfl rfl (T.ev 1 rfl) (decide_eq_false h17)) rfl rfl rfl (rn_eql rfl (T.ev 0 rfl) evc) ?_; clear T ac; intro ac T
                      refine l_q T (wanted_yes rfl rfl (T.ev 5 rfl) (decide_eq_true h16)) rfl rfl rfl (rn_pick0 rfl (T.ev 2 rfl) (decide_eq_false h17) (T.ev 0 rfl)) ?_; clear T ac; intro ac T
                      refine l_q T rfl rfl rfl rfl (rn_pick1 rfl (T.ev 6 rfl) (decide_eq_true h16) (T.ev 0 rfl)) ?_; clear T ac; intro ac T
                      refine l_q T rfl rfl rfl rfl (rn_move rfl (T.ev 0 rfl)) ?_; clear T ac; intro ac T
                      rcases Bool.eq_false_or_eq_true (decide (((guidedJ jm).2) = 11)) with h18 | h18
                      · replace h18 := of_decide_eq_true h18
                        refine l_w (wanted_yes rfl rfl (T.ev 0 rfl) (decide_eq_true h18)) ?_; intro K hK
                        refine ow_call (first := []) (cap := []) T rfl rfl rfl rfl evf .nil Try.func15 rfl rfl ?_
                        refine Calls.mono (tuned_any _) ?_
                        clear T
                        rintro e wc ⟨rfl, hb⟩
                        intro ac T
                        replace M := M.call hb; clear hb
                        refine sh_out hK _ _ ?_; clear hK K
                        refine l_q T rfl rfl rfl rfl (rn_pick1 rfl (T.ev 1 rfl) (decide_eq_true h18) (T.ev 0 rfl)) ?_; clear T ac; intro ac T
                        refine l_q T rfl rfl rfl rfl (rn_assign rfl (T.ev 0 rfl)) ?_; clear T ac; intro ac T
                        refine wpList_nil ?_
                        replace T := T.pick [0] rfl
                        exact ⟨(T.pick (E' := [(2, .bool true)]) [0] rfl).as (by (try rw [show (!(decide ((shortE ju2) = 0))) = true from (by simp [h11])]); (try rw [show (!(decide (((guidedJ ju2).2) = 0))) = true from (by simp [h12])]); (try rw [show (decide ((shortE jm) = 0)) = false from (decide_eq_false h13)]); (try rw [show (decide ((shortE jm) = 11)) = true from (decide_eq_true h16)]); (try rw [show (decide (((guidedJ jm).2) = 0)) = false from (decide_eq_false h17)]); (try rw [show (decide (((guidedJ jm).2) = 11)) = true from (decide_eq_true h18)]); rfl), M.mask [] rfl⟩
                      · replace h18 := of_decide_eq_false h18
                        refine l_pass T (wanted_no rfl rfl (T.ev 0 rfl) (decide_eq_false h18)) rfl rfl rfl ?_; clear T ac; intro ac T
                        refine l_q T rfl rfl rfl rfl (rn_pick0 rfl (T.ev 1 rfl) (decide_eq_false h18) evc) ?_; clear T ac; intro ac T
                        refine l_q T rfl rfl rfl rfl (rn_assign rfl (T.ev 0 rfl)) ?_; clear T ac; intro ac T
                        refine wpList_nil ?_
                        replace T := T.pick [0] rfl
                        exact ⟨(T.pick (E' := [(2, .bool false)]) [0] rfl).as (by (try rw [show (!(decide ((shortE ju2) = 0))) = true from (by simp [h11])]); (try rw [show (!(decide (((guidedJ ju2).2) = 0))) = true from (by simp [h12])]); (try rw [show (decide ((shortE jm) = 0)) = false from (decide_eq_false h13)]); (try rw [show (decide ((shortE jm) = 11)) = true from (decide_eq_true h16)]); (try rw [show (decide (((guidedJ jm).2) = 0)) = false from (decide_eq_false h17)]); (try rw [show (decide (((guidedJ jm).2) = 11)) = false from (decide_eq_false h18)]); rfl), M.mask [] rfl⟩
                  · replace h16 := of_decide_eq_false h16
                    refine l_pass T (wanted_no rfl rfl (T.ev 0 rfl) (decide_eq_false h16)) rfl rfl rfl ?_; clear T ac; intro ac T
                    refine l_pass T (wanted_no rfl rfl (T.ev 1 rfl) (decide_eq_false h16)) rfl rfl rfl ?_; clear T ac; intro ac T
                    refine l_pass T (wanted_no rfl rfl (T.ev 2 rfl) (decide_eq_false h16)) rfl rfl rfl ?_; clear T ac; intro ac T
                    refine l_pass T (wanted_un rfl rfl (T.ev 0 rfl)) rfl rfl rfl ?_; clear T ac; intro ac T
                    refine l_pass T (wanted_un rfl rfl (T.ev 1 rfl)) rfl rfl rfl ?_; clear T ac; intro ac T
                    refine l_pass T (wanted_no rfl rfl (T.ev 5 rfl) (decide_eq_false h16)) rfl rfl rfl ?_; clear T ac; intro ac T
                    refine l_q T rfl rfl rfl rfl (rn_pick0 rfl (T.ev 6 rfl) (decide_eq_false h16) evc) ?_; clear T ac; intro ac T
                    refine l_q T rfl rfl rfl rfl (rn_move rfl (T.ev 0 rfl)) ?_; clear T ac; intro ac T
                    refine l_pass T (wanted_no rfl rfl (T.ev 0 rfl) rfl) rfl rfl rfl ?_; clear T ac; intro ac T
                    refine l_q T rfl rfl rfl rfl (rn_pick0 rfl (T.ev 1 rfl) rfl evc) ?_; clear T ac; intro ac T
                    refine l_q T rfl rfl rfl rfl (rn_assign rfl (T.ev 0 rfl)) ?_; clear T ac; intro ac T
                    refine wpList_nil ?_
                    replace T := T.pick [0] rfl
                    exact ⟨(T.pick (E' := [(2, .bool false)]) [0] rfl).as (by (try rw [show (!(decide ((shortE ju2) = 0))) = true from (by simp [h11])]); (try rw [show (!(decide (((guidedJ ju2).2) = 0))) = true from (by simp [h12])]); (try rw [show (decide ((shortE jm) = 0)) = false from (decide_eq_false h13)]); (try rw [show (decide ((shortE jm) = 11)) = false from (decide_eq_false h16)]); rfl), M.mask [] rfl⟩
              · replace h12 : ((guidedJ ju2).2) = 0 := by simpa using h12
                refine l_q T (wanted_yes rfl rfl (T.ev 0 rfl) (by simp [h12])) rfl rfl rfl (rn_move rfl (T.ev 17 rfl)) ?_; clear T ac; intro ac T
                refine l_q T (wanted_yes rfl rfl (T.ev 1 rfl) (by simp [h12])) rfl rfl rfl (rn_eql rfl (T.ev 0 rfl) evc) ?_; clear T ac; intro ac T
                refine l_q T (wanted_yes rfl rfl (T.ev 2 rfl) (by simp [h12])) rfl rfl rfl (rn_move rfl (T.ev 0 rfl)) ?_; clear T ac; intro ac T
                rcases Bool.eq_false_or_eq_true (decide (((guidedJ jm).2) = 0)) with h19 | h19
                · replace h19 := of_decide_eq_true h19
                  refine l_q T (wanted_yes rfl rfl (T.ev 0 rfl) (decide_eq_true h19)) rfl rfl rfl (rn_move rfl (T.ev 21 rfl)) ?_; clear T ac; intro ac T
                  refine l_q T (wanted_yes rfl rfl (T.ev 1 rfl) (decide_eq_true h19)) rfl rfl rfl (rn_move rfl (T.ev 24 rfl)) ?_; clear T ac; intro ac T
                  refine l_q T (wanted_yes rfl rfl (T.ev 2 rfl) (decide_eq_true h19)) rfl rfl rfl (rn_leq rfl (T.ev 1 rfl) (T.ev 0 rfl)) ?_; clear T ac; intro ac T
                  refine l_q T (wanted_yes rfl rfl (T.ev 6 rfl) (by simp [h12])) rfl rfl rfl (rn_pick1 rfl (T.ev 3 rfl) (decide_eq_true h19) (T.ev 0 rfl)) ?_; clear T ac; intro ac T
                  refine l_q T (wanted_yes rfl rfl (T.ev 10 rfl) rfl) rfl rfl rfl (rn_pick0 rfl (T.ev 7 rfl) (by simp [h12]) (T.ev 0 rfl)) ?_; clear T ac; intro ac T
                  refine l_q T rfl rfl rfl rfl (rn_pick1 rfl (T.ev 11 rfl) rfl (T.ev 0 rfl)) ?_; clear T ac; intro ac T
                  refine l_q T rfl rfl rfl rfl (rn_move rfl (T.ev 0 rfl)) ?_; clear T ac; intro ac T
                  rcases Bool.eq_false_or_eq_true (decide (((guidedJ jm).1) ≤ ((guidedJ ju2).1))) with h20 | h20
                  · replace h20 := of_decide_eq_true h20
                    refine l_q T (wanted_yes rfl rfl (T.ev 0 rfl) (decide_eq_true h20)) rfl rfl rfl (rn_move rfl (T.ev 31 rfl)) ?_; clear T ac; intro ac T
                    refine l_q T (wanted_yes rfl rfl (T.ev 1 rfl) (decide_eq_true h20)) rfl rfl rfl (rn_eql rfl (T.ev 0 rfl) evc) ?_; clear T ac; intro ac T
                    refine l_q T (wanted_yes rfl rfl (T.ev 2 rfl) (decide_eq_true h20)) rfl rfl rfl (rn_move rfl (T.ev 0 rfl)) ?_; clear T ac; intro ac T
                    rcases Bool.eq_false_or_eq_true (decide ((shortE jm) = 0)) with h21 | h21
                    · replace h21 := of_decide_eq_true h21
                      refine l_pass T (wanted_no rfl rfl (T.ev 0 rfl) (decide_eq_true h21)) rfl rfl rfl ?_; clear T ac; intro ac T
                      refine l_pass T (wanted_no rfl rfl (T.ev 1 rfl) (decide_eq_true h21)) rfl rfl rfl ?_; clear T ac; intro ac T
                      refine l_q T (wanted_yes rfl rfl (T.ev 5 rfl) (decide_eq_true h20)) rfl rfl rfl (rn_pick1 rfl (T.ev 2 rfl) (decide_eq_true h21) evc) ?_; clear T ac; intro ac T
                      refine l_q T rfl rfl rfl rfl (rn_pick1 rfl (T.ev 6 rfl) (decide_eq_true h20) (T.ev 0 rfl)) ?_; clear T ac; intro ac T
                      refine l_q T rfl rfl rfl rfl (rn_move rfl (T.ev 0 rfl)) ?_; clear T ac; intro ac T
                      refine l_q T (wanted_yes rfl rfl (T.ev 0 rfl) rfl) rfl rfl rfl (rn_move rfl (T.ev 35 rfl)) ?_; clear T ac; intro ac T
                      refine l_q T (wanted_yes rfl rfl (T.ev 1 rfl) rfl) rfl rfl rfl (rn_eql rfl (T.ev 0 rfl) evc) ?_; clear T ac; intro ac T
                      refine l_q T (wanted_yes rfl rfl (T.ev 2 rfl) rfl) rfl rfl rfl (rn_move rfl (T.ev 0 rfl)) ?_; clear T ac; intro ac T
                      refine l_pass T (wanted_no rfl rfl (T.ev 0 rfl) (decide_eq_true h19)) rfl rfl rfl ?_; clear T ac; intro ac T
                      refine l_pass T (wanted_no rfl rfl (T.ev 1 rfl) (decide_eq_true h19)) rfl rfl rfl ?_; clear T ac; intro ac T
                      refine l_q T (wanted_yes rfl rfl (T.ev 5 rfl) rfl) rfl rfl rfl (rn_pick1 rfl (T.ev 2 rfl) (decide_eq_true h19) evc) ?_; clear T ac; intro ac T
                      refine l_q T rfl rfl rfl rfl (rn_pick1 rfl (T.ev 6 rfl) rfl (T.ev 0 rfl)) ?_; clear T ac; intro ac T
                      refine l_q T rfl rfl rfl rfl (rn_move rfl (T.ev 0 rfl)) ?_; clear T ac; intro ac T
                      refine l_w (wanted_yes rfl rfl (T.ev 0 rfl) rfl) ?_; intro K hK
                      refine ow_call (first := []) (cap := []) T rfl rfl rfl rfl evf .nil Try.func15 rfl rfl ?_
                      refine Calls.mono (tuned_any _) ?_
                      clear T
                      rintro e wc ⟨rfl, hb⟩
                      intro ac T
                      replace M := M.call hb; clear hb
                      refine sh_out hK _ _ ?_; clear hK K
                      refine l_q T rfl rfl rfl rfl (rn_pick1 rfl (T.ev 1 rfl) rfl (T.ev 0 rfl)) ?_; clear T ac; intro ac T
                      refine l_q T rfl rfl rfl rfl (rn_assign rfl (T.ev 0 rfl)) ?_; clear T ac; intro ac T
                      refine wpList_nil ?_
                      replace T := T.pick [0] rfl
                      exact ⟨(T.pick (E' := [(2, .bool true)]) [0] rfl).as (by (try rw [show (!(decide ((shortE ju2) = 0))) = true from (by simp [h11])]); (try rw [show (!(decide (((guidedJ ju2).2) = 0))) = false from (by simp [h12])]); (try rw [show (decide (((guidedJ jm).2) = 0)) = true from (decide_eq_true h19)]); (try rw [show (decide (((guidedJ jm).1) ≤ ((guidedJ ju2).1))) = true from (decide_eq_true h20)]); (try rw [show (decide ((shortE jm) = 0)) = true from (decide_eq_true h21)]); rfl), M.mask [] rfl⟩
                    · replace h21 := of_decide_eq_false h21
                      refine l_q T (wanted_yes rfl rfl (T.ev 0 rfl) (decide_eq_false h21)) rfl rfl rfl (rn_move rfl (T.ev 34 rfl)) ?_; clear T ac; intro ac T
                      refine l_q T (wanted_yes rfl rfl (T.ev 1 rfl) (decide_eq_false h21)) rfl rfl rfl (rn_eql rfl (T.ev 0 rfl) evc) ?_; clear T ac; intro ac T
                      refine l_q T (wanted_yes rfl rfl (T.ev 5 rfl) (decide_eq_true h20)) rfl rfl rfl (rn_pick0 rfl (T.ev 2 rfl) (decide_eq_false h21) (T.ev 0 rfl)) ?_; clear T ac; intro ac T
                      refine l_q T rfl rfl rfl rfl (rn_pick1 rfl (T.ev 6 rfl) (decide_eq_true h20) (T.ev 0 rfl)) ?_; clear T ac; intro ac T
                      refine l_q T rfl rfl rfl rfl (rn_move rfl (T.ev 0 rfl)) ?_; clear T ac; intro ac T
                      rcases Bool.eq_false_or_eq_true (decide ((shortE jm) = 11)) with h22 | h22
                      · replace h22 := of_decide_eq_true h22
                        refine l_q T (wanted_yes rfl rfl (T.ev 0 rfl) (decide_eq_true h22)) rfl rfl rfl (rn_move rfl (T.ev 35 rfl)) ?_; clear T ac; intro ac T
                        refine l_q T (wanted_yes rfl rfl (T.ev 1 rfl) (decide_eq_true h22)) rfl rfl rfl (rn_eql rfl (T.ev 0 rfl) evc) ?_; clear T ac; intro ac T
                        refine l_q T (wanted_yes rfl rfl (T.ev 2 rfl) (decide_eq_true h22)) rfl rfl rfl (rn_move rfl (T.ev 0 rfl)) ?_; clear T ac; intro ac T
                        refine l_pass T (wanted_no rfl rfl (T.ev 0 rfl) (decide_eq_true h19)) rfl rfl rfl ?_; clear T ac; intro ac T
                        refine l_pass T (wanted_no rfl rfl (T.ev 1 rfl) (decide_eq_true h19)) rfl rfl rfl ?_; clear T ac; intro ac T
                        refine l_q T (wanted_yes rfl rfl (T.ev 5 rfl) (decide_eq_true h22)) rfl rfl rfl (rn_pick1 rfl (T.ev 2 rfl) (decide_eq_true h19) evc) ?_; clear T ac; intro ac T
                        refine l_q T rfl rfl rfl rfl (rn_pick1 rfl (T.ev 6 rfl) (decide_eq_true h22) (T.ev 0 rfl)) ?_; clear T ac; intro ac T
                        refine l_q T rfl rfl rfl rfl (rn_move rfl (T.ev 0 rfl)) ?_; clear T ac; intro ac T
                        refine l_w (wanted_yes rfl rfl (T.ev 0 rfl) rfl) ?_; intro K hK
                        refine ow_call (first := []) (cap := []) T rfl rfl rfl rfl evf .nil Try.func15 rfl rfl ?_
                        refine Calls.mono (tuned_any _) ?_
                        clear T
                        rintro e wc ⟨rfl, hb⟩
                        intro ac T
                        replace M := M.call hb; clear hb
                        refine sh_out hK _ _ ?_; clear hK K
                        refine l_q T rfl rfl rfl rfl (rn_pick1 rfl (T.ev 1 rfl) rfl (T.ev 0 rfl)) ?_; clear T ac; intro ac T
                        refine l_q T rfl rfl rfl rfl (rn_assign rfl (T.ev 0 rfl)) ?_; clear T ac; intro ac T
                        refine wpList_nil ?_
                        replace T := T.pick [0] rfl
                        exact ⟨(T.pick (E' := [(2, .bool true)]) [0] rfl).as (by (try rw [show (!(decide ((shortE ju2) = 0))) = true from (by simp [h11])]); (try rw [show (!(decide (((guidedJ ju2).2) = 0))) = false from (by simp [h12])]); (try rw [show (decide (((guidedJ jm).2) = 0)) = true from (decide_eq_true h19)]); (try rw [show (decide (((guidedJ jm).1) ≤ ((guidedJ ju2).1))) = true from (decide_eq_true h20)]); (try rw [show (decide ((shortE jm) = 0)) = false from (decide_eq_false h21)]); (try rw [show (decide ((shortE jm) = 11)) = true from (decide_eq_true h22)]); rfl), M.mask [] rfl⟩
                      · replace h22 := of_decide_eq_false h22
                        refine l_pass T (wanted_no rfl rfl (T.ev 0 rfl) (decide_eq_false h22)) rfl rfl rfl ?_; clear T ac; intro ac T
                        refine l_pass T (wanted_no rfl rfl (T.ev 1 rfl) (decide_eq_false h22)) rfl rfl rfl ?_; clear T ac; intro ac T
                        refine l_pass T (wanted_no rfl rfl (T.ev 2 rfl) (decide_eq_false h22)) rfl rfl rfl ?_; clear T ac; intro ac T
                        refine l_pass T (wanted_un rfl rfl (T.ev 0 rfl)) rfl rfl rfl ?_; clear T ac; intro ac T
                        refine l_pass T (wanted_un rfl rfl (T.ev 1 rfl)) rfl rfl rfl ?_; clear T ac; intro ac T
                        refine l_pass T (wanted_no rfl rfl (T.ev 5 rfl) (decide_eq_false h22)) rfl rfl rfl ?_; clear T ac; intro ac T
                        refine l_q T rfl rfl rfl rfl (rn_pick0 rfl (T.ev 6 rfl) (decide_eq_false h22) evc) ?_; clear T ac; intro ac T
                        refine l_q T rfl rfl rfl rfl (rn_move rfl (T.ev 0 rfl)) ?_; clear T ac; intro ac T
                        refine l_pass T (wanted_no rfl rfl (T.ev 0 rfl) rfl) rfl rfl rfl ?_; clear T ac; intro ac T
                        refine l_q T rfl rfl rfl rfl (rn_pick0 rfl (T.ev 1 rfl) rfl evc) ?_; clear T ac; intro ac T
                        refine l_q T rfl rfl rfl rfl (rn_assign rfl (T.ev 0 rfl)) ?_; clear T ac; intro ac T
                        refine wpList_nil ?_
                        replace T := T.pick [0] rfl
                        exact ⟨(T.pick (E' := [(2, .bool false)]) [0] rfl).as (by (try rw [show (!(decide ((shortE ju2) = 0))) = true from (by simp [h11])]); (try rw [show (!(decide (((guidedJ ju2).2) = 0))) = false from (by simp [h12])]); (try rw [show (decide (((guidedJ jm).2) = 0)) = true from (decide_eq_true h19)]); (try rw [show (decide (((guidedJ jm).1) ≤ ((guidedJ ju2).1))) = true from (decide_eq_true h20)]); (try rw [show (decide ((shortE jm) = 0)) = false from (decide_eq_false h21)]); (try rw [show (decide ((shortE jm) = 11)) = false from (decide_eq_false h22)]); rfl), M.mask [] rfl⟩
                  · replace h20 := of_decide_eq_false h20
                    refine l_pass T (wanted_no rfl rfl (T.ev 0 rfl) (decide_eq_false h20)) rfl rfl rfl ?_; clear T ac; intro ac T
                    refine l_pass T (wanted_no rfl rfl (T.ev 1 rfl) (decide_eq_false h20)) rfl rfl rfl ?_; clear T ac; intro ac T
                    refine l_pass T (wanted_no rfl rfl (T.ev 2 rfl) (decide_eq_false h20)) rfl rfl rfl ?_; clear T ac; intro ac T
                    refine l_pass T (wanted_un rfl rfl (T.ev 0 rfl)) rfl rfl rfl ?_; clear T ac; intro ac T
                    refine l_pass T (wanted_un rfl rfl (T.ev 1 rfl)) rfl rfl rfl ?_; clear T ac; intro ac T
                    refine l_pass T (wanted_no rfl rfl (T.ev 5 rfl) (decide_eq_false h20)) rfl rfl rfl ?_; clear T ac; intro ac T
                    refine l_q T rfl rfl rfl rfl (rn_pick0 rfl (T.ev 6 rfl) (decide_eq_false h20) evc) ?_; clear T ac; intro ac T
                    refine l_q T rfl rfl rfl rfl (rn_move rfl (T.ev 0 rfl)) ?_; clear T ac; intro ac T
                    refine l_pass T (wanted_no rfl rfl (T.ev 0 rfl) rfl) rfl rfl rfl ?_; clear T ac; intro ac T
                    refine l_pass T (wanted_no rfl rfl (T.ev 1 rfl) rfl) rfl rfl rfl ?_; clear T ac; intro ac T
                    refine l_pass T (wanted_no rfl rfl (T.ev 2 rfl) rfl) rfl rfl rfl ?_; clear T ac; intro ac T
                    refine l_pass T (wanted_un rfl rfl (T.ev 0 rfl)) rfl rfl rfl ?_; clear T ac; intro ac T
                    refine l_pass T (wanted_un rfl rfl (T.ev 1 rfl)) rfl rfl rfl ?_; clear T ac; intro ac T
                    refine l_pass T (wanted_no rfl rfl (T.ev 5 rfl) rfl) rfl rfl rfl ?_; clear T ac; intro ac T
                    refine l_q T rfl rfl rfl rfl (rn_pick0 rfl (T.ev 6 rfl) rfl evc) ?_; clear T ac; intro ac T
                    refine l_q T rfl rfl rfl rfl (rn_move rfl (T.ev 0 rfl)) ?_; clear T ac; intro ac T
                    refine l_pass T (wanted_no rfl rfl (T.ev 0 rfl) rfl) rfl rfl rfl ?_; clear T ac; intro ac T
                    refine l_q T rfl rfl rfl rfl (rn_pick0 rfl (T.ev 1 rfl) rfl evc) ?_; clear T ac; intro ac T
                    refine l_q T rfl rfl rfl rfl (rn_assign rfl (T.ev 0 rfl)) ?_; clear T ac; intro ac T
                    refine wpList_nil ?_
                    replace T := T.pick [0] rfl
                    exact ⟨(T.pick (E' := [(2, .bool false)]) [0] rfl).as (by (try rw [show (!(decide ((shortE ju2) = 0))) = true from (by simp [h11])]); (try rw [show (!(decide (((guidedJ ju2).2) = 0))) = false from (by simp [h12])]); (try rw [show (decide (((guidedJ jm).2) = 0)) = true from (decide_eq_true h19)]); (try rw [show (decide (((guidedJ jm).1) ≤ ((guidedJ ju2).1))) = false from (decide_eq_false h20)]); rfl), M.mask [] rfl⟩
                · replace h19 := of_decide_eq_false h19
                  refine l_pass T (wanted_no rfl rfl (T.ev 0 rfl) (decide_eq_false h19)) rfl rfl rfl ?_; clear T ac; intro ac T
                  refine l_pass T (wanted_no rfl rfl (T.ev 1 rfl) (decide_eq_false h19)) rfl rfl rfl ?_; clear T ac; intro ac T
                  refine l_pass T (wanted_no rfl rfl (T.ev 2 rfl) (decide_eq_false h19)) rfl rfl rfl ?_; clear T ac; intro ac T
                  refine l_q T (wanted_yes rfl rfl (T.ev 6 rfl) (by simp [h12])) rfl rfl rfl (rn_pick0 rfl (T.ev 3 rfl) (decide_eq_false h19) evc) ?_; clear T ac; intro ac T
                  refine l_q T (wanted_yes rfl rfl (T.ev 10 rfl) rfl) rfl rfl rfl (rn_pick0 rfl (T.ev 7 rfl) (by simp [h12]) (T.ev 0 rfl)) ?_; clear T ac; intro ac T
                  refine l_q T rfl rfl rfl rfl (rn_pick1 rfl (T.ev 11 rfl) rfl (T.ev 0 rfl)) ?_; clear T ac; intro ac T
                  refine l_q T rfl rfl rfl rfl (rn_move rfl (T.ev 0 rfl)) ?_; clear T ac; intro ac T
                  refine l_pass T (wanted_no rfl rfl (T.ev 0 rfl) rfl) rfl rfl rfl ?_; clear T ac; intro ac T
                  refine l_pass T (wanted_no rfl rfl (T.ev 1 rfl) rfl) rfl rfl rfl ?_; clear T ac; intro ac T
                  refine l_pass T (wanted_no rfl rfl (T.ev 2 rfl) rfl) rfl rfl rfl ?_; clear T ac; intro ac T
                  refine l_pass T (wanted_un rfl rfl (T.ev 0 rfl)) rfl rfl rfl ?_; clear T ac; intro ac T
                  refine l_pass T (wanted_un rfl rfl (T.ev 1 rfl)) rfl rfl rfl ?_; clear T ac; intro ac T
                  refine l_pass T (wanted_no rfl rfl (T.ev 5 rfl) rfl) rfl rfl rfl ?_; clear T ac; intro ac T
                  refine l_q T rfl rfl rfl rfl (rn_pick0 rfl (T.ev 6 rfl) rfl evc) ?_; clear T ac; intro ac T
                  refine l_q T rfl rfl rfl rfl (rn_move rfl (T.ev 0 rfl)) ?_; clear T ac; intro ac T
                  refine l_pass T (wanted_no rfl rfl (T.ev 0 rfl) rfl) rfl rfl rfl ?_; clear T ac; intro ac T
                  refine l_pass T (wanted_no rfl rfl (T.ev 1 rfl) rfl) rfl rfl rfl ?_; clear T ac; intro ac T
                  refine l_pass T (wanted_no rfl rfl (T.ev 2 rfl) rfl) rfl rfl rfl ?_; clear T ac; intro ac T
                  refine l_pass T (wanted_un rfl rfl (T.ev 0 rfl)) rfl rfl rfl ?_; clear T ac; intro ac T
                  refine l_pass T (wanted_un rfl rfl (T.ev 1 rfl)) rfl rfl rfl ?_; clear T ac; intro ac T
                  refine l_pass T (wanted_no rfl rfl (T.ev 5 rfl) rfl) rfl rfl rfl ?_; clear T ac; intro ac T
                  refine l_q T rfl rfl rfl rfl (rn_pick0 rfl (T.ev 6 rfl) rfl evc) ?_; clear T ac; intro ac T
                  refine l_q T rfl rfl rfl rfl (rn_move rfl (T.ev 0 rfl)) ?_; clear T ac; intro ac T
                  refine l_pass T (wanted_no rfl rfl (T.ev 0 rfl) rfl) rfl rfl rfl ?_; clear T ac; intro ac T
                  refine l_q T rfl rfl rfl rfl (rn_pick0 rfl (T.ev 1 rfl) rfl evc) ?_; clear T ac; intro ac T
                  refine l_q T rfl rfl rfl rfl (rn_assign rfl (T.ev 0 rfl)) ?_; clear T ac; intro ac T
                  refine wpList_nil ?_
                  replace T := T.pick [0] rfl
                  exact ⟨(T.pick (E' := [(2, .bool false)]) [0] rfl).as (by (try rw [show (!(decide ((shortE ju2) = 0))) = true from (by simp [h11])]); (try rw [show (!(decide (((guidedJ ju2).2) = 0))) = false from (by simp [h12])]); (try rw [show (decide (((guidedJ jm).2) = 0)) = false from (decide_eq_false h19)]); rfl), M.mask [] rfl⟩
            · replace h11 : (shortE ju2) = 0 := by simpa using h11
              refine l_q T (wanted_yes rfl rfl (T.ev 0 rfl) (by simp [h11])) rfl rfl rfl (rn_move rfl (T.ev 7 rfl)) ?_; clear T ac; intro ac T
              refine l_q T (wanted_yes rfl rfl (T.ev 1 rfl) (by simp [h11])) rfl rfl rfl (rn_eql rfl (T.ev 0 rfl) evc) ?_; clear T ac; intro ac T
              refine l_q T (wanted_yes rfl rfl (T.ev 2 rfl) (by simp [h11])) rfl rfl rfl (rn_move rfl (T.ev 0 rfl)) ?_; clear T ac; intro ac T
              rcases Bool.eq_false_or_eq_true (decide ((shortE jm) = 0)) with h23 | h23
              · replace h23 := of_decide_eq_true h23
                refine l_q T (wanted_yes rfl rfl (T.ev 0 rfl) (decide_eq_true h23)) rfl rfl rfl (rn_move rfl (T.ev 11 rfl)) ?_; clear T ac; intro ac T
                refine l_q T (wanted_yes rfl rfl (T.ev 1 rfl) (decide_eq_true h23)) rfl rfl rfl (rn_lenS rfl Try.underlying31 (T.ev 0 rfl)) ?_; clear T ac; intro ac T
                refine l_q T (wanted_yes rfl rfl (T.ev 2 rfl) (decide_eq_true h23)) rfl rfl rfl (rn_move rfl (T.ev 15 rfl)) ?_; clear T ac; intro ac T
                refine l_q T (wanted_yes rfl rfl (T.ev 3 rfl) (decide_eq_true h23)) rfl rfl rfl (rn_lenS rfl Try.underlying31 (T.ev 0 rfl)) ?_; clear T ac; intro ac T
                refine l_q T (wanted_yes rfl rfl (T.ev 4 rfl) (decide_eq_true h23)) rfl rfl rfl (rn_leq rfl (T.ev 2 rfl) (T.ev 0 rfl)) ?_; clear T ac; intro ac T
                refine l_q T (wanted_yes rfl rfl (T.ev 8 rfl) (by simp [h11])) rfl rfl rfl (rn_pick1 rfl (T.ev 5 rfl) (decide_eq_true h23) (T.ev 0 rfl)) ?_; clear T ac; intro ac T
                refine l_q T rfl rfl rfl rfl (rn_pick0 rfl (T.ev 9 rfl) (by simp [h11]) (T.ev 0 rfl)) ?_; clear T ac; intro ac T
                refine l_q T rfl rfl rfl rfl (rn_move rfl (T.ev 0 rfl)) ?_; clear T ac; intro ac T
                rcases Bool.eq_false_or_eq_true (decide ((((shortL jm).length : Nat) : Int) ≤ (((shortL ju2).length : Nat) : Int))) with h24 | h24
                · replace h24 := of_decide_eq_true h24
                  refine l_q T (wanted_yes rfl rfl (T.ev 0 rfl) (decide_eq_true h24)) rfl rfl rfl (rn_move rfl (T.ev 16 rfl)) ?_; clear T ac; intro ac T
                  refine l_q T (wanted_yes rfl rfl (T.ev 1 rfl) (decide_eq_true h24)) rfl rfl rfl (rn_neq rfl (T.ev 0 rfl) evc) ?_; clear T ac; intro ac T
                  refine l_q T (wanted_yes rfl rfl (T.ev 2 rfl) (decide_eq_true h24)) rfl rfl rfl (rn_move rfl (T.ev 0 rfl)) ?_; clear T ac; intro ac T
                  rcases Bool.eq_false_or_eq_true (!(decide (((guidedJ ju2).2) = 0))) with h25 | h25
                  · replace h25 : ¬ (((guidedJ ju2).2) = 0) := by simpa using h25
                    refine l_pass T (wanted_no rfl rfl (T.ev 0 rfl) (by simp [h25])) rfl rfl rfl ?_; clear T ac; intro ac T
                    refine l_pass T (wanted_no rfl rfl (T.ev 1 rfl) (by simp [h25])) rfl rfl rfl ?_; clear T ac; intro ac T
                    refine l_pass T (wanted_no rfl rfl (T.ev 2 rfl) (by simp [h25])) rfl rfl rfl ?_; clear T ac; intro ac T
                    refine l_pass T (wanted_un rfl rfl (T.ev 0 rfl)) rfl rfl rfl ?_; clear T ac; intro ac T
                    refine l_pass T (wanted_un rfl rfl (T.ev 1 rfl)) rfl rfl rfl ?_; clear T ac; intro ac T
                    refine l_pass T (wanted_un rfl rfl (T.ev 2 rfl)) rfl rfl rfl ?_; clear T ac; intro ac T
                    refine l_pass T (wanted_no rfl rfl (T.ev 6 rfl) (by simp [h25])) rfl rfl rfl ?_; clear T ac; intro ac T
                    refine l_q T (wanted_yes rfl rfl (T.ev 10 rfl) (decide_eq_true h24)) rfl rfl rfl (rn_pick1 rfl (T.ev 7 rfl) (by simp [h25]) evc) ?_; clear T ac; intro ac T
                    refine l_q T rfl rfl rfl rfl (rn_pick1 rfl (T.ev 11 rfl) (decide_eq_true h24) (T.ev 0 rfl)) ?_; clear T ac; intro ac T
                    refine l_q T rfl rfl rfl rfl (rn_move rfl (T.ev 0 rfl)) ?_; clear T ac; intro ac T
                    refine l_q T (wanted_yes rfl rfl (T.ev 0 rfl) rfl) rfl rfl rfl (rn_move rfl (T.ev 31 rfl)) ?_; clear T ac; intro ac T
                    refine l_q T (wanted_yes rfl rfl (T.ev 1 rfl) rfl) rfl rfl rfl (rn_eql rfl (T.ev 0 rfl) evc) ?_; clear T ac; intro ac T
                    refine l_q T (wanted_yes rfl rfl (T.ev 2 rfl) rfl) rfl rfl rfl (rn_move rfl (T.ev 0 rfl)) ?_; clear T ac; intro ac T
                    refine l_pass T (wanted_no rfl rfl (T.ev 0 rfl) (decide_eq_true h23)) rfl rfl rfl ?_; clear T ac; intro ac T
                    refine l_pass T (wanted_no rfl rfl (T.ev 1 rfl) (decide_eq_true h23)) rfl rfl rfl ?_; clear T ac; intro ac T
                    refine l_q T (wanted_yes rfl rfl (T.ev 5 rfl) rfl) rfl rfl rfl (rn_pick1 rfl (T.ev 2 rfl) (decide_eq_true h23) evc) ?_; clear T ac; intro ac T
                    refine l_q T rfl rfl rfl rfl (rn_pick1 rfl (T.ev 6 rfl) rfl (T.ev 0 rfl)) ?_; clear T ac; intro ac T
                    refine l_q T rfl rfl rfl rfl (rn_move rfl (T.ev 0 rfl)) ?_; clear T ac; intro ac T
                    refine l_q T (wanted_yes rfl rfl (T.ev 0 rfl) rfl) rfl rfl rfl (rn_move rfl (T.ev 35 rfl)) ?_; clear T ac; intro ac T
                    refine l_q T (wanted_yes rfl rfl (T.ev 1 rfl) rfl) rfl rfl rfl (rn_eql rfl (T.ev 0 rfl) evc) ?_; clear T ac; intro ac T
                    refine l_q T (wanted_yes rfl rfl (T.ev 2 rfl) rfl) rfl rfl rfl (rn_move rfl (T.ev 0 rfl)) ?_; clear T ac; intro ac T
                    rcases Bool.eq_false_or_eq_true (decide (((guidedJ jm).2) = 0)) with h26 | h26
                    · replace h26 := of_decide_eq_true h26
                      refine l_pass T (wanted_no rfl rfl (T.ev 0 rfl) (decide_eq_true h26)) rfl rfl rfl ?_; clear T ac; intro ac T
                      refine l_pass T (wanted_no rfl rfl (T.ev 1 rfl) (decide_eq_true h26)) rfl rfl rfl ?_; clear T ac; intro ac T
                      refine l_q T (wanted_yes rfl rfl (T.ev 5 rfl) rfl) rfl rfl rfl (rn_pick1 rfl (T.ev 2 rfl) (decide_eq_true h26) evc) ?_; clear T ac; intro ac T
                      refine l_q T rfl rfl rfl rfl (rn_pick1 rfl (T.ev 6 rfl) rfl (T.ev 0 rfl)) ?_; clear T ac; intro ac T
                      refine l_q T rfl rfl rfl rfl (rn_move rfl (T.ev 0 rfl)) ?_; clear T ac; intro ac T
                      refine l_w (wanted_yes rfl rfl (T.ev 0 rfl) rfl) ?_; intro K hK
                      refine ow_call (first := []) (cap := []) T rfl rfl rfl rfl evf .nil Try.func15 rfl rfl ?_
                      refine Calls.mono (tuned_any _) ?_
                      clear T
                      rintro e wc ⟨rfl, hb⟩
                      intro ac T
                      replace M := M.call hb; clear hb
                      refine sh_out hK _ _ ?_; clear hK K
                      refine l_q T rfl rfl rfl rfl (rn_pick1 rfl (T.ev 1 rfl) rfl (T.ev 0 rfl)) ?_; clear T ac; intro ac T
                      refine l_q T rfl rfl rfl rfl (rn_assign rfl (T.ev 0 rfl)) ?_; clear T ac; intro ac T
                      refine wpList_nil ?_
                      replace T := T.pick [0] rfl
                      exact ⟨(T.pick (E' := [(2, .bool true)]) [0] rfl).as (by (try rw [show (!(decide ((shortE ju2) = 0))) = false from (by simp [h11])]); (try rw [show (decide ((shortE jm) = 0)) = true from (decide_eq_true h23)]); (try rw [show (decide ((((shortL jm).length : Nat) : Int) ≤ (((shortL ju2).length : Nat) : Int))) = true from (decide_eq_true h24)]); (try rw [show (!(decide (((guidedJ ju2).2) = 0))) = true from (by simp [h25])]); (try rw [show (decide (((guidedJ jm).2) = 0)) = true from (decide_eq_true h26)]); rfl), M.mask [] rfl⟩
                    · replace h26 := of_decide_eq_false h26
                      refine l_q T (wanted_yes rfl rfl (T.ev 0 rfl) (decide_eq_false h26)) rfl rfl rfl (rn_move rfl (T.ev 38 rfl)) ?_; clear T ac; intro ac T
                      refine l_q T (wanted_yes rfl rfl (T.ev 1 rfl) (decide_eq_false h26)) rfl rfl rfl (rn_eql rfl (T.ev 0 rfl) evc) ?_; clear T ac; intro ac T
                      refine l_q T (wanted_yes rfl rfl (T.ev 5 rfl) rfl) rfl rfl rfl (rn_pick0 rfl (T.ev 2 rfl) (decide_eq_false h26) (T.ev 0 rfl)) ?_; clear T ac; intro ac T
                      refine l_q T rfl rfl rfl rfl (rn_pick1 rfl (T.ev 6 rfl) rfl (T.ev 0 rfl)) ?_; clear T ac; intro ac T
                      refine l_q T rfl rfl rfl rfl (rn_move rfl (T.ev 0 rfl)) ?_; clear T ac; intro ac T
                      rcases Bool.eq_false_or_eq_true (decide (((guidedJ jm).2) = 11)) with h27 | h27
                      · replace h27 := of_decide_eq_true h27
                        refine l_w (wanted_yes rfl rfl (T.ev 0 rfl) (decide_eq_true h27)) ?_; intro K hK
                        refine ow_call (first := []) (cap := []) T rfl rfl rfl rfl evf .nil Try.func15 rfl rfl ?_
                        refine Calls.mono (tuned_any _) ?_
                        clear T
                        rintro e wc ⟨rfl, hb⟩
                        intro ac T
                        replace M := M.call hb; clear hb
                        refine sh_out hK _ _ ?_; clear hK K
                        refine l_q T rfl rfl rfl rfl (rn_pick1 rfl (T.ev 1 rfl) (decide_eq_true h27) (T.ev 0 rfl)) ?_; clear T ac; intro ac T
                        refine l_q T rfl rfl rfl rfl (rn_assign rfl (T.ev 0 rfl)) ?_; clear T ac; intro ac T
                        refine wpList_nil ?_
                        replace T := T.pick [0] rfl
                        exact ⟨(T.pick (E' := [(2, .bool true)]) [0] rfl).as (by (try rw [show (!(decide ((shortE ju2) = 0))) = false from (by simp [h11])]); (try rw [show (decide ((shortE jm) = 0)) = true from (decide_eq_true h23)]); (try rw [show (decide ((((shortL jm).length : Nat) : Int) ≤ (((shortL ju2).length : Nat) : Int))) = true from (decide_eq_true h24)]); (try rw [show (!(decide (((guidedJ ju2).2) = 0))) = true from (by simp [h25])]); (try rw [show (decide (((guidedJ jm).2) = 0)) = false from (decide_eq_false h26)]); (try rw [show (decide (((guidedJ jm).2) = 11)) = true from (decide_eq_true h27)]); rfl), M.mask [] rfl⟩
                      · replace h27 := of_decide_eq_false h27
                        refine l_pass T (wanted_no rfl rfl (T.ev 0 rfl) (decide_eq_false h27)) rfl rfl rfl ?_; clear T ac; intro ac T
                        refine l_q T rfl rfl rfl rfl (rn_pick0 rfl (T.ev 1 rfl) (decide_eq_false h27) evc) ?_; clear T ac; intro ac T
                        refine l_q T rfl rfl rfl rfl (rn_assign rfl (T.ev 0 rfl)) ?_; clear T ac; intro ac T
                        refine wpList_nil ?_
                        replace T := T.pick [0] rfl
                        exact ⟨(T.pick (E' := [(2, .bool false)]) [0] rfl).as (by (try rw [show (!(decide ((shortE ju2) = 0))) = false from (by simp [h11])]); (try rw [show (decide ((shortE jm) = 0)) = true from (decide_eq_true h23)]); (try rw [show (decide ((((shortL jm).length : Nat) : Int) ≤ (((shortL ju2).length : Nat) : Int))) = true from (decide_eq_true h24)]); (try rw [show (!(decide (((guidedJ ju2).2) = 0))) = true from (by simp [h25])]); (try rw [show (decide (((guidedJ jm).2) = 0)) = false from (decide_eq_false h26)]); (try rw [show (decide (((guidedJ jm).2) = 11)) = false from (decide_eq_false h27)]); rfl), M.mask [] rfl⟩
                  · replace h25 : ((guidedJ ju2).2) = 0 := by simpa using h25
                    refine l_q T (wanted_yes rfl rfl (T.ev 0 rfl) (by simp [h25])) rfl rfl rfl (rn_move rfl (T.ev 17 rfl)) ?_; clear T ac; intro ac T
                    refine l_q T (wanted_yes rfl rfl (T.ev 1 rfl) (by simp [h25])) rfl rfl rfl (rn_eql rfl (T.ev 0 rfl) evc) ?_; clear T ac; intro ac T
                    refine l_q T (wanted_yes rfl rfl (T.ev 2 rfl) (by simp [h25])) rfl rfl rfl (rn_move rfl (T.ev 0 rfl)) ?_; clear T ac; intro ac T
                    rcases Bool.eq_false_or_eq_true (decide (((guidedJ jm).2) = 0)) with h28 | h28
                    · replace h28 := of_decide_eq_true h28
                      refine l_q T (wanted_yes rfl rfl (T.ev 0 rfl) (decide_eq_true h28)) rfl rfl rfl (rn_move rfl (T.ev 21 rfl)) ?_; clear T ac; intro ac T
                      refine l_q T (wanted_yes rfl rfl (T.ev 1 rfl) (decide_eq_true h28)) rfl rfl rfl (rn_move rfl (T.ev 24 rfl)) ?_; clear T ac; intro ac T
                      refine l_q T (wanted_yes rfl rfl (T.ev 2 rfl) (decide_eq_true h28)) rfl rfl rfl (rn_leq rfl (T.ev 1 rfl) (T.ev 0 rfl)) ?_; clear T ac; intro ac T
                      refine l_q T (wanted_yes rfl rfl (T.ev 6 rfl) (by simp [h25])) rfl rfl rfl (rn_pick1 rfl (T.ev 3 rfl) (decide_eq_true h28) (T.ev 0 rfl)) ?_; clear T ac; intro ac T
                      refine l_q T (wanted_yes rfl rfl (T.ev 10 rfl) (decide_eq_true h24)) rfl rfl rfl (rn_pick0 rfl (T.ev 7 rfl) (by simp [h25]) (T.ev 0 rfl)) ?_; clear T ac; intro ac T
                      refine l_q T rfl rfl rfl rfl (rn_pick1 rfl (T.ev 11 rfl) (decide_eq_true h24) (T.ev 0 rfl)) ?_; clear T ac; intro ac T
                      refine l_q T rfl rfl rfl rfl (rn_move rfl (T.ev 0 rfl)) ?_; clear T ac; intro ac T
                      rcases Bool.eq_false_or_eq_true (decide (((guidedJ jm).1) ≤ ((guidedJ ju2).1))) with h29 | h29
                      · replace h29 := of_decide_eq_true h29
                        refine l_q T (wanted_yes rfl rfl (T.ev 0 rfl) (decide_eq_true h29)) rfl rfl rfl (rn_move rfl (T.ev 31 rfl)) ?_; clear T ac; intro ac T
                        refine l_q T (wanted_yes rfl rfl (T.ev 1 rfl) (decide_eq_true h29)) rfl rfl rfl (rn_eql rfl (T.ev 0 rfl) evc) ?_; clear T ac; intro ac T
                        refine l_q T (wanted_yes rfl rfl (T.ev 2 rfl) (decide_eq_true h29)) rfl rfl rfl (rn_move rfl (T.ev 0 rfl)) ?_; clear T ac; intro ac T
                        refine l_pass T (wanted_no rfl rfl (T.ev 0 rfl) (decide_eq_true h23)) rfl rfl rfl ?_; clear T ac; intro ac T
                        refine l_pass T (wanted_no rfl rfl (T.ev 1 rfl) (decide_eq_true h23)) rfl rfl rfl ?_; clear T ac; intro ac T
                        refine l_q T (wanted_yes rfl rfl (T.ev 5 rfl) (decide_eq_true h29)) rfl rfl rfl (rn_pick1 rfl (T.ev 2 rfl) (decide_eq_true h23) evc) ?_; clear T ac; intro ac T
                        refine l_q T rfl rfl rfl rfl (rn_pick1 rfl (T.ev 6 rfl) (decide_eq_true h29) (T.ev 0 rfl)) ?_; clear T ac; intro ac T
                        refine l_q T rfl rfl rfl rfl (rn_move rfl (T.ev 0 rfl)) ?_; clear T ac; intro ac T
                        refine l_q T (wanted_yes rfl rfl (T.ev 0 rfl) rfl) rfl rfl rfl (rn_move rfl (T.ev 35 rfl)) ?_; clear T ac; intro ac T
                        refine l_q T (wanted_yes rfl rfl (T.ev 1 rfl) rfl) rfl rfl rfl (rn_eql rfl (T.ev 0 rfl) evc) ?_; clear T ac; intro ac T
                        refine l_q T (wanted_yes rfl rfl (T.ev 2 rfl) rfl) rfl rfl rfl (rn_move rfl (T.ev 0 rfl)) ?_; clear T ac; intro ac T
                        refine l_pass T (wanted_no rfl rfl (T.ev 0 rfl) (decide_eq_true h28)) rfl rfl rfl ?_; clear T ac; intro ac T
                        refine l_pass T (wanted_no rfl rfl (T.ev 1 rfl) (decide_eq_true h28)) rfl rfl rfl ?_; clear T ac; intro ac T
                        refine l_q T (wanted_yes rfl rfl (T.ev 5 rfl) rfl) rfl rfl rfl (rn_pick1 rfl (T.ev 2 rfl) (decide_eq_true h28) evc) ?_; clear T ac; intro ac T
                        refine l_q T rfl rfl rfl rfl (rn_pick1 rfl (T.ev 6 rfl) rfl (T.ev 0 rfl)) ?_; clear T ac; intro ac T
                        refine l_q T rfl rfl rfl rfl (rn_move rfl (T.ev 0 rfl)) ?_; clear T ac; intro ac T
                        refine l_w (wanted_yes rfl rfl (T.ev 0 rfl) rfl) ?_; intro K hK
                        refine ow_call (first := []) (cap := []) T rfl rfl rfl rfl evf .nil Try.func15 rfl rfl ?_
                        refine Calls.mono (tuned_any _) ?_
                        clear T
                        rintro e wc ⟨rfl, hb⟩
                        intro ac T
                        replace M := M.call hb; clear hb
                        refine sh_out hK _ _ ?_; clear hK K
                        refine l_q T rfl rfl rfl rfl (rn_pick1 rfl (T.ev 1 rfl) rfl (T.ev 0 rfl)) ?_; clear T ac; intro ac T
                        refine l_q T rfl rfl rfl rfl (rn_assign rfl (T.ev 0 rfl)) ?_; clear T ac; intro ac T
                        refine wpList_nil ?_
                        replace T := T.pick [0] rfl
                        exact ⟨(T.pick (E' := [(2, .bool true)]) [0] rfl).as (by (try rw [show (!(decide ((shortE ju2) = 0))) = false from (by simp [h11])]); (try rw [show (decide ((shortE jm) = 0)) = true from (decide_eq_true h23)]); (try rw [show (decide ((((shortL jm).length : Nat) : Int) ≤ (((shortL ju2).length : Nat) : Int))) = true from (decide_eq_true h24)]); (try rw [show (!(decide (((guidedJ ju2).2) = 0))) = false from (by simp [h25])]); (try rw [show (decide (((guidedJ jm).2) = 0)) = true from (decide_eq_true h28)]); (try rw [show (decide (((guidedJ jm).1) ≤ ((guidedJ ju2).1))) = true from (decide_eq_true h29)]); rfl), M.mask [] rfl⟩
                      · replace h29 := of_decide_eq_false h29
                        refine l_pass T (wanted_no rfl rfl (T.ev 0 rfl) (decide_eq_false h29)) rfl rfl rfl ?_; clear T ac; intro ac T
                        refine l_pass T (wanted_no rfl rfl (T.ev 1 rfl) (decide_eq_false h29)) rfl rfl rfl ?_; clear T ac; intro ac T
                        refine l_pass T (wanted_no rfl rfl (T.ev 2 rfl) (decide_eq_false h29)) rfl rfl rfl ?_; clear T ac; intro ac T
                        refine l_pass T (wanted_un rfl rfl (T.ev 0 rfl)) rfl rfl rfl ?_; clear T ac; intro ac T
                        refine l_pass T (wanted_un rfl rfl (T.ev 1 rfl)) rfl rfl rfl ?_; clear T ac; intro ac T
                        refine l_pass T (wanted_no rfl rfl (T.ev 5 rfl) (decide_eq_false h29)) rfl rfl rfl ?_; clear T ac; intro ac T
                        refine l_q T rfl rfl rfl rfl (rn_pick0 rfl (T.ev 6 rfl) (decide_eq_false h29) evc) ?_; clear T ac; intro ac T
                        refine l_q T rfl rfl rfl rfl (rn_move rfl (T.ev 0 rfl)) ?_; clear T ac; intro ac T
                        refine l_pass T (wanted_no rfl rfl (T.ev 0 rfl) rfl) rfl rfl rfl ?_; clear T ac; intro ac T
                        refine l_pass T (wanted_no rfl rfl (T.ev 1 rfl) rfl) rfl rfl rfl ?_; clear T ac; intro ac T
                        refine l_pass T (wanted_no rfl rfl (T.ev 2 rfl) rfl) rfl rfl rfl ?_; clear T ac; intro ac T
                        refine l_pass T (wanted_un rfl rfl (T.ev 0 rfl)) rfl rfl rfl ?_; clear T ac; intro ac T
                        refine l_pass T (wanted_un rfl rfl (T.ev 1 rfl)) rfl rfl rfl ?_; clear T ac; intro ac T
                        refine l_pass T (wanted_no rfl rfl (T.ev 5 rfl) rfl) rfl rfl rfl ?_; clear T ac; intro ac T
                        refine l_q T rfl rfl rfl rfl (rn_pick0 rfl (T.ev 6 rfl) rfl evc) ?_; clear T ac; intro ac T
                        refine l_q T rfl rfl rfl rfl (rn_move rfl (T.ev 0 rfl)) ?_; clear T ac; intro ac T
                        refine l_pass T (wanted_no rfl rfl (T.ev 0 rfl) rfl) rfl rfl rfl ?_; clear T ac; intro ac T
                        refine l_q T rfl rfl rfl rfl (rn_pick0 rfl (T.ev 1 rfl) rfl evc) ?_; clear T ac; intro ac T
                        refine l_q T rfl rfl rfl rfl (rn_assign rfl (T.ev 0 rfl)) ?_; clear T ac; intro ac T
                        refine wpList_nil ?_
                        replace T := T.pick [0] rfl
                        exact ⟨(T.pick (E' := [(2, .bool false)]) [0] rfl).as (by (try rw [show (!(decide ((shortE ju2) = 0))) = false from (by simp [h11])]); (try rw [show (decide ((shortE jm) = 0)) = true from (decide_eq_true h23)]); (try rw [show (decide ((((shortL jm).length : Nat) : Int) ≤ (((shortL ju2).length : Nat) : Int))) = true from (decide_eq_true h24)]); (try rw [show (!(decide (((guidedJ ju2).2) = 0))) = false from (by simp [h25])]); (try rw [show (decide (((guidedJ jm).2) = 0)) = true from (decide_eq_true h28)]); (try rw [show (decide (((guidedJ jm).1) ≤ ((guidedJ ju2).1))) = false from (decide_eq_false h29)]); rfl), M.mask [] rfl⟩
                    · replace h28 := of_decide_eq_false h28
                      refine l_pass T (wanted_no rfl rfl (T.ev 0 rfl) (decide_eq_false h28)) rfl rfl rfl ?_; clear T ac; intro ac T
                      refine l_pass T (wanted_no rfl rfl (T.ev 1 rfl) (decide_eq_false h28)) rfl rfl rfl ?_; clear T ac; intro ac T
                      refine l_pass T (wanted_no rfl rfl (T.ev 2 rfl) (decide_eq_false h28)) rfl rfl rfl ?_; clear T ac; intro ac T
                      refine l_q T (wanted_yes rfl rfl (T.ev 6 rfl) (by simp [h25])) rfl rfl rfl (rn_pick0 rfl (T.ev 3 rfl) (decide_eq_false h28) evc) ?_; clear T ac; intro ac T
                      refine l_q T (wanted_yes rfl rfl (T.ev 10 rfl) (decide_eq_true h24)) rfl rfl rfl (rn_pick0 rfl (T.ev 7 rfl) (by simp [h25]) (T.ev 0 rfl)) ?_; clear T ac; intro ac T
                      refine l_q T rfl rfl rfl rfl (rn_pick1 rfl (T.ev 11 rfl) (decide_eq_true h24) (T.ev 0 rfl)) ?_; clear T ac; intro ac T
                      refine l_q T rfl rfl rfl rfl (rn_move rfl (T.ev 0 rfl)) ?_; clear T ac; intro ac T
                      refine l_pass T (wanted_no rfl rfl (T.ev 0 rfl) rfl) rfl rfl rfl ?_; clear T ac; intro ac T
                      refine l_pass T (wanted_no rfl rfl (T.ev 1 rfl) rfl) rfl rfl rfl ?_; clear T ac; intro ac T
                      refine l_pass T (wanted_no rfl rfl (T.ev 2 rfl) rfl) rfl rfl rfl ?_; clear T ac; intro ac T
                      refine l_pass T (wanted_un rfl rfl (T.ev 0 rfl)) rfl rfl rfl ?_; clear T ac; intro ac T
                      refine l_pass T (wanted_un rfl rfl (T.ev 1 rfl)) rfl rfl rfl ?_; clear T ac; intro ac T
                      refine l_pass T (wanted_no rfl rfl (T.ev 5 rfl) rfl) rfl rfl rfl ?_; clear T ac; intro ac T
                      refine l_q T rfl rfl rfl rfl (rn_pick0 rfl (T.ev 6 rfl) rfl evc) ?_; clear T ac; intro ac T
                      refine l_q T rfl rfl rfl rfl (rn_move rfl (T.ev 0 rfl)) ?_; clear T ac; intro ac T
                      refine l_pass T (wanted_no rfl rfl (T.ev 0 rfl) rfl) rfl rfl rfl ?_; clear T ac; intro ac T
                      refine l_pass T (wanted_no rfl rfl (T.ev 1 rfl) rfl) rfl rfl rfl ?_; clear T ac; intro ac T
                      refine l_pass T (wanted_no rfl rfl (T.ev 2 rfl) rfl) rfl rfl rfl ?_; clear T ac; intro ac T
                      refine l_pass T (wanted_un rfl rfl (T.ev 0 rfl)) rfl rfl rfl ?_; clear T ac; intro ac T
                      refine l_pass T (wanted_un rfl rfl (T.ev 1 rfl)) rfl rfl rfl ?_; clear T ac; intro ac T
                      refine l_pass T (wanted_no rfl rfl (T.ev 5 rfl) rfl) rfl rfl rfl ?_; clear T ac; intro ac T
                      refine l_q T rfl rfl rfl rfl (rn_pick0 rfl (T.ev 6 rfl) rfl evc) ?_; clear T ac; intro ac T
                      refine l_q T rfl rfl rfl rfl (rn_move rfl (T.ev 0 rfl)) ?_; clear T ac; intro ac T
                      refine l_pass T (wanted_no rfl rfl (T.ev 0 rfl) rfl) rfl rfl rfl ?_; clear T ac; intro ac T
                      refine l_q T rfl rfl rfl rfl (rn_pick0 rfl (T.ev 1 rfl) rfl evc) ?_; clear T ac; intro ac T
                      refine l_q T rfl rfl rfl rfl (rn_assign rfl (T.ev 0 rfl)) ?_; clear T ac; intro ac T
                      refine wpList_nil ?_
                      replace T := T.pick [0] rfl
                      exact ⟨(T.pick (E' := [(2, .bool false)]) [0] rfl).as (by (try rw [show (!(decide ((shortE ju2) = 0))) = false from (by simp [h11])]); (try rw [show (decide ((shortE jm) = 0)) = true from (decide_eq_true h23)]); (try rw [show (decide ((((shortL jm).length : Nat) : Int) ≤ (((shortL ju2).length : Nat) : Int))) = true from (decide_eq_true h24)]); (try rw [show (!(decide (((guidedJ ju2).2) = 0))) = false from (by simp [h25])]); (try rw [show (decide (((guidedJ jm).2) = 0)) = false from (decide_eq_false h28)]); rfl), M.mask [] rfl⟩
                · replace h24 := of_decide_eq_false h24
                  refine l_pass T (wanted_no rfl rfl (T.ev 0 rfl) (decide_eq_false h24)) rfl rfl rfl ?_; clear T ac; intro ac T
                  refine l_pass T (wanted_no rfl rfl (T.ev 1 rfl) (decide_eq_false h24)) rfl rfl rfl ?_; clear T ac; intro ac T
                  refine l_pass T (wanted_no rfl rfl (T.ev 2 rfl) (decide_eq_false h24)) rfl rfl rfl ?_; clear T ac; intro ac T
                  refine l_pass T (wanted_un rfl rfl (T.ev 0 rfl)) rfl rfl rfl ?_; clear T ac; intro ac T
                  refine l_pass T (wanted_un rfl rfl (T.ev 1 rfl)) rfl rfl rfl ?_; clear T ac; intro ac T
                  refine l_pass T (wanted_un rfl rfl (T.ev 2 rfl)) rfl rfl rfl ?_; clear T ac; intro ac T
                  refine l_pass T (wanted_un rfl rfl (T.ev 0 rfl)) rfl rfl rfl ?_; clear T ac; intro ac T
                  refine l_pass T (wanted_un rfl rfl (T.ev 1 rfl)) rfl rfl rfl ?_; clear T ac; intro ac T
                  refine l_pass T (wanted_un rfl rfl (T.ev 2 rfl)) rfl rfl rfl ?_; clear T ac; intro ac T
                  refine l_pass T (wanted_un rfl rfl (T.ev 6 rfl)) rfl rfl rfl ?_; clear T ac; intro ac T
                  refine l_pass T (wanted_no rfl rfl (T.ev 10 rfl) (decide_eq_false h24)) rfl rfl rfl ?_; clear T ac; intro ac T
                  refine l_q T rfl rfl rfl rfl (rn_pick0 rfl (T.ev 11 rfl) (decide_eq_false h24) evc) ?_; clear T ac; intro ac T
                  refine l_q T rfl rfl rfl rfl (rn_move rfl (T.ev 0 rfl)) ?_; clear T ac; intro ac T
                  refine l_pass T (wanted_no rfl rfl (T.ev 0 rfl) rfl) rfl rfl rfl ?_; clear T ac; intro ac T
                  refine l_pass T (wanted_no rfl rfl (T.ev 1 rfl) rfl) rfl rfl rfl ?_; clear T ac; intro ac T
                  refine l_pass T (wanted_no rfl rfl (T.ev 2 rfl) rfl) rfl rfl rfl ?_; clear T ac; intro ac T
                  refine l_pass T (wanted_un rfl rfl (T.ev 0 rfl)) rfl rfl rfl ?_; clear T ac; intro ac T
                  refine l_pass T (wanted_un rfl rfl (T.ev 1 rfl)) rfl rfl rfl ?_; clear T ac; intro ac T
                  refine l_pass T (wanted_no rfl rfl (T.ev 5 rfl) rfl) rfl rfl rfl ?_; clear T ac; intro ac T
                  refine l_q T rfl rfl rfl rfl (rn_pick0 rfl (T.ev 6 rfl) rfl evc) ?_; clear T ac; intro ac T
                  refine l_q T rfl rfl rfl rfl (rn_move rfl (T.ev 0 rfl)) ?_; clear T ac; intro ac T
                  refine l_pass T (wanted_no rfl rfl (T.ev 0 rfl) rfl) rfl rfl rfl ?_; clear T ac; intro ac T
                  refine l_pass T (wanted_no rfl rfl (T.ev 1 rfl) rfl) rfl rfl rfl ?_; clear T ac; intro ac T
                  refine l_pass T (wanted_no rfl rfl (T.ev 2 rfl) rfl) rfl rfl rfl ?_; clear T ac; intro ac T
                  refine l_pass T (wanted_un rfl rfl (T.ev 0 rfl)) rfl rfl rfl ?_; clear T ac; intro ac T
                  refine l_pass T (wanted_un rfl rfl (T.ev 1 rfl)) rfl rfl rfl ?_; clear T ac; intro ac T
                  refine l_pass T (wanted_no rfl rfl (T.ev 5 rfl) rfl) rfl rfl rfl ?_; clear T ac; intro ac T
                  refine l_q T rfl rfl rfl rfl (rn_pick0 rfl (T.ev 6 rfl) rfl evc) ?_; clear T ac; intro ac T
                  refine l_q T rfl rfl rfl rfl (rn_move rfl (T.ev 0 rfl)) ?_; clear T ac; intro ac T
                  refine l_pass T (wanted_no rfl rfl (T.ev 0 rfl) rfl) rfl rfl rfl ?_; clear T ac; intro ac T
                  refine l_q T rfl rfl rfl rfl (rn_pick0 rfl (T.ev 1 rfl) rfl evc) ?_; clear T ac; intro ac T
                  refine l_q T rfl rfl rfl rfl (rn_assign rfl (T.ev 0 rfl)) ?_; clear T ac; intro ac T
                  refine wpList_nil ?_
                  replace T := T.pick [0] rfl
                  exact ⟨(T.pick (E' := [(2, .bool false)]) [0] rfl).as (by (try rw [show (!(decide ((shortE ju2) = 0))) = false from (by simp [h11])]); (try rw [show (decide ((shortE jm) = 0)) = true from (decide_eq_true h23)]); (try rw [show (decide ((((shortL jm).length : Nat) : Int) ≤ (((shortL ju2).length : Nat) : Int))) = false from (decide_eq_false h24)]); rfl), M.mask [] rfl⟩
              · replace h23 := of_decide_eq_false h23
                refine l_pass T (wanted_no rfl rfl (T.ev 0 rfl) (decide_eq_false h23)) rfl rfl rfl ?_; clear T ac; intro ac T
                refine l_pass T (wanted_no rfl rfl (T.ev 1 rfl) (decide_eq_false h23)) rfl rfl rfl ?_; clear T ac; intro ac T
                refine l_pass T (wanted_no rfl rfl (T.ev 2 rfl) (decide_eq_false h23)) rfl rfl rfl ?_; clear T ac; intro ac T
                refine l_pass T (wanted_no rfl rfl (T.ev 3 rfl) (decide_eq_false h23)) rfl rfl rfl ?_; clear T ac; intro ac T
                refine l_pass T (wanted_no rfl rfl (T.ev 4 rfl) (decide_eq_false h23)) rfl rfl rfl ?_; clear T ac; intro ac T
                refine l_q T (wanted_yes rfl rfl (T.ev 8 rfl) (by simp [h11])) rfl rfl rfl (rn_pick0 rfl (T.ev 5 rfl) (decide_eq_false h23) evc) ?_; clear T ac; intro ac T
                refine l_q T rfl rfl rfl rfl (rn_pick0 rfl (T.ev 9 rfl) (by simp [h11]) (T.ev 0 rfl)) ?_; clear T ac; intro ac T
                refine l_q T rfl rfl rfl rfl (rn_move rfl (T.ev 0 rfl)) ?_; clear T ac; intro ac T
                refine l_pass T (wanted_no rfl rfl (T.ev 0 rfl) rfl) rfl rfl rfl ?_; clear T ac; intro ac T
                refine l_pass T (wanted_no rfl rfl (T.ev 1 rfl) rfl) rfl rfl rfl ?_; clear T ac; intro ac T
                refine l_pass T (wanted_no rfl rfl (T.ev 2 rfl) rfl) rfl rfl rfl ?_; clear T ac; intro ac T
                refine l_pass T (wanted_un rfl rfl (T.ev 0 rfl)) rfl rfl rfl ?_; clear T ac; intro ac T
                refine l_pass T (wanted_un rfl rfl (T.ev 1 rfl)) rfl rfl rfl ?_; clear T ac; intro ac T
                refine l_pass T (wanted_un rfl rfl (T.ev 2 rfl)) rfl rfl rfl ?_; clear T ac; intro ac T
                refine l_pass T (wanted_un rfl rfl (T.ev 0 rfl)) rfl rfl rfl ?_; clear T ac; intro ac T
                refine l_pass T (wanted_un rfl rfl (T.ev 1 rfl)) rfl rfl rfl ?_; clear T ac; intro ac T
                refine l_pass T (wanted_un rfl rfl (T.ev 2 rfl)) rfl rfl rfl ?_; clear T ac; intro ac T
                refine l_pass T (wanted_un rfl rfl (T.ev 6 rfl)) rfl rfl rfl ?_; clear T ac; intro ac T
                refine l_pass T (wanted_no rfl rfl (T.ev 10 rfl) rfl) rfl rfl rfl ?_; clear T ac; intro ac T
                refine l_q T rfl rfl rfl rfl (rn_pick0 rfl (T.ev 11 rfl) rfl evc) ?_; clear T ac; intro ac T
                refine l_q T rfl rfl rfl rfl (rn_move rfl (T.ev 0 rfl)) ?_; clear T ac; intro ac T
                refine l_pass T (wanted_no rfl rfl (T.ev 0 rfl) rfl) rfl rfl rfl ?_; clear T ac; intro ac T
                refine l_pass T (wanted_no rfl rfl (T.ev 1 rfl) rfl) rfl rfl rfl ?_; clear T ac; intro ac T
                refine l_pass T (wanted_no rfl rfl (T.ev 2 rfl) rfl) rfl rfl rfl ?_; clear T ac; intro ac T
                refine l_pass T (wanted_un rfl rfl (T.ev 0 rfl)) rfl rfl rfl ?_; clear T ac; intro ac T
                refine l_pass T (wanted_un rfl rfl (T.ev 1 rfl)) rfl rfl rfl ?_; clear T ac; intro ac T
                refine l_pass T (wanted_no rfl rfl (T.ev 5 rfl) rfl) rfl rfl rfl ?_; clear T ac; intro ac T
                refine l_q T rfl rfl rfl rfl (rn_pick0 rfl (T.ev 6 rfl) rfl evc) ?_; clear T ac; intro ac T
                refine l_q T rfl rfl rfl rfl (rn_move rfl (T.ev 0 rfl)) ?_; clear T ac; intro ac T
                refine l_pass T (wanted_no rfl rfl (T.ev 0 rfl) rfl) rfl rfl rfl ?_; clear T ac; intro ac T
                refine l_pass T (wanted_no rfl rfl (T.ev 1 rfl) rfl) rfl rfl rfl ?_; clear T ac; intro ac T
                refine l_pass T (wanted_no rfl rfl (T.ev 2 rfl) rfl) rfl rfl rfl ?_; clear T ac; intro ac T
                refine l_pass T (wanted_un rfl rfl (T.ev 0 rfl)) rfl rfl rfl ?_; clear T ac; intro ac T
                refine l_pass T (wanted_un rfl rfl (T.ev 1 rfl)) rfl rfl rfl ?_; clear T ac; intro ac T
                refine l_pass T (wanted_no rfl rfl (T.ev 5 rfl) rfl) rfl rfl rfl ?_; clear T ac; intro ac T
                refine l_q T rfl rfl rfl rfl (rn_pick0 rfl (T.ev 6 rfl) rfl evc) ?_; clear T ac; intro ac T
                refine l_q T rfl rfl rfl rfl (rn_move rfl (T.ev 0 rfl)) ?_; clear T ac; intro ac T
                refine l_pass T (wanted_no rfl rfl (T.ev 0 rfl) rfl) rfl rfl rfl ?_; clear T ac; intro ac T
                refine l_q T rfl rfl rfl rfl (rn_pick0 rfl (T.ev 1 rfl) rfl evc) ?_; clear T ac; intro ac T
                refine l_q T rfl rfl rfl rfl (rn_assign rfl (T.ev 0 rfl)) ?_; clear T ac; intro ac T
                refine wpList_nil ?_
                replace T := T.pick [0] rfl
                exact ⟨(T.pick (E' := [(2, .bool false)]) [0] rfl).as (by (try rw [show (!(decide ((shortE ju2) = 0))) = false from (by simp [h11])]); (try rw [show (decide ((shortE jm) = 0)) = false from (decide_eq_false h23)]); rfl), M.mask [] rfl⟩
          · clear T M
            rintro ac wc ⟨T, M⟩
            refine wp_ret ?_
            refine rt_1 T rfl (T.ev 0 rfl) ?_
            refine ⟨ret_bool ?_, M.below⟩
            obtain ⟨s1, s2⟩ := short_nar hn9 hgu2 hgm
            obtain ⟨g1, g2⟩ := guided_nar hn9 hgu2 hgm
            by_cases c1 : shortE ju2 = 0 <;> by_cases c2 : (guidedJ ju2).2 = 0
            · obtain ⟨a, b⟩ := s1 c1; obtain ⟨c, d⟩ := g1 c2; simp [c1, c2, a, b, c, d]
            · obtain ⟨a, b⟩ := s1 c1; rcases g2 with c | c <;> simp [c1, c2, a, b, c]
            · obtain ⟨c, d⟩ := g1 c2; rcases s2 with a | a <;> simp [c1, c2, a, c, d]
            · rcases s2 with a | a <;> rcases g2 with c | c <;> simp [c1, c2, a, c]

end Go.Proofs.Ythlpceoajhcliaa
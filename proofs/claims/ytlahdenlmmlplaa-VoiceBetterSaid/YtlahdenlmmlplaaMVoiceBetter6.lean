/-
  law05: VoiceBetter, walked.
-/
import Derived.Test.YtlahdenlmmlplaaMVoiceBetter1
import Derived.Test.YtlahdenlmmlplaaMVoiceBetter2
import Derived.Test.YtlahdenlmmlplaaMVoiceBetter3
import Derived.Test.YtlahdenlmmlplaaMVoiceBetter4
import Derived.Test.YtlahdenlmmlplaaMVoiceBetter5
namespace Go.Proofs.Ytlahdenlmmlplaa
set_option linter.unusedSimpArgs false
set_option linter.unusedVariables false
open Go.RowKit


set_option maxRecDepth 100000 in
set_option maxHeartbeats 4000000 in
theorem VoiceBetter_any (D : Option Addr) (n d : Nat) (l : List Int) (w : World) (hl : Rd w w.heap.size 1 D n (ic l)) (hm : n ≤ 9223372036854775807) :
    Calls Try.prog 7 #[.slice D n d] w fun e w' => e = .returned (.bool true) ∧ Below w.heap.size w w' := by
  have hll := hl.len1
  obtain ⟨bI, oI, SI⟩ := Sp.old hl
  refine px_enter noEx Try.func7 rfl 219 rfl [.slice D n d] rfl rfl (Mem.init w _) ?_
  intro ac wc T M
  refine wp_seq ?_
  refine wp_region_lit ?_
  refine lq T (rn_assign rfl evc) ?_; clear T ac; intro ac T
  refine wpList_nil ?_
  replace T := T.pick [1] rfl
  refine nm_then ?_
  refine wp_seq ?_
  refine wp_region_lit ?_
  refine lq T (rn_move rfl (T.ev 0 rfl)) ?_; clear T ac; intro ac T
  refine l_w rfl ?_; intro K hK
  refine ow_call (first := []) (cap := []) T rfl rfl rfl rfl evf (.cons (T.ev 0 rfl) .nil) Try.func12 rfl rfl ?_
  refine Calls.mono (newPot_any _ _ _ l _ (SI.rd M (List.nil_sublist _)) (by omega)) ?_
  clear T
  rintro e wc ⟨bpu1, su1, hsu1, rfl, N⟩
  intro ac T
  replace M := M.join N; clear N
  replace M := M.mask [true] rfl
  refine sh_out hK _ _ ?_; clear hK K
  refine lq T (rn_assign rfl (T.ev 0 rfl)) ?_; clear T ac; intro ac T
  refine wpList_nil ?_
  replace T := T.pick [0] rfl
  refine nm_then ?_
  refine wp_seq ?_
  refine wp_region_lit ?_
  refine lq T (rn_move rfl (T.ev 0 rfl)) ?_; clear T ac; intro ac T
  refine l_w rfl ?_; intro K hK
  refine ow_call (first := []) (cap := []) T rfl rfl rfl rfl evf (.cons (T.ev 0 rfl) (.cons evc (.cons evc (.cons evc .nil)))) Try.func18 rfl rfl ?_
  refine Calls.mono (boxOf_any _ bpu1 3 4 2 _ (by omega) (by omega) (by omega) (M.nth 0 rfl) hsu1) ?_
  clear T
  rintro e wc ⟨bu2, Au2, cu2, Bu2, du2, su2, Iu2, rfl, hmu2, hsu2, SAu2, SBu2, N⟩
  intro ac T
  obtain ⟨b1u2, o1u2, SAu2⟩ := SAu2
  replace SAu2 := SAu2 w noEx
  obtain ⟨b2u2, o2u2, SBu2⟩ := SBu2
  replace SBu2 := SBu2 w noEx
  replace M := (M.joinW .head N).swapI
  clear N
  replace M : Mem w noEx wc ((bpu1, .cells [.int .u64 su2]) :: Iu2) := M
  have hgu2 := hmu2.good
  have nlu2 := hgu2.lows.1
  have nhu2 := hgu2.highs.1
  have hstu2 := step_bd (notes := 3) hmu2.law.step hmu2.note
  have hnou2 := hmu2.note
  have ⟨hfu2, hzu2, hpu2, hqu2⟩ := hmu2.law
  dsimp only at hstu2 hfu2 hpu2 hqu2
  refine sh_out hK _ _ ?_; clear hK K
  refine l_w rfl ?_; intro K hK
  refine ow_al M T rfl rfl rfl rfl ?_; clear M T; intro g1 wc ac M T
  refine sh_out hK _ _ ?_; clear hK K
  refine l_w rfl ?_; intro K hK
  refine ow_stO M T rfl rfl (T.ev 0 rfl) (T.ev 1 rfl) rfl .head rfl (by simp) rfl (by kernel_rfl) ?_; clear M T; intro wc ac M T
  refine sh_out hK _ _ ?_; clear hK K
  refine wpList_nil ?_
  replace T := T.pick [0, 3] rfl
  refine nm_then ?_
  refine wp_seq ?_
  refine wp_region_lit ?_
  refine lq T (rn_rowO (Mem.nth M 0 rfl) rfl (T.ev 0 rfl) rfl) ?_; clear T ac; intro ac T
  refine l_w rfl ?_; intro K hK
  refine ow_call (first := []) (cap := []) T rfl rfl rfl rfl evf (.cons (T.ev 0 rfl) .nil) Try.func31 rfl rfl ?_
  refine Calls.mono (copyBox_any (bu2) _ _ _ _ _ (SAu2.rd M (.cons _ (.cons _ (List.Sublist.refl _)))) (SBu2.rd M (.cons _ (.cons _ (List.Sublist.refl _)))) (by show bu2.lows.length ≤ _; omega) (by show bu2.highs.length ≤ _; omega)) ?_
  clear T
  rintro e wc ⟨g1u3, c1u3, y1u3, g2u3, c2u3, y2u3, rfl, N⟩
  intro ac T
  replace M := M.join N
  clear N
  replace M : Mem w noEx wc ((g1u3, .cells (sc bu2.lows ++ y1u3)) :: (g2u3, .cells (sc bu2.highs ++ y2u3)) :: (g1, .cells [.int .i64 bu2.first, .int .i64 bu2.step, .int .i64 bu2.span, .int .i64 bu2.press, .int .i64 bu2.note, .slice Au2 bu2.lows.length cu2, .slice Bu2 bu2.highs.length du2, .int .i64 bu2.t0, .int .i64 bu2.t1, .int .i64 bu2.r0, .int .i64 bu2.r1, .int .i64 bu2.u0, .int .i64 bu2.u1, .int .i64 bu2.d0, .int .i64 bu2.d1, .int .i64 bu2.a0, .int .i64 bu2.a1, .int .i64 bu2.b0, .int .i64 bu2.b1, .int .i64 bu2.le, .int .i64 bu2.me]) :: (bpu1, .cells [.int .u64 su2]) :: Iu2) := M
  have Sc1u3 := Sp.pre (w := w) (ex := noEx) (size := 4) (n := bu2.lows.length) (g := g1u3) (xs := sc bu2.lows) (ys := y1u3) (by simp [sc_length])
  have Sc2u3 := Sp.pre (w := w) (ex := noEx) (size := 4) (n := bu2.highs.length) (g := g2u3) (xs := sc bu2.highs) (ys := y2u3) (by simp [sc_length])
  refine sh_out hK _ _ ?_; clear hK K
  refine l_w rfl ?_; intro K hK
  refine ow_al M T rfl rfl rfl rfl ?_; clear M T; intro g2 wc ac M T
  refine sh_out hK _ _ ?_; clear hK K
  refine l_w rfl ?_; intro K hK
  refine ow_stO M T rfl rfl (T.ev 0 rfl) (T.ev 1 rfl) rfl .head rfl (by simp) rfl (by kernel_rfl) ?_; clear M T; intro wc ac M T
  refine sh_out hK _ _ ?_; clear hK K
  refine wpList_nil ?_
  replace T := T.pick [0, 3, 4] rfl
  refine nm_then ?_
  refine wp_seq ?_
  refine wp_seq ?_
  refine wp_region_lit ?_
  refine lq T (rn_assign rfl evc) ?_; clear T ac; intro ac T
  refine wpList_nil ?_
  refine nm_then ?_
  refine wp_block ?_
  refine wp_loop_n (fun mz ac wc => ∃ (k : Nat) (lx : List Snd) (s0 : Int), mz = bu2.lows.length - k ∧ (k ≤ bu2.lows.length) ∧ (NarK bu2.lows lx k) ∧ (u64ok s0) ∧ Tm ac 219 [(3, .pointer (some ⟨bpu1, 0, none⟩)), (4, .pointer (some ⟨g1, 0, none⟩)), (5, .pointer (some ⟨g2, 0, none⟩)), (6, .int .i64 (k : Int))] ∧ Mem w noEx wc ((g2, .cells [.int .i64 bu2.first, .int .i64 bu2.step, .int .i64 bu2.span, .int .i64 bu2.press, .int .i64 bu2.note, .slice (some ⟨g1u3, 0, none⟩) lx.length c1u3, .slice (some ⟨g2u3, 0, none⟩) bu2.highs.length c2u3, .int .i64 bu2.t0, .int .i64 bu2.t1, .int .i64 bu2.r0, .int .i64 bu2.r1, .int .i64 bu2.u0, .int .i64 bu2.u1, .int .i64 bu2.d0, .int .i64 bu2.d1, .int .i64 bu2.a0, .int .i64 bu2.a1, .int .i64 bu2.b0, .int .i64 bu2.b1, .int .i64 bu2.le, .int .i64 bu2.me]) :: (g1u3, .cells (sc lx ++ y1u3)) :: (g2u3, .cells (sc bu2.highs ++ y2u3)) :: (g1, .cells [.int .i64 bu2.first, .int .i64 bu2.step, .int .i64 bu2.span, .int .i64 bu2.press, .int .i64 bu2.note, .slice Au2 bu2.lows.length cu2, .slice Bu2 bu2.highs.length du2, .int .i64 bu2.t0, .int .i64 bu2.t1, .int .i64 bu2.r0, .int .i64 bu2.r1, .int .i64 bu2.u0, .int .i64 bu2.u1, .int .i64 bu2.d0, .int .i64 bu2.d1, .int .i64 bu2.a0, .int .i64 bu2.a1, .int .i64 bu2.b0, .int .i64 bu2.b1, .int .i64 bu2.le, .int .i64 bu2.me]) :: (bpu1, .cells [.int .u64 s0]) :: Iu2)) ?_ ?_
  ·exact ⟨_, 0, bu2.lows, _, rfl, (Nat.zero_le _), (NarK.start _), hsu2, T.pick [3, 2, 1, 0] rfl, M.mask [true, true, true, true, true] rfl⟩
  clear T M
  rintro mz ac wc ⟨k, lx, s0, hmm1, hkk, hKk, hsk, T, M⟩
  have hKnk := hKk.n
  refine wp_seq ?_
  refine wp_seq ?_
  refine wp_region_lit ?_
  refine lq T (rn_move rfl (T.ev 3 rfl)) ?_; clear T ac; intro ac T
  refine lq (v := (.pointer (some ⟨g2, 5, none⟩))) T (rn_fieldAddr (off := 5) rfl (T.ev 3 rfl) (fun _ _ _ => by kernel_rfl)) ?_; clear T ac; intro ac T
  refine lq T (rn_one (Mem.nth M 0 rfl) rfl (T.ev 0 rfl) rfl) ?_; clear T ac; intro ac T
  refine lq T (rn_lenS rfl Try.underlying38 (T.ev 0 rfl)) ?_; clear T ac; intro ac T
  refine lq T (rn_lss rfl (T.ev 3 rfl) (T.ev 0 rfl)) ?_; clear T ac; intro ac T
  refine wpList_nil ?_
  replace T := T.pick [0, 5, 6, 7, 8] rfl
  refine nm_then ?_
  refine wp_if (T.ev 0 rfl) ?_ ?_
  ·intro h1
   obtain ⟨x, hkx, -⟩ := sc_next (l := bu2.lows) (k := k) (by omega)
   have ⟨gx1, gx2⟩ := hgu2.lows.2 x (List.mem_of_getElem? hkx)
   have Slx := Sp.pre (w := w) (ex := noEx) (size := 4) (n := lx.length) (g := g1u3) (xs := sc lx) (ys := y1u3) (by simp [sc_length])
   refine wp_skip ?_
   refine nm_then ?_
   refine wp_seq ?_
   refine wp_block ?_
   refine g_start2 M (M.mask [false, false, false, false, false] rfl) 38 (by kernel_rfl) rfl (by kernel_rfl) ?_
   clear M; intro wc M
   refine g_addG 17 M ?_
   refine g_addG 37 (M.mask [true, true, true, true, false] rfl) ?_
   refine gq (v := (.pointer (some ⟨g2, 5, none⟩))) T 0 1 rfl (fun _ _ _ _ _ => (rn_fieldAddr (off := 5) rfl (T.ev 3 rfl) (fun _ _ _ => by kernel_rfl))) ?_; clear T ac; intro ac T
   refine gq T 1 3 rfl (fun B w' hD hl hS => (rn_one (Mem.nth (show Mem w noEx w' _ from ((MA.lft hS) (hD.wait (i := 1) (m := 37) (by kernel_rfl) hl))) 0 rfl) rfl (T.ev 0 rfl) rfl)) ?_; clear T ac; intro ac T
   refine gq T 2 7 rfl (fun _ _ _ _ _ => (rn_move rfl (T.ev 6 rfl))) ?_; clear T ac; intro ac T
   refine gq T 3 15 rfl (fun _ _ _ _ _ => (rn_move rfl (T.ev 4 rfl))) ?_; clear T ac; intro ac T
   refine gq (v := (.pointer (some ⟨g1, 5, none⟩))) T 4 31 rfl (fun _ _ _ _ _ => (rn_fieldAddr (off := 5) rfl (T.ev 6 rfl) (fun _ _ _ => by kernel_rfl))) ?_; clear T ac; intro ac T
   refine gq T 5 63 rfl (fun B w' hD hl hS => (rn_one (Mem.nth (show Mem w noEx w' _ from ((MA.lft hS) (hD.wait (i := 5) (m := 37) (by kernel_rfl) hl))) 3 rfl) rfl (T.ev 0 rfl) rfl)) ?_; clear T ac; intro ac T
   refine gq T 6 127 rfl (fun _ _ _ _ _ => (rn_move rfl (T.ev 10 rfl))) ?_; clear T ac; intro ac T
   refine gq T 7 255 rfl (fun _ _ _ _ _ => (rn_indexAddr (size := 4) k rfl (T.ev 1 rfl) (T.ev 0 rfl) ⟨_, Try.underlying38, by kernel_rfl⟩ rfl (by omega) (SAu2.at0 (by omega)))) ?_; clear T ac; intro ac T
   refine gq T 8 511 rfl (fun _ _ _ _ _ => (rn_fieldAddr (off := 0) rfl (T.ev 0 rfl) (fun _ _ _ => by kernel_rfl))) ?_; clear T ac; intro ac T
   refine gq (v := (.agg #[.int .i64 x.t0, .int .i64 x.t1])) T 9 1023 rfl (fun B w' hD hl hS => (rn_rowat (Sp.scR02 SAu2 (show Mem w noEx w' _ from ((MA.lft hS) (hD.wait (i := 9) (m := 37) (by kernel_rfl) hl))) (.cons _ (.cons _ (.cons _ (.cons _ (List.Sublist.refl _))))) hkx) rfl (T.ev 0 rfl) rfl)) ?_; clear T ac; intro ac T
   refine gq T 10 2047 rfl (fun _ _ _ _ _ => (rn_move rfl (T.ev 11 rfl))) ?_; clear T ac; intro ac T
   refine gq (v := (.pointer (some ⟨g1, 5, none⟩))) T 11 4095 rfl (fun _ _ _ _ _ => (rn_fieldAddr (off := 5) rfl (T.ev 13 rfl) (fun _ _ _ => by kernel_rfl))) ?_; clear T ac; intro ac T
   refine gq T 12 8191 rfl (fun B w' hD hl hS => (rn_one (Mem.nth (show Mem w noEx w' _ from ((MA.lft hS) (hD.wait (i := 12) (m := 37) (by kernel_rfl) hl))) 3 rfl) rfl (T.ev 0 rfl) rfl)) ?_; clear T ac; intro ac T
   refine gq T 13 16383 rfl (fun _ _ _ _ _ => (rn_move rfl (T.ev 17 rfl))) ?_; clear T ac; intro ac T
   refine gq T 14 32767 rfl (fun _ _ _ _ _ => (rn_indexAddr (size := 4) k rfl (T.ev 1 rfl) (T.ev 0 rfl) ⟨_, Try.underlying38, by kernel_rfl⟩ rfl (by omega) (SAu2.at0 (by omega)))) ?_; clear T ac; intro ac T
   refine gq T 15 65535 rfl (fun _ _ _ _ _ => (rn_fieldAddr (off := 0) rfl (T.ev 0 rfl) (fun _ _ _ => by kernel_rfl))) ?_; clear T ac; intro ac T
   refine gq (v := (.agg #[.int .i64 x.t0, .int .i64 x.t1])) T 16 131071 rfl (fun B w' hD hl hS => (rn_rowat (Sp.scR02 SAu2 (show Mem w noEx w' _ from ((MA.lft hS) (hD.wait (i := 16) (m := 37) (by kernel_rfl) hl))) (.cons _ (.cons _ (.cons _ (.cons _ (List.Sublist.refl _))))) hkx) rfl (T.ev 0 rfl) rfl)) ?_; clear T ac; intro ac T
   refine gq T 19 655359 rfl (fun _ _ _ _ _ => (rn_move rfl (T.ev 18 rfl))) ?_; clear T ac; intro ac T
   refine gq (v := (.pointer (some ⟨g1, 5, none⟩))) T 20 1703935 rfl (fun _ _ _ _ _ => (rn_fieldAddr (off := 5) rfl (T.ev 20 rfl) (fun _ _ _ => by kernel_rfl))) ?_; clear T ac; intro ac T
   refine gq T 21 3801087 rfl (fun B w' hD hl hS => (rn_one (Mem.nth (show Mem w noEx w' _ from ((MA.lft hS) (hD.wait (i := 21) (m := 37) (by kernel_rfl) hl))) 3 rfl) rfl (T.ev 0 rfl) rfl)) ?_; clear T ac; intro ac T
   refine gq T 22 7995391 rfl (fun _ _ _ _ _ => (rn_move rfl (T.ev 24 rfl))) ?_; clear T ac; intro ac T
   refine gq T 23 16383999 rfl (fun _ _ _ _ _ => (rn_indexAddr (size := 4) k rfl (T.ev 1 rfl) (T.ev 0 rfl) ⟨_, Try.underlying38, by kernel_rfl⟩ rfl (by omega) (SAu2.at0 (by omega)))) ?_; clear T ac; intro ac T
   refine gq T 24 33161215 rfl (fun _ _ _ _ _ => (rn_fieldAddr (off := 2) rfl (T.ev 0 rfl) (fun _ _ _ => by kernel_rfl))) ?_; clear T ac; intro ac T
   refine gq (v := (.agg #[.int .i64 x.s0, .int .i64 x.s1])) T 25 66715647 rfl (fun B w' hD hl hS => (rn_rowat (Sp.scR22 SAu2 (show Mem w noEx w' _ from ((MA.lft hS) (hD.wait (i := 25) (m := 37) (by kernel_rfl) hl))) (.cons _ (.cons _ (.cons _ (.cons _ (List.Sublist.refl _))))) hkx) rfl (T.ev 0 rfl) rfl)) ?_; clear T ac; intro ac T
   refine gq T 26 133824511 rfl (fun _ _ _ _ _ => (rn_move rfl (T.ev 25 rfl))) ?_; clear T ac; intro ac T
   refine gq (v := (.pointer (some ⟨g1, 5, none⟩))) T 27 268042239 rfl (fun _ _ _ _ _ => (rn_fieldAddr (off := 5) rfl (T.ev 27 rfl) (fun _ _ _ => by kernel_rfl))) ?_; clear T ac; intro ac T
   refine gq T 28 536477695 rfl (fun B w' hD hl hS => (rn_one (Mem.nth (show Mem w noEx w' _ from ((MA.lft hS) (hD.wait (i := 28) (m := 37) (by kernel_rfl) hl))) 3 rfl) rfl (T.ev 0 rfl) rfl)) ?_; clear T ac; intro ac T
   refine gq T 29 1073348607 rfl (fun _ _ _ _ _ => (rn_move rfl (T.ev 31 rfl))) ?_; clear T ac; intro ac T
   refine gq T 30 2147090431 rfl (fun _ _ _ _ _ => (rn_indexAddr (size := 4) k rfl (T.ev 1 rfl) (T.ev 0 rfl) ⟨_, Try.underlying38, by kernel_rfl⟩ rfl (by omega) (SAu2.at0 (by omega)))) ?_; clear T ac; intro ac T
   refine gq T 31 4294574079 rfl (fun _ _ _ _ _ => (rn_fieldAddr (off := 2) rfl (T.ev 0 rfl) (fun _ _ _ => by kernel_rfl))) ?_; clear T ac; intro ac T
   refine gq (v := (.agg #[.int .i64 x.s0, .int .i64 x.s1])) T 32 8589541375 rfl (fun B w' hD hl hS => (rn_rowat (Sp.scR22 SAu2 (show Mem w noEx w' _ from ((MA.lft hS) (hD.wait (i := 32) (m := 37) (by kernel_rfl) hl))) (.cons _ (.cons _ (.cons _ (.cons _ (List.Sublist.refl _))))) hkx) rfl (T.ev 0 rfl) rfl)) ?_; clear T ac; intro ac T
   refine gw 17 8589672447 ?_; intro K hK
   refine ow_call (first := []) (cap := []) T rfl rfl rfl rfl evf (.cons (T.ev 20 rfl) (.cons (T.ev 14 rfl) .nil)) Try.func38 rfl rfl ?_
   refine Calls.mono (inner_any _ bpu1 x.t0 x.t1 _ (by omega) (by omega) (by omega) (M.nth 4 rfl) hsk) ?_
   clear T
   rintro e wc ⟨xu4, su4, hxu4, hsu4, rfl, hgr, hbk⟩
   intro ac T
   replace M := M.callC (cs' := [.int .u64 su4]) (.tail (.tail (.tail (.tail .head)))) hgr hbk
   clear hgr hbk
   refine sh_out hK _ _ (MA.mk (fun _ => M.mask [true, true, true, true, false] rfl) (MA.mk (fun h => (no_of (by kernel_rfl) h).elim) (M.mask [false, false, false, false, false] rfl))) ?_; clear hK K
   refine gw 18 8589934591 ?_; intro K hK
   refine ow_call (first := []) (cap := []) T rfl rfl rfl rfl evf (.cons (T.ev 28 rfl) (.cons (T.ev 22 rfl) (.cons (T.ev 0 rfl) .nil))) Try.func37 rfl rfl ?_
   refine Calls.mono (narrow_any _ bpu1 x.t0 x.t1 xu4 _ (by omega) (by omega) (by omega) (by omega) (M.nth 4 rfl) hsu4) ?_
   clear T
   rintro e wc ⟨xu5, yu5, su5, hxu5, hsu5, rfl, hgr, hbk⟩
   intro ac T
   replace M := M.callC (cs' := [.int .u64 su5]) (.tail (.tail (.tail (.tail .head)))) hgr hbk
   clear hgr hbk
   refine sh_out hK _ _ (MA.mk (fun _ => M.mask [true, true, true, true, false] rfl) (MA.mk (fun h => (no_of (by kernel_rfl) h).elim) (M.mask [false, false, false, false, false] rfl))) ?_; clear hK K
   refine gw 33 17179869183 ?_; intro K hK
   refine ow_call (first := []) (cap := []) T rfl rfl rfl rfl evf (.cons (T.ev 8 rfl) (.cons (T.ev 2 rfl) .nil)) Try.func38 rfl rfl ?_
   refine Calls.mono (inner_any _ bpu1 x.s0 x.s1 _ (by omega) (by omega) (by omega) (M.nth 4 rfl) hsu5) ?_
   clear T
   rintro e wc ⟨xu6, su6, hxu6, hsu6, rfl, hgr, hbk⟩
   intro ac T
   replace M := M.callC (cs' := [.int .u64 su6]) (.tail (.tail (.tail (.tail .head)))) hgr hbk
   clear hgr hbk
   refine sh_out hK _ _ (MA.mk (fun _ => M.mask [true, true, true, true, false] rfl) (MA.mk (fun h => (no_of (by kernel_rfl) h).elim) (M.mask [false, false, false, false, false] rfl))) ?_; clear hK K
   refine gw 34 34359738367 ?_; intro K hK
   refine ow_call (first := []) (cap := []) T rfl rfl rfl rfl evf (.cons (T.ev 16 rfl) (.cons (T.ev 10 rfl) (.cons (T.ev 0 rfl) .nil))) Try.func37 rfl rfl ?_
   refine Calls.mono (narrow_any _ bpu1 x.s0 x.s1 xu6 _ (by omega) (by omega) (by omega) (by omega) (M.nth 4 rfl) hsu6) ?_
   clear T
   rintro e wc ⟨xu7, yu7, su7, hxu7, hsu7, rfl, hgr, hbk⟩
   intro ac T
   replace M := M.callC (cs' := [.int .u64 su7]) (.tail (.tail (.tail (.tail .head)))) hgr hbk
   clear hgr hbk
   refine sh_out hK _ _ (MA.mk (fun _ => M.mask [true, true, true, true, false] rfl) (MA.mk (fun h => (no_of (by kernel_rfl) h).elim) (M.mask [false, false, false, false, false] rfl))) ?_; clear hK K
   refine gw 35 68719476735 ?_; intro K hK
   refine ow_call (first := []) (cap := []) T rfl rfl rfl rfl evf (.cons (T.ev 2 rfl) (.cons (T.ev 0 rfl) .nil)) Try.func36 rfl rfl ?_
   refine Calls.mono (sound5_any xu5 yu5 xu7 yu7 _) ?_
   clear T
   rintro e wc ⟨rfl, hb⟩
   intro ac T
   replace M := M.call hb; clear hb
   refine sh_out hK _ _ (MA.mk (fun _ => M.mask [true, true, true, true, false] rfl) (MA.mk (fun h => (no_of (by kernel_rfl) h).elim) (M.mask [false, false, false, false, false] rfl))) ?_; clear hK K
   refine gq T 36 137438953471 rfl (fun _ _ _ _ _ => (rn_indexAddr (size := 4) k rfl (T.ev 34 rfl) (T.ev 33 rfl) ⟨_, Try.underlying38, by kernel_rfl⟩ rfl (by omega) rfl)) ?_; clear T ac; intro ac T
   refine gw 37 274877906943 ?_; intro K hK
   refine ow_stS M T rfl rfl (T.ev 0 rfl) (T.ev 1 rfl) (.tail .head) (by omega) rfl ?_; clear M T; intro wc ac M T
   obtain ⟨lo1, hlo1⟩ : ∃ q, q = lx.set k (⟨xu5, yu5, xu7, yu7⟩ : Snd) := ⟨_, rfl⟩
   have lhlo1 : lx.length = lo1.length := by rw [hlo1, List.length_set]
   rw [← hlo1] at M; (try rw [lhlo1] at M); (try rw [lhlo1] at T)
   have Ss1 := Sp.pre (w := w) (ex := noEx) (size := 4) (n := lo1.length) (g := g1u3) (xs := sc lo1) (ys := y1u3) (by simp [sc_length])
   refine sh_out hK _ _ (MA.mk (fun h => (no_of (by kernel_rfl) h).elim) (MA.mk (fun h => (no_of (by kernel_rfl) h).elim) (M.mask [false, false, false, false, false] rfl))) ?_; clear hK K
   refine g_done (by kernel_rfl) ?_
   replace T := T.pick [38, 39, 40, 41] rfl
   refine nm_blk ?_
   refine nm_then ?_
   refine wp_region_lit ?_
   refine lq T (rn_move rfl (T.ev 3 rfl)) ?_; clear T ac; intro ac T
   refine lq T (rn_add rfl (T.ev 0 rfl) evc (by omega)) ?_; clear T ac; intro ac T
   refine l_q (v := (.int .i64 ((k : Int) + 1))) (T.pick [0, 1, 2, 3, 4] rfl) rfl rfl rfl rfl (rn_assign rfl (T.ev 0 rfl)) ?_; clear T ac; intro ac T
   refine wpList_nil ?_
   replace T := T.pick [0, 3, 4, 5] rfl
   refine nm_then ?_
   exact ⟨_, by omega, k + 1, lo1, su7, rfl, (by omega), (hKk.step (by omega) hkx hlo1 (by unfold narS; dsimp only; omega)), hsu7, T.pick [1, 2, 3, 0] rfl, M.mask [true, true, true, true, true] rfl⟩
  intro h1
  have hNlx := hKk.done (by omega)
  have Slx := Sp.pre (w := w) (ex := noEx) (size := 4) (n := lx.length) (g := g1u3) (xs := sc lx) (ys := y1u3) (by simp [sc_length])
  refine wp_exit ?_
  refine ex_then ?_
  refine ex_then ?_
  refine ex_hit ?_
  refine nm_then ?_
  refine wp_seq ?_
  refine wp_seq ?_
  refine wp_region_lit ?_
  refine lq T (rn_assign rfl evc) ?_; clear T ac; intro ac T
  refine wpList_nil ?_
  replace T := T.pick [0, 2, 3, 4] rfl
  refine nm_then ?_
  refine wp_block ?_
  refine wp_loop_n (fun mz ac wc => ∃ (m : Nat) (hx : List Snd) (s1 : Int), mz = bu2.highs.length - m ∧ (m ≤ bu2.highs.length) ∧ (NarK bu2.highs hx m) ∧ (u64ok s1) ∧ Tm ac 219 [(3, .pointer (some ⟨bpu1, 0, none⟩)), (4, .pointer (some ⟨g1, 0, none⟩)), (5, .pointer (some ⟨g2, 0, none⟩)), (7, .int .i64 (m : Int))] ∧ Mem w noEx wc ((g2, .cells [.int .i64 bu2.first, .int .i64 bu2.step, .int .i64 bu2.span, .int .i64 bu2.press, .int .i64 bu2.note, .slice (some ⟨g1u3, 0, none⟩) lx.length c1u3, .slice (some ⟨g2u3, 0, none⟩) hx.length c2u3, .int .i64 bu2.t0, .int .i64 bu2.t1, .int .i64 bu2.r0, .int .i64 bu2.r1, .int .i64 bu2.u0, .int .i64 bu2.u1, .int .i64 bu2.d0, .int .i64 bu2.d1, .int .i64 bu2.a0, .int .i64 bu2.a1, .int .i64 bu2.b0, .int .i64 bu2.b1, .int .i64 bu2.le, .int .i64 bu2.me]) :: (g1u3, .cells (sc lx ++ y1u3)) :: (g2u3, .cells (sc hx ++ y2u3)) :: (g1, .cells [.int .i64 bu2.first, .int .i64 bu2.step, .int .i64 bu2.span, .int .i64 bu2.press, .int .i64 bu2.note, .slice Au2 bu2.lows.length cu2, .slice Bu2 bu2.highs.length du2, .int .i64 bu2.t0, .int .i64 bu2.t1, .int .i64 bu2.r0, .int .i64 bu2.r1, .int .i64 bu2.u0, .int .i64 bu2.u1, .int .i64 bu2.d0, .int .i64 bu2.d1, .int .i64 bu2.a0, .int .i64 bu2.a1, .int .i64 bu2.b0, .int .i64 bu2.b1, .int .i64 bu2.le, .int .i64 bu2.me]) :: (bpu1, .cells [.int .u64 s1]) :: Iu2)) ?_ ?_
  ·exact ⟨_, 0, bu2.highs, _, rfl, (Nat.zero_le _), (NarK.start _), hsk, T.pick [1, 2, 3, 0] rfl, M.mask [true, true, true, true, true] rfl⟩
  clear T M
  rintro mz ac wc ⟨m, hx, s1, hmm2, hkm, hKm, hsm, T, M⟩
  have hKnm := hKm.n
  refine wp_seq ?_
  refine wp_seq ?_
  refine wp_region_lit ?_
  refine lq T (rn_move rfl (T.ev 3 rfl)) ?_; clear T ac; intro ac T
  refine lq (v := (.pointer (some ⟨g2, 6, none⟩))) T (rn_fieldAddr (off := 6) rfl (T.ev 3 rfl) (fun _ _ _ => by kernel_rfl)) ?_; clear T ac; intro ac T
  refine lq T (rn_one (Mem.nth M 0 rfl) rfl (T.ev 0 rfl) rfl) ?_; clear T ac; intro ac T
  refine lq T (rn_lenS rfl Try.underlying38 (T.ev 0 rfl)) ?_; clear T ac; intro ac T
  refine lq T (rn_lss rfl (T.ev 3 rfl) (T.ev 0 rfl)) ?_; clear T ac; intro ac T
  refine wpList_nil ?_
  replace T := T.pick [0, 5, 6, 7, 8] rfl
  refine nm_then ?_
  refine wp_if (T.ev 0 rfl) ?_ ?_
  ·intro h2
   obtain ⟨y, hky, -⟩ := sc_next (l := bu2.highs) (k := m) (by omega)
   have ⟨gy1, gy2⟩ := hgu2.highs.2 y (List.mem_of_getElem? hky)
   have Shx := Sp.pre (w := w) (ex := noEx) (size := 4) (n := hx.length) (g := g2u3) (xs := sc hx) (ys := y2u3) (by simp [sc_length])
   refine wp_skip ?_
   refine nm_then ?_
   refine wp_seq ?_
   refine wp_block ?_
   refine g_start2 M (M.mask [false, false, false, false, false] rfl) 38 (by kernel_rfl) rfl (by kernel_rfl) ?_
   clear M; intro wc M
   refine g_addG 17 M ?_
   refine g_addG 37 (M.mask [true, true, true, true, false] rfl) ?_
   refine gq (v := (.pointer (some ⟨g2, 6, none⟩))) T 0 1 rfl (fun _ _ _ _ _ => (rn_fieldAddr (off := 6) rfl (T.ev 3 rfl) (fun _ _ _ => by kernel_rfl))) ?_; clear T ac; intro ac T
   refine gq T 1 3 rfl (fun B w' hD hl hS => (rn_one (Mem.nth (show Mem w noEx w' _ from ((MA.lft hS) (hD.wait (i := 1) (m := 37) (by kernel_rfl) hl))) 0 rfl) rfl (T.ev 0 rfl) rfl)) ?_; clear T ac; intro ac T
   refine gq T 2 7 rfl (fun _ _ _ _ _ => (rn_move rfl (T.ev 6 rfl))) ?_; clear T ac; intro ac T
   refine gq T 3 15 rfl (fun _ _ _ _ _ => (rn_move rfl (T.ev 4 rfl))) ?_; clear T ac; intro ac T
   refine gq (v := (.pointer (some ⟨g1, 6, none⟩))) T 4 31 rfl (fun _ _ _ _ _ => (rn_fieldAddr (off := 6) rfl (T.ev 6 rfl) (fun _ _ _ => by kernel_rfl))) ?_; clear T ac; intro ac T
   refine gq T 5 63 rfl (fun B w' hD hl hS => (rn_one (Mem.nth (show Mem w noEx w' _ from ((MA.lft hS) (hD.wait (i := 5) (m := 37) (by kernel_rfl) hl))) 3 rfl) rfl (T.ev 0 rfl) rfl)) ?_; clear T ac; intro ac T
   refine gq T 6 127 rfl (fun _ _ _ _ _ => (rn_move rfl (T.ev 10 rfl))) ?_; clear T ac; intro ac T
   refine gq T 7 255 rfl (fun _ _ _ _ _ => (rn_indexAddr (size := 4) m rfl (T.ev 1 rfl) (T.ev 0 rfl) ⟨_, Try.underlying38, by kernel_rfl⟩ rfl (by omega) (SBu2.at0 (by omega)))) ?_; clear T ac; intro ac T
   refine gq T 8 511 rfl (fun _ _ _ _ _ => (rn_fieldAddr (off := 0) rfl (T.ev 0 rfl) (fun _ _ _ => by kernel_rfl))) ?_; clear T ac; intro ac T
   refine gq (v := (.agg #[.int .i64 y.t0, .int .i64 y.t1])) T 9 1023 rfl (fun B w' hD hl hS => (rn_rowat (Sp.scR02 SBu2 (show Mem w noEx w' _ from ((MA.lft hS) (hD.wait (i := 9) (m := 37) (by kernel_rfl) hl))) (.cons _ (.cons _ (.cons _ (.cons _ (List.Sublist.refl _))))) hky) rfl (T.ev 0 rfl) rfl)) ?_; clear T ac; intro ac T
   refine gq T 10 2047 rfl (fun _ _ _ _ _ => (rn_move rfl (T.ev 11 rfl))) ?_; clear T ac; intro ac T
   refine gq (v := (.pointer (some ⟨g1, 6, none⟩))) T 11 4095 rfl (fun _ _ _ _ _ => (rn_fieldAddr (off := 6) rfl (T.ev 13 rfl) (fun _ _ _ => by kernel_rfl))) ?_; clear T ac; intro ac T
   refine gq T 12 8191 rfl (fun B w' hD hl hS => (rn_one (Mem.nth (show Mem w noEx w' _ from ((MA.lft hS) (hD.wait (i := 12) (m := 37) (by kernel_rfl) hl))) 3 rfl) rfl (T.ev 0 rfl) rfl)) ?_; clear T ac; intro ac T
   refine gq T 13 16383 rfl (fun _ _ _ _ _ => (rn_move rfl (T.ev 17 rfl))) ?_; clear T ac; intro ac T
   refine gq T 14 32767 rfl (fun _ _ _ _ _ => (rn_indexAddr (size := 4) m rfl (T.ev 1 rfl) (T.ev 0 rfl) ⟨_, Try.underlying38, by kernel_rfl⟩ rfl (by omega) (SBu2.at0 (by omega)))) ?_; clear T ac; intro ac T
   refine gq T 15 65535 rfl (fun _ _ _ _ _ => (rn_fieldAddr (off := 0) rfl (T.ev 0 rfl) (fun _ _ _ => by kernel_rfl))) ?_; clear T ac; intro ac T
   refine gq (v := (.agg #[.int .i64 y.t0, .int .i64 y.t1])) T 16 131071 rfl (fun B w' hD hl hS => (rn_rowat (Sp.scR02 SBu2 (show Mem w noEx w' _ from ((MA.lft hS) (hD.wait (i := 16) (m := 37) (by kernel_rfl) hl))) (.cons _ (.cons _ (.cons _ (.cons _ (List.Sublist.refl _))))) hky) rfl (T.ev 0 rfl) rfl)) ?_; clear T ac; intro ac T
   refine gq T 19 655359 rfl (fun _ _ _ _ _ => (rn_move rfl (T.ev 18 rfl))) ?_; clear T ac; intro ac T
   refine gq (v := (.pointer (some ⟨g1, 6, none⟩))) T 20 1703935 rfl (fun _ _ _ _ _ => (rn_fieldAddr (off := 6) rfl (T.ev 20 rfl) (fun _ _ _ => by kernel_rfl))) ?_; clear T ac; intro ac T
   refine gq T 21 3801087 rfl (fun B w' hD hl hS => (rn_one (Mem.nth (show Mem w noEx w' _ from ((MA.lft hS) (hD.wait (i := 21) (m := 37) (by kernel_rfl) hl))) 3 rfl) rfl (T.ev 0 rfl) rfl)) ?_; clear T ac; intro ac T
   refine gq T 22 7995391 rfl (fun _ _ _ _ _ => (rn_move rfl (T.ev 24 rfl))) ?_; clear T ac; intro ac T
   refine gq T 23 16383999 rfl (fun _ _ _ _ _ => (rn_indexAddr (size := 4) m rfl (T.ev 1 rfl) (T.ev 0 rfl) ⟨_, Try.underlying38, by kernel_rfl⟩ rfl (by omega) (SBu2.at0 (by omega)))) ?_; clear T ac; intro ac T
   refine gq T 24 33161215 rfl (fun _ _ _ _ _ => (rn_fieldAddr (off := 2) rfl (T.ev 0 rfl) (fun _ _ _ => by kernel_rfl))) ?_; clear T ac; intro ac T
   refine gq (v := (.agg #[.int .i64 y.s0, .int .i64 y.s1])) T 25 66715647 rfl (fun B w' hD hl hS => (rn_rowat (Sp.scR22 SBu2 (show Mem w noEx w' _ from ((MA.lft hS) (hD.wait (i := 25) (m := 37) (by kernel_rfl) hl))) (.cons _ (.cons _ (.cons _ (.cons _ (List.Sublist.refl _))))) hky) rfl (T.ev 0 rfl) rfl)) ?_; clear T ac; intro ac T
   refine gq T 26 133824511 rfl (fun _ _ _ _ _ => (rn_move rfl (T.ev 25 rfl))) ?_; clear T ac; intro ac T
   refine gq (v := (.pointer (some ⟨g1, 6, none⟩))) T 27 268042239 rfl (fun _ _ _ _ _ => (rn_fieldAddr (off := 6) rfl (T.ev 27 rfl) (fun _ _ _ => by kernel_rfl))) ?_; clear T ac; intro ac T
   refine gq T 28 536477695 rfl (fun B w' hD hl hS => (rn_one (Mem.nth (show Mem w noEx w' _ from ((MA.lft hS) (hD.wait (i := 28) (m := 37) (by kernel_rfl) hl))) 3 rfl) rfl (T.ev 0 rfl) rfl)) ?_; clear T ac; intro ac T
   refine gq T 29 1073348607 rfl (fun _ _ _ _ _ => (rn_move rfl (T.ev 31 rfl))) ?_; clear T ac; intro ac T
   refine gq T 30 2147090431 rfl (fun _ _ _ _ _ => (rn_indexAddr (size := 4) m rfl (T.ev 1 rfl) (T.ev 0 rfl) ⟨_, Try.underlying38, by kernel_rfl⟩ rfl (by omega) (SBu2.at0 (by omega)))) ?_; clear T ac; intro ac T
   refine gq T 31 4294574079 rfl (fun _ _ _ _ _ => (rn_fieldAddr (off := 2) rfl (T.ev 0 rfl) (fun _ _ _ => by kernel_rfl))) ?_; clear T ac; intro ac T
   refine gq (v := (.agg #[.int .i64 y.s0, .int .i64 y.s1])) T 32 8589541375 rfl (fun B w' hD hl hS => (rn_rowat (Sp.scR22 SBu2 (show Mem w noEx w' _ from ((MA.lft hS) (hD.wait (i := 32) (m := 37) (by kernel_rfl) hl))) (.cons _ (.cons _ (.cons _ (.cons _ (List.Sublist.refl _))))) hky) rfl (T.ev 0 rfl) rfl)) ?_; clear T ac; intro ac T
   refine gw 17 8589672447 ?_; intro K hK
   refine ow_call (first := []) (cap := []) T rfl rfl rfl rfl evf (.cons (T.ev 20 rfl) (.cons (T.ev 14 rfl) .nil)) Try.func38 rfl rfl ?_
   refine Calls.mono (inner_any _ bpu1 y.t0 y.t1 _ (by omega) (by omega) (by omega) (M.nth 4 rfl) hsm) ?_
   clear T
   rintro e wc ⟨xu9, su9, hxu9, hsu9, rfl, hgr, hbk⟩
   intro ac T
   replace M := M.callC (cs' := [.int .u64 su9]) (.tail (.tail (.tail (.tail .head)))) hgr hbk
   clear hgr hbk
   refine sh_out hK _ _ (MA.mk (fun _ => M.mask [true, true, true, true, false] rfl) (MA.mk (fun h => (no_of (by kernel_rfl) h).elim) (M.mask [false, false, false, false, false] rfl))) ?_; clear hK K
   refine gw 18 8589934591 ?_; intro K hK
   refine ow_call (first := []) (cap := []) T rfl rfl rfl rfl evf (.cons (T.ev 28 rfl) (.cons (T.ev 22 rfl) (.cons (T.ev 0 rfl) .nil))) Try.func37 rfl rfl ?_
   refine Calls.mono (narrow_any _ bpu1 y.t0 y.t1 xu9 _ (by omega) (by omega) (by omega) (by omega) (M.nth 4 rfl) hsu9) ?_
   clear T
   rintro e wc ⟨xu10, yu10, su10, hxu10, hsu10, rfl, hgr, hbk⟩
   intro ac T
   replace M := M.callC (cs' := [.int .u64 su10]) (.tail (.tail (.tail (.tail .head)))) hgr hbk
   clear hgr hbk
   refine sh_out hK _ _ (MA.mk (fun _ => M.mask [true, true, true, true, false] rfl) (MA.mk (fun h => (no_of (by kernel_rfl) h).elim) (M.mask [false, false, false, false, false] rfl))) ?_; clear hK K
   refine gw 33 17179869183 ?_; intro K hK
   refine ow_call (first := []) (cap := []) T rfl rfl rfl rfl evf (.cons (T.ev 8 rfl) (.cons (T.ev 2 rfl) .nil)) Try.func38 rfl rfl ?_
   refine Calls.mono (inner_any _ bpu1 y.s0 y.s1 _ (by omega) (by omega) (by omega) (M.nth 4 rfl) hsu10) ?_
   clear T
   rintro e wc ⟨xu11, su11, hxu11, hsu11, rfl, hgr, hbk⟩
   intro ac T
   replace M := M.callC (cs' := [.int .u64 su11]) (.tail (.tail (.tail (.tail .head)))) hgr hbk
   clear hgr hbk
   refine sh_out hK _ _ (MA.mk (fun _ => M.mask [true, true, true, true, false] rfl) (MA.mk (fun h => (no_of (by kernel_rfl) h).elim) (M.mask [false, false, false, false, false] rfl))) ?_; clear hK K
   refine gw 34 34359738367 ?_; intro K hK
   refine ow_call (first := []) (cap := []) T rfl rfl rfl rfl evf (.cons (T.ev 16 rfl) (.cons (T.ev 10 rfl) (.cons (T.ev 0 rfl) .nil))) Try.func37 rfl rfl ?_
   refine Calls.mono (narrow_any _ bpu1 y.s0 y.s1 xu11 _ (by omega) (by omega) (by omega) (by omega) (M.nth 4 rfl) hsu11) ?_
   clear T
   rintro e wc ⟨xu12, yu12, su12, hxu12, hsu12, rfl, hgr, hbk⟩
   intro ac T
   replace M := M.callC (cs' := [.int .u64 su12]) (.tail (.tail (.tail (.tail .head)))) hgr hbk
   clear hgr hbk
   refine sh_out hK _ _ (MA.mk (fun _ => M.mask [true, true, true, true, false] rfl) (MA.mk (fun h => (no_of (by kernel_rfl) h).elim) (M.mask [false, false, false, false, false] rfl))) ?_; clear hK K
   refine gw 35 68719476735 ?_; intro K hK
   refine ow_call (first := []) (cap := []) T rfl rfl rfl rfl evf (.cons (T.ev 2 rfl) (.cons (T.ev 0 rfl) .nil)) Try.func36 rfl rfl ?_
   refine Calls.mono (sound5_any xu10 yu10 xu12 yu12 _) ?_
   clear T
   rintro e wc ⟨rfl, hb⟩
   intro ac T
   replace M := M.call hb; clear hb
   refine sh_out hK _ _ (MA.mk (fun _ => M.mask [true, true, true, true, false] rfl) (MA.mk (fun h => (no_of (by kernel_rfl) h).elim) (M.mask [false, false, false, false, false] rfl))) ?_; clear hK K
   refine gq T 36 137438953471 rfl (fun _ _ _ _ _ => (rn_indexAddr (size := 4) m rfl (T.ev 34 rfl) (T.ev 33 rfl) ⟨_, Try.underlying38, by kernel_rfl⟩ rfl (by omega) rfl)) ?_; clear T ac; intro ac T
   refine gw 37 274877906943 ?_; intro K hK
   refine ow_stS M T rfl rfl (T.ev 0 rfl) (T.ev 1 rfl) (.tail (.tail .head)) (by omega) rfl ?_; clear M T; intro wc ac M T
   obtain ⟨lo2, hlo2⟩ : ∃ q, q = hx.set m (⟨xu10, yu10, xu12, yu12⟩ : Snd) := ⟨_, rfl⟩
   have lhlo2 : hx.length = lo2.length := by rw [hlo2, List.length_set]
   rw [← hlo2] at M; (try rw [lhlo2] at M); (try rw [lhlo2] at T)
   have Ss2 := Sp.pre (w := w) (ex := noEx) (size := 4) (n := lo2.length) (g := g2u3) (xs := sc lo2) (ys := y2u3) (by simp [sc_length])
   refine sh_out hK _ _ (MA.mk (fun h => (no_of (by kernel_rfl) h).elim) (MA.mk (fun h => (no_of (by kernel_rfl) h).elim) (M.mask [false, false, false, false, false] rfl))) ?_; clear hK K
   refine g_done (by kernel_rfl) ?_
   replace T := T.pick [38, 39, 40, 41] rfl
   refine nm_blk ?_
   refine nm_then ?_
   refine wp_region_lit ?_
   refine lq T (rn_move rfl (T.ev 3 rfl)) ?_; clear T ac; intro ac T
   refine lq T (rn_add rfl (T.ev 0 rfl) evc (by omega)) ?_; clear T ac; intro ac T
   refine l_q (v := (.int .i64 ((m : Int) + 1))) (T.pick [0, 1, 2, 3, 4] rfl) rfl rfl rfl rfl (rn_assign rfl (T.ev 0 rfl)) ?_; clear T ac; intro ac T
   refine wpList_nil ?_
   replace T := T.pick [0, 3, 4, 5] rfl
   refine nm_then ?_
   exact ⟨_, by omega, m + 1, lo2, su12, rfl, (by omega), (hKm.step (by omega) hky hlo2 (by unfold narS; dsimp only; omega)), hsu12, T.pick [1, 2, 3, 0] rfl, M.mask [true, true, true, true, true] rfl⟩
  intro h2
  have hNhx := hKm.done (by omega)
  have Shx := Sp.pre (w := w) (ex := noEx) (size := 4) (n := hx.length) (g := g2u3) (xs := sc hx) (ys := y2u3) (by simp [sc_length])
  refine wp_exit ?_
  refine ex_then ?_
  refine ex_then ?_
  refine ex_hit ?_
  refine nm_then ?_
  refine wp_seq ?_
  refine wp_region_lit ?_
  refine lq T (rn_rowO (Mem.nth M 0 rfl) rfl (T.ev 3 rfl) rfl) ?_; clear T ac; intro ac T
  refine l_w rfl ?_; intro K hK
  refine ow_call (first := []) (cap := []) T rfl rfl rfl rfl evf (.cons (T.ev 0 rfl) .nil) Try.func31 rfl rfl ?_
  refine Calls.mono (copyBox_any ({ bu2 with lows := lx, highs := hx, span := bu2.span, press := bu2.press }) _ _ _ _ _ (Slx.rd M (.cons _ (List.Sublist.cons_cons _ (List.nil_sublist _)))) (Shx.rd M (.cons _ (.cons _ (List.Sublist.cons_cons _ (List.nil_sublist _))))) (by show lx.length ≤ _; omega) (by show hx.length ≤ _; omega)) ?_
  clear T
  rintro e wc ⟨g1u14, c1u14, y1u14, g2u14, c2u14, y2u14, rfl, N⟩
  intro ac T
  replace M := M.join N
  clear N
  replace M : Mem w noEx wc ((g1u14, .cells (sc lx ++ y1u14)) :: (g2u14, .cells (sc hx ++ y2u14)) :: (g2, .cells [.int .i64 bu2.first, .int .i64 bu2.step, .int .i64 bu2.span, .int .i64 bu2.press, .int .i64 bu2.note, .slice (some ⟨g1u3, 0, none⟩) lx.length c1u3, .slice (some ⟨g2u3, 0, none⟩) hx.length c2u3, .int .i64 bu2.t0, .int .i64 bu2.t1, .int .i64 bu2.r0, .int .i64 bu2.r1, .int .i64 bu2.u0, .int .i64 bu2.u1, .int .i64 bu2.d0, .int .i64 bu2.d1, .int .i64 bu2.a0, .int .i64 bu2.a1, .int .i64 bu2.b0, .int .i64 bu2.b1, .int .i64 bu2.le, .int .i64 bu2.me]) :: (g1u3, .cells (sc lx ++ y1u3)) :: (g2u3, .cells (sc hx ++ y2u3)) :: (g1, .cells [.int .i64 bu2.first, .int .i64 bu2.step, .int .i64 bu2.span, .int .i64 bu2.press, .int .i64 bu2.note, .slice Au2 bu2.lows.length cu2, .slice Bu2 bu2.highs.length du2, .int .i64 bu2.t0, .int .i64 bu2.t1, .int .i64 bu2.r0, .int .i64 bu2.r1, .int .i64 bu2.u0, .int .i64 bu2.u1, .int .i64 bu2.d0, .int .i64 bu2.d1, .int .i64 bu2.a0, .int .i64 bu2.a1, .int .i64 bu2.b0, .int .i64 bu2.b1, .int .i64 bu2.le, .int .i64 bu2.me]) :: (bpu1, .cells [.int .u64 s1]) :: Iu2) := M
  have Sc1u14 := Sp.pre (w := w) (ex := noEx) (size := 4) (n := lx.length) (g := g1u14) (xs := sc lx) (ys := y1u14) (by simp [sc_length])
  have Sc2u14 := Sp.pre (w := w) (ex := noEx) (size := 4) (n := hx.length) (g := g2u14) (xs := sc hx) (ys := y2u14) (by simp [sc_length])
  refine sh_out hK _ _ ?_; clear hK K
  refine l_w rfl ?_; intro K hK
  refine ow_al M T rfl rfl rfl rfl ?_; clear M T; intro g3 wc ac M T
  refine sh_out hK _ _ ?_; clear hK K
  refine l_w rfl ?_; intro K hK
  refine ow_stO M T rfl rfl (T.ev 0 rfl) (T.ev 1 rfl) rfl .head rfl (by simp) rfl (by kernel_rfl) ?_; clear M T; intro wc ac M T
  refine sh_out hK _ _ ?_; clear hK K
  refine wpList_nil ?_
  replace T := T.pick [0, 4, 5, 6] rfl
  refine nm_then ?_
  refine wp_seq ?_
  refine g_start2 M (M.mask [false, true, true, true, true, true, true, false] rfl) 16 (by kernel_rfl) rfl (by kernel_rfl) ?_
  clear M; intro wc M
  refine g_addG 4 M ?_
  refine g_addG 12 (M.mask [true, true, true, true, true, true, true, false] rfl) ?_
  refine gq T 0 1 rfl (fun _ _ _ _ _ => (rn_move rfl (T.ev 1 rfl))) ?_; clear T ac; intro ac T
  refine gq (v := (.pointer (some ⟨g1, 0, none⟩))) T 1 3 rfl (fun _ _ _ _ _ => (rn_fieldAddr (off := 0) rfl (T.ev 3 rfl) (fun _ _ _ => by kernel_rfl))) ?_; clear T ac; intro ac T
  refine gq (v := (.pointer (some ⟨g1, 2, none⟩))) T 2 7 rfl (fun _ _ _ _ _ => (rn_fieldAddr (off := 2) rfl (T.ev 0 rfl) (fun _ _ _ => by kernel_rfl))) ?_; clear T ac; intro ac T
  refine gq T 3 15 rfl (fun B w' hD hl hS => (rn_one (Mem.nth (show Mem w noEx w' _ from ((MA.lft hS) (hD.wait (i := 3) (m := 12) (by kernel_rfl) hl))) 6 rfl) rfl (T.ev 0 rfl) rfl)) ?_; clear T ac; intro ac T
  refine gq T 5 47 rfl (fun _ _ _ _ _ => (rn_move rfl (T.ev 5 rfl))) ?_; clear T ac; intro ac T
  refine gq (v := (.pointer (some ⟨g1, 0, none⟩))) T 6 111 rfl (fun _ _ _ _ _ => (rn_fieldAddr (off := 0) rfl (T.ev 7 rfl) (fun _ _ _ => by kernel_rfl))) ?_; clear T ac; intro ac T
  refine gq (v := (.pointer (some ⟨g1, 3, none⟩))) T 7 239 rfl (fun _ _ _ _ _ => (rn_fieldAddr (off := 3) rfl (T.ev 0 rfl) (fun _ _ _ => by kernel_rfl))) ?_; clear T ac; intro ac T
  refine gq T 8 495 rfl (fun B w' hD hl hS => (rn_one (Mem.nth (show Mem w noEx w' _ from ((MA.lft hS) (hD.wait (i := 9) (m := 12) (by kernel_rfl) (hD.wait (i := 8) (m := 9) (by kernel_rfl) hl)))) 6 rfl) rfl (T.ev 0 rfl) rfl)) ?_; clear T ac; intro ac T
  refine gw 4 511 ?_; intro K hK
  refine ow_call (first := []) (cap := []) T rfl rfl rfl rfl evf (.cons (T.ev 7 rfl) (.cons (T.ev 4 rfl) (.cons evc .nil))) Try.func19 rfl rfl ?_
  refine Calls.mono (within_pot _ bpu1 bu2.span 20 _ (by omega) (by omega) (by omega) (M.nth 7 rfl) hsm) ?_
  clear T
  rintro e wc ⟨xu15, su15, hxu15, hsu15, rfl, hgr, hbk⟩
  intro ac T
  replace M := M.callC (cs' := [.int .u64 su15]) (.tail (.tail (.tail (.tail (.tail (.tail (.tail .head))))))) hgr hbk
  clear hgr hbk
  refine sh_out hK _ _ (MA.mk (fun _ => M.mask [true, true, true, true, true, true, true, false] rfl) (MA.mk (fun h => (no_of (by kernel_rfl) h).elim) (M.mask [false, true, true, true, true, true, true, false] rfl))) ?_; clear hK K
  refine gq (v := (.pointer (some ⟨g3, 0, none⟩))) T 10 1535 rfl (fun _ _ _ _ _ => (rn_fieldAddr (off := 0) rfl (T.ev 9 rfl) (fun _ _ _ => by kernel_rfl))) ?_; clear T ac; intro ac T
  refine gq (v := (.pointer (some ⟨g3, 2, none⟩))) T 11 3583 rfl (fun _ _ _ _ _ => (rn_fieldAddr (off := 2) rfl (T.ev 0 rfl) (fun _ _ _ => by kernel_rfl))) ?_; clear T ac; intro ac T
  refine gw 9 4095 ?_; intro K hK
  refine ow_call (first := []) (cap := []) T rfl rfl rfl rfl evf (.cons (T.ev 6 rfl) (.cons (T.ev 3 rfl) .nil)) Try.func39 rfl rfl ?_
  refine Calls.mono (upto_any _ bpu1 bu2.press _ (by omega) (by omega) (M.nth 7 rfl) hsu15) ?_
  clear T
  rintro e wc ⟨xu16, su16, hxu16, hsu16, rfl, hgr, hbk⟩
  intro ac T
  replace M := M.callC (cs' := [.int .u64 su16]) (.tail (.tail (.tail (.tail (.tail (.tail (.tail .head))))))) hgr hbk
  clear hgr hbk
  refine sh_out hK _ _ (MA.mk (fun _ => M.mask [true, true, true, true, true, true, true, false] rfl) (MA.mk (fun h => (no_of (by kernel_rfl) h).elim) (M.mask [false, true, true, true, true, true, true, false] rfl))) ?_; clear hK K
  refine gw 12 8191 ?_; intro K hK
  refine ow_stO M T rfl rfl (T.ev 1 rfl) (T.ev 3 rfl) rfl .head rfl (by simp) rfl (by kernel_rfl) ?_; clear M T; intro wc ac M T
  refine sh_out hK _ _ (MA.mk (fun h => (no_of (by kernel_rfl) h).elim) (MA.mk (fun h => (no_of (by kernel_rfl) h).elim) (M.mask [false, true, true, true, true, true, true, false] rfl))) ?_; clear hK K
  refine gq (v := (.pointer (some ⟨g3, 0, none⟩))) T 13 16383 rfl (fun _ _ _ _ _ => (rn_fieldAddr (off := 0) rfl (T.ev 12 rfl) (fun _ _ _ => by kernel_rfl))) ?_; clear T ac; intro ac T
  refine gq (v := (.pointer (some ⟨g3, 3, none⟩))) T 14 32767 rfl (fun _ _ _ _ _ => (rn_fieldAddr (off := 3) rfl (T.ev 0 rfl) (fun _ _ _ => by kernel_rfl))) ?_; clear T ac; intro ac T
  refine gw 15 65535 ?_; intro K hK
  refine ow_stO M T rfl rfl (T.ev 0 rfl) (T.ev 2 rfl) rfl .head rfl (by simp) rfl (by kernel_rfl) ?_; clear M T; intro wc ac M T
  refine sh_out hK _ _ (MA.mk (fun h => (no_of (by kernel_rfl) h).elim) (MA.mk (fun h => (no_of (by kernel_rfl) h).elim) (M.mask [false, true, true, true, true, true, true, false] rfl))) ?_; clear hK K
  refine g_done (by kernel_rfl) ?_
  replace T := T.pick [14, 16, 17] rfl
  replace M := M.mask [true, true, true, true, true, true, true, false] rfl
  refine nm_then ?_
  refine wp_seq ?_
  refine wp_seq ?_
  refine wp_region_lit ?_
  refine lq T (rn_assign rfl evc) ?_; clear T ac; intro ac T
  refine wpList_nil ?_
  refine nm_then ?_
  refine wp_block ?_
  refine wp_loop_n (fun mz ac wc => ∃ (i : Nat), mz = bu2.lows.length - i ∧ (i ≤ bu2.lows.length) ∧ Tm ac 219 [(4, .pointer (some ⟨g1, 0, none⟩)), (5, .pointer (some ⟨g2, 0, none⟩)), (8, .pointer (some ⟨g3, 0, none⟩)), (9, .int .i64 (i : Int))] ∧ Mem w noEx wc ((g3, .cells [.int .i64 bu2.first, .int .i64 bu2.step, .int .i64 xu15, .int .i64 xu16, .int .i64 bu2.note, .slice (some ⟨g1u14, 0, none⟩) lx.length c1u14, .slice (some ⟨g2u14, 0, none⟩) hx.length c2u14, .int .i64 bu2.t0, .int .i64 bu2.t1, .int .i64 bu2.r0, .int .i64 bu2.r1, .int .i64 bu2.u0, .int .i64 bu2.u1, .int .i64 bu2.d0, .int .i64 bu2.d1, .int .i64 bu2.a0, .int .i64 bu2.a1, .int .i64 bu2.b0, .int .i64 bu2.b1, .int .i64 bu2.le, .int .i64 bu2.me]) :: (g1u14, .cells (sc lx ++ y1u14)) :: (g2u14, .cells (sc hx ++ y2u14)) :: (g2, .cells [.int .i64 bu2.first, .int .i64 bu2.step, .int .i64 bu2.span, .int .i64 bu2.press, .int .i64 bu2.note, .slice (some ⟨g1u3, 0, none⟩) lx.length c1u3, .slice (some ⟨g2u3, 0, none⟩) hx.length c2u3, .int .i64 bu2.t0, .int .i64 bu2.t1, .int .i64 bu2.r0, .int .i64 bu2.r1, .int .i64 bu2.u0, .int .i64 bu2.u1, .int .i64 bu2.d0, .int .i64 bu2.d1, .int .i64 bu2.a0, .int .i64 bu2.a1, .int .i64 bu2.b0, .int .i64 bu2.b1, .int .i64 bu2.le, .int .i64 bu2.me]) :: (g1u3, .cells (sc lx ++ y1u3)) :: (g2u3, .cells (sc hx ++ y2u3)) :: (g1, .cells [.int .i64 bu2.first, .int .i64 bu2.step, .int .i64 bu2.span, .int .i64 bu2.press, .int .i64 bu2.note, .slice Au2 bu2.lows.length cu2, .slice Bu2 bu2.highs.length du2, .int .i64 bu2.t0, .int .i64 bu2.t1, .int .i64 bu2.r0, .int .i64 bu2.r1, .int .i64 bu2.u0, .int .i64 bu2.u1, .int .i64 bu2.d0, .int .i64 bu2.d1, .int .i64 bu2.a0, .int .i64 bu2.a1, .int .i64 bu2.b0, .int .i64 bu2.b1, .int .i64 bu2.le, .int .i64 bu2.me]) :: Iu2)) ?_ ?_
  ·exact ⟨_, 0, rfl, (Nat.zero_le _), T.pick [2, 3, 1, 0] rfl, M.mask [true, true, true, true, true, true, true] rfl⟩
  clear T M
  rintro mz ac wc ⟨i, hmm3, hi, T, M⟩
  refine wp_seq ?_
  refine wp_seq ?_
  refine wp_region_lit ?_
  refine lq T (rn_move rfl (T.ev 3 rfl)) ?_; clear T ac; intro ac T
  refine lq (v := (.pointer (some ⟨g1, 5, none⟩))) T (rn_fieldAddr (off := 5) rfl (T.ev 1 rfl) (fun _ _ _ => by kernel_rfl)) ?_; clear T ac; intro ac T
  refine lq T (rn_one (Mem.nth M 6 rfl) rfl (T.ev 0 rfl) rfl) ?_; clear T ac; intro ac T
  refine lq T (rn_lenS rfl Try.underlying38 (T.ev 0 rfl)) ?_; clear T ac; intro ac T
  refine lq T (rn_lss rfl (T.ev 3 rfl) (T.ev 0 rfl)) ?_; clear T ac; intro ac T
  refine wpList_nil ?_
  replace T := T.pick [0, 5, 6, 7, 8] rfl
  refine nm_then ?_
  refine wp_if (T.ev 0 rfl) ?_ ?_
  ·intro h3
   obtain ⟨x, hkx9, -⟩ := sc_next (l := bu2.lows) (k := i) (by omega)
   have gx9 := hgu2.lows.2 x (List.mem_of_getElem? hkx9)
   obtain ⟨x1, hkx1, nx1⟩ := hNlx.at hkx9
   refine wp_skip ?_
   refine nm_then ?_
   refine wp_seq ?_
   refine wp_block ?_
   refine wp_seq ?_
   refine wp_region_lit ?_
   refine lq T (rn_assign rfl evc) ?_; clear T ac; intro ac T
   refine wpList_nil ?_
   replace T := T.pick [0, 2, 3, 4, 5] rfl
   refine nm_then ?_
   refine wp_block ?_
   refine wp_loop_n (fun mz ac wc => ∃ (j : Nat), mz = bu2.highs.length - j ∧ (j ≤ bu2.highs.length) ∧ Tm ac 219 [(4, .pointer (some ⟨g1, 0, none⟩)), (5, .pointer (some ⟨g2, 0, none⟩)), (8, .pointer (some ⟨g3, 0, none⟩)), (9, .int .i64 (i : Int)), (10, .int .i64 (j : Int))] ∧ Mem w noEx wc ((g3, .cells [.int .i64 bu2.first, .int .i64 bu2.step, .int .i64 xu15, .int .i64 xu16, .int .i64 bu2.note, .slice (some ⟨g1u14, 0, none⟩) lx.length c1u14, .slice (some ⟨g2u14, 0, none⟩) hx.length c2u14, .int .i64 bu2.t0, .int .i64 bu2.t1, .int .i64 bu2.r0, .int .i64 bu2.r1, .int .i64 bu2.u0, .int .i64 bu2.u1, .int .i64 bu2.d0, .int .i64 bu2.d1, .int .i64 bu2.a0, .int .i64 bu2.a1, .int .i64 bu2.b0, .int .i64 bu2.b1, .int .i64 bu2.le, .int .i64 bu2.me]) :: (g1u14, .cells (sc lx ++ y1u14)) :: (g2u14, .cells (sc hx ++ y2u14)) :: (g2, .cells [.int .i64 bu2.first, .int .i64 bu2.step, .int .i64 bu2.span, .int .i64 bu2.press, .int .i64 bu2.note, .slice (some ⟨g1u3, 0, none⟩) lx.length c1u3, .slice (some ⟨g2u3, 0, none⟩) hx.length c2u3, .int .i64 bu2.t0, .int .i64 bu2.t1, .int .i64 bu2.r0, .int .i64 bu2.r1, .int .i64 bu2.u0, .int .i64 bu2.u1, .int .i64 bu2.d0, .int .i64 bu2.d1, .int .i64 bu2.a0, .int .i64 bu2.a1, .int .i64 bu2.b0, .int .i64 bu2.b1, .int .i64 bu2.le, .int .i64 bu2.me]) :: (g1u3, .cells (sc lx ++ y1u3)) :: (g2u3, .cells (sc hx ++ y2u3)) :: (g1, .cells [.int .i64 bu2.first, .int .i64 bu2.step, .int .i64 bu2.span, .int .i64 bu2.press, .int .i64 bu2.note, .slice Au2 bu2.lows.length cu2, .slice Bu2 bu2.highs.length du2, .int .i64 bu2.t0, .int .i64 bu2.t1, .int .i64 bu2.r0, .int .i64 bu2.r1, .int .i64 bu2.u0, .int .i64 bu2.u1, .int .i64 bu2.d0, .int .i64 bu2.d1, .int .i64 bu2.a0, .int .i64 bu2.a1, .int .i64 bu2.b0, .int .i64 bu2.b1, .int .i64 bu2.le, .int .i64 bu2.me]) :: Iu2)) ?_ ?_
   ·exact ⟨_, 0, rfl, (Nat.zero_le _), T.pick [1, 2, 3, 4, 0] rfl, M.mask [true, true, true, true, true, true, true] rfl⟩
   clear T M
   rintro mz ac wc ⟨j, hmm4, hj, T, M⟩
   refine wp_seq ?_
   refine wp_seq ?_
   refine wp_region_lit ?_
   refine lq T (rn_move rfl (T.ev 4 rfl)) ?_; clear T ac; intro ac T
   refine lq (v := (.pointer (some ⟨g1, 6, none⟩))) T (rn_fieldAddr (off := 6) rfl (T.ev 1 rfl) (fun _ _ _ => by kernel_rfl)) ?_; clear T ac; intro ac T
   refine lq T (rn_one (Mem.nth M 6 rfl) rfl (T.ev 0 rfl) rfl) ?_; clear T ac; intro ac T
   refine lq T (rn_lenS rfl Try.underlying38 (T.ev 0 rfl)) ?_; clear T ac; intro ac T
   refine lq T (rn_lss rfl (T.ev 3 rfl) (T.ev 0 rfl)) ?_; clear T ac; intro ac T
   refine wpList_nil ?_
   replace T := T.pick [0, 5, 6, 7, 8, 9] rfl
   refine nm_then ?_
   refine wp_if (T.ev 0 rfl) ?_ ?_
   ·intro h4
    obtain ⟨y, hky9, -⟩ := sc_next (l := bu2.highs) (k := j) (by omega)
    have gy9 := hgu2.highs.2 y (List.mem_of_getElem? hky9)
    obtain ⟨y1, hky1, ny1⟩ := hNhx.at hky9
    refine wp_skip ?_
    refine nm_then ?_
    refine wp_seq ?_
    refine wp_block ?_
    refine wp_seq ?_
    refine wp_region_lit ?_
    refine lq T (rn_rowO (Mem.nth M 6 rfl) rfl (T.ev 1 rfl) rfl) ?_; clear T ac; intro ac T
    refine lq T (rn_move rfl (T.ev 5 rfl)) ?_; clear T ac; intro ac T
    refine lq T (rn_move rfl (T.ev 7 rfl)) ?_; clear T ac; intro ac T
    refine l_w rfl ?_; intro K hK
    refine ow_call (first := []) (cap := []) T rfl rfl rfl rfl evf (.cons (T.ev 2 rfl) (.cons (T.ev 1 rfl) (.cons (T.ev 0 rfl) .nil))) Try.func22 rfl rfl ?_
    refine Calls.mono (Keeps_at (bu2) _ _ _ _ i j x y _ (SAu2.rd M (.cons _ (.cons _ (.cons _ (.cons _ (.cons _ (.cons _ (.cons _ (List.Sublist.refl _))))))))) (SBu2.rd M (.cons _ (.cons _ (.cons _ (.cons _ (.cons _ (.cons _ (.cons _ (List.Sublist.refl _))))))))) hgu2 hkx9 hky9) ?_
    clear T
    rintro e wc ⟨rfl, hb⟩
    intro ac T
    replace M := M.call hb; clear hb
    obtain ⟨kpu17, hkpu17⟩ : ∃ q, q = keepsP (bu2 : Bx).law (bu2 : Bx).due [x, y] := ⟨_, rfl⟩
    rw [← hkpu17] at T
    refine sh_out hK _ _ ?_; clear hK K
    refine lq T (rn_move rfl (T.ev 0 rfl)) ?_; clear T ac; intro ac T
    refine lq T (rn_extract rfl (T.ev 0 rfl) rfl) ?_; clear T ac; intro ac T
    refine lq T (rn_extract rfl (T.ev 1 rfl) rfl) ?_; clear T ac; intro ac T
    refine lq T (rn_assign rfl (T.ev 1 rfl)) ?_; clear T ac; intro ac T
    refine lq T (rn_assign rfl (T.ev 1 rfl)) ?_; clear T ac; intro ac T
    refine wpList_nil ?_
    replace T := T.pick [0, 1, 10, 11, 12, 13, 14] rfl
    refine nm_then ?_
    refine wp_seq ?_
    refine wp_region_lit ?_
    refine lq T (rn_rowO (Mem.nth M 3 rfl) rfl (T.ev 3 rfl) rfl) ?_; clear T ac; intro ac T
    refine lq T (rn_move rfl (T.ev 6 rfl)) ?_; clear T ac; intro ac T
    refine lq T (rn_move rfl (T.ev 8 rfl)) ?_; clear T ac; intro ac T
    refine l_w rfl ?_; intro K hK
    refine ow_call (first := []) (cap := []) T rfl rfl rfl rfl evf (.cons (T.ev 2 rfl) (.cons (T.ev 1 rfl) (.cons (T.ev 0 rfl) .nil))) Try.func22 rfl rfl ?_
    refine Calls.mono (Keeps_at ({ bu2 with lows := lx, highs := hx, span := bu2.span, press := bu2.press }) _ _ _ _ i j x1 y1 _ (Slx.rd M (.cons _ (.cons _ (.cons _ (.cons _ (List.Sublist.cons_cons _ (List.nil_sublist _))))))) (Shx.rd M (.cons _ (.cons _ (.cons _ (.cons _ (.cons _ (List.Sublist.cons_cons _ (List.nil_sublist _)))))))) (better_good hgu2 hNlx hNhx (by omega) (by omega)) hkx1 hky1) ?_
    clear T
    rintro e wc ⟨rfl, hb⟩
    intro ac T
    replace M := M.call hb; clear hb
    obtain ⟨kpu18, hkpu18⟩ : ∃ q, q = keepsP ({ bu2 with lows := lx, highs := hx, span := bu2.span, press := bu2.press } : Bx).law ({ bu2 with lows := lx, highs := hx, span := bu2.span, press := bu2.press } : Bx).due [x1, y1] := ⟨_, rfl⟩
    rw [← hkpu18] at T
    refine sh_out hK _ _ ?_; clear hK K
    refine lq T (rn_move rfl (T.ev 0 rfl)) ?_; clear T ac; intro ac T
    refine lq T (rn_extract rfl (T.ev 0 rfl) rfl) ?_; clear T ac; intro ac T
    refine lq T (rn_extract rfl (T.ev 1 rfl) rfl) ?_; clear T ac; intro ac T
    refine lq T (rn_assign rfl (T.ev 1 rfl)) ?_; clear T ac; intro ac T
    refine lq T (rn_assign rfl (T.ev 1 rfl)) ?_; clear T ac; intro ac T
    refine wpList_nil ?_
    replace T := T.pick [0, 1, 9, 10, 11, 12, 13, 14, 15] rfl
    refine nm_then ?_
    refine wp_seq ?_
    refine wp_region_lit ?_
    refine lq T (rn_rowO (Mem.nth M 0 rfl) rfl (T.ev 6 rfl) rfl) ?_; clear T ac; intro ac T
    refine lq T (rn_move rfl (T.ev 8 rfl)) ?_; clear T ac; intro ac T
    refine lq T (rn_move rfl (T.ev 10 rfl)) ?_; clear T ac; intro ac T
    refine l_w rfl ?_; intro K hK
    refine ow_call (first := []) (cap := []) T rfl rfl rfl rfl evf (.cons (T.ev 2 rfl) (.cons (T.ev 1 rfl) (.cons (T.ev 0 rfl) .nil))) Try.func22 rfl rfl ?_
    refine Calls.mono (Keeps_at ({ bu2 with lows := lx, highs := hx, span := xu15, press := xu16 }) _ _ _ _ i j x1 y1 _ (Sc1u14.rd M (.cons _ (List.Sublist.cons_cons _ (List.nil_sublist _)))) (Sc2u14.rd M (.cons _ (.cons _ (List.Sublist.cons_cons _ (List.nil_sublist _))))) (better_good hgu2 hNlx hNhx (by omega) (by omega)) hkx1 hky1) ?_
    clear T
    rintro e wc ⟨rfl, hb⟩
    intro ac T
    replace M := M.call hb; clear hb
    obtain ⟨kpu19, hkpu19⟩ : ∃ q, q = keepsP ({ bu2 with lows := lx, highs := hx, span := xu15, press := xu16 } : Bx).law ({ bu2 with lows := lx, highs := hx, span := xu15, press := xu16 } : Bx).due [x1, y1] := ⟨_, rfl⟩
    rw [← hkpu19] at T
    have hbt : (kpu17 = 3 ∨ kpu18 = kpu17) ∧ (kpu18 = 1 → kpu19 = 1) := by rw [hkpu17, hkpu18, hkpu19]; exact keeps_better gx9 gy9 nx1 ny1 (by dsimp only; omega) (by dsimp only; omega) (by dsimp only; omega)
    refine sh_out hK _ _ ?_; clear hK K
    refine lq T (rn_move rfl (T.ev 0 rfl)) ?_; clear T ac; intro ac T
    refine lq T (rn_extract rfl (T.ev 0 rfl) rfl) ?_; clear T ac; intro ac T
    refine lq T (rn_extract rfl (T.ev 1 rfl) rfl) ?_; clear T ac; intro ac T
    refine lq T (rn_assign rfl (T.ev 1 rfl)) ?_; clear T ac; intro ac T
    refine lq T (rn_assign rfl (T.ev 1 rfl)) ?_; clear T ac; intro ac T
    refine wpList_nil ?_
    replace T := T.pick [0, 1, 9, 10, 11, 12, 13, 14, 15, 16, 17] rfl
    refine nm_then ?_
    refine cut_seq (fun ac wc => Tm ac 219 [(4, .pointer (some ⟨g1, 0, none⟩)), (5, .pointer (some ⟨g2, 0, none⟩)), (8, .pointer (some ⟨g3, 0, none⟩)), (9, .int .i64 (i : Int)), (10, .int .i64 (j : Int)), (169, .int .i64 0), (170, .bool false), (173, .int .i64 0), (174, .bool false), (177, .int .i64 kpu17), (178, .bool (!(decide (kpu17 = 3)))), (179, .bool (!(decide (kpu17 = 3)))), (183, .bool ((!(decide (kpu17 = 3))) && (!(decide (kpu17 = kpu18))))), (192, .bool (bif (!(decide (kpu17 = 3))) then ((!(decide (kpu17 = kpu18))) || ((decide (kpu18 = 1)) && (!(decide (kpu19 = 1))))) else ((decide (kpu18 = 1)) && (!(decide (kpu19 = 1))))))] ∧ Mem w noEx wc ((g3, .cells [.int .i64 bu2.first, .int .i64 bu2.step, .int .i64 xu15, .int .i64 xu16, .int .i64 bu2.note, .slice (some ⟨g1u14, 0, none⟩) lx.length c1u14, .slice (some ⟨g2u14, 0, none⟩) hx.length c2u14, .int .i64 bu2.t0, .int .i64 bu2.t1, .int .i64 bu2.r0, .int .i64 bu2.r1, .int .i64 bu2.u0, .int .i64 bu2.u1, .int .i64 bu2.d0, .int .i64 bu2.d1, .int .i64 bu2.a0, .int .i64 bu2.a1, .int .i64 bu2.b0, .int .i64 bu2.b1, .int .i64 bu2.le, .int .i64 bu2.me]) :: (g1u14, .cells (sc lx ++ y1u14)) :: (g2u14, .cells (sc hx ++ y2u14)) :: (g2, .cells [.int .i64 bu2.first, .int .i64 bu2.step, .int .i64 bu2.span, .int .i64 bu2.press, .int .i64 bu2.note, .slice (some ⟨g1u3, 0, none⟩) lx.length c1u3, .slice (some ⟨g2u3, 0, none⟩) hx.length c2u3, .int .i64 bu2.t0, .int .i64 bu2.t1, .int .i64 bu2.r0, .int .i64 bu2.r1, .int .i64 bu2.u0, .int .i64 bu2.u1, .int .i64 bu2.d0, .int .i64 bu2.d1, .int .i64 bu2.a0, .int .i64 bu2.a1, .int .i64 bu2.b0, .int .i64 bu2.b1, .int .i64 bu2.le, .int .i64 bu2.me]) :: (g1u3, .cells (sc lx ++ y1u3)) :: (g2u3, .cells (sc hx ++ y2u3)) :: (g1, .cells [.int .i64 bu2.first, .int .i64 bu2.step, .int .i64 bu2.span, .int .i64 bu2.press, .int .i64 bu2.note, .slice Au2 bu2.lows.length cu2, .slice Bu2 bu2.highs.length du2, .int .i64 bu2.t0, .int .i64 bu2.t1, .int .i64 bu2.r0, .int .i64 bu2.r1, .int .i64 bu2.u0, .int .i64 bu2.u1, .int .i64 bu2.d0, .int .i64 bu2.d1, .int .i64 bu2.a0, .int .i64 bu2.a1, .int .i64 bu2.b0, .int .i64 bu2.b1, .int .i64 bu2.le, .int .i64 bu2.me]) :: Iu2)) ?_ ?_
    ·refine wp_region_lit ?_
     refine lq T (rn_move rfl (T.ev 4 rfl)) ?_; clear T ac; intro ac T
     refine lq (v := (.bool false)) T (rn_neqof (rn_neq rfl (T.ev 0 rfl) evc) (by simp)) ?_; clear T ac; intro ac T
     refine lq T (rn_move rfl (T.ev 0 rfl)) ?_; clear T ac; intro ac T
     refine lw T (wanted_yes rfl rfl (T.ev 0 rfl) rfl) (rn_move rfl (T.ev 5 rfl)) ?_; clear T ac; intro ac T
     refine lw (v := (.bool false)) T (wanted_yes rfl rfl (T.ev 1 rfl) rfl) (rn_neqof (rn_neq rfl (T.ev 0 rfl) evc) (by simp)) ?_; clear T ac; intro ac T
     refine lq T (rn_pick0 rfl (T.ev 2 rfl) rfl (T.ev 0 rfl)) ?_; clear T ac; intro ac T
     refine lq T (rn_move rfl (T.ev 0 rfl)) ?_; clear T ac; intro ac T
     refine lw T (wanted_yes rfl rfl (T.ev 0 rfl) rfl) (rn_move rfl (T.ev 7 rfl)) ?_; clear T ac; intro ac T
     refine lw (v := (.bool false)) T (wanted_yes rfl rfl (T.ev 1 rfl) rfl) (rn_neqof (rn_neq rfl (T.ev 0 rfl) evc) (by simp)) ?_; clear T ac; intro ac T
     refine lq T (rn_pick0 rfl (T.ev 2 rfl) rfl (T.ev 0 rfl)) ?_; clear T ac; intro ac T
     refine lq T (rn_move rfl (T.ev 0 rfl)) ?_; clear T ac; intro ac T
     refine lw T (wanted_yes rfl rfl (T.ev 0 rfl) rfl) (rn_move rfl (T.ev 16 rfl)) ?_; clear T ac; intro ac T
     refine lw T (wanted_yes rfl rfl (T.ev 1 rfl) rfl) (rn_neq rfl (T.ev 0 rfl) evc) ?_; clear T ac; intro ac T
     refine lw T (wanted_yes rfl rfl (T.ev 2 rfl) rfl) (rn_move rfl (T.ev 0 rfl)) ?_; clear T ac; intro ac T
     rcases Bool.eq_false_or_eq_true (!(decide (kpu17 = 3))) with h5 | h5
     ·replace h5 : ¬ (kpu17 = 3) := by first | (rw [Bool.not_eq_true'] at h5; exact of_decide_eq_false h5) | simpa using h5
      refine lw T (wanted_yes rfl rfl (T.ev 0 rfl) (by simp [h5])) (rn_move rfl (T.ev 19 rfl)) ?_; clear T ac; intro ac T
      refine lw T (wanted_yes rfl rfl (T.ev 1 rfl) (by simp [h5])) (rn_move rfl (T.ev 18 rfl)) ?_; clear T ac; intro ac T
      refine lw T (wanted_yes rfl rfl (T.ev 2 rfl) (by simp [h5])) (rn_neq rfl (T.ev 1 rfl) (T.ev 0 rfl)) ?_; clear T ac; intro ac T
      refine lw T (wanted_yes rfl rfl (T.ev 6 rfl) rfl) (rn_pick1 rfl (T.ev 3 rfl) (by simp [h5]) (T.ev 0 rfl)) ?_; clear T ac; intro ac T
      refine lq T (rn_pick0 rfl (T.ev 7 rfl) rfl (T.ev 0 rfl)) ?_; clear T ac; intro ac T
      refine lq T (rn_move rfl (T.ev 0 rfl)) ?_; clear T ac; intro ac T
      rcases Bool.eq_false_or_eq_true (!(decide (kpu17 = kpu18))) with h6 | h6
      ·replace h6 : ¬ (kpu17 = kpu18) := by first | (rw [Bool.not_eq_true'] at h6; exact of_decide_eq_false h6) | simpa using h6
       refine lp T (wanted_no rfl rfl (T.ev 0 rfl) (by simp [h6])) ?_; clear T ac; intro ac T
       refine lp T (wanted_no rfl rfl (T.ev 1 rfl) (by simp [h6])) ?_; clear T ac; intro ac T
       refine lp T (wanted_no rfl rfl (T.ev 2 rfl) (by simp [h6])) ?_; clear T ac; intro ac T
       refine lp T (wanted_un rfl rfl (T.ev 0 rfl)) ?_; clear T ac; intro ac T
       refine lp T (wanted_un rfl rfl (T.ev 1 rfl)) ?_; clear T ac; intro ac T
       refine lp T (wanted_no rfl rfl (T.ev 5 rfl) (by simp [h6])) ?_; clear T ac; intro ac T
       refine lq T (rn_pick1 rfl (T.ev 6 rfl) (by simp [h6]) evc) ?_; clear T ac; intro ac T
       refine wpList_nil ?_
       replace T := T.pick [0, 1, 2, 3, 4, 5, 6, 9, 10, 11, 12, 13, 14, 15, 18, 19, 22, 23, 33, 34, 35, 36, 37] rfl
       exact ⟨(T.pick (E' := [(4, .pointer (some ⟨g1, 0, none⟩)), (5, .pointer (some ⟨g2, 0, none⟩)), (8, .pointer (some ⟨g3, 0, none⟩)), (9, .int .i64 (i : Int)), (10, .int .i64 (j : Int)), (169, .int .i64 0), (170, .bool false), (173, .int .i64 0), (174, .bool false), (177, .int .i64 kpu17), (178, .bool (!(decide (kpu17 = 3)))), (179, .bool (!(decide (kpu17 = 3)))), (183, .bool (!(decide (kpu17 = kpu18)))), (192, .bool true)]) [18, 19, 20, 21, 22, 17, 16, 15, 14, 13, 12, 11, 7, 0] rfl).as (by (try rw [show (!(decide (kpu17 = 3))) = true from (by simp [h5])]); (try rw [show (!(decide (kpu17 = kpu18))) = true from (by simp [h6])]); (try rfl)), M.mask [true, true, true, true, true, true, true] rfl⟩
      replace h6 : kpu17 = kpu18 := by first | (rw [Bool.not_eq_false'] at h6; exact of_decide_eq_true h6) | simpa using h6
      refine lw T (wanted_yes rfl rfl (T.ev 0 rfl) (by simp [h6])) (rn_move rfl (T.ev 23 rfl)) ?_; clear T ac; intro ac T
      refine lw T (wanted_yes rfl rfl (T.ev 1 rfl) (by simp [h6])) (rn_eql rfl (T.ev 0 rfl) evc) ?_; clear T ac; intro ac T
      refine lw T (wanted_yes rfl rfl (T.ev 2 rfl) (by simp [h6])) (rn_move rfl (T.ev 0 rfl)) ?_; clear T ac; intro ac T
      rcases Bool.eq_false_or_eq_true (decide (kpu18 = 1)) with h7 | h7
      ·replace h7 := of_decide_eq_true h7
       refine lw T (wanted_yes rfl rfl (T.ev 0 rfl) (decide_eq_true h7)) (rn_move rfl (T.ev 24 rfl)) ?_; clear T ac; intro ac T
       refine lw T (wanted_yes rfl rfl (T.ev 1 rfl) (decide_eq_true h7)) (rn_neq rfl (T.ev 0 rfl) evc) ?_; clear T ac; intro ac T
       refine lw T (wanted_yes rfl rfl (T.ev 5 rfl) (by simp [h6])) (rn_pick1 rfl (T.ev 2 rfl) (decide_eq_true h7) (T.ev 0 rfl)) ?_; clear T ac; intro ac T
       refine lq T (rn_pick0 rfl (T.ev 6 rfl) (by simp [h6]) (T.ev 0 rfl)) ?_; clear T ac; intro ac T
       refine wpList_nil ?_
       replace T := T.pick [0, 1, 2, 3, 4, 5, 6, 9, 10, 11, 12, 13, 14, 15, 18, 19, 22, 23, 33, 34, 35, 36, 37] rfl
       exact ⟨(T.pick (E' := [(4, .pointer (some ⟨g1, 0, none⟩)), (5, .pointer (some ⟨g2, 0, none⟩)), (8, .pointer (some ⟨g3, 0, none⟩)), (9, .int .i64 (i : Int)), (10, .int .i64 (j : Int)), (169, .int .i64 0), (170, .bool false), (173, .int .i64 0), (174, .bool false), (177, .int .i64 kpu17), (178, .bool (!(decide (kpu17 = 3)))), (179, .bool (!(decide (kpu17 = 3)))), (183, .bool (!(decide (kpu17 = kpu18)))), (192, .bool (!(decide (kpu19 = 1))))]) [18, 19, 20, 21, 22, 17, 16, 15, 14, 13, 12, 11, 7, 0] rfl).as (by (try rw [show (!(decide (kpu17 = 3))) = true from (by simp [h5])]); (try rw [show (!(decide (kpu17 = kpu18))) = false from (by simp [h6])]); (try rw [show (decide (kpu18 = 1)) = true from (decide_eq_true h7)]); (try rfl)), M.mask [true, true, true, true, true, true, true] rfl⟩
      replace h7 := of_decide_eq_false h7
      refine lp T (wanted_no rfl rfl (T.ev 0 rfl) (decide_eq_false h7)) ?_; clear T ac; intro ac T
      refine lp T (wanted_no rfl rfl (T.ev 1 rfl) (decide_eq_false h7)) ?_; clear T ac; intro ac T
      refine lw T (wanted_yes rfl rfl (T.ev 5 rfl) (by simp [h6])) (rn_pick0 rfl (T.ev 2 rfl) (decide_eq_false h7) evc) ?_; clear T ac; intro ac T
      refine lq T (rn_pick0 rfl (T.ev 6 rfl) (by simp [h6]) (T.ev 0 rfl)) ?_; clear T ac; intro ac T
      refine wpList_nil ?_
      replace T := T.pick [0, 1, 2, 3, 4, 5, 6, 9, 10, 11, 12, 13, 14, 15, 18, 19, 22, 23, 33, 34, 35, 36, 37] rfl
      exact ⟨(T.pick (E' := [(4, .pointer (some ⟨g1, 0, none⟩)), (5, .pointer (some ⟨g2, 0, none⟩)), (8, .pointer (some ⟨g3, 0, none⟩)), (9, .int .i64 (i : Int)), (10, .int .i64 (j : Int)), (169, .int .i64 0), (170, .bool false), (173, .int .i64 0), (174, .bool false), (177, .int .i64 kpu17), (178, .bool (!(decide (kpu17 = 3)))), (179, .bool (!(decide (kpu17 = 3)))), (183, .bool (!(decide (kpu17 = kpu18)))), (192, .bool false)]) [18, 19, 20, 21, 22, 17, 16, 15, 14, 13, 12, 11, 7, 0] rfl).as (by (try rw [show (!(decide (kpu17 = 3))) = true from (by simp [h5])]); (try rw [show (!(decide (kpu17 = kpu18))) = false from (by simp [h6])]); (try rw [show (decide (kpu18 = 1)) = false from (decide_eq_false h7)]); (try rfl)), M.mask [true, true, true, true, true, true, true] rfl⟩
     replace h5 : kpu17 = 3 := by first | (rw [Bool.not_eq_false'] at h5; exact of_decide_eq_true h5) | simpa using h5
     refine lp T (wanted_no rfl rfl (T.ev 0 rfl) (by simp [h5])) ?_; clear T ac; intro ac T
     refine lp T (wanted_no rfl rfl (T.ev 1 rfl) (by simp [h5])) ?_; clear T ac; intro ac T
     refine lp T (wanted_no rfl rfl (T.ev 2 rfl) (by simp [h5])) ?_; clear T ac; intro ac T
     refine lw T (wanted_yes rfl rfl (T.ev 6 rfl) rfl) (rn_pick0 rfl (T.ev 3 rfl) (by simp [h5]) evc) ?_; clear T ac; intro ac T
     refine lq T (rn_pick0 rfl (T.ev 7 rfl) rfl (T.ev 0 rfl)) ?_; clear T ac; intro ac T
     refine lq T (rn_move rfl (T.ev 0 rfl)) ?_; clear T ac; intro ac T
     refine lw T (wanted_yes rfl rfl (T.ev 0 rfl) rfl) (rn_move rfl (T.ev 23 rfl)) ?_; clear T ac; intro ac T
     refine lw T (wanted_yes rfl rfl (T.ev 1 rfl) rfl) (rn_eql rfl (T.ev 0 rfl) evc) ?_; clear T ac; intro ac T
     refine lw T (wanted_yes rfl rfl (T.ev 2 rfl) rfl) (rn_move rfl (T.ev 0 rfl)) ?_; clear T ac; intro ac T
     rcases Bool.eq_false_or_eq_true (decide (kpu18 = 1)) with h8 | h8
     ·replace h8 := of_decide_eq_true h8
      refine lw T (wanted_yes rfl rfl (T.ev 0 rfl) (decide_eq_true h8)) (rn_move rfl (T.ev 24 rfl)) ?_; clear T ac; intro ac T
      refine lw T (wanted_yes rfl rfl (T.ev 1 rfl) (decide_eq_true h8)) (rn_neq rfl (T.ev 0 rfl) evc) ?_; clear T ac; intro ac T
      refine lw T (wanted_yes rfl rfl (T.ev 5 rfl) rfl) (rn_pick1 rfl (T.ev 2 rfl) (decide_eq_true h8) (T.ev 0 rfl)) ?_; clear T ac; intro ac T
      refine lq T (rn_pick0 rfl (T.ev 6 rfl) rfl (T.ev 0 rfl)) ?_; clear T ac; intro ac T
      refine wpList_nil ?_
      replace T := T.pick [0, 1, 2, 3, 4, 5, 6, 9, 10, 11, 12, 13, 14, 15, 18, 19, 22, 23, 33, 34, 35, 36, 37] rfl
      exact ⟨(T.pick (E' := [(4, .pointer (some ⟨g1, 0, none⟩)), (5, .pointer (some ⟨g2, 0, none⟩)), (8, .pointer (some ⟨g3, 0, none⟩)), (9, .int .i64 (i : Int)), (10, .int .i64 (j : Int)), (169, .int .i64 0), (170, .bool false), (173, .int .i64 0), (174, .bool false), (177, .int .i64 kpu17), (178, .bool (!(decide (kpu17 = 3)))), (179, .bool (!(decide (kpu17 = 3)))), (183, .bool false), (192, .bool (!(decide (kpu19 = 1))))]) [18, 19, 20, 21, 22, 17, 16, 15, 14, 13, 12, 11, 7, 0] rfl).as (by (try rw [show (!(decide (kpu17 = 3))) = false from (by simp [h5])]); (try rw [show (decide (kpu18 = 1)) = true from (decide_eq_true h8)]); (try rfl)), M.mask [true, true, true, true, true, true, true] rfl⟩
     replace h8 := of_decide_eq_false h8
     refine lp T (wanted_no rfl rfl (T.ev 0 rfl) (decide_eq_false h8)) ?_; clear T ac; intro ac T
     refine lp T (wanted_no rfl rfl (T.ev 1 rfl) (decide_eq_false h8)) ?_; clear T ac; intro ac T
     refine lw T (wanted_yes rfl rfl (T.ev 5 rfl) rfl) (rn_pick0 rfl (T.ev 2 rfl) (decide_eq_false h8) evc) ?_; clear T ac; intro ac T
     refine lq T (rn_pick0 rfl (T.ev 6 rfl) rfl (T.ev 0 rfl)) ?_; clear T ac; intro ac T
     refine wpList_nil ?_
     replace T := T.pick [0, 1, 2, 3, 4, 5, 6, 9, 10, 11, 12, 13, 14, 15, 18, 19, 22, 23, 33, 34, 35, 36, 37] rfl
     exact ⟨(T.pick (E' := [(4, .pointer (some ⟨g1, 0, none⟩)), (5, .pointer (some ⟨g2, 0, none⟩)), (8, .pointer (some ⟨g3, 0, none⟩)), (9, .int .i64 (i : Int)), (10, .int .i64 (j : Int)), (169, .int .i64 0), (170, .bool false), (173, .int .i64 0), (174, .bool false), (177, .int .i64 kpu17), (178, .bool (!(decide (kpu17 = 3)))), (179, .bool (!(decide (kpu17 = 3)))), (183, .bool false), (192, .bool false)]) [18, 19, 20, 21, 22, 17, 16, 15, 14, 13, 12, 11, 7, 0] rfl).as (by (try rw [show (!(decide (kpu17 = 3))) = false from (by simp [h5])]); (try rw [show (decide (kpu18 = 1)) = false from (decide_eq_false h8)]); (try rfl)), M.mask [true, true, true, true, true, true, true] rfl⟩
    clear T M
    rintro ac wc ⟨T, M⟩
    refine wp_cond_split (T.ev 13 rfl) ?_ ?_
    ·intro h9
     exfalso
     revert h9; by_cases c1 : kpu17 = 3 <;> by_cases c2 : kpu17 = kpu18 <;> by_cases c3 : kpu18 = 1 <;> by_cases c4 : kpu19 = 1 <;> simp [c1, c2, c3, c4] <;> omega
    intro h9
    (try have h9' := h9; try simp only [Bool.and_eq_true, Bool.or_eq_true, Bool.not_eq_true', Bool.and_eq_false_imp, Bool.or_eq_false_iff, decide_eq_true_eq, decide_eq_false_iff_not] at h9')
    refine wp_skip ?_
    refine nm_blk ?_
    refine nm_then ?_
    refine wp_region_lit ?_
    refine lq T (rn_move rfl (T.ev 4 rfl)) ?_; clear T ac; intro ac T
    refine lq T (rn_add rfl (T.ev 0 rfl) evc (by omega)) ?_; clear T ac; intro ac T
    refine l_q (v := (.int .i64 ((j : Int) + 1))) (T.pick [0, 1, 2, 3, 4, 5, 7, 8, 9, 10, 11, 12, 13, 14, 15] rfl) rfl rfl rfl rfl (rn_assign rfl (T.ev 0 rfl)) ?_; clear T ac; intro ac T
    refine wpList_nil ?_
    replace T := T.pick [0, 3, 4, 5, 6, 7, 8, 9, 10, 11, 12, 13, 14] rfl
    refine nm_then ?_
    exact ⟨_, by omega, j + 1, rfl, (by omega), T.pick [1, 2, 3, 4, 0] rfl, M.mask [true, true, true, true, true, true, true] rfl⟩
   intro h4
   refine wp_exit ?_
   refine ex_then ?_
   refine ex_then ?_
   refine ex_hit ?_
   refine nm_blk ?_
   refine nm_then ?_
   refine wp_region_lit ?_
   refine lq T (rn_move rfl (T.ev 4 rfl)) ?_; clear T ac; intro ac T
   refine lq T (rn_add rfl (T.ev 0 rfl) evc (by omega)) ?_; clear T ac; intro ac T
   refine l_q (v := (.int .i64 ((i : Int) + 1))) (T.pick [0, 1, 2, 3, 4, 5, 7] rfl) rfl rfl rfl rfl (rn_assign rfl (T.ev 0 rfl)) ?_; clear T ac; intro ac T
   refine wpList_nil ?_
   replace T := T.pick [0, 4, 5, 6] rfl
   refine nm_then ?_
   exact ⟨_, by omega, i + 1, rfl, (by omega), T.pick [1, 2, 3, 0] rfl, M.mask [true, true, true, true, true, true, true] rfl⟩
  intro h3
  refine wp_exit ?_
  refine ex_then ?_
  refine ex_then ?_
  refine ex_hit ?_
  refine nm_then ?_
  refine wp_seq ?_
  refine wp_region_lit ?_
  refine lq T (rn_rowO (Mem.nth M 6 rfl) rfl (T.ev 1 rfl) rfl) ?_; clear T ac; intro ac T
  refine l_w rfl ?_; intro K hK
  refine ow_call (first := []) (cap := []) T rfl rfl rfl rfl evf (.cons (T.ev 0 rfl) .nil) Try.func32 rfl rfl ?_
  refine Calls.mono (Most_good (bu2) _ _ _ _ _ (SAu2.rd M (.cons _ (.cons _ (.cons _ (.cons _ (.cons _ (.cons _ (.cons _ (List.Sublist.refl _))))))))) (SBu2.rd M (.cons _ (.cons _ (.cons _ (.cons _ (.cons _ (.cons _ (.cons _ (List.Sublist.refl _))))))))) hgu2) ?_
  clear T
  rintro e wc ⟨rfl, hb⟩
  intro ac T
  replace M := M.call hb; clear hb
  obtain ⟨mou20, hmou20⟩ : ∃ q, q = pairsP (mostL (bu2) okA) := ⟨_, rfl⟩
  obtain ⟨mpu20, hmpu20⟩ : ∃ q, q = pairsP (mostL (bu2) okM) := ⟨_, rfl⟩
  rw [← hmou20, ← hmpu20] at T
  refine sh_out hK _ _ ?_; clear hK K
  refine lq T (rn_move rfl (T.ev 0 rfl)) ?_; clear T ac; intro ac T
  refine lq T (rn_extract rfl (T.ev 0 rfl) rfl) ?_; clear T ac; intro ac T
  refine lq T (rn_extract rfl (T.ev 1 rfl) rfl) ?_; clear T ac; intro ac T
  refine l_w rfl ?_; intro K hK
  refine ow_al M T rfl rfl rfl rfl ?_; clear M T; intro g4 wc ac M T
  refine sh_out hK _ _ ?_; clear hK K
  refine l_w rfl ?_; intro K hK
  refine ow_stO M T rfl rfl (T.ev 0 rfl) (T.ev 2 rfl) rfl .head rfl (by simp) rfl (by kernel_rfl) ?_; clear M T; intro wc ac M T
  refine sh_out hK _ _ ?_; clear hK K
  refine lq T (rn_assign rfl (T.ev 1 rfl)) ?_; clear T ac; intro ac T
  refine wpList_nil ?_
  replace T := T.pick [0, 1, 10] rfl
  replace M := M.mask [true, true, true, true, false, true, true, false] rfl
  refine nm_then ?_
  refine wp_seq ?_
  refine wp_region_lit ?_
  refine lq T (rn_rowO (Mem.nth M 1 rfl) rfl (T.ev 2 rfl) rfl) ?_; clear T ac; intro ac T
  refine l_w rfl ?_; intro K hK
  refine ow_call (first := []) (cap := []) T rfl rfl rfl rfl evf (.cons (T.ev 0 rfl) .nil) Try.func32 rfl rfl ?_
  refine Calls.mono (Most_good ({ bu2 with lows := lx, highs := hx, span := xu15, press := xu16 }) _ _ _ _ _ (Sc1u14.rd M (.cons _ (.cons _ (List.Sublist.cons_cons _ (List.nil_sublist _))))) (Sc2u14.rd M (.cons _ (.cons _ (.cons _ (List.Sublist.cons_cons _ (List.nil_sublist _)))))) (better_good hgu2 hNlx hNhx (by omega) (by omega))) ?_
  clear T
  rintro e wc ⟨rfl, hb⟩
  intro ac T
  replace M := M.call hb; clear hb
  obtain ⟨mou21, hmou21⟩ : ∃ q, q = pairsP (mostL ({ bu2 with lows := lx, highs := hx, span := xu15, press := xu16 }) okA) := ⟨_, rfl⟩
  obtain ⟨mpu21, hmpu21⟩ : ∃ q, q = pairsP (mostL ({ bu2 with lows := lx, highs := hx, span := xu15, press := xu16 }) okM) := ⟨_, rfl⟩
  rw [← hmou21, ← hmpu21] at T
  have hmm9 : mou20 ≤ mou21 := by rw [hmou20, hmou21]; exact better_most hgu2 hNlx hNhx (by omega) (by omega)
  refine sh_out hK _ _ ?_; clear hK K
  refine lq T (rn_move rfl (T.ev 0 rfl)) ?_; clear T ac; intro ac T
  refine lq T (rn_extract rfl (T.ev 0 rfl) rfl) ?_; clear T ac; intro ac T
  refine lq T (rn_extract rfl (T.ev 1 rfl) rfl) ?_; clear T ac; intro ac T
  refine l_w rfl ?_; intro K hK
  refine ow_al M T rfl rfl rfl rfl ?_; clear M T; intro g5 wc ac M T
  refine sh_out hK _ _ ?_; clear hK K
  refine l_w rfl ?_; intro K hK
  refine ow_stO M T rfl rfl (T.ev 0 rfl) (T.ev 2 rfl) rfl .head rfl (by simp) rfl (by kernel_rfl) ?_; clear M T; intro wc ac M T
  refine sh_out hK _ _ ?_; clear hK K
  refine lq T (rn_assign rfl (T.ev 1 rfl)) ?_; clear T ac; intro ac T
  refine wpList_nil ?_
  replace T := T.pick [0, 1, 7, 8] rfl
  replace M := M.mask [true, true, false, true, true, true, true] rfl
  refine nm_then ?_
  refine wp_seq ?_
  refine wp_region_lit ?_
  refine lq T (rn_move rfl (T.ev 2 rfl)) ?_; clear T ac; intro ac T
  refine lq (v := (.bool true)) T (rn_neqof (rn_eql rfl (T.ev 0 rfl) evc) (by simp)) ?_; clear T ac; intro ac T
  refine lq T (rn_move rfl (T.ev 0 rfl)) ?_; clear T ac; intro ac T
  refine lw T (wanted_yes rfl rfl (T.ev 0 rfl) rfl) (rn_move rfl (T.ev 3 rfl)) ?_; clear T ac; intro ac T
  refine lw (v := (.bool true)) T (wanted_yes rfl rfl (T.ev 1 rfl) rfl) (rn_neqof (rn_eql rfl (T.ev 0 rfl) evc) (by simp)) ?_; clear T ac; intro ac T
  refine lq T (rn_pick1 rfl (T.ev 2 rfl) rfl (T.ev 0 rfl)) ?_; clear T ac; intro ac T
  refine lq T (rn_move rfl (T.ev 0 rfl)) ?_; clear T ac; intro ac T
  refine lw (v := (.pointer (some ⟨g5, 0, none⟩))) T (wanted_yes rfl rfl (T.ev 0 rfl) rfl) (rn_fieldAddr (off := 0) rfl (T.ev 8 rfl) (fun _ _ _ => by kernel_rfl)) ?_; clear T ac; intro ac T
  refine lw T (wanted_yes rfl rfl (T.ev 1 rfl) rfl) (rn_one (Mem.nth M 0 rfl) rfl (T.ev 0 rfl) rfl) ?_; clear T ac; intro ac T
  refine lw (v := (.pointer (some ⟨g4, 0, none⟩))) T (wanted_yes rfl rfl (T.ev 2 rfl) rfl) (rn_fieldAddr (off := 0) rfl (T.ev 12 rfl) (fun _ _ _ => by kernel_rfl)) ?_; clear T ac; intro ac T
  refine lw T (wanted_yes rfl rfl (T.ev 3 rfl) rfl) (rn_one (Mem.nth M 1 rfl) rfl (T.ev 0 rfl) rfl) ?_; clear T ac; intro ac T
  refine lw T (wanted_yes rfl rfl (T.ev 4 rfl) rfl) (rn_geq rfl (T.ev 2 rfl) (T.ev 0 rfl)) ?_; clear T ac; intro ac T
  refine lq T (rn_pick1 rfl (T.ev 5 rfl) rfl (T.ev 0 rfl)) ?_; clear T ac; intro ac T
  refine lq T (rn_move rfl (T.ev 0 rfl)) ?_; clear T ac; intro ac T
  refine l_w (wanted_yes rfl rfl (T.ev 0 rfl) (decide_eq_true hmm9)) ?_; intro K hK
  refine ow_call (first := []) (cap := []) T rfl rfl rfl rfl evf .nil Try.func17 rfl rfl ?_
  refine Calls.mono (trembling_any _) ?_
  clear T
  rintro e wc ⟨rfl, hb⟩
  intro ac T
  replace M := M.call hb; clear hb
  refine sh_out hK _ _ ?_; clear hK K
  refine lq T (rn_pick1 rfl (T.ev 1 rfl) (decide_eq_true hmm9) (T.ev 0 rfl)) ?_; clear T ac; intro ac T
  refine lq T (rn_assign rfl (T.ev 0 rfl)) ?_; clear T ac; intro ac T
  refine wpList_nil ?_
  replace T := T.pick [0] rfl
  replace M := M.mask [false, false, true, true, true, true] rfl
  refine nm_then ?_
  refine wp_ret ?_
  refine rt_1 T rfl (T.ev 0 rfl) ?_
  exact ⟨rfl, M.below⟩

end Go.Proofs.Ytlahdenlmmlplaa

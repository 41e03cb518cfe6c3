/-
  sheet's law: blanks that cost a sheet.
-/
import Derived.Test.YtehpcclfgjccbaaDoorMSheetWorst1
import Derived.Test.YtehpcclfgjccbaaDoorMSheetWorst2
import Derived.Test.YtehpcclfgjccbaaDoorMSheetWorst3
import Derived.Test.YtehpcclfgjccbaaDoorMSheetWorst4
namespace Go.Proofs.YtehpcclfgjccbaaDoor
set_option linter.unusedSimpArgs false
set_option linter.unusedVariables false
open Go.RowKit
def SkPost (s : Sk) (w : World) (e : Ending) (w' : World) : Prop := ∃ A c I, e = .returned (.agg #[.int .i64 s.lo, .int .i64 s.wi, .int .i64 s.a0, .int .i64 s.a1, .int .i64 s.c0, .int .i64 s.c1, .slice A s.ps.length c]) ∧ s.ps.length ≤ c ∧ (∃ b o, ∀ (w : World) (ex : Nat → Prop), Sp w ex I A s.ps.length 4 b o (pc s.ps)) ∧ Mem w noEx w' I
theorem erase_take {l : List Pt} {k i : Nat} {p : Pt} (h : l[k]? = some p) : (k ≠ i → (l.take (k + 1)).eraseIdx i = (l.take k).eraseIdx i ++ [p]) ∧ (k = i → (l.take (k + 1)).eraseIdx i = (l.take k).eraseIdx i) := by
 have hk := (List.getElem?_eq_some_iff.1 h).1
 have hl : (l.take k).length = k := by simp; omega
 constructor
 · intro hne
   rw [List.take_add_one, h, Option.toList_some]
   rcases Nat.lt_or_ge i k with h1 | h1
   · rw [List.eraseIdx_append_of_lt_length (by omega)]
   · rw [List.eraseIdx_of_length_le (by simp; omega), List.eraseIdx_of_length_le (by omega)]
 · rintro rfl
   have e1 : (l.take k).eraseIdx k = l.take k := List.eraseIdx_of_length_le (by omega)
   rw [List.take_add_one, h, Option.toList_some, List.eraseIdx_append_of_length_le (by omega), hl, Nat.sub_self, e1]
   simp
set_option maxRecDepth 100000 in
set_option maxHeartbeats 1000000 in
theorem without_any (s : Sk) (A : Option Addr) (d i : Nat)  (w : World) (hA : Rd w w.heap.size 4 A s.ps.length (pc s.ps)) (nA : s.ps.length ≤ 1000000)  :
   Calls Tryd.prog 44 #[.agg #[.int .i64 s.lo, .int .i64 s.wi, .int .i64 s.a0, .int .i64 s.a1, .int .i64 s.c0, .int .i64 s.c1, .slice A s.ps.length d], .int .i64 (i : Int)] w (SkPost (skW s i) w) := by
 obtain ⟨bA, oA, SA⟩ := Sp.old hA
 refine px_enter noEx Tryd.func44 rfl 29 rfl [.agg #[.int .i64 s.lo, .int .i64 s.wi, .int .i64 s.a0, .int .i64 s.a1, .int .i64 s.c0, .int .i64 s.c1, .slice A s.ps.length d], .int .i64 (i : Int)] rfl rfl (Mem.init w _) ?_
 intro ac wc T M
 refine wp_seq ?_
 refine wp_region_lit ?_
 refine l_w rfl ?_; intro K hK
 refine ow_bx M T rfl rfl rfl rfl (T.ev 0 rfl) rfl ?_; clear M T; intro g1 wc ac M T
 refine sh_out hK _ _ ?_; clear hK K
 refine l_w rfl ?_; intro K hK
 refine ow_al M T rfl rfl rfl rfl ?_; clear M T; intro g2 wc ac M T
 refine sh_out hK _ _ ?_; clear hK K
 refine wpList_nil ?_
 replace T := T.pick [0, 1, 3] rfl
 refine nm_then ?_
 refine wp_seq ?_
 refine wp_region_lit ?_
 refine lq (v := (.pointer (some ⟨g1, 6, none⟩))) T (rn_fieldAddr (off := 6) rfl (T.ev 1 rfl) (fun _ _ _ => by kernel_rfl)) ?_; clear T ac; intro ac T
 refine lq T (rn_one (Mem.nth M 1 rfl) rfl (T.ev 0 rfl) rfl) ?_; clear T ac; intro ac T
 refine lq T (rn_assign rfl (T.ev 0 rfl)) ?_; clear T ac; intro ac T
 refine wpList_nil ?_
 replace T := T.pick [0, 3, 4, 5] rfl
 refine nm_then ?_
 refine wp_seq ?_
 refine wp_region_lit ?_
 refine lq (v := (.pointer (some ⟨g1, 6, none⟩))) T (rn_fieldAddr (off := 6) rfl (T.ev 2 rfl) (fun _ _ _ => by kernel_rfl)) ?_; clear T ac; intro ac T
 refine l_w rfl ?_; intro K hK
 refine ow_stO M T rfl rfl (T.ev 0 rfl) evc rfl (.tail .head) rfl (by simp) rfl (by kernel_rfl) ?_; clear M T; intro wc ac M T
 refine sh_out hK _ _ ?_; clear hK K
 refine wpList_nil ?_
 replace T := T.pick [1, 2, 3, 4] rfl
 refine nm_then ?_
 refine wp_seq ?_
 refine wp_seq ?_
 refine wp_region_lit ?_
 refine lq T (rn_assign rfl evc) ?_; clear T ac; intro ac T
 refine wpList_nil ?_
 refine nm_then ?_
 refine wp_block ?_
 refine wp_loop_n (fun mz ac wc => ∃ (k : Nat) (OL : List Pt) (A3 : Option Addr) (c3 : Nat) (Io : List (Nat × BA)), mz = s.ps.length - k ∧ (k ≤ s.ps.length) ∧ (OL = (s.ps.take k).eraseIdx i) ∧ (OL.length ≤ k) ∧ (Sl 63 4 (.slice A3 OL.length c3) OL.length (pc OL) Io) ∧ Tm ac 29 [(1, .int .i64 (i : Int)), (2, .pointer (some ⟨g1, 0, none⟩)), (4, .pointer (some ⟨g2, 0, none⟩)), (5, .slice A s.ps.length d), (6, .int .i64 (k : Int))] ∧ Mem w noEx wc ((g2, .cells [.int .i64 0, .int .i64 0, .int .i64 0, .int .i64 0, .int .i64 0, .int .i64 0, .slice none 0 0]) :: (g1, .cells [.int .i64 s.lo, .int .i64 s.wi, .int .i64 s.a0, .int .i64 s.a1, .int .i64 s.c0, .int .i64 s.c1, .slice A3 OL.length c3]) :: Io)) ?_ ?_
 ·exact ⟨_, 0, [], none, 0, [], rfl, (Nat.zero_le _), rfl, (Nat.zero_le _), (Sl.nil _ _), T.pick [4, 3, 2, 1, 0] rfl, M.mask [true, true] rfl⟩
 clear T M
 rintro mz ac wc ⟨k, OL, A3, c3, Io, hmm1, hk, hO, hOl, hsl, T, M⟩
 refine wp_seq ?_
 refine wp_seq ?_
 refine wp_region_lit ?_
 refine lq T (rn_move rfl (T.ev 4 rfl)) ?_; clear T ac; intro ac T
 refine lq T (rn_move rfl (T.ev 4 rfl)) ?_; clear T ac; intro ac T
 refine lq T (rn_lenS rfl Tryd.underlying24 (T.ev 0 rfl)) ?_; clear T ac; intro ac T
 refine lq T (rn_lss rfl (T.ev 2 rfl) (T.ev 0 rfl)) ?_; clear T ac; intro ac T
 refine wpList_nil ?_
 replace T := T.pick [0, 4, 5, 6, 7, 8] rfl
 refine nm_then ?_
 refine wp_if (T.ev 0 rfl) ?_ ?_
 ·intro h1
  obtain ⟨p, hkp, -⟩ := pc_next (l := s.ps) (k := k) (by omega)
  refine wp_skip ?_
  refine nm_then ?_
  refine wp_seq ?_
  refine wp_block ?_
  refine wp_seq ?_
  refine wp_region_lit ?_
  refine lq T (rn_move rfl (T.ev 5 rfl)) ?_; clear T ac; intro ac T
  refine lq T (rn_move rfl (T.ev 2 rfl)) ?_; clear T ac; intro ac T
  refine lq T (rn_neq rfl (T.ev 1 rfl) (T.ev 0 rfl)) ?_; clear T ac; intro ac T
  refine wpList_nil ?_
  replace T := T.pick [0, 4, 5, 6, 7, 8] rfl
  refine nm_then ?_
  refine wp_ifn (T.ev 0 rfl) ?_ ?_
  ·intro h2
   refine g_start2 M (M.perm [0] rfl rfl) 10 (by kernel_rfl) rfl (by kernel_rfl) ?_
   clear M; intro wc M
   refine g_addG 9 (M.perm [0, 1] rfl rfl) ?_
   refine gq (v := (.pointer (some ⟨g1, 6, none⟩))) T 0 1 rfl (fun _ _ _ _ _ => (rn_fieldAddr (off := 6) rfl (T.ev 2 rfl) (fun _ _ _ => by kernel_rfl))) ?_; clear T ac; intro ac T
   refine gq T 1 3 rfl (fun B w' hD hl hS => (rn_one (Mem.nth (show Mem w noEx w' _ from ((MA.lft hS) (hD.wait (i := 1) (m := 9) (by kernel_rfl) hl))) 1 rfl) rfl (T.ev 0 rfl) rfl)) ?_; clear T ac; intro ac T
   refine gq T 2 7 rfl (fun _ _ _ _ _ => (rn_move rfl (T.ev 6 rfl))) ?_; clear T ac; intro ac T
   refine gq T 3 15 rfl (fun _ _ _ _ _ => (rn_move rfl (T.ev 8 rfl))) ?_; clear T ac; intro ac T
   refine gq T 4 31 rfl (fun _ _ _ _ _ => (rn_indexAddr (size := 4) k rfl (T.ev 1 rfl) (T.ev 0 rfl) ⟨_, Tryd.underlying24, by kernel_rfl⟩ rfl (by omega) (SA.at0 (by omega)))) ?_; clear T ac; intro ac T
   refine gq (v := (.agg #[.int .i64 p.l, .int .i64 p.w, .bool p.gr, .int .i64 p.pa])) T 5 63 rfl (fun B w' hD hl hS => (rn_rowat (Sp.pcR SA (show Mem w noEx w' _ from ((MA.lft hS) (hD.wait (i := 5) (m := 9) (by kernel_rfl) hl))) (List.nil_sublist _) hkp) rfl (T.ev 0 rfl) rfl)) ?_; clear T ac; intro ac T
   refine gw 6 127 ?_; intro K hK
   refine ow_bs (e := 63) [.int .i64 p.l, .int .i64 p.w, .bool p.gr, .int .i64 p.pa] M T rfl rfl rfl rfl (.cons (T.ev 0 rfl) .nil) (fun _ => by kernel_rfl) ?_; clear M T; intro g3 wc ac M T
   refine sh_out hK _ _ (MA.mk (fun _ => M.perm [1, 2] rfl rfl) (M.perm [1] rfl rfl)) ?_; clear hK K
   refine gw 7 255 ?_; intro K hK
   refine ow_app ([(g3, .cells [.int .i64 p.l, .int .i64 p.w, .bool p.gr, .int .i64 p.pa]), (g2, .cells [.int .i64 0, .int .i64 0, .int .i64 0, .int .i64 0, .int .i64 0, .int .i64 0, .slice none 0 0]), (g1, .cells [.int .i64 s.lo, .int .i64 s.wi, .int .i64 s.a0, .int .i64 s.a1, .int .i64 s.c0, .int .i64 s.c1, .slice A3 OL.length c3])]) Tryd.info63 hsl M (by first | rfl | simp) T rfl rfl rfl rfl Tryd.underlying24 rfl rfl rfl (by omega) (T.ev 5 rfl) (T.ev 0 rfl) (nthE_mem (i := 0) rfl) rfl rfl ?_; clear M T; intro ga1 cga1 wc ac M T
   refine sh_out hK _ _ (MA.mk (fun _ => M.mask [false, false, true, true] rfl) (M.mask [false, false, true, false] rfl)) ?_; clear hK K
   have e9 : OL.length + 1 = (OL ++ [p]).length := by simp
   have e8 : ((pc OL) ++ [.int .i64 p.l, .int .i64 p.w, .bool p.gr, .int .i64 p.pa]) = pc (OL ++ [p]) := by rw [← pc_snoc]
   rw [e9, e8] at M
   rw [e9] at T
   clear e9 e8
   refine gq (v := (.pointer (some ⟨g1, 6, none⟩))) T 8 511 rfl (fun _ _ _ _ _ => (rn_fieldAddr (off := 6) rfl (T.ev 10 rfl) (fun _ _ _ => by kernel_rfl))) ?_; clear T ac; intro ac T
   refine gw 9 1023 ?_; intro K hK
   refine ow_stO M T rfl rfl (T.ev 0 rfl) (T.ev 1 rfl) rfl (.tail (.tail (.tail .head))) rfl (by simp) rfl (by kernel_rfl) ?_; clear M T; intro wc ac M T
   refine sh_out hK _ _ (MA.mk (fun h => (no_of (by kernel_rfl) h).elim) (M.mask [false, false, true, false] rfl)) ?_; clear hK K
   refine g_done (by kernel_rfl) ?_
   replace T := T.pick [10, 11, 12, 13, 14] rfl
   replace M := M.mask [true, false, true, true] rfl
   refine nm_blk ?_
   refine nm_then ?_
   refine wp_region_lit ?_
   refine lq T (rn_move rfl (T.ev 4 rfl)) ?_; clear T ac; intro ac T
   refine lq T (rn_add rfl (T.ev 0 rfl) evc (by omega)) ?_; clear T ac; intro ac T
   refine l_q (v := (.int .i64 ((k : Int) + 1))) (T.pick [0, 1, 2, 3, 4, 5] rfl) rfl rfl rfl rfl (rn_assign rfl (T.ev 0 rfl)) ?_; clear T ac; intro ac T
   refine wpList_nil ?_
   replace T := T.pick [0, 3, 4, 5, 6] rfl
   refine nm_then ?_
   exact ⟨_, by omega, k + 1, (OL ++ [p]), _, cga1, [(ga1, .row 63 4 (OL ++ [p]).length (pc (OL ++ [p])) cga1)], rfl, (by omega), (by rw [hO]; exact ((erase_take hkp).1 (by omega)).symm), (by simp; omega), (Sl.row _ _ _ _ _ _), T.pick [1, 2, 3, 4, 0] rfl, M.perm [1, 2, 0] rfl rfl⟩
  intro h2
  refine wp_skip ?_
  refine nm_blk ?_
  refine nm_then ?_
  refine wp_region_lit ?_
  refine lq T (rn_move rfl (T.ev 5 rfl)) ?_; clear T ac; intro ac T
  refine lq T (rn_add rfl (T.ev 0 rfl) evc (by omega)) ?_; clear T ac; intro ac T
  refine l_q (v := (.int .i64 ((k : Int) + 1))) (T.pick [0, 1, 2, 3, 4, 5, 6] rfl) rfl rfl rfl rfl (rn_assign rfl (T.ev 0 rfl)) ?_; clear T ac; intro ac T
  refine wpList_nil ?_
  replace T := T.pick [0, 4, 5, 6, 7] rfl
  refine nm_then ?_
  exact ⟨_, by omega, k + 1, OL, _, _, Io, rfl, (by omega), (by rw [hO]; exact ((erase_take hkp).2 (by omega)).symm), (by omega), hsl, T.pick [1, 2, 3, 4, 0] rfl, M.mask [true, true] rfl⟩
 intro h1
 refine wp_exit ?_
 refine ex_then ?_
 refine ex_then ?_
 refine ex_hit ?_
 refine nm_then ?_
 refine wp_seq ?_
 refine wp_region_lit ?_
 refine lq T (rn_rowO (Mem.nth M 1 rfl) rfl (T.ev 2 rfl) rfl) ?_; clear T ac; intro ac T
 refine l_w rfl ?_; intro K hK
 refine ow_stO M T rfl rfl (T.ev 4 rfl) (T.ev 0 rfl) rfl .head rfl (by simp) rfl (by kernel_rfl) ?_; clear M T; intro wc ac M T
 refine sh_out hK _ _ ?_; clear hK K
 refine wpList_nil ?_
 replace T := T.pick [4] rfl
 replace M := M.mask [true, false] rfl
 refine nm_then ?_
 refine wp_ret ?_
 refine rt_c M T rfl (T.ev 0 rfl) (nthE_mem (i := 0) rfl) rfl ?_
 have e9 : OL = (skW s i).ps := by rw [hO, List.take_of_length_le (by omega)]; rfl
 have hcap := hsl.capLe M (.cons _ (List.Sublist.refl _))
 have hsv := hsl.spV (pc_length _)
 unfold SkPost
 rw [← e9]
 exact ⟨A3, c3, Io, rfl, hcap, hsv, M.mask [false] rfl⟩
set_option maxRecDepth 100000 in
set_option maxHeartbeats 4000000 in
theorem SheetWorst_any (D : Option Addr) (n d : Nat) (l : List Int) (w : World) (hl : Rd w w.heap.size 1 D n (ic l)) (hm : n ≤ 9223372036854775807) (hT : TabW w) :
   Calls Tryd.prog 8 #[.slice D n d] w fun e w' => e = .returned (.bool true) ∧ Below w.heap.size w w' := by
 have hll := hl.len1
 obtain ⟨bI, oI, SI⟩ := Sp.old hl
 refine px_enter noEx Tryd.func8 rfl 94 rfl [.slice D n d] rfl rfl (Mem.init w _) ?_
 intro ac wc T M
 refine wp_seq ?_
 refine wp_region_lit ?_
 refine lq T (rn_assign rfl evc) ?_; clear T ac; intro ac T
 refine wpList_nil ?_
 replace T := T.pick [1] rfl
 refine nm_then ?_
 refine wp_seq ?_
 refine wp_region_lit ?_
 refine lq T (rn_move rfl (T.ev 0 rfl)) ?_; clear T ac; intro ac T
 refine l_w rfl ?_; intro K hK
 refine ow_call (first := []) (cap := []) T rfl rfl rfl rfl evf (.cons (T.ev 0 rfl) .nil) Tryd.func18 rfl rfl ?_
 refine Calls.mono (newPot_any _ _ _ l _ (SI.rd M (List.nil_sublist _)) (by omega)) ?_
 clear T
 rintro e wc ⟨bpu1, su1, hsu1, rfl, N⟩
 intro ac T
 replace M := M.join N; clear N
 replace M := M.mask [true] rfl
 refine sh_out hK _ _ ?_; clear hK K
 refine l_w rfl ?_; intro K hK
 refine ow_call (first := []) (cap := []) T rfl rfl rfl rfl evf (.cons (T.ev 0 rfl) (.cons evc (.cons evc .nil))) Tryd.func19 rfl rfl ?_
 refine Calls.mono (sheetOf_any _ bpu1 5 4 _ (by omega) (by omega) (M.nth 0 rfl) hsu1) ?_
 clear T
 rintro e wc ⟨s, AKu2, cKu2, sdu2, IKu2, rfl, hsgs, ⟨⟨hbls, hbws⟩, hbps⟩, hsu2, hcpKu2, SVKu2, N⟩
 intro ac T
 obtain ⟨bAKu2, oAKu2, SVKu2⟩ := SVKu2
 have SAKu2 := SVKu2 w noEx
 replace M := M.joinEI N .head
 clear N
 replace M : Mem w noEx wc ((bpu1, .cells [.int .u64 sdu2]) :: IKu2) := M
 have hlns := hsgs.len
 refine sh_out hK _ _ ?_; clear hK K
 refine l_w rfl ?_; intro K hK
 refine ow_al M T rfl rfl rfl rfl ?_; clear M T; intro g1 wc ac M T
 refine sh_out hK _ _ ?_; clear hK K
 refine l_w rfl ?_; intro K hK
 refine ow_stO M T rfl rfl (T.ev 0 rfl) (T.ev 1 rfl) rfl .head rfl (by simp) rfl (by kernel_rfl) ?_; clear M T; intro wc ac M T
 refine sh_out hK _ _ ?_; clear hK K
 refine wpList_nil ?_
 replace T := T.pick [0] rfl
 replace M := M.mask [true, false] rfl
 refine nm_then ?_
 refine wp_seq ?_
 refine wp_region_lit ?_
 refine lq T (rn_rowO (Mem.nth M 0 rfl) rfl (T.ev 0 rfl) rfl) ?_; clear T ac; intro ac T
 refine l_w rfl ?_; intro K hK
 refine ow_call (first := []) (cap := []) T rfl rfl rfl rfl evf (.cons (T.ev 0 rfl) .nil) Tryd.func43 rfl rfl ?_
 refine Calls.mono (Worst_any s AKu2 cKu2 _ (SAKu2.rd M (.cons _ (List.Sublist.refl _))) (by omega) (by omega) (hT.mem M (fun h => h))) ?_
 clear T
 rintro e wc ⟨AWu3, cWu3, IWu3, rfl, hcpWu3, SVWu3, N⟩
 intro ac T
 obtain ⟨bAWu3, oAWu3, SVWu3⟩ := SVWu3
 have SAWu3 := SVWu3 w noEx
 replace M := (M.join N).swapI
 clear N
 replace M : Mem w noEx wc ((g1, .cells [.int .i64 s.lo, .int .i64 s.wi, .int .i64 s.a0, .int .i64 s.a1, .int .i64 s.c0, .int .i64 s.c1, .slice AKu2 s.ps.length cKu2]) :: (IKu2 ++ IWu3)) := M
 refine sh_out hK _ _ ?_; clear hK K
 refine lq T (rn_move rfl (T.ev 0 rfl)) ?_; clear T ac; intro ac T
 refine lq T (rn_extract rfl (T.ev 0 rfl) rfl) ?_; clear T ac; intro ac T
 refine lq T (rn_extract rfl (T.ev 1 rfl) rfl) ?_; clear T ac; intro ac T
 refine lq T (rn_assign rfl (T.ev 1 rfl)) ?_; clear T ac; intro ac T
 refine lq T (rn_assign rfl (T.ev 1 rfl)) ?_; clear T ac; intro ac T
 refine wpList_nil ?_
 replace T := T.pick [0, 1, 7] rfl
 refine nm_then ?_
 refine wp_seq ?_
 refine wp_region_lit ?_
 refine lq T (rn_rowO (Mem.nth M 0 rfl) rfl (T.ev 2 rfl) rfl) ?_; clear T ac; intro ac T
 refine l_w rfl ?_; intro K hK
 refine ow_call (first := []) (cap := []) T rfl rfl rfl rfl evf (.cons (T.ev 0 rfl) (.cons evc .nil)) Tryd.func34 rfl rfl ?_
 refine Calls.mono (Sheets_any s AKu2 cKu2 true _ (SAKu2.rd M (.cons _ (subL (List.Sublist.refl _)))) (by omega) (by omega) (hT.mem M (fun h => h))) ?_
 clear T
 rintro e wc ⟨ASu4, cSu4, ISu4, rfl, hcpSu4, SVSu4, N⟩
 intro ac T
 obtain ⟨bASu4, oASu4, SVSu4⟩ := SVSu4
 have SASu4 := SVSu4 w noEx
 replace M := (M.join N).swapI
 clear N
 replace M : Mem w noEx wc ((g1, .cells [.int .i64 s.lo, .int .i64 s.wi, .int .i64 s.a0, .int .i64 s.a1, .int .i64 s.c0, .int .i64 s.c1, .slice AKu2 s.ps.length cKu2]) :: (IKu2 ++ IWu3 ++ ISu4)) := M
 refine sh_out hK _ _ ?_; clear hK K
 refine lq T (rn_move rfl (T.ev 0 rfl)) ?_; clear T ac; intro ac T
 refine lq T (rn_extract rfl (T.ev 0 rfl) rfl) ?_; clear T ac; intro ac T
 refine lq T (rn_extract rfl (T.ev 1 rfl) rfl) ?_; clear T ac; intro ac T
 refine lq T (rn_extract rfl (T.ev 2 rfl) rfl) ?_; clear T ac; intro ac T
 refine lq T (rn_assign rfl (T.ev 2 rfl)) ?_; clear T ac; intro ac T
 refine lq T (rn_assign rfl (T.ev 2 rfl)) ?_; clear T ac; intro ac T
 refine lq T (rn_assign rfl (T.ev 2 rfl)) ?_; clear T ac; intro ac T
 refine wpList_nil ?_
 replace T := T.pick [0, 1, 9, 10, 11] rfl
 refine nm_then ?_
 refine wp_seq ?_
 refine wp_seq ?_
 refine wp_region_lit ?_
 refine lq T (rn_move rfl (T.ev 2 rfl)) ?_; clear T ac; intro ac T
 refine lq T (rn_move rfl (T.ev 1 rfl)) ?_; clear T ac; intro ac T
 refine lq (v := (.bool false)) T (rn_neqof (rn_neq rfl (T.ev 1 rfl) (T.ev 0 rfl)) (by simp)) ?_; clear T ac; intro ac T
 refine lq T (rn_move rfl (T.ev 0 rfl)) ?_; clear T ac; intro ac T
 refine lw T (wanted_yes rfl rfl (T.ev 0 rfl) rfl) (rn_move rfl (T.ev 6 rfl)) ?_; clear T ac; intro ac T
 refine lw T (wanted_yes rfl rfl (T.ev 1 rfl) rfl) (rn_neq rfl (T.ev 0 rfl) evc) ?_; clear T ac; intro ac T
 refine lq T (rn_pick0 rfl (T.ev 2 rfl) rfl (T.ev 0 rfl)) ?_; clear T ac; intro ac T
 refine wpList_nil ?_
 replace T := T.pick [0, 7, 8, 9, 10, 11] rfl
 refine nm_then ?_
 refine wp_ifn (T.ev 0 rfl) ?_ ?_
 ·intro h1
  have hE11 : shE s true = 11 := by rcases shE_cases hsgs true with h9 | h9; exact absurd h9 (by simpa using h1); exact h9
  refine cut_seq (fun ac wc => Tm ac 94 [(2, .bool (decide ((shE s true) = 11)))] ∧ Mem w noEx wc ((IKu2 ++ IWu3 ++ ISu4))) ?_ ?_
  ·refine wp_region_lit ?_
   refine lq T (rn_move rfl (T.ev 3 rfl)) ?_; clear T ac; intro ac T
   refine lq T (rn_move rfl (T.ev 2 rfl)) ?_; clear T ac; intro ac T
   refine lq (v := (.bool true)) T (rn_neqof (rn_eql rfl (T.ev 1 rfl) (T.ev 0 rfl)) (by simp)) ?_; clear T ac; intro ac T
   refine lq T (rn_move rfl (T.ev 0 rfl)) ?_; clear T ac; intro ac T
   refine lw T (wanted_yes rfl rfl (T.ev 0 rfl) rfl) (rn_move rfl (T.ev 7 rfl)) ?_; clear T ac; intro ac T
   refine lw T (wanted_yes rfl rfl (T.ev 1 rfl) rfl) (rn_eql rfl (T.ev 0 rfl) evc) ?_; clear T ac; intro ac T
   refine lq T (rn_pick1 rfl (T.ev 2 rfl) rfl (T.ev 0 rfl)) ?_; clear T ac; intro ac T
   refine lq T (rn_move rfl (T.ev 0 rfl)) ?_; clear T ac; intro ac T
   rcases Bool.eq_false_or_eq_true (decide ((shE s true) = 11)) with h2 | h2
   ·replace h2 := of_decide_eq_true h2
    refine l_w (wanted_yes rfl rfl (T.ev 0 rfl) (decide_eq_true h2)) ?_; intro K hK
    refine ow_call (first := []) (cap := []) T rfl rfl rfl rfl evf .nil Tryd.func17 rfl rfl ?_
    refine Calls.mono (sawn8_any _ (hT.mem M (fun h => h))) ?_
    clear T
    rintro e wc ⟨rfl, hb⟩
    intro ac T
    replace M := M.call hb; clear hb
    refine sh_out hK _ _ ?_; clear hK K
    refine lq T (rn_pick1 rfl (T.ev 1 rfl) (decide_eq_true h2) (T.ev 0 rfl)) ?_; clear T ac; intro ac T
    refine lq T (rn_assign rfl (T.ev 0 rfl)) ?_; clear T ac; intro ac T
    refine wpList_nil ?_
    replace T := T.pick [0] rfl
    replace M := M.mask [false] rfl
    replace M : Mem w noEx wc ((IKu2 ++ IWu3 ++ ISu4)) := M
    exact ⟨(T.pick (E' := [(2, .bool true)]) [0] rfl).as (by (try rw [show (decide ((shE s true) = 11)) = true from (decide_eq_true h2)]); (try rfl)), M.mask [] rfl⟩
   replace h2 := of_decide_eq_false h2
   refine lp T (wanted_no rfl rfl (T.ev 0 rfl) (decide_eq_false h2)) ?_; clear T ac; intro ac T
   refine lq T (rn_pick0 rfl (T.ev 1 rfl) (decide_eq_false h2) evc) ?_; clear T ac; intro ac T
   refine lq T (rn_assign rfl (T.ev 0 rfl)) ?_; clear T ac; intro ac T
   refine wpList_nil ?_
   replace T := T.pick [0] rfl
   replace M := M.mask [false] rfl
   replace M : Mem w noEx wc ((IKu2 ++ IWu3 ++ ISu4)) := M
   exact ⟨(T.pick (E' := [(2, .bool false)]) [0] rfl).as (by (try rw [show (decide ((shE s true) = 11)) = false from (decide_eq_false h2)]); (try rfl)), M.mask [] rfl⟩
  clear T M
  rintro ac wc ⟨T, M⟩
  refine wp_ret ?_
  refine rt_then ?_
  refine rt_1 T rfl (T.ev 0 rfl) ?_
  exact ⟨ret_bool (by simp_all), M.below⟩
 intro h1
 have h0s : shE s true = 0 := by simpa using h1
 refine wp_skip ?_
 refine nm_then ?_
 refine wp_seq ?_
 refine wp_seq ?_
 refine wp_region_lit ?_
 refine lq T (rn_move rfl (T.ev 4 rfl)) ?_; clear T ac; intro ac T
 refine lq T (rn_lenS rfl Tryd.underlying27 (T.ev 0 rfl)) ?_; clear T ac; intro ac T
 refine lq (v := (.pointer (some ⟨g1, 6, none⟩))) T (rn_fieldAddr (off := 6) rfl (T.ev 7 rfl) (fun _ _ _ => by kernel_rfl)) ?_; clear T ac; intro ac T
 refine lq T (rn_one (Mem.nth M 0 rfl) rfl (T.ev 0 rfl) rfl) ?_; clear T ac; intro ac T
 refine lq T (rn_lenS rfl Tryd.underlying24 (T.ev 0 rfl)) ?_; clear T ac; intro ac T
 refine lq T (rn_neq rfl (T.ev 3 rfl) (T.ev 0 rfl)) ?_; clear T ac; intro ac T
 refine wpList_nil ?_
 replace T := T.pick [0, 8, 10, 11] rfl
 refine nm_then ?_
 refine wp_ifn (T.ev 0 rfl) ?_ ?_
 ·intro h3
  exfalso
  simp [wrsL_len h0s] at h3
 intro h3
 refine wp_skip ?_
 refine nm_then ?_
 refine wp_seq ?_
 refine wp_seq ?_
 refine wp_region_lit ?_
 refine lq T (rn_assign rfl evc) ?_; clear T ac; intro ac T
 refine wpList_nil ?_
 replace T := T.pick [0, 2, 3, 4] rfl
 refine nm_then ?_
 refine wp_block ?_
 refine wp_loop_n (fun mz ac wc => ∃ (i : Nat), mz = s.ps.length - i ∧ (i ≤ s.ps.length) ∧ Tm ac 94 [(3, .pointer (some ⟨g1, 0, none⟩)), (4, .slice AWu3 ((wrsL s).length) cWu3), (7, .int .i64 (shN s true : Int)), (9, .int .i64 (i : Int))] ∧ Mem w noEx wc ((g1, .cells [.int .i64 s.lo, .int .i64 s.wi, .int .i64 s.a0, .int .i64 s.a1, .int .i64 s.c0, .int .i64 s.c1, .slice AKu2 s.ps.length cKu2]) :: (IKu2 ++ IWu3 ++ ISu4))) ?_ ?_
 ·exact ⟨_, 0, rfl, (Nat.zero_le _), T.pick [3, 2, 1, 0] rfl, M.mask [true] rfl⟩
 clear T M
 rintro mz ac wc ⟨i, hmm1, hi, T, M⟩
 refine wp_seq ?_
 refine wp_seq ?_
 refine wp_region_lit ?_
 refine lq T (rn_move rfl (T.ev 3 rfl)) ?_; clear T ac; intro ac T
 refine lq T (rn_move rfl (T.ev 2 rfl)) ?_; clear T ac; intro ac T
 refine lq T (rn_lenS rfl Tryd.underlying27 (T.ev 0 rfl)) ?_; clear T ac; intro ac T
 refine lq T (rn_lss rfl (T.ev 2 rfl) (T.ev 0 rfl)) ?_; clear T ac; intro ac T
 refine wpList_nil ?_
 replace T := T.pick [0, 4, 5, 6, 7] rfl
 refine nm_then ?_
 refine wp_if (T.ev 0 rfl) ?_ ?_
 ·intro h4
  have hi9 : i < s.ps.length := by omega
  obtain ⟨hE9, hN9⟩ := worst_law hsgs h0s hi9
  have hkv := wrsL_get h0s hi9
  obtain ⟨v, hv9⟩ : ∃ v, wrsV s i = v := ⟨_, rfl⟩
  rw [hv9] at hkv
  have hq1 : ((decide (v = 1)) == (decide ((shN (skW s i) true : Int) < (shN s true : Int)))) = true := by rw [← hv9]; unfold wrsV; split <;> simp <;> omega
  have hq2 : ((decide (v = 2)) == (decide ((shN (skW s i) true : Int) = (shN s true : Int)))) = true := by rw [← hv9]; unfold wrsV; split <;> simp <;> omega
  refine wp_skip ?_
  refine nm_then ?_
  refine wp_seq ?_
  refine wp_block ?_
  refine wp_seq ?_
  refine wp_region_lit ?_
  refine lq T (rn_rowO (Mem.nth M 0 rfl) rfl (T.ev 1 rfl) rfl) ?_; clear T ac; intro ac T
  refine lq T (rn_move rfl (T.ev 5 rfl)) ?_; clear T ac; intro ac T
  refine l_w rfl ?_; intro K hK
  refine ow_call (first := []) (cap := []) T rfl rfl rfl rfl evf (.cons (T.ev 1 rfl) (.cons (T.ev 0 rfl) .nil)) Tryd.func44 rfl rfl ?_
  refine Calls.mono (without_any s AKu2 cKu2 i _ (SAKu2.rd M (.cons _ (subL (subL (List.Sublist.refl _))))) (by omega)) ?_
  clear T
  rintro e wc ⟨AOu6, cOu6, IOu6, rfl, hcpOu6, SVOu6, N⟩
  intro ac T
  obtain ⟨bAOu6, oAOu6, SVOu6⟩ := SVOu6
  have SAOu6 := SVOu6 w noEx
  replace M := (M.join N).swapI
  clear N
  replace M : Mem w noEx wc ((g1, .cells [.int .i64 s.lo, .int .i64 s.wi, .int .i64 s.a0, .int .i64 s.a1, .int .i64 s.c0, .int .i64 s.c1, .slice AKu2 s.ps.length cKu2]) :: (IKu2 ++ IWu3 ++ ISu4 ++ IOu6)) := M
  refine sh_out hK _ _ ?_; clear hK K
  refine l_w rfl ?_; intro K hK
  have hlW := (skW_good hsgs i).len
  refine ow_call (first := []) (cap := []) T rfl rfl rfl rfl evf (.cons (T.ev 0 rfl) (.cons evc .nil)) Tryd.func34 rfl rfl ?_
  refine Calls.mono (Sheets_any (skW s i) AOu6 cOu6 true _ (SAOu6.rd M (.cons _ (List.sublist_append_right _ _))) (by omega) (by omega) (hT.mem M (fun h => h))) ?_
  clear T
  rintro e wc ⟨ASu7, cSu7, ISu7, rfl, hcpSu7, SVSu7, N⟩
  intro ac T
  rw [hE9] at T
  obtain ⟨bASu7, oASu7, SVSu7⟩ := SVSu7
  have SASu7 := SVSu7 w noEx
  replace M := (M.join N).swapI
  clear N
  replace M : Mem w noEx wc ((g1, .cells [.int .i64 s.lo, .int .i64 s.wi, .int .i64 s.a0, .int .i64 s.a1, .int .i64 s.c0, .int .i64 s.c1, .slice AKu2 s.ps.length cKu2]) :: (IKu2 ++ IWu3 ++ ISu4 ++ IOu6 ++ ISu7)) := M
  refine sh_out hK _ _ ?_; clear hK K
  refine lq T (rn_move rfl (T.ev 0 rfl)) ?_; clear T ac; intro ac T
  refine lq T (rn_extract rfl (T.ev 0 rfl) rfl) ?_; clear T ac; intro ac T
  refine lq T (rn_extract rfl (T.ev 1 rfl) rfl) ?_; clear T ac; intro ac T
  refine lq T (rn_extract rfl (T.ev 2 rfl) rfl) ?_; clear T ac; intro ac T
  refine lq T (rn_assign rfl (T.ev 2 rfl)) ?_; clear T ac; intro ac T
  refine lq T (rn_assign rfl (T.ev 2 rfl)) ?_; clear T ac; intro ac T
  refine lq T (rn_assign rfl (T.ev 2 rfl)) ?_; clear T ac; intro ac T
  refine wpList_nil ?_
  replace T := T.pick [0, 1, 12, 13, 14, 15] rfl
  refine nm_then ?_
  refine wp_seq ?_
  refine wp_region_lit ?_
  refine lq T (rn_move rfl (T.ev 0 rfl)) ?_; clear T ac; intro ac T
  refine lq (v := (.bool false)) T (rn_neqof (rn_neq rfl (T.ev 0 rfl) evc) (by simp)) ?_; clear T ac; intro ac T
  refine lq T (rn_move rfl (T.ev 0 rfl)) ?_; clear T ac; intro ac T
  refine lw T (wanted_yes rfl rfl (T.ev 0 rfl) rfl) (rn_move rfl (T.ev 4 rfl)) ?_; clear T ac; intro ac T
  refine lw T (wanted_yes rfl rfl (T.ev 1 rfl) rfl) (rn_move rfl (T.ev 8 rfl)) ?_; clear T ac; intro ac T
  refine lw T (wanted_yes rfl rfl (T.ev 2 rfl) rfl) (rn_gtr rfl (T.ev 1 rfl) (T.ev 0 rfl)) ?_; clear T ac; intro ac T
  refine lq T (rn_pick0 rfl (T.ev 3 rfl) rfl (T.ev 0 rfl)) ?_; clear T ac; intro ac T
  refine lq T (rn_move rfl (T.ev 0 rfl)) ?_; clear T ac; intro ac T
  refine lw T (wanted_yes rfl rfl (T.ev 0 rfl) (decide_eq_false (by omega))) (rn_move rfl (T.ev 11 rfl)) ?_; clear T ac; intro ac T
  refine lw T (wanted_yes rfl rfl (T.ev 1 rfl) (decide_eq_false (by omega))) (rn_move rfl (T.ev 14 rfl)) ?_; clear T ac; intro ac T
  refine lw T (wanted_yes rfl rfl (T.ev 2 rfl) (decide_eq_false (by omega))) (rn_indexAddr (size := 1) i rfl (T.ev 1 rfl) (T.ev 0 rfl) ⟨_, Tryd.underlying27, by kernel_rfl⟩ rfl (by omega) (SAWu3.at0 (by omega))) ?_; clear T ac; intro ac T
  refine lw T (wanted_yes rfl rfl (T.ev 3 rfl) (decide_eq_false (by omega))) (rn_cell (Sp.ic0 SAWu3 M (.cons _ (subL (subL (subL (List.sublist_append_right _ _))))) hkv) rfl (T.ev 0 rfl)) ?_; clear T ac; intro ac T
  refine lw T (wanted_yes rfl rfl (T.ev 4 rfl) (decide_eq_false (by omega))) (rn_eql rfl (T.ev 0 rfl) evc) ?_; clear T ac; intro ac T
  refine lw T (wanted_yes rfl rfl (T.ev 5 rfl) (decide_eq_false (by omega))) (rn_move rfl (T.ev 14 rfl)) ?_; clear T ac; intro ac T
  refine lw T (wanted_yes rfl rfl (T.ev 6 rfl) (decide_eq_false (by omega))) (rn_move rfl (T.ev 18 rfl)) ?_; clear T ac; intro ac T
  refine lw T (wanted_yes rfl rfl (T.ev 7 rfl) (decide_eq_false (by omega))) (rn_lss rfl (T.ev 1 rfl) (T.ev 0 rfl)) ?_; clear T ac; intro ac T
  refine lw (v := (.bool (!((decide (v = 1)) == (decide ((shN (skW s i) true : Int) < (shN s true : Int))))))) T (wanted_yes rfl rfl (T.ev 8 rfl) (decide_eq_false (by omega))) (rn_bin rfl (T.ev 3 rfl) (T.ev 0 rfl) (by kernel_rfl)) ?_; clear T ac; intro ac T
  refine lq T (rn_pick0 rfl (T.ev 9 rfl) (decide_eq_false (by omega)) (T.ev 0 rfl)) ?_; clear T ac; intro ac T
  refine lq T (rn_move rfl (T.ev 0 rfl)) ?_; clear T ac; intro ac T
  refine lw T (wanted_yes rfl rfl (T.ev 0 rfl) (by rw [show ((decide (v = 1)) == (decide ((shN (skW s i) true : Int) < (shN s true : Int)))) = true from hq1]; rfl)) (rn_move rfl (T.ev 22 rfl)) ?_; clear T ac; intro ac T
  refine lw T (wanted_yes rfl rfl (T.ev 1 rfl) (by rw [show ((decide (v = 1)) == (decide ((shN (skW s i) true : Int) < (shN s true : Int)))) = true from hq1]; rfl)) (rn_move rfl (T.ev 25 rfl)) ?_; clear T ac; intro ac T
  refine lw T (wanted_yes rfl rfl (T.ev 2 rfl) (by rw [show ((decide (v = 1)) == (decide ((shN (skW s i) true : Int) < (shN s true : Int)))) = true from hq1]; rfl)) (rn_indexAddr (size := 1) i rfl (T.ev 1 rfl) (T.ev 0 rfl) ⟨_, Tryd.underlying27, by kernel_rfl⟩ rfl (by omega) (SAWu3.at0 (by omega))) ?_; clear T ac; intro ac T
  refine lw T (wanted_yes rfl rfl (T.ev 3 rfl) (by rw [show ((decide (v = 1)) == (decide ((shN (skW s i) true : Int) < (shN s true : Int)))) = true from hq1]; rfl)) (rn_cell (Sp.ic0 SAWu3 M (.cons _ (subL (subL (subL (List.sublist_append_right _ _))))) hkv) rfl (T.ev 0 rfl)) ?_; clear T ac; intro ac T
  refine lw T (wanted_yes rfl rfl (T.ev 4 rfl) (by rw [show ((decide (v = 1)) == (decide ((shN (skW s i) true : Int) < (shN s true : Int)))) = true from hq1]; rfl)) (rn_eql rfl (T.ev 0 rfl) evc) ?_; clear T ac; intro ac T
  refine lw T (wanted_yes rfl rfl (T.ev 5 rfl) (by rw [show ((decide (v = 1)) == (decide ((shN (skW s i) true : Int) < (shN s true : Int)))) = true from hq1]; rfl)) (rn_move rfl (T.ev 25 rfl)) ?_; clear T ac; intro ac T
  refine lw T (wanted_yes rfl rfl (T.ev 6 rfl) (by rw [show ((decide (v = 1)) == (decide ((shN (skW s i) true : Int) < (shN s true : Int)))) = true from hq1]; rfl)) (rn_move rfl (T.ev 29 rfl)) ?_; clear T ac; intro ac T
  refine lw T (wanted_yes rfl rfl (T.ev 7 rfl) (by rw [show ((decide (v = 1)) == (decide ((shN (skW s i) true : Int) < (shN s true : Int)))) = true from hq1]; rfl)) (rn_eql rfl (T.ev 1 rfl) (T.ev 0 rfl)) ?_; clear T ac; intro ac T
  refine lw (v := (.bool (!((decide (v = 2)) == (decide ((shN (skW s i) true : Int) = (shN s true : Int))))))) T (wanted_yes rfl rfl (T.ev 8 rfl) (by rw [show ((decide (v = 1)) == (decide ((shN (skW s i) true : Int) < (shN s true : Int)))) = true from hq1]; rfl)) (rn_bin rfl (T.ev 3 rfl) (T.ev 0 rfl) (by kernel_rfl)) ?_; clear T ac; intro ac T
  refine lq T (rn_pick0 rfl (T.ev 9 rfl) (by rw [show ((decide (v = 1)) == (decide ((shN (skW s i) true : Int) < (shN s true : Int)))) = true from hq1]; rfl) (T.ev 0 rfl)) ?_; clear T ac; intro ac T
  refine wpList_nil ?_
  replace T := T.pick [0, 1, 2, 3, 4, 5, 6, 7, 8, 9, 12, 13, 14, 15, 16, 17, 18, 19, 20, 23, 24, 25, 31, 32, 33, 34] rfl
  refine nm_then ?_
  refine wp_cond_false ((T.ev 0 rfl).trans (congrArg Value.bool (by rw [show ((decide (v = 2)) == (decide ((shN (skW s i) true : Int) = (shN s true : Int)))) = true from hq2]; rfl))) ?_
  refine wp_skip ?_
  refine nm_blk ?_
  refine nm_then ?_
  refine wp_region_lit ?_
  refine lq T (rn_move rfl (T.ev 25 rfl)) ?_; clear T ac; intro ac T
  refine lq T (rn_add rfl (T.ev 0 rfl) evc (by omega)) ?_; clear T ac; intro ac T
  refine l_q (v := (.int .i64 ((i : Int) + 1))) (T.pick [0, 1, 2, 3, 4, 5, 6, 7, 8, 9, 10, 11, 12, 13, 14, 15, 16, 17, 18, 19, 20, 21, 22, 23, 24, 25, 26] rfl) rfl rfl rfl rfl (rn_assign rfl (T.ev 0 rfl)) ?_; clear T ac; intro ac T
  refine wpList_nil ?_
  replace T := T.pick [0, 4, 5, 6, 7, 8, 9, 10, 11, 12, 13, 14, 15, 16, 17, 18, 19, 20, 21, 22, 23, 24, 25, 26, 27] rfl
  refine nm_then ?_
  exact ⟨_, by omega, i + 1, rfl, (by omega), T.pick [22, 23, 24, 0] rfl, (M.sub (List.Sublist.cons_cons _ (subL (subL (List.Sublist.refl _)))))⟩
 intro h4
 refine wp_exit ?_
 refine ex_then ?_
 refine ex_then ?_
 refine ex_hit ?_
 refine nm_then ?_
 refine wp_seq ?_
 refine wp_region_lit ?_
 refine l_w rfl ?_; intro K hK
 refine ow_call (first := []) (cap := []) T rfl rfl rfl rfl evf .nil Tryd.func17 rfl rfl ?_
 refine Calls.mono (sawn8_any _ (hT.mem M (fun h => h))) ?_
 clear T
 rintro e wc ⟨rfl, hb⟩
 intro ac T
 replace M := M.call hb; clear hb
 refine sh_out hK _ _ ?_; clear hK K
 refine lq T (rn_assign rfl (T.ev 0 rfl)) ?_; clear T ac; intro ac T
 refine wpList_nil ?_
 replace T := T.pick [0] rfl
 replace M := M.mask [false] rfl
 replace M : Mem w noEx wc ((IKu2 ++ IWu3 ++ ISu4)) := M
 refine nm_then ?_
 refine wp_ret ?_
 refine rt_1 T rfl (T.ev 0 rfl) ?_
 exact ⟨ret_bool (by simp_all), M.below⟩
end Go.Proofs.YtehpcclfgjccbaaDoor

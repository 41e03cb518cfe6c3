/-
  sheet's law: plans.
-/
import Derived.Test.YtehpcclfgjccbaaDoorMSheetPlans1
import Derived.Test.YtehpcclfgjccbaaDoorMSheetPlans2
import Derived.Test.YtehpcclfgjccbaaDoorMSheetPlans3
import Derived.Test.YtehpcclfgjccbaaDoorMSheetPlans4
import Derived.Test.YtehpcclfgjccbaaDoorMSheetPlans5
namespace Go.Proofs.YtehpcclfgjccbaaDoor
set_option linter.unusedSimpArgs false
set_option linter.unusedVariables false
open Go.RowKit
theorem planL_few {s : Sk} {g : List Int} {su : Bool} (h : g.length ≤ 20) : (planL s g su).length ≤ 1000000 := by
 unfold planL
 split
 · rw [putS_length, List.length_replicate, gP_len]; omega
 · simp
set_option maxRecDepth 100000 in
set_option maxHeartbeats 4000000 in
theorem SheetPlans_any (s0 : Sk) (A0 : Option Addr) (c0 : Nat) (Gz : Option Addr) (dz : Nat) (gz : List Int) (b2 : Bool) (D : Option Addr) (n d : Nat) (l : List Int) (w : World) (hl : Rd w w.heap.size 1 D n (ic l)) (hm : n ≤ 9223372036854775807) (hT : TabW w) (hS0 : Rd w w.heap.size 4 A0 s0.ps.length (pc s0.ps)) (hn0 : s0.ps.length ≤ 9223372036854775807) (hGz : Rd w w.heap.size 1 Gz gz.length (ic gz)) (hn1 : gz.length ≤ 9223372036854775807) :
   Calls Tryd.prog 9 #[.agg #[.int .i64 s0.lo, .int .i64 s0.wi, .int .i64 s0.a0, .int .i64 s0.a1, .int .i64 s0.c0, .int .i64 s0.c1, .slice A0 s0.ps.length c0], .slice Gz gz.length dz, .bool b2, .slice D n d] w fun e w' => e = .returned (.bool true) ∧ Below w.heap.size w w' := by
 have hll := hl.len1
 obtain ⟨bI, oI, SI⟩ := Sp.old hl
 obtain ⟨b0, o0, SA0⟩ := Sp.old hS0
 obtain ⟨bgz, ogz, SGz⟩ := Sp.old hGz
 refine px_enter noEx Tryd.func9 rfl 148 rfl [.agg #[.int .i64 s0.lo, .int .i64 s0.wi, .int .i64 s0.a0, .int .i64 s0.a1, .int .i64 s0.c0, .int .i64 s0.c1, .slice A0 s0.ps.length c0], .slice Gz gz.length dz, .bool b2, .slice D n d] rfl rfl (Mem.init w _) ?_
 intro ac wc T M
 refine wp_seq ?_
 refine wp_region_lit ?_
 refine l_w rfl ?_; intro K hK
 refine ow_bx M T rfl rfl rfl rfl (T.ev 0 rfl) rfl ?_; clear M T; intro g1 wc ac M T
 refine so9 hK _ _ ?_; clear hK K
 refine lq T (ra9 rfl evc) ?_; clear T ac; intro ac T
 refine wpList_nil ?_
 replace T := T.pick [1, 3, 4, 5] rfl
 refine nt9 ?_
 refine wp_seq ?_
 refine cut_seq (fun ac wc => Tm ac 148 [(1, .slice Gz gz.length dz), (2, .bool b2), (3, .slice D n d), (4, .pointer (some ⟨g1, 0, none⟩)), (31, .bool ((wid8 s0 24) || (decide (20 < ((gz.length : Nat) : Int)))))] ∧ Mem w noEx wc [(g1, .cells [.int .i64 s0.lo, .int .i64 s0.wi, .int .i64 s0.a0, .int .i64 s0.a1, .int .i64 s0.c0, .int .i64 s0.c1, .slice A0 s0.ps.length c0])]) ?_ ?_
 ·refine wp_region_lit ?_
  refine lq T (rn_rowO (Mem.nth M 0 rfl) rfl (T.ev 0 rfl) rfl) ?_; clear T ac; intro ac T
  refine l_w rfl ?_; intro K hK
  refine oc9 (first := []) (cap := []) T rfl rfl rfl rfl evf (.cons (T.ev 0 rfl) (.cons evc .nil)) Tryd.func45 rfl rfl ?_
  refine Calls.mono (wide8_any s0 A0 c0 24 _ (SA0.rd M (List.nil_sublist _)) (by omega) (by omega)) ?_
  clear T
  rintro e wc ⟨rfl, hb⟩
  intro ac T
  replace M := M.call hb; clear hb
  refine so9 hK _ _ ?_; clear hK K
  refine lq T (rm9 rfl (T.ev 0 rfl)) ?_; clear T ac; intro ac T
  rcases Bool.eq_false_or_eq_true (wid8 s0 24) with h1 | h1
  ·refine lp T (wn9 rfl rfl (T.ev 0 rfl) h1) ?_; clear T ac; intro ac T
   refine lp T (wn9 rfl rfl (T.ev 1 rfl) h1) ?_; clear T ac; intro ac T
   refine lp T (wn9 rfl rfl (T.ev 2 rfl) h1) ?_; clear T ac; intro ac T
   refine lq T (rn_pick1 rfl (T.ev 3 rfl) h1 evc) ?_; clear T ac; intro ac T
   refine wpList_nil ?_
   replace T := T.pick [0, 7, 8, 9, 10] rfl
   exact ⟨(T.pick (E' := [(1, .slice Gz gz.length dz), (2, .bool b2), (3, .slice D n d), (4, .pointer (some ⟨g1, 0, none⟩)), (31, .bool true)]) [2, 3, 4, 1, 0] rfl).as (by (try rw [show (wid8 s0 24) = true from h1]); (try rfl)), M.mask [true] rfl⟩
  refine lw T (wy9 rfl rfl (T.ev 0 rfl) h1) (rm9 rfl (T.ev 4 rfl)) ?_; clear T ac; intro ac T
  refine lw T (wy9 rfl rfl (T.ev 1 rfl) h1) (rn_lenS rfl Tryd.underlying27 (T.ev 0 rfl)) ?_; clear T ac; intro ac T
  refine lw T (wy9 rfl rfl (T.ev 2 rfl) h1) (rn_gtr rfl (T.ev 0 rfl) evc) ?_; clear T ac; intro ac T
  refine lq T (rn_pick0 rfl (T.ev 3 rfl) h1 (T.ev 0 rfl)) ?_; clear T ac; intro ac T
  refine wpList_nil ?_
  replace T := T.pick [0, 7, 8, 9, 10] rfl
  exact ⟨(T.pick (E' := [(1, .slice Gz gz.length dz), (2, .bool b2), (3, .slice D n d), (4, .pointer (some ⟨g1, 0, none⟩)), (31, .bool (decide (20 < ((gz.length : Nat) : Int))))]) [2, 3, 4, 1, 0] rfl).as (by (try rw [show (wid8 s0 24) = false from h1]); (try rfl)), M.mask [true] rfl⟩
 clear T M
 rintro ac wc ⟨T, M⟩
 refine wp_cond_split (T.ev 4 rfl) ?_ ?_
 ·intro h2
  (try have h2' := h2; try simp only [Bool.and_eq_true, Bool.or_eq_true, Bool.not_eq_true', Bool.and_eq_false_imp, Bool.or_eq_false_iff, decide_eq_true_eq, decide_eq_false_iff_not] at h2')
  refine wp_seq ?_
  refine wp_region_lit ?_
  refine l_w rfl ?_; intro K hK
  refine oc9 (first := []) (cap := []) T rfl rfl rfl rfl evf .nil Tryd.func17 rfl rfl ?_
  refine Calls.mono (sawn8_any _ (hT.mem M (fun h => h))) ?_
  clear T
  rintro e wc ⟨rfl, hb⟩
  intro ac T
  replace M := M.call hb; clear hb
  refine so9 hK _ _ ?_; clear hK K
  refine lq T (ra9 rfl (T.ev 0 rfl)) ?_; clear T ac; intro ac T
  refine wpList_nil ?_
  replace T := T.pick [0] rfl
  replace M := M.mask [false] rfl
  refine nt9 ?_
  refine wp_ret ?_
  refine rt_then ?_
  refine rt_1 T rfl (T.ev 0 rfl) ?_
  exact ⟨ret_bool (by simp_all), M.below⟩
 intro h2
 (try have h2' := h2; try simp only [Bool.and_eq_true, Bool.or_eq_true, Bool.not_eq_true', Bool.and_eq_false_imp, Bool.or_eq_false_iff, decide_eq_true_eq, decide_eq_false_iff_not] at h2')
 have hw9 := wid8_len (s := s0) (k := 24) (by simp_all)
 refine wp_skip ?_
 refine nt9 ?_
 refine wp_seq ?_
 refine wp_region_lit ?_
 refine lq T (rm9 rfl (T.ev 2 rfl)) ?_; clear T ac; intro ac T
 refine l_w rfl ?_; intro K hK
 refine oc9 (first := []) (cap := []) T rfl rfl rfl rfl evf (.cons (T.ev 0 rfl) .nil) Tryd.func18 rfl rfl ?_
 refine Calls.mono (newPot_any _ _ _ l _ (SI.rd M (List.nil_sublist _)) (by omega)) ?_
 clear T
 rintro e wc ⟨bpu3, su3, hsu3, rfl, N⟩
 intro ac T
 replace M := M.join N; clear N
 replace M := M.mask [true, true] rfl
 refine so9 hK _ _ ?_; clear hK K
 refine lq T (ra9 rfl (T.ev 0 rfl)) ?_; clear T ac; intro ac T
 refine wpList_nil ?_
 replace T := T.pick [0, 3, 4, 6] rfl
 refine nt9 ?_
 refine wp_seq ?_
 refine wp_region_lit ?_
 refine lq T (rm9 rfl (T.ev 0 rfl)) ?_; clear T ac; intro ac T
 refine l_w rfl ?_; intro K hK
 refine oc9 (first := []) (cap := []) T rfl rfl rfl rfl evf (.cons (T.ev 0 rfl) (.cons evc (.cons evc .nil))) Tryd.func19 rfl rfl ?_
 refine Calls.mono (sheetOf_any _ bpu3 6 4 _ (by omega) (by omega) (M.nth 0 rfl) hsu3) ?_
 clear T
 rintro e wc ⟨s, AKu4, cKu4, sdu4, IKu4, rfl, hsgs, ⟨⟨hbls, hbws⟩, hbps⟩, hsu4, hcpKu4, SVKu4, N⟩
 intro ac T
 obtain ⟨bAKu4, oAKu4, SVKu4⟩ := SVKu4
 have SAKu4 := SVKu4 w noEx
 replace M := M.joinEI N .head
 clear N
 replace M : Mem w noEx wc ((bpu3, .cells [.int .u64 sdu4]) :: (g1, .cells [.int .i64 s0.lo, .int .i64 s0.wi, .int .i64 s0.a0, .int .i64 s0.a1, .int .i64 s0.c0, .int .i64 s0.c1, .slice A0 s0.ps.length c0]) :: IKu4) := M
 have hlns := hsgs.len
 obtain ⟨hg1s, hg2s, hg3s, hg4s, -, -⟩ := id hsgs
 refine so9 hK _ _ ?_; clear hK K
 refine l_w rfl ?_; intro K hK
 refine ow_al M T rfl rfl rfl rfl ?_; clear M T; intro g2 wc ac M T
 refine so9 hK _ _ ?_; clear hK K
 refine l_w rfl ?_; intro K hK
 refine ow_stO M T rfl rfl (T.ev 0 rfl) (T.ev 1 rfl) rfl .head rfl (by simp) rfl (by kernel_rfl) ?_; clear M T; intro wc ac M T
 refine so9 hK _ _ ?_; clear hK K
 refine wpList_nil ?_
 replace T := T.pick [0, 3, 4, 5, 6] rfl
 refine nt9 ?_
 refine wp_seq ?_
 refine wp_region_lit ?_
 refine lq T (rm9 rfl (T.ev 1 rfl)) ?_; clear T ac; intro ac T
 refine lq (v := (.pointer (some ⟨g2, 6, none⟩))) T (rf9 (off := 6) rfl (T.ev 1 rfl) (fun _ _ _ => by kernel_rfl)) ?_; clear T ac; intro ac T
 refine lq T (rn_one (Mem.nth M 0 rfl) rfl (T.ev 0 rfl) rfl) ?_; clear T ac; intro ac T
 refine lq T (rn_lenS rfl Tryd.underlying24 (T.ev 0 rfl)) ?_; clear T ac; intro ac T
 refine l_w rfl ?_; intro K hK
 refine oc9 (first := []) (cap := []) T rfl rfl rfl rfl evf (.cons (T.ev 3 rfl) (.cons (T.ev 0 rfl) .nil)) Tryd.func20 rfl rfl ?_
 refine Calls.mono (mix_any _ bpu3 s.ps.length _ (by omega) (M.nth 1 rfl) hsu4) ?_
 clear T
 rintro e wc ⟨lxu5, AXu5, cXu5, sdu5, IXu5, rfl, hixu5, hsu5, hcpXu5, SVXu5, N⟩
 intro ac T
 obtain ⟨bAXu5, oAXu5, SVXu5⟩ := SVXu5
 have SAXu5 := SVXu5 w noEx
 replace M := M.joinEI N (.tail .head)
 clear N
 replace M : Mem w noEx wc ((g2, .cells [.int .i64 s.lo, .int .i64 s.wi, .int .i64 s.a0, .int .i64 s.a1, .int .i64 s.c0, .int .i64 s.c1, .slice AKu4 s.ps.length cKu4]) :: (bpu3, .cells [.int .u64 sdu5]) :: (g1, .cells [.int .i64 s0.lo, .int .i64 s0.wi, .int .i64 s0.a0, .int .i64 s0.a1, .int .i64 s0.c0, .int .i64 s0.c1, .slice A0 s0.ps.length c0]) :: (IKu4 ++ IXu5)) := M
 refine so9 hK _ _ ?_; clear hK K
 refine lq T (ra9 rfl (T.ev 0 rfl)) ?_; clear T ac; intro ac T
 refine wpList_nil ?_
 replace T := T.pick [0, 6, 7, 8, 9, 10] rfl
 refine nt9 ?_
 refine wp_seq ?_
 refine wp_region_lit ?_
 refine lq T (rm9 rfl (T.ev 0 rfl)) ?_; clear T ac; intro ac T
 refine lq T (rm9 rfl (T.ev 3 rfl)) ?_; clear T ac; intro ac T
 refine lq T (rm9 rfl (T.ev 2 rfl)) ?_; clear T ac; intro ac T
 refine lq T (rn_lenS rfl Tryd.underlying27 (T.ev 0 rfl)) ?_; clear T ac; intro ac T
 refine l_w rfl ?_; intro K hK
 refine oc9 (first := []) (cap := []) T rfl rfl rfl rfl evf (.cons (T.ev 2 rfl) (.cons (T.ev 0 rfl) .nil)) Tryd.func21 rfl rfl ?_
 refine Calls.mono (upto_any _ bpu3 ((lxu5.length : Nat) : Int) _ (by omega) (by omega) (M.nth 1 rfl) hsu5) ?_
 clear T
 rintro e wc ⟨xu6, su6, hxu6, hsu6, rfl, hgr, hbk⟩
 intro ac T
 replace M := M.callC (cs' := [.int .u64 su6]) (.tail .head) hgr hbk
 clear hgr hbk
 obtain ⟨k9u6, hk9u6⟩ : ∃ k : Nat, xu6 = (k : Int) := ⟨xu6.toNat, by omega⟩
 refine so9 hK _ _ ?_; clear hK K
 refine lq T (rn_slice (size := 1) (l := 0) (h := k9u6) rfl Tryd.underlying27 (by kernel_rfl) (T.ev 4 rfl) rfl ((T.ev 0 rfl).trans (congrArg (Value.int .i64) hk9u6)) (by omega) (by omega)) ?_; clear T ac; intro ac T
 obtain ⟨Aq1, hAq1⟩ : ∃ q : Option Addr, q = (if cXu5 = 0 then AXu5 else Option.map (fun x : Addr => x.add (0 * 1)) AXu5) := ⟨_, rfl⟩
 rw [← hAq1] at T
 obtain ⟨lq1, hlq1⟩ : ∃ q, q = (lxu5.drop 0).take (k9u6 - 0) := ⟨_, rfl⟩
 have nlq1 : lq1.length = k9u6 - 0 := by rw [hlq1, List.length_take, List.length_drop]; (try simp only [List.length_cons, List.length_append, List.length_nil]); omega
 rw [← nlq1] at T
 have SAq1 : Sp w noEx IXu5 Aq1 lq1.length 1 bAXu5 (oAXu5 + 0 * 1) (ic lq1) := by rw [nlq1, hAq1, hlq1, ← ic_part]; exact SAXu5.sub (by omega) (by omega) (by omega)
 refine l_q (v := (.slice Aq1 lq1.length (cXu5 - 0))) (T.pick [0, 1, 2, 3, 4, 5, 7, 8, 9, 10, 11] rfl) rfl rfl rfl rfl (ra9 rfl (T.ev 0 rfl)) ?_; clear T ac; intro ac T
 refine wpList_nil ?_
 replace T := T.pick [0, 7, 9, 10, 11] rfl
 replace M := M.mask [true, false, true] rfl
 refine nt9 ?_
 refine wp_seq ?_
 refine wp_region_lit ?_
 refine lq T (rn_rowO (Mem.nth M 1 rfl) rfl (T.ev 4 rfl) rfl) ?_; clear T ac; intro ac T
 refine lq T (rn_rowO (Mem.nth M 0 rfl) rfl (T.ev 2 rfl) rfl) ?_; clear T ac; intro ac T
 refine lq T (rn_rowO (Mem.nth M 0 rfl) rfl (T.ev 3 rfl) rfl) ?_; clear T ac; intro ac T
 refine l_w rfl ?_; intro K hK
 refine ow_bs (e := 26) [.int .i64 s0.lo, .int .i64 s0.wi, .int .i64 s0.a0, .int .i64 s0.a1, .int .i64 s0.c0, .int .i64 s0.c1, .slice A0 s0.ps.length c0, .int .i64 s.lo, .int .i64 s.wi, .int .i64 s.a0, .int .i64 s.a1, .int .i64 s.c0, .int .i64 s.c1, .slice AKu4 s.ps.length cKu4, .int .i64 s.lo, .int .i64 s.wi, .int .i64 s.a0, .int .i64 s.a1, .int .i64 s.c0, .int .i64 s.c1, .slice AKu4 s.ps.length cKu4] M T rfl rfl rfl rfl (.cons (T.ev 2 rfl) (.cons (T.ev 1 rfl) (.cons (T.ev 0 rfl) .nil))) (fun _ => by kernel_rfl) ?_; clear M T; intro g3 wc ac M T
 refine so9 hK _ _ ?_; clear hK K
 refine lq T (rm9 rfl (T.ev 6 rfl)) ?_; clear T ac; intro ac T
 refine lq T (rm9 rfl (T.ev 5 rfl)) ?_; clear T ac; intro ac T
 refine lq T (rm9 rfl (T.ev 8 rfl)) ?_; clear T ac; intro ac T
 refine l_w rfl ?_; intro K hK
 refine ow_bs (e := 27) [.slice Gz gz.length dz, .slice Aq1 lq1.length (cXu5 - 0), .slice Gz gz.length dz] M T rfl rfl rfl rfl (.cons (T.ev 2 rfl) (.cons (T.ev 1 rfl) (.cons (T.ev 0 rfl) .nil))) (fun _ => by kernel_rfl) ?_; clear M T; intro g4 wc ac M T
 refine so9 hK _ _ ?_; clear hK K
 refine lq T (ra9 rfl (T.ev 4 rfl)) ?_; clear T ac; intro ac T
 refine lq T (ra9 rfl (T.ev 1 rfl)) ?_; clear T ac; intro ac T
 refine wpList_nil ?_
 replace T := T.pick [0, 1, 13] rfl
 replace M := M.mask [true, true, false, false] rfl
 refine nt9 ?_
 refine wp_seq ?_
 refine wp_seq ?_
 refine wp_region_lit ?_
 refine lq T (ra9 rfl evc) ?_; clear T ac; intro ac T
 refine wpList_nil ?_
 refine nt9 ?_
 refine wp_block ?_
 obtain ⟨IT, hIT⟩ : ∃ IT : List (Nat × BA), IT = ((g4, .cells [.slice Gz gz.length dz, .slice Aq1 lq1.length (cXu5 - 0), .slice Gz gz.length dz]) :: (g3, .cells [.int .i64 s0.lo, .int .i64 s0.wi, .int .i64 s0.a0, .int .i64 s0.a1, .int .i64 s0.c0, .int .i64 s0.c1, .slice A0 s0.ps.length c0, .int .i64 s.lo, .int .i64 s.wi, .int .i64 s.a0, .int .i64 s.a1, .int .i64 s.c0, .int .i64 s.c1, .slice AKu4 s.ps.length cKu4, .int .i64 s.lo, .int .i64 s.wi, .int .i64 s.a0, .int .i64 s.a1, .int .i64 s.c0, .int .i64 s.c1, .slice AKu4 s.ps.length cKu4]) :: (IKu4 ++ IXu5)) := ⟨_, rfl⟩
 have S0 : Sp w noEx IT (some ⟨g3, 0, none⟩) 3 7 g3 0 (sk ([(s0, A0, c0), (s, AKu4, cKu4), (s, AKu4, cKu4)] : List SE)) := (Sp.cells (w := w) (ex := noEx) (g := g3) (xs := sk ([(s0, A0, c0), (s, AKu4, cKu4), (s, AKu4, cKu4)] : List SE)) (n := 3) (size := 7) (by rfl)).mono (by rw [hIT]; exact (.cons _ (List.Sublist.cons_cons _ (List.nil_sublist _))))
 have E0 : ∀ x ∈ ([(s0, A0, c0), (s, AKu4, cKu4), (s, AKu4, cKu4)] : List SE), x.1.ps.length ≤ 20 ∧ x.1.ps.length ≤ x.1.ps.length ∧ ∃ b o, Sp w noEx IT x.2.1 x.1.ps.length 4 b o (pc x.1.ps) := by
   intro x hx
   simp only [List.mem_cons, List.not_mem_nil, or_false] at hx
   rcases hx with rfl | rfl | rfl
   · exact ⟨by first | omega | (dsimp only; omega) | (simp only [skA, skP, List.length_append, List.length_replicate]; omega), Nat.le_refl _, _, _, SA0.mono (by rw [hIT]; exact List.nil_sublist _)⟩
   · exact ⟨by first | omega | (dsimp only; omega) | (simp only [skA, skP, List.length_append, List.length_replicate]; omega), Nat.le_refl _, _, _, SAKu4.mono (by rw [hIT]; exact (.cons _ (.cons _ (subL (List.Sublist.refl _)))))⟩
   · exact ⟨by first | omega | (dsimp only; omega) | (simp only [skA, skP, List.length_append, List.length_replicate]; omega), Nat.le_refl _, _, _, SAKu4.mono (by rw [hIT]; exact (.cons _ (.cons _ (subL (List.Sublist.refl _)))))⟩
 obtain ⟨SS, hSS, SSS, ESS⟩ : ∃ SS : List SE, SS.length = 3 ∧ Sp w noEx IT (some ⟨g3, 0, none⟩) 3 7 g3 0 (sk SS) ∧ ∀ x ∈ SS, x.1.ps.length ≤ 20 ∧ x.1.ps.length ≤ x.1.ps.length ∧ ∃ b o, Sp w noEx IT x.2.1 x.1.ps.length 4 b o (pc x.1.ps) := ⟨_, rfl, S0, E0⟩
 clear S0 E0
 have S0 : Sp w noEx IT (some ⟨g4, 0, none⟩) 3 1 g4 0 (lc ([(gz, Gz, dz), (lq1, Aq1, (cXu5 - 0)), (gz, Gz, dz)] : List LE)) := (Sp.cells (w := w) (ex := noEx) (g := g4) (xs := lc ([(gz, Gz, dz), (lq1, Aq1, (cXu5 - 0)), (gz, Gz, dz)] : List LE)) (n := 3) (size := 1) (by rfl)).mono (by rw [hIT]; exact (List.Sublist.cons_cons _ (List.nil_sublist _)))
 have E0 : ∀ x ∈ ([(gz, Gz, dz), (lq1, Aq1, (cXu5 - 0)), (gz, Gz, dz)] : List LE), x.1.length ≤ 20 ∧ ∃ b o, Sp w noEx IT x.2.1 x.1.length 1 b o (ic x.1) := by
   intro x hx
   simp only [List.mem_cons, List.not_mem_nil, or_false] at hx
   rcases hx with rfl | rfl | rfl
   · exact ⟨by first | omega | (dsimp only; omega) | (simp only [skA, skP, List.length_append, List.length_replicate]; omega), _, _, SGz.mono (by rw [hIT]; exact List.nil_sublist _)⟩
   · exact ⟨by first | omega | (dsimp only; omega) | (simp only [skA, skP, List.length_append, List.length_replicate]; omega), _, _, SAq1.mono (by rw [hIT]; exact (.cons _ (.cons _ (List.sublist_append_right _ _))))⟩
   · exact ⟨by first | omega | (dsimp only; omega) | (simp only [skA, skP, List.length_append, List.length_replicate]; omega), _, _, SGz.mono (by rw [hIT]; exact List.nil_sublist _)⟩
 obtain ⟨LL, hLL, SLL, ELL⟩ : ∃ LL : List LE, LL.length = 3 ∧ Sp w noEx IT (some ⟨g4, 0, none⟩) 3 1 g4 0 (lc LL) ∧ ∀ x ∈ LL, x.1.length ≤ 20 ∧ ∃ b o, Sp w noEx IT x.2.1 x.1.length 1 b o (ic x.1) := ⟨_, rfl, S0, E0⟩
 clear S0 E0
 replace M : Mem w noEx wc IT := by rw [hIT]; exact M
 clear hIT
 refine wp_loop_n (fun mz ac wc => ∃ (i : Nat), mz = 3 - i ∧ (i ≤ 3) ∧ Tm ac 148 [(2, .bool b2), (12, .slice (some ⟨g3, 0, none⟩) 3 3), (13, .slice (some ⟨g4, 0, none⟩) 3 3), (14, .int .i64 (i : Int))] ∧ Mem w noEx wc (IT)) ?_ ?_
 ·exact ⟨_, 0, rfl, (Nat.zero_le _), T.pick [3, 2, 1, 0] rfl, M⟩
 clear T M
 rintro mz ac wc ⟨i, hmm1, hi, T, M⟩
 refine wp_seq ?_
 refine wp_seq ?_
 refine wp_region_lit ?_
 refine lq T (rm9 rfl (T.ev 3 rfl)) ?_; clear T ac; intro ac T
 refine lq T (rm9 rfl (T.ev 2 rfl)) ?_; clear T ac; intro ac T
 refine lq (v := (.int .i64 3)) T (rn_lenS rfl Tryd.underlying42 (T.ev 0 rfl)) ?_; clear T ac; intro ac T
 refine lq T (rn_lss rfl (T.ev 2 rfl) (T.ev 0 rfl)) ?_; clear T ac; intro ac T
 refine wpList_nil ?_
 replace T := T.pick [0, 4, 5, 6, 7] rfl
 refine nt9 ?_
 refine wp_if (T.ev 0 rfl) ?_ ?_
 ·intro h3
  obtain ⟨⟨s9, A9, c9⟩, hk9⟩ : ∃ x, SS[i]? = some x := ⟨_, List.getElem?_eq_getElem (by omega)⟩
  obtain ⟨hf9, -, b9, o9, S9⟩ := ESS _ (List.mem_of_getElem? hk9)
  replace hf9 : s9.ps.length ≤ 20 := hf9
  replace S9 : Sp w noEx IT A9 s9.ps.length 4 b9 o9 (pc s9.ps) := S9
  obtain ⟨⟨g9, G9, d9⟩, hkg9⟩ : ∃ x, LL[i]? = some x := ⟨_, List.getElem?_eq_getElem (by omega)⟩
  obtain ⟨hgl9, bg9, og9, SG9⟩ := ELL _ (List.mem_of_getElem? hkg9)
  replace hgl9 : g9.length ≤ 20 := hgl9
  replace SG9 : Sp w noEx IT G9 g9.length 1 bg9 og9 (ic g9) := SG9
  have hpl9 : (planL s9 g9 b2).length ≤ 1000000 := planL_few hgl9
  refine wp_skip ?_
  refine nt9 ?_
  refine wp_seq ?_
  refine wp_block ?_
  refine wp_seq ?_
  refine g_start2 M (M.mask [] rfl) 13 (by kernel_rfl) rfl (by kernel_rfl) ?_
  clear M; intro wc M
  refine gq T 0 1 rfl (fun _ _ _ _ _ => (rm9 rfl (T.ev 2 rfl))) ?_; clear T ac; intro ac T
  refine gq T 1 3 rfl (fun _ _ _ _ _ => (rm9 rfl (T.ev 5 rfl))) ?_; clear T ac; intro ac T
  refine gq T 2 7 rfl (fun _ _ _ _ _ => (rn_indexAddr (size := 7) i rfl (T.ev 1 rfl) (T.ev 0 rfl) ⟨_, Tryd.underlying42, by kernel_rfl⟩ rfl (by omega) (SSS.at0 (by omega)))) ?_; clear T ac; intro ac T
  refine gq (v := (.agg #[.int .i64 s9.lo, .int .i64 s9.wi, .int .i64 s9.a0, .int .i64 s9.a1, .int .i64 s9.c0, .int .i64 s9.c1, .slice A9 s9.ps.length c9])) T 3 15 rfl (fun B w' hD hl hS => (rn_rowat (Sp.skR SSS (show Mem w noEx w' _ from hS) (List.Sublist.refl _) hk9) rfl (T.ev 0 rfl) rfl)) ?_; clear T ac; intro ac T
  refine gq T 5 47 rfl (fun _ _ _ _ _ => (rm9 rfl (T.ev 7 rfl))) ?_; clear T ac; intro ac T
  refine gq T 6 111 rfl (fun _ _ _ _ _ => (rm9 rfl (T.ev 9 rfl))) ?_; clear T ac; intro ac T
  refine gq T 7 239 rfl (fun _ _ _ _ _ => (rn_indexAddr (size := 1) i rfl (T.ev 1 rfl) (T.ev 0 rfl) ⟨_, Tryd.underlying43, by kernel_rfl⟩ rfl (by omega) (SLL.at0 (by omega)))) ?_; clear T ac; intro ac T
  refine gq (v := (.slice G9 g9.length d9)) T 8 495 rfl (fun B w' hD hl hS => (rn_cell (Sp.lc0 SLL (show Mem w noEx w' _ from hS) (List.Sublist.refl _) hkg9) rfl (T.ev 0 rfl))) ?_; clear T ac; intro ac T
  refine g_m2 (i := 4) (j := 10) (by kernel_rfl) ?_ ?_
  ·refine gi 511 ?_; intro K hK
   refine oc9 (first := []) (cap := []) T rfl rfl rfl rfl evf (.cons (T.ev 4 rfl) .nil) Tryd.func25 rfl rfl ?_
   refine Calls.mono (copySheet_any s9 A9 c9 _ (S9.rd M (List.Sublist.refl _)) (by omega)) ?_
   clear T
   rintro e wc ⟨ACur11_4, cCur11_4, ICur11_4, rfl, hclur11_4, N⟩
   intro ac T
   obtain ⟨bACur11_4, oACur11_4, SVCur11_4⟩ := hclur11_4.spV (pc_length _)
   have SACur11_4 := SVCur11_4 w noEx
   replace M := (M.join N).swapI
   clear N
   replace M : Mem w noEx wc ((IT ++ ICur11_4)) := M
   have hcpCur11_4 := hclur11_4.capLe M (List.sublist_append_right _ _)
   refine so9 hK _ _ ((M.mask [] rfl).sub (List.sublist_append_left _ _)) ?_; clear hK K
   refine g_m2 (i := 9) (j := 10) (by kernel_rfl) ?_ ?_
   ·refine gi 1023 ?_; intro K hK
    refine oc9 (first := []) (cap := []) T rfl rfl rfl rfl evf (.cons (T.ev 1 rfl) .nil) Tryd.func26 rfl rfl ?_
    refine Calls.mono (ints8_any G9 d9 g9 _ (SG9.rd M (subL (List.Sublist.refl _))) (by omega)) ?_
    clear T
    rintro e wc ⟨AIur11_9, cIur11_9, IMur11_9, rfl, hclur11_9, N⟩
    intro ac T
    obtain ⟨bAIur11_9, oAIur11_9, SVIur11_9⟩ := hclur11_9.spV (by rw [ic_length]; omega)
    have SAIur11_9 := SVIur11_9 w noEx
    replace M := (M.join N).swapI
    clear N
    replace M : Mem w noEx wc ((IT ++ ICur11_4 ++ IMur11_9)) := M
    have hcpIur11_9 := hclur11_9.capLe M (List.sublist_append_right _ _)
    refine so9 hK _ _ ((M.mask [] rfl).sub (List.Sublist.trans (List.sublist_append_left _ _) (List.sublist_append_left _ _))) ?_; clear hK K
    refine gw 10 2047 ?_; intro K hK
    refine ow_al M T rfl rfl rfl rfl ?_; clear M T; intro gr11_10 wc ac M T
    refine so9 hK _ _ ((M.mask [false] rfl).sub (List.Sublist.trans (List.sublist_append_left _ _) (List.sublist_append_left _ _))) ?_; clear hK K
    refine gw 11 4095 ?_; intro K hK
    refine ow_stO M T rfl rfl (T.ev 0 rfl) (T.ev 2 rfl) rfl .head rfl (by simp) rfl (by kernel_rfl) ?_; clear M T; intro wc ac M T
    refine so9 hK _ _ ((M.mask [false] rfl).sub (List.Sublist.trans (List.sublist_append_left _ _) (List.sublist_append_left _ _))) ?_; clear hK K
    refine gq T 12 8191 rfl (fun _ _ _ _ _ => (ra9 rfl (T.ev 1 rfl))) ?_; clear T ac; intro ac T
    refine g_done (by kernel_rfl) ?_
    replace T := T.pick [0, 1, 13, 14, 15, 16] rfl
    refine nt9 ?_
    refine wp_seq ?_
    refine wp_region_lit ?_
    refine lq T (rn_rowO (Mem.nth M 0 rfl) rfl (T.ev 1 rfl) rfl) ?_; clear T ac; intro ac T
    refine lq T (rm9 rfl (T.ev 1 rfl)) ?_; clear T ac; intro ac T
    refine lq T (rm9 rfl (T.ev 4 rfl)) ?_; clear T ac; intro ac T
    refine l_w rfl ?_; intro K hK
    refine oc9 (first := []) (cap := []) T rfl rfl rfl rfl evf (.cons (T.ev 2 rfl) (.cons (T.ev 1 rfl) (.cons (T.ev 0 rfl) .nil))) Tryd.func33 rfl rfl ?_
    refine Calls.mono (Plan_any s9 ACur11_4 cCur11_4 AIur11_9 cIur11_9 g9 b2 _ (SACur11_4.rd M (.cons _ (subL (List.sublist_append_right _ _)))) (SAIur11_9.rd M (.cons _ (List.sublist_append_right _ _))) (by omega) (by omega) (by omega) (hT.mem M (fun h => h))) ?_
    clear T
    rintro e wc ⟨APu7, cPu7, IPu7, rfl, hcpPu7, SVPu7, N⟩
    intro ac T
    obtain ⟨bAPu7, oAPu7, SVPu7⟩ := SVPu7
    have SAPu7 := SVPu7 w noEx
    replace M := (M.join N).swapI
    clear N
    replace M : Mem w noEx wc ((gr11_10, .cells [.int .i64 s9.lo, .int .i64 s9.wi, .int .i64 s9.a0, .int .i64 s9.a1, .int .i64 s9.c0, .int .i64 s9.c1, .slice ACur11_4 s9.ps.length cCur11_4]) :: (IT ++ ICur11_4 ++ IMur11_9 ++ IPu7)) := M
    refine so9 hK _ _ ?_; clear hK K
    refine lq T (rm9 rfl (T.ev 0 rfl)) ?_; clear T ac; intro ac T
    refine lq T (rn_extract rfl (T.ev 0 rfl) rfl) ?_; clear T ac; intro ac T
    refine lq T (rn_extract rfl (T.ev 1 rfl) rfl) ?_; clear T ac; intro ac T
    refine lq T (ra9 rfl (T.ev 1 rfl)) ?_; clear T ac; intro ac T
    refine lq T (ra9 rfl (T.ev 1 rfl)) ?_; clear T ac; intro ac T
    refine wpList_nil ?_
    replace T := T.pick [0, 1, 9, 10, 11, 12, 13, 14] rfl
    refine nt9 ?_
    refine wp_seq ?_
    refine g_start2 M (M.mask [true] rfl) 15 (by kernel_rfl) rfl (by kernel_rfl) ?_
    clear M; intro wc M
    refine gq T 0 1 rfl (fun _ _ _ _ _ => (rm9 rfl (T.ev 5 rfl))) ?_; clear T ac; intro ac T
    refine gq T 1 3 rfl (fun _ _ _ _ _ => (rm9 rfl (T.ev 8 rfl))) ?_; clear T ac; intro ac T
    refine gq T 2 7 rfl (fun _ _ _ _ _ => (rn_indexAddr (size := 7) i rfl (T.ev 1 rfl) (T.ev 0 rfl) ⟨_, Tryd.underlying42, by kernel_rfl⟩ rfl (by omega) (SSS.at0 (by omega)))) ?_; clear T ac; intro ac T
    refine gq (v := (.agg #[.int .i64 s9.lo, .int .i64 s9.wi, .int .i64 s9.a0, .int .i64 s9.a1, .int .i64 s9.c0, .int .i64 s9.c1, .slice A9 s9.ps.length c9])) T 3 15 rfl (fun B w' hD hl hS => (rn_rowat (Sp.skR SSS (show Mem w noEx w' _ from hS) (.cons _ (subL (subL (subL (List.Sublist.refl _))))) hk9) rfl (T.ev 0 rfl) rfl)) ?_; clear T ac; intro ac T
    refine gq T 4 31 rfl (fun _ _ _ _ _ => (rm9 rfl (T.ev 10 rfl))) ?_; clear T ac; intro ac T
    refine gq T 5 63 rfl (fun _ _ _ _ _ => (rm9 rfl (T.ev 12 rfl))) ?_; clear T ac; intro ac T
    refine gq T 6 127 rfl (fun _ _ _ _ _ => (rn_indexAddr (size := 1) i rfl (T.ev 1 rfl) (T.ev 0 rfl) ⟨_, Tryd.underlying43, by kernel_rfl⟩ rfl (by omega) (SLL.at0 (by omega)))) ?_; clear T ac; intro ac T
    refine gq (v := (.slice G9 g9.length d9)) T 7 255 rfl (fun B w' hD hl hS => (rn_cell (Sp.lc0 SLL (show Mem w noEx w' _ from hS) (.cons _ (subL (subL (subL (List.Sublist.refl _))))) hkg9) rfl (T.ev 0 rfl))) ?_; clear T ac; intro ac T
    refine gq T 8 511 rfl (fun _ _ _ _ _ => (rm9 rfl (T.ev 12 rfl))) ?_; clear T ac; intro ac T
    refine gw 9 1023 ?_; intro K hK
    refine oc9 (first := []) (cap := []) T rfl rfl rfl rfl evf (.cons (T.ev 5 rfl) (.cons (T.ev 1 rfl) (.cons (T.ev 0 rfl) .nil))) Tryd.func22 rfl rfl ?_
    refine Calls.mono (Plan8_any s9 A9 c9 G9 d9 g9 b2 _ (S9.rd M (.cons _ (subL (subL (subL (List.Sublist.refl _)))))) (SG9.rd M (.cons _ (subL (subL (subL (List.Sublist.refl _)))))) (by omega) (by omega)) ?_
    clear T
    rintro e wc ⟨ARu8, cRu8, IRu8, rfl, hcpRu8, SVRu8, N⟩
    intro ac T
    obtain ⟨bARu8, oARu8, SVRu8⟩ := SVRu8
    have SARu8 := SVRu8 w noEx
    replace M := (M.join N).swapI
    clear N
    replace M : Mem w noEx wc ((gr11_10, .cells [.int .i64 s9.lo, .int .i64 s9.wi, .int .i64 s9.a0, .int .i64 s9.a1, .int .i64 s9.c0, .int .i64 s9.c1, .slice ACur11_4 s9.ps.length cCur11_4]) :: (IT ++ ICur11_4 ++ IMur11_9 ++ IPu7 ++ IRu8)) := M
    refine so9 hK _ _ ((M.mask [true] rfl).sub (List.Sublist.cons_cons _ (List.sublist_append_left _ _))) ?_; clear hK K
    refine gq T 10 2047 rfl (fun _ _ _ _ _ => (rm9 rfl (T.ev 0 rfl))) ?_; clear T ac; intro ac T
    refine gq T 11 4095 rfl (fun _ _ _ _ _ => (rn_extract rfl (T.ev 0 rfl) rfl)) ?_; clear T ac; intro ac T
    refine gq T 12 8191 rfl (fun _ _ _ _ _ => (rn_extract rfl (T.ev 1 rfl) rfl)) ?_; clear T ac; intro ac T
    refine gq T 13 16383 rfl (fun _ _ _ _ _ => (ra9 rfl (T.ev 1 rfl))) ?_; clear T ac; intro ac T
    refine gq T 14 32767 rfl (fun _ _ _ _ _ => (ra9 rfl (T.ev 1 rfl))) ?_; clear T ac; intro ac T
    refine g_done (by kernel_rfl) ?_
    replace T := T.pick [0, 1, 15, 16, 17, 18, 19, 20, 21, 22] rfl
    refine nt9 ?_
    refine wp_seq ?_
    refine wp_region_lit ?_
    refine lq T (rn_rowO (Mem.nth M 0 rfl) rfl (T.ev 5 rfl) rfl) ?_; clear T ac; intro ac T
    refine lq T (rm9 rfl (T.ev 5 rfl)) ?_; clear T ac; intro ac T
    refine l_w rfl ?_; intro K hK
    refine oc9 (first := []) (cap := []) T rfl rfl rfl rfl evf (.cons (T.ev 1 rfl) (.cons (T.ev 0 rfl) .nil)) Tryd.func46 rfl rfl ?_
    refine Calls.mono (Fits_any s9 ACur11_4 cCur11_4 AIur11_9 cIur11_9 g9 _ (SACur11_4.rd M (.cons _ (subL (subL (subL (List.sublist_append_right _ _)))))) (SAIur11_9.rd M (.cons _ (subL (subL (List.sublist_append_right _ _))))) (by omega) (by omega) (by omega) (hT.mem M (fun h => h))) ?_
    clear T
    rintro e wc ⟨rfl, hb⟩
    intro ac T
    replace M := M.call hb; clear hb
    refine so9 hK _ _ ?_; clear hK K
    refine lq T (rm9 rfl (T.ev 0 rfl)) ?_; clear T ac; intro ac T
    refine lq T (rn_extract rfl (T.ev 0 rfl) rfl) ?_; clear T ac; intro ac T
    refine lq T (rn_extract rfl (T.ev 1 rfl) rfl) ?_; clear T ac; intro ac T
    refine lq T (ra9 rfl (T.ev 1 rfl)) ?_; clear T ac; intro ac T
    refine lq T (ra9 rfl (T.ev 1 rfl)) ?_; clear T ac; intro ac T
    refine wpList_nil ?_
    replace T := T.pick [0, 1, 8, 9, 10, 11, 12, 13, 14, 15, 16, 17] rfl
    refine nt9 ?_
    refine wp_seq ?_
    refine g_start2 M (M.mask [true] rfl) 14 (by kernel_rfl) rfl (by kernel_rfl) ?_
    clear M; intro wc M
    refine gq T 0 1 rfl (fun _ _ _ _ _ => (rm9 rfl (T.ev 9 rfl))) ?_; clear T ac; intro ac T
    refine gq T 1 3 rfl (fun _ _ _ _ _ => (rm9 rfl (T.ev 12 rfl))) ?_; clear T ac; intro ac T
    refine gq T 2 7 rfl (fun _ _ _ _ _ => (rn_indexAddr (size := 7) i rfl (T.ev 1 rfl) (T.ev 0 rfl) ⟨_, Tryd.underlying42, by kernel_rfl⟩ rfl (by omega) (SSS.at0 (by omega)))) ?_; clear T ac; intro ac T
    refine gq (v := (.agg #[.int .i64 s9.lo, .int .i64 s9.wi, .int .i64 s9.a0, .int .i64 s9.a1, .int .i64 s9.c0, .int .i64 s9.c1, .slice A9 s9.ps.length c9])) T 3 15 rfl (fun B w' hD hl hS => (rn_rowat (Sp.skR SSS (show Mem w noEx w' _ from hS) (.cons _ (subL (subL (subL (subL (List.Sublist.refl _)))))) hk9) rfl (T.ev 0 rfl) rfl)) ?_; clear T ac; intro ac T
    refine gq T 4 31 rfl (fun _ _ _ _ _ => (rm9 rfl (T.ev 14 rfl))) ?_; clear T ac; intro ac T
    refine gq T 5 63 rfl (fun _ _ _ _ _ => (rm9 rfl (T.ev 16 rfl))) ?_; clear T ac; intro ac T
    refine gq T 6 127 rfl (fun _ _ _ _ _ => (rn_indexAddr (size := 1) i rfl (T.ev 1 rfl) (T.ev 0 rfl) ⟨_, Tryd.underlying43, by kernel_rfl⟩ rfl (by omega) (SLL.at0 (by omega)))) ?_; clear T ac; intro ac T
    refine gq (v := (.slice G9 g9.length d9)) T 7 255 rfl (fun B w' hD hl hS => (rn_cell (Sp.lc0 SLL (show Mem w noEx w' _ from hS) (.cons _ (subL (subL (subL (subL (List.Sublist.refl _)))))) hkg9) rfl (T.ev 0 rfl))) ?_; clear T ac; intro ac T
    refine gw 8 511 ?_; intro K hK
    refine oc9 (first := []) (cap := []) T rfl rfl rfl rfl evf (.cons (T.ev 4 rfl) (.cons (T.ev 0 rfl) .nil)) Tryd.func47 rfl rfl ?_
    refine Calls.mono (Fits8_any s9 A9 c9 G9 d9 g9 _ (S9.rd M (.cons _ (subL (subL (subL (subL (List.Sublist.refl _))))))) (SG9.rd M (.cons _ (subL (subL (subL (subL (List.Sublist.refl _))))))) (by omega) (by omega)) ?_
    clear T
    rintro e wc ⟨rfl, hb⟩
    intro ac T
    replace M := M.call hb; clear hb
    refine so9 hK _ _ (M.mask [true] rfl) ?_; clear hK K
    refine gq T 9 1023 rfl (fun _ _ _ _ _ => (rm9 rfl (T.ev 0 rfl))) ?_; clear T ac; intro ac T
    refine gq T 10 2047 rfl (fun _ _ _ _ _ => (rn_extract rfl (T.ev 0 rfl) rfl)) ?_; clear T ac; intro ac T
    refine gq T 11 4095 rfl (fun _ _ _ _ _ => (rn_extract rfl (T.ev 1 rfl) rfl)) ?_; clear T ac; intro ac T
    refine gq T 12 8191 rfl (fun _ _ _ _ _ => (ra9 rfl (T.ev 1 rfl))) ?_; clear T ac; intro ac T
    refine gq T 13 16383 rfl (fun _ _ _ _ _ => (ra9 rfl (T.ev 1 rfl))) ?_; clear T ac; intro ac T
    refine g_done (by kernel_rfl) ?_
    replace T := T.pick [0, 1, 14, 15, 16, 17, 18, 19, 20, 21, 22, 23, 24, 25] rfl
    refine nt9 ?_
    refine wp_seq ?_
    refine g_start2 M (M.mask [true] rfl) 37 (by kernel_rfl) rfl (by kernel_rfl) ?_
    clear M; intro wc M
    refine gq T 0 1 rfl (fun _ _ _ _ _ => (rm9 rfl (T.ev 6 rfl))) ?_; clear T ac; intro ac T
    refine gq T 1 3 rfl (fun _ _ _ _ _ => (rm9 rfl (T.ev 5 rfl))) ?_; clear T ac; intro ac T
    refine gq (v := (.bool false)) T 2 7 rfl (fun _ _ _ _ _ => (rn_neqof (rn_neq rfl (T.ev 1 rfl) (T.ev 0 rfl)) (by simp))) ?_; clear T ac; intro ac T
    refine gq T 3 15 rfl (fun _ _ _ _ _ => (rm9 rfl (T.ev 0 rfl))) ?_; clear T ac; intro ac T
    refine g_q (T := T) (i := 4) rfl (by kernel_rfl) (by kernel_rfl : (pbits 37 15).setIfInBounds 4 true = pbits 37 31) si_U (fun _ _ _ h => h) (wy9 rfl rfl (T.ev 0 rfl) rfl) rfl rfl rfl (fun _ _ _ _ _ => (rm9 rfl (T.ev 7 rfl))) ?_; clear T ac; intro ac T
    refine g_q (T := T) (i := 5) rfl (by kernel_rfl) (by kernel_rfl : (pbits 37 31).setIfInBounds 5 true = pbits 37 63) si_U (fun _ _ _ h => h) (wy9 rfl rfl (T.ev 1 rfl) rfl) rfl rfl rfl (fun _ _ _ _ _ => (rm9 rfl (T.ev 6 rfl))) ?_; clear T ac; intro ac T
    refine g_q (v := (.bool false)) (T := T) (i := 6) rfl (by kernel_rfl) (by kernel_rfl : (pbits 37 63).setIfInBounds 6 true = pbits 37 127) si_U (fun _ _ _ h => h) (wy9 rfl rfl (T.ev 2 rfl) rfl) rfl rfl rfl (fun _ _ _ _ _ => (rn_neqof (rn_neq rfl (T.ev 1 rfl) (T.ev 0 rfl)) (by simp))) ?_; clear T ac; intro ac T
    refine gq T 7 255 rfl (fun _ _ _ _ _ => (rn_pick0 rfl (T.ev 3 rfl) rfl (T.ev 0 rfl))) ?_; clear T ac; intro ac T
    refine gq T 8 511 rfl (fun _ _ _ _ _ => (rm9 rfl (T.ev 0 rfl))) ?_; clear T ac; intro ac T
    refine g_q (T := T) (i := 9) rfl (by kernel_rfl) (by kernel_rfl : (pbits 37 511).setIfInBounds 9 true = pbits 37 1023) si_U (fun _ _ _ h => h) (wy9 rfl rfl (T.ev 0 rfl) rfl) rfl rfl rfl (fun _ _ _ _ _ => (rm9 rfl (T.ev 11 rfl))) ?_; clear T ac; intro ac T
    refine g_q (T := T) (i := 10) rfl (by kernel_rfl) (by kernel_rfl : (pbits 37 1023).setIfInBounds 10 true = pbits 37 2047) si_U (fun _ _ _ h => h) (wy9 rfl rfl (T.ev 1 rfl) rfl) rfl rfl rfl (fun _ _ _ _ _ => (rm9 rfl (T.ev 10 rfl))) ?_; clear T ac; intro ac T
    refine g_q (v := (.bool false)) (T := T) (i := 11) rfl (by kernel_rfl) (by kernel_rfl : (pbits 37 2047).setIfInBounds 11 true = pbits 37 4095) si_U (fun _ _ _ h => h) (wy9 rfl rfl (T.ev 2 rfl) rfl) rfl rfl rfl (fun _ _ _ _ _ => (rn_neqof (rn_neq rfl (T.ev 1 rfl) (T.ev 0 rfl)) (by simp))) ?_; clear T ac; intro ac T
    refine gq T 12 8191 rfl (fun _ _ _ _ _ => (rn_pick0 rfl (T.ev 3 rfl) rfl (T.ev 0 rfl))) ?_; clear T ac; intro ac T
    refine gq T 13 16383 rfl (fun _ _ _ _ _ => (rm9 rfl (T.ev 0 rfl))) ?_; clear T ac; intro ac T
    refine g_q (T := T) (i := 14) rfl (by kernel_rfl) (by kernel_rfl : (pbits 37 16383).setIfInBounds 14 true = pbits 37 32767) si_U (fun _ _ _ h => h) (wy9 rfl rfl (T.ev 0 rfl) rfl) rfl rfl rfl (fun _ _ _ _ _ => (rm9 rfl (T.ev 21 rfl))) ?_; clear T ac; intro ac T
    refine g_q (T := T) (i := 15) rfl (by kernel_rfl) (by kernel_rfl : (pbits 37 32767).setIfInBounds 15 true = pbits 37 65535) si_U (fun _ _ _ h => h) (wy9 rfl rfl (T.ev 1 rfl) rfl) rfl rfl rfl (fun _ _ _ _ _ => (rm9 rfl (T.ev 20 rfl))) ?_; clear T ac; intro ac T
    refine g_w (i := 16) (by kernel_rfl) rfl (by kernel_rfl : (pbits 37 65535).setIfInBounds 16 true = pbits 37 131071) (wy9 rfl rfl (T.ev 2 rfl) rfl) ?_; intro K hK
    refine oc9 (first := []) (cap := []) T rfl rfl rfl rfl evf (.cons (T.ev 1 rfl) (.cons (T.ev 0 rfl) .nil)) Tryd.func31 rfl rfl ?_
    refine Calls.mono (sameSpots_any APu7 cPu7 (planL s9 g9 b2) ARu8 cRu8 (planL s9 g9 b2) _ (SAPu7.rd M (.cons _ (subL (List.sublist_append_right _ _)))) (SARu8.rd M (.cons _ (List.sublist_append_right _ _))) (by omega) (by omega)) ?_
    clear T
    rintro e wc ⟨rfl, hb⟩
    intro ac T
    replace M := M.call hb; clear hb
    rw [decide_eq_true (@rfl (List Spt) (planL s9 g9 b2))] at T
    refine so9 hK _ _ (M.mask [true] rfl) ?_; clear hK K
    refine g_addU M ?_
    refine g_q (v := (.bool false)) (T := T) (i := 17) rfl (by kernel_rfl) (by kernel_rfl : (pbits 37 131071).setIfInBounds 17 true = pbits 37 262143) (si_and si_U si_U) (fun _ _ _ h => h) (wy9 rfl rfl (T.ev 3 rfl) rfl) rfl rfl rfl (fun _ _ _ _ _ => (rn_neqof (rn_not rfl (T.ev 0 rfl)) (by simp))) ?_; clear T ac; intro ac T
    refine gq T 18 524287 rfl (fun _ _ _ _ _ => (rn_pick0 rfl (T.ev 4 rfl) rfl (T.ev 0 rfl))) ?_; clear T ac; intro ac T
    refine gq T 19 1048575 rfl (fun _ _ _ _ _ => (rm9 rfl (T.ev 0 rfl))) ?_; clear T ac; intro ac T
    refine g_q (T := T) (i := 20) rfl (by kernel_rfl) (by kernel_rfl : (pbits 37 1048575).setIfInBounds 20 true = pbits 37 2097151) (si_and si_U si_U) (fun _ _ _ h => h) (wy9 rfl rfl (T.ev 0 rfl) rfl) rfl rfl rfl (fun B w' hD hl hS => (rn_rowO (Mem.nth (show Mem w noEx w' _ from (MA.lft hS)) 0 rfl) rfl (T.ev 29 rfl) rfl)) ?_; clear T ac; intro ac T
    refine g_q (T := T) (i := 21) rfl (by kernel_rfl) (by kernel_rfl : (pbits 37 2097151).setIfInBounds 21 true = pbits 37 4194303) (si_and si_U si_U) (fun _ _ _ h => h) (wy9 rfl rfl (T.ev 1 rfl) rfl) rfl rfl rfl (fun _ _ _ _ _ => (rm9 rfl (T.ev 32 rfl))) ?_; clear T ac; intro ac T
    refine g_q (T := T) (i := 22) rfl (by kernel_rfl) (by kernel_rfl : (pbits 37 4194303).setIfInBounds 22 true = pbits 37 8388607) (si_and si_U si_U) (fun _ _ _ h => h) (wy9 rfl rfl (T.ev 2 rfl) rfl) rfl rfl rfl (fun _ _ _ _ _ => (rm9 rfl (T.ev 35 rfl))) ?_; clear T ac; intro ac T
    refine g_q (T := T) (i := 23) rfl (by kernel_rfl) (by kernel_rfl : (pbits 37 8388607).setIfInBounds 23 true = pbits 37 16777215) (si_and si_U si_U) (fun _ _ _ h => h) (wy9 rfl rfl (T.ev 3 rfl) rfl) rfl rfl rfl (fun _ _ _ _ _ => (rn_indexAddr (size := 7) i rfl (T.ev 1 rfl) (T.ev 0 rfl) ⟨_, Tryd.underlying42, by kernel_rfl⟩ rfl (by omega) (SSS.at0 (by omega)))) ?_; clear T ac; intro ac T
    refine g_q (v := (.agg #[.int .i64 s9.lo, .int .i64 s9.wi, .int .i64 s9.a0, .int .i64 s9.a1, .int .i64 s9.c0, .int .i64 s9.c1, .slice A9 s9.ps.length c9])) (T := T) (i := 24) rfl (by kernel_rfl) (by kernel_rfl : (pbits 37 16777215).setIfInBounds 24 true = pbits 37 33554431) (si_and si_U si_U) (fun _ _ _ h => h) (wy9 rfl rfl (T.ev 4 rfl) rfl) rfl rfl rfl (fun B w' hD hl hS => (rn_rowat (Sp.skR SSS (show Mem w noEx w' _ from (MA.lft hS)) (.cons _ (subL (subL (subL (subL (List.Sublist.refl _)))))) hk9) rfl (T.ev 0 rfl) rfl)) ?_; clear T ac; intro ac T
    refine g_w (i := 25) (by kernel_rfl) rfl (by kernel_rfl : (pbits 37 33554431).setIfInBounds 25 true = pbits 37 67108863) (wy9 rfl rfl (T.ev 5 rfl) rfl) ?_; intro K hK
    refine oc9 (first := []) (cap := []) T rfl rfl rfl rfl evf (.cons (T.ev 4 rfl) (.cons (T.ev 0 rfl) .nil)) Tryd.func29 rfl rfl ?_
    refine Calls.mono (sameSheets_any s9 ACur11_4 cCur11_4 s9 A9 c9 _ (SACur11_4.rd M (.cons _ (subL (subL (subL (List.sublist_append_right _ _)))))) (S9.rd M (.cons _ (subL (subL (subL (subL (List.Sublist.refl _))))))) (by omega) (by omega)) ?_
    clear T
    rintro e wc ⟨rfl, hb⟩
    intro ac T
    replace M := M.call hb; clear hb
    rw [decide_eq_true (@rfl Sk s9)] at T
    refine so9 hK _ _ (MA.mk (M.mask [true] rfl) (M.mask [true] rfl)) ?_; clear hK K
    refine g_addU M ?_
    refine g_q (v := (.bool false)) (T := T) (i := 26) rfl (by kernel_rfl) (by kernel_rfl : (pbits 37 67108863).setIfInBounds 26 true = pbits 37 134217727) (si_and si_U (si_and si_U si_U)) (fun _ _ _ h => h) (wy9 rfl rfl (T.ev 6 rfl) rfl) rfl rfl rfl (fun _ _ _ _ _ => (rn_neqof (rn_not rfl (T.ev 0 rfl)) (by simp))) ?_; clear T ac; intro ac T
    refine gq T 27 268435455 rfl (fun _ _ _ _ _ => (rn_pick0 rfl (T.ev 7 rfl) rfl (T.ev 0 rfl))) ?_; clear T ac; intro ac T
    refine gq T 28 536870911 rfl (fun _ _ _ _ _ => (rm9 rfl (T.ev 0 rfl))) ?_; clear T ac; intro ac T
    refine g_q (T := T) (i := 29) rfl (by kernel_rfl) (by kernel_rfl : (pbits 37 536870911).setIfInBounds 29 true = pbits 37 1073741823) (si_and si_U (si_and si_U si_U)) (fun _ _ _ h => h) (wy9 rfl rfl (T.ev 0 rfl) rfl) rfl rfl rfl (fun _ _ _ _ _ => (rm9 rfl (T.ev 37 rfl))) ?_; clear T ac; intro ac T
    refine g_q (T := T) (i := 30) rfl (by kernel_rfl) (by kernel_rfl : (pbits 37 1073741823).setIfInBounds 30 true = pbits 37 2147483647) (si_and si_U (si_and si_U si_U)) (fun _ _ _ h => h) (wy9 rfl rfl (T.ev 1 rfl) rfl) rfl rfl rfl (fun _ _ _ _ _ => (rm9 rfl (T.ev 42 rfl))) ?_; clear T ac; intro ac T
    refine g_q (T := T) (i := 31) rfl (by kernel_rfl) (by kernel_rfl : (pbits 37 2147483647).setIfInBounds 31 true = pbits 37 4294967295) (si_and si_U (si_and si_U si_U)) (fun _ _ _ h => h) (wy9 rfl rfl (T.ev 2 rfl) rfl) rfl rfl rfl (fun _ _ _ _ _ => (rm9 rfl (T.ev 44 rfl))) ?_; clear T ac; intro ac T
    refine g_q (T := T) (i := 32) rfl (by kernel_rfl) (by kernel_rfl : (pbits 37 4294967295).setIfInBounds 32 true = pbits 37 8589934591) (si_and si_U (si_and si_U si_U)) (fun _ _ _ h => h) (wy9 rfl rfl (T.ev 3 rfl) rfl) rfl rfl rfl (fun _ _ _ _ _ => (rn_indexAddr (size := 1) i rfl (T.ev 1 rfl) (T.ev 0 rfl) ⟨_, Tryd.underlying43, by kernel_rfl⟩ rfl (by omega) (SLL.at0 (by omega)))) ?_; clear T ac; intro ac T
    refine g_q (v := (.slice G9 g9.length d9)) (T := T) (i := 33) rfl (by kernel_rfl) (by kernel_rfl : (pbits 37 8589934591).setIfInBounds 33 true = pbits 37 17179869183) (si_and si_U (si_and si_U si_U)) (fun _ _ _ h => h) (wy9 rfl rfl (T.ev 4 rfl) rfl) rfl rfl rfl (fun B w' hD hl hS => (rn_cell (Sp.lc0 SLL (show Mem w noEx w' _ from (MA.lft hS)) (.cons _ (subL (subL (subL (subL (List.Sublist.refl _)))))) hkg9) rfl (T.ev 0 rfl))) ?_; clear T ac; intro ac T
    refine g_w (i := 34) (by kernel_rfl) rfl (by kernel_rfl : (pbits 37 17179869183).setIfInBounds 34 true = pbits 37 34359738367) (wy9 rfl rfl (T.ev 5 rfl) rfl) ?_; intro K hK
    refine oc9 (first := []) (cap := []) T rfl rfl rfl rfl evf (.cons (T.ev 4 rfl) (.cons (T.ev 0 rfl) .nil)) Tryd.func30 rfl rfl ?_
    refine Calls.mono (sameInts_any _ _ _ _ _ _ g9 g9 _ (SAIur11_9.rd M (.cons _ (subL (subL (List.sublist_append_right _ _))))) (SG9.rd M (.cons _ (subL (subL (subL (subL (List.Sublist.refl _))))))) (by omega) (by omega)) ?_
    clear T
    rintro e wc ⟨rfl, hb⟩
    intro ac T
    replace M := M.call hb; clear hb
    rw [decide_eq_true (@rfl (List Int) g9)] at T
    refine so9 hK _ _ (MA.mk (M.mask [true] rfl) (MA.mk (M.mask [true] rfl) (M.mask [true] rfl))) ?_; clear hK K
    refine g_q (v := (.bool false)) (T := T) (i := 35) rfl (by kernel_rfl) (by kernel_rfl : (pbits 37 34359738367).setIfInBounds 35 true = pbits 37 68719476735) (si_and si_U (si_and si_U si_U)) (fun _ _ _ h => h) (wy9 rfl rfl (T.ev 6 rfl) rfl) rfl rfl rfl (fun _ _ _ _ _ => (rn_neqof (rn_not rfl (T.ev 0 rfl)) (by simp))) ?_; clear T ac; intro ac T
    refine gq T 36 137438953471 rfl (fun _ _ _ _ _ => (rn_pick0 rfl (T.ev 7 rfl) rfl (T.ev 0 rfl))) ?_; clear T ac; intro ac T
    refine g_done (by kernel_rfl) ?_
    replace T := T.pick [0, 1, 2, 3, 4, 5, 6, 7, 10, 11, 12, 13, 14, 15, 16, 19, 20, 21, 22, 25, 26, 27, 30, 31, 32, 47, 48, 49, 50] rfl
    replace M := M.mask [false] rfl
    replace M : Mem w noEx wc ((IT ++ ICur11_4 ++ IMur11_9 ++ IPu7 ++ IRu8)) := M
    refine nt9 ?_
    refine wp_cond_false (T.ev 0 rfl) ?_
    refine wp_skip ?_
    refine nm_blk ?_
    refine nt9 ?_
    refine wp_region_lit ?_
    refine lq T (rm9 rfl (T.ev 28 rfl)) ?_; clear T ac; intro ac T
    refine lq T (rn_add rfl (T.ev 0 rfl) evc (by omega)) ?_; clear T ac; intro ac T
    refine l_q (v := (.int .i64 ((i : Int) + 1))) (T.pick [0, 1, 2, 3, 4, 5, 6, 7, 8, 9, 10, 11, 12, 13, 14, 15, 16, 17, 18, 19, 20, 21, 22, 23, 24, 25, 26, 27, 28, 29] rfl) rfl rfl rfl rfl (ra9 rfl (T.ev 0 rfl)) ?_; clear T ac; intro ac T
    refine wpList_nil ?_
    replace T := T.pick [0, 4, 5, 6, 7, 8, 9, 10, 11, 12, 13, 14, 15, 16, 17, 18, 19, 20, 21, 22, 23, 24, 25, 26, 27, 28, 29, 30] rfl
    refine nt9 ?_
    exact ⟨_, by omega, i + 1, rfl, (by omega), T.pick [25, 26, 27, 0] rfl, (M.sub (subL (subL (subL (subL (List.Sublist.refl _))))))⟩
   refine gi 1535 ?_; intro K hK
   refine ow_al M T rfl rfl rfl rfl ?_; clear M T; intro gr11_10 wc ac M T
   refine so9 hK _ _ ((M.mask [false] rfl).sub (List.sublist_append_left _ _)) ?_; clear hK K
   refine gw 9 2047 ?_; intro K hK
   refine oc9 (first := []) (cap := []) T rfl rfl rfl rfl evf (.cons (T.ev 2 rfl) .nil) Tryd.func26 rfl rfl ?_
   refine Calls.mono (ints8_any G9 d9 g9 _ (SG9.rd M (.cons _ (subL (List.Sublist.refl _)))) (by omega)) ?_
   clear T
   rintro e wc ⟨AIur11_9, cIur11_9, IMur11_9, rfl, hclur11_9, N⟩
   intro ac T
   obtain ⟨bAIur11_9, oAIur11_9, SVIur11_9⟩ := hclur11_9.spV (by rw [ic_length]; omega)
   have SAIur11_9 := SVIur11_9 w noEx
   replace M := (M.join N).swapI
   clear N
   replace M : Mem w noEx wc ((gr11_10, .cells [.int .i64 0, .int .i64 0, .int .i64 0, .int .i64 0, .int .i64 0, .int .i64 0, .slice none 0 0]) :: (IT ++ ICur11_4 ++ IMur11_9)) := M
   have hcpIur11_9 := hclur11_9.capLe M (.cons _ (List.sublist_append_right _ _))
   refine so9 hK _ _ ((M.mask [false] rfl).sub (List.Sublist.trans (List.sublist_append_left _ _) (List.sublist_append_left _ _))) ?_; clear hK K
   refine gw 11 4095 ?_; intro K hK
   refine ow_stO M T rfl rfl (T.ev 1 rfl) (T.ev 2 rfl) rfl .head rfl (by simp) rfl (by kernel_rfl) ?_; clear M T; intro wc ac M T
   refine so9 hK _ _ ((M.mask [false] rfl).sub (List.Sublist.trans (List.sublist_append_left _ _) (List.sublist_append_left _ _))) ?_; clear hK K
   refine gq T 12 8191 rfl (fun _ _ _ _ _ => (ra9 rfl (T.ev 0 rfl))) ?_; clear T ac; intro ac T
   refine g_done (by kernel_rfl) ?_
   replace T := T.pick [0, 2, 13, 14, 15, 16] rfl
   refine nt9 ?_
   refine wp_seq ?_
   refine wp_region_lit ?_
   refine lq T (rn_rowO (Mem.nth M 0 rfl) rfl (T.ev 1 rfl) rfl) ?_; clear T ac; intro ac T
   refine lq T (rm9 rfl (T.ev 1 rfl)) ?_; clear T ac; intro ac T
   refine lq T (rm9 rfl (T.ev 4 rfl)) ?_; clear T ac; intro ac T
   refine l_w rfl ?_; intro K hK
   refine oc9 (first := []) (cap := []) T rfl rfl rfl rfl evf (.cons (T.ev 2 rfl) (.cons (T.ev 1 rfl) (.cons (T.ev 0 rfl) .nil))) Tryd.func33 rfl rfl ?_
   refine Calls.mono (Plan_any s9 ACur11_4 cCur11_4 AIur11_9 cIur11_9 g9 b2 _ (SACur11_4.rd M (.cons _ (subL (List.sublist_append_right _ _)))) (SAIur11_9.rd M (.cons _ (List.sublist_append_right _ _))) (by omega) (by omega) (by omega) (hT.mem M (fun h => h))) ?_
   clear T
   rintro e wc ⟨APu14, cPu14, IPu14, rfl, hcpPu14, SVPu14, N⟩
   intro ac T
   obtain ⟨bAPu14, oAPu14, SVPu14⟩ := SVPu14
   have SAPu14 := SVPu14 w noEx
   replace M := (M.join N).swapI
   clear N
   replace M : Mem w noEx wc ((gr11_10, .cells [.int .i64 s9.lo, .int .i64 s9.wi, .int .i64 s9.a0, .int .i64 s9.a1, .int .i64 s9.c0, .int .i64 s9.c1, .slice ACur11_4 s9.ps.length cCur11_4]) :: (IT ++ ICur11_4 ++ IMur11_9 ++ IPu14)) := M
   refine so9 hK _ _ ?_; clear hK K
   refine lq T (rm9 rfl (T.ev 0 rfl)) ?_; clear T ac; intro ac T
   refine lq T (rn_extract rfl (T.ev 0 rfl) rfl) ?_; clear T ac; intro ac T
   refine lq T (rn_extract rfl (T.ev 1 rfl) rfl) ?_; clear T ac; intro ac T
   refine lq T (ra9 rfl (T.ev 1 rfl)) ?_; clear T ac; intro ac T
   refine lq T (ra9 rfl (T.ev 1 rfl)) ?_; clear T ac; intro ac T
   refine wpList_nil ?_
   replace T := T.pick [0, 1, 9, 10, 11, 12, 13, 14] rfl
   refine nt9 ?_
   refine wp_seq ?_
   refine g_start2 M (M.mask [true] rfl) 15 (by kernel_rfl) rfl (by kernel_rfl) ?_
   clear M; intro wc M
   refine gq T 0 1 rfl (fun _ _ _ _ _ => (rm9 rfl (T.ev 5 rfl))) ?_; clear T ac; intro ac T
   refine gq T 1 3 rfl (fun _ _ _ _ _ => (rm9 rfl (T.ev 8 rfl))) ?_; clear T ac; intro ac T
   refine gq T 2 7 rfl (fun _ _ _ _ _ => (rn_indexAddr (size := 7) i rfl (T.ev 1 rfl) (T.ev 0 rfl) ⟨_, Tryd.underlying42, by kernel_rfl⟩ rfl (by omega) (SSS.at0 (by omega)))) ?_; clear T ac; intro ac T
   refine gq (v := (.agg #[.int .i64 s9.lo, .int .i64 s9.wi, .int .i64 s9.a0, .int .i64 s9.a1, .int .i64 s9.c0, .int .i64 s9.c1, .slice A9 s9.ps.length c9])) T 3 15 rfl (fun B w' hD hl hS => (rn_rowat (Sp.skR SSS (show Mem w noEx w' _ from hS) (.cons _ (subL (subL (subL (List.Sublist.refl _))))) hk9) rfl (T.ev 0 rfl) rfl)) ?_; clear T ac; intro ac T
   refine gq T 4 31 rfl (fun _ _ _ _ _ => (rm9 rfl (T.ev 10 rfl))) ?_; clear T ac; intro ac T
   refine gq T 5 63 rfl (fun _ _ _ _ _ => (rm9 rfl (T.ev 12 rfl))) ?_; clear T ac; intro ac T
   refine gq T 6 127 rfl (fun _ _ _ _ _ => (rn_indexAddr (size := 1) i rfl (T.ev 1 rfl) (T.ev 0 rfl) ⟨_, Tryd.underlying43, by kernel_rfl⟩ rfl (by omega) (SLL.at0 (by omega)))) ?_; clear T ac; intro ac T
   refine gq (v := (.slice G9 g9.length d9)) T 7 255 rfl (fun B w' hD hl hS => (rn_cell (Sp.lc0 SLL (show Mem w noEx w' _ from hS) (.cons _ (subL (subL (subL (List.Sublist.refl _))))) hkg9) rfl (T.ev 0 rfl))) ?_; clear T ac; intro ac T
   refine gq T 8 511 rfl (fun _ _ _ _ _ => (rm9 rfl (T.ev 12 rfl))) ?_; clear T ac; intro ac T
   refine gw 9 1023 ?_; intro K hK
   refine oc9 (first := []) (cap := []) T rfl rfl rfl rfl evf (.cons (T.ev 5 rfl) (.cons (T.ev 1 rfl) (.cons (T.ev 0 rfl) .nil))) Tryd.func22 rfl rfl ?_
   refine Calls.mono (Plan8_any s9 A9 c9 G9 d9 g9 b2 _ (S9.rd M (.cons _ (subL (subL (subL (List.Sublist.refl _)))))) (SG9.rd M (.cons _ (subL (subL (subL (List.Sublist.refl _)))))) (by omega) (by omega)) ?_
   clear T
   rintro e wc ⟨ARu15, cRu15, IRu15, rfl, hcpRu15, SVRu15, N⟩
   intro ac T
   obtain ⟨bARu15, oARu15, SVRu15⟩ := SVRu15
   have SARu15 := SVRu15 w noEx
   replace M := (M.join N).swapI
   clear N
   replace M : Mem w noEx wc ((gr11_10, .cells [.int .i64 s9.lo, .int .i64 s9.wi, .int .i64 s9.a0, .int .i64 s9.a1, .int .i64 s9.c0, .int .i64 s9.c1, .slice ACur11_4 s9.ps.length cCur11_4]) :: (IT ++ ICur11_4 ++ IMur11_9 ++ IPu14 ++ IRu15)) := M
   refine so9 hK _ _ ((M.mask [true] rfl).sub (List.Sublist.cons_cons _ (List.sublist_append_left _ _))) ?_; clear hK K
   refine gq T 10 2047 rfl (fun _ _ _ _ _ => (rm9 rfl (T.ev 0 rfl))) ?_; clear T ac; intro ac T
   refine gq T 11 4095 rfl (fun _ _ _ _ _ => (rn_extract rfl (T.ev 0 rfl) rfl)) ?_; clear T ac; intro ac T
   refine gq T 12 8191 rfl (fun _ _ _ _ _ => (rn_extract rfl (T.ev 1 rfl) rfl)) ?_; clear T ac; intro ac T
   refine gq T 13 16383 rfl (fun _ _ _ _ _ => (ra9 rfl (T.ev 1 rfl))) ?_; clear T ac; intro ac T
   refine gq T 14 32767 rfl (fun _ _ _ _ _ => (ra9 rfl (T.ev 1 rfl))) ?_; clear T ac; intro ac T
   refine g_done (by kernel_rfl) ?_
   replace T := T.pick [0, 1, 15, 16, 17, 18, 19, 20, 21, 22] rfl
   refine nt9 ?_
   refine wp_seq ?_
   refine wp_region_lit ?_
   refine lq T (rn_rowO (Mem.nth M 0 rfl) rfl (T.ev 5 rfl) rfl) ?_; clear T ac; intro ac T
   refine lq T (rm9 rfl (T.ev 5 rfl)) ?_; clear T ac; intro ac T
   refine l_w rfl ?_; intro K hK
   refine oc9 (first := []) (cap := []) T rfl rfl rfl rfl evf (.cons (T.ev 1 rfl) (.cons (T.ev 0 rfl) .nil)) Tryd.func46 rfl rfl ?_
   refine Calls.mono (Fits_any s9 ACur11_4 cCur11_4 AIur11_9 cIur11_9 g9 _ (SACur11_4.rd M (.cons _ (subL (subL (subL (List.sublist_append_right _ _)))))) (SAIur11_9.rd M (.cons _ (subL (subL (List.sublist_append_right _ _))))) (by omega) (by omega) (by omega) (hT.mem M (fun h => h))) ?_
   clear T
   rintro e wc ⟨rfl, hb⟩
   intro ac T
   replace M := M.call hb; clear hb
   refine so9 hK _ _ ?_; clear hK K
   refine lq T (rm9 rfl (T.ev 0 rfl)) ?_; clear T ac; intro ac T
   refine lq T (rn_extract rfl (T.ev 0 rfl) rfl) ?_; clear T ac; intro ac T
   refine lq T (rn_extract rfl (T.ev 1 rfl) rfl) ?_; clear T ac; intro ac T
   refine lq T (ra9 rfl (T.ev 1 rfl)) ?_; clear T ac; intro ac T
   refine lq T (ra9 rfl (T.ev 1 rfl)) ?_; clear T ac; intro ac T
   refine wpList_nil ?_
   replace T := T.pick [0, 1, 8, 9, 10, 11, 12, 13, 14, 15, 16, 17] rfl
   refine nt9 ?_
   refine wp_seq ?_
   refine g_start2 M (M.mask [true] rfl) 14 (by kernel_rfl) rfl (by kernel_rfl) ?_
   clear M; intro wc M
   refine gq T 0 1 rfl (fun _ _ _ _ _ => (rm9 rfl (T.ev 9 rfl))) ?_; clear T ac; intro ac T
   refine gq T 1 3 rfl (fun _ _ _ _ _ => (rm9 rfl (T.ev 12 rfl))) ?_; clear T ac; intro ac T
   refine gq T 2 7 rfl (fun _ _ _ _ _ => (rn_indexAddr (size := 7) i rfl (T.ev 1 rfl) (T.ev 0 rfl) ⟨_, Tryd.underlying42, by kernel_rfl⟩ rfl (by omega) (SSS.at0 (by omega)))) ?_; clear T ac; intro ac T
   refine gq (v := (.agg #[.int .i64 s9.lo, .int .i64 s9.wi, .int .i64 s9.a0, .int .i64 s9.a1, .int .i64 s9.c0, .int .i64 s9.c1, .slice A9 s9.ps.length c9])) T 3 15 rfl (fun B w' hD hl hS => (rn_rowat (Sp.skR SSS (show Mem w noEx w' _ from hS) (.cons _ (subL (subL (subL (subL (List.Sublist.refl _)))))) hk9) rfl (T.ev 0 rfl) rfl)) ?_; clear T ac; intro ac T
   refine gq T 4 31 rfl (fun _ _ _ _ _ => (rm9 rfl (T.ev 14 rfl))) ?_; clear T ac; intro ac T
   refine gq T 5 63 rfl (fun _ _ _ _ _ => (rm9 rfl (T.ev 16 rfl))) ?_; clear T ac; intro ac T
   refine gq T 6 127 rfl (fun _ _ _ _ _ => (rn_indexAddr (size := 1) i rfl (T.ev 1 rfl) (T.ev 0 rfl) ⟨_, Tryd.underlying43, by kernel_rfl⟩ rfl (by omega) (SLL.at0 (by omega)))) ?_; clear T ac; intro ac T
   refine gq (v := (.slice G9 g9.length d9)) T 7 255 rfl (fun B w' hD hl hS => (rn_cell (Sp.lc0 SLL (show Mem w noEx w' _ from hS) (.cons _ (subL (subL (subL (subL (List.Sublist.refl _)))))) hkg9) rfl (T.ev 0 rfl))) ?_; clear T ac; intro ac T
   refine gw 8 511 ?_; intro K hK
   refine oc9 (first := []) (cap := []) T rfl rfl rfl rfl evf (.cons (T.ev 4 rfl) (.cons (T.ev 0 rfl) .nil)) Tryd.func47 rfl rfl ?_
   refine Calls.mono (Fits8_any s9 A9 c9 G9 d9 g9 _ (S9.rd M (.cons _ (subL (subL (subL (subL (List.Sublist.refl _))))))) (SG9.rd M (.cons _ (subL (subL (subL (subL (List.Sublist.refl _))))))) (by omega) (by omega)) ?_
   clear T
   rintro e wc ⟨rfl, hb⟩
   intro ac T
   replace M := M.call hb; clear hb
   refine so9 hK _ _ (M.mask [true] rfl) ?_; clear hK K
   refine gq T 9 1023 rfl (fun _ _ _ _ _ => (rm9 rfl (T.ev 0 rfl))) ?_; clear T ac; intro ac T
   refine gq T 10 2047 rfl (fun _ _ _ _ _ => (rn_extract rfl (T.ev 0 rfl) rfl)) ?_; clear T ac; intro ac T
   refine gq T 11 4095 rfl (fun _ _ _ _ _ => (rn_extract rfl (T.ev 1 rfl) rfl)) ?_; clear T ac; intro ac T
   refine gq T 12 8191 rfl (fun _ _ _ _ _ => (ra9 rfl (T.ev 1 rfl))) ?_; clear T ac; intro ac T
   refine gq T 13 16383 rfl (fun _ _ _ _ _ => (ra9 rfl (T.ev 1 rfl))) ?_; clear T ac; intro ac T
   refine g_done (by kernel_rfl) ?_
   replace T := T.pick [0, 1, 14, 15, 16, 17, 18, 19, 20, 21, 22, 23, 24, 25] rfl
   refine nt9 ?_
   refine wp_seq ?_
   refine g_start2 M (M.mask [true] rfl) 37 (by kernel_rfl) rfl (by kernel_rfl) ?_
   clear M; intro wc M
   refine gq T 0 1 rfl (fun _ _ _ _ _ => (rm9 rfl (T.ev 6 rfl))) ?_; clear T ac; intro ac T
   refine gq T 1 3 rfl (fun _ _ _ _ _ => (rm9 rfl (T.ev 5 rfl))) ?_; clear T ac; intro ac T
   refine gq (v := (.bool false)) T 2 7 rfl (fun _ _ _ _ _ => (rn_neqof (rn_neq rfl (T.ev 1 rfl) (T.ev 0 rfl)) (by simp))) ?_; clear T ac; intro ac T
   refine gq T 3 15 rfl (fun _ _ _ _ _ => (rm9 rfl (T.ev 0 rfl))) ?_; clear T ac; intro ac T
   refine g_q (T := T) (i := 4) rfl (by kernel_rfl) (by kernel_rfl : (pbits 37 15).setIfInBounds 4 true = pbits 37 31) si_U (fun _ _ _ h => h) (wy9 rfl rfl (T.ev 0 rfl) rfl) rfl rfl rfl (fun _ _ _ _ _ => (rm9 rfl (T.ev 7 rfl))) ?_; clear T ac; intro ac T
   refine g_q (T := T) (i := 5) rfl (by kernel_rfl) (by kernel_rfl : (pbits 37 31).setIfInBounds 5 true = pbits 37 63) si_U (fun _ _ _ h => h) (wy9 rfl rfl (T.ev 1 rfl) rfl) rfl rfl rfl (fun _ _ _ _ _ => (rm9 rfl (T.ev 6 rfl))) ?_; clear T ac; intro ac T
   refine g_q (v := (.bool false)) (T := T) (i := 6) rfl (by kernel_rfl) (by kernel_rfl : (pbits 37 63).setIfInBounds 6 true = pbits 37 127) si_U (fun _ _ _ h => h) (wy9 rfl rfl (T.ev 2 rfl) rfl) rfl rfl rfl (fun _ _ _ _ _ => (rn_neqof (rn_neq rfl (T.ev 1 rfl) (T.ev 0 rfl)) (by simp))) ?_; clear T ac; intro ac T
   refine gq T 7 255 rfl (fun _ _ _ _ _ => (rn_pick0 rfl (T.ev 3 rfl) rfl (T.ev 0 rfl))) ?_; clear T ac; intro ac T
   refine gq T 8 511 rfl (fun _ _ _ _ _ => (rm9 rfl (T.ev 0 rfl))) ?_; clear T ac; intro ac T
   refine g_q (T := T) (i := 9) rfl (by kernel_rfl) (by kernel_rfl : (pbits 37 511).setIfInBounds 9 true = pbits 37 1023) si_U (fun _ _ _ h => h) (wy9 rfl rfl (T.ev 0 rfl) rfl) rfl rfl rfl (fun _ _ _ _ _ => (rm9 rfl (T.ev 11 rfl))) ?_; clear T ac; intro ac T
   refine g_q (T := T) (i := 10) rfl (by kernel_rfl) (by kernel_rfl : (pbits 37 1023).setIfInBounds 10 true = pbits 37 2047) si_U (fun _ _ _ h => h) (wy9 rfl rfl (T.ev 1 rfl) rfl) rfl rfl rfl (fun _ _ _ _ _ => (rm9 rfl (T.ev 10 rfl))) ?_; clear T ac; intro ac T
   refine g_q (v := (.bool false)) (T := T) (i := 11) rfl (by kernel_rfl) (by kernel_rfl : (pbits 37 2047).setIfInBounds 11 true = pbits 37 4095) si_U (fun _ _ _ h => h) (wy9 rfl rfl (T.ev 2 rfl) rfl) rfl rfl rfl (fun _ _ _ _ _ => (rn_neqof (rn_neq rfl (T.ev 1 rfl) (T.ev 0 rfl)) (by simp))) ?_; clear T ac; intro ac T
   refine gq T 12 8191 rfl (fun _ _ _ _ _ => (rn_pick0 rfl (T.ev 3 rfl) rfl (T.ev 0 rfl))) ?_; clear T ac; intro ac T
   refine gq T 13 16383 rfl (fun _ _ _ _ _ => (rm9 rfl (T.ev 0 rfl))) ?_; clear T ac; intro ac T
   refine g_q (T := T) (i := 14) rfl (by kernel_rfl) (by kernel_rfl : (pbits 37 16383).setIfInBounds 14 true = pbits 37 32767) si_U (fun _ _ _ h => h) (wy9 rfl rfl (T.ev 0 rfl) rfl) rfl rfl rfl (fun _ _ _ _ _ => (rm9 rfl (T.ev 21 rfl))) ?_; clear T ac; intro ac T
   refine g_q (T := T) (i := 15) rfl (by kernel_rfl) (by kernel_rfl : (pbits 37 32767).setIfInBounds 15 true = pbits 37 65535) si_U (fun _ _ _ h => h) (wy9 rfl rfl (T.ev 1 rfl) rfl) rfl rfl rfl (fun _ _ _ _ _ => (rm9 rfl (T.ev 20 rfl))) ?_; clear T ac; intro ac T
   refine g_w (i := 16) (by kernel_rfl) rfl (by kernel_rfl : (pbits 37 65535).setIfInBounds 16 true = pbits 37 131071) (wy9 rfl rfl (T.ev 2 rfl) rfl) ?_; intro K hK
   refine oc9 (first := []) (cap := []) T rfl rfl rfl rfl evf (.cons (T.ev 1 rfl) (.cons (T.ev 0 rfl) .nil)) Tryd.func31 rfl rfl ?_
   refine Calls.mono (sameSpots_any APu14 cPu14 (planL s9 g9 b2) ARu15 cRu15 (planL s9 g9 b2) _ (SAPu14.rd M (.cons _ (subL (List.sublist_append_right _ _)))) (SARu15.rd M (.cons _ (List.sublist_append_right _ _))) (by omega) (by omega)) ?_
   clear T
   rintro e wc ⟨rfl, hb⟩
   intro ac T
   replace M := M.call hb; clear hb
   rw [decide_eq_true (@rfl (List Spt) (planL s9 g9 b2))] at T
   refine so9 hK _ _ (M.mask [true] rfl) ?_; clear hK K
   refine g_addU M ?_
   refine g_q (v := (.bool false)) (T := T) (i := 17) rfl (by kernel_rfl) (by kernel_rfl : (pbits 37 131071).setIfInBounds 17 true = pbits 37 262143) (si_and si_U si_U) (fun _ _ _ h => h) (wy9 rfl rfl (T.ev 3 rfl) rfl) rfl rfl rfl (fun _ _ _ _ _ => (rn_neqof (rn_not rfl (T.ev 0 rfl)) (by simp))) ?_; clear T ac; intro ac T
   refine gq T 18 524287 rfl (fun _ _ _ _ _ => (rn_pick0 rfl (T.ev 4 rfl) rfl (T.ev 0 rfl))) ?_; clear T ac; intro ac T
   refine gq T 19 1048575 rfl (fun _ _ _ _ _ => (rm9 rfl (T.ev 0 rfl))) ?_; clear T ac; intro ac T
   refine g_q (T := T) (i := 20) rfl (by kernel_rfl) (by kernel_rfl : (pbits 37 1048575).setIfInBounds 20 true = pbits 37 2097151) (si_and si_U si_U) (fun _ _ _ h => h) (wy9 rfl rfl (T.ev 0 rfl) rfl) rfl rfl rfl (fun B w' hD hl hS => (rn_rowO (Mem.nth (show Mem w noEx w' _ from (MA.lft hS)) 0 rfl) rfl (T.ev 29 rfl) rfl)) ?_; clear T ac; intro ac T
   refine g_q (T := T) (i := 21) rfl (by kernel_rfl) (by kernel_rfl : (pbits 37 2097151).setIfInBounds 21 true = pbits 37 4194303) (si_and si_U si_U) (fun _ _ _ h => h) (wy9 rfl rfl (T.ev 1 rfl) rfl) rfl rfl rfl (fun _ _ _ _ _ => (rm9 rfl (T.ev 32 rfl))) ?_; clear T ac; intro ac T
   refine g_q (T := T) (i := 22) rfl (by kernel_rfl) (by kernel_rfl : (pbits 37 4194303).setIfInBounds 22 true = pbits 37 8388607) (si_and si_U si_U) (fun _ _ _ h => h) (wy9 rfl rfl (T.ev 2 rfl) rfl) rfl rfl rfl (fun _ _ _ _ _ => (rm9 rfl (T.ev 35 rfl))) ?_; clear T ac; intro ac T
   refine g_q (T := T) (i := 23) rfl (by kernel_rfl) (by kernel_rfl : (pbits 37 8388607).setIfInBounds 23 true = pbits 37 16777215) (si_and si_U si_U) (fun _ _ _ h => h) (wy9 rfl rfl (T.ev 3 rfl) rfl) rfl rfl rfl (fun _ _ _ _ _ => (rn_indexAddr (size := 7) i rfl (T.ev 1 rfl) (T.ev 0 rfl) ⟨_, Tryd.underlying42, by kernel_rfl⟩ rfl (by omega) (SSS.at0 (by omega)))) ?_; clear T ac; intro ac T
   refine g_q (v := (.agg #[.int .i64 s9.lo, .int .i64 s9.wi, .int .i64 s9.a0, .int .i64 s9.a1, .int .i64 s9.c0, .int .i64 s9.c1, .slice A9 s9.ps.length c9])) (T := T) (i := 24) rfl (by kernel_rfl) (by kernel_rfl : (pbits 37 16777215).setIfInBounds 24 true = pbits 37 33554431) (si_and si_U si_U) (fun _ _ _ h => h) (wy9 rfl rfl (T.ev 4 rfl) rfl) rfl rfl rfl (fun B w' hD hl hS => (rn_rowat (Sp.skR SSS (show Mem w noEx w' _ from (MA.lft hS)) (.cons _ (subL (subL (subL (subL (List.Sublist.refl _)))))) hk9) rfl (T.ev 0 rfl) rfl)) ?_; clear T ac; intro ac T
   refine g_w (i := 25) (by kernel_rfl) rfl (by kernel_rfl : (pbits 37 33554431).setIfInBounds 25 true = pbits 37 67108863) (wy9 rfl rfl (T.ev 5 rfl) rfl) ?_; intro K hK
   refine oc9 (first := []) (cap := []) T rfl rfl rfl rfl evf (.cons (T.ev 4 rfl) (.cons (T.ev 0 rfl) .nil)) Tryd.func29 rfl rfl ?_
   refine Calls.mono (sameSheets_any s9 ACur11_4 cCur11_4 s9 A9 c9 _ (SACur11_4.rd M (.cons _ (subL (subL (subL (List.sublist_append_right _ _)))))) (S9.rd M (.cons _ (subL (subL (subL (subL (List.Sublist.refl _))))))) (by omega) (by omega)) ?_
   clear T
   rintro e wc ⟨rfl, hb⟩
   intro ac T
   replace M := M.call hb; clear hb
   rw [decide_eq_true (@rfl Sk s9)] at T
   refine so9 hK _ _ (MA.mk (M.mask [true] rfl) (M.mask [true] rfl)) ?_; clear hK K
   refine g_addU M ?_
   refine g_q (v := (.bool false)) (T := T) (i := 26) rfl (by kernel_rfl) (by kernel_rfl : (pbits 37 67108863).setIfInBounds 26 true = pbits 37 134217727) (si_and si_U (si_and si_U si_U)) (fun _ _ _ h => h) (wy9 rfl rfl (T.ev 6 rfl) rfl) rfl rfl rfl (fun _ _ _ _ _ => (rn_neqof (rn_not rfl (T.ev 0 rfl)) (by simp))) ?_; clear T ac; intro ac T
   refine gq T 27 268435455 rfl (fun _ _ _ _ _ => (rn_pick0 rfl (T.ev 7 rfl) rfl (T.ev 0 rfl))) ?_; clear T ac; intro ac T
   refine gq T 28 536870911 rfl (fun _ _ _ _ _ => (rm9 rfl (T.ev 0 rfl))) ?_; clear T ac; intro ac T
   refine g_q (T := T) (i := 29) rfl (by kernel_rfl) (by kernel_rfl : (pbits 37 536870911).setIfInBounds 29 true = pbits 37 1073741823) (si_and si_U (si_and si_U si_U)) (fun _ _ _ h => h) (wy9 rfl rfl (T.ev 0 rfl) rfl) rfl rfl rfl (fun _ _ _ _ _ => (rm9 rfl (T.ev 37 rfl))) ?_; clear T ac; intro ac T
   refine g_q (T := T) (i := 30) rfl (by kernel_rfl) (by kernel_rfl : (pbits 37 1073741823).setIfInBounds 30 true = pbits 37 2147483647) (si_and si_U (si_and si_U si_U)) (fun _ _ _ h => h) (wy9 rfl rfl (T.ev 1 rfl) rfl) rfl rfl rfl (fun _ _ _ _ _ => (rm9 rfl (T.ev 42 rfl))) ?_; clear T ac; intro ac T
   refine g_q (T := T) (i := 31) rfl (by kernel_rfl) (by kernel_rfl : (pbits 37 2147483647).setIfInBounds 31 true = pbits 37 4294967295) (si_and si_U (si_and si_U si_U)) (fun _ _ _ h => h) (wy9 rfl rfl (T.ev 2 rfl) rfl) rfl rfl rfl (fun _ _ _ _ _ => (rm9 rfl (T.ev 44 rfl))) ?_; clear T ac; intro ac T
   refine g_q (T := T) (i := 32) rfl (by kernel_rfl) (by kernel_rfl : (pbits 37 4294967295).setIfInBounds 32 true = pbits 37 8589934591) (si_and si_U (si_and si_U si_U)) (fun _ _ _ h => h) (wy9 rfl rfl (T.ev 3 rfl) rfl) rfl rfl rfl (fun _ _ _ _ _ => (rn_indexAddr (size := 1) i rfl (T.ev 1 rfl) (T.ev 0 rfl) ⟨_, Tryd.underlying43, by kernel_rfl⟩ rfl (by omega) (SLL.at0 (by omega)))) ?_; clear T ac; intro ac T
   refine g_q (v := (.slice G9 g9.length d9)) (T := T) (i := 33) rfl (by kernel_rfl) (by kernel_rfl : (pbits 37 8589934591).setIfInBounds 33 true = pbits 37 17179869183) (si_and si_U (si_and si_U si_U)) (fun _ _ _ h => h) (wy9 rfl rfl (T.ev 4 rfl) rfl) rfl rfl rfl (fun B w' hD hl hS => (rn_cell (Sp.lc0 SLL (show Mem w noEx w' _ from (MA.lft hS)) (.cons _ (subL (subL (subL (subL (List.Sublist.refl _)))))) hkg9) rfl (T.ev 0 rfl))) ?_; clear T ac; intro ac T
   refine g_w (i := 34) (by kernel_rfl) rfl (by kernel_rfl : (pbits 37 17179869183).setIfInBounds 34 true = pbits 37 34359738367) (wy9 rfl rfl (T.ev 5 rfl) rfl) ?_; intro K hK
   refine oc9 (first := []) (cap := []) T rfl rfl rfl rfl evf (.cons (T.ev 4 rfl) (.cons (T.ev 0 rfl) .nil)) Tryd.func30 rfl rfl ?_
   refine Calls.mono (sameInts_any _ _ _ _ _ _ g9 g9 _ (SAIur11_9.rd M (.cons _ (subL (subL (List.sublist_append_right _ _))))) (SG9.rd M (.cons _ (subL (subL (subL (subL (List.Sublist.refl _))))))) (by omega) (by omega)) ?_
   clear T
   rintro e wc ⟨rfl, hb⟩
   intro ac T
   replace M := M.call hb; clear hb
   rw [decide_eq_true (@rfl (List Int) g9)] at T
   refine so9 hK _ _ (MA.mk (M.mask [true] rfl) (MA.mk (M.mask [true] rfl) (M.mask [true] rfl))) ?_; clear hK K
   refine g_q (v := (.bool false)) (T := T) (i := 35) rfl (by kernel_rfl) (by kernel_rfl : (pbits 37 34359738367).setIfInBounds 35 true = pbits 37 68719476735) (si_and si_U (si_and si_U si_U)) (fun _ _ _ h => h) (wy9 rfl rfl (T.ev 6 rfl) rfl) rfl rfl rfl (fun _ _ _ _ _ => (rn_neqof (rn_not rfl (T.ev 0 rfl)) (by simp))) ?_; clear T ac; intro ac T
   refine gq T 36 137438953471 rfl (fun _ _ _ _ _ => (rn_pick0 rfl (T.ev 7 rfl) rfl (T.ev 0 rfl))) ?_; clear T ac; intro ac T
   refine g_done (by kernel_rfl) ?_
   replace T := T.pick [0, 1, 2, 3, 4, 5, 6, 7, 10, 11, 12, 13, 14, 15, 16, 19, 20, 21, 22, 25, 26, 27, 30, 31, 32, 47, 48, 49, 50] rfl
   replace M := M.mask [false] rfl
   replace M : Mem w noEx wc ((IT ++ ICur11_4 ++ IMur11_9 ++ IPu14 ++ IRu15)) := M
   refine nt9 ?_
   refine wp_cond_false (T.ev 0 rfl) ?_
   refine wp_skip ?_
   refine nm_blk ?_
   refine nt9 ?_
   refine wp_region_lit ?_
   refine lq T (rm9 rfl (T.ev 28 rfl)) ?_; clear T ac; intro ac T
   refine lq T (rn_add rfl (T.ev 0 rfl) evc (by omega)) ?_; clear T ac; intro ac T
   refine l_q (v := (.int .i64 ((i : Int) + 1))) (T.pick [0, 1, 2, 3, 4, 5, 6, 7, 8, 9, 10, 11, 12, 13, 14, 15, 16, 17, 18, 19, 20, 21, 22, 23, 24, 25, 26, 27, 28, 29] rfl) rfl rfl rfl rfl (ra9 rfl (T.ev 0 rfl)) ?_; clear T ac; intro ac T
   refine wpList_nil ?_
   replace T := T.pick [0, 4, 5, 6, 7, 8, 9, 10, 11, 12, 13, 14, 15, 16, 17, 18, 19, 20, 21, 22, 23, 24, 25, 26, 27, 28, 29, 30] rfl
   refine nt9 ?_
   exact ⟨_, by omega, i + 1, rfl, (by omega), T.pick [25, 26, 27, 0] rfl, (M.sub (subL (subL (subL (subL (List.Sublist.refl _))))))⟩
  refine gi 1519 ?_; intro K hK
  refine ow_al M T rfl rfl rfl rfl ?_; clear M T; intro gr11_10 wc ac M T
  refine so9 hK _ _ (M.mask [false] rfl) ?_; clear hK K
  refine gw 4 1535 ?_; intro K hK
  refine oc9 (first := []) (cap := []) T rfl rfl rfl rfl evf (.cons (T.ev 5 rfl) .nil) Tryd.func25 rfl rfl ?_
  refine Calls.mono (copySheet_any s9 A9 c9 _ (S9.rd M (.cons _ (List.Sublist.refl _))) (by omega)) ?_
  clear T
  rintro e wc ⟨ACur11_4, cCur11_4, ICur11_4, rfl, hclur11_4, N⟩
  intro ac T
  obtain ⟨bACur11_4, oACur11_4, SVCur11_4⟩ := hclur11_4.spV (pc_length _)
  have SACur11_4 := SVCur11_4 w noEx
  replace M := (M.join N).swapI
  clear N
  replace M : Mem w noEx wc ((gr11_10, .cells [.int .i64 0, .int .i64 0, .int .i64 0, .int .i64 0, .int .i64 0, .int .i64 0, .slice none 0 0]) :: (IT ++ ICur11_4)) := M
  have hcpCur11_4 := hclur11_4.capLe M (.cons _ (List.sublist_append_right _ _))
  refine so9 hK _ _ ((M.mask [false] rfl).sub (List.sublist_append_left _ _)) ?_; clear hK K
  refine gw 9 2047 ?_; intro K hK
  refine oc9 (first := []) (cap := []) T rfl rfl rfl rfl evf (.cons (T.ev 2 rfl) .nil) Tryd.func26 rfl rfl ?_
  refine Calls.mono (ints8_any G9 d9 g9 _ (SG9.rd M (.cons _ (subL (List.Sublist.refl _)))) (by omega)) ?_
  clear T
  rintro e wc ⟨AIur11_9, cIur11_9, IMur11_9, rfl, hclur11_9, N⟩
  intro ac T
  obtain ⟨bAIur11_9, oAIur11_9, SVIur11_9⟩ := hclur11_9.spV (by rw [ic_length]; omega)
  have SAIur11_9 := SVIur11_9 w noEx
  replace M := (M.join N).swapI
  clear N
  replace M : Mem w noEx wc ((gr11_10, .cells [.int .i64 0, .int .i64 0, .int .i64 0, .int .i64 0, .int .i64 0, .int .i64 0, .slice none 0 0]) :: (IT ++ ICur11_4 ++ IMur11_9)) := M
  have hcpIur11_9 := hclur11_9.capLe M (.cons _ (List.sublist_append_right _ _))
  refine so9 hK _ _ ((M.mask [false] rfl).sub (List.Sublist.trans (List.sublist_append_left _ _) (List.sublist_append_left _ _))) ?_; clear hK K
  refine gw 11 4095 ?_; intro K hK
  refine ow_stO M T rfl rfl (T.ev 2 rfl) (T.ev 1 rfl) rfl .head rfl (by simp) rfl (by kernel_rfl) ?_; clear M T; intro wc ac M T
  refine so9 hK _ _ ((M.mask [false] rfl).sub (List.Sublist.trans (List.sublist_append_left _ _) (List.sublist_append_left _ _))) ?_; clear hK K
  refine gq T 12 8191 rfl (fun _ _ _ _ _ => (ra9 rfl (T.ev 0 rfl))) ?_; clear T ac; intro ac T
  refine g_done (by kernel_rfl) ?_
  replace T := T.pick [0, 3, 13, 14, 15, 16] rfl
  refine nt9 ?_
  refine wp_seq ?_
  refine wp_region_lit ?_
  refine lq T (rn_rowO (Mem.nth M 0 rfl) rfl (T.ev 1 rfl) rfl) ?_; clear T ac; intro ac T
  refine lq T (rm9 rfl (T.ev 1 rfl)) ?_; clear T ac; intro ac T
  refine lq T (rm9 rfl (T.ev 4 rfl)) ?_; clear T ac; intro ac T
  refine l_w rfl ?_; intro K hK
  refine oc9 (first := []) (cap := []) T rfl rfl rfl rfl evf (.cons (T.ev 2 rfl) (.cons (T.ev 1 rfl) (.cons (T.ev 0 rfl) .nil))) Tryd.func33 rfl rfl ?_
  refine Calls.mono (Plan_any s9 ACur11_4 cCur11_4 AIur11_9 cIur11_9 g9 b2 _ (SACur11_4.rd M (.cons _ (subL (List.sublist_append_right _ _)))) (SAIur11_9.rd M (.cons _ (List.sublist_append_right _ _))) (by omega) (by omega) (by omega) (hT.mem M (fun h => h))) ?_
  clear T
  rintro e wc ⟨APu21, cPu21, IPu21, rfl, hcpPu21, SVPu21, N⟩
  intro ac T
  obtain ⟨bAPu21, oAPu21, SVPu21⟩ := SVPu21
  have SAPu21 := SVPu21 w noEx
  replace M := (M.join N).swapI
  clear N
  replace M : Mem w noEx wc ((gr11_10, .cells [.int .i64 s9.lo, .int .i64 s9.wi, .int .i64 s9.a0, .int .i64 s9.a1, .int .i64 s9.c0, .int .i64 s9.c1, .slice ACur11_4 s9.ps.length cCur11_4]) :: (IT ++ ICur11_4 ++ IMur11_9 ++ IPu21)) := M
  refine so9 hK _ _ ?_; clear hK K
  refine lq T (rm9 rfl (T.ev 0 rfl)) ?_; clear T ac; intro ac T
  refine lq T (rn_extract rfl (T.ev 0 rfl) rfl) ?_; clear T ac; intro ac T
  refine lq T (rn_extract rfl (T.ev 1 rfl) rfl) ?_; clear T ac; intro ac T
  refine lq T (ra9 rfl (T.ev 1 rfl)) ?_; clear T ac; intro ac T
  refine lq T (ra9 rfl (T.ev 1 rfl)) ?_; clear T ac; intro ac T
  refine wpList_nil ?_
  replace T := T.pick [0, 1, 9, 10, 11, 12, 13, 14] rfl
  refine nt9 ?_
  refine wp_seq ?_
  refine g_start2 M (M.mask [true] rfl) 15 (by kernel_rfl) rfl (by kernel_rfl) ?_
  clear M; intro wc M
  refine gq T 0 1 rfl (fun _ _ _ _ _ => (rm9 rfl (T.ev 5 rfl))) ?_; clear T ac; intro ac T
  refine gq T 1 3 rfl (fun _ _ _ _ _ => (rm9 rfl (T.ev 8 rfl))) ?_; clear T ac; intro ac T
  refine gq T 2 7 rfl (fun _ _ _ _ _ => (rn_indexAddr (size := 7) i rfl (T.ev 1 rfl) (T.ev 0 rfl) ⟨_, Tryd.underlying42, by kernel_rfl⟩ rfl (by omega) (SSS.at0 (by omega)))) ?_; clear T ac; intro ac T
  refine gq (v := (.agg #[.int .i64 s9.lo, .int .i64 s9.wi, .int .i64 s9.a0, .int .i64 s9.a1, .int .i64 s9.c0, .int .i64 s9.c1, .slice A9 s9.ps.length c9])) T 3 15 rfl (fun B w' hD hl hS => (rn_rowat (Sp.skR SSS (show Mem w noEx w' _ from hS) (.cons _ (subL (subL (subL (List.Sublist.refl _))))) hk9) rfl (T.ev 0 rfl) rfl)) ?_; clear T ac; intro ac T
  refine gq T 4 31 rfl (fun _ _ _ _ _ => (rm9 rfl (T.ev 10 rfl))) ?_; clear T ac; intro ac T
  refine gq T 5 63 rfl (fun _ _ _ _ _ => (rm9 rfl (T.ev 12 rfl))) ?_; clear T ac; intro ac T
  refine gq T 6 127 rfl (fun _ _ _ _ _ => (rn_indexAddr (size := 1) i rfl (T.ev 1 rfl) (T.ev 0 rfl) ⟨_, Tryd.underlying43, by kernel_rfl⟩ rfl (by omega) (SLL.at0 (by omega)))) ?_; clear T ac; intro ac T
  refine gq (v := (.slice G9 g9.length d9)) T 7 255 rfl (fun B w' hD hl hS => (rn_cell (Sp.lc0 SLL (show Mem w noEx w' _ from hS) (.cons _ (subL (subL (subL (List.Sublist.refl _))))) hkg9) rfl (T.ev 0 rfl))) ?_; clear T ac; intro ac T
  refine gq T 8 511 rfl (fun _ _ _ _ _ => (rm9 rfl (T.ev 12 rfl))) ?_; clear T ac; intro ac T
  refine gw 9 1023 ?_; intro K hK
  refine oc9 (first := []) (cap := []) T rfl rfl rfl rfl evf (.cons (T.ev 5 rfl) (.cons (T.ev 1 rfl) (.cons (T.ev 0 rfl) .nil))) Tryd.func22 rfl rfl ?_
  refine Calls.mono (Plan8_any s9 A9 c9 G9 d9 g9 b2 _ (S9.rd M (.cons _ (subL (subL (subL (List.Sublist.refl _)))))) (SG9.rd M (.cons _ (subL (subL (subL (List.Sublist.refl _)))))) (by omega) (by omega)) ?_
  clear T
  rintro e wc ⟨ARu22, cRu22, IRu22, rfl, hcpRu22, SVRu22, N⟩
  intro ac T
  obtain ⟨bARu22, oARu22, SVRu22⟩ := SVRu22
  have SARu22 := SVRu22 w noEx
  replace M := (M.join N).swapI
  clear N
  replace M : Mem w noEx wc ((gr11_10, .cells [.int .i64 s9.lo, .int .i64 s9.wi, .int .i64 s9.a0, .int .i64 s9.a1, .int .i64 s9.c0, .int .i64 s9.c1, .slice ACur11_4 s9.ps.length cCur11_4]) :: (IT ++ ICur11_4 ++ IMur11_9 ++ IPu21 ++ IRu22)) := M
  refine so9 hK _ _ ((M.mask [true] rfl).sub (List.Sublist.cons_cons _ (List.sublist_append_left _ _))) ?_; clear hK K
  refine gq T 10 2047 rfl (fun _ _ _ _ _ => (rm9 rfl (T.ev 0 rfl))) ?_; clear T ac; intro ac T
  refine gq T 11 4095 rfl (fun _ _ _ _ _ => (rn_extract rfl (T.ev 0 rfl) rfl)) ?_; clear T ac; intro ac T
  refine gq T 12 8191 rfl (fun _ _ _ _ _ => (rn_extract rfl (T.ev 1 rfl) rfl)) ?_; clear T ac; intro ac T
  refine gq T 13 16383 rfl (fun _ _ _ _ _ => (ra9 rfl (T.ev 1 rfl))) ?_; clear T ac; intro ac T
  refine gq T 14 32767 rfl (fun _ _ _ _ _ => (ra9 rfl (T.ev 1 rfl))) ?_; clear T ac; intro ac T
  refine g_done (by kernel_rfl) ?_
  replace T := T.pick [0, 1, 15, 16, 17, 18, 19, 20, 21, 22] rfl
  refine nt9 ?_
  refine wp_seq ?_
  refine wp_region_lit ?_
  refine lq T (rn_rowO (Mem.nth M 0 rfl) rfl (T.ev 5 rfl) rfl) ?_; clear T ac; intro ac T
  refine lq T (rm9 rfl (T.ev 5 rfl)) ?_; clear T ac; intro ac T
  refine l_w rfl ?_; intro K hK
  refine oc9 (first := []) (cap := []) T rfl rfl rfl rfl evf (.cons (T.ev 1 rfl) (.cons (T.ev 0 rfl) .nil)) Tryd.func46 rfl rfl ?_
  refine Calls.mono (Fits_any s9 ACur11_4 cCur11_4 AIur11_9 cIur11_9 g9 _ (SACur11_4.rd M (.cons _ (subL (subL (subL (List.sublist_append_right _ _)))))) (SAIur11_9.rd M (.cons _ (subL (subL (List.sublist_append_right _ _))))) (by omega) (by omega) (by omega) (hT.mem M (fun h => h))) ?_
  clear T
  rintro e wc ⟨rfl, hb⟩
  intro ac T
  replace M := M.call hb; clear hb
  refine so9 hK _ _ ?_; clear hK K
  refine lq T (rm9 rfl (T.ev 0 rfl)) ?_; clear T ac; intro ac T
  refine lq T (rn_extract rfl (T.ev 0 rfl) rfl) ?_; clear T ac; intro ac T
  refine lq T (rn_extract rfl (T.ev 1 rfl) rfl) ?_; clear T ac; intro ac T
  refine lq T (ra9 rfl (T.ev 1 rfl)) ?_; clear T ac; intro ac T
  refine lq T (ra9 rfl (T.ev 1 rfl)) ?_; clear T ac; intro ac T
  refine wpList_nil ?_
  replace T := T.pick [0, 1, 8, 9, 10, 11, 12, 13, 14, 15, 16, 17] rfl
  refine nt9 ?_
  refine wp_seq ?_
  refine g_start2 M (M.mask [true] rfl) 14 (by kernel_rfl) rfl (by kernel_rfl) ?_
  clear M; intro wc M
  refine gq T 0 1 rfl (fun _ _ _ _ _ => (rm9 rfl (T.ev 9 rfl))) ?_; clear T ac; intro ac T
  refine gq T 1 3 rfl (fun _ _ _ _ _ => (rm9 rfl (T.ev 12 rfl))) ?_; clear T ac; intro ac T
  refine gq T 2 7 rfl (fun _ _ _ _ _ => (rn_indexAddr (size := 7) i rfl (T.ev 1 rfl) (T.ev 0 rfl) ⟨_, Tryd.underlying42, by kernel_rfl⟩ rfl (by omega) (SSS.at0 (by omega)))) ?_; clear T ac; intro ac T
  refine gq (v := (.agg #[.int .i64 s9.lo, .int .i64 s9.wi, .int .i64 s9.a0, .int .i64 s9.a1, .int .i64 s9.c0, .int .i64 s9.c1, .slice A9 s9.ps.length c9])) T 3 15 rfl (fun B w' hD hl hS => (rn_rowat (Sp.skR SSS (show Mem w noEx w' _ from hS) (.cons _ (subL (subL (subL (subL (List.Sublist.refl _)))))) hk9) rfl (T.ev 0 rfl) rfl)) ?_; clear T ac; intro ac T
  refine gq T 4 31 rfl (fun _ _ _ _ _ => (rm9 rfl (T.ev 14 rfl))) ?_; clear T ac; intro ac T
  refine gq T 5 63 rfl (fun _ _ _ _ _ => (rm9 rfl (T.ev 16 rfl))) ?_; clear T ac; intro ac T
  refine gq T 6 127 rfl (fun _ _ _ _ _ => (rn_indexAddr (size := 1) i rfl (T.ev 1 rfl) (T.ev 0 rfl) ⟨_, Tryd.underlying43, by kernel_rfl⟩ rfl (by omega) (SLL.at0 (by omega)))) ?_; clear T ac; intro ac T
  refine gq (v := (.slice G9 g9.length d9)) T 7 255 rfl (fun B w' hD hl hS => (rn_cell (Sp.lc0 SLL (show Mem w noEx w' _ from hS) (.cons _ (subL (subL (subL (subL (List.Sublist.refl _)))))) hkg9) rfl (T.ev 0 rfl))) ?_; clear T ac; intro ac T
  refine gw 8 511 ?_; intro K hK
  refine oc9 (first := []) (cap := []) T rfl rfl rfl rfl evf (.cons (T.ev 4 rfl) (.cons (T.ev 0 rfl) .nil)) Tryd.func47 rfl rfl ?_
  refine Calls.mono (Fits8_any s9 A9 c9 G9 d9 g9 _ (S9.rd M (.cons _ (subL (subL (subL (subL (List.Sublist.refl _))))))) (SG9.rd M (.cons _ (subL (subL (subL (subL (List.Sublist.refl _))))))) (by omega) (by omega)) ?_
  clear T
  rintro e wc ⟨rfl, hb⟩
  intro ac T
  replace M := M.call hb; clear hb
  refine so9 hK _ _ (M.mask [true] rfl) ?_; clear hK K
  refine gq T 9 1023 rfl (fun _ _ _ _ _ => (rm9 rfl (T.ev 0 rfl))) ?_; clear T ac; intro ac T
  refine gq T 10 2047 rfl (fun _ _ _ _ _ => (rn_extract rfl (T.ev 0 rfl) rfl)) ?_; clear T ac; intro ac T
  refine gq T 11 4095 rfl (fun _ _ _ _ _ => (rn_extract rfl (T.ev 1 rfl) rfl)) ?_; clear T ac; intro ac T
  refine gq T 12 8191 rfl (fun _ _ _ _ _ => (ra9 rfl (T.ev 1 rfl))) ?_; clear T ac; intro ac T
  refine gq T 13 16383 rfl (fun _ _ _ _ _ => (ra9 rfl (T.ev 1 rfl))) ?_; clear T ac; intro ac T
  refine g_done (by kernel_rfl) ?_
  replace T := T.pick [0, 1, 14, 15, 16, 17, 18, 19, 20, 21, 22, 23, 24, 25] rfl
  refine nt9 ?_
  refine wp_seq ?_
  refine g_start2 M (M.mask [true] rfl) 37 (by kernel_rfl) rfl (by kernel_rfl) ?_
  clear M; intro wc M
  refine gq T 0 1 rfl (fun _ _ _ _ _ => (rm9 rfl (T.ev 6 rfl))) ?_; clear T ac; intro ac T
  refine gq T 1 3 rfl (fun _ _ _ _ _ => (rm9 rfl (T.ev 5 rfl))) ?_; clear T ac; intro ac T
  refine gq (v := (.bool false)) T 2 7 rfl (fun _ _ _ _ _ => (rn_neqof (rn_neq rfl (T.ev 1 rfl) (T.ev 0 rfl)) (by simp))) ?_; clear T ac; intro ac T
  refine gq T 3 15 rfl (fun _ _ _ _ _ => (rm9 rfl (T.ev 0 rfl))) ?_; clear T ac; intro ac T
  refine g_q (T := T) (i := 4) rfl (by kernel_rfl) (by kernel_rfl : (pbits 37 15).setIfInBounds 4 true = pbits 37 31) si_U (fun _ _ _ h => h) (wy9 rfl rfl (T.ev 0 rfl) rfl) rfl rfl rfl (fun _ _ _ _ _ => (rm9 rfl (T.ev 7 rfl))) ?_; clear T ac; intro ac T
  refine g_q (T := T) (i := 5) rfl (by kernel_rfl) (by kernel_rfl : (pbits 37 31).setIfInBounds 5 true = pbits 37 63) si_U (fun _ _ _ h => h) (wy9 rfl rfl (T.ev 1 rfl) rfl) rfl rfl rfl (fun _ _ _ _ _ => (rm9 rfl (T.ev 6 rfl))) ?_; clear T ac; intro ac T
  refine g_q (v := (.bool false)) (T := T) (i := 6) rfl (by kernel_rfl) (by kernel_rfl : (pbits 37 63).setIfInBounds 6 true = pbits 37 127) si_U (fun _ _ _ h => h) (wy9 rfl rfl (T.ev 2 rfl) rfl) rfl rfl rfl (fun _ _ _ _ _ => (rn_neqof (rn_neq rfl (T.ev 1 rfl) (T.ev 0 rfl)) (by simp))) ?_; clear T ac; intro ac T
  refine gq T 7 255 rfl (fun _ _ _ _ _ => (rn_pick0 rfl (T.ev 3 rfl) rfl (T.ev 0 rfl))) ?_; clear T ac; intro ac T
  refine gq T 8 511 rfl (fun _ _ _ _ _ => (rm9 rfl (T.ev 0 rfl))) ?_; clear T ac; intro ac T
  refine g_q (T := T) (i := 9) rfl (by kernel_rfl) (by kernel_rfl : (pbits 37 511).setIfInBounds 9 true = pbits 37 1023) si_U (fun _ _ _ h => h) (wy9 rfl rfl (T.ev 0 rfl) rfl) rfl rfl rfl (fun _ _ _ _ _ => (rm9 rfl (T.ev 11 rfl))) ?_; clear T ac; intro ac T
  refine g_q (T := T) (i := 10) rfl (by kernel_rfl) (by kernel_rfl : (pbits 37 1023).setIfInBounds 10 true = pbits 37 2047) si_U (fun _ _ _ h => h) (wy9 rfl rfl (T.ev 1 rfl) rfl) rfl rfl rfl (fun _ _ _ _ _ => (rm9 rfl (T.ev 10 rfl))) ?_; clear T ac; intro ac T
  refine g_q (v := (.bool false)) (T := T) (i := 11) rfl (by kernel_rfl) (by kernel_rfl : (pbits 37 2047).setIfInBounds 11 true = pbits 37 4095) si_U (fun _ _ _ h => h) (wy9 rfl rfl (T.ev 2 rfl) rfl) rfl rfl rfl (fun _ _ _ _ _ => (rn_neqof (rn_neq rfl (T.ev 1 rfl) (T.ev 0 rfl)) (by simp))) ?_; clear T ac; intro ac T
  refine gq T 12 8191 rfl (fun _ _ _ _ _ => (rn_pick0 rfl (T.ev 3 rfl) rfl (T.ev 0 rfl))) ?_; clear T ac; intro ac T
  refine gq T 13 16383 rfl (fun _ _ _ _ _ => (rm9 rfl (T.ev 0 rfl))) ?_; clear T ac; intro ac T
  refine g_q (T := T) (i := 14) rfl (by kernel_rfl) (by kernel_rfl : (pbits 37 16383).setIfInBounds 14 true = pbits 37 32767) si_U (fun _ _ _ h => h) (wy9 rfl rfl (T.ev 0 rfl) rfl) rfl rfl rfl (fun _ _ _ _ _ => (rm9 rfl (T.ev 21 rfl))) ?_; clear T ac; intro ac T
  refine g_q (T := T) (i := 15) rfl (by kernel_rfl) (by kernel_rfl : (pbits 37 32767).setIfInBounds 15 true = pbits 37 65535) si_U (fun _ _ _ h => h) (wy9 rfl rfl (T.ev 1 rfl) rfl) rfl rfl rfl (fun _ _ _ _ _ => (rm9 rfl (T.ev 20 rfl))) ?_; clear T ac; intro ac T
  refine g_w (i := 16) (by kernel_rfl) rfl (by kernel_rfl : (pbits 37 65535).setIfInBounds 16 true = pbits 37 131071) (wy9 rfl rfl (T.ev 2 rfl) rfl) ?_; intro K hK
  refine oc9 (first := []) (cap := []) T rfl rfl rfl rfl evf (.cons (T.ev 1 rfl) (.cons (T.ev 0 rfl) .nil)) Tryd.func31 rfl rfl ?_
  refine Calls.mono (sameSpots_any APu21 cPu21 (planL s9 g9 b2) ARu22 cRu22 (planL s9 g9 b2) _ (SAPu21.rd M (.cons _ (subL (List.sublist_append_right _ _)))) (SARu22.rd M (.cons _ (List.sublist_append_right _ _))) (by omega) (by omega)) ?_
  clear T
  rintro e wc ⟨rfl, hb⟩
  intro ac T
  replace M := M.call hb; clear hb
  rw [decide_eq_true (@rfl (List Spt) (planL s9 g9 b2))] at T
  refine so9 hK _ _ (M.mask [true] rfl) ?_; clear hK K
  refine g_addU M ?_
  refine g_q (v := (.bool false)) (T := T) (i := 17) rfl (by kernel_rfl) (by kernel_rfl : (pbits 37 131071).setIfInBounds 17 true = pbits 37 262143) (si_and si_U si_U) (fun _ _ _ h => h) (wy9 rfl rfl (T.ev 3 rfl) rfl) rfl rfl rfl (fun _ _ _ _ _ => (rn_neqof (rn_not rfl (T.ev 0 rfl)) (by simp))) ?_; clear T ac; intro ac T
  refine gq T 18 524287 rfl (fun _ _ _ _ _ => (rn_pick0 rfl (T.ev 4 rfl) rfl (T.ev 0 rfl))) ?_; clear T ac; intro ac T
  refine gq T 19 1048575 rfl (fun _ _ _ _ _ => (rm9 rfl (T.ev 0 rfl))) ?_; clear T ac; intro ac T
  refine g_q (T := T) (i := 20) rfl (by kernel_rfl) (by kernel_rfl : (pbits 37 1048575).setIfInBounds 20 true = pbits 37 2097151) (si_and si_U si_U) (fun _ _ _ h => h) (wy9 rfl rfl (T.ev 0 rfl) rfl) rfl rfl rfl (fun B w' hD hl hS => (rn_rowO (Mem.nth (show Mem w noEx w' _ from (MA.lft hS)) 0 rfl) rfl (T.ev 29 rfl) rfl)) ?_; clear T ac; intro ac T
  refine g_q (T := T) (i := 21) rfl (by kernel_rfl) (by kernel_rfl : (pbits 37 2097151).setIfInBounds 21 true = pbits 37 4194303) (si_and si_U si_U) (fun _ _ _ h => h) (wy9 rfl rfl (T.ev 1 rfl) rfl) rfl rfl rfl (fun _ _ _ _ _ => (rm9 rfl (T.ev 32 rfl))) ?_; clear T ac; intro ac T
  refine g_q (T := T) (i := 22) rfl (by kernel_rfl) (by kernel_rfl : (pbits 37 4194303).setIfInBounds 22 true = pbits 37 8388607) (si_and si_U si_U) (fun _ _ _ h => h) (wy9 rfl rfl (T.ev 2 rfl) rfl) rfl rfl rfl (fun _ _ _ _ _ => (rm9 rfl (T.ev 35 rfl))) ?_; clear T ac; intro ac T
  refine g_q (T := T) (i := 23) rfl (by kernel_rfl) (by kernel_rfl : (pbits 37 8388607).setIfInBounds 23 true = pbits 37 16777215) (si_and si_U si_U) (fun _ _ _ h => h) (wy9 rfl rfl (T.ev 3 rfl) rfl) rfl rfl rfl (fun _ _ _ _ _ => (rn_indexAddr (size := 7) i rfl (T.ev 1 rfl) (T.ev 0 rfl) ⟨_, Tryd.underlying42, by kernel_rfl⟩ rfl (by omega) (SSS.at0 (by omega)))) ?_; clear T ac; intro ac T
  refine g_q (v := (.agg #[.int .i64 s9.lo, .int .i64 s9.wi, .int .i64 s9.a0, .int .i64 s9.a1, .int .i64 s9.c0, .int .i64 s9.c1, .slice A9 s9.ps.length c9])) (T := T) (i := 24) rfl (by kernel_rfl) (by kernel_rfl : (pbits 37 16777215).setIfInBounds 24 true = pbits 37 33554431) (si_and si_U si_U) (fun _ _ _ h => h) (wy9 rfl rfl (T.ev 4 rfl) rfl) rfl rfl rfl (fun B w' hD hl hS => (rn_rowat (Sp.skR SSS (show Mem w noEx w' _ from (MA.lft hS)) (.cons _ (subL (subL (subL (subL (List.Sublist.refl _)))))) hk9) rfl (T.ev 0 rfl) rfl)) ?_; clear T ac; intro ac T
  refine g_w (i := 25) (by kernel_rfl) rfl (by kernel_rfl : (pbits 37 33554431).setIfInBounds 25 true = pbits 37 67108863) (wy9 rfl rfl (T.ev 5 rfl) rfl) ?_; intro K hK
  refine oc9 (first := []) (cap := []) T rfl rfl rfl rfl evf (.cons (T.ev 4 rfl) (.cons (T.ev 0 rfl) .nil)) Tryd.func29 rfl rfl ?_
  refine Calls.mono (sameSheets_any s9 ACur11_4 cCur11_4 s9 A9 c9 _ (SACur11_4.rd M (.cons _ (subL (subL (subL (List.sublist_append_right _ _)))))) (S9.rd M (.cons _ (subL (subL (subL (subL (List.Sublist.refl _))))))) (by omega) (by omega)) ?_
  clear T
  rintro e wc ⟨rfl, hb⟩
  intro ac T
  replace M := M.call hb; clear hb
  rw [decide_eq_true (@rfl Sk s9)] at T
  refine so9 hK _ _ (MA.mk (M.mask [true] rfl) (M.mask [true] rfl)) ?_; clear hK K
  refine g_addU M ?_
  refine g_q (v := (.bool false)) (T := T) (i := 26) rfl (by kernel_rfl) (by kernel_rfl : (pbits 37 67108863).setIfInBounds 26 true = pbits 37 134217727) (si_and si_U (si_and si_U si_U)) (fun _ _ _ h => h) (wy9 rfl rfl (T.ev 6 rfl) rfl) rfl rfl rfl (fun _ _ _ _ _ => (rn_neqof (rn_not rfl (T.ev 0 rfl)) (by simp))) ?_; clear T ac; intro ac T
  refine gq T 27 268435455 rfl (fun _ _ _ _ _ => (rn_pick0 rfl (T.ev 7 rfl) rfl (T.ev 0 rfl))) ?_; clear T ac; intro ac T
  refine gq T 28 536870911 rfl (fun _ _ _ _ _ => (rm9 rfl (T.ev 0 rfl))) ?_; clear T ac; intro ac T
  refine g_q (T := T) (i := 29) rfl (by kernel_rfl) (by kernel_rfl : (pbits 37 536870911).setIfInBounds 29 true = pbits 37 1073741823) (si_and si_U (si_and si_U si_U)) (fun _ _ _ h => h) (wy9 rfl rfl (T.ev 0 rfl) rfl) rfl rfl rfl (fun _ _ _ _ _ => (rm9 rfl (T.ev 37 rfl))) ?_; clear T ac; intro ac T
  refine g_q (T := T) (i := 30) rfl (by kernel_rfl) (by kernel_rfl : (pbits 37 1073741823).setIfInBounds 30 true = pbits 37 2147483647) (si_and si_U (si_and si_U si_U)) (fun _ _ _ h => h) (wy9 rfl rfl (T.ev 1 rfl) rfl) rfl rfl rfl (fun _ _ _ _ _ => (rm9 rfl (T.ev 42 rfl))) ?_; clear T ac; intro ac T
  refine g_q (T := T) (i := 31) rfl (by kernel_rfl) (by kernel_rfl : (pbits 37 2147483647).setIfInBounds 31 true = pbits 37 4294967295) (si_and si_U (si_and si_U si_U)) (fun _ _ _ h => h) (wy9 rfl rfl (T.ev 2 rfl) rfl) rfl rfl rfl (fun _ _ _ _ _ => (rm9 rfl (T.ev 44 rfl))) ?_; clear T ac; intro ac T
  refine g_q (T := T) (i := 32) rfl (by kernel_rfl) (by kernel_rfl : (pbits 37 4294967295).setIfInBounds 32 true = pbits 37 8589934591) (si_and si_U (si_and si_U si_U)) (fun _ _ _ h => h) (wy9 rfl rfl (T.ev 3 rfl) rfl) rfl rfl rfl (fun _ _ _ _ _ => (rn_indexAddr (size := 1) i rfl (T.ev 1 rfl) (T.ev 0 rfl) ⟨_, Tryd.underlying43, by kernel_rfl⟩ rfl (by omega) (SLL.at0 (by omega)))) ?_; clear T ac; intro ac T
  refine g_q (v := (.slice G9 g9.length d9)) (T := T) (i := 33) rfl (by kernel_rfl) (by kernel_rfl : (pbits 37 8589934591).setIfInBounds 33 true = pbits 37 17179869183) (si_and si_U (si_and si_U si_U)) (fun _ _ _ h => h) (wy9 rfl rfl (T.ev 4 rfl) rfl) rfl rfl rfl (fun B w' hD hl hS => (rn_cell (Sp.lc0 SLL (show Mem w noEx w' _ from (MA.lft hS)) (.cons _ (subL (subL (subL (subL (List.Sublist.refl _)))))) hkg9) rfl (T.ev 0 rfl))) ?_; clear T ac; intro ac T
  refine g_w (i := 34) (by kernel_rfl) rfl (by kernel_rfl : (pbits 37 17179869183).setIfInBounds 34 true = pbits 37 34359738367) (wy9 rfl rfl (T.ev 5 rfl) rfl) ?_; intro K hK
  refine oc9 (first := []) (cap := []) T rfl rfl rfl rfl evf (.cons (T.ev 4 rfl) (.cons (T.ev 0 rfl) .nil)) Tryd.func30 rfl rfl ?_
  refine Calls.mono (sameInts_any _ _ _ _ _ _ g9 g9 _ (SAIur11_9.rd M (.cons _ (subL (subL (List.sublist_append_right _ _))))) (SG9.rd M (.cons _ (subL (subL (subL (subL (List.Sublist.refl _))))))) (by omega) (by omega)) ?_
  clear T
  rintro e wc ⟨rfl, hb⟩
  intro ac T
  replace M := M.call hb; clear hb
  rw [decide_eq_true (@rfl (List Int) g9)] at T
  refine so9 hK _ _ (MA.mk (M.mask [true] rfl) (MA.mk (M.mask [true] rfl) (M.mask [true] rfl))) ?_; clear hK K
  refine g_q (v := (.bool false)) (T := T) (i := 35) rfl (by kernel_rfl) (by kernel_rfl : (pbits 37 34359738367).setIfInBounds 35 true = pbits 37 68719476735) (si_and si_U (si_and si_U si_U)) (fun _ _ _ h => h) (wy9 rfl rfl (T.ev 6 rfl) rfl) rfl rfl rfl (fun _ _ _ _ _ => (rn_neqof (rn_not rfl (T.ev 0 rfl)) (by simp))) ?_; clear T ac; intro ac T
  refine gq T 36 137438953471 rfl (fun _ _ _ _ _ => (rn_pick0 rfl (T.ev 7 rfl) rfl (T.ev 0 rfl))) ?_; clear T ac; intro ac T
  refine g_done (by kernel_rfl) ?_
  replace T := T.pick [0, 1, 2, 3, 4, 5, 6, 7, 10, 11, 12, 13, 14, 15, 16, 19, 20, 21, 22, 25, 26, 27, 30, 31, 32, 47, 48, 49, 50] rfl
  replace M := M.mask [false] rfl
  replace M : Mem w noEx wc ((IT ++ ICur11_4 ++ IMur11_9 ++ IPu21 ++ IRu22)) := M
  refine nt9 ?_
  refine wp_cond_false (T.ev 0 rfl) ?_
  refine wp_skip ?_
  refine nm_blk ?_
  refine nt9 ?_
  refine wp_region_lit ?_
  refine lq T (rm9 rfl (T.ev 28 rfl)) ?_; clear T ac; intro ac T
  refine lq T (rn_add rfl (T.ev 0 rfl) evc (by omega)) ?_; clear T ac; intro ac T
  refine l_q (v := (.int .i64 ((i : Int) + 1))) (T.pick [0, 1, 2, 3, 4, 5, 6, 7, 8, 9, 10, 11, 12, 13, 14, 15, 16, 17, 18, 19, 20, 21, 22, 23, 24, 25, 26, 27, 28, 29] rfl) rfl rfl rfl rfl (ra9 rfl (T.ev 0 rfl)) ?_; clear T ac; intro ac T
  refine wpList_nil ?_
  replace T := T.pick [0, 4, 5, 6, 7, 8, 9, 10, 11, 12, 13, 14, 15, 16, 17, 18, 19, 20, 21, 22, 23, 24, 25, 26, 27, 28, 29, 30] rfl
  refine nt9 ?_
  exact ⟨_, by omega, i + 1, rfl, (by omega), T.pick [25, 26, 27, 0] rfl, (M.sub (subL (subL (subL (subL (List.Sublist.refl _))))))⟩
 intro h3
 refine wp_exit ?_
 refine ex_then ?_
 refine ex_then ?_
 refine ex_hit ?_
 refine nt9 ?_
 refine wp_seq ?_
 refine wp_region_lit ?_
 refine l_w rfl ?_; intro K hK
 refine oc9 (first := []) (cap := []) T rfl rfl rfl rfl evf .nil Tryd.func17 rfl rfl ?_
 refine Calls.mono (sawn8_any _ (hT.mem M (fun h => h))) ?_
 clear T
 rintro e wc ⟨rfl, hb⟩
 intro ac T
 replace M := M.call hb; clear hb
 refine so9 hK _ _ ?_; clear hK K
 refine lq T (ra9 rfl (T.ev 0 rfl)) ?_; clear T ac; intro ac T
 refine wpList_nil ?_
 replace T := T.pick [0] rfl
 refine nt9 ?_
 refine wp_ret ?_
 refine rt_1 T rfl (T.ev 0 rfl) ?_
 exact ⟨ret_bool (by simp_all), M.below⟩
end Go.Proofs.YtehpcclfgjccbaaDoor

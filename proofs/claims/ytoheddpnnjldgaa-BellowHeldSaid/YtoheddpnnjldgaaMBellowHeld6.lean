/-
  The law BellowHeld, walked beside leavers.
-/
import Derived.Test.YtoheddpnnjldgaaMBellowHeld1
import Derived.Test.YtoheddpnnjldgaaMBellowHeld2
import Derived.Test.YtoheddpnnjldgaaMBellowHeld3
import Derived.Test.YtoheddpnnjldgaaMBellowHeld4
import Derived.Test.YtoheddpnnjldgaaMBellowHeld5
namespace Go.Proofs.Ytoheddpnnjldgaa
set_option linter.unusedSimpArgs false
set_option linter.unusedVariables false
open Go.RowKit Go.Proofs.Ytoheddpnnjldgaa.Bq
set_option maxRecDepth 100000 in
set_option maxHeartbeats 4000000 in
theorem BellowHeld_any {J : Nat → Option Obj} (hP : FuncsOk Try.prog) (D : Option Addr) (n d : Nat) (l : List Int) (w : World) (hl : Rd w w.heap.size 1 D n (ic l)) (hm : n ≤ 9223372036854775807) :
   TopB Try.prog J 7 Try.f7 #[.slice D n d] w fun e w' => e = .returned (.bool true) ∧ Below w.heap.size w w' := by
 have hll := hl.len1
 obtain ⟨bI, oI, SI⟩ := Sp.old hl
 refine px_enterT hP noEx Try.func7 rfl 158 rfl [.slice D n d] rfl rfl (Mem.init w _) ?_ (fun _ _ h => ⟨_, h.1⟩)
 intro ac wc T M
 refine wpB_seq hP ?_
 refine b_lone hP w fun T9 => ?_
 replace M := M.tp T9 0 0
 replace SI := SI.tp T9 0
 refine wp_region_lit ?_
 refine lq T (Zra rfl evc) ?_; clear T ac; intro ac T
 refine wpList_nil ?_
 refine nqR_n M ?_; clear M; intro wc M
 replace SI := SI.pt
 replace T := T.pick [1] rfl
 refine nm_then ?_
 refine wpB_seq hP ?_
 refine b_lone hP w fun T9 => ?_
 replace M := M.tp T9 0 0
 replace SI := SI.tp T9 0
 refine wp_region_lit ?_
 refine lq T (Zrm rfl (T.e 0 rfl)) ?_; clear T ac; intro ac T
 refine Zl2 ?_
 refine Zod T rfl rfl rfl rfl evf (.cons (T.e 0 rfl) .nil) Try.func17 rfl rfl ?_
 refine Calls.mono (newPot_any _ _ _ l _ (SI.rd M (Zz9 _)) (by omega)) ?_
 clear T; rintro e wc ⟨bpu1, su1, hsu1, rfl, N⟩ ac T
 replace M := M.join N; clear N
 replace M := M.mask [true] rfl
 refine lq T (Zra rfl (T.e 0 rfl)) ?_; clear T ac; intro ac T
 refine wpList_nil ?_
 refine nqR_n M ?_; clear M; intro wc M
 replace SI := SI.pt
 replace T := T.pick [0] rfl
 refine nm_then ?_
 refine wpB_seq hP ?_
 refine b_lone hP w fun T9 => ?_
 replace M := M.tp T9 0 0
 replace SI := SI.tp T9 0
 refine wp_region_lit ?_
 refine lq T (Zrm rfl (T.e 0 rfl)) ?_; clear T ac; intro ac T
 refine Zl2 ?_
 refine Zod T rfl rfl rfl rfl evf (.cons (T.e 0 rfl) (.cons evc (.cons evc .nil))) Try.func18 rfl rfl ?_
 refine Calls.mono (bellowOf_any _ bpu1 4 2 _ (by omega) (by omega) (M.nth 0 rfl) hsu1) ?_
 clear T; rintro e wc ⟨bu2, gu2, airu2, Abu2, cbu2, Dbu2, dbu2, Gbu2, nbu2, su2, Ibu2, rfl, hBtu2, hBgu2, hBnu2, hsu2, hBiu2, ⟨bGu2, oGu2, hGsu2⟩, N⟩ ac T
 replace M := (M.joinW2 .head N).swapI
 clear N
 replace M : Mem (Bq.tp w T9 0) noEx wc ((bpu1, .cells [.int .u64 su2]) :: Ibu2) := M
 have SGu2 := hGsu2 (Bq.tp w T9 0) noEx
 have hB4u2 : gu2.length ≤ 4 := by omega
 have hB3u2 : bu2.ts.length ≤ 3 := by omega
 refine Zg4 T (Zq (Zrm rfl (T.e 0 rfl))) rfl (Ze 0 rfl rfl rfl) rfl (Ze 1 rfl rfl rfl) rfl (Ze 2 rfl rfl rfl) rfl ?_; clear T ac; intro ac T
 refine Zl2 ?_
 refine Zoa M T rfl rfl rfl rfl ?_; clear M T; intro g1 wc ac M T
 refine Zl2 ?_
 refine Zot M T rfl rfl (T.e 0 rfl) (T.e 3 rfl) rfl .head rfl rfl ?_; clear M T; intro wc ac M T
 refine Zg2 T (Zq (Zra rfl (T.e 2 rfl))) rfl (Za 2 rfl rfl) rfl ?_; clear T ac; intro ac T
 refine wpList_nil ?_
 refine nqR_n M ?_; clear M; intro wc M
 replace SGu2 := SGu2.pt
 replace SI := SI.pt
 replace T := T.pick [2, 9] rfl
 refine nm_then ?_
 refine wpB_seq hP ?_
 refine b_lone hP w fun T9 => ?_
 replace M := M.tp T9 0 0
 replace SGu2 := SGu2.tp T9 0
 replace SI := SI.tp T9 0
 refine wp_region_lit ?_
 refine lq T (Zrm rfl (T.e 1 rfl)) ?_; clear T ac; intro ac T
 refine Zl2 ?_
 refine Zod T rfl rfl rfl rfl evf (.cons (T.e 0 rfl) (.cons evc .nil)) Try.func19 rfl rfl ?_
 refine Calls.mono (upto_any _ bpu1 9 _ (by omega) (by omega) (M.nth 1 rfl) hsu2) ?_
 clear T; rintro e wc ⟨xu3, su3, hxu3, hsu3, rfl, hgr, hbk⟩ ac T
 replace M := M.callC (cs' := [.int .u64 su3]) (.tail .head) hgr hbk
 clear hgr hbk
 refine lq T (Zrm rfl (T.e 3 rfl)) ?_; clear T ac; intro ac T
 refine Zl2 ?_
 refine Zod T rfl rfl rfl rfl evf (.cons (T.e 0 rfl) (.cons evc (.cons evc .nil))) Try.func20 rfl rfl ?_
 refine Calls.mono (within_pot _ bpu1 1 2 _ (by omega) (by omega) (by omega) (M.nth 1 rfl) hsu3) ?_
 clear T; rintro e wc ⟨xu4, su4, hxu4, hsu4, rfl, hgr, hbk⟩ ac T
 replace M := M.callC (cs' := [.int .u64 su4]) (.tail .head) hgr hbk
 clear hgr hbk
 refine Zg2 T (Zq (Zra rfl (T.e 2 rfl))) rfl (Za 1 rfl rfl) rfl ?_; clear T ac; intro ac T
 refine wpList_nil ?_
 refine nqR_n M ?_; clear M; intro wc M
 replace SGu2 := SGu2.pt
 replace SI := SI.pt
 replace T := T.pick [0, 1, 6] rfl
 replace M := M.mask [true, false] rfl
 refine nm_then ?_
 refine wpB_seq hP ?_
 refine rB_preN hP w 3 (by decide) fun T9 => ?_
 replace M := M.tp T9 0 0
 replace SGu2 := SGu2.tp T9 0
 replace SI := SI.tp T9 0
 refine Zg3 T (Zq (Zrr (Mem.nth M 0 rfl) rfl (T.e 2 rfl) rfl)) rfl (Zm 2 rfl rfl) rfl (Zm 2 rfl rfl) rfl ?_; clear T ac; intro ac T
 refine wpList_nil ?_
 refine pqR_n M ?_; clear M; intro wc M
 replace SGu2 := SGu2.pt
 replace SI := SI.pt
 obtain ⟨hA9, hD9, hop9⟩ := hBiu2.rd M (.cons _ (List.Sublist.refl _))
 obtain ⟨nA9, nD9, nop9⟩ := hBiu2.few
 refine rB_call hP (m := 6) (first := []) (cap := []) T rfl rfl rfl rfl rfl evf (.cons (T.e 2 rfl) (.cons (T.e 1 rfl) (.cons (T.e 0 rfl) .nil))) Try.func22 rfl rfl (Holds_any hP bu2 Abu2 cbu2 Dbu2 dbu2 xu3 xu4 _ hA9 hD9 hop9 nA9 nD9 nop9 ) ?_
 clear T
 rintro e wc ⟨rfl, hb⟩
 refine ⟨_, rfl, ?_⟩
 intro ac T
 replace M := M.call hb; clear hb
 obtain ⟨hE9, hR9, hP9⟩ := held_law (air := xu3) (way := xu4) hBtu2 hB4u2 hB3u2 (by omega) (by omega)
 rw [hE9] at T
 obtain ⟨x0, hx0⟩ : ∃ q, q = (holR bu2 xu3 xu4).1 := ⟨_, rfl⟩
 obtain ⟨x1, hx1⟩ : ∃ q, q = (holR bu2 xu3 xu4).2 := ⟨_, rfl⟩
 rw [← hx0, ← hx1] at T hR9
 rw [← hx0, ← hx1] at hP9
 refine rB_moreN hP w 6 0 rfl (by decide) fun T9 => ?_
 replace M := M.tp T9 0 0
 replace SGu2 := SGu2.tp T9 0
 replace SI := SI.tp T9 0
 refine Zg3 T (Zq (Zrm rfl (T.e 0 rfl))) rfl (Ze 0 rfl rfl rfl) rfl (Ze 1 rfl rfl rfl) rfl ?_; clear T ac; intro ac T
 refine Zl2 ?_
 refine Zoa M T rfl rfl rfl rfl ?_; clear M T; intro g2 wc ac M T
 refine Zl2 ?_
 refine Zot M T rfl rfl (T.e 0 rfl) (T.e 2 rfl) rfl .head rfl rfl ?_; clear M T; intro wc ac M T
 refine lq T (Zra rfl (T.e 1 rfl)) ?_; clear T ac; intro ac T
 refine wpList_nil ?_
 refine pqR_n M ?_; clear M; intro wc M
 replace SGu2 := SGu2.pt
 replace SI := SI.pt
 refine rB_nil hP ?_
 replace T := T.pick [0, 1, 9, 10, 11] rfl
 refine nm_then ?_
 refine wpB_seq hP ?_
 refine cutB_seq hP (fun ac wc => Tm ac 158 [(4, Zj g1), (7, Zi xu3), (8, Zi xu4), (9, Zj g2), (56, .bool ((decide (x0 < 0)) || ((decide (x1 < x0)) || (decide (600 < x1)))))] ∧ Mem w noEx wc ((g2, .cells [Zi x0, Zi x1]) :: (g1, .cells [Zi bu2.full, Zi bu2.a0, Zi bu2.a1, .slice Abu2 bu2.cs.length cbu2, .slice Dbu2 bu2.ts.length dbu2]) :: Ibu2)) ?_ ?_
 ·refine b_lone hP w fun T9 => ?_
  replace M := M.tp T9 0 0
  replace SGu2 := SGu2.tp T9 0
  replace SI := SI.tp T9 0
  refine wp_region_lit ?_
  refine Zg8 (v2 := (.bool false)) (v4 := (Zj g2)) T (Zq (Zrm rfl (T.e 0 rfl))) rfl (fun _ T => Zq (Zrq (rn_neq rfl (T.e 0 rfl) evc) (by simp))) rfl (Zm 0 rfl rfl) rfl (fun _ T => Zw (Zwy rfl rfl (T.e 0 rfl) rfl) (Zrg 0 rfl (T.e 4 rfl))) rfl (fun _ T => Zw (Zwy rfl rfl (T.e 1 rfl) rfl) (Zro (Mem.nth M 0 rfl) rfl (T.e 0 rfl) rfl)) rfl (fun _ T => Zw (Zwy rfl rfl (T.e 2 rfl) rfl) (rn_lss rfl (T.e 0 rfl) evc)) rfl (fun _ T => Zq (Zr0 rfl (T.e 3 rfl) rfl (T.e 0 rfl))) rfl (Zm 0 rfl rfl) rfl ?_; clear T ac; intro ac T
  rcases Zx9 (decide (x0 < 0)) with h1 | h1
  ·replace h1 := of_decide_eq_true h1
   refine Zg8 T (Zp (Zwn rfl rfl (T.e 0 rfl) (Zdt h1))) rfl (fun _ T => Zp (Zwn rfl rfl (T.e 1 rfl) (Zdt h1))) rfl (fun _ T => Zp (Zwn rfl rfl (T.e 2 rfl) (Zdt h1))) rfl (fun _ T => Zp (Zwn rfl rfl (T.e 3 rfl) (Zdt h1))) rfl (fun _ T => Zp (Zwn rfl rfl (T.e 4 rfl) (Zdt h1))) rfl (fun _ T => Zq (Zr1 rfl (T.e 5 rfl) (Zdt h1) evc)) rfl (Zm 0 rfl rfl) rfl (fun _ T => Zp (Zwn rfl rfl (T.e 0 rfl) rfl)) rfl ?_; clear T ac; intro ac T
   refine Zg3 T (Zp (Zwn rfl rfl (T.e 1 rfl) rfl)) rfl (fun _ T => Zp (Zwn rfl rfl (T.e 2 rfl) rfl)) rfl (fun _ T => Zq (Zr1 rfl (T.e 3 rfl) rfl evc)) rfl ?_; clear T ac; intro ac T
   refine wpList_nil ?_
   refine nqR_n M ?_; clear M; intro wc M
   replace SGu2 := SGu2.pt
   replace SI := SI.pt
   replace T := T.pick [0, 20, 21, 22, 23] rfl
   exact ⟨(T.pick (E' := [(4, Zj g1), (7, Zi xu3), (8, Zi xu4), (9, Zj g2), (56, .bool true)]) [4, 3, 2, 1, 0] rfl).as (by (try rw [show (decide (x0 < 0)) = true from (Zdt h1)]); (try rfl)), M.mask [true, true] rfl⟩
  replace h1 := of_decide_eq_false h1
  refine Zg7 (v1 := (Zj g2)) (v3 := (.pointer (some ⟨g2, 1, none⟩))) T (Zw (Zwy rfl rfl (T.e 0 rfl) (Zdf h1)) (Zrg 0 rfl (T.e 9 rfl))) rfl (fun _ T => Zw (Zwy rfl rfl (T.e 1 rfl) (Zdf h1)) (Zro (Mem.nth M 0 rfl) rfl (T.e 0 rfl) rfl)) rfl (fun _ T => Zw (Zwy rfl rfl (T.e 2 rfl) (Zdf h1)) (Zrg 1 rfl (T.e 11 rfl))) rfl (fun _ T => Zw (Zwy rfl rfl (T.e 3 rfl) (Zdf h1)) (Zro (Mem.nth M 0 rfl) rfl (T.e 0 rfl) rfl)) rfl (fun _ T => Zw (Zwy rfl rfl (T.e 4 rfl) (Zdf h1)) (rn_gtr rfl (T.e 2 rfl) (T.e 0 rfl))) rfl (fun _ T => Zq (Zr0 rfl (T.e 5 rfl) (Zdf h1) (T.e 0 rfl))) rfl (Zm 0 rfl rfl) rfl ?_; clear T ac; intro ac T
  rcases Zx9 (decide (x1 < x0)) with h2 | h2
  ·replace h2 := of_decide_eq_true h2
   refine Zg4 T (Zp (Zwn rfl rfl (T.e 0 rfl) (Zdt h2))) rfl (fun _ T => Zp (Zwn rfl rfl (T.e 1 rfl) (Zdt h2))) rfl (fun _ T => Zp (Zwn rfl rfl (T.e 2 rfl) (Zdt h2))) rfl (fun _ T => Zq (Zr1 rfl (T.e 3 rfl) (Zdt h2) evc)) rfl ?_; clear T ac; intro ac T
   refine wpList_nil ?_
   refine nqR_n M ?_; clear M; intro wc M
   replace SGu2 := SGu2.pt
   replace SI := SI.pt
   replace T := T.pick [0, 20, 21, 22, 23] rfl
   exact ⟨(T.pick (E' := [(4, Zj g1), (7, Zi xu3), (8, Zi xu4), (9, Zj g2), (56, .bool true)]) [4, 3, 2, 1, 0] rfl).as (by (try rw [show (decide (x0 < 0)) = false from (Zdf h1)]); (try rw [show (decide (x1 < x0)) = true from (Zdt h2)]); (try rfl)), M.mask [true, true] rfl⟩
  replace h2 := of_decide_eq_false h2
  refine Zg4 (v1 := (.pointer (some ⟨g2, 1, none⟩))) T (Zw (Zwy rfl rfl (T.e 0 rfl) (Zdf h2)) (Zrg 1 rfl (T.e 16 rfl))) rfl (fun _ T => Zw (Zwy rfl rfl (T.e 1 rfl) (Zdf h2)) (Zro (Mem.nth M 0 rfl) rfl (T.e 0 rfl) rfl)) rfl (fun _ T => Zw (Zwy rfl rfl (T.e 2 rfl) (Zdf h2)) (rn_gtr rfl (T.e 0 rfl) evc)) rfl (fun _ T => Zq (Zr0 rfl (T.e 3 rfl) (Zdf h2) (T.e 0 rfl))) rfl ?_; clear T ac; intro ac T
  refine wpList_nil ?_
  refine nqR_n M ?_; clear M; intro wc M
  replace SGu2 := SGu2.pt
  replace SI := SI.pt
  replace T := T.pick [0, 20, 21, 22, 23] rfl
  exact ⟨(T.pick (E' := [(4, Zj g1), (7, Zi xu3), (8, Zi xu4), (9, Zj g2), (56, .bool (decide (600 < x1)))]) [4, 3, 2, 1, 0] rfl).as (by (try rw [show (decide (x0 < 0)) = false from (Zdf h1)]); (try rw [show (decide (x1 < x0)) = false from (Zdf h2)]); (try rfl)), M.mask [true, true] rfl⟩
 clear T M
 rintro ac wc ⟨T, M⟩
 refine wB_cond_split hP (T.e 4 rfl) ?_ ?_
 ·intro h3
  (have h3' := h3; try simp only [Zb1, Zb2, Zb3, Zb4, Zb5, Zb6, Zb7] at h3')
  refine wpB_seq hP ?_
  refine b_lone hP w fun T9 => ?_
  replace M := M.tp T9 0 0
  replace SGu2 := SGu2.tp T9 0
  replace SI := SI.tp T9 0
  refine wp_region_lit ?_
  refine lq T (Zra rfl evc) ?_; clear T ac; intro ac T
  refine wpList_nil ?_
  refine nqR_n M ?_; clear M; intro wc M
  replace SGu2 := SGu2.pt
  replace SI := SI.pt
  replace T := T.pick [0] rfl
  replace M := M.mask [false, false] rfl
  refine nm_then ?_
  refine wpB_ret hP ?_
  refine Zrt ?_
  refine rt_1 T rfl (T.e 0 rfl) ?_
  exfalso
  first | omega | (simp_all; done) | (simp_all; omega)
 intro h3
 (have h3' := h3; try simp only [Zb1, Zb2, Zb3, Zb4, Zb5, Zb6, Zb7] at h3')
 refine wpB_skip hP ?_
 refine nm_then ?_
 refine cutB_seq hP (fun ac wc => Tm ac 158 [(4, Zj g1), (7, Zi xu3), (8, Zi xu4), (9, Zj g2)] ∧ Mem w noEx wc ((g2, .cells [Zi x0, Zi x1]) :: (g1, .cells [Zi bu2.full, Zi bu2.a0, Zi bu2.a1, .slice Abu2 bu2.cs.length cbu2, .slice Dbu2 bu2.ts.length dbu2]) :: Ibu2)) ?_ ?_
 ·refine cutB_seq hP (fun ac wc => Tm ac 158 [(4, Zj g1), (7, Zi xu3), (8, Zi xu4), (9, Zj g2), (64, .bool ((decide (0 < x0)) && (decide (x0 ≤ 20))))] ∧ Mem w noEx wc ((g2, .cells [Zi x0, Zi x1]) :: (g1, .cells [Zi bu2.full, Zi bu2.a0, Zi bu2.a1, .slice Abu2 bu2.cs.length cbu2, .slice Dbu2 bu2.ts.length dbu2]) :: Ibu2)) ?_ ?_
  ·refine b_lone hP w fun T9 => ?_
   replace M := M.tp T9 0 0
   replace SGu2 := SGu2.tp T9 0
   replace SI := SI.tp T9 0
   refine wp_region_lit ?_
   refine Zg4 (v1 := (Zj g2)) T (Zq (Zrg 0 rfl (T.e 3 rfl))) rfl (Zo M 0 0 rfl rfl rfl rfl) rfl (fun _ T => Zq (rn_gtr rfl (T.e 0 rfl) evc)) rfl (Zm 0 rfl rfl) rfl ?_; clear T ac; intro ac T
   rcases Zx9 (decide (0 < x0)) with h4 | h4
   ·replace h4 := of_decide_eq_true h4
    refine Zg4 (v1 := (Zj g2)) T (Zw (Zwy rfl rfl (T.e 0 rfl) (Zdt h4)) (Zrg 0 rfl (T.e 7 rfl))) rfl (fun _ T => Zw (Zwy rfl rfl (T.e 1 rfl) (Zdt h4)) (Zro (Mem.nth M 0 rfl) rfl (T.e 0 rfl) rfl)) rfl (fun _ T => Zw (Zwy rfl rfl (T.e 2 rfl) (Zdt h4)) (rn_leq rfl (T.e 0 rfl) evc)) rfl (fun _ T => Zq (Zr1 rfl (T.e 3 rfl) (Zdt h4) (T.e 0 rfl))) rfl ?_; clear T ac; intro ac T
    refine wpList_nil ?_
    refine nqR_n M ?_; clear M; intro wc M
    replace SGu2 := SGu2.pt
    replace SI := SI.pt
    replace T := T.pick [0, 8, 9, 10, 11] rfl
    exact ⟨(T.pick (E' := [(4, Zj g1), (7, Zi xu3), (8, Zi xu4), (9, Zj g2), (64, .bool (decide (x0 ≤ 20)))]) [1, 2, 3, 4, 0] rfl).as (by (try rw [show (decide (0 < x0)) = true from (Zdt h4)]); (try rfl)), M.mask [true, true] rfl⟩
   replace h4 := of_decide_eq_false h4
   refine Zg4 T (Zp (Zwn rfl rfl (T.e 0 rfl) (Zdf h4))) rfl (fun _ T => Zp (Zwn rfl rfl (T.e 1 rfl) (Zdf h4))) rfl (fun _ T => Zp (Zwn rfl rfl (T.e 2 rfl) (Zdf h4))) rfl (fun _ T => Zq (Zr0 rfl (T.e 3 rfl) (Zdf h4) evc)) rfl ?_; clear T ac; intro ac T
   refine wpList_nil ?_
   refine nqR_n M ?_; clear M; intro wc M
   replace SGu2 := SGu2.pt
   replace SI := SI.pt
   replace T := T.pick [0, 8, 9, 10, 11] rfl
   exact ⟨(T.pick (E' := [(4, Zj g1), (7, Zi xu3), (8, Zi xu4), (9, Zj g2), (64, .bool false)]) [1, 2, 3, 4, 0] rfl).as (by (try rw [show (decide (0 < x0)) = false from (Zdf h4)]); (try rfl)), M.mask [true, true] rfl⟩
  clear T M
  rintro ac wc ⟨T, M⟩
  refine wB_cond_split hP (T.e 4 rfl) ?_ ?_
  ·intro h5
   (have h5' := h5; try simp only [Zb1, Zb2, Zb3, Zb4, Zb5, Zb6, Zb7] at h5')
   refine wpB_seq hP ?_
   refine gB_start2 hP M (M.mask [true, true] rfl) 15 (by kernel_rfl) rfl (by kernel_rfl) ?_
   clear M; intro wc M
   refine gB_have (fun ac wc => ∃ (gr8_8 gr8_6 : Nat), Tm ac 158 [(74, .slice (some ⟨gr8_8, 0, none⟩) 1 1), (72, .slice (some ⟨gr8_6, 0, none⟩) 1 1), (71, .agg #[Zi x0, Zi xu3, Zi xu3, .bool false]), (73, Zi xu4), (70, Zi xu3), (69, Zi xu3), (68, Zi x0), (67, Zj g2), (66, .agg #[Zi bu2.full, Zi bu2.a0, Zi bu2.a1, .slice Abu2 bu2.cs.length cbu2, .slice Dbu2 bu2.ts.length dbu2]), (4, Zj g1), (7, Zi xu3), (8, Zi xu4), (9, Zj g2), (64, .bool ((decide (0 < x0)) && (decide (x0 ≤ 20))))] ∧ Mem w noEx wc ((gr8_8, .cells [Zi xu4]) :: (gr8_6, .cells [Zi x0, Zi xu3, Zi xu3, .bool false]) :: (g2, .cells [Zi x0, Zi x1]) :: (g1, .cells [Zi bu2.full, Zi bu2.a0, Zi bu2.a1, .slice Abu2 bu2.cs.length cbu2, .slice Dbu2 bu2.ts.length dbu2]) :: Ibu2)) (Zpb 15 511) 6 ?_ ?_
   ·clear T M
    rintro ac wc ⟨gr8_8, gr8_6, T, M⟩
    obtain ⟨hA9, hD9, hop9⟩ := hBiu2.rd M (.cons _ (.cons _ (.cons _ (.cons _ (List.Sublist.refl _)))))
    obtain ⟨nA9, nD9, nop9⟩ := hBiu2.few
    refine gB_one (i := 9) (by kernel_rfl) (by kernel_rfl : (Zpb 15 511).setIfInBounds 9 true = Zpb 15 1023) (opB_call (first := []) (cap := []) T rfl rfl rfl rfl rfl evf (.cons (T.e 8 rfl) (.cons (T.e 1 rfl) (.cons (T.e 0 rfl) .nil))) Try.func38 rfl rfl (Plays_any hP bu2 Abu2 cbu2 Dbu2 dbu2 [oneN x0 xu3] (some ⟨gr8_6, 0, none⟩) 1 (some ⟨gr8_8, 0, none⟩) 1 ([xu4]) _ hA9 hD9 hop9 nA9 nD9 nop9 (M.rdOwn (Zne (i := 1) rfl) rfl rfl) (by simp) (M.rdOwn (Zne (i := 0) rfl) rfl rfl) (by simp)) ?_ rfl)
    clear T
    rintro e wc ⟨rfl, hb⟩
    refine ⟨_, rfl, ?_⟩
    intro ac T
    replace M := M.call hb; clear hb
    obtain ⟨v0ur8_9, hvur8_9⟩ := hP9 x0 (by omega) (by omega)
    rw [v0ur8_9] at T
    obtain ⟨pvur8_9, hpvur8_9⟩ : ∃ q, q = plaV bu2 [oneN x0 xu3] [xu4] := ⟨_, rfl⟩
    rw [← hpvur8_9] at T hvur8_9
    clear v0ur8_9 hpvur8_9
    refine ⟨(M.mask [false, false, true, true] rfl), ?_⟩
    refine gB_q (T := T) (i := 10) rfl (by kernel_rfl) (by kernel_rfl : (Zpb 15 1023).setIfInBounds 10 true = Zpb 15 2047) (fun _ => si_U) rfl rfl rfl rfl (fun _ _ _ _ _ _ => (Zrm rfl (T.e 0 rfl))) ?_; clear T ac; intro ac T
    refine gB_q (T := T) (i := 11) rfl (by kernel_rfl) (by kernel_rfl : (Zpb 15 2047).setIfInBounds 11 true = Zpb 15 4095) (fun _ => si_U) rfl rfl rfl rfl (fun _ _ _ _ _ _ => (Zre rfl (T.e 0 rfl) rfl)) ?_; clear T ac; intro ac T
    refine gB_q (T := T) (i := 12) rfl (by kernel_rfl) (by kernel_rfl : (Zpb 15 4095).setIfInBounds 12 true = Zpb 15 8191) (fun _ => si_U) rfl rfl rfl rfl (fun _ _ _ _ _ _ => (Zre rfl (T.e 1 rfl) rfl)) ?_; clear T ac; intro ac T
    refine gB_q (T := T) (i := 13) rfl (by kernel_rfl) (by kernel_rfl : (Zpb 15 8191).setIfInBounds 13 true = Zpb 15 16383) (fun _ => si_U) rfl rfl rfl rfl (fun _ _ _ _ _ _ => (Zra rfl (T.e 1 rfl))) ?_; clear T ac; intro ac T
    refine gB_q (T := T) (i := 14) rfl (by kernel_rfl) (by kernel_rfl : (Zpb 15 16383).setIfInBounds 14 true = Zpb 15 32767) (fun _ => si_U) rfl rfl rfl rfl (fun _ _ _ _ _ _ => (Zra rfl (T.e 1 rfl))) ?_; clear T ac; intro ac T
    refine gB_done (by kernel_rfl) M ?_; clear M; intro wc M
    replace T := T.pick [0, 1, 15, 16, 17, 18] rfl
    replace M := M.mask [false, false, true, true] rfl
    refine nm_then ?_
    refine wpB_seq hP ?_
    refine b_lone hP w fun T9 => ?_
    replace M := M.tp T9 0 0
    replace SGu2 := SGu2.tp T9 0
    replace SI := SI.tp T9 0
    refine wp_region_lit ?_
    refine Zg6 (v2 := (.bool false)) T (Zq (Zrm rfl (T.e 0 rfl))) rfl (fun _ T => Zq (Zrq (rn_neq rfl (T.e 0 rfl) evc) (by simp))) rfl (Zm 0 rfl rfl) rfl (fun _ T => Zw (Zwy rfl rfl (T.e 0 rfl) rfl) (Zrm rfl (T.e 4 rfl))) rfl (fun _ T => Zw (Zwy rfl rfl (T.e 1 rfl) rfl) (rn_neq rfl (T.e 0 rfl) evc)) rfl (fun _ T => Zq (Zr0 rfl (T.e 2 rfl) rfl (T.e 0 rfl))) rfl ?_; clear T ac; intro ac T
    refine wpList_nil ?_
    refine nqR_n M ?_; clear M; intro wc M
    replace SGu2 := SGu2.pt
    replace SI := SI.pt
    replace T := T.pick [0, 8, 9, 10, 11] rfl
    refine nm_then ?_
    refine wB_ifn hP (T.e 0 rfl) ?_ ?_
    ·intro h6
     refine wpB_seq hP ?_
     refine b_lone hP w fun T9 => ?_
     replace M := M.tp T9 0 0
     replace SGu2 := SGu2.tp T9 0
     replace SI := SI.tp T9 0
     refine wp_region_lit ?_
     refine lq T (Zra rfl evc) ?_; clear T ac; intro ac T
     refine wpList_nil ?_
     refine nqR_n M ?_; clear M; intro wc M
     replace SGu2 := SGu2.pt
     replace SI := SI.pt
     replace T := T.pick [0] rfl
     replace M := M.mask [false, false] rfl
     refine nm_then ?_
     refine wpB_ret hP ?_
     refine Zrt ?_
     refine rt_1 T rfl (T.e 0 rfl) ?_
     exfalso
     first | omega | (simp_all; done) | (simp_all; omega)
    intro h6
    refine wpB_skip hP ?_
    exact ⟨(T.pick (E' := [(4, Zj g1), (7, Zi xu3), (8, Zi xu4), (9, Zj g2)]) [1, 2, 3, 4] rfl).as (by (try rw [show ((decide (0 < x0)) && (decide (x0 ≤ 20))) = true from h5]); (try rw [show (!(decide (pvur8_9 = 1))) = false from (by simp [h6])]); (try rfl)), M.mask [true, true] rfl⟩
   intro H1
   refine gB_have (fun ac wc => ∃ (gr8_8 : Nat), Tm ac 158 [(74, .slice (some ⟨gr8_8, 0, none⟩) 1 1), (71, .agg #[Zi x0, Zi xu3, Zi xu3, .bool false]), (73, Zi xu4), (70, Zi xu3), (69, Zi xu3), (68, Zi x0), (67, Zj g2), (66, .agg #[Zi bu2.full, Zi bu2.a0, Zi bu2.a1, .slice Abu2 bu2.cs.length cbu2, .slice Dbu2 bu2.ts.length dbu2]), (4, Zj g1), (7, Zi xu3), (8, Zi xu4), (9, Zj g2), (64, .bool ((decide (0 < x0)) && (decide (x0 ≤ 20))))] ∧ Mem w noEx wc ((gr8_8, .cells [Zi xu4]) :: (g2, .cells [Zi x0, Zi x1]) :: (g1, .cells [Zi bu2.full, Zi bu2.a0, Zi bu2.a1, .slice Abu2 bu2.cs.length cbu2, .slice Dbu2 bu2.ts.length dbu2]) :: Ibu2)) (Zpb 15 447) 7 ?_ ?_
   ·clear T M
    rintro ac wc ⟨gr8_8, T, M⟩
    refine gB_w (i := 6) (by kernel_rfl) rfl (by kernel_rfl : (Zpb 15 447).setIfInBounds 6 true = Zpb 15 511) rfl ?_; intro T9 K hK
    replace M := M.tp T9 0 0
    replace SGu2 := SGu2.tp T9 0
    replace SI := SI.tp T9 0
    refine ow_bs (e := 70) [Zi x0, Zi xu3, Zi xu3, .bool false] M T rfl rfl rfl rfl (.cons (T.e 1 rfl) .nil) (fun _ => by kernel_rfl) ?_; clear M T; intro gr8_6 wc ac M T
    refine gB_out hK M ?_; clear hK K M; intro wc M
    replace SGu2 := SGu2.pt
    replace SI := SI.pt
    refine ⟨(M.mask [false, false, true, true] rfl), ?_⟩
    exact H1 _ _ ⟨gr8_8, gr8_6, T.pick [1, 0, 2, 3, 4, 5, 6, 7, 8, 9, 10, 11, 12, 13] rfl, M.permT [1, 0, 2, 3] 4 rfl rfl rfl rfl⟩
   intro H0
   refine gB_q (T := T) (i := 0) rfl (by kernel_rfl) (by kernel_rfl : (Zpb 15 0).setIfInBounds 0 true = Zpb 15 1) (fun _ => si_U) rfl rfl rfl rfl (fun T9 B w' hD hl hS => (Zrr (Mem.nth (show Mem (Bq.tp w T9 0) noEx w' _ from hS) 1 rfl) rfl (T.e 0 rfl) rfl)) ?_; clear T ac; intro ac T
   refine gB_q (v := (Zj g2)) (T := T) (i := 1) rfl (by kernel_rfl) (by kernel_rfl : (Zpb 15 1).setIfInBounds 1 true = Zpb 15 3) (fun _ => si_U) rfl rfl rfl rfl (fun _ _ _ _ _ _ => (Zrg 0 rfl (T.e 4 rfl))) ?_; clear T ac; intro ac T
   refine gB_q (T := T) (i := 2) rfl (by kernel_rfl) (by kernel_rfl : (Zpb 15 3).setIfInBounds 2 true = Zpb 15 7) (fun _ => si_U) rfl rfl rfl rfl (fun T9 B w' hD hl hS => (Zro (Mem.nth (show Mem (Bq.tp w T9 0) noEx w' _ from hS) 0 rfl) rfl (T.e 0 rfl) rfl)) ?_; clear T ac; intro ac T
   refine gB_q (T := T) (i := 3) rfl (by kernel_rfl) (by kernel_rfl : (Zpb 15 7).setIfInBounds 3 true = Zpb 15 15) (fun _ => si_U) rfl rfl rfl rfl (fun _ _ _ _ _ _ => (Zrm rfl (T.e 4 rfl))) ?_; clear T ac; intro ac T
   refine gB_q (T := T) (i := 4) rfl (by kernel_rfl) (by kernel_rfl : (Zpb 15 15).setIfInBounds 4 true = Zpb 15 31) (fun _ => si_U) rfl rfl rfl rfl (fun _ _ _ _ _ _ => (Zrm rfl (T.e 5 rfl))) ?_; clear T ac; intro ac T
   refine gB_q (T := T) (i := 7) rfl (by kernel_rfl) (by kernel_rfl : (Zpb 15 31).setIfInBounds 7 true = Zpb 15 159) (fun _ => si_U) rfl rfl rfl rfl (fun _ _ _ _ _ _ => (Zrm rfl (T.e 7 rfl))) ?_; clear T ac; intro ac T
   refine gB_m2 (i := 5) (j := 8) (by kernel_rfl) ?_ ?_
   ·refine gB_i rfl (by kernel_rfl : (Zpb 15 159).setIfInBounds 5 true = Zpb 15 191) rfl ?_; intro T9 K hK
    replace M := M.tp T9 0 0
    replace SGu2 := SGu2.tp T9 0
    replace SI := SI.tp T9 0
    refine Zod T rfl rfl rfl rfl evf (.cons (T.e 3 rfl) (.cons (T.e 2 rfl) (.cons (T.e 1 rfl) (.cons evc .nil)))) Try.func44 rfl rfl ?_
    refine Calls.mono (note_any x0 xu3 xu3 false _) ?_
    clear T; rintro e wc ⟨rfl, hb⟩ ac T
    replace M := M.call hb; clear hb
    refine gB_out hK M ?_; clear hK K M; intro wc M
    replace SGu2 := SGu2.pt
    replace SI := SI.pt
    refine ⟨(M.mask [true, true] rfl), ?_⟩
    refine gB_m2 (i := 6) (j := 8) (by kernel_rfl) ?_ ?_
    ·refine gB_i rfl (by kernel_rfl : (Zpb 15 191).setIfInBounds 6 true = Zpb 15 255) rfl ?_; intro T9 K hK
     replace M := M.tp T9 0 0
     replace SGu2 := SGu2.tp T9 0
     replace SI := SI.tp T9 0
     refine ow_bs (e := 70) [Zi x0, Zi xu3, Zi xu3, .bool false] M T rfl rfl rfl rfl (.cons (T.e 0 rfl) .nil) (fun _ => by kernel_rfl) ?_; clear M T; intro gr8_6 wc ac M T
     refine gB_out hK M ?_; clear hK K M; intro wc M
     replace SGu2 := SGu2.pt
     replace SI := SI.pt
     refine ⟨(M.mask [false, true, true] rfl), ?_⟩
     refine gB_w (i := 8) (by kernel_rfl) rfl (by kernel_rfl : (Zpb 15 255).setIfInBounds 8 true = Zpb 15 511) rfl ?_; intro T9 K hK
     replace M := M.tp T9 0 0
     replace SGu2 := SGu2.tp T9 0
     replace SI := SI.tp T9 0
     refine ow_bs (e := 3) [Zi xu4] M T rfl rfl rfl rfl (.cons (T.e 2 rfl) .nil) (fun _ => by kernel_rfl) ?_; clear M T; intro gr8_8 wc ac M T
     refine gB_out hK M ?_; clear hK K M; intro wc M
     replace SGu2 := SGu2.pt
     replace SI := SI.pt
     refine ⟨(M.mask [false, false, true, true] rfl), ?_⟩
     exact H1 _ _ ⟨gr8_8, gr8_6, T, M⟩
    refine gB_i rfl (by kernel_rfl : (Zpb 15 191).setIfInBounds 8 true = Zpb 15 447) rfl ?_; intro T9 K hK
    replace M := M.tp T9 0 0
    replace SGu2 := SGu2.tp T9 0
    replace SI := SI.tp T9 0
    refine ow_bs (e := 3) [Zi xu4] M T rfl rfl rfl rfl (.cons (T.e 1 rfl) .nil) (fun _ => by kernel_rfl) ?_; clear M T; intro gr8_8 wc ac M T
    refine gB_out hK M ?_; clear hK K M; intro wc M
    replace SGu2 := SGu2.pt
    replace SI := SI.pt
    refine ⟨(M.mask [false, true, true] rfl), ?_⟩
    exact H0 _ _ ⟨gr8_8, T, M⟩
   refine gB_i rfl (by kernel_rfl : (Zpb 15 159).setIfInBounds 8 true = Zpb 15 415) rfl ?_; intro T9 K hK
   replace M := M.tp T9 0 0
   replace SGu2 := SGu2.tp T9 0
   replace SI := SI.tp T9 0
   refine ow_bs (e := 3) [Zi xu4] M T rfl rfl rfl rfl (.cons (T.e 0 rfl) .nil) (fun _ => by kernel_rfl) ?_; clear M T; intro gr8_8 wc ac M T
   refine gB_out hK M ?_; clear hK K M; intro wc M
   replace SGu2 := SGu2.pt
   replace SI := SI.pt
   refine ⟨(M.mask [false, true, true] rfl), ?_⟩
   refine gB_w (i := 5) (by kernel_rfl) rfl (by kernel_rfl : (Zpb 15 415).setIfInBounds 5 true = Zpb 15 447) rfl ?_; intro T9 K hK
   replace M := M.tp T9 0 0
   replace SGu2 := SGu2.tp T9 0
   replace SI := SI.tp T9 0
   refine Zod T rfl rfl rfl rfl evf (.cons (T.e 4 rfl) (.cons (T.e 3 rfl) (.cons (T.e 2 rfl) (.cons evc .nil)))) Try.func44 rfl rfl ?_
   refine Calls.mono (note_any x0 xu3 xu3 false _) ?_
   clear T; rintro e wc ⟨rfl, hb⟩ ac T
   replace M := M.call hb; clear hb
   refine gB_out hK M ?_; clear hK K M; intro wc M
   replace SGu2 := SGu2.pt
   replace SI := SI.pt
   refine ⟨(M.mask [false, true, true] rfl), ?_⟩
   exact H0 _ _ ⟨gr8_8, T.pick [1, 0, 2, 3, 4, 5, 6, 7, 8, 9, 10, 11, 12] rfl, M⟩
  intro h5
  (have h5' := h5; try simp only [Zb1, Zb2, Zb3, Zb4, Zb5, Zb6, Zb7] at h5')
  refine wpB_skip hP ?_
  exact ⟨(T.pick (E' := [(4, Zj g1), (7, Zi xu3), (8, Zi xu4), (9, Zj g2)]) [0, 1, 2, 3] rfl).as (by (try rw [show ((decide (0 < x0)) && (decide (x0 ≤ 20))) = false from h5]); (try rfl)), M.mask [true, true] rfl⟩
 clear T M
 rintro ac wc ⟨T, M⟩
 refine cutB_seq hP (fun ac wc => Tm ac 158 [(4, Zj g1), (7, Zi xu3), (8, Zi xu4), (9, Zj g2)] ∧ Mem w noEx wc ((g2, .cells [Zi x0, Zi x1]) :: (g1, .cells [Zi bu2.full, Zi bu2.a0, Zi bu2.a1, .slice Abu2 bu2.cs.length cbu2, .slice Dbu2 bu2.ts.length dbu2]) :: Ibu2)) ?_ ?_
 ·refine wpB_seq hP ?_
  refine b_lone hP w fun T9 => ?_
  replace M := M.tp T9 0 0
  replace SGu2 := SGu2.tp T9 0
  replace SI := SI.tp T9 0
  refine wp_region_lit ?_
  refine Zg3 (v1 := (Zj g2)) T (Zq (Zrg 0 rfl (T.e 3 rfl))) rfl (Zo M 0 0 rfl rfl rfl rfl) rfl (fun _ T => Zq (rn_lss rfl (T.e 0 rfl) evc)) rfl ?_; clear T ac; intro ac T
  refine wpList_nil ?_
  refine nqR_n M ?_; clear M; intro wc M
  replace SGu2 := SGu2.pt
  replace SI := SI.pt
  replace T := T.pick [0, 3, 4, 5, 6] rfl
  refine nm_then ?_
  refine wB_if hP (T.e 0 rfl) ?_ ?_
  ·intro h7
   refine wpB_seq hP ?_
   refine gB_start2 hP M (M.mask [true, true] rfl) 16 (by kernel_rfl) rfl (by kernel_rfl) ?_
   clear M; intro wc M
   refine gB_have (fun ac wc => ∃ (gr12_9 gr12_7 : Nat), Tm ac 158 [(97, .slice (some ⟨gr12_9, 0, none⟩) 1 1), (95, .slice (some ⟨gr12_7, 0, none⟩) 1 1), (94, .agg #[Zi (x0 + 1), Zi xu3, Zi xu3, .bool false]), (96, Zi xu4), (93, Zi xu3), (92, Zi xu3), (91, Zi (x0 + 1)), (90, Zi x0), (89, Zj g2), (88, .agg #[Zi bu2.full, Zi bu2.a0, Zi bu2.a1, .slice Abu2 bu2.cs.length cbu2, .slice Dbu2 bu2.ts.length dbu2]), (86, .bool (decide (x0 < 20))), (4, Zj g1), (7, Zi xu3), (8, Zi xu4), (9, Zj g2)] ∧ Mem w noEx wc ((gr12_9, .cells [Zi xu4]) :: (gr12_7, .cells [Zi (x0 + 1), Zi xu3, Zi xu3, .bool false]) :: (g2, .cells [Zi x0, Zi x1]) :: (g1, .cells [Zi bu2.full, Zi bu2.a0, Zi bu2.a1, .slice Abu2 bu2.cs.length cbu2, .slice Dbu2 bu2.ts.length dbu2]) :: Ibu2)) (Zpb 16 1023) 6 ?_ ?_
   ·clear T M
    rintro ac wc ⟨gr12_9, gr12_7, T, M⟩
    obtain ⟨hA9, hD9, hop9⟩ := hBiu2.rd M (.cons _ (.cons _ (.cons _ (.cons _ (List.Sublist.refl _)))))
    obtain ⟨nA9, nD9, nop9⟩ := hBiu2.few
    refine gB_one (i := 10) (by kernel_rfl) (by kernel_rfl : (Zpb 16 1023).setIfInBounds 10 true = Zpb 16 2047) (opB_call (first := []) (cap := []) T rfl rfl rfl rfl rfl evf (.cons (T.e 9 rfl) (.cons (T.e 1 rfl) (.cons (T.e 0 rfl) .nil))) Try.func38 rfl rfl (Plays_any hP bu2 Abu2 cbu2 Dbu2 dbu2 [oneN (x0 + 1) xu3] (some ⟨gr12_7, 0, none⟩) 1 (some ⟨gr12_9, 0, none⟩) 1 ([xu4]) _ hA9 hD9 hop9 nA9 nD9 nop9 (M.rdOwn (Zne (i := 1) rfl) rfl rfl) (by simp) (M.rdOwn (Zne (i := 0) rfl) rfl rfl) (by simp)) ?_ rfl)
    clear T
    rintro e wc ⟨rfl, hb⟩
    refine ⟨_, rfl, ?_⟩
    intro ac T
    replace M := M.call hb; clear hb
    obtain ⟨v0ur12_10, hvur12_10⟩ := hP9 (x0 + 1) (by omega) (by omega)
    rw [v0ur12_10] at T
    obtain ⟨pvur12_10, hpvur12_10⟩ : ∃ q, q = plaV bu2 [oneN (x0 + 1) xu3] [xu4] := ⟨_, rfl⟩
    rw [← hpvur12_10] at T hvur12_10
    clear v0ur12_10 hpvur12_10
    refine ⟨(M.mask [false, false, true, true] rfl), ?_⟩
    refine gB_q (T := T) (i := 11) rfl (by kernel_rfl) (by kernel_rfl : (Zpb 16 2047).setIfInBounds 11 true = Zpb 16 4095) (fun _ => si_U) rfl rfl rfl rfl (fun _ _ _ _ _ _ => (Zrm rfl (T.e 0 rfl))) ?_; clear T ac; intro ac T
    refine gB_q (T := T) (i := 12) rfl (by kernel_rfl) (by kernel_rfl : (Zpb 16 4095).setIfInBounds 12 true = Zpb 16 8191) (fun _ => si_U) rfl rfl rfl rfl (fun _ _ _ _ _ _ => (Zre rfl (T.e 0 rfl) rfl)) ?_; clear T ac; intro ac T
    refine gB_q (T := T) (i := 13) rfl (by kernel_rfl) (by kernel_rfl : (Zpb 16 8191).setIfInBounds 13 true = Zpb 16 16383) (fun _ => si_U) rfl rfl rfl rfl (fun _ _ _ _ _ _ => (Zre rfl (T.e 1 rfl) rfl)) ?_; clear T ac; intro ac T
    refine gB_q (T := T) (i := 14) rfl (by kernel_rfl) (by kernel_rfl : (Zpb 16 16383).setIfInBounds 14 true = Zpb 16 32767) (fun _ => si_U) rfl rfl rfl rfl (fun _ _ _ _ _ _ => (Zra rfl (T.e 1 rfl))) ?_; clear T ac; intro ac T
    refine gB_q (T := T) (i := 15) rfl (by kernel_rfl) (by kernel_rfl : (Zpb 16 32767).setIfInBounds 15 true = Zpb 16 65535) (fun _ => si_U) rfl rfl rfl rfl (fun _ _ _ _ _ _ => (Zra rfl (T.e 1 rfl))) ?_; clear T ac; intro ac T
    refine gB_done (by kernel_rfl) M ?_; clear M; intro wc M
    replace T := T.pick [0, 1, 17, 18, 19, 20] rfl
    replace M := M.mask [false, false, true, true] rfl
    refine nm_then ?_
    refine wpB_seq hP ?_
    refine b_lone hP w fun T9 => ?_
    replace M := M.tp T9 0 0
    replace SGu2 := SGu2.tp T9 0
    replace SI := SI.tp T9 0
    refine wp_region_lit ?_
    refine Zg6 (v2 := (.bool false)) T (Zq (Zrm rfl (T.e 0 rfl))) rfl (fun _ T => Zq (Zrq (rn_neq rfl (T.e 0 rfl) evc) (by simp))) rfl (Zm 0 rfl rfl) rfl (fun _ T => Zw (Zwy rfl rfl (T.e 0 rfl) rfl) (Zrm rfl (T.e 4 rfl))) rfl (fun _ T => Zw (Zwy rfl rfl (T.e 1 rfl) rfl) (rn_eql rfl (T.e 0 rfl) evc)) rfl (fun _ T => Zq (Zr0 rfl (T.e 2 rfl) rfl (T.e 0 rfl))) rfl ?_; clear T ac; intro ac T
    refine wpList_nil ?_
    refine nqR_n M ?_; clear M; intro wc M
    replace SGu2 := SGu2.pt
    replace SI := SI.pt
    replace T := T.pick [0, 8, 9, 10, 11] rfl
    refine nm_then ?_
    refine wB_if hP (T.e 0 rfl) ?_ ?_
    ·intro h8
     refine wpB_seq hP ?_
     refine b_lone hP w fun T9 => ?_
     replace M := M.tp T9 0 0
     replace SGu2 := SGu2.tp T9 0
     replace SI := SI.tp T9 0
     refine wp_region_lit ?_
     refine lq T (Zra rfl evc) ?_; clear T ac; intro ac T
     refine wpList_nil ?_
     refine nqR_n M ?_; clear M; intro wc M
     replace SGu2 := SGu2.pt
     replace SI := SI.pt
     replace T := T.pick [0] rfl
     replace M := M.mask [false, false] rfl
     refine nm_then ?_
     refine wpB_ret hP ?_
     refine Zrt ?_
     refine rt_1 T rfl (T.e 0 rfl) ?_
     exfalso
     first | omega | (simp_all; done) | (simp_all; omega)
    intro h8
    refine wpB_skip hP ?_
    exact ⟨(T.pick (E' := [(4, Zj g1), (7, Zi xu3), (8, Zi xu4), (9, Zj g2)]) [1, 2, 3, 4] rfl).as (by (try rw [show (decide (x0 < 20)) = true from (Zdt h7)]); (try rw [show (decide (pvur12_10 = 1)) = false from (Zdf h8)]); (try rfl)), M.mask [true, true] rfl⟩
   intro H1
   refine gB_have (fun ac wc => ∃ (gr12_9 : Nat), Tm ac 158 [(97, .slice (some ⟨gr12_9, 0, none⟩) 1 1), (94, .agg #[Zi (x0 + 1), Zi xu3, Zi xu3, .bool false]), (96, Zi xu4), (93, Zi xu3), (92, Zi xu3), (91, Zi (x0 + 1)), (90, Zi x0), (89, Zj g2), (88, .agg #[Zi bu2.full, Zi bu2.a0, Zi bu2.a1, .slice Abu2 bu2.cs.length cbu2, .slice Dbu2 bu2.ts.length dbu2]), (86, .bool (decide (x0 < 20))), (4, Zj g1), (7, Zi xu3), (8, Zi xu4), (9, Zj g2)] ∧ Mem w noEx wc ((gr12_9, .cells [Zi xu4]) :: (g2, .cells [Zi x0, Zi x1]) :: (g1, .cells [Zi bu2.full, Zi bu2.a0, Zi bu2.a1, .slice Abu2 bu2.cs.length cbu2, .slice Dbu2 bu2.ts.length dbu2]) :: Ibu2)) (Zpb 16 895) 7 ?_ ?_
   ·clear T M
    rintro ac wc ⟨gr12_9, T, M⟩
    refine gB_w (i := 7) (by kernel_rfl) rfl (by kernel_rfl : (Zpb 16 895).setIfInBounds 7 true = Zpb 16 1023) rfl ?_; intro T9 K hK
    replace M := M.tp T9 0 0
    replace SGu2 := SGu2.tp T9 0
    replace SI := SI.tp T9 0
    refine ow_bs (e := 70) [Zi (x0 + 1), Zi xu3, Zi xu3, .bool false] M T rfl rfl rfl rfl (.cons (T.e 1 rfl) .nil) (fun _ => by kernel_rfl) ?_; clear M T; intro gr12_7 wc ac M T
    refine gB_out hK M ?_; clear hK K M; intro wc M
    replace SGu2 := SGu2.pt
    replace SI := SI.pt
    refine ⟨(M.mask [false, false, true, true] rfl), ?_⟩
    exact H1 _ _ ⟨gr12_9, gr12_7, T.pick [1, 0, 2, 3, 4, 5, 6, 7, 8, 9, 10, 11, 12, 13, 14] rfl, M.permT [1, 0, 2, 3] 4 rfl rfl rfl rfl⟩
   intro H0
   refine gB_q (T := T) (i := 0) rfl (by kernel_rfl) (by kernel_rfl : (Zpb 16 0).setIfInBounds 0 true = Zpb 16 1) (fun _ => si_U) rfl rfl rfl rfl (fun T9 B w' hD hl hS => (Zrr (Mem.nth (show Mem (Bq.tp w T9 0) noEx w' _ from hS) 1 rfl) rfl (T.e 1 rfl) rfl)) ?_; clear T ac; intro ac T
   refine gB_q (v := (Zj g2)) (T := T) (i := 1) rfl (by kernel_rfl) (by kernel_rfl : (Zpb 16 1).setIfInBounds 1 true = Zpb 16 3) (fun _ => si_U) rfl rfl rfl rfl (fun _ _ _ _ _ _ => (Zrg 0 rfl (T.e 5 rfl))) ?_; clear T ac; intro ac T
   refine gB_q (T := T) (i := 2) rfl (by kernel_rfl) (by kernel_rfl : (Zpb 16 3).setIfInBounds 2 true = Zpb 16 7) (fun _ => si_U) rfl rfl rfl rfl (fun T9 B w' hD hl hS => (Zro (Mem.nth (show Mem (Bq.tp w T9 0) noEx w' _ from hS) 0 rfl) rfl (T.e 0 rfl) rfl)) ?_; clear T ac; intro ac T
   refine gB_q (T := T) (i := 3) rfl (by kernel_rfl) (by kernel_rfl : (Zpb 16 7).setIfInBounds 3 true = Zpb 16 15) (fun _ => si_U) rfl rfl rfl rfl (fun _ _ _ _ _ _ => (rn_add rfl (T.e 0 rfl) evc (by omega))) ?_; clear T ac; intro ac T
   refine gB_q (T := T) (i := 4) rfl (by kernel_rfl) (by kernel_rfl : (Zpb 16 15).setIfInBounds 4 true = Zpb 16 31) (fun _ => si_U) rfl rfl rfl rfl (fun _ _ _ _ _ _ => (Zrm rfl (T.e 6 rfl))) ?_; clear T ac; intro ac T
   refine gB_q (T := T) (i := 5) rfl (by kernel_rfl) (by kernel_rfl : (Zpb 16 31).setIfInBounds 5 true = Zpb 16 63) (fun _ => si_U) rfl rfl rfl rfl (fun _ _ _ _ _ _ => (Zrm rfl (T.e 7 rfl))) ?_; clear T ac; intro ac T
   refine gB_q (T := T) (i := 8) rfl (by kernel_rfl) (by kernel_rfl : (Zpb 16 63).setIfInBounds 8 true = Zpb 16 319) (fun _ => si_U) rfl rfl rfl rfl (fun _ _ _ _ _ _ => (Zrm rfl (T.e 9 rfl))) ?_; clear T ac; intro ac T
   refine gB_m2 (i := 6) (j := 9) (by kernel_rfl) ?_ ?_
   ·refine gB_i rfl (by kernel_rfl : (Zpb 16 319).setIfInBounds 6 true = Zpb 16 383) rfl ?_; intro T9 K hK
    replace M := M.tp T9 0 0
    replace SGu2 := SGu2.tp T9 0
    replace SI := SI.tp T9 0
    refine Zod T rfl rfl rfl rfl evf (.cons (T.e 3 rfl) (.cons (T.e 2 rfl) (.cons (T.e 1 rfl) (.cons evc .nil)))) Try.func44 rfl rfl ?_
    refine Calls.mono (note_any (x0 + 1) xu3 xu3 false _) ?_
    clear T; rintro e wc ⟨rfl, hb⟩ ac T
    replace M := M.call hb; clear hb
    refine gB_out hK M ?_; clear hK K M; intro wc M
    replace SGu2 := SGu2.pt
    replace SI := SI.pt
    refine ⟨(M.mask [true, true] rfl), ?_⟩
    refine gB_m2 (i := 7) (j := 9) (by kernel_rfl) ?_ ?_
    ·refine gB_i rfl (by kernel_rfl : (Zpb 16 383).setIfInBounds 7 true = Zpb 16 511) rfl ?_; intro T9 K hK
     replace M := M.tp T9 0 0
     replace SGu2 := SGu2.tp T9 0
     replace SI := SI.tp T9 0
     refine ow_bs (e := 70) [Zi (x0 + 1), Zi xu3, Zi xu3, .bool false] M T rfl rfl rfl rfl (.cons (T.e 0 rfl) .nil) (fun _ => by kernel_rfl) ?_; clear M T; intro gr12_7 wc ac M T
     refine gB_out hK M ?_; clear hK K M; intro wc M
     replace SGu2 := SGu2.pt
     replace SI := SI.pt
     refine ⟨(M.mask [false, true, true] rfl), ?_⟩
     refine gB_w (i := 9) (by kernel_rfl) rfl (by kernel_rfl : (Zpb 16 511).setIfInBounds 9 true = Zpb 16 1023) rfl ?_; intro T9 K hK
     replace M := M.tp T9 0 0
     replace SGu2 := SGu2.tp T9 0
     replace SI := SI.tp T9 0
     refine ow_bs (e := 3) [Zi xu4] M T rfl rfl rfl rfl (.cons (T.e 2 rfl) .nil) (fun _ => by kernel_rfl) ?_; clear M T; intro gr12_9 wc ac M T
     refine gB_out hK M ?_; clear hK K M; intro wc M
     replace SGu2 := SGu2.pt
     replace SI := SI.pt
     refine ⟨(M.mask [false, false, true, true] rfl), ?_⟩
     exact H1 _ _ ⟨gr12_9, gr12_7, T, M⟩
    refine gB_i rfl (by kernel_rfl : (Zpb 16 383).setIfInBounds 9 true = Zpb 16 895) rfl ?_; intro T9 K hK
    replace M := M.tp T9 0 0
    replace SGu2 := SGu2.tp T9 0
    replace SI := SI.tp T9 0
    refine ow_bs (e := 3) [Zi xu4] M T rfl rfl rfl rfl (.cons (T.e 1 rfl) .nil) (fun _ => by kernel_rfl) ?_; clear M T; intro gr12_9 wc ac M T
    refine gB_out hK M ?_; clear hK K M; intro wc M
    replace SGu2 := SGu2.pt
    replace SI := SI.pt
    refine ⟨(M.mask [false, true, true] rfl), ?_⟩
    exact H0 _ _ ⟨gr12_9, T, M⟩
   refine gB_i rfl (by kernel_rfl : (Zpb 16 319).setIfInBounds 9 true = Zpb 16 831) rfl ?_; intro T9 K hK
   replace M := M.tp T9 0 0
   replace SGu2 := SGu2.tp T9 0
   replace SI := SI.tp T9 0
   refine ow_bs (e := 3) [Zi xu4] M T rfl rfl rfl rfl (.cons (T.e 0 rfl) .nil) (fun _ => by kernel_rfl) ?_; clear M T; intro gr12_9 wc ac M T
   refine gB_out hK M ?_; clear hK K M; intro wc M
   replace SGu2 := SGu2.pt
   replace SI := SI.pt
   refine ⟨(M.mask [false, true, true] rfl), ?_⟩
   refine gB_w (i := 6) (by kernel_rfl) rfl (by kernel_rfl : (Zpb 16 831).setIfInBounds 6 true = Zpb 16 895) rfl ?_; intro T9 K hK
   replace M := M.tp T9 0 0
   replace SGu2 := SGu2.tp T9 0
   replace SI := SI.tp T9 0
   refine Zod T rfl rfl rfl rfl evf (.cons (T.e 4 rfl) (.cons (T.e 3 rfl) (.cons (T.e 2 rfl) (.cons evc .nil)))) Try.func44 rfl rfl ?_
   refine Calls.mono (note_any (x0 + 1) xu3 xu3 false _) ?_
   clear T; rintro e wc ⟨rfl, hb⟩ ac T
   replace M := M.call hb; clear hb
   refine gB_out hK M ?_; clear hK K M; intro wc M
   replace SGu2 := SGu2.pt
   replace SI := SI.pt
   refine ⟨(M.mask [false, true, true] rfl), ?_⟩
   exact H0 _ _ ⟨gr12_9, T.pick [1, 0, 2, 3, 4, 5, 6, 7, 8, 9, 10, 11, 12, 13] rfl, M⟩
  intro h7
  refine wpB_skip hP ?_
  exact ⟨(T.pick (E' := [(4, Zj g1), (7, Zi xu3), (8, Zi xu4), (9, Zj g2)]) [1, 2, 3, 4] rfl).as (by (try rw [show (decide (x0 < 20)) = false from (Zdf h7)]); (try rfl)), M.mask [true, true] rfl⟩
 clear T M
 rintro ac wc ⟨T, M⟩
 refine cutB_seq hP (fun ac wc => Tm ac 158 [(4, Zj g1), (7, Zi xu3), (8, Zi xu4), (9, Zj g2)] ∧ Mem w noEx wc ((g2, .cells [Zi x0, Zi x1]) :: (g1, .cells [Zi bu2.full, Zi bu2.a0, Zi bu2.a1, .slice Abu2 bu2.cs.length cbu2, .slice Dbu2 bu2.ts.length dbu2]) :: Ibu2)) ?_ ?_
 ·refine cutB_seq hP (fun ac wc => Tm ac 158 [(4, Zj g1), (7, Zi xu3), (8, Zi xu4), (9, Zj g2), (114, .bool ((decide (0 < x1)) && (decide (x1 ≤ 20))))] ∧ Mem w noEx wc ((g2, .cells [Zi x0, Zi x1]) :: (g1, .cells [Zi bu2.full, Zi bu2.a0, Zi bu2.a1, .slice Abu2 bu2.cs.length cbu2, .slice Dbu2 bu2.ts.length dbu2]) :: Ibu2)) ?_ ?_
  ·refine b_lone hP w fun T9 => ?_
   replace M := M.tp T9 0 0
   replace SGu2 := SGu2.tp T9 0
   replace SI := SI.tp T9 0
   refine wp_region_lit ?_
   refine Zg4 (v1 := (.pointer (some ⟨g2, 1, none⟩))) T (Zq (Zrg 1 rfl (T.e 3 rfl))) rfl (Zo M 0 0 rfl rfl rfl rfl) rfl (fun _ T => Zq (rn_gtr rfl (T.e 0 rfl) evc)) rfl (Zm 0 rfl rfl) rfl ?_; clear T ac; intro ac T
   rcases Zx9 (decide (0 < x1)) with h9 | h9
   ·replace h9 := of_decide_eq_true h9
    refine Zg4 (v1 := (.pointer (some ⟨g2, 1, none⟩))) T (Zw (Zwy rfl rfl (T.e 0 rfl) (Zdt h9)) (Zrg 1 rfl (T.e 7 rfl))) rfl (fun _ T => Zw (Zwy rfl rfl (T.e 1 rfl) (Zdt h9)) (Zro (Mem.nth M 0 rfl) rfl (T.e 0 rfl) rfl)) rfl (fun _ T => Zw (Zwy rfl rfl (T.e 2 rfl) (Zdt h9)) (rn_leq rfl (T.e 0 rfl) evc)) rfl (fun _ T => Zq (Zr1 rfl (T.e 3 rfl) (Zdt h9) (T.e 0 rfl))) rfl ?_; clear T ac; intro ac T
    refine wpList_nil ?_
    refine nqR_n M ?_; clear M; intro wc M
    replace SGu2 := SGu2.pt
    replace SI := SI.pt
    replace T := T.pick [0, 8, 9, 10, 11] rfl
    exact ⟨(T.pick (E' := [(4, Zj g1), (7, Zi xu3), (8, Zi xu4), (9, Zj g2), (114, .bool (decide (x1 ≤ 20)))]) [1, 2, 3, 4, 0] rfl).as (by (try rw [show (decide (0 < x1)) = true from (Zdt h9)]); (try rfl)), M.mask [true, true] rfl⟩
   replace h9 := of_decide_eq_false h9
   refine Zg4 T (Zp (Zwn rfl rfl (T.e 0 rfl) (Zdf h9))) rfl (fun _ T => Zp (Zwn rfl rfl (T.e 1 rfl) (Zdf h9))) rfl (fun _ T => Zp (Zwn rfl rfl (T.e 2 rfl) (Zdf h9))) rfl (fun _ T => Zq (Zr0 rfl (T.e 3 rfl) (Zdf h9) evc)) rfl ?_; clear T ac; intro ac T
   refine wpList_nil ?_
   refine nqR_n M ?_; clear M; intro wc M
   replace SGu2 := SGu2.pt
   replace SI := SI.pt
   replace T := T.pick [0, 8, 9, 10, 11] rfl
   exact ⟨(T.pick (E' := [(4, Zj g1), (7, Zi xu3), (8, Zi xu4), (9, Zj g2), (114, .bool false)]) [1, 2, 3, 4, 0] rfl).as (by (try rw [show (decide (0 < x1)) = false from (Zdf h9)]); (try rfl)), M.mask [true, true] rfl⟩
  clear T M
  rintro ac wc ⟨T, M⟩
  refine wB_cond_split hP (T.e 4 rfl) ?_ ?_
  ·intro h10
   (have h10' := h10; try simp only [Zb1, Zb2, Zb3, Zb4, Zb5, Zb6, Zb7] at h10')
   refine wpB_seq hP ?_
   refine gB_start2 hP M (M.mask [true, true] rfl) 15 (by kernel_rfl) rfl (by kernel_rfl) ?_
   clear M; intro wc M
   refine gB_have (fun ac wc => ∃ (gr16_8 gr16_6 : Nat), Tm ac 158 [(124, .slice (some ⟨gr16_8, 0, none⟩) 1 1), (122, .slice (some ⟨gr16_6, 0, none⟩) 1 1), (121, .agg #[Zi x1, Zi xu3, Zi xu3, .bool false]), (123, Zi xu4), (120, Zi xu3), (119, Zi xu3), (118, Zi x1), (117, .pointer (some ⟨g2, 1, none⟩)), (116, .agg #[Zi bu2.full, Zi bu2.a0, Zi bu2.a1, .slice Abu2 bu2.cs.length cbu2, .slice Dbu2 bu2.ts.length dbu2]), (4, Zj g1), (7, Zi xu3), (8, Zi xu4), (9, Zj g2), (114, .bool ((decide (0 < x1)) && (decide (x1 ≤ 20))))] ∧ Mem w noEx wc ((gr16_8, .cells [Zi xu4]) :: (gr16_6, .cells [Zi x1, Zi xu3, Zi xu3, .bool false]) :: (g2, .cells [Zi x0, Zi x1]) :: (g1, .cells [Zi bu2.full, Zi bu2.a0, Zi bu2.a1, .slice Abu2 bu2.cs.length cbu2, .slice Dbu2 bu2.ts.length dbu2]) :: Ibu2)) (Zpb 15 511) 6 ?_ ?_
   ·clear T M
    rintro ac wc ⟨gr16_8, gr16_6, T, M⟩
    obtain ⟨hA9, hD9, hop9⟩ := hBiu2.rd M (.cons _ (.cons _ (.cons _ (.cons _ (List.Sublist.refl _)))))
    obtain ⟨nA9, nD9, nop9⟩ := hBiu2.few
    refine gB_one (i := 9) (by kernel_rfl) (by kernel_rfl : (Zpb 15 511).setIfInBounds 9 true = Zpb 15 1023) (opB_call (first := []) (cap := []) T rfl rfl rfl rfl rfl evf (.cons (T.e 8 rfl) (.cons (T.e 1 rfl) (.cons (T.e 0 rfl) .nil))) Try.func38 rfl rfl (Plays_any hP bu2 Abu2 cbu2 Dbu2 dbu2 [oneN x1 xu3] (some ⟨gr16_6, 0, none⟩) 1 (some ⟨gr16_8, 0, none⟩) 1 ([xu4]) _ hA9 hD9 hop9 nA9 nD9 nop9 (M.rdOwn (Zne (i := 1) rfl) rfl rfl) (by simp) (M.rdOwn (Zne (i := 0) rfl) rfl rfl) (by simp)) ?_ rfl)
    clear T
    rintro e wc ⟨rfl, hb⟩
    refine ⟨_, rfl, ?_⟩
    intro ac T
    replace M := M.call hb; clear hb
    obtain ⟨v0ur16_9, hvur16_9⟩ := hP9 x1 (by omega) (by omega)
    rw [v0ur16_9] at T
    obtain ⟨pvur16_9, hpvur16_9⟩ : ∃ q, q = plaV bu2 [oneN x1 xu3] [xu4] := ⟨_, rfl⟩
    rw [← hpvur16_9] at T hvur16_9
    clear v0ur16_9 hpvur16_9
    refine ⟨(M.mask [false, false, true, true] rfl), ?_⟩
    refine gB_q (T := T) (i := 10) rfl (by kernel_rfl) (by kernel_rfl : (Zpb 15 1023).setIfInBounds 10 true = Zpb 15 2047) (fun _ => si_U) rfl rfl rfl rfl (fun _ _ _ _ _ _ => (Zrm rfl (T.e 0 rfl))) ?_; clear T ac; intro ac T
    refine gB_q (T := T) (i := 11) rfl (by kernel_rfl) (by kernel_rfl : (Zpb 15 2047).setIfInBounds 11 true = Zpb 15 4095) (fun _ => si_U) rfl rfl rfl rfl (fun _ _ _ _ _ _ => (Zre rfl (T.e 0 rfl) rfl)) ?_; clear T ac; intro ac T
    refine gB_q (T := T) (i := 12) rfl (by kernel_rfl) (by kernel_rfl : (Zpb 15 4095).setIfInBounds 12 true = Zpb 15 8191) (fun _ => si_U) rfl rfl rfl rfl (fun _ _ _ _ _ _ => (Zre rfl (T.e 1 rfl) rfl)) ?_; clear T ac; intro ac T
    refine gB_q (T := T) (i := 13) rfl (by kernel_rfl) (by kernel_rfl : (Zpb 15 8191).setIfInBounds 13 true = Zpb 15 16383) (fun _ => si_U) rfl rfl rfl rfl (fun _ _ _ _ _ _ => (Zra rfl (T.e 1 rfl))) ?_; clear T ac; intro ac T
    refine gB_q (T := T) (i := 14) rfl (by kernel_rfl) (by kernel_rfl : (Zpb 15 16383).setIfInBounds 14 true = Zpb 15 32767) (fun _ => si_U) rfl rfl rfl rfl (fun _ _ _ _ _ _ => (Zra rfl (T.e 1 rfl))) ?_; clear T ac; intro ac T
    refine gB_done (by kernel_rfl) M ?_; clear M; intro wc M
    replace T := T.pick [0, 1, 15, 16, 17, 18] rfl
    replace M := M.mask [false, false, true, true] rfl
    refine nm_then ?_
    refine wpB_seq hP ?_
    refine b_lone hP w fun T9 => ?_
    replace M := M.tp T9 0 0
    replace SGu2 := SGu2.tp T9 0
    replace SI := SI.tp T9 0
    refine wp_region_lit ?_
    refine Zg6 (v2 := (.bool false)) T (Zq (Zrm rfl (T.e 0 rfl))) rfl (fun _ T => Zq (Zrq (rn_neq rfl (T.e 0 rfl) evc) (by simp))) rfl (Zm 0 rfl rfl) rfl (fun _ T => Zw (Zwy rfl rfl (T.e 0 rfl) rfl) (Zrm rfl (T.e 4 rfl))) rfl (fun _ T => Zw (Zwy rfl rfl (T.e 1 rfl) rfl) (rn_eql rfl (T.e 0 rfl) evc)) rfl (fun _ T => Zq (Zr0 rfl (T.e 2 rfl) rfl (T.e 0 rfl))) rfl ?_; clear T ac; intro ac T
    refine wpList_nil ?_
    refine nqR_n M ?_; clear M; intro wc M
    replace SGu2 := SGu2.pt
    replace SI := SI.pt
    replace T := T.pick [0, 8, 9, 10, 11] rfl
    refine nm_then ?_
    refine wB_if hP (T.e 0 rfl) ?_ ?_
    ·intro h11
     refine wpB_seq hP ?_
     refine b_lone hP w fun T9 => ?_
     replace M := M.tp T9 0 0
     replace SGu2 := SGu2.tp T9 0
     replace SI := SI.tp T9 0
     refine wp_region_lit ?_
     refine lq T (Zra rfl evc) ?_; clear T ac; intro ac T
     refine wpList_nil ?_
     refine nqR_n M ?_; clear M; intro wc M
     replace SGu2 := SGu2.pt
     replace SI := SI.pt
     replace T := T.pick [0] rfl
     replace M := M.mask [false, false] rfl
     refine nm_then ?_
     refine wpB_ret hP ?_
     refine Zrt ?_
     refine rt_1 T rfl (T.e 0 rfl) ?_
     exfalso
     first | omega | (simp_all; done) | (simp_all; omega)
    intro h11
    refine wpB_skip hP ?_
    exact ⟨(T.pick (E' := [(4, Zj g1), (7, Zi xu3), (8, Zi xu4), (9, Zj g2)]) [1, 2, 3, 4] rfl).as (by (try rw [show ((decide (0 < x1)) && (decide (x1 ≤ 20))) = true from h10]); (try rw [show (decide (pvur16_9 = 2)) = false from (Zdf h11)]); (try rfl)), M.mask [true, true] rfl⟩
   intro H1
   refine gB_have (fun ac wc => ∃ (gr16_8 : Nat), Tm ac 158 [(124, .slice (some ⟨gr16_8, 0, none⟩) 1 1), (121, .agg #[Zi x1, Zi xu3, Zi xu3, .bool false]), (123, Zi xu4), (120, Zi xu3), (119, Zi xu3), (118, Zi x1), (117, .pointer (some ⟨g2, 1, none⟩)), (116, .agg #[Zi bu2.full, Zi bu2.a0, Zi bu2.a1, .slice Abu2 bu2.cs.length cbu2, .slice Dbu2 bu2.ts.length dbu2]), (4, Zj g1), (7, Zi xu3), (8, Zi xu4), (9, Zj g2), (114, .bool ((decide (0 < x1)) && (decide (x1 ≤ 20))))] ∧ Mem w noEx wc ((gr16_8, .cells [Zi xu4]) :: (g2, .cells [Zi x0, Zi x1]) :: (g1, .cells [Zi bu2.full, Zi bu2.a0, Zi bu2.a1, .slice Abu2 bu2.cs.length cbu2, .slice Dbu2 bu2.ts.length dbu2]) :: Ibu2)) (Zpb 15 447) 7 ?_ ?_
   ·clear T M
    rintro ac wc ⟨gr16_8, T, M⟩
    refine gB_w (i := 6) (by kernel_rfl) rfl (by kernel_rfl : (Zpb 15 447).setIfInBounds 6 true = Zpb 15 511) rfl ?_; intro T9 K hK
    replace M := M.tp T9 0 0
    replace SGu2 := SGu2.tp T9 0
    replace SI := SI.tp T9 0
    refine ow_bs (e := 70) [Zi x1, Zi xu3, Zi xu3, .bool false] M T rfl rfl rfl rfl (.cons (T.e 1 rfl) .nil) (fun _ => by kernel_rfl) ?_; clear M T; intro gr16_6 wc ac M T
    refine gB_out hK M ?_; clear hK K M; intro wc M
    replace SGu2 := SGu2.pt
    replace SI := SI.pt
    refine ⟨(M.mask [false, false, true, true] rfl), ?_⟩
    exact H1 _ _ ⟨gr16_8, gr16_6, T.pick [1, 0, 2, 3, 4, 5, 6, 7, 8, 9, 10, 11, 12, 13] rfl, M.permT [1, 0, 2, 3] 4 rfl rfl rfl rfl⟩
   intro H0
   refine gB_q (T := T) (i := 0) rfl (by kernel_rfl) (by kernel_rfl : (Zpb 15 0).setIfInBounds 0 true = Zpb 15 1) (fun _ => si_U) rfl rfl rfl rfl (fun T9 B w' hD hl hS => (Zrr (Mem.nth (show Mem (Bq.tp w T9 0) noEx w' _ from hS) 1 rfl) rfl (T.e 0 rfl) rfl)) ?_; clear T ac; intro ac T
   refine gB_q (v := (.pointer (some ⟨g2, 1, none⟩))) (T := T) (i := 1) rfl (by kernel_rfl) (by kernel_rfl : (Zpb 15 1).setIfInBounds 1 true = Zpb 15 3) (fun _ => si_U) rfl rfl rfl rfl (fun _ _ _ _ _ _ => (Zrg 1 rfl (T.e 4 rfl))) ?_; clear T ac; intro ac T
   refine gB_q (T := T) (i := 2) rfl (by kernel_rfl) (by kernel_rfl : (Zpb 15 3).setIfInBounds 2 true = Zpb 15 7) (fun _ => si_U) rfl rfl rfl rfl (fun T9 B w' hD hl hS => (Zro (Mem.nth (show Mem (Bq.tp w T9 0) noEx w' _ from hS) 0 rfl) rfl (T.e 0 rfl) rfl)) ?_; clear T ac; intro ac T
   refine gB_q (T := T) (i := 3) rfl (by kernel_rfl) (by kernel_rfl : (Zpb 15 7).setIfInBounds 3 true = Zpb 15 15) (fun _ => si_U) rfl rfl rfl rfl (fun _ _ _ _ _ _ => (Zrm rfl (T.e 4 rfl))) ?_; clear T ac; intro ac T
   refine gB_q (T := T) (i := 4) rfl (by kernel_rfl) (by kernel_rfl : (Zpb 15 15).setIfInBounds 4 true = Zpb 15 31) (fun _ => si_U) rfl rfl rfl rfl (fun _ _ _ _ _ _ => (Zrm rfl (T.e 5 rfl))) ?_; clear T ac; intro ac T
   refine gB_q (T := T) (i := 7) rfl (by kernel_rfl) (by kernel_rfl : (Zpb 15 31).setIfInBounds 7 true = Zpb 15 159) (fun _ => si_U) rfl rfl rfl rfl (fun _ _ _ _ _ _ => (Zrm rfl (T.e 7 rfl))) ?_; clear T ac; intro ac T
   refine gB_m2 (i := 5) (j := 8) (by kernel_rfl) ?_ ?_
   ·refine gB_i rfl (by kernel_rfl : (Zpb 15 159).setIfInBounds 5 true = Zpb 15 191) rfl ?_; intro T9 K hK
    replace M := M.tp T9 0 0
    replace SGu2 := SGu2.tp T9 0
    replace SI := SI.tp T9 0
    refine Zod T rfl rfl rfl rfl evf (.cons (T.e 3 rfl) (.cons (T.e 2 rfl) (.cons (T.e 1 rfl) (.cons evc .nil)))) Try.func44 rfl rfl ?_
    refine Calls.mono (note_any x1 xu3 xu3 false _) ?_
    clear T; rintro e wc ⟨rfl, hb⟩ ac T
    replace M := M.call hb; clear hb
    refine gB_out hK M ?_; clear hK K M; intro wc M
    replace SGu2 := SGu2.pt
    replace SI := SI.pt
    refine ⟨(M.mask [true, true] rfl), ?_⟩
    refine gB_m2 (i := 6) (j := 8) (by kernel_rfl) ?_ ?_
    ·refine gB_i rfl (by kernel_rfl : (Zpb 15 191).setIfInBounds 6 true = Zpb 15 255) rfl ?_; intro T9 K hK
     replace M := M.tp T9 0 0
     replace SGu2 := SGu2.tp T9 0
     replace SI := SI.tp T9 0
     refine ow_bs (e := 70) [Zi x1, Zi xu3, Zi xu3, .bool false] M T rfl rfl rfl rfl (.cons (T.e 0 rfl) .nil) (fun _ => by kernel_rfl) ?_; clear M T; intro gr16_6 wc ac M T
     refine gB_out hK M ?_; clear hK K M; intro wc M
     replace SGu2 := SGu2.pt
     replace SI := SI.pt
     refine ⟨(M.mask [false, true, true] rfl), ?_⟩
     refine gB_w (i := 8) (by kernel_rfl) rfl (by kernel_rfl : (Zpb 15 255).setIfInBounds 8 true = Zpb 15 511) rfl ?_; intro T9 K hK
     replace M := M.tp T9 0 0
     replace SGu2 := SGu2.tp T9 0
     replace SI := SI.tp T9 0
     refine ow_bs (e := 3) [Zi xu4] M T rfl rfl rfl rfl (.cons (T.e 2 rfl) .nil) (fun _ => by kernel_rfl) ?_; clear M T; intro gr16_8 wc ac M T
     refine gB_out hK M ?_; clear hK K M; intro wc M
     replace SGu2 := SGu2.pt
     replace SI := SI.pt
     refine ⟨(M.mask [false, false, true, true] rfl), ?_⟩
     exact H1 _ _ ⟨gr16_8, gr16_6, T, M⟩
    refine gB_i rfl (by kernel_rfl : (Zpb 15 191).setIfInBounds 8 true = Zpb 15 447) rfl ?_; intro T9 K hK
    replace M := M.tp T9 0 0
    replace SGu2 := SGu2.tp T9 0
    replace SI := SI.tp T9 0
    refine ow_bs (e := 3) [Zi xu4] M T rfl rfl rfl rfl (.cons (T.e 1 rfl) .nil) (fun _ => by kernel_rfl) ?_; clear M T; intro gr16_8 wc ac M T
    refine gB_out hK M ?_; clear hK K M; intro wc M
    replace SGu2 := SGu2.pt
    replace SI := SI.pt
    refine ⟨(M.mask [false, true, true] rfl), ?_⟩
    exact H0 _ _ ⟨gr16_8, T, M⟩
   refine gB_i rfl (by kernel_rfl : (Zpb 15 159).setIfInBounds 8 true = Zpb 15 415) rfl ?_; intro T9 K hK
   replace M := M.tp T9 0 0
   replace SGu2 := SGu2.tp T9 0
   replace SI := SI.tp T9 0
   refine ow_bs (e := 3) [Zi xu4] M T rfl rfl rfl rfl (.cons (T.e 0 rfl) .nil) (fun _ => by kernel_rfl) ?_; clear M T; intro gr16_8 wc ac M T
   refine gB_out hK M ?_; clear hK K M; intro wc M
   replace SGu2 := SGu2.pt
   replace SI := SI.pt
   refine ⟨(M.mask [false, true, true] rfl), ?_⟩
   refine gB_w (i := 5) (by kernel_rfl) rfl (by kernel_rfl : (Zpb 15 415).setIfInBounds 5 true = Zpb 15 447) rfl ?_; intro T9 K hK
   replace M := M.tp T9 0 0
   replace SGu2 := SGu2.tp T9 0
   replace SI := SI.tp T9 0
   refine Zod T rfl rfl rfl rfl evf (.cons (T.e 4 rfl) (.cons (T.e 3 rfl) (.cons (T.e 2 rfl) (.cons evc .nil)))) Try.func44 rfl rfl ?_
   refine Calls.mono (note_any x1 xu3 xu3 false _) ?_
   clear T; rintro e wc ⟨rfl, hb⟩ ac T
   replace M := M.call hb; clear hb
   refine gB_out hK M ?_; clear hK K M; intro wc M
   replace SGu2 := SGu2.pt
   replace SI := SI.pt
   refine ⟨(M.mask [false, true, true] rfl), ?_⟩
   exact H0 _ _ ⟨gr16_8, T.pick [1, 0, 2, 3, 4, 5, 6, 7, 8, 9, 10, 11, 12] rfl, M⟩
  intro h10
  (have h10' := h10; try simp only [Zb1, Zb2, Zb3, Zb4, Zb5, Zb6, Zb7] at h10')
  refine wpB_skip hP ?_
  exact ⟨(T.pick (E' := [(4, Zj g1), (7, Zi xu3), (8, Zi xu4), (9, Zj g2)]) [0, 1, 2, 3] rfl).as (by (try rw [show ((decide (0 < x1)) && (decide (x1 ≤ 20))) = false from h10]); (try rfl)), M.mask [true, true] rfl⟩
 clear T M
 rintro ac wc ⟨T, M⟩
 refine cutB_seq hP (fun ac wc => Tm ac 158 [] ∧ Mem w noEx wc (Ibu2)) ?_ ?_
 ·refine wpB_seq hP ?_
  refine b_lone hP w fun T9 => ?_
  replace M := M.tp T9 0 0
  replace SGu2 := SGu2.tp T9 0
  replace SI := SI.tp T9 0
  refine wp_region_lit ?_
  refine Zg3 (v1 := (.pointer (some ⟨g2, 1, none⟩))) T (Zq (Zrg 1 rfl (T.e 3 rfl))) rfl (Zo M 0 0 rfl rfl rfl rfl) rfl (fun _ T => Zq (rn_lss rfl (T.e 0 rfl) evc)) rfl ?_; clear T ac; intro ac T
  refine wpList_nil ?_
  refine nqR_n M ?_; clear M; intro wc M
  replace SGu2 := SGu2.pt
  replace SI := SI.pt
  replace T := T.pick [0, 3, 4, 5, 6] rfl
  refine nm_then ?_
  refine wB_if hP (T.e 0 rfl) ?_ ?_
  ·intro h12
   refine wpB_seq hP ?_
   refine gB_start2 hP M (M.mask [true, true] rfl) 16 (by kernel_rfl) rfl (by kernel_rfl) ?_
   clear M; intro wc M
   refine gB_have (fun ac wc => ∃ (gr20_9 gr20_7 : Nat), Tm ac 158 [(147, .slice (some ⟨gr20_9, 0, none⟩) 1 1), (145, .slice (some ⟨gr20_7, 0, none⟩) 1 1), (144, .agg #[Zi (x1 + 1), Zi xu3, Zi xu3, .bool false]), (146, Zi xu4), (143, Zi xu3), (142, Zi xu3), (141, Zi (x1 + 1)), (140, Zi x1), (139, .pointer (some ⟨g2, 1, none⟩)), (138, .agg #[Zi bu2.full, Zi bu2.a0, Zi bu2.a1, .slice Abu2 bu2.cs.length cbu2, .slice Dbu2 bu2.ts.length dbu2]), (136, .bool (decide (x1 < 20))), (4, Zj g1), (7, Zi xu3), (8, Zi xu4), (9, Zj g2)] ∧ Mem w noEx wc ((gr20_9, .cells [Zi xu4]) :: (gr20_7, .cells [Zi (x1 + 1), Zi xu3, Zi xu3, .bool false]) :: (g2, .cells [Zi x0, Zi x1]) :: (g1, .cells [Zi bu2.full, Zi bu2.a0, Zi bu2.a1, .slice Abu2 bu2.cs.length cbu2, .slice Dbu2 bu2.ts.length dbu2]) :: Ibu2)) (Zpb 16 1023) 6 ?_ ?_
   ·clear T M
    rintro ac wc ⟨gr20_9, gr20_7, T, M⟩
    obtain ⟨hA9, hD9, hop9⟩ := hBiu2.rd M (.cons _ (.cons _ (.cons _ (.cons _ (List.Sublist.refl _)))))
    obtain ⟨nA9, nD9, nop9⟩ := hBiu2.few
    refine gB_one (i := 10) (by kernel_rfl) (by kernel_rfl : (Zpb 16 1023).setIfInBounds 10 true = Zpb 16 2047) (opB_call (first := []) (cap := []) T rfl rfl rfl rfl rfl evf (.cons (T.e 9 rfl) (.cons (T.e 1 rfl) (.cons (T.e 0 rfl) .nil))) Try.func38 rfl rfl (Plays_any hP bu2 Abu2 cbu2 Dbu2 dbu2 [oneN (x1 + 1) xu3] (some ⟨gr20_7, 0, none⟩) 1 (some ⟨gr20_9, 0, none⟩) 1 ([xu4]) _ hA9 hD9 hop9 nA9 nD9 nop9 (M.rdOwn (Zne (i := 1) rfl) rfl rfl) (by simp) (M.rdOwn (Zne (i := 0) rfl) rfl rfl) (by simp)) ?_ rfl)
    clear T
    rintro e wc ⟨rfl, hb⟩
    refine ⟨_, rfl, ?_⟩
    intro ac T
    replace M := M.call hb; clear hb
    obtain ⟨v0ur20_10, hvur20_10⟩ := hP9 (x1 + 1) (by omega) (by omega)
    rw [v0ur20_10] at T
    obtain ⟨pvur20_10, hpvur20_10⟩ : ∃ q, q = plaV bu2 [oneN (x1 + 1) xu3] [xu4] := ⟨_, rfl⟩
    rw [← hpvur20_10] at T hvur20_10
    clear v0ur20_10 hpvur20_10
    refine ⟨(M.mask [false, false, true, true] rfl), ?_⟩
    refine gB_q (T := T) (i := 11) rfl (by kernel_rfl) (by kernel_rfl : (Zpb 16 2047).setIfInBounds 11 true = Zpb 16 4095) (fun _ => si_U) rfl rfl rfl rfl (fun _ _ _ _ _ _ => (Zrm rfl (T.e 0 rfl))) ?_; clear T ac; intro ac T
    refine gB_q (T := T) (i := 12) rfl (by kernel_rfl) (by kernel_rfl : (Zpb 16 4095).setIfInBounds 12 true = Zpb 16 8191) (fun _ => si_U) rfl rfl rfl rfl (fun _ _ _ _ _ _ => (Zre rfl (T.e 0 rfl) rfl)) ?_; clear T ac; intro ac T
    refine gB_q (T := T) (i := 13) rfl (by kernel_rfl) (by kernel_rfl : (Zpb 16 8191).setIfInBounds 13 true = Zpb 16 16383) (fun _ => si_U) rfl rfl rfl rfl (fun _ _ _ _ _ _ => (Zre rfl (T.e 1 rfl) rfl)) ?_; clear T ac; intro ac T
    refine gB_q (T := T) (i := 14) rfl (by kernel_rfl) (by kernel_rfl : (Zpb 16 16383).setIfInBounds 14 true = Zpb 16 32767) (fun _ => si_U) rfl rfl rfl rfl (fun _ _ _ _ _ _ => (Zra rfl (T.e 1 rfl))) ?_; clear T ac; intro ac T
    refine gB_q (T := T) (i := 15) rfl (by kernel_rfl) (by kernel_rfl : (Zpb 16 32767).setIfInBounds 15 true = Zpb 16 65535) (fun _ => si_U) rfl rfl rfl rfl (fun _ _ _ _ _ _ => (Zra rfl (T.e 1 rfl))) ?_; clear T ac; intro ac T
    refine gB_done (by kernel_rfl) M ?_; clear M; intro wc M
    replace T := T.pick [0, 1] rfl
    replace M := M.mask [false, false, false, false] rfl
    refine nm_then ?_
    refine wpB_seq hP ?_
    refine b_lone hP w fun T9 => ?_
    replace M := M.tp T9 0 0
    replace SGu2 := SGu2.tp T9 0
    replace SI := SI.tp T9 0
    refine wp_region_lit ?_
    refine Zg6 (v2 := (.bool false)) T (Zq (Zrm rfl (T.e 0 rfl))) rfl (fun _ T => Zq (Zrq (rn_neq rfl (T.e 0 rfl) evc) (by simp))) rfl (Zm 0 rfl rfl) rfl (fun _ T => Zw (Zwy rfl rfl (T.e 0 rfl) rfl) (Zrm rfl (T.e 4 rfl))) rfl (fun _ T => Zw (Zwy rfl rfl (T.e 1 rfl) rfl) (rn_neq rfl (T.e 0 rfl) evc)) rfl (fun _ T => Zq (Zr0 rfl (T.e 2 rfl) rfl (T.e 0 rfl))) rfl ?_; clear T ac; intro ac T
    refine wpList_nil ?_
    refine nqR_n M ?_; clear M; intro wc M
    replace SGu2 := SGu2.pt
    replace SI := SI.pt
    replace T := T.pick [0] rfl
    refine nm_then ?_
    refine wB_ifn hP (T.e 0 rfl) ?_ ?_
    ·intro h13
     refine wpB_seq hP ?_
     refine b_lone hP w fun T9 => ?_
     replace M := M.tp T9 0 0
     replace SGu2 := SGu2.tp T9 0
     replace SI := SI.tp T9 0
     refine wp_region_lit ?_
     refine lq T (Zra rfl evc) ?_; clear T ac; intro ac T
     refine wpList_nil ?_
     refine nqR_n M ?_; clear M; intro wc M
     replace SGu2 := SGu2.pt
     replace SI := SI.pt
     replace T := T.pick [0] rfl
     refine nm_then ?_
     refine wpB_ret hP ?_
     refine Zrt ?_
     refine rt_1 T rfl (T.e 0 rfl) ?_
     exfalso
     first | omega | (simp_all; done) | (simp_all; omega)
    intro h13
    refine wpB_skip hP ?_
    exact ⟨(T.pick (E' := []) [] rfl).as (by (try rw [show (decide (x1 < 20)) = true from (Zdt h12)]); (try rw [show (!(decide (pvur20_10 = 2))) = false from (by simp [h13])]); (try rfl)), M.mask [] rfl⟩
   intro H1
   refine gB_have (fun ac wc => ∃ (gr20_9 : Nat), Tm ac 158 [(147, .slice (some ⟨gr20_9, 0, none⟩) 1 1), (144, .agg #[Zi (x1 + 1), Zi xu3, Zi xu3, .bool false]), (146, Zi xu4), (143, Zi xu3), (142, Zi xu3), (141, Zi (x1 + 1)), (140, Zi x1), (139, .pointer (some ⟨g2, 1, none⟩)), (138, .agg #[Zi bu2.full, Zi bu2.a0, Zi bu2.a1, .slice Abu2 bu2.cs.length cbu2, .slice Dbu2 bu2.ts.length dbu2]), (136, .bool (decide (x1 < 20))), (4, Zj g1), (7, Zi xu3), (8, Zi xu4), (9, Zj g2)] ∧ Mem w noEx wc ((gr20_9, .cells [Zi xu4]) :: (g2, .cells [Zi x0, Zi x1]) :: (g1, .cells [Zi bu2.full, Zi bu2.a0, Zi bu2.a1, .slice Abu2 bu2.cs.length cbu2, .slice Dbu2 bu2.ts.length dbu2]) :: Ibu2)) (Zpb 16 895) 7 ?_ ?_
   ·clear T M
    rintro ac wc ⟨gr20_9, T, M⟩
    refine gB_w (i := 7) (by kernel_rfl) rfl (by kernel_rfl : (Zpb 16 895).setIfInBounds 7 true = Zpb 16 1023) rfl ?_; intro T9 K hK
    replace M := M.tp T9 0 0
    replace SGu2 := SGu2.tp T9 0
    replace SI := SI.tp T9 0
    refine ow_bs (e := 70) [Zi (x1 + 1), Zi xu3, Zi xu3, .bool false] M T rfl rfl rfl rfl (.cons (T.e 1 rfl) .nil) (fun _ => by kernel_rfl) ?_; clear M T; intro gr20_7 wc ac M T
    refine gB_out hK M ?_; clear hK K M; intro wc M
    replace SGu2 := SGu2.pt
    replace SI := SI.pt
    refine ⟨(M.mask [false, false, true, true] rfl), ?_⟩
    exact H1 _ _ ⟨gr20_9, gr20_7, T.pick [1, 0, 2, 3, 4, 5, 6, 7, 8, 9, 10, 11, 12, 13, 14] rfl, M.permT [1, 0, 2, 3] 4 rfl rfl rfl rfl⟩
   intro H0
   refine gB_q (T := T) (i := 0) rfl (by kernel_rfl) (by kernel_rfl : (Zpb 16 0).setIfInBounds 0 true = Zpb 16 1) (fun _ => si_U) rfl rfl rfl rfl (fun T9 B w' hD hl hS => (Zrr (Mem.nth (show Mem (Bq.tp w T9 0) noEx w' _ from hS) 1 rfl) rfl (T.e 1 rfl) rfl)) ?_; clear T ac; intro ac T
   refine gB_q (v := (.pointer (some ⟨g2, 1, none⟩))) (T := T) (i := 1) rfl (by kernel_rfl) (by kernel_rfl : (Zpb 16 1).setIfInBounds 1 true = Zpb 16 3) (fun _ => si_U) rfl rfl rfl rfl (fun _ _ _ _ _ _ => (Zrg 1 rfl (T.e 5 rfl))) ?_; clear T ac; intro ac T
   refine gB_q (T := T) (i := 2) rfl (by kernel_rfl) (by kernel_rfl : (Zpb 16 3).setIfInBounds 2 true = Zpb 16 7) (fun _ => si_U) rfl rfl rfl rfl (fun T9 B w' hD hl hS => (Zro (Mem.nth (show Mem (Bq.tp w T9 0) noEx w' _ from hS) 0 rfl) rfl (T.e 0 rfl) rfl)) ?_; clear T ac; intro ac T
   refine gB_q (T := T) (i := 3) rfl (by kernel_rfl) (by kernel_rfl : (Zpb 16 7).setIfInBounds 3 true = Zpb 16 15) (fun _ => si_U) rfl rfl rfl rfl (fun _ _ _ _ _ _ => (rn_add rfl (T.e 0 rfl) evc (by omega))) ?_; clear T ac; intro ac T
   refine gB_q (T := T) (i := 4) rfl (by kernel_rfl) (by kernel_rfl : (Zpb 16 15).setIfInBounds 4 true = Zpb 16 31) (fun _ => si_U) rfl rfl rfl rfl (fun _ _ _ _ _ _ => (Zrm rfl (T.e 6 rfl))) ?_; clear T ac; intro ac T
   refine gB_q (T := T) (i := 5) rfl (by kernel_rfl) (by kernel_rfl : (Zpb 16 31).setIfInBounds 5 true = Zpb 16 63) (fun _ => si_U) rfl rfl rfl rfl (fun _ _ _ _ _ _ => (Zrm rfl (T.e 7 rfl))) ?_; clear T ac; intro ac T
   refine gB_q (T := T) (i := 8) rfl (by kernel_rfl) (by kernel_rfl : (Zpb 16 63).setIfInBounds 8 true = Zpb 16 319) (fun _ => si_U) rfl rfl rfl rfl (fun _ _ _ _ _ _ => (Zrm rfl (T.e 9 rfl))) ?_; clear T ac; intro ac T
   refine gB_m2 (i := 6) (j := 9) (by kernel_rfl) ?_ ?_
   ·refine gB_i rfl (by kernel_rfl : (Zpb 16 319).setIfInBounds 6 true = Zpb 16 383) rfl ?_; intro T9 K hK
    replace M := M.tp T9 0 0
    replace SGu2 := SGu2.tp T9 0
    replace SI := SI.tp T9 0
    refine Zod T rfl rfl rfl rfl evf (.cons (T.e 3 rfl) (.cons (T.e 2 rfl) (.cons (T.e 1 rfl) (.cons evc .nil)))) Try.func44 rfl rfl ?_
    refine Calls.mono (note_any (x1 + 1) xu3 xu3 false _) ?_
    clear T; rintro e wc ⟨rfl, hb⟩ ac T
    replace M := M.call hb; clear hb
    refine gB_out hK M ?_; clear hK K M; intro wc M
    replace SGu2 := SGu2.pt
    replace SI := SI.pt
    refine ⟨(M.mask [true, true] rfl), ?_⟩
    refine gB_m2 (i := 7) (j := 9) (by kernel_rfl) ?_ ?_
    ·refine gB_i rfl (by kernel_rfl : (Zpb 16 383).setIfInBounds 7 true = Zpb 16 511) rfl ?_; intro T9 K hK
     replace M := M.tp T9 0 0
     replace SGu2 := SGu2.tp T9 0
     replace SI := SI.tp T9 0
     refine ow_bs (e := 70) [Zi (x1 + 1), Zi xu3, Zi xu3, .bool false] M T rfl rfl rfl rfl (.cons (T.e 0 rfl) .nil) (fun _ => by kernel_rfl) ?_; clear M T; intro gr20_7 wc ac M T
     refine gB_out hK M ?_; clear hK K M; intro wc M
     replace SGu2 := SGu2.pt
     replace SI := SI.pt
     refine ⟨(M.mask [false, true, true] rfl), ?_⟩
     refine gB_w (i := 9) (by kernel_rfl) rfl (by kernel_rfl : (Zpb 16 511).setIfInBounds 9 true = Zpb 16 1023) rfl ?_; intro T9 K hK
     replace M := M.tp T9 0 0
     replace SGu2 := SGu2.tp T9 0
     replace SI := SI.tp T9 0
     refine ow_bs (e := 3) [Zi xu4] M T rfl rfl rfl rfl (.cons (T.e 2 rfl) .nil) (fun _ => by kernel_rfl) ?_; clear M T; intro gr20_9 wc ac M T
     refine gB_out hK M ?_; clear hK K M; intro wc M
     replace SGu2 := SGu2.pt
     replace SI := SI.pt
     refine ⟨(M.mask [false, false, true, true] rfl), ?_⟩
     exact H1 _ _ ⟨gr20_9, gr20_7, T, M⟩
    refine gB_i rfl (by kernel_rfl : (Zpb 16 383).setIfInBounds 9 true = Zpb 16 895) rfl ?_; intro T9 K hK
    replace M := M.tp T9 0 0
    replace SGu2 := SGu2.tp T9 0
    replace SI := SI.tp T9 0
    refine ow_bs (e := 3) [Zi xu4] M T rfl rfl rfl rfl (.cons (T.e 1 rfl) .nil) (fun _ => by kernel_rfl) ?_; clear M T; intro gr20_9 wc ac M T
    refine gB_out hK M ?_; clear hK K M; intro wc M
    replace SGu2 := SGu2.pt
    replace SI := SI.pt
    refine ⟨(M.mask [false, true, true] rfl), ?_⟩
    exact H0 _ _ ⟨gr20_9, T, M⟩
   refine gB_i rfl (by kernel_rfl : (Zpb 16 319).setIfInBounds 9 true = Zpb 16 831) rfl ?_; intro T9 K hK
   replace M := M.tp T9 0 0
   replace SGu2 := SGu2.tp T9 0
   replace SI := SI.tp T9 0
   refine ow_bs (e := 3) [Zi xu4] M T rfl rfl rfl rfl (.cons (T.e 0 rfl) .nil) (fun _ => by kernel_rfl) ?_; clear M T; intro gr20_9 wc ac M T
   refine gB_out hK M ?_; clear hK K M; intro wc M
   replace SGu2 := SGu2.pt
   replace SI := SI.pt
   refine ⟨(M.mask [false, true, true] rfl), ?_⟩
   refine gB_w (i := 6) (by kernel_rfl) rfl (by kernel_rfl : (Zpb 16 831).setIfInBounds 6 true = Zpb 16 895) rfl ?_; intro T9 K hK
   replace M := M.tp T9 0 0
   replace SGu2 := SGu2.tp T9 0
   replace SI := SI.tp T9 0
   refine Zod T rfl rfl rfl rfl evf (.cons (T.e 4 rfl) (.cons (T.e 3 rfl) (.cons (T.e 2 rfl) (.cons evc .nil)))) Try.func44 rfl rfl ?_
   refine Calls.mono (note_any (x1 + 1) xu3 xu3 false _) ?_
   clear T; rintro e wc ⟨rfl, hb⟩ ac T
   replace M := M.call hb; clear hb
   refine gB_out hK M ?_; clear hK K M; intro wc M
   replace SGu2 := SGu2.pt
   replace SI := SI.pt
   refine ⟨(M.mask [false, true, true] rfl), ?_⟩
   exact H0 _ _ ⟨gr20_9, T.pick [1, 0, 2, 3, 4, 5, 6, 7, 8, 9, 10, 11, 12, 13] rfl, M⟩
  intro h12
  refine wpB_skip hP ?_
  exact ⟨(T.pick (E' := []) [] rfl).as (by (try rw [show (decide (x1 < 20)) = false from (Zdf h12)]); (try rfl)), M.mask [false, false] rfl⟩
 clear T M
 rintro ac wc ⟨T, M⟩
 refine wpB_seq hP ?_
 refine rB_preN hP w 0 (by decide) fun T9 => ?_
 replace M := M.tp T9 0 0
 replace SGu2 := SGu2.tp T9 0
 replace SI := SI.tp T9 0
 refine wpList_nil ?_
 refine pqR_n M ?_; clear M; intro wc M
 replace SGu2 := SGu2.pt
 replace SI := SI.pt
 refine rB_call hP (m := 1) (first := []) (cap := []) T rfl rfl rfl rfl rfl evf .nil Try.func16 rfl rfl (airy_any hP _) ?_
 clear T
 rintro e wc ⟨rfl, hb⟩
 refine ⟨_, rfl, ?_⟩
 intro ac T
 replace M := M.call hb; clear hb
 refine rB_moreN hP w 1 0 rfl (by decide) fun T9 => ?_
 replace M := M.tp T9 0 0
 replace SGu2 := SGu2.tp T9 0
 replace SI := SI.tp T9 0
 refine lq T (Zra rfl (T.e 0 rfl)) ?_; clear T ac; intro ac T
 refine wpList_nil ?_
 refine pqR_n M ?_; clear M; intro wc M
 replace SGu2 := SGu2.pt
 replace SI := SI.pt
 refine rB_nil hP ?_
 replace T := T.pick [0] rfl
 refine nm_then ?_
 refine wpB_ret hP ?_
 refine rt_1 T rfl (T.e 0 rfl) ?_
 exact ⟨rfl, M.below⟩
end Go.Proofs.Ytoheddpnnjldgaa

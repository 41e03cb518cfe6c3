/-
  The law BellowStuck, walked beside leavers.
-/
import Derived.Test.YtoheddpnnjldgaaMBellowStuck1
import Derived.Test.YtoheddpnnjldgaaMBellowStuck2
import Derived.Test.YtoheddpnnjldgaaMBellowStuck3
import Derived.Test.YtoheddpnnjldgaaMBellowStuck4
import Derived.Test.YtoheddpnnjldgaaMBellowStuck5
namespace Go.Proofs.Ytoheddpnnjldgaa
set_option linter.unusedSimpArgs false
set_option linter.unusedVariables false
open Go.RowKit Go.Proofs.Ytoheddpnnjldgaa.Bq
set_option maxRecDepth 100000 in
set_option maxHeartbeats 4000000 in
theorem BellowStuck_any {J : Nat → Option Obj} (hP : FuncsOk Try.prog) (D : Option Addr) (n d : Nat) (l : List Int) (w : World) (hl : Rd w w.heap.size 1 D n (ic l)) (hm : n ≤ 9223372036854775807) :
   TopB Try.prog J 4 Try.f4 #[.slice D n d] w fun e w' => e = .returned (.bool true) ∧ Below w.heap.size w w' := by
 have hll := hl.len1
 obtain ⟨bI, oI, SI⟩ := Sp.old hl
 refine px_enterT hP noEx Try.func4 rfl 76 rfl [.slice D n d] rfl rfl (Mem.init w _) ?_ (fun _ _ h => ⟨_, h.1⟩)
 intro ac wc T M
 refine wpB_seq hP ?_
 refine b_lone hP w fun T9 => ?_
 replace M := M.tp T9 0 0
 replace SI := SI.tp T9 0
 refine wp_region_lit ?_
 refine lq T (Zra rfl evc) ?_; clear T ac; intro ac T
 refine wpList_nil ?_
 refine nqR_n M ?_; clear M; intro wc M
 replace SI := SI.pt
 replace T := T.pick [1] rfl
 refine nm_then ?_
 refine wpB_seq hP ?_
 refine b_lone hP w fun T9 => ?_
 replace M := M.tp T9 0 0
 replace SI := SI.tp T9 0
 refine wp_region_lit ?_
 refine lq T (Zrm rfl (T.e 0 rfl)) ?_; clear T ac; intro ac T
 refine Zl2 ?_
 refine Zoc (first := []) (cap := []) T rfl rfl rfl rfl evf (.cons (T.e 0 rfl) .nil) Try.func17 rfl rfl ?_
 refine Calls.mono (newPot_any _ _ _ l _ (SI.rd M (Zz9 _)) (by omega)) ?_
 clear T; rintro e wc ⟨bpu1, su1, hsu1, rfl, N⟩ ac T
 replace M := M.join N; clear N
 replace M := M.mask [true] rfl
 refine lq T (Zra rfl (T.e 0 rfl)) ?_; clear T ac; intro ac T
 refine wpList_nil ?_
 refine nqR_n M ?_; clear M; intro wc M
 replace SI := SI.pt
 replace T := T.pick [0] rfl
 refine nm_then ?_
 refine wpB_seq hP ?_
 refine b_lone hP w fun T9 => ?_
 replace M := M.tp T9 0 0
 replace SI := SI.tp T9 0
 refine wp_region_lit ?_
 refine lq T (Zrm rfl (T.e 0 rfl)) ?_; clear T ac; intro ac T
 refine Zl2 ?_
 refine Zoc (first := []) (cap := []) T rfl rfl rfl rfl evf (.cons (T.e 0 rfl) (.cons evc (.cons evc .nil))) Try.func18 rfl rfl ?_
 refine Calls.mono (bellowOf_any _ bpu1 3 1 _ (by omega) (by omega) (M.nth 0 rfl) hsu1) ?_
 clear T; rintro e wc ⟨bu2, gu2, airu2, Abu2, cbu2, Dbu2, dbu2, Gbu2, nbu2, su2, Ibu2, rfl, hBtu2, hBgu2, hBnu2, hsu2, hBiu2, ⟨bGu2, oGu2, hGsu2⟩, N⟩ ac T
 replace M := (M.joinW2 .head N).swapI
 clear N
 replace M : Mem (Bq.tp w T9 0) noEx wc ((bpu1, .cells [.int .u64 su2]) :: Ibu2) := M
 have SGu2 := hGsu2 (Bq.tp w T9 0) noEx
 have hB4u2 : gu2.length ≤ 4 := by omega
 have hB3u2 : bu2.ts.length ≤ 3 := by omega
 refine Zg4 T (Zq (Zrm rfl (T.e 0 rfl))) rfl (Ze 0 rfl rfl rfl) rfl (Ze 1 rfl rfl rfl) rfl (Ze 2 rfl rfl rfl) rfl ?_; clear T ac; intro ac T
 refine Zl2 ?_
 refine Zoa M T rfl rfl rfl rfl ?_; clear M T; intro g1 wc ac M T
 refine Zl2 ?_
 refine Zos M T rfl rfl (T.e 0 rfl) (T.e 3 rfl) rfl .head rfl (by simp) rfl (by kernel_rfl) ?_; clear M T; intro wc ac M T
 refine Zg2 T (Zq (Zra rfl (T.e 2 rfl))) rfl (Za 2 rfl rfl) rfl ?_; clear T ac; intro ac T
 refine wpList_nil ?_
 refine nqR_n M ?_; clear M; intro wc M
 replace SGu2 := SGu2.pt
 replace SI := SI.pt
 replace T := T.pick [2, 9] rfl
 refine nm_then ?_
 refine wpB_seq hP ?_
 refine b_lone hP w fun T9 => ?_
 replace M := M.tp T9 0 0
 replace SGu2 := SGu2.tp T9 0
 replace SI := SI.tp T9 0
 refine wp_region_lit ?_
 refine lq T (Zrm rfl (T.e 1 rfl)) ?_; clear T ac; intro ac T
 refine Zl2 ?_
 refine Zoc (first := []) (cap := []) T rfl rfl rfl rfl evf (.cons (T.e 0 rfl) (.cons evc .nil)) Try.func25 rfl rfl ?_
 refine Calls.mono (pieceOf_any _ bpu1 6 _ (by omega) (M.nth 1 rfl) hsu2) ?_
 clear T; rintro e wc ⟨pu3, aau3, Apu3, cpu3, Bpu3, dpu3, su3, Ipu3, rfl, hPtu3, hPlu3, hPmu3, hPcu3, hsu3, ⟨bqu3, oqu3, hSpu3⟩, ⟨bru3, oru3, hSau3⟩, N⟩ ac T
 replace M := (M.joinW2 (.tail .head) N).swapI
 clear N
 replace M : Mem (Bq.tp w T9 0) noEx wc ((g1, .cells [.int .i64 bu2.full, .int .i64 bu2.a0, .int .i64 bu2.a1, .slice Abu2 bu2.cs.length cbu2, .slice Dbu2 bu2.ts.length dbu2]) :: (bpu1, .cells [.int .u64 su3]) :: (Ibu2 ++ Ipu3)) := M
 have SPu3 := hSpu3 (Bq.tp w T9 0) noEx
 have SAu3 := hSau3 (Bq.tp w T9 0) noEx
 have hpgu3 : NtGood pu3 := ⟨by omega, hPtu3.good⟩
 have hp6u3 := hpgu3.n6
 refine Zg5 T (Zq (Zrm rfl (T.e 0 rfl))) rfl (Ze 0 rfl rfl rfl) rfl (Ze 1 rfl rfl rfl) rfl (Za 1 rfl rfl) rfl (Za 1 rfl rfl) rfl ?_; clear T ac; intro ac T
 refine wpList_nil ?_
 refine nqR_n M ?_; clear M; intro wc M
 replace SAu3 := SAu3.pt
 replace SGu2 := SGu2.pt
 replace SI := SI.pt
 replace SPu3 := SPu3.pt
 replace T := T.pick [1, 7] rfl
 replace M := M.mask [true, false] rfl
 refine nm_then ?_
 refine wpB_seq hP ?_
 refine rB_preN hP w 2 (by decide) fun T9 => ?_
 replace M := M.tp T9 0 0
 replace SAu3 := SAu3.tp T9 0
 replace SGu2 := SGu2.tp T9 0
 replace SI := SI.tp T9 0
 replace SPu3 := SPu3.tp T9 0
 refine Zg2 T (Zq (Zrr (Mem.nth M 0 rfl) rfl (T.e 1 rfl) rfl)) rfl (Zm 1 rfl rfl) rfl ?_; clear T ac; intro ac T
 refine wpList_nil ?_
 refine pqR_n M ?_; clear M; intro wc M
 replace SAu3 := SAu3.pt
 replace SGu2 := SGu2.pt
 replace SI := SI.pt
 replace SPu3 := SPu3.pt
 obtain ⟨hA9, hD9, hop9⟩ := hBiu2.rd M (.cons _ (subL (List.Sublist.refl _)))
 obtain ⟨nA9, nD9, nop9⟩ := hBiu2.few
 refine rB_call hP (m := 5) (first := []) (cap := []) T rfl rfl rfl rfl rfl evf (.cons (T.e 1 rfl) (.cons (T.e 0 rfl) .nil)) Try.func26 rfl rfl (Stuck_any hP bu2 Abu2 cbu2 Dbu2 dbu2 pu3 Apu3 cpu3 _ hA9 hD9 hop9 nA9 nD9 nop9 (SPu3.rd M (.cons _ (Zsq _ _))) (by omega) (by omega)) ?_
 clear T
 rintro e wc ⟨rfl, hb⟩
 refine ⟨_, rfl, ?_⟩
 intro ac T
 replace M := M.call hb; clear hb
 obtain ⟨hsE, ⟨hs0, hs1⟩, hsL⟩ := stuck_law hBtu2 hB4u2 hB3u2 hpgu3
 rw [hsE] at T
 obtain ⟨nst, hnst⟩ : ∃ q, q = stuV bu2 pu3 := ⟨_, rfl⟩
 rw [← hnst] at T hs0 hs1 hsL
 refine rB_moreN hP w 5 0 rfl (by decide) fun T9 => ?_
 replace M := M.tp T9 0 0
 replace SAu3 := SAu3.tp T9 0
 replace SGu2 := SGu2.tp T9 0
 replace SI := SI.tp T9 0
 replace SPu3 := SPu3.tp T9 0
 refine Zg5 T (Zq (Zrm rfl (T.e 0 rfl))) rfl (Ze 0 rfl rfl rfl) rfl (Ze 1 rfl rfl rfl) rfl (Za 1 rfl rfl) rfl (Za 1 rfl rfl) rfl ?_; clear T ac; intro ac T
 refine wpList_nil ?_
 refine pqR_n M ?_; clear M; intro wc M
 replace SAu3 := SAu3.pt
 replace SGu2 := SGu2.pt
 replace SI := SI.pt
 replace SPu3 := SPu3.pt
 refine rB_nil hP ?_
 replace T := T.pick [0, 1, 8, 9] rfl
 refine nm_then ?_
 refine wpB_seq hP ?_
 refine cutB_seq hP (fun ac wc => Tm ac 76 [(4, .pointer (some ⟨g1, 0, none⟩)), (7, .slice Apu3 pu3.length cpu3), (9, .int .i64 nst), (45, .bool ((decide (nst < 0)) || (decide (((pu3.length : Nat) : Int) < nst))))] ∧ Mem w noEx wc ((g1, .cells [.int .i64 bu2.full, .int .i64 bu2.a0, .int .i64 bu2.a1, .slice Abu2 bu2.cs.length cbu2, .slice Dbu2 bu2.ts.length dbu2]) :: (Ibu2 ++ Ipu3))) ?_ ?_
 ·refine b_lone hP w fun T9 => ?_
  replace M := M.tp T9 0 0
  replace SAu3 := SAu3.tp T9 0
  replace SGu2 := SGu2.tp T9 0
  replace SI := SI.tp T9 0
  replace SPu3 := SPu3.tp T9 0
  refine wp_region_lit ?_
  refine Zg7 (v2 := (.bool false)) T (Zq (Zrm rfl (T.e 0 rfl))) rfl (fun _ T => Zq (Zrq (rn_neq rfl (T.e 0 rfl) evc) (by simp))) rfl (Zm 0 rfl rfl) rfl (fun _ T => Zw (Zwy rfl rfl (T.e 0 rfl) rfl) (Zrm rfl (T.e 4 rfl))) rfl (fun _ T => Zw (Zwy rfl rfl (T.e 1 rfl) rfl) (rn_lss rfl (T.e 0 rfl) evc)) rfl (fun _ T => Zq (Zr0 rfl (T.e 2 rfl) rfl (T.e 0 rfl))) rfl (Zm 0 rfl rfl) rfl ?_; clear T ac; intro ac T
  rcases Bool.eq_false_or_eq_true (decide (nst < 0)) with h1 | h1
  ·replace h1 := of_decide_eq_true h1
   refine Zg5 T (Zp (Zwn rfl rfl (T.e 0 rfl) (Zdt h1))) rfl (fun _ T => Zp (Zwn rfl rfl (T.e 1 rfl) (Zdt h1))) rfl (fun _ T => Zp (Zwn rfl rfl (T.e 2 rfl) (Zdt h1))) rfl (fun _ T => Zp (Zwn rfl rfl (T.e 3 rfl) (Zdt h1))) rfl (fun _ T => Zq (Zr1 rfl (T.e 4 rfl) (Zdt h1) evc)) rfl ?_; clear T ac; intro ac T
   refine wpList_nil ?_
   refine nqR_n M ?_; clear M; intro wc M
   replace SAu3 := SAu3.pt
   replace SGu2 := SGu2.pt
   replace SI := SI.pt
   replace SPu3 := SPu3.pt
   replace T := T.pick [0, 13, 14, 15] rfl
   exact ⟨(T.pick (E' := [(4, .pointer (some ⟨g1, 0, none⟩)), (7, .slice Apu3 pu3.length cpu3), (9, .int .i64 nst), (45, .bool true)]) [3, 2, 1, 0] rfl).as (by (try rw [show (decide (nst < 0)) = true from (Zdt h1)]); (try rfl)), M.mask [true] rfl⟩
  replace h1 := of_decide_eq_false h1
  refine Zg5 T (Zw (Zwy rfl rfl (T.e 0 rfl) (Zdf h1)) (Zrm rfl (T.e 8 rfl))) rfl (fun _ T => Zw (Zwy rfl rfl (T.e 1 rfl) (Zdf h1)) (Zrm rfl (T.e 10 rfl))) rfl (fun _ T => Zw (Zwy rfl rfl (T.e 2 rfl) (Zdf h1)) (Zrl rfl Try.underlying44 (T.e 0 rfl))) rfl (fun _ T => Zw (Zwy rfl rfl (T.e 3 rfl) (Zdf h1)) (rn_gtr rfl (T.e 2 rfl) (T.e 0 rfl))) rfl (fun _ T => Zq (Zr0 rfl (T.e 4 rfl) (Zdf h1) (T.e 0 rfl))) rfl ?_; clear T ac; intro ac T
  refine wpList_nil ?_
  refine nqR_n M ?_; clear M; intro wc M
  replace SAu3 := SAu3.pt
  replace SGu2 := SGu2.pt
  replace SI := SI.pt
  replace SPu3 := SPu3.pt
  replace T := T.pick [0, 13, 14, 15] rfl
  exact ⟨(T.pick (E' := [(4, .pointer (some ⟨g1, 0, none⟩)), (7, .slice Apu3 pu3.length cpu3), (9, .int .i64 nst), (45, .bool (decide (((pu3.length : Nat) : Int) < nst)))]) [3, 2, 1, 0] rfl).as (by (try rw [show (decide (nst < 0)) = false from (Zdf h1)]); (try rfl)), M.mask [true] rfl⟩
 clear T M
 rintro ac wc ⟨T, M⟩
 refine wB_cond_split hP (T.e 3 rfl) ?_ ?_
 ·intro h2
  (have h2' := h2; try simp only [Zb1, Zb2, Zb3, Zb4, Zb5, Zb6, Zb7] at h2')
  refine wpB_seq hP ?_
  refine b_lone hP w fun T9 => ?_
  replace M := M.tp T9 0 0
  replace SAu3 := SAu3.tp T9 0
  replace SGu2 := SGu2.tp T9 0
  replace SI := SI.tp T9 0
  replace SPu3 := SPu3.tp T9 0
  refine wp_region_lit ?_
  refine lq T (Zra rfl evc) ?_; clear T ac; intro ac T
  refine wpList_nil ?_
  refine nqR_n M ?_; clear M; intro wc M
  replace SAu3 := SAu3.pt
  replace SGu2 := SGu2.pt
  replace SI := SI.pt
  replace SPu3 := SPu3.pt
  replace T := T.pick [0] rfl
  replace M := M.mask [false] rfl
  refine nm_then ?_
  refine wpB_ret hP ?_
  refine Zrt ?_
  refine rt_1 T rfl (T.e 0 rfl) ?_
  exfalso
  first | omega | (simp_all; done) | (simp_all; omega)
 intro h2
 (have h2' := h2; try simp only [Zb1, Zb2, Zb3, Zb4, Zb5, Zb6, Zb7] at h2')
 refine wpB_skip hP ?_
 refine nm_then ?_
 refine wpB_seq hP ?_
 refine wpB_seq hP ?_
 refine b_lone hP w fun T9 => ?_
 replace M := M.tp T9 0 0
 replace SAu3 := SAu3.tp T9 0
 replace SGu2 := SGu2.tp T9 0
 replace SI := SI.tp T9 0
 replace SPu3 := SPu3.tp T9 0
 refine wp_region_lit ?_
 refine lq T (Zra rfl evc) ?_; clear T ac; intro ac T
 refine wpList_nil ?_
 refine nqR_n M ?_; clear M; intro wc M
 replace SAu3 := SAu3.pt
 replace SGu2 := SGu2.pt
 replace SI := SI.pt
 replace SPu3 := SPu3.pt
 replace T := T.pick [0, 1, 2, 3] rfl
 refine nm_then ?_
 refine wpB_block hP ?_
 refine wpB_loop_n hP (fun mz ac wc => ∃ (k : Nat), mz = pu3.length + 1 - k ∧ (k ≤ pu3.length + 1) ∧ Tm ac 76 [(4, .pointer (some ⟨g1, 0, none⟩)), (7, .slice Apu3 pu3.length cpu3), (9, .int .i64 nst), (11, .int .i64 (k : Int))] ∧ Mem w noEx wc ((g1, .cells [.int .i64 bu2.full, .int .i64 bu2.a0, .int .i64 bu2.a1, .slice Abu2 bu2.cs.length cbu2, .slice Dbu2 bu2.ts.length dbu2]) :: (Ibu2 ++ Ipu3))) ?_ ?_
 ·exact ⟨_, 0, rfl, (Nat.zero_le _), T.pick [1, 2, 3, 0] rfl, M.mask [true] rfl⟩
 clear T M
 rintro mz ac wc ⟨k, hmm1, hk, T, M⟩
 refine wpB_seq hP ?_
 refine wpB_seq hP ?_
 refine b_lone hP w fun T9 => ?_
 replace M := M.tp T9 0 0
 replace SAu3 := SAu3.tp T9 0
 replace SGu2 := SGu2.tp T9 0
 replace SI := SI.tp T9 0
 replace SPu3 := SPu3.tp T9 0
 refine wp_region_lit ?_
 refine Zg4 T (Zq (Zrm rfl (T.e 3 rfl))) rfl (Zm 2 rfl rfl) rfl (Zl Try.underlying44 0 rfl rfl) rfl (fun _ T => Zq (rn_leq rfl (T.e 2 rfl) (T.e 0 rfl))) rfl ?_; clear T ac; intro ac T
 refine wpList_nil ?_
 refine nqR_n M ?_; clear M; intro wc M
 replace SAu3 := SAu3.pt
 replace SGu2 := SGu2.pt
 replace SI := SI.pt
 replace SPu3 := SPu3.pt
 replace T := T.pick [0, 4, 5, 6, 7] rfl
 refine nm_then ?_
 refine wB_if hP (T.e 0 rfl) ?_ ?_
 ·intro h3
  replace hk : k ≤ pu3.length := by omega
  refine wpB_skip hP ?_
  refine nm_then ?_
  refine wpB_seq hP ?_
  refine wpB_block hP ?_
  refine wpB_seq hP ?_
  refine gB_start2 hP M (M.mask [true] rfl) 12 (by kernel_rfl) rfl (by kernel_rfl) ?_
  clear M; intro wc M
  refine gB_q (T := T) (i := 0) rfl (by kernel_rfl) (by kernel_rfl : (Zpb 12 0).setIfInBounds 0 true = Zpb 12 1) (fun _ => si_U) rfl rfl rfl rfl (fun T9 B w' hD hl hS => (Zrr (Mem.nth (show Mem (Bq.tp w T9 0) noEx w' _ from hS) 0 rfl) rfl (T.e 1 rfl) rfl)) ?_; clear T ac; intro ac T
  refine gB_q (T := T) (i := 1) rfl (by kernel_rfl) (by kernel_rfl : (Zpb 12 1).setIfInBounds 1 true = Zpb 12 3) (fun _ => si_U) rfl rfl rfl rfl (fun _ _ _ _ _ _ => (Zrm rfl (T.e 3 rfl))) ?_; clear T ac; intro ac T
  refine gB_q (T := T) (i := 2) rfl (by kernel_rfl) (by kernel_rfl : (Zpb 12 3).setIfInBounds 2 true = Zpb 12 7) (fun _ => si_U) rfl rfl rfl rfl (fun _ _ _ _ _ _ => (Zrm rfl (T.e 6 rfl))) ?_; clear T ac; intro ac T
  refine gB_q (T := T) (i := 3) rfl (by kernel_rfl) (by kernel_rfl : (Zpb 12 7).setIfInBounds 3 true = Zpb 12 15) (fun _ => si_U) rfl rfl rfl rfl (fun _ _ _ _ _ _ => (rn_slice (size := 4) (l := 0) (h := k) rfl Try.underlying44 (by kernel_rfl) (T.e 1 rfl) rfl (T.e 0 rfl) (by omega) (by omega))) ?_; clear T ac; intro ac T
  obtain ⟨Aq1, hAq1⟩ : ∃ q : Option Addr, q = (if cpu3 = 0 then Apu3 else Option.map (fun x : Addr => x.add (0 * 4)) Apu3) := ⟨_, rfl⟩
  rw [← hAq1] at T
  obtain ⟨lq1, hlq1⟩ : ∃ q, q = (pu3.drop 0).take (k - 0) := ⟨_, rfl⟩
  have nlq1 : lq1.length = k - 0 := by rw [hlq1, List.length_take, List.length_drop]; (try simp only [List.length_cons, List.length_append, List.length_nil]); omega
  rw [← nlq1] at T
  have SAq1 : Sp w noEx Ipu3 Aq1 lq1.length 4 bqu3 (oqu3 + 0 * 4) (ntc lq1) := by rw [nlq1, hAq1, hlq1, ← ntc_part]; exact SPu3.sub (by omega) (by omega) (by omega)
  obtain ⟨hA9, hD9, hop9⟩ := hBiu2.rd M (.cons _ (subL (List.Sublist.refl _)))
  obtain ⟨nA9, nD9, nop9⟩ := hBiu2.few
  refine gB_one (i := 4) (by kernel_rfl) (by kernel_rfl : (Zpb 12 15).setIfInBounds 4 true = Zpb 12 31) (opB_call (first := []) (cap := []) T rfl rfl rfl rfl rfl evf (.cons (T.e 3 rfl) (.cons (T.e 0 rfl) .nil)) Try.func27 rfl rfl (Turns_any hP bu2 Abu2 cbu2 Dbu2 dbu2 lq1 Aq1 (cpu3 - 0) _ hA9 hD9 hop9 nA9 nD9 nop9 (SAq1.rd M (.cons _ (Zsq _ _))) (by omega)) ?_ rfl)
  clear T
  rintro e wc ⟨Atur10_4, ctur10_4, Itur10_4, rfl, htcur10_4, ⟨btur10_4, otur10_4, hStur10_4⟩, N⟩
  refine ⟨_, rfl, ?_⟩
  intro ac T
  replace M := (M.join N).swapI
  clear N
  replace M : Mem w noEx wc ((g1, .cells [.int .i64 bu2.full, .int .i64 bu2.a0, .int .i64 bu2.a1, .slice Abu2 bu2.cs.length cbu2, .slice Dbu2 bu2.ts.length dbu2]) :: (Ibu2 ++ Ipu3 ++ Itur10_4)) := M
  have hlkur10_4 : lq1 = pu3.take k := by rw [hlq1]; simp
  obtain ⟨hL1ur10_4, hL2ur10_4⟩ := hsL k hk
  rw [← hlkur10_4] at hL1ur10_4 hL2ur10_4
  obtain ⟨teur10_4, hteur10_4⟩ : ∃ q, q = turE bu2 lq1 := ⟨_, rfl⟩
  rw [← hteur10_4] at T hL1ur10_4 hL2ur10_4
  refine ⟨((M.mask [true] rfl).sub (List.Sublist.cons_cons _ (Zsl _ _))), ?_⟩
  refine gB_q (T := T) (i := 5) rfl (by kernel_rfl) (by kernel_rfl : (Zpb 12 31).setIfInBounds 5 true = Zpb 12 63) (fun _ => si_U) rfl rfl rfl rfl (fun _ _ _ _ _ _ => (Zrm rfl (T.e 0 rfl))) ?_; clear T ac; intro ac T
  refine gB_q (T := T) (i := 6) rfl (by kernel_rfl) (by kernel_rfl : (Zpb 12 63).setIfInBounds 6 true = Zpb 12 127) (fun _ => si_U) rfl rfl rfl rfl (fun _ _ _ _ _ _ => (Zre rfl (T.e 0 rfl) rfl)) ?_; clear T ac; intro ac T
  refine gB_q (T := T) (i := 7) rfl (by kernel_rfl) (by kernel_rfl : (Zpb 12 127).setIfInBounds 7 true = Zpb 12 255) (fun _ => si_U) rfl rfl rfl rfl (fun _ _ _ _ _ _ => (Zre rfl (T.e 1 rfl) rfl)) ?_; clear T ac; intro ac T
  refine gB_q (T := T) (i := 8) rfl (by kernel_rfl) (by kernel_rfl : (Zpb 12 255).setIfInBounds 8 true = Zpb 12 511) (fun _ => si_U) rfl rfl rfl rfl (fun _ _ _ _ _ _ => (Zre rfl (T.e 2 rfl) rfl)) ?_; clear T ac; intro ac T
  refine gB_q (T := T) (i := 9) rfl (by kernel_rfl) (by kernel_rfl : (Zpb 12 511).setIfInBounds 9 true = Zpb 12 1023) (fun _ => si_U) rfl rfl rfl rfl (fun _ _ _ _ _ _ => (Zra rfl (T.e 2 rfl))) ?_; clear T ac; intro ac T
  refine gB_q (T := T) (i := 10) rfl (by kernel_rfl) (by kernel_rfl : (Zpb 12 1023).setIfInBounds 10 true = Zpb 12 2047) (fun _ => si_U) rfl rfl rfl rfl (fun _ _ _ _ _ _ => (Zra rfl (T.e 2 rfl))) ?_; clear T ac; intro ac T
  refine gB_q (T := T) (i := 11) rfl (by kernel_rfl) (by kernel_rfl : (Zpb 12 2047).setIfInBounds 11 true = Zpb 12 4095) (fun _ => si_U) rfl rfl rfl rfl (fun _ _ _ _ _ _ => (Zra rfl (T.e 2 rfl))) ?_; clear T ac; intro ac T
  refine gB_done (by kernel_rfl) M ?_; clear M; intro wc M
  replace T := T.pick [0, 13, 14, 15, 16] rfl
  refine nm_then ?_
  refine cutB_seq hP (fun ac wc => Tm ac 76 [(4, .pointer (some ⟨g1, 0, none⟩)), (7, .slice Apu3 pu3.length cpu3), (9, .int .i64 nst), (11, .int .i64 (k : Int)), (74, .bool (bif (!(decide (teur10_4 = 0))) then ((!(decide (teur10_4 = 11))) || (!((decide (teur10_4 = 0)) == (decide ((k : Int) ≤ nst))))) else (!((decide (teur10_4 = 0)) == (decide ((k : Int) ≤ nst))))))] ∧ Mem w noEx wc ((g1, .cells [.int .i64 bu2.full, .int .i64 bu2.a0, .int .i64 bu2.a1, .slice Abu2 bu2.cs.length cbu2, .slice Dbu2 bu2.ts.length dbu2]) :: (Ibu2 ++ Ipu3 ++ Itur10_4))) ?_ ?_
  ·refine b_lone hP w fun T9 => ?_
   replace M := M.tp T9 0 0
   replace SAq1 := SAq1.tp T9 0
   replace SAu3 := SAu3.tp T9 0
   replace SGu2 := SGu2.tp T9 0
   replace SI := SI.tp T9 0
   replace SPu3 := SPu3.tp T9 0
   refine wp_region_lit ?_
   refine Zg3 T (Zq (Zrm rfl (T.e 0 rfl))) rfl (fun _ T => Zq (rn_neq rfl (T.e 0 rfl) evc)) rfl (Zm 0 rfl rfl) rfl ?_; clear T ac; intro ac T
   rcases Bool.eq_false_or_eq_true (!(decide (teur10_4 = 0))) with h4 | h4
   ·replace h4 : ¬ (teur10_4 = 0) := by first | (rw [Bool.not_eq_true'] at h4; exact of_decide_eq_false h4) | simpa using h4
    refine Zg4 T (Zw (Zwy rfl rfl (T.e 0 rfl) (by simp [h4])) (Zrm rfl (T.e 3 rfl))) rfl (fun _ T => Zw (Zwy rfl rfl (T.e 1 rfl) (by simp [h4])) (rn_neq rfl (T.e 0 rfl) evc)) rfl (fun _ T => Zq (Zr1 rfl (T.e 2 rfl) (by simp [h4]) (T.e 0 rfl))) rfl (Zm 0 rfl rfl) rfl ?_; clear T ac; intro ac T
    rcases Bool.eq_false_or_eq_true (!(decide (teur10_4 = 11))) with h5 | h5
    ·replace h5 : ¬ (teur10_4 = 11) := by first | (rw [Bool.not_eq_true'] at h5; exact of_decide_eq_false h5) | simpa using h5
     refine Zg7 T (Zp (Zwn rfl rfl (T.e 0 rfl) (by simp [h5]))) rfl (fun _ T => Zp (Zwn rfl rfl (T.e 1 rfl) (by simp [h5]))) rfl (fun _ T => Zp (Zwn rfl rfl (T.e 2 rfl) (by simp [h5]))) rfl (fun _ T => Zp (Zwn rfl rfl (T.e 3 rfl) (by simp [h5]))) rfl (fun _ T => Zp (Zwn rfl rfl (T.e 4 rfl) (by simp [h5]))) rfl (fun _ T => Zp (Zwn rfl rfl (T.e 5 rfl) (by simp [h5]))) rfl (fun _ T => Zq (Zr1 rfl (T.e 6 rfl) (by simp [h5]) evc)) rfl ?_; clear T ac; intro ac T
     refine wpList_nil ?_
     refine nqR_n M ?_; clear M; intro wc M
     replace SAq1 := SAq1.pt
     replace SAu3 := SAu3.pt
     replace SGu2 := SGu2.pt
     replace SI := SI.pt
     replace SPu3 := SPu3.pt
     replace T := T.pick [0, 1, 2, 3, 4, 5, 6, 9, 10, 15, 16, 17, 18] rfl
     exact ⟨(T.pick (E' := [(4, .pointer (some ⟨g1, 0, none⟩)), (7, .slice Apu3 pu3.length cpu3), (9, .int .i64 nst), (11, .int .i64 (k : Int)), (74, .bool true)]) [9, 10, 11, 12, 0] rfl).as (by (try rw [show (!(decide (teur10_4 = 0))) = true from (by simp [h4])]); (try rw [show (!(decide (teur10_4 = 11))) = true from (by simp [h5])]); (try rfl)), M.mask [true] rfl⟩
    replace h5 : teur10_4 = 11 := by first | (rw [Bool.not_eq_false'] at h5; exact of_decide_eq_true h5) | simpa using h5
    refine Zg7 (v6 := (.bool (!((decide (teur10_4 = 0)) == (decide ((k : Int) ≤ nst)))))) T (Zw (Zwy rfl rfl (T.e 0 rfl) (by simp [h5])) (Zrm rfl (T.e 7 rfl))) rfl (fun _ T => Zw (Zwy rfl rfl (T.e 1 rfl) (by simp [h5])) (rn_eql rfl (T.e 0 rfl) evc)) rfl (fun _ T => Zw (Zwy rfl rfl (T.e 2 rfl) (by simp [h5])) (Zrm rfl (T.e 13 rfl))) rfl (fun _ T => Zw (Zwy rfl rfl (T.e 3 rfl) (by simp [h5])) (Zrm rfl (T.e 13 rfl))) rfl (fun _ T => Zw (Zwy rfl rfl (T.e 4 rfl) (by simp [h5])) (rn_leq rfl (T.e 1 rfl) (T.e 0 rfl))) rfl (fun _ T => Zw (Zwy rfl rfl (T.e 5 rfl) (by simp [h5])) (rn_bin rfl (T.e 3 rfl) (T.e 0 rfl) (by kernel_rfl))) rfl (fun _ T => Zq (Zr0 rfl (T.e 6 rfl) (by simp [h5]) (T.e 0 rfl))) rfl ?_; clear T ac; intro ac T
    refine wpList_nil ?_
    refine nqR_n M ?_; clear M; intro wc M
    replace SAq1 := SAq1.pt
    replace SAu3 := SAu3.pt
    replace SGu2 := SGu2.pt
    replace SI := SI.pt
    replace SPu3 := SPu3.pt
    replace T := T.pick [0, 1, 2, 3, 4, 5, 6, 9, 10, 15, 16, 17, 18] rfl
    exact ⟨(T.pick (E' := [(4, .pointer (some ⟨g1, 0, none⟩)), (7, .slice Apu3 pu3.length cpu3), (9, .int .i64 nst), (11, .int .i64 (k : Int)), (74, .bool (!((decide (teur10_4 = 0)) == (decide ((k : Int) ≤ nst)))))]) [9, 10, 11, 12, 0] rfl).as (by (try rw [show (!(decide (teur10_4 = 0))) = true from (by simp [h4])]); (try rw [show (!(decide (teur10_4 = 11))) = false from (by simp [h5])]); (try rfl)), M.mask [true] rfl⟩
   replace h4 : teur10_4 = 0 := by first | (rw [Bool.not_eq_false'] at h4; exact of_decide_eq_true h4) | simpa using h4
   refine Zg8 T (Zp (Zwn rfl rfl (T.e 0 rfl) (by simp [h4]))) rfl (fun _ T => Zp (Zwn rfl rfl (T.e 1 rfl) (by simp [h4]))) rfl (fun _ T => Zq (Zr0 rfl (T.e 2 rfl) (by simp [h4]) evc)) rfl (Zm 0 rfl rfl) rfl (fun _ T => Zw (Zwy rfl rfl (T.e 0 rfl) rfl) (Zrm rfl (T.e 7 rfl))) rfl (fun _ T => Zw (Zwy rfl rfl (T.e 1 rfl) rfl) (rn_eql rfl (T.e 0 rfl) evc)) rfl (fun _ T => Zw (Zwy rfl rfl (T.e 2 rfl) rfl) (Zrm rfl (T.e 13 rfl))) rfl (fun _ T => Zw (Zwy rfl rfl (T.e 3 rfl) rfl) (Zrm rfl (T.e 13 rfl))) rfl ?_; clear T ac; intro ac T
   refine Zg3 (v2 := (.bool (!((decide (teur10_4 = 0)) == (decide ((k : Int) ≤ nst)))))) T (Zw (Zwy rfl rfl (T.e 4 rfl) rfl) (rn_leq rfl (T.e 1 rfl) (T.e 0 rfl))) rfl (fun _ T => Zw (Zwy rfl rfl (T.e 5 rfl) rfl) (rn_bin rfl (T.e 3 rfl) (T.e 0 rfl) (by kernel_rfl))) rfl (fun _ T => Zq (Zr0 rfl (T.e 6 rfl) rfl (T.e 0 rfl))) rfl ?_; clear T ac; intro ac T
   refine wpList_nil ?_
   refine nqR_n M ?_; clear M; intro wc M
   replace SAq1 := SAq1.pt
   replace SAu3 := SAu3.pt
   replace SGu2 := SGu2.pt
   replace SI := SI.pt
   replace SPu3 := SPu3.pt
   replace T := T.pick [0, 1, 2, 3, 4, 5, 6, 9, 10, 15, 16, 17, 18] rfl
   exact ⟨(T.pick (E' := [(4, .pointer (some ⟨g1, 0, none⟩)), (7, .slice Apu3 pu3.length cpu3), (9, .int .i64 nst), (11, .int .i64 (k : Int)), (74, .bool (!((decide (teur10_4 = 0)) == (decide ((k : Int) ≤ nst)))))]) [9, 10, 11, 12, 0] rfl).as (by (try rw [show (!(decide (teur10_4 = 0))) = false from (by simp [h4])]); (try rfl)), M.mask [true] rfl⟩
  clear T M
  rintro ac wc ⟨T, M⟩
  refine wB_cond_split hP (T.e 4 rfl) ?_ ?_
  ·intro h6
   (have h6' := h6; try simp only [Zb1, Zb2, Zb3, Zb4, Zb5, Zb6, Zb7] at h6')
   refine wpB_seq hP ?_
   refine b_lone hP w fun T9 => ?_
   replace M := M.tp T9 0 0
   replace SAq1 := SAq1.tp T9 0
   replace SAu3 := SAu3.tp T9 0
   replace SGu2 := SGu2.tp T9 0
   replace SI := SI.tp T9 0
   replace SPu3 := SPu3.tp T9 0
   refine wp_region_lit ?_
   refine lq T (Zra rfl evc) ?_; clear T ac; intro ac T
   refine wpList_nil ?_
   refine nqR_n M ?_; clear M; intro wc M
   replace SAq1 := SAq1.pt
   replace SAu3 := SAu3.pt
   replace SGu2 := SGu2.pt
   replace SI := SI.pt
   replace SPu3 := SPu3.pt
   replace T := T.pick [0] rfl
   replace M := M.mask [false] rfl
   replace M : Mem w noEx wc ((Ibu2 ++ Ipu3 ++ Itur10_4)) := M
   refine nm_then ?_
   refine wpB_ret hP ?_
   refine Zrb ?_
   refine Zrt ?_
   refine Zrt ?_
   refine Zrb ?_
   refine Zrt ?_
   refine rt_1 T rfl (T.e 0 rfl) ?_
   exfalso
   first | omega | (simp_all; done) | (simp_all; omega)
  intro h6
  (have h6' := h6; try simp only [Zb1, Zb2, Zb3, Zb4, Zb5, Zb6, Zb7] at h6')
  refine wpB_skip hP ?_
  refine Znb ?_
  refine nm_then ?_
  refine b_lone hP w fun T9 => ?_
  replace M := M.tp T9 0 0
  replace SAq1 := SAq1.tp T9 0
  replace SAu3 := SAu3.tp T9 0
  replace SGu2 := SGu2.tp T9 0
  replace SI := SI.tp T9 0
  replace SPu3 := SPu3.tp T9 0
  refine wp_region_lit ?_
  refine Zg2 T (Zq (Zrm rfl (T.e 3 rfl))) rfl (fun _ T => Zq (rn_add rfl (T.e 0 rfl) evc (by omega))) rfl ?_; clear T ac; intro ac T
  refine l_q (v := (.int .i64 ((k : Int) + 1))) (T.pick [0, 1, 2, 3, 4, 6] rfl) rfl rfl rfl rfl (Zra rfl (T.e 0 rfl)) ?_; clear T ac; intro ac T
  refine wpList_nil ?_
  refine nqR_n M ?_; clear M; intro wc M
  replace SAq1 := SAq1.pt
  replace SAu3 := SAu3.pt
  replace SGu2 := SGu2.pt
  replace SI := SI.pt
  replace SPu3 := SPu3.pt
  replace T := T.pick [0, 3, 4, 5] rfl
  refine nm_then ?_
  exact ⟨_, by omega, k + 1, rfl, (by omega), T.pick [1, 2, 3, 0] rfl, (M.mask [true] rfl).sub (List.Sublist.cons_cons _ (Zsl _ _))⟩
 intro h3
 refine wpB_exit hP ?_
 refine Zet ?_
 refine Zet ?_
 refine ex_hit ?_
 refine nm_then ?_
 refine wpB_seq hP ?_
 refine rB_preN hP w 0 (by decide) fun T9 => ?_
 replace M := M.tp T9 0 0
 replace SAu3 := SAu3.tp T9 0
 replace SGu2 := SGu2.tp T9 0
 replace SI := SI.tp T9 0
 replace SPu3 := SPu3.tp T9 0
 refine wpList_nil ?_
 refine pqR_n M ?_; clear M; intro wc M
 replace SAu3 := SAu3.pt
 replace SGu2 := SGu2.pt
 replace SI := SI.pt
 replace SPu3 := SPu3.pt
 refine rB_call hP (m := 1) (first := []) (cap := []) T rfl rfl rfl rfl rfl evf .nil Try.func16 rfl rfl (airy_any hP _) ?_
 clear T
 rintro e wc ⟨rfl, hb⟩
 refine ⟨_, rfl, ?_⟩
 intro ac T
 replace M := M.call hb; clear hb
 refine rB_moreN hP w 1 0 rfl (by decide) fun T9 => ?_
 replace M := M.tp T9 0 0
 replace SAu3 := SAu3.tp T9 0
 replace SGu2 := SGu2.tp T9 0
 replace SI := SI.tp T9 0
 replace SPu3 := SPu3.tp T9 0
 refine lq T (Zra rfl (T.e 0 rfl)) ?_; clear T ac; intro ac T
 refine wpList_nil ?_
 refine pqR_n M ?_; clear M; intro wc M
 replace SAu3 := SAu3.pt
 replace SGu2 := SGu2.pt
 replace SI := SI.pt
 replace SPu3 := SPu3.pt
 refine rB_nil hP ?_
 replace T := T.pick [0] rfl
 replace M := M.mask [false] rfl
 refine nm_then ?_
 refine wpB_ret hP ?_
 refine rt_1 T rfl (T.e 0 rfl) ?_
 exact ⟨rfl, M.below⟩
end Go.Proofs.Ytoheddpnnjldgaa

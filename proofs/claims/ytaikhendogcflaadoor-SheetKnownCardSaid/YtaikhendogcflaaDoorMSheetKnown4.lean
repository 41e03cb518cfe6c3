/-
  Walks of functions, and plain laws (texts put together). No condition.
-/
import Derived.Test.YtaikhendogcflaaDoorMSheetKnown1
import Derived.Test.YtaikhendogcflaaDoorMSheetKnown2
import Derived.Test.YtaikhendogcflaaDoorMSheetKnown3
set_option maxRecDepth 100000
set_option maxHeartbeats 1000000
set_option linter.unusedSimpArgs false
set_option linter.unusedVariables false
namespace Go.Proofs.YtaikhendogcflaaDoor
open Go.RowKit
def skW (s : Sk) (i : Nat) : Sk := { s with ps := s.ps.eraseIdx i }
noncomputable def wrsV (s : Sk) (i : Nat) : Int := if shN (skW s i) true < shN s true then 1 else 2
noncomputable def wrsL (s : Sk) : List Int := if shE s true = 0 then (List.range s.ps.length).map (wrsV s) else []
def LiPost (xs : List Int) (er : Int) (w : World) (e : Ending) (w' : World) : Prop := LsPost 1 (ic xs) xs.length er w e w'
set_option maxHeartbeats 2000000 in
theorem Worst_any (s : Sk) (A : Option Addr) (d : Nat)  (w : World) (hA : Rd w w.heap.size 4 A s.ps.length (pc s.ps)) (nA : s.ps.length ≤ 1000000) (hd : s.ps.length ≤ d) (hT : TabW w)  :
   Calls Tryd.prog 44 #[.agg #[.int .i64 s.lo, .int .i64 s.wi, .int .i64 s.a0, .int .i64 s.a1, .int .i64 s.c0, .int .i64 s.c1, .slice A s.ps.length d]] w (LiPost (wrsL s) (shE s true) w) := by
 obtain ⟨bA, oA, SA⟩ := Sp.old hA
 refine Zpx noEx Tryd.func44 rfl 53 rfl [.agg #[.int .i64 s.lo, .int .i64 s.wi, .int .i64 s.a0, .int .i64 s.a1, .int .i64 s.c0, .int .i64 s.c1, .slice A s.ps.length d]] rfl rfl (Mem.init w _) ?_
 intro ac wc T M
 refine Zsr ?_
 refine Zl2 ?_
 refine Zob M T rfl rfl rfl rfl (T.e 0 rfl) rfl ?_; clear M T; intro g1 wc ac M T
 refine Zg2 T (Zq (Zra rfl evc)) rfl (Zc rfl) rfl ?_; clear T ac; intro ac T
 replace T := T.pick [2] rfl
 refine Zln ?_
 refine Zsr ?_
 refine lq T (Zrr (Mem.nth M 0 rfl) rfl (T.e 0 rfl) rfl) ?_; clear T ac; intro ac T
 refine Zl2 ?_
 refine Zoc (first := []) (cap := []) T rfl rfl rfl rfl evf (.cons (T.e 0 rfl) (.cons evc .nil)) Tryd.func7 rfl rfl ?_
 refine Calls.mono (Sheets_any s A d true _ (SA.rd M (Zz9 _)) (by omega) (by omega) (hT.mem0 M)) ?_
 clear T; rintro e wc ⟨ASu1, cSu1, ISu1, rfl, hcpSu1, SVSu1, N⟩ ac T
 obtain ⟨bSu1, oSu1, SVSu1⟩ := SVSu1
 have SSu1 := SVSu1 w noEx
 replace M := (M.join N).swapI
 clear N
 replace M : Mem w noEx wc ((g1, .cells [.int .i64 s.lo, .int .i64 s.wi, .int .i64 s.a0, .int .i64 s.a1, .int .i64 s.c0, .int .i64 s.c1, .slice A s.ps.length d]) :: ISu1) := M
 refine Zg7 T (Zq (Zrm rfl (T.e 0 rfl))) rfl (Ze 0 rfl rfl rfl) rfl (Ze 1 rfl rfl rfl) rfl (Ze 2 rfl rfl rfl) rfl (Za 2 rfl rfl) rfl (Za 2 rfl rfl) rfl (Za 2 rfl rfl) rfl ?_; clear T ac; intro ac T
 replace T := T.pick [0, 1, 9] rfl
 refine Zln ?_
 refine wp_seq ?_
 refine Zsr ?_
 refine Zg2 T (Zq (Zrm rfl (T.e 0 rfl))) rfl (fun _ T => Zq (rn_neq rfl (T.e 0 rfl) evc)) rfl ?_; clear T ac; intro ac T
 replace T := T.pick [0, 2, 3, 4] rfl
 refine Zln ?_
 refine wp_ifn (T.e 0 rfl) ?_ ?_
 ·intro h1
  refine Zsr ?_
  refine Zg3 T (Zq (Zrm rfl (T.e 1 rfl))) rfl (Zc rfl) rfl (Za 1 rfl rfl) rfl ?_; clear T ac; intro ac T
  refine wpList_nil ?_
  replace T := T.pick [0, 1] rfl
  replace M := M.mask [false] rfl
  refine Znr ?_
  refine Zrt ?_
  refine rt_2 T rfl (T.e 1 rfl) (T.e 0 rfl) ?_
  have e9 : wrsL s = [] := if_neg (by omega)
  unfold LiPost
  rw [e9]
  exact LsPost.nil M
 intro h1
 refine Zsk ?_
 refine Zsr ?_
 refine lq T (Zra rfl evc) ?_; clear T ac; intro ac T
 replace T := T.pick [0, 3, 4] rfl
 refine Zln ?_
 refine wp_seq ?_
 refine Zsr ?_
 refine Zg4 (v1 := (.pointer (some ⟨g1, 6, none⟩))) T (Zq (Zrf (off := 6) rfl (T.e 2 rfl) (fun _ _ _ => by kernel_rfl))) rfl (Zo M 0 0 rfl rfl rfl rfl) rfl (Zl Tryd.underlying27 0 rfl rfl) rfl (fun _ T => Zq (Zrm rfl evc)) rfl ?_; clear T ac; intro ac T
 replace T := T.pick [0, 1, 4, 5, 6] rfl
 refine Zln ?_
 refine wp_block ?_
 replace M : Mem w noEx wc [(g1, .cells [.int .i64 s.lo, .int .i64 s.wi, .int .i64 s.a0, .int .i64 s.a1, .int .i64 s.c0, .int .i64 s.c1, .slice A s.ps.length d])] := M.sub (Zsl ([(g1, .cells [.int .i64 s.lo, .int .i64 s.wi, .int .i64 s.a0, .int .i64 s.a1, .int .i64 s.c0, .int .i64 s.c1, .slice A s.ps.length d])] : List (Nat × BA)) _)
 refine wp_loop_n (fun mz ac wc => ∃ (k : Nat) (OL : List Int) (A3 : Option Addr) (c3 : Nat) (Io : List (Nat × BA)), mz = s.ps.length - k ∧ (k ≤ s.ps.length) ∧ (OL = (List.range k).map (wrsV s)) ∧ (OL.length = k) ∧ (Sl 3 1 (.slice A3 OL.length c3) OL.length (ic OL) Io) ∧ Tm ac 53 [(1, .pointer (some ⟨g1, 0, none⟩)), (5, .int .i64 (shN s true : Int)), (7, .slice A3 OL.length c3), (25, .int .i64 ((s.ps.length : Nat) : Int)), (26, .int .i64 (k : Int))] ∧ Mem w noEx wc ((g1, .cells [.int .i64 s.lo, .int .i64 s.wi, .int .i64 s.a0, .int .i64 s.a1, .int .i64 s.c0, .int .i64 s.c1, .slice A s.ps.length d]) :: Io)) ?_ ?_
 ·exact ⟨_, 0, [], none, 0, [], rfl, (Nat.zero_le _), rfl, rfl, (Sl.nil _ _), T.pick [4, 3, 2, 1, 0] rfl, M.mask [true] rfl⟩
 clear T M
 rintro mz ac wc ⟨k, OL, A3, c3, Io, hmm1, hk, hO, hOl, hsl, T, M⟩
 refine Zsr ?_
 refine lq T (rn_lss rfl (T.e 4 rfl) (T.e 3 rfl)) ?_; clear T ac; intro ac T
 refine Zln ?_
 refine wp_seq ?_
 refine wp_if (T.e 0 rfl) ?_ ?_
 ·intro h2
  refine Zsk ?_
  refine wp_seq ?_
  refine wp_block ?_
  refine Zsr ?_
  refine Zg2 T (Zq (Zrm rfl (T.e 5 rfl))) rfl (Za 0 rfl rfl) rfl ?_; clear T ac; intro ac T
  replace T := T.pick [0, 3, 4, 5, 6, 7] rfl
  refine Zln ?_
  refine Zsr ?_
  refine lq T (Zrr (Mem.nth M 0 rfl) rfl (T.e 1 rfl) rfl) ?_; clear T ac; intro ac T
  refine Zl2 ?_
  refine Zoa M T rfl rfl rfl rfl ?_; clear M T; intro g2 wc ac M T
  refine Zl2 ?_
  refine Zos M T rfl rfl (T.e 0 rfl) (T.e 1 rfl) rfl .head rfl (by simp) rfl (by kernel_rfl) ?_; clear M T; intro wc ac M T
  replace T := T.pick [0, 2, 3, 4, 5, 6, 7] rfl
  refine Zln ?_
  refine Zsr ?_
  refine Zg2 (v1 := (.pointer (some ⟨g1, 6, none⟩))) T (Zq (Zrf (off := 6) rfl (T.e 2 rfl) (fun _ _ _ => by kernel_rfl))) rfl (Zo M 1 0 rfl rfl rfl rfl) rfl ?_; clear T ac; intro ac T
  refine Zl2 ?_
  refine Zoc (first := []) (cap := []) T rfl rfl rfl rfl evf (.cons (T.e 0 rfl) .nil) Tryd.func58 rfl rfl ?_
  refine Calls.mono (cloneP_any A d s.ps _ (SA.rd M (Zz9 _)) (by omega)) ?_
  clear T; rintro e wc ⟨Acu2, ccu2, Icu2, rfl, hclu2, N⟩ ac T
  replace M := (M.join N).swapI
  clear N
  replace M : Mem w noEx wc ((g2, .cells [.int .i64 s.lo, .int .i64 s.wi, .int .i64 s.a0, .int .i64 s.a1, .int .i64 s.c0, .int .i64 s.c1, .slice A s.ps.length d]) :: (g1, .cells [.int .i64 s.lo, .int .i64 s.wi, .int .i64 s.a0, .int .i64 s.a1, .int .i64 s.c0, .int .i64 s.c1, .slice A s.ps.length d]) :: (Io ++ Icu2)) := M
  refine Zg3 T (Zq (Zrm rfl (T.e 4 rfl))) rfl (Zm 5 rfl rfl) rfl (fun _ T => Zq (rn_add rfl (T.e 0 rfl) evc (by omega))) rfl ?_; clear T ac; intro ac T
  refine l_w rfl ?_; intro K hK
  have hcapu2 := hclu2.capLe M (Zsq (((g2, .cells [.int .i64 s.lo, .int .i64 s.wi, .int .i64 s.a0, .int .i64 s.a1, .int .i64 s.c0, .int .i64 s.c1, .slice A s.ps.length d]) :: (g1, .cells [.int .i64 s.lo, .int .i64 s.wi, .int .i64 s.a0, .int .i64 s.a1, .int .i64 s.c0, .int .i64 s.c1, .slice A s.ps.length d]) :: Io) : List (Nat × BA)) _)
  obtain ⟨bd, Id, hsw, M⟩ := hclu2.sw (L := ((g2, .cells [.int .i64 s.lo, .int .i64 s.wi, .int .i64 s.a0, .int .i64 s.a1, .int .i64 s.c0, .int .i64 s.c1, .slice A s.ps.length d]) :: (g1, .cells [.int .i64 s.lo, .int .i64 s.wi, .int .i64 s.a0, .int .i64 s.a1, .int .i64 s.c0, .int .i64 s.c1, .slice A s.ps.length d]) :: Io)) M
  obtain ⟨-, h9 | ⟨rfl, ysd, rfl⟩⟩ := hsw
  · omega
  replace M : Mem w noEx wc ((bd, .cells (pc s.ps ++ ysd)) :: (g2, .cells [.int .i64 s.lo, .int .i64 s.wi, .int .i64 s.a0, .int .i64 s.a1, .int .i64 s.c0, .int .i64 s.c1, .slice A s.ps.length d]) :: (g1, .cells [.int .i64 s.lo, .int .i64 s.wi, .int .i64 s.a0, .int .i64 s.a1, .int .i64 s.c0, .int .i64 s.c1, .slice A s.ps.length d]) :: Io) := M.swapI
  refine Zoc (first := []) (cap := []) T rfl rfl rfl rfl evf (.cons (T.e 3 rfl) (.cons (T.e 2 rfl) (.cons (T.e 0 rfl) .nil))) Tryd.func80 rfl rfl ?_
  refine Calls.mono (delete_any bd ccu2 k s.ps ysd _ (by omega) hcapu2 (by omega) (M.blk _ (Zne (i := 0) rfl)).2) ?_
  clear T; rintro e wc ⟨rfl, N⟩ ac T
  obtain ⟨yse, N⟩ := N
  replace M := M.joinE N .head
  clear N
  have Sd := Sp.pre (w := w) (ex := noEx) (size := 4) (n := (s.ps.eraseIdx k).length) (g := bd) (xs := pc (s.ps.eraseIdx k)) (ys := yse) (by rw [pc_length])
  rw [show s.ps.length - 1 = (s.ps.eraseIdx k).length by rw [List.length_eraseIdx, if_pos (by omega)]] at T
  refine Zso hK _ _ ?_; clear hK K
  refine lq (v := (.pointer (some ⟨g2, 6, none⟩))) T (Zrf (off := 6) rfl (T.e 7 rfl) (fun _ _ _ => by kernel_rfl)) ?_; clear T ac; intro ac T
  refine Zl2 ?_
  refine Zos M T rfl rfl (T.e 0 rfl) (T.e 1 rfl) rfl (.tail .head) rfl (by simp) rfl (by kernel_rfl) ?_; clear M T; intro wc ac M T
  replace T := T.pick [8, 10, 11, 12, 13, 14] rfl
  refine Zln ?_
  refine Zsr ?_
  refine lq T (Zra rfl evc) ?_; clear T ac; intro ac T
  refine Zln ?_
  refine wp_seq ?_
  refine Zsr ?_
  refine lq T (Zrr (Mem.nth M 1 rfl) rfl (T.e 1 rfl) rfl) ?_; clear T ac; intro ac T
  refine Zl2 ?_
  refine Zoc (first := []) (cap := []) T rfl rfl rfl rfl evf (.cons (T.e 0 rfl) (.cons evc .nil)) Tryd.func7 rfl rfl ?_
  refine Calls.mono (Sheets_any ({ s with ps := (s.ps.eraseIdx k) } : Sk) (some ⟨bd, 0, none⟩) ccu2 true _ (Sd.rd M (List.Sublist.cons_cons _ (Zz9 _))) (by dsimp only; rw [List.length_eraseIdx]; split <;> omega) (by dsimp only; rw [List.length_eraseIdx]; split <;> omega) (hT.mem0 M)) ?_
  clear T; rintro e wc ⟨ASu4, cSu4, ISu4, rfl, hcpSu4, SVSu4, N⟩ ac T
  replace M := M.call N.below
  clear N
  refine Zg7 T (Zq (Zrm rfl (T.e 0 rfl))) rfl (Ze 0 rfl rfl rfl) rfl (Ze 1 rfl rfl rfl) rfl (Ze 2 rfl rfl rfl) rfl (Za 2 rfl rfl) rfl (Za 2 rfl rfl) rfl (Za 2 rfl rfl) rfl ?_; clear T ac; intro ac T
  refine wpList_nil ?_
  replace T := T.pick [1, 9, 11, 12, 13, 14, 15] rfl
  replace M := M.mask [true, false, true] rfl
  refine nm_then ?_
  refine Zsr ?_
  refine Zg3 T (Zq (Zrm rfl (T.e 0 rfl))) rfl (Zm 4 rfl rfl) rfl (fun _ T => Zq (rn_lss rfl (T.e 1 rfl) (T.e 0 rfl))) rfl ?_; clear T ac; intro ac T
  replace T := T.pick [0, 4, 5, 6, 7, 8, 9] rfl
  refine Zln ?_
  refine wp_if (T.e 0 rfl) ?_ ?_
  ·intro h3
   have hwv : wrsV s k = 1 := if_pos (show shN ({ s with ps := s.ps.eraseIdx k } : Sk) true < shN s true by omega)
   refine wp_region_lit ?_
   refine l_q (v := (.int .i64 1)) (T.pick [0, 2, 3, 4, 5, 6] rfl) rfl rfl rfl rfl (Zra rfl evc) ?_; clear T ac; intro ac T
   replace T := T.pick [0, 2, 3, 4, 5, 6] rfl
   refine Zln ?_
   refine wp_region_lit ?_
   refine Zg2 T (Zq (Zrm rfl (T.e 3 rfl))) rfl (Zm 1 rfl rfl) rfl ?_; clear T ac; intro ac T
   refine Zl2 ?_
   refine ow_bs (e := 3) [.int .i64 1] M T rfl rfl rfl rfl (.cons (T.e 0 rfl) .nil) (fun _ => by kernel_rfl) ?_; clear M T; intro g3 wc ac M T
   refine Zl2 ?_
   refine ow_app ([(g3, .cells [.int .i64 1]), (bd, .cells (pc (s.ps.eraseIdx k) ++ yse)), (g1, .cells [.int .i64 s.lo, .int .i64 s.wi, .int .i64 s.a0, .int .i64 s.a1, .int .i64 s.c0, .int .i64 s.c1, .slice A s.ps.length d])]) Tryd.info3 hsl M (by first | rfl | simp) T rfl rfl rfl rfl Tryd.underlying22 rfl rfl rfl (by omega) (T.e 2 rfl) (T.e 0 rfl) (Zne (i := 0) rfl) rfl rfl ?_; clear M T; intro ga1 cga1 wc ac M T
   refine l_q (v := (.slice (some ⟨ga1, 0, none⟩) (OL.length + 1) cga1)) (T.pick [0, 1, 2, 3, 4, 5, 6, 8, 9] rfl) rfl rfl rfl rfl (Zra rfl (T.e 0 rfl)) ?_; clear T ac; intro ac T
   refine wpList_nil ?_
   replace T := T.pick [0, 6, 7, 8, 9] rfl
   replace M := M.mask [true, false, true, true] rfl
   refine Znb ?_
   refine nm_then ?_
   refine wp_region_lit ?_
   refine lq T (rn_add rfl (T.e 4 rfl) evc (by omega)) ?_; clear T ac; intro ac T
   refine l_q (v := (.int .i64 ((k : Int) + 1))) (T.pick [0, 1, 2, 3, 4] rfl) rfl rfl rfl rfl (Zrm rfl (T.e 0 rfl)) ?_; clear T ac; intro ac T
   replace T := T.pick [0, 2, 3, 4, 5] rfl
   refine Zln ?_
   have e9 : OL.length + 1 = (OL ++ [1]).length := by simp
   have e8 : ((ic OL) ++ [.int .i64 1]) = ic (OL ++ [1]) := by rw [← ic_snoc]
   rw [e9, e8] at M
   rw [e9] at T
   clear e9 e8
   exact ⟨_, by omega, k + 1, (OL ++ [1]), _, _, [(ga1, .row 3 1 (OL ++ [1]).length (ic (OL ++ [1])) cga1)], rfl, (by omega), (by rw [hO, List.range_succ, List.map_append, List.map_cons, List.map_nil, hwv]), (by simp [hOl]), (Sl.row _ _ _ _ _ _), T.pick [2, 3, 1, 4, 0] rfl, ((M.permT [2, 0] 3 rfl rfl rfl rfl).sub (Zsl ([(g1, .cells [.int .i64 s.lo, .int .i64 s.wi, .int .i64 s.a0, .int .i64 s.a1, .int .i64 s.c0, .int .i64 s.c1, .slice A s.ps.length d]), (ga1, .row 3 1 (OL ++ [1]).length (ic (OL ++ [1])) cga1)] : List (Nat × BA)) _))⟩
  intro h3
  have hwv : wrsV s k = 2 := if_neg (show ¬ shN ({ s with ps := s.ps.eraseIdx k } : Sk) true < shN s true by omega)
  refine Zsk ?_
  refine wp_region_lit ?_
  refine Zg2 T (Zq (Zrm rfl (T.e 4 rfl))) rfl (Zm 2 rfl rfl) rfl ?_; clear T ac; intro ac T
  refine Zl2 ?_
  refine ow_bs (e := 3) [.int .i64 2] M T rfl rfl rfl rfl (.cons (T.e 0 rfl) .nil) (fun _ => by kernel_rfl) ?_; clear M T; intro g4 wc ac M T
  refine Zl2 ?_
  refine ow_app ([(g4, .cells [.int .i64 2]), (bd, .cells (pc (s.ps.eraseIdx k) ++ yse)), (g1, .cells [.int .i64 s.lo, .int .i64 s.wi, .int .i64 s.a0, .int .i64 s.a1, .int .i64 s.c0, .int .i64 s.c1, .slice A s.ps.length d])]) Tryd.info3 hsl M (by first | rfl | simp) T rfl rfl rfl rfl Tryd.underlying22 rfl rfl rfl (by omega) (T.e 2 rfl) (T.e 0 rfl) (Zne (i := 0) rfl) rfl rfl ?_; clear M T; intro ga2 cga2 wc ac M T
  refine l_q (v := (.slice (some ⟨ga2, 0, none⟩) (OL.length + 1) cga2)) (T.pick [0, 1, 2, 3, 4, 5, 6, 7, 9, 10] rfl) rfl rfl rfl rfl (Zra rfl (T.e 0 rfl)) ?_; clear T ac; intro ac T
  refine wpList_nil ?_
  replace T := T.pick [0, 7, 8, 9, 10] rfl
  replace M := M.mask [true, false, true, true] rfl
  refine Znb ?_
  refine nm_then ?_
  refine wp_region_lit ?_
  refine lq T (rn_add rfl (T.e 4 rfl) evc (by omega)) ?_; clear T ac; intro ac T
  refine l_q (v := (.int .i64 ((k : Int) + 1))) (T.pick [0, 1, 2, 3, 4] rfl) rfl rfl rfl rfl (Zrm rfl (T.e 0 rfl)) ?_; clear T ac; intro ac T
  replace T := T.pick [0, 2, 3, 4, 5] rfl
  refine Zln ?_
  have e9 : OL.length + 1 = (OL ++ [2]).length := by simp
  have e8 : ((ic OL) ++ [.int .i64 2]) = ic (OL ++ [2]) := by rw [← ic_snoc]
  rw [e9, e8] at M
  rw [e9] at T
  clear e9 e8
  exact ⟨_, by omega, k + 1, (OL ++ [2]), _, _, [(ga2, .row 3 1 (OL ++ [2]).length (ic (OL ++ [2])) cga2)], rfl, (by omega), (by rw [hO, List.range_succ, List.map_append, List.map_cons, List.map_nil, hwv]), (by simp [hOl]), (Sl.row _ _ _ _ _ _), T.pick [2, 3, 1, 4, 0] rfl, ((M.permT [2, 0] 3 rfl rfl rfl rfl).sub (Zsl ([(g1, .cells [.int .i64 s.lo, .int .i64 s.wi, .int .i64 s.a0, .int .i64 s.a1, .int .i64 s.c0, .int .i64 s.c1, .slice A s.ps.length d]), (ga2, .row 3 1 (OL ++ [2]).length (ic (OL ++ [2])) cga2)] : List (Nat × BA)) _))⟩
 intro h2
 refine wp_exit ?_
 refine Zet ?_
 refine Zet ?_
 refine ex_hit ?_
 refine nm_then ?_
 refine Zsr ?_
 refine Zg3 T (Zq (Zrm rfl (T.e 3 rfl))) rfl (Za 0 rfl rfl) rfl (Zc rfl) rfl ?_; clear T ac; intro ac T
 refine wpList_nil ?_
 replace T := T.pick [0, 1] rfl
 replace M := M.mask [false] rfl
 refine Znr ?_
 refine rt_2 T rfl (T.e 1 rfl) (T.e 0 rfl) ?_
 have e9 : wrsL s = OL := (if_pos (by omega)).trans (by rw [hO, show k = s.ps.length by omega])
 have e8 : shE s true = 0 := by omega
 unfold LiPost
 rw [e9, e8]
 replace M := M.mask [] rfl
 exact ⟨A3, c3, Io, rfl, hsl.capLe M (List.Sublist.refl _), hsl.spV (ic_length _ ▸ (by omega)), M⟩
def skP (s : Sk) (L : List Pt) : Sk := { s with ps := L }
noncomputable def okP (s : Sk) (su : Bool) (L : List Pt) (n0 : Nat) : Bool := match shF (skP s L) su with
 | some y => decide (y.2 ≤ n0)
 | none => false
noncomputable def spareR (s : Sk) (p : Pt) (su : Bool) (n0 : Nat) : Nat → List Pt → Nat
 | 0, L => L.length
 | f + 1, L => if okP s su (L ++ [p]) n0 = true then spareR s p su n0 f (L ++ [p]) else L.length
noncomputable def sprE (s : Sk) (p : Pt) (su : Bool) : Int := if skErr s ≠ 0 then skErr s else if ptErr p ≠ 0 then ptErr p else shE s su
noncomputable def sprV (s : Sk) (p : Pt) (su : Bool) : Int := if sprE s p su ≠ 0 then 0 else (spareR s p su (shN s su) (5 - s.ps.length) s.ps : Int) - (s.ps.length : Int)
theorem okP_eq {s : Sk} {su : Bool} {L : List Pt} {n0 bn : Nat} {bl : List Int} {bi : Bool} (h : shF (skP s L) su = if bi = true then some (bl, bn) else none) : okP s su L n0 = (bi && decide (bn ≤ n0)) := by
 unfold okP
 rw [h]
 cases bi <;> rfl
set_option maxHeartbeats 2000000 in
theorem Spare_any (s : Sk) (A : Option Addr) (d : Nat) (p : Pt) (su : Bool)  (w : World) (hA : Rd w w.heap.size 4 A s.ps.length (pc s.ps)) (nA : s.ps.length ≤ 1000000) (hd : s.ps.length ≤ d) (hT : TabW w)  :
   Calls Tryd.prog 26 #[.agg #[.int .i64 s.lo, .int .i64 s.wi, .int .i64 s.a0, .int .i64 s.a1, .int .i64 s.c0, .int .i64 s.c1, .slice A s.ps.length d], .agg #[.int .i64 p.l, .int .i64 p.w, .bool p.gr, .int .i64 p.pa], .bool su] w fun e w' => e = .returned (.tuple #[.int .i64 (sprV s p su), .int .i64 (sprE s p su)]) ∧ Below w.heap.size w w' := by
 obtain ⟨bA, oA, SA⟩ := Sp.old hA
 refine Zpx noEx Tryd.func26 rfl 82 rfl [.agg #[.int .i64 s.lo, .int .i64 s.wi, .int .i64 s.a0, .int .i64 s.a1, .int .i64 s.c0, .int .i64 s.c1, .slice A s.ps.length d], .agg #[.int .i64 p.l, .int .i64 p.w, .bool p.gr, .int .i64 p.pa], .bool su] rfl rfl (Mem.init w _) ?_
 intro ac wc T M
 refine Zsr ?_
 refine Zl2 ?_
 refine Zob M T rfl rfl rfl rfl (T.e 0 rfl) rfl ?_; clear M T; intro g1 wc ac M T
 refine Zl2 ?_
 refine Zob M T rfl rfl rfl rfl (T.e 2 rfl) rfl ?_; clear M T; intro g2 wc ac M T
 refine Zg2 T (Zq (Zra rfl evc)) rfl (Zc rfl) rfl ?_; clear T ac; intro ac T
 replace T := T.pick [2, 3, 6] rfl
 refine Zln ?_
 refine wp_seq ?_
 refine Zsr ?_
 refine lq T (Zrr (Mem.nth M 1 rfl) rfl (T.e 1 rfl) rfl) ?_; clear T ac; intro ac T
 refine Zl2 ?_
 refine Zoc (first := []) (cap := []) T rfl rfl rfl rfl evf (.cons (T.e 0 rfl) .nil) Tryd.func16 rfl rfl ?_
 refine Calls.mono (skCheck_any s A d _ (SA.rd M (Zz9 _)) (by omega)) ?_
 clear T; rintro e wc ⟨rfl, hb⟩ ac T
 replace M := M.call hb; clear hb
 refine lq T (Zra rfl (T.e 0 rfl)) ?_; clear T ac; intro ac T
 replace T := T.pick [0, 3, 4, 5] rfl
 refine Zln ?_
 refine Zsr ?_
 refine Zg2 T (Zq (Zrm rfl (T.e 0 rfl))) rfl (fun _ T => Zq (rn_neq rfl (T.e 0 rfl) evc)) rfl ?_; clear T ac; intro ac T
 replace T := T.pick [0, 2, 3, 4, 5] rfl
 refine Zln ?_
 refine wp_ifn (T.e 0 rfl) ?_ ?_
 ·intro h1
  refine Zsr ?_
  refine Zg3 T (Zq (Zrm rfl (T.e 1 rfl))) rfl (Zc rfl) rfl (Za 1 rfl rfl) rfl ?_; clear T ac; intro ac T
  refine wpList_nil ?_
  replace T := T.pick [0, 1] rfl
  replace M := M.mask [false, false] rfl
  refine Znr ?_
  refine Zrt ?_
  refine rt_2 T rfl (T.e 1 rfl) (T.e 0 rfl) ?_
  have e9 : sprE s p su = skErr s := if_pos (by omega)
  have e8 : sprV s p su = 0 := if_pos (by omega)
  rw [e9, e8]
  exact ⟨rfl, M.below⟩
 intro h1
 have hsg := skErr_iff.1 (show skErr s = 0 by omega)
 obtain ⟨hb1, hb2, -, -, -, -⟩ := hsg
 have hsg := skErr_iff.1 (show skErr s = 0 by omega)
 refine Zsk ?_
 refine wp_seq ?_
 refine Zsr ?_
 refine lq T (Zrr (Mem.nth M 0 rfl) rfl (T.e 2 rfl) rfl) ?_; clear T ac; intro ac T
 refine Zl2 ?_
 refine Zoc (first := []) (cap := []) T rfl rfl rfl rfl evf (.cons (T.e 0 rfl) .nil) Tryd.func47 rfl rfl ?_
 refine Calls.mono (checkPart_any p _) ?_
 clear T; rintro e wc ⟨rfl, hb⟩ ac T
 replace M := M.call hb; clear hb
 refine lq T (Zra rfl (T.e 0 rfl)) ?_; clear T ac; intro ac T
 replace T := T.pick [0, 5, 6, 7] rfl
 refine Zln ?_
 refine Zsr ?_
 refine Zg2 T (Zq (Zrm rfl (T.e 0 rfl))) rfl (fun _ T => Zq (rn_neq rfl (T.e 0 rfl) evc)) rfl ?_; clear T ac; intro ac T
 replace T := T.pick [0, 2, 3, 4, 5] rfl
 refine Zln ?_
 refine wp_ifn (T.e 0 rfl) ?_ ?_
 ·intro h2
  refine Zsr ?_
  refine Zg3 T (Zq (Zrm rfl (T.e 1 rfl))) rfl (Zc rfl) rfl (Za 1 rfl rfl) rfl ?_; clear T ac; intro ac T
  refine wpList_nil ?_
  replace T := T.pick [0, 1] rfl
  replace M := M.mask [false, false] rfl
  refine Znr ?_
  refine Zrt ?_
  refine rt_2 T rfl (T.e 1 rfl) (T.e 0 rfl) ?_
  have e9 : sprE s p su = ptErr p := (if_neg (by omega)).trans (if_pos (by omega))
  have e8 : sprV s p su = 0 := if_pos (by omega)
  rw [e9, e8]
  exact ⟨rfl, M.below⟩
 intro h2
 have hpg := ptErr_iff.1 (show ptErr p = 0 by omega)
 refine Zsk ?_
 refine Zsr ?_
 refine Zg2 T (Zq (Zrr (Mem.nth M 1 rfl) rfl (T.e 3 rfl) rfl)) rfl (Zm 5 rfl rfl) rfl ?_; clear T ac; intro ac T
 refine Zl2 ?_
 refine Zoc (first := []) (cap := []) T rfl rfl rfl rfl evf (.cons (T.e 1 rfl) (.cons (T.e 0 rfl) .nil)) Tryd.func7 rfl rfl ?_
 refine Calls.mono (Sheets_any s A d su _ (SA.rd M (Zz9 _)) (by omega) (by omega) (hT.mem0 M)) ?_
 clear T; rintro e wc ⟨ASu3, cSu3, ISu3, rfl, hcpSu3, SVSu3, N⟩ ac T
 replace M := M.call N.below
 clear N
 refine Zg7 T (Zq (Zrm rfl (T.e 0 rfl))) rfl (Ze 0 rfl rfl rfl) rfl (Ze 1 rfl rfl rfl) rfl (Ze 2 rfl rfl rfl) rfl (Za 2 rfl rfl) rfl (Za 2 rfl rfl) rfl (Za 2 rfl rfl) rfl ?_; clear T ac; intro ac T
 replace T := T.pick [0, 1, 12, 13, 14] rfl
 refine Zln ?_
 refine wp_seq ?_
 refine Zsr ?_
 refine Zg2 T (Zq (Zrm rfl (T.e 0 rfl))) rfl (fun _ T => Zq (rn_neq rfl (T.e 0 rfl) evc)) rfl ?_; clear T ac; intro ac T
 replace T := T.pick [0, 2, 3, 4, 5, 6] rfl
 refine Zln ?_
 refine wp_ifn (T.e 0 rfl) ?_ ?_
 ·intro h3
  refine Zsr ?_
  refine Zg3 T (Zq (Zrm rfl (T.e 1 rfl))) rfl (Zc rfl) rfl (Za 1 rfl rfl) rfl ?_; clear T ac; intro ac T
  refine wpList_nil ?_
  replace T := T.pick [0, 1] rfl
  replace M := M.mask [false, false] rfl
  refine Znr ?_
  refine Zrt ?_
  refine rt_2 T rfl (T.e 1 rfl) (T.e 0 rfl) ?_
  have e9 : sprE s p su = shE s su := (if_neg (by omega)).trans (if_neg (by omega))
  have e8 : sprV s p su = 0 := if_pos (by omega)
  rw [e9, e8]
  exact ⟨rfl, M.below⟩
 intro h3
 refine Zsk ?_
 refine Zsr ?_
 refine lq T (Zrr (Mem.nth M 1 rfl) rfl (T.e 4 rfl) rfl) ?_; clear T ac; intro ac T
 refine Zl2 ?_
 refine Zoa M T rfl rfl rfl rfl ?_; clear M T; intro g3 wc ac M T
 refine Zl2 ?_
 refine Zos M T rfl rfl (T.e 0 rfl) (T.e 1 rfl) rfl .head rfl (by simp) rfl (by kernel_rfl) ?_; clear M T; intro wc ac M T
 replace T := T.pick [0, 4, 5, 6, 7] rfl
 refine Zln ?_
 refine Zsr ?_
 refine Zg2 (v1 := (.pointer (some ⟨g1, 6, none⟩))) T (Zq (Zrf (off := 6) rfl (T.e 3 rfl) (fun _ _ _ => by kernel_rfl))) rfl (Zo M 2 0 rfl rfl rfl rfl) rfl ?_; clear T ac; intro ac T
 refine Zl2 ?_
 refine Zoc (first := []) (cap := []) T rfl rfl rfl rfl evf (.cons (T.e 0 rfl) .nil) Tryd.func58 rfl rfl ?_
 refine Calls.mono (cloneP_any A d s.ps _ (SA.rd M (Zz9 _)) (by omega)) ?_
 clear T; rintro e wc ⟨Acu4, ccu4, Icu4, rfl, hclu4, N⟩ ac T
 replace M := (M.join N).swapI
 clear N
 replace M : Mem w noEx wc ((g3, .cells [.int .i64 s.lo, .int .i64 s.wi, .int .i64 s.a0, .int .i64 s.a1, .int .i64 s.c0, .int .i64 s.c1, .slice A s.ps.length d]) :: (g2, .cells [.int .i64 p.l, .int .i64 p.w, .bool p.gr, .int .i64 p.pa]) :: (g1, .cells [.int .i64 s.lo, .int .i64 s.wi, .int .i64 s.a0, .int .i64 s.a1, .int .i64 s.c0, .int .i64 s.c1, .slice A s.ps.length d]) :: Icu4) := M
 refine lq (v := (.pointer (some ⟨g3, 6, none⟩))) T (Zrf (off := 6) rfl (T.e 3 rfl) (fun _ _ _ => by kernel_rfl)) ?_; clear T ac; intro ac T
 refine Zl2 ?_
 refine Zos M T rfl rfl (T.e 0 rfl) (T.e 1 rfl) rfl .head rfl (by simp) rfl (by kernel_rfl) ?_; clear M T; intro wc ac M T
 replace T := T.pick [4, 5, 6, 7, 8] rfl
 refine Zln ?_
 refine wp_seq ?_
 refine wp_block ?_
 refine wp_loop_n (fun mz ac wc => ∃ (OL : List Pt) (A3 : Option Addr) (c3 : Nat) (Io : List (Nat × BA)), mz = 5 - OL.length ∧ (OL.length ≤ 5) ∧ (s.ps.length ≤ OL.length) ∧ (∀ q ∈ OL, q.good) ∧ (spareR s p su (shN s su) (5 - s.ps.length) s.ps = spareR s p su (shN s su) (5 - OL.length) OL) ∧ (Cl 54 4 A3 OL.length c3 (pc OL) Io) ∧ Tm ac 82 [(2, .bool su), (3, .pointer (some ⟨g1, 0, none⟩)), (4, .pointer (some ⟨g2, 0, none⟩)), (11, .int .i64 (shN s su : Int)), (13, .pointer (some ⟨g3, 0, none⟩))] ∧ Mem w noEx wc ((g3, .cells [.int .i64 s.lo, .int .i64 s.wi, .int .i64 s.a0, .int .i64 s.a1, .int .i64 s.c0, .int .i64 s.c1, .slice A3 OL.length c3]) :: (g2, .cells [.int .i64 p.l, .int .i64 p.w, .bool p.gr, .int .i64 p.pa]) :: (g1, .cells [.int .i64 s.lo, .int .i64 s.wi, .int .i64 s.a0, .int .i64 s.a1, .int .i64 s.c0, .int .i64 s.c1, .slice A s.ps.length d]) :: Io)) ?_ ?_
 ·exact ⟨_, s.ps, Acu4, ccu4, Icu4, rfl, hsg.len, (Nat.le_refl _), hsg.ps, rfl, hclu4, T.pick [4, 3, 2, 1, 0] rfl, M.mask [true, true, true] rfl⟩
 clear T M
 rintro mz ac wc ⟨OL, A3, c3, Io, hmm1, hOl, hO5, hgO, H, hcl, T, M⟩
 refine wp_seq ?_
 refine Zsr ?_
 refine Zg4 (v1 := (.pointer (some ⟨g3, 6, none⟩))) T (Zq (Zrf (off := 6) rfl (T.e 4 rfl) (fun _ _ _ => by kernel_rfl))) rfl (Zo M 0 0 rfl rfl rfl rfl) rfl (Zl Tryd.underlying27 0 rfl rfl) rfl (fun _ T => Zq (rn_lss rfl (T.e 0 rfl) evc)) rfl ?_; clear T ac; intro ac T
 replace T := T.pick [0, 4, 5, 6, 7, 8] rfl
 refine Zln ?_
 refine wp_if (T.e 0 rfl) ?_ ?_
 ·intro h4
  have e8 : 5 - OL.length = (5 - (OL ++ [p]).length) + 1 := by simp; omega
  rw [e8, spareR] at H
  refine Zsk ?_
  refine wp_block ?_
  refine Zsr ?_
  refine Zg3 (v1 := (.pointer (some ⟨g3, 6, none⟩))) T (Zq (Zrf (off := 6) rfl (T.e 5 rfl) (fun _ _ _ => by kernel_rfl))) rfl (Zo M 0 0 rfl rfl rfl rfl) rfl (Zr M 1 5 rfl rfl rfl rfl) rfl ?_; clear T ac; intro ac T
  refine Zl2 ?_
  refine ow_bs (e := 54) [.int .i64 p.l, .int .i64 p.w, .bool p.gr, .int .i64 p.pa] M T rfl rfl rfl rfl (.cons (T.e 0 rfl) .nil) (fun _ => by kernel_rfl) ?_; clear M T; intro g4 wc ac M T
  refine Zl2 ?_
  refine ow_appC ([(g4, .cells [.int .i64 p.l, .int .i64 p.w, .bool p.gr, .int .i64 p.pa]), (g3, .cells [.int .i64 s.lo, .int .i64 s.wi, .int .i64 s.a0, .int .i64 s.a1, .int .i64 s.c0, .int .i64 s.c1, .slice A3 OL.length c3]), (g2, .cells [.int .i64 p.l, .int .i64 p.w, .bool p.gr, .int .i64 p.pa]), (g1, .cells [.int .i64 s.lo, .int .i64 s.wi, .int .i64 s.a0, .int .i64 s.a1, .int .i64 s.c0, .int .i64 s.c1, .slice A s.ps.length d])]) Tryd.info54 hcl M (by first | rfl | simp) T rfl rfl rfl rfl Tryd.underlying27 rfl rfl rfl (by omega) (T.e 2 rfl) (T.e 0 rfl) (Zne (i := 0) rfl) rfl rfl ?_; clear M T; intro ga1 cga1 wc ac M T
  have e9 : OL.length + 1 = (OL ++ [p]).length := by simp
  have e8 : ((pc OL) ++ [.int .i64 p.l, .int .i64 p.w, .bool p.gr, .int .i64 p.pa]) = pc (OL ++ [p]) := by rw [← pc_snoc]
  rw [e9, e8] at M
  rw [e9] at T
  clear e9 e8
  refine lq (v := (.pointer (some ⟨g3, 6, none⟩))) T (Zrf (off := 6) rfl (T.e 10 rfl) (fun _ _ _ => by kernel_rfl)) ?_; clear T ac; intro ac T
  refine Zl2 ?_
  refine Zos M T rfl rfl (T.e 0 rfl) (T.e 1 rfl) rfl (.tail (.tail .head)) rfl (by simp) rfl (by kernel_rfl) ?_; clear M T; intro wc ac M T
  refine wpList_nil ?_
  replace T := T.pick [7, 8, 9, 10, 11] rfl
  replace M := M.mask [true, false, true, true, true] rfl
  refine nm_then ?_
  refine Zsr ?_
  refine Zg2 T (Zq (Zrr (Mem.nth M 1 rfl) rfl (T.e 4 rfl) rfl)) rfl (Zm 1 rfl rfl) rfl ?_; clear T ac; intro ac T
  refine Zl2 ?_
  refine Zoc (first := []) (cap := []) T rfl rfl rfl rfl evf (.cons (T.e 1 rfl) (.cons (T.e 0 rfl) .nil)) Tryd.func33 rfl rfl ?_
  refine Calls.mono (cut_any ({ s with ps := (OL ++ [p]) } : Sk) (some ⟨ga1, 0, none⟩) cga1 su _) ?_
  clear T; rintro e wc ⟨gau5, gcu5, rfl, N⟩ ac T
  obtain ⟨a, hae⟩ : ∃ q, q = cutA s su := ⟨_, rfl⟩
  obtain ⟨c, hce⟩ : ∃ q, q = cutC s su := ⟨_, rfl⟩
  have hA9 : cutA ({ s with ps := (OL ++ [p]) } : Sk) su = a := by rw [hae]; rfl
  have hC9 : cutC ({ s with ps := (OL ++ [p]) } : Sk) su = c := by rw [hce]; rfl
  rw [hA9, hC9] at N
  obtain ⟨ha, hc⟩ := cut_bd hsg su
  rw [← hae] at ha
  rw [← hce] at hc
  replace M := M.join N; clear N
  replace M := M.mask [true, true, true, true, true, true] rfl
  refine Zl2 ?_
  have hg9 : ∀ q ∈ OL ++ [p], q.good := fun q hq => by rcases List.mem_append.1 hq with h9 | h9; exact hgO q h9; rw [List.mem_singleton.1 h9]; exact hpg
  have hl9 : (OL ++ [p]).length ≤ 5 := by simp; omega
  have hcp9 : (OL ++ [p]).length ≤ cga1 := (Cl.row 54 4 ga1 _ _ (pc (OL ++ [p]))).capLe M (.cons _ (.cons _ (List.Sublist.cons_cons _ (Zz9 _))))
  have hln9 : (OL ++ [p]).length = OL.length + 1 := by simp
  refine Zoc (first := []) (cap := []) T rfl rfl rfl rfl evf (.cons (T.e 0 rfl) .nil) Tryd.func34 rfl rfl ?_
  refine Calls.mono (shs_any ({ s with ps := (OL ++ [p]) } : Sk) (some ⟨ga1, 0, none⟩) cga1 a c gau5 gcu5 _ ha hc hg9 hl9 (by dsimp only; omega) (by dsimp only; omega) hcp9 (M.nth 0 rfl) (M.nth 1 rfl) (M.rdRow (Zne (i := 2) rfl)) (hT.mem0 M)) ?_
  clear T; rintro e wc ⟨bA, bc, bl, bn, bi, IRu6, rfl, hFd, hcp, SR, N⟩ ac T
  have hF9 : shF (skP s (OL ++ [p])) su = if bi = true then some (bl, bn) else none := by rw [hae, hce] at hFd; exact hFd
  have hok := okP_eq (n0 := shN s su) hF9
  replace M := M.call N.below
  clear N
  refine Zg7 T (Zq (Zrm rfl (T.e 0 rfl))) rfl (Ze 0 rfl rfl rfl) rfl (Ze 1 rfl rfl rfl) rfl (Ze 2 rfl rfl rfl) rfl (Za 2 rfl rfl) rfl (Za 2 rfl rfl) rfl (Za 2 rfl rfl) rfl ?_; clear T ac; intro ac T
  refine wpList_nil ?_
  replace T := T.pick [0, 1, 11, 12, 13, 14, 15] rfl
  replace M := M.mask [false, false, true, true, true, true] rfl
  refine nm_then ?_
  refine cut_seq (fun ac wc => Tm ac 82 [(2, .bool su), (3, .pointer (some ⟨g1, 0, none⟩)), (4, .pointer (some ⟨g2, 0, none⟩)), (11, .int .i64 (shN s su : Int)), (13, .pointer (some ⟨g3, 0, none⟩)), (66, .bool ((!bi) || (decide ((shN s su : Int) < (bn : Int)))))] ∧ Mem w noEx wc [(ga1, .row 54 4 (OL ++ [p]).length (pc (OL ++ [p])) cga1), (g3, .cells [.int .i64 s.lo, .int .i64 s.wi, .int .i64 s.a0, .int .i64 s.a1, .int .i64 s.c0, .int .i64 s.c1, .slice (some ⟨ga1, 0, none⟩) ((OL ++ [p]).length) cga1]), (g2, .cells [.int .i64 p.l, .int .i64 p.w, .bool p.gr, .int .i64 p.pa]), (g1, .cells [.int .i64 s.lo, .int .i64 s.wi, .int .i64 s.a0, .int .i64 s.a1, .int .i64 s.c0, .int .i64 s.c1, .slice A s.ps.length d])]) ?_ ?_
  ·refine wp_region_lit ?_
   refine Zg3 T (Zq (Zrm rfl (T.e 0 rfl))) rfl (fun _ T => Zq (rn_not rfl (T.e 0 rfl))) rfl (Zm 0 rfl rfl) rfl ?_; clear T ac; intro ac T
   rcases Bool.eq_false_or_eq_true (!bi) with h5 | h5
   ·refine Zg4 T (Zp (Zwn rfl rfl (T.e 0 rfl) h5)) rfl (fun _ T => Zp (Zwn rfl rfl (T.e 1 rfl) h5)) rfl (fun _ T => Zp (Zwn rfl rfl (T.e 2 rfl) h5)) rfl (fun _ T => Zq (Zr1 rfl (T.e 3 rfl) h5 evc)) rfl ?_; clear T ac; intro ac T
    refine wpList_nil ?_
    replace T := T.pick [0, 1, 2, 3, 9, 10, 11, 12, 13] rfl
    exact ⟨(T.pick (E' := [(2, .bool su), (3, .pointer (some ⟨g1, 0, none⟩)), (4, .pointer (some ⟨g2, 0, none⟩)), (11, .int .i64 (shN s su : Int)), (13, .pointer (some ⟨g3, 0, none⟩)), (66, .bool true)]) [4, 5, 6, 7, 8, 0] rfl).as (by (try rw [show (!bi) = true from h5]); (try rfl)), M.mask [true, true, true, true] rfl⟩
   refine Zg4 T (Zw (Zwy rfl rfl (T.e 0 rfl) h5) (Zrm rfl (T.e 4 rfl))) rfl (fun _ T => Zw (Zwy rfl rfl (T.e 1 rfl) h5) (Zrm rfl (T.e 9 rfl))) rfl (fun _ T => Zw (Zwy rfl rfl (T.e 2 rfl) h5) (rn_gtr rfl (T.e 1 rfl) (T.e 0 rfl))) rfl (fun _ T => Zq (Zr0 rfl (T.e 3 rfl) h5 (T.e 0 rfl))) rfl ?_; clear T ac; intro ac T
   refine wpList_nil ?_
   replace T := T.pick [0, 1, 2, 3, 9, 10, 11, 12, 13] rfl
   exact ⟨(T.pick (E' := [(2, .bool su), (3, .pointer (some ⟨g1, 0, none⟩)), (4, .pointer (some ⟨g2, 0, none⟩)), (11, .int .i64 (shN s su : Int)), (13, .pointer (some ⟨g3, 0, none⟩)), (66, .bool (decide ((shN s su : Int) < (bn : Int))))]) [4, 5, 6, 7, 8, 0] rfl).as (by (try rw [show (!bi) = false from h5]); (try rfl)), M.mask [true, true, true, true] rfl⟩
  clear T M
  rintro ac wc ⟨T, M⟩
  refine wp_cond_split (T.e 5 rfl) ?_ ?_
  ·intro h6
   (have h6' := h6; try simp only [Zb1, Zb2, Zb3, Zb4, Zb5, Zb6, Zb7] at h6')
   have hno : ¬ okP s su (OL ++ [p]) (shN s su) = true := by rw [hok]; cases bi <;> simp_all
   have hfin : spareR s p su (shN s su) (5 - s.ps.length) s.ps = OL.length := by rw [H, if_neg hno]
   refine Zsr ?_
   refine Zg7 (v1 := (.pointer (some ⟨g3, 6, none⟩))) (v3 := (.pointer (some ⟨g3, 6, none⟩))) T (Zq (Zrf (off := 6) rfl (T.e 4 rfl) (fun _ _ _ => by kernel_rfl))) rfl (Zo M 1 0 rfl rfl rfl rfl) rfl (Zf 6 6 rfl rfl) rfl (Zo M 1 0 rfl rfl rfl rfl) rfl (Zl Tryd.underlying27 0 rfl rfl) rfl (fun _ T => Zq (rn_sub rfl (T.e 0 rfl) evc (by omega))) rfl (fun _ T => Zq (rn_slice (size := 4) (l := 0) (h := OL.length) rfl Tryd.underlying27 (by kernel_rfl) (T.e 4 rfl) rfl ((T.e 0 rfl).trans (congrArg (Value.int .i64) (by simp))) (by omega) (by omega))) rfl ?_; clear T ac; intro ac T
   obtain ⟨Aq1, hAq1⟩ : ∃ q : Option Addr, q = (if cga1 = 0 then some ⟨ga1, 0, none⟩ else Option.map (fun x : Addr => x.add (0 * 4)) (some ⟨ga1, 0, none⟩)) := ⟨_, rfl⟩
   rw [← hAq1] at T
   refine lq (v := (.pointer (some ⟨g3, 6, none⟩))) T (Zrf (off := 6) rfl (T.e 11 rfl) (fun _ _ _ => by kernel_rfl)) ?_; clear T ac; intro ac T
   refine Zl2 ?_
   refine Zos M T rfl rfl (T.e 0 rfl) (T.e 1 rfl) rfl (.tail .head) rfl (by simp) rfl (by kernel_rfl) ?_; clear M T; intro wc ac M T
   refine wpList_nil ?_
   replace T := T.pick [9, 12] rfl
   replace M := M.mask [true, true, false, true] rfl
   refine nm_then ?_
   refine wp_exit ?_
   refine ex_miss rfl ?_
   refine Zet ?_
   refine ex_hit ?_
   refine nm_then ?_
   refine Zsr ?_
   refine Zg8 (v1 := (.pointer (some ⟨g3, 6, none⟩))) (v4 := (.pointer (some ⟨g1, 6, none⟩))) T (Zq (Zrf (off := 6) rfl (T.e 1 rfl) (fun _ _ _ => by kernel_rfl))) rfl (Zo M 1 0 rfl rfl rfl rfl) rfl (Zl Tryd.underlying27 0 rfl rfl) rfl (Zf 6 3 rfl rfl) rfl (Zo M 2 0 rfl rfl rfl rfl) rfl (Zl Tryd.underlying27 0 rfl rfl) rfl (fun _ T => Zq (rn_sub rfl (T.e 3 rfl) (T.e 0 rfl) (by omega))) rfl (Za 0 rfl rfl) rfl ?_; clear T ac; intro ac T
   refine lq T (Zra rfl evc) ?_; clear T ac; intro ac T
   refine wpList_nil ?_
   replace T := T.pick [0, 1] rfl
   replace M := M.mask [true, false, false] rfl
   refine Znr ?_
   refine rt_2 T rfl (T.e 1 rfl) (T.e 0 rfl) ?_
   have e9 : sprE s p su = 0 := (if_neg (by omega)).trans ((if_neg (by omega)).trans (by omega))
   have e8 : sprV s p su = (OL.length : Int) - (s.ps.length : Int) := by unfold sprV; rw [if_neg (by omega), hfin]
   rw [e9, e8]
   exact ⟨rfl, M.below⟩
  intro h6
  (have h6' := h6; try simp only [Zb1, Zb2, Zb3, Zb4, Zb5, Zb6, Zb7] at h6')
  have hyes : okP s su (OL ++ [p]) (shN s su) = true := by rw [hok]; cases bi <;> simp_all
  refine wp_skip ?_
  refine Znb ?_
  refine nm_then ?_
  exact ⟨_, by simp; omega, (OL ++ [p]), _, cga1, [(ga1, .row 54 4 (OL ++ [p]).length (pc (OL ++ [p])) cga1)], rfl, (by simp; omega), (by simp; omega), hg9, (by rw [H, if_pos hyes]), (Cl.row _ _ _ _ _ _), T.pick [0, 1, 2, 3, 4] rfl, M.perm [1, 2, 3, 0] rfl rfl⟩
 intro h4
 have hfin : spareR s p su (shN s su) (5 - s.ps.length) s.ps = OL.length := by rw [H, show 5 - OL.length = 0 by omega]; rfl
 refine wp_exit ?_
 refine Zet ?_
 refine Zet ?_
 refine ex_hit ?_
 refine nm_then ?_
 refine Zsr ?_
 refine Zg8 (v1 := (.pointer (some ⟨g3, 6, none⟩))) (v4 := (.pointer (some ⟨g1, 6, none⟩))) T (Zq (Zrf (off := 6) rfl (T.e 5 rfl) (fun _ _ _ => by kernel_rfl))) rfl (Zo M 0 0 rfl rfl rfl rfl) rfl (Zl Tryd.underlying27 0 rfl rfl) rfl (Zf 6 5 rfl rfl) rfl (Zo M 2 0 rfl rfl rfl rfl) rfl (Zl Tryd.underlying27 0 rfl rfl) rfl (fun _ T => Zq (rn_sub rfl (T.e 3 rfl) (T.e 0 rfl) (by omega))) rfl (Za 0 rfl rfl) rfl ?_; clear T ac; intro ac T
 refine lq T (Zra rfl evc) ?_; clear T ac; intro ac T
 refine wpList_nil ?_
 replace T := T.pick [0, 1] rfl
 replace M := M.mask [false, false, false] rfl
 refine Znr ?_
 refine rt_2 T rfl (T.e 1 rfl) (T.e 0 rfl) ?_
 have e9 : sprE s p su = 0 := (if_neg (by omega)).trans ((if_neg (by omega)).trans (by omega))
 have e8 : sprV s p su = (OL.length : Int) - (s.ps.length : Int) := by unfold sprV; rw [if_neg (by omega), hfin]
 rw [e9, e8]
 exact ⟨rfl, M.below⟩
theorem okP_iff {s : Sk} {su : Bool} {L : List Pt} {n : Nat} : okP s su L n = true ↔ ColP (Fit (cutA s su) (cutC s su)) s.lo s.wi L n := by
 have h1 := @shF_col (skP s L) su
 constructor
 ·intro h
  unfold okP at h
  cases hf : shF (skP s L) su with
  | none => rw [hf] at h; cases h
  | some y =>
   rw [hf] at h
   have h2 : y.2 ≤ n := of_decide_eq_true h
   exact (h1.2 y.1 y.2 hf).1.le h2
 ·intro h
  obtain ⟨l, m, h2, h3⟩ := shF_some (s := skP s L) (su := su) h
  unfold okP
  rw [h2]
  exact Zdt h3
theorem areasP_sum (a c : Int) : ∀ l : List Pt, areasP a c l = (l.map (areaP a c)).sum
 | [] => rfl
 | p :: l => by rw [areasP, areasP_sum a c l]; simp
theorem fit_area {a c lo wi : Int} {p : Pt} (hp : p.good) (ha : 0 ≤ a) (hc : 0 ≤ c) (h : Fit a c p lo wi) : areaP a c p ≤ lo * wi := by
 obtain ⟨t, h⟩ := h
 simp only [fitsT, Bool.and_eq_true, decide_eq_true_eq, Bool.not_eq_true'] at h
 obtain ⟨⟨h1, h2⟩, h3⟩ := h
 obtain ⟨g1, g2, -⟩ := hp
 have key : ∀ t, sizeL a c p t ≤ lo → sizeW a c p t ≤ wi → sizeL a c p t * sizeW a c p t ≤ lo * wi := fun t k1 k2 => by
  have n1 : 0 ≤ sizeL a c p t := by simp only [sizeL]; split <;> omega
  have n2 : 0 ≤ sizeW a c p t := by simp only [sizeW]; split <;> omega
  exact Int.mul_le_mul k1 k2 n2 (by omega)
 have hk := key t h1 h2
 unfold areaP
 cases t with
 | false => split <;> omega
 | true =>
  split
  ·rename_i hg
   rw [hg] at h3
   cases h3
  ·omega
theorem ColP.areas {a c lo wi : Int} {ps : List Pt} {n : Nat} (hg : ∀ p ∈ ps, p.good) (ha : 0 ≤ a) (hc : 0 ≤ c) (hlo : 0 ≤ lo) (hwi : 0 ≤ wi) (h : ColP (Fit a c) lo wi ps n) : areasP a c ps ≤ (n : Int) * (lo * wi) := by
 have h2 : ColP (fun p lo wi => Fit a c p lo wi ∧ p.good) lo wi (ps.map fun p => p) n := by
  refine ColP.map (fun p => p) (fun p _ q _ h1 h2 => ⟨h1, h2⟩) (fun xs hx hcut => ?_) h
  exact Cut.map (fun p => p) (fun p hp lo wi hf => ⟨hf, hg p (hx p hp)⟩) hcut
 rw [List.map_id'] at h2
 rw [areasP_sum]
 exact ColP.area (f := fun p lo wi => Fit a c p lo wi ∧ p.good) (fun p lo wi hf => fit_area hf.2 ha hc hf.1) hlo hwi h2
def stkS : Sk := ⟨6, 3, 0, 1, 0, 0, [⟨3, 2, false, 0⟩, ⟨2, 3, true, 0⟩, ⟨4, 1, false, 0⟩]⟩
def prdS : Sk := ⟨6, 3, 0, 1, 0, 0, [⟨3, 2, false, 1⟩, ⟨2, 3, true, 0⟩, ⟨4, 1, false, 1⟩]⟩
def shNC (s : Sk) (su : Bool) : Nat := match shFC s su with
 | some y => y.2
 | none => 0
theorem shNC_eq {s : Sk} {su : Bool} (h : skErr s = 0) (h5 : s.ps.length ≤ 5) : shN s su = shNC s su := by
 unfold shNC
 rw [shFC_eq h5]
 cases hf : shF s su with
 | none =>
  have hE : shE s su = 11 := by unfold shE; rw [if_neg (by rw [h]; decide), hf]; rfl
  unfold shN
  rw [if_neg (by rw [hE]; decide)]
 | some y =>
  have hE : shE s su = 0 := by unfold shE; rw [if_neg (by rw [h]; decide), hf]; rfl
  unfold shN
  rw [if_pos hE, hf]
  rfl
theorem st_err : skErr stkS = 0 := by decide +kernel
theorem pr_err : skErr prdS = 0 := by decide +kernel
theorem st_plan : planL stkS [0, 1] true = [⟨0, 0, true⟩, ⟨3, 0, false⟩] ∧ planE stkS [0, 1] true = 0 := by
 have h := planC_eq stkS [0, 1] true
 have h2 : planC stkS [0, 1] true = ([⟨0, 0, true⟩, ⟨3, 0, false⟩], 0) := by decide +kernel
 rw [h2] at h
 injection h with h3 h4
 exact ⟨h3.symm, h4.symm⟩
theorem pr_sh : shL prdS true = [0, 1, 0] ∧ shN prdS true = 2 ∧ shE prdS true = 0 := by
 have h2 : shFC prdS true = some ([0, 1, 0], 2) := by decide +kernel
 rw [shFC_eq (by decide)] at h2
 have hE : shE prdS true = 0 := by unfold shE; rw [if_neg (by rw [pr_err]; decide), h2]; rfl
 exact ⟨by unfold shL; rw [if_pos hE, h2]; rfl, by unfold shN; rw [if_pos hE, h2]; rfl, hE⟩
theorem st_sh : shN stkS true = 2 ∧ shE stkS true = 0 := by
 have h2 : (shFC stkS true).map (·.2) = some 2 := by decide +kernel
 rw [shFC_eq (by decide)] at h2
 obtain ⟨y, h3, h4⟩ : ∃ y, shF stkS true = some y ∧ y.2 = 2 := by
   cases h : shF stkS true with
   | none => rw [h] at h2; cases h2
   | some y => rw [h] at h2; exact ⟨y, rfl, by simpa using h2⟩
 have hE : shE stkS true = 0 := by unfold shE; rw [if_neg (by rw [st_err]; decide), h3]; rfl
 exact ⟨by unfold shN; rw [if_pos hE, h3]; exact h4, hE⟩
theorem st_wrs : wrsL stkS = [2, 1, 1] := by
 unfold wrsL
 rw [if_pos st_sh.2]
 have e : ∀ i, i < 3 → wrsV stkS i = if shNC (skW stkS i) true < 2 then 1 else 2 := fun i hi => by
  unfold wrsV
  rw [st_sh.1, shNC_eq (by
   have : ∀ i, i < 3 → skErr (skW stkS i) = 0 := by decide +kernel
   exact this i hi) (by
   have : ∀ i, i < 3 → (skW stkS i).ps.length ≤ 5 := by decide +kernel
   exact this i hi)]
 have e2 : (List.range stkS.ps.length).map (wrsV stkS) = [wrsV stkS 0, wrsV stkS 1, wrsV stkS 2] := rfl
 rw [e2, e 0 (by decide), e 1 (by decide), e 2 (by decide)]
 decide +kernel
theorem st_spr : sprV stkS ⟨5, 2, true, 0⟩ true = 1 ∧ sprE stkS ⟨5, 2, true, 0⟩ true = 0 := by
 have hp : ptErr ⟨5, 2, true, 0⟩ = 0 := by decide +kernel
 have hE : sprE stkS ⟨5, 2, true, 0⟩ true = 0 := by unfold sprE; rw [if_neg (by rw [st_err]; decide), if_neg (by rw [hp]; decide), st_sh.2]
 refine ⟨?_, hE⟩
 unfold sprV
 rw [if_neg (by rw [hE]; decide), st_sh.1]
 have e : spareR stkS ⟨5, 2, true, 0⟩ true 2 (5 - stkS.ps.length) stkS.ps = 4 := by
  show spareR stkS ⟨5, 2, true, 0⟩ true 2 2 stkS.ps = 4
  have y1 : okP stkS true (stkS.ps ++ [⟨5, 2, true, 0⟩]) 2 = true := by
   rw [okP_iff]
   refine ColP.of_will (l := [0, 0, 1, 1]) (by decide) (by decide) ?_
   have hw : willC (skP stkS (stkS.ps ++ [⟨5, 2, true, 0⟩])) true [0, 0, 1, 1] 2 = true := by decide +kernel
   rw [willC_eq (by decide)] at hw
   exact willB_iff.1 hw
  have y2 : ¬ okP stkS true (stkS.ps ++ [⟨5, 2, true, 0⟩] ++ [⟨5, 2, true, 0⟩]) 2 = true := by
   rw [okP_iff]
   intro h
   have := h.areas (by
    have : ∀ p ∈ stkS.ps ++ [⟨5, 2, true, 0⟩] ++ [⟨5, 2, true, 0⟩], ptErr p = 0 := by decide +kernel
    exact fun p hp => ptErr_iff.1 (this p hp)) (by decide) (by decide) (by decide) (by decide)
   revert this
   decide +kernel
  rw [spareR, if_pos y1, spareR, if_neg y2]
  rfl
 rw [e]
 rfl
theorem st_cuts : cutsV stkS [0, 2] [⟨0, 1, false⟩, ⟨0, 0, false⟩] true = true ∧ cutsE stkS [0, 2] 2 = 0 := by
 have hE : cutsE stkS [0, 2] 2 = 0 := by decide +kernel
 refine ⟨?_, hE⟩
 unfold cutsV
 rw [if_pos (show cutsE stkS [0, 2] ([⟨0, 1, false⟩, ⟨0, 0, false⟩] : List Spt).length = 0 from hE)]
 unfold cutsB
 have h2 : plP (cutA stkS true) (cutC stkS true) stkS.lo stkS.wi [] (gP stkS [0, 2]) [⟨0, 1, false⟩, ⟨0, 0, false⟩] = some [⟨0, 1, 4, 3, 0⟩, ⟨0, 0, 5, 1, 1⟩] := by decide +kernel
 rw [h2]
 show sawB _ _ = true
 rw [← sawC_eq 3 _ _ (by decide)]
 decide +kernel
theorem eqT63 {x y : Operand} {a0 a1 b0 b1 : Int} {a2 b2 : Bool} {w : World} : (do eqGuard .eql 63 x y (.agg #[.int .i64 a0, .int .i64 a1, .bool a2]) (.agg #[.int .i64 b0, .int .i64 b1, .bool b2]); binOp .eql 63 (.agg #[.int .i64 a0, .int .i64 a1, .bool a2]) (.agg #[.int .i64 b0, .int .i64 b1, .bool b2]) : Sem Value).run Tryd.prog w = .ok (.bool (decide (a0 = b0) && (decide (a1 = b1) && decide (a2 = b2)))) w := by
 go_simp
 (repeat' split) <;> simp_all
theorem take_same {α : Type} {l r : List α} {k : Nat} {p q : α} (h1 : l[k]? = some p) (h2 : r[k]? = some q) : l.take (k + 1) = r.take (k + 1) ↔ l.take k = r.take k ∧ p = q := by
 rw [List.take_add_one, List.take_add_one, h1, h2, Option.toList_some, Option.toList_some]
 constructor
 ·intro h
  have hl : (l.take k).length = (r.take k).length := by
   have := congrArg List.length h
   simpa using this
  obtain ⟨h3, h4⟩ := List.append_inj h hl
  exact ⟨h3, by simpa using h4⟩
 ·rintro ⟨h3, rfl⟩
  rw [h3]
theorem sameSpots_any (L : Option Addr) (c : Nat) (l : List Spt) (R : Option Addr) (d : Nat) (r : List Spt)  (w : World) (hL : Rd w w.heap.size 3 L l.length (tc l)) (hR : Rd w w.heap.size 3 R r.length (tc r)) (nL : l.length ≤ 1000000) (nR : r.length ≤ 1000000) :
   Calls Tryd.prog 19 #[.slice L l.length c, .slice R r.length d] w fun e w' => e = .returned (.bool (decide (l = r))) ∧ Below w.heap.size w w' := by
 obtain ⟨bL, oL, SL⟩ := Sp.old hL
 obtain ⟨bR, oR, SR⟩ := Sp.old hR
 refine Zpx noEx Tryd.func19 rfl 31 rfl [.slice L l.length c, .slice R r.length d] rfl rfl (Mem.init w _) ?_
 intro ac wc T M
 refine Zsr ?_
 refine lq T (Zra rfl evc) ?_; clear T ac; intro ac T
 replace T := T.pick [1, 2] rfl
 refine Zln ?_
 refine Zsr ?_
 refine Zg6 T (Zq (Zrm rfl (T.e 0 rfl))) rfl (Zl Tryd.underlying58 0 rfl rfl) rfl (Zm 3 rfl rfl) rfl (Zl Tryd.underlying58 0 rfl rfl) rfl (fun _ T => Zq (rn_eql rfl (T.e 2 rfl) (T.e 0 rfl))) rfl (Za 0 rfl rfl) rfl ?_; clear T ac; intro ac T
 replace T := T.pick [0, 6, 7] rfl
 refine Zln ?_
 refine wp_seq ?_
 refine Zsr ?_
 refine lq T (Zra rfl evc) ?_; clear T ac; intro ac T
 refine Zln ?_
 refine wp_block ?_
 refine wp_loop_n (fun mz ac wc => ∃ (i : Nat) (sm : Bool), mz = l.length - i ∧ (i ≤ l.length) ∧ (sm = true ↔ l.length = r.length ∧ l.take i = r.take i) ∧ Tm ac 31 [(0, .slice L l.length c), (1, .slice R r.length d), (5, .bool sm), (6, .int .i64 (i : Int))] ∧ Mem w noEx wc []) ?_ ?_
 ·exact ⟨_, 0, _, rfl, (Nat.zero_le _), (by simp; omega), T.pick [2, 3, 1, 0] rfl, M.mask [] rfl⟩
 clear T M
 rintro mz ac wc ⟨i, sm, hmm1, hi, hs, T, M⟩
 refine wp_seq ?_
 refine cut_seq (fun ac wc => Tm ac 31 [(0, .slice L l.length c), (1, .slice R r.length d), (5, .bool sm), (6, .int .i64 (i : Int)), (18, .bool (sm && (decide ((i : Int) < ((l.length : Nat) : Int)))))] ∧ Mem w noEx wc []) ?_ ?_
 ·refine wp_region_lit ?_
  refine Zg2 T (Zq (Zrm rfl (T.e 2 rfl))) rfl (Zm 0 rfl rfl) rfl ?_; clear T ac; intro ac T
  rcases Bool.eq_false_or_eq_true sm with h1 | h1
  ·refine Zg5 T (Zw (Zwy rfl rfl (T.e 0 rfl) h1) (Zrm rfl (T.e 5 rfl))) rfl (fun _ T => Zw (Zwy rfl rfl (T.e 1 rfl) h1) (Zrm rfl (T.e 3 rfl))) rfl (fun _ T => Zw (Zwy rfl rfl (T.e 2 rfl) h1) (Zrl rfl Tryd.underlying58 (T.e 0 rfl))) rfl (fun _ T => Zw (Zwy rfl rfl (T.e 3 rfl) h1) (rn_lss rfl (T.e 2 rfl) (T.e 0 rfl))) rfl (fun _ T => Zq (Zr1 rfl (T.e 4 rfl) h1 (T.e 0 rfl))) rfl ?_; clear T ac; intro ac T
   refine wpList_nil ?_
   replace T := T.pick [0, 1, 2, 3, 4, 7, 8, 9, 10] rfl
   exact ⟨(T.pick (E' := [(0, .slice L l.length c), (1, .slice R r.length d), (5, .bool sm), (6, .int .i64 (i : Int)), (18, .bool (decide ((i : Int) < ((l.length : Nat) : Int))))]) [5, 6, 7, 8, 0] rfl).as (by (try rw [show sm = true from h1]); (try rfl)), M.mask [] rfl⟩
  refine Zg5 T (Zp (Zwn rfl rfl (T.e 0 rfl) h1)) rfl (fun _ T => Zp (Zwn rfl rfl (T.e 1 rfl) h1)) rfl (fun _ T => Zp (Zwn rfl rfl (T.e 2 rfl) h1)) rfl (fun _ T => Zp (Zwn rfl rfl (T.e 3 rfl) h1)) rfl (fun _ T => Zq (Zr0 rfl (T.e 4 rfl) h1 evc)) rfl ?_; clear T ac; intro ac T
  refine wpList_nil ?_
  replace T := T.pick [0, 1, 2, 3, 4, 7, 8, 9, 10] rfl
  exact ⟨(T.pick (E' := [(0, .slice L l.length c), (1, .slice R r.length d), (5, .bool sm), (6, .int .i64 (i : Int)), (18, .bool false)]) [5, 6, 7, 8, 0] rfl).as (by (try rw [show sm = false from h1]); (try rfl)), M.mask [] rfl⟩
 clear T M
 rintro ac wc ⟨T, M⟩
 refine wp_cond_split (T.e 4 rfl) ?_ ?_
 ·intro h2
  (have h2' := h2; try simp only [Zb1, Zb2, Zb3, Zb4, Zb5, Zb6, Zb7] at h2')
  have hlr : sm = true ∧ i < l.length := by simpa using h2
  have hlen := (hs.1 hlr.1).1
  have htk := (hs.1 hlr.1).2
  obtain ⟨p, hkp, -⟩ := tc_next (l := l) (k := i) (by omega)
  obtain ⟨q, hkq, -⟩ := tc_next (l := r) (k := i) (by omega)
  refine Zsk ?_
  refine wp_seq ?_
  refine wp_block ?_
  refine Zgs M (M.mask [] rfl) 10 (by kernel_rfl) rfl (by kernel_rfl) ?_
  clear M; intro wc M
  refine gq T 0 1 rfl (fun _ _ _ _ _ => (Zrm rfl (T.e 0 rfl))) ?_; clear T ac; intro ac T
  refine gq T 1 3 rfl (fun _ _ _ _ _ => (Zrm rfl (T.e 4 rfl))) ?_; clear T ac; intro ac T
  refine gq T 2 7 rfl (fun _ _ _ _ _ => (Zri (size := 3) i rfl (T.e 1 rfl) (T.e 0 rfl) ⟨_, Tryd.underlying58, by kernel_rfl⟩ rfl (by omega) (SL.at0 (by omega)))) ?_; clear T ac; intro ac T
  refine gq (v := (.agg #[.int .i64 p.x, .int .i64 p.y, .bool p.t])) T 3 15 rfl (fun B w' hD hl hS => (rn_rowat (Sp.tcR SL (show Mem w noEx w' _ from hS) (Zz9 _) hkp) rfl (T.e 0 rfl) rfl)) ?_; clear T ac; intro ac T
  refine gq T 4 31 rfl (fun _ _ _ _ _ => (Zrm rfl (T.e 5 rfl))) ?_; clear T ac; intro ac T
  refine gq T 5 63 rfl (fun _ _ _ _ _ => (Zrm rfl (T.e 8 rfl))) ?_; clear T ac; intro ac T
  refine gq T 6 127 rfl (fun _ _ _ _ _ => (Zri (size := 3) i rfl (T.e 1 rfl) (T.e 0 rfl) ⟨_, Tryd.underlying58, by kernel_rfl⟩ rfl (by omega) (SR.at0 (by omega)))) ?_; clear T ac; intro ac T
  refine gq (v := (.agg #[.int .i64 q.x, .int .i64 q.y, .bool q.t])) T 7 255 rfl (fun B w' hD hl hS => (rn_rowat (Sp.tcR SR (show Mem w noEx w' _ from hS) (Zz9 _) hkq) rfl (T.e 0 rfl) rfl)) ?_; clear T ac; intro ac T
  refine gq (v := (.bool ((decide (p.x = q.x)) && ((decide (p.y = q.y)) && (decide (p.t = q.t)))))) T 8 511 rfl (fun _ _ _ _ _ => (rn_bin rfl (T.e 4 rfl) (T.e 0 rfl) eqT63)) ?_; clear T ac; intro ac T
  refine g_q (v := (.bool ((decide (p.x = q.x)) && ((decide (p.y = q.y)) && (decide (p.t = q.t)))))) (T := T.pick [0, 1, 2, 3, 4, 5, 6, 7, 8, 9, 10, 12, 13] rfl) (i := 9) rfl (by kernel_rfl) (by kernel_rfl : (Zpb 10 511).setIfInBounds 9 true = Zpb 10 1023) si_U (fun _ _ _ h => h) rfl rfl rfl rfl (fun _ _ _ _ _ => (Zra rfl (T.e 0 rfl))) ?_; clear T ac; intro ac T
  refine Zgd (by kernel_rfl) ?_
  replace T := T.pick [0, 10, 11, 12] rfl
  refine Znb ?_
  refine nm_then ?_
  refine wp_region_lit ?_
  refine Zg2 T (Zq (Zrm rfl (T.e 3 rfl))) rfl (fun _ T => Zq (rn_add rfl (T.e 0 rfl) evc (by omega))) rfl ?_; clear T ac; intro ac T
  refine l_q (v := (.int .i64 ((i : Int) + 1))) (T.pick [0, 1, 2, 3, 4] rfl) rfl rfl rfl rfl (Zra rfl (T.e 0 rfl)) ?_; clear T ac; intro ac T
  replace T := T.pick [0, 3, 4, 5] rfl
  refine Zln ?_
  exact ⟨_, by omega, i + 1, ((decide (p.x = q.x)) && ((decide (p.y = q.y)) && (decide (p.t = q.t)))), rfl, (by omega), (by rw [take_same hkp hkq]; cases p; cases q; simp [hlen, htk]), T.pick [2, 3, 1, 0] rfl, M.mask [] rfl⟩
 intro h2
 (have h2' := h2; try simp only [Zb1, Zb2, Zb3, Zb4, Zb5, Zb6, Zb7] at h2')
 refine wp_exit ?_
 refine Zet ?_
 refine Zet ?_
 refine ex_hit ?_
 refine nm_then ?_
 refine Zsr ?_
 refine Zg2 T (Zq (Zrm rfl (T.e 2 rfl))) rfl (Za 0 rfl rfl) rfl ?_; clear T ac; intro ac T
 replace T := T.pick [0] rfl
 refine Zln ?_
 refine wp_ret ?_
 refine rt_1 T rfl (T.e 0 rfl) ?_
 have e9 : sm = decide (l = r) := by
   rw [Bool.eq_iff_iff, decide_eq_true_eq]
   constructor
   · intro hsm
     obtain ⟨k1, k2⟩ := hs.1 hsm
     have hi9 : ¬ i < l.length := by simpa [hsm] using h2
     rwa [List.take_of_length_le (by omega), List.take_of_length_le (by omega)] at k2
   · rintro rfl
     exact hs.2 ⟨rfl, rfl⟩
 rw [e9]
 exact ⟨rfl, M.below⟩
def StockPost (w : World) (e : Ending) (w' : World) : Prop := ∃ g, e = .returned (.agg #[.int .i64 stkS.lo, .int .i64 stkS.wi, .int .i64 stkS.a0, .int .i64 stkS.a1, .int .i64 stkS.c0, .int .i64 stkS.c1, .slice (some ⟨g, 0, none⟩) stkS.ps.length 3]) ∧ Mem w noEx w' [(g, .cells [.int .i64 3, .int .i64 2, .bool false, .int .i64 0, .int .i64 2, .int .i64 3, .bool true, .int .i64 0, .int .i64 4, .int .i64 1, .bool false, .int .i64 0])]
def PairedPost (w : World) (e : Ending) (w' : World) : Prop := ∃ g, e = .returned (.agg #[.int .i64 prdS.lo, .int .i64 prdS.wi, .int .i64 prdS.a0, .int .i64 prdS.a1, .int .i64 prdS.c0, .int .i64 prdS.c1, .slice (some ⟨g, 0, none⟩) prdS.ps.length 3]) ∧ Mem w noEx w' [(g, .cells [.int .i64 3, .int .i64 2, .bool false, .int .i64 1, .int .i64 2, .int .i64 3, .bool true, .int .i64 0, .int .i64 4, .int .i64 1, .bool false, .int .i64 1])]
theorem to8_any (a b : Int) (w : World)  :
  Calls Tryd.prog 14 #[.int .i64 a, .int .i64 b] w fun e w' => e = .returned (.agg #[.int .i64 a, .int .i64 b]) ∧ Below w.heap.size w w' := by
 refine Zpx noEx Tryd.func14 rfl 8 rfl [.int .i64 a, .int .i64 b] rfl rfl (Mem.init w _) ?_
 intro ac wc T M
 refine Zsr ?_
 refine Zl2 ?_
 refine Zoa M T rfl rfl rfl rfl ?_; clear M T; intro g1 wc ac M T
 refine Zln ?_
 refine Zsr ?_
 refine Zg3 (v3 := (.agg #[.int .i64 a, .int .i64 b])) T (Zq (Zrm rfl (T.e 1 rfl))) rfl (Zm 3 rfl rfl) rfl (fun _ T => Zq (rn_build rfl (.cons (T.e 1 rfl) (.cons (T.e 0 rfl) .nil)) (fun _ => by kernel_rfl))) rfl ?_; clear T ac; intro ac T
 refine Zl2 ?_
 refine Zos M T rfl rfl (T.e 3 rfl) (T.e 0 rfl) rfl .head rfl (by simp) rfl (by kernel_rfl) ?_; clear M T; intro wc ac M T
 replace T := T.pick [3] rfl
 refine Zln ?_
 refine wp_ret ?_
 refine rt_c M T rfl (T.e 0 rfl) (Zne (i := 0) rfl) rfl ?_
 exact ⟨rfl, M.below⟩
theorem spot8_any (x y : Int) (t : Bool) (w : World)  :
  Calls Tryd.prog 20 #[.int .i64 x, .int .i64 y, .bool t] w fun e w' => e = .returned (.agg #[.int .i64 x, .int .i64 y, .bool t]) ∧ Below w.heap.size w w' := by
 refine Zpx noEx Tryd.func20 rfl 11 rfl [.int .i64 x, .int .i64 y, .bool t] rfl rfl (Mem.init w _) ?_
 intro ac wc T M
 refine Zsr ?_
 refine Zl2 ?_
 refine Zoa M T rfl rfl rfl rfl ?_; clear M T; intro g1 wc ac M T
 refine Zln ?_
 refine Zsr ?_
 refine Zg4 (v4 := (.agg #[.int .i64 x, .int .i64 y, .bool t])) T (Zq (Zrm rfl (T.e 1 rfl))) rfl (Zm 3 rfl rfl) rfl (Zm 5 rfl rfl) rfl (fun _ T => Zq (rn_build rfl (.cons (T.e 2 rfl) (.cons (T.e 1 rfl) (.cons (T.e 0 rfl) .nil))) (fun _ => by kernel_rfl))) rfl ?_; clear T ac; intro ac T
 refine Zl2 ?_
 refine Zos M T rfl rfl (T.e 4 rfl) (T.e 0 rfl) rfl .head rfl (by simp) rfl (by kernel_rfl) ?_; clear M T; intro wc ac M T
 replace T := T.pick [4] rfl
 refine Zln ?_
 refine wp_ret ?_
 refine rt_c M T rfl (T.e 0 rfl) (Zne (i := 0) rfl) rfl ?_
 exact ⟨rfl, M.below⟩
theorem stock_any  (w : World)  :
  Calls Tryd.prog 13 #[] w (StockPost w) := by
 refine Zpx noEx Tryd.func13 rfl 7 rfl [] rfl rfl (Mem.init w _) ?_
 intro ac wc T M
 refine Zsr ?_
 refine Zl2 ?_
 refine Zoa M T rfl rfl rfl rfl ?_; clear M T; intro g1 wc ac M T
 refine Zln ?_
 refine Zsr ?_
 refine Zl2 ?_
 refine Zoc (first := []) (cap := []) T rfl rfl rfl rfl evf (.cons evc (.cons evc .nil)) Tryd.func14 rfl rfl ?_
 refine Calls.mono (to8_any 0 1 _) ?_
 clear T; rintro e wc ⟨rfl, hb⟩ ac T
 replace M := M.call hb; clear hb
 refine Zg3 (v1 := (.agg #[.int .i64 3, .int .i64 2, .bool false, .int .i64 0])) (v2 := (.agg #[.int .i64 2, .int .i64 3, .bool true, .int .i64 0])) (v3 := (.agg #[.int .i64 4, .int .i64 1, .bool false, .int .i64 0])) T (Zq (rn_build rfl (.cons evc (.cons evc .nil)) (fun _ => by kernel_rfl))) rfl (fun _ T => Zq (rn_build rfl (.cons evc (.cons evc (.cons evc .nil))) (fun _ => by kernel_rfl))) rfl (fun _ T => Zq (rn_build rfl (.cons evc (.cons evc .nil)) (fun _ => by kernel_rfl))) rfl ?_; clear T ac; intro ac T
 refine Zl2 ?_
 refine ow_bs (e := 54) [.int .i64 3, .int .i64 2, .bool false, .int .i64 0, .int .i64 2, .int .i64 3, .bool true, .int .i64 0, .int .i64 4, .int .i64 1, .bool false, .int .i64 0] M T rfl rfl rfl rfl (.cons (T.e 2 rfl) (.cons (T.e 1 rfl) (.cons (T.e 0 rfl) .nil))) (fun _ => by kernel_rfl) ?_; clear M T; intro g2 wc ac M T
 refine lq (v := (.agg #[.int .i64 6, .int .i64 3, .int .i64 0, .int .i64 1, .int .i64 0, .int .i64 0, .slice (some ⟨g2, 0, none⟩) 3 3])) T (rn_build rfl (.cons evc (.cons evc (.cons (T.e 4 rfl) (.cons (T.e 0 rfl) .nil)))) (fun _ => by kernel_rfl)) ?_; clear T ac; intro ac T
 refine Zl2 ?_
 refine Zos M T rfl rfl (T.e 6 rfl) (T.e 0 rfl) rfl (.tail .head) rfl (by simp) rfl (by kernel_rfl) ?_; clear M T; intro wc ac M T
 replace T := T.pick [6] rfl
 refine Zln ?_
 refine wp_ret ?_
 refine rt_c M T rfl (T.e 0 rfl) (Zne (i := 1) rfl) rfl ?_
 exact ⟨g2, rfl, M.mask [true, false] rfl⟩
theorem paired_any  (w : World)  :
  Calls Tryd.prog 27 #[] w (PairedPost w) := by
 refine Zpx noEx Tryd.func27 rfl 12 rfl [] rfl rfl (Mem.init w _) ?_
 intro ac wc T M
 refine Zsr ?_
 refine Zl2 ?_
 refine Zoa M T rfl rfl rfl rfl ?_; clear M T; intro g1 wc ac M T
 refine Zln ?_
 refine Zsr ?_
 refine Zl2 ?_
 refine Zoc (first := []) (cap := []) T rfl rfl rfl rfl evf .nil Tryd.func13 rfl rfl ?_
 refine Calls.mono (stock_any _) ?_
 clear T; rintro e wc ⟨gsu1, rfl, N⟩ ac T
 replace M := M.join N; clear N
 replace M := M.mask [true, true] rfl
 refine Zl2 ?_
 refine Zoa M T rfl rfl rfl rfl ?_; clear M T; intro g2 wc ac M T
 refine Zl2 ?_
 refine Zos M T rfl rfl (T.e 0 rfl) (T.e 1 rfl) rfl .head rfl (by simp) rfl (by kernel_rfl) ?_; clear M T; intro wc ac M T
 replace T := T.pick [0, 2] rfl
 refine Zln ?_
 refine wp_seq ?_
 refine Zgs M (M.perm [0, 2] rfl rfl) 10 (by kernel_rfl) rfl (by kernel_rfl) ?_
 clear M; intro wc M
 refine gq (v := (.pointer (some ⟨g2, 6, none⟩))) T 0 1 rfl (fun _ _ _ _ _ => (Zrf (off := 6) rfl (T.e 0 rfl) (fun _ _ _ => by kernel_rfl))) ?_; clear T ac; intro ac T
 refine gq T 1 3 rfl (fun B w' hD hl hS => (Zro (Mem.nth (show Mem w noEx w' _ from hS) 0 rfl) rfl (T.e 0 rfl) rfl)) ?_; clear T ac; intro ac T
 refine gq (v := (.pointer (some ⟨g2, 6, none⟩))) T 2 7 rfl (fun _ _ _ _ _ => (Zrf (off := 6) rfl (T.e 2 rfl) (fun _ _ _ => by kernel_rfl))) ?_; clear T ac; intro ac T
 refine gq T 3 15 rfl (fun B w' hD hl hS => (Zro (Mem.nth (show Mem w noEx w' _ from hS) 0 rfl) rfl (T.e 0 rfl) rfl)) ?_; clear T ac; intro ac T
 refine gq (v := (.pointer (some ⟨gsu1, 0, none⟩))) T 4 31 rfl (fun _ _ _ _ _ => (Zri (size := 4) 0 rfl (T.e 2 rfl) evc ⟨_, Tryd.underlying27, by kernel_rfl⟩ rfl (by decide) rfl)) ?_; clear T ac; intro ac T
 refine gq (v := (.pointer (some ⟨gsu1, 3, none⟩))) T 5 63 rfl (fun _ _ _ _ _ => (Zrf (off := 3) rfl (T.e 0 rfl) (fun _ _ _ => by kernel_rfl))) ?_; clear T ac; intro ac T
 refine gw 6 127 ?_; intro K hK
 refine Zos M T rfl rfl (T.e 0 rfl) evc rfl (.tail .head) rfl (by simp) rfl (by kernel_rfl) ?_; clear M T; intro wc ac M T
 refine Zso hK _ _ (M.mask [true, false, true] rfl) ?_; clear hK K
 refine gq (v := (.pointer (some ⟨gsu1, 8, none⟩))) T 7 255 rfl (fun _ _ _ _ _ => (Zri (size := 4) 2 rfl (T.e 2 rfl) evc ⟨_, Tryd.underlying27, by kernel_rfl⟩ rfl (by decide) rfl)) ?_; clear T ac; intro ac T
 refine gq (v := (.pointer (some ⟨gsu1, 11, none⟩))) T 8 511 rfl (fun _ _ _ _ _ => (Zrf (off := 3) rfl (T.e 0 rfl) (fun _ _ _ => by kernel_rfl))) ?_; clear T ac; intro ac T
 refine gw 9 1023 ?_; intro K hK
 refine Zos M T rfl rfl (T.e 0 rfl) evc rfl (.tail .head) rfl (by simp) rfl (by kernel_rfl) ?_; clear M T; intro wc ac M T
 refine Zso hK _ _ (M.mask [true, false, true] rfl) ?_; clear hK K
 refine Zgd (by kernel_rfl) ?_
 replace T := T.pick [8, 9] rfl
 refine nm_then ?_
 refine Zsr ?_
 refine lq T (Zrr (Mem.nth M 0 rfl) rfl (T.e 0 rfl) rfl) ?_; clear T ac; intro ac T
 refine Zl2 ?_
 refine Zos M T rfl rfl (T.e 2 rfl) (T.e 0 rfl) rfl (.tail (.tail .head)) rfl (by simp) rfl (by kernel_rfl) ?_; clear M T; intro wc ac M T
 refine wpList_nil ?_
 replace T := T.pick [2] rfl
 replace M := M.mask [false, true, true] rfl
 refine Znr ?_
 refine rt_c M T rfl (T.e 0 rfl) (Zne (i := 1) rfl) rfl ?_
 exact ⟨gsu1, rfl, M.mask [true, false] rfl⟩
theorem sawn8_any  (w : World) (hT : TabW w) :
  Calls Tryd.prog 15 #[] w fun e w' => e = .returned (.bool true) ∧ Below w.heap.size w w' := by
 refine Zpx noEx Tryd.func15 rfl 90 rfl [] rfl rfl (Mem.init w _) ?_
 intro ac wc T M
 refine Zsr ?_
 refine lq T (Zra rfl evc) ?_; clear T ac; intro ac T
 replace T := T.pick [] rfl
 refine Zln ?_
 refine Zsr ?_
 refine Zl2 ?_
 refine Zoc (first := []) (cap := []) T rfl rfl rfl rfl evf .nil Tryd.func13 rfl rfl ?_
 refine Calls.mono (stock_any _) ?_
 clear T; rintro e wc ⟨gsu1, rfl, N⟩ ac T
 replace M := M.join N; clear N
 replace M := M.mask [true] rfl
 refine Zl2 ?_
 refine ow_bs (e := 3) [.int .i64 0, .int .i64 1] M T rfl rfl rfl rfl (.cons evc (.cons evc .nil)) (fun _ => by kernel_rfl) ?_; clear M T; intro g1 wc ac M T
 refine Zl2 ?_
 refine Zoc (first := []) (cap := []) T rfl rfl rfl rfl evf (.cons (T.e 1 rfl) (.cons (T.e 0 rfl) (.cons evc .nil))) Tryd.func18 rfl rfl ?_
 refine Calls.mono (Plan_any stkS (some ⟨gsu1, 0, none⟩) 3 (some ⟨g1, 0, none⟩) 2 ([0, 1]) true _ (M.rdOwn (Zne (i := 1) rfl) rfl rfl) (M.rdOwn (Zne (i := 0) rfl) rfl rfl) (by decide) (by decide) (by decide) (hT.mem M (fun h => h))) ?_
 clear T; rintro e wc ⟨APu2, cPu2, IPu2, rfl, hcpPu2, SVPu2, N⟩ ac T
 rw [st_plan.1] at SVPu2 hcpPu2
 rw [st_plan.1, st_plan.2] at T
 obtain ⟨bAPu2, oAPu2, SVPu2⟩ := SVPu2
 have SAPu2 := SVPu2 w noEx
 replace M := (M.join N).swapI
 clear N
 replace M : Mem w noEx wc ((g1, .cells [.int .i64 0, .int .i64 1]) :: (gsu1, .cells [.int .i64 3, .int .i64 2, .bool false, .int .i64 0, .int .i64 2, .int .i64 3, .bool true, .int .i64 0, .int .i64 4, .int .i64 1, .bool false, .int .i64 0]) :: IPu2) := M
 refine Zg5 T (Zq (Zrm rfl (T.e 0 rfl))) rfl (Ze 0 rfl rfl rfl) rfl (Ze 1 rfl rfl rfl) rfl (Za 1 rfl rfl) rfl (Za 1 rfl rfl) rfl ?_; clear T ac; intro ac T
 refine wpList_nil ?_
 replace T := T.pick [0, 1] rfl
 replace M := M.mask [false, false] rfl
 refine nm_then ?_
 refine Zsr ?_
 refine Zl2 ?_
 refine Zoc (first := []) (cap := []) T rfl rfl rfl rfl evf .nil Tryd.func27 rfl rfl ?_
 refine Calls.mono (paired_any _) ?_
 clear T; rintro e wc ⟨gsu3, rfl, N⟩ ac T
 replace M := M.join N; clear N
 replace M := M.mask [true] rfl
 refine Zl2 ?_
 refine Zoc (first := []) (cap := []) T rfl rfl rfl rfl evf (.cons (T.e 0 rfl) (.cons evc .nil)) Tryd.func7 rfl rfl ?_
 refine Calls.mono (Sheets_any prdS (some ⟨gsu3, 0, none⟩) 3 true _ (M.rdOwn (Zne (i := 0) rfl) rfl rfl) (by decide) (by decide) (hT.mem M (fun h => h))) ?_
 clear T; rintro e wc ⟨ASu4, cSu4, ISu4, rfl, hcpSu4, SVSu4, N⟩ ac T
 rw [pr_sh.1] at SVSu4 hcpSu4
 rw [pr_sh.1, pr_sh.2.1, pr_sh.2.2] at T
 obtain ⟨bASu4, oASu4, SVSu4⟩ := SVSu4
 have SASu4 := SVSu4 w noEx
 replace M := (M.join N).swapI
 clear N
 replace M : Mem w noEx wc ((gsu3, .cells [.int .i64 3, .int .i64 2, .bool false, .int .i64 1, .int .i64 2, .int .i64 3, .bool true, .int .i64 0, .int .i64 4, .int .i64 1, .bool false, .int .i64 1]) :: (IPu2 ++ ISu4)) := M
 refine Zg7 T (Zq (Zrm rfl (T.e 0 rfl))) rfl (Ze 0 rfl rfl rfl) rfl (Ze 1 rfl rfl rfl) rfl (Ze 2 rfl rfl rfl) rfl (Za 2 rfl rfl) rfl (Za 2 rfl rfl) rfl (Za 2 rfl rfl) rfl ?_; clear T ac; intro ac T
 refine wpList_nil ?_
 replace T := T.pick [0, 1, 2, 9, 10] rfl
 replace M := M.mask [false] rfl
 refine nm_then ?_
 refine Zsr ?_
 refine Zl2 ?_
 refine Zoc (first := []) (cap := []) T rfl rfl rfl rfl evf .nil Tryd.func13 rfl rfl ?_
 refine Calls.mono (stock_any _) ?_
 clear T; rintro e wc ⟨gsu5, rfl, N⟩ ac T
 replace M := M.join N; clear N
 replace M := M.mask [true] rfl
 refine Zl2 ?_
 refine Zoc (first := []) (cap := []) T rfl rfl rfl rfl evf (.cons (T.e 0 rfl) .nil) Tryd.func44 rfl rfl ?_
 refine Calls.mono (Worst_any stkS (some ⟨gsu5, 0, none⟩) 3 _ (M.rdOwn (Zne (i := 0) rfl) rfl rfl) (by decide) (by decide) (hT.mem M (fun h => h))) ?_
 clear T; rintro e wc ⟨AWu6, cWu6, IWu6, rfl, hcpWu6, SVWu6, N⟩ ac T
 rw [st_wrs] at SVWu6 hcpWu6
 rw [st_wrs, st_sh.2] at T
 obtain ⟨bAWu6, oAWu6, SVWu6⟩ := SVWu6
 have SAWu6 := SVWu6 w noEx
 replace M := (M.join N).swapI
 clear N
 replace M : Mem w noEx wc ((gsu5, .cells [.int .i64 3, .int .i64 2, .bool false, .int .i64 0, .int .i64 2, .int .i64 3, .bool true, .int .i64 0, .int .i64 4, .int .i64 1, .bool false, .int .i64 0]) :: (IPu2 ++ ISu4 ++ IWu6)) := M
 refine Zg5 T (Zq (Zrm rfl (T.e 0 rfl))) rfl (Ze 0 rfl rfl rfl) rfl (Ze 1 rfl rfl rfl) rfl (Za 1 rfl rfl) rfl (Za 1 rfl rfl) rfl ?_; clear T ac; intro ac T
 refine wpList_nil ?_
 replace T := T.pick [0, 1, 7, 8, 9, 10, 11] rfl
 replace M := M.mask [false] rfl
 replace M : Mem w noEx wc ((IPu2 ++ ISu4 ++ IWu6)) := M
 refine nm_then ?_
 refine Zsr ?_
 refine Zl2 ?_
 refine Zoc (first := []) (cap := []) T rfl rfl rfl rfl evf .nil Tryd.func13 rfl rfl ?_
 refine Calls.mono (stock_any _) ?_
 clear T; rintro e wc ⟨gsu7, rfl, N⟩ ac T
 replace M := M.join N; clear N
 replace M := M.mask [true] rfl
 refine lq (v := (.agg #[.int .i64 5, .int .i64 2, .bool true, .int .i64 0])) T (rn_build rfl (.cons evc (.cons evc (.cons evc .nil))) (fun _ => by kernel_rfl)) ?_; clear T ac; intro ac T
 refine Zl2 ?_
 refine Zoc (first := []) (cap := []) T rfl rfl rfl rfl evf (.cons (T.e 1 rfl) (.cons (T.e 0 rfl) (.cons evc .nil))) Tryd.func26 rfl rfl ?_
 refine Calls.mono (Spare_any stkS (some ⟨gsu7, 0, none⟩) 3 (⟨5, 2, true, 0⟩ : Pt) true _ (M.rdOwn (Zne (i := 0) rfl) rfl rfl) (by decide) (by decide) (hT.mem M (fun h => h))) ?_
 clear T; rintro e wc ⟨rfl, hb⟩ ac T
 rw [st_spr.1, st_spr.2] at T
 replace M := M.call hb; clear hb
 refine Zg5 T (Zq (Zrm rfl (T.e 0 rfl))) rfl (Ze 0 rfl rfl rfl) rfl (Ze 1 rfl rfl rfl) rfl (Za 1 rfl rfl) rfl (Za 1 rfl rfl) rfl ?_; clear T ac; intro ac T
 refine wpList_nil ?_
 replace T := T.pick [0, 1, 8, 9, 10, 11, 12, 13, 14] rfl
 replace M := M.mask [false] rfl
 replace M : Mem w noEx wc ((IPu2 ++ ISu4 ++ IWu6)) := M
 refine nm_then ?_
 refine Zsr ?_
 refine Zl2 ?_
 refine Zoc (first := []) (cap := []) T rfl rfl rfl rfl evf .nil Tryd.func13 rfl rfl ?_
 refine Calls.mono (stock_any _) ?_
 clear T; rintro e wc ⟨gsu9, rfl, N⟩ ac T
 replace M := M.join N; clear N
 replace M := M.mask [true] rfl
 refine Zl2 ?_
 refine ow_bs (e := 3) [.int .i64 0, .int .i64 2] M T rfl rfl rfl rfl (.cons evc (.cons evc .nil)) (fun _ => by kernel_rfl) ?_; clear M T; intro g2 wc ac M T
 refine Zl2 ?_
 refine Zoc (first := []) (cap := []) T rfl rfl rfl rfl evf (.cons evc (.cons evc (.cons evc .nil))) Tryd.func20 rfl rfl ?_
 refine Calls.mono (spot8_any 0 1 false _) ?_
 clear T; rintro e wc ⟨rfl, hb⟩ ac T
 replace M := M.call hb; clear hb
 refine Zl2 ?_
 refine Zoc (first := []) (cap := []) T rfl rfl rfl rfl evf (.cons evc (.cons evc (.cons evc .nil))) Tryd.func20 rfl rfl ?_
 refine Calls.mono (spot8_any 0 0 false _) ?_
 clear T; rintro e wc ⟨rfl, hb⟩ ac T
 replace M := M.call hb; clear hb
 refine Zl2 ?_
 refine ow_bs (e := 63) [.int .i64 0, .int .i64 1, .bool false, .int .i64 0, .int .i64 0, .bool false] M T rfl rfl rfl rfl (.cons (T.e 1 rfl) (.cons (T.e 0 rfl) .nil)) (fun _ => by kernel_rfl) ?_; clear M T; intro g3 wc ac M T
 refine Zl2 ?_
 refine Zoc (first := []) (cap := []) T rfl rfl rfl rfl evf (.cons (T.e 4 rfl) (.cons (T.e 3 rfl) (.cons (T.e 0 rfl) (.cons evc .nil)))) Tryd.func22 rfl rfl ?_
 refine Calls.mono (Cuts_any stkS (some ⟨gsu9, 0, none⟩) 3 (some ⟨g2, 0, none⟩) 2 ([0, 2]) (some ⟨g3, 0, none⟩) 2 ([⟨0, 1, false⟩, ⟨0, 0, false⟩] : List Spt) true _ (M.rdOwn (Zne (i := 2) rfl) rfl rfl) (M.rdOwn (Zne (i := 1) rfl) rfl rfl) (by decide) (by decide) (by decide) (M.rdOwn (Zne (i := 0) rfl) rfl rfl) (by decide)) ?_
 clear T; rintro e wc ⟨rfl, hb⟩ ac T
 rw [st_cuts.1, show cutsE stkS [0, 2] ([⟨0, 1, false⟩, ⟨0, 0, false⟩] : List Spt).length = 0 from st_cuts.2] at T
 replace M := M.call hb; clear hb
 refine Zg5 T (Zq (Zrm rfl (T.e 0 rfl))) rfl (Ze 0 rfl rfl rfl) rfl (Ze 1 rfl rfl rfl) rfl (Za 1 rfl rfl) rfl (Za 1 rfl rfl) rfl ?_; clear T ac; intro ac T
 refine wpList_nil ?_
 replace T := T.pick [0, 1, 11, 12, 13, 14, 15, 16, 17, 18, 19] rfl
 replace M := M.mask [false, false, false] rfl
 replace M : Mem w noEx wc ((IPu2 ++ ISu4 ++ IWu6)) := M
 refine nm_then ?_
 refine Zsr ?_
 refine Zg8 (v2 := (.bool true)) (v5 := (.bool true)) T (Zq (Zrm rfl (T.e 9 rfl))) rfl (fun _ T => Zq (Zrq (rn_eql rfl (T.e 0 rfl) evc) (by simp))) rfl (Zm 0 rfl rfl) rfl (fun _ T => Zw (Zwy rfl rfl (T.e 0 rfl) rfl) (Zrm rfl (T.e 9 rfl))) rfl (fun _ T => Zw (Zwy rfl rfl (T.e 1 rfl) rfl) (Zrq (rn_eql rfl (T.e 0 rfl) evc) (by simp))) rfl (fun _ T => Zq (Zr1 rfl (T.e 2 rfl) rfl (T.e 0 rfl))) rfl (Zm 0 rfl rfl) rfl (fun _ T => Zw (Zwy rfl rfl (T.e 0 rfl) rfl) (Zrm rfl (T.e 11 rfl))) rfl ?_; clear T ac; intro ac T
 refine Zg8 (v1 := (.bool true)) (v5 := (.bool true)) T (Zw (Zwy rfl rfl (T.e 1 rfl) rfl) (Zrq (rn_eql rfl (T.e 0 rfl) evc) (by simp))) rfl (fun _ T => Zq (Zr1 rfl (T.e 2 rfl) rfl (T.e 0 rfl))) rfl (Zm 0 rfl rfl) rfl (fun _ T => Zw (Zwy rfl rfl (T.e 0 rfl) rfl) (Zrm rfl (T.e 13 rfl))) rfl (fun _ T => Zw (Zwy rfl rfl (T.e 1 rfl) rfl) (Zrq (rn_eql rfl (T.e 0 rfl) evc) (by simp))) rfl (fun _ T => Zq (Zr1 rfl (T.e 2 rfl) rfl (T.e 0 rfl))) rfl (Zm 0 rfl rfl) rfl (fun _ T => Zw (Zwy rfl rfl (T.e 0 rfl) rfl) (Zrm rfl (T.e 15 rfl))) rfl ?_; clear T ac; intro ac T
 refine Zg8 (v1 := (.bool true)) (v5 := (.bool true)) T (Zw (Zwy rfl rfl (T.e 1 rfl) rfl) (Zrq (rn_eql rfl (T.e 0 rfl) evc) (by simp))) rfl (fun _ T => Zq (Zr1 rfl (T.e 2 rfl) rfl (T.e 0 rfl))) rfl (Zm 0 rfl rfl) rfl (fun _ T => Zw (Zwy rfl rfl (T.e 0 rfl) rfl) (Zrm rfl (T.e 26 rfl))) rfl (fun _ T => Zw (Zwy rfl rfl (T.e 1 rfl) rfl) (Zrq (rn_eql rfl (T.e 0 rfl) evc) (by simp))) rfl (fun _ T => Zq (Zr1 rfl (T.e 2 rfl) rfl (T.e 0 rfl))) rfl (Zm 0 rfl rfl) rfl (fun _ T => Zw (Zwy rfl rfl (T.e 0 rfl) rfl) (Zrm rfl (T.e 26 rfl))) rfl ?_; clear T ac; intro ac T
 refine Zg7 (v1 := (.bool true)) T (Zw (Zwy rfl rfl (T.e 1 rfl) rfl) (Zrq (rn_eql rfl (T.e 0 rfl) evc) (by simp))) rfl (fun _ T => Zq (Zr1 rfl (T.e 2 rfl) rfl (T.e 0 rfl))) rfl (Zm 0 rfl rfl) rfl (fun _ T => Zw (Zwy rfl rfl (T.e 0 rfl) rfl) (Zrm rfl (T.e 28 rfl))) rfl (fun _ T => Zq (Zr1 rfl (T.e 1 rfl) rfl (T.e 0 rfl))) rfl (Zm 0 rfl rfl) rfl (fun _ T => Zw (Zwy rfl rfl (T.e 0 rfl) rfl) (Zrm rfl (T.e 40 rfl))) rfl ?_; clear T ac; intro ac T
 refine l_w (Zwy rfl rfl (T.e 1 rfl) rfl) ?_; intro K hK
 refine Zoc (first := []) (cap := []) T rfl rfl rfl rfl evf (.cons evc (.cons evc (.cons evc .nil))) Tryd.func20 rfl rfl ?_
 refine Calls.mono (spot8_any 0 0 true _) ?_
 clear T; rintro e wc ⟨rfl, hb⟩ ac T
 replace M := M.call hb; clear hb
 refine Zso hK _ _ ?_; clear hK K
 refine l_w (Zwy rfl rfl (T.e 2 rfl) rfl) ?_; intro K hK
 refine Zoc (first := []) (cap := []) T rfl rfl rfl rfl evf (.cons evc (.cons evc (.cons evc .nil))) Tryd.func20 rfl rfl ?_
 refine Calls.mono (spot8_any 3 0 false _) ?_
 clear T; rintro e wc ⟨rfl, hb⟩ ac T
 replace M := M.call hb; clear hb
 refine Zso hK _ _ ?_; clear hK K
 refine l_w (Zwy rfl rfl (T.e 3 rfl) rfl) ?_; intro K hK
 refine ow_bs (e := 63) [.int .i64 0, .int .i64 0, .bool true, .int .i64 3, .int .i64 0, .bool false] M T rfl rfl rfl rfl (.cons (T.e 1 rfl) (.cons (T.e 0 rfl) .nil)) (fun _ => by kernel_rfl) ?_; clear M T; intro g4 wc ac M T
 refine Zso hK _ _ ?_; clear hK K
 refine l_w (Zwy rfl rfl (T.e 4 rfl) rfl) ?_; intro K hK
 refine Zoc (first := []) (cap := []) T rfl rfl rfl rfl evf (.cons (T.e 3 rfl) (.cons (T.e 0 rfl) .nil)) Tryd.func19 rfl rfl ?_
 refine Calls.mono (sameSpots_any APu2 cPu2 ([⟨0, 0, true⟩, ⟨3, 0, false⟩] : List Spt) (some ⟨g4, 0, none⟩) 2 ([⟨0, 0, true⟩, ⟨3, 0, false⟩] : List Spt) _ (SAPu2.rd M (.cons _ (subL (subL (List.Sublist.refl _))))) (M.rdOwn (Zne (i := 0) rfl) rfl rfl) (by decide) (by decide)) ?_
 clear T; rintro e wc ⟨rfl, hb⟩ ac T
 replace M := M.call hb; clear hb
 rw [Zdt (@rfl (List Spt) ([⟨0, 0, true⟩, ⟨3, 0, false⟩] : List Spt))] at T
 refine Zso hK _ _ ?_; clear hK K
 refine Zg3 T (Zq (Zr1 rfl (T.e 5 rfl) rfl (T.e 0 rfl))) rfl (Zm 0 rfl rfl) rfl (fun _ T => Zw (Zwy rfl rfl (T.e 0 rfl) rfl) (Zrm rfl (T.e 45 rfl))) rfl ?_; clear T ac; intro ac T
 refine l_w (Zwy rfl rfl (T.e 1 rfl) rfl) ?_; intro K hK
 refine ow_bs (e := 3) [.int .i64 0, .int .i64 1, .int .i64 0] M T rfl rfl rfl rfl (.cons evc (.cons evc (.cons evc .nil))) (fun _ => by kernel_rfl) ?_; clear M T; intro g5 wc ac M T
 refine Zso hK _ _ ?_; clear hK K
 refine l_w (Zwy rfl rfl (T.e 2 rfl) rfl) ?_; intro K hK
 refine Zoc (first := []) (cap := []) T rfl rfl rfl rfl evf (.cons (T.e 1 rfl) (.cons (T.e 0 rfl) .nil)) Tryd.func25 rfl rfl ?_
 refine Calls.mono (sameInts_any _ _ _ _ _ _ ([0, 1, 0]) ([0, 1, 0]) _ (SASu4.rd M (.cons _ (.cons _ (subL (Zsq _ _))))) (M.rdOwn (Zne (i := 0) rfl) rfl rfl) (by decide) (by decide)) ?_
 clear T; rintro e wc ⟨rfl, hb⟩ ac T
 replace M := M.call hb; clear hb
 rw [Zdt (@rfl (List Int) [0, 1, 0])] at T
 refine Zso hK _ _ ?_; clear hK K
 refine Zg3 T (Zq (Zr1 rfl (T.e 3 rfl) rfl (T.e 0 rfl))) rfl (Zm 0 rfl rfl) rfl (fun _ T => Zw (Zwy rfl rfl (T.e 0 rfl) rfl) (Zrm rfl (T.e 47 rfl))) rfl ?_; clear T ac; intro ac T
 refine l_w (Zwy rfl rfl (T.e 1 rfl) rfl) ?_; intro K hK
 refine ow_bs (e := 3) [.int .i64 2, .int .i64 1, .int .i64 1] M T rfl rfl rfl rfl (.cons evc (.cons evc (.cons evc .nil))) (fun _ => by kernel_rfl) ?_; clear M T; intro g6 wc ac M T
 refine Zso hK _ _ ?_; clear hK K
 refine l_w (Zwy rfl rfl (T.e 2 rfl) rfl) ?_; intro K hK
 refine Zoc (first := []) (cap := []) T rfl rfl rfl rfl evf (.cons (T.e 1 rfl) (.cons (T.e 0 rfl) .nil)) Tryd.func25 rfl rfl ?_
 refine Calls.mono (sameInts_any _ _ _ _ _ _ ([2, 1, 1]) ([2, 1, 1]) _ (SAWu6.rd M (.cons _ (.cons _ (.cons _ (Zsq _ _))))) (M.rdOwn (Zne (i := 0) rfl) rfl rfl) (by decide) (by decide)) ?_
 clear T; rintro e wc ⟨rfl, hb⟩ ac T
 replace M := M.call hb; clear hb
 rw [Zdt (@rfl (List Int) [2, 1, 1])] at T
 refine Zso hK _ _ ?_; clear hK K
 refine Zg2 T (Zq (Zr1 rfl (T.e 3 rfl) rfl (T.e 0 rfl))) rfl (Za 0 rfl rfl) rfl ?_; clear T ac; intro ac T
 refine wpList_nil ?_
 replace T := T.pick [0] rfl
 replace M := M.mask [false, false, false] rfl
 replace M : Mem w noEx wc ((IPu2 ++ ISu4 ++ IWu6)) := M
 refine Znr ?_
 refine rt_1 T rfl (T.e 0 rfl) ?_
 exact ⟨rfl, M.below⟩
section
variable {df : List Deferred} {P : Program} {op : Oper} {a : Act} {K : Act → World → Prop} {Q : Exit → Act → World → Prop} {w0 w : World} {ex : Nat → Prop} {L : List (Nat × BA)} {E : List (Nat × Value)} {t n : Nat}
end
def szE (s : Sk) (k : Int) (t : Bool) : Int := if skErr s ≠ 0 then skErr s else if ¬ (0 ≤ k ∧ k ≤ (s.ps.length : Int) - 1) then 3 else if (t && (s.ps.getD k.toNat default).gr) = true then 8 else 0
def szL (s : Sk) (k : Int) (t su : Bool) : Int := if szE s k t ≠ 0 then 0 else sizeL (cutA s su) (cutC s su) (s.ps.getD k.toNat default) t
def szW (s : Sk) (k : Int) (t su : Bool) : Int := if szE s k t ≠ 0 then 0 else sizeW (cutA s su) (cutC s su) (s.ps.getD k.toNat default) t
theorem Size_any (s : Sk) (A : Option Addr) (d : Nat) (k : Int) (t su : Bool)  (w : World) (hA : Rd w w.heap.size 4 A s.ps.length (pc s.ps)) (nA : s.ps.length ≤ 1000000)  :
   Calls Tryd.prog 17 #[.agg #[.int .i64 s.lo, .int .i64 s.wi, .int .i64 s.a0, .int .i64 s.a1, .int .i64 s.c0, .int .i64 s.c1, .slice A s.ps.length d], .int .i64 k, .bool t, .bool su] w fun e w' => e = .returned (.tuple #[.int .i64 (szL s k t su), .int .i64 (szW s k t su), .int .i64 (szE s k t)]) ∧ Below w.heap.size w w' := by
 obtain ⟨bA, oA, SA⟩ := Sp.old hA
 refine Zpx noEx Tryd.func17 rfl 48 rfl [.agg #[.int .i64 s.lo, .int .i64 s.wi, .int .i64 s.a0, .int .i64 s.a1, .int .i64 s.c0, .int .i64 s.c1, .slice A s.ps.length d], .int .i64 k, .bool t, .bool su] rfl rfl (Mem.init w _) ?_
 intro ac wc T M
 refine Zsr ?_
 refine Zl2 ?_
 refine Zob M T rfl rfl rfl rfl (T.e 0 rfl) rfl ?_; clear M T; intro g1 wc ac M T
 refine Zg3 T (Zq (Zra rfl evc)) rfl (Zc rfl) rfl (Zc rfl) rfl ?_; clear T ac; intro ac T
 replace T := T.pick [3, 5, 6, 7] rfl
 refine Zln ?_
 refine wp_seq ?_
 refine Zsr ?_
 refine lq T (Zrr (Mem.nth M 0 rfl) rfl (T.e 0 rfl) rfl) ?_; clear T ac; intro ac T
 refine Zl2 ?_
 refine Zoc (first := []) (cap := []) T rfl rfl rfl rfl evf (.cons (T.e 0 rfl) .nil) Tryd.func16 rfl rfl ?_
 refine Calls.mono (skCheck_any s A d _ (SA.rd M (Zz9 _)) (by omega)) ?_
 clear T; rintro e wc ⟨rfl, hb⟩ ac T
 replace M := M.call hb; clear hb
 refine lq T (Zra rfl (T.e 0 rfl)) ?_; clear T ac; intro ac T
 replace T := T.pick [0, 3, 4, 5, 6] rfl
 refine Zln ?_
 refine Zsr ?_
 refine Zg2 T (Zq (Zrm rfl (T.e 0 rfl))) rfl (fun _ T => Zq (rn_neq rfl (T.e 0 rfl) evc)) rfl ?_; clear T ac; intro ac T
 replace T := T.pick [0, 2, 3, 4, 5, 6] rfl
 refine Zln ?_
 refine wp_ifn (T.e 0 rfl) ?_ ?_
 ·intro h1
  refine Zsr ?_
  refine Zg4 T (Zq (Zrm rfl (T.e 1 rfl))) rfl (Zc rfl) rfl (Zc rfl) rfl (Za 2 rfl rfl) rfl ?_; clear T ac; intro ac T
  refine wpList_nil ?_
  replace T := T.pick [0, 1, 2] rfl
  replace M := M.mask [false] rfl
  refine Znr ?_
  refine Zrt ?_
  refine rt_3 T rfl (T.e 2 rfl) (T.e 1 rfl) (T.e 0 rfl) ?_
  have e9 : szE s k t = skErr s := if_pos (by omega)
  have e8 : szL s k t su = 0 := if_pos (by omega)
  have e7 : szW s k t su = 0 := if_pos (by omega)
  rw [e9, e8, e7]
  exact ⟨rfl, M.below⟩
 intro h1
 have hsg := skErr_iff.1 (show skErr s = 0 by omega)
 obtain ⟨hb1, hb2, -, -, -, -⟩ := hsg
 have hsg := skErr_iff.1 (show skErr s = 0 by omega)
 refine Zsk ?_
 refine wp_seq ?_
 refine Zsr ?_
 refine Zg5 (v2 := (.pointer (some ⟨g1, 6, none⟩))) T (Zq (Zrm rfl (T.e 3 rfl))) rfl (Zf 6 3 rfl rfl) rfl (Zo M 0 0 rfl rfl rfl rfl) rfl (Zl Tryd.underlying27 0 rfl rfl) rfl (fun _ T => Zq (rn_sub rfl (T.e 0 rfl) evc (by omega))) rfl ?_; clear T ac; intro ac T
 refine Zl2 ?_
 refine Zoc (first := []) (cap := []) T rfl rfl rfl rfl evf (.cons (T.e 4 rfl) (.cons evc (.cons (T.e 0 rfl) .nil))) Tryd.func45 rfl rfl ?_
 refine Calls.mono (sin_any k 0 (((s.ps.length : Nat) : Int) - 1) _) ?_
 clear T; rintro e wc ⟨rfl, hb⟩ ac T
 replace M := M.call hb; clear hb
 refine lq T (rn_not rfl (T.e 0 rfl)) ?_; clear T ac; intro ac T
 replace T := T.pick [0, 9, 10, 11, 12] rfl
 refine Zln ?_
 refine wp_cond_split (T.e 0 rfl) ?_ ?_
 ·intro h2
  (have h2' := h2; try simp only [Zb1, Zb2, Zb3, Zb4, Zb5, Zb6, Zb7] at h2')
  have hk9 : ¬ (0 ≤ k ∧ k ≤ (s.ps.length : Int) - 1) := by simp [withinB] at h2; omega
  refine Zsr ?_
  refine Zg3 T (Zq (Zra rfl evc)) rfl (Zc rfl) rfl (Zc rfl) rfl ?_; clear T ac; intro ac T
  refine wpList_nil ?_
  replace T := T.pick [0, 1, 2] rfl
  replace M := M.mask [false] rfl
  refine Znr ?_
  refine Zrt ?_
  refine rt_3 T rfl (T.e 2 rfl) (T.e 1 rfl) (T.e 0 rfl) ?_
  have e9 : szE s k t = 3 := (if_neg (by omega)).trans (if_pos hk9)
  have e8 : szL s k t su = 0 := if_pos (by omega)
  have e7 : szW s k t su = 0 := if_pos (by omega)
  rw [e9, e8, e7]
  exact ⟨rfl, M.below⟩
 intro h2
 (have h2' := h2; try simp only [Zb1, Zb2, Zb3, Zb4, Zb5, Zb6, Zb7] at h2')
 have hk9 : ¬ ¬ (0 ≤ k ∧ k ≤ (s.ps.length : Int) - 1) := by simp [withinB] at h2; omega
 obtain ⟨k9, hk8⟩ : ∃ q : Nat, k = (q : Int) := ⟨k.toNat, by omega⟩
 obtain ⟨p, hkp, -⟩ := pc_next (l := s.ps) (k := k9) (by omega)
 have hpe : s.ps.getD k.toNat default = p := by rw [List.getD_eq_getElem?_getD, show k.toNat = k9 by omega, hkp]; rfl
 have hpg := hsg.ps p (List.mem_of_getElem? hkp)
 refine Zsk ?_
 refine wp_seq ?_
 refine cut_seq (fun ac wc => Tm ac 48 [(1, .int .i64 k), (2, .bool t), (3, .bool su), (4, .pointer (some ⟨g1, 0, none⟩)), (32, .bool (t && p.gr))] ∧ Mem w noEx wc [(g1, .cells [.int .i64 s.lo, .int .i64 s.wi, .int .i64 s.a0, .int .i64 s.a1, .int .i64 s.c0, .int .i64 s.c1, .slice A s.ps.length d])]) ?_ ?_
 ·refine wp_region_lit ?_
  refine Zg2 T (Zq (Zrm rfl (T.e 3 rfl))) rfl (Zm 0 rfl rfl) rfl ?_; clear T ac; intro ac T
  rcases Bool.eq_false_or_eq_true t with h3 | h3
  ·refine Zg7 (v1 := (.pointer (some ⟨g1, 6, none⟩))) T (Zw (Zwy rfl rfl (T.e 0 rfl) h3) (Zrf (off := 6) rfl (T.e 3 rfl) (fun _ _ _ => by kernel_rfl))) rfl (fun _ T => Zw (Zwy rfl rfl (T.e 1 rfl) h3) (Zro (Mem.nth M 0 rfl) rfl (T.e 0 rfl) rfl)) rfl (fun _ T => Zw (Zwy rfl rfl (T.e 2 rfl) h3) (Zrm rfl (T.e 6 rfl))) rfl (fun _ T => Zw (Zwy rfl rfl (T.e 3 rfl) h3) (Zri (size := 4) k9 rfl (T.e 1 rfl) (T.e 0 rfl) ⟨_, Tryd.underlying27, by kernel_rfl⟩ hk8 (by omega) (SA.at0 (by omega)))) rfl (fun _ T => Zw (Zwy rfl rfl (T.e 4 rfl) h3) (Zrf (off := 2) rfl (T.e 0 rfl) (fun _ _ _ => by kernel_rfl))) rfl (fun _ T => Zw (Zwy rfl rfl (T.e 5 rfl) h3) (rn_cell (Sp.pcC2 SA M (Zz9 _) hkp) rfl (T.e 0 rfl))) rfl (fun _ T => Zq (Zr1 rfl (T.e 6 rfl) h3 (T.e 0 rfl))) rfl ?_; clear T ac; intro ac T
   refine wpList_nil ?_
   replace T := T.pick [0, 10, 11, 12, 13] rfl
   exact ⟨(T.pick (E' := [(1, .int .i64 k), (2, .bool t), (3, .bool su), (4, .pointer (some ⟨g1, 0, none⟩)), (32, .bool p.gr)]) [2, 3, 4, 1, 0] rfl).as (by (try rw [show t = true from h3]); (try rfl)), M.mask [true] rfl⟩
  refine Zg7 T (Zp (Zwn rfl rfl (T.e 0 rfl) h3)) rfl (fun _ T => Zp (Zwn rfl rfl (T.e 1 rfl) h3)) rfl (fun _ T => Zp (Zwn rfl rfl (T.e 2 rfl) h3)) rfl (fun _ T => Zp (Zwn rfl rfl (T.e 3 rfl) h3)) rfl (fun _ T => Zp (Zwn rfl rfl (T.e 4 rfl) h3)) rfl (fun _ T => Zp (Zwn rfl rfl (T.e 5 rfl) h3)) rfl (fun _ T => Zq (Zr0 rfl (T.e 6 rfl) h3 evc)) rfl ?_; clear T ac; intro ac T
  refine wpList_nil ?_
  replace T := T.pick [0, 10, 11, 12, 13] rfl
  exact ⟨(T.pick (E' := [(1, .int .i64 k), (2, .bool t), (3, .bool su), (4, .pointer (some ⟨g1, 0, none⟩)), (32, .bool false)]) [2, 3, 4, 1, 0] rfl).as (by (try rw [show t = false from h3]); (try rfl)), M.mask [true] rfl⟩
 clear T M
 rintro ac wc ⟨T, M⟩
 refine wp_cond_split (T.e 4 rfl) ?_ ?_
 ·intro h4
  (have h4' := h4; try simp only [Zb1, Zb2, Zb3, Zb4, Zb5, Zb6, Zb7] at h4')
  refine Zsr ?_
  refine Zg3 T (Zq (Zra rfl evc)) rfl (Zc rfl) rfl (Zc rfl) rfl ?_; clear T ac; intro ac T
  refine wpList_nil ?_
  replace T := T.pick [0, 1, 2] rfl
  replace M := M.mask [false] rfl
  refine Znr ?_
  refine Zrt ?_
  refine rt_3 T rfl (T.e 2 rfl) (T.e 1 rfl) (T.e 0 rfl) ?_
  have e9 : szE s k t = 8 := (if_neg (by omega)).trans ((if_neg hk9).trans (if_pos (by rw [hpe]; simp_all)))
  have e8 : szL s k t su = 0 := if_pos (by omega)
  have e7 : szW s k t su = 0 := if_pos (by omega)
  rw [e9, e8, e7]
  exact ⟨rfl, M.below⟩
 intro h4
 (have h4' := h4; try simp only [Zb1, Zb2, Zb3, Zb4, Zb5, Zb6, Zb7] at h4')
 refine Zsk ?_
 refine wp_seq ?_
 refine Zgs M (M.mask [true] rfl) 15 (by kernel_rfl) rfl (by kernel_rfl) ?_
 clear M; intro wc M
 refine gq T 0 1 rfl (fun B w' hD hl hS => (Zrr (Mem.nth (show Mem w noEx w' _ from hS) 0 rfl) rfl (T.e 3 rfl) rfl)) ?_; clear T ac; intro ac T
 refine gq T 1 3 rfl (fun _ _ _ _ _ => (Zrm rfl (T.e 3 rfl))) ?_; clear T ac; intro ac T
 refine gq (v := (.pointer (some ⟨g1, 6, none⟩))) T 3 11 rfl (fun _ _ _ _ _ => (Zrf (off := 6) rfl (T.e 5 rfl) (fun _ _ _ => by kernel_rfl))) ?_; clear T ac; intro ac T
 refine gq T 4 27 rfl (fun B w' hD hl hS => (Zro (Mem.nth (show Mem w noEx w' _ from hS) 0 rfl) rfl (T.e 0 rfl) rfl)) ?_; clear T ac; intro ac T
 refine gq T 5 59 rfl (fun _ _ _ _ _ => (Zrm rfl (T.e 4 rfl))) ?_; clear T ac; intro ac T
 refine gq T 6 123 rfl (fun _ _ _ _ _ => (Zri (size := 4) k9 rfl (T.e 1 rfl) (T.e 0 rfl) ⟨_, Tryd.underlying27, by kernel_rfl⟩ hk8 (by omega) (SA.at0 (by omega)))) ?_; clear T ac; intro ac T
 refine gq (v := (.agg #[.int .i64 p.l, .int .i64 p.w, .bool p.gr, .int .i64 p.pa])) T 7 251 rfl (fun B w' hD hl hS => (rn_rowat (Sp.pcR SA (show Mem w noEx w' _ from hS) (Zz9 _) hkp) rfl (T.e 0 rfl) rfl)) ?_; clear T ac; intro ac T
 refine gq T 8 507 rfl (fun _ _ _ _ _ => (Zrm rfl (T.e 8 rfl))) ?_; clear T ac; intro ac T
 refine gw 2 511 ?_; intro K hK
 refine Zoc (first := []) (cap := []) T rfl rfl rfl rfl evf (.cons (T.e 7 rfl) (.cons (T.e 6 rfl) .nil)) Tryd.func33 rfl rfl ?_
 refine Calls.mono (cut_any s A d su _) ?_
 clear T; rintro e wc ⟨gau3, gcu3, rfl, N⟩ ac T
 obtain ⟨a, hae⟩ : ∃ q, q = cutA s su := ⟨_, rfl⟩
 obtain ⟨c, hce⟩ : ∃ q, q = cutC s su := ⟨_, rfl⟩
 rw [← hae, ← hce] at N
 obtain ⟨ha, hc⟩ := cut_bd hsg su
 rw [← hae] at ha
 rw [← hce] at hc
 replace M := M.join N; clear N
 replace M := M.mask [true, true, true] rfl
 refine Zso hK _ _ (M.mask [false, false, true] rfl) ?_; clear hK K
 refine gw 9 1023 ?_; intro K hK
 refine Zoc (first := []) (cap := []) T rfl rfl rfl rfl evf (.cons (T.e 0 rfl) (.cons (T.e 2 rfl) (.cons (T.e 1 rfl) .nil))) Tryd.func48 rfl rfl ?_
 refine Calls.mono (size_any s A d a c gau3 gcu3 p t _ (by omega) (by omega) hpg (M.nth 0 rfl) (M.nth 1 rfl)) ?_
 clear T; rintro e wc ⟨rfl, hb⟩ ac T
 replace M := M.call hb; clear hb
 refine Zso hK _ _ (M.mask [false, false, true] rfl) ?_; clear hK K
 refine gq T 10 2047 rfl (fun _ _ _ _ _ => (Zrm rfl (T.e 0 rfl))) ?_; clear T ac; intro ac T
 refine gq T 11 4095 rfl (fun _ _ _ _ _ => (Zre rfl (T.e 0 rfl) rfl)) ?_; clear T ac; intro ac T
 refine gq T 12 8191 rfl (fun _ _ _ _ _ => (Zre rfl (T.e 1 rfl) rfl)) ?_; clear T ac; intro ac T
 refine gq T 13 16383 rfl (fun _ _ _ _ _ => (Zra rfl (T.e 1 rfl))) ?_; clear T ac; intro ac T
 refine gq T 14 32767 rfl (fun _ _ _ _ _ => (Zra rfl (T.e 1 rfl))) ?_; clear T ac; intro ac T
 refine Zgd (by kernel_rfl) ?_
 replace T := T.pick [0, 1] rfl
 replace M := M.mask [false, false, false] rfl
 refine nm_then ?_
 refine Zsr ?_
 refine Zg2 T (Zq (Zrm rfl (T.e 1 rfl))) rfl (Zm 1 rfl rfl) rfl ?_; clear T ac; intro ac T
 refine l_q (v := (.int .i64 (sizeL a c p t))) (T.pick [0, 1, 2] rfl) rfl rfl rfl rfl (Zra rfl (T.e 1 rfl)) ?_; clear T ac; intro ac T
 refine l_q (v := (.int .i64 (sizeW a c p t))) (T.pick [0, 1, 2] rfl) rfl rfl rfl rfl (Zra rfl (T.e 1 rfl)) ?_; clear T ac; intro ac T
 refine lq T (Zra rfl evc) ?_; clear T ac; intro ac T
 replace T := T.pick [0, 1, 2] rfl
 refine Zln ?_
 refine wp_ret ?_
 refine rt_3 T rfl (T.e 2 rfl) (T.e 1 rfl) (T.e 0 rfl) ?_
 have e9 : szE s k t = 0 := (if_neg (by omega)).trans ((if_neg hk9).trans (if_neg (by rw [hpe]; simp_all)))
 have e8 : szL s k t su = sizeL a c p t := by unfold szL; rw [if_neg (by omega), hpe, ← hae, ← hce]
 have e7 : szW s k t su = sizeW a c p t := by unfold szW; rw [if_neg (by omega), hpe, ← hae, ← hce]
 rw [e9, e8, e7]
 exact ⟨rfl, M.below⟩
theorem kn_chk : skErr { stkS with lo := 13 } = 1 ∧ skErr { stkS with a0 := 2, a1 := 1 } = 5 ∧ skErr { stkS with ps := List.replicate 6 ⟨0, 0, false, 0⟩ } = 6 ∧ skErr { stkS with ps := [⟨3, 2, false, 4⟩, ⟨2, 3, true, 0⟩, ⟨4, 1, false, 0⟩] } = 1 := by decide +kernel
theorem kn_size : szE stkS 0 false = 0 ∧ szL stkS 0 false true = 4 ∧ szW stkS 0 false true = 2 ∧ szE stkS 0 true = 0 ∧ szL stkS 0 true true = 3 ∧ szW stkS 0 true true = 3 ∧ szL stkS 0 false false = 3 ∧ szW stkS 0 false false = 2 ∧ szE stkS 1 true = 8 ∧ szL stkS 1 true true = 0 ∧ szW stkS 1 true true = 0 := by decide +kernel
theorem plan_is {s : Sk} {g : List Int} {su : Bool} {l : List Spt} {e : Int} (h : planC s g su = (l, e)) : planL s g su = l ∧ planE s g su = e := by
 have h2 := planC_eq s g su
 rw [h] at h2
 injection h2 with h3 h4
 exact ⟨h3.symm, h4.symm⟩
theorem kn_plan0 : planL stkS [1, 0] true = [⟨0, 0, false⟩, ⟨3, 0, true⟩] ∧ planE stkS [1, 0] true = 0 := plan_is (by decide +kernel)
theorem kn_plan1 : planL stkS [0, 2] true = [⟨0, 1, false⟩, ⟨0, 0, false⟩] ∧ planE stkS [0, 2] true = 0 := plan_is (by decide +kernel)
theorem kn_plan2 : planL stkS [0, 1, 2] true = [] ∧ planE stkS [0, 1, 2] true = 11 := plan_is (by decide +kernel)
theorem kn_plan3 : planL stkS [0, 1, 2] false = [⟨2, 1, false⟩, ⟨0, 0, false⟩, ⟨2, 0, false⟩] ∧ planE stkS [0, 1, 2] false = 0 := plan_is (by decide +kernel)
theorem kn_plan4 : planL stkS [0, 0] true = [] ∧ planE stkS [0, 0] true = 4 := plan_is (by decide +kernel)
theorem can_is {s : Sk} {su b : Bool} {L : List Pt} (h5 : L.length ≤ 5) (h : canSC s su L = b) : canS s su L = b := by rw [← canSC_eq h5]; exact h
theorem kn_fit0 : fitV stkS [0, 2] = 1 ∧ lstE stkS [0, 2] = 0 := by
 have hE : lstE stkS [0, 2] = 0 := by decide +kernel
 refine ⟨?_, hE⟩
 unfold fitV
 rw [if_neg (by rw [hE]; decide), if_pos (can_is (by decide +kernel) (by decide +kernel))]
theorem kn_fit1 : fitV stkS [0, 1, 2] = 3 ∧ lstE stkS [0, 1, 2] = 0 := by
 have hE : lstE stkS [0, 1, 2] = 0 := by decide +kernel
 refine ⟨?_, hE⟩
 unfold fitV
 rw [if_neg (by rw [hE]; decide), if_neg (Bool.eq_false_iff.1 (can_is (by decide +kernel) (by decide +kernel))), if_pos (can_is (by decide +kernel) (by decide +kernel))]
theorem kn_fit2 : fitV { stkS with lo := 5 } [0, 1, 2] = 2 ∧ lstE { stkS with lo := 5 } [0, 1, 2] = 0 := by
 have hE : lstE { stkS with lo := 5 } [0, 1, 2] = 0 := by decide +kernel
 refine ⟨?_, hE⟩
 unfold fitV
 rw [if_neg (by rw [hE]; decide), if_neg (Bool.eq_false_iff.1 (can_is (by decide +kernel) (by decide +kernel))), if_neg (Bool.eq_false_iff.1 (can_is (by decide +kernel) (by decide +kernel)))]
theorem cuts_is {s : Sk} {g : List Int} {sp : List Spt} {su b : Bool} (hE : cutsE s g sp.length = 0) (h : cutsB (cutA s su) (cutC s su) s.lo s.wi (gP s g) sp = b) : cutsV s g sp su = b := by
 unfold cutsV
 rw [if_pos hE, h]
theorem cutsB_is {a c lo wi : Int} {l : List Pt} {sp : List Spt} {L : List Ld} {b : Bool} (h : plP a c lo wi [] l sp = some L) (h2 : sawC L.length.succ L ⟨0, 0, lo, wi⟩ = b) : cutsB a c lo wi l sp = b := by
 unfold cutsB
 rw [h]
 show sawB L _ = b
 rw [← sawC_eq _ _ _ (Nat.lt_succ_self _)]
 exact h2
theorem kn_cuts0 : cutsV stkS [0, 2] [⟨0, 0, false⟩, ⟨0, 1, false⟩] true = false ∧ cutsE stkS [0, 2] 2 = 0 := by
 have hE : cutsE stkS [0, 2] 2 = 0 := by decide +kernel
 refine ⟨cuts_is hE ?_, hE⟩
 unfold cutsB
 rw [show plP (cutA stkS true) (cutC stkS true) stkS.lo stkS.wi [] (gP stkS [0, 2]) [⟨0, 0, false⟩, ⟨0, 1, false⟩] = none from by decide +kernel]
theorem kn_cuts1 : cutsV stkS [0] [⟨3, 0, false⟩] true = false ∧ cutsE stkS [0] 1 = 0 := by
 have hE : cutsE stkS [0] 1 = 0 := by decide +kernel
 refine ⟨cuts_is hE ?_, hE⟩
 unfold cutsB
 rw [show plP (cutA stkS true) (cutC stkS true) stkS.lo stkS.wi [] (gP stkS [0]) [⟨3, 0, false⟩] = none from by decide +kernel]
theorem kn_cuts2 : cutsV stkS [0] [⟨2, 1, false⟩] true = true ∧ cutsE stkS [0] 1 = 0 := by
 have hE : cutsE stkS [0] 1 = 0 := by decide +kernel
 exact ⟨cuts_is hE (cutsB_is (L := [⟨2, 1, 6, 3, 0⟩]) (by decide +kernel) (by decide +kernel)), hE⟩
theorem sheets_is {s : Sk} {su : Bool} {l : List Int} {n : Nat} (h0 : skErr s = 0) (h5 : s.ps.length ≤ 5) (h : shFC s su = some (l, n)) : shL s su = l ∧ shN s su = n ∧ shE s su = 0 := by
 rw [shFC_eq h5] at h
 have hE : shE s su = 0 := by unfold shE; rw [if_neg (by rw [h0]; decide), h]; rfl
 exact ⟨by unfold shL; rw [if_pos hE, h]; rfl, by unfold shN; rw [if_pos hE, h]; rfl, hE⟩
theorem kn_sh0 : shL stkS true = [0, 0, 1] ∧ shN stkS true = 2 ∧ shE stkS true = 0 := sheets_is st_err (by decide) (by decide +kernel)
theorem kn_sh1 : shL stkS false = [0, 0, 0] ∧ shN stkS false = 1 ∧ shE stkS false = 0 := sheets_is st_err (by decide) (by decide +kernel)
theorem kn_scr : scrV stkS true = 14 ∧ scrV stkS false = 2 := by
 unfold scrV
 rw [if_neg (by rw [kn_sh0.2.2]; decide), if_neg (by rw [kn_sh1.2.2]; decide), kn_sh0.2.1, kn_sh1.2.1]
 decide +kernel
theorem kn_bnd : bndV stkS true = 2 ∧ bndV stkS false = 1 := by decide +kernel
theorem kn_spr0 : sprV stkS ⟨1, 1, false, 0⟩ true = 2 ∧ sprE stkS ⟨1, 1, false, 0⟩ true = 0 := by
 have hp : ptErr ⟨1, 1, false, 0⟩ = 0 := by decide +kernel
 have hE : sprE stkS ⟨1, 1, false, 0⟩ true = 0 := by unfold sprE; rw [if_neg (by rw [st_err]; decide), if_neg (by rw [hp]; decide), st_sh.2]
 refine ⟨?_, hE⟩
 unfold sprV
 rw [if_neg (by rw [hE]; decide), st_sh.1]
 have e : spareR stkS ⟨1, 1, false, 0⟩ true 2 (5 - stkS.ps.length) stkS.ps = 5 := by
  show spareR stkS ⟨1, 1, false, 0⟩ true 2 2 stkS.ps = 5
  have y1 : okP stkS true (stkS.ps ++ [⟨1, 1, false, 0⟩]) 2 = true := by
   rw [okP_iff]
   refine ColP.of_will (l := [0, 0, 1, 1]) (by decide) (by decide) ?_
   have hw : willC (skP stkS (stkS.ps ++ [⟨1, 1, false, 0⟩])) true [0, 0, 1, 1] 2 = true := by decide +kernel
   rw [willC_eq (by decide)] at hw
   exact willB_iff.1 hw
  have y2 : okP stkS true (stkS.ps ++ [⟨1, 1, false, 0⟩] ++ [⟨1, 1, false, 0⟩]) 2 = true := by
   rw [okP_iff]
   refine ColP.of_will (l := [0, 0, 1, 1, 1]) (by decide) (by decide) ?_
   have hw : willC (skP stkS (stkS.ps ++ [⟨1, 1, false, 0⟩] ++ [⟨1, 1, false, 0⟩])) true [0, 0, 1, 1, 1] 2 = true := by decide +kernel
   rw [willC_eq (by decide)] at hw
   exact willB_iff.1 hw
  rw [spareR, if_pos y1, spareR, if_pos y2]
  rfl
 rw [e]
 rfl
theorem kn_spr1 : sprV stkS ⟨6, 3, false, 0⟩ true = 0 ∧ sprE stkS ⟨6, 3, false, 0⟩ true = 0 := by
 have hp : ptErr ⟨6, 3, false, 0⟩ = 0 := by decide +kernel
 have hE : sprE stkS ⟨6, 3, false, 0⟩ true = 0 := by unfold sprE; rw [if_neg (by rw [st_err]; decide), if_neg (by rw [hp]; decide), st_sh.2]
 refine ⟨?_, hE⟩
 unfold sprV
 rw [if_neg (by rw [hE]; decide), st_sh.1]
 have e : spareR stkS ⟨6, 3, false, 0⟩ true 2 (5 - stkS.ps.length) stkS.ps = 3 := by
  show spareR stkS ⟨6, 3, false, 0⟩ true 2 2 stkS.ps = 3
  have y1 : ¬ okP stkS true (stkS.ps ++ [⟨6, 3, false, 0⟩]) 2 = true := by
   rw [okP_iff]
   intro h
   have := h.areas (by
    have : ∀ p ∈ stkS.ps ++ [⟨6, 3, false, 0⟩], ptErr p = 0 := by decide +kernel
    exact fun p hp => ptErr_iff.1 (this p hp)) (by decide) (by decide) (by decide) (by decide)
   revert this
   decide +kernel
  rw [spareR, if_neg y1]
  rfl
 rw [e]
 rfl
end Go.Proofs.YtaikhendogcflaaDoor


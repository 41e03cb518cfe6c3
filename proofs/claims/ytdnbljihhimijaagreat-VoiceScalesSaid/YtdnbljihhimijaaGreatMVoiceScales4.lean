/-
  Walks of functions, and plain laws (texts put together). No condition.
-/
import Derived.RangeFuncNested
import Derived.RangeFuncBound
import Derived.RangeFuncCalls
import Derived.RangeFuncLeaves
import Derived.Shelf.Abstract
import Derived.Shelf.RegionOpen
import Derived.OwnWalkIn
import Derived.TacticsInMore
import Derived.LoopNIn
import Derived.LoopIn
import Derived.Scope
import Derived.WalkMore
import Derived.Test.YtdnbljihhimijaaGreatMVoiceScales1
import Derived.Test.YtdnbljihhimijaaGreatMVoiceScales2
import Derived.Test.YtdnbljihhimijaaGreatMVoiceScales3
set_option maxRecDepth 100000
set_option maxHeartbeats 1000000
set_option linter.unusedSimpArgs false
set_option linter.unusedVariables false
namespace Go.Proofs.YtdnbljihhimijaaGreat
open Go.RowKit
theorem notes5_any (l : Lw) (A : Option Addr) (c : Nat) (LL : List LS)  (w : World) (hA : Rd w w.heap.size 1 A LL.length (lsC LL)) (hE : ElsS w LL) (nL : LL.length ≤ 1000000) (nE : ∀ x ∈ LL, x.1.length ≤ 1000000)  :
   Calls Tryz.prog 93 #[.agg #[Zi l.first, Zi l.step, Zi l.span, Zi l.press, .slice A LL.length c]] w fun e w' => e = .returned (Zi ((notesP (rowsOf LL) : Nat) : Int)) ∧ Below w.heap.size w w' := by
 obtain ⟨bA, oA, SA⟩ := Sp.old hA
 refine Zpx noEx Tryz.func93 rfl 12 rfl [.agg #[Zi l.first, Zi l.step, Zi l.span, Zi l.press, .slice A LL.length c]] rfl rfl (Mem.init w _) ?_
 intro ac wc T M
 refine Zsr ?_
 refine Zl2 ?_
 refine Zob M T rfl rfl rfl rfl (T.e 0 rfl) rfl ?_; clear M T; intro g1 wc ac M T
 refine lq T (Zra rfl evc) ?_; clear T ac; intro ac T
 replace T := T.pick [1] rfl
 refine Zln ?_
 refine wp_seq ?_
 refine Zsr ?_
 refine Zg4 (v1 := (.pointer (some ⟨g1, 4, none⟩))) T (Zq (Zrf (off := 4) rfl (T.e 0 rfl) (fun _ _ _ => by kernel_rfl))) rfl (Zo M 0 0 rfl rfl rfl rfl) rfl (Zl Tryz.underlying62 0 rfl rfl) rfl (fun _ T => Zq (rn_eql rfl (T.e 0 rfl) evc)) rfl ?_; clear T ac; intro ac T
 replace T := T.pick [0, 4] rfl
 refine Zln ?_
 refine wp_if (T.e 0 rfl) ?_ ?_
 ·intro h1
  refine Zsr ?_
  refine lq T (Zra rfl evc) ?_; clear T ac; intro ac T
  refine wpList_nil ?_
  replace T := T.pick [0] rfl
  replace M := M.mask [false] rfl
  refine Znr ?_
  refine Zrt ?_
  refine rt_1 T rfl (T.e 0 rfl) ?_
  exact ⟨ret_int (by rw [List.eq_nil_of_length_eq_zero (l := LL) (by omega)]; rfl), M.below⟩
 intro h1
 obtain ⟨⟨x0, B0, d0⟩, hk0⟩ : ∃ x, LL[0]? = some x := ⟨_, List.getElem?_eq_getElem (by omega)⟩
 obtain ⟨bs0, os0, Ss0⟩ := Sp.old (hE _ (List.mem_of_getElem? hk0))
 dsimp only at Ss0
 have nx0 := nE _ (List.mem_of_getElem? hk0)
 dsimp only at nx0
 refine Zsk ?_
 refine Zsr ?_
 refine Zg6 (v1 := (.pointer (some ⟨g1, 4, none⟩))) (v4 := (.slice B0 x0.length d0)) T (Zq (Zrf (off := 4) rfl (T.e 1 rfl) (fun _ _ _ => by kernel_rfl))) rfl (Zo M 0 0 rfl rfl rfl rfl) rfl (fun _ T => Zq (Zri (size := 1) 0 rfl (T.e 0 rfl) evc ⟨_, Tryz.underlying62, by kernel_rfl⟩ rfl (by omega) (SA.at0 (by omega)))) rfl (fun _ T => Zq (rn_cell (Sp.ls0 SA M (Zz9 _) hk0) rfl (T.e 0 rfl))) rfl (Zl Tryz.underlying24 0 rfl rfl) rfl (Za 0 rfl rfl) rfl ?_; clear T ac; intro ac T
 refine wpList_nil ?_
 replace T := T.pick [0] rfl
 replace M := M.mask [false] rfl
 refine Znr ?_
 refine rt_1 T rfl (T.e 0 rfl) ?_
 exact ⟨ret_int (by rw [notesP_at hk0]), M.below⟩
theorem checkScale5_any (l : Lw) (A : Option Addr) (c : Nat) (LL : List LS)  (w : World) (hA : Rd w w.heap.size 1 A LL.length (lsC LL)) (hE : ElsS w LL) (nL : LL.length ≤ 1000000) (nE : ∀ x ∈ LL, x.1.length ≤ 1000000)  :
   Calls Tryz.prog 44 #[.agg #[Zi l.first, Zi l.step, Zi l.span, Zi l.press, .slice A LL.length c]] w fun e w' => e = .returned (Zi (checkS l (rowsOf LL))) ∧ Below w.heap.size w w' := by
 obtain ⟨bA, oA, SA⟩ := Sp.old hA
 refine Zpx noEx Tryz.func44 rfl 64 rfl [.agg #[Zi l.first, Zi l.step, Zi l.span, Zi l.press, .slice A LL.length c]] rfl rfl (Mem.init w _) ?_
 intro ac wc T M
 refine Zsr ?_
 refine Zl2 ?_
 refine Zob M T rfl rfl rfl rfl (T.e 0 rfl) rfl ?_; clear M T; intro g1 wc ac M T
 refine lq T (Zra rfl evc) ?_; clear T ac; intro ac T
 replace T := T.pick [1] rfl
 refine Zln ?_
 refine wp_seq ?_
 refine Zsr ?_
 refine Zg2 (v1 := (Zj g1)) T (Zq (Zrf (off := 0) rfl (T.e 0 rfl) (fun _ _ _ => by kernel_rfl))) rfl (Zr M 0 0 rfl rfl rfl rfl) rfl ?_; clear T ac; intro ac T
 refine Zl2 ?_
 refine Zoc (first := []) (cap := []) T rfl rfl rfl rfl evf (.cons (T.e 0 rfl) .nil) Tryz.func72 rfl rfl ?_
 refine Calls.mono (checkLaw5_any l _) ?_
 clear T; rintro e wc ⟨rfl, hb⟩ ac T
 replace M := M.call hb; clear hb
 refine lq T (Zra rfl (T.e 0 rfl)) ?_; clear T ac; intro ac T
 replace T := T.pick [0, 4] rfl
 refine Zln ?_
 refine Zsr ?_
 refine Zg2 T (Zq (Zrm rfl (T.e 0 rfl))) rfl (fun _ T => Zq (rn_neq rfl (T.e 0 rfl) evc)) rfl ?_; clear T ac; intro ac T
 replace T := T.pick [0, 2, 3] rfl
 refine Zln ?_
 refine wp_ifn (T.e 0 rfl) ?_ ?_
 ·intro h1
  refine Zsr ?_
  refine Zg2 T (Zq (Zrm rfl (T.e 1 rfl))) rfl (Za 0 rfl rfl) rfl ?_; clear T ac; intro ac T
  refine wpList_nil ?_
  replace T := T.pick [0] rfl
  replace M := M.mask [false] rfl
  refine Znr ?_
  refine Zrt ?_
  refine rt_1 T rfl (T.e 0 rfl) ?_
  refine ⟨ret_int ?_, M.below⟩
  unfold checkS
  rw [if_pos (by assumption)]
 intro h1
 have gl := lawE_good (l := l) (by simpa using h1)
 obtain ⟨gl1, gl2, gl3, gl4⟩ := gl
 refine Zsk ?_
 refine wp_seq ?_
 refine Zsr ?_
 refine Zg4 (v1 := (.pointer (some ⟨g1, 4, none⟩))) T (Zq (Zrf (off := 4) rfl (T.e 2 rfl) (fun _ _ _ => by kernel_rfl))) rfl (Zo M 0 0 rfl rfl rfl rfl) rfl (Zl Tryz.underlying62 0 rfl rfl) rfl (fun _ T => Zq (rn_gtr rfl (T.e 0 rfl) evc)) rfl ?_; clear T ac; intro ac T
 replace T := T.pick [0, 6] rfl
 refine Zln ?_
 refine wp_if (T.e 0 rfl) ?_ ?_
 ·intro h2
  refine Zsr ?_
  refine lq T (Zra rfl evc) ?_; clear T ac; intro ac T
  refine wpList_nil ?_
  replace T := T.pick [0] rfl
  replace M := M.mask [false] rfl
  refine Znr ?_
  refine Zrt ?_
  refine rt_1 T rfl (T.e 0 rfl) ?_
  refine ⟨ret_int ?_, M.below⟩
  unfold checkS
  rw [if_neg (by simp_all), if_pos (by simp; omega)]
 intro h2
 refine Zsk ?_
 refine wp_seq ?_
 refine Zsr ?_
 refine lq T (Zra rfl evc) ?_; clear T ac; intro ac T
 replace T := T.pick [0, 2] rfl
 refine Zln ?_
 refine wp_block ?_
 refine wp_loop_n (fun mz ac wc => ∃ (k : Nat), mz = LL.length - k ∧ (k ≤ LL.length) ∧ (rowsE (notesP (rowsOf LL)) (rowsOf LL) = rowsE (notesP (rowsOf LL)) (rowsOf (LL.drop k))) ∧ Tm ac 64 [(1, Zj g1), (4, Zi (k : Int))] ∧ Mem w noEx wc [(g1, .cells [Zi l.first, Zi l.step, Zi l.span, Zi l.press, .slice A LL.length c])]) ?_ ?_
 ·exact ⟨_, 0, rfl, (by omega), rfl, T.pick [1, 0] rfl, M.mask [true] rfl⟩
 clear T M
 rintro mz ac wc ⟨k, hmm1, hk, H, T, M⟩
 refine wp_seq ?_
 refine Zsr ?_
 refine Zg5 (v2 := (.pointer (some ⟨g1, 4, none⟩))) T (Zq (Zrm rfl (T.e 1 rfl))) rfl (Zf 4 1 rfl rfl) rfl (Zo M 0 0 rfl rfl rfl rfl) rfl (Zl Tryz.underlying62 0 rfl rfl) rfl (fun _ T => Zq (rn_lss rfl (T.e 3 rfl) (T.e 0 rfl))) rfl ?_; clear T ac; intro ac T
 replace T := T.pick [0, 5, 6] rfl
 refine Zln ?_
 refine wp_if (T.e 0 rfl) ?_ ?_
 ·intro h3
  obtain ⟨⟨x1, B1, d1⟩, hk1⟩ : ∃ x, LL[k]? = some x := ⟨_, List.getElem?_eq_getElem (by omega)⟩
  obtain ⟨bs1, os1, Ss1⟩ := Sp.old (hE _ (List.mem_of_getElem? hk1))
  dsimp only at Ss1
  have nx1 := nE _ (List.mem_of_getElem? hk1)
  dsimp only at nx1
  obtain ⟨⟨x0, B0, d0⟩, hk0⟩ : ∃ x, LL[0]? = some x := ⟨_, List.getElem?_eq_getElem (by omega)⟩
  obtain ⟨bs0, os0, Ss0⟩ := Sp.old (hE _ (List.mem_of_getElem? hk0))
  dsimp only at Ss0
  have nx0 := nE _ (List.mem_of_getElem? hk0)
  dsimp only at nx0
  have hn0 := notesP_at hk0
  have hdr : LL.drop k = (x1, B1, d1) :: LL.drop (k + 1) := by rw [List.drop_eq_getElem_cons (by omega)]; congr 1; rw [List.getElem?_eq_getElem (by omega)] at hk1; injection hk1
  have hdm : rowsOf (LL.drop k) = x1 :: rowsOf (LL.drop (k + 1)) := by rw [hdr]; rfl
  rw [hdm, rowsE] at H
  refine Zsk ?_
  refine wp_seq ?_
  refine wp_block ?_
  refine wp_seq ?_
  refine Zsr ?_
  refine Zg7 (v1 := (.pointer (some ⟨g1, 4, none⟩))) (v5 := (.slice B1 x1.length d1)) T (Zq (Zrf (off := 4) rfl (T.e 1 rfl) (fun _ _ _ => by kernel_rfl))) rfl (Zo M 0 0 rfl rfl rfl rfl) rfl (Zm 4 rfl rfl) rfl (fun _ T => Zq (Zri (size := 1) k rfl (T.e 1 rfl) (T.e 0 rfl) ⟨_, Tryz.underlying62, by kernel_rfl⟩ rfl (by omega) (SA.at0 (by omega)))) rfl (fun _ T => Zq (rn_cell (Sp.ls0 SA M (Zz9 _) hk1) rfl (T.e 0 rfl))) rfl (Zl Tryz.underlying24 0 rfl rfl) rfl (fun _ T => Zq (rn_gtr rfl (T.e 0 rfl) evc)) rfl ?_; clear T ac; intro ac T
  replace T := T.pick [0, 8, 9] rfl
  refine Zln ?_
  refine wp_if (T.e 0 rfl) ?_ ?_
  ·intro h4
   refine Zsr ?_
   refine lq T (Zra rfl evc) ?_; clear T ac; intro ac T
   refine wpList_nil ?_
   replace T := T.pick [0] rfl
   replace M := M.mask [false] rfl
   refine Znr ?_
   refine Zrt ?_
   refine Zrb ?_
   refine Zrt ?_
   refine Zrt ?_
   refine Zrb ?_
   refine Zrt ?_
   refine rt_1 T rfl (T.e 0 rfl) ?_
   refine ⟨ret_int ?_, M.below⟩
   unfold checkS
   rw [if_pos (by omega)] at H
   rw [if_neg (by simp_all), if_neg (by simp; omega), H, if_pos (by first | omega | assumption)]
  intro h4
  refine Zsk ?_
  refine wp_seq ?_
  refine wp_seq ?_
  refine Zgs M (M.mask [true] rfl) 12 (by kernel_rfl) rfl (by kernel_rfl) ?_
  clear M; intro wc M
  refine gq (v := (.pointer (some ⟨g1, 4, none⟩))) T 0 1 rfl (fun _ _ _ _ _ => (Zrf (off := 4) rfl (T.e 1 rfl) (fun _ _ _ => by kernel_rfl))) ?_; clear T ac; intro ac T
  refine gq T 1 3 rfl (fun B w' hD hl hS => (Zro (Mem.nth (show Mem w noEx w' _ from hS) 0 rfl) rfl (T.e 0 rfl) rfl)) ?_; clear T ac; intro ac T
  refine gq T 2 7 rfl (fun _ _ _ _ _ => (Zrm rfl (T.e 4 rfl))) ?_; clear T ac; intro ac T
  refine gq T 3 15 rfl (fun _ _ _ _ _ => (Zri (size := 1) k rfl (T.e 1 rfl) (T.e 0 rfl) ⟨_, Tryz.underlying62, by kernel_rfl⟩ rfl (by omega) (SA.at0 (by omega)))) ?_; clear T ac; intro ac T
  refine gq (v := (.slice B1 x1.length d1)) T 4 31 rfl (fun B w' hD hl hS => (rn_cell (Sp.ls0 SA (show Mem w noEx w' _ from hS) (Zz9 _) hk1) rfl (T.e 0 rfl))) ?_; clear T ac; intro ac T
  refine gq T 5 63 rfl (fun _ _ _ _ _ => (Zrl rfl Tryz.underlying24 (T.e 0 rfl))) ?_; clear T ac; intro ac T
  refine gq (v := (.pointer (some ⟨g1, 4, none⟩))) T 6 127 rfl (fun _ _ _ _ _ => (Zrf (off := 4) rfl (T.e 7 rfl) (fun _ _ _ => by kernel_rfl))) ?_; clear T ac; intro ac T
  refine gq T 7 255 rfl (fun B w' hD hl hS => (Zro (Mem.nth (show Mem w noEx w' _ from hS) 0 rfl) rfl (T.e 0 rfl) rfl)) ?_; clear T ac; intro ac T
  refine gq T 8 511 rfl (fun _ _ _ _ _ => (Zri (size := 1) 0 rfl (T.e 0 rfl) evc ⟨_, Tryz.underlying62, by kernel_rfl⟩ rfl (by omega) (SA.at0 (by omega)))) ?_; clear T ac; intro ac T
  refine gq (v := (.slice B0 x0.length d0)) T 9 1023 rfl (fun B w' hD hl hS => (rn_cell (Sp.ls0 SA (show Mem w noEx w' _ from hS) (Zz9 _) hk0) rfl (T.e 0 rfl))) ?_; clear T ac; intro ac T
  refine gq T 10 2047 rfl (fun _ _ _ _ _ => (Zrl rfl Tryz.underlying24 (T.e 0 rfl))) ?_; clear T ac; intro ac T
  refine gq T 11 4095 rfl (fun _ _ _ _ _ => (rn_neq rfl (T.e 5 rfl) (T.e 0 rfl))) ?_; clear T ac; intro ac T
  refine Zgd (by kernel_rfl) ?_
  replace T := T.pick [0, 13, 14] rfl
  refine nm_then ?_
  refine wp_ifn (T.e 0 rfl) ?_ ?_
  ·intro h5
   refine Zsr ?_
   refine lq T (Zra rfl evc) ?_; clear T ac; intro ac T
   refine wpList_nil ?_
   replace T := T.pick [0] rfl
   replace M := M.mask [false] rfl
   refine Znr ?_
   refine Zrt ?_
   refine Zrb ?_
   refine Zrt ?_
   refine Zrt ?_
   refine Zrb ?_
   refine Zrt ?_
   refine rt_1 T rfl (T.e 0 rfl) ?_
   refine ⟨ret_int ?_, M.below⟩
   unfold checkS
   rw [if_neg (by omega), if_pos (by omega)] at H
   rw [if_neg (by simp_all), if_neg (by simp; omega), H, if_pos (by first | omega | assumption)]
  intro h5
  refine Zsk ?_
  refine Zsr ?_
  refine Zg5 (v1 := (.pointer (some ⟨g1, 4, none⟩))) (v5 := (.slice B1 x1.length d1)) T (Zq (Zrf (off := 4) rfl (T.e 1 rfl) (fun _ _ _ => by kernel_rfl))) rfl (Zo M 0 0 rfl rfl rfl rfl) rfl (Zm 4 rfl rfl) rfl (fun _ T => Zq (Zri (size := 1) k rfl (T.e 1 rfl) (T.e 0 rfl) ⟨_, Tryz.underlying62, by kernel_rfl⟩ rfl (by omega) (SA.at0 (by omega)))) rfl (fun _ T => Zq (rn_cell (Sp.ls0 SA M (Zz9 _) hk1) rfl (T.e 0 rfl))) rfl ?_; clear T ac; intro ac T
  refine Zl2 ?_
  refine Zoc (first := []) (cap := []) T rfl rfl rfl rfl evf (.cons (T.e 0 rfl) (.cons evc .nil)) Tryz.func85 rfl rfl ?_
  refine Calls.mono (checkSounds5_any _ _ _ x1 6 _ (Ss1.rd M (Zz9 _)) (by first | omega | (simp only [List.length_cons, List.length_nil]; omega))) ?_
  clear T; rintro e wc ⟨rfl, hb⟩ ac T
  replace M := M.call hb; clear hb
  refine lq T (Zra rfl (T.e 0 rfl)) ?_; clear T ac; intro ac T
  replace T := T.pick [0, 8, 9] rfl
  refine Zln ?_
  refine Zsr ?_
  refine Zg2 T (Zq (Zrm rfl (T.e 0 rfl))) rfl (fun _ T => Zq (rn_neq rfl (T.e 0 rfl) evc)) rfl ?_; clear T ac; intro ac T
  replace T := T.pick [0, 2, 3, 4] rfl
  refine Zln ?_
  refine wp_ifn (T.e 0 rfl) ?_ ?_
  ·intro h6
   refine Zsr ?_
   refine Zg2 T (Zq (Zrm rfl (T.e 1 rfl))) rfl (Za 0 rfl rfl) rfl ?_; clear T ac; intro ac T
   refine wpList_nil ?_
   replace T := T.pick [0] rfl
   replace M := M.mask [false] rfl
   refine Znr ?_
   refine Zrb ?_
   refine Zrt ?_
   refine Zrt ?_
   refine Zrb ?_
   refine Zrt ?_
   refine rt_1 T rfl (T.e 0 rfl) ?_
   refine ⟨ret_int ?_, M.below⟩
   unfold checkS
   rw [if_neg (by omega), if_neg (by omega), if_pos (by assumption)] at H
   rw [if_neg (by simp_all), if_neg (by simp; omega), H, if_pos (by first | omega | assumption)]
  intro h6
  refine wp_skip ?_
  refine Znb ?_
  refine nm_then ?_
  refine wp_region_lit ?_
  refine Zg2 T (Zq (Zrm rfl (T.e 3 rfl))) rfl (fun _ T => Zq (rn_add rfl (T.e 0 rfl) evc (by omega))) rfl ?_; clear T ac; intro ac T
  refine l_q (v := (Zi ((k : Int) + 1))) (T.pick [0, 1, 2, 3, 4] rfl) rfl rfl rfl rfl (Zra rfl (T.e 0 rfl)) ?_; clear T ac; intro ac T
  replace T := T.pick [0, 5] rfl
  refine Zln ?_
  exact ⟨_, by omega, k + 1, rfl, (by omega), (by rw [if_neg (by omega), if_neg (by omega), if_neg (by simp_all)] at H; exact H), T.pick [1, 0] rfl, M.mask [true] rfl⟩
 intro h3
 have hdm : rowsOf (LL.drop k) = [] := by rw [List.drop_of_length_le (by omega)]; rfl
 rw [hdm, rowsE] at H
 have hgr := rowsE_good H
 have hn6 : notesP (rowsOf LL) ≤ 6 := by cases LL with | nil => simp [notesP] | cons a r => exact (hgr a.1 (by simp)).1
 refine wp_exit ?_
 refine Zet ?_
 refine Zet ?_
 refine ex_hit ?_
 refine Zns ?_
 refine Zsr ?_
 refine lq T (Zra rfl evc) ?_; clear T ac; intro ac T
 replace T := T.pick [0, 2] rfl
 refine Zln ?_
 refine wp_block ?_
 refine wp_loop_n (fun mz ac wc => ∃ (k : Nat), mz = notesP (rowsOf LL) - k ∧ (k ≤ notesP (rowsOf LL)) ∧ ((List.range k).all (dueO l) = true) ∧ Tm ac 64 [(1, Zj g1), (6, Zi (k : Int))] ∧ Mem w noEx wc [(g1, .cells [Zi l.first, Zi l.step, Zi l.span, Zi l.press, .slice A LL.length c])]) ?_ ?_
 ·exact ⟨_, 0, rfl, (Nat.zero_le _), rfl, T.pick [1, 0] rfl, M.mask [true] rfl⟩
 clear T M
 rintro mz ac wc ⟨k, hmm2, hk, H2, T, M⟩
 refine wp_seq ?_
 refine Zsr ?_
 refine Zg2 T (Zq (Zrm rfl (T.e 1 rfl))) rfl (Zr M 0 1 rfl rfl rfl rfl) rfl ?_; clear T ac; intro ac T
 refine Zl2 ?_
 refine Zoc (first := []) (cap := []) T rfl rfl rfl rfl evf (.cons (T.e 0 rfl) .nil) Tryz.func93 rfl rfl ?_
 refine Calls.mono (notes5_any l A c LL _ (SA.rd M (Zz9 _)) (fun x hx => M.rd (hE x hx) (Nat.le_refl _)) (by omega) nE) ?_
 clear T; rintro e wc ⟨rfl, hb⟩ ac T
 replace M := M.call hb; clear hb
 refine lq T (rn_lss rfl (T.e 2 rfl) (T.e 0 rfl)) ?_; clear T ac; intro ac T
 replace T := T.pick [0, 4, 5] rfl
 refine Zln ?_
 refine wp_if (T.e 0 rfl) ?_ ?_
 ·intro h7
  refine Zsk ?_
  refine wp_seq ?_
  refine wp_block ?_
  refine Zsr ?_
  refine Zg3 (v1 := (Zj g1)) T (Zq (Zrf (off := 0) rfl (T.e 1 rfl) (fun _ _ _ => by kernel_rfl))) rfl (Zr M 0 0 rfl rfl rfl rfl) rfl (Zm 4 rfl rfl) rfl ?_; clear T ac; intro ac T
  refine Zl2 ?_
  refine Zoc (first := []) (cap := []) T rfl rfl rfl rfl evf (.cons (T.e 1 rfl) (.cons (T.e 0 rfl) .nil)) Tryz.func74 rfl rfl ?_
  refine Calls.mono (due5_any l (k : Int) _ (by (try dsimp only); omega) (by (try dsimp only); omega) (by (try dsimp only); omega)) ?_
  clear T; rintro e wc ⟨rfl, hb⟩ ac T
  replace M := M.call hb; clear hb
  refine Zl2 ?_
  refine Zoc (first := []) (cap := []) T rfl rfl rfl rfl evf (.cons (T.e 0 rfl) (.cons evc (.cons evc .nil))) Tryz.func73 rfl rfl ?_
  refine Calls.mono (among5_any (l.first + l.step * (k : Int)) 0 30 _) ?_
  clear T; rintro e wc ⟨rfl, hb⟩ ac T
  replace M := M.call hb; clear hb
  refine lq T (rn_not rfl (T.e 0 rfl)) ?_; clear T ac; intro ac T
  replace T := T.pick [0, 7, 8] rfl
  refine Zln ?_
  refine wp_cond_split (T.e 0 rfl) ?_ ?_
  ·intro h8
   (have h8' := h8; try simp only [Zb1, Zb2, Zb3, Zb4, Zb5, Zb6, Zb7] at h8')
   refine Zsr ?_
   refine lq T (Zra rfl evc) ?_; clear T ac; intro ac T
   refine wpList_nil ?_
   replace T := T.pick [0] rfl
   replace M := M.mask [false] rfl
   refine Znr ?_
   refine Zrb ?_
   refine Zrt ?_
   refine Zrt ?_
   refine Zrb ?_
   refine Zrt ?_
   refine rt_1 T rfl (T.e 0 rfl) ?_
   refine ⟨ret_int ?_, M.below⟩
   unfold checkS
   rw [if_neg (by simp_all), if_neg (by simp; omega), H, if_neg (by omega), if_neg]
   intro k9
   have k8 := List.all_eq_true.1 k9 k (List.mem_range.2 (by omega))
   simp only [dueO, decide_eq_true_eq] at k8
   exact absurd h8 (by simp [withinB, k8])
  intro h8
  (have h8' := h8; try simp only [Zb1, Zb2, Zb3, Zb4, Zb5, Zb6, Zb7] at h8')
  refine wp_skip ?_
  refine Znb ?_
  refine nm_then ?_
  refine wp_region_lit ?_
  refine Zg2 T (Zq (Zrm rfl (T.e 2 rfl))) rfl (fun _ T => Zq (rn_add rfl (T.e 0 rfl) evc (by omega))) rfl ?_; clear T ac; intro ac T
  refine l_q (v := (Zi ((k : Int) + 1))) (T.pick [0, 1, 2, 3] rfl) rfl rfl rfl rfl (Zra rfl (T.e 0 rfl)) ?_; clear T ac; intro ac T
  replace T := T.pick [0, 4] rfl
  refine Zln ?_
  exact ⟨_, by omega, k + 1, rfl, (by omega), (by rw [List.range_succ, List.all_append, H2]; simp only [List.all_cons, List.all_nil, Bool.true_and, Bool.and_true]; simpa [withinB, dueO] using h8), T.pick [1, 0] rfl, M.mask [true] rfl⟩
 intro h7
 refine wp_exit ?_
 refine Zet ?_
 refine Zet ?_
 refine ex_hit ?_
 refine nm_then ?_
 refine Zsr ?_
 refine lq T (Zra rfl evc) ?_; clear T ac; intro ac T
 refine wpList_nil ?_
 replace T := T.pick [0] rfl
 replace M := M.mask [false] rfl
 refine Znr ?_
 refine rt_1 T rfl (T.e 0 rfl) ?_
 refine ⟨ret_int ?_, M.below⟩
 unfold checkS
 obtain rfl : k = notesP (rowsOf LL) := by omega
 rw [if_neg (by simp_all), if_neg (by simp; omega), H, if_neg (by omega), if_pos H2]
theorem checkRegister5_any (l : Lw) (A : Option Addr) (c : Nat) (LL : List LS) (G : Option Addr) (d : Nat) (g : List Int)  (w : World) (hA : Rd w w.heap.size 1 A LL.length (lsC LL)) (hE : ElsS w LL) (nL : LL.length ≤ 1000000) (nE : ∀ x ∈ LL, x.1.length ≤ 1000000) (hG : Rd w w.heap.size 1 G g.length (ic g)) (nG : g.length ≤ 1000000)  :
   Calls Tryz.prog 92 #[.agg #[Zi l.first, Zi l.step, Zi l.span, Zi l.press, .slice A LL.length c], .slice G g.length d] w fun e w' => e = .returned (Zi (checkR l (rowsOf LL) g)) ∧ Below w.heap.size w w' := by
 obtain ⟨bA, oA, SA⟩ := Sp.old hA
 obtain ⟨bG, oG, SG⟩ := Sp.old hG
 refine Zpx noEx Tryz.func92 rfl 42 rfl [.agg #[Zi l.first, Zi l.step, Zi l.span, Zi l.press, .slice A LL.length c], .slice G g.length d] rfl rfl (Mem.init w _) ?_
 intro ac wc T M
 refine Zsr ?_
 refine Zl2 ?_
 refine Zob M T rfl rfl rfl rfl (T.e 0 rfl) rfl ?_; clear M T; intro g1 wc ac M T
 refine lq T (Zra rfl evc) ?_; clear T ac; intro ac T
 replace T := T.pick [1, 3] rfl
 refine Zln ?_
 refine wp_seq ?_
 refine Zsr ?_
 refine lq T (Zrr (Mem.nth M 0 rfl) rfl (T.e 0 rfl) rfl) ?_; clear T ac; intro ac T
 refine Zl2 ?_
 refine Zoc (first := []) (cap := []) T rfl rfl rfl rfl evf (.cons (T.e 0 rfl) .nil) Tryz.func44 rfl rfl ?_
 refine Calls.mono (checkScale5_any l A c LL _ (SA.rd M (Zz9 _)) (fun x hx => M.rd (hE x hx) (Nat.le_refl _)) (by omega) nE) ?_
 clear T; rintro e wc ⟨rfl, hb⟩ ac T
 replace M := M.call hb; clear hb
 refine lq T (Zra rfl (T.e 0 rfl)) ?_; clear T ac; intro ac T
 replace T := T.pick [0, 3, 4] rfl
 refine Zln ?_
 refine Zsr ?_
 refine Zg2 T (Zq (Zrm rfl (T.e 0 rfl))) rfl (fun _ T => Zq (rn_neq rfl (T.e 0 rfl) evc)) rfl ?_; clear T ac; intro ac T
 replace T := T.pick [0, 2, 3, 4] rfl
 refine Zln ?_
 refine wp_ifn (T.e 0 rfl) ?_ ?_
 ·intro h1
  refine Zsr ?_
  refine Zg2 T (Zq (Zrm rfl (T.e 1 rfl))) rfl (Za 0 rfl rfl) rfl ?_; clear T ac; intro ac T
  refine wpList_nil ?_
  replace T := T.pick [0] rfl
  replace M := M.mask [false] rfl
  refine Znr ?_
  refine Zrt ?_
  refine rt_1 T rfl (T.e 0 rfl) ?_
  refine ⟨ret_int ?_, M.below⟩
  unfold checkR
  rw [if_pos (by assumption)]
 intro h1
 have hl0 : (rowsOf LL).length = LL.length := by simp
 rw [hl0] at *
 refine Zsk ?_
 refine wp_seq ?_
 refine Zsr ?_
 refine lq T (Zra rfl evc) ?_; clear T ac; intro ac T
 replace T := T.pick [0, 3, 4] rfl
 refine Zln ?_
 refine wp_block ?_
 refine wp_loop_n (fun mz ac wc => ∃ (i : Nat), mz = g.length - i ∧ (i ≤ g.length) ∧ (regE (rowsOf LL).length none g = regE (rowsOf LL).length (prevO g i) (g.drop i)) ∧ Tm ac 42 [(1, .slice G g.length d), (2, Zj g1), (6, Zi (i : Int))] ∧ Mem w noEx wc [(g1, .cells [Zi l.first, Zi l.step, Zi l.span, Zi l.press, .slice A LL.length c])]) ?_ ?_
 ·exact ⟨_, 0, rfl, (by omega), rfl, T.pick [2, 1, 0] rfl, M.mask [true] rfl⟩
 clear T M
 rintro mz ac wc ⟨i, hmm1, hi, H, T, M⟩
 refine wp_seq ?_
 refine Zsr ?_
 refine Zg4 T (Zq (Zrm rfl (T.e 2 rfl))) rfl (Zm 1 rfl rfl) rfl (Zl Tryz.underlying33 0 rfl rfl) rfl (fun _ T => Zq (rn_lss rfl (T.e 2 rfl) (T.e 0 rfl))) rfl ?_; clear T ac; intro ac T
 replace T := T.pick [0, 4, 5, 6] rfl
 refine Zln ?_
 refine wp_if (T.e 0 rfl) ?_ ?_
 ·intro h2
  obtain ⟨r, hkr, hdr⟩ := ic_next (l := g) (k := i) (by omega)
  obtain ⟨rp, hrp⟩ : ∃ q, q = g.getD (i - 1) 0 := ⟨_, rfl⟩
  have hpv : leO (prevO g i) r = (decide (0 < (i : Int)) && decide (r ≤ rp)) := prevO_le hi hrp
  rw [hdr, regE, hpv] at H
  refine Zsk ?_
  refine wp_seq ?_
  refine wp_block ?_
  refine wp_seq ?_
  refine wp_seq ?_
  refine Zgs M (M.mask [true] rfl) 10 (by kernel_rfl) rfl (by kernel_rfl) ?_
  clear M; intro wc M
  refine gq T 0 1 rfl (fun _ _ _ _ _ => (Zrm rfl (T.e 1 rfl))) ?_; clear T ac; intro ac T
  refine gq T 1 3 rfl (fun _ _ _ _ _ => (Zrm rfl (T.e 4 rfl))) ?_; clear T ac; intro ac T
  refine gq T 2 7 rfl (fun _ _ _ _ _ => (Zri (size := 1) i rfl (T.e 1 rfl) (T.e 0 rfl) ⟨_, Tryz.underlying33, by kernel_rfl⟩ rfl (by omega) (SG.at0 (by omega)))) ?_; clear T ac; intro ac T
  refine gq T 3 15 rfl (fun B w' hD hl hS => (rn_cell (Sp.ic0 SG (show Mem w noEx w' _ from hS) (Zz9 _) hkr) rfl (T.e 0 rfl))) ?_; clear T ac; intro ac T
  refine gq (v := (.pointer (some ⟨g1, 4, none⟩))) T 4 31 rfl (fun _ _ _ _ _ => (Zrf (off := 4) rfl (T.e 6 rfl) (fun _ _ _ => by kernel_rfl))) ?_; clear T ac; intro ac T
  refine gq T 5 63 rfl (fun B w' hD hl hS => (Zro (Mem.nth (show Mem w noEx w' _ from hS) 0 rfl) rfl (T.e 0 rfl) rfl)) ?_; clear T ac; intro ac T
  refine gq T 6 127 rfl (fun _ _ _ _ _ => (Zrl rfl Tryz.underlying62 (T.e 0 rfl))) ?_; clear T ac; intro ac T
  refine gq T 7 255 rfl (fun _ _ _ _ _ => (rn_sub rfl (T.e 0 rfl) evc (by omega))) ?_; clear T ac; intro ac T
  refine gw 8 511 ?_; intro K hK
  refine Zoc (first := []) (cap := []) T rfl rfl rfl rfl evf (.cons (T.e 4 rfl) (.cons evc (.cons (T.e 0 rfl) .nil))) Tryz.func73 rfl rfl ?_
  refine Calls.mono (among5_any r 0 (((LL.length : Nat) : Int) - 1) _) ?_
  clear T; rintro e wc ⟨rfl, hb⟩ ac T
  replace M := M.call hb; clear hb
  refine Zso hK _ _ (M.mask [true] rfl) ?_; clear hK K
  refine gq T 9 1023 rfl (fun _ _ _ _ _ => (rn_not rfl (T.e 0 rfl))) ?_; clear T ac; intro ac T
  refine Zgd (by kernel_rfl) ?_
  replace T := T.pick [0, 11, 12, 13] rfl
  refine nm_then ?_
  refine wp_cond_split (T.e 0 rfl) ?_ ?_
  ·intro h3
   (have h3' := h3; try simp only [Zb1, Zb2, Zb3, Zb4, Zb5, Zb6, Zb7] at h3')
   refine Zsr ?_
   refine lq T (Zra rfl evc) ?_; clear T ac; intro ac T
   refine wpList_nil ?_
   replace T := T.pick [0] rfl
   replace M := M.mask [false] rfl
   refine Znr ?_
   refine Zrt ?_
   refine Zrb ?_
   refine Zrt ?_
   refine Zrt ?_
   refine Zrb ?_
   refine Zrt ?_
   refine rt_1 T rfl (T.e 0 rfl) ?_
   refine ⟨ret_int ?_, M.below⟩
   unfold checkR
   rw [if_pos (by simp_all [withinB])] at H
   rw [if_neg (by simp_all), H]
  intro h3
  (have h3' := h3; try simp only [Zb1, Zb2, Zb3, Zb4, Zb5, Zb6, Zb7] at h3')
  refine Zsk ?_
  refine cut_seq (fun ac wc => Tm ac 42 [(1, .slice G g.length d), (2, Zj g1), (6, Zi (i : Int)), (41, .bool ((decide (0 < (i : Int))) && (decide (r ≤ rp))))] ∧ Mem w noEx wc [(g1, .cells [Zi l.first, Zi l.step, Zi l.span, Zi l.press, .slice A LL.length c])]) ?_ ?_
  ·refine Zgs M (M.mask [true] rfl) 14 (by kernel_rfl) rfl (by kernel_rfl) ?_
   clear M; intro wc M
   refine gq T 0 1 rfl (fun _ _ _ _ _ => (Zrm rfl (T.e 3 rfl))) ?_; clear T ac; intro ac T
   refine gq T 1 3 rfl (fun _ _ _ _ _ => (rn_gtr rfl (T.e 0 rfl) evc)) ?_; clear T ac; intro ac T
   refine gq T 2 7 rfl (fun _ _ _ _ _ => (Zrm rfl (T.e 0 rfl))) ?_; clear T ac; intro ac T
   rcases Bool.eq_false_or_eq_true (decide (0 < (i : Int))) with h4 | h4
   ·replace h4 := of_decide_eq_true h4
    obtain ⟨i1, hi1⟩ : ∃ q : Nat, (i : Int) - 1 = (q : Int) := ⟨i - 1, by omega⟩
    have hkp : g[i1]? = some rp := by rw [hrp, show i - 1 = i1 by omega, List.getD_eq_getElem?_getD, List.getElem?_eq_getElem (by omega)]; rfl
    refine g_q (T := T) (i := 3) rfl (by kernel_rfl) (by kernel_rfl : (Zpb 14 7).setIfInBounds 3 true = Zpb 14 15) si_U (fun _ _ _ h => h) (Zwy rfl rfl (T.e 0 rfl) (Zdt h4)) rfl rfl rfl (fun _ _ _ _ _ => (Zrm rfl (T.e 4 rfl))) ?_; clear T ac; intro ac T
    refine g_q (T := T) (i := 4) rfl (by kernel_rfl) (by kernel_rfl : (Zpb 14 15).setIfInBounds 4 true = Zpb 14 31) si_U (fun _ _ _ h => h) (Zwy rfl rfl (T.e 1 rfl) (Zdt h4)) rfl rfl rfl (fun _ _ _ _ _ => (Zrm rfl (T.e 7 rfl))) ?_; clear T ac; intro ac T
    refine g_q (T := T) (i := 5) rfl (by kernel_rfl) (by kernel_rfl : (Zpb 14 31).setIfInBounds 5 true = Zpb 14 63) si_U (fun _ _ _ h => h) (Zwy rfl rfl (T.e 2 rfl) (Zdt h4)) rfl rfl rfl (fun _ _ _ _ _ => (Zri (size := 1) i rfl (T.e 1 rfl) (T.e 0 rfl) ⟨_, Tryz.underlying33, by kernel_rfl⟩ rfl (by omega) (SG.at0 (by omega)))) ?_; clear T ac; intro ac T
    refine g_q (T := T) (i := 6) rfl (by kernel_rfl) (by kernel_rfl : (Zpb 14 63).setIfInBounds 6 true = Zpb 14 127) si_U (fun _ _ _ h => h) (Zwy rfl rfl (T.e 3 rfl) (Zdt h4)) rfl rfl rfl (fun B w' hD hl hS => (rn_cell (Sp.ic0 SG (show Mem w noEx w' _ from hS) (Zz9 _) hkr) rfl (T.e 0 rfl))) ?_; clear T ac; intro ac T
    refine g_q (T := T) (i := 7) rfl (by kernel_rfl) (by kernel_rfl : (Zpb 14 127).setIfInBounds 7 true = Zpb 14 255) si_U (fun _ _ _ h => h) (Zwy rfl rfl (T.e 4 rfl) (Zdt h4)) rfl rfl rfl (fun _ _ _ _ _ => (Zrm rfl (T.e 8 rfl))) ?_; clear T ac; intro ac T
    refine g_q (T := T) (i := 8) rfl (by kernel_rfl) (by kernel_rfl : (Zpb 14 255).setIfInBounds 8 true = Zpb 14 511) si_U (fun _ _ _ h => h) (Zwy rfl rfl (T.e 5 rfl) (Zdt h4)) rfl rfl rfl (fun _ _ _ _ _ => (Zrm rfl (T.e 11 rfl))) ?_; clear T ac; intro ac T
    refine g_q (T := T) (i := 9) rfl (by kernel_rfl) (by kernel_rfl : (Zpb 14 511).setIfInBounds 9 true = Zpb 14 1023) si_U (fun _ _ _ h => h) (Zwy rfl rfl (T.e 6 rfl) (Zdt h4)) rfl rfl rfl (fun _ _ _ _ _ => (rn_sub rfl (T.e 0 rfl) evc (by omega))) ?_; clear T ac; intro ac T
    refine g_q (T := T) (i := 10) rfl (by kernel_rfl) (by kernel_rfl : (Zpb 14 1023).setIfInBounds 10 true = Zpb 14 2047) si_U (fun _ _ _ h => h) (Zwy rfl rfl (T.e 7 rfl) (Zdt h4)) rfl rfl rfl (fun _ _ _ _ _ => (Zri (size := 1) i1 rfl (T.e 2 rfl) (T.e 0 rfl) ⟨_, Tryz.underlying33, by kernel_rfl⟩ hi1 (by omega) (SG.at0 (by omega)))) ?_; clear T ac; intro ac T
    refine g_q (T := T) (i := 11) rfl (by kernel_rfl) (by kernel_rfl : (Zpb 14 2047).setIfInBounds 11 true = Zpb 14 4095) si_U (fun _ _ _ h => h) (Zwy rfl rfl (T.e 8 rfl) (Zdt h4)) rfl rfl rfl (fun B w' hD hl hS => (rn_cell (Sp.ic0 SG (show Mem w noEx w' _ from hS) (Zz9 _) hkp) rfl (T.e 0 rfl))) ?_; clear T ac; intro ac T
    refine g_q (T := T) (i := 12) rfl (by kernel_rfl) (by kernel_rfl : (Zpb 14 4095).setIfInBounds 12 true = Zpb 14 8191) si_U (fun _ _ _ h => h) (Zwy rfl rfl (T.e 9 rfl) (Zdt h4)) rfl rfl rfl (fun _ _ _ _ _ => (rn_leq rfl (T.e 5 rfl) (T.e 0 rfl))) ?_; clear T ac; intro ac T
    refine gq T 13 16383 rfl (fun _ _ _ _ _ => (Zr1 rfl (T.e 10 rfl) (Zdt h4) (T.e 0 rfl))) ?_; clear T ac; intro ac T
    refine Zgd (by kernel_rfl) ?_
    replace T := T.pick [0, 1, 2, 3, 4, 5, 6, 7, 8, 9, 10, 15, 16, 17] rfl
    exact ⟨(T.pick (E' := [(1, .slice G g.length d), (2, Zj g1), (6, Zi (i : Int)), (41, .bool (decide (r ≤ rp)))]) [11, 12, 13, 0] rfl).as (by (try rw [show (decide (0 < (i : Int))) = true from (Zdt h4)]); (try rfl)), M.mask [true] rfl⟩
   replace h4 := of_decide_eq_false h4
   refine g_pass (T := T) (i := 3) rfl (by kernel_rfl) (by kernel_rfl : (Zpb 14 7).setIfInBounds 3 true = Zpb 14 15) si_U (fun _ _ _ h => h) (Zwn rfl rfl (T.e 0 rfl) (Zdf h4)) rfl rfl rfl ?_; clear T ac; intro ac T
   refine g_pass (T := T) (i := 4) rfl (by kernel_rfl) (by kernel_rfl : (Zpb 14 15).setIfInBounds 4 true = Zpb 14 31) si_U (fun _ _ _ h => h) (Zwn rfl rfl (T.e 1 rfl) (Zdf h4)) rfl rfl rfl ?_; clear T ac; intro ac T
   refine g_pass (T := T) (i := 5) rfl (by kernel_rfl) (by kernel_rfl : (Zpb 14 31).setIfInBounds 5 true = Zpb 14 63) si_U (fun _ _ _ h => h) (Zwn rfl rfl (T.e 2 rfl) (Zdf h4)) rfl rfl rfl ?_; clear T ac; intro ac T
   refine g_pass (T := T) (i := 6) rfl (by kernel_rfl) (by kernel_rfl : (Zpb 14 63).setIfInBounds 6 true = Zpb 14 127) si_U (fun _ _ _ h => h) (Zwn rfl rfl (T.e 3 rfl) (Zdf h4)) rfl rfl rfl ?_; clear T ac; intro ac T
   refine g_pass (T := T) (i := 7) rfl (by kernel_rfl) (by kernel_rfl : (Zpb 14 127).setIfInBounds 7 true = Zpb 14 255) si_U (fun _ _ _ h => h) (Zwn rfl rfl (T.e 4 rfl) (Zdf h4)) rfl rfl rfl ?_; clear T ac; intro ac T
   refine g_pass (T := T) (i := 8) rfl (by kernel_rfl) (by kernel_rfl : (Zpb 14 255).setIfInBounds 8 true = Zpb 14 511) si_U (fun _ _ _ h => h) (Zwn rfl rfl (T.e 5 rfl) (Zdf h4)) rfl rfl rfl ?_; clear T ac; intro ac T
   refine g_pass (T := T) (i := 9) rfl (by kernel_rfl) (by kernel_rfl : (Zpb 14 511).setIfInBounds 9 true = Zpb 14 1023) si_U (fun _ _ _ h => h) (Zwn rfl rfl (T.e 6 rfl) (Zdf h4)) rfl rfl rfl ?_; clear T ac; intro ac T
   refine g_pass (T := T) (i := 10) rfl (by kernel_rfl) (by kernel_rfl : (Zpb 14 1023).setIfInBounds 10 true = Zpb 14 2047) si_U (fun _ _ _ h => h) (Zwn rfl rfl (T.e 7 rfl) (Zdf h4)) rfl rfl rfl ?_; clear T ac; intro ac T
   refine g_pass (T := T) (i := 11) rfl (by kernel_rfl) (by kernel_rfl : (Zpb 14 2047).setIfInBounds 11 true = Zpb 14 4095) si_U (fun _ _ _ h => h) (Zwn rfl rfl (T.e 8 rfl) (Zdf h4)) rfl rfl rfl ?_; clear T ac; intro ac T
   refine g_pass (T := T) (i := 12) rfl (by kernel_rfl) (by kernel_rfl : (Zpb 14 4095).setIfInBounds 12 true = Zpb 14 8191) si_U (fun _ _ _ h => h) (Zwn rfl rfl (T.e 9 rfl) (Zdf h4)) rfl rfl rfl ?_; clear T ac; intro ac T
   refine gq T 13 16383 rfl (fun _ _ _ _ _ => (Zr0 rfl (T.e 10 rfl) (Zdf h4) evc)) ?_; clear T ac; intro ac T
   refine Zgd (by kernel_rfl) ?_
   replace T := T.pick [0, 1, 2, 3, 4, 5, 6, 7, 8, 9, 10, 15, 16, 17] rfl
   exact ⟨(T.pick (E' := [(1, .slice G g.length d), (2, Zj g1), (6, Zi (i : Int)), (41, .bool false)]) [11, 12, 13, 0] rfl).as (by (try rw [show (decide (0 < (i : Int))) = false from (Zdf h4)]); (try rfl)), M.mask [true] rfl⟩
  clear T M
  rintro ac wc ⟨T, M⟩
  refine wp_cond_split (T.e 3 rfl) ?_ ?_
  ·intro h5
   (have h5' := h5; try simp only [Zb1, Zb2, Zb3, Zb4, Zb5, Zb6, Zb7] at h5')
   refine Zsr ?_
   refine lq T (Zra rfl evc) ?_; clear T ac; intro ac T
   refine wpList_nil ?_
   replace T := T.pick [0] rfl
   replace M := M.mask [false] rfl
   refine Znr ?_
   refine Zrb ?_
   refine Zrt ?_
   refine Zrt ?_
   refine Zrb ?_
   refine Zrt ?_
   refine rt_1 T rfl (T.e 0 rfl) ?_
   refine ⟨ret_int ?_, M.below⟩
   unfold checkR
   rw [if_neg (by simp_all [withinB]), if_pos (by assumption)] at H
   rw [if_neg (by simp_all), H]
  intro h5
  (have h5' := h5; try simp only [Zb1, Zb2, Zb3, Zb4, Zb5, Zb6, Zb7] at h5')
  refine wp_skip ?_
  refine Znb ?_
  refine nm_then ?_
  refine wp_region_lit ?_
  refine Zg2 T (Zq (Zrm rfl (T.e 2 rfl))) rfl (fun _ T => Zq (rn_add rfl (T.e 0 rfl) evc (by omega))) rfl ?_; clear T ac; intro ac T
  refine l_q (v := (Zi ((i : Int) + 1))) (T.pick [0, 1, 2, 3, 5] rfl) rfl rfl rfl rfl (Zra rfl (T.e 0 rfl)) ?_; clear T ac; intro ac T
  replace T := T.pick [0, 3, 4] rfl
  refine Zln ?_
  exact ⟨_, by omega, i + 1, rfl, (by omega), (by rw [if_neg (by simp_all [withinB]), if_neg (by rw [h5]; simp)] at H; rw [H, prevO, if_neg (by omega), Nat.add_sub_cancel, hkr]), T.pick [1, 2, 0] rfl, M.mask [true] rfl⟩
 intro h2
 rw [List.drop_of_length_le (by omega), regE] at H
 refine wp_exit ?_
 refine Zet ?_
 refine Zet ?_
 refine ex_hit ?_
 refine nm_then ?_
 refine Zsr ?_
 refine lq T (Zra rfl evc) ?_; clear T ac; intro ac T
 refine wpList_nil ?_
 replace T := T.pick [0] rfl
 replace M := M.mask [false] rfl
 refine Znr ?_
 refine rt_1 T rfl (T.e 0 rfl) ?_
 refine ⟨ret_int ?_, M.below⟩
 unfold checkR
 rw [if_neg (by simp_all), H]
open Go.RowKit
open Go.RowKit
open Go.RowKit
open Go.RowKit
theorem eqT26 {x y : Operand} {a0 a1 b0 b1 : Int} {w : World} : (do eqGuard .eql 26 x y (.agg #[Zi a0, Zi a1]) (.agg #[Zi b0, Zi b1]); binOp .eql 26 (.agg #[Zi a0, Zi a1]) (.agg #[Zi b0, Zi b1]) : Sem Value).run Tryz.prog w = .ok (.bool ((decide (a0 = b0) && decide (a1 = b1)))) w := by
 go_simp
 (repeat' split) <;> simp_all
theorem same_start {α : Type} [DecidableEq α] (l r : List α) : decide (l = r) = (decide ((l.length : Int) = (r.length : Int)) && decide (l.drop 0 = r.drop 0)) := by
 by_cases h : l = r
 · subst h; simp
 · simp [h]
theorem same_next {x y x' y' : Int} {l r : List (Int × Int)} : decide ((x, y) :: l = (x', y') :: r) = ((decide (x = x') && decide (y = y')) && decide (l = r)) := by
 by_cases h1 : x = x' <;> by_cases h2 : y = y' <;> simp [h1, h2]
theorem sameRanges_any (A D : Option Addr) (n m c d : Nat) (l r : List (Int × Int)) (w : World) (hr : Rd w w.heap.size 2 A n (rc l)) (hs : Rd w w.heap.size 2 D m (rc r)) (hn : n ≤ 9223372036854775807) (hm : m ≤ 9223372036854775807) :
   Calls Tryz.prog 29 #[.slice A n c, .slice D m d] w fun e w' => e = .returned (.bool (decide (l = r))) ∧ Below w.heap.size w w' := by
 have hl := hr.len2
 have hl2 := hs.len2
 obtain ⟨bJ, oJ, SJ⟩ := Sp.old hr
 obtain ⟨bI, oI, SI⟩ := Sp.old hs
 refine Zpx noEx Tryz.func29 rfl 31 rfl [.slice A n c, .slice D m d] rfl rfl (Mem.init w _) ?_
 intro ac wc T M
 refine Zsr ?_
 refine lq T (Zra rfl evc) ?_; clear T ac; intro ac T
 replace T := T.pick [1, 2] rfl
 refine Zln ?_
 refine Zsr ?_
 refine Zg6 T (Zq (Zrm rfl (T.e 0 rfl))) rfl (Zl Tryz.underlying51 0 rfl rfl) rfl (Zm 3 rfl rfl) rfl (Zl Tryz.underlying51 0 rfl rfl) rfl (fun _ T => Zq (rn_eql rfl (T.e 2 rfl) (T.e 0 rfl))) rfl (Za 0 rfl rfl) rfl ?_; clear T ac; intro ac T
 replace T := T.pick [0, 6, 7] rfl
 refine Zln ?_
 refine wp_seq ?_
 refine Zsr ?_
 refine lq T (Zra rfl evc) ?_; clear T ac; intro ac T
 refine Zln ?_
 refine wp_block ?_
 refine wp_loop_n (fun mz ac wc => ∃ (k : Nat) (b : Bool), mz = n - k ∧ (k ≤ n) ∧ (b = true → n = m) ∧ (decide (l = r) = (b && decide (l.drop k = r.drop k))) ∧ Tm ac 31 [(0, .slice A n c), (1, .slice D m d), (5, .bool b), (6, Zi (k : Int))] ∧ Mem w noEx wc []) ?_ ?_
 ·exact ⟨_, 0, _, rfl, (by omega), (fun h => by have := of_decide_eq_true h; omega), (by rw [same_start l r, hl, hl2]), T.pick [2, 3, 1, 0] rfl, M.mask [] rfl⟩
 clear T M
 rintro mz ac wc ⟨k, b, hmm1, hk, hb, H, T, M⟩
 refine wp_seq ?_
 refine cut_seq (fun ac wc => Tm ac 31 [(0, .slice A n c), (1, .slice D m d), (5, .bool b), (6, Zi (k : Int)), (18, .bool (b && (decide ((k : Int) < ((n : Nat) : Int)))))] ∧ Mem w noEx wc []) ?_ ?_
 ·refine wp_region_lit ?_
  refine Zg2 T (Zq (Zrm rfl (T.e 2 rfl))) rfl (Zm 0 rfl rfl) rfl ?_; clear T ac; intro ac T
  rcases Bool.eq_false_or_eq_true b with h1 | h1
  ·refine Zg5 T (Zw (Zwy rfl rfl (T.e 0 rfl) h1) (Zrm rfl (T.e 5 rfl))) rfl (fun _ T => Zw (Zwy rfl rfl (T.e 1 rfl) h1) (Zrm rfl (T.e 3 rfl))) rfl (fun _ T => Zw (Zwy rfl rfl (T.e 2 rfl) h1) (Zrl rfl Tryz.underlying51 (T.e 0 rfl))) rfl (fun _ T => Zw (Zwy rfl rfl (T.e 3 rfl) h1) (rn_lss rfl (T.e 2 rfl) (T.e 0 rfl))) rfl (fun _ T => Zq (Zr1 rfl (T.e 4 rfl) h1 (T.e 0 rfl))) rfl ?_; clear T ac; intro ac T
   refine wpList_nil ?_
   replace T := T.pick [0, 1, 2, 3, 4, 7, 8, 9, 10] rfl
   exact ⟨(T.pick (E' := [(0, .slice A n c), (1, .slice D m d), (5, .bool b), (6, Zi (k : Int)), (18, .bool (decide ((k : Int) < ((n : Nat) : Int))))]) [5, 6, 7, 8, 0] rfl).as (by (try rw [show b = true from h1]); (try rfl)), M.mask [] rfl⟩
  refine Zg5 T (Zp (Zwn rfl rfl (T.e 0 rfl) h1)) rfl (fun _ T => Zp (Zwn rfl rfl (T.e 1 rfl) h1)) rfl (fun _ T => Zp (Zwn rfl rfl (T.e 2 rfl) h1)) rfl (fun _ T => Zp (Zwn rfl rfl (T.e 3 rfl) h1)) rfl (fun _ T => Zq (Zr0 rfl (T.e 4 rfl) h1 evc)) rfl ?_; clear T ac; intro ac T
  refine wpList_nil ?_
  replace T := T.pick [0, 1, 2, 3, 4, 7, 8, 9, 10] rfl
  exact ⟨(T.pick (E' := [(0, .slice A n c), (1, .slice D m d), (5, .bool b), (6, Zi (k : Int)), (18, .bool false)]) [5, 6, 7, 8, 0] rfl).as (by (try rw [show b = false from h1]); (try rfl)), M.mask [] rfl⟩
 clear T M
 rintro ac wc ⟨T, M⟩
 refine wp_cond_split (T.e 4 rfl) ?_ ?_
 ·intro h2
  (have h2' := h2; try simp only [Zb1, Zb2, Zb3, Zb4, Zb5, Zb6, Zb7] at h2')
  have h1 : b = true ∧ (k : Int) < (n : Int) := by simpa using h2
  have hnm := hb h1.1
  obtain ⟨x0, x1, hk1, hd⟩ := rc_next (l := l) (k := k) (by omega)
  obtain ⟨y0, y1, hk2, hd2⟩ := rc_next (l := r) (k := k) (by omega)
  rw [hd, hd2, h1.1, Bool.true_and, same_next] at H
  refine Zsk ?_
  refine wp_seq ?_
  refine wp_block ?_
  refine Zgs M (M.mask [] rfl) 10 (by kernel_rfl) rfl (by kernel_rfl) ?_
  clear M; intro wc M
  refine gq T 0 1 rfl (fun _ _ _ _ _ => (Zrm rfl (T.e 0 rfl))) ?_; clear T ac; intro ac T
  refine gq T 1 3 rfl (fun _ _ _ _ _ => (Zrm rfl (T.e 4 rfl))) ?_; clear T ac; intro ac T
  refine gq T 2 7 rfl (fun _ _ _ _ _ => (Zri (size := 2) k rfl (T.e 1 rfl) (T.e 0 rfl) ⟨_, Tryz.underlying51, by kernel_rfl⟩ rfl (by omega) (SJ.at0 (by omega)))) ?_; clear T ac; intro ac T
  refine gq (v := (.agg #[Zi x0, Zi x1])) T 3 15 rfl (fun B w' hD hl hS => (rn_rowat (Sp.rcR SJ (show Mem w noEx w' _ from hS) (Zz9 _) hk1) rfl (T.e 0 rfl) rfl)) ?_; clear T ac; intro ac T
  refine gq T 4 31 rfl (fun _ _ _ _ _ => (Zrm rfl (T.e 5 rfl))) ?_; clear T ac; intro ac T
  refine gq T 5 63 rfl (fun _ _ _ _ _ => (Zrm rfl (T.e 8 rfl))) ?_; clear T ac; intro ac T
  refine gq T 6 127 rfl (fun _ _ _ _ _ => (Zri (size := 2) k rfl (T.e 1 rfl) (T.e 0 rfl) ⟨_, Tryz.underlying51, by kernel_rfl⟩ rfl (by omega) (SI.at0 (by omega)))) ?_; clear T ac; intro ac T
  refine gq (v := (.agg #[Zi y0, Zi y1])) T 7 255 rfl (fun B w' hD hl hS => (rn_rowat (Sp.rcR SI (show Mem w noEx w' _ from hS) (Zz9 _) hk2) rfl (T.e 0 rfl) rfl)) ?_; clear T ac; intro ac T
  refine gq (v := (.bool ((decide (x0 = y0)) && (decide (x1 = y1))))) T 8 511 rfl (fun _ _ _ _ _ => (rn_bin rfl (T.e 4 rfl) (T.e 0 rfl) eqT26)) ?_; clear T ac; intro ac T
  refine g_q (v := (.bool ((decide (x0 = y0)) && (decide (x1 = y1))))) (T := T.pick [0, 1, 2, 3, 4, 5, 6, 7, 8, 9, 10, 12, 13] rfl) (i := 9) rfl (by kernel_rfl) (by kernel_rfl : (Zpb 10 511).setIfInBounds 9 true = Zpb 10 1023) si_U (fun _ _ _ h => h) rfl rfl rfl rfl (fun _ _ _ _ _ => (Zra rfl (T.e 0 rfl))) ?_; clear T ac; intro ac T
  refine Zgd (by kernel_rfl) ?_
  replace T := T.pick [0, 10, 11, 12] rfl
  refine Znb ?_
  refine nm_then ?_
  refine wp_region_lit ?_
  refine Zg2 T (Zq (Zrm rfl (T.e 3 rfl))) rfl (fun _ T => Zq (rn_add rfl (T.e 0 rfl) evc (by omega))) rfl ?_; clear T ac; intro ac T
  refine l_q (v := (Zi ((k : Int) + 1))) (T.pick [0, 1, 2, 3, 4] rfl) rfl rfl rfl rfl (Zra rfl (T.e 0 rfl)) ?_; clear T ac; intro ac T
  replace T := T.pick [0, 3, 4, 5] rfl
  refine Zln ?_
  exact ⟨_, by omega, k + 1, _, rfl, (by omega), (fun _ => hnm), H, T.pick [2, 3, 1, 0] rfl, M.mask [] rfl⟩
 intro h2
 (have h2' := h2; try simp only [Zb1, Zb2, Zb3, Zb4, Zb5, Zb6, Zb7] at h2')
 refine wp_exit ?_
 refine Zet ?_
 refine Zet ?_
 refine ex_hit ?_
 refine nm_then ?_
 refine Zsr ?_
 refine Zg2 T (Zq (Zrm rfl (T.e 2 rfl))) rfl (Za 0 rfl rfl) rfl ?_; clear T ac; intro ac T
 replace T := T.pick [0] rfl
 refine Zln ?_
 refine wp_ret ?_
 refine rt_1 T rfl (T.e 0 rfl) ?_
 refine ⟨ret_bool ?_, M.below⟩
 rw [H]
 rcases Bool.eq_false_or_eq_true b with hb1 | hb1
 · have hnm := hb hb1
   have : ¬ ((k : Int) < (n : Int)) := by intro hc; simp [hb1, hc] at h2
   rw [List.drop_of_length_le (by omega), List.drop_of_length_le (by omega)]
   simp [hb1]
 · simp [hb1]
theorem sameRanges_same (A D : Option Addr) (n m c d : Nat) (l : List (Int × Int)) (w : World) (hr : Rd w w.heap.size 2 A n (rc l)) (hs : Rd w w.heap.size 2 D m (rc l)) (hn : n ≤ 9223372036854775807) (hm : m ≤ 9223372036854775807) :
  Calls Tryz.prog 29 #[.slice A n c, .slice D m d] w fun e w' => e = .returned (.bool true) ∧ Below w.heap.size w w' := by
 have := sameRanges_any A D n m c d l l w hr hs hn hm
 simpa using this
theorem voiceP_in {R : List (List Snd)} {r : Int} {n : Nat} (hr : 0 ≤ r ∧ r < R.length) (hn : ∀ x ∈ R, n < x.length) : ∃ x ∈ R, voiceP R n r ∈ x := by
 have h1 : r.toNat < R.length := by omega
 have hm : R[r.toNat] ∈ R := List.getElem_mem _
 refine ⟨R[r.toNat], hm, ?_⟩
 unfold voiceP
 rw [List.getD_eq_getElem?_getD (l := R), List.getElem?_eq_getElem h1]
 show (R[r.toNat]).getD n _ ∈ _
 rw [List.getD_eq_getElem?_getD, List.getElem?_eq_getElem (hn _ hm)]
 exact List.getElem_mem _
theorem voicesP_good {l : Lw} {R : List (List Snd)} {g : List Int} {n : Nat} (gS : SGood l R) (hg : ∀ r ∈ g, 0 ≤ r ∧ r < R.length) (hn : n < notesP R) : ∀ z ∈ voicesP R g n, z.good := fun z hz => by
 obtain ⟨r, hr, rfl⟩ := List.mem_map.1 hz
 obtain ⟨x, hx, hv⟩ := voiceP_in (n := n) (hg r hr) (fun x hx => by rw [(gS.rows x hx).2.1]; exact hn)
 exact (gS.rows x hx).2.2 _ hv
theorem tremP_take {l : Lw} {R : List (List Snd)} {g : List Int} {k : Nat} (hk : k < notesP R) : (tremP l R g).take (k + 1) = (tremP l R g).take k ++ [keepsP l (l.first + l.step * (k : Int)) (voicesP R g k)] := by
 unfold tremP
 rw [List.take_add_one, List.getElem?_map, List.getElem?_range hk]
 rfl
theorem tremP_length (l : Lw) (R : List (List Snd)) (g : List Int) : (tremP l R g).length = notesP R := by simp [tremP]
def tremE (l : Lw) (R : List (List Snd)) (g : List Int) : List Int × Int := if checkR l R g = 0 then (tremP l R g, 0) else ([], checkR l R g)
theorem voices_any (l : Lw) (A : Option Addr) (c : Nat) (LL : List LS) (G : Option Addr) (d : Nat) (g : List Int) (nt : Nat) (w : World) (hA : Rd w w.heap.size 1 A LL.length (lsC LL)) (hE : ElsS w LL) (nL : LL.length ≤ 1000000) (nE : ∀ x ∈ LL, x.1.length ≤ 1000000) (hG : Rd w w.heap.size 1 G g.length (ic g)) (nG : g.length ≤ 1000000) (hg : ∀ r ∈ g, 0 ≤ r ∧ r < LL.length) (hn : ∀ x ∈ LL, nt < x.1.length) :
   Calls Tryz.prog 91 #[.agg #[Zi l.first, Zi l.step, Zi l.span, Zi l.press, .slice A LL.length c, .slice G g.length d], Zi (nt : Int)] w (VoicesPost (voicesP (rowsOf LL) g nt) w) := by
 obtain ⟨bA, oA, SA⟩ := Sp.old hA
 obtain ⟨bG, oG, SG⟩ := Sp.old hG
 refine Zpx noEx Tryz.func91 rfl 29 rfl [.agg #[Zi l.first, Zi l.step, Zi l.span, Zi l.press, .slice A LL.length c, .slice G g.length d], Zi (nt : Int)] rfl rfl (Mem.init w _) ?_
 intro ac wc T M
 refine Zsr ?_
 refine Zl2 ?_
 refine Zob M T rfl rfl rfl rfl (T.e 0 rfl) rfl ?_; clear M T; intro g1 wc ac M T
 refine lq T (Zra rfl evc) ?_; clear T ac; intro ac T
 replace T := T.pick [1, 3] rfl
 refine Zln ?_
 refine Zsr ?_
 refine lq T (Zra rfl evc) ?_; clear T ac; intro ac T
 refine Zln ?_
 refine wp_seq ?_
 refine Zsr ?_
 refine Zg4 (v1 := (.pointer (some ⟨g1, 5, none⟩))) T (Zq (Zrf (off := 5) rfl (T.e 1 rfl) (fun _ _ _ => by kernel_rfl))) rfl (Zo M 0 0 rfl rfl rfl rfl) rfl (Zl Tryz.underlying33 0 rfl rfl) rfl (fun _ T => Zq (Zrm rfl evc)) rfl ?_; clear T ac; intro ac T
 replace T := T.pick [0, 1, 2, 4, 5, 6] rfl
 refine Zln ?_
 refine wp_block ?_
 refine wp_loop_n (fun mz ac wc => ∃ (k : Nat) (OL : List Snd) (A3 : Option Addr) (c3 : Nat) (Io : List (Nat × BA)), mz = g.length - k ∧ (k ≤ g.length) ∧ (OL = voicesP (rowsOf LL) (g.take k) nt) ∧ (OL.length = k) ∧ (Sl 32 4 (.slice A3 OL.length c3) OL.length (sc OL) Io) ∧ Tm ac 29 [(1, Zi (nt : Int)), (2, Zj g1), (5, .slice A3 OL.length c3), (9, .slice G g.length d), (10, Zi ((g.length : Nat) : Int)), (11, Zi (k : Int))] ∧ Mem w noEx wc ((g1, .cells [Zi l.first, Zi l.step, Zi l.span, Zi l.press, .slice A LL.length c, .slice G g.length d]) :: Io)) ?_ ?_
 ·exact ⟨_, 0, [], none, 0, [], rfl, (Nat.zero_le _), rfl, rfl, (Sl.nil _ _), T.pick [5, 4, 3, 2, 1, 0] rfl, M.mask [true] rfl⟩
 clear T M
 rintro mz ac wc ⟨k, OL, A3, c3, Io, hmm1, hk, hO, hOl, hsl, T, M⟩
 refine Zsr ?_
 refine lq T (rn_lss rfl (T.e 5 rfl) (T.e 4 rfl)) ?_; clear T ac; intro ac T
 refine Zln ?_
 refine wp_seq ?_
 refine wp_if (T.e 0 rfl) ?_ ?_
 ·intro h1
  obtain ⟨r, hkr, -⟩ := ic_next (l := g) (k := k) (by omega)
  have hrb := hg r (List.mem_of_getElem? hkr)
  obtain ⟨rk, hrk⟩ : ∃ q : Nat, r = (q : Int) := ⟨r.toNat, by omega⟩
  obtain ⟨⟨x1, B1, d1⟩, hk1⟩ : ∃ x, LL[rk]? = some x := ⟨_, List.getElem?_eq_getElem (by omega)⟩
  obtain ⟨bs1, os1, Ss1⟩ := Sp.old (hE _ (List.mem_of_getElem? hk1))
  dsimp only at Ss1
  have nx1 := nE _ (List.mem_of_getElem? hk1)
  dsimp only at nx1
  have hnt := hn _ (List.mem_of_getElem? hk1)
  dsimp only at hnt
  obtain ⟨y, hky, -⟩ := sc_next (l := x1) (k := nt) hnt
  have hvp := voiceP_at hk1 hrk hky
  refine Zsk ?_
  refine wp_seq ?_
  refine wp_block ?_
  refine Zsr ?_
  refine Zg3 T (Zq (Zri (size := 1) k rfl (T.e 4 rfl) (T.e 6 rfl) ⟨_, Tryz.underlying33, by kernel_rfl⟩ rfl (by omega) (SG.at0 (by omega)))) rfl (fun _ T => Zq (rn_cell (Sp.ic0 SG M (Zz9 _) hkr) rfl (T.e 0 rfl))) rfl (Za 0 rfl rfl) rfl ?_; clear T ac; intro ac T
  replace T := T.pick [0, 4, 5, 6, 7, 8, 9] rfl
  refine Zln ?_
  refine wp_region_lit ?_
  refine Zg8 (v2 := (Zj g1)) (v3 := (.pointer (some ⟨g1, 4, none⟩))) (v7 := (.slice B1 x1.length d1)) T (Zq (Zrm rfl (T.e 3 rfl))) rfl (Zf 0 3 rfl rfl) rfl (Zf 4 0 rfl rfl) rfl (Zo M 0 0 rfl rfl rfl rfl) rfl (Zm 4 rfl rfl) rfl (fun _ T => Zq (Zri (size := 1) rk rfl (T.e 1 rfl) (T.e 0 rfl) ⟨_, Tryz.underlying62, by kernel_rfl⟩ hrk (by omega) (SA.at0 (by omega)))) rfl (fun _ T => Zq (rn_cell (Sp.ls0 SA M (Zz9 _) hk1) rfl (T.e 0 rfl))) rfl (Zm 8 rfl rfl) rfl ?_; clear T ac; intro ac T
  refine Zg2 (v2 := (.agg #[Zi y.t0, Zi y.t1, Zi y.s0, Zi y.s1])) T (Zq (Zri (size := 4) nt rfl (T.e 1 rfl) (T.e 0 rfl) ⟨_, Tryz.underlying24, by kernel_rfl⟩ rfl (by omega) (Ss1.at0 (by omega)))) rfl (fun _ T => Zq (rn_rowat (Sp.scR4 Ss1 M (Zz9 _) hky) rfl (T.e 0 rfl) rfl)) rfl ?_; clear T ac; intro ac T
  refine Zl2 ?_
  refine ow_bs (e := 32) [Zi y.t0, Zi y.t1, Zi y.s0, Zi y.s1] M T rfl rfl rfl rfl (.cons (T.e 0 rfl) .nil) (fun _ => by kernel_rfl) ?_; clear M T; intro g2 wc ac M T
  refine Zl2 ?_
  refine ow_app ([(g2, .cells [Zi y.t0, Zi y.t1, Zi y.s0, Zi y.s1]), (g1, .cells [Zi l.first, Zi l.step, Zi l.span, Zi l.press, .slice A LL.length c, .slice G g.length d])]) Tryz.info32 hsl M (by first | rfl | simp) T rfl rfl rfl rfl Tryz.underlying24 rfl rfl rfl (by omega) (T.e 10 rfl) (T.e 0 rfl) (Zne (i := 0) rfl) rfl rfl ?_; clear M T; intro ga1 cga1 wc ac M T
  refine l_q (v := (.slice (some ⟨ga1, 0, none⟩) (OL.length + 1) cga1)) (T.pick [0, 1, 2, 3, 4, 5, 6, 7, 8, 9, 10, 11, 12, 13, 14, 16, 17, 18] rfl) rfl rfl rfl rfl (Zra rfl (T.e 0 rfl)) ?_; clear T ac; intro ac T
  refine wpList_nil ?_
  replace T := T.pick [0, 14, 15, 16, 17, 18] rfl
  replace M := M.mask [true, false, true] rfl
  refine Znb ?_
  refine nm_then ?_
  refine wp_region_lit ?_
  refine lq T (rn_add rfl (T.e 5 rfl) evc (by omega)) ?_; clear T ac; intro ac T
  refine l_q (v := (Zi ((k : Int) + 1))) (T.pick [0, 1, 2, 3, 4, 5] rfl) rfl rfl rfl rfl (Zrm rfl (T.e 0 rfl)) ?_; clear T ac; intro ac T
  replace T := T.pick [0, 2, 3, 4, 5, 6] rfl
  refine Zln ?_
  have e9 : OL.length + 1 = (OL ++ [y]).length := by simp
  have e8 : ((sc OL) ++ [Zi y.t0, Zi y.t1, Zi y.s0, Zi y.s1]) = sc (OL ++ [y]) := by rw [← sc_snoc]
  rw [e9, e8] at M
  rw [e9] at T
  clear e9 e8
  exact ⟨_, by omega, k + 1, (OL ++ [y]), _, _, [(ga1, .row 32 4 (OL ++ [y]).length (sc (OL ++ [y])) cga1)], rfl, (by omega), (by rw [voicesP_take hkr, ← hO, hvp]), (by simp [hOl]), (Sl.row _ _ _ _ _ _), T.pick [2, 3, 1, 4, 5, 0] rfl, ((M.permT [1, 0] 2 rfl rfl rfl rfl).sub (Zsl ([(g1, .cells [Zi l.first, Zi l.step, Zi l.span, Zi l.press, .slice A LL.length c, .slice G g.length d]), (ga1, .row 32 4 (OL ++ [y]).length (sc (OL ++ [y])) cga1)] : List (Nat × BA)) _))⟩
 intro h1
 rw [List.take_of_length_le (by omega)] at hO
 refine wp_exit ?_
 refine Zet ?_
 refine Zet ?_
 refine ex_hit ?_
 refine nm_then ?_
 refine Zsr ?_
 refine Zg2 T (Zq (Zrm rfl (T.e 3 rfl))) rfl (Za 0 rfl rfl) rfl ?_; clear T ac; intro ac T
 refine wpList_nil ?_
 replace T := T.pick [0] rfl
 replace M := M.mask [false] rfl
 refine Znr ?_
 refine rt_1 T rfl (T.e 0 rfl) ?_
 obtain ⟨b9, o9, h9⟩ := hsl.spV (sc_length _)
 rw [← hO]
 exact ⟨A3, c3, Io, rfl, ⟨b9, o9, h9⟩, M.mask [] rfl⟩
theorem Tremolo_any (l : Lw) (A : Option Addr) (c : Nat) (LL : List LS) (G : Option Addr) (d : Nat) (g : List Int)  (w : World) (hA : Rd w w.heap.size 1 A LL.length (lsC LL)) (hE : ElsS w LL) (nL : LL.length ≤ 1000000) (nE : ∀ x ∈ LL, x.1.length ≤ 1000000) (hG : Rd w w.heap.size 1 G g.length (ic g)) (nG : g.length ≤ 1000000)  :
   Calls Tryz.prog 37 #[.agg #[Zi l.first, Zi l.step, Zi l.span, Zi l.press, .slice A LL.length c], .slice G g.length d] w (LEPost (tremE l (rowsOf LL) g).1 (tremE l (rowsOf LL) g).2 w) := by
 obtain ⟨bA, oA, SA⟩ := Sp.old hA
 obtain ⟨bG, oG, SG⟩ := Sp.old hG
 refine Zpx noEx Tryz.func37 rfl 39 rfl [.agg #[Zi l.first, Zi l.step, Zi l.span, Zi l.press, .slice A LL.length c], .slice G g.length d] rfl rfl (Mem.init w _) ?_
 intro ac wc T M
 refine Zsr ?_
 refine Zl2 ?_
 refine Zob M T rfl rfl rfl rfl (T.e 0 rfl) rfl ?_; clear M T; intro g1 wc ac M T
 refine Zg2 T (Zq (Zra rfl evc)) rfl (Zc rfl) rfl ?_; clear T ac; intro ac T
 replace T := T.pick [2, 4] rfl
 refine Zln ?_
 refine wp_seq ?_
 refine Zsr ?_
 refine Zg2 T (Zq (Zrr (Mem.nth M 0 rfl) rfl (T.e 0 rfl) rfl)) rfl (Zm 2 rfl rfl) rfl ?_; clear T ac; intro ac T
 refine Zl2 ?_
 refine Zoc (first := []) (cap := []) T rfl rfl rfl rfl evf (.cons (T.e 1 rfl) (.cons (T.e 0 rfl) .nil)) Tryz.func89 rfl rfl ?_
 refine Calls.mono (checkRegister_any l A c LL G d g _ (SA.rd M (Zz9 _)) (fun x hx => M.rd (hE x hx) (Nat.le_refl _)) (by omega) nE (SG.rd M (Zz9 _)) (by omega)) ?_
 clear T; rintro e wc ⟨rfl, hb⟩ ac T
 replace M := M.call hb; clear hb
 refine lq T (Zra rfl (T.e 0 rfl)) ?_; clear T ac; intro ac T
 replace T := T.pick [0, 4, 5] rfl
 refine Zln ?_
 refine Zsr ?_
 refine Zg2 T (Zq (Zrm rfl (T.e 0 rfl))) rfl (fun _ T => Zq (rn_neq rfl (T.e 0 rfl) evc)) rfl ?_; clear T ac; intro ac T
 replace T := T.pick [0, 2, 3, 4] rfl
 refine Zln ?_
 refine wp_ifn (T.e 0 rfl) ?_ ?_
 ·intro h1
  refine Zsr ?_
  refine Zg3 T (Zq (Zrm rfl (T.e 1 rfl))) rfl (Zc rfl) rfl (Za 1 rfl rfl) rfl ?_; clear T ac; intro ac T
  refine wpList_nil ?_
  replace T := T.pick [0, 1] rfl
  replace M := M.mask [false] rfl
  refine Znr ?_
  refine Zrt ?_
  refine rt_2 T rfl (T.e 1 rfl) (T.e 0 rfl) ?_
  have e9 : tremE l (rowsOf LL) g = ([], checkR l (rowsOf LL) g) := by unfold tremE; rw [if_neg (by simpa using h1)]
  rw [e9]
  exact LEPost.nil rfl M
 intro h1
 obtain ⟨gS, gR⟩ := checkR_good (l := l) (R := rowsOf LL) (g := g) (by simpa using h1)
 have hgL : ∀ r ∈ g, 0 ≤ r ∧ r < LL.length := fun r hr => by have := gR r hr; rw [show (rowsOf LL).length = LL.length by simp] at this; exact this
 have hNL : ∀ x ∈ LL, x.1.length = notesP (rowsOf LL) := fun x hx => (gS.rows x.1 (List.mem_map.2 ⟨x, hx, rfl⟩)).2.1
 have hN6 := gS.notes
 have ⟨gl1, gl2, gl3, gl4⟩ := gS.law
 refine Zsk ?_
 refine Zsr ?_
 refine Zg3 (v3 := (.agg #[Zi l.first, Zi l.step, Zi l.span, Zi l.press, .slice A LL.length c, .slice G g.length d])) T (Zq (Zrr (Mem.nth M 0 rfl) rfl (T.e 2 rfl) rfl)) rfl (Zm 4 rfl rfl) rfl (fun _ T => Zq (rn_build rfl (.cons (T.e 1 rfl) (.cons (T.e 0 rfl) .nil)) (fun _ => by kernel_rfl))) rfl ?_; clear T ac; intro ac T
 refine Zl2 ?_
 refine Zoa M T rfl rfl rfl rfl ?_; clear M T; intro g2 wc ac M T
 refine Zl2 ?_
 refine Zos M T rfl rfl (T.e 0 rfl) (T.e 1 rfl) rfl .head rfl (by simp) rfl (by kernel_rfl) ?_; clear M T; intro wc ac M T
 replace T := T.pick [0, 6] rfl
 refine Zln ?_
 refine Zsr ?_
 refine lq T (Zra rfl evc) ?_; clear T ac; intro ac T
 refine Zln ?_
 refine wp_seq ?_
 refine Zsr ?_
 refine lq T (Zrr (Mem.nth M 1 rfl) rfl (T.e 2 rfl) rfl) ?_; clear T ac; intro ac T
 refine Zl2 ?_
 refine Zoc (first := []) (cap := []) T rfl rfl rfl rfl evf (.cons (T.e 0 rfl) .nil) Tryz.func90 rfl rfl ?_
 refine Calls.mono (notes_any l A c LL _ (SA.rd M (Zz9 _)) (fun x hx => M.rd (hE x hx) (Nat.le_refl _)) (by omega) nE) ?_
 clear T; rintro e wc ⟨rfl, hb⟩ ac T
 replace M := M.call hb; clear hb
 refine lq T (Zrm rfl evc) ?_; clear T ac; intro ac T
 replace T := T.pick [0, 1, 3, 4, 5] rfl
 refine Zln ?_
 refine wp_block ?_
 refine wp_loop_n (fun mz ac wc => ∃ (k : Nat) (OL : List Int) (A3 : Option Addr) (c3 : Nat) (Io : List (Nat × BA)), mz = notesP (rowsOf LL) - k ∧ (k ≤ notesP (rowsOf LL)) ∧ (OL = (tremP l (rowsOf LL) g).take k) ∧ (OL.length = k) ∧ (Sl 3 1 (.slice A3 OL.length c3) OL.length (ic OL) Io) ∧ Tm ac 39 [(2, Zj g1), (7, Zj g2), (8, .slice A3 OL.length c3), (20, Zi ((notesP (rowsOf LL) : Nat) : Int)), (21, Zi (k : Int))] ∧ Mem w noEx wc ((g2, .cells [Zi l.first, Zi l.step, Zi l.span, Zi l.press, .slice A LL.length c, .slice G g.length d]) :: (g1, .cells [Zi l.first, Zi l.step, Zi l.span, Zi l.press, .slice A LL.length c]) :: Io)) ?_ ?_
 ·exact ⟨_, 0, [], none, 0, [], rfl, (Nat.zero_le _), rfl, rfl, (Sl.nil _ _), T.pick [4, 3, 2, 1, 0] rfl, M.mask [true, true] rfl⟩
 clear T M
 rintro mz ac wc ⟨k, OL, A3, c3, Io, hmm1, hk, hO, hOl, hsl, T, M⟩
 refine Zsr ?_
 refine lq T (rn_lss rfl (T.e 4 rfl) (T.e 3 rfl)) ?_; clear T ac; intro ac T
 refine Zln ?_
 refine wp_seq ?_
 refine wp_if (T.e 0 rfl) ?_ ?_
 ·intro h2
  have gd := gS.dues k (by omega)
  simp only [dueO, decide_eq_true_eq] at gd
  refine Zsk ?_
  refine wp_seq ?_
  refine wp_block ?_
  refine Zsr ?_
  refine Zg2 T (Zq (Zrm rfl (T.e 5 rfl))) rfl (Za 0 rfl rfl) rfl ?_; clear T ac; intro ac T
  replace T := T.pick [0, 3, 4, 5, 6, 7] rfl
  refine Zln ?_
  refine Zgs M (M.perm [0, 1] rfl rfl) 14 (by kernel_rfl) rfl (by kernel_rfl) ?_
  clear M; intro wc M
  refine gq T 0 1 rfl (fun _ _ _ _ _ => (Zrm rfl (T.e 3 rfl))) ?_; clear T ac; intro ac T
  refine gq (v := (Zj g1)) T 1 3 rfl (fun _ _ _ _ _ => (Zrf (off := 0) rfl (T.e 2 rfl) (fun _ _ _ => by kernel_rfl))) ?_; clear T ac; intro ac T
  refine gq T 2 7 rfl (fun B w' hD hl hS => (Zrr (Mem.nth (show Mem w noEx w' _ from hS) 1 rfl) rfl (T.e 0 rfl) rfl)) ?_; clear T ac; intro ac T
  refine gq (v := (Zj g1)) T 3 15 rfl (fun _ _ _ _ _ => (Zrf (off := 0) rfl (T.e 4 rfl) (fun _ _ _ => by kernel_rfl))) ?_; clear T ac; intro ac T
  refine gq T 4 31 rfl (fun B w' hD hl hS => (Zrr (Mem.nth (show Mem w noEx w' _ from hS) 1 rfl) rfl (T.e 0 rfl) rfl)) ?_; clear T ac; intro ac T
  refine gq T 5 63 rfl (fun _ _ _ _ _ => (Zrm rfl (T.e 5 rfl))) ?_; clear T ac; intro ac T
  refine gq T 7 191 rfl (fun B w' hD hl hS => (Zrr (Mem.nth (show Mem w noEx w' _ from hS) 0 rfl) rfl (T.e 8 rfl) rfl)) ?_; clear T ac; intro ac T
  refine gq T 8 447 rfl (fun _ _ _ _ _ => (Zrm rfl (T.e 7 rfl))) ?_; clear T ac; intro ac T
  refine gw 6 511 ?_; intro K hK
  refine Zoc (first := []) (cap := []) T rfl rfl rfl rfl evf (.cons (T.e 3 rfl) (.cons (T.e 2 rfl) .nil)) Tryz.func71 rfl rfl ?_
  refine Calls.mono (vdue_any l (k : Int) _ (by (try dsimp only); omega) (by (try dsimp only); omega) (by (try dsimp only); omega)) ?_
  clear T; rintro e wc ⟨rfl, hb⟩ ac T
  replace M := M.call hb; clear hb
  refine Zso hK _ _ (M.perm [0, 1] rfl rfl) ?_; clear hK K
  refine gw 9 1023 ?_; intro K hK
  refine Zoc (first := []) (cap := []) T rfl rfl rfl rfl evf (.cons (T.e 2 rfl) (.cons (T.e 1 rfl) .nil)) Tryz.func91 rfl rfl ?_
  refine Calls.mono (voices_any l A c LL G d g k _ (SA.rd M (Zz9 _)) (fun x hx => M.rd (hE x hx) (Nat.le_refl _)) (by omega) nE (SG.rd M (Zz9 _)) (by omega) hgL (by intro x hx; rw [hNL x hx]; omega)) ?_
  clear T; rintro e wc ⟨Au4, cu4, Iu4, rfl, SVu4, N⟩ ac T
  obtain ⟨bu4, ou4, SVu4⟩ := SVu4
  obtain ⟨lvu4, hlvu4⟩ : ∃ q, q = voicesP (rowsOf LL) g k := ⟨_, rfl⟩
  rw [← hlvu4] at SVu4
  have Su4 := SVu4 w noEx
  have nvu4 : lvu4.length = g.length := by rw [hlvu4]; simp [voicesP]
  have gvu4 : ∀ z ∈ lvu4, z.good := by rw [hlvu4]; exact voicesP_good gS gR (by omega)
  replace M := (M.join N).swapI
  clear N
  replace M : Mem w noEx wc ((g2, .cells [Zi l.first, Zi l.step, Zi l.span, Zi l.press, .slice A LL.length c, .slice G g.length d]) :: (g1, .cells [Zi l.first, Zi l.step, Zi l.span, Zi l.press, .slice A LL.length c]) :: (Iu4 ++ Io)) := Mem.spin [(g2, .cells [Zi l.first, Zi l.step, Zi l.span, Zi l.press, .slice A LL.length c, .slice G g.length d]), (g1, .cells [Zi l.first, Zi l.step, Zi l.span, Zi l.press, .slice A LL.length c])] Io Iu4 M
  rw [← hlvu4] at T
  refine Zso hK _ _ (M.perm [0, 1] rfl rfl) ?_; clear hK K
  refine gw 10 2047 ?_; intro K hK
  refine Zoc (first := []) (cap := []) T rfl rfl rfl rfl evf (.cons (T.e 7 rfl) (.cons (T.e 1 rfl) (.cons (T.e 0 rfl) .nil))) Tryz.func80 rfl rfl ?_
  refine Calls.mono (keeps_any l (l.first + l.step * (k : Int)) _ _ _ lvu4 _ (by (try dsimp only); omega) (by (try dsimp only); omega) (by (try dsimp only); omega) gvu4 (Su4.rd M (.cons _ (.cons _ (subL (List.Sublist.refl _))))) (by first | omega | (simp only [List.length_cons, List.length_nil]; omega))) ?_
  clear T; rintro e wc ⟨rfl, hb⟩ ac T
  replace M := M.call hb; clear hb
  refine Zso hK _ _ (M.perm [0, 1] rfl rfl) ?_; clear hK K
  refine gw 11 4095 ?_; intro K hK
  refine ow_bs (e := 3) [Zi (keepsP l (l.first + l.step * (k : Int)) lvu4)] M T rfl rfl rfl rfl (.cons (T.e 0 rfl) .nil) (fun _ => by kernel_rfl) ?_; clear M T; intro g3 wc ac M T
  refine Zso hK _ _ (M.perm [1, 2] rfl rfl) ?_; clear hK K
  refine gw 12 8191 ?_; intro K hK
  refine ow_app (((g3, .cells [Zi (keepsP l (l.first + l.step * (k : Int)) lvu4)]) :: (g2, .cells [Zi l.first, Zi l.step, Zi l.span, Zi l.press, .slice A LL.length c, .slice G g.length d]) :: (g1, .cells [Zi l.first, Zi l.step, Zi l.span, Zi l.press, .slice A LL.length c]) :: Iu4)) Tryz.info3 hsl M (by first | rfl | simp) T rfl rfl rfl rfl Tryz.underlying33 rfl rfl rfl (by omega) (T.e 11 rfl) (T.e 0 rfl) (Zne (i := 0) rfl) rfl rfl ?_; clear M T; intro ga1 cga1 wc ac M T
  refine Zso hK _ _ (M.perm [2, 3] rfl rfl) ?_; clear hK K
  refine g_q (v := (.slice (some ⟨ga1, 0, none⟩) (OL.length + 1) cga1)) (T := T.pick [0, 1, 2, 3, 4, 5, 6, 7, 8, 9, 10, 11, 12, 13, 14, 15, 17, 18] rfl) (i := 13) rfl (by kernel_rfl) (by kernel_rfl : (Zpb 14 8191).setIfInBounds 13 true = Zpb 14 16383) si_U (fun _ _ _ h => h) rfl rfl rfl rfl (fun _ _ _ _ _ => (Zra rfl (T.e 0 rfl))) ?_; clear T ac; intro ac T
  refine Zgd (by kernel_rfl) ?_
  replace T := T.pick [0, 15, 16, 17, 18] rfl
  replace M := M.mask [true, false, true, true] rfl
  refine Znb ?_
  refine nm_then ?_
  refine wp_region_lit ?_
  refine lq T (rn_add rfl (T.e 4 rfl) evc (by omega)) ?_; clear T ac; intro ac T
  refine l_q (v := (Zi ((k : Int) + 1))) (T.pick [0, 1, 2, 3, 4] rfl) rfl rfl rfl rfl (Zrm rfl (T.e 0 rfl)) ?_; clear T ac; intro ac T
  replace T := T.pick [0, 2, 3, 4, 5] rfl
  refine Zln ?_
  have e9 : OL.length + 1 = (OL ++ [(keepsP l (l.first + l.step * (k : Int)) lvu4)]).length := by simp
  have e8 : ((ic OL) ++ [Zi (keepsP l (l.first + l.step * (k : Int)) lvu4)]) = ic (OL ++ [(keepsP l (l.first + l.step * (k : Int)) lvu4)]) := by rw [← ic_snoc]
  rw [e9, e8] at M
  rw [e9] at T
  clear e9 e8
  exact ⟨_, by omega, k + 1, (OL ++ [(keepsP l (l.first + l.step * (k : Int)) lvu4)]), _, _, [(ga1, .row 3 1 (OL ++ [(keepsP l (l.first + l.step * (k : Int)) lvu4)]).length (ic (OL ++ [(keepsP l (l.first + l.step * (k : Int)) lvu4)])) cga1)], rfl, (by omega), (by rw [tremP_take (by omega), ← hO, hlvu4]), (by simp [hOl]), (Sl.row _ _ _ _ _ _), T.pick [2, 3, 1, 4, 0] rfl, ((M.permT [1, 2, 0] 3 rfl rfl rfl rfl).sub (Zsl ([(g2, .cells [Zi l.first, Zi l.step, Zi l.span, Zi l.press, .slice A LL.length c, .slice G g.length d]), (g1, .cells [Zi l.first, Zi l.step, Zi l.span, Zi l.press, .slice A LL.length c]), (ga1, .row 3 1 (OL ++ [(keepsP l (l.first + l.step * (k : Int)) lvu4)]).length (ic (OL ++ [(keepsP l (l.first + l.step * (k : Int)) lvu4)])) cga1)] : List (Nat × BA)) _))⟩
 intro h2
 rw [List.take_of_length_le (by rw [tremP_length]; omega)] at hO
 refine wp_exit ?_
 refine Zet ?_
 refine Zet ?_
 refine ex_hit ?_
 refine nm_then ?_
 refine Zsr ?_
 refine Zg3 T (Zq (Zrm rfl (T.e 3 rfl))) rfl (Za 0 rfl rfl) rfl (Zc rfl) rfl ?_; clear T ac; intro ac T
 refine wpList_nil ?_
 replace T := T.pick [0, 1] rfl
 replace M := M.mask [false, false] rfl
 refine Znr ?_
 refine rt_2 T rfl (T.e 1 rfl) (T.e 0 rfl) ?_
 have e9 : tremE l (rowsOf LL) g = (OL, 0) := by unfold tremE; rw [if_pos (by simpa using h1), hO]
 rw [e9]
 obtain ⟨b9, o9, h9⟩ := hsl.spV (by rw [ic_length]; omega)
 exact ⟨A3, c3, Io, rfl, by show OL.length ≤ 6; omega, ⟨b9, o9, h9⟩, M.mask [] rfl⟩
abbrev gmA (j : Jb) (A : Option Addr) (c : Nat) (s0 s1 : Int) (bg bx : Nat) : List Value := [Zi j.p0, Zi j.p1, Zi j.t0, Zi j.t1, Zi j.r0, Zi j.r1, Zi j.u0, Zi j.u1, Zi j.d0, Zi j.d1, Zi j.a0, Zi j.a1, Zi j.b0, Zi j.b1, Zi j.le, .slice A j.sh.length c, Zi j.wi, Zi j.me, Zi s0, Zi s1, .func (.func 138) #[] #[Zj bg, Zj bx]]
def PlayPost (j : Jb) (A : Option Addr) (c : Nat) (s0 s1 : Int) (ok : Value → Value → Prop) (w : World) (e : Ending) (w' : World) : Prop :=
 ∃ bg bx bm, e = .returned (.agg (gmA j A c s0 s1 bg bx).toArray) ∧ Mem w noEx w' [(bx, .cells [.map (some bm)]), (bm, .any (memoQ Tryz.prog 165 ok)), (bg, .cells (gmA j A c s0 s1 bg bx))]
theorem play_any (ok : Value → Value → Prop) (j : Jb) (A : Option Addr) (c : Nat) (w : World) (hj : j.ok) (hr : Rd w w.heap.size 2 A j.sh.length (rc j.sh)) :
  Calls Tryz.prog 127 #[jobV j A c] w (PlayPost j A c (winS j).1 (winS j).2 ok w) := by
 have HR := Lib.hid hr
 have HJ := Lib.hid hj
 clear hr hj
 go_enter Tryz.func127, Tryz.ntmps127
 refine start noEx ?_
 intro wc M
 go_wp2_with (first | (refine m_ld1 M rfl rfl rfl (by (repeat' (first | exact Zz2 | refine Zz1 ?_))) (by rfl) ?_) | (refine m_ldr M rfl rfl rfl (by (repeat' (first | exact Zz2 | refine Zz1 ?_))) (by (try simp only [Zy2, List.take_zero, List.take_nil, Zy1, List.drop_zero, List.drop_nil, List.cons_append, List.nil_append, List.append_nil, List.length_cons, List.length_nil, Nat.reduceAdd, Nat.zero_add, Nat.add_zero]); rfl) (by rfl) ?_) | (refine m_st M rfl rfl rfl (by first | exact (rfl : _ = Value.agg _) | exact (rfl : _ = Value.int _ _) | exact (rfl : _ = Value.bool _) | exact (rfl : _ = Value.slice _ _ _) | exact (rfl : _ = Value.pointer _) | exact (rfl : _ = Value.map _) | exact (rfl : _ = Value.func _ _ _) | exact (rfl : _ = Value.string _)) (by rfl) (by (repeat (first | exact Upd.head | apply Upd.tail))) (by (try simp only [Zy2, List.take_zero, List.take_nil, Zy1, List.drop_zero, List.drop_nil, List.cons_append, List.nil_append, List.append_nil, List.length_cons, List.length_nil, Nat.reduceAdd, Nat.zero_add, Nat.add_zero]); rfl) (by simp) (by simp [Value.oneCell']) (by kernel_rfl) ?_; clear M; (try clear wc); intro wc M) | (refine m_al M rfl rfl ?_; clear M; (try clear wc); intro g wc M) | (refine m_bx M rfl rfl (by first | exact (rfl : _ = Value.agg _) | exact (rfl : _ = Value.int _ _) | exact (rfl : _ = Value.bool _) | exact (rfl : _ = Value.slice _ _ _) | exact (rfl : _ = Value.pointer _) | exact (rfl : _ = Value.map _) | exact (rfl : _ = Value.func _ _ _) | exact (rfl : _ = Value.string _)) (by rfl) ?_; clear M; (try clear wc); intro g wc M) | (go_at_call 137; ((with_reducible refine (windows_any j _ _ _ HJ.out ?_).mono ?_); (exact M.rd HR.out (Nat.le_refl _)); rintro e wc ⟨rfl, hb⟩; replace M := M.call hb; clear hb)) | (refine mm ok Tryz.underlying174 M rfl rfl ?_; clear M; (try clear wc); intro g wc M))
 refine ret_M (t := 2) (ty := 160) M rfl rfl rfl (by (repeat' (first | exact Zz2 | refine Zz1 ?_))) (by rfl) ?_
 rename_i g5 g4 wq g3 g2 g1 g0
 exact ⟨g1, g, g0, rfl, M.sub (by (repeat (first | exact List.Sublist.slnil | apply List.Sublist.cons_cons | apply List.Sublist.cons)))⟩
section
open Go.RowKit Go.Shelf
attribute [local go_sem] Oper.semAt_some
def rdg (p0 p1 m : Int) (k : Nat) : Int × Int := mstep (p0, p1) (p0 - m + k - m, p0 - m + k + m)
def rdN (p0 p1 m : Int) : Nat := (p1 + m - (p0 - m) + 1).toNat
def rdgs (p0 p1 m : Int) : List (Int × Int) := (List.range (rdN p0 p1 m)).map (rdg p0 p1 m)
theorem rdgs_length (p0 p1 m : Int) : (rdgs p0 p1 m).length = rdN p0 p1 m := by simp [rdgs]
theorem rdgs_take (p0 p1 m : Int) (k : Nat) (h : k < rdN p0 p1 m) : (rdgs p0 p1 m).take (k + 1) = (rdgs p0 p1 m).take k ++ [rdg p0 p1 m k] := by
 rw [List.take_succ_eq_append_getElem (by rw [rdgs_length]; exact h)]
 simp [rdgs]
theorem rdg_bd {p0 p1 m B : Int} {k : Nat} (h : k < rdN p0 p1 m) (h0 : -B ≤ p0 ∧ p0 ≤ B) (h1 : -B ≤ p1 ∧ p1 ≤ B) (hm : 0 ≤ m) : (-B ≤ (rdg p0 p1 m k).1 ∧ (rdg p0 p1 m k).1 ≤ B) ∧ (-B ≤ (rdg p0 p1 m k).2 ∧ (rdg p0 p1 m k).2 ≤ B) := by
 unfold rdN at h
 unfold rdg mstep
 refine ⟨?_, ?_⟩
 · dsimp only; split <;> omega
 · dsimp only; split <;> omega
abbrev Rg (B : Int) := { x : Int × Int // (-B ≤ x.1 ∧ x.1 ≤ B) ∧ (-B ≤ x.2 ∧ x.2 ≤ B) }
def Kp (n0 bm : Nat) (W W' : World) : Prop := W.heap.size ≤ W'.heap.size ∧ ∀ b, b < n0 → b ≠ bm → W'.heap[b]? = W.heap[b]?
theorem Kp.t {n0 bm : Nat} {A B C : World} (h : Kp n0 bm A B) (k : Kp n0 bm B C) : Kp n0 bm A C := ⟨Nat.le_trans h.1 k.1, fun b hb hx => (k.2 b hb hx).trans (h.2 b hb hx)⟩
theorem Kp.bk {n0 bm g : Nat} {W W' : World} {cs : Array Value} (h : Kp n0 bm W W') (hB : Bk W g cs) (hg : g < n0) (hx : g ≠ bm) : Bk W' g cs :=
 ⟨Nat.lt_of_lt_of_le hB.lt h.1, fun o => (World.cell?_of_block (w := W) (a := ⟨g, o, none⟩) (h.2 g hg hx)).trans (hB.cell o), fun o => (World.frozen?_of_block (w := W) (a := ⟨g, o, none⟩) (h.2 g hg hx)).trans (hB.frozen o)⟩
theorem grown_of_below {w w' : World} (h : Below w.heap.size w w') : w.grownBy w' none := ⟨h.os, h.tape, h.output, h.size, fun k hk _ => h.block k hk⟩
theorem meet_one (p0 p1 m : Int) (k c g : Nat) (w : World) (hr : Rd w w.heap.size 2 (some ⟨g, 0, none⟩) 1 (rc [(p0 - m + (k : Int) - m, p0 - m + (k : Int) + m)])) :
  Calls Tryz.prog 142 #[R2 p0 p1, .slice (some ⟨g, 0, none⟩) 1 c] w fun e w' => e = .returned (R2 (rdg p0 p1 m k).1 (rdg p0 p1 m k).2) ∧ Below w.heap.size w w' :=
 meet_any p0 p1 _ 1 c [(p0 - m + (k : Int) - m, p0 - m + (k : Int) + m)] w hr (by omega)
theorem readings1_in (n : Nat) (hn : 2 ≤ n) (l b1 b2 n0 bm : Nat) (p0 p1 m B : Int) (hB0 : 0 ≤ B) (hB1 : B ≤ 100000) (h0 : -B ≤ p0 ∧ p0 ≤ B) (h1 : -B ≤ p1 ∧ p1 ≤ B) (hm0 : 0 ≤ m) (hm1 : m ≤ 100) (hb1 : b1 < n0) (hb2 : b2 < n0) (hx1 : b1 ≠ bm) (hx2 : b2 ≠ bm)
   (J Jx : List (Rg B) → World → Prop) (W : World) (hJ : AbidesFrom W.heap.size J)
   (hY : ∀ pre x W1, J pre W1 → pre.length < rdN p0 p1 m → YieldAt Fence.wide (n - 1) Tryz.prog l #[R2 x.1.1 x.1.2] W1 fun e W' =>
     (e = .returned (.bool true) ∧ J (pre ++ [x]) W' ∧ Kp n0 bm W1 W') ∨ (e = .returned (.bool false) ∧ Jx (pre ++ [x]) W'))
   (q1 : Bk W b1 #[Zi p0, Zi p1]) (q2 : Bk W b2 #[Zi m]) (hJ0 : J [] W) :
   CallsIn Fence.wide n Tryz.prog 144 #[.func (.yield l) #[] #[], Zj b1, Zj b2] W fun e W' => (∃ v, e = .returned v) ∧
     ((∃ xs : List (Rg B), xs.map (·.1) = rdgs p0 p1 m ∧ J xs W') ∨ (∃ pre : List (Rg B), pre.map (·.1) <+: rdgs p0 p1 m ∧ Jx pre W')) := by
 refine callsIn_of_wp Tryz.func144 rfl trivial ?_ rfl
 simp only [Tryz.ntmps144, List.size_toArray, List.length_cons, List.length_nil, Nat.reduceAdd, Nat.reduceSub, Array.replicate_succ, Array.replicate_zero, List.push_toArray, List.append_toArray, List.nil_append, List.cons_append]
 have c1 := q1.cell
 have c2 := q2.cell
 have hn1 : 1 ≤ n := by omega
 gi_wp2
 gi_loopw [4] (fun v wr => ∃ (k : Nat) (pre : List (Rg B)), k ≤ rdN p0 p1 m ∧ v = Zi (p0 - m + (k : Int)) ∧ Hid (pre.map (·.1) = (rdgs p0 p1 m).take k) ∧ Bk wr b1 #[Zi p0, Zi p1] ∧ Bk wr b2 #[Zi m] ∧ W.heap.size ≤ wr.heap.size ∧ J pre wr) (fun v _ => (p1 + m + 1 - intOf v).toNat)
 case atStart => exact ⟨0, [], Nat.zero_le _, by simp, by (show _ = _; simp), q1, q2, Nat.le_refl _, hJ0⟩
 case round =>
   clear c1 c2
   obtain ⟨k, pre, hk, rfl, hpre, r1, r2, hz, hj⟩ := hrel
   have c1 := r1.cell
   have c2 := r2.cell
   have z1 := r1.lt
   have z2 := r2.lt
   by_cases hlt : k < rdN p0 p1 m
   · have hle : p0 - m + (k : Int) ≤ p1 + m := by unfold rdN at hlt; omega
     have HX := Lib.hid (rdg_bd hlt h0 h1 hm0)
     have HT := Lib.hid (rdgs_take p0 p1 m k hlt)
     have hm2 := Lib.hid hlt
     clear hlt
     have hlen : pre.length < rdN p0 p1 m := by
       have h2 := congrArg List.length hpre.out
       rw [List.length_map, List.length_take, rdgs_length] at h2
       have h3 := hm2.out
       omega
     gi_wp2_with (first | (refine ⟨trivial, ?_⟩; gi_at_call 142; refine (callsIn_wide.2 (meet_one p0 p1 m k _ _ _ ?_)).mono ?_; (exact Rd.new _ _ _ _ _ _ rfl (by simp [rc])); rintro e w1 ⟨rfl, hb⟩; have r3 := (r1.alloc _).below hb; have r4 := (r2.alloc _).below hb; have hz3 : W.heap.size ≤ w1.heap.size := (by have := hb.size; simp at this; omega); have j3 := hJ _ _ _ none (hJ _ _ _ none hj (World.grownBy_alloc wr _ none) (fun r e => by cases e)) (grown_of_below hb) (fun r e => by cases e); clear hb; obtain ⟨fn, tmps, assign, body, hy, hR⟩ := hY pre ⟨rdg p0 p1 m k, HX.out⟩ w1 j3 hlen; dsimp only at hy))
     refine hR.mono ?_
     have HS : Hid ((pre ++ [(⟨rdg p0 p1 m k, HX.out⟩ : Rg B)]).map (·.1) = (rdgs p0 p1 m).take (k + 1)) := by (show _ = _; rw [List.map_append, hpre.out, HT.out]; rfl)
     rintro e W3 (⟨rfl, hJ3, hk3⟩ | ⟨rfl, hJx3⟩)
     · have r5 := hk3.bk r3 hb1 hx1
       have r6 := hk3.bk r4 hb2 hx2
       have hz5 : W.heap.size ≤ W3.heap.size := Nat.le_trans hz3 hk3.1
       clear hY hy hR
       gi_wp2
       go_roundw
       case rel => exact ⟨k + 1, _, hm2.out, by go_num, HS, r5, r6, hz5, hJ3⟩
       case measure => simp [intOf]; omega
     · clear hY hy hR
       gi_wp2
       refine bodyPost_ret (results_none rfl _ _ _) rfl ?_
       exact ⟨⟨_, rfl⟩, .inr ⟨_, by rw [HS.out]; exact List.take_prefix _ _, hJx3⟩⟩
   · have hle : ¬ p0 - m + (k : Int) ≤ p1 + m := by unfold rdN at hlt; omega
     gi_wp2
     go_end0
     exact ⟨⟨_, rfl⟩, .inl ⟨pre, by rw [hpre.out, List.take_of_length_le (by rw [rdgs_length]; omega)], hj⟩⟩
theorem readings_stops (n : Nat) (hn : 2 ≤ n) (b1 b2 n0 bm : Nat) (p0 p1 m B : Int) (hB0 : 0 ≤ B) (hB1 : B ≤ 100000) (h0 : -B ≤ p0 ∧ p0 ≤ B) (h1 : -B ≤ p1 ∧ p1 ≤ B) (hm0 : 0 ≤ m) (hm1 : m ≤ 100) (hb1 : b1 < n0) (hb2 : b2 < n0) (hx1 : b1 ≠ bm) (hx2 : b2 ≠ bm) (w : World)
   (q1 : Bk w b1 #[Zi p0, Zi p1]) (q2 : Bk w b2 #[Zi m]) :
   SeqStopsK (α := Rg B) Fence.wide n Tryz.prog 144 #[Zj b1, Zj b2] (fun x => #[R2 x.1.1 x.1.2]) (Kp n0 bm) (fun xs => xs.map (·.1) = rdgs p0 p1 m) (fun pre => pre.map (·.1) <+: rdgs p0 p1 m) (rdN p0 p1 m) w :=
 fun l J Jx W hW hJ _ hY hJ0 => readings1_in n hn l b1 b2 n0 bm p0 p1 m B hB0 hB1 h0 h1 hm0 hm1 hb1 hb2 hx1 hx2 J Jx W hJ hY (q1.below hW) (q2.below hW) hJ0
set_option maxHeartbeats 400000 in
theorem readings_any (p0 p1 m : Int) (w : World) :
  Calls Tryz.prog 141 #[R2 p0 p1, Zi m] w fun e w' => ∃ b1 b2, e = .returned (.func (.func 144) #[] #[Zj b1, Zj b2]) ∧ Mem w noEx w' [(b2, .cells [Zi m]), (b1, .cells [Zi p0, Zi p1])] := by
 go_enter Tryz.func141, Tryz.ntmps141
 refine start noEx ?_
 intro wc M
 go_wp2_with (first | (refine m_ld1 M rfl rfl rfl (by (repeat' (first | exact Zz2 | refine Zz1 ?_))) (by rfl) ?_) | (refine m_ldr M rfl rfl rfl (by (repeat' (first | exact Zz2 | refine Zz1 ?_))) (by (try simp only [Zy2, List.take_zero, List.take_nil, Zy1, List.drop_zero, List.drop_nil, List.cons_append, List.nil_append, List.append_nil, List.length_cons, List.length_nil, Nat.reduceAdd, Nat.zero_add, Nat.add_zero]); rfl) (by rfl) ?_) | (refine m_st M rfl rfl rfl (by first | exact (rfl : _ = Value.agg _) | exact (rfl : _ = Value.int _ _) | exact (rfl : _ = Value.bool _) | exact (rfl : _ = Value.slice _ _ _) | exact (rfl : _ = Value.pointer _) | exact (rfl : _ = Value.map _) | exact (rfl : _ = Value.func _ _ _) | exact (rfl : _ = Value.string _)) (by rfl) (by (repeat (first | exact Upd.head | apply Upd.tail))) (by (try simp only [Zy2, List.take_zero, List.take_nil, Zy1, List.drop_zero, List.drop_nil, List.cons_append, List.nil_append, List.append_nil, List.length_cons, List.length_nil, Nat.reduceAdd, Nat.zero_add, Nat.add_zero]); rfl) (by simp) (by simp [Value.oneCell']) (by kernel_rfl) ?_; clear M; (try clear wc); intro wc M) | (refine m_al M rfl rfl ?_; clear M; (try clear wc); intro g wc M) | (refine m_bx M rfl rfl (by first | exact (rfl : _ = Value.agg _) | exact (rfl : _ = Value.int _ _) | exact (rfl : _ = Value.bool _) | exact (rfl : _ = Value.slice _ _ _) | exact (rfl : _ = Value.pointer _) | exact (rfl : _ = Value.map _) | exact (rfl : _ = Value.func _ _ _) | exact (rfl : _ = Value.string _)) (by rfl) ?_; clear M; (try clear wc); intro g wc M))
 go_ret
 exact ⟨_, _, rfl, M⟩
end
def thinJ (j : Jb) (p0 p1 t r : Int) : St := ⟨p0, p1, j.t0 - t * j.a1, j.t1 - t * j.a0, j.r0 - r * j.b1, j.r1 - r * j.b0, j.u0, j.u1, j.d0, j.d1, j.a0, j.a1, j.b0, j.b1, j.le⟩
def okT (j : Jb) (t r : Int) : Bool := (thinJ j 0 0 t r).spoiled == 2
abbrev kn5 (p0 p1 t r lf : Int) : Value := .agg #[Zi p0, Zi p1, Zi t, Zi r, Zi lf]
theorem mul_bd {i a : Int} (h0 : 0 ≤ i) (h1 : i ≤ 2000) (h2 : 0 ≤ a) (h3 : a ≤ 12) : 0 ≤ i * a ∧ i * a ≤ 24000 := by
 refine ⟨Int.mul_nonneg h0 h2, ?_⟩
 have := Int.mul_le_mul h1 h3 h2 (by omega : (0 : Int) ≤ 2000)
 omega
theorem mul_suc (i a : Int) : (i + 1) * a = i * a + a := by rw [Int.add_mul]; omega
theorem filed_tip_x (p0 p1 t0 t1 r0 r1 u0 u1 d0 d1 a0 a1 b0 b1 le : Int) (w : World) (h : St.ok ⟨p0, p1, t0, t1, r0, r1, u0, u1, d0, d1, a0, a1, b0, b1, le⟩) :
  Calls Tryz.prog 145 #[.agg #[Zi p0, Zi p1, Zi t0, Zi t1, Zi r0, Zi r1, Zi u0, Zi u1, Zi d0, Zi d1, Zi a0, Zi a1, Zi b0, Zi b1, Zi le], Zi 1] w fun e w' => e = .returned (.agg #[Zi (p0 + u0), Zi (p1 + u1), Zi (t0 - a1), Zi (t1 - a0), Zi r0, Zi r1, Zi u0, Zi u1, Zi d0, Zi d1, Zi a0, Zi a1, Zi b0, Zi b1, Zi le]) ∧ Below w.heap.size w w' := filed_tip ⟨p0, p1, t0, t1, r0, r1, u0, u1, d0, d1, a0, a1, b0, b1, le⟩ w h
theorem filed_root_x (p0 p1 t0 t1 r0 r1 u0 u1 d0 d1 a0 a1 b0 b1 le : Int) (w : World) (h : St.ok ⟨p0, p1, t0, t1, r0, r1, u0, u1, d0, d1, a0, a1, b0, b1, le⟩) :
  Calls Tryz.prog 145 #[.agg #[Zi p0, Zi p1, Zi t0, Zi t1, Zi r0, Zi r1, Zi u0, Zi u1, Zi d0, Zi d1, Zi a0, Zi a1, Zi b0, Zi b1, Zi le], Zi 2] w fun e w' => e = .returned (.agg #[Zi (p0 - d1), Zi (p1 - d0), Zi t0, Zi t1, Zi (r0 - b1), Zi (r1 - b0), Zi u0, Zi u1, Zi d0, Zi d1, Zi a0, Zi a1, Zi b0, Zi b1, Zi le]) ∧ Below w.heap.size w w' := filed_root ⟨p0, p1, t0, t1, r0, r1, u0, u1, d0, d1, a0, a1, b0, b1, le⟩ w h
set_option maxHeartbeats 2000000 in
theorem moved_tip (j : Jb) (A : Option Addr) (c : Nat) (s0 s1 : Int) (bg bx : Nat) (p0 p1 t r lf : Int) (w : World) (hg : j.good) (hp0 : -100000 ≤ p0 ∧ p0 ≤ 100000) (hp1 : -100000 ≤ p1 ∧ p1 ≤ 100000) (ht : 0 ≤ t ∧ t ≤ 1000) (hr : 0 ≤ r ∧ r ≤ 1000) (hl : 1 ≤ lf ∧ lf ≤ 1000) :
   Calls Tryz.prog 143 #[.agg (gmA j A c s0 s1 bg bx).toArray, kn5 p0 p1 t r lf, Zi 1] w fun e w' => e = .returned (.tuple #[kn5 (p0 + j.u0) (p1 + j.u1) (t + 1) r (lf - 1), .bool (okT j (t + 1) (r))]) ∧ Below w.heap.size w w' := by
 obtain ⟨g1, g2, g3, g4, g5, g6, g7, g8, -, -, -, -⟩ := hg
 go_enter Tryz.func143, Tryz.ntmps143
 refine start noEx ?_
 intro wc M
 go_wp2_with (first | (refine m_ld1 M rfl rfl rfl (by (repeat' (first | exact Zz2 | refine Zz1 ?_))) (by rfl) ?_) | (refine m_ldr M rfl rfl rfl (by (repeat' (first | exact Zz2 | refine Zz1 ?_))) (by (try simp only [Zy2, List.take_zero, List.take_nil, Zy1, List.drop_zero, List.drop_nil, List.cons_append, List.nil_append, List.append_nil, List.length_cons, List.length_nil, Nat.reduceAdd, Nat.zero_add, Nat.add_zero]); rfl) (by rfl) ?_) | (refine m_st M rfl rfl rfl (by first | exact (rfl : _ = Value.agg _) | exact (rfl : _ = Value.int _ _) | exact (rfl : _ = Value.bool _) | exact (rfl : _ = Value.slice _ _ _) | exact (rfl : _ = Value.pointer _) | exact (rfl : _ = Value.map _) | exact (rfl : _ = Value.func _ _ _) | exact (rfl : _ = Value.string _)) (by rfl) (by (repeat (first | exact Upd.head | apply Upd.tail))) (by (try simp only [Zy2, List.take_zero, List.take_nil, Zy1, List.drop_zero, List.drop_nil, List.cons_append, List.nil_append, List.append_nil, List.length_cons, List.length_nil, Nat.reduceAdd, Nat.zero_add, Nat.add_zero]); rfl) (by simp) (by simp [Value.oneCell']) (by kernel_rfl) ?_; clear M; (try clear wc); intro wc M) | (refine m_al M rfl rfl ?_; clear M; (try clear wc); intro g wc M) | (refine m_bx M rfl rfl (by first | exact (rfl : _ = Value.agg _) | exact (rfl : _ = Value.int _ _) | exact (rfl : _ = Value.bool _) | exact (rfl : _ = Value.slice _ _ _) | exact (rfl : _ = Value.pointer _) | exact (rfl : _ = Value.map _) | exact (rfl : _ = Value.func _ _ _) | exact (rfl : _ = Value.string _)) (by rfl) ?_; clear M; (try clear wc); intro g wc M) | (go_at_call 145; ((with_reducible refine (filed_tip_x p0 p1 j.t0 j.t1 j.r0 j.r1 j.u0 j.u1 j.d0 j.d1 j.a0 j.a1 j.b0 j.b1 j.le _ ?_).mono ?_); (constructor <;> dsimp only <;> omega); rintro e wc ⟨rfl, hb⟩; replace M := M.call hb; clear hb)))
 rename_i gG gK gR gS wq K0 hK0
 go_loopw [44] (fun v wr => ∃ i : Int, 0 ≤ i ∧ i ≤ t + 1 ∧ v = Zi i ∧ Mem w noEx wr [(gS, .cells [Zi p0, Zi p1, Zi (j.t0 - i * j.a1), Zi (j.t1 - i * j.a0), Zi (j.r0 - 0 * j.b1), Zi (j.r1 - 0 * j.b0), Zi j.u0, Zi j.u1, Zi j.d0, Zi j.d1, Zi j.a0, Zi j.a1, Zi j.b0, Zi j.b1, Zi j.le]), (gR, .cells [Zi 0, Zi 0, Zi 0, Zi 0, Zi 0]), (gK, .cells [Zi (p0 + j.u0), Zi (p1 + j.u1), Zi (t + 1), Zi (r), Zi (lf - 1)])]) (fun v _ => (t + 1 - intOf v).toNat)
 case atStart => exact ⟨0, by omega, by omega, rfl, by simp only [Int.zero_mul, Int.sub_zero]; exact M.sub (by (repeat (first | exact List.Sublist.slnil | apply List.Sublist.cons_cons | apply List.Sublist.cons)))⟩
 case round =>
   clear M wc
   obtain ⟨i, hi0, hi1, rfl, M⟩ := hrel
   obtain ⟨wc, rfl⟩ : ∃ x : World, x = wr := ⟨_, rfl⟩
   have m1 := mul_bd hi0 (by omega) (by omega : 0 ≤ j.a1) (by omega)
   have m2 := mul_bd hi0 (by omega) (by omega : 0 ≤ j.a0) (by omega)
   by_cases hlt : i < t + 1
   · have e1 := mul_suc i j.a1
     have e2 := mul_suc i j.a0
     have E : Hid (Value.int .i64 (j.t0 - i * j.a1 - j.a1) = Zi (j.t0 - (i + 1) * j.a1) ∧ Value.int .i64 (j.t1 - i * j.a0 - j.a0) = Zi (j.t1 - (i + 1) * j.a0)) := ⟨by rw [e1]; congr 1; omega, by rw [e2]; congr 1; omega⟩
     clear e1 e2
     go_wp2_with (first | (refine m_ld1 M rfl rfl rfl (by (repeat' (first | exact Zz2 | refine Zz1 ?_))) (by rfl) ?_) | (refine m_ldr M rfl rfl rfl (by (repeat' (first | exact Zz2 | refine Zz1 ?_))) (by (try simp only [Zy2, List.take_zero, List.take_nil, Zy1, List.drop_zero, List.drop_nil, List.cons_append, List.nil_append, List.append_nil, List.length_cons, List.length_nil, Nat.reduceAdd, Nat.zero_add, Nat.add_zero]); rfl) (by rfl) ?_) | (refine m_st M rfl rfl rfl (by first | exact (rfl : _ = Value.agg _) | exact (rfl : _ = Value.int _ _) | exact (rfl : _ = Value.bool _) | exact (rfl : _ = Value.slice _ _ _) | exact (rfl : _ = Value.pointer _) | exact (rfl : _ = Value.map _) | exact (rfl : _ = Value.func _ _ _) | exact (rfl : _ = Value.string _)) (by rfl) (by (repeat (first | exact Upd.head | apply Upd.tail))) (by (try simp only [Zy2, List.take_zero, List.take_nil, Zy1, List.drop_zero, List.drop_nil, List.cons_append, List.nil_append, List.append_nil, List.length_cons, List.length_nil, Nat.reduceAdd, Nat.zero_add, Nat.add_zero]); rfl) (by simp) (by simp [Value.oneCell']) (by kernel_rfl) ?_; clear M; (try clear wc); intro wc M) | (refine m_al M rfl rfl ?_; clear M; (try clear wc); intro g wc M) | (refine m_bx M rfl rfl (by first | exact (rfl : _ = Value.agg _) | exact (rfl : _ = Value.int _ _) | exact (rfl : _ = Value.bool _) | exact (rfl : _ = Value.slice _ _ _) | exact (rfl : _ = Value.pointer _) | exact (rfl : _ = Value.map _) | exact (rfl : _ = Value.func _ _ _) | exact (rfl : _ = Value.string _)) (by rfl) ?_; clear M; (try clear wc); intro g wc M) | (go_at_call 146; ((with_reducible refine (less_any _ _ _ _ _ (by omega) (by omega) (by omega) (by omega)).mono ?_); skip; rintro e wc ⟨rfl, hb⟩; replace M := M.call hb; clear hb)))
     go_roundw
     case rel => exact ⟨i + 1, by omega, by omega, rfl, by rw [E.out.1, E.out.2] at M; exact M⟩
     case measure => simp [intOf]; omega
   · have ei : t + 1 = i := (by omega); subst ei
     go_wp2_with (first | (refine m_ld1 M rfl rfl rfl (by (repeat' (first | exact Zz2 | refine Zz1 ?_))) (by rfl) ?_) | (refine m_ldr M rfl rfl rfl (by (repeat' (first | exact Zz2 | refine Zz1 ?_))) (by (try simp only [Zy2, List.take_zero, List.take_nil, Zy1, List.drop_zero, List.drop_nil, List.cons_append, List.nil_append, List.append_nil, List.length_cons, List.length_nil, Nat.reduceAdd, Nat.zero_add, Nat.add_zero]); rfl) (by rfl) ?_) | (refine m_st M rfl rfl rfl (by first | exact (rfl : _ = Value.agg _) | exact (rfl : _ = Value.int _ _) | exact (rfl : _ = Value.bool _) | exact (rfl : _ = Value.slice _ _ _) | exact (rfl : _ = Value.pointer _) | exact (rfl : _ = Value.map _) | exact (rfl : _ = Value.func _ _ _) | exact (rfl : _ = Value.string _)) (by rfl) (by (repeat (first | exact Upd.head | apply Upd.tail))) (by (try simp only [Zy2, List.take_zero, List.take_nil, Zy1, List.drop_zero, List.drop_nil, List.cons_append, List.nil_append, List.append_nil, List.length_cons, List.length_nil, Nat.reduceAdd, Nat.zero_add, Nat.add_zero]); rfl) (by simp) (by simp [Value.oneCell']) (by kernel_rfl) ?_; clear M; (try clear wc); intro wc M) | (refine m_al M rfl rfl ?_; clear M; (try clear wc); intro g wc M) | (refine m_bx M rfl rfl (by first | exact (rfl : _ = Value.agg _) | exact (rfl : _ = Value.int _ _) | exact (rfl : _ = Value.bool _) | exact (rfl : _ = Value.slice _ _ _) | exact (rfl : _ = Value.pointer _) | exact (rfl : _ = Value.map _) | exact (rfl : _ = Value.func _ _ _) | exact (rfl : _ = Value.string _)) (by rfl) ?_; clear M; (try clear wc); intro g wc M))
     go_loopw [58] (fun v wr => ∃ i : Int, 0 ≤ i ∧ i ≤ r ∧ v = Zi i ∧ Mem w noEx wr [(gS, .cells [Zi p0, Zi p1, Zi (j.t0 - (t + 1) * j.a1), Zi (j.t1 - (t + 1) * j.a0), Zi (j.r0 - i * j.b1), Zi (j.r1 - i * j.b0), Zi j.u0, Zi j.u1, Zi j.d0, Zi j.d1, Zi j.a0, Zi j.a1, Zi j.b0, Zi j.b1, Zi j.le]), (gR, .cells [Zi 0, Zi 0, Zi 0, Zi 0, Zi 0]), (gK, .cells [Zi (p0 + j.u0), Zi (p1 + j.u1), Zi (t + 1), Zi (r), Zi (lf - 1)])]) (fun v _ => (r - intOf v).toNat)
     case atStart => exact ⟨0, by omega, by omega, rfl, by simp only [Int.zero_mul, Int.sub_zero] at M ⊢; exact M⟩
     case round =>
       clear M wc
       obtain ⟨i, hi0, hi1, rfl, M⟩ := hrel
       obtain ⟨wc, rfl⟩ : ∃ x : World, x = wr := ⟨_, rfl⟩
       have m3 := mul_bd hi0 (by omega) (by omega : 0 ≤ j.b1) (by omega)
       have m4 := mul_bd hi0 (by omega) (by omega : 0 ≤ j.b0) (by omega)
       by_cases hlt : i < r
       · have e1 := mul_suc i j.b1
         have e2 := mul_suc i j.b0
         have E : Hid (Value.int .i64 (j.r0 - i * j.b1 - j.b1) = Zi (j.r0 - (i + 1) * j.b1) ∧ Value.int .i64 (j.r1 - i * j.b0 - j.b0) = Zi (j.r1 - (i + 1) * j.b0)) := ⟨by rw [e1]; congr 1; omega, by rw [e2]; congr 1; omega⟩
         clear e1 e2
         go_wp2_with (first | (refine m_ld1 M rfl rfl rfl (by (repeat' (first | exact Zz2 | refine Zz1 ?_))) (by rfl) ?_) | (refine m_ldr M rfl rfl rfl (by (repeat' (first | exact Zz2 | refine Zz1 ?_))) (by (try simp only [Zy2, List.take_zero, List.take_nil, Zy1, List.drop_zero, List.drop_nil, List.cons_append, List.nil_append, List.append_nil, List.length_cons, List.length_nil, Nat.reduceAdd, Nat.zero_add, Nat.add_zero]); rfl) (by rfl) ?_) | (refine m_st M rfl rfl rfl (by first | exact (rfl : _ = Value.agg _) | exact (rfl : _ = Value.int _ _) | exact (rfl : _ = Value.bool _) | exact (rfl : _ = Value.slice _ _ _) | exact (rfl : _ = Value.pointer _) | exact (rfl : _ = Value.map _) | exact (rfl : _ = Value.func _ _ _) | exact (rfl : _ = Value.string _)) (by rfl) (by (repeat (first | exact Upd.head | apply Upd.tail))) (by (try simp only [Zy2, List.take_zero, List.take_nil, Zy1, List.drop_zero, List.drop_nil, List.cons_append, List.nil_append, List.append_nil, List.length_cons, List.length_nil, Nat.reduceAdd, Nat.zero_add, Nat.add_zero]); rfl) (by simp) (by simp [Value.oneCell']) (by kernel_rfl) ?_; clear M; (try clear wc); intro wc M) | (refine m_al M rfl rfl ?_; clear M; (try clear wc); intro g wc M) | (refine m_bx M rfl rfl (by first | exact (rfl : _ = Value.agg _) | exact (rfl : _ = Value.int _ _) | exact (rfl : _ = Value.bool _) | exact (rfl : _ = Value.slice _ _ _) | exact (rfl : _ = Value.pointer _) | exact (rfl : _ = Value.map _) | exact (rfl : _ = Value.func _ _ _) | exact (rfl : _ = Value.string _)) (by rfl) ?_; clear M; (try clear wc); intro g wc M) | (go_at_call 146; ((with_reducible refine (less_any _ _ _ _ _ (by omega) (by omega) (by omega) (by omega)).mono ?_); skip; rintro e wc ⟨rfl, hb⟩; replace M := M.call hb; clear hb)))
         go_roundw
         case rel => exact ⟨i + 1, by omega, by omega, rfl, by rw [E.out.1, E.out.2] at M; exact M⟩
         case measure => simp [intOf]; omega
       · have ei : r = i := (by omega); subst ei
         go_wp2_with (first | (refine m_ld1 M rfl rfl rfl (by (repeat' (first | exact Zz2 | refine Zz1 ?_))) (by rfl) ?_) | (refine m_ldr M rfl rfl rfl (by (repeat' (first | exact Zz2 | refine Zz1 ?_))) (by (try simp only [Zy2, List.take_zero, List.take_nil, Zy1, List.drop_zero, List.drop_nil, List.cons_append, List.nil_append, List.append_nil, List.length_cons, List.length_nil, Nat.reduceAdd, Nat.zero_add, Nat.add_zero]); rfl) (by rfl) ?_) | (refine m_st M rfl rfl rfl (by first | exact (rfl : _ = Value.agg _) | exact (rfl : _ = Value.int _ _) | exact (rfl : _ = Value.bool _) | exact (rfl : _ = Value.slice _ _ _) | exact (rfl : _ = Value.pointer _) | exact (rfl : _ = Value.map _) | exact (rfl : _ = Value.func _ _ _) | exact (rfl : _ = Value.string _)) (by rfl) (by (repeat (first | exact Upd.head | apply Upd.tail))) (by (try simp only [Zy2, List.take_zero, List.take_nil, Zy1, List.drop_zero, List.drop_nil, List.cons_append, List.nil_append, List.append_nil, List.length_cons, List.length_nil, Nat.reduceAdd, Nat.zero_add, Nat.add_zero]); rfl) (by simp) (by simp [Value.oneCell']) (by kernel_rfl) ?_; clear M; (try clear wc); intro wc M) | (refine m_al M rfl rfl ?_; clear M; (try clear wc); intro g wc M) | (refine m_bx M rfl rfl (by first | exact (rfl : _ = Value.agg _) | exact (rfl : _ = Value.int _ _) | exact (rfl : _ = Value.bool _) | exact (rfl : _ = Value.slice _ _ _) | exact (rfl : _ = Value.pointer _) | exact (rfl : _ = Value.map _) | exact (rfl : _ = Value.func _ _ _) | exact (rfl : _ = Value.string _)) (by rfl) ?_; clear M; (try clear wc); intro g wc M))
         refine wp_region_G (fun L W => (L.getD 4 true = false → Mem w noEx W [(gS, .cells [Zi p0, Zi p1, Zi (j.t0 - (t + 1) * j.a1), Zi (j.t1 - (t + 1) * j.a0), Zi (j.r0 - r * j.b1), Zi (j.r1 - r * j.b0), Zi j.u0, Zi j.u1, Zi j.d0, Zi j.d1, Zi j.a0, Zi j.a1, Zi j.b0, Zi j.b1, Zi j.le]), (gR, .cells [Zi 0, Zi 0, Zi 0, Zi 0, Zi 0]), (gK, .cells [Zi (p0 + j.u0), Zi (p1 + j.u1), Zi (t + 1), Zi (r), Zi (lf - 1)])]) ∧ (L.getD 4 true = true → Mem w noEx W [(gS, .cells [Zi p0, Zi p1, Zi (j.t0 - (t + 1) * j.a1), Zi (j.t1 - (t + 1) * j.a0), Zi (j.r0 - r * j.b1), Zi (j.r1 - r * j.b0), Zi j.u0, Zi j.u1, Zi j.d0, Zi j.d1, Zi j.a0, Zi j.a1, Zi j.b0, Zi j.b1, Zi j.le]), (gR, .cells [Zi (p0 + j.u0), Zi (p1 + j.u1), Zi (t + 1), Zi (r), Zi (lf - 1)]), (gK, .cells [Zi (p0 + j.u0), Zi (p1 + j.u1), Zi (t + 1), Zi (r), Zi (lf - 1)])])) 6 (by kernel_rfl) (by kernel_rfl) ?s0 ?r0
         case s0 => (exact ⟨fun _ => M.drew, fun h => (no_of h (by kernel_rfl)).elim⟩)
         intro W0
         refine wpG_take (i := 0) (v := ?v1) rfl (by kernel_rfl) (by intro L w; simp only [getD_set_ne true (show (0 : Nat) ≠ 4 from by decide)]) (fun _ _ _ h => h) (Or.inl ⟨by rfl, ?y1⟩) ?r1
         case y1 => (intro w' hy; obtain ⟨L, hD, hl, hS⟩ := hy; have M0 := hS.1 (hD.wait (i := 0) (by kernel_rfl) hl); clear hS; first | (refine Eq.trans (Zro (Mem.get M0 (by (repeat' (first | exact Zz2 | refine Zz1 ?_)))) rfl rfl (by rfl)) ?_; with_reducible rfl) | (refine Eq.trans (rn_row (Mem.get M0 (by (repeat' (first | exact Zz2 | refine Zz1 ?_)))) rfl rfl (by (try simp only [Zy2, List.take_zero, List.take_nil, Zy1, List.drop_zero, List.drop_nil, List.cons_append, List.nil_append, List.append_nil, List.length_cons, List.length_nil, Nat.reduceAdd, Nat.zero_add, Nat.add_zero]); rfl) (by rfl)) ?_; with_reducible rfl); (try with_reducible rfl))
         (try simp only [Act.put, Zz3, Zz4, Zz5, Zz6, Zz7, Zz8])
         refine wpG_take (i := 1) (v := ?v2) rfl (by kernel_rfl) (by intro L w; simp only [getD_set_ne true (show (1 : Nat) ≠ 4 from by decide)]) (fun _ _ _ h => h) (Or.inl ⟨by rfl, ?y2⟩) ?r2
         case y2 => (intro w' hy; obtain ⟨L, hD, hl, hS⟩ := hy; have M0 := hS.1 (hD.wait (i := 2) (by kernel_rfl) (hD.wait (m := 2) (i := 1) (by kernel_rfl) hl)); clear hS; first | (refine Eq.trans (Zro (Mem.get M0 (by (repeat' (first | exact Zz2 | refine Zz1 ?_)))) rfl rfl (by rfl)) ?_; with_reducible rfl) | (refine Eq.trans (rn_row (Mem.get M0 (by (repeat' (first | exact Zz2 | refine Zz1 ?_)))) rfl rfl (by (try simp only [Zy2, List.take_zero, List.take_nil, Zy1, List.drop_zero, List.drop_nil, List.cons_append, List.nil_append, List.append_nil, List.length_cons, List.length_nil, Nat.reduceAdd, Nat.zero_add, Nat.add_zero]); rfl) (by rfl)) ?_; with_reducible rfl); (try with_reducible rfl))
         (try simp only [Act.put, Zz3, Zz4, Zz5, Zz6, Zz7, Zz8])
         refine wpG_step (i := 2) (by kernel_rfl) rfl (by rfl) ?r3
         intro hS K hK
         (have M0 := hS.1 (by kernel_rfl); clear hS; go_simp; refine (spoiled_any (thinJ j p0 p1 (t + 1) (r)) _).mono ?_; rintro e V1 ⟨rfl, hb1⟩; refine hK.out _ _ ⟨fun _ => M0.call hb1, fun h => (no_of h (by kernel_rfl)).elim⟩ ?_; clear M0 hb1)
         clear hK K; intro W3
         (try simp only [Act.put, Zz3, Zz4, Zz5, Zz6, Zz7, Zz8])
         refine wpG_take (i := 3) (v := ?v4) rfl (by kernel_rfl) (by intro L w; simp only [getD_set_ne true (show (3 : Nat) ≠ 4 from by decide)]) (fun _ _ _ h => h) (Or.inl ⟨by rfl, ?y4⟩) ?r4
         case y4 => (intro w' hy; obtain ⟨L, hD, hl, hS⟩ := hy; clear hD hl hS; go_simp; (try with_reducible rfl))
         (try simp only [Act.put, Zz3, Zz4, Zz5, Zz6, Zz7, Zz8])
         refine wpG_step (i := 4) (by kernel_rfl) rfl (by rfl) ?r5
         intro hS K hK
         (have M0 := hS.1 (by kernel_rfl); clear hS; refine m_stw M0 rfl rfl (by first | exact (rfl : _ = Value.agg _) | exact (rfl : _ = Value.int _ _) | exact (rfl : _ = Value.bool _) | exact (rfl : _ = Value.slice _ _ _) | exact (rfl : _ = Value.pointer _) | exact (rfl : _ = Value.map _) | exact (rfl : _ = Value.func _ _ _) | exact (rfl : _ = Value.string _)) (by rfl) (by (repeat (first | exact Upd.head | apply Upd.tail))) (by (try simp only [Zy2, List.take_zero, List.take_nil, Zy1, List.drop_zero, List.drop_nil, List.cons_append, List.nil_append, List.append_nil, List.length_cons, List.length_nil, Nat.reduceAdd, Nat.zero_add, Nat.add_zero]); rfl) (by simp) (by simp [Value.oneCell']) (by kernel_rfl) ?_; intro V2 M2; refine hK.out _ _ ⟨fun h => (no_of (by kernel_rfl) h).elim, fun _ => M2⟩ ?_; clear M0 M2)
         clear hK K; intro W5
         (try simp only [Act.put, Zz3, Zz4, Zz5, Zz6, Zz7, Zz8])
         refine wpG_take (i := 5) (v := ?v6) rfl (by kernel_rfl) (by intro L w; simp only [getD_set_ne true (show (5 : Nat) ≠ 4 from by decide)]) (fun _ _ _ h => h) (Or.inl ⟨by rfl, ?y6⟩) ?r6
         case y6 => (intro w' hy; obtain ⟨L, hD, hl, hS⟩ := hy; clear hD hl hS; go_simp; (try with_reducible rfl))
         (try simp only [Act.put, Zz3, Zz4, Zz5, Zz6, Zz7, Zz8])
         refine wpG_end (by kernel_rfl) ?_
         intro W
          hS
         have M1 := hS.2 (by kernel_rfl)
         clear hS
         go_wp2
         refine ret_M1 (t := 6) (t' := 7) (ty := 165) M1 (by rfl) (by rfl) (by rfl) (by rfl) (by (repeat' (first | exact Zz2 | refine Zz1 ?_))) (by rfl) ?_
         exact ⟨rfl, M1.below⟩
set_option maxHeartbeats 2000000 in
theorem moved_root (j : Jb) (A : Option Addr) (c : Nat) (s0 s1 : Int) (bg bx : Nat) (p0 p1 t r lf : Int) (w : World) (hg : j.good) (hp0 : -100000 ≤ p0 ∧ p0 ≤ 100000) (hp1 : -100000 ≤ p1 ∧ p1 ≤ 100000) (ht : 0 ≤ t ∧ t ≤ 1000) (hr : 0 ≤ r ∧ r ≤ 1000) (hl : 1 ≤ lf ∧ lf ≤ 1000) :
   Calls Tryz.prog 143 #[.agg (gmA j A c s0 s1 bg bx).toArray, kn5 p0 p1 t r lf, Zi 2] w fun e w' => e = .returned (.tuple #[kn5 (p0 - j.d1) (p1 - j.d0) t (r + 1) (lf - 1), .bool (okT j (t) (r + 1))]) ∧ Below w.heap.size w w' := by
 obtain ⟨g1, g2, g3, g4, g5, g6, g7, g8, -, -, -, -⟩ := hg
 go_enter Tryz.func143, Tryz.ntmps143
 refine start noEx ?_
 intro wc M
 go_wp2_with (first | (refine m_ld1 M rfl rfl rfl (by (repeat' (first | exact Zz2 | refine Zz1 ?_))) (by rfl) ?_) | (refine m_ldr M rfl rfl rfl (by (repeat' (first | exact Zz2 | refine Zz1 ?_))) (by (try simp only [Zy2, List.take_zero, List.take_nil, Zy1, List.drop_zero, List.drop_nil, List.cons_append, List.nil_append, List.append_nil, List.length_cons, List.length_nil, Nat.reduceAdd, Nat.zero_add, Nat.add_zero]); rfl) (by rfl) ?_) | (refine m_st M rfl rfl rfl (by first | exact (rfl : _ = Value.agg _) | exact (rfl : _ = Value.int _ _) | exact (rfl : _ = Value.bool _) | exact (rfl : _ = Value.slice _ _ _) | exact (rfl : _ = Value.pointer _) | exact (rfl : _ = Value.map _) | exact (rfl : _ = Value.func _ _ _) | exact (rfl : _ = Value.string _)) (by rfl) (by (repeat (first | exact Upd.head | apply Upd.tail))) (by (try simp only [Zy2, List.take_zero, List.take_nil, Zy1, List.drop_zero, List.drop_nil, List.cons_append, List.nil_append, List.append_nil, List.length_cons, List.length_nil, Nat.reduceAdd, Nat.zero_add, Nat.add_zero]); rfl) (by simp) (by simp [Value.oneCell']) (by kernel_rfl) ?_; clear M; (try clear wc); intro wc M) | (refine m_al M rfl rfl ?_; clear M; (try clear wc); intro g wc M) | (refine m_bx M rfl rfl (by first | exact (rfl : _ = Value.agg _) | exact (rfl : _ = Value.int _ _) | exact (rfl : _ = Value.bool _) | exact (rfl : _ = Value.slice _ _ _) | exact (rfl : _ = Value.pointer _) | exact (rfl : _ = Value.map _) | exact (rfl : _ = Value.func _ _ _) | exact (rfl : _ = Value.string _)) (by rfl) ?_; clear M; (try clear wc); intro g wc M) | (go_at_call 145; ((with_reducible refine (filed_root_x p0 p1 j.t0 j.t1 j.r0 j.r1 j.u0 j.u1 j.d0 j.d1 j.a0 j.a1 j.b0 j.b1 j.le _ ?_).mono ?_); (constructor <;> dsimp only <;> omega); rintro e wc ⟨rfl, hb⟩; replace M := M.call hb; clear hb)))
 rename_i gG gK gR gS wq K0 hK0
 go_loopw [44] (fun v wr => ∃ i : Int, 0 ≤ i ∧ i ≤ t ∧ v = Zi i ∧ Mem w noEx wr [(gS, .cells [Zi p0, Zi p1, Zi (j.t0 - i * j.a1), Zi (j.t1 - i * j.a0), Zi (j.r0 - 0 * j.b1), Zi (j.r1 - 0 * j.b0), Zi j.u0, Zi j.u1, Zi j.d0, Zi j.d1, Zi j.a0, Zi j.a1, Zi j.b0, Zi j.b1, Zi j.le]), (gR, .cells [Zi 0, Zi 0, Zi 0, Zi 0, Zi 0]), (gK, .cells [Zi (p0 - j.d1), Zi (p1 - j.d0), Zi (t), Zi (r + 1), Zi (lf - 1)])]) (fun v _ => (t - intOf v).toNat)
 case atStart => exact ⟨0, by omega, by omega, rfl, by simp only [Int.zero_mul, Int.sub_zero]; exact M.sub (by (repeat (first | exact List.Sublist.slnil | apply List.Sublist.cons_cons | apply List.Sublist.cons)))⟩
 case round =>
   clear M wc
   obtain ⟨i, hi0, hi1, rfl, M⟩ := hrel
   obtain ⟨wc, rfl⟩ : ∃ x : World, x = wr := ⟨_, rfl⟩
   have m1 := mul_bd hi0 (by omega) (by omega : 0 ≤ j.a1) (by omega)
   have m2 := mul_bd hi0 (by omega) (by omega : 0 ≤ j.a0) (by omega)
   by_cases hlt : i < t
   · have e1 := mul_suc i j.a1
     have e2 := mul_suc i j.a0
     have E : Hid (Value.int .i64 (j.t0 - i * j.a1 - j.a1) = Zi (j.t0 - (i + 1) * j.a1) ∧ Value.int .i64 (j.t1 - i * j.a0 - j.a0) = Zi (j.t1 - (i + 1) * j.a0)) := ⟨by rw [e1]; congr 1; omega, by rw [e2]; congr 1; omega⟩
     clear e1 e2
     go_wp2_with (first | (refine m_ld1 M rfl rfl rfl (by (repeat' (first | exact Zz2 | refine Zz1 ?_))) (by rfl) ?_) | (refine m_ldr M rfl rfl rfl (by (repeat' (first | exact Zz2 | refine Zz1 ?_))) (by (try simp only [Zy2, List.take_zero, List.take_nil, Zy1, List.drop_zero, List.drop_nil, List.cons_append, List.nil_append, List.append_nil, List.length_cons, List.length_nil, Nat.reduceAdd, Nat.zero_add, Nat.add_zero]); rfl) (by rfl) ?_) | (refine m_st M rfl rfl rfl (by first | exact (rfl : _ = Value.agg _) | exact (rfl : _ = Value.int _ _) | exact (rfl : _ = Value.bool _) | exact (rfl : _ = Value.slice _ _ _) | exact (rfl : _ = Value.pointer _) | exact (rfl : _ = Value.map _) | exact (rfl : _ = Value.func _ _ _) | exact (rfl : _ = Value.string _)) (by rfl) (by (repeat (first | exact Upd.head | apply Upd.tail))) (by (try simp only [Zy2, List.take_zero, List.take_nil, Zy1, List.drop_zero, List.drop_nil, List.cons_append, List.nil_append, List.append_nil, List.length_cons, List.length_nil, Nat.reduceAdd, Nat.zero_add, Nat.add_zero]); rfl) (by simp) (by simp [Value.oneCell']) (by kernel_rfl) ?_; clear M; (try clear wc); intro wc M) | (refine m_al M rfl rfl ?_; clear M; (try clear wc); intro g wc M) | (refine m_bx M rfl rfl (by first | exact (rfl : _ = Value.agg _) | exact (rfl : _ = Value.int _ _) | exact (rfl : _ = Value.bool _) | exact (rfl : _ = Value.slice _ _ _) | exact (rfl : _ = Value.pointer _) | exact (rfl : _ = Value.map _) | exact (rfl : _ = Value.func _ _ _) | exact (rfl : _ = Value.string _)) (by rfl) ?_; clear M; (try clear wc); intro g wc M) | (go_at_call 146; ((with_reducible refine (less_any _ _ _ _ _ (by omega) (by omega) (by omega) (by omega)).mono ?_); skip; rintro e wc ⟨rfl, hb⟩; replace M := M.call hb; clear hb)))
     go_roundw
     case rel => exact ⟨i + 1, by omega, by omega, rfl, by rw [E.out.1, E.out.2] at M; exact M⟩
     case measure => simp [intOf]; omega
   · have ei : t = i := (by omega); subst ei
     go_wp2_with (first | (refine m_ld1 M rfl rfl rfl (by (repeat' (first | exact Zz2 | refine Zz1 ?_))) (by rfl) ?_) | (refine m_ldr M rfl rfl rfl (by (repeat' (first | exact Zz2 | refine Zz1 ?_))) (by (try simp only [Zy2, List.take_zero, List.take_nil, Zy1, List.drop_zero, List.drop_nil, List.cons_append, List.nil_append, List.append_nil, List.length_cons, List.length_nil, Nat.reduceAdd, Nat.zero_add, Nat.add_zero]); rfl) (by rfl) ?_) | (refine m_st M rfl rfl rfl (by first | exact (rfl : _ = Value.agg _) | exact (rfl : _ = Value.int _ _) | exact (rfl : _ = Value.bool _) | exact (rfl : _ = Value.slice _ _ _) | exact (rfl : _ = Value.pointer _) | exact (rfl : _ = Value.map _) | exact (rfl : _ = Value.func _ _ _) | exact (rfl : _ = Value.string _)) (by rfl) (by (repeat (first | exact Upd.head | apply Upd.tail))) (by (try simp only [Zy2, List.take_zero, List.take_nil, Zy1, List.drop_zero, List.drop_nil, List.cons_append, List.nil_append, List.append_nil, List.length_cons, List.length_nil, Nat.reduceAdd, Nat.zero_add, Nat.add_zero]); rfl) (by simp) (by simp [Value.oneCell']) (by kernel_rfl) ?_; clear M; (try clear wc); intro wc M) | (refine m_al M rfl rfl ?_; clear M; (try clear wc); intro g wc M) | (refine m_bx M rfl rfl (by first | exact (rfl : _ = Value.agg _) | exact (rfl : _ = Value.int _ _) | exact (rfl : _ = Value.bool _) | exact (rfl : _ = Value.slice _ _ _) | exact (rfl : _ = Value.pointer _) | exact (rfl : _ = Value.map _) | exact (rfl : _ = Value.func _ _ _) | exact (rfl : _ = Value.string _)) (by rfl) ?_; clear M; (try clear wc); intro g wc M))
     go_loopw [58] (fun v wr => ∃ i : Int, 0 ≤ i ∧ i ≤ r + 1 ∧ v = Zi i ∧ Mem w noEx wr [(gS, .cells [Zi p0, Zi p1, Zi (j.t0 - t * j.a1), Zi (j.t1 - t * j.a0), Zi (j.r0 - i * j.b1), Zi (j.r1 - i * j.b0), Zi j.u0, Zi j.u1, Zi j.d0, Zi j.d1, Zi j.a0, Zi j.a1, Zi j.b0, Zi j.b1, Zi j.le]), (gR, .cells [Zi 0, Zi 0, Zi 0, Zi 0, Zi 0]), (gK, .cells [Zi (p0 - j.d1), Zi (p1 - j.d0), Zi (t), Zi (r + 1), Zi (lf - 1)])]) (fun v _ => (r + 1 - intOf v).toNat)
     case atStart => exact ⟨0, by omega, by omega, rfl, by simp only [Int.zero_mul, Int.sub_zero] at M ⊢; exact M⟩
     case round =>
       clear M wc
       obtain ⟨i, hi0, hi1, rfl, M⟩ := hrel
       obtain ⟨wc, rfl⟩ : ∃ x : World, x = wr := ⟨_, rfl⟩
       have m3 := mul_bd hi0 (by omega) (by omega : 0 ≤ j.b1) (by omega)
       have m4 := mul_bd hi0 (by omega) (by omega : 0 ≤ j.b0) (by omega)
       by_cases hlt : i < r + 1
       · have e1 := mul_suc i j.b1
         have e2 := mul_suc i j.b0
         have E : Hid (Value.int .i64 (j.r0 - i * j.b1 - j.b1) = Zi (j.r0 - (i + 1) * j.b1) ∧ Value.int .i64 (j.r1 - i * j.b0 - j.b0) = Zi (j.r1 - (i + 1) * j.b0)) := ⟨by rw [e1]; congr 1; omega, by rw [e2]; congr 1; omega⟩
         clear e1 e2
         go_wp2_with (first | (refine m_ld1 M rfl rfl rfl (by (repeat' (first | exact Zz2 | refine Zz1 ?_))) (by rfl) ?_) | (refine m_ldr M rfl rfl rfl (by (repeat' (first | exact Zz2 | refine Zz1 ?_))) (by (try simp only [Zy2, List.take_zero, List.take_nil, Zy1, List.drop_zero, List.drop_nil, List.cons_append, List.nil_append, List.append_nil, List.length_cons, List.length_nil, Nat.reduceAdd, Nat.zero_add, Nat.add_zero]); rfl) (by rfl) ?_) | (refine m_st M rfl rfl rfl (by first | exact (rfl : _ = Value.agg _) | exact (rfl : _ = Value.int _ _) | exact (rfl : _ = Value.bool _) | exact (rfl : _ = Value.slice _ _ _) | exact (rfl : _ = Value.pointer _) | exact (rfl : _ = Value.map _) | exact (rfl : _ = Value.func _ _ _) | exact (rfl : _ = Value.string _)) (by rfl) (by (repeat (first | exact Upd.head | apply Upd.tail))) (by (try simp only [Zy2, List.take_zero, List.take_nil, Zy1, List.drop_zero, List.drop_nil, List.cons_append, List.nil_append, List.append_nil, List.length_cons, List.length_nil, Nat.reduceAdd, Nat.zero_add, Nat.add_zero]); rfl) (by simp) (by simp [Value.oneCell']) (by kernel_rfl) ?_; clear M; (try clear wc); intro wc M) | (refine m_al M rfl rfl ?_; clear M; (try clear wc); intro g wc M) | (refine m_bx M rfl rfl (by first | exact (rfl : _ = Value.agg _) | exact (rfl : _ = Value.int _ _) | exact (rfl : _ = Value.bool _) | exact (rfl : _ = Value.slice _ _ _) | exact (rfl : _ = Value.pointer _) | exact (rfl : _ = Value.map _) | exact (rfl : _ = Value.func _ _ _) | exact (rfl : _ = Value.string _)) (by rfl) ?_; clear M; (try clear wc); intro g wc M) | (go_at_call 146; ((with_reducible refine (less_any _ _ _ _ _ (by omega) (by omega) (by omega) (by omega)).mono ?_); skip; rintro e wc ⟨rfl, hb⟩; replace M := M.call hb; clear hb)))
         go_roundw
         case rel => exact ⟨i + 1, by omega, by omega, rfl, by rw [E.out.1, E.out.2] at M; exact M⟩
         case measure => simp [intOf]; omega
       · have ei : r + 1 = i := (by omega); subst ei
         go_wp2_with (first | (refine m_ld1 M rfl rfl rfl (by (repeat' (first | exact Zz2 | refine Zz1 ?_))) (by rfl) ?_) | (refine m_ldr M rfl rfl rfl (by (repeat' (first | exact Zz2 | refine Zz1 ?_))) (by (try simp only [Zy2, List.take_zero, List.take_nil, Zy1, List.drop_zero, List.drop_nil, List.cons_append, List.nil_append, List.append_nil, List.length_cons, List.length_nil, Nat.reduceAdd, Nat.zero_add, Nat.add_zero]); rfl) (by rfl) ?_) | (refine m_st M rfl rfl rfl (by first | exact (rfl : _ = Value.agg _) | exact (rfl : _ = Value.int _ _) | exact (rfl : _ = Value.bool _) | exact (rfl : _ = Value.slice _ _ _) | exact (rfl : _ = Value.pointer _) | exact (rfl : _ = Value.map _) | exact (rfl : _ = Value.func _ _ _) | exact (rfl : _ = Value.string _)) (by rfl) (by (repeat (first | exact Upd.head | apply Upd.tail))) (by (try simp only [Zy2, List.take_zero, List.take_nil, Zy1, List.drop_zero, List.drop_nil, List.cons_append, List.nil_append, List.append_nil, List.length_cons, List.length_nil, Nat.reduceAdd, Nat.zero_add, Nat.add_zero]); rfl) (by simp) (by simp [Value.oneCell']) (by kernel_rfl) ?_; clear M; (try clear wc); intro wc M) | (refine m_al M rfl rfl ?_; clear M; (try clear wc); intro g wc M) | (refine m_bx M rfl rfl (by first | exact (rfl : _ = Value.agg _) | exact (rfl : _ = Value.int _ _) | exact (rfl : _ = Value.bool _) | exact (rfl : _ = Value.slice _ _ _) | exact (rfl : _ = Value.pointer _) | exact (rfl : _ = Value.map _) | exact (rfl : _ = Value.func _ _ _) | exact (rfl : _ = Value.string _)) (by rfl) ?_; clear M; (try clear wc); intro g wc M))
         refine wp_region_G (fun L W => (L.getD 4 true = false → Mem w noEx W [(gS, .cells [Zi p0, Zi p1, Zi (j.t0 - t * j.a1), Zi (j.t1 - t * j.a0), Zi (j.r0 - (r + 1) * j.b1), Zi (j.r1 - (r + 1) * j.b0), Zi j.u0, Zi j.u1, Zi j.d0, Zi j.d1, Zi j.a0, Zi j.a1, Zi j.b0, Zi j.b1, Zi j.le]), (gR, .cells [Zi 0, Zi 0, Zi 0, Zi 0, Zi 0]), (gK, .cells [Zi (p0 - j.d1), Zi (p1 - j.d0), Zi (t), Zi (r + 1), Zi (lf - 1)])]) ∧ (L.getD 4 true = true → Mem w noEx W [(gS, .cells [Zi p0, Zi p1, Zi (j.t0 - t * j.a1), Zi (j.t1 - t * j.a0), Zi (j.r0 - (r + 1) * j.b1), Zi (j.r1 - (r + 1) * j.b0), Zi j.u0, Zi j.u1, Zi j.d0, Zi j.d1, Zi j.a0, Zi j.a1, Zi j.b0, Zi j.b1, Zi j.le]), (gR, .cells [Zi (p0 - j.d1), Zi (p1 - j.d0), Zi (t), Zi (r + 1), Zi (lf - 1)]), (gK, .cells [Zi (p0 - j.d1), Zi (p1 - j.d0), Zi (t), Zi (r + 1), Zi (lf - 1)])])) 6 (by kernel_rfl) (by kernel_rfl) ?s0 ?r0
         case s0 => (exact ⟨fun _ => M.drew, fun h => (no_of h (by kernel_rfl)).elim⟩)
         intro W0
         refine wpG_take (i := 0) (v := ?v1) rfl (by kernel_rfl) (by intro L w; simp only [getD_set_ne true (show (0 : Nat) ≠ 4 from by decide)]) (fun _ _ _ h => h) (Or.inl ⟨by rfl, ?y1⟩) ?r1
         case y1 => (intro w' hy; obtain ⟨L, hD, hl, hS⟩ := hy; have M0 := hS.1 (hD.wait (i := 0) (by kernel_rfl) hl); clear hS; first | (refine Eq.trans (Zro (Mem.get M0 (by (repeat' (first | exact Zz2 | refine Zz1 ?_)))) rfl rfl (by rfl)) ?_; with_reducible rfl) | (refine Eq.trans (rn_row (Mem.get M0 (by (repeat' (first | exact Zz2 | refine Zz1 ?_)))) rfl rfl (by (try simp only [Zy2, List.take_zero, List.take_nil, Zy1, List.drop_zero, List.drop_nil, List.cons_append, List.nil_append, List.append_nil, List.length_cons, List.length_nil, Nat.reduceAdd, Nat.zero_add, Nat.add_zero]); rfl) (by rfl)) ?_; with_reducible rfl); (try with_reducible rfl))
         (try simp only [Act.put, Zz3, Zz4, Zz5, Zz6, Zz7, Zz8])
         refine wpG_take (i := 1) (v := ?v2) rfl (by kernel_rfl) (by intro L w; simp only [getD_set_ne true (show (1 : Nat) ≠ 4 from by decide)]) (fun _ _ _ h => h) (Or.inl ⟨by rfl, ?y2⟩) ?r2
         case y2 => (intro w' hy; obtain ⟨L, hD, hl, hS⟩ := hy; have M0 := hS.1 (hD.wait (i := 2) (by kernel_rfl) (hD.wait (m := 2) (i := 1) (by kernel_rfl) hl)); clear hS; first | (refine Eq.trans (Zro (Mem.get M0 (by (repeat' (first | exact Zz2 | refine Zz1 ?_)))) rfl rfl (by rfl)) ?_; with_reducible rfl) | (refine Eq.trans (rn_row (Mem.get M0 (by (repeat' (first | exact Zz2 | refine Zz1 ?_)))) rfl rfl (by (try simp only [Zy2, List.take_zero, List.take_nil, Zy1, List.drop_zero, List.drop_nil, List.cons_append, List.nil_append, List.append_nil, List.length_cons, List.length_nil, Nat.reduceAdd, Nat.zero_add, Nat.add_zero]); rfl) (by rfl)) ?_; with_reducible rfl); (try with_reducible rfl))
         (try simp only [Act.put, Zz3, Zz4, Zz5, Zz6, Zz7, Zz8])
         refine wpG_step (i := 2) (by kernel_rfl) rfl (by rfl) ?r3
         intro hS K hK
         (have M0 := hS.1 (by kernel_rfl); clear hS; go_simp; refine (spoiled_any (thinJ j p0 p1 (t) (r + 1)) _).mono ?_; rintro e V1 ⟨rfl, hb1⟩; refine hK.out _ _ ⟨fun _ => M0.call hb1, fun h => (no_of h (by kernel_rfl)).elim⟩ ?_; clear M0 hb1)
         clear hK K; intro W3
         (try simp only [Act.put, Zz3, Zz4, Zz5, Zz6, Zz7, Zz8])
         refine wpG_take (i := 3) (v := ?v4) rfl (by kernel_rfl) (by intro L w; simp only [getD_set_ne true (show (3 : Nat) ≠ 4 from by decide)]) (fun _ _ _ h => h) (Or.inl ⟨by rfl, ?y4⟩) ?r4
         case y4 => (intro w' hy; obtain ⟨L, hD, hl, hS⟩ := hy; clear hD hl hS; go_simp; (try with_reducible rfl))
         (try simp only [Act.put, Zz3, Zz4, Zz5, Zz6, Zz7, Zz8])
         refine wpG_step (i := 4) (by kernel_rfl) rfl (by rfl) ?r5
         intro hS K hK
         (have M0 := hS.1 (by kernel_rfl); clear hS; refine m_stw M0 rfl rfl (by first | exact (rfl : _ = Value.agg _) | exact (rfl : _ = Value.int _ _) | exact (rfl : _ = Value.bool _) | exact (rfl : _ = Value.slice _ _ _) | exact (rfl : _ = Value.pointer _) | exact (rfl : _ = Value.map _) | exact (rfl : _ = Value.func _ _ _) | exact (rfl : _ = Value.string _)) (by rfl) (by (repeat (first | exact Upd.head | apply Upd.tail))) (by (try simp only [Zy2, List.take_zero, List.take_nil, Zy1, List.drop_zero, List.drop_nil, List.cons_append, List.nil_append, List.append_nil, List.length_cons, List.length_nil, Nat.reduceAdd, Nat.zero_add, Nat.add_zero]); rfl) (by simp) (by simp [Value.oneCell']) (by kernel_rfl) ?_; intro V2 M2; refine hK.out _ _ ⟨fun h => (no_of (by kernel_rfl) h).elim, fun _ => M2⟩ ?_; clear M0 M2)
         clear hK K; intro W5
         (try simp only [Act.put, Zz3, Zz4, Zz5, Zz6, Zz7, Zz8])
         refine wpG_take (i := 5) (v := ?v6) rfl (by kernel_rfl) (by intro L w; simp only [getD_set_ne true (show (5 : Nat) ≠ 4 from by decide)]) (fun _ _ _ h => h) (Or.inl ⟨by rfl, ?y6⟩) ?r6
         case y6 => (intro w' hy; obtain ⟨L, hD, hl, hS⟩ := hy; clear hD hl hS; go_simp; (try with_reducible rfl))
         (try simp only [Act.put, Zz3, Zz4, Zz5, Zz6, Zz7, Zz8])
         refine wpG_end (by kernel_rfl) ?_
         intro W
          hS
         have M1 := hS.2 (by kernel_rfl)
         clear hS
         go_wp2
         refine ret_M1 (t := 6) (t' := 7) (ty := 165) M1 (by rfl) (by rfl) (by rfl) (by rfl) (by (repeat' (first | exact Zz2 | refine Zz1 ?_))) (by rfl) ?_
         exact ⟨rfl, M1.below⟩
section
open Go.RowKit Go.Shelf
attribute [local go_sem] Oper.semAt_some
def stopsP (j : Jb) (s0 s1 : Int) : Nat → Int → Int → Int → Int → Bool
 | 0, p0, p1, _, _ => hasB s0 s1 p0 p1
 | n + 1, p0, p1, t, r => hasB s0 s1 p0 p1 || ((okT j (t + 1) r && (rdgs (p0 + j.u0) (p1 + j.u1) j.me).all fun x => stopsP j s0 s1 n x.1 x.2 (t + 1) r) || (okT j t (r + 1) && (rdgs (p0 - j.d1) (p1 - j.d0) j.me).all fun x => stopsP j s0 s1 n x.1 x.2 t (r + 1)))
def readsP (j : Jb) (s0 s1 : Int) (n : Nat) (p0 p1 t r : Int) : Bool := (rdgs p0 p1 j.me).all fun x => stopsP j s0 s1 n x.1 x.2 t r
def strokeP (j : Jb) (s0 s1 : Int) : Nat → Int → Int → Int → Int → Int
 | 0, _, _, _, _ => 0
 | n + 1, p0, p1, t, r => if (okT j (t + 1) r && readsP j s0 s1 n (p0 + j.u0) (p1 + j.u1) (t + 1) r) = true then 1 else if (okT j t (r + 1) && readsP j s0 s1 n (p0 - j.d1) (p1 - j.d0) t (r + 1)) = true then 2 else 0
theorem stopsP_eq (j : Jb) (s0 s1 : Int) (n : Nat) (p0 p1 t r : Int) : stopsP j s0 s1 n p0 p1 t r = (hasB s0 s1 p0 p1 || decide (0 < strokeP j s0 s1 n p0 p1 t r)) := by
 cases n with
 | zero => simp [stopsP, strokeP]
 | succ n =>
  show (hasB s0 s1 p0 p1 || ((okT j (t + 1) r && readsP j s0 s1 n (p0 + j.u0) (p1 + j.u1) (t + 1) r) || (okT j t (r + 1) && readsP j s0 s1 n (p0 - j.d1) (p1 - j.d0) t (r + 1)))) = (hasB s0 s1 p0 p1 || decide (0 < (if (okT j (t + 1) r && readsP j s0 s1 n (p0 + j.u0) (p1 + j.u1) (t + 1) r) = true then (1 : Int) else if (okT j t (r + 1) && readsP j s0 s1 n (p0 - j.d1) (p1 - j.d0) t (r + 1)) = true then 2 else 0)))
  generalize (okT j (t + 1) r && readsP j s0 s1 n (p0 + j.u0) (p1 + j.u1) (t + 1) r) = x
  generalize (okT j t (r + 1) && readsP j s0 s1 n (p0 - j.d1) (p1 - j.d0) t (r + 1)) = y
  cases x <;> cases y <;> rfl
def okG (j : Jb) (s0 s1 : Int) (key v : Value) : Prop := ∀ (p0 p1 t r : Int) (n : Nat), key = kn5 p0 p1 t r n → v = .bool (stopsP j s0 s1 n p0 p1 t r)
def memG (j : Jb) (s0 s1 : Int) : BA := .any (memoQ Tryz.prog 165 (okG j s0 s1))
structure Bnd (n : Nat) (p0 p1 t r : Int) : Prop where
 lv : n ≤ 10
 p0 : -(100000 - 100 * (n : Int)) ≤ p0 ∧ p0 ≤ 100000 - 100 * (n : Int)
 p1 : -(100000 - 100 * (n : Int)) ≤ p1 ∧ p1 ≤ 100000 - 100 * (n : Int)
 t : 0 ≤ t ∧ t ≤ 900 - (n : Int)
 r : 0 ≤ r ∧ r ≤ 900 - (n : Int)
structure Gm (j : Jb) (A : Option Addr) (c : Nat) (s0 s1 : Int) (bg bx bm : Nat) (w : World) : Prop where
 g : Bk w bg (gmA j A c s0 s1 bg bx).toArray
 x : Bk w bx #[.map (some bm)]
 m : (memG j s0 s1).holds w bm
 ng : bg ≠ bm
 nx : bx ≠ bm
def GPost (j : Jb) (s0 s1 : Int) (bm : Nat) (v : Value) (w : World) (e : Ending) (w' : World) : Prop := e = .returned v ∧ w.grownBy w' (some bm) ∧ (memG j s0 s1).holds w' bm
def StopsC (j : Jb) (A : Option Addr) (c : Nat) (s0 s1 : Int) (bg bx bm : Nat) (n : Nat) : Prop :=
 ∀ (p0 p1 t r : Int) (w : World), Bnd n p0 p1 t r → Gm j A c s0 s1 bg bx bm w →
  Calls Tryz.prog 138 #[kn5 p0 p1 t r n, Zj bg, Zj bx] w (GPost j s0 s1 bm (.bool (stopsP j s0 s1 n p0 p1 t r)) w)
section
variable {j : Jb} {A : Option Addr} {c : Nat} {s0 s1 : Int} {bg bx bm : Nat} {w w' : World}
theorem Gm.kept (h : Gm j A c s0 s1 bg bx bm w) (hg : w.grownBy w' (some bm)) (hm : (memG j s0 s1).holds w' bm) : Gm j A c s0 s1 bg bx bm w' :=
 ⟨h.g.grown hg (fun e => h.ng (by injection e)), h.x.grown hg (fun e => h.nx (by injection e)), hm, h.ng, h.nx⟩
end
def allS (j : Jb) (s0 s1 : Int) (n : Nat) (t r : Int) {B : Int} (pre : List (Rg B)) : Bool := (pre.map Subtype.val).all fun x => stopsP j s0 s1 n x.1 x.2 t r
theorem allS_snoc (j : Jb) (s0 s1 : Int) (n : Nat) (t r : Int) {B : Int} (pre : List (Rg B)) (x : Rg B) : allS j s0 s1 n t r (pre ++ [x]) = (allS j s0 s1 n t r pre && stopsP j s0 s1 n x.1.1 x.1.2 t r) := by simp [allS]
theorem reads_any (j : Jb) (A : Option Addr) (c : Nat) (s0 s1 : Int) (bg bx bm : Nat) (n : Nat) (hj : j.good) (hS : StopsC j A c s0 s1 bg bx bm n) (p0 p1 t r : Int) (w : World) (hb : Bnd n p0 p1 t r) (hg : Gm j A c s0 s1 bg bx bm w) :
  Calls Tryz.prog 130 #[.agg (gmA j A c s0 s1 bg bx).toArray, kn5 p0 p1 t r n] w (GPost j s0 s1 bm (.bool (readsP j s0 s1 n p0 p1 t r)) w) := by
 have HS := Lib.hid hS
 have HG := Lib.hid hg
 have HB := Lib.hid hb
 have M := Mem.initEx hg.m
 clear hS hg hb
 refine (callsIn_wide (n := 8)).1 (callsIn_of_wp_marks Tryz.func130 rfl trivial (wpIn_wide.2 ?_) rfl)
 simp only [Tryz.ntmps130, List.size_toArray, List.length_cons, List.length_nil, Nat.reduceAdd, Nat.reduceSub, Array.replicate_succ, Array.replicate_zero, List.push_toArray, List.append_toArray, List.nil_append, List.cons_append]
 refine m_start M ?_
 clear M
 intro wc M
 go_wp2_with (first | (refine m_ld1 M rfl rfl rfl (by (repeat' (first | exact Zz2 | refine Zz1 ?_))) (by rfl) ?_) | (refine m_ldr M rfl rfl rfl (by (repeat' (first | exact Zz2 | refine Zz1 ?_))) (by (try simp only [Zy2, List.take_zero, List.take_nil, Zy1, List.drop_zero, List.drop_nil, List.cons_append, List.nil_append, List.append_nil, List.length_cons, List.length_nil, Nat.reduceAdd, Nat.zero_add, Nat.add_zero]); rfl) (by rfl) ?_) | (refine m_st M rfl rfl rfl (by first | exact (rfl : _ = Value.agg _) | exact (rfl : _ = Value.int _ _) | exact (rfl : _ = Value.bool _) | exact (rfl : _ = Value.slice _ _ _) | exact (rfl : _ = Value.pointer _) | exact (rfl : _ = Value.map _) | exact (rfl : _ = Value.func _ _ _) | exact (rfl : _ = Value.string _)) (by rfl) (by (repeat (first | exact Upd.head | apply Upd.tail))) (by (try simp only [Zy2, List.take_zero, List.take_nil, Zy1, List.drop_zero, List.drop_nil, List.cons_append, List.nil_append, List.append_nil, List.length_cons, List.length_nil, Nat.reduceAdd, Nat.zero_add, Nat.add_zero]); rfl) (by simp) (by simp [Value.oneCell']) (by kernel_rfl) ?_; clear M; (try clear wc); intro wc M) | (refine m_al M rfl rfl ?_; clear M; (try clear wc); intro g wc M) | (refine m_bx M rfl rfl (by first | exact (rfl : _ = Value.agg _) | exact (rfl : _ = Value.int _ _) | exact (rfl : _ = Value.bool _) | exact (rfl : _ = Value.slice _ _ _) | exact (rfl : _ = Value.pointer _) | exact (rfl : _ = Value.map _) | exact (rfl : _ = Value.func _ _ _) | exact (rfl : _ = Value.string _)) (by rfl) ?_; clear M; (try clear wc); intro g wc M))
 apply wp_scope_straight
 go_wp2_with (first | (refine m_ld1 M rfl rfl rfl (by (repeat' (first | exact Zz2 | refine Zz1 ?_))) (by rfl) ?_) | (refine m_ldr M rfl rfl rfl (by (repeat' (first | exact Zz2 | refine Zz1 ?_))) (by (try simp only [Zy2, List.take_zero, List.take_nil, Zy1, List.drop_zero, List.drop_nil, List.cons_append, List.nil_append, List.append_nil, List.length_cons, List.length_nil, Nat.reduceAdd, Nat.zero_add, Nat.add_zero]); rfl) (by rfl) ?_) | (refine m_st M rfl rfl rfl (by first | exact (rfl : _ = Value.agg _) | exact (rfl : _ = Value.int _ _) | exact (rfl : _ = Value.bool _) | exact (rfl : _ = Value.slice _ _ _) | exact (rfl : _ = Value.pointer _) | exact (rfl : _ = Value.map _) | exact (rfl : _ = Value.func _ _ _) | exact (rfl : _ = Value.string _)) (by rfl) (by (repeat (first | exact Upd.head | apply Upd.tail))) (by (try simp only [Zy2, List.take_zero, List.take_nil, Zy1, List.drop_zero, List.drop_nil, List.cons_append, List.nil_append, List.append_nil, List.length_cons, List.length_nil, Nat.reduceAdd, Nat.zero_add, Nat.add_zero]); rfl) (by simp) (by simp [Value.oneCell']) (by kernel_rfl) ?_; clear M; (try clear wc); intro wc M) | (refine m_al M rfl rfl ?_; clear M; (try clear wc); intro g wc M) | (refine m_bx M rfl rfl (by first | exact (rfl : _ = Value.agg _) | exact (rfl : _ = Value.int _ _) | exact (rfl : _ = Value.bool _) | exact (rfl : _ = Value.slice _ _ _) | exact (rfl : _ = Value.pointer _) | exact (rfl : _ = Value.map _) | exact (rfl : _ = Value.func _ _ _) | exact (rfl : _ = Value.string _)) (by rfl) ?_; clear M; (try clear wc); intro g wc M))
 apply wp_label
 go_wp2_with (first | (refine m_ld1 M rfl rfl rfl (by (repeat' (first | exact Zz2 | refine Zz1 ?_))) (by rfl) ?_) | (refine m_ldr M rfl rfl rfl (by (repeat' (first | exact Zz2 | refine Zz1 ?_))) (by (try simp only [Zy2, List.take_zero, List.take_nil, Zy1, List.drop_zero, List.drop_nil, List.cons_append, List.nil_append, List.append_nil, List.length_cons, List.length_nil, Nat.reduceAdd, Nat.zero_add, Nat.add_zero]); rfl) (by rfl) ?_) | (refine m_st M rfl rfl rfl (by first | exact (rfl : _ = Value.agg _) | exact (rfl : _ = Value.int _ _) | exact (rfl : _ = Value.bool _) | exact (rfl : _ = Value.slice _ _ _) | exact (rfl : _ = Value.pointer _) | exact (rfl : _ = Value.map _) | exact (rfl : _ = Value.func _ _ _) | exact (rfl : _ = Value.string _)) (by rfl) (by (repeat (first | exact Upd.head | apply Upd.tail))) (by (try simp only [Zy2, List.take_zero, List.take_nil, Zy1, List.drop_zero, List.drop_nil, List.cons_append, List.nil_append, List.append_nil, List.length_cons, List.length_nil, Nat.reduceAdd, Nat.zero_add, Nat.add_zero]); rfl) (by simp) (by simp [Value.oneCell']) (by kernel_rfl) ?_; clear M; (try clear wc); intro wc M) | (refine m_al M rfl rfl ?_; clear M; (try clear wc); intro g wc M) | (refine m_bx M rfl rfl (by first | exact (rfl : _ = Value.agg _) | exact (rfl : _ = Value.int _ _) | exact (rfl : _ = Value.bool _) | exact (rfl : _ = Value.slice _ _ _) | exact (rfl : _ = Value.pointer _) | exact (rfl : _ = Value.map _) | exact (rfl : _ = Value.func _ _ _) | exact (rfl : _ = Value.string _)) (by rfl) ?_; clear M; (try clear wc); intro g wc M) | (go_at_call 141; refine (readings_any _ _ _ _).mono ?_; rintro e wc ⟨b1, b2, rfl, N⟩; replace M := M.join N; clear N; simp only [List.cons_append, List.nil_append] at M))
 rename_i gG gK wq K0 hK0
 have hnd := M.nd
 simp only [List.map_cons, List.map_nil, List.nodup_cons, List.mem_cons, not_or, List.not_mem_nil, not_false_eq_true, List.nodup_nil, and_true] at hnd
 obtain ⟨⟨-, -, -, -, nx2⟩, ⟨-, -, -, nx1⟩, ⟨-, -, nxA⟩, -⟩ := hnd
 have hz0 := M.size
 have q1 := M.get (g := b1) (by (repeat' (first | exact Zz2 | refine Zz1 ?_)))
 have q2 := M.get (g := b2) (by (repeat' (first | exact Zz2 | refine Zz1 ?_)))
 replace M := M.forget.forget
 have hL : ∀ p ∈ [(g, BA.cells [.bool true]), (gK, .cells [Zi p0, Zi p1, Zi t, Zi r, Zi n]), (gG, .cells (gmA j A c s0 s1 bg bx)), (bm, memG j s0 s1)], p.1 < wc.heap.size := fun p hp => BA.lt (M.blk p hp).2
 have hL' : ∀ p ∈ [(g, BA.cells [.bool false]), (gK, .cells [Zi p0, Zi p1, Zi t, Zi r, Zi n]), (gG, .cells (gmA j A c s0 s1 bg bx)), (bm, memG j s0 s1)], p.1 < wc.heap.size := by
  intro p hp
  rcases List.mem_cons.1 hp with rfl | hp
  ·exact hL (g, BA.cells [.bool true]) Zz2
  ·exact hL p (Zz1 hp)
 have hlm : bm < wc.heap.size := hL (bm, memG j s0 s1) (by (repeat' (first | exact Zz2 | refine Zz1 ?_)))
 have hlg : g < wc.heap.size := hL (g, BA.cells [.bool true]) (by (repeat' (first | exact Zz2 | refine Zz1 ?_)))
 obtain ⟨hlv, hb0, hb1, hbt, hbr⟩ := HB.out
 have hme := hj.me
 refine (wpIn_wide (n := 8)).1 (wpIn_rangeFunc_ownH (α := Rg (100000 - 100 * (n : Int))) rfl (by omega) (gf := 144) (lb := #[Zj b1, Zj b2]) rfl trivial (enters_of Tryz.func144 (by kernel_rfl) rfl)
  (readings_stops 7 (by omega) b1 b2 wc.heap.size bm p0 p1 j.me _ (by omega) (by omega) hb0 hb1 (by omega) (by omega) q1.lt q2.lt nx1 nx2 wc q1 q2)
  (fun h k => Kp.t h k) (fun W l o o' hl h _ _ => ⟨by simp, fun b hb _ => World.putObj_heap_other (by omega)⟩) (Below.refl _ _) (fun _ => rfl)
  (fun pre W => Mem w (fun b => b = bm) W [(g, BA.cells [.bool true]), (gK, .cells [Zi p0, Zi p1, Zi t, Zi r, Zi n]), (gG, .cells (gmA j A c s0 s1 bg bx)), (bm, memG j s0 s1)] ∧ Hid (allS j s0 s1 n t r pre = true) ∧ wc.heap.size ≤ W.heap.size)
  (fun cd pre W => cd = .exit 0 ∧ Mem w (fun b => b = bm) W [(g, BA.cells [.bool false]), (gK, .cells [Zi p0, Zi p1, Zi t, Zi r, Zi n]), (gG, .cells (gmA j A c s0 s1 bg bx)), (bm, memG j s0 s1)] ∧ Hid (allS j s0 s1 n t r pre = false) ∧ wc.heap.size ≤ W.heap.size)
  (fun s W W' row hs hg hr => ⟨hs.1.far hg (fun r e => (hr r e).1) hz0 hL, hs.2.1, Nat.le_trans hs.2.2 hg.size⟩)
  (fun cd s W W' row hs hg hr => ⟨hs.1, hs.2.1.far hg (fun r e => (hr r e).1) hz0 hL', hs.2.2.1, Nat.le_trans hs.2.2.2 hg.size⟩)
  ⟨M, rfl, Nat.le_refl _⟩
  (fun x a' W => ∃ gx, Bk W gx #[Zi x.1.1, Zi x.1.2] ∧ a' = { tmps := #[.agg (gmA j A c s0 s1 bg bx).toArray, kn5 p0 p1 t r n, Zj gG, Zj gK, .bool false, Zj g, Zj gx, Zj gK, R2 p0 p1, Zj gG, .pointer (some ⟨gG, 17, none⟩), Zi j.me, .func (.func 144) #[] #[Zj b1, Zj b2], R2 x.1.1 x.1.2, undef, undef, undef, undef, undef, undef, undef, undef, undef, undef, undef, undef, undef], defers := [] })
  (fun x a' _ W W' row hs hg hr => by
   obtain ⟨gx, bX, rfl⟩ := hs
   refine ⟨gx, bX.grown hg (fun e => ?_), rfl⟩
   obtain ⟨_, o, ho, hc⟩ := hr gx e.symm
   have h1 := bX.cell 0
   simp only [World.cell?, ho] at h1
   cases o <;> simp [Obj.isCells] at hc h1)
  ?assign ?body ?done ?stop)
 case assign =>
  rintro l pre x W K ⟨M1, hp, hz⟩ hK
  gi_wp2
  exact hK _ _ ((KeepsOthers.alloc _ _).from _) ⟨by simp, fun b hb _ => (MapKept.heap_alloc W _).2 b (by omega)⟩ ⟨M1.alloc _, hp, by simp; omega⟩ ⟨W.heap.size, Bk.new W _ _, rfl⟩
 case body =>
  rintro l pre x a' W hl - ⟨M, hp, hz⟩ ⟨gx, bX, rfl⟩ hlt
  have C := HS.out x.1.1 x.1.2 t r W ⟨hlv, x.2.1, x.2.2, hbt, hbr⟩ (HG.out.kept M.grown (M.at (q := (bm, memG j s0 s1)) (by (repeat' (first | exact Zz2 | refine Zz1 ?_)))))
  have HP : Hid (allS j s0 s1 n t r (pre ++ [x]) = stopsP j s0 s1 n x.1.1 x.1.2 t r) := by (show _ = _; rw [allS_snoc, hp.out]; simp)
  cases hv : stopsP j s0 s1 n x.1.1 x.1.2 t r with
  | true =>
   rw [hv] at C HP
   clear hv
   gi_wp2_with (first | (refine i_ld1 M rfl rfl rfl (by (repeat' (first | exact Zz2 | refine Zz1 ?_))) (by rfl) ?_) | (refine i_ldr M rfl rfl rfl (by (repeat' (first | exact Zz2 | refine Zz1 ?_))) (by (try simp only [Zy2, List.take_zero, List.take_nil, Zy1, List.drop_zero, List.drop_nil, List.cons_append, List.nil_append, List.append_nil, List.length_cons, List.length_nil, Nat.reduceAdd, Nat.zero_add, Nat.add_zero]); rfl) (by rfl) ?_) | (refine i_al M rfl rfl ?_; clear M; (try clear wc); intro g wc M) | (refine i_bx M rfl rfl (by first | exact (rfl : _ = Value.agg _) | exact (rfl : _ = Value.int _ _) | exact (rfl : _ = Value.bool _) | exact (rfl : _ = Value.slice _ _ _) | exact (rfl : _ = Value.pointer _) | exact (rfl : _ = Value.map _) | exact (rfl : _ = Value.func _ _ _) | exact (rfl : _ = Value.string _)) (by rfl) ?_; clear M; (try clear wc); intro g wc M) | (refine i_st M rfl rfl rfl (by first | exact (rfl : _ = Value.agg _) | exact (rfl : _ = Value.int _ _) | exact (rfl : _ = Value.bool _) | exact (rfl : _ = Value.slice _ _ _) | exact (rfl : _ = Value.pointer _) | exact (rfl : _ = Value.map _) | exact (rfl : _ = Value.func _ _ _) | exact (rfl : _ = Value.string _)) (by rfl) (by (repeat (first | exact Upd.head | apply Upd.tail))) (by (try simp only [Zy2, List.take_zero, List.take_nil, Zy1, List.drop_zero, List.drop_nil, List.cons_append, List.nil_append, List.append_nil, List.length_cons, List.length_nil, Nat.reduceAdd, Nat.zero_add, Nat.add_zero]); rfl) (by simp) (by simp [Value.oneCell']) (by kernel_rfl) ?_; clear M; (try clear wc); intro wc M oth; clear oth) | (refine i_lor bX rfl rfl rfl (by (try simp only [Zy2, List.take_zero, List.take_nil, Zy1, List.drop_zero, List.drop_nil, List.cons_append, List.nil_append, List.append_nil, List.length_cons, List.length_nil, Nat.reduceAdd, Nat.zero_add, Nat.add_zero]); rfl) (by rfl) ?_) | (refine ⟨trivial, ?_⟩; gi_at_call 138; refine (CallsIn.inRound l (callsIn_wide.2 C)).mono ?_; rintro e W2 ⟨rfl, hgr, hm⟩; replace M := M.callW (L' := [(g, BA.cells [.bool true]), (gK, .cells [Zi p0, Zi p1, Zi t, Zi r, Zi n]), (gG, .cells (gmA j A c s0 s1 bg bx)), (bm, memG j s0 s1)]) (by (repeat (first | exact Upd.head | apply Upd.tail))) hgr hm))
   exact ⟨KeepsFrom.of_grownBy hgr (fun i e => by cases e; exact hlm), ⟨hgr.size, fun b hb hx => hgr.block b (by omega) (fun e => hx (by injection e))⟩, M, HP, Nat.le_trans hz hgr.size⟩
  | false =>
   rw [hv] at C HP
   clear hv
   gi_wp2_with (first | (refine i_st M rfl rfl rfl (by first | exact (rfl : _ = Value.agg _) | exact (rfl : _ = Value.int _ _) | exact (rfl : _ = Value.bool _) | exact (rfl : _ = Value.slice _ _ _) | exact (rfl : _ = Value.pointer _) | exact (rfl : _ = Value.map _) | exact (rfl : _ = Value.func _ _ _) | exact (rfl : _ = Value.string _)) (by rfl) (by (repeat (first | exact Upd.head | apply Upd.tail))) (by (try simp only [Zy2, List.take_zero, List.take_nil, Zy1, List.drop_zero, List.drop_nil, List.cons_append, List.nil_append, List.append_nil, List.length_cons, List.length_nil, Nat.reduceAdd, Nat.zero_add, Nat.add_zero]); rfl) (by simp) (by simp [Value.oneCell']) (by kernel_rfl) ?_; clear M; intro W3 M oth) | (refine i_ld1 M rfl rfl rfl (by (repeat' (first | exact Zz2 | refine Zz1 ?_))) (by rfl) ?_) | (refine i_ldr M rfl rfl rfl (by (repeat' (first | exact Zz2 | refine Zz1 ?_))) (by (try simp only [Zy2, List.take_zero, List.take_nil, Zy1, List.drop_zero, List.drop_nil, List.cons_append, List.nil_append, List.append_nil, List.length_cons, List.length_nil, Nat.reduceAdd, Nat.zero_add, Nat.add_zero]); rfl) (by rfl) ?_) | (refine i_al M rfl rfl ?_; clear M; (try clear wc); intro g wc M) | (refine i_bx M rfl rfl (by first | exact (rfl : _ = Value.agg _) | exact (rfl : _ = Value.int _ _) | exact (rfl : _ = Value.bool _) | exact (rfl : _ = Value.slice _ _ _) | exact (rfl : _ = Value.pointer _) | exact (rfl : _ = Value.map _) | exact (rfl : _ = Value.func _ _ _) | exact (rfl : _ = Value.string _)) (by rfl) ?_; clear M; (try clear wc); intro g wc M) | (refine i_st M rfl rfl rfl (by first | exact (rfl : _ = Value.agg _) | exact (rfl : _ = Value.int _ _) | exact (rfl : _ = Value.bool _) | exact (rfl : _ = Value.slice _ _ _) | exact (rfl : _ = Value.pointer _) | exact (rfl : _ = Value.map _) | exact (rfl : _ = Value.func _ _ _) | exact (rfl : _ = Value.string _)) (by rfl) (by (repeat (first | exact Upd.head | apply Upd.tail))) (by (try simp only [Zy2, List.take_zero, List.take_nil, Zy1, List.drop_zero, List.drop_nil, List.cons_append, List.nil_append, List.append_nil, List.length_cons, List.length_nil, Nat.reduceAdd, Nat.zero_add, Nat.add_zero]); rfl) (by simp) (by simp [Value.oneCell']) (by kernel_rfl) ?_; clear M; (try clear wc); intro wc M oth; clear oth) | (refine i_lor bX rfl rfl rfl (by (try simp only [Zy2, List.take_zero, List.take_nil, Zy1, List.drop_zero, List.drop_nil, List.cons_append, List.nil_append, List.append_nil, List.length_cons, List.length_nil, Nat.reduceAdd, Nat.zero_add, Nat.add_zero]); rfl) (by rfl) ?_) | (refine ⟨trivial, ?_⟩; gi_at_call 138; refine (CallsIn.inRound l (callsIn_wide.2 C)).mono ?_; rintro e W2 ⟨rfl, hgr, hm⟩; replace M := M.callW (L' := [(g, BA.cells [.bool true]), (gK, .cells [Zi p0, Zi p1, Zi t, Zi r, Zi n]), (gG, .cells (gmA j A c s0 s1 bg bx)), (bm, memG j s0 s1)]) (by (repeat (first | exact Upd.head | apply Upd.tail))) hgr hm))
   have hk3 : KeepsFrom wc.heap.size W2 W3 := ⟨by rw [oth.size]; exact Nat.le_refl _, fun k o hk h _ => (oth.block k (by omega)).trans h⟩
   exact ⟨(KeepsFrom.of_grownBy hgr (fun i e => by cases e; exact hlm)).trans hk3, rfl, M, HP, by rw [oth.size]; exact Nat.le_trans hz hgr.size⟩
 case done =>
  rintro D ys W hD hS ⟨M, hp, -⟩ hK
  go_wp2_with (first | (refine m_ld1 M rfl rfl rfl (by (repeat' (first | exact Zz2 | refine Zz1 ?_))) (by rfl) ?_) | (refine m_ldr M rfl rfl rfl (by (repeat' (first | exact Zz2 | refine Zz1 ?_))) (by (try simp only [Zy2, List.take_zero, List.take_nil, Zy1, List.drop_zero, List.drop_nil, List.cons_append, List.nil_append, List.append_nil, List.length_cons, List.length_nil, Nat.reduceAdd, Nat.zero_add, Nat.add_zero]); rfl) (by rfl) ?_) | (refine m_st M rfl rfl rfl (by first | exact (rfl : _ = Value.agg _) | exact (rfl : _ = Value.int _ _) | exact (rfl : _ = Value.bool _) | exact (rfl : _ = Value.slice _ _ _) | exact (rfl : _ = Value.pointer _) | exact (rfl : _ = Value.map _) | exact (rfl : _ = Value.func _ _ _) | exact (rfl : _ = Value.string _)) (by rfl) (by (repeat (first | exact Upd.head | apply Upd.tail))) (by (try simp only [Zy2, List.take_zero, List.take_nil, Zy1, List.drop_zero, List.drop_nil, List.cons_append, List.nil_append, List.append_nil, List.length_cons, List.length_nil, Nat.reduceAdd, Nat.zero_add, Nat.add_zero]); rfl) (by simp) (by simp [Value.oneCell']) (by kernel_rfl) ?_; clear M; (try clear wc); intro wc M) | (refine m_al M rfl rfl ?_; clear M; (try clear wc); intro g wc M) | (refine m_bx M rfl rfl (by first | exact (rfl : _ = Value.agg _) | exact (rfl : _ = Value.int _ _) | exact (rfl : _ = Value.bool _) | exact (rfl : _ = Value.slice _ _ _) | exact (rfl : _ = Value.pointer _) | exact (rfl : _ = Value.map _) | exact (rfl : _ = Value.func _ _ _) | exact (rfl : _ = Value.string _)) (by rfl) ?_; clear M; (try clear wc); intro g wc M))
  rw [Exit.noGoto_ret]
  have M2 := M.far (grownBy_putObj' W D (.deferred none)) (n0 := wc.heap.size) (fun r e => by cases e; exact hD) hz0 hL
  have hv : readsP j s0 s1 n p0 p1 t r = true := by rw [← hp.out]; unfold readsP allS; rw [← hS]
  refine ⟨by simp, .inl ⟨_, _, rfl, run_takeDeferred hK, _, results_tmp rfl _ _ _, ?_⟩⟩
  rw [hv]
  exact ⟨rfl, M2.grown, M2.at (q := (bm, memG j s0 s1)) (by (repeat' (first | exact Zz2 | refine Zz1 ?_)))⟩
 case stop =>
  rintro D cd pre W hD hSp ⟨rfl, M, hp, -⟩ hK
  refine wpIn_wide.2 ?_
  go_wp2_with (first | (refine m_ld1 M rfl rfl rfl (by (repeat' (first | exact Zz2 | refine Zz1 ?_))) (by rfl) ?_) | (refine m_ldr M rfl rfl rfl (by (repeat' (first | exact Zz2 | refine Zz1 ?_))) (by (try simp only [Zy2, List.take_zero, List.take_nil, Zy1, List.drop_zero, List.drop_nil, List.cons_append, List.nil_append, List.append_nil, List.length_cons, List.length_nil, Nat.reduceAdd, Nat.zero_add, Nat.add_zero]); rfl) (by rfl) ?_) | (refine m_st M rfl rfl rfl (by first | exact (rfl : _ = Value.agg _) | exact (rfl : _ = Value.int _ _) | exact (rfl : _ = Value.bool _) | exact (rfl : _ = Value.slice _ _ _) | exact (rfl : _ = Value.pointer _) | exact (rfl : _ = Value.map _) | exact (rfl : _ = Value.func _ _ _) | exact (rfl : _ = Value.string _)) (by rfl) (by (repeat (first | exact Upd.head | apply Upd.tail))) (by (try simp only [Zy2, List.take_zero, List.take_nil, Zy1, List.drop_zero, List.drop_nil, List.cons_append, List.nil_append, List.append_nil, List.length_cons, List.length_nil, Nat.reduceAdd, Nat.zero_add, Nat.add_zero]); rfl) (by simp) (by simp [Value.oneCell']) (by kernel_rfl) ?_; clear M; (try clear wc); intro wc M) | (refine m_al M rfl rfl ?_; clear M; (try clear wc); intro g wc M) | (refine m_bx M rfl rfl (by first | exact (rfl : _ = Value.agg _) | exact (rfl : _ = Value.int _ _) | exact (rfl : _ = Value.bool _) | exact (rfl : _ = Value.slice _ _ _) | exact (rfl : _ = Value.pointer _) | exact (rfl : _ = Value.map _) | exact (rfl : _ = Value.func _ _ _) | exact (rfl : _ = Value.string _)) (by rfl) ?_; clear M; (try clear wc); intro g wc M))
  rw [Exit.noGoto_ret]
  have M2 := M.far (grownBy_putObj' W D (.deferred none)) (n0 := wc.heap.size) (fun r e => by cases e; exact hD) hz0 hL'
  have hv : readsP j s0 s1 n p0 p1 t r = false := by
   obtain ⟨s, hs⟩ := hSp
   have h2 := hp.out
   unfold allS at h2
   unfold readsP
   rw [← hs, List.all_append]
   rw [show (pre.map (fun x => x.1)) = pre.map Subtype.val from rfl, h2]
   rfl
  refine ⟨by simp, .inl ⟨_, _, rfl, run_takeDeferred hK, _, results_tmp rfl _ _ _, ?_⟩⟩
  rw [hv]
  exact ⟨rfl, M2.grown, M2.at (q := (bm, memG j s0 s1)) (by (repeat' (first | exact Zz2 | refine Zz1 ?_)))⟩
end
theorem movedT (j : Jb) (A : Option Addr) (c : Nat) (s0 s1 : Int) (bg bx : Nat) (p0 p1 t r : Int) (n : Nat) (w : World) (hg : j.good) (hb : Bnd (n + 1) p0 p1 t r) :
  Calls Tryz.prog 143 #[.agg (gmA j A c s0 s1 bg bx).toArray, kn5 p0 p1 t r ((n : Int) + 1), Zi 1] w fun e w' => e = .returned (.tuple #[kn5 (p0 + j.u0) (p1 + j.u1) (t + 1) r n, .bool (okT j (t + 1) r)]) ∧ Below w.heap.size w w' := by
 obtain ⟨h1, h2, h3, h4, h5⟩ := hb
 have h := moved_tip j A c s0 s1 bg bx p0 p1 t r ((n : Int) + 1) w hg (by omega) (by omega) (by omega) (by omega) (by omega)
 rw [show (n : Int) + 1 - 1 = n from by omega] at h
 exact h
theorem movedR (j : Jb) (A : Option Addr) (c : Nat) (s0 s1 : Int) (bg bx : Nat) (p0 p1 t r : Int) (n : Nat) (w : World) (hg : j.good) (hb : Bnd (n + 1) p0 p1 t r) :
  Calls Tryz.prog 143 #[.agg (gmA j A c s0 s1 bg bx).toArray, kn5 p0 p1 t r ((n : Int) + 1), Zi 2] w fun e w' => e = .returned (.tuple #[kn5 (p0 - j.d1) (p1 - j.d0) t (r + 1) n, .bool (okT j t (r + 1))]) ∧ Below w.heap.size w w' := by
 obtain ⟨h1, h2, h3, h4, h5⟩ := hb
 have h := moved_root j A c s0 s1 bg bx p0 p1 t r ((n : Int) + 1) w hg (by omega) (by omega) (by omega) (by omega) (by omega)
 rw [show (n : Int) + 1 - 1 = n from by omega] at h
 exact h
theorem bnd_tip {j : Jb} {n : Nat} {p0 p1 t r : Int} (hj : j.good) (h : Bnd (n + 1) p0 p1 t r) : Bnd n (p0 + j.u0) (p1 + j.u1) (t + 1) r := by
 obtain ⟨h1, h2, h3, h4, h5⟩ := h
 have := hj.u
 exact ⟨by omega, by omega, by omega, by omega, by omega⟩
theorem bnd_root {j : Jb} {n : Nat} {p0 p1 t r : Int} (hj : j.good) (h : Bnd (n + 1) p0 p1 t r) : Bnd n (p0 - j.d1) (p1 - j.d0) t (r + 1) := by
 obtain ⟨h1, h2, h3, h4, h5⟩ := h
 have := hj.d
 exact ⟨by omega, by omega, by omega, by omega, by omega⟩
theorem stroke_0 (j : Jb) (A : Option Addr) (c : Nat) (s0 s1 : Int) (bg bx bm : Nat) (p0 p1 t r : Int) (w : World) (hg : Gm j A c s0 s1 bg bx bm w) :
  Calls Tryz.prog 140 #[.agg (gmA j A c s0 s1 bg bx).toArray, kn5 p0 p1 t r 0] w (GPost j s0 s1 bm (Zi 0) w) := by
 have M := Mem.initEx hg.m
 clear hg
 go_enter Tryz.func140, Tryz.ntmps140
 refine m_start M ?_
 clear M
 intro wc M
 go_wp2_with (first | (refine m_ld1 M rfl rfl rfl (by (repeat' (first | exact Zz2 | refine Zz1 ?_))) (by rfl) ?_) | (refine m_ldr M rfl rfl rfl (by (repeat' (first | exact Zz2 | refine Zz1 ?_))) (by (try simp only [Zy2, List.take_zero, List.take_nil, Zy1, List.drop_zero, List.drop_nil, List.cons_append, List.nil_append, List.append_nil, List.length_cons, List.length_nil, Nat.reduceAdd, Nat.zero_add, Nat.add_zero]); rfl) (by rfl) ?_) | (refine m_st M rfl rfl rfl (by first | exact (rfl : _ = Value.agg _) | exact (rfl : _ = Value.int _ _) | exact (rfl : _ = Value.bool _) | exact (rfl : _ = Value.slice _ _ _) | exact (rfl : _ = Value.pointer _) | exact (rfl : _ = Value.map _) | exact (rfl : _ = Value.func _ _ _) | exact (rfl : _ = Value.string _)) (by rfl) (by (repeat (first | exact Upd.head | apply Upd.tail))) (by (try simp only [Zy2, List.take_zero, List.take_nil, Zy1, List.drop_zero, List.drop_nil, List.cons_append, List.nil_append, List.append_nil, List.length_cons, List.length_nil, Nat.reduceAdd, Nat.zero_add, Nat.add_zero]); rfl) (by simp) (by simp [Value.oneCell']) (by kernel_rfl) ?_; clear M; (try clear wc); intro wc M) | (refine m_al M rfl rfl ?_; clear M; (try clear wc); intro g wc M) | (refine m_bx M rfl rfl (by first | exact (rfl : _ = Value.agg _) | exact (rfl : _ = Value.int _ _) | exact (rfl : _ = Value.bool _) | exact (rfl : _ = Value.slice _ _ _) | exact (rfl : _ = Value.pointer _) | exact (rfl : _ = Value.map _) | exact (rfl : _ = Value.func _ _ _) | exact (rfl : _ = Value.string _)) (by rfl) ?_; clear M; (try clear wc); intro g wc M))
 rename_i gG K0 hK0
 go_loopw [5] (fun v wr => v = Zi 1 ∧ Mem w (fun b => b = bm) wr [(g, .cells [Zi p0, Zi p1, Zi t, Zi r, Zi 0]), (gG, .cells (gmA j A c s0 s1 bg bx)), (bm, memG j s0 s1)]) (fun _ _ => 0)
 case atStart => exact ⟨rfl, M⟩
 case round =>
  clear M wc
  obtain ⟨rfl, M⟩ := hrel
  obtain ⟨wc, rfl⟩ : ∃ x : World, x = wr := ⟨_, rfl⟩
  go_wp2_with (first | (refine m_ld1 M rfl rfl rfl (by (repeat' (first | exact Zz2 | refine Zz1 ?_))) (by rfl) ?_) | (refine m_ldr M rfl rfl rfl (by (repeat' (first | exact Zz2 | refine Zz1 ?_))) (by (try simp only [Zy2, List.take_zero, List.take_nil, Zy1, List.drop_zero, List.drop_nil, List.cons_append, List.nil_append, List.append_nil, List.length_cons, List.length_nil, Nat.reduceAdd, Nat.zero_add, Nat.add_zero]); rfl) (by rfl) ?_) | (refine m_st M rfl rfl rfl (by first | exact (rfl : _ = Value.agg _) | exact (rfl : _ = Value.int _ _) | exact (rfl : _ = Value.bool _) | exact (rfl : _ = Value.slice _ _ _) | exact (rfl : _ = Value.pointer _) | exact (rfl : _ = Value.map _) | exact (rfl : _ = Value.func _ _ _) | exact (rfl : _ = Value.string _)) (by rfl) (by (repeat (first | exact Upd.head | apply Upd.tail))) (by (try simp only [Zy2, List.take_zero, List.take_nil, Zy1, List.drop_zero, List.drop_nil, List.cons_append, List.nil_append, List.append_nil, List.length_cons, List.length_nil, Nat.reduceAdd, Nat.zero_add, Nat.add_zero]); rfl) (by simp) (by simp [Value.oneCell']) (by kernel_rfl) ?_; clear M; (try clear wc); intro wc M) | (refine m_al M rfl rfl ?_; clear M; (try clear wc); intro g wc M) | (refine m_bx M rfl rfl (by first | exact (rfl : _ = Value.agg _) | exact (rfl : _ = Value.int _ _) | exact (rfl : _ = Value.bool _) | exact (rfl : _ = Value.slice _ _ _) | exact (rfl : _ = Value.pointer _) | exact (rfl : _ = Value.map _) | exact (rfl : _ = Value.func _ _ _) | exact (rfl : _ = Value.string _)) (by rfl) ?_; clear M; (try clear wc); intro g wc M))
  go_ret
  exact ⟨rfl, M.grown, (M.at (q := (bm, memG j s0 s1)) (by (repeat' (first | exact Zz2 | refine Zz1 ?_))))⟩
set_option maxHeartbeats 2000000 in
theorem stroke_s (j : Jb) (A : Option Addr) (c : Nat) (s0 s1 : Int) (bg bx bm : Nat) (n : Nat) (hj : j.good) (hS : StopsC j A c s0 s1 bg bx bm n) (p0 p1 t r : Int) (w : World) (hb : Bnd (n + 1) p0 p1 t r) (hg : Gm j A c s0 s1 bg bx bm w) :
  Calls Tryz.prog 140 #[.agg (gmA j A c s0 s1 bg bx).toArray, kn5 p0 p1 t r ((n : Int) + 1)] w (GPost j s0 s1 bm (Zi (strokeP j s0 s1 (n + 1) p0 p1 t r)) w) := by
 have M := Mem.initEx hg.m
 have HS := Lib.hid hS
 have HG := Lib.hid hg
 have HB := Lib.hid hb
 have HJ := Lib.hid hj
 have HV : Hid (strokeP j s0 s1 (n + 1) p0 p1 t r = if (okT j (t + 1) r && readsP j s0 s1 n (p0 + j.u0) (p1 + j.u1) (t + 1) r) = true then 1 else if (okT j t (r + 1) && readsP j s0 s1 n (p0 - j.d1) (p1 - j.d0) t (r + 1)) = true then 2 else 0) := rfl
 generalize strokeP j s0 s1 (n + 1) p0 p1 t r = sv at *
 have hln : (0 : Int) < (n : Int) + 1 := by omega
 generalize ho1 : okT j (t + 1) r = o1 at *
 generalize ho2 : okT j t (r + 1) = o2 at *
 generalize hr1 : readsP j s0 s1 n (p0 + j.u0) (p1 + j.u1) (t + 1) r = v1 at *
 generalize hr2 : readsP j s0 s1 n (p0 - j.d1) (p1 - j.d0) t (r + 1) = v2 at *
 have HO1 := Lib.hid ho1
 have HO2 := Lib.hid ho2
 have HR1 := Lib.hid hr1
 have HR2 := Lib.hid hr2
 clear hS hg hb hj ho1 ho2 hr1 hr2
 go_enter Tryz.func140, Tryz.ntmps140
 refine m_start M ?_
 clear M
 intro wc M
 go_wp2_with (first | (refine m_ld1 M rfl rfl rfl (by (repeat' (first | exact Zz2 | refine Zz1 ?_))) (by rfl) ?_) | (refine m_ldr M rfl rfl rfl (by (repeat' (first | exact Zz2 | refine Zz1 ?_))) (by (try simp only [Zy2, List.take_zero, List.take_nil, Zy1, List.drop_zero, List.drop_nil, List.cons_append, List.nil_append, List.append_nil, List.length_cons, List.length_nil, Nat.reduceAdd, Nat.zero_add, Nat.add_zero]); rfl) (by rfl) ?_) | (refine m_st M rfl rfl rfl (by first | exact (rfl : _ = Value.agg _) | exact (rfl : _ = Value.int _ _) | exact (rfl : _ = Value.bool _) | exact (rfl : _ = Value.slice _ _ _) | exact (rfl : _ = Value.pointer _) | exact (rfl : _ = Value.map _) | exact (rfl : _ = Value.func _ _ _) | exact (rfl : _ = Value.string _)) (by rfl) (by (repeat (first | exact Upd.head | apply Upd.tail))) (by (try simp only [Zy2, List.take_zero, List.take_nil, Zy1, List.drop_zero, List.drop_nil, List.cons_append, List.nil_append, List.append_nil, List.length_cons, List.length_nil, Nat.reduceAdd, Nat.zero_add, Nat.add_zero]); rfl) (by simp) (by simp [Value.oneCell']) (by kernel_rfl) ?_; clear M; (try clear wc); intro wc M) | (refine m_al M rfl rfl ?_; clear M; (try clear wc); intro g wc M) | (refine m_bx M rfl rfl (by first | exact (rfl : _ = Value.agg _) | exact (rfl : _ = Value.int _ _) | exact (rfl : _ = Value.bool _) | exact (rfl : _ = Value.slice _ _ _) | exact (rfl : _ = Value.pointer _) | exact (rfl : _ = Value.map _) | exact (rfl : _ = Value.func _ _ _) | exact (rfl : _ = Value.string _)) (by rfl) ?_; clear M; (try clear wc); intro g wc M))
 rename_i gG K0 hK0
 go_loopw [5] (fun v wr => ∃ s : Int, v = Zi s ∧ (s = 1 ∨ s = 2 ∨ s = 3) ∧ Hid (s = 1 ∨ (o1 && v1) = false) ∧ Hid (s = 3 → (o2 && v2) = false) ∧ Mem w (fun b => b = bm) wr [(g, .cells [Zi p0, Zi p1, Zi t, Zi r, Zi ((n : Int) + 1)]), (gG, .cells (gmA j A c s0 s1 bg bx)), (bm, memG j s0 s1)]) (fun v _ => (3 - intOf v).toNat)
 case atStart => exact ⟨1, rfl, .inl rfl, .inl rfl, fun h => by omega, M⟩
 case round =>
  clear M wc
  obtain ⟨s, rfl, hs, h1, h2, M⟩ := hrel
  obtain ⟨wc, rfl⟩ : ∃ x : World, x = wr := ⟨_, rfl⟩
  rcases hs with rfl | rfl | rfl
  ·cases o1 with
   | false =>
    go_wp2_with (first | (refine m_ld1 M rfl rfl rfl (by (repeat' (first | exact Zz2 | refine Zz1 ?_))) (by rfl) ?_) | (refine m_ldr M rfl rfl rfl (by (repeat' (first | exact Zz2 | refine Zz1 ?_))) (by (try simp only [Zy2, List.take_zero, List.take_nil, Zy1, List.drop_zero, List.drop_nil, List.cons_append, List.nil_append, List.append_nil, List.length_cons, List.length_nil, Nat.reduceAdd, Nat.zero_add, Nat.add_zero]); rfl) (by rfl) ?_) | (refine m_st M rfl rfl rfl (by first | exact (rfl : _ = Value.agg _) | exact (rfl : _ = Value.int _ _) | exact (rfl : _ = Value.bool _) | exact (rfl : _ = Value.slice _ _ _) | exact (rfl : _ = Value.pointer _) | exact (rfl : _ = Value.map _) | exact (rfl : _ = Value.func _ _ _) | exact (rfl : _ = Value.string _)) (by rfl) (by (repeat (first | exact Upd.head | apply Upd.tail))) (by (try simp only [Zy2, List.take_zero, List.take_nil, Zy1, List.drop_zero, List.drop_nil, List.cons_append, List.nil_append, List.append_nil, List.length_cons, List.length_nil, Nat.reduceAdd, Nat.zero_add, Nat.add_zero]); rfl) (by simp) (by simp [Value.oneCell']) (by kernel_rfl) ?_; clear M; (try clear wc); intro wc M) | (refine m_al M rfl rfl ?_; clear M; (try clear wc); intro g wc M) | (refine m_bx M rfl rfl (by first | exact (rfl : _ = Value.agg _) | exact (rfl : _ = Value.int _ _) | exact (rfl : _ = Value.bool _) | exact (rfl : _ = Value.slice _ _ _) | exact (rfl : _ = Value.pointer _) | exact (rfl : _ = Value.map _) | exact (rfl : _ = Value.func _ _ _) | exact (rfl : _ = Value.string _)) (by rfl) ?_; clear M; (try clear wc); intro g wc M) | (go_at_call 143; ((with_reducible refine (movedT j A c s0 s1 bg bx p0 p1 t r n _ HJ.out HB.out).mono ?_); (rw [HO1.out]); rintro e wc ⟨rfl, hb⟩; replace M := M.call hb; clear hb)))
    go_roundw
    case rel => exact ⟨2, rfl, by simp, .inr rfl, (fun h => by omega), M.sub (by (repeat (first | exact List.Sublist.slnil | apply List.Sublist.cons_cons | apply List.Sublist.cons)))⟩
    case measure => decide
   | true =>
    cases v1 with
    | false =>
     go_wp2_with (first | (refine m_ld1 M rfl rfl rfl (by (repeat' (first | exact Zz2 | refine Zz1 ?_))) (by rfl) ?_) | (refine m_ldr M rfl rfl rfl (by (repeat' (first | exact Zz2 | refine Zz1 ?_))) (by (try simp only [Zy2, List.take_zero, List.take_nil, Zy1, List.drop_zero, List.drop_nil, List.cons_append, List.nil_append, List.append_nil, List.length_cons, List.length_nil, Nat.reduceAdd, Nat.zero_add, Nat.add_zero]); rfl) (by rfl) ?_) | (refine m_st M rfl rfl rfl (by first | exact (rfl : _ = Value.agg _) | exact (rfl : _ = Value.int _ _) | exact (rfl : _ = Value.bool _) | exact (rfl : _ = Value.slice _ _ _) | exact (rfl : _ = Value.pointer _) | exact (rfl : _ = Value.map _) | exact (rfl : _ = Value.func _ _ _) | exact (rfl : _ = Value.string _)) (by rfl) (by (repeat (first | exact Upd.head | apply Upd.tail))) (by (try simp only [Zy2, List.take_zero, List.take_nil, Zy1, List.drop_zero, List.drop_nil, List.cons_append, List.nil_append, List.append_nil, List.length_cons, List.length_nil, Nat.reduceAdd, Nat.zero_add, Nat.add_zero]); rfl) (by simp) (by simp [Value.oneCell']) (by kernel_rfl) ?_; clear M; (try clear wc); intro wc M) | (refine m_al M rfl rfl ?_; clear M; (try clear wc); intro g wc M) | (refine m_bx M rfl rfl (by first | exact (rfl : _ = Value.agg _) | exact (rfl : _ = Value.int _ _) | exact (rfl : _ = Value.bool _) | exact (rfl : _ = Value.slice _ _ _) | exact (rfl : _ = Value.pointer _) | exact (rfl : _ = Value.map _) | exact (rfl : _ = Value.func _ _ _) | exact (rfl : _ = Value.string _)) (by rfl) ?_; clear M; (try clear wc); intro g wc M) | (go_at_call 143; ((with_reducible refine (movedT j A c s0 s1 bg bx p0 p1 t r n _ HJ.out HB.out).mono ?_); (rw [HO1.out]); rintro e wc ⟨rfl, hb⟩; replace M := M.call hb; clear hb)) | (go_at_call 130; ((with_reducible refine (reads_any j A c s0 s1 bg bx bm n HJ.out HS.out (p0 + j.u0) (p1 + j.u1) (t + 1) r _ (bnd_tip HJ.out HB.out) (HG.out.kept M.grown (M.at (q := (bm, memG j s0 s1)) (by (repeat' (first | exact Zz2 | refine Zz1 ?_)))))).mono ?_); rintro e wc ⟨rfl, hgr, hm⟩; (rw [HR1.out]); replace M := M.callW (by (repeat (first | exact Upd.head | apply Upd.tail))) hgr hm; clear hgr hm)))
     go_roundw
     case rel => exact ⟨2, rfl, by simp, .inr rfl, (fun h => by omega), M.sub (by (repeat (first | exact List.Sublist.slnil | apply List.Sublist.cons_cons | apply List.Sublist.cons)))⟩
     case measure => decide
    | true =>
     go_wp2_with (first | (refine m_ld1 M rfl rfl rfl (by (repeat' (first | exact Zz2 | refine Zz1 ?_))) (by rfl) ?_) | (refine m_ldr M rfl rfl rfl (by (repeat' (first | exact Zz2 | refine Zz1 ?_))) (by (try simp only [Zy2, List.take_zero, List.take_nil, Zy1, List.drop_zero, List.drop_nil, List.cons_append, List.nil_append, List.append_nil, List.length_cons, List.length_nil, Nat.reduceAdd, Nat.zero_add, Nat.add_zero]); rfl) (by rfl) ?_) | (refine m_st M rfl rfl rfl (by first | exact (rfl : _ = Value.agg _) | exact (rfl : _ = Value.int _ _) | exact (rfl : _ = Value.bool _) | exact (rfl : _ = Value.slice _ _ _) | exact (rfl : _ = Value.pointer _) | exact (rfl : _ = Value.map _) | exact (rfl : _ = Value.func _ _ _) | exact (rfl : _ = Value.string _)) (by rfl) (by (repeat (first | exact Upd.head | apply Upd.tail))) (by (try simp only [Zy2, List.take_zero, List.take_nil, Zy1, List.drop_zero, List.drop_nil, List.cons_append, List.nil_append, List.append_nil, List.length_cons, List.length_nil, Nat.reduceAdd, Nat.zero_add, Nat.add_zero]); rfl) (by simp) (by simp [Value.oneCell']) (by kernel_rfl) ?_; clear M; (try clear wc); intro wc M) | (refine m_al M rfl rfl ?_; clear M; (try clear wc); intro g wc M) | (refine m_bx M rfl rfl (by first | exact (rfl : _ = Value.agg _) | exact (rfl : _ = Value.int _ _) | exact (rfl : _ = Value.bool _) | exact (rfl : _ = Value.slice _ _ _) | exact (rfl : _ = Value.pointer _) | exact (rfl : _ = Value.map _) | exact (rfl : _ = Value.func _ _ _) | exact (rfl : _ = Value.string _)) (by rfl) ?_; clear M; (try clear wc); intro g wc M) | (go_at_call 143; ((with_reducible refine (movedT j A c s0 s1 bg bx p0 p1 t r n _ HJ.out HB.out).mono ?_); (rw [HO1.out]); rintro e wc ⟨rfl, hb⟩; replace M := M.call hb; clear hb)) | (go_at_call 130; ((with_reducible refine (reads_any j A c s0 s1 bg bx bm n HJ.out HS.out (p0 + j.u0) (p1 + j.u1) (t + 1) r _ (bnd_tip HJ.out HB.out) (HG.out.kept M.grown (M.at (q := (bm, memG j s0 s1)) (by (repeat' (first | exact Zz2 | refine Zz1 ?_)))))).mono ?_); rintro e wc ⟨rfl, hgr, hm⟩; (rw [HR1.out]); replace M := M.callW (by (repeat (first | exact Upd.head | apply Upd.tail))) hgr hm; clear hgr hm)))
     go_ret
     exact ⟨ret_int (show sv = 1 from by rw [HV.out]; rfl).symm, M.grown, (M.at (q := (bm, memG j s0 s1)) (by (repeat' (first | exact Zz2 | refine Zz1 ?_))))⟩
  ·have h1' : Hid ((3 : Int) = 1 ∨ (o1 && v1) = false) := .inr (by have := h1.out; simpa using this)
   cases o2 with
   | false =>
    go_wp2_with (first | (refine m_ld1 M rfl rfl rfl (by (repeat' (first | exact Zz2 | refine Zz1 ?_))) (by rfl) ?_) | (refine m_ldr M rfl rfl rfl (by (repeat' (first | exact Zz2 | refine Zz1 ?_))) (by (try simp only [Zy2, List.take_zero, List.take_nil, Zy1, List.drop_zero, List.drop_nil, List.cons_append, List.nil_append, List.append_nil, List.length_cons, List.length_nil, Nat.reduceAdd, Nat.zero_add, Nat.add_zero]); rfl) (by rfl) ?_) | (refine m_st M rfl rfl rfl (by first | exact (rfl : _ = Value.agg _) | exact (rfl : _ = Value.int _ _) | exact (rfl : _ = Value.bool _) | exact (rfl : _ = Value.slice _ _ _) | exact (rfl : _ = Value.pointer _) | exact (rfl : _ = Value.map _) | exact (rfl : _ = Value.func _ _ _) | exact (rfl : _ = Value.string _)) (by rfl) (by (repeat (first | exact Upd.head | apply Upd.tail))) (by (try simp only [Zy2, List.take_zero, List.take_nil, Zy1, List.drop_zero, List.drop_nil, List.cons_append, List.nil_append, List.append_nil, List.length_cons, List.length_nil, Nat.reduceAdd, Nat.zero_add, Nat.add_zero]); rfl) (by simp) (by simp [Value.oneCell']) (by kernel_rfl) ?_; clear M; (try clear wc); intro wc M) | (refine m_al M rfl rfl ?_; clear M; (try clear wc); intro g wc M) | (refine m_bx M rfl rfl (by first | exact (rfl : _ = Value.agg _) | exact (rfl : _ = Value.int _ _) | exact (rfl : _ = Value.bool _) | exact (rfl : _ = Value.slice _ _ _) | exact (rfl : _ = Value.pointer _) | exact (rfl : _ = Value.map _) | exact (rfl : _ = Value.func _ _ _) | exact (rfl : _ = Value.string _)) (by rfl) ?_; clear M; (try clear wc); intro g wc M) | (go_at_call 143; ((with_reducible refine (movedR j A c s0 s1 bg bx p0 p1 t r n _ HJ.out HB.out).mono ?_); (rw [HO2.out]); rintro e wc ⟨rfl, hb⟩; replace M := M.call hb; clear hb)))
    go_roundw
    case rel => exact ⟨3, rfl, by simp, h1' , (fun _ => rfl), M.sub (by (repeat (first | exact List.Sublist.slnil | apply List.Sublist.cons_cons | apply List.Sublist.cons)))⟩
    case measure => decide
   | true =>
    cases v2 with
    | false =>
     go_wp2_with (first | (refine m_ld1 M rfl rfl rfl (by (repeat' (first | exact Zz2 | refine Zz1 ?_))) (by rfl) ?_) | (refine m_ldr M rfl rfl rfl (by (repeat' (first | exact Zz2 | refine Zz1 ?_))) (by (try simp only [Zy2, List.take_zero, List.take_nil, Zy1, List.drop_zero, List.drop_nil, List.cons_append, List.nil_append, List.append_nil, List.length_cons, List.length_nil, Nat.reduceAdd, Nat.zero_add, Nat.add_zero]); rfl) (by rfl) ?_) | (refine m_st M rfl rfl rfl (by first | exact (rfl : _ = Value.agg _) | exact (rfl : _ = Value.int _ _) | exact (rfl : _ = Value.bool _) | exact (rfl : _ = Value.slice _ _ _) | exact (rfl : _ = Value.pointer _) | exact (rfl : _ = Value.map _) | exact (rfl : _ = Value.func _ _ _) | exact (rfl : _ = Value.string _)) (by rfl) (by (repeat (first | exact Upd.head | apply Upd.tail))) (by (try simp only [Zy2, List.take_zero, List.take_nil, Zy1, List.drop_zero, List.drop_nil, List.cons_append, List.nil_append, List.append_nil, List.length_cons, List.length_nil, Nat.reduceAdd, Nat.zero_add, Nat.add_zero]); rfl) (by simp) (by simp [Value.oneCell']) (by kernel_rfl) ?_; clear M; (try clear wc); intro wc M) | (refine m_al M rfl rfl ?_; clear M; (try clear wc); intro g wc M) | (refine m_bx M rfl rfl (by first | exact (rfl : _ = Value.agg _) | exact (rfl : _ = Value.int _ _) | exact (rfl : _ = Value.bool _) | exact (rfl : _ = Value.slice _ _ _) | exact (rfl : _ = Value.pointer _) | exact (rfl : _ = Value.map _) | exact (rfl : _ = Value.func _ _ _) | exact (rfl : _ = Value.string _)) (by rfl) ?_; clear M; (try clear wc); intro g wc M) | (go_at_call 143; ((with_reducible refine (movedR j A c s0 s1 bg bx p0 p1 t r n _ HJ.out HB.out).mono ?_); (rw [HO2.out]); rintro e wc ⟨rfl, hb⟩; replace M := M.call hb; clear hb)) | (go_at_call 130; ((with_reducible refine (reads_any j A c s0 s1 bg bx bm n HJ.out HS.out (p0 - j.d1) (p1 - j.d0) t (r + 1) _ (bnd_root HJ.out HB.out) (HG.out.kept M.grown (M.at (q := (bm, memG j s0 s1)) (by (repeat' (first | exact Zz2 | refine Zz1 ?_)))))).mono ?_); rintro e wc ⟨rfl, hgr, hm⟩; (rw [HR2.out]); replace M := M.callW (by (repeat (first | exact Upd.head | apply Upd.tail))) hgr hm; clear hgr hm)))
     go_roundw
     case rel => exact ⟨3, rfl, by simp, h1' , (fun _ => rfl), M.sub (by (repeat (first | exact List.Sublist.slnil | apply List.Sublist.cons_cons | apply List.Sublist.cons)))⟩
     case measure => decide
    | true =>
     go_wp2_with (first | (refine m_ld1 M rfl rfl rfl (by (repeat' (first | exact Zz2 | refine Zz1 ?_))) (by rfl) ?_) | (refine m_ldr M rfl rfl rfl (by (repeat' (first | exact Zz2 | refine Zz1 ?_))) (by (try simp only [Zy2, List.take_zero, List.take_nil, Zy1, List.drop_zero, List.drop_nil, List.cons_append, List.nil_append, List.append_nil, List.length_cons, List.length_nil, Nat.reduceAdd, Nat.zero_add, Nat.add_zero]); rfl) (by rfl) ?_) | (refine m_st M rfl rfl rfl (by first | exact (rfl : _ = Value.agg _) | exact (rfl : _ = Value.int _ _) | exact (rfl : _ = Value.bool _) | exact (rfl : _ = Value.slice _ _ _) | exact (rfl : _ = Value.pointer _) | exact (rfl : _ = Value.map _) | exact (rfl : _ = Value.func _ _ _) | exact (rfl : _ = Value.string _)) (by rfl) (by (repeat (first | exact Upd.head | apply Upd.tail))) (by (try simp only [Zy2, List.take_zero, List.take_nil, Zy1, List.drop_zero, List.drop_nil, List.cons_append, List.nil_append, List.append_nil, List.length_cons, List.length_nil, Nat.reduceAdd, Nat.zero_add, Nat.add_zero]); rfl) (by simp) (by simp [Value.oneCell']) (by kernel_rfl) ?_; clear M; (try clear wc); intro wc M) | (refine m_al M rfl rfl ?_; clear M; (try clear wc); intro g wc M) | (refine m_bx M rfl rfl (by first | exact (rfl : _ = Value.agg _) | exact (rfl : _ = Value.int _ _) | exact (rfl : _ = Value.bool _) | exact (rfl : _ = Value.slice _ _ _) | exact (rfl : _ = Value.pointer _) | exact (rfl : _ = Value.map _) | exact (rfl : _ = Value.func _ _ _) | exact (rfl : _ = Value.string _)) (by rfl) ?_; clear M; (try clear wc); intro g wc M) | (go_at_call 143; ((with_reducible refine (movedR j A c s0 s1 bg bx p0 p1 t r n _ HJ.out HB.out).mono ?_); (rw [HO2.out]); rintro e wc ⟨rfl, hb⟩; replace M := M.call hb; clear hb)) | (go_at_call 130; ((with_reducible refine (reads_any j A c s0 s1 bg bx bm n HJ.out HS.out (p0 - j.d1) (p1 - j.d0) t (r + 1) _ (bnd_root HJ.out HB.out) (HG.out.kept M.grown (M.at (q := (bm, memG j s0 s1)) (by (repeat' (first | exact Zz2 | refine Zz1 ?_)))))).mono ?_); rintro e wc ⟨rfl, hgr, hm⟩; (rw [HR2.out]); replace M := M.callW (by (repeat (first | exact Upd.head | apply Upd.tail))) hgr hm; clear hgr hm)))
     go_ret
     exact ⟨ret_int (show sv = 2 from by (have h := h1'.out; rw [HV.out, if_neg (by simpa using h)]; rfl)).symm, M.grown, (M.at (q := (bm, memG j s0 s1)) (by (repeat' (first | exact Zz2 | refine Zz1 ?_))))⟩
  ·go_wp2_with (first | (refine m_ld1 M rfl rfl rfl (by (repeat' (first | exact Zz2 | refine Zz1 ?_))) (by rfl) ?_) | (refine m_ldr M rfl rfl rfl (by (repeat' (first | exact Zz2 | refine Zz1 ?_))) (by (try simp only [Zy2, List.take_zero, List.take_nil, Zy1, List.drop_zero, List.drop_nil, List.cons_append, List.nil_append, List.append_nil, List.length_cons, List.length_nil, Nat.reduceAdd, Nat.zero_add, Nat.add_zero]); rfl) (by rfl) ?_) | (refine m_st M rfl rfl rfl (by first | exact (rfl : _ = Value.agg _) | exact (rfl : _ = Value.int _ _) | exact (rfl : _ = Value.bool _) | exact (rfl : _ = Value.slice _ _ _) | exact (rfl : _ = Value.pointer _) | exact (rfl : _ = Value.map _) | exact (rfl : _ = Value.func _ _ _) | exact (rfl : _ = Value.string _)) (by rfl) (by (repeat (first | exact Upd.head | apply Upd.tail))) (by (try simp only [Zy2, List.take_zero, List.take_nil, Zy1, List.drop_zero, List.drop_nil, List.cons_append, List.nil_append, List.append_nil, List.length_cons, List.length_nil, Nat.reduceAdd, Nat.zero_add, Nat.add_zero]); rfl) (by simp) (by simp [Value.oneCell']) (by kernel_rfl) ?_; clear M; (try clear wc); intro wc M) | (refine m_al M rfl rfl ?_; clear M; (try clear wc); intro g wc M) | (refine m_bx M rfl rfl (by first | exact (rfl : _ = Value.agg _) | exact (rfl : _ = Value.int _ _) | exact (rfl : _ = Value.bool _) | exact (rfl : _ = Value.slice _ _ _) | exact (rfl : _ = Value.pointer _) | exact (rfl : _ = Value.map _) | exact (rfl : _ = Value.func _ _ _) | exact (rfl : _ = Value.string _)) (by rfl) ?_; clear M; (try clear wc); intro g wc M))
   go_ret
   have e : sv = 0 := by
    have h := h1.out
    have h' : (o2 && v2) = false := by first | exact h2.out rfl | exact h2.out | (have := h2.out; simpa using this)
    rw [HV.out, if_neg (by simpa using h), if_neg (by rw [h']; simp)]
   exact ⟨ret_int e.symm, M.grown, (M.at (q := (bm, memG j s0 s1)) (by (repeat' (first | exact Zz2 | refine Zz1 ?_))))⟩
theorem kn5_inj {p0 p1 t r a b c d : Int} {n m : Nat} (h : kn5 p0 p1 t r n = kn5 a b c d m) : p0 = a ∧ p1 = b ∧ t = c ∧ r = d ∧ n = m := by
 simp at h
 exact ⟨h.1, h.2.1, h.2.2.1, h.2.2.2.1, by have := h.2.2.2.2; omega⟩
theorem stops_of (j : Jb) (A : Option Addr) (c : Nat) (s0 s1 : Int) (bg bx bm : Nat) (n : Nat) (p0 p1 t r : Int) (w : World) (hb : Bnd n p0 p1 t r) (hg : Gm j A c s0 s1 bg bx bm w)
  (hs : ∀ w', Gm j A c s0 s1 bg bx bm w' → Calls Tryz.prog 140 #[.agg (gmA j A c s0 s1 bg bx).toArray, kn5 p0 p1 t r n] w' (GPost j s0 s1 bm (Zi (strokeP j s0 s1 n p0 p1 t r)) w')) :
  Calls Tryz.prog 138 #[kn5 p0 p1 t r n, Zj bg, Zj bx] w (GPost j s0 s1 bm (.bool (stopsP j s0 s1 n p0 p1 t r)) w) := by
 have M := Mem.initEx hg.m
 have HG := Lib.hid hg
 have HS := Lib.hid hs
 have HE := Lib.hid (stopsP_eq j s0 s1 n p0 p1 t r)
 obtain ⟨kl, hkl⟩ := Tryz.kn_key ⟨p0, p1, t, r, n⟩ (by obtain ⟨h1, h2, h3, h4, h5⟩ := hb; exact ⟨by dsimp only; omega, by dsimp only; omega, by dsimp only; omega, by dsimp only; omega, by dsimp only; omega⟩)
 have HK := Lib.hid hkl
 have HO : Hid (∀ v, okG j s0 s1 (kn5 p0 p1 t r n) v ↔ v = .bool (stopsP j s0 s1 n p0 p1 t r)) := by
  intro v
  refine ⟨fun h => h p0 p1 t r n rfl, fun h a b c d m e => ?_⟩
  obtain ⟨rfl, rfl, rfl, rfl, rfl⟩ := kn5_inj e
  exact h
 clear hg hs hkl hb
 generalize hst : stopsP j s0 s1 n p0 p1 t r = sv at *
 generalize hsk : strokeP j s0 s1 n p0 p1 t r = kv at *
 clear hst hsk
 cases hh : hasB s0 s1 p0 p1 with
 | true =>
  have HH := Lib.hid hh
  have HV : Hid (sv = true) := by show _ = _; rw [HE.out, hh]; rfl
  clear hh
  go_enter Tryz.func138, Tryz.ntmps138
  refine m_start M ?_
  clear M
  intro wc M
  go_wp2_with (first | (refine m_ld1 M rfl rfl rfl (by (repeat' (first | exact Zz2 | refine Zz1 ?_))) (by rfl) ?_) | (refine m_ldr M rfl rfl rfl (by (repeat' (first | exact Zz2 | refine Zz1 ?_))) (by (try simp only [Zy2, List.take_zero, List.take_nil, Zy1, List.drop_zero, List.drop_nil, List.cons_append, List.nil_append, List.append_nil, List.length_cons, List.length_nil, Nat.reduceAdd, Nat.zero_add, Nat.add_zero]); rfl) (by rfl) ?_) | (refine m_st M rfl rfl rfl (by first | exact (rfl : _ = Value.agg _) | exact (rfl : _ = Value.int _ _) | exact (rfl : _ = Value.bool _) | exact (rfl : _ = Value.slice _ _ _) | exact (rfl : _ = Value.pointer _) | exact (rfl : _ = Value.map _) | exact (rfl : _ = Value.func _ _ _) | exact (rfl : _ = Value.string _)) (by rfl) (by (repeat (first | exact Upd.head | apply Upd.tail))) (by (try simp only [Zy2, List.take_zero, List.take_nil, Zy1, List.drop_zero, List.drop_nil, List.cons_append, List.nil_append, List.append_nil, List.length_cons, List.length_nil, Nat.reduceAdd, Nat.zero_add, Nat.add_zero]); rfl) (by simp) (by simp [Value.oneCell']) (by kernel_rfl) ?_; clear M; (try clear wc); intro wc M) | (refine m_al M rfl rfl ?_; clear M; (try clear wc); intro g wc M) | (refine m_bx M rfl rfl (by first | exact (rfl : _ = Value.agg _) | exact (rfl : _ = Value.int _ _) | exact (rfl : _ = Value.bool _) | exact (rfl : _ = Value.slice _ _ _) | exact (rfl : _ = Value.pointer _) | exact (rfl : _ = Value.map _) | exact (rfl : _ = Value.func _ _ _) | exact (rfl : _ = Value.string _)) (by rfl) ?_; clear M; (try clear wc); intro g wc M) | (refine lo_row (M.old HG.out.g HG.out.ng) rfl rfl rfl (by (try simp only [Zy2, List.take_zero, List.take_nil, Zy1, List.drop_zero, List.drop_nil, List.cons_append, List.nil_append, List.append_nil, List.length_cons, List.length_nil, Nat.reduceAdd, Nat.zero_add, Nat.add_zero]); rfl) (by rfl) ?_) | (go_at_call 139; ((with_reducible refine (has_any _ _ _ _ _).mono ?_); (rw [HH.out]); rintro e wc ⟨rfl, hb⟩; replace M := M.call hb; clear hb)))
  go_ret
  rw [HV.out]
  exact ⟨rfl, M.grown, (M.at (q := (bm, memG j s0 s1)) (by (repeat' (first | exact Zz2 | refine Zz1 ?_))))⟩
 | false =>
  have HH := Lib.hid hh
  have HV : Hid (sv = decide (0 < kv)) := by show _ = _; rw [HE.out, hh]; rfl
  clear hh
  go_enter Tryz.func138, Tryz.ntmps138
  refine m_start M ?_
  clear M
  intro wc M
  go_wp2_with (first | (refine m_ld1 M rfl rfl rfl (by (repeat' (first | exact Zz2 | refine Zz1 ?_))) (by rfl) ?_) | (refine m_ldr M rfl rfl rfl (by (repeat' (first | exact Zz2 | refine Zz1 ?_))) (by (try simp only [Zy2, List.take_zero, List.take_nil, Zy1, List.drop_zero, List.drop_nil, List.cons_append, List.nil_append, List.append_nil, List.length_cons, List.length_nil, Nat.reduceAdd, Nat.zero_add, Nat.add_zero]); rfl) (by rfl) ?_) | (refine m_st M rfl rfl rfl (by first | exact (rfl : _ = Value.agg _) | exact (rfl : _ = Value.int _ _) | exact (rfl : _ = Value.bool _) | exact (rfl : _ = Value.slice _ _ _) | exact (rfl : _ = Value.pointer _) | exact (rfl : _ = Value.map _) | exact (rfl : _ = Value.func _ _ _) | exact (rfl : _ = Value.string _)) (by rfl) (by (repeat (first | exact Upd.head | apply Upd.tail))) (by (try simp only [Zy2, List.take_zero, List.take_nil, Zy1, List.drop_zero, List.drop_nil, List.cons_append, List.nil_append, List.append_nil, List.length_cons, List.length_nil, Nat.reduceAdd, Nat.zero_add, Nat.add_zero]); rfl) (by simp) (by simp [Value.oneCell']) (by kernel_rfl) ?_; clear M; (try clear wc); intro wc M) | (refine m_al M rfl rfl ?_; clear M; (try clear wc); intro g wc M) | (refine m_bx M rfl rfl (by first | exact (rfl : _ = Value.agg _) | exact (rfl : _ = Value.int _ _) | exact (rfl : _ = Value.bool _) | exact (rfl : _ = Value.slice _ _ _) | exact (rfl : _ = Value.pointer _) | exact (rfl : _ = Value.map _) | exact (rfl : _ = Value.func _ _ _) | exact (rfl : _ = Value.string _)) (by rfl) ?_; clear M; (try clear wc); intro g wc M) | (refine lo_row (M.old HG.out.g HG.out.ng) rfl rfl rfl (by (try simp only [Zy2, List.take_zero, List.take_nil, Zy1, List.drop_zero, List.drop_nil, List.cons_append, List.nil_append, List.append_nil, List.length_cons, List.length_nil, Nat.reduceAdd, Nat.zero_add, Nat.add_zero]); rfl) (by rfl) ?_) | (refine lo_one (cs := [.map (some bm)]) (M.old HG.out.x HG.out.nx) rfl rfl rfl (by rfl) ?_) | (go_at_call 139; ((with_reducible refine (has_any _ _ _ _ _).mono ?_); (rw [HH.out]); rintro e wc ⟨rfl, hb⟩; replace M := M.call hb; clear hb)) | ((refine lk (ok := okG j s0 s1) Tryz.keyed Tryz.underlying174 Tryz.zeroBool M rfl rfl rfl rfl (by (repeat' (first | exact Zz2 | refine Zz1 ?_))) HK.out ?_ ?_); (intro v hv; have hv := (HO.out v).1 hv; subst hv)) | (go_at_call 140; ((with_reducible refine (HS.out _ (HG.out.kept M.grown (M.at (q := (bm, memG j s0 s1)) (by (repeat' (first | exact Zz2 | refine Zz1 ?_)))))).mono ?_); rintro e wc ⟨rfl, hgr, hm⟩; skip; replace M := M.callW (by (repeat (first | exact Upd.head | apply Upd.tail))) hgr hm; clear hgr hm)) | (refine mu (ok := okG j s0 s1) Tryz.keyed Tryz.underlying174 M rfl rfl rfl rfl rfl (by (repeat (first | exact Upd.head | apply Upd.tail))) HK.out ((HO.out _).2 (by rw [HV.out]; rfl)) ?_; clear M; (try clear wc); intro wc M))
  ·go_ret
   exact ⟨rfl, M.grown, (M.at (q := (bm, memG j s0 s1)) (by (repeat' (first | exact Zz2 | refine Zz1 ?_))))⟩
  ·go_ret
   rw [HV.out]
   exact ⟨rfl, M.grown, (M.at (q := (bm, memG j s0 s1)) (by (repeat' (first | exact Zz2 | refine Zz1 ?_))))⟩
theorem stops_any (j : Jb) (A : Option Addr) (c : Nat) (s0 s1 : Int) (bg bx bm : Nat) (hj : j.good) : ∀ n, StopsC j A c s0 s1 bg bx bm n
 | 0 => fun p0 p1 t r w hb hg => stops_of j A c s0 s1 bg bx bm 0 p0 p1 t r w hb hg fun w' hg' => stroke_0 j A c s0 s1 bg bx bm p0 p1 t r w' hg'
 | n + 1 => fun p0 p1 t r w hb hg => stops_of j A c s0 s1 bg bx bm (n + 1) p0 p1 t r w hb hg fun w' hg' => stroke_s j A c s0 s1 bg bx bm n hj (stops_any j A c s0 s1 bg bx bm hj n) p0 p1 t r w' hb hg'
theorem readsC (j : Jb) (A : Option Addr) (c : Nat) (s0 s1 : Int) (bg bx bm : Nat) (hj : j.good) (n : Nat) (p0 p1 t r : Int) (w : World) (hb : Bnd n p0 p1 t r) (hg : Gm j A c s0 s1 bg bx bm w) :
  Calls Tryz.prog 130 #[.agg (gmA j A c s0 s1 bg bx).toArray, kn5 p0 p1 t r n] w (GPost j s0 s1 bm (.bool (readsP j s0 s1 n p0 p1 t r)) w) := reads_any j A c s0 s1 bg bx bm n hj (stops_any j A c s0 s1 bg bx bm hj n) p0 p1 t r w hb hg
def firstB (b : Nat → Bool) : Nat → Nat → Option Nat
 | 0, _ => none
 | k + 1, n => if b n = true then some n else firstB b k (n + 1)
theorem first_hit {b : Nat → Bool} {n : Nat} (hn : n < 5) (h : b n = true) : firstB b (5 - n) n = some n := by
 obtain ⟨k, hk⟩ : ∃ k, 5 - n = k + 1 := ⟨4 - n, by omega⟩
 rw [hk, firstB, if_pos h]
theorem first_miss {b : Nat → Bool} {n : Nat} (hn : n < 5) (h : b n = false) : firstB b (5 - n) n = firstB b (5 - (n + 1)) (n + 1) := by
 obtain ⟨k, hk⟩ : ∃ k, 5 - n = k + 1 := ⟨4 - n, by omega⟩
 have hk2 : 5 - (n + 1) = k := by omega
 rw [hk, firstB, if_neg (by rw [h]; simp), hk2]
theorem first_end {b : Nat → Bool} {n : Nat} (hn : 5 ≤ n) : firstB b (5 - n) n = none := by
 have : 5 - n = 0 := by omega
 rw [this]; rfl
def fewV (o : Option Nat) : Value := match o with | some n => .tuple #[Zi n, .bool true] | none => .tuple #[Zi 0, .bool false]
theorem fewest_Guided (j : Jb) (s0 s1 : Int) (bm gG gJ : Nat) (b : Nat → Bool) (Inv : World → Prop) (hI : ∀ W W', Inv W → W.grownBy W' (some bm) → (memG j s0 s1).holds W' bm → Inv W')
  (hf : ∀ (n : Nat) W, n < 5 → Inv W → Calls Tryz.prog 129 #[Zi n, Zj gG, Zj gJ] W (GPost j s0 s1 bm (.bool (b n)) W)) (w : World) (h0 : Inv w) (hm : (memG j s0 s1).holds w bm) :
  Calls Tryz.prog 128 #[.func (.func 129) #[] #[Zj gG, Zj gJ]] w (GPost j s0 s1 bm (fewV (firstB b 5 0)) w) := by
 have HI := Lib.hid hI
 have HF := Lib.hid hf
 have H0 := Lib.hid h0
 have M := Mem.initEx hm
 clear hI hf h0 hm
 generalize hv : firstB b 5 0 = fv at *
 have HV := Lib.hid hv
 clear hv
 go_enter Tryz.func128, Tryz.ntmps128
 refine m_start M ?_
 clear M
 intro wc M
 go_wp2_with (first | (refine m_ld1 M rfl rfl rfl (by (repeat' (first | exact Zz2 | refine Zz1 ?_))) (by rfl) ?_) | (refine m_ldr M rfl rfl rfl (by (repeat' (first | exact Zz2 | refine Zz1 ?_))) (by (try simp only [Zy2, List.take_zero, List.take_nil, Zy1, List.drop_zero, List.drop_nil, List.cons_append, List.nil_append, List.append_nil, List.length_cons, List.length_nil, Nat.reduceAdd, Nat.zero_add, Nat.add_zero]); rfl) (by rfl) ?_) | (refine m_st M rfl rfl rfl (by first | exact (rfl : _ = Value.agg _) | exact (rfl : _ = Value.int _ _) | exact (rfl : _ = Value.bool _) | exact (rfl : _ = Value.slice _ _ _) | exact (rfl : _ = Value.pointer _) | exact (rfl : _ = Value.map _) | exact (rfl : _ = Value.func _ _ _) | exact (rfl : _ = Value.string _)) (by rfl) (by (repeat (first | exact Upd.head | apply Upd.tail))) (by (try simp only [Zy2, List.take_zero, List.take_nil, Zy1, List.drop_zero, List.drop_nil, List.cons_append, List.nil_append, List.append_nil, List.length_cons, List.length_nil, Nat.reduceAdd, Nat.zero_add, Nat.add_zero]); rfl) (by simp) (by simp [Value.oneCell']) (by kernel_rfl) ?_; clear M; (try clear wc); intro wc M) | (refine m_al M rfl rfl ?_; clear M; (try clear wc); intro g wc M) | (refine m_bx M rfl rfl (by first | exact (rfl : _ = Value.agg _) | exact (rfl : _ = Value.int _ _) | exact (rfl : _ = Value.bool _) | exact (rfl : _ = Value.slice _ _ _) | exact (rfl : _ = Value.pointer _) | exact (rfl : _ = Value.map _) | exact (rfl : _ = Value.func _ _ _) | exact (rfl : _ = Value.string _)) (by rfl) ?_; clear M; (try clear wc); intro g wc M))
 go_loopw [5] (fun v wr => ∃ n : Nat, v = Zi n ∧ n ≤ 5 ∧ Hid (firstB b 5 0 = firstB b (5 - n) n) ∧ Mem w (fun b => b = bm) wr [(bm, memG j s0 s1)]) (fun v _ => (5 - intOf v).toNat)
 case atStart => exact ⟨0, rfl, by omega, rfl, M⟩
 case round =>
  clear M wc
  obtain ⟨n, rfl, hn, he, M⟩ := hrel
  obtain ⟨wc, rfl⟩ : ∃ x : World, x = wr := ⟨_, rfl⟩
  by_cases hlt : n < 5
  ·have e1 : decide ((n : Int) < 5) = true := by simp; omega
   have HL := Lib.hid hlt
   have CI := Lib.hid (HI.out w wc H0.out M.grown (M.at (q := (bm, memG j s0 s1)) (by (repeat' (first | exact Zz2 | refine Zz1 ?_)))))
   cases hb : b n with
   | true =>
    have HB := Lib.hid hb
    clear hb
    go_wp2_with (first | (refine m_ld1 M rfl rfl rfl (by (repeat' (first | exact Zz2 | refine Zz1 ?_))) (by rfl) ?_) | (refine m_ldr M rfl rfl rfl (by (repeat' (first | exact Zz2 | refine Zz1 ?_))) (by (try simp only [Zy2, List.take_zero, List.take_nil, Zy1, List.drop_zero, List.drop_nil, List.cons_append, List.nil_append, List.append_nil, List.length_cons, List.length_nil, Nat.reduceAdd, Nat.zero_add, Nat.add_zero]); rfl) (by rfl) ?_) | (refine m_st M rfl rfl rfl (by first | exact (rfl : _ = Value.agg _) | exact (rfl : _ = Value.int _ _) | exact (rfl : _ = Value.bool _) | exact (rfl : _ = Value.slice _ _ _) | exact (rfl : _ = Value.pointer _) | exact (rfl : _ = Value.map _) | exact (rfl : _ = Value.func _ _ _) | exact (rfl : _ = Value.string _)) (by rfl) (by (repeat (first | exact Upd.head | apply Upd.tail))) (by (try simp only [Zy2, List.take_zero, List.take_nil, Zy1, List.drop_zero, List.drop_nil, List.cons_append, List.nil_append, List.append_nil, List.length_cons, List.length_nil, Nat.reduceAdd, Nat.zero_add, Nat.add_zero]); rfl) (by simp) (by simp [Value.oneCell']) (by kernel_rfl) ?_; clear M; (try clear wc); intro wc M) | (refine m_al M rfl rfl ?_; clear M; (try clear wc); intro g wc M) | (refine m_bx M rfl rfl (by first | exact (rfl : _ = Value.agg _) | exact (rfl : _ = Value.int _ _) | exact (rfl : _ = Value.bool _) | exact (rfl : _ = Value.slice _ _ _) | exact (rfl : _ = Value.pointer _) | exact (rfl : _ = Value.map _) | exact (rfl : _ = Value.func _ _ _) | exact (rfl : _ = Value.string _)) (by rfl) ?_; clear M; (try clear wc); intro g wc M) | (go_at_call 129; ((with_reducible refine (HF.out n _ HL.out CI.out).mono ?_); rintro e wc ⟨rfl, hgr, hm⟩; (rw [HB.out]); replace M := M.callW (by (repeat (first | exact Upd.head | apply Upd.tail))) hgr hm; clear hgr hm)))
    go_ret2
    have e : fv = some n := by rw [← HV.out, he.out, first_hit HL.out HB.out]
    rw [e]
    exact ⟨rfl, M.grown, (M.at (q := (bm, memG j s0 s1)) (by (repeat' (first | exact Zz2 | refine Zz1 ?_))))⟩
   | false =>
    have HB := Lib.hid hb
    clear hb
    go_wp2_with (first | (refine m_ld1 M rfl rfl rfl (by (repeat' (first | exact Zz2 | refine Zz1 ?_))) (by rfl) ?_) | (refine m_ldr M rfl rfl rfl (by (repeat' (first | exact Zz2 | refine Zz1 ?_))) (by (try simp only [Zy2, List.take_zero, List.take_nil, Zy1, List.drop_zero, List.drop_nil, List.cons_append, List.nil_append, List.append_nil, List.length_cons, List.length_nil, Nat.reduceAdd, Nat.zero_add, Nat.add_zero]); rfl) (by rfl) ?_) | (refine m_st M rfl rfl rfl (by first | exact (rfl : _ = Value.agg _) | exact (rfl : _ = Value.int _ _) | exact (rfl : _ = Value.bool _) | exact (rfl : _ = Value.slice _ _ _) | exact (rfl : _ = Value.pointer _) | exact (rfl : _ = Value.map _) | exact (rfl : _ = Value.func _ _ _) | exact (rfl : _ = Value.string _)) (by rfl) (by (repeat (first | exact Upd.head | apply Upd.tail))) (by (try simp only [Zy2, List.take_zero, List.take_nil, Zy1, List.drop_zero, List.drop_nil, List.cons_append, List.nil_append, List.append_nil, List.length_cons, List.length_nil, Nat.reduceAdd, Nat.zero_add, Nat.add_zero]); rfl) (by simp) (by simp [Value.oneCell']) (by kernel_rfl) ?_; clear M; (try clear wc); intro wc M) | (refine m_al M rfl rfl ?_; clear M; (try clear wc); intro g wc M) | (refine m_bx M rfl rfl (by first | exact (rfl : _ = Value.agg _) | exact (rfl : _ = Value.int _ _) | exact (rfl : _ = Value.bool _) | exact (rfl : _ = Value.slice _ _ _) | exact (rfl : _ = Value.pointer _) | exact (rfl : _ = Value.map _) | exact (rfl : _ = Value.func _ _ _) | exact (rfl : _ = Value.string _)) (by rfl) ?_; clear M; (try clear wc); intro g wc M) | (go_at_call 129; ((with_reducible refine (HF.out n _ HL.out CI.out).mono ?_); rintro e wc ⟨rfl, hgr, hm⟩; (rw [HB.out]); replace M := M.callW (by (repeat (first | exact Upd.head | apply Upd.tail))) hgr hm; clear hgr hm)))
    go_roundw
    case rel => exact ⟨n + 1, by go_num, by omega, by (show _ = _; rw [he.out, first_miss HL.out HB.out]), M⟩
    case measure => simp [intOf]; omega
  ·have e1 : decide ((n : Int) < 5) = false := by simp; omega
   go_wp2_with (first | (refine m_ld1 M rfl rfl rfl (by (repeat' (first | exact Zz2 | refine Zz1 ?_))) (by rfl) ?_) | (refine m_ldr M rfl rfl rfl (by (repeat' (first | exact Zz2 | refine Zz1 ?_))) (by (try simp only [Zy2, List.take_zero, List.take_nil, Zy1, List.drop_zero, List.drop_nil, List.cons_append, List.nil_append, List.append_nil, List.length_cons, List.length_nil, Nat.reduceAdd, Nat.zero_add, Nat.add_zero]); rfl) (by rfl) ?_) | (refine m_st M rfl rfl rfl (by first | exact (rfl : _ = Value.agg _) | exact (rfl : _ = Value.int _ _) | exact (rfl : _ = Value.bool _) | exact (rfl : _ = Value.slice _ _ _) | exact (rfl : _ = Value.pointer _) | exact (rfl : _ = Value.map _) | exact (rfl : _ = Value.func _ _ _) | exact (rfl : _ = Value.string _)) (by rfl) (by (repeat (first | exact Upd.head | apply Upd.tail))) (by (try simp only [Zy2, List.take_zero, List.take_nil, Zy1, List.drop_zero, List.drop_nil, List.cons_append, List.nil_append, List.append_nil, List.length_cons, List.length_nil, Nat.reduceAdd, Nat.zero_add, Nat.add_zero]); rfl) (by simp) (by simp [Value.oneCell']) (by kernel_rfl) ?_; clear M; (try clear wc); intro wc M) | (refine m_al M rfl rfl ?_; clear M; (try clear wc); intro g wc M) | (refine m_bx M rfl rfl (by first | exact (rfl : _ = Value.agg _) | exact (rfl : _ = Value.int _ _) | exact (rfl : _ = Value.bool _) | exact (rfl : _ = Value.slice _ _ _) | exact (rfl : _ = Value.pointer _) | exact (rfl : _ = Value.map _) | exact (rfl : _ = Value.func _ _ _) | exact (rfl : _ = Value.string _)) (by rfl) ?_; clear M; (try clear wc); intro g wc M))
   go_ret2
   have e : fv = none := by rw [← HV.out, he.out, first_end (by omega)]
   rw [e]
   exact ⟨rfl, M.grown, (M.at (q := (bm, memG j s0 s1)) (by (repeat' (first | exact Zz2 | refine Zz1 ?_))))⟩
structure Gn (j : Jb) (A : Option Addr) (c : Nat) (s0 s1 : Int) (bg bx bm gG gJ : Nat) (w : World) : Prop where
 g : Gm j A c s0 s1 bg bx bm w
 b : Bk w gG (gmA j A c s0 s1 bg bx).toArray
 j : Bk w gJ #[Zi j.p0, Zi j.p1, Zi j.t0, Zi j.t1, Zi j.r0, Zi j.r1, Zi j.u0, Zi j.u1, Zi j.d0, Zi j.d1, Zi j.a0, Zi j.a1, Zi j.b0, Zi j.b1, Zi j.le, .slice A j.sh.length c, Zi j.wi, Zi j.me]
 nb : gG ≠ bm
 nj : gJ ≠ bm
theorem Gn.kept {j : Jb} {A : Option Addr} {c : Nat} {s0 s1 : Int} {bg bx bm gG gJ : Nat} {w w' : World} (h : Gn j A c s0 s1 bg bx bm gG gJ w) (hg : w.grownBy w' (some bm)) (hm : (memG j s0 s1).holds w' bm) : Gn j A c s0 s1 bg bx bm gG gJ w' :=
 ⟨h.g.kept hg hm, h.b.grown hg (fun e => h.nb (by injection e)), h.j.grown hg (fun e => h.nj (by injection e)), h.nb, h.nj⟩
theorem bnd_0 {j : Jb} (hj : j.good) {n : Nat} (hn : n < 5) : Bnd n j.p0 j.p1 0 0 := by
 have := hj.p
 exact ⟨by omega, by omega, by omega, by omega, by omega⟩
theorem Guided1_any (j : Jb) (A : Option Addr) (c : Nat) (s0 s1 : Int) (bg bx bm gG gJ : Nat) (hj : j.good) (n : Nat) (hn : n < 5) (w : World) (hg : Gn j A c s0 s1 bg bx bm gG gJ w) :
  Calls Tryz.prog 129 #[Zi n, Zj gG, Zj gJ] w (GPost j s0 s1 bm (.bool (readsP j s0 s1 n j.p0 j.p1 0 0)) w) := by
 have M := Mem.initEx hg.g.m
 have HG := Lib.hid hg
 have HJ := Lib.hid hj
 clear hg hj
 go_enter Tryz.func129, Tryz.ntmps129
 refine m_start M ?_
 clear M
 intro wc M
 go_wp2_with (first | (refine m_ld1 M rfl rfl rfl (by (repeat' (first | exact Zz2 | refine Zz1 ?_))) (by rfl) ?_) | (refine m_ldr M rfl rfl rfl (by (repeat' (first | exact Zz2 | refine Zz1 ?_))) (by (try simp only [Zy2, List.take_zero, List.take_nil, Zy1, List.drop_zero, List.drop_nil, List.cons_append, List.nil_append, List.append_nil, List.length_cons, List.length_nil, Nat.reduceAdd, Nat.zero_add, Nat.add_zero]); rfl) (by rfl) ?_) | (refine m_st M rfl rfl rfl (by first | exact (rfl : _ = Value.agg _) | exact (rfl : _ = Value.int _ _) | exact (rfl : _ = Value.bool _) | exact (rfl : _ = Value.slice _ _ _) | exact (rfl : _ = Value.pointer _) | exact (rfl : _ = Value.map _) | exact (rfl : _ = Value.func _ _ _) | exact (rfl : _ = Value.string _)) (by rfl) (by (repeat (first | exact Upd.head | apply Upd.tail))) (by (try simp only [Zy2, List.take_zero, List.take_nil, Zy1, List.drop_zero, List.drop_nil, List.cons_append, List.nil_append, List.append_nil, List.length_cons, List.length_nil, Nat.reduceAdd, Nat.zero_add, Nat.add_zero]); rfl) (by simp) (by simp [Value.oneCell']) (by kernel_rfl) ?_; clear M; (try clear wc); intro wc M) | (refine m_al M rfl rfl ?_; clear M; (try clear wc); intro g wc M) | (refine m_bx M rfl rfl (by first | exact (rfl : _ = Value.agg _) | exact (rfl : _ = Value.int _ _) | exact (rfl : _ = Value.bool _) | exact (rfl : _ = Value.slice _ _ _) | exact (rfl : _ = Value.pointer _) | exact (rfl : _ = Value.map _) | exact (rfl : _ = Value.func _ _ _) | exact (rfl : _ = Value.string _)) (by rfl) ?_; clear M; (try clear wc); intro g wc M) | (refine lo_row (M.old HG.out.b HG.out.nb) rfl rfl rfl (by (try simp only [Zy2, List.take_zero, List.take_nil, Zy1, List.drop_zero, List.drop_nil, List.cons_append, List.nil_append, List.append_nil, List.length_cons, List.length_nil, Nat.reduceAdd, Nat.zero_add, Nat.add_zero]); rfl) (by rfl) ?_) | (refine lo_row (M.old HG.out.j HG.out.nj) rfl rfl rfl (by (try simp only [Zy2, List.take_zero, List.take_nil, Zy1, List.drop_zero, List.drop_nil, List.cons_append, List.nil_append, List.append_nil, List.length_cons, List.length_nil, Nat.reduceAdd, Nat.zero_add, Nat.add_zero]); rfl) (by rfl) ?_) | (go_at_call 130; ((with_reducible refine (readsC j A c s0 s1 bg bx bm HJ.out n j.p0 j.p1 0 0 _ (bnd_0 HJ.out hn) (HG.out.kept M.grown (M.at (q := (bm, memG j s0 s1)) (by (repeat' (first | exact Zz2 | refine Zz1 ?_))))).g).mono ?_); rintro e wc ⟨rfl, hgr, hm⟩; skip; replace M := M.callW (by (repeat (first | exact Upd.head | apply Upd.tail))) hgr hm; clear hgr hm)))
 go_ret
 exact ⟨rfl, M.grown, (M.at (q := (bm, memG j s0 s1)) (by (repeat' (first | exact Zz2 | refine Zz1 ?_))))⟩
def guidedF (j : Jb) : Option Nat := firstB (fun n => readsP j (winS j).1 (winS j).2 n j.p0 j.p1 0 0) 5 0
def guidedJ (j : Jb) : Int × Int := if checkJ j = 0 then (match guidedF j with | some n => ((n : Int), 0) | none => (0, 11)) else (0, checkJ j)
theorem Gn.of_mem {j : Jb} {A : Option Addr} {c : Nat} {s0 s1 : Int} {bg bx bm gG gJ : Nat} {w0 w : World} {ex : Nat → Prop} {L : List (Nat × BA)} (M : Mem w0 ex w L)
  (h : [(gG, .cells (gmA j A c s0 s1 bg bx)), (bx, .cells [.map (some bm)]), (bm, memG j s0 s1), (bg, .cells (gmA j A c s0 s1 bg bx)), (gJ, .cells [Zi j.p0, Zi j.p1, Zi j.t0, Zi j.t1, Zi j.r0, Zi j.r1, Zi j.u0, Zi j.u1, Zi j.d0, Zi j.d1, Zi j.a0, Zi j.a1, Zi j.b0, Zi j.b1, Zi j.le, .slice A j.sh.length c, Zi j.wi, Zi j.me])].Sublist L) : Gn j A c s0 s1 bg bx bm gG gJ w := by
 have N := M.sub h
 have hnd := N.nd
 simp only [List.map_cons, List.map_nil, List.nodup_cons, List.mem_cons, not_or, List.not_mem_nil, not_false_eq_true, List.nodup_nil, and_true] at hnd
 obtain ⟨⟨-, n1, -, -⟩, ⟨n2, -, -⟩, ⟨n3, n4⟩, -⟩ := hnd
 exact ⟨⟨N.get (g := bg) (by (repeat' (first | exact Zz2 | refine Zz1 ?_))), N.get (g := bx) (by (repeat' (first | exact Zz2 | refine Zz1 ?_))), N.at (q := (bm, memG j s0 s1)) (by (repeat' (first | exact Zz2 | refine Zz1 ?_))), fun e => n3 e.symm, n2⟩, N.get (g := gG) (by (repeat' (first | exact Zz2 | refine Zz1 ?_))), N.get (g := gJ) (by (repeat' (first | exact Zz2 | refine Zz1 ?_))), n1, fun e => n4 e.symm⟩
theorem Guided_any (j : Jb) (A : Option Addr) (c : Nat) (w : World) (hr : Rd w w.heap.size 2 A j.sh.length (rc j.sh)) (hn : j.sh.length ≤ 9223372036854775807) :
  Calls Tryz.prog 99 #[jobV j A c] w fun e w' => e = .returned (.tuple #[Zi (guidedJ j).1, Zi (guidedJ j).2]) ∧ Below w.heap.size w w' := by
 have HR := Lib.hid hr
 clear hr
 by_cases h0 : checkJ j = 0
 ·have HJ := Lib.hid (good_of h0)
  have H0 := Lib.hid h0
  cases hq : guidedF j with
  | none =>
   have HF : Hid (firstB (fun n => readsP j (winS j).1 (winS j).2 n j.p0 j.p1 0 0) 5 0 = none) := hq
   have HW : Hid (guidedJ j = (0, 11)) := by show _ = _; unfold guidedJ; rw [if_pos h0, hq]
   clear h0 hq
   generalize guidedJ j = gj at *
   go_enter Tryz.func99, Tryz.ntmps99
   refine start noEx ?_
   intro wc M
   go_wp2_with (first | (refine m_ld1 M rfl rfl rfl (by (repeat' (first | exact Zz2 | refine Zz1 ?_))) (by rfl) ?_) | (refine m_ldr M rfl rfl rfl (by (repeat' (first | exact Zz2 | refine Zz1 ?_))) (by (try simp only [Zy2, List.take_zero, List.take_nil, Zy1, List.drop_zero, List.drop_nil, List.cons_append, List.nil_append, List.append_nil, List.length_cons, List.length_nil, Nat.reduceAdd, Nat.zero_add, Nat.add_zero]); rfl) (by rfl) ?_) | (refine m_st M rfl rfl rfl (by first | exact (rfl : _ = Value.agg _) | exact (rfl : _ = Value.int _ _) | exact (rfl : _ = Value.bool _) | exact (rfl : _ = Value.slice _ _ _) | exact (rfl : _ = Value.pointer _) | exact (rfl : _ = Value.map _) | exact (rfl : _ = Value.func _ _ _) | exact (rfl : _ = Value.string _)) (by rfl) (by (repeat (first | exact Upd.head | apply Upd.tail))) (by (try simp only [Zy2, List.take_zero, List.take_nil, Zy1, List.drop_zero, List.drop_nil, List.cons_append, List.nil_append, List.append_nil, List.length_cons, List.length_nil, Nat.reduceAdd, Nat.zero_add, Nat.add_zero]); rfl) (by simp) (by simp [Value.oneCell']) (by kernel_rfl) ?_; clear M; (try clear wc); intro wc M) | (refine m_al M rfl rfl ?_; clear M; (try clear wc); intro g wc M) | (refine m_bx M rfl rfl (by first | exact (rfl : _ = Value.agg _) | exact (rfl : _ = Value.int _ _) | exact (rfl : _ = Value.bool _) | exact (rfl : _ = Value.slice _ _ _) | exact (rfl : _ = Value.pointer _) | exact (rfl : _ = Value.map _) | exact (rfl : _ = Value.func _ _ _) | exact (rfl : _ = Value.string _)) (by rfl) ?_; clear M; (try clear wc); intro g wc M) | (go_at_call 83; ((with_reducible refine (check_any j _ _ _ ?_ ?_).mono ?_); ((exact M.rd HR.out (Nat.le_refl _)); (exact hn)); rw [H0.out]; rintro e wc ⟨rfl, hb⟩; replace M := M.call hb; clear hb)) | (go_at_call 127; refine (play_any (okG j (winS j).1 (winS j).2) j _ _ _ HJ.out.ok ?_).mono ?_; (exact M.rd HR.out (Nat.le_refl _)); rintro e wc ⟨bg, bx, bm, rfl, N⟩; replace M := M.join N; clear N; simp only [List.cons_append, List.nil_append] at M) | (go_at_call 128; refine (fewest_Guided j (winS j).1 (winS j).2 bm _ _ (fun n => readsP j (winS j).1 (winS j).2 n j.p0 j.p1 0 0) (Gn j A c (winS j).1 (winS j).2 bg bx bm _ _) (fun W W' h1 h2 h3 => h1.kept h2 h3) (fun n W hn h => Guided1_any j A c (winS j).1 (winS j).2 bg bx bm _ _ HJ.out n hn W h) _ (Gn.of_mem M (by (repeat (first | exact List.Sublist.slnil | apply List.Sublist.cons_cons | apply List.Sublist.cons)))) (M.at (q := (bm, memG j (winS j).1 (winS j).2)) (by (repeat' (first | exact Zz2 | refine Zz1 ?_))))).mono ?_; rintro e wc ⟨rfl, hgr, hm⟩; rw [HF.out]; dsimp only [fewV]; replace M := M.callW (by (repeat (first | exact Upd.head | apply Upd.tail))) hgr hm; clear hgr hm))
   go_ret2
   rw [HW.out]
   exact ⟨rfl, M.below⟩
  | some n =>
   have HF : Hid (firstB (fun n => readsP j (winS j).1 (winS j).2 n j.p0 j.p1 0 0) 5 0 = some n) := hq
   have HW : Hid (guidedJ j = ((n : Int), 0)) := by show _ = _; unfold guidedJ; rw [if_pos h0, hq]
   clear h0 hq
   generalize guidedJ j = gj at *
   go_enter Tryz.func99, Tryz.ntmps99
   refine start noEx ?_
   intro wc M
   go_wp2_with (first | (refine m_ld1 M rfl rfl rfl (by (repeat' (first | exact Zz2 | refine Zz1 ?_))) (by rfl) ?_) | (refine m_ldr M rfl rfl rfl (by (repeat' (first | exact Zz2 | refine Zz1 ?_))) (by (try simp only [Zy2, List.take_zero, List.take_nil, Zy1, List.drop_zero, List.drop_nil, List.cons_append, List.nil_append, List.append_nil, List.length_cons, List.length_nil, Nat.reduceAdd, Nat.zero_add, Nat.add_zero]); rfl) (by rfl) ?_) | (refine m_st M rfl rfl rfl (by first | exact (rfl : _ = Value.agg _) | exact (rfl : _ = Value.int _ _) | exact (rfl : _ = Value.bool _) | exact (rfl : _ = Value.slice _ _ _) | exact (rfl : _ = Value.pointer _) | exact (rfl : _ = Value.map _) | exact (rfl : _ = Value.func _ _ _) | exact (rfl : _ = Value.string _)) (by rfl) (by (repeat (first | exact Upd.head | apply Upd.tail))) (by (try simp only [Zy2, List.take_zero, List.take_nil, Zy1, List.drop_zero, List.drop_nil, List.cons_append, List.nil_append, List.append_nil, List.length_cons, List.length_nil, Nat.reduceAdd, Nat.zero_add, Nat.add_zero]); rfl) (by simp) (by simp [Value.oneCell']) (by kernel_rfl) ?_; clear M; (try clear wc); intro wc M) | (refine m_al M rfl rfl ?_; clear M; (try clear wc); intro g wc M) | (refine m_bx M rfl rfl (by first | exact (rfl : _ = Value.agg _) | exact (rfl : _ = Value.int _ _) | exact (rfl : _ = Value.bool _) | exact (rfl : _ = Value.slice _ _ _) | exact (rfl : _ = Value.pointer _) | exact (rfl : _ = Value.map _) | exact (rfl : _ = Value.func _ _ _) | exact (rfl : _ = Value.string _)) (by rfl) ?_; clear M; (try clear wc); intro g wc M) | (go_at_call 83; ((with_reducible refine (check_any j _ _ _ ?_ ?_).mono ?_); ((exact M.rd HR.out (Nat.le_refl _)); (exact hn)); rw [H0.out]; rintro e wc ⟨rfl, hb⟩; replace M := M.call hb; clear hb)) | (go_at_call 127; refine (play_any (okG j (winS j).1 (winS j).2) j _ _ _ HJ.out.ok ?_).mono ?_; (exact M.rd HR.out (Nat.le_refl _)); rintro e wc ⟨bg, bx, bm, rfl, N⟩; replace M := M.join N; clear N; simp only [List.cons_append, List.nil_append] at M) | (go_at_call 128; refine (fewest_Guided j (winS j).1 (winS j).2 bm _ _ (fun n => readsP j (winS j).1 (winS j).2 n j.p0 j.p1 0 0) (Gn j A c (winS j).1 (winS j).2 bg bx bm _ _) (fun W W' h1 h2 h3 => h1.kept h2 h3) (fun n W hn h => Guided1_any j A c (winS j).1 (winS j).2 bg bx bm _ _ HJ.out n hn W h) _ (Gn.of_mem M (by (repeat (first | exact List.Sublist.slnil | apply List.Sublist.cons_cons | apply List.Sublist.cons)))) (M.at (q := (bm, memG j (winS j).1 (winS j).2)) (by (repeat' (first | exact Zz2 | refine Zz1 ?_))))).mono ?_; rintro e wc ⟨rfl, hgr, hm⟩; rw [HF.out]; dsimp only [fewV]; replace M := M.callW (by (repeat (first | exact Upd.head | apply Upd.tail))) hgr hm; clear hgr hm))
   go_ret2
   rw [HW.out]
   exact ⟨rfl, M.below⟩
 ·have h1 : (checkJ j != 0) = true := by simpa using h0
  have HW : Hid (guidedJ j = (0, checkJ j)) := by show _ = _; unfold guidedJ; rw [if_neg h0]
  clear h0
  generalize guidedJ j = gj at *
  go_enter Tryz.func99, Tryz.ntmps99
  refine start noEx ?_
  intro wc M
  go_wp2_with (first | (refine m_ld1 M rfl rfl rfl (by (repeat' (first | exact Zz2 | refine Zz1 ?_))) (by rfl) ?_) | (refine m_ldr M rfl rfl rfl (by (repeat' (first | exact Zz2 | refine Zz1 ?_))) (by (try simp only [Zy2, List.take_zero, List.take_nil, Zy1, List.drop_zero, List.drop_nil, List.cons_append, List.nil_append, List.append_nil, List.length_cons, List.length_nil, Nat.reduceAdd, Nat.zero_add, Nat.add_zero]); rfl) (by rfl) ?_) | (refine m_st M rfl rfl rfl (by first | exact (rfl : _ = Value.agg _) | exact (rfl : _ = Value.int _ _) | exact (rfl : _ = Value.bool _) | exact (rfl : _ = Value.slice _ _ _) | exact (rfl : _ = Value.pointer _) | exact (rfl : _ = Value.map _) | exact (rfl : _ = Value.func _ _ _) | exact (rfl : _ = Value.string _)) (by rfl) (by (repeat (first | exact Upd.head | apply Upd.tail))) (by (try simp only [Zy2, List.take_zero, List.take_nil, Zy1, List.drop_zero, List.drop_nil, List.cons_append, List.nil_append, List.append_nil, List.length_cons, List.length_nil, Nat.reduceAdd, Nat.zero_add, Nat.add_zero]); rfl) (by simp) (by simp [Value.oneCell']) (by kernel_rfl) ?_; clear M; (try clear wc); intro wc M) | (refine m_al M rfl rfl ?_; clear M; (try clear wc); intro g wc M) | (refine m_bx M rfl rfl (by first | exact (rfl : _ = Value.agg _) | exact (rfl : _ = Value.int _ _) | exact (rfl : _ = Value.bool _) | exact (rfl : _ = Value.slice _ _ _) | exact (rfl : _ = Value.pointer _) | exact (rfl : _ = Value.map _) | exact (rfl : _ = Value.func _ _ _) | exact (rfl : _ = Value.string _)) (by rfl) ?_; clear M; (try clear wc); intro g wc M) | (go_at_call 83; ((with_reducible refine (check_any j _ _ _ ?_ ?_).mono ?_); ((exact M.rd HR.out (Nat.le_refl _)); (exact hn)); rintro e wc ⟨rfl, hb⟩; replace M := M.call hb; clear hb)))
  go_ret2
  rw [HW.out]
  exact ⟨rfl, M.below⟩
def shL (b : Bx) (x y : Snd) : List (Int × Int) := (List.range (b.press + 1).toNat).map fun (p : Nat) => riseP x y (p : Int)
def jobP (b : Bx) (x y : Snd) : Jb := { blankJ b with p0 := y.t0 - b.due, p1 := y.t1 - b.due, sh := shL b x y }
theorem shL_take {b : Bx} {x y : Snd} {k : Nat} (h : (k : Int) ≤ b.press) : (shL b x y).take (k + 1) = (shL b x y).take k ++ [riseP x y (k : Int)] := by
 unfold shL
 rw [List.take_add_one, List.getElem?_map, List.getElem?_range (by omega)]
 rfl
theorem shL_length (b : Bx) (x y : Snd) : (shL b x y).length = (b.press + 1).toNat := by simp [shL]
def JobPost (j : Jb) (w : World) (e : Ending) (w' : World) : Prop := ∃ A c I, e = .returned (jobV j A c) ∧ (∃ b o, ∀ (w : World) (ex : Nat → Prop), Sp w ex I A j.sh.length 2 b o (rc j.sh)) ∧ Mem w noEx w' I
def strokesE (b : Bx) (i k : Int) : Int × Int := if checkPB b i k = 0 then guidedJ (jobP b (b.low i) (b.high k)) else (0, checkPB b i k)
theorem vjob_any (b : Bx) (A : Option Addr) (c : Nat) (B : Option Addr) (d : Nat) (i k : Int) (il kl : Nat) (x y : Snd) (w : World) (hA : Rd w w.heap.size 4 A b.lows.length (sc b.lows)) (hB : Rd w w.heap.size 4 B b.highs.length (sc b.highs)) (gb : b.good) (hil : i = (il : Nat)) (hkl : k = (kl : Nat)) (hkx : b.lows[il]? = some x) (hky : b.highs[kl]? = some y) :
   Calls Tryz.prog 100 #[bxV b A c B d, Zi i, Zi k] w (JobPost (jobP b x y) w) := by
 have hlA := hA.len4
 have hlB := hB.len4
 obtain ⟨bA, oA, SA⟩ := Sp.old hA
 obtain ⟨bB, oB, SB⟩ := Sp.old hB
 have hil9 := (List.getElem?_eq_some_iff.1 hkx).1
 have hkl9 := (List.getElem?_eq_some_iff.1 hky).1
 have gl3 := gb.law.span
 have gl4 := gb.law.press
 have gn := gb.note
 have gf := gb.law.first
 have gs := gb.law.step
 have gd := gb.due
 unfold Bx.due at gd
 dsimp only at gl3 gl4 gf gs
 have nA := gb.lows.1
 have nB := gb.highs.1
 have gx := gb.lows.2 x (List.mem_of_getElem? hkx)
 have gy := gb.highs.2 y (List.mem_of_getElem? hky)
 obtain ⟨⟨gx1, gx2⟩, gy1, gy2⟩ := And.intro gx gy
 refine Zpx noEx Tryz.func100 rfl 55 rfl [.agg #[Zi b.first, Zi b.step, Zi b.span, Zi b.press, Zi b.note, .slice A b.lows.length c, .slice B b.highs.length d, Zi b.t0, Zi b.t1, Zi b.r0, Zi b.r1, Zi b.u0, Zi b.u1, Zi b.d0, Zi b.d1, Zi b.a0, Zi b.a1, Zi b.b0, Zi b.b1, Zi b.le, Zi b.me], Zi i, Zi k] rfl rfl (Mem.init w _) ?_
 intro ac wc T M
 refine Zsr ?_
 refine Zl2 ?_
 refine Zob M T rfl rfl rfl rfl (T.e 0 rfl) rfl ?_; clear M T; intro g1 wc ac M T
 refine Zl2 ?_
 refine Zoa M T rfl rfl rfl rfl ?_; clear M T; intro g2 wc ac M T
 replace T := T.pick [0, 1, 3, 4] rfl
 refine Zln ?_
 refine wp_seq ?_
 refine Zgs M (M.mask [true, true] rfl) 10 (by kernel_rfl) rfl (by kernel_rfl) ?_
 clear M; intro wc M
 refine g_have (fun ac wc => ∃ (gr1_7 : Nat), Tm ac 55 [(7, Zj gr1_7), (16, Zi (b.first + b.step * b.note)), (11, .agg #[Zi 0, Zi 0, Zi b.t0, Zi b.t1, Zi b.r0, Zi b.r1, Zi b.u0, Zi b.u1, Zi b.d0, Zi b.d1, Zi b.a0, Zi b.a1, Zi b.b0, Zi b.b1, Zi b.le, .slice none 0 0, Zi b.span, Zi b.me]), (15, Zi b.note), (14, .pointer (some ⟨g1, 4, none⟩)), (13, .agg #[Zi b.first, Zi b.step, Zi b.span, Zi b.press]), (12, Zj g1), (10, .agg #[Zi b.first, Zi b.step, Zi b.span, Zi b.press, Zi b.note, .slice A b.lows.length c, .slice B b.highs.length d, Zi b.t0, Zi b.t1, Zi b.r0, Zi b.r1, Zi b.u0, Zi b.u1, Zi b.d0, Zi b.d1, Zi b.a0, Zi b.a1, Zi b.b0, Zi b.b1, Zi b.le, Zi b.me]), (6, Zj g2), (3, Zj g1), (1, Zi i), (2, Zi k)] ∧ Mem w noEx wc [(gr1_7, .cells [Zi 0, Zi 0, Zi 0, Zi 0, Zi 0, Zi 0, Zi 0, Zi 0, Zi 0, Zi 0, Zi 0, Zi 0, Zi 0, Zi 0, Zi 0, .slice none 0 0, Zi 0, Zi 0]), (g2, .cells [Zi 0, Zi 0, Zi 0, Zi 0, Zi 0, Zi 0, Zi 0, Zi 0, Zi 0, Zi 0, Zi 0, Zi 0, Zi 0, Zi 0, Zi 0, .slice none 0 0, Zi 0, Zi 0]), (g1, .cells [Zi b.first, Zi b.step, Zi b.span, Zi b.press, Zi b.note, .slice A b.lows.length c, .slice B b.highs.length d, Zi b.t0, Zi b.t1, Zi b.r0, Zi b.r1, Zi b.u0, Zi b.u1, Zi b.d0, Zi b.d1, Zi b.a0, Zi b.a1, Zi b.b0, Zi b.b1, Zi b.le, Zi b.me])]) (Zpb 10 255) 2 ?_ ?_
 ·clear T M
  rintro ac wc ⟨gr1_7, T, M⟩
  refine gw 8 511 ?_; intro K hK
  refine Zos M T rfl rfl (T.e 0 rfl) (T.e 2 rfl) rfl .head rfl (by simp) rfl (by kernel_rfl) ?_; clear M T; intro wc ac M T
  refine Zso hK _ _ (M.mask [false, true, true] rfl) ?_; clear hK K
  refine gq T 9 1023 rfl (fun _ _ _ _ _ => (Zra rfl (T.e 1 rfl))) ?_; clear T ac; intro ac T
  refine Zgd (by kernel_rfl) ?_
  replace T := T.pick [0, 1, 9, 10, 11, 12] rfl
  refine nm_then ?_
  refine Zsr ?_
  refine Zg8 (v1 := (.pointer (some ⟨g1, 6, none⟩))) (v6 := (.agg #[Zi y.t0, Zi y.t1])) T (Zq (Zrf (off := 6) rfl (T.e 3 rfl) (fun _ _ _ => by kernel_rfl))) rfl (Zo M 2 0 rfl rfl rfl rfl) rfl (Zm 7 rfl rfl) rfl (fun _ T => Zq (Zri (size := 4) kl rfl (T.e 1 rfl) (T.e 0 rfl) ⟨_, Tryz.underlying24, by kernel_rfl⟩ hkl (by omega) (SB.at0 (by omega)))) rfl (Zf 0 0 rfl rfl) rfl (fun _ T => Zq (rn_rowat (Sp.scR02 SB M (Zz9 _) hky) rfl (T.e 0 rfl) rfl)) rfl (Zm 6 rfl rfl) rfl (Zm 7 rfl rfl) rfl ?_; clear T ac; intro ac T
  refine lq (v := (.agg #[Zi (b.first + b.step * b.note), Zi (b.first + b.step * b.note)])) T (rn_build rfl (.cons (T.e 1 rfl) (.cons (T.e 0 rfl) .nil)) (fun _ => by kernel_rfl)) ?_; clear T ac; intro ac T
  refine Zl2 ?_
  refine Zoc (first := []) (cap := []) T rfl rfl rfl rfl evf (.cons (T.e 3 rfl) (.cons (T.e 0 rfl) .nil)) Tryz.func131 rfl rfl ?_
  refine Calls.mono (vless_any y.t0 y.t1 (b.first + b.step * b.note) (b.first + b.step * b.note) _ (by omega) (by omega) (by omega) (by omega)) ?_
  clear T; rintro e wc ⟨rfl, hb⟩ ac T
  replace M := M.call hb; clear hb
  refine Zg2 (v1 := (Zj gr1_7)) (v2 := (Zj gr1_7)) T (Zq (Zrf (off := 0) rfl (T.e 11 rfl) (fun _ _ _ => by kernel_rfl))) rfl (Zf 0 0 rfl rfl) rfl ?_; clear T ac; intro ac T
  refine Zl2 ?_
  refine Zos M T rfl rfl (T.e 0 rfl) (T.e 2 rfl) rfl .head rfl (by simp) rfl (by kernel_rfl) ?_; clear M T; intro wc ac M T
  replace T := T.pick [13, 14, 15, 16, 17] rfl
  refine Zln ?_
  refine wp_seq ?_
  refine Zsr ?_
  refine Zg5 (v1 := (Zj g1)) (v2 := (.pointer (some ⟨g1, 3, none⟩))) T (Zq (Zrf (off := 0) rfl (T.e 2 rfl) (fun _ _ _ => by kernel_rfl))) rfl (Zf 3 0 rfl rfl) rfl (Zo M 2 0 rfl rfl rfl rfl) rfl (fun _ T => Zq (rn_add rfl (T.e 0 rfl) evc (by omega))) rfl (fun _ T => Zq (Zrm rfl evc)) rfl ?_; clear T ac; intro ac T
  replace T := T.pick [0, 1, 5, 6, 7, 8, 9] rfl
  refine Zln ?_
  refine wp_block ?_
  refine wp_loop_n (fun mz ac wc => ∃ (q : Nat) (A3 : Option Addr) (c3 : Nat) (Io : List (Nat × BA)), mz = (b.press + 1 - q).toNat ∧ ((q : Int) ≤ b.press + 1) ∧ (((shL b x y).take q).length ≤ 4) ∧ (Sl 26 2 (.slice A3 ((shL b x y).take q).length c3) ((shL b x y).take q).length (rc ((shL b x y).take q)) Io) ∧ Tm ac 55 [(1, Zi i), (2, Zi k), (3, Zj g1), (6, Zj g2), (7, Zj gr1_7), (32, Zi (b.press + 1)), (33, Zi (q : Int))] ∧ Mem w noEx wc ((gr1_7, .cells [Zi (y.t0 - (b.first + b.step * b.note)), Zi (y.t1 - (b.first + b.step * b.note)), Zi b.t0, Zi b.t1, Zi b.r0, Zi b.r1, Zi b.u0, Zi b.u1, Zi b.d0, Zi b.d1, Zi b.a0, Zi b.a1, Zi b.b0, Zi b.b1, Zi b.le, .slice A3 (((shL b x y).take q).length) c3, Zi b.span, Zi b.me]) :: (g2, .cells [Zi 0, Zi 0, Zi 0, Zi 0, Zi 0, Zi 0, Zi 0, Zi 0, Zi 0, Zi 0, Zi 0, Zi 0, Zi 0, Zi 0, Zi 0, .slice none 0 0, Zi 0, Zi 0]) :: (g1, .cells [Zi b.first, Zi b.step, Zi b.span, Zi b.press, Zi b.note, .slice A b.lows.length c, .slice B b.highs.length d, Zi b.t0, Zi b.t1, Zi b.r0, Zi b.r1, Zi b.u0, Zi b.u1, Zi b.d0, Zi b.d1, Zi b.a0, Zi b.a1, Zi b.b0, Zi b.b1, Zi b.le, Zi b.me]) :: Io)) ?_ ?_
  ·exact ⟨_, 0, none, 0, [], rfl, (by omega), (by simp), (Sl.nil _ _), T.pick [5, 6, 4, 3, 2, 1, 0] rfl, M.mask [true, true, true] rfl⟩
  clear T M
  rintro mz ac wc ⟨q, A3, c3, Io, hmm1, hq, hlq, hsl, T, M⟩
  refine Zsr ?_
  refine lq T (rn_lss rfl (T.e 6 rfl) (T.e 5 rfl)) ?_; clear T ac; intro ac T
  refine Zln ?_
  refine wp_seq ?_
  refine wp_if (T.e 0 rfl) ?_ ?_
  ·intro h1
   refine Zsk ?_
   refine wp_seq ?_
   refine wp_block ?_
   refine Zsr ?_
   refine Zg2 T (Zq (Zrm rfl (T.e 7 rfl))) rfl (Za 0 rfl rfl) rfl ?_; clear T ac; intro ac T
   replace T := T.pick [0, 3, 4, 5, 6, 7, 8, 9] rfl
   refine Zln ?_
   refine Zgs M (M.perm [1, 2] rfl rfl) 18 (by kernel_rfl) rfl (by kernel_rfl) ?_
   clear M; intro wc M
   refine g_addG 17 (M.perm [0, 1, 2] rfl rfl) ?_
   refine gq (v := (.pointer (some ⟨gr1_7, 15, none⟩))) T 0 1 rfl (fun _ _ _ _ _ => (Zrf (off := 15) rfl (T.e 5 rfl) (fun _ _ _ => by kernel_rfl))) ?_; clear T ac; intro ac T
   refine gq T 1 3 rfl (fun B w' hD hl hS => (Zro (Mem.nth (show Mem w noEx w' _ from ((MA.lft hS) (hD.wait (i := 1) (m := 17) (by kernel_rfl) hl))) 0 rfl) rfl (T.e 0 rfl) rfl)) ?_; clear T ac; intro ac T
   refine gq (v := (.pointer (some ⟨g1, 5, none⟩))) T 2 7 rfl (fun _ _ _ _ _ => (Zrf (off := 5) rfl (T.e 5 rfl) (fun _ _ _ => by kernel_rfl))) ?_; clear T ac; intro ac T
   refine gq T 3 15 rfl (fun B w' hD hl hS => (Zro (Mem.nth (show Mem w noEx w' _ from ((MA.lft hS) (hD.wait (i := 3) (m := 17) (by kernel_rfl) hl))) 2 rfl) rfl (T.e 0 rfl) rfl)) ?_; clear T ac; intro ac T
   refine gq T 4 31 rfl (fun _ _ _ _ _ => (Zrm rfl (T.e 5 rfl))) ?_; clear T ac; intro ac T
   refine gq T 5 63 rfl (fun _ _ _ _ _ => (Zri (size := 4) il rfl (T.e 1 rfl) (T.e 0 rfl) ⟨_, Tryz.underlying24, by kernel_rfl⟩ hil (by omega) (SA.at0 (by omega)))) ?_; clear T ac; intro ac T
   refine gq (v := (.agg #[Zi x.t0, Zi x.t1, Zi x.s0, Zi x.s1])) T 6 127 rfl (fun B w' hD hl hS => (rn_rowat (Sp.scR4 SA (show Mem w noEx w' _ from ((MA.lft hS) (hD.wait (i := 6) (m := 17) (by kernel_rfl) hl))) (Zz9 _) hkx) rfl (T.e 0 rfl) rfl)) ?_; clear T ac; intro ac T
   refine gq (v := (.pointer (some ⟨g1, 6, none⟩))) T 7 255 rfl (fun _ _ _ _ _ => (Zrf (off := 6) rfl (T.e 10 rfl) (fun _ _ _ => by kernel_rfl))) ?_; clear T ac; intro ac T
   refine gq T 8 511 rfl (fun B w' hD hl hS => (Zro (Mem.nth (show Mem w noEx w' _ from ((MA.lft hS) (hD.wait (i := 8) (m := 17) (by kernel_rfl) hl))) 2 rfl) rfl (T.e 0 rfl) rfl)) ?_; clear T ac; intro ac T
   refine gq T 9 1023 rfl (fun _ _ _ _ _ => (Zrm rfl (T.e 11 rfl))) ?_; clear T ac; intro ac T
   refine gq T 10 2047 rfl (fun _ _ _ _ _ => (Zri (size := 4) kl rfl (T.e 1 rfl) (T.e 0 rfl) ⟨_, Tryz.underlying24, by kernel_rfl⟩ hkl (by omega) (SB.at0 (by omega)))) ?_; clear T ac; intro ac T
   refine gq (v := (.agg #[Zi y.t0, Zi y.t1, Zi y.s0, Zi y.s1])) T 11 4095 rfl (fun B w' hD hl hS => (rn_rowat (Sp.scR4 SB (show Mem w noEx w' _ from ((MA.lft hS) (hD.wait (i := 11) (m := 17) (by kernel_rfl) hl))) (Zz9 _) hky) rfl (T.e 0 rfl) rfl)) ?_; clear T ac; intro ac T
   refine gq T 12 8191 rfl (fun _ _ _ _ _ => (Zrm rfl (T.e 12 rfl))) ?_; clear T ac; intro ac T
   refine gw 13 16383 ?_; intro K hK
   refine Zoc (first := []) (cap := []) T rfl rfl rfl rfl evf (.cons (T.e 6 rfl) (.cons (T.e 1 rfl) (.cons (T.e 0 rfl) .nil))) Tryz.func112 rfl rfl ?_
   refine Calls.mono (rise_any x y (q : Int) _ gx gy (by (try dsimp only); omega)) ?_
   clear T; rintro e wc ⟨rfl, hb⟩ ac T
   replace M := M.call hb; clear hb
   refine Zso hK _ _ (MA.mk (fun _ => M.perm [0, 1, 2] rfl rfl) (M.perm [1, 2] rfl rfl)) ?_; clear hK K
   refine gw 14 32767 ?_; intro K hK
   refine ow_bs (e := 26) [Zi ((riseP x y (q : Int)).1), Zi ((riseP x y (q : Int)).2)] M T rfl rfl rfl rfl (.cons (T.e 0 rfl) .nil) (fun _ => by kernel_rfl) ?_; clear M T; intro g3 wc ac M T
   refine Zso hK _ _ (MA.mk (fun _ => M.perm [1, 2, 3] rfl rfl) (M.perm [2, 3] rfl rfl)) ?_; clear hK K
   refine gw 15 65535 ?_; intro K hK
   refine ow_app ([(g3, .cells [Zi ((riseP x y (q : Int)).1), Zi ((riseP x y (q : Int)).2)]), (gr1_7, .cells [Zi (y.t0 - (b.first + b.step * b.note)), Zi (y.t1 - (b.first + b.step * b.note)), Zi b.t0, Zi b.t1, Zi b.r0, Zi b.r1, Zi b.u0, Zi b.u1, Zi b.d0, Zi b.d1, Zi b.a0, Zi b.a1, Zi b.b0, Zi b.b1, Zi b.le, .slice A3 (((shL b x y).take q).length) c3, Zi b.span, Zi b.me]), (g2, .cells [Zi 0, Zi 0, Zi 0, Zi 0, Zi 0, Zi 0, Zi 0, Zi 0, Zi 0, Zi 0, Zi 0, Zi 0, Zi 0, Zi 0, Zi 0, .slice none 0 0, Zi 0, Zi 0]), (g1, .cells [Zi b.first, Zi b.step, Zi b.span, Zi b.press, Zi b.note, .slice A b.lows.length c, .slice B b.highs.length d, Zi b.t0, Zi b.t1, Zi b.r0, Zi b.r1, Zi b.u0, Zi b.u1, Zi b.d0, Zi b.d1, Zi b.a0, Zi b.a1, Zi b.b0, Zi b.b1, Zi b.le, Zi b.me])]) Tryz.info26 hsl M (by first | rfl | simp) T rfl rfl rfl rfl Tryz.underlying51 rfl rfl rfl (by omega) (T.e 13 rfl) (T.e 0 rfl) (Zne (i := 0) rfl) rfl rfl ?_; clear M T; intro ga1 cga1 wc ac M T
   refine Zso hK _ _ (MA.mk (fun _ => M.mask [false, false, true, true, true] rfl) (M.mask [false, false, false, true, true] rfl)) ?_; clear hK K
   refine gq (v := (.pointer (some ⟨gr1_7, 15, none⟩))) T 16 131071 rfl (fun _ _ _ _ _ => (Zrf (off := 15) rfl (T.e 21 rfl) (fun _ _ _ => by kernel_rfl))) ?_; clear T ac; intro ac T
   refine gw 17 262143 ?_; intro K hK
   refine Zos M T rfl rfl (T.e 0 rfl) (T.e 1 rfl) rfl (.tail (.tail .head)) rfl (by simp) rfl (by kernel_rfl) ?_; clear M T; intro wc ac M T
   refine Zso hK _ _ (MA.mk (fun h => (no_of (by kernel_rfl) h).elim) (M.mask [false, false, false, true, true] rfl)) ?_; clear hK K
   refine Zgd (by kernel_rfl) ?_
   replace T := T.pick [18, 19, 20, 21, 22, 23, 24] rfl
   replace M := M.mask [true, false, true, true, true] rfl
   refine Znb ?_
   refine nm_then ?_
   refine wp_region_lit ?_
   refine lq T (rn_add rfl (T.e 6 rfl) evc (by omega)) ?_; clear T ac; intro ac T
   refine l_q (v := (Zi ((q : Int) + 1))) (T.pick [0, 1, 2, 3, 4, 5, 6] rfl) rfl rfl rfl rfl (Zrm rfl (T.e 0 rfl)) ?_; clear T ac; intro ac T
   replace T := T.pick [0, 2, 3, 4, 5, 6, 7] rfl
   refine Zln ?_
   have e9 : ((shL b x y).take q).length + 1 = ((shL b x y).take (q + 1)).length := by rw [shL_take (by omega), List.length_append]; rfl
   have e8 : ((rc ((shL b x y).take q)) ++ [Zi ((riseP x y (q : Int)).1), Zi ((riseP x y (q : Int)).2)]) = rc ((shL b x y).take (q + 1)) := by rw [shL_take (by omega), ← rc_snoc]
   rw [e9, e8] at M
   clear e9 e8
   exact ⟨_, by omega, q + 1, _, _, [(ga1, .row 26 2 ((shL b x y).take (q + 1)).length (rc ((shL b x y).take (q + 1))) cga1)], rfl, (by omega), (by rw [List.length_take, shL_length]; omega), (Sl.row _ _ _ _ _ _), T.pick [1, 2, 3, 4, 5, 6, 0] rfl, M.perm [1, 2, 3, 0] rfl rfl⟩
  intro h1
  have e9 : (shL b x y).take q = shL b x y := List.take_of_length_le (by rw [shL_length]; omega)
  rw [e9] at hsl M
  refine wp_exit ?_
  refine Zet ?_
  refine Zet ?_
  refine ex_hit ?_
  refine nm_then ?_
  refine Zsr ?_
  refine lq T (Zrr (Mem.nth M 0 rfl) rfl (T.e 5 rfl) rfl) ?_; clear T ac; intro ac T
  refine Zl2 ?_
  refine Zos M T rfl rfl (T.e 5 rfl) (T.e 0 rfl) rfl (.tail .head) rfl (by simp) rfl (by kernel_rfl) ?_; clear M T; intro wc ac M T
  refine wpList_nil ?_
  replace T := T.pick [5] rfl
  replace M := M.mask [false, true, false] rfl
  refine Znr ?_
  refine rt_c M T rfl (T.e 0 rfl) (Zne (i := 0) rfl) rfl ?_
  obtain ⟨b9, o9, h9⟩ := hsl.spV (rc_length _)
  exact ⟨A3, c3, Io, rfl, ⟨b9, o9, h9⟩, M.mask [false] rfl⟩
 intro H1
 refine g_have (fun ac wc => ∃ (gr1_7 : Nat), Tm ac 55 [(7, Zj gr1_7), (11, .agg #[Zi 0, Zi 0, Zi b.t0, Zi b.t1, Zi b.r0, Zi b.r1, Zi b.u0, Zi b.u1, Zi b.d0, Zi b.d1, Zi b.a0, Zi b.a1, Zi b.b0, Zi b.b1, Zi b.le, .slice none 0 0, Zi b.span, Zi b.me]), (15, Zi b.note), (14, .pointer (some ⟨g1, 4, none⟩)), (13, .agg #[Zi b.first, Zi b.step, Zi b.span, Zi b.press]), (12, Zj g1), (10, .agg #[Zi b.first, Zi b.step, Zi b.span, Zi b.press, Zi b.note, .slice A b.lows.length c, .slice B b.highs.length d, Zi b.t0, Zi b.t1, Zi b.r0, Zi b.r1, Zi b.u0, Zi b.u1, Zi b.d0, Zi b.d1, Zi b.a0, Zi b.a1, Zi b.b0, Zi b.b1, Zi b.le, Zi b.me]), (6, Zj g2), (3, Zj g1), (1, Zi i), (2, Zi k)] ∧ Mem w noEx wc [(gr1_7, .cells [Zi 0, Zi 0, Zi 0, Zi 0, Zi 0, Zi 0, Zi 0, Zi 0, Zi 0, Zi 0, Zi 0, Zi 0, Zi 0, Zi 0, Zi 0, .slice none 0 0, Zi 0, Zi 0]), (g2, .cells [Zi 0, Zi 0, Zi 0, Zi 0, Zi 0, Zi 0, Zi 0, Zi 0, Zi 0, Zi 0, Zi 0, Zi 0, Zi 0, Zi 0, Zi 0, .slice none 0 0, Zi 0, Zi 0]), (g1, .cells [Zi b.first, Zi b.step, Zi b.span, Zi b.press, Zi b.note, .slice A b.lows.length c, .slice B b.highs.length d, Zi b.t0, Zi b.t1, Zi b.r0, Zi b.r1, Zi b.u0, Zi b.u1, Zi b.d0, Zi b.d1, Zi b.a0, Zi b.a1, Zi b.b0, Zi b.b1, Zi b.le, Zi b.me])]) (Zpb 10 191) 3 ?_ ?_
 ·clear T M
  rintro ac wc ⟨gr1_7, T, M⟩
  refine gw 6 255 ?_; intro K hK
  refine Zoc (first := []) (cap := []) T rfl rfl rfl rfl evf (.cons (T.e 4 rfl) (.cons (T.e 2 rfl) .nil)) Tryz.func71 rfl rfl ?_
  refine Calls.mono (vdue_any b.law b.note _ (by (try dsimp only); omega) (by (try dsimp only); omega) (by (try dsimp only); omega)) ?_
  clear T; rintro e wc ⟨rfl, hb⟩ ac T
  replace M := M.call hb; clear hb
  refine Zso hK _ _ (M.mask [false, true, true] rfl) ?_; clear hK K
  exact H1 _ _ ⟨gr1_7, T.pick [1, 0, 2, 3, 4, 5, 6, 7, 8, 9, 10, 11] rfl, M⟩
 intro H0
 refine gq T 0 1 rfl (fun B w' hD hl hS => (Zrr (Mem.nth (show Mem w noEx w' _ from hS) 1 rfl) rfl (T.e 1 rfl) rfl)) ?_; clear T ac; intro ac T
 refine gq (v := (Zj g1)) T 2 5 rfl (fun _ _ _ _ _ => (Zrf (off := 0) rfl (T.e 2 rfl) (fun _ _ _ => by kernel_rfl))) ?_; clear T ac; intro ac T
 refine gq T 3 13 rfl (fun B w' hD hl hS => (Zrr (Mem.nth (show Mem w noEx w' _ from hS) 1 rfl) rfl (T.e 0 rfl) rfl)) ?_; clear T ac; intro ac T
 refine gq (v := (.pointer (some ⟨g1, 4, none⟩))) T 4 29 rfl (fun _ _ _ _ _ => (Zrf (off := 4) rfl (T.e 4 rfl) (fun _ _ _ => by kernel_rfl))) ?_; clear T ac; intro ac T
 refine gq T 5 61 rfl (fun B w' hD hl hS => (Zro (Mem.nth (show Mem w noEx w' _ from hS) 1 rfl) rfl (T.e 0 rfl) rfl)) ?_; clear T ac; intro ac T
 refine g_m2 (i := 1) (j := 7) (by kernel_rfl) ?_ ?_
 ·refine gi 63 ?_; intro K hK
  refine Zoc (first := []) (cap := []) T rfl rfl rfl rfl evf (.cons (T.e 4 rfl) .nil) Tryz.func84 rfl rfl ?_
  refine Calls.mono (blank_any b A c B d _) ?_
  clear T; rintro e wc ⟨rfl, hb⟩ ac T
  replace M := M.call hb; clear hb
  refine Zso hK _ _ (M.mask [true, true] rfl) ?_; clear hK K
  refine g_m2 (i := 6) (j := 7) (by kernel_rfl) ?_ ?_
  ·refine gi 127 ?_; intro K hK
   refine Zoc (first := []) (cap := []) T rfl rfl rfl rfl evf (.cons (T.e 3 rfl) (.cons (T.e 1 rfl) .nil)) Tryz.func71 rfl rfl ?_
   refine Calls.mono (vdue_any b.law b.note _ (by (try dsimp only); omega) (by (try dsimp only); omega) (by (try dsimp only); omega)) ?_
   clear T; rintro e wc ⟨rfl, hb⟩ ac T
   replace M := M.call hb; clear hb
   refine Zso hK _ _ (M.mask [true, true] rfl) ?_; clear hK K
   refine gw 7 255 ?_; intro K hK
   refine Zoa M T rfl rfl rfl rfl ?_; clear M T; intro gr1_7 wc ac M T
   refine Zso hK _ _ (M.mask [false, true, true] rfl) ?_; clear hK K
   exact H1 _ _ ⟨gr1_7, T, M⟩
  refine gi 191 ?_; intro K hK
  refine Zoa M T rfl rfl rfl rfl ?_; clear M T; intro gr1_7 wc ac M T
  refine Zso hK _ _ (M.mask [false, true, true] rfl) ?_; clear hK K
  exact H0 _ _ ⟨gr1_7, T, M⟩
 refine gi 189 ?_; intro K hK
 refine Zoa M T rfl rfl rfl rfl ?_; clear M T; intro gr1_7 wc ac M T
 refine Zso hK _ _ (M.mask [false, true, true] rfl) ?_; clear hK K
 refine gw 1 191 ?_; intro K hK
 refine Zoc (first := []) (cap := []) T rfl rfl rfl rfl evf (.cons (T.e 5 rfl) .nil) Tryz.func84 rfl rfl ?_
 refine Calls.mono (blank_any b A c B d _) ?_
 clear T; rintro e wc ⟨rfl, hb⟩ ac T
 replace M := M.call hb; clear hb
 refine Zso hK _ _ (M.mask [false, true, true] rfl) ?_; clear hK K
 exact H0 _ _ ⟨gr1_7, T.pick [1, 0, 2, 3, 4, 5, 6, 7, 8, 9, 10] rfl, M⟩
theorem VStrokes_any (b : Bx) (A : Option Addr) (c : Nat) (B : Option Addr) (d : Nat) (i k : Int) (w : World) (hA : Rd w w.heap.size 4 A b.lows.length (sc b.lows)) (hB : Rd w w.heap.size 4 B b.highs.length (sc b.highs)) (nA : b.lows.length ≤ 1000000) (nB : b.highs.length ≤ 1000000)  :
   Calls Tryz.prog 48 #[bxV b A c B d, Zi i, Zi k] w fun e w' => e = .returned (.tuple #[Zi ((strokesE b i k).1), Zi ((strokesE b i k).2)]) ∧ Below w.heap.size w w' := by
 have hlA := hA.len4
 have hlB := hB.len4
 obtain ⟨bA, oA, SA⟩ := Sp.old hA
 obtain ⟨bB, oB, SB⟩ := Sp.old hB
 refine Zpx noEx Tryz.func48 rfl 23 rfl [.agg #[Zi b.first, Zi b.step, Zi b.span, Zi b.press, Zi b.note, .slice A b.lows.length c, .slice B b.highs.length d, Zi b.t0, Zi b.t1, Zi b.r0, Zi b.r1, Zi b.u0, Zi b.u1, Zi b.d0, Zi b.d1, Zi b.a0, Zi b.a1, Zi b.b0, Zi b.b1, Zi b.le, Zi b.me], Zi i, Zi k] rfl rfl (Mem.init w _) ?_
 intro ac wc T M
 refine Zsr ?_
 refine Zl2 ?_
 refine Zob M T rfl rfl rfl rfl (T.e 0 rfl) rfl ?_; clear M T; intro g1 wc ac M T
 refine Zg2 T (Zq (Zra rfl evc)) rfl (Zc rfl) rfl ?_; clear T ac; intro ac T
 replace T := T.pick [2, 4, 5] rfl
 refine Zln ?_
 refine wp_seq ?_
 refine Zsr ?_
 refine Zg3 T (Zq (Zrr (Mem.nth M 0 rfl) rfl (T.e 0 rfl) rfl)) rfl (Zm 2 rfl rfl) rfl (Zm 4 rfl rfl) rfl ?_; clear T ac; intro ac T
 refine Zl2 ?_
 refine Zoc (first := []) (cap := []) T rfl rfl rfl rfl evf (.cons (T.e 2 rfl) (.cons (T.e 1 rfl) (.cons (T.e 0 rfl) .nil))) Tryz.func76 rfl rfl ?_
 refine Calls.mono (vcheckPair_any b _ _ _ _ i k _ (SA.rd M (Zz9 _)) (SB.rd M (Zz9 _)) (by omega) (by omega)) ?_
 clear T; rintro e wc ⟨rfl, hb⟩ ac T
 replace M := M.call hb; clear hb
 refine lq T (Zra rfl (T.e 0 rfl)) ?_; clear T ac; intro ac T
 replace T := T.pick [0, 5, 6, 7] rfl
 refine Zln ?_
 refine Zsr ?_
 refine Zg2 T (Zq (Zrm rfl (T.e 0 rfl))) rfl (fun _ T => Zq (rn_neq rfl (T.e 0 rfl) evc)) rfl ?_; clear T ac; intro ac T
 replace T := T.pick [0, 2, 3, 4, 5] rfl
 refine Zln ?_
 refine wp_ifn (T.e 0 rfl) ?_ ?_
 ·intro h1
  refine Zsr ?_
  refine Zg3 T (Zq (Zrm rfl (T.e 1 rfl))) rfl (Zc rfl) rfl (Za 1 rfl rfl) rfl ?_; clear T ac; intro ac T
  refine wpList_nil ?_
  replace T := T.pick [0, 1] rfl
  replace M := M.mask [false] rfl
  refine Znr ?_
  refine Zrt ?_
  refine rt_2 T rfl (T.e 1 rfl) (T.e 0 rfl) ?_
  have e9 : strokesE b i k = (0, checkPB b i k) := by unfold strokesE; rw [if_neg (by assumption)]
  rw [e9]
  exact ⟨rfl, M.below⟩
 intro h1
 obtain ⟨gb, ⟨i0, i1⟩, k0, k1⟩ := checkPB_good (b := b) (i := i) (k := k) (by simpa using h1)
 obtain ⟨il, hil⟩ : ∃ q : Nat, i = (q : Int) := ⟨i.toNat, by omega⟩
 obtain ⟨kl, hkl⟩ : ∃ q : Nat, k = (q : Int) := ⟨k.toNat, by omega⟩
 obtain ⟨x, hx9⟩ : ∃ q, q = b.low i := ⟨_, rfl⟩
 obtain ⟨y, hy9⟩ : ∃ q, q = b.high k := ⟨_, rfl⟩
 have hkx : b.lows[il]? = some x := by rw [hx9, ← Bx.low_get ⟨i0, i1⟩, hil]; rfl
 have hky : b.highs[kl]? = some y := by rw [hy9, ← Bx.high_get ⟨k0, k1⟩, hkl]; rfl
 refine Zsk ?_
 refine Zsr ?_
 refine Zg3 T (Zq (Zrr (Mem.nth M 0 rfl) rfl (T.e 2 rfl) rfl)) rfl (Zm 4 rfl rfl) rfl (Zm 6 rfl rfl) rfl ?_; clear T ac; intro ac T
 refine Zl2 ?_
 refine Zoc (first := []) (cap := []) T rfl rfl rfl rfl evf (.cons (T.e 2 rfl) (.cons (T.e 1 rfl) (.cons (T.e 0 rfl) .nil))) Tryz.func100 rfl rfl ?_
 refine Calls.mono (vjob_any b A c B d i k il kl x y _ (SA.rd M (Zz9 _)) (SB.rd M (Zz9 _)) gb hil hkl hkx hky) ?_
 clear T; rintro e wc ⟨Au2, cu2, Iu2, rfl, SVu2, N⟩ ac T
 obtain ⟨bu2, ou2, SVu2⟩ := SVu2
 obtain ⟨jqu2, hjqu2⟩ : ∃ q, q = jobP b x y := ⟨_, rfl⟩
 rw [← hjqu2] at SVu2
 have Su2 := SVu2 w noEx
 have nqu2 : jqu2.sh.length ≤ 4 := by rw [hjqu2]; show (shL b x y).length ≤ 4; rw [shL_length]; have := gb.law.press; dsimp only at this; omega
 replace M := (M.join N).swapI
 replace M : Mem w noEx wc ((g1, .cells [Zi b.first, Zi b.step, Zi b.span, Zi b.press, Zi b.note, .slice A b.lows.length c, .slice B b.highs.length d, Zi b.t0, Zi b.t1, Zi b.r0, Zi b.r1, Zi b.u0, Zi b.u1, Zi b.d0, Zi b.d1, Zi b.a0, Zi b.a1, Zi b.b0, Zi b.b1, Zi b.le, Zi b.me]) :: Iu2) := M
 clear N
 rw [← hjqu2] at T
 refine Zl2 ?_
 refine Zoc (first := []) (cap := []) T rfl rfl rfl rfl evf (.cons (T.e 0 rfl) .nil) Tryz.func99 rfl rfl ?_
 refine Calls.mono (Guided_any jqu2 _ _ _ (Su2.rd M (.cons _ (List.Sublist.refl _))) (by omega)) ?_
 clear T; rintro e wc ⟨rfl, hb⟩ ac T
 replace M := M.call hb; clear hb
 refine Zg4 T (Zq (Zre rfl (T.e 0 rfl) rfl)) rfl (Ze 1 rfl rfl rfl) rfl (Za 1 rfl rfl) rfl (Za 1 rfl rfl) rfl ?_; clear T ac; intro ac T
 refine wpList_nil ?_
 replace T := T.pick [0, 1] rfl
 replace M := M.mask [false] rfl
 refine Znr ?_
 refine rt_2 T rfl (T.e 1 rfl) (T.e 0 rfl) ?_
 have e9 : strokesE b i k = guidedJ jqu2 := by unfold strokesE; rw [if_pos (by simpa using h1), ← hx9, ← hy9]; rw [hjqu2]
 rw [e9]
 exact ⟨rfl, M.below⟩
def lawX : Lw := ⟨20, -2, 4, 2⟩
def lowsX : List Snd := [⟨-1, 1, 0, 0⟩, ⟨5, 5, 1, 1⟩]
def boxX (hs : List Snd) : Bx := { first := 20, step := -2, span := 4, press := 2, note := 3, lows := lowsX, highs := hs, t0 := 30, t1 := 32, r0 := 40, r1 := 41, u0 := 3, u1 := 4, d0 := 2, d1 := 3, a0 := 1, a1 := 2, b0 := 1, b1 := 1, le := 20, me := 1 }
def fullH : List Snd := [⟨14, 15, 0, 1⟩, ⟨20, 20, 0, 0⟩, ⟨30, 30, 0, 0⟩]
def lessH : List Snd := [⟨14, 15, 0, 1⟩, ⟨30, 30, 0, 0⟩]
def fullX : Bx := boxX fullH
def lessX : Bx := boxX lessH
def rowsX : List (List Snd) := [[⟨-1, 1, 0, 0⟩, ⟨0, 0, 0, 0⟩], [⟨20, 20, 0, 0⟩, ⟨13, 15, 0, 0⟩], [⟨30, 30, 0, 0⟩, ⟨30, 30, 0, 0⟩]]
def BoxPost (b : Bx) (w : World) (e : Ending) (w' : World) : Prop := ∃ A c B d I, e = .returned (bxV b A c B d) ∧ (∃ b1 o1, ∀ (w : World) (ex : Nat → Prop), Sp w ex I A b.lows.length 4 b1 o1 (sc b.lows)) ∧ (∃ b1 o1, ∀ (w : World) (ex : Nat → Prop), Sp w ex I B b.highs.length 4 b1 o1 (sc b.highs)) ∧ Mem w noEx w' I
theorem sameInts_eq (A B : Option Addr) (n m c d : Nat) (l : List Int) (w : World) (ha : Rd w w.heap.size 1 A n (ic l)) (hb : Rd w w.heap.size 1 B m (ic l)) (hn : n ≤ 9223372036854775807) (hm : m ≤ 9223372036854775807) :
  Calls Tryz.prog 16 #[.slice A n c, .slice B m d] w fun e w' => e = .returned (.bool true) ∧ Below w.heap.size w w' := by
 have := sameInts_any A B n m c d l l w ha hb hn hm
 simpa using this
theorem x_beat : beatE fullX 1 0 = [(9, 10), (8, 10), (7, 10)] ∧ checkPB fullX 1 0 = 0 := by decide +kernel
theorem x_match : matchE lessX = ([0, -1], 0) := by decide +kernel
theorem x_strokes : strokesE fullX 0 1 = (2, 0) := by decide +kernel
theorem x_trem : tremE lawX rowsX [0, 1] = ([1, 3], 0) := by decide +kernel
theorem x_short : shortE lessX = ([1], 0) := by decide +kernel
theorem to5_any (p0 p1 : Int) (w : World)  :
  Calls Tryz.prog 50 #[Zi p0, Zi p1] w fun e w' => e = .returned (.agg #[Zi p0, Zi p1]) ∧ Below w.heap.size w w' := by
 refine Zpx noEx Tryz.func50 rfl 8 rfl [Zi p0, Zi p1] rfl rfl (Mem.init w _) ?_
 intro ac wc T M
 refine Zsr ?_
 refine Zl2 ?_
 refine Zoa M T rfl rfl rfl rfl ?_; clear M T; intro g1 wc ac M T
 refine Zln ?_
 refine Zsr ?_
 refine Zg3 (v3 := (.agg #[Zi p0, Zi p1])) T (Zq (Zrm rfl (T.e 1 rfl))) rfl (Zm 3 rfl rfl) rfl (fun _ T => Zq (rn_build rfl (.cons (T.e 1 rfl) (.cons (T.e 0 rfl) .nil)) (fun _ => by kernel_rfl))) rfl ?_; clear T ac; intro ac T
 refine Zl2 ?_
 refine Zos M T rfl rfl (T.e 3 rfl) (T.e 0 rfl) rfl .head rfl (by simp) rfl (by kernel_rfl) ?_; clear M T; intro wc ac M T
 replace T := T.pick [3] rfl
 refine Zln ?_
 refine wp_ret ?_
 refine rt_c M T rfl (T.e 0 rfl) (Zne (i := 0) rfl) rfl ?_
 exact ⟨rfl, M.below⟩
theorem sound5_any (p0 p1 q0 q1 : Int) (w : World)  :
  Calls Tryz.prog 98 #[.agg #[Zi p0, Zi p1], .agg #[Zi q0, Zi q1]] w fun e w' => e = .returned (.agg #[Zi p0, Zi p1, Zi q0, Zi q1]) ∧ Below w.heap.size w w' := by
 refine Zpx noEx Tryz.func98 rfl 8 rfl [.agg #[Zi p0, Zi p1], .agg #[Zi q0, Zi q1]] rfl rfl (Mem.init w _) ?_
 intro ac wc T M
 refine Zsr ?_
 refine Zl2 ?_
 refine Zob M T rfl rfl rfl rfl (T.e 0 rfl) rfl ?_; clear M T; intro g1 wc ac M T
 refine Zl2 ?_
 refine Zob M T rfl rfl rfl rfl (T.e 2 rfl) rfl ?_; clear M T; intro g2 wc ac M T
 refine Zl2 ?_
 refine Zoa M T rfl rfl rfl rfl ?_; clear M T; intro g3 wc ac M T
 replace T := T.pick [0, 1, 2] rfl
 refine Zln ?_
 refine Zsr ?_
 refine Zg3 (v3 := (.agg #[Zi p0, Zi p1, Zi q0, Zi q1])) T (Zq (Zrr (Mem.nth M 2 rfl) rfl (T.e 2 rfl) rfl)) rfl (Zr M 1 2 rfl rfl rfl rfl) rfl (fun _ T => Zq (rn_build rfl (.cons (T.e 1 rfl) (.cons (T.e 0 rfl) .nil)) (fun _ => by kernel_rfl))) rfl ?_; clear T ac; intro ac T
 refine Zl2 ?_
 refine Zos M T rfl rfl (T.e 3 rfl) (T.e 0 rfl) rfl .head rfl (by simp) rfl (by kernel_rfl) ?_; clear M T; intro wc ac M T
 refine wpList_nil ?_
 replace T := T.pick [3] rfl
 replace M := M.mask [true, false, false] rfl
 refine Znr ?_
 refine rt_c M T rfl (T.e 0 rfl) (Zne (i := 0) rfl) rfl ?_
 exact ⟨rfl, M.below⟩
theorem law5_any  (w : World)  :
  Calls Tryz.prog 101 #[] w fun e w' => e = .returned (.agg #[Zi 20, Zi (-2), Zi 4, Zi 2]) ∧ Below w.heap.size w w' := by
 refine Zpx noEx Tryz.func101 rfl 2 rfl [] rfl rfl (Mem.init w _) ?_
 intro ac wc T M
 refine Zsr ?_
 refine Zl2 ?_
 refine Zoa M T rfl rfl rfl rfl ?_; clear M T; intro g1 wc ac M T
 refine Zln ?_
 refine Zsr ?_
 refine lq (v := (.agg #[Zi 20, Zi (-2), Zi 4, Zi 2])) T (rn_build rfl (.cons evc (.cons evc (.cons evc (.cons evc .nil)))) (fun _ => by kernel_rfl)) ?_; clear T ac; intro ac T
 refine Zl2 ?_
 refine Zos M T rfl rfl (T.e 1 rfl) (T.e 0 rfl) rfl .head rfl (by simp) rfl (by kernel_rfl) ?_; clear M T; intro wc ac M T
 replace T := T.pick [1] rfl
 refine Zln ?_
 refine wp_ret ?_
 refine rt_c M T rfl (T.e 0 rfl) (Zne (i := 0) rfl) rfl ?_
 exact ⟨rfl, M.below⟩
def Box1Post (hs : List Snd) (H : Option Addr) (d : Nat) (w : World) (e : Ending) (w' : World) : Prop := ∃ g, e = .returned (bxV (boxX hs) (some ⟨g, 0, none⟩) 2 H d) ∧ Mem w noEx w' [(g, .cells (sc lowsX))]
theorem box5_any (H : Option Addr) (d : Nat) (hs : List Snd) (w : World)  :
  Calls Tryz.prog 97 #[.slice H hs.length d] w (Box1Post hs H d w) := by
 refine Zpx noEx Tryz.func97 rfl 20 rfl [.slice H hs.length d] rfl rfl (Mem.init w _) ?_
 intro ac wc T M
 refine Zsr ?_
 refine Zl2 ?_
 refine Zoa M T rfl rfl rfl rfl ?_; clear M T; intro g1 wc ac M T
 refine Zln ?_
 refine Zsr ?_
 refine Zl2 ?_
 refine Zoc (first := []) (cap := []) T rfl rfl rfl rfl evf .nil Tryz.func101 rfl rfl ?_
 refine Calls.mono (law5_any _) ?_
 clear T; rintro e wc ⟨rfl, hb⟩ ac T
 replace M := M.call hb; clear hb
 refine Zl2 ?_
 refine Zoc (first := []) (cap := []) T rfl rfl rfl rfl evf (.cons evc (.cons evc .nil)) Tryz.func50 rfl rfl ?_
 refine Calls.mono (to5_any (-1) 1 _) ?_
 clear T; rintro e wc ⟨rfl, hb⟩ ac T
 replace M := M.call hb; clear hb
 refine Zl2 ?_
 refine Zoc (first := []) (cap := []) T rfl rfl rfl rfl evf (.cons evc (.cons evc .nil)) Tryz.func50 rfl rfl ?_
 refine Calls.mono (to5_any 0 0 _) ?_
 clear T; rintro e wc ⟨rfl, hb⟩ ac T
 replace M := M.call hb; clear hb
 refine Zl2 ?_
 refine Zoc (first := []) (cap := []) T rfl rfl rfl rfl evf (.cons (T.e 1 rfl) (.cons (T.e 0 rfl) .nil)) Tryz.func98 rfl rfl ?_
 refine Calls.mono (sound5_any (-1) 1 0 0 _) ?_
 clear T; rintro e wc ⟨rfl, hb⟩ ac T
 replace M := M.call hb; clear hb
 refine Zl2 ?_
 refine Zoc (first := []) (cap := []) T rfl rfl rfl rfl evf (.cons evc (.cons evc .nil)) Tryz.func50 rfl rfl ?_
 refine Calls.mono (to5_any 5 5 _) ?_
 clear T; rintro e wc ⟨rfl, hb⟩ ac T
 replace M := M.call hb; clear hb
 refine Zl2 ?_
 refine Zoc (first := []) (cap := []) T rfl rfl rfl rfl evf (.cons evc (.cons evc .nil)) Tryz.func50 rfl rfl ?_
 refine Calls.mono (to5_any 1 1 _) ?_
 clear T; rintro e wc ⟨rfl, hb⟩ ac T
 replace M := M.call hb; clear hb
 refine Zl2 ?_
 refine Zoc (first := []) (cap := []) T rfl rfl rfl rfl evf (.cons (T.e 1 rfl) (.cons (T.e 0 rfl) .nil)) Tryz.func98 rfl rfl ?_
 refine Calls.mono (sound5_any 5 5 1 1 _) ?_
 clear T; rintro e wc ⟨rfl, hb⟩ ac T
 replace M := M.call hb; clear hb
 refine Zl2 ?_
 refine ow_bs (e := 32) [Zi (-1), Zi 1, Zi 0, Zi 0, Zi 5, Zi 5, Zi 1, Zi 1] M T rfl rfl rfl rfl (.cons (T.e 3 rfl) (.cons (T.e 0 rfl) .nil)) (fun _ => by kernel_rfl) ?_; clear M T; intro g2 wc ac M T
 refine lq T (Zrm rfl (T.e 9 rfl)) ?_; clear T ac; intro ac T
 refine Zl2 ?_
 refine Zoc (first := []) (cap := []) T rfl rfl rfl rfl evf (.cons evc (.cons evc .nil)) Tryz.func50 rfl rfl ?_
 refine Calls.mono (to5_any 30 32 _) ?_
 clear T; rintro e wc ⟨rfl, hb⟩ ac T
 replace M := M.call hb; clear hb
 refine Zl2 ?_
 refine Zoc (first := []) (cap := []) T rfl rfl rfl rfl evf (.cons evc (.cons evc .nil)) Tryz.func50 rfl rfl ?_
 refine Calls.mono (to5_any 40 41 _) ?_
 clear T; rintro e wc ⟨rfl, hb⟩ ac T
 replace M := M.call hb; clear hb
 refine Zl2 ?_
 refine Zoc (first := []) (cap := []) T rfl rfl rfl rfl evf (.cons evc (.cons evc .nil)) Tryz.func50 rfl rfl ?_
 refine Calls.mono (to5_any 3 4 _) ?_
 clear T; rintro e wc ⟨rfl, hb⟩ ac T
 replace M := M.call hb; clear hb
 refine Zl2 ?_
 refine Zoc (first := []) (cap := []) T rfl rfl rfl rfl evf (.cons evc (.cons evc .nil)) Tryz.func50 rfl rfl ?_
 refine Calls.mono (to5_any 2 3 _) ?_
 clear T; rintro e wc ⟨rfl, hb⟩ ac T
 replace M := M.call hb; clear hb
 refine Zl2 ?_
 refine Zoc (first := []) (cap := []) T rfl rfl rfl rfl evf (.cons evc (.cons evc .nil)) Tryz.func50 rfl rfl ?_
 refine Calls.mono (to5_any 1 2 _) ?_
 clear T; rintro e wc ⟨rfl, hb⟩ ac T
 replace M := M.call hb; clear hb
 refine Zl2 ?_
 refine Zoc (first := []) (cap := []) T rfl rfl rfl rfl evf (.cons evc (.cons evc .nil)) Tryz.func50 rfl rfl ?_
 refine Calls.mono (to5_any 1 1 _) ?_
 clear T; rintro e wc ⟨rfl, hb⟩ ac T
 replace M := M.call hb; clear hb
 refine Zg2 (v1 := (.agg #[Zi 3, Zi 4, Zi 2, Zi 3, Zi 1, Zi 2, Zi 1, Zi 1, Zi 20])) (v2 := (.agg #[Zi 20, Zi (-2), Zi 4, Zi 2, Zi 3, .slice (some ⟨g2, 0, none⟩) 2 2, .slice H hs.length d, Zi 30, Zi 32, Zi 40, Zi 41, Zi 3, Zi 4, Zi 2, Zi 3, Zi 1, Zi 2, Zi 1, Zi 1, Zi 20, Zi 1])) T (Zq (rn_build rfl (.cons (T.e 3 rfl) (.cons (T.e 2 rfl) (.cons (T.e 1 rfl) (.cons (T.e 0 rfl) (.cons evc .nil))))) (fun _ => by kernel_rfl))) rfl (fun _ T => Zq (rn_build rfl (.cons (T.e 15 rfl) (.cons evc (.cons (T.e 8 rfl) (.cons (T.e 7 rfl) (.cons (T.e 6 rfl) (.cons (T.e 5 rfl) (.cons (T.e 0 rfl) (.cons evc .nil)))))))) (fun _ => by kernel_rfl))) rfl ?_; clear T ac; intro ac T
 refine Zl2 ?_
 refine Zos M T rfl rfl (T.e 17 rfl) (T.e 0 rfl) rfl (.tail .head) rfl (by simp) rfl (by kernel_rfl) ?_; clear M T; intro wc ac M T
 replace T := T.pick [17] rfl
 refine Zln ?_
 refine wp_ret ?_
 refine rt_c M T rfl (T.e 0 rfl) (Zne (i := 1) rfl) rfl ?_
 exact ⟨g2, rfl, M.perm [0] rfl rfl⟩
theorem full5_any  (w : World)  :
  Calls Tryz.prog 46 #[] w (BoxPost fullX w) := by
 refine Zpx noEx Tryz.func46 rfl 12 rfl [] rfl rfl (Mem.init w _) ?_
 intro ac wc T M
 refine Zsr ?_
 refine Zl2 ?_
 refine Zoa M T rfl rfl rfl rfl ?_; clear M T; intro g1 wc ac M T
 refine Zln ?_
 refine Zsr ?_
 refine Zl2 ?_
 refine Zoc (first := []) (cap := []) T rfl rfl rfl rfl evf (.cons evc (.cons evc .nil)) Tryz.func50 rfl rfl ?_
 refine Calls.mono (to5_any 14 15 _) ?_
 clear T; rintro e wc ⟨rfl, hb⟩ ac T
 replace M := M.call hb; clear hb
 refine Zl2 ?_
 refine Zoc (first := []) (cap := []) T rfl rfl rfl rfl evf (.cons evc (.cons evc .nil)) Tryz.func50 rfl rfl ?_
 refine Calls.mono (to5_any 0 1 _) ?_
 clear T; rintro e wc ⟨rfl, hb⟩ ac T
 replace M := M.call hb; clear hb
 refine Zl2 ?_
 refine Zoc (first := []) (cap := []) T rfl rfl rfl rfl evf (.cons (T.e 1 rfl) (.cons (T.e 0 rfl) .nil)) Tryz.func98 rfl rfl ?_
 refine Calls.mono (sound5_any 14 15 0 1 _) ?_
 clear T; rintro e wc ⟨rfl, hb⟩ ac T
 replace M := M.call hb; clear hb
 refine Zl2 ?_
 refine Zoc (first := []) (cap := []) T rfl rfl rfl rfl evf (.cons evc (.cons evc .nil)) Tryz.func50 rfl rfl ?_
 refine Calls.mono (to5_any 20 20 _) ?_
 clear T; rintro e wc ⟨rfl, hb⟩ ac T
 replace M := M.call hb; clear hb
 refine Zl2 ?_
 refine Zoc (first := []) (cap := []) T rfl rfl rfl rfl evf (.cons evc (.cons evc .nil)) Tryz.func50 rfl rfl ?_
 refine Calls.mono (to5_any 0 0 _) ?_
 clear T; rintro e wc ⟨rfl, hb⟩ ac T
 replace M := M.call hb; clear hb
 refine Zl2 ?_
 refine Zoc (first := []) (cap := []) T rfl rfl rfl rfl evf (.cons (T.e 1 rfl) (.cons (T.e 0 rfl) .nil)) Tryz.func98 rfl rfl ?_
 refine Calls.mono (sound5_any 20 20 0 0 _) ?_
 clear T; rintro e wc ⟨rfl, hb⟩ ac T
 replace M := M.call hb; clear hb
 refine Zl2 ?_
 refine Zoc (first := []) (cap := []) T rfl rfl rfl rfl evf (.cons evc (.cons evc .nil)) Tryz.func50 rfl rfl ?_
 refine Calls.mono (to5_any 30 30 _) ?_
 clear T; rintro e wc ⟨rfl, hb⟩ ac T
 replace M := M.call hb; clear hb
 refine Zl2 ?_
 refine Zoc (first := []) (cap := []) T rfl rfl rfl rfl evf (.cons evc (.cons evc .nil)) Tryz.func50 rfl rfl ?_
 refine Calls.mono (to5_any 0 0 _) ?_
 clear T; rintro e wc ⟨rfl, hb⟩ ac T
 replace M := M.call hb; clear hb
 refine Zl2 ?_
 refine Zoc (first := []) (cap := []) T rfl rfl rfl rfl evf (.cons (T.e 1 rfl) (.cons (T.e 0 rfl) .nil)) Tryz.func98 rfl rfl ?_
 refine Calls.mono (sound5_any 30 30 0 0 _) ?_
 clear T; rintro e wc ⟨rfl, hb⟩ ac T
 replace M := M.call hb; clear hb
 refine Zl2 ?_
 refine ow_bs (e := 32) [Zi 14, Zi 15, Zi 0, Zi 1, Zi 20, Zi 20, Zi 0, Zi 0, Zi 30, Zi 30, Zi 0, Zi 0] M T rfl rfl rfl rfl (.cons (T.e 6 rfl) (.cons (T.e 3 rfl) (.cons (T.e 0 rfl) .nil))) (fun _ => by kernel_rfl) ?_; clear M T; intro g2 wc ac M T
 refine Zl2 ?_
 refine Zoc (first := []) (cap := []) T rfl rfl rfl rfl evf (.cons (T.e 0 rfl) .nil) Tryz.func97 rfl rfl ?_
 refine Calls.mono (box5_any _ 3 fullH _) ?_
 clear T; rintro e wc ⟨gu10, rfl, N⟩ ac T
 replace M := M.join N; clear N
 replace M := M.mask [true, true, true] rfl
 refine Zl2 ?_
 refine Zos M T rfl rfl (T.e 11 rfl) (T.e 0 rfl) rfl (.tail (.tail .head)) rfl (by simp) rfl (by kernel_rfl) ?_; clear M T; intro wc ac M T
 replace T := T.pick [11] rfl
 refine Zln ?_
 refine wp_ret ?_
 refine rt_c M T rfl (T.e 0 rfl) (Zne (i := 2) rfl) rfl ?_
 exact ⟨_, _, _, _, _, rfl, ⟨gu10, 0, fun w ex => (Sp.cells (xs := sc fullX.lows) rfl).mono (List.Sublist.cons_cons _ (Zz9 _))⟩, ⟨g2, 0, fun w ex => (Sp.cells (xs := sc fullX.highs) rfl).mono (.cons _ (List.Sublist.refl _))⟩, M.perm [0, 1] rfl rfl⟩
theorem less5_any  (w : World)  :
  Calls Tryz.prog 47 #[] w (BoxPost lessX w) := by
 refine Zpx noEx Tryz.func47 rfl 9 rfl [] rfl rfl (Mem.init w _) ?_
 intro ac wc T M
 refine Zsr ?_
 refine Zl2 ?_
 refine Zoa M T rfl rfl rfl rfl ?_; clear M T; intro g1 wc ac M T
 refine Zln ?_
 refine Zsr ?_
 refine Zl2 ?_
 refine Zoc (first := []) (cap := []) T rfl rfl rfl rfl evf (.cons evc (.cons evc .nil)) Tryz.func50 rfl rfl ?_
 refine Calls.mono (to5_any 14 15 _) ?_
 clear T; rintro e wc ⟨rfl, hb⟩ ac T
 replace M := M.call hb; clear hb
 refine Zl2 ?_
 refine Zoc (first := []) (cap := []) T rfl rfl rfl rfl evf (.cons evc (.cons evc .nil)) Tryz.func50 rfl rfl ?_
 refine Calls.mono (to5_any 0 1 _) ?_
 clear T; rintro e wc ⟨rfl, hb⟩ ac T
 replace M := M.call hb; clear hb
 refine Zl2 ?_
 refine Zoc (first := []) (cap := []) T rfl rfl rfl rfl evf (.cons (T.e 1 rfl) (.cons (T.e 0 rfl) .nil)) Tryz.func98 rfl rfl ?_
 refine Calls.mono (sound5_any 14 15 0 1 _) ?_
 clear T; rintro e wc ⟨rfl, hb⟩ ac T
 replace M := M.call hb; clear hb
 refine Zl2 ?_
 refine Zoc (first := []) (cap := []) T rfl rfl rfl rfl evf (.cons evc (.cons evc .nil)) Tryz.func50 rfl rfl ?_
 refine Calls.mono (to5_any 30 30 _) ?_
 clear T; rintro e wc ⟨rfl, hb⟩ ac T
 replace M := M.call hb; clear hb
 refine Zl2 ?_
 refine Zoc (first := []) (cap := []) T rfl rfl rfl rfl evf (.cons evc (.cons evc .nil)) Tryz.func50 rfl rfl ?_
 refine Calls.mono (to5_any 0 0 _) ?_
 clear T; rintro e wc ⟨rfl, hb⟩ ac T
 replace M := M.call hb; clear hb
 refine Zl2 ?_
 refine Zoc (first := []) (cap := []) T rfl rfl rfl rfl evf (.cons (T.e 1 rfl) (.cons (T.e 0 rfl) .nil)) Tryz.func98 rfl rfl ?_
 refine Calls.mono (sound5_any 30 30 0 0 _) ?_
 clear T; rintro e wc ⟨rfl, hb⟩ ac T
 replace M := M.call hb; clear hb
 refine Zl2 ?_
 refine ow_bs (e := 32) [Zi 14, Zi 15, Zi 0, Zi 1, Zi 30, Zi 30, Zi 0, Zi 0] M T rfl rfl rfl rfl (.cons (T.e 3 rfl) (.cons (T.e 0 rfl) .nil)) (fun _ => by kernel_rfl) ?_; clear M T; intro g2 wc ac M T
 refine Zl2 ?_
 refine Zoc (first := []) (cap := []) T rfl rfl rfl rfl evf (.cons (T.e 0 rfl) .nil) Tryz.func97 rfl rfl ?_
 refine Calls.mono (box5_any _ 2 lessH _) ?_
 clear T; rintro e wc ⟨gu7, rfl, N⟩ ac T
 replace M := M.join N; clear N
 replace M := M.mask [true, true, true] rfl
 refine Zl2 ?_
 refine Zos M T rfl rfl (T.e 8 rfl) (T.e 0 rfl) rfl (.tail (.tail .head)) rfl (by simp) rfl (by kernel_rfl) ?_; clear M T; intro wc ac M T
 replace T := T.pick [8] rfl
 refine Zln ?_
 refine wp_ret ?_
 refine rt_c M T rfl (T.e 0 rfl) (Zne (i := 2) rfl) rfl ?_
 exact ⟨_, _, _, _, _, rfl, ⟨gu7, 0, fun w ex => (Sp.cells (xs := sc lessX.lows) rfl).mono (List.Sublist.cons_cons _ (Zz9 _))⟩, ⟨g2, 0, fun w ex => (Sp.cells (xs := sc lessX.highs) rfl).mono (.cons _ (List.Sublist.refl _))⟩, M.perm [0, 1] rfl rfl⟩
theorem Beat_x (A : Option Addr) (c : Nat) (B : Option Addr) (d : Nat) (w : World) (hA : Rd w w.heap.size 4 A fullX.lows.length (sc fullX.lows)) (hB : Rd w w.heap.size 4 B fullX.highs.length (sc fullX.highs)) :
  Calls Tryz.prog 21 #[bxV fullX A c B d, Zi 1, Zi 0] w fun e w' => ∃ A' c' I, e = .returned (.tuple #[.slice A' 3 c', Zi 0]) ∧ (∃ b o, ∀ (w : World) (ex : Nat → Prop), Sp w ex I A' 3 2 b o (rc [(9, 10), (8, 10), (7, 10)])) ∧ Mem w noEx w' I :=
 Calls.mono (Beat_any fullX A c B d 1 0 w hA hB (by decide) (by decide)) fun e w' h => by
  obtain ⟨A', c', I, rfl, h2, h3⟩ := h
  rw [x_beat.1] at h2
  rw [x_beat.1, x_beat.2]
  exact ⟨A', c', I, rfl, h2.spV rfl, h3⟩
theorem Match_x (A : Option Addr) (c : Nat) (B : Option Addr) (d : Nat) (w : World) (hA : Rd w w.heap.size 4 A lessX.lows.length (sc lessX.lows)) (hB : Rd w w.heap.size 4 B lessX.highs.length (sc lessX.highs)) :
  Calls Tryz.prog 10 #[bxV lessX A c B d] w fun e w' => ∃ A' c' I, e = .returned (.tuple #[.slice A' 2 c', Zi 0]) ∧ (∃ b o, ∀ (w : World) (ex : Nat → Prop), Sp w ex I A' 2 1 b o (ic [0, -1])) ∧ Mem w noEx w' I :=
 Calls.mono (Match_any lessX A c B d w hA hB (by decide) (by decide)) fun e w' h => by
  rw [x_match] at h
  obtain ⟨A', c', I, rfl, _, h2, h3⟩ := h
  exact ⟨A', c', I, rfl, h2, h3⟩
theorem Short_x (A : Option Addr) (c : Nat) (B : Option Addr) (d : Nat) (w : World) (hA : Rd w w.heap.size 4 A lessX.lows.length (sc lessX.lows)) (hB : Rd w w.heap.size 4 B lessX.highs.length (sc lessX.highs)) :
  Calls Tryz.prog 12 #[bxV lessX A c B d] w fun e w' => ∃ A' c' I, e = .returned (.tuple #[.slice A' 1 c', Zi 0]) ∧ (∃ b o, ∀ (w : World) (ex : Nat → Prop), Sp w ex I A' 1 1 b o (ic [1])) ∧ Mem w noEx w' I :=
 Calls.mono (Short_any lessX A c B d w hA hB (by decide) (by decide)) fun e w' h => by
  rw [x_short] at h
  obtain ⟨A', c', I, rfl, _, h2, h3⟩ := h
  exact ⟨A', c', I, rfl, h2, h3⟩
theorem Strokes_x (A : Option Addr) (c : Nat) (B : Option Addr) (d : Nat) (w : World) (hA : Rd w w.heap.size 4 A fullX.lows.length (sc fullX.lows)) (hB : Rd w w.heap.size 4 B fullX.highs.length (sc fullX.highs)) :
  Calls Tryz.prog 48 #[bxV fullX A c B d, Zi 0, Zi 1] w fun e w' => e = .returned (.tuple #[Zi 2, Zi 0]) ∧ Below w.heap.size w w' := by
 have h := VStrokes_any fullX A c B d 0 1 w hA hB (by decide) (by decide)
 rw [x_strokes] at h
 exact h
theorem Tremolo_x (A : Option Addr) (c : Nat) (LL : List LS) (G : Option Addr) (d : Nat) (w : World) (hR : rowsOf LL = rowsX) (hA : Rd w w.heap.size 1 A LL.length (lsC LL)) (hE : ElsS w LL) (hG : Rd w w.heap.size 1 G 2 (ic [0, 1])) :
  Calls Tryz.prog 37 #[.agg #[Zi 20, Zi (-2), Zi 4, Zi 2, .slice A LL.length c], .slice G 2 d] w fun e w' => ∃ A' c' I, e = .returned (.tuple #[.slice A' 2 c', Zi 0]) ∧ (∃ b o, ∀ (w : World) (ex : Nat → Prop), Sp w ex I A' 2 1 b o (ic [1, 3])) ∧ Mem w noEx w' I := by
 have hl : LL.length = 3 := by have := congrArg List.length hR; simpa [rowsX] using this
 have hx : ∀ x ∈ LL, x.1.length ≤ 1000000 := fun x hx => by
  have : x.1 ∈ rowsX := by rw [← hR]; exact List.mem_map.2 ⟨x, hx, rfl⟩
  have h9 : ∀ y ∈ rowsX, y.length ≤ 1000000 := by decide
  exact h9 _ this
 have h := Tremolo_any lawX A c LL G d [0, 1] w hA hE (by omega) hx hG (by decide)
 refine Calls.mono h fun e w' h => ?_
 rw [hR, x_trem] at h
 obtain ⟨A', c', I, rfl, _, h2, h3⟩ := h
 exact ⟨A', c', I, rfl, h2, h3⟩
end Go.Proofs.YtdnbljihhimijaaGreat


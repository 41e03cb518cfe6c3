/-
  Walks of functions, and plain laws (texts put together). No condition.
-/
import Derived.Test.YtdnbljihhimijaaGreatMVoiceScales1
import Derived.Test.YtdnbljihhimijaaGreatMVoiceScales2
import Derived.Test.YtdnbljihhimijaaGreatMVoiceScales3
import Derived.Test.YtdnbljihhimijaaGreatMVoiceScales4
set_option maxRecDepth 100000
set_option maxHeartbeats 1000000
set_option linter.unusedSimpArgs false
set_option linter.unusedVariables false
namespace Go.Proofs.YtdnbljihhimijaaGreat
open Go.RowKit
def ElsR (LL : List LS) (I : List (Nat × BA)) : Prop := ∀ x ∈ LL, ∃ b o, ∀ (w : World) (ex : Nat → Prop), Sp w ex I x.2.1 x.1.length 4 b o (sc x.1)
def ScalePost (l : Lw) (R : List (List Snd)) (w : World) (e : Ending) (w' : World) : Prop := ∃ A c LL I, rowsOf LL = R ∧ e = .returned (.agg #[Zi l.first, Zi l.step, Zi l.span, Zi l.press, .slice A LL.length c]) ∧ (∃ b o, ∀ (w : World) (ex : Nat → Prop), Sp w ex I A LL.length 1 b o (lsC LL)) ∧ ElsR LL I ∧ Mem w noEx w' I
set_option maxHeartbeats 8000000 in
theorem scale5_any  (w : World)  :
   Calls Tryz.prog 49 #[] w (ScalePost lawX rowsX w) := by
 refine Zpx noEx Tryz.func49 rfl 27 rfl [] rfl rfl (Mem.init w _) ?_
 intro ac wc T M
 refine Zsr ?_
 refine Zl2 ?_
 refine Zoa M T rfl rfl rfl rfl ?_; clear M T; intro g1 wc ac M T
 refine Zln ?_
 refine Zsr ?_
 refine Zl2 ?_
 refine Zoc (first := []) (cap := []) T rfl rfl rfl rfl evf (.cons evc (.cons evc .nil)) Tryz.func50 rfl rfl ?_
 refine Calls.mono (to5_any 0 0 _) ?_
 clear T; rintro e wc ⟨rfl, hb⟩ ac T
 replace M := M.call hb; clear hb
 refine Zl2 ?_
 refine Zoa M T rfl rfl rfl rfl ?_; clear M T; intro g2 wc ac M T
 refine Zl2 ?_
 refine Zos M T rfl rfl (T.e 0 rfl) (T.e 1 rfl) rfl .head rfl (by simp) rfl (by kernel_rfl) ?_; clear M T; intro wc ac M T
 replace T := T.pick [0, 2] rfl
 refine Zln ?_
 refine wp_seq ?_
 refine Zgs M (M.perm [0] rfl rfl) 25 (by kernel_rfl) rfl (by kernel_rfl) ?_
 clear M; intro wc M
 refine g_addG 24 M ?_
 refine g_have (fun ac wc => ∃ (gr2_14 gr2_7 gr2_21 : Nat), Tm ac 27 [(17, .slice (some ⟨gr2_14, 0, none⟩) 2 2), (10, .slice (some ⟨gr2_7, 0, none⟩) 2 2), (24, .slice (some ⟨gr2_21, 0, none⟩) 2 2), (23, .agg #[Zi 30, Zi 30, Zi 0, Zi 0]), (21, .agg #[Zi 30, Zi 30]), (20, .agg #[Zi 30, Zi 30, Zi 0, Zi 0]), (18, .agg #[Zi 30, Zi 30]), (16, .agg #[Zi 13, Zi 15, Zi 0, Zi 0]), (14, .agg #[Zi 13, Zi 15]), (13, .agg #[Zi 20, Zi 20, Zi 0, Zi 0]), (11, .agg #[Zi 20, Zi 20]), (9, .agg #[Zi 0, Zi 0, Zi 0, Zi 0]), (7, .agg #[Zi 0, Zi 0]), (6, .agg #[Zi (-1), Zi 1, Zi 0, Zi 0]), (4, .agg #[Zi (-1), Zi 1]), (3, .agg #[Zi 20, Zi (-2), Zi 4, Zi 2]), (22, .agg #[Zi 0, Zi 0]), (19, .agg #[Zi 0, Zi 0]), (15, .agg #[Zi 0, Zi 0]), (12, .agg #[Zi 0, Zi 0]), (8, .agg #[Zi 0, Zi 0]), (5, .agg #[Zi 0, Zi 0]), (1, Zj g2), (0, Zj g1)] ∧ Mem w noEx wc [(gr2_14, .cells [Zi 20, Zi 20, Zi 0, Zi 0, Zi 13, Zi 15, Zi 0, Zi 0]), (gr2_7, .cells [Zi (-1), Zi 1, Zi 0, Zi 0, Zi 0, Zi 0, Zi 0, Zi 0]), (gr2_21, .cells [Zi 30, Zi 30, Zi 0, Zi 0, Zi 30, Zi 30, Zi 0, Zi 0]), (g2, .cells [Zi 0, Zi 0]), (g1, .cells [Zi 0, Zi 0, Zi 0, Zi 0, .slice none 0 0])]) (Zpb 25 4194303) 3 ?_ ?_
 ·clear T M
  rintro ac wc ⟨gr2_14, gr2_7, gr2_21, T, M⟩
  refine gw 22 8388607 ?_; intro K hK
  refine ow_bs (e := 24) [.slice (some ⟨gr2_7, 0, none⟩) 2 2, .slice (some ⟨gr2_14, 0, none⟩) 2 2, .slice (some ⟨gr2_21, 0, none⟩) 2 2] M T rfl rfl rfl rfl (.cons (T.e 1 rfl) (.cons (T.e 0 rfl) (.cons (T.e 2 rfl) .nil))) (fun _ => by kernel_rfl) ?_; clear M T; intro gr2_22 wc ac M T
  refine Zso hK _ _ (MA.mk (fun _ => M.mask [false, false, false, false, true, true] rfl) (M.mask [false, false, false, false, true, false] rfl)) ?_; clear hK K
  refine gq (v := (.agg #[Zi 20, Zi (-2), Zi 4, Zi 2, .slice (some ⟨gr2_22, 0, none⟩) 3 3])) T 23 16777215 rfl (fun _ _ _ _ _ => (rn_build rfl (.cons (T.e 16 rfl) (.cons (T.e 0 rfl) .nil)) (fun _ => by kernel_rfl))) ?_; clear T ac; intro ac T
  refine gw 24 33554431 ?_; intro K hK
  refine Zos M T rfl rfl (T.e 25 rfl) (T.e 0 rfl) rfl (.tail (.tail (.tail (.tail (.tail .head))))) rfl (by simp) rfl (by kernel_rfl) ?_; clear M T; intro wc ac M T
  refine Zso hK _ _ (MA.mk (fun h => (no_of (by kernel_rfl) h).elim) (M.mask [false, false, false, false, true, false] rfl)) ?_; clear hK K
  refine Zgd (by kernel_rfl) ?_
  replace T := T.pick [25] rfl
  replace M := M.mask [true, true, true, true, false, true] rfl
  refine Znr ?_
  refine rt_c M T rfl (T.e 0 rfl) (Zne (i := 4) rfl) rfl ?_
  refine ⟨some ⟨gr2_22, 0, none⟩, 3, [([⟨-1, 1, 0, 0⟩, ⟨0, 0, 0, 0⟩], some ⟨gr2_7, 0, none⟩, 2), ([⟨20, 20, 0, 0⟩, ⟨13, 15, 0, 0⟩], some ⟨gr2_14, 0, none⟩, 2), ([⟨30, 30, 0, 0⟩, ⟨30, 30, 0, 0⟩], some ⟨gr2_21, 0, none⟩, 2)], _, rfl, rfl, ⟨gr2_22, 0, fun w ex => (Sp.cells (xs := lsC [([⟨-1, 1, 0, 0⟩, ⟨0, 0, 0, 0⟩], some ⟨gr2_7, 0, none⟩, 2), ([⟨20, 20, 0, 0⟩, ⟨13, 15, 0, 0⟩], some ⟨gr2_14, 0, none⟩, 2), ([⟨30, 30, 0, 0⟩, ⟨30, 30, 0, 0⟩], some ⟨gr2_21, 0, none⟩, 2)]) rfl).mono (List.Sublist.cons_cons _ (Zz9 _))⟩, ?_, M.perm [0, 2, 1, 3] rfl rfl⟩
  intro x hx
  simp only [List.mem_cons, List.not_mem_nil, or_false] at hx
  rcases hx with rfl | rfl | rfl
  · exact ⟨gr2_7, 0, fun w ex => (Sp.cells (xs := sc [⟨-1, 1, 0, 0⟩, ⟨0, 0, 0, 0⟩]) rfl).mono (.cons _ (.cons_cons _ (Zz9 _)))⟩
  · exact ⟨gr2_14, 0, fun w ex => (Sp.cells (xs := sc [⟨20, 20, 0, 0⟩, ⟨13, 15, 0, 0⟩]) rfl).mono (.cons _ (.cons _ (.cons_cons _ (Zz9 _))))⟩
  · exact ⟨gr2_21, 0, fun w ex => (Sp.cells (xs := sc [⟨30, 30, 0, 0⟩, ⟨30, 30, 0, 0⟩]) rfl).mono (.cons _ (.cons _ (.cons _ (.cons_cons _ (Zz9 _)))))⟩
 intro H19
 refine g_have (fun ac wc => ∃ (gr2_14 gr2_7 : Nat), Tm ac 27 [(17, .slice (some ⟨gr2_14, 0, none⟩) 2 2), (10, .slice (some ⟨gr2_7, 0, none⟩) 2 2), (23, .agg #[Zi 30, Zi 30, Zi 0, Zi 0]), (21, .agg #[Zi 30, Zi 30]), (20, .agg #[Zi 30, Zi 30, Zi 0, Zi 0]), (18, .agg #[Zi 30, Zi 30]), (16, .agg #[Zi 13, Zi 15, Zi 0, Zi 0]), (14, .agg #[Zi 13, Zi 15]), (13, .agg #[Zi 20, Zi 20, Zi 0, Zi 0]), (11, .agg #[Zi 20, Zi 20]), (9, .agg #[Zi 0, Zi 0, Zi 0, Zi 0]), (7, .agg #[Zi 0, Zi 0]), (6, .agg #[Zi (-1), Zi 1, Zi 0, Zi 0]), (4, .agg #[Zi (-1), Zi 1]), (3, .agg #[Zi 20, Zi (-2), Zi 4, Zi 2]), (22, .agg #[Zi 0, Zi 0]), (19, .agg #[Zi 0, Zi 0]), (15, .agg #[Zi 0, Zi 0]), (12, .agg #[Zi 0, Zi 0]), (8, .agg #[Zi 0, Zi 0]), (5, .agg #[Zi 0, Zi 0]), (1, Zj g2), (0, Zj g1)] ∧ Mem w noEx wc [(gr2_14, .cells [Zi 20, Zi 20, Zi 0, Zi 0, Zi 13, Zi 15, Zi 0, Zi 0]), (gr2_7, .cells [Zi (-1), Zi 1, Zi 0, Zi 0, Zi 0, Zi 0, Zi 0, Zi 0]), (g2, .cells [Zi 0, Zi 0]), (g1, .cells [Zi 0, Zi 0, Zi 0, Zi 0, .slice none 0 0])]) (Zpb 25 2097151) 4 ?_ ?_
 ·clear T M
  rintro ac wc ⟨gr2_14, gr2_7, T, M⟩
  refine gw 21 4194303 ?_; intro K hK
  refine ow_bs (e := 32) [Zi 30, Zi 30, Zi 0, Zi 0, Zi 30, Zi 30, Zi 0, Zi 0] M T rfl rfl rfl rfl (.cons (T.e 4 rfl) (.cons (T.e 2 rfl) .nil)) (fun _ => by kernel_rfl) ?_; clear M T; intro gr2_21 wc ac M T
  refine Zso hK _ _ (MA.mk (fun _ => M.mask [false, false, false, true, true] rfl) (M.mask [false, false, false, true, false] rfl)) ?_; clear hK K
  exact H19 _ _ ⟨gr2_14, gr2_7, gr2_21, T.pick [1, 2, 0, 3, 4, 5, 6, 7, 8, 9, 10, 11, 12, 13, 14, 15, 16, 17, 18, 19, 20, 21, 22, 23] rfl, M.perm [1, 2, 0, 3, 4] rfl rfl⟩
 intro H18
 refine g_have (fun ac wc => ∃ (gr2_14 gr2_21 : Nat), Tm ac 27 [(17, .slice (some ⟨gr2_14, 0, none⟩) 2 2), (24, .slice (some ⟨gr2_21, 0, none⟩) 2 2), (23, .agg #[Zi 30, Zi 30, Zi 0, Zi 0]), (21, .agg #[Zi 30, Zi 30]), (20, .agg #[Zi 30, Zi 30, Zi 0, Zi 0]), (18, .agg #[Zi 30, Zi 30]), (16, .agg #[Zi 13, Zi 15, Zi 0, Zi 0]), (14, .agg #[Zi 13, Zi 15]), (13, .agg #[Zi 20, Zi 20, Zi 0, Zi 0]), (11, .agg #[Zi 20, Zi 20]), (9, .agg #[Zi 0, Zi 0, Zi 0, Zi 0]), (7, .agg #[Zi 0, Zi 0]), (6, .agg #[Zi (-1), Zi 1, Zi 0, Zi 0]), (4, .agg #[Zi (-1), Zi 1]), (3, .agg #[Zi 20, Zi (-2), Zi 4, Zi 2]), (22, .agg #[Zi 0, Zi 0]), (19, .agg #[Zi 0, Zi 0]), (15, .agg #[Zi 0, Zi 0]), (12, .agg #[Zi 0, Zi 0]), (8, .agg #[Zi 0, Zi 0]), (5, .agg #[Zi 0, Zi 0]), (1, Zj g2), (0, Zj g1)] ∧ Mem w noEx wc [(gr2_14, .cells [Zi 20, Zi 20, Zi 0, Zi 0, Zi 13, Zi 15, Zi 0, Zi 0]), (gr2_21, .cells [Zi 30, Zi 30, Zi 0, Zi 0, Zi 30, Zi 30, Zi 0, Zi 0]), (g2, .cells [Zi 0, Zi 0]), (g1, .cells [Zi 0, Zi 0, Zi 0, Zi 0, .slice none 0 0])]) (Zpb 25 4194175) 4 ?_ ?_
 ·clear T M
  rintro ac wc ⟨gr2_14, gr2_21, T, M⟩
  refine gw 7 4194303 ?_; intro K hK
  refine ow_bs (e := 32) [Zi (-1), Zi 1, Zi 0, Zi 0, Zi 0, Zi 0, Zi 0, Zi 0] M T rfl rfl rfl rfl (.cons (T.e 12 rfl) (.cons (T.e 10 rfl) .nil)) (fun _ => by kernel_rfl) ?_; clear M T; intro gr2_7 wc ac M T
  refine Zso hK _ _ (MA.mk (fun _ => M.mask [false, false, false, true, true] rfl) (M.mask [false, false, false, true, false] rfl)) ?_; clear hK K
  exact H19 _ _ ⟨gr2_14, gr2_7, gr2_21, T.pick [1, 0, 2, 3, 4, 5, 6, 7, 8, 9, 10, 11, 12, 13, 14, 15, 16, 17, 18, 19, 20, 21, 22, 23] rfl, M.perm [1, 0, 2, 3, 4] rfl rfl⟩
 intro H17
 refine g_have (fun ac wc => ∃ (gr2_7 gr2_21 : Nat), Tm ac 27 [(10, .slice (some ⟨gr2_7, 0, none⟩) 2 2), (24, .slice (some ⟨gr2_21, 0, none⟩) 2 2), (23, .agg #[Zi 30, Zi 30, Zi 0, Zi 0]), (21, .agg #[Zi 30, Zi 30]), (20, .agg #[Zi 30, Zi 30, Zi 0, Zi 0]), (18, .agg #[Zi 30, Zi 30]), (16, .agg #[Zi 13, Zi 15, Zi 0, Zi 0]), (14, .agg #[Zi 13, Zi 15]), (13, .agg #[Zi 20, Zi 20, Zi 0, Zi 0]), (11, .agg #[Zi 20, Zi 20]), (9, .agg #[Zi 0, Zi 0, Zi 0, Zi 0]), (7, .agg #[Zi 0, Zi 0]), (6, .agg #[Zi (-1), Zi 1, Zi 0, Zi 0]), (4, .agg #[Zi (-1), Zi 1]), (3, .agg #[Zi 20, Zi (-2), Zi 4, Zi 2]), (22, .agg #[Zi 0, Zi 0]), (19, .agg #[Zi 0, Zi 0]), (15, .agg #[Zi 0, Zi 0]), (12, .agg #[Zi 0, Zi 0]), (8, .agg #[Zi 0, Zi 0]), (5, .agg #[Zi 0, Zi 0]), (1, Zj g2), (0, Zj g1)] ∧ Mem w noEx wc [(gr2_7, .cells [Zi (-1), Zi 1, Zi 0, Zi 0, Zi 0, Zi 0, Zi 0, Zi 0]), (gr2_21, .cells [Zi 30, Zi 30, Zi 0, Zi 0, Zi 30, Zi 30, Zi 0, Zi 0]), (g2, .cells [Zi 0, Zi 0]), (g1, .cells [Zi 0, Zi 0, Zi 0, Zi 0, .slice none 0 0])]) (Zpb 25 4177919) 4 ?_ ?_
 ·clear T M
  rintro ac wc ⟨gr2_7, gr2_21, T, M⟩
  refine gw 14 4194303 ?_; intro K hK
  refine ow_bs (e := 32) [Zi 20, Zi 20, Zi 0, Zi 0, Zi 13, Zi 15, Zi 0, Zi 0] M T rfl rfl rfl rfl (.cons (T.e 8 rfl) (.cons (T.e 6 rfl) .nil)) (fun _ => by kernel_rfl) ?_; clear M T; intro gr2_14 wc ac M T
  refine Zso hK _ _ (MA.mk (fun _ => M.mask [false, false, false, true, true] rfl) (M.mask [false, false, false, true, false] rfl)) ?_; clear hK K
  exact H19 _ _ ⟨gr2_14, gr2_7, gr2_21, T, M⟩
 intro H16
 refine g_have (fun ac wc => ∃ (gr2_14 gr2_7 : Nat), Tm ac 27 [(17, .slice (some ⟨gr2_14, 0, none⟩) 2 2), (10, .slice (some ⟨gr2_7, 0, none⟩) 2 2), (21, .agg #[Zi 30, Zi 30]), (20, .agg #[Zi 30, Zi 30, Zi 0, Zi 0]), (18, .agg #[Zi 30, Zi 30]), (16, .agg #[Zi 13, Zi 15, Zi 0, Zi 0]), (14, .agg #[Zi 13, Zi 15]), (13, .agg #[Zi 20, Zi 20, Zi 0, Zi 0]), (11, .agg #[Zi 20, Zi 20]), (9, .agg #[Zi 0, Zi 0, Zi 0, Zi 0]), (7, .agg #[Zi 0, Zi 0]), (6, .agg #[Zi (-1), Zi 1, Zi 0, Zi 0]), (4, .agg #[Zi (-1), Zi 1]), (3, .agg #[Zi 20, Zi (-2), Zi 4, Zi 2]), (22, .agg #[Zi 0, Zi 0]), (19, .agg #[Zi 0, Zi 0]), (15, .agg #[Zi 0, Zi 0]), (12, .agg #[Zi 0, Zi 0]), (8, .agg #[Zi 0, Zi 0]), (5, .agg #[Zi 0, Zi 0]), (1, Zj g2), (0, Zj g1)] ∧ Mem w noEx wc [(gr2_14, .cells [Zi 20, Zi 20, Zi 0, Zi 0, Zi 13, Zi 15, Zi 0, Zi 0]), (gr2_7, .cells [Zi (-1), Zi 1, Zi 0, Zi 0, Zi 0, Zi 0, Zi 0, Zi 0]), (g2, .cells [Zi 0, Zi 0]), (g1, .cells [Zi 0, Zi 0, Zi 0, Zi 0, .slice none 0 0])]) (Zpb 25 1048575) 5 ?_ ?_
 ·clear T M
  rintro ac wc ⟨gr2_14, gr2_7, T, M⟩
  refine gw 20 2097151 ?_; intro K hK
  refine Zoc (first := []) (cap := []) T rfl rfl rfl rfl evf (.cons (T.e 2 rfl) (.cons (T.e 14 rfl) .nil)) Tryz.func98 rfl rfl ?_
  refine Calls.mono (sound5_any 30 30 0 0 _) ?_
  clear T; rintro e wc ⟨rfl, hb⟩ ac T
  replace M := M.call hb; clear hb
  refine Zso hK _ _ (MA.mk (fun _ => M.mask [false, false, true, true] rfl) (M.mask [false, false, true, false] rfl)) ?_; clear hK K
  exact H18 _ _ ⟨gr2_14, gr2_7, T.pick [1, 2, 0, 3, 4, 5, 6, 7, 8, 9, 10, 11, 12, 13, 14, 15, 16, 17, 18, 19, 20, 21, 22] rfl, M⟩
 intro H15
 refine g_have (fun ac wc => ∃ (gr2_14 : Nat), Tm ac 27 [(17, .slice (some ⟨gr2_14, 0, none⟩) 2 2), (23, .agg #[Zi 30, Zi 30, Zi 0, Zi 0]), (21, .agg #[Zi 30, Zi 30]), (20, .agg #[Zi 30, Zi 30, Zi 0, Zi 0]), (18, .agg #[Zi 30, Zi 30]), (16, .agg #[Zi 13, Zi 15, Zi 0, Zi 0]), (14, .agg #[Zi 13, Zi 15]), (13, .agg #[Zi 20, Zi 20, Zi 0, Zi 0]), (11, .agg #[Zi 20, Zi 20]), (9, .agg #[Zi 0, Zi 0, Zi 0, Zi 0]), (7, .agg #[Zi 0, Zi 0]), (6, .agg #[Zi (-1), Zi 1, Zi 0, Zi 0]), (4, .agg #[Zi (-1), Zi 1]), (3, .agg #[Zi 20, Zi (-2), Zi 4, Zi 2]), (22, .agg #[Zi 0, Zi 0]), (19, .agg #[Zi 0, Zi 0]), (15, .agg #[Zi 0, Zi 0]), (12, .agg #[Zi 0, Zi 0]), (8, .agg #[Zi 0, Zi 0]), (5, .agg #[Zi 0, Zi 0]), (1, Zj g2), (0, Zj g1)] ∧ Mem w noEx wc [(gr2_14, .cells [Zi 20, Zi 20, Zi 0, Zi 0, Zi 13, Zi 15, Zi 0, Zi 0]), (g2, .cells [Zi 0, Zi 0]), (g1, .cells [Zi 0, Zi 0, Zi 0, Zi 0, .slice none 0 0])]) (Zpb 25 2097023) 5 ?_ ?_
 ·clear T M
  rintro ac wc ⟨gr2_14, T, M⟩
  refine g_m2 (i := 7) (j := 21) (by kernel_rfl) ?_ ?_
  ·refine gi 2097151 ?_; intro K hK
   refine ow_bs (e := 32) [Zi (-1), Zi 1, Zi 0, Zi 0, Zi 0, Zi 0, Zi 0, Zi 0] M T rfl rfl rfl rfl (.cons (T.e 11 rfl) (.cons (T.e 9 rfl) .nil)) (fun _ => by kernel_rfl) ?_; clear M T; intro gr2_7 wc ac M T
   refine Zso hK _ _ (MA.mk (fun _ => M.mask [false, false, true, true] rfl) (M.mask [false, false, true, false] rfl)) ?_; clear hK K
   exact H18 _ _ ⟨gr2_14, gr2_7, T.pick [1, 0, 2, 3, 4, 5, 6, 7, 8, 9, 10, 11, 12, 13, 14, 15, 16, 17, 18, 19, 20, 21, 22] rfl, M.perm [1, 0, 2, 3] rfl rfl⟩
  refine gi 4194175 ?_; intro K hK
  refine ow_bs (e := 32) [Zi 30, Zi 30, Zi 0, Zi 0, Zi 30, Zi 30, Zi 0, Zi 0] M T rfl rfl rfl rfl (.cons (T.e 3 rfl) (.cons (T.e 1 rfl) .nil)) (fun _ => by kernel_rfl) ?_; clear M T; intro gr2_21 wc ac M T
  refine Zso hK _ _ (MA.mk (fun _ => M.mask [false, false, true, true] rfl) (M.mask [false, false, true, false] rfl)) ?_; clear hK K
  exact H17 _ _ ⟨gr2_14, gr2_21, T.pick [1, 0, 2, 3, 4, 5, 6, 7, 8, 9, 10, 11, 12, 13, 14, 15, 16, 17, 18, 19, 20, 21, 22] rfl, M.perm [1, 0, 2, 3] rfl rfl⟩
 intro H14
 refine g_have (fun ac wc => ∃ (gr2_7 : Nat), Tm ac 27 [(10, .slice (some ⟨gr2_7, 0, none⟩) 2 2), (23, .agg #[Zi 30, Zi 30, Zi 0, Zi 0]), (21, .agg #[Zi 30, Zi 30]), (20, .agg #[Zi 30, Zi 30, Zi 0, Zi 0]), (18, .agg #[Zi 30, Zi 30]), (16, .agg #[Zi 13, Zi 15, Zi 0, Zi 0]), (14, .agg #[Zi 13, Zi 15]), (13, .agg #[Zi 20, Zi 20, Zi 0, Zi 0]), (11, .agg #[Zi 20, Zi 20]), (9, .agg #[Zi 0, Zi 0, Zi 0, Zi 0]), (7, .agg #[Zi 0, Zi 0]), (6, .agg #[Zi (-1), Zi 1, Zi 0, Zi 0]), (4, .agg #[Zi (-1), Zi 1]), (3, .agg #[Zi 20, Zi (-2), Zi 4, Zi 2]), (22, .agg #[Zi 0, Zi 0]), (19, .agg #[Zi 0, Zi 0]), (15, .agg #[Zi 0, Zi 0]), (12, .agg #[Zi 0, Zi 0]), (8, .agg #[Zi 0, Zi 0]), (5, .agg #[Zi 0, Zi 0]), (1, Zj g2), (0, Zj g1)] ∧ Mem w noEx wc [(gr2_7, .cells [Zi (-1), Zi 1, Zi 0, Zi 0, Zi 0, Zi 0, Zi 0, Zi 0]), (g2, .cells [Zi 0, Zi 0]), (g1, .cells [Zi 0, Zi 0, Zi 0, Zi 0, .slice none 0 0])]) (Zpb 25 2080767) 5 ?_ ?_
 ·clear T M
  rintro ac wc ⟨gr2_7, T, M⟩
  refine g_m2 (i := 14) (j := 21) (by kernel_rfl) ?_ ?_
  ·refine gi 2097151 ?_; intro K hK
   refine ow_bs (e := 32) [Zi 20, Zi 20, Zi 0, Zi 0, Zi 13, Zi 15, Zi 0, Zi 0] M T rfl rfl rfl rfl (.cons (T.e 7 rfl) (.cons (T.e 5 rfl) .nil)) (fun _ => by kernel_rfl) ?_; clear M T; intro gr2_14 wc ac M T
   refine Zso hK _ _ (MA.mk (fun _ => M.mask [false, false, true, true] rfl) (M.mask [false, false, true, false] rfl)) ?_; clear hK K
   exact H18 _ _ ⟨gr2_14, gr2_7, T, M⟩
  refine gi 4177919 ?_; intro K hK
  refine ow_bs (e := 32) [Zi 30, Zi 30, Zi 0, Zi 0, Zi 30, Zi 30, Zi 0, Zi 0] M T rfl rfl rfl rfl (.cons (T.e 3 rfl) (.cons (T.e 1 rfl) .nil)) (fun _ => by kernel_rfl) ?_; clear M T; intro gr2_21 wc ac M T
  refine Zso hK _ _ (MA.mk (fun _ => M.mask [false, false, true, true] rfl) (M.mask [false, false, true, false] rfl)) ?_; clear hK K
  exact H16 _ _ ⟨gr2_7, gr2_21, T.pick [1, 0, 2, 3, 4, 5, 6, 7, 8, 9, 10, 11, 12, 13, 14, 15, 16, 17, 18, 19, 20, 21, 22] rfl, M.perm [1, 0, 2, 3] rfl rfl⟩
 intro H13
 refine g_have (fun ac wc => ∃ (gr2_14 gr2_7 : Nat), Tm ac 27 [(17, .slice (some ⟨gr2_14, 0, none⟩) 2 2), (10, .slice (some ⟨gr2_7, 0, none⟩) 2 2), (20, .agg #[Zi 30, Zi 30, Zi 0, Zi 0]), (18, .agg #[Zi 30, Zi 30]), (16, .agg #[Zi 13, Zi 15, Zi 0, Zi 0]), (14, .agg #[Zi 13, Zi 15]), (13, .agg #[Zi 20, Zi 20, Zi 0, Zi 0]), (11, .agg #[Zi 20, Zi 20]), (9, .agg #[Zi 0, Zi 0, Zi 0, Zi 0]), (7, .agg #[Zi 0, Zi 0]), (6, .agg #[Zi (-1), Zi 1, Zi 0, Zi 0]), (4, .agg #[Zi (-1), Zi 1]), (3, .agg #[Zi 20, Zi (-2), Zi 4, Zi 2]), (22, .agg #[Zi 0, Zi 0]), (19, .agg #[Zi 0, Zi 0]), (15, .agg #[Zi 0, Zi 0]), (12, .agg #[Zi 0, Zi 0]), (8, .agg #[Zi 0, Zi 0]), (5, .agg #[Zi 0, Zi 0]), (1, Zj g2), (0, Zj g1)] ∧ Mem w noEx wc [(gr2_14, .cells [Zi 20, Zi 20, Zi 0, Zi 0, Zi 13, Zi 15, Zi 0, Zi 0]), (gr2_7, .cells [Zi (-1), Zi 1, Zi 0, Zi 0, Zi 0, Zi 0, Zi 0, Zi 0]), (g2, .cells [Zi 0, Zi 0]), (g1, .cells [Zi 0, Zi 0, Zi 0, Zi 0, .slice none 0 0])]) (Zpb 25 786431) 6 ?_ ?_
 ·clear T M
  rintro ac wc ⟨gr2_14, gr2_7, T, M⟩
  refine gw 18 1048575 ?_; intro K hK
  refine Zoc (first := []) (cap := []) T rfl rfl rfl rfl evf (.cons evc (.cons evc .nil)) Tryz.func50 rfl rfl ?_
  refine Calls.mono (to5_any 30 30 _) ?_
  clear T; rintro e wc ⟨rfl, hb⟩ ac T
  replace M := M.call hb; clear hb
  refine Zso hK _ _ (MA.mk (fun _ => M.mask [false, false, true, true] rfl) (M.mask [false, false, true, false] rfl)) ?_; clear hK K
  exact H15 _ _ ⟨gr2_14, gr2_7, T.pick [1, 2, 0, 3, 4, 5, 6, 7, 8, 9, 10, 11, 12, 13, 14, 15, 16, 17, 18, 19, 20, 21] rfl, M⟩
 intro H12
 refine g_have (fun ac wc => ∃ (gr2_14 : Nat), Tm ac 27 [(17, .slice (some ⟨gr2_14, 0, none⟩) 2 2), (21, .agg #[Zi 30, Zi 30]), (20, .agg #[Zi 30, Zi 30, Zi 0, Zi 0]), (18, .agg #[Zi 30, Zi 30]), (16, .agg #[Zi 13, Zi 15, Zi 0, Zi 0]), (14, .agg #[Zi 13, Zi 15]), (13, .agg #[Zi 20, Zi 20, Zi 0, Zi 0]), (11, .agg #[Zi 20, Zi 20]), (9, .agg #[Zi 0, Zi 0, Zi 0, Zi 0]), (7, .agg #[Zi 0, Zi 0]), (6, .agg #[Zi (-1), Zi 1, Zi 0, Zi 0]), (4, .agg #[Zi (-1), Zi 1]), (3, .agg #[Zi 20, Zi (-2), Zi 4, Zi 2]), (22, .agg #[Zi 0, Zi 0]), (19, .agg #[Zi 0, Zi 0]), (15, .agg #[Zi 0, Zi 0]), (12, .agg #[Zi 0, Zi 0]), (8, .agg #[Zi 0, Zi 0]), (5, .agg #[Zi 0, Zi 0]), (1, Zj g2), (0, Zj g1)] ∧ Mem w noEx wc [(gr2_14, .cells [Zi 20, Zi 20, Zi 0, Zi 0, Zi 13, Zi 15, Zi 0, Zi 0]), (g2, .cells [Zi 0, Zi 0]), (g1, .cells [Zi 0, Zi 0, Zi 0, Zi 0, .slice none 0 0])]) (Zpb 25 1048447) 6 ?_ ?_
 ·clear T M
  rintro ac wc ⟨gr2_14, T, M⟩
  refine g_m2 (i := 7) (j := 20) (by kernel_rfl) ?_ ?_
  ·refine gi 1048575 ?_; intro K hK
   refine ow_bs (e := 32) [Zi (-1), Zi 1, Zi 0, Zi 0, Zi 0, Zi 0, Zi 0, Zi 0] M T rfl rfl rfl rfl (.cons (T.e 10 rfl) (.cons (T.e 8 rfl) .nil)) (fun _ => by kernel_rfl) ?_; clear M T; intro gr2_7 wc ac M T
   refine Zso hK _ _ (MA.mk (fun _ => M.mask [false, false, true, true] rfl) (M.mask [false, false, true, false] rfl)) ?_; clear hK K
   exact H15 _ _ ⟨gr2_14, gr2_7, T.pick [1, 0, 2, 3, 4, 5, 6, 7, 8, 9, 10, 11, 12, 13, 14, 15, 16, 17, 18, 19, 20, 21] rfl, M.perm [1, 0, 2, 3] rfl rfl⟩
  refine gi 2097023 ?_; intro K hK
  refine Zoc (first := []) (cap := []) T rfl rfl rfl rfl evf (.cons (T.e 1 rfl) (.cons (T.e 13 rfl) .nil)) Tryz.func98 rfl rfl ?_
  refine Calls.mono (sound5_any 30 30 0 0 _) ?_
  clear T; rintro e wc ⟨rfl, hb⟩ ac T
  replace M := M.call hb; clear hb
  refine Zso hK _ _ (MA.mk (fun _ => M.mask [false, true, true] rfl) (M.mask [false, true, false] rfl)) ?_; clear hK K
  exact H14 _ _ ⟨gr2_14, T.pick [1, 0, 2, 3, 4, 5, 6, 7, 8, 9, 10, 11, 12, 13, 14, 15, 16, 17, 18, 19, 20, 21] rfl, M⟩
 intro H11
 refine g_have (fun ac wc => ∃ (gr2_7 : Nat), Tm ac 27 [(10, .slice (some ⟨gr2_7, 0, none⟩) 2 2), (21, .agg #[Zi 30, Zi 30]), (20, .agg #[Zi 30, Zi 30, Zi 0, Zi 0]), (18, .agg #[Zi 30, Zi 30]), (16, .agg #[Zi 13, Zi 15, Zi 0, Zi 0]), (14, .agg #[Zi 13, Zi 15]), (13, .agg #[Zi 20, Zi 20, Zi 0, Zi 0]), (11, .agg #[Zi 20, Zi 20]), (9, .agg #[Zi 0, Zi 0, Zi 0, Zi 0]), (7, .agg #[Zi 0, Zi 0]), (6, .agg #[Zi (-1), Zi 1, Zi 0, Zi 0]), (4, .agg #[Zi (-1), Zi 1]), (3, .agg #[Zi 20, Zi (-2), Zi 4, Zi 2]), (22, .agg #[Zi 0, Zi 0]), (19, .agg #[Zi 0, Zi 0]), (15, .agg #[Zi 0, Zi 0]), (12, .agg #[Zi 0, Zi 0]), (8, .agg #[Zi 0, Zi 0]), (5, .agg #[Zi 0, Zi 0]), (1, Zj g2), (0, Zj g1)] ∧ Mem w noEx wc [(gr2_7, .cells [Zi (-1), Zi 1, Zi 0, Zi 0, Zi 0, Zi 0, Zi 0, Zi 0]), (g2, .cells [Zi 0, Zi 0]), (g1, .cells [Zi 0, Zi 0, Zi 0, Zi 0, .slice none 0 0])]) (Zpb 25 1032191) 6 ?_ ?_
 ·clear T M
  rintro ac wc ⟨gr2_7, T, M⟩
  refine g_m2 (i := 14) (j := 20) (by kernel_rfl) ?_ ?_
  ·refine gi 1048575 ?_; intro K hK
   refine ow_bs (e := 32) [Zi 20, Zi 20, Zi 0, Zi 0, Zi 13, Zi 15, Zi 0, Zi 0] M T rfl rfl rfl rfl (.cons (T.e 6 rfl) (.cons (T.e 4 rfl) .nil)) (fun _ => by kernel_rfl) ?_; clear M T; intro gr2_14 wc ac M T
   refine Zso hK _ _ (MA.mk (fun _ => M.mask [false, false, true, true] rfl) (M.mask [false, false, true, false] rfl)) ?_; clear hK K
   exact H15 _ _ ⟨gr2_14, gr2_7, T, M⟩
  refine gi 2080767 ?_; intro K hK
  refine Zoc (first := []) (cap := []) T rfl rfl rfl rfl evf (.cons (T.e 1 rfl) (.cons (T.e 13 rfl) .nil)) Tryz.func98 rfl rfl ?_
  refine Calls.mono (sound5_any 30 30 0 0 _) ?_
  clear T; rintro e wc ⟨rfl, hb⟩ ac T
  replace M := M.call hb; clear hb
  refine Zso hK _ _ (MA.mk (fun _ => M.mask [false, true, true] rfl) (M.mask [false, true, false] rfl)) ?_; clear hK K
  exact H13 _ _ ⟨gr2_7, T.pick [1, 0, 2, 3, 4, 5, 6, 7, 8, 9, 10, 11, 12, 13, 14, 15, 16, 17, 18, 19, 20, 21] rfl, M⟩
 intro H10
 refine g_have (fun ac wc => ∃ (gr2_14 gr2_7 : Nat), Tm ac 27 [(17, .slice (some ⟨gr2_14, 0, none⟩) 2 2), (10, .slice (some ⟨gr2_7, 0, none⟩) 2 2), (18, .agg #[Zi 30, Zi 30]), (16, .agg #[Zi 13, Zi 15, Zi 0, Zi 0]), (14, .agg #[Zi 13, Zi 15]), (13, .agg #[Zi 20, Zi 20, Zi 0, Zi 0]), (11, .agg #[Zi 20, Zi 20]), (9, .agg #[Zi 0, Zi 0, Zi 0, Zi 0]), (7, .agg #[Zi 0, Zi 0]), (6, .agg #[Zi (-1), Zi 1, Zi 0, Zi 0]), (4, .agg #[Zi (-1), Zi 1]), (3, .agg #[Zi 20, Zi (-2), Zi 4, Zi 2]), (22, .agg #[Zi 0, Zi 0]), (19, .agg #[Zi 0, Zi 0]), (15, .agg #[Zi 0, Zi 0]), (12, .agg #[Zi 0, Zi 0]), (8, .agg #[Zi 0, Zi 0]), (5, .agg #[Zi 0, Zi 0]), (1, Zj g2), (0, Zj g1)] ∧ Mem w noEx wc [(gr2_14, .cells [Zi 20, Zi 20, Zi 0, Zi 0, Zi 13, Zi 15, Zi 0, Zi 0]), (gr2_7, .cells [Zi (-1), Zi 1, Zi 0, Zi 0, Zi 0, Zi 0, Zi 0, Zi 0]), (g2, .cells [Zi 0, Zi 0]), (g1, .cells [Zi 0, Zi 0, Zi 0, Zi 0, .slice none 0 0])]) (Zpb 25 655359) 7 ?_ ?_
 ·clear T M
  rintro ac wc ⟨gr2_14, gr2_7, T, M⟩
  refine gw 17 786431 ?_; intro K hK
  refine Zoc (first := []) (cap := []) T rfl rfl rfl rfl evf (.cons (T.e 2 rfl) (.cons (T.e 13 rfl) .nil)) Tryz.func98 rfl rfl ?_
  refine Calls.mono (sound5_any 30 30 0 0 _) ?_
  clear T; rintro e wc ⟨rfl, hb⟩ ac T
  replace M := M.call hb; clear hb
  refine Zso hK _ _ (MA.mk (fun _ => M.mask [false, false, true, true] rfl) (M.mask [false, false, true, false] rfl)) ?_; clear hK K
  exact H12 _ _ ⟨gr2_14, gr2_7, T.pick [1, 2, 0, 3, 4, 5, 6, 7, 8, 9, 10, 11, 12, 13, 14, 15, 16, 17, 18, 19, 20] rfl, M⟩
 intro H9
 refine g_have (fun ac wc => ∃ (gr2_14 : Nat), Tm ac 27 [(17, .slice (some ⟨gr2_14, 0, none⟩) 2 2), (20, .agg #[Zi 30, Zi 30, Zi 0, Zi 0]), (18, .agg #[Zi 30, Zi 30]), (16, .agg #[Zi 13, Zi 15, Zi 0, Zi 0]), (14, .agg #[Zi 13, Zi 15]), (13, .agg #[Zi 20, Zi 20, Zi 0, Zi 0]), (11, .agg #[Zi 20, Zi 20]), (9, .agg #[Zi 0, Zi 0, Zi 0, Zi 0]), (7, .agg #[Zi 0, Zi 0]), (6, .agg #[Zi (-1), Zi 1, Zi 0, Zi 0]), (4, .agg #[Zi (-1), Zi 1]), (3, .agg #[Zi 20, Zi (-2), Zi 4, Zi 2]), (22, .agg #[Zi 0, Zi 0]), (19, .agg #[Zi 0, Zi 0]), (15, .agg #[Zi 0, Zi 0]), (12, .agg #[Zi 0, Zi 0]), (8, .agg #[Zi 0, Zi 0]), (5, .agg #[Zi 0, Zi 0]), (1, Zj g2), (0, Zj g1)] ∧ Mem w noEx wc [(gr2_14, .cells [Zi 20, Zi 20, Zi 0, Zi 0, Zi 13, Zi 15, Zi 0, Zi 0]), (g2, .cells [Zi 0, Zi 0]), (g1, .cells [Zi 0, Zi 0, Zi 0, Zi 0, .slice none 0 0])]) (Zpb 25 786303) 7 ?_ ?_
 ·clear T M
  rintro ac wc ⟨gr2_14, T, M⟩
  refine g_m2 (i := 7) (j := 18) (by kernel_rfl) ?_ ?_
  ·refine gi 786431 ?_; intro K hK
   refine ow_bs (e := 32) [Zi (-1), Zi 1, Zi 0, Zi 0, Zi 0, Zi 0, Zi 0, Zi 0] M T rfl rfl rfl rfl (.cons (T.e 9 rfl) (.cons (T.e 7 rfl) .nil)) (fun _ => by kernel_rfl) ?_; clear M T; intro gr2_7 wc ac M T
   refine Zso hK _ _ (MA.mk (fun _ => M.mask [false, false, true, true] rfl) (M.mask [false, false, true, false] rfl)) ?_; clear hK K
   exact H12 _ _ ⟨gr2_14, gr2_7, T.pick [1, 0, 2, 3, 4, 5, 6, 7, 8, 9, 10, 11, 12, 13, 14, 15, 16, 17, 18, 19, 20] rfl, M.perm [1, 0, 2, 3] rfl rfl⟩
  refine gi 1048447 ?_; intro K hK
  refine Zoc (first := []) (cap := []) T rfl rfl rfl rfl evf (.cons evc (.cons evc .nil)) Tryz.func50 rfl rfl ?_
  refine Calls.mono (to5_any 30 30 _) ?_
  clear T; rintro e wc ⟨rfl, hb⟩ ac T
  replace M := M.call hb; clear hb
  refine Zso hK _ _ (MA.mk (fun _ => M.mask [false, true, true] rfl) (M.mask [false, true, false] rfl)) ?_; clear hK K
  exact H11 _ _ ⟨gr2_14, T.pick [1, 0, 2, 3, 4, 5, 6, 7, 8, 9, 10, 11, 12, 13, 14, 15, 16, 17, 18, 19, 20] rfl, M⟩
 intro H8
 refine g_have (fun ac wc => ∃ (gr2_7 : Nat), Tm ac 27 [(10, .slice (some ⟨gr2_7, 0, none⟩) 2 2), (20, .agg #[Zi 30, Zi 30, Zi 0, Zi 0]), (18, .agg #[Zi 30, Zi 30]), (16, .agg #[Zi 13, Zi 15, Zi 0, Zi 0]), (14, .agg #[Zi 13, Zi 15]), (13, .agg #[Zi 20, Zi 20, Zi 0, Zi 0]), (11, .agg #[Zi 20, Zi 20]), (9, .agg #[Zi 0, Zi 0, Zi 0, Zi 0]), (7, .agg #[Zi 0, Zi 0]), (6, .agg #[Zi (-1), Zi 1, Zi 0, Zi 0]), (4, .agg #[Zi (-1), Zi 1]), (3, .agg #[Zi 20, Zi (-2), Zi 4, Zi 2]), (22, .agg #[Zi 0, Zi 0]), (19, .agg #[Zi 0, Zi 0]), (15, .agg #[Zi 0, Zi 0]), (12, .agg #[Zi 0, Zi 0]), (8, .agg #[Zi 0, Zi 0]), (5, .agg #[Zi 0, Zi 0]), (1, Zj g2), (0, Zj g1)] ∧ Mem w noEx wc [(gr2_7, .cells [Zi (-1), Zi 1, Zi 0, Zi 0, Zi 0, Zi 0, Zi 0, Zi 0]), (g2, .cells [Zi 0, Zi 0]), (g1, .cells [Zi 0, Zi 0, Zi 0, Zi 0, .slice none 0 0])]) (Zpb 25 770047) 7 ?_ ?_
 ·clear T M
  rintro ac wc ⟨gr2_7, T, M⟩
  refine g_m2 (i := 14) (j := 18) (by kernel_rfl) ?_ ?_
  ·refine gi 786431 ?_; intro K hK
   refine ow_bs (e := 32) [Zi 20, Zi 20, Zi 0, Zi 0, Zi 13, Zi 15, Zi 0, Zi 0] M T rfl rfl rfl rfl (.cons (T.e 5 rfl) (.cons (T.e 3 rfl) .nil)) (fun _ => by kernel_rfl) ?_; clear M T; intro gr2_14 wc ac M T
   refine Zso hK _ _ (MA.mk (fun _ => M.mask [false, false, true, true] rfl) (M.mask [false, false, true, false] rfl)) ?_; clear hK K
   exact H12 _ _ ⟨gr2_14, gr2_7, T, M⟩
  refine gi 1032191 ?_; intro K hK
  refine Zoc (first := []) (cap := []) T rfl rfl rfl rfl evf (.cons evc (.cons evc .nil)) Tryz.func50 rfl rfl ?_
  refine Calls.mono (to5_any 30 30 _) ?_
  clear T; rintro e wc ⟨rfl, hb⟩ ac T
  replace M := M.call hb; clear hb
  refine Zso hK _ _ (MA.mk (fun _ => M.mask [false, true, true] rfl) (M.mask [false, true, false] rfl)) ?_; clear hK K
  exact H10 _ _ ⟨gr2_7, T.pick [1, 0, 2, 3, 4, 5, 6, 7, 8, 9, 10, 11, 12, 13, 14, 15, 16, 17, 18, 19, 20] rfl, M⟩
 intro H7
 refine g_have (fun ac wc => ∃ (gr2_7 gr2_14 : Nat), Tm ac 27 [(10, .slice (some ⟨gr2_7, 0, none⟩) 2 2), (17, .slice (some ⟨gr2_14, 0, none⟩) 2 2), (16, .agg #[Zi 13, Zi 15, Zi 0, Zi 0]), (14, .agg #[Zi 13, Zi 15]), (13, .agg #[Zi 20, Zi 20, Zi 0, Zi 0]), (11, .agg #[Zi 20, Zi 20]), (9, .agg #[Zi 0, Zi 0, Zi 0, Zi 0]), (7, .agg #[Zi 0, Zi 0]), (6, .agg #[Zi (-1), Zi 1, Zi 0, Zi 0]), (4, .agg #[Zi (-1), Zi 1]), (3, .agg #[Zi 20, Zi (-2), Zi 4, Zi 2]), (22, .agg #[Zi 0, Zi 0]), (19, .agg #[Zi 0, Zi 0]), (15, .agg #[Zi 0, Zi 0]), (12, .agg #[Zi 0, Zi 0]), (8, .agg #[Zi 0, Zi 0]), (5, .agg #[Zi 0, Zi 0]), (1, Zj g2), (0, Zj g1)] ∧ Mem w noEx wc [(gr2_7, .cells [Zi (-1), Zi 1, Zi 0, Zi 0, Zi 0, Zi 0, Zi 0, Zi 0]), (gr2_14, .cells [Zi 20, Zi 20, Zi 0, Zi 0, Zi 13, Zi 15, Zi 0, Zi 0]), (g2, .cells [Zi 0, Zi 0]), (g1, .cells [Zi 0, Zi 0, Zi 0, Zi 0, .slice none 0 0])]) (Zpb 25 622591) 8 ?_ ?_
 ·clear T M
  rintro ac wc ⟨gr2_7, gr2_14, T, M⟩
  refine gw 15 655359 ?_; intro K hK
  refine Zoc (first := []) (cap := []) T rfl rfl rfl rfl evf (.cons evc (.cons evc .nil)) Tryz.func50 rfl rfl ?_
  refine Calls.mono (to5_any 30 30 _) ?_
  clear T; rintro e wc ⟨rfl, hb⟩ ac T
  replace M := M.call hb; clear hb
  refine Zso hK _ _ (MA.mk (fun _ => M.mask [false, false, true, true] rfl) (M.mask [false, false, true, false] rfl)) ?_; clear hK K
  exact H9 _ _ ⟨gr2_14, gr2_7, T.pick [2, 1, 0, 3, 4, 5, 6, 7, 8, 9, 10, 11, 12, 13, 14, 15, 16, 17, 18, 19] rfl, M.perm [1, 0, 2, 3] rfl rfl⟩
 intro H6
 refine g_have (fun ac wc => ∃ (gr2_14 : Nat), Tm ac 27 [(18, .agg #[Zi 30, Zi 30]), (17, .slice (some ⟨gr2_14, 0, none⟩) 2 2), (16, .agg #[Zi 13, Zi 15, Zi 0, Zi 0]), (14, .agg #[Zi 13, Zi 15]), (13, .agg #[Zi 20, Zi 20, Zi 0, Zi 0]), (11, .agg #[Zi 20, Zi 20]), (9, .agg #[Zi 0, Zi 0, Zi 0, Zi 0]), (7, .agg #[Zi 0, Zi 0]), (6, .agg #[Zi (-1), Zi 1, Zi 0, Zi 0]), (4, .agg #[Zi (-1), Zi 1]), (3, .agg #[Zi 20, Zi (-2), Zi 4, Zi 2]), (22, .agg #[Zi 0, Zi 0]), (19, .agg #[Zi 0, Zi 0]), (15, .agg #[Zi 0, Zi 0]), (12, .agg #[Zi 0, Zi 0]), (8, .agg #[Zi 0, Zi 0]), (5, .agg #[Zi 0, Zi 0]), (1, Zj g2), (0, Zj g1)] ∧ Mem w noEx wc [(gr2_14, .cells [Zi 20, Zi 20, Zi 0, Zi 0, Zi 13, Zi 15, Zi 0, Zi 0]), (g2, .cells [Zi 0, Zi 0]), (g1, .cells [Zi 0, Zi 0, Zi 0, Zi 0, .slice none 0 0])]) (Zpb 25 655231) 8 ?_ ?_
 ·clear T M
  rintro ac wc ⟨gr2_14, T, M⟩
  refine g_m2 (i := 7) (j := 17) (by kernel_rfl) ?_ ?_
  ·refine gi 655359 ?_; intro K hK
   refine ow_bs (e := 32) [Zi (-1), Zi 1, Zi 0, Zi 0, Zi 0, Zi 0, Zi 0, Zi 0] M T rfl rfl rfl rfl (.cons (T.e 8 rfl) (.cons (T.e 6 rfl) .nil)) (fun _ => by kernel_rfl) ?_; clear M T; intro gr2_7 wc ac M T
   refine Zso hK _ _ (MA.mk (fun _ => M.mask [false, false, true, true] rfl) (M.mask [false, false, true, false] rfl)) ?_; clear hK K
   exact H9 _ _ ⟨gr2_14, gr2_7, T.pick [2, 0, 1, 3, 4, 5, 6, 7, 8, 9, 10, 11, 12, 13, 14, 15, 16, 17, 18, 19] rfl, M.perm [1, 0, 2, 3] rfl rfl⟩
  refine gi 786303 ?_; intro K hK
  refine Zoc (first := []) (cap := []) T rfl rfl rfl rfl evf (.cons (T.e 0 rfl) (.cons (T.e 12 rfl) .nil)) Tryz.func98 rfl rfl ?_
  refine Calls.mono (sound5_any 30 30 0 0 _) ?_
  clear T; rintro e wc ⟨rfl, hb⟩ ac T
  replace M := M.call hb; clear hb
  refine Zso hK _ _ (MA.mk (fun _ => M.mask [false, true, true] rfl) (M.mask [false, true, false] rfl)) ?_; clear hK K
  exact H8 _ _ ⟨gr2_14, T.pick [2, 0, 1, 3, 4, 5, 6, 7, 8, 9, 10, 11, 12, 13, 14, 15, 16, 17, 18, 19] rfl, M⟩
 intro H5
 refine g_have (fun ac wc => ∃ (gr2_7 : Nat), Tm ac 27 [(10, .slice (some ⟨gr2_7, 0, none⟩) 2 2), (18, .agg #[Zi 30, Zi 30]), (16, .agg #[Zi 13, Zi 15, Zi 0, Zi 0]), (14, .agg #[Zi 13, Zi 15]), (13, .agg #[Zi 20, Zi 20, Zi 0, Zi 0]), (11, .agg #[Zi 20, Zi 20]), (9, .agg #[Zi 0, Zi 0, Zi 0, Zi 0]), (7, .agg #[Zi 0, Zi 0]), (6, .agg #[Zi (-1), Zi 1, Zi 0, Zi 0]), (4, .agg #[Zi (-1), Zi 1]), (3, .agg #[Zi 20, Zi (-2), Zi 4, Zi 2]), (22, .agg #[Zi 0, Zi 0]), (19, .agg #[Zi 0, Zi 0]), (15, .agg #[Zi 0, Zi 0]), (12, .agg #[Zi 0, Zi 0]), (8, .agg #[Zi 0, Zi 0]), (5, .agg #[Zi 0, Zi 0]), (1, Zj g2), (0, Zj g1)] ∧ Mem w noEx wc [(gr2_7, .cells [Zi (-1), Zi 1, Zi 0, Zi 0, Zi 0, Zi 0, Zi 0, Zi 0]), (g2, .cells [Zi 0, Zi 0]), (g1, .cells [Zi 0, Zi 0, Zi 0, Zi 0, .slice none 0 0])]) (Zpb 25 638975) 8 ?_ ?_
 ·clear T M
  rintro ac wc ⟨gr2_7, T, M⟩
  refine g_m2 (i := 14) (j := 17) (by kernel_rfl) ?_ ?_
  ·refine gi 655359 ?_; intro K hK
   refine ow_bs (e := 32) [Zi 20, Zi 20, Zi 0, Zi 0, Zi 13, Zi 15, Zi 0, Zi 0] M T rfl rfl rfl rfl (.cons (T.e 4 rfl) (.cons (T.e 2 rfl) .nil)) (fun _ => by kernel_rfl) ?_; clear M T; intro gr2_14 wc ac M T
   refine Zso hK _ _ (MA.mk (fun _ => M.mask [false, false, true, true] rfl) (M.mask [false, false, true, false] rfl)) ?_; clear hK K
   exact H9 _ _ ⟨gr2_14, gr2_7, T, M⟩
  refine gi 770047 ?_; intro K hK
  refine Zoc (first := []) (cap := []) T rfl rfl rfl rfl evf (.cons (T.e 1 rfl) (.cons (T.e 12 rfl) .nil)) Tryz.func98 rfl rfl ?_
  refine Calls.mono (sound5_any 30 30 0 0 _) ?_
  clear T; rintro e wc ⟨rfl, hb⟩ ac T
  replace M := M.call hb; clear hb
  refine Zso hK _ _ (MA.mk (fun _ => M.mask [false, true, true] rfl) (M.mask [false, true, false] rfl)) ?_; clear hK K
  exact H7 _ _ ⟨gr2_7, T.pick [1, 0, 2, 3, 4, 5, 6, 7, 8, 9, 10, 11, 12, 13, 14, 15, 16, 17, 18, 19] rfl, M⟩
 intro H4
 refine g_have (fun ac wc => ∃ (gr2_7 : Nat), Tm ac 27 [(10, .slice (some ⟨gr2_7, 0, none⟩) 2 2), (16, .agg #[Zi 13, Zi 15, Zi 0, Zi 0]), (14, .agg #[Zi 13, Zi 15]), (13, .agg #[Zi 20, Zi 20, Zi 0, Zi 0]), (11, .agg #[Zi 20, Zi 20]), (9, .agg #[Zi 0, Zi 0, Zi 0, Zi 0]), (7, .agg #[Zi 0, Zi 0]), (6, .agg #[Zi (-1), Zi 1, Zi 0, Zi 0]), (4, .agg #[Zi (-1), Zi 1]), (3, .agg #[Zi 20, Zi (-2), Zi 4, Zi 2]), (22, .agg #[Zi 0, Zi 0]), (19, .agg #[Zi 0, Zi 0]), (15, .agg #[Zi 0, Zi 0]), (12, .agg #[Zi 0, Zi 0]), (8, .agg #[Zi 0, Zi 0]), (5, .agg #[Zi 0, Zi 0]), (1, Zj g2), (0, Zj g1)] ∧ Mem w noEx wc [(gr2_7, .cells [Zi (-1), Zi 1, Zi 0, Zi 0, Zi 0, Zi 0, Zi 0, Zi 0]), (g2, .cells [Zi 0, Zi 0]), (g1, .cells [Zi 0, Zi 0, Zi 0, Zi 0, .slice none 0 0])]) (Zpb 25 606207) 9 ?_ ?_
 ·clear T M
  rintro ac wc ⟨gr2_7, T, M⟩
  refine g_m2 (i := 14) (j := 15) (by kernel_rfl) ?_ ?_
  ·refine gi 622591 ?_; intro K hK
   refine ow_bs (e := 32) [Zi 20, Zi 20, Zi 0, Zi 0, Zi 13, Zi 15, Zi 0, Zi 0] M T rfl rfl rfl rfl (.cons (T.e 3 rfl) (.cons (T.e 1 rfl) .nil)) (fun _ => by kernel_rfl) ?_; clear M T; intro gr2_14 wc ac M T
   refine Zso hK _ _ (MA.mk (fun _ => M.mask [false, false, true, true] rfl) (M.mask [false, false, true, false] rfl)) ?_; clear hK K
   exact H6 _ _ ⟨gr2_7, gr2_14, T.pick [1, 0, 2, 3, 4, 5, 6, 7, 8, 9, 10, 11, 12, 13, 14, 15, 16, 17, 18] rfl, M.perm [1, 0, 2, 3] rfl rfl⟩
  refine gi 638975 ?_; intro K hK
  refine Zoc (first := []) (cap := []) T rfl rfl rfl rfl evf (.cons evc (.cons evc .nil)) Tryz.func50 rfl rfl ?_
  refine Calls.mono (to5_any 30 30 _) ?_
  clear T; rintro e wc ⟨rfl, hb⟩ ac T
  replace M := M.call hb; clear hb
  refine Zso hK _ _ (MA.mk (fun _ => M.mask [false, true, true] rfl) (M.mask [false, true, false] rfl)) ?_; clear hK K
  exact H4 _ _ ⟨gr2_7, T.pick [1, 0, 2, 3, 4, 5, 6, 7, 8, 9, 10, 11, 12, 13, 14, 15, 16, 17, 18] rfl, M⟩
 intro H3
 refine g_have (fun ac wc => ∃ (gr2_7 : Nat), Tm ac 27 [(10, .slice (some ⟨gr2_7, 0, none⟩) 2 2), (14, .agg #[Zi 13, Zi 15]), (13, .agg #[Zi 20, Zi 20, Zi 0, Zi 0]), (11, .agg #[Zi 20, Zi 20]), (9, .agg #[Zi 0, Zi 0, Zi 0, Zi 0]), (7, .agg #[Zi 0, Zi 0]), (6, .agg #[Zi (-1), Zi 1, Zi 0, Zi 0]), (4, .agg #[Zi (-1), Zi 1]), (3, .agg #[Zi 20, Zi (-2), Zi 4, Zi 2]), (22, .agg #[Zi 0, Zi 0]), (19, .agg #[Zi 0, Zi 0]), (15, .agg #[Zi 0, Zi 0]), (12, .agg #[Zi 0, Zi 0]), (8, .agg #[Zi 0, Zi 0]), (5, .agg #[Zi 0, Zi 0]), (1, Zj g2), (0, Zj g1)] ∧ Mem w noEx wc [(gr2_7, .cells [Zi (-1), Zi 1, Zi 0, Zi 0, Zi 0, Zi 0, Zi 0, Zi 0]), (g2, .cells [Zi 0, Zi 0]), (g1, .cells [Zi 0, Zi 0, Zi 0, Zi 0, .slice none 0 0])]) (Zpb 25 598015) 10 ?_ ?_
 ·clear T M
  rintro ac wc ⟨gr2_7, T, M⟩
  refine gw 13 606207 ?_; intro K hK
  refine Zoc (first := []) (cap := []) T rfl rfl rfl rfl evf (.cons (T.e 1 rfl) (.cons (T.e 11 rfl) .nil)) Tryz.func98 rfl rfl ?_
  refine Calls.mono (sound5_any 13 15 0 0 _) ?_
  clear T; rintro e wc ⟨rfl, hb⟩ ac T
  replace M := M.call hb; clear hb
  refine Zso hK _ _ (MA.mk (fun _ => M.mask [false, true, true] rfl) (M.mask [false, true, false] rfl)) ?_; clear hK K
  exact H3 _ _ ⟨gr2_7, T.pick [1, 0, 2, 3, 4, 5, 6, 7, 8, 9, 10, 11, 12, 13, 14, 15, 16, 17] rfl, M⟩
 intro H2
 refine g_have (fun ac wc => ∃ (gr2_7 : Nat), Tm ac 27 [(10, .slice (some ⟨gr2_7, 0, none⟩) 2 2), (13, .agg #[Zi 20, Zi 20, Zi 0, Zi 0]), (11, .agg #[Zi 20, Zi 20]), (9, .agg #[Zi 0, Zi 0, Zi 0, Zi 0]), (7, .agg #[Zi 0, Zi 0]), (6, .agg #[Zi (-1), Zi 1, Zi 0, Zi 0]), (4, .agg #[Zi (-1), Zi 1]), (3, .agg #[Zi 20, Zi (-2), Zi 4, Zi 2]), (22, .agg #[Zi 0, Zi 0]), (19, .agg #[Zi 0, Zi 0]), (15, .agg #[Zi 0, Zi 0]), (12, .agg #[Zi 0, Zi 0]), (8, .agg #[Zi 0, Zi 0]), (5, .agg #[Zi 0, Zi 0]), (1, Zj g2), (0, Zj g1)] ∧ Mem w noEx wc [(gr2_7, .cells [Zi (-1), Zi 1, Zi 0, Zi 0, Zi 0, Zi 0, Zi 0, Zi 0]), (g2, .cells [Zi 0, Zi 0]), (g1, .cells [Zi 0, Zi 0, Zi 0, Zi 0, .slice none 0 0])]) (Zpb 25 595967) 11 ?_ ?_
 ·clear T M
  rintro ac wc ⟨gr2_7, T, M⟩
  refine gw 11 598015 ?_; intro K hK
  refine Zoc (first := []) (cap := []) T rfl rfl rfl rfl evf (.cons evc (.cons evc .nil)) Tryz.func50 rfl rfl ?_
  refine Calls.mono (to5_any 13 15 _) ?_
  clear T; rintro e wc ⟨rfl, hb⟩ ac T
  replace M := M.call hb; clear hb
  refine Zso hK _ _ (MA.mk (fun _ => M.mask [false, true, true] rfl) (M.mask [false, true, false] rfl)) ?_; clear hK K
  exact H2 _ _ ⟨gr2_7, T.pick [1, 0, 2, 3, 4, 5, 6, 7, 8, 9, 10, 11, 12, 13, 14, 15, 16] rfl, M⟩
 intro H1
 refine g_have (fun ac wc => ∃ (gr2_7 : Nat), Tm ac 27 [(11, .agg #[Zi 20, Zi 20]), (10, .slice (some ⟨gr2_7, 0, none⟩) 2 2), (9, .agg #[Zi 0, Zi 0, Zi 0, Zi 0]), (7, .agg #[Zi 0, Zi 0]), (6, .agg #[Zi (-1), Zi 1, Zi 0, Zi 0]), (4, .agg #[Zi (-1), Zi 1]), (3, .agg #[Zi 20, Zi (-2), Zi 4, Zi 2]), (22, .agg #[Zi 0, Zi 0]), (19, .agg #[Zi 0, Zi 0]), (15, .agg #[Zi 0, Zi 0]), (12, .agg #[Zi 0, Zi 0]), (8, .agg #[Zi 0, Zi 0]), (5, .agg #[Zi 0, Zi 0]), (1, Zj g2), (0, Zj g1)] ∧ Mem w noEx wc [(gr2_7, .cells [Zi (-1), Zi 1, Zi 0, Zi 0, Zi 0, Zi 0, Zi 0, Zi 0]), (g2, .cells [Zi 0, Zi 0]), (g1, .cells [Zi 0, Zi 0, Zi 0, Zi 0, .slice none 0 0])]) (Zpb 25 594943) 12 ?_ ?_
 ·clear T M
  rintro ac wc ⟨gr2_7, T, M⟩
  refine gw 10 595967 ?_; intro K hK
  refine Zoc (first := []) (cap := []) T rfl rfl rfl rfl evf (.cons (T.e 0 rfl) (.cons (T.e 10 rfl) .nil)) Tryz.func98 rfl rfl ?_
  refine Calls.mono (sound5_any 20 20 0 0 _) ?_
  clear T; rintro e wc ⟨rfl, hb⟩ ac T
  replace M := M.call hb; clear hb
  refine Zso hK _ _ (MA.mk (fun _ => M.mask [false, true, true] rfl) (M.mask [false, true, false] rfl)) ?_; clear hK K
  exact H1 _ _ ⟨gr2_7, T.pick [2, 0, 1, 3, 4, 5, 6, 7, 8, 9, 10, 11, 12, 13, 14, 15] rfl, M⟩
 intro H0
 refine gq T 2 4 rfl (fun B w' hD hl hS => (Zrr (Mem.nth (show Mem w noEx w' _ from ((MA.lft hS) (hD.wait (i := 2) (m := 24) (by kernel_rfl) hl))) 0 rfl) rfl (T.e 0 rfl) rfl)) ?_; clear T ac; intro ac T
 refine gq T 5 36 rfl (fun B w' hD hl hS => (Zrr (Mem.nth (show Mem w noEx w' _ from ((MA.lft hS) (hD.wait (i := 5) (m := 24) (by kernel_rfl) hl))) 0 rfl) rfl (T.e 1 rfl) rfl)) ?_; clear T ac; intro ac T
 refine gq T 9 548 rfl (fun B w' hD hl hS => (Zrr (Mem.nth (show Mem w noEx w' _ from ((MA.lft hS) (hD.wait (i := 9) (m := 24) (by kernel_rfl) hl))) 0 rfl) rfl (T.e 2 rfl) rfl)) ?_; clear T ac; intro ac T
 refine gq T 12 4644 rfl (fun B w' hD hl hS => (Zrr (Mem.nth (show Mem w noEx w' _ from ((MA.lft hS) (hD.wait (i := 12) (m := 24) (by kernel_rfl) hl))) 0 rfl) rfl (T.e 3 rfl) rfl)) ?_; clear T ac; intro ac T
 refine gq T 16 70180 rfl (fun B w' hD hl hS => (Zrr (Mem.nth (show Mem w noEx w' _ from ((MA.lft hS) (hD.wait (i := 16) (m := 24) (by kernel_rfl) hl))) 0 rfl) rfl (T.e 4 rfl) rfl)) ?_; clear T ac; intro ac T
 refine gq T 19 594468 rfl (fun B w' hD hl hS => (Zrr (Mem.nth (show Mem w noEx w' _ from ((MA.lft hS) (hD.wait (i := 19) (m := 24) (by kernel_rfl) hl))) 0 rfl) rfl (T.e 5 rfl) rfl)) ?_; clear T ac; intro ac T
 refine gw 0 594469 ?_; intro K hK
 refine Zoc (first := []) (cap := []) T rfl rfl rfl rfl evf .nil Tryz.func101 rfl rfl ?_
 refine Calls.mono (law5_any _) ?_
 clear T; rintro e wc ⟨rfl, hb⟩ ac T
 replace M := M.call hb; clear hb
 refine Zso hK _ _ (MA.mk (fun _ => M.mask [true, true] rfl) (M.mask [true, false] rfl)) ?_; clear hK K
 refine gw 1 594471 ?_; intro K hK
 refine Zoc (first := []) (cap := []) T rfl rfl rfl rfl evf (.cons evc (.cons evc .nil)) Tryz.func50 rfl rfl ?_
 refine Calls.mono (to5_any (-1) 1 _) ?_
 clear T; rintro e wc ⟨rfl, hb⟩ ac T
 replace M := M.call hb; clear hb
 refine Zso hK _ _ (MA.mk (fun _ => M.mask [true, true] rfl) (M.mask [true, false] rfl)) ?_; clear hK K
 refine gw 3 594479 ?_; intro K hK
 refine Zoc (first := []) (cap := []) T rfl rfl rfl rfl evf (.cons (T.e 0 rfl) (.cons (T.e 7 rfl) .nil)) Tryz.func98 rfl rfl ?_
 refine Calls.mono (sound5_any (-1) 1 0 0 _) ?_
 clear T; rintro e wc ⟨rfl, hb⟩ ac T
 replace M := M.call hb; clear hb
 refine Zso hK _ _ (MA.mk (fun _ => M.mask [true, true] rfl) (M.mask [true, false] rfl)) ?_; clear hK K
 refine gw 4 594495 ?_; intro K hK
 refine Zoc (first := []) (cap := []) T rfl rfl rfl rfl evf (.cons evc (.cons evc .nil)) Tryz.func50 rfl rfl ?_
 refine Calls.mono (to5_any 0 0 _) ?_
 clear T; rintro e wc ⟨rfl, hb⟩ ac T
 replace M := M.call hb; clear hb
 refine Zso hK _ _ (MA.mk (fun _ => M.mask [true, true] rfl) (M.mask [true, false] rfl)) ?_; clear hK K
 refine gw 6 594559 ?_; intro K hK
 refine Zoc (first := []) (cap := []) T rfl rfl rfl rfl evf (.cons (T.e 0 rfl) (.cons (T.e 8 rfl) .nil)) Tryz.func98 rfl rfl ?_
 refine Calls.mono (sound5_any 0 0 0 0 _) ?_
 clear T; rintro e wc ⟨rfl, hb⟩ ac T
 replace M := M.call hb; clear hb
 refine Zso hK _ _ (MA.mk (fun _ => M.mask [true, true] rfl) (M.mask [true, false] rfl)) ?_; clear hK K
 refine g_m2 (i := 7) (j := 8) (by kernel_rfl) ?_ ?_
 ·refine gi 594687 ?_; intro K hK
  refine ow_bs (e := 32) [Zi (-1), Zi 1, Zi 0, Zi 0, Zi 0, Zi 0, Zi 0, Zi 0] M T rfl rfl rfl rfl (.cons (T.e 2 rfl) (.cons (T.e 0 rfl) .nil)) (fun _ => by kernel_rfl) ?_; clear M T; intro gr2_7 wc ac M T
  refine Zso hK _ _ (MA.mk (fun _ => M.mask [false, true, true] rfl) (M.mask [false, true, false] rfl)) ?_; clear hK K
  refine gw 8 594943 ?_; intro K hK
  refine Zoc (first := []) (cap := []) T rfl rfl rfl rfl evf (.cons evc (.cons evc .nil)) Tryz.func50 rfl rfl ?_
  refine Calls.mono (to5_any 20 20 _) ?_
  clear T; rintro e wc ⟨rfl, hb⟩ ac T
  replace M := M.call hb; clear hb
  refine Zso hK _ _ (MA.mk (fun _ => M.mask [false, true, true] rfl) (M.mask [false, true, false] rfl)) ?_; clear hK K
  exact H0 _ _ ⟨gr2_7, T, M⟩
 refine gi 594815 ?_; intro K hK
 refine Zoc (first := []) (cap := []) T rfl rfl rfl rfl evf (.cons evc (.cons evc .nil)) Tryz.func50 rfl rfl ?_
 refine Calls.mono (to5_any 20 20 _) ?_
 clear T; rintro e wc ⟨rfl, hb⟩ ac T
 replace M := M.call hb; clear hb
 refine Zso hK _ _ (MA.mk (fun _ => M.mask [true, true] rfl) (M.mask [true, false] rfl)) ?_; clear hK K
 refine g_m2 (i := 7) (j := 10) (by kernel_rfl) ?_ ?_
 ·refine gi 594943 ?_; intro K hK
  refine ow_bs (e := 32) [Zi (-1), Zi 1, Zi 0, Zi 0, Zi 0, Zi 0, Zi 0, Zi 0] M T rfl rfl rfl rfl (.cons (T.e 3 rfl) (.cons (T.e 1 rfl) .nil)) (fun _ => by kernel_rfl) ?_; clear M T; intro gr2_7 wc ac M T
  refine Zso hK _ _ (MA.mk (fun _ => M.mask [false, true, true] rfl) (M.mask [false, true, false] rfl)) ?_; clear hK K
  exact H0 _ _ ⟨gr2_7, T.pick [1, 0, 2, 3, 4, 5, 6, 7, 8, 9, 10, 11, 12, 13, 14] rfl, M⟩
 refine gi 595839 ?_; intro K hK
 refine Zoc (first := []) (cap := []) T rfl rfl rfl rfl evf (.cons (T.e 0 rfl) (.cons (T.e 9 rfl) .nil)) Tryz.func98 rfl rfl ?_
 refine Calls.mono (sound5_any 20 20 0 0 _) ?_
 clear T; rintro e wc ⟨rfl, hb⟩ ac T
 replace M := M.call hb; clear hb
 refine Zso hK _ _ (MA.mk (fun _ => M.mask [true, true] rfl) (M.mask [true, false] rfl)) ?_; clear hK K
 refine g_m2 (i := 7) (j := 11) (by kernel_rfl) ?_ ?_
 ·refine gi 595967 ?_; intro K hK
  refine ow_bs (e := 32) [Zi (-1), Zi 1, Zi 0, Zi 0, Zi 0, Zi 0, Zi 0, Zi 0] M T rfl rfl rfl rfl (.cons (T.e 4 rfl) (.cons (T.e 2 rfl) .nil)) (fun _ => by kernel_rfl) ?_; clear M T; intro gr2_7 wc ac M T
  refine Zso hK _ _ (MA.mk (fun _ => M.mask [false, true, true] rfl) (M.mask [false, true, false] rfl)) ?_; clear hK K
  exact H1 _ _ ⟨gr2_7, T, M⟩
 refine gi 597887 ?_; intro K hK
 refine Zoc (first := []) (cap := []) T rfl rfl rfl rfl evf (.cons evc (.cons evc .nil)) Tryz.func50 rfl rfl ?_
 refine Calls.mono (to5_any 13 15 _) ?_
 clear T; rintro e wc ⟨rfl, hb⟩ ac T
 replace M := M.call hb; clear hb
 refine Zso hK _ _ (MA.mk (fun _ => M.mask [true, true] rfl) (M.mask [true, false] rfl)) ?_; clear hK K
 refine g_m2 (i := 7) (j := 13) (by kernel_rfl) ?_ ?_
 ·refine gi 598015 ?_; intro K hK
  refine ow_bs (e := 32) [Zi (-1), Zi 1, Zi 0, Zi 0, Zi 0, Zi 0, Zi 0, Zi 0] M T rfl rfl rfl rfl (.cons (T.e 5 rfl) (.cons (T.e 3 rfl) .nil)) (fun _ => by kernel_rfl) ?_; clear M T; intro gr2_7 wc ac M T
  refine Zso hK _ _ (MA.mk (fun _ => M.mask [false, true, true] rfl) (M.mask [false, true, false] rfl)) ?_; clear hK K
  exact H2 _ _ ⟨gr2_7, T, M⟩
 refine gi 606079 ?_; intro K hK
 refine Zoc (first := []) (cap := []) T rfl rfl rfl rfl evf (.cons (T.e 0 rfl) (.cons (T.e 10 rfl) .nil)) Tryz.func98 rfl rfl ?_
 refine Calls.mono (sound5_any 13 15 0 0 _) ?_
 clear T; rintro e wc ⟨rfl, hb⟩ ac T
 replace M := M.call hb; clear hb
 refine Zso hK _ _ (MA.mk (fun _ => M.mask [true, true] rfl) (M.mask [true, false] rfl)) ?_; clear hK K
 refine g_m3 (i := 7) (j := 14) (k := 15) (by kernel_rfl) ?_ ?_ ?_
 ·refine gi 606207 ?_; intro K hK
  refine ow_bs (e := 32) [Zi (-1), Zi 1, Zi 0, Zi 0, Zi 0, Zi 0, Zi 0, Zi 0] M T rfl rfl rfl rfl (.cons (T.e 6 rfl) (.cons (T.e 4 rfl) .nil)) (fun _ => by kernel_rfl) ?_; clear M T; intro gr2_7 wc ac M T
  refine Zso hK _ _ (MA.mk (fun _ => M.mask [false, true, true] rfl) (M.mask [false, true, false] rfl)) ?_; clear hK K
  exact H3 _ _ ⟨gr2_7, T, M⟩
 ·refine gi 622463 ?_; intro K hK
  refine ow_bs (e := 32) [Zi 20, Zi 20, Zi 0, Zi 0, Zi 13, Zi 15, Zi 0, Zi 0] M T rfl rfl rfl rfl (.cons (T.e 2 rfl) (.cons (T.e 0 rfl) .nil)) (fun _ => by kernel_rfl) ?_; clear M T; intro gr2_14 wc ac M T
  refine Zso hK _ _ (MA.mk (fun _ => M.mask [false, true, true] rfl) (M.mask [false, true, false] rfl)) ?_; clear hK K
  refine g_m2 (i := 7) (j := 15) (by kernel_rfl) ?_ ?_
  ·refine gi 622591 ?_; intro K hK
   refine ow_bs (e := 32) [Zi (-1), Zi 1, Zi 0, Zi 0, Zi 0, Zi 0, Zi 0, Zi 0] M T rfl rfl rfl rfl (.cons (T.e 7 rfl) (.cons (T.e 5 rfl) .nil)) (fun _ => by kernel_rfl) ?_; clear M T; intro gr2_7 wc ac M T
   refine Zso hK _ _ (MA.mk (fun _ => M.mask [false, false, true, true] rfl) (M.mask [false, false, true, false] rfl)) ?_; clear hK K
   exact H6 _ _ ⟨gr2_7, gr2_14, T, M⟩
  refine gi 655231 ?_; intro K hK
  refine Zoc (first := []) (cap := []) T rfl rfl rfl rfl evf (.cons evc (.cons evc .nil)) Tryz.func50 rfl rfl ?_
  refine Calls.mono (to5_any 30 30 _) ?_
  clear T; rintro e wc ⟨rfl, hb⟩ ac T
  replace M := M.call hb; clear hb
  refine Zso hK _ _ (MA.mk (fun _ => M.mask [false, true, true] rfl) (M.mask [false, true, false] rfl)) ?_; clear hK K
  exact H5 _ _ ⟨gr2_14, T, M⟩
 refine gi 638847 ?_; intro K hK
 refine Zoc (first := []) (cap := []) T rfl rfl rfl rfl evf (.cons evc (.cons evc .nil)) Tryz.func50 rfl rfl ?_
 refine Calls.mono (to5_any 30 30 _) ?_
 clear T; rintro e wc ⟨rfl, hb⟩ ac T
 replace M := M.call hb; clear hb
 refine Zso hK _ _ (MA.mk (fun _ => M.mask [true, true] rfl) (M.mask [true, false] rfl)) ?_; clear hK K
 refine g_m3 (i := 7) (j := 14) (k := 17) (by kernel_rfl) ?_ ?_ ?_
 ·refine gi 638975 ?_; intro K hK
  refine ow_bs (e := 32) [Zi (-1), Zi 1, Zi 0, Zi 0, Zi 0, Zi 0, Zi 0, Zi 0] M T rfl rfl rfl rfl (.cons (T.e 7 rfl) (.cons (T.e 5 rfl) .nil)) (fun _ => by kernel_rfl) ?_; clear M T; intro gr2_7 wc ac M T
  refine Zso hK _ _ (MA.mk (fun _ => M.mask [false, true, true] rfl) (M.mask [false, true, false] rfl)) ?_; clear hK K
  exact H4 _ _ ⟨gr2_7, T, M⟩
 ·refine gi 655231 ?_; intro K hK
  refine ow_bs (e := 32) [Zi 20, Zi 20, Zi 0, Zi 0, Zi 13, Zi 15, Zi 0, Zi 0] M T rfl rfl rfl rfl (.cons (T.e 3 rfl) (.cons (T.e 1 rfl) .nil)) (fun _ => by kernel_rfl) ?_; clear M T; intro gr2_14 wc ac M T
  refine Zso hK _ _ (MA.mk (fun _ => M.mask [false, true, true] rfl) (M.mask [false, true, false] rfl)) ?_; clear hK K
  exact H5 _ _ ⟨gr2_14, T.pick [1, 0, 2, 3, 4, 5, 6, 7, 8, 9, 10, 11, 12, 13, 14, 15, 16, 17, 18] rfl, M⟩
 refine gi 769919 ?_; intro K hK
 refine Zoc (first := []) (cap := []) T rfl rfl rfl rfl evf (.cons (T.e 0 rfl) (.cons (T.e 11 rfl) .nil)) Tryz.func98 rfl rfl ?_
 refine Calls.mono (sound5_any 30 30 0 0 _) ?_
 clear T; rintro e wc ⟨rfl, hb⟩ ac T
 replace M := M.call hb; clear hb
 refine Zso hK _ _ (MA.mk (fun _ => M.mask [true, true] rfl) (M.mask [true, false] rfl)) ?_; clear hK K
 refine g_m3 (i := 7) (j := 14) (k := 18) (by kernel_rfl) ?_ ?_ ?_
 ·refine gi 770047 ?_; intro K hK
  refine ow_bs (e := 32) [Zi (-1), Zi 1, Zi 0, Zi 0, Zi 0, Zi 0, Zi 0, Zi 0] M T rfl rfl rfl rfl (.cons (T.e 8 rfl) (.cons (T.e 6 rfl) .nil)) (fun _ => by kernel_rfl) ?_; clear M T; intro gr2_7 wc ac M T
  refine Zso hK _ _ (MA.mk (fun _ => M.mask [false, true, true] rfl) (M.mask [false, true, false] rfl)) ?_; clear hK K
  exact H7 _ _ ⟨gr2_7, T, M⟩
 ·refine gi 786303 ?_; intro K hK
  refine ow_bs (e := 32) [Zi 20, Zi 20, Zi 0, Zi 0, Zi 13, Zi 15, Zi 0, Zi 0] M T rfl rfl rfl rfl (.cons (T.e 4 rfl) (.cons (T.e 2 rfl) .nil)) (fun _ => by kernel_rfl) ?_; clear M T; intro gr2_14 wc ac M T
  refine Zso hK _ _ (MA.mk (fun _ => M.mask [false, true, true] rfl) (M.mask [false, true, false] rfl)) ?_; clear hK K
  exact H8 _ _ ⟨gr2_14, T, M⟩
 refine gi 1032063 ?_; intro K hK
 refine Zoc (first := []) (cap := []) T rfl rfl rfl rfl evf (.cons evc (.cons evc .nil)) Tryz.func50 rfl rfl ?_
 refine Calls.mono (to5_any 30 30 _) ?_
 clear T; rintro e wc ⟨rfl, hb⟩ ac T
 replace M := M.call hb; clear hb
 refine Zso hK _ _ (MA.mk (fun _ => M.mask [true, true] rfl) (M.mask [true, false] rfl)) ?_; clear hK K
 refine g_m3 (i := 7) (j := 14) (k := 20) (by kernel_rfl) ?_ ?_ ?_
 ·refine gi 1032191 ?_; intro K hK
  refine ow_bs (e := 32) [Zi (-1), Zi 1, Zi 0, Zi 0, Zi 0, Zi 0, Zi 0, Zi 0] M T rfl rfl rfl rfl (.cons (T.e 9 rfl) (.cons (T.e 7 rfl) .nil)) (fun _ => by kernel_rfl) ?_; clear M T; intro gr2_7 wc ac M T
  refine Zso hK _ _ (MA.mk (fun _ => M.mask [false, true, true] rfl) (M.mask [false, true, false] rfl)) ?_; clear hK K
  exact H10 _ _ ⟨gr2_7, T, M⟩
 ·refine gi 1048447 ?_; intro K hK
  refine ow_bs (e := 32) [Zi 20, Zi 20, Zi 0, Zi 0, Zi 13, Zi 15, Zi 0, Zi 0] M T rfl rfl rfl rfl (.cons (T.e 5 rfl) (.cons (T.e 3 rfl) .nil)) (fun _ => by kernel_rfl) ?_; clear M T; intro gr2_14 wc ac M T
  refine Zso hK _ _ (MA.mk (fun _ => M.mask [false, true, true] rfl) (M.mask [false, true, false] rfl)) ?_; clear hK K
  exact H11 _ _ ⟨gr2_14, T, M⟩
 refine gi 2080639 ?_; intro K hK
 refine Zoc (first := []) (cap := []) T rfl rfl rfl rfl evf (.cons (T.e 0 rfl) (.cons (T.e 12 rfl) .nil)) Tryz.func98 rfl rfl ?_
 refine Calls.mono (sound5_any 30 30 0 0 _) ?_
 clear T; rintro e wc ⟨rfl, hb⟩ ac T
 replace M := M.call hb; clear hb
 refine Zso hK _ _ (MA.mk (fun _ => M.mask [true, true] rfl) (M.mask [true, false] rfl)) ?_; clear hK K
 refine g_m3 (i := 7) (j := 14) (k := 21) (by kernel_rfl) ?_ ?_ ?_
 ·refine gi 2080767 ?_; intro K hK
  refine ow_bs (e := 32) [Zi (-1), Zi 1, Zi 0, Zi 0, Zi 0, Zi 0, Zi 0, Zi 0] M T rfl rfl rfl rfl (.cons (T.e 10 rfl) (.cons (T.e 8 rfl) .nil)) (fun _ => by kernel_rfl) ?_; clear M T; intro gr2_7 wc ac M T
  refine Zso hK _ _ (MA.mk (fun _ => M.mask [false, true, true] rfl) (M.mask [false, true, false] rfl)) ?_; clear hK K
  exact H13 _ _ ⟨gr2_7, T, M⟩
 ·refine gi 2097023 ?_; intro K hK
  refine ow_bs (e := 32) [Zi 20, Zi 20, Zi 0, Zi 0, Zi 13, Zi 15, Zi 0, Zi 0] M T rfl rfl rfl rfl (.cons (T.e 6 rfl) (.cons (T.e 4 rfl) .nil)) (fun _ => by kernel_rfl) ?_; clear M T; intro gr2_14 wc ac M T
  refine Zso hK _ _ (MA.mk (fun _ => M.mask [false, true, true] rfl) (M.mask [false, true, false] rfl)) ?_; clear hK K
  exact H14 _ _ ⟨gr2_14, T, M⟩
 refine gi 4177791 ?_; intro K hK
 refine ow_bs (e := 32) [Zi 30, Zi 30, Zi 0, Zi 0, Zi 30, Zi 30, Zi 0, Zi 0] M T rfl rfl rfl rfl (.cons (T.e 2 rfl) (.cons (T.e 0 rfl) .nil)) (fun _ => by kernel_rfl) ?_; clear M T; intro gr2_21 wc ac M T
 refine Zso hK _ _ (MA.mk (fun _ => M.mask [false, true, true] rfl) (M.mask [false, true, false] rfl)) ?_; clear hK K
 refine g_m2 (i := 7) (j := 14) (by kernel_rfl) ?_ ?_
 ·refine gi 4177919 ?_; intro K hK
  refine ow_bs (e := 32) [Zi (-1), Zi 1, Zi 0, Zi 0, Zi 0, Zi 0, Zi 0, Zi 0] M T rfl rfl rfl rfl (.cons (T.e 11 rfl) (.cons (T.e 9 rfl) .nil)) (fun _ => by kernel_rfl) ?_; clear M T; intro gr2_7 wc ac M T
  refine Zso hK _ _ (MA.mk (fun _ => M.mask [false, false, true, true] rfl) (M.mask [false, false, true, false] rfl)) ?_; clear hK K
  exact H16 _ _ ⟨gr2_7, gr2_21, T, M⟩
 refine gi 4194175 ?_; intro K hK
 refine ow_bs (e := 32) [Zi 20, Zi 20, Zi 0, Zi 0, Zi 13, Zi 15, Zi 0, Zi 0] M T rfl rfl rfl rfl (.cons (T.e 7 rfl) (.cons (T.e 5 rfl) .nil)) (fun _ => by kernel_rfl) ?_; clear M T; intro gr2_14 wc ac M T
 refine Zso hK _ _ (MA.mk (fun _ => M.mask [false, false, true, true] rfl) (M.mask [false, false, true, false] rfl)) ?_; clear hK K
 exact H17 _ _ ⟨gr2_14, gr2_21, T, M⟩
theorem trembling_any  (w : World)  :
  Calls Tryz.prog 6 #[] w fun e w' => e = .returned (.bool true) ∧ Below w.heap.size w w' := by
 refine Zpx noEx Tryz.func6 rfl 82 rfl [] rfl rfl (Mem.init w _) ?_
 intro ac wc T M
 refine Zsr ?_
 refine lq T (Zra rfl evc) ?_; clear T ac; intro ac T
 replace T := T.pick [] rfl
 refine Zln ?_
 refine Zsr ?_
 refine Zl2 ?_
 refine Zoc (first := []) (cap := []) T rfl rfl rfl rfl evf .nil Tryz.func46 rfl rfl ?_
 refine Calls.mono (full5_any _) ?_
 clear T; rintro e wc ⟨Au1, cu1, Bu1, du1, Iu1, rfl, SAu1, SBu1, N⟩ ac T
 obtain ⟨b1u1, o1u1, SAu1⟩ := SAu1
 replace SAu1 := SAu1 w noEx
 obtain ⟨b2u1, o2u1, SBu1⟩ := SBu1
 replace SBu1 := SBu1 w noEx
 replace M := (M.join N).swapI
 clear N
 replace M : Mem w noEx wc (Iu1) := M
 refine Zl2 ?_
 refine Zoc (first := []) (cap := []) T rfl rfl rfl rfl evf (.cons (T.e 0 rfl) (.cons evc (.cons evc .nil))) Tryz.func21 rfl rfl ?_
 refine Calls.mono (Beat_x _ _ _ _ _ (SAu1.rd M (List.Sublist.refl _)) (SBu1.rd M (List.Sublist.refl _))) ?_
 clear T; rintro e wc ⟨Au2, cu2, Iu2, rfl, Su2, N⟩ ac T
 obtain ⟨bu2, ou2, Su2⟩ := Su2
 replace Su2 := Su2 w noEx
 replace M := (M.join N).swapI
 clear N
 replace M : Mem w noEx wc ((Iu1 ++ Iu2)) := M
 refine Zg5 T (Zq (Zrm rfl (T.e 0 rfl))) rfl (Ze 0 rfl rfl rfl) rfl (Ze 1 rfl rfl rfl) rfl (Za 1 rfl rfl) rfl (Za 1 rfl rfl) rfl ?_; clear T ac; intro ac T
 replace T := T.pick [0, 1] rfl
 refine Zln ?_
 refine Zsr ?_
 refine Zl2 ?_
 refine Zoc (first := []) (cap := []) T rfl rfl rfl rfl evf .nil Tryz.func47 rfl rfl ?_
 refine Calls.mono (less5_any _) ?_
 clear T; rintro e wc ⟨Au3, cu3, Bu3, du3, Iu3, rfl, SAu3, SBu3, N⟩ ac T
 obtain ⟨b1u3, o1u3, SAu3⟩ := SAu3
 replace SAu3 := SAu3 w noEx
 obtain ⟨b2u3, o2u3, SBu3⟩ := SBu3
 replace SBu3 := SBu3 w noEx
 replace M := (M.join N).swapI
 clear N
 replace M : Mem w noEx wc ((Iu1 ++ Iu2 ++ Iu3)) := M
 refine Zl2 ?_
 refine Zoc (first := []) (cap := []) T rfl rfl rfl rfl evf (.cons (T.e 0 rfl) .nil) Tryz.func10 rfl rfl ?_
 refine Calls.mono (Match_x _ _ _ _ _ (SAu3.rd M (Zsq _ _)) (SBu3.rd M (Zsq _ _))) ?_
 clear T; rintro e wc ⟨Au4, cu4, Iu4, rfl, Su4, N⟩ ac T
 obtain ⟨bu4, ou4, Su4⟩ := Su4
 replace Su4 := Su4 w noEx
 replace M := (M.join N).swapI
 clear N
 replace M : Mem w noEx wc ((Iu1 ++ Iu2 ++ Iu3 ++ Iu4)) := M
 refine Zg5 T (Zq (Zrm rfl (T.e 0 rfl))) rfl (Ze 0 rfl rfl rfl) rfl (Ze 1 rfl rfl rfl) rfl (Za 1 rfl rfl) rfl (Za 1 rfl rfl) rfl ?_; clear T ac; intro ac T
 replace T := T.pick [0, 1, 7, 8] rfl
 refine Zln ?_
 refine Zsr ?_
 refine Zl2 ?_
 refine Zoc (first := []) (cap := []) T rfl rfl rfl rfl evf .nil Tryz.func46 rfl rfl ?_
 refine Calls.mono (full5_any _) ?_
 clear T; rintro e wc ⟨Au5, cu5, Bu5, du5, Iu5, rfl, SAu5, SBu5, N⟩ ac T
 obtain ⟨b1u5, o1u5, SAu5⟩ := SAu5
 replace SAu5 := SAu5 w noEx
 obtain ⟨b2u5, o2u5, SBu5⟩ := SBu5
 replace SBu5 := SBu5 w noEx
 replace M := (M.join N).swapI
 clear N
 replace M : Mem w noEx wc ((Iu1 ++ Iu2 ++ Iu3 ++ Iu4 ++ Iu5)) := M
 refine Zl2 ?_
 refine Zoc (first := []) (cap := []) T rfl rfl rfl rfl evf (.cons (T.e 0 rfl) (.cons evc (.cons evc .nil))) Tryz.func48 rfl rfl ?_
 refine Calls.mono (Strokes_x _ _ _ _ _ (SAu5.rd M (Zsq _ _)) (SBu5.rd M (Zsq _ _))) ?_
 clear T; rintro e wc ⟨rfl, hb⟩ ac T
 replace M := M.call hb; clear hb
 refine Zg5 T (Zq (Zrm rfl (T.e 0 rfl))) rfl (Ze 0 rfl rfl rfl) rfl (Ze 1 rfl rfl rfl) rfl (Za 1 rfl rfl) rfl (Za 1 rfl rfl) rfl ?_; clear T ac; intro ac T
 replace T := T.pick [0, 1, 7, 8, 9, 10] rfl
 refine Zln ?_
 refine Zsr ?_
 refine Zl2 ?_
 refine Zoc (first := []) (cap := []) T rfl rfl rfl rfl evf .nil Tryz.func49 rfl rfl ?_
 refine Calls.mono (scale5_any _) ?_
 clear T; rintro e wc ⟨Au7, cu7, LLu7, Iu7, hRu7, rfl, Su7, Eu7, N⟩ ac T
 obtain ⟨bu7, ou7, Su7⟩ := Su7
 replace Su7 := Su7 w noEx
 replace M := (M.join N).swapI
 clear N
 replace M : Mem w noEx wc ((Iu1 ++ Iu2 ++ Iu3 ++ Iu4 ++ Iu5 ++ Iu7)) := M
 refine Zl2 ?_
 refine ow_bs (e := 3) [Zi 0, Zi 1] M T rfl rfl rfl rfl (.cons evc (.cons evc .nil)) (fun _ => by kernel_rfl) ?_; clear M T; intro g1 wc ac M T
 refine Zl2 ?_
 refine Zoc (first := []) (cap := []) T rfl rfl rfl rfl evf (.cons (T.e 1 rfl) (.cons (T.e 0 rfl) .nil)) Tryz.func37 rfl rfl ?_
 refine Calls.mono (Tremolo_x _ _ LLu7 _ _ _ hRu7 (Su7.rd M (.cons _ (Zsq _ _))) (fun x hx => by obtain ⟨b9, o9, h9⟩ := Eu7 x hx; exact (h9 w noEx).rd M (.cons _ (Zsq _ _))) (M.rdOwn (Zne (i := 0) rfl) rfl rfl)) ?_
 clear T; rintro e wc ⟨Au8, cu8, Iu8, rfl, Su8, N⟩ ac T
 obtain ⟨bu8, ou8, Su8⟩ := Su8
 replace Su8 := Su8 w noEx
 replace M := (M.join N).swapI
 clear N
 replace M : Mem w noEx wc ((g1, .cells [Zi 0, Zi 1]) :: (Iu1 ++ Iu2 ++ Iu3 ++ Iu4 ++ Iu5 ++ Iu7 ++ Iu8)) := M
 refine Zg5 T (Zq (Zrm rfl (T.e 0 rfl))) rfl (Ze 0 rfl rfl rfl) rfl (Ze 1 rfl rfl rfl) rfl (Za 1 rfl rfl) rfl (Za 1 rfl rfl) rfl ?_; clear T ac; intro ac T
 refine wpList_nil ?_
 replace T := T.pick [0, 1, 8, 9, 10, 11, 12, 13] rfl
 replace M := M.mask [false] rfl
 replace M : Mem w noEx wc ((Iu1 ++ Iu2 ++ Iu3 ++ Iu4 ++ Iu5 ++ Iu7 ++ Iu8)) := M
 refine nm_then ?_
 refine Zsr ?_
 refine Zl2 ?_
 refine Zoc (first := []) (cap := []) T rfl rfl rfl rfl evf .nil Tryz.func47 rfl rfl ?_
 refine Calls.mono (less5_any _) ?_
 clear T; rintro e wc ⟨Au9, cu9, Bu9, du9, Iu9, rfl, SAu9, SBu9, N⟩ ac T
 obtain ⟨b1u9, o1u9, SAu9⟩ := SAu9
 replace SAu9 := SAu9 w noEx
 obtain ⟨b2u9, o2u9, SBu9⟩ := SBu9
 replace SBu9 := SBu9 w noEx
 replace M := (M.join N).swapI
 clear N
 replace M : Mem w noEx wc ((Iu1 ++ Iu2 ++ Iu3 ++ Iu4 ++ Iu5 ++ Iu7 ++ Iu8 ++ Iu9)) := M
 refine Zl2 ?_
 refine Zoc (first := []) (cap := []) T rfl rfl rfl rfl evf (.cons (T.e 0 rfl) .nil) Tryz.func12 rfl rfl ?_
 refine Calls.mono (Short_x _ _ _ _ _ (SAu9.rd M (Zsq _ _)) (SBu9.rd M (Zsq _ _))) ?_
 clear T; rintro e wc ⟨Au10, cu10, Iu10, rfl, Su10, N⟩ ac T
 obtain ⟨bu10, ou10, Su10⟩ := Su10
 replace Su10 := Su10 w noEx
 replace M := (M.join N).swapI
 clear N
 replace M : Mem w noEx wc ((Iu1 ++ Iu2 ++ Iu3 ++ Iu4 ++ Iu5 ++ Iu7 ++ Iu8 ++ Iu9 ++ Iu10)) := M
 refine Zg5 T (Zq (Zrm rfl (T.e 0 rfl))) rfl (Ze 0 rfl rfl rfl) rfl (Ze 1 rfl rfl rfl) rfl (Za 1 rfl rfl) rfl (Za 1 rfl rfl) rfl ?_; clear T ac; intro ac T
 replace T := T.pick [0, 1, 7, 8, 9, 10, 11, 12, 13, 14] rfl
 refine Zln ?_
 refine Zsr ?_
 refine Zg8 (v2 := (.bool true)) (v5 := (.bool true)) T (Zq (Zrm rfl (T.e 8 rfl))) rfl (fun _ T => Zq (Zrq (rn_eql rfl (T.e 0 rfl) evc) (by simp))) rfl (Zm 0 rfl rfl) rfl (fun _ T => Zw (Zwy rfl rfl (T.e 0 rfl) rfl) (Zrm rfl (T.e 9 rfl))) rfl (fun _ T => Zw (Zwy rfl rfl (T.e 1 rfl) rfl) (Zrq (rn_eql rfl (T.e 0 rfl) evc) (by simp))) rfl (fun _ T => Zq (Zr1 rfl (T.e 2 rfl) rfl (T.e 0 rfl))) rfl (Zm 0 rfl rfl) rfl (fun _ T => Zw (Zwy rfl rfl (T.e 0 rfl) rfl) (Zrm rfl (T.e 11 rfl))) rfl ?_; clear T ac; intro ac T
 refine Zg8 (v1 := (.bool true)) (v5 := (.bool true)) T (Zw (Zwy rfl rfl (T.e 1 rfl) rfl) (Zrq (rn_eql rfl (T.e 0 rfl) evc) (by simp))) rfl (fun _ T => Zq (Zr1 rfl (T.e 2 rfl) rfl (T.e 0 rfl))) rfl (Zm 0 rfl rfl) rfl (fun _ T => Zw (Zwy rfl rfl (T.e 0 rfl) rfl) (Zrm rfl (T.e 13 rfl))) rfl (fun _ T => Zw (Zwy rfl rfl (T.e 1 rfl) rfl) (Zrq (rn_eql rfl (T.e 0 rfl) evc) (by simp))) rfl (fun _ T => Zq (Zr1 rfl (T.e 2 rfl) rfl (T.e 0 rfl))) rfl (Zm 0 rfl rfl) rfl (fun _ T => Zw (Zwy rfl rfl (T.e 0 rfl) rfl) (Zrm rfl (T.e 15 rfl))) rfl ?_; clear T ac; intro ac T
 refine Zg8 (v1 := (.bool true)) (v5 := (.bool true)) T (Zw (Zwy rfl rfl (T.e 1 rfl) rfl) (Zrq (rn_eql rfl (T.e 0 rfl) evc) (by simp))) rfl (fun _ T => Zq (Zr1 rfl (T.e 2 rfl) rfl (T.e 0 rfl))) rfl (Zm 0 rfl rfl) rfl (fun _ T => Zw (Zwy rfl rfl (T.e 0 rfl) rfl) (Zrm rfl (T.e 24 rfl))) rfl (fun _ T => Zw (Zwy rfl rfl (T.e 1 rfl) rfl) (Zrq (rn_eql rfl (T.e 0 rfl) evc) (by simp))) rfl (fun _ T => Zq (Zr1 rfl (T.e 2 rfl) rfl (T.e 0 rfl))) rfl (Zm 0 rfl rfl) rfl (fun _ T => Zw (Zwy rfl rfl (T.e 0 rfl) rfl) (Zrm rfl (T.e 32 rfl))) rfl ?_; clear T ac; intro ac T
 refine l_w (Zwy rfl rfl (T.e 1 rfl) rfl) ?_; intro K hK
 refine Zoc (first := []) (cap := []) T rfl rfl rfl rfl evf (.cons evc (.cons evc .nil)) Tryz.func50 rfl rfl ?_
 refine Calls.mono (to5_any 9 10 _) ?_
 clear T; rintro e wc ⟨rfl, hb⟩ ac T
 replace M := M.call hb; clear hb
 refine Zso hK _ _ ?_; clear hK K
 refine l_w (Zwy rfl rfl (T.e 2 rfl) rfl) ?_; intro K hK
 refine Zoc (first := []) (cap := []) T rfl rfl rfl rfl evf (.cons evc (.cons evc .nil)) Tryz.func50 rfl rfl ?_
 refine Calls.mono (to5_any 8 10 _) ?_
 clear T; rintro e wc ⟨rfl, hb⟩ ac T
 replace M := M.call hb; clear hb
 refine Zso hK _ _ ?_; clear hK K
 refine l_w (Zwy rfl rfl (T.e 3 rfl) rfl) ?_; intro K hK
 refine Zoc (first := []) (cap := []) T rfl rfl rfl rfl evf (.cons evc (.cons evc .nil)) Tryz.func50 rfl rfl ?_
 refine Calls.mono (to5_any 7 10 _) ?_
 clear T; rintro e wc ⟨rfl, hb⟩ ac T
 replace M := M.call hb; clear hb
 refine Zso hK _ _ ?_; clear hK K
 refine l_w (Zwy rfl rfl (T.e 4 rfl) rfl) ?_; intro K hK
 refine ow_bs (e := 26) [Zi 9, Zi 10, Zi 8, Zi 10, Zi 7, Zi 10] M T rfl rfl rfl rfl (.cons (T.e 2 rfl) (.cons (T.e 1 rfl) (.cons (T.e 0 rfl) .nil))) (fun _ => by kernel_rfl) ?_; clear M T; intro g2 wc ac M T
 refine Zso hK _ _ ?_; clear hK K
 refine l_w (Zwy rfl rfl (T.e 5 rfl) rfl) ?_; intro K hK
 refine Zoc (first := []) (cap := []) T rfl rfl rfl rfl evf (.cons (T.e 4 rfl) (.cons (T.e 0 rfl) .nil)) Tryz.func29 rfl rfl ?_
 refine Calls.mono (sameRanges_same _ _ _ _ _ _ [(9, 10), (8, 10), (7, 10)] _ (Su2.rd M (.cons _ (subL (subL (subL (subL (subL (subL (subL (Zsq _ _)))))))))) (M.rdOwn (Zne (i := 0) rfl) rfl rfl) (by omega) (by omega)) ?_
 clear T; rintro e wc ⟨rfl, hb⟩ ac T
 replace M := M.call hb; clear hb
 refine Zso hK _ _ ?_; clear hK K
 refine Zg3 T (Zq (Zr1 rfl (T.e 6 rfl) rfl (T.e 0 rfl))) rfl (Zm 0 rfl rfl) rfl (fun _ T => Zw (Zwy rfl rfl (T.e 0 rfl) rfl) (Zrm rfl (T.e 38 rfl))) rfl ?_; clear T ac; intro ac T
 refine l_w (Zwy rfl rfl (T.e 1 rfl) rfl) ?_; intro K hK
 refine ow_bs (e := 3) [Zi 0, Zi (-1)] M T rfl rfl rfl rfl (.cons evc (.cons evc .nil)) (fun _ => by kernel_rfl) ?_; clear M T; intro g3 wc ac M T
 refine Zso hK _ _ ?_; clear hK K
 refine l_w (Zwy rfl rfl (T.e 2 rfl) rfl) ?_; intro K hK
 refine Zoc (first := []) (cap := []) T rfl rfl rfl rfl evf (.cons (T.e 1 rfl) (.cons (T.e 0 rfl) .nil)) Tryz.func16 rfl rfl ?_
 refine Calls.mono (sameInts_eq _ _ _ _ _ _ [0, -1] _ (Su4.rd M (.cons _ (.cons _ (subL (subL (subL (subL (subL (Zsq _ _))))))))) (M.rdOwn (Zne (i := 0) rfl) rfl rfl) (by omega) (by omega)) ?_
 clear T; rintro e wc ⟨rfl, hb⟩ ac T
 replace M := M.call hb; clear hb
 refine Zso hK _ _ ?_; clear hK K
 refine Zg3 T (Zq (Zr1 rfl (T.e 3 rfl) rfl (T.e 0 rfl))) rfl (Zm 0 rfl rfl) rfl (fun _ T => Zw (Zwy rfl rfl (T.e 0 rfl) rfl) (Zrm rfl (T.e 39 rfl))) rfl ?_; clear T ac; intro ac T
 refine l_w (Zwy rfl rfl (T.e 1 rfl) rfl) ?_; intro K hK
 refine ow_bs (e := 3) [Zi 1, Zi 3] M T rfl rfl rfl rfl (.cons evc (.cons evc .nil)) (fun _ => by kernel_rfl) ?_; clear M T; intro g4 wc ac M T
 refine Zso hK _ _ ?_; clear hK K
 refine l_w (Zwy rfl rfl (T.e 2 rfl) rfl) ?_; intro K hK
 refine Zoc (first := []) (cap := []) T rfl rfl rfl rfl evf (.cons (T.e 1 rfl) (.cons (T.e 0 rfl) .nil)) Tryz.func16 rfl rfl ?_
 refine Calls.mono (sameInts_eq _ _ _ _ _ _ [1, 3] _ (Su8.rd M (.cons _ (.cons _ (.cons _ (subL (subL (Zsq _ _))))))) (M.rdOwn (Zne (i := 0) rfl) rfl rfl) (by omega) (by omega)) ?_
 clear T; rintro e wc ⟨rfl, hb⟩ ac T
 replace M := M.call hb; clear hb
 refine Zso hK _ _ ?_; clear hK K
 refine Zg3 T (Zq (Zr1 rfl (T.e 3 rfl) rfl (T.e 0 rfl))) rfl (Zm 0 rfl rfl) rfl (fun _ T => Zw (Zwy rfl rfl (T.e 0 rfl) rfl) (Zrm rfl (T.e 42 rfl))) rfl ?_; clear T ac; intro ac T
 refine l_w (Zwy rfl rfl (T.e 1 rfl) rfl) ?_; intro K hK
 refine ow_bs (e := 3) [Zi 1] M T rfl rfl rfl rfl (.cons evc .nil) (fun _ => by kernel_rfl) ?_; clear M T; intro g5 wc ac M T
 refine Zso hK _ _ ?_; clear hK K
 refine l_w (Zwy rfl rfl (T.e 2 rfl) rfl) ?_; intro K hK
 refine Zoc (first := []) (cap := []) T rfl rfl rfl rfl evf (.cons (T.e 1 rfl) (.cons (T.e 0 rfl) .nil)) Tryz.func16 rfl rfl ?_
 refine Calls.mono (sameInts_eq _ _ _ _ _ _ [1] _ (Su10.rd M (.cons _ (.cons _ (.cons _ (.cons _ (Zsq _ _)))))) (M.rdOwn (Zne (i := 0) rfl) rfl rfl) (by omega) (by omega)) ?_
 clear T; rintro e wc ⟨rfl, hb⟩ ac T
 replace M := M.call hb; clear hb
 refine Zso hK _ _ ?_; clear hK K
 refine Zg2 T (Zq (Zr1 rfl (T.e 3 rfl) rfl (T.e 0 rfl))) rfl (Za 0 rfl rfl) rfl ?_; clear T ac; intro ac T
 refine wpList_nil ?_
 replace T := T.pick [0] rfl
 replace M := M.mask [false, false, false, false] rfl
 replace M : Mem w noEx wc ((Iu1 ++ Iu2 ++ Iu3 ++ Iu4 ++ Iu5 ++ Iu7 ++ Iu8 ++ Iu9 ++ Iu10)) := M
 refine Znr ?_
 refine rt_1 T rfl (T.e 0 rfl) ?_
 exact ⟨rfl, M.below⟩
theorem rn_quo {P : Program} {op : Oper} {a : Act} {w : World} {ty ty' : TypeId} {x y : Operand} {p q : Int} (ho : op.op = .binOp .quo ty x y ty') (hx : a.eval x = Zi p) (hy : a.eval y = Zi q) (hq : q ≠ 0) (hb : -9223372036854775808 ≤ p.tdiv q ∧ p.tdiv q ≤ 9223372036854775807) : Runs P op a (Zi (p.tdiv q)) w := by
 refine rn_bin ho hx hy ?_
 rw [eqGuard_quo, binOp_quo]
 unfold Op.intDiv
 rw [if_neg (by simpa using hq)]
 show Result.ok (Value.int .i64 (IntKind.i64.wrap (p.tdiv q))) w = _
 rw [IntWalk.i64_in _ hb]
def mostD (notes : Int) : Int := min 5 ((5 : Int).tdiv (max 1 notes))
theorem tdiv_bd {q : Int} (h : 1 ≤ q) : 0 ≤ (5 : Int).tdiv q ∧ (5 : Int).tdiv q ≤ 5 ∧ (5 : Int).tdiv q * q ≤ 5 := by
 rw [Int.tdiv_eq_ediv_of_nonneg (by omega)]
 refine ⟨Int.ediv_nonneg (by omega) (by omega), ?_, Int.ediv_mul_le 5 (by omega)⟩
 have h1 := Int.ediv_mul_le 5 (show q ≠ 0 by omega)
 have h2 : 0 ≤ 5 / q := Int.ediv_nonneg (by omega) (by omega)
 have h3 : 5 / q * 1 ≤ 5 / q * q := Int.mul_le_mul_of_nonneg_left h h2
 omega
theorem mostD_bd (notes : Int) : 0 ≤ mostD notes ∧ mostD notes ≤ 5 ∧ ∀ k : Int, 0 ≤ k ∧ k ≤ notes → mostD notes * k ≤ 5 := by
 have h := tdiv_bd (q := max 1 notes) (by omega)
 unfold mostD
 refine ⟨by omega, by omega, fun k hk => ?_⟩
 have e : min 5 ((5 : Int).tdiv (max 1 notes)) = (5 : Int).tdiv (max 1 notes) := by omega
 rw [e]
 exact Int.le_trans (Int.mul_le_mul_of_nonneg_left (by omega) h.1) h.2.2
theorem step_bd {notes st k : Int} (hs : -mostD notes ≤ st ∧ st ≤ mostD notes) (hk : 0 ≤ k ∧ k ≤ notes) : -5 ≤ st * k ∧ st * k ≤ 5 := by
 have h := (mostD_bd notes).2.2 k hk
 have h1 : st * k ≤ mostD notes * k := Int.mul_le_mul_of_nonneg_right hs.2 hk.1
 have h2 : -mostD notes * k ≤ st * k := Int.mul_le_mul_of_nonneg_right hs.1 hk.1
 rw [Int.neg_mul] at h2
 omega
structure Lw.made (l : Lw) (notes : Int) : Prop where
 first : 5 ≤ l.first ∧ l.first ≤ 25
 step : -mostD notes ≤ l.step ∧ l.step ≤ mostD notes
 span : 1 ≤ l.span ∧ l.span ≤ 8
 press : 0 ≤ l.press ∧ l.press ≤ 3
def LawPost (bp : Nat) (notes : Int) (w : World) (e : Ending) (w' : World) : Prop := ∃ (l : Lw) (s' : Int), l.made notes ∧ u64ok s' ∧ e = .returned (.agg #[Zi l.first, Zi l.step, Zi l.span, Zi l.press]) ∧ w.grownBy w' (some bp) ∧ Bk w' bp #[.int .u64 s']
def SoundPost (bp : Nat) (w : World) (e : Ending) (w' : World) : Prop := ∃ (x : Snd) (s' : Int), x.good ∧ u64ok s' ∧ e = .returned (.agg #[Zi x.t0, Zi x.t1, Zi x.s0, Zi x.s1]) ∧ w.grownBy w' (some bp) ∧ Bk w' bp #[.int .u64 s']
theorem lawOf_any (s : Int) (bp : Nat) (notes : Int) (w : World) (hn : 0 ≤ notes ∧ notes ≤ 1000) (hp : Bk w bp #[.int .u64 s]) (hs : u64ok s) :
   Calls Tryz.prog 51 #[Zj bp, Zi notes] w (LawPost bp notes w) := by
 have hq := tdiv_bd (q := max 1 notes) (by omega)
 refine Zpx (fun b => b = bp) Tryz.func51 rfl 27 rfl [Zj bp, Zi notes] rfl rfl (Mem.initEx (p := .cells [.int .u64 s]) hp) ?_
 intro ac wc T M
 refine Zsr ?_
 refine Zl2 ?_
 refine Zoa M T rfl rfl rfl rfl ?_; clear M T; intro g1 wc ac M T
 refine Zln ?_
 refine Zsr ?_
 refine lq T (Zrm rfl (T.e 1 rfl)) ?_; clear T ac; intro ac T
 refine Zl2 ?_
 refine Zoc (first := []) (cap := []) T rfl rfl rfl rfl evf (.cons (T.e 0 rfl) (.cons evc (.cons evc .nil))) Tryz.func52 rfl rfl ?_
 refine Calls.mono (within_pot _ bp 5 25 _ (by omega) (by omega) (by omega) (M.nth 1 rfl) hs) ?_
 clear T; rintro e wc ⟨xu1, su1, hxu1, hsu1, rfl, hgr, hbk⟩ ac T
 replace M := M.callC (cs' := [.int .u64 su1]) (.tail .head) hgr hbk
 clear hgr hbk
 refine lq T (Zrm rfl (T.e 3 rfl)) ?_; clear T ac; intro ac T
 refine Zl2 ?_
 refine Zoc (first := []) (cap := []) T rfl rfl rfl rfl evf (.cons (T.e 0 rfl) (.cons evc (.cons evc .nil))) Tryz.func52 rfl rfl ?_
 refine Calls.mono (within_pot _ bp 1 8 _ (by omega) (by omega) (by omega) (M.nth 1 rfl) hsu1) ?_
 clear T; rintro e wc ⟨xu2, su2, hxu2, hsu2, rfl, hgr, hbk⟩ ac T
 replace M := M.callC (cs' := [.int .u64 su2]) (.tail .head) hgr hbk
 clear hgr hbk
 refine lq T (Zrm rfl (T.e 5 rfl)) ?_; clear T ac; intro ac T
 refine Zl2 ?_
 refine Zoc (first := []) (cap := []) T rfl rfl rfl rfl evf (.cons (T.e 0 rfl) (.cons evc .nil)) Tryz.func20 rfl rfl ?_
 refine Calls.mono (upto_any _ bp 3 _ (by omega) (by omega) (M.nth 1 rfl) hsu2) ?_
 clear T; rintro e wc ⟨xu3, su3, hxu3, hsu3, rfl, hgr, hbk⟩ ac T
 replace M := M.callC (cs' := [.int .u64 su3]) (.tail .head) hgr hbk
 clear hgr hbk
 refine lq (v := (.agg #[Zi xu1, Zi 0, Zi xu2, Zi xu3])) T (rn_build rfl (.cons (T.e 4 rfl) (.cons (T.e 2 rfl) (.cons (T.e 0 rfl) .nil))) (fun _ => by kernel_rfl)) ?_; clear T ac; intro ac T
 refine Zl2 ?_
 refine Zoa M T rfl rfl rfl rfl ?_; clear M T; intro g2 wc ac M T
 refine Zl2 ?_
 refine Zos M T rfl rfl (T.e 0 rfl) (T.e 1 rfl) rfl .head rfl (by simp) rfl (by kernel_rfl) ?_; clear M T; intro wc ac M T
 replace T := T.pick [0, 8, 9, 10] rfl
 refine Zln ?_
 refine wp_seq ?_
 refine Zsr ?_
 refine Zg5 T (Zq (Zrm rfl (T.e 3 rfl))) rfl (fun _ T => Zq (rn_max2 rfl evc (T.e 0 rfl))) rfl (fun _ T => Zq (rn_quo rfl evc (T.e 0 rfl) (by omega) (by omega))) rfl (fun _ T => Zq (rn_min2 rfl evc (T.e 0 rfl))) rfl (Za 0 rfl rfl) rfl ?_; clear T ac; intro ac T
 replace T := T.pick [0, 5, 6, 7] rfl
 refine Zln ?_
 refine Zsr ?_
 refine Zg2 T (Zq (Zrm rfl (T.e 0 rfl))) rfl (fun _ T => Zq (rn_gtr rfl (T.e 0 rfl) evc)) rfl ?_; clear T ac; intro ac T
 replace T := T.pick [0, 2, 3, 4, 5] rfl
 refine Zln ?_
 refine wp_if (T.e 0 rfl) ?_ ?_
 ·intro h1
  refine wp_region_lit ?_
  refine Zg4 T (Zq (Zrm rfl (T.e 4 rfl))) rfl (Zm 2 rfl rfl) rfl (fun _ T => Zq (rn_neg rfl (T.e 0 rfl) (by omega))) rfl (Zm 4 rfl rfl) rfl ?_; clear T ac; intro ac T
  refine Zl2 ?_
  refine Zoc (first := []) (cap := []) T rfl rfl rfl rfl evf (.cons (T.e 3 rfl) (.cons (T.e 1 rfl) (.cons (T.e 0 rfl) .nil))) Tryz.func52 rfl rfl ?_
  refine Calls.mono (within_pot _ bp (-(min 5 (Int.tdiv 5 (max 1 notes)))) (min 5 (Int.tdiv 5 (max 1 notes))) _ (by omega) (by omega) (by omega) (M.nth 2 rfl) hsu3) ?_
  clear T; rintro e wc ⟨xu4, su4, hxu4, hsu4, rfl, hgr, hbk⟩ ac T
  replace M := M.callC (cs' := [.int .u64 su4]) (.tail (.tail .head)) hgr hbk
  clear hgr hbk
  refine lq (v := (.pointer (some ⟨g2, 1, none⟩))) T (Zrf (off := 1) rfl (T.e 7 rfl) (fun _ _ _ => by kernel_rfl)) ?_; clear T ac; intro ac T
  refine Zl2 ?_
  refine Zos M T rfl rfl (T.e 0 rfl) (T.e 1 rfl) rfl .head rfl (by simp) rfl (by kernel_rfl) ?_; clear M T; intro wc ac M T
  replace T := T.pick [8, 9] rfl
  refine Zln ?_
  refine Zsr ?_
  refine lq T (Zrr (Mem.nth M 0 rfl) rfl (T.e 0 rfl) rfl) ?_; clear T ac; intro ac T
  refine Zl2 ?_
  refine Zos M T rfl rfl (T.e 2 rfl) (T.e 0 rfl) rfl (.tail .head) rfl (by simp) rfl (by kernel_rfl) ?_; clear M T; intro wc ac M T
  refine wpList_nil ?_
  replace T := T.pick [2] rfl
  replace M := M.mask [false, true, true] rfl
  refine Znr ?_
  refine rt_c M T rfl (T.e 0 rfl) (Zne (i := 0) rfl) rfl ?_
  exact ⟨⟨xu1, xu4, xu2, xu3⟩, _, ⟨by (try dsimp only); omega, by (try dsimp only); unfold mostD; omega, by (try dsimp only); omega, by (try dsimp only); omega⟩, hsu4, rfl, M.grown, M.nth 1 rfl⟩
 intro h1
 refine Zsk ?_
 refine Zsr ?_
 refine lq T (Zrr (Mem.nth M 0 rfl) rfl (T.e 2 rfl) rfl) ?_; clear T ac; intro ac T
 refine Zl2 ?_
 refine Zos M T rfl rfl (T.e 4 rfl) (T.e 0 rfl) rfl (.tail .head) rfl (by simp) rfl (by kernel_rfl) ?_; clear M T; intro wc ac M T
 refine wpList_nil ?_
 replace T := T.pick [4] rfl
 replace M := M.mask [false, true, true] rfl
 refine Znr ?_
 refine rt_c M T rfl (T.e 0 rfl) (Zne (i := 0) rfl) rfl ?_
 exact ⟨⟨xu1, 0, xu2, xu3⟩, _, ⟨by (try dsimp only); omega, by (try dsimp only); unfold mostD; omega, by (try dsimp only); omega, by (try dsimp only); omega⟩, hsu3, rfl, M.grown, M.nth 1 rfl⟩
theorem soundOf_any (s : Int) (bp : Nat) (tone wide : Int) (w : World) (ht : -1000 ≤ tone ∧ tone ≤ 1000) (hw : 0 ≤ wide ∧ wide ≤ 40) (hp : Bk w bp #[.int .u64 s]) (hs : u64ok s) :
  Calls Tryz.prog 53 #[Zj bp, Zi tone, Zi wide] w (SoundPost bp w) := by
 refine Zpx (fun b => b = bp) Tryz.func53 rfl 24 rfl [Zj bp, Zi tone, Zi wide] rfl rfl (Mem.initEx (p := .cells [.int .u64 s]) hp) ?_
 intro ac wc T M
 refine Zsr ?_
 refine Zl2 ?_
 refine Zoa M T rfl rfl rfl rfl ?_; clear M T; intro g1 wc ac M T
 refine Zln ?_
 refine Zsr ?_
 refine Zg3 T (Zq (Zrm rfl (T.e 2 rfl))) rfl (fun _ T => Zq (rn_min2 rfl evc (T.e 0 rfl))) rfl (fun _ T => Zq (rn_max2 rfl evc (T.e 0 rfl))) rfl ?_; clear T ac; intro ac T
 refine l_q (v := (Zi (max (-30) (min 30 tone)))) (T.pick [0, 1, 2, 3, 4, 6] rfl) rfl rfl rfl rfl (Zra rfl (T.e 0 rfl)) ?_; clear T ac; intro ac T
 replace T := T.pick [0, 4, 5, 6] rfl
 refine Zln ?_
 refine Zsr ?_
 refine Zg3 T (Zq (Zrm rfl (T.e 2 rfl))) rfl (Zm 1 rfl rfl) rfl (Zm 5 rfl rfl) rfl ?_; clear T ac; intro ac T
 refine Zl2 ?_
 refine Zoc (first := []) (cap := []) T rfl rfl rfl rfl evf (.cons (T.e 2 rfl) (.cons (T.e 1 rfl) (.cons evc (.cons evc (.cons (T.e 0 rfl) .nil))))) Tryz.func102 rfl rfl ?_
 refine Calls.mono (near_pot _ bp (max (-30) (min 30 tone)) (-30) 30 wide _ (by omega) (by omega) (by omega) (by omega) (by omega) (by omega) (M.nth 1 rfl) hs) ?_
 clear T; rintro e wc ⟨xu1, yu1, su1, hxu1, hsu1, rfl, hgr, hbk⟩ ac T
 replace M := M.callC (cs' := [.int .u64 su1]) (.tail .head) hgr hbk
 clear hgr hbk
 refine Zg3 T (Zq (Zrm rfl (T.e 6 rfl))) rfl (Zm 7 rfl rfl) rfl (Zm 8 rfl rfl) rfl ?_; clear T ac; intro ac T
 refine Zl2 ?_
 refine Zoc (first := []) (cap := []) T rfl rfl rfl rfl evf (.cons (T.e 0 rfl) (.cons evc (.cons evc .nil))) Tryz.func52 rfl rfl ?_
 refine Calls.mono (within_pot _ bp (-2) 2 _ (by omega) (by omega) (by omega) (M.nth 1 rfl) hsu1) ?_
 clear T; rintro e wc ⟨xu2, su2, hxu2, hsu2, rfl, hgr, hbk⟩ ac T
 replace M := M.callC (cs' := [.int .u64 su2]) (.tail .head) hgr hbk
 clear hgr hbk
 refine Zl2 ?_
 refine ow_bs (e := 3) [Zi 0, Zi 0, Zi xu2] M T rfl rfl rfl rfl (.cons evc (.cons evc (.cons (T.e 0 rfl) .nil))) (fun _ => by kernel_rfl) ?_; clear M T; intro g2 wc ac M T
 refine Zl2 ?_
 refine Zoc (first := []) (cap := []) T rfl rfl rfl rfl evf (.cons (T.e 3 rfl) (.cons (T.e 0 rfl) .nil)) Tryz.func103 rfl rfl ?_
 refine Calls.mono (of_any _ bp _ 3 3 [0, 0, xu2] _ (M.rdOwn (Zne (i := 0) rfl) rfl rfl) (M.nee 0 2 rfl rfl rfl) (by decide) (by decide) (M.nth 2 rfl) hsu2) ?_
 clear T; rintro e wc ⟨xu3, su3, hxu3, hsu3, rfl, hgr, hbk⟩ ac T
 replace M := M.callC (cs' := [.int .u64 su3]) (.tail (.tail .head)) hgr hbk
 clear hgr hbk
 simp only [List.mem_cons, List.not_mem_nil, or_false] at hxu3
 refine Zg2 T (Zq (Zrm rfl (T.e 13 rfl))) rfl (fun _ T => Zq (rn_min2 rfl (T.e 0 rfl) evc)) rfl ?_; clear T ac; intro ac T
 refine Zl2 ?_
 refine Zoc (first := []) (cap := []) T rfl rfl rfl rfl evf (.cons (T.e 7 rfl) (.cons (T.e 2 rfl) (.cons evc (.cons evc (.cons (T.e 0 rfl) .nil))))) Tryz.func102 rfl rfl ?_
 refine Calls.mono (near_pot _ bp xu3 (-3) 3 (min wide 1) _ (by omega) (by omega) (by omega) (by omega) (by omega) (by omega) (M.nth 2 rfl) hsu3) ?_
 clear T; rintro e wc ⟨xu4, yu4, su4, hxu4, hsu4, rfl, hgr, hbk⟩ ac T
 replace M := M.callC (cs' := [.int .u64 su4]) (.tail (.tail .head)) hgr hbk
 clear hgr hbk
 refine lq (v := (.agg #[Zi xu1, Zi yu1, Zi xu4, Zi yu4])) T (rn_build rfl (.cons (T.e 9 rfl) (.cons (T.e 0 rfl) .nil)) (fun _ => by kernel_rfl)) ?_; clear T ac; intro ac T
 refine Zl2 ?_
 refine Zos M T rfl rfl (T.e 15 rfl) (T.e 0 rfl) rfl (.tail .head) rfl (by simp) rfl (by kernel_rfl) ?_; clear M T; intro wc ac M T
 refine wpList_nil ?_
 replace T := T.pick [15] rfl
 replace M := M.mask [false, true, true] rfl
 refine Znr ?_
 refine rt_c M T rfl (T.e 0 rfl) (Zne (i := 0) rfl) rfl ?_
 exact ⟨⟨xu1, yu1, xu4, yu4⟩, _, ⟨by (try dsimp only); omega, by (try dsimp only); omega⟩, hsu4, rfl, M.grown, M.nth 1 rfl⟩
def outM (f : Nat → Bool) (p : Nat) : List Bool := (List.range 427).map fun i => decide (i < p) && f i
theorem outM_zero (f : Nat → Bool) : outM f 0 = List.replicate 427 false := by
 unfold outM
 refine List.eq_replicate_iff.2 ⟨by simp, fun b hb => ?_⟩
 obtain ⟨i, -, rfl⟩ := List.mem_map.1 hb
 simp
theorem outM_length (f : Nat → Bool) (p : Nat) : (outM f p).length = 427 := by simp [outM]
theorem outM_at {f : Nat → Bool} {p i : Nat} (hi : i < 427) : (outM f p)[i]? = some (decide (i < p) && f i) := by
 unfold outM
 rw [List.getElem?_map, List.getElem?_range hi]; rfl
theorem outM_set {f : Nat → Bool} {p : Nat} (hp : p < 427) : (outM f p).set p (f p) = outM f (p + 1) := by
 apply List.ext_getElem?
 intro i
 rw [List.getElem?_set]
 by_cases hi : i < 427
 ·rw [outM_at hi, outM_at hi, outM_length, if_pos hp]
  split
  ·rename_i h; subst h; rw [Zdt (Nat.lt_succ_self p), Bool.true_and]
  ·rename_i h
   by_cases h2 : i < p
   ·rw [Zdt h2, Zdt (by omega)]
   ·rw [Zdf h2, Zdf (by omega)]
 ·rw [if_neg (by omega), List.getElem?_eq_none (by rw [outM_length]; omega), List.getElem?_eq_none (by rw [outM_length]; omega)]
theorem outM_skip {f : Nat → Bool} {p q : Nat} (hpq : p ≤ q) (h : ∀ i, p ≤ i → i < q → f i = false) : outM f p = outM f q := by
 unfold outM
 refine List.map_congr_left fun i _ => ?_
 by_cases h1 : i < p
 ·rw [Zdt h1, Zdt (by omega)]
 ·by_cases h2 : i < q
  ·rw [h i (by omega) h2, Bool.and_false, Bool.and_false]
  ·rw [Zdf h1, Zdf h2]
def spotT (i : Nat) : Int := (i / 7 : Nat) - 30
def spotS (i : Nat) : Int := (i % 7 : Nat) - 3
def canF (l : Lw) (due : Int) (ts : List Snd) (i : Nat) : Bool := decide ((spotT i, spotS i) ∈ nowL l due ts)
def canB (l : Lw) (due : Int) (ts : List Snd) : List Bool := outM (canF l due ts) 427
theorem canB_at {l : Lw} {due : Int} {ts : List Snd} {i : Nat} (hi : i < 427) : (canB l due ts)[i]? = some (canF l due ts i) := by
 unfold canB
 rw [outM_at hi, Zdt hi, Bool.true_and]
theorem spot_of {t k : Int} (ht : -30 ≤ t ∧ t ≤ 30) (hk : -3 ≤ k ∧ k ≤ 3) : ∃ i : Nat, i < 427 ∧ (i : Int) = (t + 30) * 7 + (k + 3) ∧ spotT i = t ∧ spotS i = k :=
 ⟨((t + 30) * 7 + (k + 3)).toNat, by omega, by omega, by unfold spotT; omega, by unfold spotS; omega⟩
theorem nowL_snoc {l : Lw} {due : Int} {s : Snd} : ∀ {ts : List Snd}, ts ≠ [] → nowL l due (ts ++ [s]) = stepN l due (nowL l due ts) s
 | [], h => absurd rfl h
 | a :: ts, _ => by
  show (ts ++ [s]).foldl (stepN l due) (allOf a) = _
  rw [List.foldl_append]; rfl
theorem step_sub {l : Lw} {due : Int} {now : List (Int × Int)} {s : Snd} {z : Int × Int} (h : z ∈ stepN l due now s) : z ∈ allOf s := (List.mem_filter.1 h).1
theorem fold_box {l : Lw} {due : Int} : ∀ (ss : List Snd) (acc : List (Int × Int)), (∀ s ∈ ss, s.good) → (∀ z ∈ acc, (-30 ≤ z.1 ∧ z.1 ≤ 30) ∧ -3 ≤ z.2 ∧ z.2 ≤ 3) → ∀ z ∈ ss.foldl (stepN l due) acc, (-30 ≤ z.1 ∧ z.1 ≤ 30) ∧ -3 ≤ z.2 ∧ z.2 ≤ 3
 | [], acc, _, h, z, hz => h z hz
 | s :: ss, acc, hs, h, z, hz => fold_box ss _ (fun x hx => hs x (Zz1 hx)) (fun y hy => by
   have h1 := mem_allL.1 (step_sub hy)
   have g := hs s Zz2
   have g1 := g.t; have g2 := g.s
   omega) z hz
theorem nowL_box {l : Lw} {due : Int} {ts : List Snd} (hg : ∀ s ∈ ts, s.good) : ∀ z ∈ nowL l due ts, (-30 ≤ z.1 ∧ z.1 ≤ 30) ∧ -3 ≤ z.2 ∧ z.2 ≤ 3 := by
 cases ts with
 | nil => exact fun z hz => (by cases hz)
 | cons a ts =>
  refine fold_box ts _ (fun s hs => hg s (Zz1 hs)) fun z hz => ?_
  have h1 := mem_allL.1 hz
  have g := hg a Zz2
  have g1 := g.t; have g2 := g.s
  omega
theorem canF_out {l : Lw} {due : Int} {ts : List Snd} {s : Snd} {i : Nat} (h : ¬ ((s.t0 ≤ spotT i ∧ spotT i ≤ s.t1) ∧ s.s0 ≤ spotS i ∧ spotS i ≤ s.s1)) : canF l due (ts ++ [s]) i = false := by
 refine Zdf fun hm => h ?_
 cases ts with
 | nil => exact mem_allL.1 hm
 | cons a ts =>
  rw [nowL_snoc (by simp)] at hm
  exact mem_allL.1 (step_sub hm)
theorem canF_one {l : Lw} {due : Int} {s : Snd} {i : Nat} (h : (s.t0 ≤ spotT i ∧ spotT i ≤ s.t1) ∧ s.s0 ≤ spotS i ∧ spotS i ≤ s.s1) : canF l due [s] i = true := Zdt (mem_allL.2 h)
def upTo (l : Lw) (due : Int) (ts : List Snd) (t k : Int) (n : Nat) : Bool := (List.range n).any fun i => canF l due ts i && agreeP l due (t - spotT i) (k - spotS i)
theorem upTo_succ (l : Lw) (due : Int) (ts : List Snd) (t k : Int) (n : Nat) : upTo l due ts t k (n + 1) = (upTo l due ts t k n || (canF l due ts n && agreeP l due (t - spotT n) (k - spotS n))) := by
 unfold upTo
 rw [List.range_succ, List.any_append, List.any_cons, List.any_nil, Bool.or_false]
theorem upTo_mono {l : Lw} {due : Int} {ts : List Snd} {t k : Int} {m n : Nat} (hmn : m ≤ n) (h : upTo l due ts t k m = true) : upTo l due ts t k n = true := by
 unfold upTo at *
 obtain ⟨i, hi, h⟩ := List.any_eq_true.1 h
 exact List.any_eq_true.2 ⟨i, List.mem_range.2 (by have := List.mem_range.1 hi; omega), h⟩
theorem canF_step {l : Lw} {due : Int} {ts : List Snd} {s : Snd} (hne : ts ≠ []) (hg : ∀ s ∈ ts, s.good) {i : Nat} (h : (s.t0 ≤ spotT i ∧ spotT i ≤ s.t1) ∧ s.s0 ≤ spotS i ∧ spotS i ≤ s.s1) : canF l due (ts ++ [s]) i = upTo l due ts (spotT i) (spotS i) 427 := by
 apply Bool.eq_iff_iff.2
 unfold canF upTo
 rw [decide_eq_true_eq, nowL_snoc hne, List.any_eq_true]
 unfold stepN
 rw [List.mem_filter, List.any_eq_true]
 constructor
 ·rintro ⟨-, x, hx, ha⟩
  obtain ⟨b1, b2⟩ := nowL_box hg x hx
  obtain ⟨j, hj, -, e1, e2⟩ := spot_of b1 b2
  refine ⟨j, List.mem_range.2 hj, ?_⟩
  have hm : (spotT j, spotS j) ∈ nowL l due ts := by rw [e1, e2]; exact hx
  have ha2 : agreeP l due (spotT i - spotT j) (spotS i - spotS j) = true := by rw [e1, e2]; exact ha
  exact Bool.and_eq_true_iff.2 ⟨Zdt hm, ha2⟩
 ·rintro ⟨j, -, hj⟩
  rw [Bool.and_eq_true] at hj
  exact ⟨mem_allL.2 h, _, of_decide_eq_true hj.1, hj.2⟩
theorem canB_any {l : Lw} {due : Int} {ts : List Snd} (hg : ∀ s ∈ ts, s.good) : (nowL l due ts).isEmpty = !((List.range 427).any (canF l due ts)) := by
 apply Bool.eq_iff_iff.2
 rw [List.isEmpty_iff, Bool.not_eq_true', List.any_eq_false]
 constructor
 ·intro h i _
  unfold canF
  rw [h]; simp
 ·intro h
  refine List.eq_nil_iff_forall_not_mem.2 fun z hz => ?_
  obtain ⟨b1, b2⟩ := nowL_box hg z hz
  obtain ⟨j, hj, -, e1, e2⟩ := spot_of b1 b2
  refine h j (List.mem_range.2 hj) ?_
  unfold canF
  rw [e1, e2]
  exact Zdt hz
def nexts8 (l : Lw) (due : Int) : List Snd → Bool
 | a :: b :: r => decide (keeps8 l due a b = 1) && nexts8 l due (b :: r)
 | _ => true
theorem keeps8_one {l : Lw} {due : Int} {a b : Snd} (hs : 0 ≤ l.span) (ga : a.good) (gb : b.good) : decide (keeps8 l due a b = 1) = decide (offP l due a b ≤ l.span) := by
 rw [keeps8_eq hs ⟨ga.t.2.1, ga.s.2.1⟩ ⟨gb.t.2.1, gb.s.2.1⟩]
 have e : surelyL l due [a, b] = decide (offP l due a b ≤ l.span) := by show (_ && true) = _; rw [Bool.and_true]
 unfold keepsP
 rw [e]
 cases decide (offP l due a b ≤ l.span) with
 | true => rfl
 | false =>
  rw [if_neg (by simp)]
  split <;> rfl
theorem nexts8_surely {l : Lw} {due : Int} (hs : 0 ≤ l.span) : ∀ {ts : List Snd}, (∀ s ∈ ts, s.good) → nexts8 l due ts = surelyL l due ts
 | [], _ => rfl
 | [_], _ => rfl
 | a :: b :: r, hg => by
  show (_ && _) = (_ && _)
  rw [keeps8_one hs (hg a Zz2) (hg b (Zz1 Zz2)), nexts8_surely hs fun x hx => hg x (Zz1 hx)]
def holds8 (l : Lw) (due : Int) (ts : List Snd) : Int := if nexts8 l due ts = true then 1 else if (List.range 427).any (canF l due ts) = true then 3 else 2
theorem holds8_eq {l : Lw} {due : Int} {ts : List Snd} (hs : 0 ≤ l.span) (hg : ∀ s ∈ ts, s.good) : holds8 l due ts = keepsP l due ts := by
 unfold holds8 keepsP
 rw [nexts8_surely hs hg, canB_any hg]
 split
 · rfl
 · cases (List.range 427).any (canF l due ts) <;> rfl
section
open Go.RowKit Go.Shelf
section
variable {P : Program} {ops : Array Oper} {Q : Exit → Act → World → Prop} {S : Array Bool → World → Prop} {nn : Nat}
theorem yieldsIf_in {S : World → Prop} {i : Nat} {o : Oper} {v : Value} {a : Act} (hi : ops[i]? = some o) (hy : YieldsIf P ops S o v a) {K : Act → World → Prop} {w : World} (hS : S w) (h : K (a.put o.dst v) w) : wpOpIn Fence.wide nn P ops Q i K a w := by
 unfold wpOpIn
 simp only [hi]
 rcases hy with ⟨hw, hv⟩ | ⟨hw, rfl⟩
 ·simp only [hw, if_true]
  refine ⟨fun _ _ => trivial, ?_⟩
  rw [show Fence.wide.round = none from rfl, Oper.semAt_none, hv w hS]
  exact h
 ·simp only [hw, Bool.false_eq_true, if_false]
  exact ⟨fun _ _ => trivial, h⟩
theorem wpOpIn_putIf {S : World → Prop} {j : Nat} {oi oj : Oper} {v : Value} (hj : ops[j]? = some oj) (hap : oi.apart ops oj = true)
  (hsi : ∀ cs b, oi.op ≠ .select cs b) (hsj : ∀ cs b, oj.op ≠ .select cs b)
  (hQ : ∀ c a w, Q (.panic c) (a.put oi.dst v) w → Q (.panic c) a w) {K : Act → World → Prop} {a : Act} {w : World}
  (hy : YieldsIf P ops S oi v a) (h : wpOpIn Fence.wide nn P ops Q j K (a.put oi.dst v) w) :
  wpOpIn Fence.wide nn P ops Q j (fun a' w' => YieldsIf P ops S oi v a' ∧ K (a'.put oi.dst v) w') a w := by
 obtain ⟨h1, h2, h3⟩ := Oper.apart_spec hap
 have keep : ∀ (a : Act), YieldsIf P ops S oi v a → ∀ u, YieldsIf P ops S oi v (a.put oj.dst u) := fun a hy u =>
  hy.of_same (execOp_put oi hsi a oj.dst u h3) (wanted_put oi a oj.dst u h3)
 have keepD : ∀ d, YieldsIf P ops S oi v { a with defers := d :: a.defers } := fun d => hy.of_same rfl rfl
 unfold wpOpIn at *
 simp only [hj] at *
 rw [wanted_put oj a oi.dst v h1] at h
 split
 ·rename_i hw
  simp only [hw, if_true] at h
  unfold Oper.wpIn at *
  refine ⟨fun _ _ => trivial, ?_⟩
  have h := h.2
  rw [show Fence.wide.round = none from rfl, Oper.semAt_none, execOp_put oj hsj a oi.dst v h1] at h
  rw [show Fence.wide.round = none from rfl, Oper.semAt_none]
  generalize (execOp a.eval oj).run P w = r at *
  cases r with
  | ok x w' =>
   cases x <;> simp only [Oper.uponIn] at h ⊢
   case value u => exact ⟨keep a hy u, by rw [← Act.put_comm a v u h2]; exact h⟩
   case skip => exact ⟨keep a hy _, by rw [← Act.put_comm a v undef h2]; exact h⟩
   case defer d =>
    refine ⟨keep _ (keepD d) _, ?_⟩
    rw [← Act.put_comm _ v undef h2, ← Act.put_defers]
    exact h
   case enter f args =>
    refine ⟨h.1, CallsIn.mono h.2 fun e w'' he => ?_⟩
    cases e with
    | returned u => exact ⟨keep a hy u, by rw [← Act.put_comm a v u h2]; exact he⟩
    | panicked c => exact hQ _ _ _ he
    | outgrown => exact he
   case row row args => exact ⟨h.1, RowsIn.mono h.2 fun u w'' he => ⟨keep a hy u, by rw [← Act.put_comm a v u h2]; exact he⟩⟩
   case round l f tmps assign body =>
    refine ⟨h.1, RoundIn.mono h.2 fun e w'' he => ?_⟩
    cases e with
    | returned u => exact ⟨keep a hy u, by rw [← Act.put_comm a v u h2]; exact he⟩
    | panicked c => exact hQ _ _ _ he
    | outgrown => exact he
  | halt x w' =>
   cases x <;> simp only [Oper.uponIn] at h ⊢
   case panic u => exact hQ _ _ _ h
 ·rename_i hw
  simp only [hw] at h
  exact ⟨fun _ _ => trivial, keep a hy _, by rw [← Act.put_comm a v undef h2]; exact h.2⟩
def wpAnySF (nn : Nat) (P : Program) (ops : Array Oper) (Q : Exit → Act → World → Prop) (S : Array Bool → World → Prop) : Nat → Array Bool → Act → World → Prop
 | 0, listed, a, w => Region.ready .any ops listed = [] ∧ Q .normal a w
 | fuel + 1, listed, a, w =>
  (Region.ready .any ops listed = [] → Q .normal a w) ∧
  ∀ i ∈ Region.ready .any ops listed, wpOpIn Fence.wide nn P ops Q i (fun a' w' => S (listed.setIfInBounds i true) w' ∧ wpAnySF nn P ops Q S fuel (listed.setIfInBounds i true) a' w') a w
theorem wpAnyIn_of_SF : ∀ (fuel : Nat) (listed : Array Bool) (a : Act) (w : World), wpAnySF nn P ops Q S fuel listed a w → wpAnyIn Fence.wide nn P .any ops Q fuel listed a w
 | 0, _, _, _, h => h
 | fuel + 1, _, _, _, h => ⟨h.1, fun i hi => wpOpIn_mono (fun a' w' h' => wpAnyIn_of_SF fuel _ a' w' h'.2) (h.2 i hi)⟩
theorem wpAnySF_more {S' : Array Bool → World → Prop} (hm : ∀ L w, S' L w → S L w) : ∀ (fuel : Nat) (listed : Array Bool) (a : Act) (w : World), wpAnySF nn P ops Q S' fuel listed a w → wpAnySF nn P ops Q S fuel listed a w
 | 0, _, _, _, h => h
 | fuel + 1, _, _, _, h => ⟨h.1, fun i hi => wpOpIn_mono (fun a' w' h' => ⟨hm _ _ h'.1, wpAnySF_more hm fuel _ a' w' h'.2⟩) (h.2 i hi)⟩
theorem wpAnySF_first {i : Nat} {oi : Oper} {v : Value} (hi : ops[i]? = some oi)
  (hsel : ∀ (j : Nat) (o : Oper) cs b, ops[j]? = some o → o.op ≠ .select cs b)
  (hQ : ∀ c a w, Q (.panic c) (a.put oi.dst v) w → Q (.panic c) a w) (hSi : ∀ L w, S (L.setIfInBounds i true) w ↔ S L w) :
  ∀ (fuel : Nat) (listed : Array Bool) (a : Act) (w : World),
   (∀ j oj, ops[j]? = some oj → j ≠ i → listed.getD j true = false → (∀ e ∈ oj.after, Region.binds .any e = true → e.on ≠ i) → oi.apart ops oj = true) →
   i ∈ Region.ready .any ops listed → YieldsIf P ops (fun w' => ∃ L, DC ops L ∧ L.getD i true = false ∧ S L w') oi v a → DC ops listed → S listed w →
   wpAnySF nn P ops Q S fuel (listed.setIfInBounds i true) (a.put oi.dst v) w → wpAnySF nn P ops Q S (fuel + 1) listed a w := by
 intro fuel
 induction fuel with
 | zero =>
  intro listed a w _ hr hy hD hS H
  refine ⟨fun h => (by rw [h] at hr; cases hr), fun j hj => ?_⟩
  by_cases hji : j = i
  ·subst hji; exact yieldsIf_in hi hy ⟨listed, hD, (mem_ready.1 hr).1, hS⟩ ⟨(hSi _ _).2 hS, H⟩
  ·have := ready_mono hj hji
   rw [H.1] at this
   cases this
 | succ fuel ih =>
  intro listed a w hfree hr hy hD hS H
  refine ⟨fun h => (by rw [h] at hr; cases hr), fun j hj => ?_⟩
  by_cases hji : j = i
  ·subst hji; exact yieldsIf_in hi hy ⟨listed, hD, (mem_ready.1 hr).1, hS⟩ ⟨(hSi _ _).2 hS, H⟩
  ·have h1 := H.2 j (ready_mono hj hji)
   obtain ⟨hjun, oj, hoj, hall⟩ := mem_ready.1 hj
   have hnot : ∀ e ∈ oj.after, Region.binds .any e = true → e.on ≠ i := fun e he hb heq => by
    have h1 := hall e he hb
    have h0 := (mem_ready.1 hr).1
    rw [heq] at h1
    rcases Nat.lt_or_ge i listed.size with h' | h'
    ·simp [h'] at h0 h1; rw [h0] at h1; cases h1
    ·simp [Array.getElem?_eq_none h'] at h1
   have h2 := wpOpIn_putIf hoj (hfree j oj hoj hji hjun hnot) (fun cs b => hsel i oi cs b hi) (fun cs b => hsel j oj cs b hoj) hQ hy h1
   have hfree' : ∀ k ok, ops[k]? = some ok → k ≠ i → (listed.setIfInBounds j true).getD k true = false →
     (∀ e ∈ ok.after, Region.binds .any e = true → e.on ≠ i) → oi.apart ops ok = true := fun k ok hk hki hun hno => by
    refine hfree k ok hk hki ?_ hno
    by_cases hjk : j = k
    ·subst hjk; exact hjun
    ·rw [getD_set_ne true hjk] at hun; exact hun
   refine wpOpIn_mono (fun a' w' h3 => ?_) h2
   have hS' : S (listed.setIfInBounds j true) w' := by
    have := h3.2.1
    rw [Array.setIfInBounds_comm _ _ (Ne.symm hji)] at this
    exact (hSi _ _).1 this
   refine ⟨hS', ih (listed.setIfInBounds j true) a' w' hfree' (ready_mono hr (Ne.symm hji)) h3.1 (hD.step hj) hS' ?_⟩
   rw [Array.setIfInBounds_comm _ _ hji]
   exact h3.2.2
def wpGF (nn : Nat) (P : Program) (ops : Array Oper) (Q : Exit → Act → World → Prop) (S : Array Bool → World → Prop) (fuel : Nat) (listed : Array Bool) (a : Act) (w : World) : Prop :=
 DC ops listed → S listed w → wpAnySF nn P ops Q S fuel listed a w
theorem wpGF_take {i : Nat} {oi : Oper} {v : Value} {fuel : Nat} {listed : Array Bool} {a : Act} {w : World} (hi : ops[i]? = some oi)
  (hs : (Region.noSelect ops && Region.free .any ops listed i && (Region.ready .any ops listed).contains i) = true)
  (hSi : ∀ L w, S (L.setIfInBounds i true) w ↔ S L w)
  (hQ : ∀ c a w, Q (.panic c) (a.put oi.dst v) w → Q (.panic c) a w) (hy : YieldsIf P ops (fun w' => ∃ L, DC ops L ∧ L.getD i true = false ∧ S L w') oi v a)
  (h : wpGF nn P ops Q S fuel (listed.setIfInBounds i true) (a.put oi.dst v) w) : wpGF nn P ops Q S (fuel + 1) listed a w := by
 intro hD hS
 simp only [Bool.and_eq_true] at hs
 obtain ⟨⟨h1, h2⟩, h3⟩ := hs
 have hr : i ∈ Region.ready .any ops listed := by simpa using h3
 exact wpAnySF_first hi (Region.noSelect_spec h1) hQ hSi fuel listed a w (Region.free_spec hi h2) hr hy hD hS (h (hD.step hr) ((hSi _ _).2 hS))
theorem wpGF_one {i : Nat} {o : Oper} {fuel : Nat} {listed : Array Bool} {a : Act} {w : World} (hr : Region.ready .any ops listed = [i]) (ho : ops[i]? = some o)
  (hw : Region.wanted o (yielded ops a.tmps) = true)
  (h : S listed w → ∀ K' : Act → World → Prop, Shut (∀ a w, S (listed.setIfInBounds i true) w → wpGF nn P ops Q S fuel (listed.setIfInBounds i true) a w → K' a w) → o.wpIn Fence.wide nn P a w K' Q) : wpGF nn P ops Q S (fuel + 1) listed a w := by
 intro hD hS
 refine ⟨fun h0 => (by rw [hr] at h0; cases h0), fun j hj => ?_⟩
 have hD' := hD.step hj
 rw [hr] at hj
 obtain rfl : j = i := by simpa using hj
 refine wpOpIn_step ho (fun K' hK => ?_)
 rw [if_pos hw]
 exact h hS K' (fun a w hS' hW => hK a w ⟨hS', hW hD' hS'⟩)
theorem wpGF_done {listed : Array Bool} {a : Act} {w : World} {fuel : Nat} (hr : Region.ready .any ops listed = []) (h : S listed w → Q .normal a w) : wpGF nn P ops Q S fuel listed a w := by
 intro _ hS
 cases fuel with
 | zero => exact ⟨hr, h hS⟩
 | succ fuel => exact ⟨fun _ => h hS, by rw [hr]; simp⟩
end
section
variable {df : List Deferred} {P : Program} {ops : Array Oper} {rest : List Oper} {op oi : Oper} {a : Act} {Q : Exit → Act → World → Prop} {w0 w : World} {ex : Nat → Prop} {L : List (Nat × BA)} {K : Act → World → Prop} {n t i fuel nn : Nat} {E : List (Nat × Value)} {v : Value} {S : Array Bool → World → Prop} {l l' : Array Bool}
theorem ow_yield {x : Operand} {xs : List Operand} {ts : Array TypeId} {lr : Nat} {vs : List Value} {R : Ending → World → Prop} (T : TmD df a n E) (ho : op.op = .call { callee := .value x, args := xs.toArray, argTypes := ts }) (hd : op.dst = some t) (hf : freshE E t = true) (hn : Nat.blt t n = true)
  (hx : a.eval x = .func (.yield lr) #[] #[]) (hv : EvL a xs vs) (hY : YieldAt Fence.wide 6 P lr vs.toArray w R) (h : ∀ e w', R e w' → ∃ v, e = .returned v ∧ ∀ a', TmD df a' n ((t, v) :: E) → K a' w') : op.wpIn Fence.wide 7 P a w K Q := by
 obtain ⟨fn, tmps, assign, body, hy, hR⟩ := hY
 have hrun : (execOp a.eval op).run P w = .ok (.round lr fn tmps assign body) w := by
  unfold execOp
  simp [ho, resolve, invoke, Deferred.ofValue, hx, hv.map, Sem.run_bind]
  exact hy
 refine ⟨fun _ _ => trivial, ?_⟩
 rw [show Fence.wide.round = none from rfl, Oper.semAt_none, hrun]
 refine ⟨fun h9 => by simp [Fence.wide] at h9, hR.mono fun e w' hr => ?_⟩
 obtain ⟨v, rfl, h2⟩ := h e w' hr
 exact (hd ▸ h2 _ (T.put hn hf v) : K (a.put op.dst v) w')
def MT : Array Bool → World → Prop := fun _ _ => True
theorem si_T : ∀ (B : Array Bool) W, MT (B.setIfInBounds i true) W ↔ MT B W := fun _ _ => Iff.rfl
theorem fg_startT (M : Mem w0 ex w L) (m : Nat) {id : Nat} (hm : P.follows .mixedOrders = true) (hn : ops.size = m) (hz : Array.replicate m false = Zpb m 0)
  (h : ∀ w', Mem w0 ex w' L → wpGF 7 P ops Q MT m (Zpb m 0) a w') : (Code.region id ops true).wp P Q a w := by
 subst hn
 refine (wpIn_wide (n := 7)).1 (wpIn_region_any hm (wpAnyIn_of_SF (S := MT) _ _ _ _ ?_))
 rw [hz]
 have hD : DC ops (Zpb ops.size 0) := by rw [← hz]; exact DC.start
 exact h _ M.drew hD trivial
theorem fg_addG (s : Nat) (M : Mem w0 ex w L) (h : wpGF nn P ops Q (MA (MG s w0 ex L) S) fuel l a w) : wpGF nn P ops Q S fuel l a w := fun hD hS => wpAnySF_more (fun _ _ h => h.2) _ _ _ _ (h hD ⟨fun _ => M, hS⟩)
theorem fg_q (T : TmD df a n E) (hi : ops[i]? = some oi) (hs : (Region.noSelect ops && Region.free .any ops l i && (Region.ready .any ops l).contains i) = true) (hl : l.setIfInBounds i true = l')
  (hSi : ∀ L w, S (L.setIfInBounds i true) w ↔ S L w) (hQ : ∀ c a w, Q (.panic c) (a.put oi.dst v) w → Q (.panic c) a w)
  (hw : Region.wanted oi (yielded ops a.tmps) = true) (hd : oi.dst = some t) (hf : freshE E t = true) (hn : Nat.blt t n = true)
  (hr : ∀ L w', DC ops L → L.getD i true = false → S L w' → Runs P oi a v w') (h : ∀ a', TmD df a' n ((t, v) :: E) → wpGF nn P ops Q S fuel l' a' w) : wpGF nn P ops Q S (fuel + 1) l a w :=
 wpGF_take hi hs hSi hQ (.inl ⟨hw, fun w' hy => by obtain ⟨L, h1, h2, h3⟩ := hy; exact hr L w' h1 h2 h3⟩) (by rw [hl, hd]; exact h _ (T.put hn hf v))
theorem fgy (i b' : Nat) {m b : Nat} (h : ∀ K' : Act → World → Prop, Shut (∀ a w, S (Zpb m b') w → wpGF nn P ops Q S fuel (Zpb m b') a w → K' a w) → oi.wpIn Fence.wide nn P a w K' Q)
  (hr : Region.ready .any ops (Zpb m b) = [i] := by kernel_rfl) (ho : ops[i]? = some oi := by rfl) (hl : (Zpb m b).setIfInBounds i true = Zpb m b' := by kernel_rfl) (hw : Region.wanted oi (yielded ops a.tmps) = true := by rfl) : wpGF nn P ops Q S (fuel + 1) (Zpb m b) a w :=
 wpGF_one hr ho hw fun _ K' hK => by
  refine h K' ?_
  rw [← hl]
  exact hK
theorem fg_done (hr : Region.ready .any ops l = []) (h : Q .normal a w) : wpGF nn P ops Q S fuel l a w := wpGF_done hr fun _ => h
end
end
section
open Go.RowKit Go.Shelf
def KpC (eb : Nat → Prop) (W W' : World) : Prop := W'.os = W.os ∧ W'.tape = W.tape ∧ W'.output = W.output ∧ W.heap.size ≤ W'.heap.size ∧ ∀ b o, W.heap[b]? = some o → o.isCells = true → ¬ eb b → W'.heap[b]? = some o
theorem KpC.t {eb : Nat → Prop} {A B C : World} (h : KpC eb A B) (k : KpC eb B C) : KpC eb A C :=
 ⟨k.1.trans h.1, k.2.1.trans h.2.1, k.2.2.1.trans h.2.2.1, Nat.le_trans h.2.2.2.1 k.2.2.2.1, fun b o ho hc hx => k.2.2.2.2 b o (h.2.2.2.2 b o ho hc hx) hc hx⟩
theorem cell_isC {W : World} {a : Addr} {v : Value} (h : W.cell? a = some v) : ∃ o : Obj, W.heap[a.block]? = some o ∧ o.isCells = true := by
 unfold World.cell? at h
 cases ho : W.heap[a.block]? with
 | none => simp [ho] at h
 | some o => exact ⟨o, rfl, by cases o <;> simp_all [Obj.isCells]⟩
theorem KpC.cell {eb : Nat → Prop} {W W' : World} (h : KpC eb W W') {b o : Nat} {v : Value} (hc : W.cell? ⟨b, o, none⟩ = some v) (hx : ¬ eb b) : W'.cell? ⟨b, o, none⟩ = some v := by
 obtain ⟨ob, h1, h2⟩ := cell_isC hc
 rw [World.cell?_of_block (w := W) (a := ⟨b, o, none⟩) ((h.2.2.2.2 b ob h1 h2 hx).trans h1.symm)]
 exact hc
theorem KpC.bk {eb : Nat → Prop} {W W' : World} (h : KpC eb W W') {g : Nat} {c : Value} {cs : List Value} (hB : Bk W g (c :: cs).toArray) (hx : ¬ eb g) : Bk W' g (c :: cs).toArray := by
 have hc := hB.cell 0
 obtain ⟨ob, h1, h2⟩ := cell_isC (a := ⟨g, 0, none⟩) (v := c) (by simpa using hc)
 have e := (h.2.2.2.2 g ob h1 h2 hx).trans h1.symm
 exact ⟨Nat.lt_of_lt_of_le hB.lt h.2.2.2.1, fun o => (World.cell?_of_block (w := W) (a := ⟨g, o, none⟩) e).trans (hB.cell o), fun o => (World.frozen?_of_block (w := W) (a := ⟨g, o, none⟩) e).trans (hB.frozen o)⟩
section
variable {P : Program} {df : List Deferred} {a : Act} {w0 w : World} {ex : Nat → Prop} {n : Nat} {E : List (Nat × Value)}
theorem px_rangeC {α γ : Type} {g : Operand} {ps : Array Tmp} {assign body : Code} {Q : Exit → Act → World → Prop} (T : TmD df a n E)
  {gf : Nat} {lb : Array Value} (hg : a.eval g = .func (.func gf) #[] lb) (eg : ∀ args w, (callFunc gf args).run P w = .ok (.enter gf args) w)
  {encs : α → Array Value} {S Sp : List α → Prop} {N : Nat} (eb : Nat → Prop) (hseq : SeqStopsK Fence.wide 7 P gf lb encs (KpC eb) S Sp N w) (hps : ∀ x, (encs x).size = ps.size)
  (J : List α → List (Nat × BA) → Prop) (Jx : Code → List α → List (Nat × BA) → Prop)
  (EP : α → List (Nat × Value)) (EA : α → γ → List (Nat × Value)) (LB : α → γ → List (Nat × BA))
  (hf : ∀ pre L, J pre L → farOk w.heap.size L) (hfx : ∀ c pre L, Jx c pre L → farOk w.heap.size L)
  (heb : ∀ pre L, J pre L → ∀ p ∈ L, eb p.1)
  {L0 : List (Nat × BA)} (M : Mem w0 ex w L0) (hJ0 : J [] L0)
  (hEP : ∀ x, TmD [] { tmps := (ps.zip (encs x)).foldl (fun t (p, v) => t.setIfInBounds p v) a.tmps, defers := [] } n (EP x))
  (hLB : ∀ x c, ∀ p ∈ LB x c, p.2.isC = true)
  (hap : (∀ x c, LB x c = []) ∨ ∀ pre L, J pre L → ∀ p ∈ L, p.1 < w.heap.size)
  (hass : ∀ (l : Nat) (x : α) (W : World) (K : Act → World → Prop) (a1 : Act), TmD [] a1 n (EP x) → (∀ c a' W', TmD [] a' n (EA x c) → Mem W noEx W' (LB x c) → K a' W') → assign.wpIn (FW l) 6 P (Exit.then K (fun _ _ _ => False)) a1 W)
  (hbody : ∀ (l : Nat) (pre : List α) (x : α) (c : γ) (L : List (Nat × BA)) (a' : Act) (W : World), J pre L → w.heap.size ≤ W.heap.size → (∃ r, W.heap[l]? = some (.loop r)) → w.heap.size ≤ l → pre.length < N →
   Mem w0 ex W (LB x c ++ L) → (∀ p ∈ LB x c, ¬ inL L p.1) → ∀ (exb : Nat → Prop) (Wc : World), exb = inL L → Wc = W → TmD [] a' n (EA x c) → Mem W exb Wc L → body.wpIn (FW l) 6 P (rPost W exb J Jx (pre ++ [x])) a' Wc)
  (hdone : ∀ (D : Nat) (xs : List α) (L : List (Nat × BA)) (a' : Act) (W : World), S xs → J xs L → w.heap.size ≤ W.heap.size → TmD (dfD D :: df) a' n E → Mem w0 ex W ((D, dfA) :: L) → Q .normal a' W)
  (hstop : ∀ (D : Nat) (c : Code) (pre : List α) (L : List (Nat × BA)) (a' : Act) (W : World), Sp pre → Jx c pre L → w.heap.size ≤ W.heap.size → TmD (dfD D :: df) a' n E → Mem w0 ex W ((D, dfA) :: L) → c.wp P Q a' W) :
  (Code.rangeFunc g ps assign body).wp P Q a w := by
 have hz0 := M.size
 have addD : ∀ {D : Nat} {W : World} {L : List (Nat × BA)}, w.heap.size ≤ D → W.heap[D]? = some (.deferred (some [])) → farOk w.heap.size L → Mem w0 ex W L → Mem w0 ex W ((D, dfA) :: L) := fun {D W L} hD hk hL M => by
  refine M.add (by omega) ⟨_, hk, rfl⟩ (fun q hq e => ?_)
  rcases hL q hq with h | h
  ·omega
  ·have h2 := BA.isC_cells (M.blk q hq).2 h (e ▸ hk)
   simp [Obj.isCells] at h2
 have keeps : ∀ {L L'' : List (Nat × BA)} {pre : List α} {W W' : World}, J pre L → w.heap.size ≤ W.heap.size → Mem w0 ex W L → Mem W (inL L) W' L'' → KeepsFrom w.heap.size W W' ∧ KpC eb W W' := fun {L L'' pre W W'} hj hz M0 M => by
  refine ⟨⟨M.size, fun k o hk ho hc => (M.block k (Array.getElem?_eq_some_iff.1 ho).1 (fun hi => ?_)).trans ho⟩, M.os, M.tape, M.output, M.size, fun b o ho _ hx => (M.block b (Array.getElem?_eq_some_iff.1 ho).1 (fun hi => ?_)).trans ho⟩
  ·obtain ⟨p, hp, rfl⟩ := List.mem_map.1 hi
   have h2 : p.2.isC = true := by
    rcases hf _ _ hj p hp with h | h
    ·omega
    ·exact h
   rw [BA.isC_cells (M0.blk p hp).2 h2 ho] at hc
   cases hc
  ·obtain ⟨p, hp, rfl⟩ := List.mem_map.1 hi
   exact hx (heb _ _ hj p hp)
 refine (wpIn_wide (n := 8)).1 (wpIn_rangeFunc_ownH (α := α) rfl (by omega) hg trivial eg hseq
  (fun h k => KpC.t h k) (fun W l o o' hl h hc _ => ⟨rfl, rfl, rfl, by simp, fun b o1 ho1 hc1 _ => (World.putObj_heap_other (fun e => by subst e; rw [h] at ho1; injection ho1 with ho1; subst ho1; rw [hc] at hc1; cases hc1)).trans ho1⟩) (Below.refl _ _) hps
  (fun pre W => ∃ L, J pre L ∧ Mem w0 ex W L ∧ w.heap.size ≤ W.heap.size)
  (fun c pre W => ∃ L, Jx c pre L ∧ Mem w0 ex W L ∧ w.heap.size ≤ W.heap.size)
  (fun s W W' row hs hg hr => by
   obtain ⟨L, hj, M1, hz⟩ := hs
   exact ⟨L, hj, M1.far2 hg hr hz0 (hf _ _ hj), Nat.le_trans hz hg.size⟩)
  (fun c s W W' row hs hg hr => by
   obtain ⟨L, hj, M1, hz⟩ := hs
   exact ⟨L, hj, M1.far2 hg hr hz0 (hfx _ _ _ hj), Nat.le_trans hz hg.size⟩)
  ⟨L0, hJ0, M, Nat.le_refl _⟩
  (fun x a' W => ∃ c, TmD [] a' n (EA x c) ∧ Mem w0 ex W (LB x c) ∧ ∀ p ∈ LB x c, w.heap.size ≤ p.1)
  (fun x a' _ W W' row hs hg hr => by
   obtain ⟨c, T', M1, hl⟩ := hs
   exact ⟨c, T', M1.far2 hg hr hz0 (fun p hp => .inr (hLB _ _ p hp)), hl⟩)
  ?assign ?body ?done ?stop)
 case assign =>
  rintro l pre x W K ⟨L, hj, M1, hz⟩ hK
  refine hass l x W K _ (hEP x) fun c a' W' T' N1 => ?_
  have hb := N1.below
  refine hK a' W' ⟨hb.size, fun k o hk ho hc => (hb.block k (Array.getElem?_eq_some_iff.1 ho).1).trans ho⟩ ⟨N1.os, N1.tape, N1.output, hb.size, fun b o ho _ _ => (hb.block b (Array.getElem?_eq_some_iff.1 ho).1).trans ho⟩ ⟨L, hj, M1.call hb, Nat.le_trans hz hb.size⟩ ⟨c, T', ?_, fun p hp => ?_⟩
  ·have h2 := M1.join N1
   exact h2.sub (Zsl _ _)
  ·rcases (N1.blk p hp).1 with h | h
   ·omega
   ·exact h.elim
 case body =>
  rintro l pre x a' W hl hrec ⟨L, hj, M1, hz⟩ ⟨c, T', M2, hl2⟩ hlt
  have M3 : Mem w0 ex W (LB x c ++ L) := by
   rcases hap with h | h
   ·rw [h]; exact M1
   ·refine ⟨M1.os, M1.tape, M1.output, M1.size, M1.block, fun p hp => ?_, ?_⟩
    ·rcases List.mem_append.1 hp with h2 | h2
     ·exact M2.blk p h2
     ·exact M1.blk p h2
    ·rw [List.map_append]
     refine List.nodup_append.2 ⟨M2.nd, M1.nd, ?_⟩
     intro i hi j hk e
     obtain ⟨p, hp, rfl⟩ := List.mem_map.1 hi
     obtain ⟨q, hq, rfl⟩ := List.mem_map.1 hk
     have := hl2 p hp
     have := h _ _ hj q hq
     omega
  have hnl : ∀ p ∈ LB x c, ¬ inL L p.1 := fun p hp hi => by
   have h2 := M3.nd
   rw [List.map_append] at h2
   have h3 := (List.nodup_append.1 h2).2.2 p.1 (List.mem_map.2 ⟨p, hp, rfl⟩) p.1 hi
   exact h3 rfl
  refine wpIn_mono (hbody l pre x c L a' W hj hz hrec hl hlt M3 hnl _ _ rfl rfl T' M1.rebase) fun e a2 W2 h => ?_
  cases e with
  | normal =>
   obtain ⟨L2, hj2, M4⟩ := h
   obtain ⟨k1, k2⟩ := keeps hj hz M1 M4
   exact ⟨k1, k2, L2, hj2, M1.back M4, Nat.le_trans hz M4.size⟩
  | ret =>
   obtain ⟨L2, hj2, M4⟩ := h
   obtain ⟨k1, k2⟩ := keeps hj hz M1 M4
   exact ⟨k1, L2, hj2, M1.back M4, Nat.le_trans hz M4.size⟩
  | exit id =>
   obtain ⟨L2, hj2, M4⟩ := h
   obtain ⟨k1, k2⟩ := keeps hj hz M1 M4
   exact ⟨k1, L2, hj2, M1.back M4, Nat.le_trans hz M4.size⟩
  | _ => exact h.elim
 case done =>
  rintro D xs W hD hS ⟨L, hj, M1, hz⟩ hK
  exact hdone D xs L _ W hS hj hz (T.marks D) (addD hD hK (hf _ _ hj) M1)
 case stop =>
  rintro D c pre W hD hSp ⟨L, hj, M1, hz⟩ hK
  exact wpIn_wide.2 (hstop D c pre L _ W hSp hj hz (T.marks D) (addD hD hK (hfx _ _ _ hj) M1))
end
end
section
open Go.RowKit Go.Shelf
section
variable {α : Type} {W : World} {exb : Nat → Prop} {J : List α → List (Nat × BA) → World → Prop} {Jx : Code → List α → List (Nat × BA) → World → Prop} {xs : List α} {a : Act} {w : World} {L : List (Nat × BA)}
end
section
variable {P : Program} {df : List Deferred} {a : Act} {w0 w : World} {ex : Nat → Prop} {n : Nat} {E : List (Nat × Value)}
end
end
section
open Go.RowKit Go.Shelf
section
variable {P : Program} {ops : Array Oper} {op : Oper} {a : Act} {Q : Exit → Act → World → Prop} {K : Act → World → Prop} {w0 w : World} {ex : Nat → Prop} {L : List (Nat × BA)} {l : Nat}
end
section
variable {P : Program} {a : Act} {w0 w : World} {ex : Nat → Prop} {n B m : Nat} {E : List (Nat × Value)} {L : List (Nat × BA)}
end
theorem Mem.ge {w0 w : World} {L : List (Nat × BA)} {g : Nat} {p : BA} (M : Mem w0 noEx w L) (h : (g, p) ∈ L) : w0.heap.size ≤ g := by
 rcases (M.blk _ h).1 with h | h
 · exact h
 · exact h.elim
end
section
open Go.RowKit
open Go.Maps (Keyed)
section
variable {P : Program} {op : Oper} {a : Act} {w : World} {t t' : TypeId} {x y : Operand} {p q : Int}
end
section
variable {P : Program} {ops : Array Oper} {op : Oper} {a : Act} {Q : Exit → Act → World → Prop} {df : List Deferred} {w0 w : World} {ex : Nat → Prop} {L L' : List (Nat × BA)} {k e ty : TypeId} {nn t : Nat} {E : List (Nat × Value)} {K : Act → World → Prop} {okv : Value → Value → Prop}
end
end
section
variable {α : Type} (enc : α → List Value) (z : Nat)
theorem fm_length (hz : ∀ x, (enc x).length = z) : ∀ l : List α, (l.flatMap enc).length = l.length * z
 | [] => by simp
 | x :: l => by rw [List.flatMap_cons, List.length_append, fm_length hz l, hz, List.length_cons, Nat.add_mul]; omega
theorem fm_put (hz : ∀ x, (enc x).length = z) (f : Nat) (x' : α) (ds : List Value) : ∀ (l : List α) (k : Nat) (x : α), l[k]? = some x → enc x' = (enc x).take f ++ ds ++ (enc x).drop (f + ds.length) → f + ds.length ≤ z → (l.flatMap enc).take (k * z + f) ++ ds ++ (l.flatMap enc).drop (k * z + f + ds.length) = (l.set k x').flatMap enc
 | [], k, x, h, _, _ => by simp at h
 | y :: l, 0, x, h, he, hf => by
  simp at h
  subst h
  have h4 := hz y
  rw [Zz7, List.flatMap_cons, List.flatMap_cons, Nat.zero_mul, Nat.zero_add, List.take_append_of_le_length (by omega), List.drop_append_of_le_length (by omega), he]
  simp
 | y :: l, k + 1, x, h, he, hf => by
  have h4 := hz y
  have ih := fm_put hz f x' ds l k x (by simpa using h) he hf
  rw [Zz8, List.flatMap_cons, List.flatMap_cons, show (k + 1) * z + f = (enc y).length + (k * z + f) by rw [h4, Nat.add_mul]; omega, List.take_length_add_append, show (enc y).length + (k * z + f) + ds.length = (enc y).length + (k * z + f + ds.length) by omega, List.drop_length_add_append, ← ih]
  simp
end
theorem rep_get {α : Type} (enc : α → List Value) (z : Nat) (x0 : α) (hz : (enc x0).length = z) : ∀ (m i : Nat), i < m * z → ((List.replicate m x0).flatMap enc)[i]? = (enc x0)[i % z]?
 | 0, i, h => by simp at h
 | m + 1, i, h => by
  rw [List.replicate_succ, List.flatMap_cons]
  rw [Nat.add_mul] at h
  rcases Nat.lt_or_ge i z with h1 | h1
  ·rw [List.getElem?_append_left (by omega), Nat.mod_eq_of_lt h1]
  ·rw [List.getElem?_append_right (by omega), hz, rep_get enc z x0 hz m (i - z) (by omega), Nat.mod_eq_sub_mod h1]
theorem made_fm {α : Type} (enc : α → List Value) (z : Nat) (x0 : α) (hz : (enc x0).length = z) (h0 : 0 < z) (m : Nat) : madeCells (enc x0).toArray (m * z) = ((List.replicate m x0).flatMap enc ++ []).toArray := by
 have hl : ((List.replicate m x0).flatMap enc).length = m * z := by
  induction m with
  | zero => simp
  | succ m ih => rw [List.replicate_succ, List.flatMap_cons, List.length_append, ih, hz, Nat.add_mul]; omega
 apply Array.ext
 ·simp only [size_madeCells, List.append_nil, List.size_toArray, hl]
 ·intro i h1 h2
  rw [size_madeCells] at h1
  have h3 := rep_get enc z x0 hz m i h1
  have h4 : i % z < (enc x0).length := by rw [hz]; exact Nat.mod_lt _ h0
  simp only [madeCells, Array.getElem_map, Array.getElem_range, Zz3, List.append_nil, List.size_toArray, hz]
  rw [List.getElem?_eq_getElem (by rw [hl]; exact h1), List.getElem?_eq_getElem h4] at h3
  injection h3 with h3
  rw [h3]
  simp [h4]
section
variable {P : Program} {op : Oper} {a : Act} {K : Act → World → Prop} {Q : Exit → Act → World → Prop} {w0 w : World} {ex : Nat → Prop} {L : List (Nat × BA)} {E : List (Nat × Value)} {df : List Deferred} {t n : Nat}
theorem ow_stK {α : Type} (enc : α → List Value) (z : Nat) (hz : ∀ x, (enc x).length = z) (f : Nat) {ty : TypeId} {x y : Operand} {g k : Nat} {v : Value} {ds : List Value} {l : List α} {p p' : α} {ys : List Value} {L' : List (Nat × BA)} (M : Mem w0 ex w L) (T : TmD df a n E) (ho : op.op = .store ty x y) (hd : op.dst = none)
   (hx : a.eval x = .pointer (some ⟨g, 0 + k * z + f, none⟩)) (hy : a.eval y = v) (hv : v.cells = ds.toArray) (hp : l[k]? = some p) (he : enc p' = (enc p).take f ++ ds ++ (enc p).drop (f + ds.length)) (hf : f + ds.length ≤ z) (h1 : ds.all (·.oneCell') = true) (hi : (P.info? ty).map (·.size) = some ds.length)
   (hu : Upd L g (.cells (l.flatMap enc ++ ys)) (.cells ((l.set k p').flatMap enc ++ ys)) L') (h : ∀ w' a', Mem w0 ex w' L' → TmD df a' n E → K a' w') : op.wp P a w K Q := by
 have hk := (List.getElem?_eq_some_iff.1 hp).1
 have hl := fm_length enc z hz l
 have hkz : k * z + z ≤ l.length * z := by have := Nat.mul_le_mul_right z (show k + 1 ≤ l.length by omega); rw [Nat.add_mul] at this; omega
 refine m_stw (ds := ds) M ho hx hy hv hu ?_ (by rw [List.length_append, hl]; omega) h1 hi fun w' M' => h w' _ M' (by rw [hd]; exact T.put0 _)
 have hq := fm_put enc z hz f p' ds l k p hp he hf
 rw [Nat.zero_add, List.take_append_of_le_length (by rw [hl]; omega), List.drop_append_of_le_length (by rw [hl]; omega), ← List.append_assoc, ← hq]
theorem ow_msK {α : Type} (enc : α → List Value) (z bytes : Nat) (x0 : α) {v0 : Value} (hz : (enc x0).length = z) (h0 : 0 < z) (hv : v0.cells = (enc x0).toArray) {ty e m : Nat} {x y : Operand} (M : Mem w0 ex w L) (T : TmD df a n E) (ho : op.op = .makeSlice ty x y) (hd : op.dst = some t) (hf : freshE E t = true) (hn : Nat.blt t n = true) (hx : a.eval x = Zi (m : Int)) (hy : a.eval y = Zi (m : Int))
  (ht : P.underlying ty = some (.slice e)) (hinfo : (P.info? e).map (fun i => (i.zero, i.size, i.bytes)) = some (some v0, z, bytes)) (hm : m ≤ 1000) (hb1 : bytes ≤ 1000) (hz1 : z ≤ 1000)
  (h : ∀ g w' a', w.heap.size ≤ g → Mem w0 ex w' ((g, .cells ((List.replicate m x0).flatMap enc ++ [])) :: L) → TmD df a' n ((t, .slice (some ⟨g, 0, none⟩) m m) :: E) → K a' w') : op.wp P a w K Q := by
 obtain ⟨i, hi, hz2, hs, hb⟩ := info_parts hinfo
 have h5 : m * z ≤ 1000 * 1000 := Nat.mul_le_mul hm hz1
 have h6 : bytes * m ≤ 1000 * 1000 := Nat.mul_le_mul hb1 hm
 have h7 : (bytes : Int) * (m : Int) ≤ 1000 * 1000 := by rw [← Int.natCast_mul]; exact Int.ofNat_le.2 h6
 have hr := run_makeSlice (P := P) w ty e i _ ht hi hz2 .i64 .i64 (m : Int) (m : Int) (by omega) (Int.le_refl _) (by rw [hs, Int.toNat_natCast]; omega) (by rw [hb]; omega) (by omega)
 rw [hs, Int.toNat_natCast, hv, made_fm enc z x0 hz h0] at hr
 unfold Oper.wp execOp
 simp only [ho, hx, hy, hr, Sem.run_bind, Result.andThen_ok, Sem.run_pure]
 rw [Oper.upon_value, hd]
 exact h _ _ _ (Nat.le_refl _) (M.new _ _) (T.put hn hf _)
end
theorem Tryz.info4 : (Tryz.prog.info? 4).map (fun i => (i.zero, i.size, i.bytes)) = some (some (.bool false), 1, 1) := by kernel_rfl
def boE (p : Bool) : List Value := [.bool p]
def bo (l : List Bool) : List Value := l.flatMap boE
theorem bo_length (l : List Bool) : (bo l).length = l.length * 1 := by
 induction l with
 | nil => rfl
 | cons x l ih =>
  show (boE x ++ bo l).length = _
  rw [List.length_append, ih, List.length_cons]
  show 1 + _ = _
  omega
theorem bo_get : ∀ (l : List Bool) (k : Nat) {x : Bool}, l[k]? = some x → ∀ (i : Nat) (v : Value), (boE x)[i]? = some v → (bo l)[k * 1 + i]? = some v
 | [], k, x, h => by simp at h
 | y :: l, 0, x, h => by
  intro i v hv
  simp only [List.getElem?_cons_zero, Option.some.injEq] at h
  subst h
  show (boE y ++ bo l)[0 * 1 + i]? = some v
  rw [Nat.zero_mul, Nat.zero_add, List.getElem?_append_left (List.getElem?_eq_some_iff.1 hv).1]
  exact hv
 | y :: l, k + 1, x, h => by
  intro i v hv
  have := bo_get l k (by simpa using h) i v hv
  show (boE y ++ bo l)[(k + 1) * 1 + i]? = some v
  have e : (boE y).length = 1 := rfl
  rw [List.getElem?_append_right (by rw [e]; omega), e, show (k + 1) * 1 + i - 1 = k * 1 + i by omega]
  exact this
theorem bo_next {l : List Bool} {k : Nat} (h : k < l.length) : ∃ x, l[k]? = some x ∧ l.drop k = x :: l.drop (k + 1) := ⟨l[k], List.getElem?_eq_getElem h, List.drop_eq_getElem_cons h⟩
section
variable {w w' : World} {ex : Nat → Prop} {I L : List (Nat × BA)} {n b o k : Nat} {A : Option Addr} {l : List Bool} {p : Bool}
theorem Sp.boA (S : Sp w ex I A n 1 b o (bo l)) (M : Mem w ex w' L) (hI : I.Sublist L) (h : l[k]? = some p) (f : Nat) (v : Value) (hv : (boE p)[f]? = some v) : w'.cell? ⟨b, o + k * 1 + f, none⟩ = some v := by
 have := S.cell w' L M hI _ _ (bo_get l k h f v hv)
 rwa [← Nat.add_assoc] at this
theorem Sp.boC0 (S : Sp w ex I A n 1 b o (bo l)) (M : Mem w ex w' L) (hI : I.Sublist L) (h : l[k]? = some p) : w'.cell? ⟨b, o + k * 1 + 0, none⟩ = some (.bool p) := S.boA M hI h 0 _ rfl
end
def CanPost (l : List Bool) (w : World) (e : Ending) (w' : World) : Prop := ∃ (A : Option Addr) (c : Nat) (I : List (Nat × BA)), e = .returned (.slice A 427 c) ∧ (∃ b o, ∀ (w : World) (ex : Nat → Prop), Sp w ex I A 427 1 b o (bo l)) ∧ Mem w noEx w' I
def CanSpec (l : Lw) (A : Option Addr) (c : Nat) (LL : List LS) (nt m : Nat) : Prop := ∀ (G : Option Addr) (d : Nat) (g : List Int) (w : World), g.length = m + 1 → g.length ≤ d → Rd w w.heap.size 1 A LL.length (lsC LL) → ElsS w LL → Rd w w.heap.size 1 G g.length (ic g) → (∀ r ∈ g, 0 ≤ r ∧ r < LL.length) →
 Calls Tryz.prog 125 #[.agg #[Zi l.first, Zi l.step, Zi l.span, Zi l.press, .slice A LL.length c], .slice G g.length d, Zi (nt : Int)] w (CanPost (canB l (l.first + l.step * (nt : Int)) (voicesP (rowsOf LL) g nt)) w)
theorem can_gap {l : Lw} {due : Int} {ts : List Snd} {s : Snd} {p q : Int} (h0 : 0 ≤ p) (hpq : p ≤ q) (hf : ∀ i : Nat, p ≤ (i : Int) → (i : Int) < q → ¬ ((s.t0 ≤ spotT i ∧ spotT i ≤ s.t1) ∧ s.s0 ≤ spotS i ∧ spotS i ≤ s.s1)) : outM (canF l due (ts ++ [s])) p.toNat = outM (canF l due (ts ++ [s])) q.toNat :=
 outM_skip (by omega) fun i h1 h2 => canF_out (hf i (by omega) (by omega))
theorem voices_last {R : List (List Snd)} {g : List Int} {n k : Nat} {r : Int} (hk : g.length = k + 1) (hr : g[k]? = some r) : voicesP R g n = voicesP R (g.take k) n ++ [voiceP R n r] := by
 have := voicesP_take (R := R) (n := n) hr
 rwa [List.take_of_length_le (by omega)] at this
theorem spot_div {i : Nat} : Int.tdiv (i : Int) 7 = ((i / 7 : Nat) : Int) := by
 rw [Int.tdiv_eq_ediv_of_nonneg (by omega)]; rfl
theorem spot_mod {i : Nat} : Int.tmod (i : Int) 7 = ((i % 7 : Nat) : Int) := by
 rw [Int.tmod_eq_emod_of_nonneg (by omega)]; rfl
set_option maxHeartbeats 4000000 in
theorem can_step (l : Lw) (A : Option Addr) (c : Nat) (LL : List LS) (G : Option Addr) (d : Nat) (g : List Int) (nt m : Nat) (w : World) (hA : Rd w w.heap.size 1 A LL.length (lsC LL)) (hE : ElsS w LL) (gS : SGood l (rowsOf LL)) (hG : Rd w w.heap.size 1 G g.length (ic g)) (hgl : g.length = m + 1) (hgd : g.length ≤ d) (hg6 : g.length ≤ 1000) (hgL : ∀ r ∈ g, 0 ≤ r ∧ r < LL.length) (hnt : nt < notesP (rowsOf LL)) (ih : ∀ m1, m = m1 + 1 → CanSpec l A c LL nt m1)  :
   Calls Tryz.prog 125 #[.agg #[Zi l.first, Zi l.step, Zi l.span, Zi l.press, .slice A LL.length c], .slice G g.length d, Zi (nt : Int)] w (CanPost (canB l (l.first + l.step * (nt : Int)) (voicesP (rowsOf LL) g nt)) w) := by
 obtain ⟨bA, oA, SA⟩ := Sp.old hA
 obtain ⟨bG, oG, SG⟩ := Sp.old hG
 have hnt6 := gS.notes
 have nE : ∀ x ∈ LL, x.1.length ≤ 1000000 := fun x hx => by have := (gS.rows x.1 (List.mem_map.2 ⟨x, hx, rfl⟩)).1; omega
 obtain ⟨r, hkr, -⟩ := ic_next (l := g) (k := m) (by omega)
 have hrb := hgL r (List.mem_of_getElem? hkr)
 obtain ⟨rk, hrk⟩ : ∃ q : Nat, r = (q : Int) := ⟨r.toNat, by omega⟩
 obtain ⟨⟨x1, B1, d1⟩, hk1⟩ : ∃ x, LL[rk]? = some x := ⟨_, List.getElem?_eq_getElem (by omega)⟩
 obtain ⟨bs1, os1, Ss1⟩ := Sp.old (hE _ (List.mem_of_getElem? hk1))
 dsimp only at Ss1
 have nx1 := nE _ (List.mem_of_getElem? hk1)
 dsimp only at nx1
 have hrw := gS.rows x1 (List.mem_map.2 ⟨_, List.mem_of_getElem? hk1, rfl⟩)
 obtain ⟨y, hky, -⟩ := sc_next (l := x1) (k := nt) (by omega)
 have gy := hrw.2.2 y (List.mem_of_getElem? hky)
 obtain ⟨gy1, gy2⟩ := id gy
 have hvl := voices_last (R := rowsOf LL) (n := nt) hgl hkr
 rw [voiceP_at hk1 hrk hky] at hvl
 rw [hvl]
 have gd := gS.dues nt hnt
 simp only [dueO, decide_eq_true_eq] at gd
 have gl := gS.law
 have hnt9 : 0 ≤ (nt : Int) ∧ (nt : Int) ≤ 11 := by omega
 obtain ⟨gl1, gl2, gl3, gl4⟩ := id gl
 have hm1x : ((g.length : Nat) : Int) - 1 = (m : Int) := by omega
 have hgood : ∀ s ∈ (voicesP (rowsOf LL) (g.take m) nt), s.good := voicesP_good gS (fun r hr => by have := hgL r ((List.take_sublist _ _).subset hr); simpa using this) (by omega)
 refine Zpx noEx Tryz.func125 rfl 102 rfl [.agg #[Zi l.first, Zi l.step, Zi l.span, Zi l.press, .slice A LL.length c], .slice G g.length d, Zi (nt : Int)] rfl rfl (Mem.init w _) ?_
 intro ac wc T M
 refine Zsr ?_
 refine Zl2 ?_
 refine Zob M T rfl rfl rfl rfl (T.e 0 rfl) rfl ?_; clear M T; intro g1 wc ac M T
 refine lq T (Zra rfl evc) ?_; clear T ac; intro ac T
 replace T := T.pick [1, 3, 4] rfl
 refine Zln ?_
 refine wp_seq ?_
 refine Zgs M (M.mask [true] rfl) 15 (by kernel_rfl) rfl (by kernel_rfl) ?_
 clear M; intro wc M
 refine gq (v := (.pointer (some ⟨g1, 4, none⟩))) T 0 1 rfl (fun _ _ _ _ _ => (Zrf (off := 4) rfl (T.e 0 rfl) (fun _ _ _ => by kernel_rfl))) ?_; clear T ac; intro ac T
 refine gq T 1 3 rfl (fun B w' hD hl hS => (Zro (Mem.nth (show Mem w noEx w' _ from hS) 0 rfl) rfl (T.e 0 rfl) rfl)) ?_; clear T ac; intro ac T
 refine gq T 2 7 rfl (fun _ _ _ _ _ => (Zrm rfl (T.e 3 rfl))) ?_; clear T ac; intro ac T
 refine gq T 3 15 rfl (fun _ _ _ _ _ => (Zrm rfl (T.e 4 rfl))) ?_; clear T ac; intro ac T
 refine gq T 4 31 rfl (fun _ _ _ _ _ => (Zrl rfl Tryz.underlying33 (T.e 0 rfl))) ?_; clear T ac; intro ac T
 refine gq T 5 63 rfl (fun _ _ _ _ _ => (rn_sub rfl (T.e 0 rfl) evc (by omega))) ?_; clear T ac; intro ac T
 refine gq T 6 127 rfl (fun _ _ _ _ _ => (Zri (size := 1) m rfl (T.e 3 rfl) (T.e 0 rfl) ⟨_, Tryz.underlying33, by kernel_rfl⟩ hm1x (by omega) (SG.at0 (by omega)))) ?_; clear T ac; intro ac T
 refine gq T 7 255 rfl (fun B w' hD hl hS => (rn_cell (Sp.ic0 SG (show Mem w noEx w' _ from hS) (Zz9 _) hkr) rfl (T.e 0 rfl))) ?_; clear T ac; intro ac T
 refine gq T 8 511 rfl (fun _ _ _ _ _ => (Zri (size := 1) rk rfl (T.e 6 rfl) (T.e 0 rfl) ⟨_, Tryz.underlying62, by kernel_rfl⟩ hrk (by omega) (SA.at0 (by omega)))) ?_; clear T ac; intro ac T
 refine gq (v := (.slice B1 x1.length d1)) T 9 1023 rfl (fun B w' hD hl hS => (rn_cell (Sp.ls0 SA (show Mem w noEx w' _ from hS) (Zz9 _) hk1) rfl (T.e 0 rfl))) ?_; clear T ac; intro ac T
 refine gq T 10 2047 rfl (fun _ _ _ _ _ => (Zrm rfl (T.e 12 rfl))) ?_; clear T ac; intro ac T
 refine gq T 11 4095 rfl (fun _ _ _ _ _ => (Zri (size := 4) nt rfl (T.e 1 rfl) (T.e 0 rfl) ⟨_, Tryz.underlying24, by kernel_rfl⟩ rfl (by omega) (Ss1.at0 (by omega)))) ?_; clear T ac; intro ac T
 refine gq (v := (.agg #[Zi y.t0, Zi y.t1, Zi y.s0, Zi y.s1])) T 12 8191 rfl (fun B w' hD hl hS => (rn_rowat (Sp.scR4 Ss1 (show Mem w noEx w' _ from hS) (Zz9 _) hky) rfl (T.e 0 rfl) rfl)) ?_; clear T ac; intro ac T
 refine gw 13 16383 ?_; intro K hK
 refine Zoa M T rfl rfl rfl rfl ?_; clear M T; intro g2 wc ac M T
 refine Zso hK _ _ (M.mask [false, true] rfl) ?_; clear hK K
 refine gw 14 32767 ?_; intro K hK
 refine Zos M T rfl rfl (T.e 0 rfl) (T.e 1 rfl) rfl .head rfl (by simp) rfl (by kernel_rfl) ?_; clear M T; intro wc ac M T
 refine Zso hK _ _ (M.mask [false, true] rfl) ?_; clear hK K
 refine Zgd (by kernel_rfl) ?_
 replace T := T.pick [0, 14, 15, 16] rfl
 refine nm_then ?_
 refine Zsr ?_
 refine Zl2 ?_
 refine ow_msK boE 1 1 false rfl (by decide) rfl (m := 427) M T rfl rfl rfl rfl evc evc Tryz.underlying155 Tryz.info4 (by omega) (by decide) (by decide) ?_; clear M T; intro g3 wc ac hgeg3 M T
 obtain ⟨lm1, hlm1⟩ : ∃ q : List Bool, q = List.replicate 427 false := ⟨_, rfl⟩
 have llm1 : lm1.length = 427 := by rw [hlm1, List.length_replicate]
 replace M : Mem w noEx wc [(g3, .cells (bo lm1 ++ [])), (g2, .cells [Zi y.t0, Zi y.t1, Zi y.s0, Zi y.s1]), (g1, .cells [Zi l.first, Zi l.step, Zi l.span, Zi l.press, .slice A LL.length c])] := by rw [hlm1]; exact M
 have Ss1 := Sp.pre (w := w) (ex := noEx) (size := 1) (n := lm1.length) (g := g3) (xs := bo lm1) (ys := []) (by simp [bo_length])
 refine lq T (Zra rfl (T.e 0 rfl)) ?_; clear T ac; intro ac T
 replace T := T.pick [0, 2, 3, 4, 5] rfl
 refine Zln ?_
 refine Zsr ?_
 refine lq T (Zra rfl evc) ?_; clear T ac; intro ac T
 refine Zln ?_
 refine wp_seq ?_
 refine Zsr ?_
 refine Zg3 T (Zq (Zrm rfl (T.e 4 rfl))) rfl (Zl Tryz.underlying33 0 rfl rfl) rfl (fun _ T => Zq (rn_gtr rfl (T.e 0 rfl) evc)) rfl ?_; clear T ac; intro ac T
 replace T := T.pick [0, 3, 4, 5, 6, 7, 8] rfl
 refine Zln ?_
 refine wp_if (T.e 0 rfl) ?_ ?_
 ·intro h1
  obtain ⟨m1, hm1⟩ : ∃ k, m = k + 1 := ⟨m - 1, by omega⟩
  have hne : (voicesP (rowsOf LL) (g.take m) nt) ≠ [] := by intro h; have h0 : (voicesP (rowsOf LL) (g.take m) nt).length = 0 := (congrArg List.length h).trans rfl; unfold voicesP at h0; rw [List.length_map, List.length_take] at h0; omega
  refine Zgs M (M.mask [true, true, true] rfl) 9 (by kernel_rfl) rfl (by kernel_rfl) ?_
  clear M; intro wc M
  refine gq T 0 1 rfl (fun B w' hD hl hS => (Zrr (Mem.nth (show Mem w noEx w' _ from hS) 2 rfl) rfl (T.e 4 rfl) rfl)) ?_; clear T ac; intro ac T
  refine gq T 1 3 rfl (fun _ _ _ _ _ => (Zrm rfl (T.e 6 rfl))) ?_; clear T ac; intro ac T
  refine gq T 2 7 rfl (fun _ _ _ _ _ => (Zrm rfl (T.e 7 rfl))) ?_; clear T ac; intro ac T
  refine gq T 3 15 rfl (fun _ _ _ _ _ => (Zrl rfl Tryz.underlying33 (T.e 0 rfl))) ?_; clear T ac; intro ac T
  refine gq T 4 31 rfl (fun _ _ _ _ _ => (rn_sub rfl (T.e 0 rfl) evc (by omega))) ?_; clear T ac; intro ac T
  refine gq T 5 63 rfl (fun _ _ _ _ _ => (rn_slice (size := 1) (l := 0) (h := m) rfl Tryz.underlying33 (by kernel_rfl) (T.e 3 rfl) rfl ((T.e 0 rfl).trans (congrArg (Value.int .i64) hm1x)) (by omega) (by omega))) ?_; clear T ac; intro ac T
  obtain ⟨Aq1, hAq1⟩ : ∃ q : Option Addr, q = (if d = 0 then G else Option.map (fun x : Addr => x.add (0 * 1)) G) := ⟨_, rfl⟩
  rw [← hAq1] at T
  obtain ⟨lq1, hlq1⟩ : ∃ q, q = (g.drop 0).take (m - 0) := ⟨_, rfl⟩
  have nlq1 : lq1.length = m - 0 := by rw [hlq1, List.length_take, List.length_drop]; (try simp only [List.length_cons, List.length_append, List.length_nil]); omega
  rw [← nlq1] at T
  have SAq1 : Sp w noEx [] Aq1 lq1.length 1 bG (oG + 0 * 1) (ic lq1) := by rw [nlq1, hAq1, hlq1, ← ic_part]; exact SG.sub (by omega) (by omega) (by omega)
  refine gq T 6 127 rfl (fun _ _ _ _ _ => (Zrm rfl (T.e 12 rfl))) ?_; clear T ac; intro ac T
  refine gw 7 255 ?_; intro K hK
  have hmq : m1 + 1 = m := by omega
  have htq : voicesP (rowsOf LL) lq1 nt = (voicesP (rowsOf LL) (g.take m) nt) := by rw [hlq1]; simp only [List.drop_zero, Nat.sub_zero]
  refine Zoc (first := []) (cap := []) T rfl rfl rfl rfl evf (.cons (T.e 6 rfl) (.cons (T.e 1 rfl) (.cons (T.e 0 rfl) .nil))) Tryz.func125 rfl rfl ?_
  refine Calls.mono (ih m1 hm1 _ _ lq1 _ (by omega) (by omega) (SA.rd M (Zz9 _)) (fun x hx => M.rd (hE x hx) (Nat.le_refl _)) (SAq1.rd M (Zz9 _)) (fun r hr => hgL r (by rw [hlq1] at hr; exact (List.take_sublist _ _).subset (by simpa using hr)))) ?_
  clear T; rintro e wc ⟨ACu1, cCu1, ICu1, rfl, SVCu1, N⟩ ac T
  rw [htq] at SVCu1
  obtain ⟨bACu1, oACu1, SVCu1⟩ := SVCu1
  have SACu1 := SVCu1 w noEx
  replace M := (M.join N).swapI
  clear N
  replace M : Mem w noEx wc ((g3, .cells (bo lm1 ++ [])) :: (g2, .cells [Zi y.t0, Zi y.t1, Zi y.s0, Zi y.s1]) :: (g1, .cells [Zi l.first, Zi l.step, Zi l.span, Zi l.press, .slice A LL.length c]) :: ICu1) := M
  refine Zso hK _ _ (M.perm [0, 1, 2] rfl rfl) ?_; clear hK K
  refine g_q (v := (.slice ACu1 427 cCu1)) (T := T.pick [0, 1, 2, 3, 4, 5, 6, 7, 8, 10, 11, 12, 13, 14] rfl) (i := 8) rfl (by kernel_rfl) (by kernel_rfl : (Zpb 9 255).setIfInBounds 8 true = Zpb 9 511) si_U (fun _ _ _ h => h) rfl rfl rfl rfl (fun _ _ _ _ _ => (Zra rfl (T.e 0 rfl))) ?_; clear T ac; intro ac T
  refine Zgd (by kernel_rfl) ?_
  replace T := T.pick [0, 10, 11, 12, 13, 14] rfl
  refine Zns ?_
  refine Zsr ?_
  refine Zg4 (v1 := (Zj g2)) (v2 := (Zj g2)) T (Zq (Zrf (off := 0) rfl (T.e 2 rfl) (fun _ _ _ => by kernel_rfl))) rfl (Zf 0 0 rfl rfl) rfl (Zo M 1 0 rfl rfl rfl rfl) rfl (Za 0 rfl rfl) rfl ?_; clear T ac; intro ac T
  replace T := T.pick [0, 4, 5, 6, 7, 8, 9] rfl
  refine Zln ?_
  refine wp_block ?_
  refine wp_loop_n (fun mz ac wc => ∃ (a : Int) (ol : List Bool), mz = (y.t1 + 1 - a).toNat ∧ (y.t0 ≤ a ∧ a ≤ y.t1 + 1) ∧ (ol = (outM (canF l (l.first + l.step * (nt : Int)) ((voicesP (rowsOf LL) (g.take m) nt) ++ [y])) ((a + 30) * 7).toNat)) ∧ (ol.length = 427) ∧ Tm ac 102 [(1, .slice G g.length d), (2, Zi (nt : Int)), (3, Zj g1), (7, Zj g2), (8, .slice (some ⟨g3, 0, none⟩) 427 427), (9, .slice ACu1 427 cCu1), (10, Zi a)] ∧ Mem w noEx wc ((g3, .cells (bo ol ++ [])) :: (g2, .cells [Zi y.t0, Zi y.t1, Zi y.s0, Zi y.s1]) :: (g1, .cells [Zi l.first, Zi l.step, Zi l.span, Zi l.press, .slice A LL.length c]) :: ICu1)) ?_ ?_
  ·exact ⟨_, _, lm1, rfl, (by omega), (by rw [hlm1, ← outM_zero (canF l (l.first + l.step * (nt : Int)) ((voicesP (rowsOf LL) (g.take m) nt) ++ [y]))]; exact can_gap (p := 0) (by omega) (by omega) (fun i h1 h2 h3 => by unfold spotT spotS at h3; omega)), llm1, T.pick [5, 6, 4, 3, 2, 1, 0] rfl, M.mask [true, true, true] rfl⟩
  clear T M
  rintro mz ac wc ⟨a, ol, hmm1, ha, hol, hll, T, M⟩
  have Sol := Sp.pre (w := w) (ex := noEx) (size := 1) (n := ol.length) (g := g3) (xs := bo ol) (ys := []) (by simp [bo_length])
  rw [hll] at Sol
  refine wp_seq ?_
  refine Zsr ?_
  refine Zg5 (v2 := (Zj g2)) (v3 := (.pointer (some ⟨g2, 1, none⟩))) T (Zq (Zrm rfl (T.e 6 rfl))) rfl (Zf 0 4 rfl rfl) rfl (Zf 1 0 rfl rfl) rfl (Zo M 1 0 rfl rfl rfl rfl) rfl (fun _ T => Zq (rn_leq rfl (T.e 3 rfl) (T.e 0 rfl))) rfl ?_; clear T ac; intro ac T
  replace T := T.pick [0, 5, 6, 7, 8, 9, 10, 11] rfl
  refine Zln ?_
  refine wp_if (T.e 0 rfl) ?_ ?_
  ·intro h2
   refine Zsk ?_
   refine wp_seq ?_
   refine wp_block ?_
   refine Zsr ?_
   refine Zg4 (v1 := (.pointer (some ⟨g2, 2, none⟩))) (v2 := (.pointer (some ⟨g2, 2, none⟩))) T (Zq (Zrf (off := 2) rfl (T.e 4 rfl) (fun _ _ _ => by kernel_rfl))) rfl (Zf 0 0 rfl rfl) rfl (Zo M 1 0 rfl rfl rfl rfl) rfl (Za 0 rfl rfl) rfl ?_; clear T ac; intro ac T
   replace T := T.pick [0, 5, 6, 7, 8, 9, 10, 11] rfl
   refine Zln ?_
   refine wp_block ?_
   refine wp_loop_n (fun mz ac wc => ∃ (r9 : Int) (ol2 : List Bool), mz = (y.s1 + 1 - r9).toNat ∧ (y.s0 ≤ r9 ∧ r9 ≤ y.s1 + 1) ∧ (ol2 = (outM (canF l (l.first + l.step * (nt : Int)) ((voicesP (rowsOf LL) (g.take m) nt) ++ [y])) ((a + 30) * 7 + r9 + 3).toNat)) ∧ (ol2.length = 427) ∧ Tm ac 102 [(1, .slice G g.length d), (2, Zi (nt : Int)), (3, Zj g1), (7, Zj g2), (8, .slice (some ⟨g3, 0, none⟩) 427 427), (9, .slice ACu1 427 cCu1), (10, Zi a), (11, Zi r9)] ∧ Mem w noEx wc ((g3, .cells (bo ol2 ++ [])) :: (g2, .cells [Zi y.t0, Zi y.t1, Zi y.s0, Zi y.s1]) :: (g1, .cells [Zi l.first, Zi l.step, Zi l.span, Zi l.press, .slice A LL.length c]) :: ICu1)) ?_ ?_
   ·exact ⟨_, _, ol, rfl, (by omega), (by rw [hol]; exact can_gap (by omega) (by omega) (fun i h1 h2 h3 => by unfold spotT spotS at h3; omega)), hll, T.pick [1, 2, 3, 4, 5, 6, 7, 0] rfl, M.mask [true, true, true] rfl⟩
   clear T M
   rintro mz ac wc ⟨r9, ol2, hmm2, hr9, hol2, hll2, T, M⟩
   have Sol2 := Sp.pre (w := w) (ex := noEx) (size := 1) (n := ol2.length) (g := g3) (xs := bo ol2) (ys := []) (by simp [bo_length])
   rw [hll2] at Sol2
   refine wp_seq ?_
   refine Zsr ?_
   refine Zg5 (v2 := (.pointer (some ⟨g2, 2, none⟩))) (v3 := (.pointer (some ⟨g2, 3, none⟩))) T (Zq (Zrm rfl (T.e 7 rfl))) rfl (Zf 2 4 rfl rfl) rfl (Zf 1 0 rfl rfl) rfl (Zo M 1 0 rfl rfl rfl rfl) rfl (fun _ T => Zq (rn_leq rfl (T.e 3 rfl) (T.e 0 rfl))) rfl ?_; clear T ac; intro ac T
   replace T := T.pick [0, 5, 6, 7, 8, 9, 10, 11, 12] rfl
   refine Zln ?_
   refine wp_if (T.e 0 rfl) ?_ ?_
   ·intro h3
    obtain ⟨pl, hpl⟩ : ∃ q : Nat, ((a + 30) * 7 + r9 + 3) = (q : Int) := ⟨((a + 30) * 7 + r9 + 3).toNat, by omega⟩
    have hpt : spotT pl = a ∧ spotS pl = r9 := by unfold spotT spotS; omega
    obtain ⟨pv, hkpl, -⟩ := bo_next (l := ol2) (k := pl) (by omega)
    have hin : (y.t0 ≤ spotT pl ∧ spotT pl ≤ y.t1) ∧ y.s0 ≤ spotS pl ∧ spotS pl ≤ y.s1 := by rw [hpt.1, hpt.2]; omega
    refine Zsk ?_
    refine wp_seq ?_
    refine wp_block ?_
    refine Zsr ?_
    refine Zg4 T (Zq (Zrm rfl (T.e 1 rfl))) rfl (Zl Tryz.underlying33 0 rfl rfl) rfl (fun _ T => Zq (rn_eql rfl (T.e 0 rfl) evc)) rfl (Za 0 rfl rfl) rfl ?_; clear T ac; intro ac T
    replace T := T.pick [0, 5, 6, 7, 8, 9, 10, 11, 12] rfl
    refine Zln ?_
    refine wp_seq ?_
    refine Zsr ?_
    refine lq T (Zra rfl evc) ?_; clear T ac; intro ac T
    refine Zln ?_
    refine wp_block ?_
    refine wp_loop_n (fun mz ac wc => ∃ (i : Nat) (is : Bool), mz = 427 - i ∧ (i ≤ 427) ∧ (is = upTo l (l.first + l.step * (nt : Int)) (voicesP (rowsOf LL) (g.take m) nt) a r9 i) ∧ Tm ac 102 [(1, .slice G g.length d), (2, Zi (nt : Int)), (3, Zj g1), (7, Zj g2), (8, .slice (some ⟨g3, 0, none⟩) 427 427), (9, .slice ACu1 427 cCu1), (10, Zi a), (11, Zi r9), (12, .bool is), (13, Zi (i : Int))] ∧ Mem w noEx wc ((g3, .cells (bo ol2 ++ [])) :: (g2, .cells [Zi y.t0, Zi y.t1, Zi y.s0, Zi y.s1]) :: (g1, .cells [Zi l.first, Zi l.step, Zi l.span, Zi l.press, .slice A LL.length c]) :: ICu1)) ?_ ?_
    ·rw [Zdf (show ¬ ((g.length : Nat) : Int) = 1 by omega)] at T
     exact ⟨_, 0, false, rfl, (Nat.zero_le _), rfl, T.pick [2, 3, 4, 5, 6, 7, 8, 9, 1, 0] rfl, M.mask [true, true, true] rfl⟩
    clear T M
    rintro mz ac wc ⟨i, is, hmm3, hi, his, T, M⟩
    refine wp_seq ?_
    refine cut_seq (fun ac wc => Tm ac 102 [(1, .slice G g.length d), (2, Zi (nt : Int)), (3, Zj g1), (7, Zj g2), (8, .slice (some ⟨g3, 0, none⟩) 427 427), (9, .slice ACu1 427 cCu1), (10, Zi a), (11, Zi r9), (12, .bool is), (13, Zi (i : Int)), (69, .bool ((decide ((i : Int) < 427)) && (!is)))] ∧ Mem w noEx wc ((g3, .cells (bo ol2 ++ [])) :: (g2, .cells [Zi y.t0, Zi y.t1, Zi y.s0, Zi y.s1]) :: (g1, .cells [Zi l.first, Zi l.step, Zi l.span, Zi l.press, .slice A LL.length c]) :: ICu1)) ?_ ?_
    ·refine wp_region_lit ?_
     refine Zg5 (v3 := (Zi 427)) T (Zq (Zrm rfl (T.e 9 rfl))) rfl (Zm 6 rfl rfl) rfl (Zl Tryz.underlying155 0 rfl rfl) rfl (fun _ T => Zq (rn_lss rfl (T.e 2 rfl) (T.e 0 rfl))) rfl (Zm 0 rfl rfl) rfl ?_; clear T ac; intro ac T
     rcases Bool.eq_false_or_eq_true (decide ((i : Int) < 427)) with h4 | h4
     ·replace h4 := of_decide_eq_true h4
      refine Zg3 T (Zw (Zwy rfl rfl (T.e 0 rfl) (Zdt h4)) (Zrm rfl (T.e 13 rfl))) rfl (fun _ T => Zw (Zwy rfl rfl (T.e 1 rfl) (Zdt h4)) (rn_not rfl (T.e 0 rfl))) rfl (fun _ T => Zq (Zr1 rfl (T.e 2 rfl) (Zdt h4) (T.e 0 rfl))) rfl ?_; clear T ac; intro ac T
      refine wpList_nil ?_
      replace T := T.pick [0, 1, 2, 8, 9, 10, 11, 12, 13, 14, 15, 16, 17] rfl
      exact ⟨(T.pick (E' := [(1, .slice G g.length d), (2, Zi (nt : Int)), (3, Zj g1), (7, Zj g2), (8, .slice (some ⟨g3, 0, none⟩) 427 427), (9, .slice ACu1 427 cCu1), (10, Zi a), (11, Zi r9), (12, .bool is), (13, Zi (i : Int)), (69, .bool (!is))]) [3, 4, 5, 6, 7, 8, 9, 10, 11, 12, 0] rfl).as (by (try rw [show (decide ((i : Int) < 427)) = true from (Zdt h4)]); (try rfl)), M.mask [true, true, true] rfl⟩
     replace h4 := of_decide_eq_false h4
     refine Zg3 T (Zp (Zwn rfl rfl (T.e 0 rfl) (Zdf h4))) rfl (fun _ T => Zp (Zwn rfl rfl (T.e 1 rfl) (Zdf h4))) rfl (fun _ T => Zq (Zr0 rfl (T.e 2 rfl) (Zdf h4) evc)) rfl ?_; clear T ac; intro ac T
     refine wpList_nil ?_
     replace T := T.pick [0, 1, 2, 8, 9, 10, 11, 12, 13, 14, 15, 16, 17] rfl
     exact ⟨(T.pick (E' := [(1, .slice G g.length d), (2, Zi (nt : Int)), (3, Zj g1), (7, Zj g2), (8, .slice (some ⟨g3, 0, none⟩) 427 427), (9, .slice ACu1 427 cCu1), (10, Zi a), (11, Zi r9), (12, .bool is), (13, Zi (i : Int)), (69, .bool false)]) [3, 4, 5, 6, 7, 8, 9, 10, 11, 12, 0] rfl).as (by (try rw [show (decide ((i : Int) < 427)) = false from (Zdf h4)]); (try rfl)), M.mask [true, true, true] rfl⟩
    clear T M
    rintro ac wc ⟨T, M⟩
    refine wp_cond_split (T.e 10 rfl) ?_ ?_
    ·intro h5
     (have h5' := h5; try simp only [Zb1, Zb2, Zb3, Zb4, Zb5, Zb6, Zb7] at h5')
     obtain ⟨hi4, his4⟩ : i < 427 ∧ is = false := by simp at h5; exact ⟨by omega, h5.2⟩
     have hkb := canB_at (l := l) (due := (l.first + l.step * (nt : Int))) (ts := (voicesP (rowsOf LL) (g.take m) nt)) hi4
     obtain ⟨bv, hbv⟩ : ∃ q, q = canF l (l.first + l.step * (nt : Int)) (voicesP (rowsOf LL) (g.take m) nt) i := ⟨_, rfl⟩
     rw [← hbv] at hkb
     have hag : agreeP l (l.first + l.step * (nt : Int)) (a - ((Int.tdiv (i : Int) 7) - 30)) (r9 - ((Int.tmod (i : Int) 7) - 3)) = agreeP l (l.first + l.step * (nt : Int)) (a - spotT i) (r9 - spotS i) := by rw [spot_div, spot_mod]; rfl
     have hsd := spot_div (i := i)
     have hsm := spot_mod (i := i)
     refine Zsk ?_
     refine wp_seq ?_
     refine wp_block ?_
     refine wp_region_lit ?_
     refine Zg5 T (Zq (Zrm rfl (T.e 5 rfl))) rfl (Zm 10 rfl rfl) rfl (fun _ T => Zq (Zri (size := 1) i rfl (T.e 1 rfl) (T.e 0 rfl) ⟨_, Tryz.underlying155, by kernel_rfl⟩ rfl (by omega) (SACu1.at0 (by omega)))) rfl (fun _ T => Zq (rn_cell (Sp.boC0 SACu1 M (.cons _ (.cons _ (.cons _ (List.Sublist.refl _)))) hkb) rfl (T.e 0 rfl))) rfl (Zm 0 rfl rfl) rfl ?_; clear T ac; intro ac T
     rcases Bool.eq_false_or_eq_true bv with h6 | h6
     ·refine Zg8 (v1 := (Zj g1)) T (Zw (Zwy rfl rfl (T.e 0 rfl) h6) (Zrf (off := 0) rfl (T.e 7 rfl) (fun _ _ _ => by kernel_rfl))) rfl (fun _ T => Zw (Zwy rfl rfl (T.e 1 rfl) h6) (Zrr (Mem.nth M 2 rfl) rfl (T.e 0 rfl) rfl)) rfl (fun _ T => Zw (Zwy rfl rfl (T.e 2 rfl) h6) (Zrm rfl (T.e 8 rfl))) rfl (fun _ T => Zw (Zwy rfl rfl (T.e 3 rfl) h6) (Zrm rfl (T.e 14 rfl))) rfl (fun _ T => Zw (Zwy rfl rfl (T.e 4 rfl) h6) (Zrm rfl (T.e 18 rfl))) rfl (fun _ T => Zw (Zwy rfl rfl (T.e 5 rfl) h6) (rn_quo rfl (T.e 0 rfl) evc (by omega) (by omega))) rfl (fun _ T => Zw (Zwy rfl rfl (T.e 6 rfl) h6) (rn_sub rfl (T.e 0 rfl) evc (by omega))) rfl (fun _ T => Zw (Zwy rfl rfl (T.e 7 rfl) h6) (rn_sub rfl (T.e 3 rfl) (T.e 0 rfl) (by omega))) rfl ?_; clear T ac; intro ac T
      refine Zg5 T (Zw (Zwy rfl rfl (T.e 8 rfl) h6) (Zrm rfl (T.e 20 rfl))) rfl (fun _ T => Zw (Zwy rfl rfl (T.e 9 rfl) h6) (Zrm rfl (T.e 23 rfl))) rfl (fun _ T => Zw (Zwy rfl rfl (T.e 10 rfl) h6) (rn_rem rfl (T.e 0 rfl) evc (by omega))) rfl (fun _ T => Zw (Zwy rfl rfl (T.e 11 rfl) h6) (rn_sub rfl (T.e 0 rfl) evc (by omega))) rfl (fun _ T => Zw (Zwy rfl rfl (T.e 12 rfl) h6) (rn_sub rfl (T.e 3 rfl) (T.e 0 rfl) (by omega))) rfl ?_; clear T ac; intro ac T
      refine l_w (Zwy rfl rfl (T.e 13 rfl) h6) ?_; intro K hK
      refine Zoc (first := []) (cap := []) T rfl rfl rfl rfl evf (.cons (T.e 11 rfl) (.cons (T.e 10 rfl) (.cons (T.e 5 rfl) (.cons (T.e 0 rfl) .nil)))) Tryz.func116 rfl rfl ?_
      refine Calls.mono (kept5_any l (nt : Int) (a - ((Int.tdiv (i : Int) 7) - 30)) (r9 - ((Int.tmod (i : Int) 7) - 3)) _ gl hnt9 gd (by omega) (by omega)) ?_
      clear T; rintro e wc ⟨rfl, hb⟩ ac T
      replace M := M.call hb; clear hb
      refine Zso hK _ _ ?_; clear hK K
      refine lq T (Zr1 rfl (T.e 14 rfl) h6 (T.e 0 rfl)) ?_; clear T ac; intro ac T
      refine l_q (v := (.bool (agreeP l (l.first + l.step * (nt : Int)) (a - ((Int.tdiv (i : Int) 7) - 30)) (r9 - ((Int.tmod (i : Int) 7) - 3))))) (T.pick [0, 1, 2, 3, 4, 5, 6, 7, 8, 9, 10, 11, 12, 13, 14, 15, 16, 17, 18, 19, 20, 21, 22, 23, 24, 25, 26, 27, 29, 30] rfl) rfl rfl rfl rfl (Zra rfl (T.e 0 rfl)) ?_; clear T ac; intro ac T
      refine wpList_nil ?_
      replace T := T.pick [0, 2, 3, 4, 5, 6, 7, 8, 9, 10, 11, 12, 13, 14, 15, 21, 22, 23, 24, 25, 26, 27, 28, 29] rfl
      refine Znb ?_
      refine nm_then ?_
      refine wp_region_lit ?_
      refine Zg2 T (Zq (Zrm rfl (T.e 23 rfl))) rfl (fun _ T => Zq (rn_add rfl (T.e 0 rfl) evc (by omega))) rfl ?_; clear T ac; intro ac T
      refine l_q (v := (Zi ((i : Int) + 1))) (T.pick [0, 1, 2, 3, 4, 5, 6, 7, 8, 9, 10, 11, 12, 13, 14, 15, 16, 17, 18, 19, 20, 21, 22, 23, 24] rfl) rfl rfl rfl rfl (Zra rfl (T.e 0 rfl)) ?_; clear T ac; intro ac T
      replace T := T.pick [0, 3, 4, 5, 6, 7, 8, 9, 10, 11, 12, 13, 14, 15, 16, 17, 18, 19, 20, 21, 22, 23, 24, 25] rfl
      refine Zln ?_
      exact ⟨_, by omega, i + 1, _, rfl, (by omega), (by rw [upTo_succ, ← his, his4, Bool.false_or, ← hbv]; first | (rw [show bv = true by assumption, Bool.true_and]; exact hag) | (rw [show bv = false by assumption]; rfl)), T.pick [16, 17, 18, 19, 20, 21, 22, 23, 1, 0] rfl, M.mask [true, true, true] rfl⟩
     refine Zg8 T (Zp (Zwn rfl rfl (T.e 0 rfl) h6)) rfl (fun _ T => Zp (Zwn rfl rfl (T.e 1 rfl) h6)) rfl (fun _ T => Zp (Zwn rfl rfl (T.e 2 rfl) h6)) rfl (fun _ T => Zp (Zwn rfl rfl (T.e 3 rfl) h6)) rfl (fun _ T => Zp (Zwn rfl rfl (T.e 4 rfl) h6)) rfl (fun _ T => Zp (Zwn rfl rfl (T.e 5 rfl) h6)) rfl (fun _ T => Zp (Zwn rfl rfl (T.e 6 rfl) h6)) rfl (fun _ T => Zp (Zwn rfl rfl (T.e 7 rfl) h6)) rfl ?_; clear T ac; intro ac T
     refine Zg7 T (Zp (Zwn rfl rfl (T.e 8 rfl) h6)) rfl (fun _ T => Zp (Zwn rfl rfl (T.e 9 rfl) h6)) rfl (fun _ T => Zp (Zwn rfl rfl (T.e 10 rfl) h6)) rfl (fun _ T => Zp (Zwn rfl rfl (T.e 11 rfl) h6)) rfl (fun _ T => Zp (Zwn rfl rfl (T.e 12 rfl) h6)) rfl (fun _ T => Zp (Zwn rfl rfl (T.e 13 rfl) h6)) rfl (fun _ T => Zq (Zr0 rfl (T.e 14 rfl) h6 evc)) rfl ?_; clear T ac; intro ac T
     refine l_q (v := (.bool false)) (T.pick [0, 1, 2, 3, 4, 5, 6, 7, 8, 9, 10, 11, 12, 13, 14, 15, 16, 17, 18, 19, 20, 21, 22, 23, 24, 25, 26, 27, 29, 30] rfl) rfl rfl rfl rfl (Zra rfl (T.e 0 rfl)) ?_; clear T ac; intro ac T
     refine wpList_nil ?_
     replace T := T.pick [0, 2, 3, 4, 5, 6, 7, 8, 9, 10, 11, 12, 13, 14, 15, 21, 22, 23, 24, 25, 26, 27, 28, 29] rfl
     refine Znb ?_
     refine nm_then ?_
     refine wp_region_lit ?_
     refine Zg2 T (Zq (Zrm rfl (T.e 23 rfl))) rfl (fun _ T => Zq (rn_add rfl (T.e 0 rfl) evc (by omega))) rfl ?_; clear T ac; intro ac T
     refine l_q (v := (Zi ((i : Int) + 1))) (T.pick [0, 1, 2, 3, 4, 5, 6, 7, 8, 9, 10, 11, 12, 13, 14, 15, 16, 17, 18, 19, 20, 21, 22, 23, 24] rfl) rfl rfl rfl rfl (Zra rfl (T.e 0 rfl)) ?_; clear T ac; intro ac T
     replace T := T.pick [0, 3, 4, 5, 6, 7, 8, 9, 10, 11, 12, 13, 14, 15, 16, 17, 18, 19, 20, 21, 22, 23, 24, 25] rfl
     refine Zln ?_
     exact ⟨_, by omega, i + 1, _, rfl, (by omega), (by rw [upTo_succ, ← his, his4, Bool.false_or, ← hbv]; first | (rw [show bv = true by assumption, Bool.true_and]; exact hag) | (rw [show bv = false by assumption]; rfl)), T.pick [16, 17, 18, 19, 20, 21, 22, 23, 1, 0] rfl, M.mask [true, true, true] rfl⟩
    intro h5
    (have h5' := h5; try simp only [Zb1, Zb2, Zb3, Zb4, Zb5, Zb6, Zb7] at h5')
    have hisv : is = (canF l (l.first + l.step * (nt : Int)) ((voicesP (rowsOf LL) (g.take m) nt) ++ [y])) pl := by rw [canF_step hne hgood hin, hpt.1, hpt.2]; cases hq : is with | true => (rw [hq] at his; exact (upTo_mono hi his.symm).symm) | false => (have hi5 : i = 427 := by simp [hq] at h5; omega); rw [hq, hi5] at his; exact his
    refine wp_exit ?_
    refine Zet ?_
    refine Zet ?_
    refine ex_hit ?_
    refine nm_then ?_
    refine wp_region_lit ?_
    refine Zg8 T (Zq (Zrm rfl (T.e 4 rfl))) rfl (Zm 7 rfl rfl) rfl (fun _ T => Zq (rn_add rfl (T.e 0 rfl) evc (by omega))) rfl (fun _ T => Zq (rn_mul rfl (T.e 0 rfl) evc (by omega))) rfl (Zm 11 rfl rfl) rfl (fun _ T => Zq (rn_add rfl (T.e 1 rfl) (T.e 0 rfl) (by omega))) rfl (fun _ T => Zq (rn_add rfl (T.e 0 rfl) evc (by omega))) rfl (Zm 15 rfl rfl) rfl ?_; clear T ac; intro ac T
    refine lq T (Zri (size := 1) pl rfl (T.e 7 rfl) (T.e 1 rfl) ⟨_, Tryz.underlying155, by kernel_rfl⟩ hpl (by omega) rfl) ?_; clear T ac; intro ac T
    refine Zl2 ?_
    refine ow_stK boE 1 (fun _ => rfl) 0 (p' := (is : Bool)) M T rfl rfl (T.e 0 rfl) (T.e 1 rfl) rfl hkpl rfl (Nat.le_of_ble_eq_true rfl) rfl rfl .head ?_; clear M T; intro wc ac M T
    obtain ⟨lo1, hlo1⟩ : ∃ q : List Bool, q = ol2.set pl (is) := ⟨_, rfl⟩
    have lhlo1 : lo1.length = ol2.length := by rw [hlo1, List.length_set]
    replace M : Mem w noEx wc ((g3, .cells (bo lo1 ++ [])) :: (g2, .cells [Zi y.t0, Zi y.t1, Zi y.s0, Zi y.s1]) :: (g1, .cells [Zi l.first, Zi l.step, Zi l.span, Zi l.press, .slice A LL.length c]) :: ICu1) := by rw [hlo1]; exact M
    have Ss2 := Sp.pre (w := w) (ex := noEx) (size := 1) (n := lo1.length) (g := g3) (xs := bo lo1) (ys := []) (by simp [bo_length])
    rw [lhlo1] at Ss2
    refine wpList_nil ?_
    replace T := T.pick [9, 10, 11, 12, 13, 14, 15, 16] rfl
    refine Znb ?_
    refine nm_then ?_
    refine wp_region_lit ?_
    refine Zg2 T (Zq (Zrm rfl (T.e 7 rfl))) rfl (fun _ T => Zq (rn_add rfl (T.e 0 rfl) evc (by omega))) rfl ?_; clear T ac; intro ac T
    refine l_q (v := (Zi (r9 + 1))) (T.pick [0, 1, 2, 3, 4, 5, 6, 7, 8] rfl) rfl rfl rfl rfl (Zra rfl (T.e 0 rfl)) ?_; clear T ac; intro ac T
    replace T := T.pick [0, 3, 4, 5, 6, 7, 8, 9] rfl
    refine Zln ?_
    exact ⟨_, by omega, _, lo1, rfl, (by omega), (by rw [hlo1, hol2, hpl, Int.toNat_natCast, show (a + 30) * 7 + (r9 + 1) + 3 = ((pl + 1 : Nat) : Int) by omega, Int.toNat_natCast, hisv]; exact outM_set (by omega)), (by rw [lhlo1, hll2]), T.pick [1, 2, 3, 4, 5, 6, 7, 0] rfl, M.mask [true, true, true] rfl⟩
   intro h3
   refine wp_exit ?_
   refine Zet ?_
   refine Zet ?_
   refine ex_hit ?_
   refine Znb ?_
   refine nm_then ?_
   refine wp_region_lit ?_
   refine Zg2 T (Zq (Zrm rfl (T.e 7 rfl))) rfl (fun _ T => Zq (rn_add rfl (T.e 0 rfl) evc (by omega))) rfl ?_; clear T ac; intro ac T
   refine l_q (v := (Zi (a + 1))) (T.pick [0, 1, 2, 3, 4, 5, 6, 7, 8, 10] rfl) rfl rfl rfl rfl (Zra rfl (T.e 0 rfl)) ?_; clear T ac; intro ac T
   replace T := T.pick [0, 4, 5, 6, 7, 8, 9] rfl
   refine Zln ?_
   exact ⟨_, by omega, _, ol2, rfl, (by omega), (by rw [hol2]; exact can_gap (by omega) (by omega) (fun i h1 h2 h3 => by unfold spotT spotS at h3; omega)), hll2, T.pick [1, 2, 3, 4, 5, 6, 0] rfl, M.mask [true, true, true] rfl⟩
  intro h2
  have hfin : ol = canB l (l.first + l.step * (nt : Int)) ((voicesP (rowsOf LL) (g.take m) nt) ++ [y]) := by rw [hol]; exact can_gap (q := 427) (by omega) (by omega) (fun i h1 h2 h3 => by unfold spotT spotS at h3; omega)
  refine wp_exit ?_
  refine Zet ?_
  refine Zet ?_
  refine ex_hit ?_
  refine nm_then ?_
  refine Zsr ?_
  refine Zg2 T (Zq (Zrm rfl (T.e 5 rfl))) rfl (Za 0 rfl rfl) rfl ?_; clear T ac; intro ac T
  refine wpList_nil ?_
  replace T := T.pick [0] rfl
  replace M := M.mask [true, false, false] rfl
  refine Znr ?_
  refine rt_1 T rfl (T.e 0 rfl) ?_
  rw [← hfin]
  exact ⟨_, _, [(g3, .cells (bo ol ++ []))], rfl, ⟨g3, 0, fun w ex => (Sp.pre (by simp [bo_length, hll]))⟩, M.sub (List.Sublist.cons_cons _ (Zz9 _))⟩
 intro h1
 have hm0 : m = 0 := by omega
 refine Zsk ?_
 refine wp_seq ?_
 refine Zsr ?_
 refine Zg4 (v1 := (Zj g2)) (v2 := (Zj g2)) T (Zq (Zrf (off := 0) rfl (T.e 3 rfl) (fun _ _ _ => by kernel_rfl))) rfl (Zf 0 0 rfl rfl) rfl (Zo M 1 0 rfl rfl rfl rfl) rfl (Za 0 rfl rfl) rfl ?_; clear T ac; intro ac T
 replace T := T.pick [0, 5, 6, 7, 8, 9, 10] rfl
 refine Zln ?_
 refine wp_block ?_
 refine wp_loop_n (fun mz ac wc => ∃ (a : Int) (ol : List Bool), mz = (y.t1 + 1 - a).toNat ∧ (y.t0 ≤ a ∧ a ≤ y.t1 + 1) ∧ (ol = (outM (canF l (l.first + l.step * (nt : Int)) ((voicesP (rowsOf LL) (g.take m) nt) ++ [y])) ((a + 30) * 7).toNat)) ∧ (ol.length = 427) ∧ Tm ac 102 [(1, .slice G g.length d), (2, Zi (nt : Int)), (3, Zj g1), (7, Zj g2), (8, .slice (some ⟨g3, 0, none⟩) 427 427), (9, .slice none 0 0), (10, Zi a)] ∧ Mem w noEx wc [(g3, .cells (bo ol ++ [])), (g2, .cells [Zi y.t0, Zi y.t1, Zi y.s0, Zi y.s1]), (g1, .cells [Zi l.first, Zi l.step, Zi l.span, Zi l.press, .slice A LL.length c])]) ?_ ?_
 ·exact ⟨_, _, lm1, rfl, (by omega), (by rw [hlm1, ← outM_zero (canF l (l.first + l.step * (nt : Int)) ((voicesP (rowsOf LL) (g.take m) nt) ++ [y]))]; exact can_gap (p := 0) (by omega) (by omega) (fun i h1 h2 h3 => by unfold spotT spotS at h3; omega)), llm1, T.pick [5, 6, 4, 3, 2, 1, 0] rfl, M.mask [true, true, true] rfl⟩
 clear T M
 rintro mz ac wc ⟨a, ol, hmm1, ha, hol, hll, T, M⟩
 have Sol := Sp.pre (w := w) (ex := noEx) (size := 1) (n := ol.length) (g := g3) (xs := bo ol) (ys := []) (by simp [bo_length])
 rw [hll] at Sol
 refine wp_seq ?_
 refine Zsr ?_
 refine Zg5 (v2 := (Zj g2)) (v3 := (.pointer (some ⟨g2, 1, none⟩))) T (Zq (Zrm rfl (T.e 6 rfl))) rfl (Zf 0 4 rfl rfl) rfl (Zf 1 0 rfl rfl) rfl (Zo M 1 0 rfl rfl rfl rfl) rfl (fun _ T => Zq (rn_leq rfl (T.e 3 rfl) (T.e 0 rfl))) rfl ?_; clear T ac; intro ac T
 replace T := T.pick [0, 5, 6, 7, 8, 9, 10, 11] rfl
 refine Zln ?_
 refine wp_if (T.e 0 rfl) ?_ ?_
 ·intro h7
  refine Zsk ?_
  refine wp_seq ?_
  refine wp_block ?_
  refine Zsr ?_
  refine Zg4 (v1 := (.pointer (some ⟨g2, 2, none⟩))) (v2 := (.pointer (some ⟨g2, 2, none⟩))) T (Zq (Zrf (off := 2) rfl (T.e 4 rfl) (fun _ _ _ => by kernel_rfl))) rfl (Zf 0 0 rfl rfl) rfl (Zo M 1 0 rfl rfl rfl rfl) rfl (Za 0 rfl rfl) rfl ?_; clear T ac; intro ac T
  replace T := T.pick [0, 5, 6, 7, 8, 9, 10, 11] rfl
  refine Zln ?_
  refine wp_block ?_
  refine wp_loop_n (fun mz ac wc => ∃ (r9 : Int) (ol2 : List Bool), mz = (y.s1 + 1 - r9).toNat ∧ (y.s0 ≤ r9 ∧ r9 ≤ y.s1 + 1) ∧ (ol2 = (outM (canF l (l.first + l.step * (nt : Int)) ((voicesP (rowsOf LL) (g.take m) nt) ++ [y])) ((a + 30) * 7 + r9 + 3).toNat)) ∧ (ol2.length = 427) ∧ Tm ac 102 [(1, .slice G g.length d), (2, Zi (nt : Int)), (3, Zj g1), (7, Zj g2), (8, .slice (some ⟨g3, 0, none⟩) 427 427), (9, .slice none 0 0), (10, Zi a), (11, Zi r9)] ∧ Mem w noEx wc [(g3, .cells (bo ol2 ++ [])), (g2, .cells [Zi y.t0, Zi y.t1, Zi y.s0, Zi y.s1]), (g1, .cells [Zi l.first, Zi l.step, Zi l.span, Zi l.press, .slice A LL.length c])]) ?_ ?_
  ·exact ⟨_, _, ol, rfl, (by omega), (by rw [hol]; exact can_gap (by omega) (by omega) (fun i h1 h2 h3 => by unfold spotT spotS at h3; omega)), hll, T.pick [1, 2, 3, 4, 5, 6, 7, 0] rfl, M.mask [true, true, true] rfl⟩
  clear T M
  rintro mz ac wc ⟨r9, ol2, hmm2, hr9, hol2, hll2, T, M⟩
  have Sol2 := Sp.pre (w := w) (ex := noEx) (size := 1) (n := ol2.length) (g := g3) (xs := bo ol2) (ys := []) (by simp [bo_length])
  rw [hll2] at Sol2
  refine wp_seq ?_
  refine Zsr ?_
  refine Zg5 (v2 := (.pointer (some ⟨g2, 2, none⟩))) (v3 := (.pointer (some ⟨g2, 3, none⟩))) T (Zq (Zrm rfl (T.e 7 rfl))) rfl (Zf 2 4 rfl rfl) rfl (Zf 1 0 rfl rfl) rfl (Zo M 1 0 rfl rfl rfl rfl) rfl (fun _ T => Zq (rn_leq rfl (T.e 3 rfl) (T.e 0 rfl))) rfl ?_; clear T ac; intro ac T
  replace T := T.pick [0, 5, 6, 7, 8, 9, 10, 11, 12] rfl
  refine Zln ?_
  refine wp_if (T.e 0 rfl) ?_ ?_
  ·intro h8
   obtain ⟨pl, hpl⟩ : ∃ q : Nat, ((a + 30) * 7 + r9 + 3) = (q : Int) := ⟨((a + 30) * 7 + r9 + 3).toNat, by omega⟩
   have hpt : spotT pl = a ∧ spotS pl = r9 := by unfold spotT spotS; omega
   obtain ⟨pv, hkpl, -⟩ := bo_next (l := ol2) (k := pl) (by omega)
   have hin : (y.t0 ≤ spotT pl ∧ spotT pl ≤ y.t1) ∧ y.s0 ≤ spotS pl ∧ spotS pl ≤ y.s1 := by rw [hpt.1, hpt.2]; omega
   refine Zsk ?_
   refine wp_seq ?_
   refine wp_block ?_
   refine Zsr ?_
   refine Zg4 T (Zq (Zrm rfl (T.e 1 rfl))) rfl (Zl Tryz.underlying33 0 rfl rfl) rfl (fun _ T => Zq (rn_eql rfl (T.e 0 rfl) evc)) rfl (Za 0 rfl rfl) rfl ?_; clear T ac; intro ac T
   replace T := T.pick [0, 5, 6, 7, 8, 9, 10, 11, 12] rfl
   refine Zln ?_
   refine wp_seq ?_
   refine Zsr ?_
   refine lq T (Zra rfl evc) ?_; clear T ac; intro ac T
   refine Zln ?_
   refine wp_block ?_
   refine wp_loop_n (fun mz ac wc => ∃ (i : Nat), mz = 0 ∧ (i = 0) ∧ Tm ac 102 [(1, .slice G g.length d), (2, Zi (nt : Int)), (3, Zj g1), (7, Zj g2), (8, .slice (some ⟨g3, 0, none⟩) 427 427), (9, .slice none 0 0), (10, Zi a), (11, Zi r9), (12, .bool true), (13, Zi (i : Int))] ∧ Mem w noEx wc [(g3, .cells (bo ol2 ++ [])), (g2, .cells [Zi y.t0, Zi y.t1, Zi y.s0, Zi y.s1]), (g1, .cells [Zi l.first, Zi l.step, Zi l.span, Zi l.press, .slice A LL.length c])]) ?_ ?_
   ·rw [Zdt (show ((g.length : Nat) : Int) = 1 by omega)] at T
    exact ⟨_, 0, rfl, rfl, T.pick [2, 3, 4, 5, 6, 7, 8, 9, 1, 0] rfl, M.mask [true, true, true] rfl⟩
   clear T M
   rintro mz ac wc ⟨i, hmm3, hi, T, M⟩
   have hisv : true = (canF l (l.first + l.step * (nt : Int)) ((voicesP (rowsOf LL) (g.take m) nt) ++ [y])) pl := by rw [show (voicesP (rowsOf LL) (g.take m) nt) = [] by rw [hm0]; rfl]; exact (canF_one hin).symm
   refine wp_seq ?_
   refine cut_seq (fun ac wc => Tm ac 102 [(1, .slice G g.length d), (2, Zi (nt : Int)), (3, Zj g1), (7, Zj g2), (8, .slice (some ⟨g3, 0, none⟩) 427 427), (9, .slice none 0 0), (10, Zi a), (11, Zi r9), (12, .bool true), (13, Zi (i : Int)), (69, .bool false)] ∧ Mem w noEx wc [(g3, .cells (bo ol2 ++ [])), (g2, .cells [Zi y.t0, Zi y.t1, Zi y.s0, Zi y.s1]), (g1, .cells [Zi l.first, Zi l.step, Zi l.span, Zi l.press, .slice A LL.length c])]) ?_ ?_
   ·refine wp_region_lit ?_
    refine Zg5 (v3 := (Zi 0)) T (Zq (Zrm rfl (T.e 9 rfl))) rfl (Zm 6 rfl rfl) rfl (Zl Tryz.underlying155 0 rfl rfl) rfl (fun _ T => Zq (rn_lss rfl (T.e 2 rfl) (T.e 0 rfl))) rfl (Zm 0 rfl rfl) rfl ?_; clear T ac; intro ac T
    rcases Bool.eq_false_or_eq_true (decide ((i : Int) < 0)) with h9 | h9
    ·replace h9 := of_decide_eq_true h9
     refine Zg3 (v2 := (.bool false)) T (Zw (Zwy rfl rfl (T.e 0 rfl) (Zdt h9)) (Zrm rfl (T.e 13 rfl))) rfl (fun _ T => Zw (Zwy rfl rfl (T.e 1 rfl) (Zdt h9)) (Zrq (rn_not rfl (T.e 0 rfl)) (by simp))) rfl (fun _ T => Zq (Zr1 rfl (T.e 2 rfl) (Zdt h9) (T.e 0 rfl))) rfl ?_; clear T ac; intro ac T
     refine wpList_nil ?_
     replace T := T.pick [0, 1, 2, 8, 9, 10, 11, 12, 13, 14, 15, 16, 17] rfl
     exact ⟨(T.pick (E' := [(1, .slice G g.length d), (2, Zi (nt : Int)), (3, Zj g1), (7, Zj g2), (8, .slice (some ⟨g3, 0, none⟩) 427 427), (9, .slice none 0 0), (10, Zi a), (11, Zi r9), (12, .bool true), (13, Zi (i : Int)), (69, .bool false)]) [3, 4, 5, 6, 7, 8, 9, 10, 11, 12, 0] rfl).as (by (try rw [show (decide ((i : Int) < 0)) = true from (Zdt h9)]); (try rfl)), M.mask [true, true, true] rfl⟩
    replace h9 := of_decide_eq_false h9
    refine Zg3 T (Zp (Zwn rfl rfl (T.e 0 rfl) (Zdf h9))) rfl (fun _ T => Zp (Zwn rfl rfl (T.e 1 rfl) (Zdf h9))) rfl (fun _ T => Zq (Zr0 rfl (T.e 2 rfl) (Zdf h9) evc)) rfl ?_; clear T ac; intro ac T
    refine wpList_nil ?_
    replace T := T.pick [0, 1, 2, 8, 9, 10, 11, 12, 13, 14, 15, 16, 17] rfl
    exact ⟨(T.pick (E' := [(1, .slice G g.length d), (2, Zi (nt : Int)), (3, Zj g1), (7, Zj g2), (8, .slice (some ⟨g3, 0, none⟩) 427 427), (9, .slice none 0 0), (10, Zi a), (11, Zi r9), (12, .bool true), (13, Zi (i : Int)), (69, .bool false)]) [3, 4, 5, 6, 7, 8, 9, 10, 11, 12, 0] rfl).as (by (try rw [show (decide ((i : Int) < 0)) = false from (Zdf h9)]); (try rfl)), M.mask [true, true, true] rfl⟩
   clear T M
   rintro ac wc ⟨T, M⟩
   refine wp_cond_false (T.e 10 rfl) ?_
   refine wp_exit ?_
   refine Zet ?_
   refine Zet ?_
   refine ex_hit ?_
   refine nm_then ?_
   refine wp_region_lit ?_
   refine Zg8 T (Zq (Zrm rfl (T.e 4 rfl))) rfl (Zm 7 rfl rfl) rfl (fun _ T => Zq (rn_add rfl (T.e 0 rfl) evc (by omega))) rfl (fun _ T => Zq (rn_mul rfl (T.e 0 rfl) evc (by omega))) rfl (Zm 11 rfl rfl) rfl (fun _ T => Zq (rn_add rfl (T.e 1 rfl) (T.e 0 rfl) (by omega))) rfl (fun _ T => Zq (rn_add rfl (T.e 0 rfl) evc (by omega))) rfl (Zm 15 rfl rfl) rfl ?_; clear T ac; intro ac T
   refine lq T (Zri (size := 1) pl rfl (T.e 7 rfl) (T.e 1 rfl) ⟨_, Tryz.underlying155, by kernel_rfl⟩ hpl (by omega) rfl) ?_; clear T ac; intro ac T
   refine Zl2 ?_
   refine ow_stK boE 1 (fun _ => rfl) 0 (p' := (true : Bool)) M T rfl rfl (T.e 0 rfl) (T.e 1 rfl) rfl hkpl rfl (Nat.le_of_ble_eq_true rfl) rfl rfl .head ?_; clear M T; intro wc ac M T
   obtain ⟨lo2, hlo2⟩ : ∃ q : List Bool, q = ol2.set pl (true) := ⟨_, rfl⟩
   have lhlo2 : lo2.length = ol2.length := by rw [hlo2, List.length_set]
   replace M : Mem w noEx wc [(g3, .cells (bo lo2 ++ [])), (g2, .cells [Zi y.t0, Zi y.t1, Zi y.s0, Zi y.s1]), (g1, .cells [Zi l.first, Zi l.step, Zi l.span, Zi l.press, .slice A LL.length c])] := by rw [hlo2]; exact M
   have Ss3 := Sp.pre (w := w) (ex := noEx) (size := 1) (n := lo2.length) (g := g3) (xs := bo lo2) (ys := []) (by simp [bo_length])
   rw [lhlo2] at Ss3
   refine wpList_nil ?_
   replace T := T.pick [9, 10, 11, 12, 13, 14, 15, 16] rfl
   refine Znb ?_
   refine nm_then ?_
   refine wp_region_lit ?_
   refine Zg2 T (Zq (Zrm rfl (T.e 7 rfl))) rfl (fun _ T => Zq (rn_add rfl (T.e 0 rfl) evc (by omega))) rfl ?_; clear T ac; intro ac T
   refine l_q (v := (Zi (r9 + 1))) (T.pick [0, 1, 2, 3, 4, 5, 6, 7, 8] rfl) rfl rfl rfl rfl (Zra rfl (T.e 0 rfl)) ?_; clear T ac; intro ac T
   replace T := T.pick [0, 3, 4, 5, 6, 7, 8, 9] rfl
   refine Zln ?_
   exact ⟨_, by omega, _, lo2, rfl, (by omega), (by rw [hlo2, hol2, hpl, Int.toNat_natCast, show (a + 30) * 7 + (r9 + 1) + 3 = ((pl + 1 : Nat) : Int) by omega, Int.toNat_natCast, hisv]; exact outM_set (by omega)), (by rw [lhlo2, hll2]), T.pick [1, 2, 3, 4, 5, 6, 7, 0] rfl, M.mask [true, true, true] rfl⟩
  intro h8
  refine wp_exit ?_
  refine Zet ?_
  refine Zet ?_
  refine ex_hit ?_
  refine Znb ?_
  refine nm_then ?_
  refine wp_region_lit ?_
  refine Zg2 T (Zq (Zrm rfl (T.e 7 rfl))) rfl (fun _ T => Zq (rn_add rfl (T.e 0 rfl) evc (by omega))) rfl ?_; clear T ac; intro ac T
  refine l_q (v := (Zi (a + 1))) (T.pick [0, 1, 2, 3, 4, 5, 6, 7, 8, 10] rfl) rfl rfl rfl rfl (Zra rfl (T.e 0 rfl)) ?_; clear T ac; intro ac T
  replace T := T.pick [0, 4, 5, 6, 7, 8, 9] rfl
  refine Zln ?_
  exact ⟨_, by omega, _, ol2, rfl, (by omega), (by rw [hol2]; exact can_gap (by omega) (by omega) (fun i h1 h2 h3 => by unfold spotT spotS at h3; omega)), hll2, T.pick [1, 2, 3, 4, 5, 6, 0] rfl, M.mask [true, true, true] rfl⟩
 intro h7
 have hfin : ol = canB l (l.first + l.step * (nt : Int)) ((voicesP (rowsOf LL) (g.take m) nt) ++ [y]) := by rw [hol]; exact can_gap (q := 427) (by omega) (by omega) (fun i h1 h2 h3 => by unfold spotT spotS at h3; omega)
 refine wp_exit ?_
 refine Zet ?_
 refine Zet ?_
 refine ex_hit ?_
 refine nm_then ?_
 refine Zsr ?_
 refine Zg2 T (Zq (Zrm rfl (T.e 5 rfl))) rfl (Za 0 rfl rfl) rfl ?_; clear T ac; intro ac T
 refine wpList_nil ?_
 replace T := T.pick [0] rfl
 replace M := M.mask [true, false, false] rfl
 refine Znr ?_
 refine rt_1 T rfl (T.e 0 rfl) ?_
 rw [← hfin]
 exact ⟨_, _, [(g3, .cells (bo ol ++ []))], rfl, ⟨g3, 0, fun w ex => (Sp.pre (by simp [bo_length, hll]))⟩, M.sub (List.Sublist.cons_cons _ (Zz9 _))⟩
open Go.RowKit
structure Two where
 nt : Int
 row : Int
 lo : Snd
 hi : Snd
def twoAt (R : List (List Snd)) (g : List Int) (n i : Nat) : Two := ⟨n, g.getD i 0, voiceP R n (g.getD i 0), voiceP R n (g.getD (i + 1) 0)⟩
def prsN (R : List (List Snd)) (g : List Int) (n : Nat) : List Two := (List.range (g.length - 1)).map (twoAt R g n)
def prsL (R : List (List Snd)) (g : List Int) : List Two := (List.range (notesP R)).flatMap (prsN R g)
def prsQ (R : List (List Snd)) (g : List Int) (k m : Nat) : List Two := (List.range k).flatMap (prsN R g) ++ (prsN R g k).take m
def awayP (l : Lw) (x : Two) : Int := offP l (l.first + l.step * x.nt) x.lo x.hi
def spanL (l : Lw) (P : List Two) : Int := P.foldl (fun n x => max n (awayP l x)) 0
def badL (l : Lw) (P : List Two) : Option Two := P.find? fun x => decide (l.span < awayP l x)
theorem prsN_length (R : List (List Snd)) (g : List Int) (n : Nat) : (prsN R g n).length = g.length - 1 := by simp [prsN]
theorem prsQ_step {R : List (List Snd)} {g : List Int} {k m : Nat} (h : m + 1 < g.length) : prsQ R g k (m + 1) = prsQ R g k m ++ [twoAt R g k m] := by
 unfold prsQ
 rw [List.take_add_one, List.append_assoc]
 congr 2
 unfold prsN
 rw [List.getElem?_map, List.getElem?_range (by omega)]
 rfl
theorem prsQ_row {R : List (List Snd)} {g : List Int} {k m : Nat} (h : ¬ m + 1 < g.length) : prsQ R g k m = prsQ R g (k + 1) 0 := by
 unfold prsQ
 rw [List.take_of_length_le (by rw [prsN_length]; omega), List.range_succ]
 simp
theorem prsQ_end {R : List (List Snd)} {g : List Int} {k : Nat} (h : k = notesP R) : prsQ R g k 0 = prsL R g := by
 subst h
 simp [prsQ, prsL]
theorem prsQ_pre {R : List (List Snd)} {g : List Int} {k m : Nat} (hk : k < notesP R) : prsQ R g k m <+: prsL R g := by
 have h1 : prsQ R g k m <+: prsQ R g (k + 1) 0 := by
  unfold prsQ
  rw [List.range_succ]
  simp only [List.flatMap_append, List.flatMap_cons, List.flatMap_nil, List.append_nil, List.take_zero]
  exact (List.prefix_append_right_inj _).2 (List.take_prefix _ _)
 refine h1.trans ?_
 unfold prsQ prsL
 rw [List.take_zero, List.append_nil]
 obtain ⟨d, hd⟩ : ∃ d, notesP R = k + 1 + d := ⟨notesP R - (k + 1), by omega⟩
 rw [hd, show List.range (k + 1 + d) = _ from List.range_add (n := k + 1) (m := d), List.flatMap_append]
 exact List.prefix_append _ _
theorem mem_prsL {R : List (List Snd)} {g : List Int} {x : Two} : x ∈ prsL R g ↔ ∃ n i : Nat, n < notesP R ∧ i + 1 < g.length ∧ x = twoAt R g n i := by
 unfold prsL prsN
 simp only [List.mem_flatMap, List.mem_map, List.mem_range]
 constructor
 ·rintro ⟨n, hn, i, hi, rfl⟩
  exact ⟨n, i, hn, by omega, rfl⟩
 ·rintro ⟨n, i, hn, hi, rfl⟩
  exact ⟨n, hn, i, by omega, rfl⟩
theorem spanL_snoc (l : Lw) (P : List Two) (x : Two) : spanL l (P ++ [x]) = max (spanL l P) (awayP l x) := by simp [spanL]
theorem spanL_nonneg (l : Lw) (P : List Two) : 0 ≤ spanL l P ∧ (∀ x ∈ P, awayP l x ≤ spanL l P) ∧ (0 < spanL l P → ∃ x ∈ P, awayP l x = spanL l P) := by
 have key : ∀ (r : List Two), r.reverse.reverse = r := List.reverse_reverse
 suffices H : ∀ r : List Two, 0 ≤ spanL l r.reverse ∧ (∀ x ∈ r.reverse, awayP l x ≤ spanL l r.reverse) ∧ (0 < spanL l r.reverse → ∃ x ∈ r.reverse, awayP l x = spanL l r.reverse) by
  have := H P.reverse
  rwa [key] at this
 intro r
 induction r with
 | nil => exact ⟨Int.le_refl _, fun x hx => by simp at hx, fun h => by simp [spanL] at h⟩
 | cons a r ih =>
  obtain ⟨h1, h2, h3⟩ := ih
  rw [List.reverse_cons, spanL_snoc]
  refine ⟨by omega, fun x hx => ?_, fun h => ?_⟩
  ·rcases List.mem_append.1 hx with hx | hx
   ·have := h2 x hx
    omega
   ·simp only [List.mem_cons, List.not_mem_nil, or_false] at hx
    subst hx
    omega
  ·by_cases ha : spanL l r.reverse < awayP l a
   ·exact ⟨a, by simp, by omega⟩
   ·obtain ⟨x, hx, e⟩ := h3 (by omega)
    exact ⟨x, List.mem_append_left _ hx, by omega⟩
theorem voices_at {R : List (List Snd)} {g : List Int} {n i : Nat} (h : i < g.length) : (voicesP R g n)[i]? = some (voiceP R n (g.getD i 0)) := by
 unfold voicesP
 rw [List.getElem?_map, List.getElem?_eq_getElem h, List.getD_eq_getElem?_getD, List.getElem?_eq_getElem h]
 rfl
theorem badL_snoc {l : Lw} {P : List Two} (x : Two) (h : badL l P = none) : badL l (P ++ [x]) = if l.span < awayP l x then some x else none := by
 unfold badL at *
 rw [List.find?_append, h]
 by_cases hx : l.span < awayP l x <;> simp [List.find?_cons, hx]
theorem badL_pre {l : Lw} {P Q : List Two} {x : Two} (h : badL l P = some x) (hp : P <+: Q) : badL l Q = some x := by
 obtain ⟨r, rfl⟩ := hp
 unfold badL at *
 rw [List.find?_append, h]
 rfl
section
open Go.RowKit Go.Shelf
abbrev TwS (R : List (List Snd)) (g : List Int) := { x : Two // x ∈ prsL R g }
def twV (x : Two) : Value := .agg #[Zi x.nt, Zi x.row, Zi x.lo.t0, Zi x.lo.t1, Zi x.lo.s0, Zi x.lo.s1, Zi x.hi.t0, Zi x.hi.t1, Zi x.hi.s0, Zi x.hi.s1]
structure OpW (w : World) (n0 : Nat) (A : Option Addr) (LL : List LS) (G : Option Addr) (g : List Int) : Prop where
 a : Rd w n0 1 A LL.length (lsC LL)
 e : ∀ x ∈ LL, Rd w n0 4 x.2.1 x.1.length (sc x.1)
 g : Rd w n0 1 G g.length (ic g)
theorem grown_blw {w w' : World} (h : Below w.heap.size w w') : w.grownBy w' none := ⟨h.os, h.tape, h.output, h.size, fun k hk _ => h.block k hk⟩
theorem Rd.kpc {w w' : World} {B size n : Nat} {A : Option Addr} {xs : List Value} {eb : Nat → Prop} (h : Rd w B size A n xs) (hk : KpC eb w w') (hx : ∀ b o, A = some ⟨b, o, none⟩ → 0 < n → ¬ eb b) : Rd w' B size A n xs :=
 ⟨h.1, fun hn => by
  obtain ⟨b, o, h1, h2, h3⟩ := h.2 hn
  exact ⟨b, o, h1, h2, fun j u hu => hk.cell (h3 j u hu) (hx b o h1 hn)⟩⟩
theorem Rd.kpc0 {w w' : World} {B size n : Nat} {A : Option Addr} {xs : List Value} {eb : Nat → Prop} (h : Rd w B size A n xs) (hk : KpC eb w w') (hx : ∀ b, b < B → ¬ eb b) : Rd w' B size A n xs :=
 ⟨h.1, fun hn => by
  obtain ⟨b, o, h1, h2, h3⟩ := h.2 hn
  exact ⟨b, o, h1, h2, fun j u hu => hk.cell (h3 j u hu) (hx b h2)⟩⟩
theorem OpW.kpc {w w' : World} {n0 : Nat} {A : Option Addr} {LL : List LS} {G : Option Addr} {g : List Int} {eb : Nat → Prop} (h : OpW w n0 A LL G g) (hk : KpC eb w w') (hx : ∀ b, b < n0 → ¬ eb b) : OpW w' n0 A LL G g :=
 ⟨h.a.kpc0 hk hx, fun x hx2 => (h.e x hx2).kpc0 hk hx, h.g.kpc0 hk hx⟩
theorem OpW.below {w w' : World} {n0 : Nat} {A : Option Addr} {LL : List LS} {G : Option Addr} {g : List Int} (h : OpW w n0 A LL G g) (hk : Below w.heap.size w w') (hn : n0 ≤ w.heap.size) : OpW w' n0 A LL G g :=
 ⟨h.a.below (hk.mono hn), fun x hx2 => (h.e x hx2).below (hk.mono hn), h.g.below (hk.mono hn)⟩
def RdN (w : World) (n1 size : Nat) (A : Option Addr) (n : Nat) (xs : List Value) : Prop := Rd w w.heap.size size A n xs ∧ ∀ b o, A = some ⟨b, o, none⟩ → 0 < n → n1 ≤ b
theorem RdN.kpc {w w' : World} {n1 size n : Nat} {A : Option Addr} {xs : List Value} {eb : Nat → Prop} (h : RdN w n1 size A n xs) (hk : KpC eb w w') (hx : ∀ b, eb b → b < n1) : RdN w' n1 size A n xs :=
 ⟨(h.1.kpc hk fun b o ha hn he => by have := h.2 b o ha hn; have := hx b he; omega).more hk.2.2.2.1, h.2⟩
theorem Sp.mine {I : List (Nat × BA)} {A : Option Addr} {n size b o : Nat} {xs : List Value} (S : ∀ (w : World) (ex : Nat → Prop), Sp w ex I A n size b o xs) {w0 w : World} {ex : Nat → Prop} (M : Mem w0 ex w I) (hs : 0 < size) (hn : 0 < n) : inL I b := by
 refine Classical.byContradiction fun hb => ?_
 have M2 : Mem w0 (fun _ => True) w I := ⟨M.os, M.tape, M.output, M.size, fun b _ h => absurd trivial h, fun p hp => ⟨.inr trivial, (M.blk p hp).2⟩, M.nd⟩
 have hlt := (S w0 (fun _ => True)).lt w I M2 (List.Sublist.refl _) hn
 have hxs : 0 < xs.length := by rw [(S w0 ex).len]; exact Nat.mul_pos hn hs
 have hg := grownBy_putObj' w b (.deferred (some []))
 have M3 : Mem w0 (fun _ => True) (w.putObj b (.deferred (some []))) I :=
  ⟨hg.os.trans M.os, hg.tape.trans M.tape, hg.output.trans M.output, Nat.le_trans M.size hg.size, fun b _ h => absurd trivial h,
   fun p hp => ⟨.inr trivial, BA.same (M.blk p hp).2 hg.size (hg.block _ (BA.lt (M.blk p hp).2) (fun e => hb (List.mem_map.2 ⟨p, hp, by injection e⟩)))⟩, M.nd⟩
 have hc := (S w0 (fun _ => True)).cell _ I M3 (List.Sublist.refl _) 0 xs[0] (List.getElem?_eq_getElem hxs)
 obtain ⟨ob, h1, h2⟩ := cell_isC hc
 simp only [World.putObj] at h1
 rw [Array.getElem?_setIfInBounds_self_of_lt hlt] at h1
 injection h1 with h1
 subst h1
 cases h2
theorem Sp.from {I : List (Nat × BA)} {A : Option Addr} {n size b o : Nat} {xs : List Value} (S : ∀ (w : World) (ex : Nat → Prop), Sp w ex I A n size b o xs) {w0 w : World} (M : Mem w0 noEx w I) (hs : 0 < size) : ∀ b o, A = some ⟨b, o, none⟩ → 0 < n → w0.heap.size ≤ b := fun b' o' ha hn => by
 have h1 := (S w0 noEx).at0 hn
 rw [ha] at h1
 injection h1 with h1
 injection h1 with h1 _ _
 subst h1
 obtain ⟨p, hp, rfl⟩ := List.mem_map.1 (Sp.mine S M hs hn)
 rcases (M.blk p hp).1 with h | h
 · exact h
 · exact h.elim
theorem RdN.of {I L : List (Nat × BA)} {A : Option Addr} {n size b o n1 : Nat} {xs : List Value} {w w' : World} (S : ∀ (w : World) (ex : Nat → Prop), Sp w ex I A n size b o xs) (M : Mem w noEx w' L) (hI : I.Sublist L) (hs : 0 < size) (h1 : n1 ≤ w.heap.size) : RdN w' n1 size A n xs :=
 ⟨(S w noEx).rd M hI, fun b o ha hn => Nat.le_trans h1 (Sp.from S (M.sub hI) hs b o ha hn)⟩
theorem two_at {R : List (List Snd)} {g : List Int} {k m : Nat} {r : Int} {x y : Snd} (hr : g[m]? = some r) (hx : (voicesP R g k)[m]? = some x) (hy : (voicesP R g k)[m + 1]? = some y) : (⟨(k : Int), r, x, y⟩ : Two) = twoAt R g k m := by
 have h1 := (List.getElem?_eq_some_iff.1 hr).1
 have h2 := (List.getElem?_eq_some_iff.1 hy).1
 rw [show (voicesP R g k).length = g.length by simp [voicesP]] at h2
 rw [voices_at h1] at hx
 rw [voices_at h2] at hy
 injection hx with hx
 injection hy with hy
 have e : g.getD m 0 = r := by rw [List.getD_eq_getElem?_getD, hr]; rfl
 unfold twoAt
 rw [← hx, ← hy, e]
theorem pre_lt {R : List (List Snd)} {g : List Int} {k m : Nat} {pre : List (TwS R g)} (hp : pre.map (·.1) = prsQ R g k m) (hk : k < notesP R) (hm : m + 1 < g.length) : pre.length < (prsL R g).length := by
 have h1 := (prsQ_pre (R := R) (g := g) (m := m + 1) hk).length_le
 have h2 := congrArg List.length hp
 rw [prsQ_step hm, List.length_append] at h1
 rw [List.length_map] at h2
 simp only [List.length_cons, List.length_nil] at h1
 omega
theorem pre_snoc {R : List (List Snd)} {g : List Int} {k m : Nat} {pre : List (TwS R g)} {x : TwS R g} (hp : pre.map (·.1) = prsQ R g k m) (hx : x.1 = twoAt R g k m) (hm : m + 1 < g.length) : (pre ++ [x]).map (·.1) = prsQ R g k (m + 1) := by
 rw [List.map_append, hp, prsQ_step hm, List.map_cons, List.map_nil, hx]
set_option maxHeartbeats 4000000 in
theorem pairs1_in (lr b1 n0 n1 : Nat) (eb : Nat → Prop) (l : Lw) (A : Option Addr) (c : Nat) (LL : List LS) (G : Option Addr) (d : Nat) (g : List Int) (J Jx : List (TwS (rowsOf LL) g) → World → Prop) (w : World) (h01 : n0 ≤ n1) (hn1 : n1 ≤ w.heap.size) (h0 : ∀ b, b < n0 → ¬ eb b) (heb : ∀ b, eb b → b < n1) (hx1 : ¬ eb b1) (hgL : ∀ r ∈ g, 0 ≤ r ∧ r < LL.length) (hN6 : notesP (rowsOf LL) ≤ 6) (nL : LL.length ≤ 1000000) (nE : ∀ x ∈ LL, x.1.length ≤ 1000000) (nG : g.length ≤ 1000000) (hNL : ∀ x ∈ LL, x.1.length = notesP (rowsOf LL)) (gS : SGood l (rowsOf LL)) (gR : ∀ r ∈ g, 0 ≤ r ∧ r < (rowsOf LL).length) (hJ : AbidesFrom w.heap.size J)
   (hY : ∀ pre x W1, J pre W1 → pre.length < (prsL (rowsOf LL) g).length → YieldAt Fence.wide 6 Tryz.prog lr #[twV x.1] W1 fun e W' =>
     (e = .returned (.bool true) ∧ J (pre ++ [x]) W' ∧ KpC eb W1 W') ∨ (e = .returned (.bool false) ∧ Jx (pre ++ [x]) W'))
   (q1 : Bk w b1 #[Zi l.first, Zi l.step, Zi l.span, Zi l.press, .slice A LL.length c, .slice G g.length d]) (ho : OpW w n0 A LL G g) (hJ0 : J [] w) :
   Calls Tryz.prog 126 #[.func (.yield lr) #[] #[], Zj b1] w fun e W' => (∃ v, e = .returned v) ∧ ((∃ xs : List (TwS (rowsOf LL) g), xs.map (·.1) = prsL (rowsOf LL) g ∧ J xs W') ∨ (∃ pre : List (TwS (rowsOf LL) g), pre.map (·.1) <+: prsL (rowsOf LL) g ∧ Jx pre W')) := by
 have hw0 := Nat.le_trans h01 hn1
 have hA := ho.a.more hw0
 have hE : ElsS w LL := fun x hx => (ho.e x hx).more hw0
 have hG := ho.g.more hw0
 obtain ⟨bA, oA, SA⟩ := Sp.old hA
 obtain ⟨bG, oG, SG⟩ := Sp.old hG
 refine Zpx noEx Tryz.func126 rfl 42 rfl [.func (.yield lr) #[] #[], Zj b1] rfl rfl (Mem.init w _) ?_
 intro ac wc T M
 refine Zsr ?_
 refine Zg2 (v1 := (Zj b1)) T (Zq (Zrf (off := 0) rfl (T.e 1 rfl) (fun _ _ _ => by kernel_rfl))) rfl (fun _ T => Zq (Zrr (Mem.old M q1 (fun h => h)) rfl (T.e 0 rfl) rfl)) rfl ?_; clear T ac; intro ac T
 refine Zl2 ?_
 refine Zoc (first := []) (cap := []) T rfl rfl rfl rfl evf (.cons (T.e 0 rfl) .nil) Tryz.func90 rfl rfl ?_
 refine Calls.mono (notes_any l A c LL _ (SA.rd M (Zz9 _)) (fun x hx => M.rd (hE x hx) (Nat.le_refl _)) (by omega) nE) ?_
 clear T; rintro e wc ⟨rfl, hb⟩ ac T
 replace M := M.call hb; clear hb
 refine lq T (Zrm rfl evc) ?_; clear T ac; intro ac T
 replace T := T.pick [0, 1, 4, 5] rfl
 refine Zln ?_
 refine wp_block ?_
 refine wp_loop_n (fun mz ac wc => ∃ (w : World) (k : Nat) (pre : List (TwS (rowsOf LL) g)), mz = notesP (rowsOf LL) - k ∧ (k ≤ notesP (rowsOf LL)) ∧ (pre.map (·.1) = prsQ (rowsOf LL) g k 0) ∧ (Bk w b1 #[Zi l.first, Zi l.step, Zi l.span, Zi l.press, .slice A LL.length c, .slice G g.length d]) ∧ (OpW w n0 A LL G g) ∧ (n1 ≤ w.heap.size) ∧ (J pre w) ∧ Tm ac 42 [(0, .func (.yield lr) #[] #[]), (1, Zj b1), (8, Zi ((notesP (rowsOf LL) : Nat) : Int)), (9, Zi (k : Int))] ∧ Mem w noEx wc []) ?_ ?_
 ·exact ⟨_, w, 0, [], rfl, (Nat.zero_le _), (by simp [prsQ]), q1, ho, hn1, hJ0, T.pick [2, 3, 1, 0] rfl, M.mask [] rfl⟩
 clear T M
 rintro mz ac wc ⟨w, k, pre, hmm1, hk, hp, q1, ho, hn1, hj, T, M⟩
 have hw0 := Nat.le_trans h01 hn1
 have hA := ho.a.more hw0
 have hE : ElsS w LL := fun x hx => (ho.e x hx).more hw0
 have hG := ho.g.more hw0
 obtain ⟨bA, oA, SA⟩ := Sp.old hA
 obtain ⟨bG, oG, SG⟩ := Sp.old hG
 refine Zsr ?_
 refine lq T (rn_lss rfl (T.e 3 rfl) (T.e 2 rfl)) ?_; clear T ac; intro ac T
 refine Zln ?_
 refine wp_seq ?_
 refine wp_if (T.e 0 rfl) ?_ ?_
 ·intro h1
  refine Zsk ?_
  refine wp_seq ?_
  refine wp_block ?_
  refine Zsr ?_
  refine Zg2 T (Zq (Zrm rfl (T.e 4 rfl))) rfl (Za 0 rfl rfl) rfl ?_; clear T ac; intro ac T
  replace T := T.pick [0, 3, 4, 5, 6] rfl
  refine Zln ?_
  refine Zsr ?_
  refine Zg2 T (Zq (Zrr (Mem.old M q1 (fun h => h)) rfl (T.e 2 rfl) rfl)) rfl (Zm 1 rfl rfl) rfl ?_; clear T ac; intro ac T
  refine Zl2 ?_
  refine Zoc (first := []) (cap := []) T rfl rfl rfl rfl evf (.cons (T.e 1 rfl) (.cons (T.e 0 rfl) .nil)) Tryz.func91 rfl rfl ?_
  refine Calls.mono (voices_any l A c LL G d g k _ (SA.rd M (Zz9 _)) (fun x hx => M.rd (hE x hx) (Nat.le_refl _)) (by omega) nE (SG.rd M (Zz9 _)) (by omega) hgL (by intro x hx; rw [hNL x hx]; omega)) ?_
  clear T; rintro e wc ⟨Au2, cu2, Iu2, rfl, SVu2, N⟩ ac T
  obtain ⟨bu2, ou2, SVu2⟩ := SVu2
  obtain ⟨lvu2, hlvu2⟩ : ∃ q, q = voicesP (rowsOf LL) g k := ⟨_, rfl⟩
  rw [← hlvu2] at SVu2
  have Su2 := SVu2 w noEx
  have nvu2 : lvu2.length = g.length := by rw [hlvu2]; simp [voicesP]
  have gvu2 : ∀ z ∈ lvu2, z.good := by rw [hlvu2]; exact voicesP_good gS gR (by omega)
  replace M := (M.join N).swapI
  clear N
  replace M : Mem w noEx wc (Iu2) := M
  rw [← hlvu2] at T
  refine lq T (Zra rfl (T.e 0 rfl)) ?_; clear T ac; intro ac T
  replace T := T.pick [0, 4, 5, 6, 7, 8] rfl
  refine Zln ?_
  refine Zsr ?_
  refine lq T (Zra rfl evc) ?_; clear T ac; intro ac T
  refine Zln ?_
  refine wp_block ?_
  have hv := RdN.of SVu2 M (List.Sublist.refl _) (by omega) hn1
  have hj := hJ _ _ _ none hj (grown_blw M.below) (fun r e => by cases e)
  have q1 := M.old q1 (fun h => h)
  have ho := ho.below M.below hw0
  have hn1 := Nat.le_trans hn1 M.size
  clear M
  obtain ⟨w, hwe⟩ : ∃ q : World, q = wc := ⟨_, rfl⟩
  have M : Mem w noEx wc [] := by rw [hwe]; exact Mem.init wc _
  rw [← hwe] at hv hj q1 ho hn1
  clear hwe
  refine wp_loop_n (fun mz ac wc => ∃ (w : World) (m : Nat) (pre : List (TwS (rowsOf LL) g)), mz = g.length - m ∧ (m ≤ g.length) ∧ (pre.map (·.1) = prsQ (rowsOf LL) g k m) ∧ (Bk w b1 #[Zi l.first, Zi l.step, Zi l.span, Zi l.press, .slice A LL.length c, .slice G g.length d]) ∧ (OpW w n0 A LL G g) ∧ (n1 ≤ w.heap.size) ∧ (J pre w) ∧ (RdN w n1 4 Au2 lvu2.length (sc lvu2)) ∧ Tm ac 42 [(0, .func (.yield lr) #[] #[]), (1, Zj b1), (3, Zi (k : Int)), (4, .slice Au2 lvu2.length cu2), (5, Zi (m : Int)), (8, Zi ((notesP (rowsOf LL) : Nat) : Int)), (9, Zi (k : Int))] ∧ Mem w noEx wc []) ?_ ?_
  ·exact ⟨_, w, 0, pre, rfl, (Nat.zero_le _), hp, q1, ho, hn1, hj, hv, T.pick [3, 4, 2, 1, 0, 5, 6] rfl, M.mask [] rfl⟩
  clear T M
  rintro mz ac wc ⟨w, m, pre, hmm2, hm, hp, q1, ho, hn1, hj, hv, T, M⟩
  have hw0 := Nat.le_trans h01 hn1
  have hA := ho.a.more hw0
  have hE : ElsS w LL := fun x hx => (ho.e x hx).more hw0
  have hG := ho.g.more hw0
  obtain ⟨bA, oA, SA⟩ := Sp.old hA
  obtain ⟨bG, oG, SG⟩ := Sp.old hG
  obtain ⟨bV, oV, SV⟩ := Sp.old hv.1
  refine wp_seq ?_
  refine Zsr ?_
  refine Zg5 T (Zq (Zrm rfl (T.e 4 rfl))) rfl (fun _ T => Zq (rn_add rfl (T.e 0 rfl) evc (by omega))) rfl (Zm 5 rfl rfl) rfl (Zl Tryz.underlying24 0 rfl rfl) rfl (fun _ T => Zq (rn_lss rfl (T.e 2 rfl) (T.e 0 rfl))) rfl ?_; clear T ac; intro ac T
  replace T := T.pick [0, 5, 6, 7, 8, 9, 10, 11] rfl
  refine Zln ?_
  refine wp_if (T.e 0 rfl) ?_ ?_
  ·intro h2
   obtain ⟨r, hkr, -⟩ := ic_next (l := g) (k := m) (by omega)
   obtain ⟨x, hkx, -⟩ := sc_next (l := lvu2) (k := m) (by omega)
   obtain ⟨m1, hm1⟩ : ∃ q : Nat, (m : Int) + 1 = (q : Int) := ⟨m + 1, by omega⟩
   obtain ⟨y, hky, -⟩ := sc_next (l := lvu2) (k := m1) (by omega)
   refine Zsk ?_
   refine wp_seq ?_
   refine wp_block ?_
   refine wp_seq ?_
   refine fg_startT M 19 (by kernel_rfl) rfl (by kernel_rfl) ?_
   clear M; intro wc M
   refine fg_addG 17 M ?_
   refine fg_q (T := T) (i := 0) rfl (by kernel_rfl) (by kernel_rfl : (Zpb 19 0).setIfInBounds 0 true = Zpb 19 1) (si_and (si_G rfl) si_T) (fun _ _ _ h => h) rfl rfl rfl rfl (fun _ _ _ _ _ => (Zrm rfl (T.e 1 rfl))) ?_; clear T ac; intro ac T
   refine fg_q (T := T) (i := 1) rfl (by kernel_rfl) (by kernel_rfl : (Zpb 19 1).setIfInBounds 1 true = Zpb 19 3) (si_and (si_G rfl) si_T) (fun _ _ _ h => h) rfl rfl rfl rfl (fun _ _ _ _ _ => (Zrm rfl (T.e 4 rfl))) ?_; clear T ac; intro ac T
   refine fg_q (v := (.pointer (some ⟨b1, 5, none⟩))) (T := T) (i := 2) rfl (by kernel_rfl) (by kernel_rfl : (Zpb 19 3).setIfInBounds 2 true = Zpb 19 7) (si_and (si_G rfl) si_T) (fun _ _ _ h => h) rfl rfl rfl rfl (fun _ _ _ _ _ => (Zrf (off := 5) rfl (T.e 4 rfl) (fun _ _ _ => by kernel_rfl))) ?_; clear T ac; intro ac T
   refine fg_q (T := T) (i := 3) rfl (by kernel_rfl) (by kernel_rfl : (Zpb 19 7).setIfInBounds 3 true = Zpb 19 15) (si_and (si_G rfl) si_T) (fun _ _ _ h => h) rfl rfl rfl rfl (fun B w' hD hl hS => (Zro (Mem.old (show Mem w noEx w' _ from ((MA.lft hS) (hD.wait (i := 16) (m := 17) (by kernel_rfl) (hD.wait (i := 6) (m := 16) (by kernel_rfl) (hD.wait (i := 5) (m := 6) (by kernel_rfl) (hD.wait (i := 3) (m := 5) (by kernel_rfl) hl)))))) q1 (fun h => h)) rfl (T.e 0 rfl) rfl)) ?_; clear T ac; intro ac T
   refine fg_q (T := T) (i := 4) rfl (by kernel_rfl) (by kernel_rfl : (Zpb 19 15).setIfInBounds 4 true = Zpb 19 31) (si_and (si_G rfl) si_T) (fun _ _ _ h => h) rfl rfl rfl rfl (fun _ _ _ _ _ => (Zrm rfl (T.e 9 rfl))) ?_; clear T ac; intro ac T
   refine fg_q (T := T) (i := 5) rfl (by kernel_rfl) (by kernel_rfl : (Zpb 19 31).setIfInBounds 5 true = Zpb 19 63) (si_and (si_G rfl) si_T) (fun _ _ _ h => h) rfl rfl rfl rfl (fun _ _ _ _ _ => (Zri (size := 1) m rfl (T.e 1 rfl) (T.e 0 rfl) ⟨_, Tryz.underlying33, by kernel_rfl⟩ rfl (by omega) (SG.at0 (by omega)))) ?_; clear T ac; intro ac T
   refine fg_q (T := T) (i := 6) rfl (by kernel_rfl) (by kernel_rfl : (Zpb 19 63).setIfInBounds 6 true = Zpb 19 127) (si_and (si_G rfl) si_T) (fun _ _ _ h => h) rfl rfl rfl rfl (fun B w' hD hl hS => (rn_cell (Sp.ic0 SG (show Mem w noEx w' _ from ((MA.lft hS) (hD.wait (i := 16) (m := 17) (by kernel_rfl) (hD.wait (i := 6) (m := 16) (by kernel_rfl) hl)))) (Zz9 _) hkr) rfl (T.e 0 rfl))) ?_; clear T ac; intro ac T
   refine fg_q (T := T) (i := 7) rfl (by kernel_rfl) (by kernel_rfl : (Zpb 19 127).setIfInBounds 7 true = Zpb 19 255) (si_and (si_G rfl) si_T) (fun _ _ _ h => h) rfl rfl rfl rfl (fun _ _ _ _ _ => (Zrm rfl (T.e 11 rfl))) ?_; clear T ac; intro ac T
   refine fg_q (T := T) (i := 8) rfl (by kernel_rfl) (by kernel_rfl : (Zpb 19 255).setIfInBounds 8 true = Zpb 19 511) (si_and (si_G rfl) si_T) (fun _ _ _ h => h) rfl rfl rfl rfl (fun _ _ _ _ _ => (Zrm rfl (T.e 13 rfl))) ?_; clear T ac; intro ac T
   refine fg_q (T := T) (i := 9) rfl (by kernel_rfl) (by kernel_rfl : (Zpb 19 511).setIfInBounds 9 true = Zpb 19 1023) (si_and (si_G rfl) si_T) (fun _ _ _ h => h) rfl rfl rfl rfl (fun _ _ _ _ _ => (Zri (size := 4) m rfl (T.e 1 rfl) (T.e 0 rfl) ⟨_, Tryz.underlying24, by kernel_rfl⟩ rfl (by omega) (SV.at0 (by omega)))) ?_; clear T ac; intro ac T
   refine fg_q (v := (.agg #[Zi x.t0, Zi x.t1, Zi x.s0, Zi x.s1])) (T := T) (i := 10) rfl (by kernel_rfl) (by kernel_rfl : (Zpb 19 1023).setIfInBounds 10 true = Zpb 19 2047) (si_and (si_G rfl) si_T) (fun _ _ _ h => h) rfl rfl rfl rfl (fun B w' hD hl hS => (rn_rowat (Sp.scR4 SV (show Mem w noEx w' _ from ((MA.lft hS) (hD.wait (i := 16) (m := 17) (by kernel_rfl) (hD.wait (i := 10) (m := 16) (by kernel_rfl) hl)))) (Zz9 _) hkx) rfl (T.e 0 rfl) rfl)) ?_; clear T ac; intro ac T
   refine fg_q (T := T) (i := 11) rfl (by kernel_rfl) (by kernel_rfl : (Zpb 19 2047).setIfInBounds 11 true = Zpb 19 4095) (si_and (si_G rfl) si_T) (fun _ _ _ h => h) rfl rfl rfl rfl (fun _ _ _ _ _ => (Zrm rfl (T.e 15 rfl))) ?_; clear T ac; intro ac T
   refine fg_q (T := T) (i := 12) rfl (by kernel_rfl) (by kernel_rfl : (Zpb 19 4095).setIfInBounds 12 true = Zpb 19 8191) (si_and (si_G rfl) si_T) (fun _ _ _ h => h) rfl rfl rfl rfl (fun _ _ _ _ _ => (Zrm rfl (T.e 17 rfl))) ?_; clear T ac; intro ac T
   refine fg_q (T := T) (i := 13) rfl (by kernel_rfl) (by kernel_rfl : (Zpb 19 8191).setIfInBounds 13 true = Zpb 19 16383) (si_and (si_G rfl) si_T) (fun _ _ _ h => h) rfl rfl rfl rfl (fun _ _ _ _ _ => (rn_add rfl (T.e 0 rfl) evc (by omega))) ?_; clear T ac; intro ac T
   refine fg_q (T := T) (i := 14) rfl (by kernel_rfl) (by kernel_rfl : (Zpb 19 16383).setIfInBounds 14 true = Zpb 19 32767) (si_and (si_G rfl) si_T) (fun _ _ _ h => h) rfl rfl rfl rfl (fun _ _ _ _ _ => (Zri (size := 4) m1 rfl (T.e 2 rfl) (T.e 0 rfl) ⟨_, Tryz.underlying24, by kernel_rfl⟩ hm1 (by omega) (SV.at0 (by omega)))) ?_; clear T ac; intro ac T
   refine fg_q (v := (.agg #[Zi y.t0, Zi y.t1, Zi y.s0, Zi y.s1])) (T := T) (i := 15) rfl (by kernel_rfl) (by kernel_rfl : (Zpb 19 32767).setIfInBounds 15 true = Zpb 19 65535) (si_and (si_G rfl) si_T) (fun _ _ _ h => h) rfl rfl rfl rfl (fun B w' hD hl hS => (rn_rowat (Sp.scR4 SV (show Mem w noEx w' _ from ((MA.lft hS) (hD.wait (i := 16) (m := 17) (by kernel_rfl) (hD.wait (i := 15) (m := 16) (by kernel_rfl) hl)))) (Zz9 _) hky) rfl (T.e 0 rfl) rfl)) ?_; clear T ac; intro ac T
   refine fg_q (v := (.agg #[Zi (k : Int), Zi r, Zi x.t0, Zi x.t1, Zi x.s0, Zi x.s1, Zi y.t0, Zi y.t1, Zi y.s0, Zi y.s1])) (T := T) (i := 16) rfl (by kernel_rfl) (by kernel_rfl : (Zpb 19 65535).setIfInBounds 16 true = Zpb 19 131071) (si_and (si_G rfl) si_T) (fun _ _ _ h => h) rfl rfl rfl rfl (fun _ _ _ _ _ => (rn_build rfl (.cons (T.e 14 rfl) (.cons (T.e 9 rfl) (.cons (T.e 5 rfl) (.cons (T.e 0 rfl) .nil)))) (fun _ => by kernel_rfl))) ?_; clear T ac; intro ac T
   refine fgy 17 262143 ?_; intro K hK
   have hj := hJ _ _ _ none hj (grown_blw M.below) (fun r e => by cases e)
   have q1 := M.old q1 (fun h => h)
   have ho := ho.below M.below hw0
   have hn1 := Nat.le_trans hn1 M.size
   have hv : RdN _ n1 4 Au2 lvu2.length (sc lvu2) := ⟨SV.rd M (Zz9 _), hv.2⟩
   have ht : (⟨(k : Int), r, x, y⟩ : Two) = twoAt (rowsOf LL) g k m := two_at hkr (by rw [← hlvu2]; exact hkx) (by rw [← hlvu2, show m + 1 = m1 by omega]; exact hky)
   have hX : (⟨(k : Int), r, x, y⟩ : Two) ∈ prsL (rowsOf LL) g := mem_prsL.2 ⟨k, m, by omega, by omega, ht⟩
   have hlen := pre_lt hp (by omega) (show m + 1 < g.length by omega)
   have hp := pre_snoc (x := ⟨_, hX⟩) hp ht (by omega)
   refine ow_yield T rfl rfl rfl rfl (T.e 16 rfl) (.cons (T.e 0 rfl) .nil) (hY pre ⟨_, hX⟩ _ hj hlen) ?_
   clear T M
   rintro e wc (⟨rfl, hj, hkp⟩ | ⟨rfl, hjx⟩)
   ·refine ⟨_, rfl, ?_⟩
    intro ac T
    have q1 := hkp.bk q1 hx1
    have ho := ho.kpc hkp (fun b hb => h0 b hb)
    have hv := hv.kpc hkp heb
    have hn1 := Nat.le_trans hn1 hkp.2.2.2.1
    obtain ⟨w, hwe⟩ : ∃ q : World, q = wc := ⟨_, rfl⟩
    have M : Mem w noEx wc [] := by rw [hwe]; exact Mem.init wc _
    rw [← hwe] at hv hj q1 ho hn1
    clear hwe
    obtain ⟨pre, hpe⟩ : ∃ q, q = pre ++ [⟨_, hX⟩] := ⟨_, rfl⟩
    rw [← hpe] at hp hj
    clear hpe
    refine Zso hK _ _ (MA.mk (fun h => (no_of (by kernel_rfl) h).elim) trivial) ?_; clear hK K
    refine fg_q (v := (.bool false)) (T := T) (i := 18) rfl (by kernel_rfl) (by kernel_rfl : (Zpb 19 262143).setIfInBounds 18 true = Zpb 19 524287) (si_and (si_G rfl) si_T) (fun _ _ _ h => h) rfl rfl rfl rfl (fun _ _ _ _ _ => (Zrq (rn_not rfl (T.e 0 rfl)) (by simp))) ?_; clear T ac; intro ac T
    refine fg_done (by kernel_rfl) ?_
    replace T := T.pick [0, 20, 21, 22, 23, 24, 25, 26] rfl
    refine nm_then ?_
    refine wp_cond_false (T.e 0 rfl) ?_
    refine wp_skip ?_
    refine Znb ?_
    refine nm_then ?_
    refine wp_region_lit ?_
    refine Zg2 T (Zq (Zrm rfl (T.e 5 rfl))) rfl (fun _ T => Zq (rn_add rfl (T.e 0 rfl) evc (by omega))) rfl ?_; clear T ac; intro ac T
    refine l_q (v := (Zi ((m : Int) + 1))) (T.pick [0, 1, 2, 3, 4, 5, 6, 8, 9] rfl) rfl rfl rfl rfl (Zra rfl (T.e 0 rfl)) ?_; clear T ac; intro ac T
    replace T := T.pick [0, 4, 5, 6, 7, 8, 9] rfl
    refine Zln ?_
    exact ⟨_, by omega, w, m + 1, pre, rfl, (by omega), hp, q1, ho, hn1, hj, hv, T.pick [1, 2, 3, 4, 0, 5, 6] rfl, M.mask [] rfl⟩
   refine ⟨_, rfl, ?_⟩
   intro ac T
   have M : Mem wc noEx wc [] := Mem.init wc _
   clear hj q1 ho hn1 hv
   refine Zso hK _ _ (MA.mk (fun h => (no_of (by kernel_rfl) h).elim) trivial) ?_; clear hK K
   refine fg_q (v := (.bool true)) (T := T) (i := 18) rfl (by kernel_rfl) (by kernel_rfl : (Zpb 19 262143).setIfInBounds 18 true = Zpb 19 524287) (si_and (si_G rfl) si_T) (fun _ _ _ h => h) rfl rfl rfl rfl (fun _ _ _ _ _ => (Zrq (rn_not rfl (T.e 0 rfl)) (by simp))) ?_; clear T ac; intro ac T
   refine fg_done (by kernel_rfl) ?_
   replace T := T.pick [0, 20, 21, 22, 23, 24, 25, 26] rfl
   refine nm_then ?_
   refine wp_cond_true (T.e 0 rfl) ?_
   refine wp_ret ?_
   refine Zrb ?_
   refine Zrt ?_
   refine Zrt ?_
   refine Zrb ?_
   refine Zrb ?_
   refine Zrt ?_
   refine Zrt ?_
   refine Zrb ?_
   refine rt_0 T rfl ?_
   exact ⟨⟨_, rfl⟩, .inr ⟨_, hp ▸ prsQ_pre (by omega), hjx⟩⟩
  intro h2
  refine wp_exit ?_
  refine Zet ?_
  refine Zet ?_
  refine ex_hit ?_
  refine Znb ?_
  refine nm_then ?_
  refine wp_region_lit ?_
  refine lq T (rn_add rfl (T.e 7 rfl) evc (by omega)) ?_; clear T ac; intro ac T
  refine l_q (v := (Zi ((k : Int) + 1))) (T.pick [0, 1, 2, 3, 4, 5, 6, 7] rfl) rfl rfl rfl rfl (Zrm rfl (T.e 0 rfl)) ?_; clear T ac; intro ac T
  replace T := T.pick [0, 3, 4, 8] rfl
  refine Zln ?_
  exact ⟨_, by omega, w, k + 1, pre, rfl, (by omega), (by rw [hp]; exact prsQ_row (by omega)), q1, ho, hn1, hj, T.pick [1, 2, 3, 0] rfl, M.mask [] rfl⟩
 intro h1
 refine wp_exit ?_
 refine Zet ?_
 refine Zet ?_
 refine ex_hit ?_
 refine nm_0 T rfl ?_
 exact ⟨⟨_, rfl⟩, .inl ⟨pre, hp.trans (prsQ_end (by omega)), hJ _ _ _ none hj (grown_blw M.below) (fun r e => by cases e)⟩⟩
end
section
variable {P : Program} {fn : Func} {R : Ending → World → Prop} {a : Act} {w0 w : World} {ex : Nat → Prop} {L : List (Nat × BA)} {n : Nat} {E : List (Nat × Value)}
theorem rt_ccc {t t' t2 : Tmp} {ty ty' ty2 : TypeId} {g g' g2 : Nat} {v v' v2 : Value} [OneTy P ty] [OneTy P ty'] [OneTy P ty2] (M : Mem w0 ex w L) (T : Tm a n E) (hr : fn.results = #[.cell t ty, .cell t' ty', .cell t2 ty2])
  (hx : a.eval (.tmp t) = Zj g) (hx' : a.eval (.tmp t') = .pointer (some ⟨g', 0, none⟩)) (hx2 : a.eval (.tmp t2) = Zj g2) (hm : (g, BA.cells [v]) ∈ L) (hm' : (g', BA.cells [v']) ∈ L) (hm2 : (g2, BA.cells [v2]) ∈ L)
  (h : R (.returned (.tuple #[v, v', v2])) w) : bodyPost P fn R .ret a w := by
 refine ⟨T.defers, .tuple #[v, v', v2], ?_, h⟩
 have hl := run_load_one (P := P) (ty := ty) (o := 0) (M.get hm) (cs := [v]) rfl
 have hl' := run_load_one (P := P) (ty := ty') (o := 0) (M.get hm') (cs := [v']) rfl
 have hl2 := run_load_one (P := P) (ty := ty2) (o := 0) (M.get hm2) (cs := [v2]) rfl
 have e : a.tmps[t]?.getD undef = Zj g := by simpa [Act.eval] using hx
 have e' : a.tmps[t']?.getD undef = .pointer (some ⟨g', 0, none⟩) := by simpa [Act.eval] using hx'
 have e2 : a.tmps[t2]?.getD undef = Zj g2 := by simpa [Act.eval] using hx2
 simp [results, hr, e, e', e2, asAddr, hl, hl', hl2, Sem.run_bind]
end
section
open Go.RowKit Go.Shelf
theorem pairs_stops (b1 n0 n1 : Nat) (eb : Nat → Prop) (l : Lw) (A : Option Addr) (c : Nat) (LL : List LS) (G : Option Addr) (d : Nat) (g : List Int) (w : World) (h01 : n0 ≤ n1) (hn1 : n1 ≤ w.heap.size) (h0 : ∀ b, b < n0 → ¬ eb b) (heb : ∀ b, eb b → b < n1) (hx1 : ¬ eb b1) (hgL : ∀ r ∈ g, 0 ≤ r ∧ r < LL.length) (hN6 : notesP (rowsOf LL) ≤ 6) (nL : LL.length ≤ 1000000) (nE : ∀ x ∈ LL, x.1.length ≤ 1000000) (nG : g.length ≤ 1000000) (hNL : ∀ x ∈ LL, x.1.length = notesP (rowsOf LL)) (gS : SGood l (rowsOf LL)) (gR : ∀ r ∈ g, 0 ≤ r ∧ r < (rowsOf LL).length)
   (q1 : Bk w b1 #[Zi l.first, Zi l.step, Zi l.span, Zi l.press, .slice A LL.length c, .slice G g.length d]) (ho : OpW w n0 A LL G g) :
   SeqStopsK (α := TwS (rowsOf LL) g) Fence.wide 7 Tryz.prog 126 #[Zj b1] (fun x => #[twV x.1]) (KpC eb) (fun xs => xs.map (·.1) = prsL (rowsOf LL) g) (fun pre => pre.map (·.1) <+: prsL (rowsOf LL) g) (prsL (rowsOf LL) g).length w :=
 fun lr J Jx W hW hJ _ hY hJ0 => callsIn_wide.2 (pairs1_in lr b1 n0 n1 eb l A c LL G d g J Jx W h01 (Nat.le_trans hn1 hW.size) h0 heb hx1 hgL hN6 nL nE nG hNL gS gR hJ hY (q1.below hW) (ho.below hW (Nat.le_trans h01 hn1)) hJ0)
theorem two_good {l : Lw} {R : List (List Snd)} {g : List Int} {x : Two} (gS : SGood l R) (gR : ∀ r ∈ g, 0 ≤ r ∧ r < R.length) (hx : x ∈ prsL R g) : (x.lo.good ∧ x.hi.good) ∧ (0 ≤ x.nt ∧ x.nt ≤ 6) ∧ 0 ≤ l.first + l.step * x.nt ∧ l.first + l.step * x.nt ≤ 30 := by
 obtain ⟨n, i, hn, hi, rfl⟩ := mem_prsL.1 hx
 have h6 := gS.notes
 have hd := gS.dues n hn
 simp only [dueO, decide_eq_true_eq] at hd
 have hv := voicesP_good (n := n) gS gR hn
 refine ⟨⟨hv _ (List.mem_of_getElem? (voices_at (by omega))), hv _ (List.mem_of_getElem? (voices_at hi))⟩, ⟨by show (0 : Int) ≤ (n : Int); omega, by show (n : Int) ≤ 6; omega⟩, hd⟩
theorem away_bd {l : Lw} {x : Two} (hp : 0 ≤ l.press ∧ l.press ≤ 3) (h : (x.lo.good ∧ x.hi.good)) (hd : 0 ≤ l.first + l.step * x.nt ∧ l.first + l.step * x.nt ≤ 30) : 0 ≤ awayP l x ∧ awayP l x ≤ 3000 := by
 have key : ∀ (L : List (Int × Int)) (due n : Int), (∀ y ∈ L, -1000 ≤ y.1 ∧ y.1 ≤ 1000 ∧ -1000 ≤ y.2 ∧ y.2 ≤ 1000) → 0 ≤ due ∧ due ≤ 30 → 0 ≤ n ∧ n ≤ 3000 → 0 ≤ offL due L n ∧ offL due L n ≤ 3000 := by
  intro L
  induction L with
  | nil => intro due n _ _ hn; exact hn
  | cons y r ih =>
   intro due n hy hd hn
   have := hy y Zz2
   exact ih due _ (fun z hz => hy z (Zz1 hz)) hd (by omega)
 exact key _ _ _ (fun y hy => by have := beatsL_bd (l := l) hp h.1 h.2 y hy; omega) hd (by omega)
def spanE (l : Lw) (R : List (List Snd)) (g : List Int) : Int × Int := if checkR l R g = 0 then (spanL l (prsL R g), 0) else (0, checkR l R g)
def badV : Option Two → (Int × Int) × Int
 | some x => ((x.nt, x.row), 0)
 | none => ((0, 0), 11)
def badE (l : Lw) (R : List (List Snd)) (g : List Int) : (Int × Int) × Int := if checkR l R g = 0 then badV (badL l (prsL R g)) else ((0, 0), checkR l R g)
theorem span_bd {l : Lw} {R : List (List Snd)} {g : List Int} (gS : SGood l R) (gR : ∀ r ∈ g, 0 ≤ r ∧ r < R.length) {P : List Two} (hP : ∀ x ∈ P, x ∈ prsL R g) : 0 ≤ spanL l P ∧ spanL l P ≤ 3000 := by
 obtain ⟨h1, -, h3⟩ := spanL_nonneg l P
 refine ⟨h1, ?_⟩
 by_cases h : 0 < spanL l P
 ·obtain ⟨x, hx, e⟩ := h3 h
  obtain ⟨g1, g2, g3⟩ := two_good gS gR (hP x hx)
  have hlw := gS.law
  obtain ⟨_, _, _, hpr⟩ := hlw
  have := away_bd (l := l) (x := x) (by omega) g1 g3
  omega
 ·omega
theorem opairs_any (l : Lw) (A : Option Addr) (c : Nat) (LL : List LS) (G : Option Addr) (d : Nat) (g : List Int)  (w : World)  :
  Calls Tryz.prog 95 #[.agg #[Zi l.first, Zi l.step, Zi l.span, Zi l.press, .slice A LL.length c, .slice G g.length d]] w fun e w' => ∃ g9, e = .returned (.func (.func 126) #[] #[Zj g9]) ∧ Mem w noEx w' [(g9, .cells [Zi l.first, Zi l.step, Zi l.span, Zi l.press, .slice A LL.length c, .slice G g.length d])] := by
 refine Zpx noEx Tryz.func95 rfl 4 rfl [.agg #[Zi l.first, Zi l.step, Zi l.span, Zi l.press, .slice A LL.length c, .slice G g.length d]] rfl rfl (Mem.init w _) ?_
 intro ac wc T M
 refine Zsr ?_
 refine Zl2 ?_
 refine Zob M T rfl rfl rfl rfl (T.e 0 rfl) rfl ?_; clear M T; intro g1 wc ac M T
 refine lq T (Zra rfl evc) ?_; clear T ac; intro ac T
 replace T := T.pick [1] rfl
 refine Zln ?_
 refine Zsr ?_
 refine Zg2 (v1 := (.func (.func 126) #[] #[Zj g1])) T (Zq (rn_makeFunc rfl .nil (.cons (T.e 0 rfl) .nil))) rfl (Za 0 rfl rfl) rfl ?_; clear T ac; intro ac T
 replace T := T.pick [0] rfl
 refine Zln ?_
 refine wp_ret ?_
 refine rt_1 T rfl (T.e 0 rfl) ?_
 exact ⟨g1, rfl, M⟩
theorem away_any (l : Lw) (A : Option Addr) (c : Nat) (LL : List LS) (G : Option Addr) (d : Nat) (g : List Int) (x : Two) (w : World) (hp : 0 ≤ l.press ∧ l.press ≤ 3) (hf : -1000 ≤ l.first ∧ l.first ≤ 1000) (hs : -1000 ≤ l.step ∧ l.step ≤ 1000) (hn : -1000 ≤ x.nt ∧ x.nt ≤ 1000) (hd : 0 ≤ l.first + l.step * x.nt ∧ l.first + l.step * x.nt ≤ 30) (gl : x.lo.good) (gh : x.hi.good) :
  Calls Tryz.prog 96 #[.agg #[Zi l.first, Zi l.step, Zi l.span, Zi l.press, .slice A LL.length c, .slice G g.length d], .agg #[Zi x.nt, Zi x.row, Zi x.lo.t0, Zi x.lo.t1, Zi x.lo.s0, Zi x.lo.s1, Zi x.hi.t0, Zi x.hi.t1, Zi x.hi.s0, Zi x.hi.s1]] w fun e w' => e = .returned (Zi (awayP l x)) ∧ Below w.heap.size w w' := by
 refine Zpx noEx Tryz.func96 rfl 19 rfl [.agg #[Zi l.first, Zi l.step, Zi l.span, Zi l.press, .slice A LL.length c, .slice G g.length d], .agg #[Zi x.nt, Zi x.row, Zi x.lo.t0, Zi x.lo.t1, Zi x.lo.s0, Zi x.lo.s1, Zi x.hi.t0, Zi x.hi.t1, Zi x.hi.s0, Zi x.hi.s1]] rfl rfl (Mem.init w _) ?_
 intro ac wc T M
 refine Zsr ?_
 refine Zl2 ?_
 refine Zob M T rfl rfl rfl rfl (T.e 0 rfl) rfl ?_; clear M T; intro g1 wc ac M T
 refine Zl2 ?_
 refine Zob M T rfl rfl rfl rfl (T.e 2 rfl) rfl ?_; clear M T; intro g2 wc ac M T
 refine lq T (Zra rfl evc) ?_; clear T ac; intro ac T
 replace T := T.pick [1, 2] rfl
 refine Zln ?_
 refine wp_seq ?_
 refine Zgs M (M.mask [true, true] rfl) 15 (by kernel_rfl) rfl (by kernel_rfl) ?_
 clear M; intro wc M
 refine gq (v := (Zj g1)) T 0 1 rfl (fun _ _ _ _ _ => (Zrf (off := 0) rfl (T.e 1 rfl) (fun _ _ _ => by kernel_rfl))) ?_; clear T ac; intro ac T
 refine gq (v := (Zj g1)) T 1 3 rfl (fun _ _ _ _ _ => (Zrf (off := 0) rfl (T.e 0 rfl) (fun _ _ _ => by kernel_rfl))) ?_; clear T ac; intro ac T
 refine gq T 2 7 rfl (fun B w' hD hl hS => (Zrr (Mem.nth (show Mem w noEx w' _ from hS) 1 rfl) rfl (T.e 0 rfl) rfl)) ?_; clear T ac; intro ac T
 refine gq (v := (Zj g1)) T 3 15 rfl (fun _ _ _ _ _ => (Zrf (off := 0) rfl (T.e 4 rfl) (fun _ _ _ => by kernel_rfl))) ?_; clear T ac; intro ac T
 refine gq (v := (Zj g1)) T 4 31 rfl (fun _ _ _ _ _ => (Zrf (off := 0) rfl (T.e 0 rfl) (fun _ _ _ => by kernel_rfl))) ?_; clear T ac; intro ac T
 refine gq T 5 63 rfl (fun B w' hD hl hS => (Zrr (Mem.nth (show Mem w noEx w' _ from hS) 1 rfl) rfl (T.e 0 rfl) rfl)) ?_; clear T ac; intro ac T
 refine gq (v := (Zj g2)) T 6 127 rfl (fun _ _ _ _ _ => (Zrf (off := 0) rfl (T.e 6 rfl) (fun _ _ _ => by kernel_rfl))) ?_; clear T ac; intro ac T
 refine gq T 7 255 rfl (fun B w' hD hl hS => (Zro (Mem.nth (show Mem w noEx w' _ from hS) 0 rfl) rfl (T.e 0 rfl) rfl)) ?_; clear T ac; intro ac T
 refine gq (v := (.pointer (some ⟨g2, 2, none⟩))) T 9 767 rfl (fun _ _ _ _ _ => (Zrf (off := 2) rfl (T.e 8 rfl) (fun _ _ _ => by kernel_rfl))) ?_; clear T ac; intro ac T
 refine gq T 10 1791 rfl (fun B w' hD hl hS => (Zrr (Mem.nth (show Mem w noEx w' _ from hS) 0 rfl) rfl (T.e 0 rfl) rfl)) ?_; clear T ac; intro ac T
 refine gq (v := (.pointer (some ⟨g2, 6, none⟩))) T 11 3839 rfl (fun _ _ _ _ _ => (Zrf (off := 6) rfl (T.e 10 rfl) (fun _ _ _ => by kernel_rfl))) ?_; clear T ac; intro ac T
 refine gq T 12 7935 rfl (fun B w' hD hl hS => (Zrr (Mem.nth (show Mem w noEx w' _ from hS) 0 rfl) rfl (T.e 0 rfl) rfl)) ?_; clear T ac; intro ac T
 refine gw 8 8191 ?_; intro K hK
 refine Zoc (first := []) (cap := []) T rfl rfl rfl rfl evf (.cons (T.e 6 rfl) (.cons (T.e 4 rfl) .nil)) Tryz.func71 rfl rfl ?_
 refine Calls.mono (vdue_any l x.nt _ (by (try dsimp only); omega) (by (try dsimp only); omega) (by (try dsimp only); omega)) ?_
 clear T; rintro e wc ⟨rfl, hb⟩ ac T
 replace M := M.call hb; clear hb
 refine Zso hK _ _ (M.mask [true, true] rfl) ?_; clear hK K
 refine gw 13 16383 ?_; intro K hK
 refine Zoc (first := []) (cap := []) T rfl rfl rfl rfl evf (.cons (T.e 10 rfl) (.cons (T.e 0 rfl) (.cons (T.e 3 rfl) (.cons (T.e 1 rfl) .nil)))) Tryz.func114 rfl rfl ?_
 refine Calls.mono (off_any l (l.first + l.step * x.nt) x.lo x.hi _ (by (try dsimp only); omega) (by (try dsimp only); omega) gl gh) ?_
 clear T; rintro e wc ⟨rfl, hb⟩ ac T
 replace M := M.call hb; clear hb
 refine Zso hK _ _ (M.mask [true, true] rfl) ?_; clear hK K
 refine gq T 14 32767 rfl (fun _ _ _ _ _ => (Zra rfl (T.e 0 rfl))) ?_; clear T ac; intro ac T
 refine Zgd (by kernel_rfl) ?_
 replace T := T.pick [0] rfl
 replace M := M.mask [false, false] rfl
 refine Znr ?_
 refine rt_1 T rfl (T.e 0 rfl) ?_
 exact ⟨rfl, M.below⟩
set_option maxHeartbeats 4000000 in
theorem Span_any (l : Lw) (A : Option Addr) (c : Nat) (LL : List LS) (G : Option Addr) (d : Nat) (g : List Int)  (w : World) (hA : Rd w w.heap.size 1 A LL.length (lsC LL)) (hE : ElsS w LL) (nL : LL.length ≤ 1000000) (nE : ∀ x ∈ LL, x.1.length ≤ 1000000) (hG : Rd w w.heap.size 1 G g.length (ic g)) (nG : g.length ≤ 1000000)  :
   Calls Tryz.prog 39 #[.agg #[Zi l.first, Zi l.step, Zi l.span, Zi l.press, .slice A LL.length c], .slice G g.length d] w fun e w' => e = .returned (.tuple #[Zi ((spanE l (rowsOf LL) g).1), Zi ((spanE l (rowsOf LL) g).2)]) ∧ Below w.heap.size w w' := by
 obtain ⟨bA, oA, SA⟩ := Sp.old hA
 obtain ⟨bG, oG, SG⟩ := Sp.old hG
 refine px_enterM noEx Tryz.func39 rfl 28 rfl [.agg #[Zi l.first, Zi l.step, Zi l.span, Zi l.press, .slice A LL.length c], .slice G g.length d] rfl rfl (Mem.init w _) ?_
 intro ac wc T M
 refine Zsr ?_
 refine Zl2 ?_
 refine Zob M T rfl rfl rfl rfl (T.e 0 rfl) rfl ?_; clear M T; intro g1 wc ac M T
 refine Zg2 T (Zq (Zra rfl evc)) rfl (Zc rfl) rfl ?_; clear T ac; intro ac T
 replace T := T.pick [2, 4] rfl
 refine Zln ?_
 refine wp_seq ?_
 refine Zsr ?_
 refine Zg2 T (Zq (Zrr (Mem.nth M 0 rfl) rfl (T.e 0 rfl) rfl)) rfl (Zm 2 rfl rfl) rfl ?_; clear T ac; intro ac T
 refine Zl2 ?_
 refine Zoc (first := []) (cap := []) T rfl rfl rfl rfl evf (.cons (T.e 1 rfl) (.cons (T.e 0 rfl) .nil)) Tryz.func89 rfl rfl ?_
 refine Calls.mono (checkRegister_any l A c LL G d g _ (SA.rd M (Zz9 _)) (fun x hx => M.rd (hE x hx) (Nat.le_refl _)) (by omega) nE (SG.rd M (Zz9 _)) (by omega)) ?_
 clear T; rintro e wc ⟨rfl, hb⟩ ac T
 replace M := M.call hb; clear hb
 refine lq T (Zra rfl (T.e 0 rfl)) ?_; clear T ac; intro ac T
 replace T := T.pick [0, 4, 5] rfl
 refine Zln ?_
 refine Zsr ?_
 refine Zg2 T (Zq (Zrm rfl (T.e 0 rfl))) rfl (fun _ T => Zq (rn_neq rfl (T.e 0 rfl) evc)) rfl ?_; clear T ac; intro ac T
 replace T := T.pick [0, 2, 3, 4] rfl
 refine Zln ?_
 refine wp_ifn (T.e 0 rfl) ?_ ?_
 ·intro h1
  refine Zsr ?_
  refine Zg3 T (Zq (Zrm rfl (T.e 1 rfl))) rfl (Zc rfl) rfl (Za 1 rfl rfl) rfl ?_; clear T ac; intro ac T
  refine wpList_nil ?_
  replace T := T.pick [0, 1] rfl
  replace M := M.mask [false] rfl
  refine Znr ?_
  refine Zrt ?_
  refine rtM (L := []) [] T (M.perm [] rfl rfl) ?_; clear T M; intro wc ac T M
  refine rt_2 T rfl (T.e 1 rfl) (T.e 0 rfl) ?_
  have e9 : spanE l (rowsOf LL) g = (0, checkR l (rowsOf LL) g) := by unfold spanE; rw [if_neg (by simpa using h1)]
  rw [e9]
  exact ⟨rfl, M.below⟩
 intro h1
 obtain ⟨gS, gR⟩ := checkR_good (l := l) (R := rowsOf LL) (g := g) (by simpa using h1)
 have hgL : ∀ r ∈ g, 0 ≤ r ∧ r < LL.length := fun r hr => by have := gR r hr; rw [show (rowsOf LL).length = LL.length by simp] at this; exact this
 have hNL : ∀ x ∈ LL, x.1.length = notesP (rowsOf LL) := fun x hx => (gS.rows x.1 (List.mem_map.2 ⟨x, hx, rfl⟩)).2.1
 have hN6 := gS.notes
 have ⟨gl1, gl2, gl3, gl4⟩ := gS.law
 refine Zsk ?_
 refine Zsr ?_
 refine Zg3 (v3 := (.agg #[Zi l.first, Zi l.step, Zi l.span, Zi l.press, .slice A LL.length c, .slice G g.length d])) T (Zq (Zrr (Mem.nth M 0 rfl) rfl (T.e 2 rfl) rfl)) rfl (Zm 4 rfl rfl) rfl (fun _ T => Zq (rn_build rfl (.cons (T.e 1 rfl) (.cons (T.e 0 rfl) .nil)) (fun _ => by kernel_rfl))) rfl ?_; clear T ac; intro ac T
 refine Zl2 ?_
 refine Zoa M T rfl rfl rfl rfl ?_; clear M T; intro g2 wc ac M T
 refine Zl2 ?_
 refine Zos M T rfl rfl (T.e 0 rfl) (T.e 1 rfl) rfl .head rfl (by simp) rfl (by kernel_rfl) ?_; clear M T; intro wc ac M T
 refine wpList_nil ?_
 replace T := T.pick [0] rfl
 replace M := M.mask [true, false] rfl
 refine nm_then ?_
 refine Zsr ?_
 refine Zl2 ?_
 refine Zoa M T rfl rfl rfl rfl ?_; clear M T; intro g3 wc ac M T
 refine Zl2 ?_
 refine Zos M T rfl rfl (T.e 0 rfl) evc rfl .head rfl (by simp) rfl (by kernel_rfl) ?_; clear M T; intro wc ac M T
 refine Zln ?_
 refine wp_seq ?_
 refine Zsr ?_
 refine lq T (Zrr (Mem.nth M 1 rfl) rfl (T.e 1 rfl) rfl) ?_; clear T ac; intro ac T
 refine Zl2 ?_
 refine Zoc (first := []) (cap := []) T rfl rfl rfl rfl evf (.cons (T.e 0 rfl) .nil) Tryz.func95 rfl rfl ?_
 refine Calls.mono (opairs_any l A c LL G d g _) ?_
 clear T; rintro e wc ⟨gu2, rfl, N⟩ ac T
 replace M := M.join N; clear N
 replace M := M.mask [true, true, true] rfl
 replace T := T.pick [0, 2, 3] rfl
 refine Zln ?_
 refine wp_block ?_
 have q1 := M.nth 0 rfl
 have ho : OpW wc w.heap.size A LL G g := OpW.below ⟨hA, hE, hG⟩ M.below (Nat.le_refl _)
 have hge_g3 := M.ge (Zne (i := 1) rfl)
 have hlu_g3 := M.lt (Zne (i := 1) rfl)
 have hge_g2 := M.ge (Zne (i := 2) rfl)
 have hlu_g2 := M.lt (Zne (i := 2) rfl)
 have hndg := M.nd
 simp only [List.map_cons, List.map_nil, List.nodup_cons, List.mem_cons, List.not_mem_nil, or_false, not_or] at hndg
 have hks : ∀ b, b ∈ ([g3, g2] : List Nat) → w.heap.size ≤ b ∧ b < wc.heap.size ∧ b ≠ gu2 := by
   intro b hb
   simp only [List.mem_cons, List.not_mem_nil, or_false] at hb
   rcases hb with rfl | rfl
   · exact ⟨hge_g3, hlu_g3, fun e9 => by subst e9; simp_all⟩
   · exact ⟨hge_g2, hlu_g2, fun e9 => by subst e9; simp_all⟩
 replace T := T.pick [2, 1, 0] rfl
 have hlt_g3 := M.lt (Zne (i := 1) rfl)
 have hlt_g2 := M.lt (Zne (i := 2) rfl)
 replace M := M.mask [false, true, true] rfl
 refine px_rangeC (α := TwS (rowsOf LL) g) (γ := Nat) (n := 28) T (T.e 2 rfl) (enters_of Tryz.func126 (by kernel_rfl) rfl) (fun b => b ∈ [g3, g2]) (pairs_stops gu2 w.heap.size wc.heap.size _ l A c LL G d g _ M.size (Nat.le_refl _) (fun b h9 h8 => by have := (hks b h8).1; omega) (fun b h8 => (hks b h8).2.1) (fun h8 => (hks _ h8).2.2 rfl) hgL hN6 nL nE nG hNL gS gR q1 ho) (fun _ => rfl) (fun (pre : List (TwS (rowsOf LL) g)) (Lx : List (Nat × BA)) => Lx = [(g3, .cells [Zi (spanL l (pre.map (·.1)))]), (g2, .cells [Zi l.first, Zi l.step, Zi l.span, Zi l.press, .slice A LL.length c, .slice G g.length d])]) (fun _ _ _ => False)
   (fun x => [(21, .agg #[Zi x.1.nt, Zi x.1.row, Zi x.1.lo.t0, Zi x.1.lo.t1, Zi x.1.lo.s0, Zi x.1.lo.s1, Zi x.1.hi.t0, Zi x.1.hi.t1, Zi x.1.hi.s0, Zi x.1.hi.s1]), (7, Zj g2), (8, Zj g3), (20, .func (.func 126) #[] #[Zj gu2])]) (fun x g4 => [(9, Zj g4), (7, Zj g2), (8, Zj g3)]) (fun x g4 => [(g4, .cells [Zi x.1.nt, Zi x.1.row, Zi x.1.lo.t0, Zi x.1.lo.t1, Zi x.1.lo.s0, Zi x.1.lo.s1, Zi x.1.hi.t0, Zi x.1.hi.t1, Zi x.1.hi.s0, Zi x.1.hi.s1])]) ?_ ?_ ?_ M ?_ ?_ ?_ ?_ ?_ ?_ ?_ ?_
 ·rintro pre Lx rfl p hp
  rcases List.mem_cons.1 hp with rfl | hp
  · exact .inr rfl
  rcases List.mem_cons.1 hp with rfl | hp
  · exact .inr rfl
  cases hp
 ·rintro c pre Lx h
  exact h.elim
 ·rintro pre Lx rfl p hp
  exact List.mem_map.2 ⟨p, hp, rfl⟩
 ·exact rfl
 ·exact fun x => T.round1 _ rfl rfl
 ·intro x c p hp
  rcases List.mem_cons.1 hp with rfl | hp
  · rfl
  cases hp
 ·refine .inr ?_
  rintro pre Lx rfl p hp
  rcases List.mem_cons.1 hp with rfl | hp
  · exact hlt_g3
  rcases List.mem_cons.1 hp with rfl | hp
  · exact hlt_g2
  cases hp
 ·intro lp x wc K1 ac T hK1
  have M := Mem.init wc noEx
  refine ri_lit (fun _ _ h => h) rfl ?_
  refine Zl2 ?_
  refine Zoa M T rfl rfl rfl rfl ?_; clear M T; intro g4 wc ac M T
  refine Zl2 ?_
  refine Zos M T rfl rfl (T.e 0 rfl) (T.e 1 rfl) rfl .head rfl (by simp) rfl (by kernel_rfl) ?_; clear M T; intro wc ac M T
  replace T := T.pick [0, 2, 3] rfl
  refine Zln ?_
  exact hK1 g4 _ _ (T.pick [0, 1, 2] rfl) (M.mask [true] rfl)
 ·rintro lp pre x g4 Lx ac w hj hz hrec hlr hlt M0 hnl9 exb wc hexb hwc T M
  have hnx9 : ¬ exb g4 := by rw [hexb]; exact hnl9 _ Zz2
  cases hj
  replace T : TmD [] ac 28 [(9, Zj g4), (7, Zj g2), (8, Zj g3)] := T
  replace M : Mem w exb wc [(g3, .cells [Zi (spanL l (pre.map (·.1)))]), (g2, .cells [Zi l.first, Zi l.step, Zi l.span, Zi l.press, .slice A LL.length c, .slice G g.length d])] := M
  obtain ⟨hxg, hxn, hxd⟩ := two_good gS gR x.2
  have hsb := span_bd (l := l) gS gR (P := pre.map (·.1)) (fun y hy => by obtain ⟨z, _, rfl⟩ := List.mem_map.1 hy; exact z.2)
  have hab := away_bd (l := l) (x := x.1) (by omega) hxg hxd
  refine wpIn_block ?_
  refine gi_start2 (fun _ _ h => h) rfl M (M.perm [1] rfl rfl) 6 (by kernel_rfl) rfl (by kernel_rfl) ?_
  clear M; intro wc M
  refine g_addG 5 M ?_
  refine gq T 0 1 rfl (fun B w' hD hl hS => (Zro (Mem.nth (show Mem w exb w' _ from ((MA.lft hS) (hD.wait (i := 0) (m := 5) (by kernel_rfl) hl))) 0 rfl) rfl (T.e 2 rfl) rfl)) ?_; clear T ac; intro ac T
  refine gq T 1 3 rfl (fun B w' hD hl hS => (Zrr (Mem.nth (show Mem w exb w' _ from ((MA.lft hS) (hD.wait (i := 1) (m := 5) (by kernel_rfl) hl))) 1 rfl) rfl (T.e 2 rfl) rfl)) ?_; clear T ac; intro ac T
  refine gq T 2 7 rfl (fun B w' hD hl hS => (Zrr (Mem.old (show Mem w exb w' _ from ((MA.lft hS) (hD.wait (i := 2) (m := 5) (by kernel_rfl) hl))) (Mem.nth M0 0 rfl) hnx9) rfl (T.e 2 rfl) rfl)) ?_; clear T ac; intro ac T
  refine gw 3 15 ?_; intro K hK
  refine Zoc (first := []) (cap := []) T rfl rfl rfl rfl evf (.cons (T.e 1 rfl) (.cons (T.e 0 rfl) .nil)) Tryz.func96 rfl rfl ?_
  refine Calls.mono (away_any l A c LL G d g x.1 _ (by omega) (by omega) (by omega) (by omega) hxd hxg.1 hxg.2) ?_
  clear T; rintro e wc ⟨rfl, hb⟩ ac T
  replace M := M.call hb; clear hb
  refine Zso hK _ _ (MA.mk (fun _ => M.mask [true, true] rfl) (M.mask [false, true] rfl)) ?_; clear hK K
  refine gq T 4 31 rfl (fun _ _ _ _ _ => (rn_max2 rfl (T.e 3 rfl) (T.e 0 rfl))) ?_; clear T ac; intro ac T
  refine gw 5 63 ?_; intro K hK
  refine Zos M T rfl rfl (T.e 7 rfl) (T.e 0 rfl) rfl .head rfl (by simp) rfl (by kernel_rfl) ?_; clear M T; intro wc ac M T
  refine Zso hK _ _ (MA.mk (fun h => (no_of (by kernel_rfl) h).elim) (M.mask [false, true] rfl)) ?_; clear hK K
  refine Zgd (by kernel_rfl) ?_
  replace T := T.pick [6, 7] rfl
  refine Znb ?_
  have e9 : (max (spanL l (pre.map (·.1))) (awayP l x.1)) = spanL l ((pre ++ [x]).map (·.1)) := by rw [List.map_append]; exact (spanL_snoc l _ x.1).symm
  rw [e9] at M
  clear e9
  refine rp_nm (L := [(g3, .cells [Zi (spanL l ((pre ++ [x]).map (·.1)))]), (g2, .cells [Zi l.first, Zi l.step, Zi l.span, Zi l.press, .slice A LL.length c, .slice G g.length d])]) ?_ (M.mask [true, true] rfl)
  exact rfl
 ·rintro D1 pre Lx ac wc hSd hj hz T M
  cases hj
  replace T : TmD ((([D1] : List Nat)).map dfD) ac 28 [(7, Zj g2), (8, Zj g3), (20, .func (.func 126) #[] #[Zj gu2])] := T
  have hSd : pre.map (·.1) = _ := hSd
  rw [hSd] at M
  replace T := T.pick [1] rfl
  replace M := M.mask [true, true, false] rfl
  refine Znb ?_
  refine nm_then ?_
  refine Zsr ?_
  refine Zg3 T (Zq (Zro (Mem.nth M 1 rfl) rfl (T.e 0 rfl) rfl)) rfl (Za 0 rfl rfl) rfl (Zc rfl) rfl ?_; clear T ac; intro ac T
  refine wpList_nil ?_
  replace T := T.pick [0, 1] rfl
  replace M := M.mask [true, false] rfl
  refine Znr ?_
  refine rtM (L := []) (([D1] : List Nat)) T (M.perm [0] rfl rfl) ?_; clear T M; intro wc ac T M
  refine rt_2 T rfl (T.e 1 rfl) (T.e 0 rfl) ?_
  have e9 : spanE l (rowsOf LL) g = (spanL l (prsL (rowsOf LL) g), 0) := by unfold spanE; rw [if_pos (by simpa using h1)]
  rw [e9]
  exact ⟨rfl, M.below⟩
 ·intro D c pre Lx ac wc hS h
  exact h.elim
set_option maxHeartbeats 4000000 in
theorem Bad_any (l : Lw) (A : Option Addr) (c : Nat) (LL : List LS) (G : Option Addr) (d : Nat) (g : List Int)  (w : World) (hA : Rd w w.heap.size 1 A LL.length (lsC LL)) (hE : ElsS w LL) (nL : LL.length ≤ 1000000) (nE : ∀ x ∈ LL, x.1.length ≤ 1000000) (hG : Rd w w.heap.size 1 G g.length (ic g)) (nG : g.length ≤ 1000000)  :
   Calls Tryz.prog 41 #[.agg #[Zi l.first, Zi l.step, Zi l.span, Zi l.press, .slice A LL.length c], .slice G g.length d] w fun e w' => e = .returned (.tuple #[Zi ((badE l (rowsOf LL) g).1.1), Zi ((badE l (rowsOf LL) g).1.2), Zi ((badE l (rowsOf LL) g).2)]) ∧ Below w.heap.size w w' := by
 obtain ⟨bA, oA, SA⟩ := Sp.old hA
 obtain ⟨bG, oG, SG⟩ := Sp.old hG
 refine px_enterM noEx Tryz.func41 rfl 34 rfl [.agg #[Zi l.first, Zi l.step, Zi l.span, Zi l.press, .slice A LL.length c], .slice G g.length d] rfl rfl (Mem.init w _) ?_
 intro ac wc T M
 refine Zsr ?_
 refine Zl2 ?_
 refine Zob M T rfl rfl rfl rfl (T.e 0 rfl) rfl ?_; clear M T; intro g1 wc ac M T
 refine Zl2 ?_
 refine Zoa M T rfl rfl rfl rfl ?_; clear M T; intro g2 wc ac M T
 refine Zl2 ?_
 refine Zoa M T rfl rfl rfl rfl ?_; clear M T; intro g3 wc ac M T
 refine Zl2 ?_
 refine Zoa M T rfl rfl rfl rfl ?_; clear M T; intro g4 wc ac M T
 replace T := T.pick [0, 1, 2, 3, 5] rfl
 refine Zln ?_
 refine wp_seq ?_
 refine Zsr ?_
 refine Zg2 T (Zq (Zrr (Mem.nth M 3 rfl) rfl (T.e 3 rfl) rfl)) rfl (Zm 5 rfl rfl) rfl ?_; clear T ac; intro ac T
 refine Zl2 ?_
 refine Zoc (first := []) (cap := []) T rfl rfl rfl rfl evf (.cons (T.e 1 rfl) (.cons (T.e 0 rfl) .nil)) Tryz.func89 rfl rfl ?_
 refine Calls.mono (checkRegister_any l A c LL G d g _ (SA.rd M (Zz9 _)) (fun x hx => M.rd (hE x hx) (Nat.le_refl _)) (by omega) nE (SG.rd M (Zz9 _)) (by omega)) ?_
 clear T; rintro e wc ⟨rfl, hb⟩ ac T
 replace M := M.call hb; clear hb
 refine lq T (Zra rfl (T.e 0 rfl)) ?_; clear T ac; intro ac T
 replace T := T.pick [0, 4, 5, 6, 7, 8] rfl
 refine Zln ?_
 refine Zsr ?_
 refine Zg2 T (Zq (Zrm rfl (T.e 0 rfl))) rfl (fun _ T => Zq (rn_neq rfl (T.e 0 rfl) evc)) rfl ?_; clear T ac; intro ac T
 replace T := T.pick [0, 2, 3, 4, 5, 6, 7] rfl
 refine Zln ?_
 refine wp_ifn (T.e 0 rfl) ?_ ?_
 ·intro h1
  refine Zsr ?_
  refine lq T (Zrm rfl (T.e 1 rfl)) ?_; clear T ac; intro ac T
  refine Zl2 ?_
  refine Zos M T rfl rfl (T.e 5 rfl) evc rfl (.tail (.tail .head)) rfl (by simp) rfl (by kernel_rfl) ?_; clear M T; intro wc ac M T
  refine Zl2 ?_
  refine Zos M T rfl rfl (T.e 4 rfl) evc rfl (.tail .head) rfl (by simp) rfl (by kernel_rfl) ?_; clear M T; intro wc ac M T
  refine Zl2 ?_
  refine Zos M T rfl rfl (T.e 3 rfl) (T.e 0 rfl) rfl .head rfl (by simp) rfl (by kernel_rfl) ?_; clear M T; intro wc ac M T
  refine wpList_nil ?_
  replace T := T.pick [3, 4, 5] rfl
  replace M := M.mask [true, true, true, false] rfl
  refine Znr ?_
  refine Zrt ?_
  refine rtM (L := [(g4, .cells [Zi (checkR l (rowsOf LL) g)]), (g3, .cells [Zi 0]), (g2, .cells [Zi 0])]) [] T (M.perm [0, 1, 2] rfl rfl) ?_; clear T M; intro wc ac T M
  refine rt_ccc M T rfl (T.e 2 rfl) (T.e 1 rfl) (T.e 0 rfl) (Zne (i := 2) rfl) (Zne (i := 1) rfl) (Zne (i := 0) rfl) ?_
  have e9 : badE l (rowsOf LL) g = ((0, 0), checkR l (rowsOf LL) g) := by unfold badE; rw [if_neg (by simpa using h1)]
  rw [e9]
  exact ⟨rfl, M.below⟩
 intro h1
 obtain ⟨gS, gR⟩ := checkR_good (l := l) (R := rowsOf LL) (g := g) (by simpa using h1)
 have hgL : ∀ r ∈ g, 0 ≤ r ∧ r < LL.length := fun r hr => by have := gR r hr; rw [show (rowsOf LL).length = LL.length by simp] at this; exact this
 have hNL : ∀ x ∈ LL, x.1.length = notesP (rowsOf LL) := fun x hx => (gS.rows x.1 (List.mem_map.2 ⟨x, hx, rfl⟩)).2.1
 have hN6 := gS.notes
 have ⟨gl1, gl2, gl3, gl4⟩ := gS.law
 refine Zsk ?_
 refine Zsr ?_
 refine Zg3 (v3 := (.agg #[Zi l.first, Zi l.step, Zi l.span, Zi l.press, .slice A LL.length c, .slice G g.length d])) T (Zq (Zrr (Mem.nth M 3 rfl) rfl (T.e 5 rfl) rfl)) rfl (Zm 7 rfl rfl) rfl (fun _ T => Zq (rn_build rfl (.cons (T.e 1 rfl) (.cons (T.e 0 rfl) .nil)) (fun _ => by kernel_rfl))) rfl ?_; clear T ac; intro ac T
 refine Zl2 ?_
 refine Zoa M T rfl rfl rfl rfl ?_; clear M T; intro g5 wc ac M T
 refine Zl2 ?_
 refine Zos M T rfl rfl (T.e 0 rfl) (T.e 1 rfl) rfl .head rfl (by simp) rfl (by kernel_rfl) ?_; clear M T; intro wc ac M T
 refine wpList_nil ?_
 replace T := T.pick [0, 6, 7, 8] rfl
 replace M := M.mask [true, true, true, true, false] rfl
 refine Zns ?_
 refine Zsr ?_
 refine lq T (Zrr (Mem.nth M 0 rfl) rfl (T.e 0 rfl) rfl) ?_; clear T ac; intro ac T
 refine Zl2 ?_
 refine Zoc (first := []) (cap := []) T rfl rfl rfl rfl evf (.cons (T.e 0 rfl) .nil) Tryz.func95 rfl rfl ?_
 refine Calls.mono (opairs_any l A c LL G d g _) ?_
 clear T; rintro e wc ⟨gu2, rfl, N⟩ ac T
 replace M := M.join N; clear N
 replace M := M.mask [true, true, true, true, true] rfl
 replace T := T.pick [0, 2, 3, 4, 5] rfl
 refine Zln ?_
 refine wp_block ?_
 have q1 := M.nth 0 rfl
 have ho : OpW wc w.heap.size A LL G g := OpW.below ⟨hA, hE, hG⟩ M.below (Nat.le_refl _)
 have hge_g5 := M.ge (Zne (i := 1) rfl)
 have hlu_g5 := M.lt (Zne (i := 1) rfl)
 have hge_g4 := M.ge (Zne (i := 2) rfl)
 have hlu_g4 := M.lt (Zne (i := 2) rfl)
 have hge_g3 := M.ge (Zne (i := 3) rfl)
 have hlu_g3 := M.lt (Zne (i := 3) rfl)
 have hge_g2 := M.ge (Zne (i := 4) rfl)
 have hlu_g2 := M.lt (Zne (i := 4) rfl)
 have hndg := M.nd
 simp only [List.map_cons, List.map_nil, List.nodup_cons, List.mem_cons, List.not_mem_nil, or_false, not_or] at hndg
 have hks : ∀ b, b ∈ ([g5, g4, g3, g2] : List Nat) → w.heap.size ≤ b ∧ b < wc.heap.size ∧ b ≠ gu2 := by
   intro b hb
   simp only [List.mem_cons, List.not_mem_nil, or_false] at hb
   rcases hb with rfl | rfl | rfl | rfl
   · exact ⟨hge_g5, hlu_g5, fun e9 => by subst e9; simp_all⟩
   · exact ⟨hge_g4, hlu_g4, fun e9 => by subst e9; simp_all⟩
   · exact ⟨hge_g3, hlu_g3, fun e9 => by subst e9; simp_all⟩
   · exact ⟨hge_g2, hlu_g2, fun e9 => by subst e9; simp_all⟩
 replace T := T.pick [4, 3, 2, 1, 0] rfl
 have hlt_g5 := M.lt (Zne (i := 1) rfl)
 have hlt_g4 := M.lt (Zne (i := 2) rfl)
 have hlt_g3 := M.lt (Zne (i := 3) rfl)
 have hlt_g2 := M.lt (Zne (i := 4) rfl)
 replace M := M.mask [false, true, true, true, true] rfl
 refine px_rangeC (α := TwS (rowsOf LL) g) (γ := Nat) (n := 34) T (T.e 4 rfl) (enters_of Tryz.func126 (by kernel_rfl) rfl) (fun b => b ∈ [g5, g4, g3, g2]) (pairs_stops gu2 w.heap.size wc.heap.size _ l A c LL G d g _ M.size (Nat.le_refl _) (fun b h9 h8 => by have := (hks b h8).1; omega) (fun b h8 => (hks b h8).2.1) (fun h8 => (hks _ h8).2.2 rfl) hgL hN6 nL nE nG hNL gS gR q1 ho) (fun _ => rfl) (fun (pre : List (TwS (rowsOf LL) g)) (Lx : List (Nat × BA)) => (badL l (pre.map (·.1)) = none) ∧ Lx = [(g5, .cells [Zi l.first, Zi l.step, Zi l.span, Zi l.press, .slice A LL.length c, .slice G g.length d]), (g4, .cells [Zi 0]), (g3, .cells [Zi 0]), (g2, .cells [Zi 0])]) (fun c9 pre Lx => c9 = .ret ∧ ∃ y, badL l (pre.map (·.1)) = some y ∧ Lx = [(g4, .cells [Zi 0]), (g3, .cells [Zi y.row]), (g2, .cells [Zi y.nt])])
   (fun x => [(21, .agg #[Zi x.1.nt, Zi x.1.row, Zi x.1.lo.t0, Zi x.1.lo.t1, Zi x.1.lo.s0, Zi x.1.lo.s1, Zi x.1.hi.t0, Zi x.1.hi.t1, Zi x.1.hi.s0, Zi x.1.hi.s1]), (4, Zj g2), (5, Zj g3), (6, Zj g4), (8, Zj g5), (20, .func (.func 126) #[] #[Zj gu2])]) (fun x g6 => [(9, Zj g6), (4, Zj g2), (5, Zj g3), (6, Zj g4), (8, Zj g5)]) (fun x g6 => [(g6, .cells [Zi x.1.nt, Zi x.1.row, Zi x.1.lo.t0, Zi x.1.lo.t1, Zi x.1.lo.s0, Zi x.1.lo.s1, Zi x.1.hi.t0, Zi x.1.hi.t1, Zi x.1.hi.s0, Zi x.1.hi.s1])]) ?_ ?_ ?_ M ?_ ?_ ?_ ?_ ?_ ?_ ?_ ?_
 ·rintro pre Lx ⟨hb, rfl⟩ p hp
  rcases List.mem_cons.1 hp with rfl | hp
  · exact .inr rfl
  rcases List.mem_cons.1 hp with rfl | hp
  · exact .inr rfl
  rcases List.mem_cons.1 hp with rfl | hp
  · exact .inr rfl
  rcases List.mem_cons.1 hp with rfl | hp
  · exact .inr rfl
  cases hp
 ·rintro c9 pre Lx ⟨rfl, y, -, rfl⟩ p hp
  simp only [List.mem_cons, List.not_mem_nil, or_false] at hp
  rcases hp with rfl | rfl | rfl <;> exact .inr rfl
 ·rintro pre Lx ⟨hb, rfl⟩ p hp
  exact List.mem_map.2 ⟨p, hp, rfl⟩
 ·exact ⟨rfl, rfl⟩
 ·exact fun x => T.round1 _ rfl rfl
 ·intro x c p hp
  rcases List.mem_cons.1 hp with rfl | hp
  · rfl
  cases hp
 ·refine .inr ?_
  rintro pre Lx ⟨hb, rfl⟩ p hp
  rcases List.mem_cons.1 hp with rfl | hp
  · exact hlt_g5
  rcases List.mem_cons.1 hp with rfl | hp
  · exact hlt_g4
  rcases List.mem_cons.1 hp with rfl | hp
  · exact hlt_g3
  rcases List.mem_cons.1 hp with rfl | hp
  · exact hlt_g2
  cases hp
 ·intro lp x wc K1 ac T hK1
  have M := Mem.init wc noEx
  refine ri_lit (fun _ _ h => h) rfl ?_
  refine Zl2 ?_
  refine Zoa M T rfl rfl rfl rfl ?_; clear M T; intro g6 wc ac M T
  refine Zl2 ?_
  refine Zos M T rfl rfl (T.e 0 rfl) (T.e 1 rfl) rfl .head rfl (by simp) rfl (by kernel_rfl) ?_; clear M T; intro wc ac M T
  replace T := T.pick [0, 2, 3, 4, 5] rfl
  refine Zln ?_
  exact hK1 g6 _ _ (T.pick [0, 1, 2, 3, 4] rfl) (M.mask [true] rfl)
 ·rintro lp pre x g6 Lx ac w hj hz hrec hlr hlt M0 hnl9 exb wc hexb hwc T M
  have hnx9 : ¬ exb g6 := by rw [hexb]; exact hnl9 _ Zz2
  obtain ⟨hb, rfl⟩ := hj
  replace T : TmD [] ac 34 [(9, Zj g6), (4, Zj g2), (5, Zj g3), (6, Zj g4), (8, Zj g5)] := T
  replace M : Mem w exb wc [(g5, .cells [Zi l.first, Zi l.step, Zi l.span, Zi l.press, .slice A LL.length c, .slice G g.length d]), (g4, .cells [Zi 0]), (g3, .cells [Zi 0]), (g2, .cells [Zi 0])] := M
  obtain ⟨hxg, hxn, hxd⟩ := two_good gS gR x.2
  have hab := away_bd (l := l) (x := x.1) (by omega) hxg hxd
  refine wpIn_block ?_
  refine wpIn_seq ?_
  refine gi_start2 (fun _ _ h => h) rfl M (M.mask [true, true, true, true] rfl) 8 (by kernel_rfl) rfl (by kernel_rfl) ?_
  clear M; intro wc M
  refine gq T 0 1 rfl (fun B w' hD hl hS => (Zrr (Mem.nth (show Mem w exb w' _ from hS) 0 rfl) rfl (T.e 4 rfl) rfl)) ?_; clear T ac; intro ac T
  refine gq T 1 3 rfl (fun B w' hD hl hS => (Zrr (Mem.old (show Mem w exb w' _ from hS) (Mem.nth M0 0 rfl) hnx9) rfl (T.e 1 rfl) rfl)) ?_; clear T ac; intro ac T
  refine gq (v := (Zj g5)) T 3 11 rfl (fun _ _ _ _ _ => (Zrf (off := 0) rfl (T.e 6 rfl) (fun _ _ _ => by kernel_rfl))) ?_; clear T ac; intro ac T
  refine gq (v := (Zj g5)) T 4 27 rfl (fun _ _ _ _ _ => (Zrf (off := 0) rfl (T.e 0 rfl) (fun _ _ _ => by kernel_rfl))) ?_; clear T ac; intro ac T
  refine gq (v := (.pointer (some ⟨g5, 2, none⟩))) T 5 59 rfl (fun _ _ _ _ _ => (Zrf (off := 2) rfl (T.e 0 rfl) (fun _ _ _ => by kernel_rfl))) ?_; clear T ac; intro ac T
  refine gq T 6 123 rfl (fun B w' hD hl hS => (Zro (Mem.nth (show Mem w exb w' _ from hS) 0 rfl) rfl (T.e 0 rfl) rfl)) ?_; clear T ac; intro ac T
  refine gw 2 127 ?_; intro K hK
  refine Zoc (first := []) (cap := []) T rfl rfl rfl rfl evf (.cons (T.e 5 rfl) (.cons (T.e 4 rfl) .nil)) Tryz.func96 rfl rfl ?_
  refine Calls.mono (away_any l A c LL G d g x.1 _ (by omega) (by omega) (by omega) (by omega) hxd hxg.1 hxg.2) ?_
  clear T; rintro e wc ⟨rfl, hb⟩ ac T
  replace M := M.call hb; clear hb
  refine Zso hK _ _ (M.mask [true, true, true, true] rfl) ?_; clear hK K
  refine gq T 7 255 rfl (fun _ _ _ _ _ => (rn_gtr rfl (T.e 0 rfl) (T.e 1 rfl))) ?_; clear T ac; intro ac T
  refine Zgd (by kernel_rfl) ?_
  replace T := T.pick [0, 8, 9, 10, 11, 12] rfl
  refine nm_then ?_
  refine wi_if (T.e 0 rfl) ?_ ?_
  ·intro h2
   refine wpIn_seq ?_
   refine gi_start2 (fun _ _ h => h) rfl M (M.perm [0] rfl rfl) 7 (by kernel_rfl) rfl (by kernel_rfl) ?_
   clear M; intro wc M
   refine g_addG 4 M ?_
   refine g_addG 5 (M.perm [0, 1, 2] rfl rfl) ?_
   refine g_addG 6 (M.perm [0, 1] rfl rfl) ?_
   refine gq (v := (Zj g6)) T 0 1 rfl (fun _ _ _ _ _ => (Zrf (off := 0) rfl (T.e 1 rfl) (fun _ _ _ => by kernel_rfl))) ?_; clear T ac; intro ac T
   refine gq T 1 3 rfl (fun B w' hD hl hS => (Zro (Mem.old (show Mem w exb w' _ from ((MA.lft hS) (hD.wait (i := 1) (m := 6) (by kernel_rfl) hl))) (Mem.nth M0 0 rfl) hnx9) rfl (T.e 0 rfl) rfl)) ?_; clear T ac; intro ac T
   refine gq (v := (.pointer (some ⟨g6, 1, none⟩))) T 2 7 rfl (fun _ _ _ _ _ => (Zrf (off := 1) rfl (T.e 3 rfl) (fun _ _ _ => by kernel_rfl))) ?_; clear T ac; intro ac T
   refine gq T 3 15 rfl (fun B w' hD hl hS => (Zro (Mem.old (show Mem w exb w' _ from ((MA.lft hS) (hD.wait (i := 3) (m := 6) (by kernel_rfl) hl))) (Mem.nth M0 0 rfl) hnx9) rfl (T.e 0 rfl) rfl)) ?_; clear T ac; intro ac T
   refine gw 4 31 ?_; intro K hK
   refine Zos M T rfl rfl (T.e 6 rfl) (T.e 2 rfl) rfl (.tail (.tail (.tail .head))) rfl (by simp) rfl (by kernel_rfl) ?_; clear M T; intro wc ac M T
   refine Zso hK _ _ (MA.mk (fun _ => M.mask [true, true, false, false] rfl) (MA.mk (fun _ => M.mask [true, true, true, false] rfl) (MA.mk (fun h => (no_of (by kernel_rfl) h).elim) (M.mask [true, false, false, false] rfl)))) ?_; clear hK K
   refine gw 5 63 ?_; intro K hK
   refine Zos M T rfl rfl (T.e 7 rfl) (T.e 0 rfl) rfl (.tail (.tail .head)) rfl (by simp) rfl (by kernel_rfl) ?_; clear M T; intro wc ac M T
   refine Zso hK _ _ (MA.mk (fun _ => M.mask [true, true, false, false] rfl) (MA.mk (fun h => (no_of (by kernel_rfl) h).elim) (MA.mk (fun h => (no_of (by kernel_rfl) h).elim) (M.mask [true, false, false, false] rfl)))) ?_; clear hK K
   refine gw 6 127 ?_; intro K hK
   refine Zos M T rfl rfl (T.e 8 rfl) evc rfl (.tail .head) rfl (by simp) rfl (by kernel_rfl) ?_; clear M T; intro wc ac M T
   refine Zso hK _ _ (MA.mk (fun h => (no_of (by kernel_rfl) h).elim) (MA.mk (fun h => (no_of (by kernel_rfl) h).elim) (MA.mk (fun h => (no_of (by kernel_rfl) h).elim) (M.mask [true, false, false, false] rfl)))) ?_; clear hK K
   refine Zgd (by kernel_rfl) ?_
   replace T := T.pick [6, 7, 8] rfl
   replace M := M.mask [false, true, true, true] rfl
   refine nm_then ?_
   refine wpIn_ret ?_
   refine Zrb ?_
   refine rp_ret (L := [(g4, .cells [Zi 0]), (g3, .cells [Zi x.1.row]), (g2, .cells [Zi x.1.nt])]) ⟨rfl, x.1, ?_, rfl⟩ (M.perm [0, 1, 2] rfl rfl)
   rw [List.map_append]
   exact (badL_snoc x.1 hb).trans (if_pos (by omega))
  intro h2
  refine wpIn_skip ?_
  refine Znb ?_
  refine rp_nm (L := [(g5, .cells [Zi l.first, Zi l.step, Zi l.span, Zi l.press, .slice A LL.length c, .slice G g.length d]), (g4, .cells [Zi 0]), (g3, .cells [Zi 0]), (g2, .cells [Zi 0])]) ?_ (M.mask [true, true, true, true] rfl)
  exact ⟨((congrArg (badL l) List.map_append).trans ((badL_snoc x.1 hb).trans (if_neg (by omega)))), rfl⟩
 ·rintro D1 pre Lx ac wc hSd hj hz T M
  obtain ⟨hb, rfl⟩ := hj
  replace T : TmD ((([D1] : List Nat)).map dfD) ac 34 [(4, Zj g2), (5, Zj g3), (6, Zj g4), (8, Zj g5), (20, .func (.func 126) #[] #[Zj gu2])] := T
  have hSd : pre.map (·.1) = _ := hSd
  rw [hSd] at hb
  replace T := T.pick [0, 1, 2] rfl
  replace M := M.mask [true, false, true, true, true] rfl
  refine Znb ?_
  refine nm_then ?_
  refine Zsr ?_
  refine Zl2 ?_
  refine Zos M T rfl rfl (T.e 0 rfl) evc rfl (.tail (.tail (.tail .head))) rfl (by simp) rfl (by kernel_rfl) ?_; clear M T; intro wc ac M T
  refine Zl2 ?_
  refine Zos M T rfl rfl (T.e 1 rfl) evc rfl (.tail (.tail .head)) rfl (by simp) rfl (by kernel_rfl) ?_; clear M T; intro wc ac M T
  refine Zl2 ?_
  refine Zos M T rfl rfl (T.e 2 rfl) evc rfl (.tail .head) rfl (by simp) rfl (by kernel_rfl) ?_; clear M T; intro wc ac M T
  refine Zln ?_
  refine wp_ret ?_
  refine rtM (L := [(g4, .cells [Zi 11]), (g3, .cells [Zi 0]), (g2, .cells [Zi 0])]) (([D1] : List Nat)) T (M.perm [1, 2, 3, 0] rfl rfl) ?_; clear T M; intro wc ac T M
  refine rt_ccc M T rfl (T.e 0 rfl) (T.e 1 rfl) (T.e 2 rfl) (Zne (i := 2) rfl) (Zne (i := 1) rfl) (Zne (i := 0) rfl) ?_
  have e9 : badE l (rowsOf LL) g = ((0, 0), 11) := by unfold badE; rw [if_pos (by simpa using h1), hb]; rfl
  rw [e9]
  exact ⟨rfl, M.below⟩
 ·rintro D1 c9 pre Lx ac wc hSp ⟨rfl, y, hby, rfl⟩ hz T M
  replace T : TmD ((([D1] : List Nat)).map dfD) ac 34 [(4, Zj g2), (5, Zj g3), (6, Zj g4), (8, Zj g5), (20, .func (.func 126) #[] #[Zj gu2])] := T
  replace M : Mem w noEx wc [(D1, dfA), (g4, .cells [Zi 0]), (g3, .cells [Zi y.row]), (g2, .cells [Zi y.nt])] := M
  refine wp_ret ?_
  refine Zrb ?_
  refine Zrt ?_
  refine rtM (L := [(g4, .cells [Zi 0]), (g3, .cells [Zi y.row]), (g2, .cells [Zi y.nt])]) (([D1] : List Nat)) T (M.perm [1, 2, 3, 0] rfl rfl) ?_; clear T M; intro wc ac T M
  refine rt_ccc M T rfl (T.e 0 rfl) (T.e 1 rfl) (T.e 2 rfl) (Zne (i := 2) rfl) (Zne (i := 1) rfl) (Zne (i := 0) rfl) ?_
  have e9 : badE l (rowsOf LL) g = ((y.nt, y.row), 0) := by unfold badE; rw [if_pos (by simpa using h1), badL_pre hby hSp]; rfl
  rw [e9]
  exact ⟨rfl, M.below⟩
end
theorem offL_snoc {due : Int} {x : Int × Int} : ∀ (L : List (Int × Int)) (n : Int), offL due (L ++ [x]) n = max (max (offL due L n) (x.2 - due)) (due - x.1)
 | [], n => by simp only [List.nil_append, offL]; omega
 | y :: L, n => by
  show offL due (L ++ [x]) _ = _
  rw [offL_snoc L]; rfl
theorem offL_max {due : Int} : ∀ (L : List (Int × Int)) (m n : Int), offL due L (max m n) = max m (offL due L n)
 | [], m, n => rfl
 | y :: L, m, n => by
  show offL due L _ = max m (offL due L _)
  rw [← offL_max L m]
  congr 1
  omega
def spanQ (l : Lw) (R : List (List Snd)) (g : List Int) (k m p : Nat) : Int := offL (l.first + l.step * (k : Int)) ((beatsL l (twoAt R g k m).lo (twoAt R g k m).hi).take p) (spanL l (prsQ R g k m))
theorem spanQ_zero (l : Lw) (R : List (List Snd)) (g : List Int) (k m : Nat) : spanQ l R g k m 0 = spanL l (prsQ R g k m) := rfl
theorem spanQ_step {l : Lw} {R : List (List Snd)} {g : List Int} {k m p : Nat} (hp : (p : Int) ≤ l.press) :
  spanQ l R g k m (p + 1) = max (max (spanQ l R g k m p) ((beatP (twoAt R g k m).lo (twoAt R g k m).hi p).2 - (l.first + l.step * (k : Int)))) ((l.first + l.step * (k : Int)) - (beatP (twoAt R g k m).lo (twoAt R g k m).hi p).1) := by
 unfold spanQ
 have e : (beatsL l (twoAt R g k m).lo (twoAt R g k m).hi)[p]? = some (beatP (twoAt R g k m).lo (twoAt R g k m).hi p) := by
  unfold beatsL
  rw [List.getElem?_map, List.getElem?_range (by omega)]; rfl
 rw [List.take_add_one, e]
 exact offL_snoc _ _
theorem spanQ_end {l : Lw} {R : List (List Snd)} {g : List Int} {k m p : Nat} (hp : l.press < (p : Int)) (hm : m + 1 < g.length) : spanQ l R g k m p = spanL l (prsQ R g k (m + 1)) := by
 unfold spanQ
 rw [List.take_of_length_le (by unfold beatsL; rw [List.length_map, List.length_range]; omega), prsQ_step hm, spanL_snoc]
 have h0 := (spanL_nonneg l (prsQ R g k m)).1
 have e := offL_max (due := l.first + l.step * (k : Int)) (beatsL l (twoAt R g k m).lo (twoAt R g k m).hi) (spanL l (prsQ R g k m)) 0
 rw [show max (spanL l (prsQ R g k m)) 0 = spanL l (prsQ R g k m) by omega] at e
 rw [e]; rfl
theorem badQ_none {l : Lw} {P : List Two} {x : Two} (h : badL l P = none) (hx : awayP l x ≤ l.span) : badL l (P ++ [x]) = none := by
 unfold badL at *
 rw [List.find?_append, h, List.find?_cons, Zdf (by omega)]; rfl
theorem badQ_some {l : Lw} {P Q : List Two} {x : Two} (h : badL l P = none) (hx : ¬ awayP l x ≤ l.span) (hq : P ++ [x] <+: Q) : badL l Q = some x := by
 obtain ⟨t, rfl⟩ := hq
 unfold badL at *
 rw [List.find?_append, List.find?_append, h, List.find?_cons, Zdt (by omega)]; rfl
theorem keeps8_two {l : Lw} {x : Two} (hs : 0 ≤ l.span) (ga : x.lo.good) (gb : x.hi.good) : keeps8 l (l.first + l.step * x.nt) x.lo x.hi = 1 ↔ awayP l x ≤ l.span := by
 have h := keeps8_one (l := l) (due := l.first + l.step * x.nt) hs ga gb
 rw [decide_eq_decide] at h
 exact h
end Go.Proofs.YtdnbljihhimijaaGreat


/-
  Walks of functions, and plain laws (texts put together). No condition.
-/
import Derived.Test.YtlahdenlmmlplaaMVoiceWitness1
import Derived.Test.YtlahdenlmmlplaaMVoiceWitness2
import Derived.Test.YtlahdenlmmlplaaMVoiceWitness3
import Derived.Test.YtlahdenlmmlplaaMVoiceWitness4

section
/-
 law05: trembling, the check with which each law ends.
-/
namespace Go.Proofs.Ytlahdenlmmlplaa
set_option linter.unusedSimpArgs false
set_option linter.unusedVariables false
open Go.RowKit
def ElsR (LL : List LS) (I : List (Nat × BA)) : Prop := ∀ x ∈ LL, ∃ b o, ∀ (w : World) (ex : Nat → Prop), Sp w ex I x.2.1 x.1.length 4 b o (sc x.1)
def ScalePost (l : Lw) (R : List (List Snd)) (w : World) (e : Ending) (w' : World) : Prop := ∃ A c LL I, rowsOf LL = R ∧ e = .returned (.agg #[.int .i64 l.first, .int .i64 l.step, .int .i64 l.span, .int .i64 l.press, .slice A LL.length c]) ∧ (∃ b o, ∀ (w : World) (ex : Nat → Prop), Sp w ex I A LL.length 1 b o (lsC LL)) ∧ ElsR LL I ∧ Mem w noEx w' I
set_option maxRecDepth 100000 in
set_option maxHeartbeats 8000000 in
theorem scale5_any  (w : World)  :
   Calls Try.prog 61 #[] w (ScalePost lawX rowsX w) := by
 refine px_enter noEx Try.func61 rfl 27 rfl [] rfl rfl (Mem.init w _) ?_
 intro ac wc T M
 refine wp_seq ?_
 refine wp_region_lit ?_
 refine l_w rfl ?_; intro K hK
 refine ow_al M T rfl rfl rfl rfl ?_; clear M T; intro g1 wc ac M T
 refine sh_out hK _ _ ?_; clear hK K
 refine wpList_nil ?_
 refine nm_then ?_
 refine wp_seq ?_
 refine wp_region_lit ?_
 refine l_w rfl ?_; intro K hK
 refine ow_call (first := []) (cap := []) T rfl rfl rfl rfl evf (.cons evc (.cons evc .nil)) Try.func24 rfl rfl ?_
 refine Calls.mono (to5_any 0 0 _) ?_
 clear T
 rintro e wc ⟨rfl, hb⟩
 intro ac T
 replace M := M.call hb; clear hb
 refine sh_out hK _ _ ?_; clear hK K
 refine l_w rfl ?_; intro K hK
 refine ow_al M T rfl rfl rfl rfl ?_; clear M T; intro g2 wc ac M T
 refine sh_out hK _ _ ?_; clear hK K
 refine l_w rfl ?_; intro K hK
 refine ow_stO M T rfl rfl (T.ev 0 rfl) (T.ev 1 rfl) rfl .head rfl (by simp) rfl (by kernel_rfl) ?_; clear M T; intro wc ac M T
 refine sh_out hK _ _ ?_; clear hK K
 refine wpList_nil ?_
 replace T := T.pick [0, 2] rfl
 refine nm_then ?_
 refine wp_seq ?_
 refine g_start2 M (M.perm [0] rfl rfl) 25 (by kernel_rfl) rfl (by kernel_rfl) ?_
 clear M; intro wc M
 refine g_addG 24 M ?_
 refine g_have (fun ac wc => ∃ (gr2_14 gr2_7 gr2_21 : Nat), Tm ac 27 [(17, .slice (some ⟨gr2_14, 0, none⟩) 2 2), (10, .slice (some ⟨gr2_7, 0, none⟩) 2 2), (24, .slice (some ⟨gr2_21, 0, none⟩) 2 2), (23, .agg #[.int .i64 30, .int .i64 30, .int .i64 0, .int .i64 0]), (21, .agg #[.int .i64 30, .int .i64 30]), (20, .agg #[.int .i64 30, .int .i64 30, .int .i64 0, .int .i64 0]), (18, .agg #[.int .i64 30, .int .i64 30]), (16, .agg #[.int .i64 13, .int .i64 15, .int .i64 0, .int .i64 0]), (14, .agg #[.int .i64 13, .int .i64 15]), (13, .agg #[.int .i64 20, .int .i64 20, .int .i64 0, .int .i64 0]), (11, .agg #[.int .i64 20, .int .i64 20]), (9, .agg #[.int .i64 0, .int .i64 0, .int .i64 0, .int .i64 0]), (7, .agg #[.int .i64 0, .int .i64 0]), (6, .agg #[.int .i64 (-1), .int .i64 1, .int .i64 0, .int .i64 0]), (4, .agg #[.int .i64 (-1), .int .i64 1]), (3, .agg #[.int .i64 20, .int .i64 (-2), .int .i64 4, .int .i64 2]), (22, .agg #[.int .i64 0, .int .i64 0]), (19, .agg #[.int .i64 0, .int .i64 0]), (15, .agg #[.int .i64 0, .int .i64 0]), (12, .agg #[.int .i64 0, .int .i64 0]), (8, .agg #[.int .i64 0, .int .i64 0]), (5, .agg #[.int .i64 0, .int .i64 0]), (1, .pointer (some ⟨g2, 0, none⟩)), (0, .pointer (some ⟨g1, 0, none⟩))] ∧ Mem w noEx wc [(gr2_14, .cells [.int .i64 20, .int .i64 20, .int .i64 0, .int .i64 0, .int .i64 13, .int .i64 15, .int .i64 0, .int .i64 0]), (gr2_7, .cells [.int .i64 (-1), .int .i64 1, .int .i64 0, .int .i64 0, .int .i64 0, .int .i64 0, .int .i64 0, .int .i64 0]), (gr2_21, .cells [.int .i64 30, .int .i64 30, .int .i64 0, .int .i64 0, .int .i64 30, .int .i64 30, .int .i64 0, .int .i64 0]), (g2, .cells [.int .i64 0, .int .i64 0]), (g1, .cells [.int .i64 0, .int .i64 0, .int .i64 0, .int .i64 0, .slice none 0 0])]) (pbits 25 4194303) 3 ?_ ?_
 ·clear T M
  rintro ac wc ⟨gr2_14, gr2_7, gr2_21, T, M⟩
  refine gw 22 8388607 ?_; intro K hK
  refine ow_bs (e := 38) [.slice (some ⟨gr2_7, 0, none⟩) 2 2, .slice (some ⟨gr2_14, 0, none⟩) 2 2, .slice (some ⟨gr2_21, 0, none⟩) 2 2] M T rfl rfl rfl rfl (.cons (T.ev 1 rfl) (.cons (T.ev 0 rfl) (.cons (T.ev 2 rfl) .nil))) (fun _ => by kernel_rfl) ?_; clear M T; intro gr2_22 wc ac M T
  refine sh_out hK _ _ (MA.mk (fun _ => M.mask [false, false, false, false, true, true] rfl) (M.mask [false, false, false, false, true, false] rfl)) ?_; clear hK K
  refine gq (v := (.agg #[.int .i64 20, .int .i64 (-2), .int .i64 4, .int .i64 2, .slice (some ⟨gr2_22, 0, none⟩) 3 3])) T 23 16777215 rfl (fun _ _ _ _ _ => (rn_build rfl (.cons (T.ev 16 rfl) (.cons (T.ev 0 rfl) .nil)) (fun _ => by kernel_rfl))) ?_; clear T ac; intro ac T
  refine gw 24 33554431 ?_; intro K hK
  refine ow_stO M T rfl rfl (T.ev 25 rfl) (T.ev 0 rfl) rfl (.tail (.tail (.tail (.tail (.tail .head))))) rfl (by simp) rfl (by kernel_rfl) ?_; clear M T; intro wc ac M T
  refine sh_out hK _ _ (MA.mk (fun h => (no_of (by kernel_rfl) h).elim) (M.mask [false, false, false, false, true, false] rfl)) ?_; clear hK K
  refine g_done (by kernel_rfl) ?_
  replace T := T.pick [25] rfl
  replace M := M.mask [true, true, true, true, false, true] rfl
  refine nm_then ?_
  refine wp_ret ?_
  refine rt_c M T rfl (T.ev 0 rfl) (nthE_mem (i := 4) rfl) rfl ?_
  refine ⟨some ⟨gr2_22, 0, none⟩, 3, [([⟨-1, 1, 0, 0⟩, ⟨0, 0, 0, 0⟩], some ⟨gr2_7, 0, none⟩, 2), ([⟨20, 20, 0, 0⟩, ⟨13, 15, 0, 0⟩], some ⟨gr2_14, 0, none⟩, 2), ([⟨30, 30, 0, 0⟩, ⟨30, 30, 0, 0⟩], some ⟨gr2_21, 0, none⟩, 2)], _, rfl, rfl, ⟨gr2_22, 0, fun w ex => (Sp.cells (xs := lsC [([⟨-1, 1, 0, 0⟩, ⟨0, 0, 0, 0⟩], some ⟨gr2_7, 0, none⟩, 2), ([⟨20, 20, 0, 0⟩, ⟨13, 15, 0, 0⟩], some ⟨gr2_14, 0, none⟩, 2), ([⟨30, 30, 0, 0⟩, ⟨30, 30, 0, 0⟩], some ⟨gr2_21, 0, none⟩, 2)]) rfl).mono (List.Sublist.cons_cons _ (List.nil_sublist _))⟩, ?_, M.perm [0, 2, 1, 3] rfl rfl⟩
  intro x hx
  simp only [List.mem_cons, List.not_mem_nil, or_false] at hx
  rcases hx with rfl | rfl | rfl
  · exact ⟨gr2_7, 0, fun w ex => (Sp.cells (xs := sc [⟨-1, 1, 0, 0⟩, ⟨0, 0, 0, 0⟩]) rfl).mono (.cons _ (.cons_cons _ (List.nil_sublist _)))⟩
  · exact ⟨gr2_14, 0, fun w ex => (Sp.cells (xs := sc [⟨20, 20, 0, 0⟩, ⟨13, 15, 0, 0⟩]) rfl).mono (.cons _ (.cons _ (.cons_cons _ (List.nil_sublist _))))⟩
  · exact ⟨gr2_21, 0, fun w ex => (Sp.cells (xs := sc [⟨30, 30, 0, 0⟩, ⟨30, 30, 0, 0⟩]) rfl).mono (.cons _ (.cons _ (.cons _ (.cons_cons _ (List.nil_sublist _)))))⟩
 intro H19
 refine g_have (fun ac wc => ∃ (gr2_14 gr2_7 : Nat), Tm ac 27 [(17, .slice (some ⟨gr2_14, 0, none⟩) 2 2), (10, .slice (some ⟨gr2_7, 0, none⟩) 2 2), (23, .agg #[.int .i64 30, .int .i64 30, .int .i64 0, .int .i64 0]), (21, .agg #[.int .i64 30, .int .i64 30]), (20, .agg #[.int .i64 30, .int .i64 30, .int .i64 0, .int .i64 0]), (18, .agg #[.int .i64 30, .int .i64 30]), (16, .agg #[.int .i64 13, .int .i64 15, .int .i64 0, .int .i64 0]), (14, .agg #[.int .i64 13, .int .i64 15]), (13, .agg #[.int .i64 20, .int .i64 20, .int .i64 0, .int .i64 0]), (11, .agg #[.int .i64 20, .int .i64 20]), (9, .agg #[.int .i64 0, .int .i64 0, .int .i64 0, .int .i64 0]), (7, .agg #[.int .i64 0, .int .i64 0]), (6, .agg #[.int .i64 (-1), .int .i64 1, .int .i64 0, .int .i64 0]), (4, .agg #[.int .i64 (-1), .int .i64 1]), (3, .agg #[.int .i64 20, .int .i64 (-2), .int .i64 4, .int .i64 2]), (22, .agg #[.int .i64 0, .int .i64 0]), (19, .agg #[.int .i64 0, .int .i64 0]), (15, .agg #[.int .i64 0, .int .i64 0]), (12, .agg #[.int .i64 0, .int .i64 0]), (8, .agg #[.int .i64 0, .int .i64 0]), (5, .agg #[.int .i64 0, .int .i64 0]), (1, .pointer (some ⟨g2, 0, none⟩)), (0, .pointer (some ⟨g1, 0, none⟩))] ∧ Mem w noEx wc [(gr2_14, .cells [.int .i64 20, .int .i64 20, .int .i64 0, .int .i64 0, .int .i64 13, .int .i64 15, .int .i64 0, .int .i64 0]), (gr2_7, .cells [.int .i64 (-1), .int .i64 1, .int .i64 0, .int .i64 0, .int .i64 0, .int .i64 0, .int .i64 0, .int .i64 0]), (g2, .cells [.int .i64 0, .int .i64 0]), (g1, .cells [.int .i64 0, .int .i64 0, .int .i64 0, .int .i64 0, .slice none 0 0])]) (pbits 25 2097151) 4 ?_ ?_
 ·clear T M
  rintro ac wc ⟨gr2_14, gr2_7, T, M⟩
  refine gw 21 4194303 ?_; intro K hK
  refine ow_bs (e := 48) [.int .i64 30, .int .i64 30, .int .i64 0, .int .i64 0, .int .i64 30, .int .i64 30, .int .i64 0, .int .i64 0] M T rfl rfl rfl rfl (.cons (T.ev 4 rfl) (.cons (T.ev 2 rfl) .nil)) (fun _ => by kernel_rfl) ?_; clear M T; intro gr2_21 wc ac M T
  refine sh_out hK _ _ (MA.mk (fun _ => M.mask [false, false, false, true, true] rfl) (M.mask [false, false, false, true, false] rfl)) ?_; clear hK K
  exact H19 _ _ ⟨gr2_14, gr2_7, gr2_21, T.pick [1, 2, 0, 3, 4, 5, 6, 7, 8, 9, 10, 11, 12, 13, 14, 15, 16, 17, 18, 19, 20, 21, 22, 23] rfl, M.perm [1, 2, 0, 3, 4] rfl rfl⟩
 intro H18
 refine g_have (fun ac wc => ∃ (gr2_14 gr2_21 : Nat), Tm ac 27 [(17, .slice (some ⟨gr2_14, 0, none⟩) 2 2), (24, .slice (some ⟨gr2_21, 0, none⟩) 2 2), (23, .agg #[.int .i64 30, .int .i64 30, .int .i64 0, .int .i64 0]), (21, .agg #[.int .i64 30, .int .i64 30]), (20, .agg #[.int .i64 30, .int .i64 30, .int .i64 0, .int .i64 0]), (18, .agg #[.int .i64 30, .int .i64 30]), (16, .agg #[.int .i64 13, .int .i64 15, .int .i64 0, .int .i64 0]), (14, .agg #[.int .i64 13, .int .i64 15]), (13, .agg #[.int .i64 20, .int .i64 20, .int .i64 0, .int .i64 0]), (11, .agg #[.int .i64 20, .int .i64 20]), (9, .agg #[.int .i64 0, .int .i64 0, .int .i64 0, .int .i64 0]), (7, .agg #[.int .i64 0, .int .i64 0]), (6, .agg #[.int .i64 (-1), .int .i64 1, .int .i64 0, .int .i64 0]), (4, .agg #[.int .i64 (-1), .int .i64 1]), (3, .agg #[.int .i64 20, .int .i64 (-2), .int .i64 4, .int .i64 2]), (22, .agg #[.int .i64 0, .int .i64 0]), (19, .agg #[.int .i64 0, .int .i64 0]), (15, .agg #[.int .i64 0, .int .i64 0]), (12, .agg #[.int .i64 0, .int .i64 0]), (8, .agg #[.int .i64 0, .int .i64 0]), (5, .agg #[.int .i64 0, .int .i64 0]), (1, .pointer (some ⟨g2, 0, none⟩)), (0, .pointer (some ⟨g1, 0, none⟩))] ∧ Mem w noEx wc [(gr2_14, .cells [.int .i64 20, .int .i64 20, .int .i64 0, .int .i64 0, .int .i64 13, .int .i64 15, .int .i64 0, .int .i64 0]), (gr2_21, .cells [.int .i64 30, .int .i64 30, .int .i64 0, .int .i64 0, .int .i64 30, .int .i64 30, .int .i64 0, .int .i64 0]), (g2, .cells [.int .i64 0, .int .i64 0]), (g1, .cells [.int .i64 0, .int .i64 0, .int .i64 0, .int .i64 0, .slice none 0 0])]) (pbits 25 4194175) 4 ?_ ?_
 ·clear T M
  rintro ac wc ⟨gr2_14, gr2_21, T, M⟩
  refine gw 7 4194303 ?_; intro K hK
  refine ow_bs (e := 48) [.int .i64 (-1), .int .i64 1, .int .i64 0, .int .i64 0, .int .i64 0, .int .i64 0, .int .i64 0, .int .i64 0] M T rfl rfl rfl rfl (.cons (T.ev 12 rfl) (.cons (T.ev 10 rfl) .nil)) (fun _ => by kernel_rfl) ?_; clear M T; intro gr2_7 wc ac M T
  refine sh_out hK _ _ (MA.mk (fun _ => M.mask [false, false, false, true, true] rfl) (M.mask [false, false, false, true, false] rfl)) ?_; clear hK K
  exact H19 _ _ ⟨gr2_14, gr2_7, gr2_21, T.pick [1, 0, 2, 3, 4, 5, 6, 7, 8, 9, 10, 11, 12, 13, 14, 15, 16, 17, 18, 19, 20, 21, 22, 23] rfl, M.perm [1, 0, 2, 3, 4] rfl rfl⟩
 intro H17
 refine g_have (fun ac wc => ∃ (gr2_7 gr2_21 : Nat), Tm ac 27 [(10, .slice (some ⟨gr2_7, 0, none⟩) 2 2), (24, .slice (some ⟨gr2_21, 0, none⟩) 2 2), (23, .agg #[.int .i64 30, .int .i64 30, .int .i64 0, .int .i64 0]), (21, .agg #[.int .i64 30, .int .i64 30]), (20, .agg #[.int .i64 30, .int .i64 30, .int .i64 0, .int .i64 0]), (18, .agg #[.int .i64 30, .int .i64 30]), (16, .agg #[.int .i64 13, .int .i64 15, .int .i64 0, .int .i64 0]), (14, .agg #[.int .i64 13, .int .i64 15]), (13, .agg #[.int .i64 20, .int .i64 20, .int .i64 0, .int .i64 0]), (11, .agg #[.int .i64 20, .int .i64 20]), (9, .agg #[.int .i64 0, .int .i64 0, .int .i64 0, .int .i64 0]), (7, .agg #[.int .i64 0, .int .i64 0]), (6, .agg #[.int .i64 (-1), .int .i64 1, .int .i64 0, .int .i64 0]), (4, .agg #[.int .i64 (-1), .int .i64 1]), (3, .agg #[.int .i64 20, .int .i64 (-2), .int .i64 4, .int .i64 2]), (22, .agg #[.int .i64 0, .int .i64 0]), (19, .agg #[.int .i64 0, .int .i64 0]), (15, .agg #[.int .i64 0, .int .i64 0]), (12, .agg #[.int .i64 0, .int .i64 0]), (8, .agg #[.int .i64 0, .int .i64 0]), (5, .agg #[.int .i64 0, .int .i64 0]), (1, .pointer (some ⟨g2, 0, none⟩)), (0, .pointer (some ⟨g1, 0, none⟩))] ∧ Mem w noEx wc [(gr2_7, .cells [.int .i64 (-1), .int .i64 1, .int .i64 0, .int .i64 0, .int .i64 0, .int .i64 0, .int .i64 0, .int .i64 0]), (gr2_21, .cells [.int .i64 30, .int .i64 30, .int .i64 0, .int .i64 0, .int .i64 30, .int .i64 30, .int .i64 0, .int .i64 0]), (g2, .cells [.int .i64 0, .int .i64 0]), (g1, .cells [.int .i64 0, .int .i64 0, .int .i64 0, .int .i64 0, .slice none 0 0])]) (pbits 25 4177919) 4 ?_ ?_
 ·clear T M
  rintro ac wc ⟨gr2_7, gr2_21, T, M⟩
  refine gw 14 4194303 ?_; intro K hK
  refine ow_bs (e := 48) [.int .i64 20, .int .i64 20, .int .i64 0, .int .i64 0, .int .i64 13, .int .i64 15, .int .i64 0, .int .i64 0] M T rfl rfl rfl rfl (.cons (T.ev 8 rfl) (.cons (T.ev 6 rfl) .nil)) (fun _ => by kernel_rfl) ?_; clear M T; intro gr2_14 wc ac M T
  refine sh_out hK _ _ (MA.mk (fun _ => M.mask [false, false, false, true, true] rfl) (M.mask [false, false, false, true, false] rfl)) ?_; clear hK K
  exact H19 _ _ ⟨gr2_14, gr2_7, gr2_21, T, M⟩
 intro H16
 refine g_have (fun ac wc => ∃ (gr2_14 gr2_7 : Nat), Tm ac 27 [(17, .slice (some ⟨gr2_14, 0, none⟩) 2 2), (10, .slice (some ⟨gr2_7, 0, none⟩) 2 2), (21, .agg #[.int .i64 30, .int .i64 30]), (20, .agg #[.int .i64 30, .int .i64 30, .int .i64 0, .int .i64 0]), (18, .agg #[.int .i64 30, .int .i64 30]), (16, .agg #[.int .i64 13, .int .i64 15, .int .i64 0, .int .i64 0]), (14, .agg #[.int .i64 13, .int .i64 15]), (13, .agg #[.int .i64 20, .int .i64 20, .int .i64 0, .int .i64 0]), (11, .agg #[.int .i64 20, .int .i64 20]), (9, .agg #[.int .i64 0, .int .i64 0, .int .i64 0, .int .i64 0]), (7, .agg #[.int .i64 0, .int .i64 0]), (6, .agg #[.int .i64 (-1), .int .i64 1, .int .i64 0, .int .i64 0]), (4, .agg #[.int .i64 (-1), .int .i64 1]), (3, .agg #[.int .i64 20, .int .i64 (-2), .int .i64 4, .int .i64 2]), (22, .agg #[.int .i64 0, .int .i64 0]), (19, .agg #[.int .i64 0, .int .i64 0]), (15, .agg #[.int .i64 0, .int .i64 0]), (12, .agg #[.int .i64 0, .int .i64 0]), (8, .agg #[.int .i64 0, .int .i64 0]), (5, .agg #[.int .i64 0, .int .i64 0]), (1, .pointer (some ⟨g2, 0, none⟩)), (0, .pointer (some ⟨g1, 0, none⟩))] ∧ Mem w noEx wc [(gr2_14, .cells [.int .i64 20, .int .i64 20, .int .i64 0, .int .i64 0, .int .i64 13, .int .i64 15, .int .i64 0, .int .i64 0]), (gr2_7, .cells [.int .i64 (-1), .int .i64 1, .int .i64 0, .int .i64 0, .int .i64 0, .int .i64 0, .int .i64 0, .int .i64 0]), (g2, .cells [.int .i64 0, .int .i64 0]), (g1, .cells [.int .i64 0, .int .i64 0, .int .i64 0, .int .i64 0, .slice none 0 0])]) (pbits 25 1048575) 5 ?_ ?_
 ·clear T M
  rintro ac wc ⟨gr2_14, gr2_7, T, M⟩
  refine gw 20 2097151 ?_; intro K hK
  refine ow_call (first := []) (cap := []) T rfl rfl rfl rfl evf (.cons (T.ev 2 rfl) (.cons (T.ev 14 rfl) .nil)) Try.func36 rfl rfl ?_
  refine Calls.mono (sound5_any 30 30 0 0 _) ?_
  clear T
  rintro e wc ⟨rfl, hb⟩
  intro ac T
  replace M := M.call hb; clear hb
  refine sh_out hK _ _ (MA.mk (fun _ => M.mask [false, false, true, true] rfl) (M.mask [false, false, true, false] rfl)) ?_; clear hK K
  exact H18 _ _ ⟨gr2_14, gr2_7, T.pick [1, 2, 0, 3, 4, 5, 6, 7, 8, 9, 10, 11, 12, 13, 14, 15, 16, 17, 18, 19, 20, 21, 22] rfl, M⟩
 intro H15
 refine g_have (fun ac wc => ∃ (gr2_14 : Nat), Tm ac 27 [(17, .slice (some ⟨gr2_14, 0, none⟩) 2 2), (23, .agg #[.int .i64 30, .int .i64 30, .int .i64 0, .int .i64 0]), (21, .agg #[.int .i64 30, .int .i64 30]), (20, .agg #[.int .i64 30, .int .i64 30, .int .i64 0, .int .i64 0]), (18, .agg #[.int .i64 30, .int .i64 30]), (16, .agg #[.int .i64 13, .int .i64 15, .int .i64 0, .int .i64 0]), (14, .agg #[.int .i64 13, .int .i64 15]), (13, .agg #[.int .i64 20, .int .i64 20, .int .i64 0, .int .i64 0]), (11, .agg #[.int .i64 20, .int .i64 20]), (9, .agg #[.int .i64 0, .int .i64 0, .int .i64 0, .int .i64 0]), (7, .agg #[.int .i64 0, .int .i64 0]), (6, .agg #[.int .i64 (-1), .int .i64 1, .int .i64 0, .int .i64 0]), (4, .agg #[.int .i64 (-1), .int .i64 1]), (3, .agg #[.int .i64 20, .int .i64 (-2), .int .i64 4, .int .i64 2]), (22, .agg #[.int .i64 0, .int .i64 0]), (19, .agg #[.int .i64 0, .int .i64 0]), (15, .agg #[.int .i64 0, .int .i64 0]), (12, .agg #[.int .i64 0, .int .i64 0]), (8, .agg #[.int .i64 0, .int .i64 0]), (5, .agg #[.int .i64 0, .int .i64 0]), (1, .pointer (some ⟨g2, 0, none⟩)), (0, .pointer (some ⟨g1, 0, none⟩))] ∧ Mem w noEx wc [(gr2_14, .cells [.int .i64 20, .int .i64 20, .int .i64 0, .int .i64 0, .int .i64 13, .int .i64 15, .int .i64 0, .int .i64 0]), (g2, .cells [.int .i64 0, .int .i64 0]), (g1, .cells [.int .i64 0, .int .i64 0, .int .i64 0, .int .i64 0, .slice none 0 0])]) (pbits 25 2097023) 5 ?_ ?_
 ·clear T M
  rintro ac wc ⟨gr2_14, T, M⟩
  refine g_m2 (i := 7) (j := 21) (by kernel_rfl) ?_ ?_
  ·refine gi 2097151 ?_; intro K hK
   refine ow_bs (e := 48) [.int .i64 (-1), .int .i64 1, .int .i64 0, .int .i64 0, .int .i64 0, .int .i64 0, .int .i64 0, .int .i64 0] M T rfl rfl rfl rfl (.cons (T.ev 11 rfl) (.cons (T.ev 9 rfl) .nil)) (fun _ => by kernel_rfl) ?_; clear M T; intro gr2_7 wc ac M T
   refine sh_out hK _ _ (MA.mk (fun _ => M.mask [false, false, true, true] rfl) (M.mask [false, false, true, false] rfl)) ?_; clear hK K
   exact H18 _ _ ⟨gr2_14, gr2_7, T.pick [1, 0, 2, 3, 4, 5, 6, 7, 8, 9, 10, 11, 12, 13, 14, 15, 16, 17, 18, 19, 20, 21, 22] rfl, M.perm [1, 0, 2, 3] rfl rfl⟩
  refine gi 4194175 ?_; intro K hK
  refine ow_bs (e := 48) [.int .i64 30, .int .i64 30, .int .i64 0, .int .i64 0, .int .i64 30, .int .i64 30, .int .i64 0, .int .i64 0] M T rfl rfl rfl rfl (.cons (T.ev 3 rfl) (.cons (T.ev 1 rfl) .nil)) (fun _ => by kernel_rfl) ?_; clear M T; intro gr2_21 wc ac M T
  refine sh_out hK _ _ (MA.mk (fun _ => M.mask [false, false, true, true] rfl) (M.mask [false, false, true, false] rfl)) ?_; clear hK K
  exact H17 _ _ ⟨gr2_14, gr2_21, T.pick [1, 0, 2, 3, 4, 5, 6, 7, 8, 9, 10, 11, 12, 13, 14, 15, 16, 17, 18, 19, 20, 21, 22] rfl, M.perm [1, 0, 2, 3] rfl rfl⟩
 intro H14
 refine g_have (fun ac wc => ∃ (gr2_7 : Nat), Tm ac 27 [(10, .slice (some ⟨gr2_7, 0, none⟩) 2 2), (23, .agg #[.int .i64 30, .int .i64 30, .int .i64 0, .int .i64 0]), (21, .agg #[.int .i64 30, .int .i64 30]), (20, .agg #[.int .i64 30, .int .i64 30, .int .i64 0, .int .i64 0]), (18, .agg #[.int .i64 30, .int .i64 30]), (16, .agg #[.int .i64 13, .int .i64 15, .int .i64 0, .int .i64 0]), (14, .agg #[.int .i64 13, .int .i64 15]), (13, .agg #[.int .i64 20, .int .i64 20, .int .i64 0, .int .i64 0]), (11, .agg #[.int .i64 20, .int .i64 20]), (9, .agg #[.int .i64 0, .int .i64 0, .int .i64 0, .int .i64 0]), (7, .agg #[.int .i64 0, .int .i64 0]), (6, .agg #[.int .i64 (-1), .int .i64 1, .int .i64 0, .int .i64 0]), (4, .agg #[.int .i64 (-1), .int .i64 1]), (3, .agg #[.int .i64 20, .int .i64 (-2), .int .i64 4, .int .i64 2]), (22, .agg #[.int .i64 0, .int .i64 0]), (19, .agg #[.int .i64 0, .int .i64 0]), (15, .agg #[.int .i64 0, .int .i64 0]), (12, .agg #[.int .i64 0, .int .i64 0]), (8, .agg #[.int .i64 0, .int .i64 0]), (5, .agg #[.int .i64 0, .int .i64 0]), (1, .pointer (some ⟨g2, 0, none⟩)), (0, .pointer (some ⟨g1, 0, none⟩))] ∧ Mem w noEx wc [(gr2_7, .cells [.int .i64 (-1), .int .i64 1, .int .i64 0, .int .i64 0, .int .i64 0, .int .i64 0, .int .i64 0, .int .i64 0]), (g2, .cells [.int .i64 0, .int .i64 0]), (g1, .cells [.int .i64 0, .int .i64 0, .int .i64 0, .int .i64 0, .slice none 0 0])]) (pbits 25 2080767) 5 ?_ ?_
 ·clear T M
  rintro ac wc ⟨gr2_7, T, M⟩
  refine g_m2 (i := 14) (j := 21) (by kernel_rfl) ?_ ?_
  ·refine gi 2097151 ?_; intro K hK
   refine ow_bs (e := 48) [.int .i64 20, .int .i64 20, .int .i64 0, .int .i64 0, .int .i64 13, .int .i64 15, .int .i64 0, .int .i64 0] M T rfl rfl rfl rfl (.cons (T.ev 7 rfl) (.cons (T.ev 5 rfl) .nil)) (fun _ => by kernel_rfl) ?_; clear M T; intro gr2_14 wc ac M T
   refine sh_out hK _ _ (MA.mk (fun _ => M.mask [false, false, true, true] rfl) (M.mask [false, false, true, false] rfl)) ?_; clear hK K
   exact H18 _ _ ⟨gr2_14, gr2_7, T, M⟩
  refine gi 4177919 ?_; intro K hK
  refine ow_bs (e := 48) [.int .i64 30, .int .i64 30, .int .i64 0, .int .i64 0, .int .i64 30, .int .i64 30, .int .i64 0, .int .i64 0] M T rfl rfl rfl rfl (.cons (T.ev 3 rfl) (.cons (T.ev 1 rfl) .nil)) (fun _ => by kernel_rfl) ?_; clear M T; intro gr2_21 wc ac M T
  refine sh_out hK _ _ (MA.mk (fun _ => M.mask [false, false, true, true] rfl) (M.mask [false, false, true, false] rfl)) ?_; clear hK K
  exact H16 _ _ ⟨gr2_7, gr2_21, T.pick [1, 0, 2, 3, 4, 5, 6, 7, 8, 9, 10, 11, 12, 13, 14, 15, 16, 17, 18, 19, 20, 21, 22] rfl, M.perm [1, 0, 2, 3] rfl rfl⟩
 intro H13
 refine g_have (fun ac wc => ∃ (gr2_14 gr2_7 : Nat), Tm ac 27 [(17, .slice (some ⟨gr2_14, 0, none⟩) 2 2), (10, .slice (some ⟨gr2_7, 0, none⟩) 2 2), (20, .agg #[.int .i64 30, .int .i64 30, .int .i64 0, .int .i64 0]), (18, .agg #[.int .i64 30, .int .i64 30]), (16, .agg #[.int .i64 13, .int .i64 15, .int .i64 0, .int .i64 0]), (14, .agg #[.int .i64 13, .int .i64 15]), (13, .agg #[.int .i64 20, .int .i64 20, .int .i64 0, .int .i64 0]), (11, .agg #[.int .i64 20, .int .i64 20]), (9, .agg #[.int .i64 0, .int .i64 0, .int .i64 0, .int .i64 0]), (7, .agg #[.int .i64 0, .int .i64 0]), (6, .agg #[.int .i64 (-1), .int .i64 1, .int .i64 0, .int .i64 0]), (4, .agg #[.int .i64 (-1), .int .i64 1]), (3, .agg #[.int .i64 20, .int .i64 (-2), .int .i64 4, .int .i64 2]), (22, .agg #[.int .i64 0, .int .i64 0]), (19, .agg #[.int .i64 0, .int .i64 0]), (15, .agg #[.int .i64 0, .int .i64 0]), (12, .agg #[.int .i64 0, .int .i64 0]), (8, .agg #[.int .i64 0, .int .i64 0]), (5, .agg #[.int .i64 0, .int .i64 0]), (1, .pointer (some ⟨g2, 0, none⟩)), (0, .pointer (some ⟨g1, 0, none⟩))] ∧ Mem w noEx wc [(gr2_14, .cells [.int .i64 20, .int .i64 20, .int .i64 0, .int .i64 0, .int .i64 13, .int .i64 15, .int .i64 0, .int .i64 0]), (gr2_7, .cells [.int .i64 (-1), .int .i64 1, .int .i64 0, .int .i64 0, .int .i64 0, .int .i64 0, .int .i64 0, .int .i64 0]), (g2, .cells [.int .i64 0, .int .i64 0]), (g1, .cells [.int .i64 0, .int .i64 0, .int .i64 0, .int .i64 0, .slice none 0 0])]) (pbits 25 786431) 6 ?_ ?_
 ·clear T M
  rintro ac wc ⟨gr2_14, gr2_7, T, M⟩
  refine gw 18 1048575 ?_; intro K hK
  refine ow_call (first := []) (cap := []) T rfl rfl rfl rfl evf (.cons evc (.cons evc .nil)) Try.func24 rfl rfl ?_
  refine Calls.mono (to5_any 30 30 _) ?_
  clear T
  rintro e wc ⟨rfl, hb⟩
  intro ac T
  replace M := M.call hb; clear hb
  refine sh_out hK _ _ (MA.mk (fun _ => M.mask [false, false, true, true] rfl) (M.mask [false, false, true, false] rfl)) ?_; clear hK K
  exact H15 _ _ ⟨gr2_14, gr2_7, T.pick [1, 2, 0, 3, 4, 5, 6, 7, 8, 9, 10, 11, 12, 13, 14, 15, 16, 17, 18, 19, 20, 21] rfl, M⟩
 intro H12
 refine g_have (fun ac wc => ∃ (gr2_14 : Nat), Tm ac 27 [(17, .slice (some ⟨gr2_14, 0, none⟩) 2 2), (21, .agg #[.int .i64 30, .int .i64 30]), (20, .agg #[.int .i64 30, .int .i64 30, .int .i64 0, .int .i64 0]), (18, .agg #[.int .i64 30, .int .i64 30]), (16, .agg #[.int .i64 13, .int .i64 15, .int .i64 0, .int .i64 0]), (14, .agg #[.int .i64 13, .int .i64 15]), (13, .agg #[.int .i64 20, .int .i64 20, .int .i64 0, .int .i64 0]), (11, .agg #[.int .i64 20, .int .i64 20]), (9, .agg #[.int .i64 0, .int .i64 0, .int .i64 0, .int .i64 0]), (7, .agg #[.int .i64 0, .int .i64 0]), (6, .agg #[.int .i64 (-1), .int .i64 1, .int .i64 0, .int .i64 0]), (4, .agg #[.int .i64 (-1), .int .i64 1]), (3, .agg #[.int .i64 20, .int .i64 (-2), .int .i64 4, .int .i64 2]), (22, .agg #[.int .i64 0, .int .i64 0]), (19, .agg #[.int .i64 0, .int .i64 0]), (15, .agg #[.int .i64 0, .int .i64 0]), (12, .agg #[.int .i64 0, .int .i64 0]), (8, .agg #[.int .i64 0, .int .i64 0]), (5, .agg #[.int .i64 0, .int .i64 0]), (1, .pointer (some ⟨g2, 0, none⟩)), (0, .pointer (some ⟨g1, 0, none⟩))] ∧ Mem w noEx wc [(gr2_14, .cells [.int .i64 20, .int .i64 20, .int .i64 0, .int .i64 0, .int .i64 13, .int .i64 15, .int .i64 0, .int .i64 0]), (g2, .cells [.int .i64 0, .int .i64 0]), (g1, .cells [.int .i64 0, .int .i64 0, .int .i64 0, .int .i64 0, .slice none 0 0])]) (pbits 25 1048447) 6 ?_ ?_
 ·clear T M
  rintro ac wc ⟨gr2_14, T, M⟩
  refine g_m2 (i := 7) (j := 20) (by kernel_rfl) ?_ ?_
  ·refine gi 1048575 ?_; intro K hK
   refine ow_bs (e := 48) [.int .i64 (-1), .int .i64 1, .int .i64 0, .int .i64 0, .int .i64 0, .int .i64 0, .int .i64 0, .int .i64 0] M T rfl rfl rfl rfl (.cons (T.ev 10 rfl) (.cons (T.ev 8 rfl) .nil)) (fun _ => by kernel_rfl) ?_; clear M T; intro gr2_7 wc ac M T
   refine sh_out hK _ _ (MA.mk (fun _ => M.mask [false, false, true, true] rfl) (M.mask [false, false, true, false] rfl)) ?_; clear hK K
   exact H15 _ _ ⟨gr2_14, gr2_7, T.pick [1, 0, 2, 3, 4, 5, 6, 7, 8, 9, 10, 11, 12, 13, 14, 15, 16, 17, 18, 19, 20, 21] rfl, M.perm [1, 0, 2, 3] rfl rfl⟩
  refine gi 2097023 ?_; intro K hK
  refine ow_call (first := []) (cap := []) T rfl rfl rfl rfl evf (.cons (T.ev 1 rfl) (.cons (T.ev 13 rfl) .nil)) Try.func36 rfl rfl ?_
  refine Calls.mono (sound5_any 30 30 0 0 _) ?_
  clear T
  rintro e wc ⟨rfl, hb⟩
  intro ac T
  replace M := M.call hb; clear hb
  refine sh_out hK _ _ (MA.mk (fun _ => M.mask [false, true, true] rfl) (M.mask [false, true, false] rfl)) ?_; clear hK K
  exact H14 _ _ ⟨gr2_14, T.pick [1, 0, 2, 3, 4, 5, 6, 7, 8, 9, 10, 11, 12, 13, 14, 15, 16, 17, 18, 19, 20, 21] rfl, M⟩
 intro H11
 refine g_have (fun ac wc => ∃ (gr2_7 : Nat), Tm ac 27 [(10, .slice (some ⟨gr2_7, 0, none⟩) 2 2), (21, .agg #[.int .i64 30, .int .i64 30]), (20, .agg #[.int .i64 30, .int .i64 30, .int .i64 0, .int .i64 0]), (18, .agg #[.int .i64 30, .int .i64 30]), (16, .agg #[.int .i64 13, .int .i64 15, .int .i64 0, .int .i64 0]), (14, .agg #[.int .i64 13, .int .i64 15]), (13, .agg #[.int .i64 20, .int .i64 20, .int .i64 0, .int .i64 0]), (11, .agg #[.int .i64 20, .int .i64 20]), (9, .agg #[.int .i64 0, .int .i64 0, .int .i64 0, .int .i64 0]), (7, .agg #[.int .i64 0, .int .i64 0]), (6, .agg #[.int .i64 (-1), .int .i64 1, .int .i64 0, .int .i64 0]), (4, .agg #[.int .i64 (-1), .int .i64 1]), (3, .agg #[.int .i64 20, .int .i64 (-2), .int .i64 4, .int .i64 2]), (22, .agg #[.int .i64 0, .int .i64 0]), (19, .agg #[.int .i64 0, .int .i64 0]), (15, .agg #[.int .i64 0, .int .i64 0]), (12, .agg #[.int .i64 0, .int .i64 0]), (8, .agg #[.int .i64 0, .int .i64 0]), (5, .agg #[.int .i64 0, .int .i64 0]), (1, .pointer (some ⟨g2, 0, none⟩)), (0, .pointer (some ⟨g1, 0, none⟩))] ∧ Mem w noEx wc [(gr2_7, .cells [.int .i64 (-1), .int .i64 1, .int .i64 0, .int .i64 0, .int .i64 0, .int .i64 0, .int .i64 0, .int .i64 0]), (g2, .cells [.int .i64 0, .int .i64 0]), (g1, .cells [.int .i64 0, .int .i64 0, .int .i64 0, .int .i64 0, .slice none 0 0])]) (pbits 25 1032191) 6 ?_ ?_
 ·clear T M
  rintro ac wc ⟨gr2_7, T, M⟩
  refine g_m2 (i := 14) (j := 20) (by kernel_rfl) ?_ ?_
  ·refine gi 1048575 ?_; intro K hK
   refine ow_bs (e := 48) [.int .i64 20, .int .i64 20, .int .i64 0, .int .i64 0, .int .i64 13, .int .i64 15, .int .i64 0, .int .i64 0] M T rfl rfl rfl rfl (.cons (T.ev 6 rfl) (.cons (T.ev 4 rfl) .nil)) (fun _ => by kernel_rfl) ?_; clear M T; intro gr2_14 wc ac M T
   refine sh_out hK _ _ (MA.mk (fun _ => M.mask [false, false, true, true] rfl) (M.mask [false, false, true, false] rfl)) ?_; clear hK K
   exact H15 _ _ ⟨gr2_14, gr2_7, T, M⟩
  refine gi 2080767 ?_; intro K hK
  refine ow_call (first := []) (cap := []) T rfl rfl rfl rfl evf (.cons (T.ev 1 rfl) (.cons (T.ev 13 rfl) .nil)) Try.func36 rfl rfl ?_
  refine Calls.mono (sound5_any 30 30 0 0 _) ?_
  clear T
  rintro e wc ⟨rfl, hb⟩
  intro ac T
  replace M := M.call hb; clear hb
  refine sh_out hK _ _ (MA.mk (fun _ => M.mask [false, true, true] rfl) (M.mask [false, true, false] rfl)) ?_; clear hK K
  exact H13 _ _ ⟨gr2_7, T.pick [1, 0, 2, 3, 4, 5, 6, 7, 8, 9, 10, 11, 12, 13, 14, 15, 16, 17, 18, 19, 20, 21] rfl, M⟩
 intro H10
 refine g_have (fun ac wc => ∃ (gr2_14 gr2_7 : Nat), Tm ac 27 [(17, .slice (some ⟨gr2_14, 0, none⟩) 2 2), (10, .slice (some ⟨gr2_7, 0, none⟩) 2 2), (18, .agg #[.int .i64 30, .int .i64 30]), (16, .agg #[.int .i64 13, .int .i64 15, .int .i64 0, .int .i64 0]), (14, .agg #[.int .i64 13, .int .i64 15]), (13, .agg #[.int .i64 20, .int .i64 20, .int .i64 0, .int .i64 0]), (11, .agg #[.int .i64 20, .int .i64 20]), (9, .agg #[.int .i64 0, .int .i64 0, .int .i64 0, .int .i64 0]), (7, .agg #[.int .i64 0, .int .i64 0]), (6, .agg #[.int .i64 (-1), .int .i64 1, .int .i64 0, .int .i64 0]), (4, .agg #[.int .i64 (-1), .int .i64 1]), (3, .agg #[.int .i64 20, .int .i64 (-2), .int .i64 4, .int .i64 2]), (22, .agg #[.int .i64 0, .int .i64 0]), (19, .agg #[.int .i64 0, .int .i64 0]), (15, .agg #[.int .i64 0, .int .i64 0]), (12, .agg #[.int .i64 0, .int .i64 0]), (8, .agg #[.int .i64 0, .int .i64 0]), (5, .agg #[.int .i64 0, .int .i64 0]), (1, .pointer (some ⟨g2, 0, none⟩)), (0, .pointer (some ⟨g1, 0, none⟩))] ∧ Mem w noEx wc [(gr2_14, .cells [.int .i64 20, .int .i64 20, .int .i64 0, .int .i64 0, .int .i64 13, .int .i64 15, .int .i64 0, .int .i64 0]), (gr2_7, .cells [.int .i64 (-1), .int .i64 1, .int .i64 0, .int .i64 0, .int .i64 0, .int .i64 0, .int .i64 0, .int .i64 0]), (g2, .cells [.int .i64 0, .int .i64 0]), (g1, .cells [.int .i64 0, .int .i64 0, .int .i64 0, .int .i64 0, .slice none 0 0])]) (pbits 25 655359) 7 ?_ ?_
 ·clear T M
  rintro ac wc ⟨gr2_14, gr2_7, T, M⟩
  refine gw 17 786431 ?_; intro K hK
  refine ow_call (first := []) (cap := []) T rfl rfl rfl rfl evf (.cons (T.ev 2 rfl) (.cons (T.ev 13 rfl) .nil)) Try.func36 rfl rfl ?_
  refine Calls.mono (sound5_any 30 30 0 0 _) ?_
  clear T
  rintro e wc ⟨rfl, hb⟩
  intro ac T
  replace M := M.call hb; clear hb
  refine sh_out hK _ _ (MA.mk (fun _ => M.mask [false, false, true, true] rfl) (M.mask [false, false, true, false] rfl)) ?_; clear hK K
  exact H12 _ _ ⟨gr2_14, gr2_7, T.pick [1, 2, 0, 3, 4, 5, 6, 7, 8, 9, 10, 11, 12, 13, 14, 15, 16, 17, 18, 19, 20] rfl, M⟩
 intro H9
 refine g_have (fun ac wc => ∃ (gr2_14 : Nat), Tm ac 27 [(17, .slice (some ⟨gr2_14, 0, none⟩) 2 2), (20, .agg #[.int .i64 30, .int .i64 30, .int .i64 0, .int .i64 0]), (18, .agg #[.int .i64 30, .int .i64 30]), (16, .agg #[.int .i64 13, .int .i64 15, .int .i64 0, .int .i64 0]), (14, .agg #[.int .i64 13, .int .i64 15]), (13, .agg #[.int .i64 20, .int .i64 20, .int .i64 0, .int .i64 0]), (11, .agg #[.int .i64 20, .int .i64 20]), (9, .agg #[.int .i64 0, .int .i64 0, .int .i64 0, .int .i64 0]), (7, .agg #[.int .i64 0, .int .i64 0]), (6, .agg #[.int .i64 (-1), .int .i64 1, .int .i64 0, .int .i64 0]), (4, .agg #[.int .i64 (-1), .int .i64 1]), (3, .agg #[.int .i64 20, .int .i64 (-2), .int .i64 4, .int .i64 2]), (22, .agg #[.int .i64 0, .int .i64 0]), (19, .agg #[.int .i64 0, .int .i64 0]), (15, .agg #[.int .i64 0, .int .i64 0]), (12, .agg #[.int .i64 0, .int .i64 0]), (8, .agg #[.int .i64 0, .int .i64 0]), (5, .agg #[.int .i64 0, .int .i64 0]), (1, .pointer (some ⟨g2, 0, none⟩)), (0, .pointer (some ⟨g1, 0, none⟩))] ∧ Mem w noEx wc [(gr2_14, .cells [.int .i64 20, .int .i64 20, .int .i64 0, .int .i64 0, .int .i64 13, .int .i64 15, .int .i64 0, .int .i64 0]), (g2, .cells [.int .i64 0, .int .i64 0]), (g1, .cells [.int .i64 0, .int .i64 0, .int .i64 0, .int .i64 0, .slice none 0 0])]) (pbits 25 786303) 7 ?_ ?_
 ·clear T M
  rintro ac wc ⟨gr2_14, T, M⟩
  refine g_m2 (i := 7) (j := 18) (by kernel_rfl) ?_ ?_
  ·refine gi 786431 ?_; intro K hK
   refine ow_bs (e := 48) [.int .i64 (-1), .int .i64 1, .int .i64 0, .int .i64 0, .int .i64 0, .int .i64 0, .int .i64 0, .int .i64 0] M T rfl rfl rfl rfl (.cons (T.ev 9 rfl) (.cons (T.ev 7 rfl) .nil)) (fun _ => by kernel_rfl) ?_; clear M T; intro gr2_7 wc ac M T
   refine sh_out hK _ _ (MA.mk (fun _ => M.mask [false, false, true, true] rfl) (M.mask [false, false, true, false] rfl)) ?_; clear hK K
   exact H12 _ _ ⟨gr2_14, gr2_7, T.pick [1, 0, 2, 3, 4, 5, 6, 7, 8, 9, 10, 11, 12, 13, 14, 15, 16, 17, 18, 19, 20] rfl, M.perm [1, 0, 2, 3] rfl rfl⟩
  refine gi 1048447 ?_; intro K hK
  refine ow_call (first := []) (cap := []) T rfl rfl rfl rfl evf (.cons evc (.cons evc .nil)) Try.func24 rfl rfl ?_
  refine Calls.mono (to5_any 30 30 _) ?_
  clear T
  rintro e wc ⟨rfl, hb⟩
  intro ac T
  replace M := M.call hb; clear hb
  refine sh_out hK _ _ (MA.mk (fun _ => M.mask [false, true, true] rfl) (M.mask [false, true, false] rfl)) ?_; clear hK K
  exact H11 _ _ ⟨gr2_14, T.pick [1, 0, 2, 3, 4, 5, 6, 7, 8, 9, 10, 11, 12, 13, 14, 15, 16, 17, 18, 19, 20] rfl, M⟩
 intro H8
 refine g_have (fun ac wc => ∃ (gr2_7 : Nat), Tm ac 27 [(10, .slice (some ⟨gr2_7, 0, none⟩) 2 2), (20, .agg #[.int .i64 30, .int .i64 30, .int .i64 0, .int .i64 0]), (18, .agg #[.int .i64 30, .int .i64 30]), (16, .agg #[.int .i64 13, .int .i64 15, .int .i64 0, .int .i64 0]), (14, .agg #[.int .i64 13, .int .i64 15]), (13, .agg #[.int .i64 20, .int .i64 20, .int .i64 0, .int .i64 0]), (11, .agg #[.int .i64 20, .int .i64 20]), (9, .agg #[.int .i64 0, .int .i64 0, .int .i64 0, .int .i64 0]), (7, .agg #[.int .i64 0, .int .i64 0]), (6, .agg #[.int .i64 (-1), .int .i64 1, .int .i64 0, .int .i64 0]), (4, .agg #[.int .i64 (-1), .int .i64 1]), (3, .agg #[.int .i64 20, .int .i64 (-2), .int .i64 4, .int .i64 2]), (22, .agg #[.int .i64 0, .int .i64 0]), (19, .agg #[.int .i64 0, .int .i64 0]), (15, .agg #[.int .i64 0, .int .i64 0]), (12, .agg #[.int .i64 0, .int .i64 0]), (8, .agg #[.int .i64 0, .int .i64 0]), (5, .agg #[.int .i64 0, .int .i64 0]), (1, .pointer (some ⟨g2, 0, none⟩)), (0, .pointer (some ⟨g1, 0, none⟩))] ∧ Mem w noEx wc [(gr2_7, .cells [.int .i64 (-1), .int .i64 1, .int .i64 0, .int .i64 0, .int .i64 0, .int .i64 0, .int .i64 0, .int .i64 0]), (g2, .cells [.int .i64 0, .int .i64 0]), (g1, .cells [.int .i64 0, .int .i64 0, .int .i64 0, .int .i64 0, .slice none 0 0])]) (pbits 25 770047) 7 ?_ ?_
 ·clear T M
  rintro ac wc ⟨gr2_7, T, M⟩
  refine g_m2 (i := 14) (j := 18) (by kernel_rfl) ?_ ?_
  ·refine gi 786431 ?_; intro K hK
   refine ow_bs (e := 48) [.int .i64 20, .int .i64 20, .int .i64 0, .int .i64 0, .int .i64 13, .int .i64 15, .int .i64 0, .int .i64 0] M T rfl rfl rfl rfl (.cons (T.ev 5 rfl) (.cons (T.ev 3 rfl) .nil)) (fun _ => by kernel_rfl) ?_; clear M T; intro gr2_14 wc ac M T
   refine sh_out hK _ _ (MA.mk (fun _ => M.mask [false, false, true, true] rfl) (M.mask [false, false, true, false] rfl)) ?_; clear hK K
   exact H12 _ _ ⟨gr2_14, gr2_7, T, M⟩
  refine gi 1032191 ?_; intro K hK
  refine ow_call (first := []) (cap := []) T rfl rfl rfl rfl evf (.cons evc (.cons evc .nil)) Try.func24 rfl rfl ?_
  refine Calls.mono (to5_any 30 30 _) ?_
  clear T
  rintro e wc ⟨rfl, hb⟩
  intro ac T
  replace M := M.call hb; clear hb
  refine sh_out hK _ _ (MA.mk (fun _ => M.mask [false, true, true] rfl) (M.mask [false, true, false] rfl)) ?_; clear hK K
  exact H10 _ _ ⟨gr2_7, T.pick [1, 0, 2, 3, 4, 5, 6, 7, 8, 9, 10, 11, 12, 13, 14, 15, 16, 17, 18, 19, 20] rfl, M⟩
 intro H7
 refine g_have (fun ac wc => ∃ (gr2_7 gr2_14 : Nat), Tm ac 27 [(10, .slice (some ⟨gr2_7, 0, none⟩) 2 2), (17, .slice (some ⟨gr2_14, 0, none⟩) 2 2), (16, .agg #[.int .i64 13, .int .i64 15, .int .i64 0, .int .i64 0]), (14, .agg #[.int .i64 13, .int .i64 15]), (13, .agg #[.int .i64 20, .int .i64 20, .int .i64 0, .int .i64 0]), (11, .agg #[.int .i64 20, .int .i64 20]), (9, .agg #[.int .i64 0, .int .i64 0, .int .i64 0, .int .i64 0]), (7, .agg #[.int .i64 0, .int .i64 0]), (6, .agg #[.int .i64 (-1), .int .i64 1, .int .i64 0, .int .i64 0]), (4, .agg #[.int .i64 (-1), .int .i64 1]), (3, .agg #[.int .i64 20, .int .i64 (-2), .int .i64 4, .int .i64 2]), (22, .agg #[.int .i64 0, .int .i64 0]), (19, .agg #[.int .i64 0, .int .i64 0]), (15, .agg #[.int .i64 0, .int .i64 0]), (12, .agg #[.int .i64 0, .int .i64 0]), (8, .agg #[.int .i64 0, .int .i64 0]), (5, .agg #[.int .i64 0, .int .i64 0]), (1, .pointer (some ⟨g2, 0, none⟩)), (0, .pointer (some ⟨g1, 0, none⟩))] ∧ Mem w noEx wc [(gr2_7, .cells [.int .i64 (-1), .int .i64 1, .int .i64 0, .int .i64 0, .int .i64 0, .int .i64 0, .int .i64 0, .int .i64 0]), (gr2_14, .cells [.int .i64 20, .int .i64 20, .int .i64 0, .int .i64 0, .int .i64 13, .int .i64 15, .int .i64 0, .int .i64 0]), (g2, .cells [.int .i64 0, .int .i64 0]), (g1, .cells [.int .i64 0, .int .i64 0, .int .i64 0, .int .i64 0, .slice none 0 0])]) (pbits 25 622591) 8 ?_ ?_
 ·clear T M
  rintro ac wc ⟨gr2_7, gr2_14, T, M⟩
  refine gw 15 655359 ?_; intro K hK
  refine ow_call (first := []) (cap := []) T rfl rfl rfl rfl evf (.cons evc (.cons evc .nil)) Try.func24 rfl rfl ?_
  refine Calls.mono (to5_any 30 30 _) ?_
  clear T
  rintro e wc ⟨rfl, hb⟩
  intro ac T
  replace M := M.call hb; clear hb
  refine sh_out hK _ _ (MA.mk (fun _ => M.mask [false, false, true, true] rfl) (M.mask [false, false, true, false] rfl)) ?_; clear hK K
  exact H9 _ _ ⟨gr2_14, gr2_7, T.pick [2, 1, 0, 3, 4, 5, 6, 7, 8, 9, 10, 11, 12, 13, 14, 15, 16, 17, 18, 19] rfl, M.perm [1, 0, 2, 3] rfl rfl⟩
 intro H6
 refine g_have (fun ac wc => ∃ (gr2_14 : Nat), Tm ac 27 [(18, .agg #[.int .i64 30, .int .i64 30]), (17, .slice (some ⟨gr2_14, 0, none⟩) 2 2), (16, .agg #[.int .i64 13, .int .i64 15, .int .i64 0, .int .i64 0]), (14, .agg #[.int .i64 13, .int .i64 15]), (13, .agg #[.int .i64 20, .int .i64 20, .int .i64 0, .int .i64 0]), (11, .agg #[.int .i64 20, .int .i64 20]), (9, .agg #[.int .i64 0, .int .i64 0, .int .i64 0, .int .i64 0]), (7, .agg #[.int .i64 0, .int .i64 0]), (6, .agg #[.int .i64 (-1), .int .i64 1, .int .i64 0, .int .i64 0]), (4, .agg #[.int .i64 (-1), .int .i64 1]), (3, .agg #[.int .i64 20, .int .i64 (-2), .int .i64 4, .int .i64 2]), (22, .agg #[.int .i64 0, .int .i64 0]), (19, .agg #[.int .i64 0, .int .i64 0]), (15, .agg #[.int .i64 0, .int .i64 0]), (12, .agg #[.int .i64 0, .int .i64 0]), (8, .agg #[.int .i64 0, .int .i64 0]), (5, .agg #[.int .i64 0, .int .i64 0]), (1, .pointer (some ⟨g2, 0, none⟩)), (0, .pointer (some ⟨g1, 0, none⟩))] ∧ Mem w noEx wc [(gr2_14, .cells [.int .i64 20, .int .i64 20, .int .i64 0, .int .i64 0, .int .i64 13, .int .i64 15, .int .i64 0, .int .i64 0]), (g2, .cells [.int .i64 0, .int .i64 0]), (g1, .cells [.int .i64 0, .int .i64 0, .int .i64 0, .int .i64 0, .slice none 0 0])]) (pbits 25 655231) 8 ?_ ?_
 ·clear T M
  rintro ac wc ⟨gr2_14, T, M⟩
  refine g_m2 (i := 7) (j := 17) (by kernel_rfl) ?_ ?_
  ·refine gi 655359 ?_; intro K hK
   refine ow_bs (e := 48) [.int .i64 (-1), .int .i64 1, .int .i64 0, .int .i64 0, .int .i64 0, .int .i64 0, .int .i64 0, .int .i64 0] M T rfl rfl rfl rfl (.cons (T.ev 8 rfl) (.cons (T.ev 6 rfl) .nil)) (fun _ => by kernel_rfl) ?_; clear M T; intro gr2_7 wc ac M T
   refine sh_out hK _ _ (MA.mk (fun _ => M.mask [false, false, true, true] rfl) (M.mask [false, false, true, false] rfl)) ?_; clear hK K
   exact H9 _ _ ⟨gr2_14, gr2_7, T.pick [2, 0, 1, 3, 4, 5, 6, 7, 8, 9, 10, 11, 12, 13, 14, 15, 16, 17, 18, 19] rfl, M.perm [1, 0, 2, 3] rfl rfl⟩
  refine gi 786303 ?_; intro K hK
  refine ow_call (first := []) (cap := []) T rfl rfl rfl rfl evf (.cons (T.ev 0 rfl) (.cons (T.ev 12 rfl) .nil)) Try.func36 rfl rfl ?_
  refine Calls.mono (sound5_any 30 30 0 0 _) ?_
  clear T
  rintro e wc ⟨rfl, hb⟩
  intro ac T
  replace M := M.call hb; clear hb
  refine sh_out hK _ _ (MA.mk (fun _ => M.mask [false, true, true] rfl) (M.mask [false, true, false] rfl)) ?_; clear hK K
  exact H8 _ _ ⟨gr2_14, T.pick [2, 0, 1, 3, 4, 5, 6, 7, 8, 9, 10, 11, 12, 13, 14, 15, 16, 17, 18, 19] rfl, M⟩
 intro H5
 refine g_have (fun ac wc => ∃ (gr2_7 : Nat), Tm ac 27 [(10, .slice (some ⟨gr2_7, 0, none⟩) 2 2), (18, .agg #[.int .i64 30, .int .i64 30]), (16, .agg #[.int .i64 13, .int .i64 15, .int .i64 0, .int .i64 0]), (14, .agg #[.int .i64 13, .int .i64 15]), (13, .agg #[.int .i64 20, .int .i64 20, .int .i64 0, .int .i64 0]), (11, .agg #[.int .i64 20, .int .i64 20]), (9, .agg #[.int .i64 0, .int .i64 0, .int .i64 0, .int .i64 0]), (7, .agg #[.int .i64 0, .int .i64 0]), (6, .agg #[.int .i64 (-1), .int .i64 1, .int .i64 0, .int .i64 0]), (4, .agg #[.int .i64 (-1), .int .i64 1]), (3, .agg #[.int .i64 20, .int .i64 (-2), .int .i64 4, .int .i64 2]), (22, .agg #[.int .i64 0, .int .i64 0]), (19, .agg #[.int .i64 0, .int .i64 0]), (15, .agg #[.int .i64 0, .int .i64 0]), (12, .agg #[.int .i64 0, .int .i64 0]), (8, .agg #[.int .i64 0, .int .i64 0]), (5, .agg #[.int .i64 0, .int .i64 0]), (1, .pointer (some ⟨g2, 0, none⟩)), (0, .pointer (some ⟨g1, 0, none⟩))] ∧ Mem w noEx wc [(gr2_7, .cells [.int .i64 (-1), .int .i64 1, .int .i64 0, .int .i64 0, .int .i64 0, .int .i64 0, .int .i64 0, .int .i64 0]), (g2, .cells [.int .i64 0, .int .i64 0]), (g1, .cells [.int .i64 0, .int .i64 0, .int .i64 0, .int .i64 0, .slice none 0 0])]) (pbits 25 638975) 8 ?_ ?_
 ·clear T M
  rintro ac wc ⟨gr2_7, T, M⟩
  refine g_m2 (i := 14) (j := 17) (by kernel_rfl) ?_ ?_
  ·refine gi 655359 ?_; intro K hK
   refine ow_bs (e := 48) [.int .i64 20, .int .i64 20, .int .i64 0, .int .i64 0, .int .i64 13, .int .i64 15, .int .i64 0, .int .i64 0] M T rfl rfl rfl rfl (.cons (T.ev 4 rfl) (.cons (T.ev 2 rfl) .nil)) (fun _ => by kernel_rfl) ?_; clear M T; intro gr2_14 wc ac M T
   refine sh_out hK _ _ (MA.mk (fun _ => M.mask [false, false, true, true] rfl) (M.mask [false, false, true, false] rfl)) ?_; clear hK K
   exact H9 _ _ ⟨gr2_14, gr2_7, T, M⟩
  refine gi 770047 ?_; intro K hK
  refine ow_call (first := []) (cap := []) T rfl rfl rfl rfl evf (.cons (T.ev 1 rfl) (.cons (T.ev 12 rfl) .nil)) Try.func36 rfl rfl ?_
  refine Calls.mono (sound5_any 30 30 0 0 _) ?_
  clear T
  rintro e wc ⟨rfl, hb⟩
  intro ac T
  replace M := M.call hb; clear hb
  refine sh_out hK _ _ (MA.mk (fun _ => M.mask [false, true, true] rfl) (M.mask [false, true, false] rfl)) ?_; clear hK K
  exact H7 _ _ ⟨gr2_7, T.pick [1, 0, 2, 3, 4, 5, 6, 7, 8, 9, 10, 11, 12, 13, 14, 15, 16, 17, 18, 19] rfl, M⟩
 intro H4
 refine g_have (fun ac wc => ∃ (gr2_7 : Nat), Tm ac 27 [(10, .slice (some ⟨gr2_7, 0, none⟩) 2 2), (16, .agg #[.int .i64 13, .int .i64 15, .int .i64 0, .int .i64 0]), (14, .agg #[.int .i64 13, .int .i64 15]), (13, .agg #[.int .i64 20, .int .i64 20, .int .i64 0, .int .i64 0]), (11, .agg #[.int .i64 20, .int .i64 20]), (9, .agg #[.int .i64 0, .int .i64 0, .int .i64 0, .int .i64 0]), (7, .agg #[.int .i64 0, .int .i64 0]), (6, .agg #[.int .i64 (-1), .int .i64 1, .int .i64 0, .int .i64 0]), (4, .agg #[.int .i64 (-1), .int .i64 1]), (3, .agg #[.int .i64 20, .int .i64 (-2), .int .i64 4, .int .i64 2]), (22, .agg #[.int .i64 0, .int .i64 0]), (19, .agg #[.int .i64 0, .int .i64 0]), (15, .agg #[.int .i64 0, .int .i64 0]), (12, .agg #[.int .i64 0, .int .i64 0]), (8, .agg #[.int .i64 0, .int .i64 0]), (5, .agg #[.int .i64 0, .int .i64 0]), (1, .pointer (some ⟨g2, 0, none⟩)), (0, .pointer (some ⟨g1, 0, none⟩))] ∧ Mem w noEx wc [(gr2_7, .cells [.int .i64 (-1), .int .i64 1, .int .i64 0, .int .i64 0, .int .i64 0, .int .i64 0, .int .i64 0, .int .i64 0]), (g2, .cells [.int .i64 0, .int .i64 0]), (g1, .cells [.int .i64 0, .int .i64 0, .int .i64 0, .int .i64 0, .slice none 0 0])]) (pbits 25 606207) 9 ?_ ?_
 ·clear T M
  rintro ac wc ⟨gr2_7, T, M⟩
  refine g_m2 (i := 14) (j := 15) (by kernel_rfl) ?_ ?_
  ·refine gi 622591 ?_; intro K hK
   refine ow_bs (e := 48) [.int .i64 20, .int .i64 20, .int .i64 0, .int .i64 0, .int .i64 13, .int .i64 15, .int .i64 0, .int .i64 0] M T rfl rfl rfl rfl (.cons (T.ev 3 rfl) (.cons (T.ev 1 rfl) .nil)) (fun _ => by kernel_rfl) ?_; clear M T; intro gr2_14 wc ac M T
   refine sh_out hK _ _ (MA.mk (fun _ => M.mask [false, false, true, true] rfl) (M.mask [false, false, true, false] rfl)) ?_; clear hK K
   exact H6 _ _ ⟨gr2_7, gr2_14, T.pick [1, 0, 2, 3, 4, 5, 6, 7, 8, 9, 10, 11, 12, 13, 14, 15, 16, 17, 18] rfl, M.perm [1, 0, 2, 3] rfl rfl⟩
  refine gi 638975 ?_; intro K hK
  refine ow_call (first := []) (cap := []) T rfl rfl rfl rfl evf (.cons evc (.cons evc .nil)) Try.func24 rfl rfl ?_
  refine Calls.mono (to5_any 30 30 _) ?_
  clear T
  rintro e wc ⟨rfl, hb⟩
  intro ac T
  replace M := M.call hb; clear hb
  refine sh_out hK _ _ (MA.mk (fun _ => M.mask [false, true, true] rfl) (M.mask [false, true, false] rfl)) ?_; clear hK K
  exact H4 _ _ ⟨gr2_7, T.pick [1, 0, 2, 3, 4, 5, 6, 7, 8, 9, 10, 11, 12, 13, 14, 15, 16, 17, 18] rfl, M⟩
 intro H3
 refine g_have (fun ac wc => ∃ (gr2_7 : Nat), Tm ac 27 [(10, .slice (some ⟨gr2_7, 0, none⟩) 2 2), (14, .agg #[.int .i64 13, .int .i64 15]), (13, .agg #[.int .i64 20, .int .i64 20, .int .i64 0, .int .i64 0]), (11, .agg #[.int .i64 20, .int .i64 20]), (9, .agg #[.int .i64 0, .int .i64 0, .int .i64 0, .int .i64 0]), (7, .agg #[.int .i64 0, .int .i64 0]), (6, .agg #[.int .i64 (-1), .int .i64 1, .int .i64 0, .int .i64 0]), (4, .agg #[.int .i64 (-1), .int .i64 1]), (3, .agg #[.int .i64 20, .int .i64 (-2), .int .i64 4, .int .i64 2]), (22, .agg #[.int .i64 0, .int .i64 0]), (19, .agg #[.int .i64 0, .int .i64 0]), (15, .agg #[.int .i64 0, .int .i64 0]), (12, .agg #[.int .i64 0, .int .i64 0]), (8, .agg #[.int .i64 0, .int .i64 0]), (5, .agg #[.int .i64 0, .int .i64 0]), (1, .pointer (some ⟨g2, 0, none⟩)), (0, .pointer (some ⟨g1, 0, none⟩))] ∧ Mem w noEx wc [(gr2_7, .cells [.int .i64 (-1), .int .i64 1, .int .i64 0, .int .i64 0, .int .i64 0, .int .i64 0, .int .i64 0, .int .i64 0]), (g2, .cells [.int .i64 0, .int .i64 0]), (g1, .cells [.int .i64 0, .int .i64 0, .int .i64 0, .int .i64 0, .slice none 0 0])]) (pbits 25 598015) 10 ?_ ?_
 ·clear T M
  rintro ac wc ⟨gr2_7, T, M⟩
  refine gw 13 606207 ?_; intro K hK
  refine ow_call (first := []) (cap := []) T rfl rfl rfl rfl evf (.cons (T.ev 1 rfl) (.cons (T.ev 11 rfl) .nil)) Try.func36 rfl rfl ?_
  refine Calls.mono (sound5_any 13 15 0 0 _) ?_
  clear T
  rintro e wc ⟨rfl, hb⟩
  intro ac T
  replace M := M.call hb; clear hb
  refine sh_out hK _ _ (MA.mk (fun _ => M.mask [false, true, true] rfl) (M.mask [false, true, false] rfl)) ?_; clear hK K
  exact H3 _ _ ⟨gr2_7, T.pick [1, 0, 2, 3, 4, 5, 6, 7, 8, 9, 10, 11, 12, 13, 14, 15, 16, 17] rfl, M⟩
 intro H2
 refine g_have (fun ac wc => ∃ (gr2_7 : Nat), Tm ac 27 [(10, .slice (some ⟨gr2_7, 0, none⟩) 2 2), (13, .agg #[.int .i64 20, .int .i64 20, .int .i64 0, .int .i64 0]), (11, .agg #[.int .i64 20, .int .i64 20]), (9, .agg #[.int .i64 0, .int .i64 0, .int .i64 0, .int .i64 0]), (7, .agg #[.int .i64 0, .int .i64 0]), (6, .agg #[.int .i64 (-1), .int .i64 1, .int .i64 0, .int .i64 0]), (4, .agg #[.int .i64 (-1), .int .i64 1]), (3, .agg #[.int .i64 20, .int .i64 (-2), .int .i64 4, .int .i64 2]), (22, .agg #[.int .i64 0, .int .i64 0]), (19, .agg #[.int .i64 0, .int .i64 0]), (15, .agg #[.int .i64 0, .int .i64 0]), (12, .agg #[.int .i64 0, .int .i64 0]), (8, .agg #[.int .i64 0, .int .i64 0]), (5, .agg #[.int .i64 0, .int .i64 0]), (1, .pointer (some ⟨g2, 0, none⟩)), (0, .pointer (some ⟨g1, 0, none⟩))] ∧ Mem w noEx wc [(gr2_7, .cells [.int .i64 (-1), .int .i64 1, .int .i64 0, .int .i64 0, .int .i64 0, .int .i64 0, .int .i64 0, .int .i64 0]), (g2, .cells [.int .i64 0, .int .i64 0]), (g1, .cells [.int .i64 0, .int .i64 0, .int .i64 0, .int .i64 0, .slice none 0 0])]) (pbits 25 595967) 11 ?_ ?_
 ·clear T M
  rintro ac wc ⟨gr2_7, T, M⟩
  refine gw 11 598015 ?_; intro K hK
  refine ow_call (first := []) (cap := []) T rfl rfl rfl rfl evf (.cons evc (.cons evc .nil)) Try.func24 rfl rfl ?_
  refine Calls.mono (to5_any 13 15 _) ?_
  clear T
  rintro e wc ⟨rfl, hb⟩
  intro ac T
  replace M := M.call hb; clear hb
  refine sh_out hK _ _ (MA.mk (fun _ => M.mask [false, true, true] rfl) (M.mask [false, true, false] rfl)) ?_; clear hK K
  exact H2 _ _ ⟨gr2_7, T.pick [1, 0, 2, 3, 4, 5, 6, 7, 8, 9, 10, 11, 12, 13, 14, 15, 16] rfl, M⟩
 intro H1
 refine g_have (fun ac wc => ∃ (gr2_7 : Nat), Tm ac 27 [(11, .agg #[.int .i64 20, .int .i64 20]), (10, .slice (some ⟨gr2_7, 0, none⟩) 2 2), (9, .agg #[.int .i64 0, .int .i64 0, .int .i64 0, .int .i64 0]), (7, .agg #[.int .i64 0, .int .i64 0]), (6, .agg #[.int .i64 (-1), .int .i64 1, .int .i64 0, .int .i64 0]), (4, .agg #[.int .i64 (-1), .int .i64 1]), (3, .agg #[.int .i64 20, .int .i64 (-2), .int .i64 4, .int .i64 2]), (22, .agg #[.int .i64 0, .int .i64 0]), (19, .agg #[.int .i64 0, .int .i64 0]), (15, .agg #[.int .i64 0, .int .i64 0]), (12, .agg #[.int .i64 0, .int .i64 0]), (8, .agg #[.int .i64 0, .int .i64 0]), (5, .agg #[.int .i64 0, .int .i64 0]), (1, .pointer (some ⟨g2, 0, none⟩)), (0, .pointer (some ⟨g1, 0, none⟩))] ∧ Mem w noEx wc [(gr2_7, .cells [.int .i64 (-1), .int .i64 1, .int .i64 0, .int .i64 0, .int .i64 0, .int .i64 0, .int .i64 0, .int .i64 0]), (g2, .cells [.int .i64 0, .int .i64 0]), (g1, .cells [.int .i64 0, .int .i64 0, .int .i64 0, .int .i64 0, .slice none 0 0])]) (pbits 25 594943) 12 ?_ ?_
 ·clear T M
  rintro ac wc ⟨gr2_7, T, M⟩
  refine gw 10 595967 ?_; intro K hK
  refine ow_call (first := []) (cap := []) T rfl rfl rfl rfl evf (.cons (T.ev 0 rfl) (.cons (T.ev 10 rfl) .nil)) Try.func36 rfl rfl ?_
  refine Calls.mono (sound5_any 20 20 0 0 _) ?_
  clear T
  rintro e wc ⟨rfl, hb⟩
  intro ac T
  replace M := M.call hb; clear hb
  refine sh_out hK _ _ (MA.mk (fun _ => M.mask [false, true, true] rfl) (M.mask [false, true, false] rfl)) ?_; clear hK K
  exact H1 _ _ ⟨gr2_7, T.pick [2, 0, 1, 3, 4, 5, 6, 7, 8, 9, 10, 11, 12, 13, 14, 15] rfl, M⟩
 intro H0
 refine gq T 2 4 rfl (fun B w' hD hl hS => (rn_rowO (Mem.nth (show Mem w noEx w' _ from ((MA.lft hS) (hD.wait (i := 2) (m := 24) (by kernel_rfl) hl))) 0 rfl) rfl (T.ev 0 rfl) rfl)) ?_; clear T ac; intro ac T
 refine gq T 5 36 rfl (fun B w' hD hl hS => (rn_rowO (Mem.nth (show Mem w noEx w' _ from ((MA.lft hS) (hD.wait (i := 5) (m := 24) (by kernel_rfl) hl))) 0 rfl) rfl (T.ev 1 rfl) rfl)) ?_; clear T ac; intro ac T
 refine gq T 9 548 rfl (fun B w' hD hl hS => (rn_rowO (Mem.nth (show Mem w noEx w' _ from ((MA.lft hS) (hD.wait (i := 9) (m := 24) (by kernel_rfl) hl))) 0 rfl) rfl (T.ev 2 rfl) rfl)) ?_; clear T ac; intro ac T
 refine gq T 12 4644 rfl (fun B w' hD hl hS => (rn_rowO (Mem.nth (show Mem w noEx w' _ from ((MA.lft hS) (hD.wait (i := 12) (m := 24) (by kernel_rfl) hl))) 0 rfl) rfl (T.ev 3 rfl) rfl)) ?_; clear T ac; intro ac T
 refine gq T 16 70180 rfl (fun B w' hD hl hS => (rn_rowO (Mem.nth (show Mem w noEx w' _ from ((MA.lft hS) (hD.wait (i := 16) (m := 24) (by kernel_rfl) hl))) 0 rfl) rfl (T.ev 4 rfl) rfl)) ?_; clear T ac; intro ac T
 refine gq T 19 594468 rfl (fun B w' hD hl hS => (rn_rowO (Mem.nth (show Mem w noEx w' _ from ((MA.lft hS) (hD.wait (i := 19) (m := 24) (by kernel_rfl) hl))) 0 rfl) rfl (T.ev 5 rfl) rfl)) ?_; clear T ac; intro ac T
 refine gw 0 594469 ?_; intro K hK
 refine ow_call (first := []) (cap := []) T rfl rfl rfl rfl evf .nil Try.func95 rfl rfl ?_
 refine Calls.mono (law5_any _) ?_
 clear T
 rintro e wc ⟨rfl, hb⟩
 intro ac T
 replace M := M.call hb; clear hb
 refine sh_out hK _ _ (MA.mk (fun _ => M.mask [true, true] rfl) (M.mask [true, false] rfl)) ?_; clear hK K
 refine gw 1 594471 ?_; intro K hK
 refine ow_call (first := []) (cap := []) T rfl rfl rfl rfl evf (.cons evc (.cons evc .nil)) Try.func24 rfl rfl ?_
 refine Calls.mono (to5_any (-1) 1 _) ?_
 clear T
 rintro e wc ⟨rfl, hb⟩
 intro ac T
 replace M := M.call hb; clear hb
 refine sh_out hK _ _ (MA.mk (fun _ => M.mask [true, true] rfl) (M.mask [true, false] rfl)) ?_; clear hK K
 refine gw 3 594479 ?_; intro K hK
 refine ow_call (first := []) (cap := []) T rfl rfl rfl rfl evf (.cons (T.ev 0 rfl) (.cons (T.ev 7 rfl) .nil)) Try.func36 rfl rfl ?_
 refine Calls.mono (sound5_any (-1) 1 0 0 _) ?_
 clear T
 rintro e wc ⟨rfl, hb⟩
 intro ac T
 replace M := M.call hb; clear hb
 refine sh_out hK _ _ (MA.mk (fun _ => M.mask [true, true] rfl) (M.mask [true, false] rfl)) ?_; clear hK K
 refine gw 4 594495 ?_; intro K hK
 refine ow_call (first := []) (cap := []) T rfl rfl rfl rfl evf (.cons evc (.cons evc .nil)) Try.func24 rfl rfl ?_
 refine Calls.mono (to5_any 0 0 _) ?_
 clear T
 rintro e wc ⟨rfl, hb⟩
 intro ac T
 replace M := M.call hb; clear hb
 refine sh_out hK _ _ (MA.mk (fun _ => M.mask [true, true] rfl) (M.mask [true, false] rfl)) ?_; clear hK K
 refine gw 6 594559 ?_; intro K hK
 refine ow_call (first := []) (cap := []) T rfl rfl rfl rfl evf (.cons (T.ev 0 rfl) (.cons (T.ev 8 rfl) .nil)) Try.func36 rfl rfl ?_
 refine Calls.mono (sound5_any 0 0 0 0 _) ?_
 clear T
 rintro e wc ⟨rfl, hb⟩
 intro ac T
 replace M := M.call hb; clear hb
 refine sh_out hK _ _ (MA.mk (fun _ => M.mask [true, true] rfl) (M.mask [true, false] rfl)) ?_; clear hK K
 refine g_m2 (i := 7) (j := 8) (by kernel_rfl) ?_ ?_
 ·refine gi 594687 ?_; intro K hK
  refine ow_bs (e := 48) [.int .i64 (-1), .int .i64 1, .int .i64 0, .int .i64 0, .int .i64 0, .int .i64 0, .int .i64 0, .int .i64 0] M T rfl rfl rfl rfl (.cons (T.ev 2 rfl) (.cons (T.ev 0 rfl) .nil)) (fun _ => by kernel_rfl) ?_; clear M T; intro gr2_7 wc ac M T
  refine sh_out hK _ _ (MA.mk (fun _ => M.mask [false, true, true] rfl) (M.mask [false, true, false] rfl)) ?_; clear hK K
  refine gw 8 594943 ?_; intro K hK
  refine ow_call (first := []) (cap := []) T rfl rfl rfl rfl evf (.cons evc (.cons evc .nil)) Try.func24 rfl rfl ?_
  refine Calls.mono (to5_any 20 20 _) ?_
  clear T
  rintro e wc ⟨rfl, hb⟩
  intro ac T
  replace M := M.call hb; clear hb
  refine sh_out hK _ _ (MA.mk (fun _ => M.mask [false, true, true] rfl) (M.mask [false, true, false] rfl)) ?_; clear hK K
  exact H0 _ _ ⟨gr2_7, T, M⟩
 refine gi 594815 ?_; intro K hK
 refine ow_call (first := []) (cap := []) T rfl rfl rfl rfl evf (.cons evc (.cons evc .nil)) Try.func24 rfl rfl ?_
 refine Calls.mono (to5_any 20 20 _) ?_
 clear T
 rintro e wc ⟨rfl, hb⟩
 intro ac T
 replace M := M.call hb; clear hb
 refine sh_out hK _ _ (MA.mk (fun _ => M.mask [true, true] rfl) (M.mask [true, false] rfl)) ?_; clear hK K
 refine g_m2 (i := 7) (j := 10) (by kernel_rfl) ?_ ?_
 ·refine gi 594943 ?_; intro K hK
  refine ow_bs (e := 48) [.int .i64 (-1), .int .i64 1, .int .i64 0, .int .i64 0, .int .i64 0, .int .i64 0, .int .i64 0, .int .i64 0] M T rfl rfl rfl rfl (.cons (T.ev 3 rfl) (.cons (T.ev 1 rfl) .nil)) (fun _ => by kernel_rfl) ?_; clear M T; intro gr2_7 wc ac M T
  refine sh_out hK _ _ (MA.mk (fun _ => M.mask [false, true, true] rfl) (M.mask [false, true, false] rfl)) ?_; clear hK K
  exact H0 _ _ ⟨gr2_7, T.pick [1, 0, 2, 3, 4, 5, 6, 7, 8, 9, 10, 11, 12, 13, 14] rfl, M⟩
 refine gi 595839 ?_; intro K hK
 refine ow_call (first := []) (cap := []) T rfl rfl rfl rfl evf (.cons (T.ev 0 rfl) (.cons (T.ev 9 rfl) .nil)) Try.func36 rfl rfl ?_
 refine Calls.mono (sound5_any 20 20 0 0 _) ?_
 clear T
 rintro e wc ⟨rfl, hb⟩
 intro ac T
 replace M := M.call hb; clear hb
 refine sh_out hK _ _ (MA.mk (fun _ => M.mask [true, true] rfl) (M.mask [true, false] rfl)) ?_; clear hK K
 refine g_m2 (i := 7) (j := 11) (by kernel_rfl) ?_ ?_
 ·refine gi 595967 ?_; intro K hK
  refine ow_bs (e := 48) [.int .i64 (-1), .int .i64 1, .int .i64 0, .int .i64 0, .int .i64 0, .int .i64 0, .int .i64 0, .int .i64 0] M T rfl rfl rfl rfl (.cons (T.ev 4 rfl) (.cons (T.ev 2 rfl) .nil)) (fun _ => by kernel_rfl) ?_; clear M T; intro gr2_7 wc ac M T
  refine sh_out hK _ _ (MA.mk (fun _ => M.mask [false, true, true] rfl) (M.mask [false, true, false] rfl)) ?_; clear hK K
  exact H1 _ _ ⟨gr2_7, T, M⟩
 refine gi 597887 ?_; intro K hK
 refine ow_call (first := []) (cap := []) T rfl rfl rfl rfl evf (.cons evc (.cons evc .nil)) Try.func24 rfl rfl ?_
 refine Calls.mono (to5_any 13 15 _) ?_
 clear T
 rintro e wc ⟨rfl, hb⟩
 intro ac T
 replace M := M.call hb; clear hb
 refine sh_out hK _ _ (MA.mk (fun _ => M.mask [true, true] rfl) (M.mask [true, false] rfl)) ?_; clear hK K
 refine g_m2 (i := 7) (j := 13) (by kernel_rfl) ?_ ?_
 ·refine gi 598015 ?_; intro K hK
  refine ow_bs (e := 48) [.int .i64 (-1), .int .i64 1, .int .i64 0, .int .i64 0, .int .i64 0, .int .i64 0, .int .i64 0, .int .i64 0] M T rfl rfl rfl rfl (.cons (T.ev 5 rfl) (.cons (T.ev 3 rfl) .nil)) (fun _ => by kernel_rfl) ?_; clear M T; intro gr2_7 wc ac M T
  refine sh_out hK _ _ (MA.mk (fun _ => M.mask [false, true, true] rfl) (M.mask [false, true, false] rfl)) ?_; clear hK K
  exact H2 _ _ ⟨gr2_7, T, M⟩
 refine gi 606079 ?_; intro K hK
 refine ow_call (first := []) (cap := []) T rfl rfl rfl rfl evf (.cons (T.ev 0 rfl) (.cons (T.ev 10 rfl) .nil)) Try.func36 rfl rfl ?_
 refine Calls.mono (sound5_any 13 15 0 0 _) ?_
 clear T
 rintro e wc ⟨rfl, hb⟩
 intro ac T
 replace M := M.call hb; clear hb
 refine sh_out hK _ _ (MA.mk (fun _ => M.mask [true, true] rfl) (M.mask [true, false] rfl)) ?_; clear hK K
 refine g_m3 (i := 7) (j := 14) (k := 15) (by kernel_rfl) ?_ ?_ ?_
 ·refine gi 606207 ?_; intro K hK
  refine ow_bs (e := 48) [.int .i64 (-1), .int .i64 1, .int .i64 0, .int .i64 0, .int .i64 0, .int .i64 0, .int .i64 0, .int .i64 0] M T rfl rfl rfl rfl (.cons (T.ev 6 rfl) (.cons (T.ev 4 rfl) .nil)) (fun _ => by kernel_rfl) ?_; clear M T; intro gr2_7 wc ac M T
  refine sh_out hK _ _ (MA.mk (fun _ => M.mask [false, true, true] rfl) (M.mask [false, true, false] rfl)) ?_; clear hK K
  exact H3 _ _ ⟨gr2_7, T, M⟩
 ·refine gi 622463 ?_; intro K hK
  refine ow_bs (e := 48) [.int .i64 20, .int .i64 20, .int .i64 0, .int .i64 0, .int .i64 13, .int .i64 15, .int .i64 0, .int .i64 0] M T rfl rfl rfl rfl (.cons (T.ev 2 rfl) (.cons (T.ev 0 rfl) .nil)) (fun _ => by kernel_rfl) ?_; clear M T; intro gr2_14 wc ac M T
  refine sh_out hK _ _ (MA.mk (fun _ => M.mask [false, true, true] rfl) (M.mask [false, true, false] rfl)) ?_; clear hK K
  refine g_m2 (i := 7) (j := 15) (by kernel_rfl) ?_ ?_
  ·refine gi 622591 ?_; intro K hK
   refine ow_bs (e := 48) [.int .i64 (-1), .int .i64 1, .int .i64 0, .int .i64 0, .int .i64 0, .int .i64 0, .int .i64 0, .int .i64 0] M T rfl rfl rfl rfl (.cons (T.ev 7 rfl) (.cons (T.ev 5 rfl) .nil)) (fun _ => by kernel_rfl) ?_; clear M T; intro gr2_7 wc ac M T
   refine sh_out hK _ _ (MA.mk (fun _ => M.mask [false, false, true, true] rfl) (M.mask [false, false, true, false] rfl)) ?_; clear hK K
   exact H6 _ _ ⟨gr2_7, gr2_14, T, M⟩
  refine gi 655231 ?_; intro K hK
  refine ow_call (first := []) (cap := []) T rfl rfl rfl rfl evf (.cons evc (.cons evc .nil)) Try.func24 rfl rfl ?_
  refine Calls.mono (to5_any 30 30 _) ?_
  clear T
  rintro e wc ⟨rfl, hb⟩
  intro ac T
  replace M := M.call hb; clear hb
  refine sh_out hK _ _ (MA.mk (fun _ => M.mask [false, true, true] rfl) (M.mask [false, true, false] rfl)) ?_; clear hK K
  exact H5 _ _ ⟨gr2_14, T, M⟩
 refine gi 638847 ?_; intro K hK
 refine ow_call (first := []) (cap := []) T rfl rfl rfl rfl evf (.cons evc (.cons evc .nil)) Try.func24 rfl rfl ?_
 refine Calls.mono (to5_any 30 30 _) ?_
 clear T
 rintro e wc ⟨rfl, hb⟩
 intro ac T
 replace M := M.call hb; clear hb
 refine sh_out hK _ _ (MA.mk (fun _ => M.mask [true, true] rfl) (M.mask [true, false] rfl)) ?_; clear hK K
 refine g_m3 (i := 7) (j := 14) (k := 17) (by kernel_rfl) ?_ ?_ ?_
 ·refine gi 638975 ?_; intro K hK
  refine ow_bs (e := 48) [.int .i64 (-1), .int .i64 1, .int .i64 0, .int .i64 0, .int .i64 0, .int .i64 0, .int .i64 0, .int .i64 0] M T rfl rfl rfl rfl (.cons (T.ev 7 rfl) (.cons (T.ev 5 rfl) .nil)) (fun _ => by kernel_rfl) ?_; clear M T; intro gr2_7 wc ac M T
  refine sh_out hK _ _ (MA.mk (fun _ => M.mask [false, true, true] rfl) (M.mask [false, true, false] rfl)) ?_; clear hK K
  exact H4 _ _ ⟨gr2_7, T, M⟩
 ·refine gi 655231 ?_; intro K hK
  refine ow_bs (e := 48) [.int .i64 20, .int .i64 20, .int .i64 0, .int .i64 0, .int .i64 13, .int .i64 15, .int .i64 0, .int .i64 0] M T rfl rfl rfl rfl (.cons (T.ev 3 rfl) (.cons (T.ev 1 rfl) .nil)) (fun _ => by kernel_rfl) ?_; clear M T; intro gr2_14 wc ac M T
  refine sh_out hK _ _ (MA.mk (fun _ => M.mask [false, true, true] rfl) (M.mask [false, true, false] rfl)) ?_; clear hK K
  exact H5 _ _ ⟨gr2_14, T.pick [1, 0, 2, 3, 4, 5, 6, 7, 8, 9, 10, 11, 12, 13, 14, 15, 16, 17, 18] rfl, M⟩
 refine gi 769919 ?_; intro K hK
 refine ow_call (first := []) (cap := []) T rfl rfl rfl rfl evf (.cons (T.ev 0 rfl) (.cons (T.ev 11 rfl) .nil)) Try.func36 rfl rfl ?_
 refine Calls.mono (sound5_any 30 30 0 0 _) ?_
 clear T
 rintro e wc ⟨rfl, hb⟩
 intro ac T
 replace M := M.call hb; clear hb
 refine sh_out hK _ _ (MA.mk (fun _ => M.mask [true, true] rfl) (M.mask [true, false] rfl)) ?_; clear hK K
 refine g_m3 (i := 7) (j := 14) (k := 18) (by kernel_rfl) ?_ ?_ ?_
 ·refine gi 770047 ?_; intro K hK
  refine ow_bs (e := 48) [.int .i64 (-1), .int .i64 1, .int .i64 0, .int .i64 0, .int .i64 0, .int .i64 0, .int .i64 0, .int .i64 0] M T rfl rfl rfl rfl (.cons (T.ev 8 rfl) (.cons (T.ev 6 rfl) .nil)) (fun _ => by kernel_rfl) ?_; clear M T; intro gr2_7 wc ac M T
  refine sh_out hK _ _ (MA.mk (fun _ => M.mask [false, true, true] rfl) (M.mask [false, true, false] rfl)) ?_; clear hK K
  exact H7 _ _ ⟨gr2_7, T, M⟩
 ·refine gi 786303 ?_; intro K hK
  refine ow_bs (e := 48) [.int .i64 20, .int .i64 20, .int .i64 0, .int .i64 0, .int .i64 13, .int .i64 15, .int .i64 0, .int .i64 0] M T rfl rfl rfl rfl (.cons (T.ev 4 rfl) (.cons (T.ev 2 rfl) .nil)) (fun _ => by kernel_rfl) ?_; clear M T; intro gr2_14 wc ac M T
  refine sh_out hK _ _ (MA.mk (fun _ => M.mask [false, true, true] rfl) (M.mask [false, true, false] rfl)) ?_; clear hK K
  exact H8 _ _ ⟨gr2_14, T, M⟩
 refine gi 1032063 ?_; intro K hK
 refine ow_call (first := []) (cap := []) T rfl rfl rfl rfl evf (.cons evc (.cons evc .nil)) Try.func24 rfl rfl ?_
 refine Calls.mono (to5_any 30 30 _) ?_
 clear T
 rintro e wc ⟨rfl, hb⟩
 intro ac T
 replace M := M.call hb; clear hb
 refine sh_out hK _ _ (MA.mk (fun _ => M.mask [true, true] rfl) (M.mask [true, false] rfl)) ?_; clear hK K
 refine g_m3 (i := 7) (j := 14) (k := 20) (by kernel_rfl) ?_ ?_ ?_
 ·refine gi 1032191 ?_; intro K hK
  refine ow_bs (e := 48) [.int .i64 (-1), .int .i64 1, .int .i64 0, .int .i64 0, .int .i64 0, .int .i64 0, .int .i64 0, .int .i64 0] M T rfl rfl rfl rfl (.cons (T.ev 9 rfl) (.cons (T.ev 7 rfl) .nil)) (fun _ => by kernel_rfl) ?_; clear M T; intro gr2_7 wc ac M T
  refine sh_out hK _ _ (MA.mk (fun _ => M.mask [false, true, true] rfl) (M.mask [false, true, false] rfl)) ?_; clear hK K
  exact H10 _ _ ⟨gr2_7, T, M⟩
 ·refine gi 1048447 ?_; intro K hK
  refine ow_bs (e := 48) [.int .i64 20, .int .i64 20, .int .i64 0, .int .i64 0, .int .i64 13, .int .i64 15, .int .i64 0, .int .i64 0] M T rfl rfl rfl rfl (.cons (T.ev 5 rfl) (.cons (T.ev 3 rfl) .nil)) (fun _ => by kernel_rfl) ?_; clear M T; intro gr2_14 wc ac M T
  refine sh_out hK _ _ (MA.mk (fun _ => M.mask [false, true, true] rfl) (M.mask [false, true, false] rfl)) ?_; clear hK K
  exact H11 _ _ ⟨gr2_14, T, M⟩
 refine gi 2080639 ?_; intro K hK
 refine ow_call (first := []) (cap := []) T rfl rfl rfl rfl evf (.cons (T.ev 0 rfl) (.cons (T.ev 12 rfl) .nil)) Try.func36 rfl rfl ?_
 refine Calls.mono (sound5_any 30 30 0 0 _) ?_
 clear T
 rintro e wc ⟨rfl, hb⟩
 intro ac T
 replace M := M.call hb; clear hb
 refine sh_out hK _ _ (MA.mk (fun _ => M.mask [true, true] rfl) (M.mask [true, false] rfl)) ?_; clear hK K
 refine g_m3 (i := 7) (j := 14) (k := 21) (by kernel_rfl) ?_ ?_ ?_
 ·refine gi 2080767 ?_; intro K hK
  refine ow_bs (e := 48) [.int .i64 (-1), .int .i64 1, .int .i64 0, .int .i64 0, .int .i64 0, .int .i64 0, .int .i64 0, .int .i64 0] M T rfl rfl rfl rfl (.cons (T.ev 10 rfl) (.cons (T.ev 8 rfl) .nil)) (fun _ => by kernel_rfl) ?_; clear M T; intro gr2_7 wc ac M T
  refine sh_out hK _ _ (MA.mk (fun _ => M.mask [false, true, true] rfl) (M.mask [false, true, false] rfl)) ?_; clear hK K
  exact H13 _ _ ⟨gr2_7, T, M⟩
 ·refine gi 2097023 ?_; intro K hK
  refine ow_bs (e := 48) [.int .i64 20, .int .i64 20, .int .i64 0, .int .i64 0, .int .i64 13, .int .i64 15, .int .i64 0, .int .i64 0] M T rfl rfl rfl rfl (.cons (T.ev 6 rfl) (.cons (T.ev 4 rfl) .nil)) (fun _ => by kernel_rfl) ?_; clear M T; intro gr2_14 wc ac M T
  refine sh_out hK _ _ (MA.mk (fun _ => M.mask [false, true, true] rfl) (M.mask [false, true, false] rfl)) ?_; clear hK K
  exact H14 _ _ ⟨gr2_14, T, M⟩
 refine gi 4177791 ?_; intro K hK
 refine ow_bs (e := 48) [.int .i64 30, .int .i64 30, .int .i64 0, .int .i64 0, .int .i64 30, .int .i64 30, .int .i64 0, .int .i64 0] M T rfl rfl rfl rfl (.cons (T.ev 2 rfl) (.cons (T.ev 0 rfl) .nil)) (fun _ => by kernel_rfl) ?_; clear M T; intro gr2_21 wc ac M T
 refine sh_out hK _ _ (MA.mk (fun _ => M.mask [false, true, true] rfl) (M.mask [false, true, false] rfl)) ?_; clear hK K
 refine g_m2 (i := 7) (j := 14) (by kernel_rfl) ?_ ?_
 ·refine gi 4177919 ?_; intro K hK
  refine ow_bs (e := 48) [.int .i64 (-1), .int .i64 1, .int .i64 0, .int .i64 0, .int .i64 0, .int .i64 0, .int .i64 0, .int .i64 0] M T rfl rfl rfl rfl (.cons (T.ev 11 rfl) (.cons (T.ev 9 rfl) .nil)) (fun _ => by kernel_rfl) ?_; clear M T; intro gr2_7 wc ac M T
  refine sh_out hK _ _ (MA.mk (fun _ => M.mask [false, false, true, true] rfl) (M.mask [false, false, true, false] rfl)) ?_; clear hK K
  exact H16 _ _ ⟨gr2_7, gr2_21, T, M⟩
 refine gi 4194175 ?_; intro K hK
 refine ow_bs (e := 48) [.int .i64 20, .int .i64 20, .int .i64 0, .int .i64 0, .int .i64 13, .int .i64 15, .int .i64 0, .int .i64 0] M T rfl rfl rfl rfl (.cons (T.ev 7 rfl) (.cons (T.ev 5 rfl) .nil)) (fun _ => by kernel_rfl) ?_; clear M T; intro gr2_14 wc ac M T
 refine sh_out hK _ _ (MA.mk (fun _ => M.mask [false, false, true, true] rfl) (M.mask [false, false, true, false] rfl)) ?_; clear hK K
 exact H17 _ _ ⟨gr2_14, gr2_21, T, M⟩
end Go.Proofs.Ytlahdenlmmlplaa
end

section
/-
 law05: trembling.
-/
namespace Go.Proofs.Ytlahdenlmmlplaa
set_option linter.unusedSimpArgs false
set_option linter.unusedVariables false
open Go.RowKit
set_option maxRecDepth 100000 in
set_option maxHeartbeats 1000000 in
theorem trembling_any  (w : World)  :
   Calls Try.prog 17 #[] w fun e w' => e = .returned (.bool true) ∧ Below w.heap.size w w' := by
 refine px_enter noEx Try.func17 rfl 82 rfl [] rfl rfl (Mem.init w _) ?_
 intro ac wc T M
 refine wp_seq ?_
 refine wp_region_lit ?_
 refine lq T (rn_assign rfl evc) ?_; clear T ac; intro ac T
 refine wpList_nil ?_
 replace T := T.pick [] rfl
 refine nm_then ?_
 refine wp_seq ?_
 refine wp_region_lit ?_
 refine l_w rfl ?_; intro K hK
 refine ow_call (first := []) (cap := []) T rfl rfl rfl rfl evf .nil Try.func58 rfl rfl ?_
 refine Calls.mono (full5_any _) ?_
 clear T
 rintro e wc ⟨Au1, cu1, Bu1, du1, Iu1, rfl, SAu1, SBu1, N⟩
 intro ac T
 obtain ⟨b1u1, o1u1, SAu1⟩ := SAu1
 replace SAu1 := SAu1 w noEx
 obtain ⟨b2u1, o2u1, SBu1⟩ := SBu1
 replace SBu1 := SBu1 w noEx
 replace M := (M.join N).swapI
 clear N
 replace M : Mem w noEx wc (Iu1) := M
 refine sh_out hK _ _ ?_; clear hK K
 refine l_w rfl ?_; intro K hK
 refine ow_call (first := []) (cap := []) T rfl rfl rfl rfl evf (.cons (T.ev 0 rfl) (.cons evc (.cons evc .nil))) Try.func21 rfl rfl ?_
 refine Calls.mono (Beat_x _ _ _ _ _ (SAu1.rd M (List.Sublist.refl _)) (SBu1.rd M (List.Sublist.refl _))) ?_
 clear T
 rintro e wc ⟨Au2, cu2, Iu2, rfl, Su2, N⟩
 intro ac T
 obtain ⟨bu2, ou2, Su2⟩ := Su2
 replace Su2 := Su2 w noEx
 replace M := (M.join N).swapI
 clear N
 replace M : Mem w noEx wc ((Iu1 ++ Iu2)) := M
 refine sh_out hK _ _ ?_; clear hK K
 refine lq T (rn_move rfl (T.ev 0 rfl)) ?_; clear T ac; intro ac T
 refine lq T (rn_extract rfl (T.ev 0 rfl) rfl) ?_; clear T ac; intro ac T
 refine lq T (rn_extract rfl (T.ev 1 rfl) rfl) ?_; clear T ac; intro ac T
 refine lq T (rn_assign rfl (T.ev 1 rfl)) ?_; clear T ac; intro ac T
 refine lq T (rn_assign rfl (T.ev 1 rfl)) ?_; clear T ac; intro ac T
 refine wpList_nil ?_
 replace T := T.pick [0, 1] rfl
 refine nm_then ?_
 refine wp_seq ?_
 refine wp_region_lit ?_
 refine l_w rfl ?_; intro K hK
 refine ow_call (first := []) (cap := []) T rfl rfl rfl rfl evf .nil Try.func59 rfl rfl ?_
 refine Calls.mono (less5_any _) ?_
 clear T
 rintro e wc ⟨Au3, cu3, Bu3, du3, Iu3, rfl, SAu3, SBu3, N⟩
 intro ac T
 obtain ⟨b1u3, o1u3, SAu3⟩ := SAu3
 replace SAu3 := SAu3 w noEx
 obtain ⟨b2u3, o2u3, SBu3⟩ := SBu3
 replace SBu3 := SBu3 w noEx
 replace M := (M.join N).swapI
 clear N
 replace M : Mem w noEx wc ((Iu1 ++ Iu2 ++ Iu3)) := M
 refine sh_out hK _ _ ?_; clear hK K
 refine l_w rfl ?_; intro K hK
 refine ow_call (first := []) (cap := []) T rfl rfl rfl rfl evf (.cons (T.ev 0 rfl) .nil) Try.func27 rfl rfl ?_
 refine Calls.mono (Match_x _ _ _ _ _ (SAu3.rd M (List.sublist_append_right _ _)) (SBu3.rd M (List.sublist_append_right _ _))) ?_
 clear T
 rintro e wc ⟨Au4, cu4, Iu4, rfl, Su4, N⟩
 intro ac T
 obtain ⟨bu4, ou4, Su4⟩ := Su4
 replace Su4 := Su4 w noEx
 replace M := (M.join N).swapI
 clear N
 replace M : Mem w noEx wc ((Iu1 ++ Iu2 ++ Iu3 ++ Iu4)) := M
 refine sh_out hK _ _ ?_; clear hK K
 refine lq T (rn_move rfl (T.ev 0 rfl)) ?_; clear T ac; intro ac T
 refine lq T (rn_extract rfl (T.ev 0 rfl) rfl) ?_; clear T ac; intro ac T
 refine lq T (rn_extract rfl (T.ev 1 rfl) rfl) ?_; clear T ac; intro ac T
 refine lq T (rn_assign rfl (T.ev 1 rfl)) ?_; clear T ac; intro ac T
 refine lq T (rn_assign rfl (T.ev 1 rfl)) ?_; clear T ac; intro ac T
 refine wpList_nil ?_
 replace T := T.pick [0, 1, 7, 8] rfl
 refine nm_then ?_
 refine wp_seq ?_
 refine wp_region_lit ?_
 refine l_w rfl ?_; intro K hK
 refine ow_call (first := []) (cap := []) T rfl rfl rfl rfl evf .nil Try.func58 rfl rfl ?_
 refine Calls.mono (full5_any _) ?_
 clear T
 rintro e wc ⟨Au5, cu5, Bu5, du5, Iu5, rfl, SAu5, SBu5, N⟩
 intro ac T
 obtain ⟨b1u5, o1u5, SAu5⟩ := SAu5
 replace SAu5 := SAu5 w noEx
 obtain ⟨b2u5, o2u5, SBu5⟩ := SBu5
 replace SBu5 := SBu5 w noEx
 replace M := (M.join N).swapI
 clear N
 replace M : Mem w noEx wc ((Iu1 ++ Iu2 ++ Iu3 ++ Iu4 ++ Iu5)) := M
 refine sh_out hK _ _ ?_; clear hK K
 refine l_w rfl ?_; intro K hK
 refine ow_call (first := []) (cap := []) T rfl rfl rfl rfl evf (.cons (T.ev 0 rfl) (.cons evc (.cons evc .nil))) Try.func60 rfl rfl ?_
 refine Calls.mono (Strokes_x _ _ _ _ _ (SAu5.rd M (List.sublist_append_right _ _)) (SBu5.rd M (List.sublist_append_right _ _))) ?_
 clear T
 rintro e wc ⟨rfl, hb⟩
 intro ac T
 replace M := M.call hb; clear hb
 refine sh_out hK _ _ ?_; clear hK K
 refine lq T (rn_move rfl (T.ev 0 rfl)) ?_; clear T ac; intro ac T
 refine lq T (rn_extract rfl (T.ev 0 rfl) rfl) ?_; clear T ac; intro ac T
 refine lq T (rn_extract rfl (T.ev 1 rfl) rfl) ?_; clear T ac; intro ac T
 refine lq T (rn_assign rfl (T.ev 1 rfl)) ?_; clear T ac; intro ac T
 refine lq T (rn_assign rfl (T.ev 1 rfl)) ?_; clear T ac; intro ac T
 refine wpList_nil ?_
 replace T := T.pick [0, 1, 7, 8, 9, 10] rfl
 refine nm_then ?_
 refine wp_seq ?_
 refine wp_region_lit ?_
 refine l_w rfl ?_; intro K hK
 refine ow_call (first := []) (cap := []) T rfl rfl rfl rfl evf .nil Try.func61 rfl rfl ?_
 refine Calls.mono (scale5_any _) ?_
 clear T
 rintro e wc ⟨Au7, cu7, LLu7, Iu7, hRu7, rfl, Su7, Eu7, N⟩
 intro ac T
 obtain ⟨bu7, ou7, Su7⟩ := Su7
 replace Su7 := Su7 w noEx
 replace M := (M.join N).swapI
 clear N
 replace M : Mem w noEx wc ((Iu1 ++ Iu2 ++ Iu3 ++ Iu4 ++ Iu5 ++ Iu7)) := M
 refine sh_out hK _ _ ?_; clear hK K
 refine l_w rfl ?_; intro K hK
 refine ow_bs (e := 3) [.int .i64 0, .int .i64 1] M T rfl rfl rfl rfl (.cons evc (.cons evc .nil)) (fun _ => by kernel_rfl) ?_; clear M T; intro g1 wc ac M T
 refine sh_out hK _ _ ?_; clear hK K
 refine l_w rfl ?_; intro K hK
 refine ow_call (first := []) (cap := []) T rfl rfl rfl rfl evf (.cons (T.ev 1 rfl) (.cons (T.ev 0 rfl) .nil)) Try.func15 rfl rfl ?_
 refine Calls.mono (Tremolo_x _ _ LLu7 _ _ _ hRu7 (Su7.rd M (.cons _ (List.sublist_append_right _ _))) (fun x hx => by obtain ⟨b9, o9, h9⟩ := Eu7 x hx; exact (h9 w noEx).rd M (.cons _ (List.sublist_append_right _ _))) (M.rdOwn (nthE_mem (i := 0) rfl) rfl rfl)) ?_
 clear T
 rintro e wc ⟨Au8, cu8, Iu8, rfl, Su8, N⟩
 intro ac T
 obtain ⟨bu8, ou8, Su8⟩ := Su8
 replace Su8 := Su8 w noEx
 replace M := (M.join N).swapI
 clear N
 replace M : Mem w noEx wc ((g1, .cells [.int .i64 0, .int .i64 1]) :: (Iu1 ++ Iu2 ++ Iu3 ++ Iu4 ++ Iu5 ++ Iu7 ++ Iu8)) := M
 refine sh_out hK _ _ ?_; clear hK K
 refine lq T (rn_move rfl (T.ev 0 rfl)) ?_; clear T ac; intro ac T
 refine lq T (rn_extract rfl (T.ev 0 rfl) rfl) ?_; clear T ac; intro ac T
 refine lq T (rn_extract rfl (T.ev 1 rfl) rfl) ?_; clear T ac; intro ac T
 refine lq T (rn_assign rfl (T.ev 1 rfl)) ?_; clear T ac; intro ac T
 refine lq T (rn_assign rfl (T.ev 1 rfl)) ?_; clear T ac; intro ac T
 refine wpList_nil ?_
 replace T := T.pick [0, 1, 8, 9, 10, 11, 12, 13] rfl
 replace M := M.mask [false] rfl
 refine nm_then ?_
 refine wp_seq ?_
 refine wp_region_lit ?_
 refine l_w rfl ?_; intro K hK
 refine ow_call (first := []) (cap := []) T rfl rfl rfl rfl evf .nil Try.func59 rfl rfl ?_
 refine Calls.mono (less5_any _) ?_
 clear T
 rintro e wc ⟨Au9, cu9, Bu9, du9, Iu9, rfl, SAu9, SBu9, N⟩
 intro ac T
 obtain ⟨b1u9, o1u9, SAu9⟩ := SAu9
 replace SAu9 := SAu9 w noEx
 obtain ⟨b2u9, o2u9, SBu9⟩ := SBu9
 replace SBu9 := SBu9 w noEx
 replace M := (M.join N).swapI
 clear N
 replace M : Mem w noEx wc ((Iu1 ++ Iu2 ++ Iu3 ++ Iu4 ++ Iu5 ++ Iu7 ++ Iu8 ++ Iu9)) := M
 refine sh_out hK _ _ ?_; clear hK K
 refine l_w rfl ?_; intro K hK
 refine ow_call (first := []) (cap := []) T rfl rfl rfl rfl evf (.cons (T.ev 0 rfl) .nil) Try.func28 rfl rfl ?_
 refine Calls.mono (Short_x _ _ _ _ _ (SAu9.rd M (List.sublist_append_right _ _)) (SBu9.rd M (List.sublist_append_right _ _))) ?_
 clear T
 rintro e wc ⟨Au10, cu10, Iu10, rfl, Su10, N⟩
 intro ac T
 obtain ⟨bu10, ou10, Su10⟩ := Su10
 replace Su10 := Su10 w noEx
 replace M := (M.join N).swapI
 clear N
 replace M : Mem w noEx wc ((Iu1 ++ Iu2 ++ Iu3 ++ Iu4 ++ Iu5 ++ Iu7 ++ Iu8 ++ Iu9 ++ Iu10)) := M
 refine sh_out hK _ _ ?_; clear hK K
 refine lq T (rn_move rfl (T.ev 0 rfl)) ?_; clear T ac; intro ac T
 refine lq T (rn_extract rfl (T.ev 0 rfl) rfl) ?_; clear T ac; intro ac T
 refine lq T (rn_extract rfl (T.ev 1 rfl) rfl) ?_; clear T ac; intro ac T
 refine lq T (rn_assign rfl (T.ev 1 rfl)) ?_; clear T ac; intro ac T
 refine lq T (rn_assign rfl (T.ev 1 rfl)) ?_; clear T ac; intro ac T
 refine wpList_nil ?_
 replace T := T.pick [0, 1, 7, 8, 9, 10, 11, 12, 13, 14] rfl
 refine nm_then ?_
 refine wp_seq ?_
 refine wp_region_lit ?_
 refine lq T (rn_move rfl (T.ev 8 rfl)) ?_; clear T ac; intro ac T
 refine lq (v := (.bool true)) T (rn_neqof (rn_eql rfl (T.ev 0 rfl) evc) (by simp)) ?_; clear T ac; intro ac T
 refine lq T (rn_move rfl (T.ev 0 rfl)) ?_; clear T ac; intro ac T
 refine lw T (wanted_yes rfl rfl (T.ev 0 rfl) rfl) (rn_move rfl (T.ev 9 rfl)) ?_; clear T ac; intro ac T
 refine lw (v := (.bool true)) T (wanted_yes rfl rfl (T.ev 1 rfl) rfl) (rn_neqof (rn_eql rfl (T.ev 0 rfl) evc) (by simp)) ?_; clear T ac; intro ac T
 refine lq T (rn_pick1 rfl (T.ev 2 rfl) rfl (T.ev 0 rfl)) ?_; clear T ac; intro ac T
 refine lq T (rn_move rfl (T.ev 0 rfl)) ?_; clear T ac; intro ac T
 refine lw T (wanted_yes rfl rfl (T.ev 0 rfl) rfl) (rn_move rfl (T.ev 11 rfl)) ?_; clear T ac; intro ac T
 refine lw (v := (.bool true)) T (wanted_yes rfl rfl (T.ev 1 rfl) rfl) (rn_neqof (rn_eql rfl (T.ev 0 rfl) evc) (by simp)) ?_; clear T ac; intro ac T
 refine lq T (rn_pick1 rfl (T.ev 2 rfl) rfl (T.ev 0 rfl)) ?_; clear T ac; intro ac T
 refine lq T (rn_move rfl (T.ev 0 rfl)) ?_; clear T ac; intro ac T
 refine lw T (wanted_yes rfl rfl (T.ev 0 rfl) rfl) (rn_move rfl (T.ev 13 rfl)) ?_; clear T ac; intro ac T
 refine lw (v := (.bool true)) T (wanted_yes rfl rfl (T.ev 1 rfl) rfl) (rn_neqof (rn_eql rfl (T.ev 0 rfl) evc) (by simp)) ?_; clear T ac; intro ac T
 refine lq T (rn_pick1 rfl (T.ev 2 rfl) rfl (T.ev 0 rfl)) ?_; clear T ac; intro ac T
 refine lq T (rn_move rfl (T.ev 0 rfl)) ?_; clear T ac; intro ac T
 refine lw T (wanted_yes rfl rfl (T.ev 0 rfl) rfl) (rn_move rfl (T.ev 15 rfl)) ?_; clear T ac; intro ac T
 refine lw (v := (.bool true)) T (wanted_yes rfl rfl (T.ev 1 rfl) rfl) (rn_neqof (rn_eql rfl (T.ev 0 rfl) evc) (by simp)) ?_; clear T ac; intro ac T
 refine lq T (rn_pick1 rfl (T.ev 2 rfl) rfl (T.ev 0 rfl)) ?_; clear T ac; intro ac T
 refine lq T (rn_move rfl (T.ev 0 rfl)) ?_; clear T ac; intro ac T
 refine lw T (wanted_yes rfl rfl (T.ev 0 rfl) rfl) (rn_move rfl (T.ev 24 rfl)) ?_; clear T ac; intro ac T
 refine lw (v := (.bool true)) T (wanted_yes rfl rfl (T.ev 1 rfl) rfl) (rn_neqof (rn_eql rfl (T.ev 0 rfl) evc) (by simp)) ?_; clear T ac; intro ac T
 refine lq T (rn_pick1 rfl (T.ev 2 rfl) rfl (T.ev 0 rfl)) ?_; clear T ac; intro ac T
 refine lq T (rn_move rfl (T.ev 0 rfl)) ?_; clear T ac; intro ac T
 refine lw T (wanted_yes rfl rfl (T.ev 0 rfl) rfl) (rn_move rfl (T.ev 32 rfl)) ?_; clear T ac; intro ac T
 refine l_w (wanted_yes rfl rfl (T.ev 1 rfl) rfl) ?_; intro K hK
 refine ow_call (first := []) (cap := []) T rfl rfl rfl rfl evf (.cons evc (.cons evc .nil)) Try.func24 rfl rfl ?_
 refine Calls.mono (to5_any 9 10 _) ?_
 clear T
 rintro e wc ⟨rfl, hb⟩
 intro ac T
 replace M := M.call hb; clear hb
 refine sh_out hK _ _ ?_; clear hK K
 refine l_w (wanted_yes rfl rfl (T.ev 2 rfl) rfl) ?_; intro K hK
 refine ow_call (first := []) (cap := []) T rfl rfl rfl rfl evf (.cons evc (.cons evc .nil)) Try.func24 rfl rfl ?_
 refine Calls.mono (to5_any 8 10 _) ?_
 clear T
 rintro e wc ⟨rfl, hb⟩
 intro ac T
 replace M := M.call hb; clear hb
 refine sh_out hK _ _ ?_; clear hK K
 refine l_w (wanted_yes rfl rfl (T.ev 3 rfl) rfl) ?_; intro K hK
 refine ow_call (first := []) (cap := []) T rfl rfl rfl rfl evf (.cons evc (.cons evc .nil)) Try.func24 rfl rfl ?_
 refine Calls.mono (to5_any 7 10 _) ?_
 clear T
 rintro e wc ⟨rfl, hb⟩
 intro ac T
 replace M := M.call hb; clear hb
 refine sh_out hK _ _ ?_; clear hK K
 refine l_w (wanted_yes rfl rfl (T.ev 4 rfl) rfl) ?_; intro K hK
 refine ow_bs (e := 40) [.int .i64 9, .int .i64 10, .int .i64 8, .int .i64 10, .int .i64 7, .int .i64 10] M T rfl rfl rfl rfl (.cons (T.ev 2 rfl) (.cons (T.ev 1 rfl) (.cons (T.ev 0 rfl) .nil))) (fun _ => by kernel_rfl) ?_; clear M T; intro g2 wc ac M T
 refine sh_out hK _ _ ?_; clear hK K
 refine l_w (wanted_yes rfl rfl (T.ev 5 rfl) rfl) ?_; intro K hK
 refine ow_call (first := []) (cap := []) T rfl rfl rfl rfl evf (.cons (T.ev 4 rfl) (.cons (T.ev 0 rfl) .nil)) Try.func26 rfl rfl ?_
 refine Calls.mono (sameRanges_same _ _ _ _ _ _ [(9, 10), (8, 10), (7, 10)] _ (Su2.rd M (.cons _ (subL (subL (subL (subL (subL (subL (subL (List.sublist_append_right _ _)))))))))) (M.rdOwn (nthE_mem (i := 0) rfl) rfl rfl) (by omega) (by omega)) ?_
 clear T
 rintro e wc ⟨rfl, hb⟩
 intro ac T
 replace M := M.call hb; clear hb
 refine sh_out hK _ _ ?_; clear hK K
 refine lq T (rn_pick1 rfl (T.ev 6 rfl) rfl (T.ev 0 rfl)) ?_; clear T ac; intro ac T
 refine lq T (rn_move rfl (T.ev 0 rfl)) ?_; clear T ac; intro ac T
 refine lw T (wanted_yes rfl rfl (T.ev 0 rfl) rfl) (rn_move rfl (T.ev 38 rfl)) ?_; clear T ac; intro ac T
 refine l_w (wanted_yes rfl rfl (T.ev 1 rfl) rfl) ?_; intro K hK
 refine ow_bs (e := 3) [.int .i64 0, .int .i64 (-1)] M T rfl rfl rfl rfl (.cons evc (.cons evc .nil)) (fun _ => by kernel_rfl) ?_; clear M T; intro g3 wc ac M T
 refine sh_out hK _ _ ?_; clear hK K
 refine l_w (wanted_yes rfl rfl (T.ev 2 rfl) rfl) ?_; intro K hK
 refine ow_call (first := []) (cap := []) T rfl rfl rfl rfl evf (.cons (T.ev 1 rfl) (.cons (T.ev 0 rfl) .nil)) Try.func35 rfl rfl ?_
 refine Calls.mono (sameInts_eq _ _ _ _ _ _ [0, -1] _ (Su4.rd M (.cons _ (.cons _ (subL (subL (subL (subL (subL (List.sublist_append_right _ _))))))))) (M.rdOwn (nthE_mem (i := 0) rfl) rfl rfl) (by omega) (by omega)) ?_
 clear T
 rintro e wc ⟨rfl, hb⟩
 intro ac T
 replace M := M.call hb; clear hb
 refine sh_out hK _ _ ?_; clear hK K
 refine lq T (rn_pick1 rfl (T.ev 3 rfl) rfl (T.ev 0 rfl)) ?_; clear T ac; intro ac T
 refine lq T (rn_move rfl (T.ev 0 rfl)) ?_; clear T ac; intro ac T
 refine lw T (wanted_yes rfl rfl (T.ev 0 rfl) rfl) (rn_move rfl (T.ev 39 rfl)) ?_; clear T ac; intro ac T
 refine l_w (wanted_yes rfl rfl (T.ev 1 rfl) rfl) ?_; intro K hK
 refine ow_bs (e := 3) [.int .i64 1, .int .i64 3] M T rfl rfl rfl rfl (.cons evc (.cons evc .nil)) (fun _ => by kernel_rfl) ?_; clear M T; intro g4 wc ac M T
 refine sh_out hK _ _ ?_; clear hK K
 refine l_w (wanted_yes rfl rfl (T.ev 2 rfl) rfl) ?_; intro K hK
 refine ow_call (first := []) (cap := []) T rfl rfl rfl rfl evf (.cons (T.ev 1 rfl) (.cons (T.ev 0 rfl) .nil)) Try.func35 rfl rfl ?_
 refine Calls.mono (sameInts_eq _ _ _ _ _ _ [1, 3] _ (Su8.rd M (.cons _ (.cons _ (.cons _ (subL (subL (List.sublist_append_right _ _))))))) (M.rdOwn (nthE_mem (i := 0) rfl) rfl rfl) (by omega) (by omega)) ?_
 clear T
 rintro e wc ⟨rfl, hb⟩
 intro ac T
 replace M := M.call hb; clear hb
 refine sh_out hK _ _ ?_; clear hK K
 refine lq T (rn_pick1 rfl (T.ev 3 rfl) rfl (T.ev 0 rfl)) ?_; clear T ac; intro ac T
 refine lq T (rn_move rfl (T.ev 0 rfl)) ?_; clear T ac; intro ac T
 refine lw T (wanted_yes rfl rfl (T.ev 0 rfl) rfl) (rn_move rfl (T.ev 42 rfl)) ?_; clear T ac; intro ac T
 refine l_w (wanted_yes rfl rfl (T.ev 1 rfl) rfl) ?_; intro K hK
 refine ow_bs (e := 3) [.int .i64 1] M T rfl rfl rfl rfl (.cons evc .nil) (fun _ => by kernel_rfl) ?_; clear M T; intro g5 wc ac M T
 refine sh_out hK _ _ ?_; clear hK K
 refine l_w (wanted_yes rfl rfl (T.ev 2 rfl) rfl) ?_; intro K hK
 refine ow_call (first := []) (cap := []) T rfl rfl rfl rfl evf (.cons (T.ev 1 rfl) (.cons (T.ev 0 rfl) .nil)) Try.func35 rfl rfl ?_
 refine Calls.mono (sameInts_eq _ _ _ _ _ _ [1] _ (Su10.rd M (.cons _ (.cons _ (.cons _ (.cons _ (List.sublist_append_right _ _)))))) (M.rdOwn (nthE_mem (i := 0) rfl) rfl rfl) (by omega) (by omega)) ?_
 clear T
 rintro e wc ⟨rfl, hb⟩
 intro ac T
 replace M := M.call hb; clear hb
 refine sh_out hK _ _ ?_; clear hK K
 refine lq T (rn_pick1 rfl (T.ev 3 rfl) rfl (T.ev 0 rfl)) ?_; clear T ac; intro ac T
 refine lq T (rn_assign rfl (T.ev 0 rfl)) ?_; clear T ac; intro ac T
 refine wpList_nil ?_
 replace T := T.pick [0] rfl
 replace M := M.mask [false, false, false, false] rfl
 refine nm_then ?_
 refine wp_ret ?_
 refine rt_1 T rfl (T.ev 0 rfl) ?_
 exact ⟨rfl, M.below⟩
end Go.Proofs.Ytlahdenlmmlplaa
end

section
/-
 kit: sounds and laws out of a pot; what tongues truly are.
-/
namespace Go.Proofs.Ytlahdenlmmlplaa
set_option linter.unusedSimpArgs false
set_option linter.unusedVariables false
open Go.RowKit
theorem rn_quo {P : Program} {op : Oper} {a : Act} {w : World} {ty ty' : TypeId} {x y : Operand} {p q : Int} (ho : op.op = .binOp .quo ty x y ty') (hx : a.eval x = .int .i64 p) (hy : a.eval y = .int .i64 q) (hq : q ≠ 0) (hb : -9223372036854775808 ≤ p.tdiv q ∧ p.tdiv q ≤ 9223372036854775807) : Runs P op a (.int .i64 (p.tdiv q)) w := by
 refine rn_bin ho hx hy ?_
 rw [eqGuard_quo, binOp_quo]
 unfold Op.intDiv
 rw [if_neg (by simpa using hq)]
 show Result.ok (Value.int .i64 (IntKind.i64.wrap (p.tdiv q))) w = _
 rw [IntWalk.i64_in _ hb]
def mostD (notes : Int) : Int := min 5 ((5 : Int).tdiv (max 1 notes))
theorem tdiv_bd {q : Int} (h : 1 ≤ q) : 0 ≤ (5 : Int).tdiv q ∧ (5 : Int).tdiv q ≤ 5 ∧ (5 : Int).tdiv q * q ≤ 5 := by
 rw [Int.tdiv_eq_ediv_of_nonneg (by omega)]
 refine ⟨Int.ediv_nonneg (by omega) (by omega), ?_, Int.ediv_mul_le 5 (by omega)⟩
 have h1 := Int.ediv_mul_le 5 (show q ≠ 0 by omega)
 have h2 : 0 ≤ 5 / q := Int.ediv_nonneg (by omega) (by omega)
 have h3 : 5 / q * 1 ≤ 5 / q * q := Int.mul_le_mul_of_nonneg_left h h2
 omega
theorem mostD_bd (notes : Int) : 0 ≤ mostD notes ∧ mostD notes ≤ 5 ∧ ∀ k : Int, 0 ≤ k ∧ k ≤ notes → mostD notes * k ≤ 5 := by
 have h := tdiv_bd (q := max 1 notes) (by omega)
 unfold mostD
 refine ⟨by omega, by omega, fun k hk => ?_⟩
 have e : min 5 ((5 : Int).tdiv (max 1 notes)) = (5 : Int).tdiv (max 1 notes) := by omega
 rw [e]
 exact Int.le_trans (Int.mul_le_mul_of_nonneg_left (by omega) h.1) h.2.2
theorem step_bd {notes st k : Int} (hs : -mostD notes ≤ st ∧ st ≤ mostD notes) (hk : 0 ≤ k ∧ k ≤ notes) : -5 ≤ st * k ∧ st * k ≤ 5 := by
 have h := (mostD_bd notes).2.2 k hk
 have h1 : st * k ≤ mostD notes * k := Int.mul_le_mul_of_nonneg_right hs.2 hk.1
 have h2 : -mostD notes * k ≤ st * k := Int.mul_le_mul_of_nonneg_right hs.1 hk.1
 rw [Int.neg_mul] at h2
 omega
structure Lw.made (l : Lw) (notes : Int) : Prop where
 first : 5 ≤ l.first ∧ l.first ≤ 25
 step : -mostD notes ≤ l.step ∧ l.step ≤ mostD notes
 span : 1 ≤ l.span ∧ l.span ≤ 8
 press : 0 ≤ l.press ∧ l.press ≤ 3
def LawPost (bp : Nat) (notes : Int) (w : World) (e : Ending) (w' : World) : Prop := ∃ (l : Lw) (s' : Int), l.made notes ∧ u64ok s' ∧ e = .returned (.agg #[.int .i64 l.first, .int .i64 l.step, .int .i64 l.span, .int .i64 l.press]) ∧ w.grownBy w' (some bp) ∧ Bk w' bp #[.int .u64 s']
def SoundPost (bp : Nat) (w : World) (e : Ending) (w' : World) : Prop := ∃ (x : Snd) (s' : Int), x.good ∧ u64ok s' ∧ e = .returned (.agg #[.int .i64 x.t0, .int .i64 x.t1, .int .i64 x.s0, .int .i64 x.s1]) ∧ w.grownBy w' (some bp) ∧ Bk w' bp #[.int .u64 s']
def beatT (t0 s0 t1 s1 p : Int) : Int := t1 + s1 * p - t0 - s0 * p
theorem beatT_eq (t0 s0 t1 s1 p : Int) : beatT t0 s0 t1 s1 p = t1 - t0 + p * (s1 - s0) := by
 unfold beatT
 rw [Int.mul_sub, Int.mul_comm p s1, Int.mul_comm p s0]
 omega
set_option maxRecDepth 100000 in
set_option maxHeartbeats 1000000 in
theorem lawOf_any (s : Int) (bp : Nat) (notes : Int) (w : World) (hn : 0 ≤ notes ∧ notes ≤ 1000) (hp : Bk w bp #[.int .u64 s]) (hs : u64ok s) :
   Calls Try.prog 51 #[.pointer (some ⟨bp, 0, none⟩), .int .i64 notes] w (LawPost bp notes w) := by
 have hq := tdiv_bd (q := max 1 notes) (by omega)
 refine px_enter (fun b => b = bp) Try.func51 rfl 27 rfl [.pointer (some ⟨bp, 0, none⟩), .int .i64 notes] rfl rfl (Mem.initEx (p := .cells [.int .u64 s]) hp) ?_
 intro ac wc T M
 refine wp_seq ?_
 refine wp_region_lit ?_
 refine l_w rfl ?_; intro K hK
 refine ow_al M T rfl rfl rfl rfl ?_; clear M T; intro g1 wc ac M T
 refine sh_out hK _ _ ?_; clear hK K
 refine wpList_nil ?_
 refine nm_then ?_
 refine wp_seq ?_
 refine wp_region_lit ?_
 refine lq T (rn_move rfl (T.ev 1 rfl)) ?_; clear T ac; intro ac T
 refine l_w rfl ?_; intro K hK
 refine ow_call (first := []) (cap := []) T rfl rfl rfl rfl evf (.cons (T.ev 0 rfl) (.cons evc (.cons evc .nil))) Try.func19 rfl rfl ?_
 refine Calls.mono (within_pot _ bp 5 25 _ (by omega) (by omega) (by omega) (M.nth 1 rfl) hs) ?_
 clear T
 rintro e wc ⟨xu1, su1, hxu1, hsu1, rfl, hgr, hbk⟩
 intro ac T
 replace M := M.callC (cs' := [.int .u64 su1]) (.tail .head) hgr hbk
 clear hgr hbk
 refine sh_out hK _ _ ?_; clear hK K
 refine lq T (rn_move rfl (T.ev 3 rfl)) ?_; clear T ac; intro ac T
 refine l_w rfl ?_; intro K hK
 refine ow_call (first := []) (cap := []) T rfl rfl rfl rfl evf (.cons (T.ev 0 rfl) (.cons evc (.cons evc .nil))) Try.func19 rfl rfl ?_
 refine Calls.mono (within_pot _ bp 1 8 _ (by omega) (by omega) (by omega) (M.nth 1 rfl) hsu1) ?_
 clear T
 rintro e wc ⟨xu2, su2, hxu2, hsu2, rfl, hgr, hbk⟩
 intro ac T
 replace M := M.callC (cs' := [.int .u64 su2]) (.tail .head) hgr hbk
 clear hgr hbk
 refine sh_out hK _ _ ?_; clear hK K
 refine lq T (rn_move rfl (T.ev 5 rfl)) ?_; clear T ac; intro ac T
 refine l_w rfl ?_; intro K hK
 refine ow_call (first := []) (cap := []) T rfl rfl rfl rfl evf (.cons (T.ev 0 rfl) (.cons evc .nil)) Try.func39 rfl rfl ?_
 refine Calls.mono (upto_any _ bp 3 _ (by omega) (by omega) (M.nth 1 rfl) hsu2) ?_
 clear T
 rintro e wc ⟨xu3, su3, hxu3, hsu3, rfl, hgr, hbk⟩
 intro ac T
 replace M := M.callC (cs' := [.int .u64 su3]) (.tail .head) hgr hbk
 clear hgr hbk
 refine sh_out hK _ _ ?_; clear hK K
 refine lq (v := (.agg #[.int .i64 xu1, .int .i64 0, .int .i64 xu2, .int .i64 xu3])) T (rn_build rfl (.cons (T.ev 4 rfl) (.cons (T.ev 2 rfl) (.cons (T.ev 0 rfl) .nil))) (fun _ => by kernel_rfl)) ?_; clear T ac; intro ac T
 refine l_w rfl ?_; intro K hK
 refine ow_al M T rfl rfl rfl rfl ?_; clear M T; intro g2 wc ac M T
 refine sh_out hK _ _ ?_; clear hK K
 refine l_w rfl ?_; intro K hK
 refine ow_stO M T rfl rfl (T.ev 0 rfl) (T.ev 1 rfl) rfl .head rfl (by simp) rfl (by kernel_rfl) ?_; clear M T; intro wc ac M T
 refine sh_out hK _ _ ?_; clear hK K
 refine wpList_nil ?_
 replace T := T.pick [0, 8, 9, 10] rfl
 refine nm_then ?_
 refine wp_seq ?_
 refine wp_seq ?_
 refine wp_region_lit ?_
 refine lq T (rn_move rfl (T.ev 3 rfl)) ?_; clear T ac; intro ac T
 refine lq T (rn_max2 rfl evc (T.ev 0 rfl)) ?_; clear T ac; intro ac T
 refine lq T (rn_quo rfl evc (T.ev 0 rfl) (by omega) (by omega)) ?_; clear T ac; intro ac T
 refine lq T (rn_min2 rfl evc (T.ev 0 rfl)) ?_; clear T ac; intro ac T
 refine lq T (rn_assign rfl (T.ev 0 rfl)) ?_; clear T ac; intro ac T
 refine wpList_nil ?_
 replace T := T.pick [0, 5, 6, 7] rfl
 refine nm_then ?_
 refine wp_seq ?_
 refine wp_region_lit ?_
 refine lq T (rn_move rfl (T.ev 0 rfl)) ?_; clear T ac; intro ac T
 refine lq T (rn_gtr rfl (T.ev 0 rfl) evc) ?_; clear T ac; intro ac T
 refine wpList_nil ?_
 replace T := T.pick [0, 2, 3, 4, 5] rfl
 refine nm_then ?_
 refine wp_if (T.ev 0 rfl) ?_ ?_
 ·intro h1
  refine wp_region_lit ?_
  refine lq T (rn_move rfl (T.ev 4 rfl)) ?_; clear T ac; intro ac T
  refine lq T (rn_move rfl (T.ev 2 rfl)) ?_; clear T ac; intro ac T
  refine lq T (rn_neg rfl (T.ev 0 rfl) (by omega)) ?_; clear T ac; intro ac T
  refine lq T (rn_move rfl (T.ev 4 rfl)) ?_; clear T ac; intro ac T
  refine l_w rfl ?_; intro K hK
  refine ow_call (first := []) (cap := []) T rfl rfl rfl rfl evf (.cons (T.ev 3 rfl) (.cons (T.ev 1 rfl) (.cons (T.ev 0 rfl) .nil))) Try.func19 rfl rfl ?_
  refine Calls.mono (within_pot _ bp (-(min 5 (Int.tdiv 5 (max 1 notes)))) (min 5 (Int.tdiv 5 (max 1 notes))) _ (by omega) (by omega) (by omega) (M.nth 2 rfl) hsu3) ?_
  clear T
  rintro e wc ⟨xu4, su4, hxu4, hsu4, rfl, hgr, hbk⟩
  intro ac T
  replace M := M.callC (cs' := [.int .u64 su4]) (.tail (.tail .head)) hgr hbk
  clear hgr hbk
  refine sh_out hK _ _ ?_; clear hK K
  refine lq (v := (.pointer (some ⟨g2, 1, none⟩))) T (rn_fieldAddr (off := 1) rfl (T.ev 7 rfl) (fun _ _ _ => by kernel_rfl)) ?_; clear T ac; intro ac T
  refine l_w rfl ?_; intro K hK
  refine ow_stO M T rfl rfl (T.ev 0 rfl) (T.ev 1 rfl) rfl .head rfl (by simp) rfl (by kernel_rfl) ?_; clear M T; intro wc ac M T
  refine sh_out hK _ _ ?_; clear hK K
  refine wpList_nil ?_
  replace T := T.pick [8, 9] rfl
  refine nm_then ?_
  refine wp_seq ?_
  refine wp_region_lit ?_
  refine lq T (rn_rowO (Mem.nth M 0 rfl) rfl (T.ev 0 rfl) rfl) ?_; clear T ac; intro ac T
  refine l_w rfl ?_; intro K hK
  refine ow_stO M T rfl rfl (T.ev 2 rfl) (T.ev 0 rfl) rfl (.tail .head) rfl (by simp) rfl (by kernel_rfl) ?_; clear M T; intro wc ac M T
  refine sh_out hK _ _ ?_; clear hK K
  refine wpList_nil ?_
  replace T := T.pick [2] rfl
  replace M := M.mask [false, true, true] rfl
  refine nm_then ?_
  refine wp_ret ?_
  refine rt_c M T rfl (T.ev 0 rfl) (nthE_mem (i := 0) rfl) rfl ?_
  exact ⟨⟨xu1, xu4, xu2, xu3⟩, _, ⟨by (try dsimp only); omega, by (try dsimp only); unfold mostD; omega, by (try dsimp only); omega, by (try dsimp only); omega⟩, hsu4, rfl, M.grown, M.nth 1 rfl⟩
 intro h1
 refine wp_skip ?_
 refine nm_then ?_
 refine wp_seq ?_
 refine wp_region_lit ?_
 refine lq T (rn_rowO (Mem.nth M 0 rfl) rfl (T.ev 2 rfl) rfl) ?_; clear T ac; intro ac T
 refine l_w rfl ?_; intro K hK
 refine ow_stO M T rfl rfl (T.ev 4 rfl) (T.ev 0 rfl) rfl (.tail .head) rfl (by simp) rfl (by kernel_rfl) ?_; clear M T; intro wc ac M T
 refine sh_out hK _ _ ?_; clear hK K
 refine wpList_nil ?_
 replace T := T.pick [4] rfl
 replace M := M.mask [false, true, true] rfl
 refine nm_then ?_
 refine wp_ret ?_
 refine rt_c M T rfl (T.ev 0 rfl) (nthE_mem (i := 0) rfl) rfl ?_
 exact ⟨⟨xu1, 0, xu2, xu3⟩, _, ⟨by (try dsimp only); omega, by (try dsimp only); unfold mostD; omega, by (try dsimp only); omega, by (try dsimp only); omega⟩, hsu3, rfl, M.grown, M.nth 1 rfl⟩
set_option maxRecDepth 100000 in
set_option maxHeartbeats 1000000 in
theorem soundOf_any (s : Int) (bp : Nat) (tone wide : Int) (w : World) (ht : -1000 ≤ tone ∧ tone ≤ 1000) (hw : 0 ≤ wide ∧ wide ≤ 40) (hp : Bk w bp #[.int .u64 s]) (hs : u64ok s) :
   Calls Try.prog 20 #[.pointer (some ⟨bp, 0, none⟩), .int .i64 tone, .int .i64 wide] w (SoundPost bp w) := by
 refine px_enter (fun b => b = bp) Try.func20 rfl 24 rfl [.pointer (some ⟨bp, 0, none⟩), .int .i64 tone, .int .i64 wide] rfl rfl (Mem.initEx (p := .cells [.int .u64 s]) hp) ?_
 intro ac wc T M
 refine wp_seq ?_
 refine wp_region_lit ?_
 refine l_w rfl ?_; intro K hK
 refine ow_al M T rfl rfl rfl rfl ?_; clear M T; intro g1 wc ac M T
 refine sh_out hK _ _ ?_; clear hK K
 refine wpList_nil ?_
 refine nm_then ?_
 refine wp_seq ?_
 refine wp_region_lit ?_
 refine lq T (rn_move rfl (T.ev 2 rfl)) ?_; clear T ac; intro ac T
 refine lq T (rn_min2 rfl evc (T.ev 0 rfl)) ?_; clear T ac; intro ac T
 refine lq T (rn_max2 rfl evc (T.ev 0 rfl)) ?_; clear T ac; intro ac T
 refine l_q (v := (.int .i64 (max (-30) (min 30 tone)))) (T.pick [0, 1, 2, 3, 4, 6] rfl) rfl rfl rfl rfl (rn_assign rfl (T.ev 0 rfl)) ?_; clear T ac; intro ac T
 refine wpList_nil ?_
 replace T := T.pick [0, 4, 5, 6] rfl
 refine nm_then ?_
 refine wp_seq ?_
 refine wp_region_lit ?_
 refine lq T (rn_move rfl (T.ev 2 rfl)) ?_; clear T ac; intro ac T
 refine lq T (rn_move rfl (T.ev 1 rfl)) ?_; clear T ac; intro ac T
 refine lq T (rn_move rfl (T.ev 5 rfl)) ?_; clear T ac; intro ac T
 refine l_w rfl ?_; intro K hK
 refine ow_call (first := []) (cap := []) T rfl rfl rfl rfl evf (.cons (T.ev 2 rfl) (.cons (T.ev 1 rfl) (.cons evc (.cons evc (.cons (T.ev 0 rfl) .nil))))) Try.func63 rfl rfl ?_
 refine Calls.mono (near_pot _ bp (max (-30) (min 30 tone)) (-30) 30 wide _ (by omega) (by omega) (by omega) (by omega) (by omega) (by omega) (M.nth 1 rfl) hs) ?_
 clear T
 rintro e wc ⟨xu1, yu1, su1, hxu1, hsu1, rfl, hgr, hbk⟩
 intro ac T
 replace M := M.callC (cs' := [.int .u64 su1]) (.tail .head) hgr hbk
 clear hgr hbk
 refine sh_out hK _ _ ?_; clear hK K
 refine lq T (rn_move rfl (T.ev 6 rfl)) ?_; clear T ac; intro ac T
 refine lq T (rn_move rfl (T.ev 7 rfl)) ?_; clear T ac; intro ac T
 refine lq T (rn_move rfl (T.ev 8 rfl)) ?_; clear T ac; intro ac T
 refine l_w rfl ?_; intro K hK
 refine ow_call (first := []) (cap := []) T rfl rfl rfl rfl evf (.cons (T.ev 0 rfl) (.cons evc (.cons evc .nil))) Try.func19 rfl rfl ?_
 refine Calls.mono (within_pot _ bp (-2) 2 _ (by omega) (by omega) (by omega) (M.nth 1 rfl) hsu1) ?_
 clear T
 rintro e wc ⟨xu2, su2, hxu2, hsu2, rfl, hgr, hbk⟩
 intro ac T
 replace M := M.callC (cs' := [.int .u64 su2]) (.tail .head) hgr hbk
 clear hgr hbk
 refine sh_out hK _ _ ?_; clear hK K
 refine l_w rfl ?_; intro K hK
 refine ow_bs (e := 3) [.int .i64 0, .int .i64 0, .int .i64 xu2] M T rfl rfl rfl rfl (.cons evc (.cons evc (.cons (T.ev 0 rfl) .nil))) (fun _ => by kernel_rfl) ?_; clear M T; intro g2 wc ac M T
 refine sh_out hK _ _ ?_; clear hK K
 refine l_w rfl ?_; intro K hK
 refine ow_call (first := []) (cap := []) T rfl rfl rfl rfl evf (.cons (T.ev 3 rfl) (.cons (T.ev 0 rfl) .nil)) Try.func64 rfl rfl ?_
 refine Calls.mono (of_any _ bp _ 3 3 [0, 0, xu2] _ (M.rdOwn (nthE_mem (i := 0) rfl) rfl rfl) (M.nee 0 2 rfl rfl rfl) (by decide) (by decide) (M.nth 2 rfl) hsu2) ?_
 clear T
 rintro e wc ⟨xu3, su3, hxu3, hsu3, rfl, hgr, hbk⟩
 intro ac T
 replace M := M.callC (cs' := [.int .u64 su3]) (.tail (.tail .head)) hgr hbk
 clear hgr hbk
 simp only [List.mem_cons, List.not_mem_nil, or_false] at hxu3
 refine sh_out hK _ _ ?_; clear hK K
 refine lq T (rn_move rfl (T.ev 13 rfl)) ?_; clear T ac; intro ac T
 refine lq T (rn_min2 rfl (T.ev 0 rfl) evc) ?_; clear T ac; intro ac T
 refine l_w rfl ?_; intro K hK
 refine ow_call (first := []) (cap := []) T rfl rfl rfl rfl evf (.cons (T.ev 7 rfl) (.cons (T.ev 2 rfl) (.cons evc (.cons evc (.cons (T.ev 0 rfl) .nil))))) Try.func63 rfl rfl ?_
 refine Calls.mono (near_pot _ bp xu3 (-3) 3 (min wide 1) _ (by omega) (by omega) (by omega) (by omega) (by omega) (by omega) (M.nth 2 rfl) hsu3) ?_
 clear T
 rintro e wc ⟨xu4, yu4, su4, hxu4, hsu4, rfl, hgr, hbk⟩
 intro ac T
 replace M := M.callC (cs' := [.int .u64 su4]) (.tail (.tail .head)) hgr hbk
 clear hgr hbk
 refine sh_out hK _ _ ?_; clear hK K
 refine lq (v := (.agg #[.int .i64 xu1, .int .i64 yu1, .int .i64 xu4, .int .i64 yu4])) T (rn_build rfl (.cons (T.ev 9 rfl) (.cons (T.ev 0 rfl) .nil)) (fun _ => by kernel_rfl)) ?_; clear T ac; intro ac T
 refine l_w rfl ?_; intro K hK
 refine ow_stO M T rfl rfl (T.ev 15 rfl) (T.ev 0 rfl) rfl (.tail .head) rfl (by simp) rfl (by kernel_rfl) ?_; clear M T; intro wc ac M T
 refine sh_out hK _ _ ?_; clear hK K
 refine wpList_nil ?_
 replace T := T.pick [15] rfl
 replace M := M.mask [false, true, true] rfl
 refine nm_then ?_
 refine wp_ret ?_
 refine rt_c M T rfl (T.ev 0 rfl) (nthE_mem (i := 0) rfl) rfl ?_
 exact ⟨⟨xu1, yu1, xu4, yu4⟩, _, ⟨by (try dsimp only); omega, by (try dsimp only); omega⟩, hsu4, rfl, M.grown, M.nth 1 rfl⟩
end Go.Proofs.Ytlahdenlmmlplaa
end

section
/-
 kit: boxes out of a pot.
-/
namespace Go.Proofs.Ytlahdenlmmlplaa
set_option linter.unusedSimpArgs false
set_option linter.unusedVariables false
open Go.RowKit
theorem Mem.joinW {w0 w w' : World} {ex : Nat → Prop} {L L' I : List (Nat × BA)} {g : Nat} {p p' : BA} (M : Mem w0 ex w L) (hu : Upd L g p p' L') (N : Mem w (fun b => b = g) w' (I ++ [(g, p')])) : Mem w0 ex w' (I ++ L') := by
 have hg := M.blk _ hu.mem
 have hgl := BA.lt hg.2
 have hnd := N.nd
 rw [List.map_append] at hnd
 obtain ⟨n1, n2, n3⟩ := List.nodup_append.1 hnd
 have hI : ∀ q ∈ I, w.heap.size ≤ q.1 := fun q hq => by
   rcases (N.blk q (List.mem_append_left _ hq)).1 with h | h
   · exact h
   · exact absurd h (n3 q.1 (List.mem_map.2 ⟨q, hq, rfl⟩) g (by simp))
 refine ⟨N.os.trans M.os, N.tape.trans M.tape, N.output.trans M.output, Nat.le_trans M.size N.size, fun b hb hx => ?_, fun q hq => ?_, ?_⟩
 · refine (N.block b (Nat.lt_of_lt_of_le hb M.size) fun e => ?_).trans (M.block b hb hx)
   have e : b = g := e
   subst e
   rcases hg.1 with h | h
   · have h : w0.heap.size ≤ b := h
     omega
   · exact hx h
 · rcases List.mem_append.1 hq with hq | hq
   · exact ⟨.inl (Nat.le_trans M.size (hI q hq)), (N.blk q (List.mem_append_left _ hq)).2⟩
   · rcases hu.all M.nd q hq with rfl | ⟨h1, h2⟩
     · exact ⟨hg.1, (N.blk _ (List.mem_append_right _ List.mem_cons_self)).2⟩
     · have h3 := M.blk q h1
       exact ⟨h3.1, BA.same h3.2 N.size (N.block _ (BA.lt h3.2) h2)⟩
 · rw [List.map_append, hu.keys]
   refine List.nodup_append.2 ⟨n1, M.nd, fun a ha b hb e => ?_⟩
   obtain ⟨q, hq, rfl⟩ := List.mem_map.1 ha
   obtain ⟨r, hr, rfl⟩ := List.mem_map.1 hb
   have h1 := hI q hq
   have h2 := BA.lt (M.blk r hr).2
   omega
structure Bx.made (b : Bx) (lo hi : Int) : Prop where
 law : b.law.made 3
 note : 0 ≤ b.note ∧ b.note ≤ 3
 nlo : (b.lows.length : Int) ≤ lo
 nhi : (b.highs.length : Int) ≤ hi
 good : b.good
theorem boxMade {b : Bx} {j : Jb} {lo hi : Int} (hl : b.law.made 3) (hn : 0 ≤ b.note ∧ b.note ≤ 3) (hlo : (b.lows.length : Int) ≤ lo ∧ b.lows.length ≤ 4) (hhi : (b.highs.length : Int) ≤ hi ∧ b.highs.length ≤ 5) (gl : ∀ x ∈ b.lows, x.good) (gh : ∀ x ∈ b.highs, x.good) (hme : 0 ≤ b.me ∧ b.me ≤ 1)
   (hj : j.made 0 1) (e : b.t0 = j.t0 ∧ b.t1 = j.t1 ∧ b.r0 = j.r0 ∧ b.r1 = j.r1 ∧ b.u0 = j.u0 ∧ b.u1 = j.u1 ∧ b.d0 = j.d0 ∧ b.d1 = j.d1 ∧ b.a0 = j.a0 ∧ b.a1 = j.a1 ∧ b.b0 = j.b0 ∧ b.b1 = j.b1 ∧ b.le = j.le) : b.made lo hi := by
 have gj := hj.good
 have hs := step_bd (notes := 3) hl.step hn
 have h1 := hl.first
 have h2 := hl.step
 have h3 := hl.span
 have h4 := hl.press
 have h5 := mostD_bd 3
 dsimp only at h1 h2 h3 h4 hs
 refine ⟨hl, hn, hlo.1, hhi.1, ⟨⟨by dsimp only; omega, by dsimp only; omega, by dsimp only; omega, by dsimp only; omega⟩, by omega, by unfold Bx.due; omega, ⟨hlo.2, gl⟩, ⟨hhi.2, gh⟩, check_of_good ?_⟩⟩
 obtain ⟨e1, e2, e3, e4, e5, e6, e7, e8, e9, e10, e11, e12, e13⟩ := e
 have k1 := gj.t
 have k2 := gj.r
 have k3 := gj.u
 have k4 := gj.d
 have k5 := gj.a
 have k6 := gj.b
 have k7 := gj.le
 exact ⟨by show (-60 : Int) ≤ 0 ∧ (0 : Int) ≤ 0 ∧ (0 : Int) ≤ 60; omega, by show 0 ≤ b.t0 ∧ b.t0 ≤ b.t1 ∧ b.t1 ≤ 100; omega, by show 0 ≤ b.r0 ∧ b.r0 ≤ b.r1 ∧ b.r1 ≤ 100; omega, by show 0 ≤ b.u0 ∧ b.u0 ≤ b.u1 ∧ b.u1 ≤ 12; omega, by show 0 ≤ b.d0 ∧ b.d0 ≤ b.d1 ∧ b.d1 ≤ 12; omega, by show 0 ≤ b.a0 ∧ b.a0 ≤ b.a1 ∧ b.a1 ≤ 12; omega, by show 0 ≤ b.b0 ∧ b.b0 ≤ b.b1 ∧ b.b1 ≤ 12; omega, by show 0 ≤ b.le ∧ b.le ≤ 100; omega, by show ([] : List (Int × Int)).length ≤ 4; simp, fun p hp => (by cases hp), by show 0 ≤ b.span ∧ b.span ≤ 60; omega, by show 0 ≤ b.me ∧ b.me ≤ 6; omega⟩
def BoxOfPost (bp : Nat) (lo hi : Int) (w : World) (e : Ending) (w' : World) : Prop :=
 ∃ (b : Bx) (A : Option Addr) (c : Nat) (B : Option Addr) (d : Nat) (s : Int) (I : List (Nat × BA)), e = .returned (bxV b A c B d) ∧ b.made lo hi ∧ u64ok s ∧ (∃ b1 o1, ∀ (w : World) (ex : Nat → Prop), Sp w ex I A b.lows.length 4 b1 o1 (sc b.lows)) ∧ (∃ b1 o1, ∀ (w : World) (ex : Nat → Prop), Sp w ex I B b.highs.length 4 b1 o1 (sc b.highs)) ∧ Mem w (fun b => b = bp) w' (I ++ [(bp, .cells [.int .u64 s])])
set_option maxRecDepth 100000 in
set_option maxHeartbeats 1000000 in
theorem boxOf_any (s : Int) (bp : Nat) (nlo nhi wide : Int) (w : World) (hlo : 0 ≤ nlo ∧ nlo ≤ 40) (hhi : 0 ≤ nhi ∧ nhi ≤ 40) (hw : 0 ≤ wide ∧ wide ≤ 40) (hp : Bk w bp #[.int .u64 s]) (hs : u64ok s) :
   Calls Try.prog 18 #[.pointer (some ⟨bp, 0, none⟩), .int .i64 nlo, .int .i64 nhi, .int .i64 wide] w (BoxOfPost bp nlo nhi w) := by
 refine px_enter (fun b => b = bp) Try.func18 rfl 115 rfl [.pointer (some ⟨bp, 0, none⟩), .int .i64 nlo, .int .i64 nhi, .int .i64 wide] rfl rfl (Mem.initEx (p := .cells [.int .u64 s]) hp) ?_
 intro ac wc T M
 refine wp_seq ?_
 refine wp_region_lit ?_
 refine l_w rfl ?_; intro K hK
 refine ow_al M T rfl rfl rfl rfl ?_; clear M T; intro g1 wc ac M T
 refine sh_out hK _ _ ?_; clear hK K
 refine wpList_nil ?_
 refine nm_then ?_
 refine wp_seq ?_
 refine wp_region_lit ?_
 refine lq T (rn_move rfl (T.ev 1 rfl)) ?_; clear T ac; intro ac T
 refine l_w rfl ?_; intro K hK
 refine ow_call (first := []) (cap := []) T rfl rfl rfl rfl evf (.cons (T.ev 0 rfl) (.cons evc .nil)) Try.func51 rfl rfl ?_
 refine Calls.mono (lawOf_any _ bp 3 _ (by omega) (M.nth 1 rfl) hs) ?_
 clear T
 rintro e wc ⟨lu1, su1, hlu1, hsu1, rfl, hgr, hbk⟩
 intro ac T
 replace M := M.callC (cs' := [.int .u64 su1]) (.tail .head) hgr hbk
 clear hgr hbk
 have hlfu1 := hlu1.first
 have hlsu1 := hlu1.step
 have hlpu1 := hlu1.span
 have hlqu1 := hlu1.press
 have hmdu1 := mostD_bd 3
 refine sh_out hK _ _ ?_; clear hK K
 refine lq T (rn_move rfl (T.ev 3 rfl)) ?_; clear T ac; intro ac T
 refine l_w rfl ?_; intro K hK
 refine ow_call (first := []) (cap := []) T rfl rfl rfl rfl evf (.cons (T.ev 0 rfl) (.cons evc .nil)) Try.func39 rfl rfl ?_
 refine Calls.mono (upto_any _ bp 3 _ (by omega) (by omega) (M.nth 1 rfl) hsu1) ?_
 clear T
 rintro e wc ⟨xu2, su2, hxu2, hsu2, rfl, hgr, hbk⟩
 intro ac T
 replace M := M.callC (cs' := [.int .u64 su2]) (.tail .head) hgr hbk
 clear hgr hbk
 have hst := step_bd (notes := 3) (k := xu2) hlu1.step (by omega)
 refine sh_out hK _ _ ?_; clear hK K
 refine lq T (rn_move rfl (T.ev 5 rfl)) ?_; clear T ac; intro ac T
 refine l_w rfl ?_; intro K hK
 refine ow_call (first := []) (cap := []) T rfl rfl rfl rfl evf (.cons (T.ev 0 rfl) (.cons evc .nil)) Try.func39 rfl rfl ?_
 refine Calls.mono (upto_any _ bp 1 _ (by omega) (by omega) (M.nth 1 rfl) hsu2) ?_
 clear T
 rintro e wc ⟨xu3, su3, hxu3, hsu3, rfl, hgr, hbk⟩
 intro ac T
 replace M := M.callC (cs' := [.int .u64 su3]) (.tail .head) hgr hbk
 clear hgr hbk
 refine sh_out hK _ _ ?_; clear hK K
 refine lq (v := (.agg #[.int .i64 lu1.first, .int .i64 lu1.step, .int .i64 lu1.span, .int .i64 lu1.press, .int .i64 xu2, .slice none 0 0, .slice none 0 0, .int .i64 0, .int .i64 0, .int .i64 0, .int .i64 0, .int .i64 0, .int .i64 0, .int .i64 0, .int .i64 0, .int .i64 0, .int .i64 0, .int .i64 0, .int .i64 0, .int .i64 0, .int .i64 xu3])) T (rn_build rfl (.cons (T.ev 4 rfl) (.cons (T.ev 2 rfl) (.cons (T.ev 0 rfl) .nil))) (fun _ => by kernel_rfl)) ?_; clear T ac; intro ac T
 refine l_w rfl ?_; intro K hK
 refine ow_al M T rfl rfl rfl rfl ?_; clear M T; intro g2 wc ac M T
 refine sh_out hK _ _ ?_; clear hK K
 refine l_w rfl ?_; intro K hK
 refine ow_stO M T rfl rfl (T.ev 0 rfl) (T.ev 1 rfl) rfl .head rfl (by simp) rfl (by kernel_rfl) ?_; clear M T; intro wc ac M T
 refine sh_out hK _ _ ?_; clear hK K
 refine wpList_nil ?_
 replace T := T.pick [0, 8, 9, 10, 11, 12] rfl
 refine nm_then ?_
 refine wp_seq ?_
 refine wp_region_lit ?_
 refine lq (v := (.pointer (some ⟨g2, 0, none⟩))) T (rn_fieldAddr (off := 0) rfl (T.ev 0 rfl) (fun _ _ _ => by kernel_rfl)) ?_; clear T ac; intro ac T
 refine lq (v := (.pointer (some ⟨g2, 0, none⟩))) T (rn_fieldAddr (off := 0) rfl (T.ev 0 rfl) (fun _ _ _ => by kernel_rfl)) ?_; clear T ac; intro ac T
 refine lq T (rn_one (Mem.nth M 0 rfl) rfl (T.ev 0 rfl) rfl) ?_; clear T ac; intro ac T
 refine lq (v := (.pointer (some ⟨g2, 0, none⟩))) T (rn_fieldAddr (off := 0) rfl (T.ev 3 rfl) (fun _ _ _ => by kernel_rfl)) ?_; clear T ac; intro ac T
 refine lq (v := (.pointer (some ⟨g2, 1, none⟩))) T (rn_fieldAddr (off := 1) rfl (T.ev 0 rfl) (fun _ _ _ => by kernel_rfl)) ?_; clear T ac; intro ac T
 refine lq T (rn_one (Mem.nth M 0 rfl) rfl (T.ev 0 rfl) rfl) ?_; clear T ac; intro ac T
 refine lq (v := (.pointer (some ⟨g2, 4, none⟩))) T (rn_fieldAddr (off := 4) rfl (T.ev 6 rfl) (fun _ _ _ => by kernel_rfl)) ?_; clear T ac; intro ac T
 refine lq T (rn_one (Mem.nth M 0 rfl) rfl (T.ev 0 rfl) rfl) ?_; clear T ac; intro ac T
 refine lq T (rn_mul rfl (T.ev 2 rfl) (T.ev 0 rfl) (by omega)) ?_; clear T ac; intro ac T
 refine lq T (rn_add rfl (T.ev 6 rfl) (T.ev 0 rfl) (by omega)) ?_; clear T ac; intro ac T
 refine lq T (rn_assign rfl (T.ev 0 rfl)) ?_; clear T ac; intro ac T
 refine wpList_nil ?_
 replace T := T.pick [0, 11, 12, 13, 14, 15, 16] rfl
 refine nm_then ?_
 refine wp_seq ?_
 refine wp_region_lit ?_
 refine lq T (rn_assign rfl evc) ?_; clear T ac; intro ac T
 refine wpList_nil ?_
 refine nm_then ?_
 refine wp_seq ?_
 refine wp_seq ?_
 refine wp_region_lit ?_
 refine lq T (rn_move rfl (T.ev 4 rfl)) ?_; clear T ac; intro ac T
 refine lq T (rn_move rfl (T.ev 6 rfl)) ?_; clear T ac; intro ac T
 refine lq T (rn_min2 rfl (T.ev 0 rfl) evc) ?_; clear T ac; intro ac T
 refine l_w rfl ?_; intro K hK
 refine ow_call (first := []) (cap := []) T rfl rfl rfl rfl evf (.cons (T.ev 2 rfl) (.cons (T.ev 0 rfl) .nil)) Try.func39 rfl rfl ?_
 refine Calls.mono (upto_any _ bp (min nlo 4) _ (by omega) (by omega) (M.nth 2 rfl) hsu3) ?_
 clear T
 rintro e wc ⟨xu4, su4, hxu4, hsu4, rfl, hgr, hbk⟩
 intro ac T
 replace M := M.callC (cs' := [.int .u64 su4]) (.tail (.tail .head)) hgr hbk
 clear hgr hbk
 refine sh_out hK _ _ ?_; clear hK K
 refine lq T (rn_assign rfl (T.ev 0 rfl)) ?_; clear T ac; intro ac T
 refine wpList_nil ?_
 replace T := T.pick [0, 5, 6, 7, 8, 9, 11, 12] rfl
 refine nm_then ?_
 refine wp_block ?_
 refine wp_loop_n (fun mz ac wc => ∃ (i : Int) (ol : List Snd) (A3 : Option Addr) (c3 : Nat) (tn : List Int) (A4 : Option Addr) (c4 : Nat) (s : Int) (Ii Io : List (Nat × BA)), mz = i.toNat ∧ (0 ≤ i) ∧ ((ol.length : Int) + i = xu4) ∧ (tn.length = ol.length) ∧ (∀ z ∈ ol, z.good) ∧ (∀ z ∈ tn, -6 ≤ z ∧ z ≤ 6) ∧ (u64ok s) ∧ (Sl 48 4 (.slice A3 ol.length c3) ol.length (sc ol) Io) ∧ (Sl 3 1 (.slice A4 tn.length c4) tn.length (ic tn) Ii) ∧ Tm ac 115 [(0, .pointer (some ⟨bp, 0, none⟩)), (2, .int .i64 nhi), (3, .int .i64 wide), (8, .pointer (some ⟨g1, 0, none⟩)), (9, .pointer (some ⟨g2, 0, none⟩)), (10, .int .i64 (lu1.first + (lu1.step * xu2))), (11, .slice A4 tn.length c4), (12, .int .i64 i)] ∧ Mem w (fun b => b = bp) wc ((g2, .cells [.int .i64 lu1.first, .int .i64 lu1.step, .int .i64 lu1.span, .int .i64 lu1.press, .int .i64 xu2, .slice A3 ol.length c3, .slice none 0 0, .int .i64 0, .int .i64 0, .int .i64 0, .int .i64 0, .int .i64 0, .int .i64 0, .int .i64 0, .int .i64 0, .int .i64 0, .int .i64 0, .int .i64 0, .int .i64 0, .int .i64 0, .int .i64 xu3]) :: (g1, .cells [.int .i64 0, .int .i64 0, .int .i64 0, .int .i64 0, .int .i64 0, .slice none 0 0, .slice none 0 0, .int .i64 0, .int .i64 0, .int .i64 0, .int .i64 0, .int .i64 0, .int .i64 0, .int .i64 0, .int .i64 0, .int .i64 0, .int .i64 0, .int .i64 0, .int .i64 0, .int .i64 0, .int .i64 0]) :: (bp, .cells [.int .u64 s]) :: (Ii ++ Io))) ?_ ?_
 ·exact ⟨_, _, [], none, 0, [], none, 0, _, [], [], rfl, (by omega), (by simp), rfl, (fun z hz => by cases hz), (fun z hz => by cases hz), hsu4, (Sl.nil _ _), (Sl.nil _ _), T.pick [5, 6, 7, 4, 3, 2, 1, 0] rfl, M.mask [true, true, true] rfl⟩
 clear T M
 rintro mz ac wc ⟨i, ol, A3, c3, tn, A4, c4, s, Ii, Io, hmm1, hi, hol, htl, hgo, htn, hs, hsl, hsm, T, M⟩
 refine wp_seq ?_
 refine wp_seq ?_
 refine wp_region_lit ?_
 refine lq T (rn_move rfl (T.ev 7 rfl)) ?_; clear T ac; intro ac T
 refine lq T (rn_gtr rfl (T.ev 0 rfl) evc) ?_; clear T ac; intro ac T
 refine wpList_nil ?_
 replace T := T.pick [0, 2, 3, 4, 5, 6, 7, 8, 9] rfl
 refine nm_then ?_
 refine wp_if (T.ev 0 rfl) ?_ ?_
 ·intro h1
  refine wp_skip ?_
  refine nm_then ?_
  refine wp_seq ?_
  refine wp_block ?_
  refine wp_seq ?_
  refine wp_region_lit ?_
  refine lq T (rn_move rfl (T.ev 1 rfl)) ?_; clear T ac; intro ac T
  refine l_w rfl ?_; intro K hK
  refine ow_call (first := []) (cap := []) T rfl rfl rfl rfl evf (.cons (T.ev 0 rfl) (.cons evc (.cons evc .nil))) Try.func19 rfl rfl ?_
  refine Calls.mono (within_pot _ bp (-6) 6 _ (by omega) (by omega) (by omega) (M.nth 2 rfl) hs) ?_
  clear T
  rintro e wc ⟨xu5, su5, hxu5, hsu5, rfl, hgr, hbk⟩
  intro ac T
  replace M := M.callC (cs' := [.int .u64 su5]) (.tail (.tail .head)) hgr hbk
  clear hgr hbk
  refine sh_out hK _ _ ?_; clear hK K
  refine lq T (rn_assign rfl (T.ev 0 rfl)) ?_; clear T ac; intro ac T
  refine wpList_nil ?_
  replace T := T.pick [0, 4, 5, 6, 7, 8, 9, 10, 11] rfl
  refine nm_then ?_
  refine g_start2 M (M.perm [1] rfl rfl) 15 (by kernel_rfl) rfl (by kernel_rfl) ?_
  clear M; intro wc M
  refine g_addG 5 (M.perm [0, 1, 2] rfl rfl) ?_
  refine g_addG 13 (M.perm [0, 1] rfl rfl) ?_
  refine gq (v := (.pointer (some ⟨g2, 5, none⟩))) T 0 1 rfl (fun _ _ _ _ _ => (rn_fieldAddr (off := 5) rfl (T.ev 5 rfl) (fun _ _ _ => by kernel_rfl))) ?_; clear T ac; intro ac T
  refine gq T 1 3 rfl (fun B w' hD hl hS => (rn_one (Mem.nth (show Mem w (fun b => b = bp) w' _ from ((MA.lft hS) (hD.wait (i := 1) (m := 13) (by kernel_rfl) hl))) 0 rfl) rfl (T.ev 0 rfl) rfl)) ?_; clear T ac; intro ac T
  refine gq T 2 7 rfl (fun _ _ _ _ _ => (rn_move rfl (T.ev 3 rfl))) ?_; clear T ac; intro ac T
  refine gq T 3 15 rfl (fun _ _ _ _ _ => (rn_move rfl (T.ev 3 rfl))) ?_; clear T ac; intro ac T
  refine gq T 4 31 rfl (fun _ _ _ _ _ => (rn_move rfl (T.ev 7 rfl))) ?_; clear T ac; intro ac T
  refine gq T 8 287 rfl (fun _ _ _ _ _ => (rn_move rfl (T.ev 12 rfl))) ?_; clear T ac; intro ac T
  refine gq T 9 799 rfl (fun _ _ _ _ _ => (rn_move rfl (T.ev 6 rfl))) ?_; clear T ac; intro ac T
  refine g_m2 (i := 5) (j := 10) (by kernel_rfl) ?_ ?_
  ·refine gi 831 ?_; intro K hK
   refine ow_call (first := []) (cap := []) T rfl rfl rfl rfl evf (.cons (T.ev 4 rfl) (.cons (T.ev 3 rfl) (.cons (T.ev 2 rfl) .nil))) Try.func20 rfl rfl ?_
   refine Calls.mono (soundOf_any _ bp xu5 wide _ (by omega) (by omega) (M.nth 2 rfl) hsu5) ?_
   clear T
   rintro e wc ⟨xur8_5, sur8_5, hxur8_5, hsur8_5, rfl, hgr, hbk⟩
   intro ac T
   replace M := M.callC (cs' := [.int .u64 sur8_5]) (.tail (.tail .head)) hgr hbk
   clear hgr hbk
   refine sh_out hK _ _ (MA.mk (fun _ => M.perm [0, 1] rfl rfl) (MA.mk (fun h => (no_of (by kernel_rfl) h).elim) (M.perm [1] rfl rfl))) ?_; clear hK K
   refine g_m2 (i := 6) (j := 10) (by kernel_rfl) ?_ ?_
   ·refine gi 895 ?_; intro K hK
    refine ow_bs (e := 48) [.int .i64 xur8_5.t0, .int .i64 xur8_5.t1, .int .i64 xur8_5.s0, .int .i64 xur8_5.s1] M T rfl rfl rfl rfl (.cons (T.ev 0 rfl) .nil) (fun _ => by kernel_rfl) ?_; clear M T; intro gr8_6 wc ac M T
    refine sh_out hK _ _ (MA.mk (fun _ => M.perm [1, 2] rfl rfl) (MA.mk (fun h => (no_of (by kernel_rfl) h).elim) (M.perm [2] rfl rfl))) ?_; clear hK K
    refine g_m2 (i := 7) (j := 10) (by kernel_rfl) ?_ ?_
    ·refine gi 1023 ?_; intro K hK
     refine ow_app (((gr8_6, .cells [.int .i64 xur8_5.t0, .int .i64 xur8_5.t1, .int .i64 xur8_5.s0, .int .i64 xur8_5.s1]) :: (g2, .cells [.int .i64 lu1.first, .int .i64 lu1.step, .int .i64 lu1.span, .int .i64 lu1.press, .int .i64 xu2, .slice A3 ol.length c3, .slice none 0 0, .int .i64 0, .int .i64 0, .int .i64 0, .int .i64 0, .int .i64 0, .int .i64 0, .int .i64 0, .int .i64 0, .int .i64 0, .int .i64 0, .int .i64 0, .int .i64 0, .int .i64 0, .int .i64 xu3]) :: (g1, .cells [.int .i64 0, .int .i64 0, .int .i64 0, .int .i64 0, .int .i64 0, .slice none 0 0, .slice none 0 0, .int .i64 0, .int .i64 0, .int .i64 0, .int .i64 0, .int .i64 0, .int .i64 0, .int .i64 0, .int .i64 0, .int .i64 0, .int .i64 0, .int .i64 0, .int .i64 0, .int .i64 0, .int .i64 0]) :: (bp, .cells [.int .u64 sur8_5]) :: Ii)) Try.info48 hsl M (by first | rfl | simp) T rfl rfl rfl rfl Try.underlying38 rfl rfl rfl (by omega) (T.ev 7 rfl) (T.ev 0 rfl) (nthE_mem (i := 0) rfl) rfl rfl ?_; clear M T; intro ga1 cga1 wc ac M T
     refine sh_out hK _ _ (MA.mk (fun _ => M.perm [2, 3] rfl rfl) (MA.mk (fun h => (no_of (by kernel_rfl) h).elim) (M.perm [3] rfl rfl))) ?_; clear hK K
     refine gq (v := (.pointer (some ⟨g2, 5, none⟩))) T 12 5119 rfl (fun _ _ _ _ _ => (rn_fieldAddr (off := 5) rfl (T.ev 15 rfl) (fun _ _ _ => by kernel_rfl))) ?_; clear T ac; intro ac T
     refine gw 10 6143 ?_; intro K hK
     refine ow_bs (e := 3) [.int .i64 xu5] M T rfl rfl rfl rfl (.cons (T.ev 4 rfl) .nil) (fun _ => by kernel_rfl) ?_; clear M T; intro gr8_10 wc ac M T
     refine sh_out hK _ _ (MA.mk (fun _ => M.perm [3, 4] rfl rfl) (MA.mk (fun h => (no_of (by kernel_rfl) h).elim) (M.perm [4] rfl rfl))) ?_; clear hK K
     refine gw 11 8191 ?_; intro K hK
     refine ow_app ([(gr8_10, .cells [.int .i64 xu5]), (ga1, .row 48 4 (ol.length + 1) ((sc ol) ++ [.int .i64 xur8_5.t0, .int .i64 xur8_5.t1, .int .i64 xur8_5.s0, .int .i64 xur8_5.s1]) cga1), (gr8_6, .cells [.int .i64 xur8_5.t0, .int .i64 xur8_5.t1, .int .i64 xur8_5.s0, .int .i64 xur8_5.s1]), (g2, .cells [.int .i64 lu1.first, .int .i64 lu1.step, .int .i64 lu1.span, .int .i64 lu1.press, .int .i64 xu2, .slice A3 ol.length c3, .slice none 0 0, .int .i64 0, .int .i64 0, .int .i64 0, .int .i64 0, .int .i64 0, .int .i64 0, .int .i64 0, .int .i64 0, .int .i64 0, .int .i64 0, .int .i64 0, .int .i64 0, .int .i64 0, .int .i64 xu3]), (g1, .cells [.int .i64 0, .int .i64 0, .int .i64 0, .int .i64 0, .int .i64 0, .slice none 0 0, .slice none 0 0, .int .i64 0, .int .i64 0, .int .i64 0, .int .i64 0, .int .i64 0, .int .i64 0, .int .i64 0, .int .i64 0, .int .i64 0, .int .i64 0, .int .i64 0, .int .i64 0, .int .i64 0, .int .i64 0]), (bp, .cells [.int .u64 sur8_5])]) Try.info3 hsm M (by first | rfl | simp) T rfl rfl rfl rfl Try.underlying22 rfl rfl rfl (by omega) (T.ev 6 rfl) (T.ev 0 rfl) (nthE_mem (i := 0) rfl) rfl rfl ?_; clear M T; intro ga2 cga2 wc ac M T
     refine sh_out hK _ _ (MA.mk (fun _ => M.mask [false, false, false, false, true, true, false] rfl) (MA.mk (fun h => (no_of (by kernel_rfl) h).elim) (M.mask [false, false, false, false, false, true, false] rfl))) ?_; clear hK K
     refine gw 13 16383 ?_; intro K hK
     refine ow_stO M T rfl rfl (T.ev 2 rfl) (T.ev 3 rfl) rfl (.tail (.tail (.tail (.tail .head)))) rfl (by simp) rfl (by kernel_rfl) ?_; clear M T; intro wc ac M T
     refine sh_out hK _ _ (MA.mk (fun h => (no_of (by kernel_rfl) h).elim) (MA.mk (fun h => (no_of (by kernel_rfl) h).elim) (M.mask [false, false, false, false, false, true, false] rfl))) ?_; clear hK K
     refine g_q (v := (.slice (some ⟨ga2, 0, none⟩) (tn.length + 1) cga2)) (T := T.pick [0, 1, 2, 3, 4, 5, 6, 7, 8, 9, 10, 11, 12, 13, 14, 15, 16, 17, 18, 19, 21] rfl) (i := 14) rfl (by kernel_rfl) (by kernel_rfl : (pbits 15 16383).setIfInBounds 14 true = pbits 15 32767) (si_and (si_G rfl) (si_and (si_G rfl) si_U)) (fun _ _ _ h => h) rfl rfl rfl rfl (fun _ _ _ _ _ => (rn_assign rfl (T.ev 0 rfl))) ?_; clear T ac; intro ac T
     refine g_done (by kernel_rfl) ?_
     replace T := T.pick [0, 15, 16, 17, 18, 19, 20, 21] rfl
     replace M := M.mask [true, false, true, false, true, true, true] rfl
     refine nm_blk ?_
     refine nm_then ?_
     refine wp_region_lit ?_
     refine lq T (rn_move rfl (T.ev 7 rfl)) ?_; clear T ac; intro ac T
     refine lq T (rn_sub rfl (T.ev 0 rfl) evc (by omega)) ?_; clear T ac; intro ac T
     refine l_q (v := (.int .i64 (i - 1))) (T.pick [0, 1, 2, 3, 4, 5, 6, 7, 8] rfl) rfl rfl rfl rfl (rn_assign rfl (T.ev 0 rfl)) ?_; clear T ac; intro ac T
     refine wpList_nil ?_
     replace T := T.pick [0, 3, 4, 5, 6, 7, 8, 9] rfl
     refine nm_then ?_
     have e9a : ol.length + 1 = (ol ++ [xur8_5]).length := by simp
     have e8a : ((sc ol) ++ [.int .i64 xur8_5.t0, .int .i64 xur8_5.t1, .int .i64 xur8_5.s0, .int .i64 xur8_5.s1]) = sc (ol ++ [xur8_5]) := by rw [← sc_snoc]
     rw [e9a, e8a] at M
     (try rw [e9a] at T)
     have e9b : tn.length + 1 = (tn ++ [xu5]).length := by simp
     have e8b : ((ic tn) ++ [.int .i64 xu5]) = ic (tn ++ [xu5]) := by rw [← ic_snoc]
     rw [e9b, e8b] at M
     (try rw [e9b] at T)
     exact ⟨_, by omega, (i - 1), (ol ++ [xur8_5]), _, _, (tn ++ [xu5]), _, _, sur8_5, [(ga2, .row 3 1 (tn ++ [xu5]).length (ic (tn ++ [xu5])) cga2)], [(ga1, .row 48 4 (ol ++ [xur8_5]).length (sc (ol ++ [xur8_5])) cga1)], rfl, (by omega), (by simp only [List.length_append, List.length_cons, List.length_nil]; omega), (by simp only [List.length_append, List.length_cons, List.length_nil]; omega), (fun z hz => by rcases List.mem_append.1 hz with h9 | h9; exact hgo z h9; simp only [List.mem_cons, List.not_mem_nil, or_false] at h9; subst h9; exact hxur8_5), (fun z hz => by rcases List.mem_append.1 hz with h9 | h9; exact htn z h9; simp only [List.mem_cons, List.not_mem_nil, or_false] at h9; subst h9; omega), hsur8_5, (Sl.row _ _ _ _ _ _), (Sl.row _ _ _ _ _ _), T.pick [2, 3, 4, 5, 6, 7, 1, 0] rfl, M.perm [2, 3, 4, 0, 1] rfl rfl⟩
    refine gi 1919 ?_; intro K hK
    refine ow_bs (e := 3) [.int .i64 xu5] M T rfl rfl rfl rfl (.cons (T.ev 2 rfl) .nil) (fun _ => by kernel_rfl) ?_; clear M T; intro gr8_10 wc ac M T
    refine sh_out hK _ _ (MA.mk (fun _ => M.perm [2, 3] rfl rfl) (MA.mk (fun h => (no_of (by kernel_rfl) h).elim) (M.perm [3] rfl rfl))) ?_; clear hK K
    refine gw 7 2047 ?_; intro K hK
    refine ow_app (((gr8_10, .cells [.int .i64 xu5]) :: (gr8_6, .cells [.int .i64 xur8_5.t0, .int .i64 xur8_5.t1, .int .i64 xur8_5.s0, .int .i64 xur8_5.s1]) :: (g2, .cells [.int .i64 lu1.first, .int .i64 lu1.step, .int .i64 lu1.span, .int .i64 lu1.press, .int .i64 xu2, .slice A3 ol.length c3, .slice none 0 0, .int .i64 0, .int .i64 0, .int .i64 0, .int .i64 0, .int .i64 0, .int .i64 0, .int .i64 0, .int .i64 0, .int .i64 0, .int .i64 0, .int .i64 0, .int .i64 0, .int .i64 0, .int .i64 xu3]) :: (g1, .cells [.int .i64 0, .int .i64 0, .int .i64 0, .int .i64 0, .int .i64 0, .slice none 0 0, .slice none 0 0, .int .i64 0, .int .i64 0, .int .i64 0, .int .i64 0, .int .i64 0, .int .i64 0, .int .i64 0, .int .i64 0, .int .i64 0, .int .i64 0, .int .i64 0, .int .i64 0, .int .i64 0, .int .i64 0]) :: (bp, .cells [.int .u64 sur8_5]) :: Ii)) Try.info48 hsl M (by first | rfl | simp) T rfl rfl rfl rfl Try.underlying38 rfl rfl rfl (by omega) (T.ev 8 rfl) (T.ev 1 rfl) (nthE_mem (i := 1) rfl) rfl rfl ?_; clear M T; intro ga3 cga3 wc ac M T
    refine sh_out hK _ _ (MA.mk (fun _ => M.perm [3, 4] rfl rfl) (MA.mk (fun h => (no_of (by kernel_rfl) h).elim) (M.perm [4] rfl rfl))) ?_; clear hK K
    refine gq (v := (.pointer (some ⟨g2, 5, none⟩))) T 12 6143 rfl (fun _ _ _ _ _ => (rn_fieldAddr (off := 5) rfl (T.ev 16 rfl) (fun _ _ _ => by kernel_rfl))) ?_; clear T ac; intro ac T
    refine gw 11 8191 ?_; intro K hK
    refine ow_app ([(ga3, .row 48 4 (ol.length + 1) ((sc ol) ++ [.int .i64 xur8_5.t0, .int .i64 xur8_5.t1, .int .i64 xur8_5.s0, .int .i64 xur8_5.s1]) cga3), (gr8_10, .cells [.int .i64 xu5]), (gr8_6, .cells [.int .i64 xur8_5.t0, .int .i64 xur8_5.t1, .int .i64 xur8_5.s0, .int .i64 xur8_5.s1]), (g2, .cells [.int .i64 lu1.first, .int .i64 lu1.step, .int .i64 lu1.span, .int .i64 lu1.press, .int .i64 xu2, .slice A3 ol.length c3, .slice none 0 0, .int .i64 0, .int .i64 0, .int .i64 0, .int .i64 0, .int .i64 0, .int .i64 0, .int .i64 0, .int .i64 0, .int .i64 0, .int .i64 0, .int .i64 0, .int .i64 0, .int .i64 0, .int .i64 xu3]), (g1, .cells [.int .i64 0, .int .i64 0, .int .i64 0, .int .i64 0, .int .i64 0, .slice none 0 0, .slice none 0 0, .int .i64 0, .int .i64 0, .int .i64 0, .int .i64 0, .int .i64 0, .int .i64 0, .int .i64 0, .int .i64 0, .int .i64 0, .int .i64 0, .int .i64 0, .int .i64 0, .int .i64 0, .int .i64 0]), (bp, .cells [.int .u64 sur8_5])]) Try.info3 hsm M (by first | rfl | simp) T rfl rfl rfl rfl Try.underlying22 rfl rfl rfl (by omega) (T.ev 6 rfl) (T.ev 2 rfl) (nthE_mem (i := 1) rfl) rfl rfl ?_; clear M T; intro ga4 cga4 wc ac M T
    refine sh_out hK _ _ (MA.mk (fun _ => M.mask [false, false, false, false, true, true, false] rfl) (MA.mk (fun h => (no_of (by kernel_rfl) h).elim) (M.mask [false, false, false, false, false, true, false] rfl))) ?_; clear hK K
    refine gw 13 16383 ?_; intro K hK
    refine ow_stO M T rfl rfl (T.ev 1 rfl) (T.ev 2 rfl) rfl (.tail (.tail (.tail (.tail .head)))) rfl (by simp) rfl (by kernel_rfl) ?_; clear M T; intro wc ac M T
    refine sh_out hK _ _ (MA.mk (fun h => (no_of (by kernel_rfl) h).elim) (MA.mk (fun h => (no_of (by kernel_rfl) h).elim) (M.mask [false, false, false, false, false, true, false] rfl))) ?_; clear hK K
    refine g_q (v := (.slice (some ⟨ga4, 0, none⟩) (tn.length + 1) cga4)) (T := T.pick [0, 1, 2, 3, 4, 5, 6, 7, 8, 9, 10, 11, 12, 13, 14, 15, 16, 17, 18, 19, 21] rfl) (i := 14) rfl (by kernel_rfl) (by kernel_rfl : (pbits 15 16383).setIfInBounds 14 true = pbits 15 32767) (si_and (si_G rfl) (si_and (si_G rfl) si_U)) (fun _ _ _ h => h) rfl rfl rfl rfl (fun _ _ _ _ _ => (rn_assign rfl (T.ev 0 rfl))) ?_; clear T ac; intro ac T
    refine g_done (by kernel_rfl) ?_
    replace T := T.pick [0, 15, 16, 17, 18, 19, 20, 21] rfl
    replace M := M.mask [true, true, false, false, true, true, true] rfl
    refine nm_blk ?_
    refine nm_then ?_
    refine wp_region_lit ?_
    refine lq T (rn_move rfl (T.ev 7 rfl)) ?_; clear T ac; intro ac T
    refine lq T (rn_sub rfl (T.ev 0 rfl) evc (by omega)) ?_; clear T ac; intro ac T
    refine l_q (v := (.int .i64 (i - 1))) (T.pick [0, 1, 2, 3, 4, 5, 6, 7, 8] rfl) rfl rfl rfl rfl (rn_assign rfl (T.ev 0 rfl)) ?_; clear T ac; intro ac T
    refine wpList_nil ?_
    replace T := T.pick [0, 3, 4, 5, 6, 7, 8, 9] rfl
    refine nm_then ?_
    have e9a : ol.length + 1 = (ol ++ [xur8_5]).length := by simp
    have e8a : ((sc ol) ++ [.int .i64 xur8_5.t0, .int .i64 xur8_5.t1, .int .i64 xur8_5.s0, .int .i64 xur8_5.s1]) = sc (ol ++ [xur8_5]) := by rw [← sc_snoc]
    rw [e9a, e8a] at M
    (try rw [e9a] at T)
    have e9b : tn.length + 1 = (tn ++ [xu5]).length := by simp
    have e8b : ((ic tn) ++ [.int .i64 xu5]) = ic (tn ++ [xu5]) := by rw [← ic_snoc]
    rw [e9b, e8b] at M
    (try rw [e9b] at T)
    exact ⟨_, by omega, (i - 1), (ol ++ [xur8_5]), _, _, (tn ++ [xu5]), _, _, sur8_5, [(ga4, .row 3 1 (tn ++ [xu5]).length (ic (tn ++ [xu5])) cga4)], [(ga3, .row 48 4 (ol ++ [xur8_5]).length (sc (ol ++ [xur8_5])) cga3)], rfl, (by omega), (by simp only [List.length_append, List.length_cons, List.length_nil]; omega), (by simp only [List.length_append, List.length_cons, List.length_nil]; omega), (fun z hz => by rcases List.mem_append.1 hz with h9 | h9; exact hgo z h9; simp only [List.mem_cons, List.not_mem_nil, or_false] at h9; subst h9; exact hxur8_5), (fun z hz => by rcases List.mem_append.1 hz with h9 | h9; exact htn z h9; simp only [List.mem_cons, List.not_mem_nil, or_false] at h9; subst h9; omega), hsur8_5, (Sl.row _ _ _ _ _ _), (Sl.row _ _ _ _ _ _), T.pick [2, 3, 4, 5, 6, 7, 1, 0] rfl, M.perm [2, 3, 4, 0, 1] rfl rfl⟩
   refine gi 1855 ?_; intro K hK
   refine ow_bs (e := 3) [.int .i64 xu5] M T rfl rfl rfl rfl (.cons (T.ev 1 rfl) .nil) (fun _ => by kernel_rfl) ?_; clear M T; intro gr8_10 wc ac M T
   refine sh_out hK _ _ (MA.mk (fun _ => M.perm [1, 2] rfl rfl) (MA.mk (fun h => (no_of (by kernel_rfl) h).elim) (M.perm [2] rfl rfl))) ?_; clear hK K
   refine gw 6 1919 ?_; intro K hK
   refine ow_bs (e := 48) [.int .i64 xur8_5.t0, .int .i64 xur8_5.t1, .int .i64 xur8_5.s0, .int .i64 xur8_5.s1] M T rfl rfl rfl rfl (.cons (T.ev 1 rfl) .nil) (fun _ => by kernel_rfl) ?_; clear M T; intro gr8_6 wc ac M T
   refine sh_out hK _ _ (MA.mk (fun _ => M.perm [2, 3] rfl rfl) (MA.mk (fun h => (no_of (by kernel_rfl) h).elim) (M.perm [3] rfl rfl))) ?_; clear hK K
   refine gw 7 2047 ?_; intro K hK
   refine ow_app (((gr8_6, .cells [.int .i64 xur8_5.t0, .int .i64 xur8_5.t1, .int .i64 xur8_5.s0, .int .i64 xur8_5.s1]) :: (gr8_10, .cells [.int .i64 xu5]) :: (g2, .cells [.int .i64 lu1.first, .int .i64 lu1.step, .int .i64 lu1.span, .int .i64 lu1.press, .int .i64 xu2, .slice A3 ol.length c3, .slice none 0 0, .int .i64 0, .int .i64 0, .int .i64 0, .int .i64 0, .int .i64 0, .int .i64 0, .int .i64 0, .int .i64 0, .int .i64 0, .int .i64 0, .int .i64 0, .int .i64 0, .int .i64 0, .int .i64 xu3]) :: (g1, .cells [.int .i64 0, .int .i64 0, .int .i64 0, .int .i64 0, .int .i64 0, .slice none 0 0, .slice none 0 0, .int .i64 0, .int .i64 0, .int .i64 0, .int .i64 0, .int .i64 0, .int .i64 0, .int .i64 0, .int .i64 0, .int .i64 0, .int .i64 0, .int .i64 0, .int .i64 0, .int .i64 0, .int .i64 0]) :: (bp, .cells [.int .u64 sur8_5]) :: Ii)) Try.info48 hsl M (by first | rfl | simp) T rfl rfl rfl rfl Try.underlying38 rfl rfl rfl (by omega) (T.ev 8 rfl) (T.ev 0 rfl) (nthE_mem (i := 0) rfl) rfl rfl ?_; clear M T; intro ga5 cga5 wc ac M T
   refine sh_out hK _ _ (MA.mk (fun _ => M.perm [3, 4] rfl rfl) (MA.mk (fun h => (no_of (by kernel_rfl) h).elim) (M.perm [4] rfl rfl))) ?_; clear hK K
   refine gq (v := (.pointer (some ⟨g2, 5, none⟩))) T 12 6143 rfl (fun _ _ _ _ _ => (rn_fieldAddr (off := 5) rfl (T.ev 16 rfl) (fun _ _ _ => by kernel_rfl))) ?_; clear T ac; intro ac T
   refine gw 11 8191 ?_; intro K hK
   refine ow_app ([(ga5, .row 48 4 (ol.length + 1) ((sc ol) ++ [.int .i64 xur8_5.t0, .int .i64 xur8_5.t1, .int .i64 xur8_5.s0, .int .i64 xur8_5.s1]) cga5), (gr8_6, .cells [.int .i64 xur8_5.t0, .int .i64 xur8_5.t1, .int .i64 xur8_5.s0, .int .i64 xur8_5.s1]), (gr8_10, .cells [.int .i64 xu5]), (g2, .cells [.int .i64 lu1.first, .int .i64 lu1.step, .int .i64 lu1.span, .int .i64 lu1.press, .int .i64 xu2, .slice A3 ol.length c3, .slice none 0 0, .int .i64 0, .int .i64 0, .int .i64 0, .int .i64 0, .int .i64 0, .int .i64 0, .int .i64 0, .int .i64 0, .int .i64 0, .int .i64 0, .int .i64 0, .int .i64 0, .int .i64 0, .int .i64 xu3]), (g1, .cells [.int .i64 0, .int .i64 0, .int .i64 0, .int .i64 0, .int .i64 0, .slice none 0 0, .slice none 0 0, .int .i64 0, .int .i64 0, .int .i64 0, .int .i64 0, .int .i64 0, .int .i64 0, .int .i64 0, .int .i64 0, .int .i64 0, .int .i64 0, .int .i64 0, .int .i64 0, .int .i64 0, .int .i64 0]), (bp, .cells [.int .u64 sur8_5])]) Try.info3 hsm M (by first | rfl | simp) T rfl rfl rfl rfl Try.underlying22 rfl rfl rfl (by omega) (T.ev 6 rfl) (T.ev 3 rfl) (nthE_mem (i := 2) rfl) rfl rfl ?_; clear M T; intro ga6 cga6 wc ac M T
   refine sh_out hK _ _ (MA.mk (fun _ => M.mask [false, false, false, false, true, true, false] rfl) (MA.mk (fun h => (no_of (by kernel_rfl) h).elim) (M.mask [false, false, false, false, false, true, false] rfl))) ?_; clear hK K
   refine gw 13 16383 ?_; intro K hK
   refine ow_stO M T rfl rfl (T.ev 1 rfl) (T.ev 2 rfl) rfl (.tail (.tail (.tail (.tail .head)))) rfl (by simp) rfl (by kernel_rfl) ?_; clear M T; intro wc ac M T
   refine sh_out hK _ _ (MA.mk (fun h => (no_of (by kernel_rfl) h).elim) (MA.mk (fun h => (no_of (by kernel_rfl) h).elim) (M.mask [false, false, false, false, false, true, false] rfl))) ?_; clear hK K
   refine g_q (v := (.slice (some ⟨ga6, 0, none⟩) (tn.length + 1) cga6)) (T := T.pick [0, 1, 2, 3, 4, 5, 6, 7, 8, 9, 10, 11, 12, 13, 14, 15, 16, 17, 18, 19, 21] rfl) (i := 14) rfl (by kernel_rfl) (by kernel_rfl : (pbits 15 16383).setIfInBounds 14 true = pbits 15 32767) (si_and (si_G rfl) (si_and (si_G rfl) si_U)) (fun _ _ _ h => h) rfl rfl rfl rfl (fun _ _ _ _ _ => (rn_assign rfl (T.ev 0 rfl))) ?_; clear T ac; intro ac T
   refine g_done (by kernel_rfl) ?_
   replace T := T.pick [0, 15, 16, 17, 18, 19, 20, 21] rfl
   replace M := M.mask [true, true, false, false, true, true, true] rfl
   refine nm_blk ?_
   refine nm_then ?_
   refine wp_region_lit ?_
   refine lq T (rn_move rfl (T.ev 7 rfl)) ?_; clear T ac; intro ac T
   refine lq T (rn_sub rfl (T.ev 0 rfl) evc (by omega)) ?_; clear T ac; intro ac T
   refine l_q (v := (.int .i64 (i - 1))) (T.pick [0, 1, 2, 3, 4, 5, 6, 7, 8] rfl) rfl rfl rfl rfl (rn_assign rfl (T.ev 0 rfl)) ?_; clear T ac; intro ac T
   refine wpList_nil ?_
   replace T := T.pick [0, 3, 4, 5, 6, 7, 8, 9] rfl
   refine nm_then ?_
   have e9a : ol.length + 1 = (ol ++ [xur8_5]).length := by simp
   have e8a : ((sc ol) ++ [.int .i64 xur8_5.t0, .int .i64 xur8_5.t1, .int .i64 xur8_5.s0, .int .i64 xur8_5.s1]) = sc (ol ++ [xur8_5]) := by rw [← sc_snoc]
   rw [e9a, e8a] at M
   (try rw [e9a] at T)
   have e9b : tn.length + 1 = (tn ++ [xu5]).length := by simp
   have e8b : ((ic tn) ++ [.int .i64 xu5]) = ic (tn ++ [xu5]) := by rw [← ic_snoc]
   rw [e9b, e8b] at M
   (try rw [e9b] at T)
   exact ⟨_, by omega, (i - 1), (ol ++ [xur8_5]), _, _, (tn ++ [xu5]), _, _, sur8_5, [(ga6, .row 3 1 (tn ++ [xu5]).length (ic (tn ++ [xu5])) cga6)], [(ga5, .row 48 4 (ol ++ [xur8_5]).length (sc (ol ++ [xur8_5])) cga5)], rfl, (by omega), (by simp only [List.length_append, List.length_cons, List.length_nil]; omega), (by simp only [List.length_append, List.length_cons, List.length_nil]; omega), (fun z hz => by rcases List.mem_append.1 hz with h9 | h9; exact hgo z h9; simp only [List.mem_cons, List.not_mem_nil, or_false] at h9; subst h9; exact hxur8_5), (fun z hz => by rcases List.mem_append.1 hz with h9 | h9; exact htn z h9; simp only [List.mem_cons, List.not_mem_nil, or_false] at h9; subst h9; omega), hsur8_5, (Sl.row _ _ _ _ _ _), (Sl.row _ _ _ _ _ _), T.pick [2, 3, 4, 5, 6, 7, 1, 0] rfl, M.perm [2, 3, 4, 0, 1] rfl rfl⟩
  refine gi 1823 ?_; intro K hK
  refine ow_bs (e := 3) [.int .i64 xu5] M T rfl rfl rfl rfl (.cons (T.ev 0 rfl) .nil) (fun _ => by kernel_rfl) ?_; clear M T; intro gr8_10 wc ac M T
  refine sh_out hK _ _ (MA.mk (fun _ => M.perm [1, 2] rfl rfl) (MA.mk (fun _ => M.perm [1, 2, 3] rfl rfl) (M.perm [2] rfl rfl))) ?_; clear hK K
  refine gw 5 1855 ?_; intro K hK
  refine ow_call (first := []) (cap := []) T rfl rfl rfl rfl evf (.cons (T.ev 5 rfl) (.cons (T.ev 4 rfl) (.cons (T.ev 3 rfl) .nil))) Try.func20 rfl rfl ?_
  refine Calls.mono (soundOf_any _ bp xu5 wide _ (by omega) (by omega) (M.nth 3 rfl) hsu5) ?_
  clear T
  rintro e wc ⟨xur8_5, sur8_5, hxur8_5, hsur8_5, rfl, hgr, hbk⟩
  intro ac T
  replace M := M.callC (cs' := [.int .u64 sur8_5]) (.tail (.tail (.tail .head))) hgr hbk
  clear hgr hbk
  refine sh_out hK _ _ (MA.mk (fun _ => M.perm [1, 2] rfl rfl) (MA.mk (fun h => (no_of (by kernel_rfl) h).elim) (M.perm [2] rfl rfl))) ?_; clear hK K
  refine gw 6 1919 ?_; intro K hK
  refine ow_bs (e := 48) [.int .i64 xur8_5.t0, .int .i64 xur8_5.t1, .int .i64 xur8_5.s0, .int .i64 xur8_5.s1] M T rfl rfl rfl rfl (.cons (T.ev 0 rfl) .nil) (fun _ => by kernel_rfl) ?_; clear M T; intro gr8_6 wc ac M T
  refine sh_out hK _ _ (MA.mk (fun _ => M.perm [2, 3] rfl rfl) (MA.mk (fun h => (no_of (by kernel_rfl) h).elim) (M.perm [3] rfl rfl))) ?_; clear hK K
  refine gw 7 2047 ?_; intro K hK
  refine ow_app (((gr8_6, .cells [.int .i64 xur8_5.t0, .int .i64 xur8_5.t1, .int .i64 xur8_5.s0, .int .i64 xur8_5.s1]) :: (gr8_10, .cells [.int .i64 xu5]) :: (g2, .cells [.int .i64 lu1.first, .int .i64 lu1.step, .int .i64 lu1.span, .int .i64 lu1.press, .int .i64 xu2, .slice A3 ol.length c3, .slice none 0 0, .int .i64 0, .int .i64 0, .int .i64 0, .int .i64 0, .int .i64 0, .int .i64 0, .int .i64 0, .int .i64 0, .int .i64 0, .int .i64 0, .int .i64 0, .int .i64 0, .int .i64 0, .int .i64 xu3]) :: (g1, .cells [.int .i64 0, .int .i64 0, .int .i64 0, .int .i64 0, .int .i64 0, .slice none 0 0, .slice none 0 0, .int .i64 0, .int .i64 0, .int .i64 0, .int .i64 0, .int .i64 0, .int .i64 0, .int .i64 0, .int .i64 0, .int .i64 0, .int .i64 0, .int .i64 0, .int .i64 0, .int .i64 0, .int .i64 0]) :: (bp, .cells [.int .u64 sur8_5]) :: Ii)) Try.info48 hsl M (by first | rfl | simp) T rfl rfl rfl rfl Try.underlying38 rfl rfl rfl (by omega) (T.ev 8 rfl) (T.ev 0 rfl) (nthE_mem (i := 0) rfl) rfl rfl ?_; clear M T; intro ga7 cga7 wc ac M T
  refine sh_out hK _ _ (MA.mk (fun _ => M.perm [3, 4] rfl rfl) (MA.mk (fun h => (no_of (by kernel_rfl) h).elim) (M.perm [4] rfl rfl))) ?_; clear hK K
  refine gq (v := (.pointer (some ⟨g2, 5, none⟩))) T 12 6143 rfl (fun _ _ _ _ _ => (rn_fieldAddr (off := 5) rfl (T.ev 16 rfl) (fun _ _ _ => by kernel_rfl))) ?_; clear T ac; intro ac T
  refine gw 11 8191 ?_; intro K hK
  refine ow_app ([(ga7, .row 48 4 (ol.length + 1) ((sc ol) ++ [.int .i64 xur8_5.t0, .int .i64 xur8_5.t1, .int .i64 xur8_5.s0, .int .i64 xur8_5.s1]) cga7), (gr8_6, .cells [.int .i64 xur8_5.t0, .int .i64 xur8_5.t1, .int .i64 xur8_5.s0, .int .i64 xur8_5.s1]), (gr8_10, .cells [.int .i64 xu5]), (g2, .cells [.int .i64 lu1.first, .int .i64 lu1.step, .int .i64 lu1.span, .int .i64 lu1.press, .int .i64 xu2, .slice A3 ol.length c3, .slice none 0 0, .int .i64 0, .int .i64 0, .int .i64 0, .int .i64 0, .int .i64 0, .int .i64 0, .int .i64 0, .int .i64 0, .int .i64 0, .int .i64 0, .int .i64 0, .int .i64 0, .int .i64 0, .int .i64 xu3]), (g1, .cells [.int .i64 0, .int .i64 0, .int .i64 0, .int .i64 0, .int .i64 0, .slice none 0 0, .slice none 0 0, .int .i64 0, .int .i64 0, .int .i64 0, .int .i64 0, .int .i64 0, .int .i64 0, .int .i64 0, .int .i64 0, .int .i64 0, .int .i64 0, .int .i64 0, .int .i64 0, .int .i64 0, .int .i64 0]), (bp, .cells [.int .u64 sur8_5])]) Try.info3 hsm M (by first | rfl | simp) T rfl rfl rfl rfl Try.underlying22 rfl rfl rfl (by omega) (T.ev 6 rfl) (T.ev 4 rfl) (nthE_mem (i := 2) rfl) rfl rfl ?_; clear M T; intro ga8 cga8 wc ac M T
  refine sh_out hK _ _ (MA.mk (fun _ => M.mask [false, false, false, false, true, true, false] rfl) (MA.mk (fun h => (no_of (by kernel_rfl) h).elim) (M.mask [false, false, false, false, false, true, false] rfl))) ?_; clear hK K
  refine gw 13 16383 ?_; intro K hK
  refine ow_stO M T rfl rfl (T.ev 1 rfl) (T.ev 2 rfl) rfl (.tail (.tail (.tail (.tail .head)))) rfl (by simp) rfl (by kernel_rfl) ?_; clear M T; intro wc ac M T
  refine sh_out hK _ _ (MA.mk (fun h => (no_of (by kernel_rfl) h).elim) (MA.mk (fun h => (no_of (by kernel_rfl) h).elim) (M.mask [false, false, false, false, false, true, false] rfl))) ?_; clear hK K
  refine g_q (v := (.slice (some ⟨ga8, 0, none⟩) (tn.length + 1) cga8)) (T := T.pick [0, 1, 2, 3, 4, 5, 6, 7, 8, 9, 10, 11, 12, 13, 14, 15, 16, 17, 18, 19, 21] rfl) (i := 14) rfl (by kernel_rfl) (by kernel_rfl : (pbits 15 16383).setIfInBounds 14 true = pbits 15 32767) (si_and (si_G rfl) (si_and (si_G rfl) si_U)) (fun _ _ _ h => h) rfl rfl rfl rfl (fun _ _ _ _ _ => (rn_assign rfl (T.ev 0 rfl))) ?_; clear T ac; intro ac T
  refine g_done (by kernel_rfl) ?_
  replace T := T.pick [0, 15, 16, 17, 18, 19, 20, 21] rfl
  replace M := M.mask [true, true, false, false, true, true, true] rfl
  refine nm_blk ?_
  refine nm_then ?_
  refine wp_region_lit ?_
  refine lq T (rn_move rfl (T.ev 7 rfl)) ?_; clear T ac; intro ac T
  refine lq T (rn_sub rfl (T.ev 0 rfl) evc (by omega)) ?_; clear T ac; intro ac T
  refine l_q (v := (.int .i64 (i - 1))) (T.pick [0, 1, 2, 3, 4, 5, 6, 7, 8] rfl) rfl rfl rfl rfl (rn_assign rfl (T.ev 0 rfl)) ?_; clear T ac; intro ac T
  refine wpList_nil ?_
  replace T := T.pick [0, 3, 4, 5, 6, 7, 8, 9] rfl
  refine nm_then ?_
  have e9a : ol.length + 1 = (ol ++ [xur8_5]).length := by simp
  have e8a : ((sc ol) ++ [.int .i64 xur8_5.t0, .int .i64 xur8_5.t1, .int .i64 xur8_5.s0, .int .i64 xur8_5.s1]) = sc (ol ++ [xur8_5]) := by rw [← sc_snoc]
  rw [e9a, e8a] at M
  (try rw [e9a] at T)
  have e9b : tn.length + 1 = (tn ++ [xu5]).length := by simp
  have e8b : ((ic tn) ++ [.int .i64 xu5]) = ic (tn ++ [xu5]) := by rw [← ic_snoc]
  rw [e9b, e8b] at M
  (try rw [e9b] at T)
  exact ⟨_, by omega, (i - 1), (ol ++ [xur8_5]), _, _, (tn ++ [xu5]), _, _, sur8_5, [(ga8, .row 3 1 (tn ++ [xu5]).length (ic (tn ++ [xu5])) cga8)], [(ga7, .row 48 4 (ol ++ [xur8_5]).length (sc (ol ++ [xur8_5])) cga7)], rfl, (by omega), (by simp only [List.length_append, List.length_cons, List.length_nil]; omega), (by simp only [List.length_append, List.length_cons, List.length_nil]; omega), (fun z hz => by rcases List.mem_append.1 hz with h9 | h9; exact hgo z h9; simp only [List.mem_cons, List.not_mem_nil, or_false] at h9; subst h9; exact hxur8_5), (fun z hz => by rcases List.mem_append.1 hz with h9 | h9; exact htn z h9; simp only [List.mem_cons, List.not_mem_nil, or_false] at h9; subst h9; omega), hsur8_5, (Sl.row _ _ _ _ _ _), (Sl.row _ _ _ _ _ _), T.pick [2, 3, 4, 5, 6, 7, 1, 0] rfl, M.perm [2, 3, 4, 0, 1] rfl rfl⟩
 intro h1
 refine wp_exit ?_
 refine ex_then ?_
 refine ex_then ?_
 refine ex_hit ?_
 refine nm_then ?_
 refine wp_seq ?_
 refine wp_seq ?_
 refine wp_region_lit ?_
 refine lq T (rn_move rfl (T.ev 1 rfl)) ?_; clear T ac; intro ac T
 refine lq T (rn_move rfl (T.ev 3 rfl)) ?_; clear T ac; intro ac T
 refine lq T (rn_min2 rfl (T.ev 0 rfl) evc) ?_; clear T ac; intro ac T
 refine l_w rfl ?_; intro K hK
 refine ow_call (first := []) (cap := []) T rfl rfl rfl rfl evf (.cons (T.ev 2 rfl) (.cons (T.ev 0 rfl) .nil)) Try.func39 rfl rfl ?_
 refine Calls.mono (upto_any _ bp (min nhi 5) _ (by omega) (by omega) (M.nth 2 rfl) hs) ?_
 clear T
 rintro e wc ⟨xu6, su6, hxu6, hsu6, rfl, hgr, hbk⟩
 intro ac T
 replace M := M.callC (cs' := [.int .u64 su6]) (.tail (.tail .head)) hgr hbk
 clear hgr hbk
 refine sh_out hK _ _ ?_; clear hK K
 refine lq T (rn_assign rfl (T.ev 0 rfl)) ?_; clear T ac; intro ac T
 refine wpList_nil ?_
 replace T := T.pick [0, 6, 8, 9, 10, 11, 12] rfl
 refine nm_then ?_
 refine wp_block ?_
 obtain ⟨bt, ot, St0⟩ := hsm.spV (by rw [ic_length]; omega)
 have St := St0 w (fun b => b = bp)
 refine wp_loop_n (fun mz ac wc => ∃ (q : Int) (oh : List Snd) (A5 : Option Addr) (c5 : Nat) (s : Int) (Ih : List (Nat × BA)), mz = q.toNat ∧ (0 ≤ q) ∧ ((oh.length : Int) + q = xu6) ∧ (∀ z ∈ oh, z.good) ∧ (u64ok s) ∧ (Sl 48 4 (.slice A5 oh.length c5) oh.length (sc oh) Ih) ∧ Tm ac 115 [(0, .pointer (some ⟨bp, 0, none⟩)), (3, .int .i64 wide), (8, .pointer (some ⟨g1, 0, none⟩)), (9, .pointer (some ⟨g2, 0, none⟩)), (10, .int .i64 (lu1.first + (lu1.step * xu2))), (11, .slice A4 tn.length c4), (14, .int .i64 q)] ∧ Mem w (fun b => b = bp) wc ((g2, .cells [.int .i64 lu1.first, .int .i64 lu1.step, .int .i64 lu1.span, .int .i64 lu1.press, .int .i64 xu2, .slice A3 ol.length c3, .slice A5 oh.length c5, .int .i64 0, .int .i64 0, .int .i64 0, .int .i64 0, .int .i64 0, .int .i64 0, .int .i64 0, .int .i64 0, .int .i64 0, .int .i64 0, .int .i64 0, .int .i64 0, .int .i64 0, .int .i64 xu3]) :: (g1, .cells [.int .i64 0, .int .i64 0, .int .i64 0, .int .i64 0, .int .i64 0, .slice none 0 0, .slice none 0 0, .int .i64 0, .int .i64 0, .int .i64 0, .int .i64 0, .int .i64 0, .int .i64 0, .int .i64 0, .int .i64 0, .int .i64 0, .int .i64 0, .int .i64 0, .int .i64 0, .int .i64 0, .int .i64 0]) :: (bp, .cells [.int .u64 s]) :: (Ii ++ Io ++ Ih))) ?_ ?_
 ·exact ⟨_, _, [], none, 0, _, [], rfl, (by omega), (by simp), (fun z hz => by cases hz), hsu6, (Sl.nil _ _), T.pick [1, 2, 3, 4, 5, 6, 0] rfl, (by simp only [List.append_nil]; exact M)⟩
 clear T M
 rintro mz ac wc ⟨q, oh, A5, c5, s, Ih, hmm2, hi2, hoh, hgh, hs2, hsh, T, M⟩
 refine wp_seq ?_
 refine wp_seq ?_
 refine wp_region_lit ?_
 refine lq T (rn_move rfl (T.ev 6 rfl)) ?_; clear T ac; intro ac T
 refine lq T (rn_gtr rfl (T.ev 0 rfl) evc) ?_; clear T ac; intro ac T
 refine wpList_nil ?_
 replace T := T.pick [0, 2, 3, 4, 5, 6, 7, 8] rfl
 refine nm_then ?_
 refine wp_if (T.ev 0 rfl) ?_ ?_
 ·intro h2
  refine wp_skip ?_
  refine nm_then ?_
  refine wp_seq ?_
  refine wp_block ?_
  refine wp_seq ?_
  refine wp_region_lit ?_
  refine lq T (rn_move rfl (T.ev 1 rfl)) ?_; clear T ac; intro ac T
  refine l_w rfl ?_; intro K hK
  refine ow_call (first := []) (cap := []) T rfl rfl rfl rfl evf (.cons (T.ev 0 rfl) (.cons evc (.cons evc .nil))) Try.func19 rfl rfl ?_
  refine Calls.mono (within_pot _ bp (-5) 5 _ (by omega) (by omega) (by omega) (M.nth 2 rfl) hs2) ?_
  clear T
  rintro e wc ⟨xu7, su7, hxu7, hsu7, rfl, hgr, hbk⟩
  intro ac T
  replace M := M.callC (cs' := [.int .u64 su7]) (.tail (.tail .head)) hgr hbk
  clear hgr hbk
  refine sh_out hK _ _ ?_; clear hK K
  refine lq T (rn_assign rfl (T.ev 0 rfl)) ?_; clear T ac; intro ac T
  refine wpList_nil ?_
  replace T := T.pick [0, 4, 5, 6, 7, 8, 9, 10] rfl
  refine nm_then ?_
  refine wp_seq ?_
  refine wp_seq ?_
  refine wp_region_lit ?_
  refine lq T (rn_move rfl (T.ev 6 rfl)) ?_; clear T ac; intro ac T
  refine lq T (rn_lenS rfl Try.underlying22 (T.ev 0 rfl)) ?_; clear T ac; intro ac T
  refine lq T (rn_gtr rfl (T.ev 0 rfl) evc) ?_; clear T ac; intro ac T
  refine wpList_nil ?_
  replace T := T.pick [0, 3, 4, 5, 6, 7, 8, 9, 10] rfl
  refine nm_then ?_
  refine wp_if (T.ev 0 rfl) ?_ ?_
  ·intro h3
   refine g_start2 M (M.mask [true, true, false] rfl) 21 (by kernel_rfl) rfl (by kernel_rfl) ?_
   clear M; intro wc M
   refine g_addG 5 M ?_
   refine gq T 0 1 rfl (fun _ _ _ _ _ => (rn_move rfl (T.ev 7 rfl))) ?_; clear T ac; intro ac T
   refine gq T 1 3 rfl (fun _ _ _ _ _ => (rn_move rfl (T.ev 3 rfl))) ?_; clear T ac; intro ac T
   refine gq T 2 7 rfl (fun _ _ _ _ _ => (rn_move rfl (T.ev 9 rfl))) ?_; clear T ac; intro ac T
   refine gq T 3 15 rfl (fun _ _ _ _ _ => (rn_lenS rfl Try.underlying22 (T.ev 0 rfl))) ?_; clear T ac; intro ac T
   refine gq T 4 31 rfl (fun _ _ _ _ _ => (rn_sub rfl (T.ev 0 rfl) evc (by omega))) ?_; clear T ac; intro ac T
   refine gq T 8 287 rfl (fun _ _ _ _ _ => (rn_move rfl (T.ev 7 rfl))) ?_; clear T ac; intro ac T
   refine gq (v := (.pointer (some ⟨g2, 0, none⟩))) T 9 799 rfl (fun _ _ _ _ _ => (rn_fieldAddr (off := 0) rfl (T.ev 11 rfl) (fun _ _ _ => by kernel_rfl))) ?_; clear T ac; intro ac T
   refine gq (v := (.pointer (some ⟨g2, 2, none⟩))) T 10 1823 rfl (fun _ _ _ _ _ => (rn_fieldAddr (off := 2) rfl (T.ev 0 rfl) (fun _ _ _ => by kernel_rfl))) ?_; clear T ac; intro ac T
   refine gq T 11 3871 rfl (fun B w' hD hl hS => (rn_one (Mem.nth (show Mem w (fun b => b = bp) w' _ from (MA.rgt hS)) 0 rfl) rfl (T.ev 0 rfl) rfl)) ?_; clear T ac; intro ac T
   refine gq T 12 7967 rfl (fun _ _ _ _ _ => (rn_neg rfl (T.ev 0 rfl) (by omega))) ?_; clear T ac; intro ac T
   refine gq T 13 16159 rfl (fun _ _ _ _ _ => (rn_sub rfl (T.ev 0 rfl) evc (by omega))) ?_; clear T ac; intro ac T
   refine gq (v := (.pointer (some ⟨g2, 0, none⟩))) T 14 32543 rfl (fun _ _ _ _ _ => (rn_fieldAddr (off := 0) rfl (T.ev 16 rfl) (fun _ _ _ => by kernel_rfl))) ?_; clear T ac; intro ac T
   refine gq (v := (.pointer (some ⟨g2, 2, none⟩))) T 15 65311 rfl (fun _ _ _ _ _ => (rn_fieldAddr (off := 2) rfl (T.ev 0 rfl) (fun _ _ _ => by kernel_rfl))) ?_; clear T ac; intro ac T
   refine gq T 16 130847 rfl (fun B w' hD hl hS => (rn_one (Mem.nth (show Mem w (fun b => b = bp) w' _ from (MA.rgt hS)) 0 rfl) rfl (T.ev 0 rfl) rfl)) ?_; clear T ac; intro ac T
   refine gq T 17 261919 rfl (fun _ _ _ _ _ => (rn_add rfl (T.ev 0 rfl) evc (by omega))) ?_; clear T ac; intro ac T
   refine gw 5 261951 ?_; intro K hK
   refine ow_call (first := []) (cap := []) T rfl rfl rfl rfl evf (.cons (T.ev 13 rfl) (.cons (T.ev 10 rfl) .nil)) Try.func39 rfl rfl ?_
   refine Calls.mono (upto_any _ bp (((tn.length : Nat) : Int) - 1) _ (by omega) (by omega) (M.nth 2 rfl) hsu7) ?_
   clear T
   rintro e wc ⟨xu8, su8, hxu8, hsu8, rfl, hgr, hbk⟩
   intro ac T
   replace M := M.callC (cs' := [.int .u64 su8]) (.tail (.tail .head)) hgr hbk
   clear hgr hbk
   obtain ⟨kuu8, hkuu8⟩ : ∃ k : Nat, xu8 = (k : Int) := ⟨xu8.toNat, by omega⟩
   obtain ⟨ntu8, hntu8, -⟩ := ic_next (l := tn) (k := kuu8) (by omega)
   have hntbu8 := htn _ (List.mem_of_getElem? hntu8)
   refine sh_out hK _ _ (MA.mk (fun h => (no_of (by kernel_rfl) h).elim) (M.mask [true, true, false] rfl)) ?_; clear hK K
   refine g_addG 18 M ?_
   refine gq T 6 262015 rfl (fun _ _ _ _ _ => (rn_indexAddr (size := 1) kuu8 rfl (T.ev 15 rfl) (T.ev 0 rfl) ⟨_, Try.underlying22, by kernel_rfl⟩ hkuu8 (by omega) (St.at0 (by omega)))) ?_; clear T ac; intro ac T
   refine gq T 7 262143 rfl (fun B w' hD hl hS => (rn_cell (Sp.ic0 St (show Mem w (fun b => b = bp) w' _ from (MA.rgt (MA.rgt hS))) (.cons _ (.cons _ (subL (subL (List.Sublist.refl _))))) hntu8) rfl (T.ev 0 rfl))) ?_; clear T ac; intro ac T
   refine gw 18 524287 ?_; intro K hK
   refine ow_call (first := []) (cap := []) T rfl rfl rfl rfl evf (.cons (T.ev 12 rfl) (.cons (T.ev 7 rfl) (.cons (T.ev 3 rfl) .nil))) Try.func19 rfl rfl ?_
   refine Calls.mono (within_pot _ bp ((-lu1.span) - 3) (lu1.span + 3) _ (by omega) (by omega) (by omega) (M.nth 2 rfl) hsu8) ?_
   clear T
   rintro e wc ⟨xu9, su9, hxu9, hsu9, rfl, hgr, hbk⟩
   intro ac T
   replace M := M.callC (cs' := [.int .u64 su9]) (.tail (.tail .head)) hgr hbk
   clear hgr hbk
   refine sh_out hK _ _ (MA.mk (fun h => (no_of (by kernel_rfl) h).elim) (MA.mk (fun h => (no_of (by kernel_rfl) h).elim) (M.mask [true, true, false] rfl))) ?_; clear hK K
   refine gq T 19 1048575 rfl (fun _ _ _ _ _ => (rn_add rfl (T.ev 1 rfl) (T.ev 0 rfl) (by omega))) ?_; clear T ac; intro ac T
   refine g_q (v := (.int .i64 (ntu8 + xu9))) (T := T.pick [0, 1, 2, 3, 4, 5, 6, 7, 8, 9, 10, 11, 12, 13, 14, 15, 16, 17, 18, 19, 20, 22, 23, 24, 25, 26, 27, 28] rfl) (i := 20) rfl (by kernel_rfl) (by kernel_rfl : (pbits 21 1048575).setIfInBounds 20 true = pbits 21 2097151) (si_and (si_G rfl) (si_and (si_G rfl) si_U)) (fun _ _ _ h => h) rfl rfl rfl rfl (fun _ _ _ _ _ => (rn_assign rfl (T.ev 0 rfl))) ?_; clear T ac; intro ac T
   refine g_done (by kernel_rfl) ?_
   replace T := T.pick [0, 22, 23, 24, 25, 26, 27, 28] rfl
   refine nm_then ?_
   refine g_start2 M (M.perm [1] rfl rfl) 12 (by kernel_rfl) rfl (by kernel_rfl) ?_
   clear M; intro wc M
   refine g_addG 7 (M.perm [0, 1, 2] rfl rfl) ?_
   refine g_addG 11 (M.perm [0, 1] rfl rfl) ?_
   refine gq (v := (.pointer (some ⟨g2, 6, none⟩))) T 0 1 rfl (fun _ _ _ _ _ => (rn_fieldAddr (off := 6) rfl (T.ev 4 rfl) (fun _ _ _ => by kernel_rfl))) ?_; clear T ac; intro ac T
   refine gq T 1 3 rfl (fun B w' hD hl hS => (rn_one (Mem.nth (show Mem w (fun b => b = bp) w' _ from ((MA.lft hS) (hD.wait (i := 1) (m := 11) (by kernel_rfl) hl))) 0 rfl) rfl (T.ev 0 rfl) rfl)) ?_; clear T ac; intro ac T
   refine gq T 2 7 rfl (fun _ _ _ _ _ => (rn_move rfl (T.ev 3 rfl))) ?_; clear T ac; intro ac T
   refine gq T 3 15 rfl (fun _ _ _ _ _ => (rn_move rfl (T.ev 3 rfl))) ?_; clear T ac; intro ac T
   refine gq T 4 31 rfl (fun _ _ _ _ _ => (rn_move rfl (T.ev 9 rfl))) ?_; clear T ac; intro ac T
   refine gq T 5 63 rfl (fun _ _ _ _ _ => (rn_add rfl (T.ev 1 rfl) (T.ev 0 rfl) (by omega))) ?_; clear T ac; intro ac T
   refine gq T 6 127 rfl (fun _ _ _ _ _ => (rn_move rfl (T.ev 8 rfl))) ?_; clear T ac; intro ac T
   refine gw 7 255 ?_; intro K hK
   refine ow_call (first := []) (cap := []) T rfl rfl rfl rfl evf (.cons (T.ev 4 rfl) (.cons (T.ev 1 rfl) (.cons (T.ev 0 rfl) .nil))) Try.func20 rfl rfl ?_
   refine Calls.mono (soundOf_any _ bp ((ntu8 + xu9) + (lu1.first + (lu1.step * xu2))) wide _ (by omega) (by omega) (M.nth 2 rfl) hsu9) ?_
   clear T
   rintro e wc ⟨xu10, su10, hxu10, hsu10, rfl, hgr, hbk⟩
   intro ac T
   replace M := M.callC (cs' := [.int .u64 su10]) (.tail (.tail .head)) hgr hbk
   clear hgr hbk
   refine sh_out hK _ _ (MA.mk (fun _ => M.perm [0, 1] rfl rfl) (MA.mk (fun h => (no_of (by kernel_rfl) h).elim) (M.perm [1] rfl rfl))) ?_; clear hK K
   refine gw 8 511 ?_; intro K hK
   refine ow_bs (e := 48) [.int .i64 xu10.t0, .int .i64 xu10.t1, .int .i64 xu10.s0, .int .i64 xu10.s1] M T rfl rfl rfl rfl (.cons (T.ev 0 rfl) .nil) (fun _ => by kernel_rfl) ?_; clear M T; intro g3 wc ac M T
   refine sh_out hK _ _ (MA.mk (fun _ => M.perm [1, 2] rfl rfl) (MA.mk (fun h => (no_of (by kernel_rfl) h).elim) (M.perm [2] rfl rfl))) ?_; clear hK K
   refine gw 9 1023 ?_; intro K hK
   refine ow_app (((g3, .cells [.int .i64 xu10.t0, .int .i64 xu10.t1, .int .i64 xu10.s0, .int .i64 xu10.s1]) :: (g2, .cells [.int .i64 lu1.first, .int .i64 lu1.step, .int .i64 lu1.span, .int .i64 lu1.press, .int .i64 xu2, .slice A3 ol.length c3, .slice A5 oh.length c5, .int .i64 0, .int .i64 0, .int .i64 0, .int .i64 0, .int .i64 0, .int .i64 0, .int .i64 0, .int .i64 0, .int .i64 0, .int .i64 0, .int .i64 0, .int .i64 0, .int .i64 0, .int .i64 xu3]) :: (g1, .cells [.int .i64 0, .int .i64 0, .int .i64 0, .int .i64 0, .int .i64 0, .slice none 0 0, .slice none 0 0, .int .i64 0, .int .i64 0, .int .i64 0, .int .i64 0, .int .i64 0, .int .i64 0, .int .i64 0, .int .i64 0, .int .i64 0, .int .i64 0, .int .i64 0, .int .i64 0, .int .i64 0, .int .i64 0]) :: (bp, .cells [.int .u64 su10]) :: (Ii ++ Io))) Try.info48 hsh M (by first | rfl | simp) T rfl rfl rfl rfl Try.underlying38 rfl rfl rfl (by omega) (T.ev 7 rfl) (T.ev 0 rfl) (nthE_mem (i := 0) rfl) rfl rfl ?_; clear M T; intro ga9 cga9 wc ac M T
   refine sh_out hK _ _ (MA.mk (fun _ => M.perm [2, 3] rfl rfl) (MA.mk (fun h => (no_of (by kernel_rfl) h).elim) (M.perm [3] rfl rfl))) ?_; clear hK K
   refine gq (v := (.pointer (some ⟨g2, 6, none⟩))) T 10 2047 rfl (fun _ _ _ _ _ => (rn_fieldAddr (off := 6) rfl (T.ev 14 rfl) (fun _ _ _ => by kernel_rfl))) ?_; clear T ac; intro ac T
   refine gw 11 4095 ?_; intro K hK
   refine ow_stO M T rfl rfl (T.ev 0 rfl) (T.ev 1 rfl) rfl (.tail (.tail .head)) rfl (by simp) rfl (by kernel_rfl) ?_; clear M T; intro wc ac M T
   refine sh_out hK _ _ (MA.mk (fun h => (no_of (by kernel_rfl) h).elim) (MA.mk (fun h => (no_of (by kernel_rfl) h).elim) (M.perm [3] rfl rfl))) ?_; clear hK K
   refine g_done (by kernel_rfl) ?_
   replace T := T.pick [12, 13, 14, 15, 16, 17, 18] rfl
   replace M := M.mask [true, false, true, true, true] rfl
   refine nm_blk ?_
   refine nm_then ?_
   refine wp_region_lit ?_
   refine lq T (rn_move rfl (T.ev 6 rfl)) ?_; clear T ac; intro ac T
   refine lq T (rn_sub rfl (T.ev 0 rfl) evc (by omega)) ?_; clear T ac; intro ac T
   refine l_q (v := (.int .i64 (q - 1))) (T.pick [0, 1, 2, 3, 4, 5, 6, 7] rfl) rfl rfl rfl rfl (rn_assign rfl (T.ev 0 rfl)) ?_; clear T ac; intro ac T
   refine wpList_nil ?_
   replace T := T.pick [0, 3, 4, 5, 6, 7, 8] rfl
   refine nm_then ?_
   have e9a : oh.length + 1 = (oh ++ [xu10]).length := by simp
   have e8a : ((sc oh) ++ [.int .i64 xu10.t0, .int .i64 xu10.t1, .int .i64 xu10.s0, .int .i64 xu10.s1]) = sc (oh ++ [xu10]) := by rw [← sc_snoc]
   rw [e9a, e8a] at M
   (try rw [e9a] at T)
   exact ⟨_, by omega, (q - 1), (oh ++ [xu10]), _, _, su10, [(ga9, .row 48 4 (oh ++ [xu10]).length (sc (oh ++ [xu10])) cga9)], rfl, (by omega), (by simp only [List.length_append, List.length_cons, List.length_nil]; omega), (fun z hz => by rcases List.mem_append.1 hz with h9 | h9; exact hgh z h9; simp only [List.mem_cons, List.not_mem_nil, or_false] at h9; subst h9; exact hxu10), hsu10, (Sl.row _ _ _ _ _ _), T.pick [1, 2, 3, 4, 5, 6, 0] rfl, (Mem.spin [(g2, .cells [.int .i64 lu1.first, .int .i64 lu1.step, .int .i64 lu1.span, .int .i64 lu1.press, .int .i64 xu2, .slice A3 ol.length c3, .slice (some ⟨ga9, 0, none⟩) ((oh ++ [xu10]).length) cga9, .int .i64 0, .int .i64 0, .int .i64 0, .int .i64 0, .int .i64 0, .int .i64 0, .int .i64 0, .int .i64 0, .int .i64 0, .int .i64 0, .int .i64 0, .int .i64 0, .int .i64 0, .int .i64 xu3]), (g1, .cells [.int .i64 0, .int .i64 0, .int .i64 0, .int .i64 0, .int .i64 0, .slice none 0 0, .slice none 0 0, .int .i64 0, .int .i64 0, .int .i64 0, .int .i64 0, .int .i64 0, .int .i64 0, .int .i64 0, .int .i64 0, .int .i64 0, .int .i64 0, .int .i64 0, .int .i64 0, .int .i64 0, .int .i64 0]), (bp, .cells [.int .u64 su10])] [(ga9, .row 48 4 (oh ++ [xu10]).length (sc (oh ++ [xu10])) cga9)] (Ii ++ Io) (M.permT [1, 2, 3, 0] 4 rfl rfl rfl rfl))⟩
  intro h3
  refine wp_skip ?_
  refine nm_then ?_
  refine g_start2 M (M.perm [1] rfl rfl) 12 (by kernel_rfl) rfl (by kernel_rfl) ?_
  clear M; intro wc M
  refine g_addG 7 (M.perm [0, 1, 2] rfl rfl) ?_
  refine g_addG 11 (M.perm [0, 1] rfl rfl) ?_
  refine gq (v := (.pointer (some ⟨g2, 6, none⟩))) T 0 1 rfl (fun _ _ _ _ _ => (rn_fieldAddr (off := 6) rfl (T.ev 5 rfl) (fun _ _ _ => by kernel_rfl))) ?_; clear T ac; intro ac T
  refine gq T 1 3 rfl (fun B w' hD hl hS => (rn_one (Mem.nth (show Mem w (fun b => b = bp) w' _ from ((MA.lft hS) (hD.wait (i := 1) (m := 11) (by kernel_rfl) hl))) 0 rfl) rfl (T.ev 0 rfl) rfl)) ?_; clear T ac; intro ac T
  refine gq T 2 7 rfl (fun _ _ _ _ _ => (rn_move rfl (T.ev 4 rfl))) ?_; clear T ac; intro ac T
  refine gq T 3 15 rfl (fun _ _ _ _ _ => (rn_move rfl (T.ev 4 rfl))) ?_; clear T ac; intro ac T
  refine gq T 4 31 rfl (fun _ _ _ _ _ => (rn_move rfl (T.ev 10 rfl))) ?_; clear T ac; intro ac T
  refine gq T 5 63 rfl (fun _ _ _ _ _ => (rn_add rfl (T.ev 1 rfl) (T.ev 0 rfl) (by omega))) ?_; clear T ac; intro ac T
  refine gq T 6 127 rfl (fun _ _ _ _ _ => (rn_move rfl (T.ev 9 rfl))) ?_; clear T ac; intro ac T
  refine gw 7 255 ?_; intro K hK
  refine ow_call (first := []) (cap := []) T rfl rfl rfl rfl evf (.cons (T.ev 4 rfl) (.cons (T.ev 1 rfl) (.cons (T.ev 0 rfl) .nil))) Try.func20 rfl rfl ?_
  refine Calls.mono (soundOf_any _ bp (xu7 + (lu1.first + (lu1.step * xu2))) wide _ (by omega) (by omega) (M.nth 2 rfl) hsu7) ?_
  clear T
  rintro e wc ⟨xu11, su11, hxu11, hsu11, rfl, hgr, hbk⟩
  intro ac T
  replace M := M.callC (cs' := [.int .u64 su11]) (.tail (.tail .head)) hgr hbk
  clear hgr hbk
  refine sh_out hK _ _ (MA.mk (fun _ => M.perm [0, 1] rfl rfl) (MA.mk (fun h => (no_of (by kernel_rfl) h).elim) (M.perm [1] rfl rfl))) ?_; clear hK K
  refine gw 8 511 ?_; intro K hK
  refine ow_bs (e := 48) [.int .i64 xu11.t0, .int .i64 xu11.t1, .int .i64 xu11.s0, .int .i64 xu11.s1] M T rfl rfl rfl rfl (.cons (T.ev 0 rfl) .nil) (fun _ => by kernel_rfl) ?_; clear M T; intro g4 wc ac M T
  refine sh_out hK _ _ (MA.mk (fun _ => M.perm [1, 2] rfl rfl) (MA.mk (fun h => (no_of (by kernel_rfl) h).elim) (M.perm [2] rfl rfl))) ?_; clear hK K
  refine gw 9 1023 ?_; intro K hK
  refine ow_app (((g4, .cells [.int .i64 xu11.t0, .int .i64 xu11.t1, .int .i64 xu11.s0, .int .i64 xu11.s1]) :: (g2, .cells [.int .i64 lu1.first, .int .i64 lu1.step, .int .i64 lu1.span, .int .i64 lu1.press, .int .i64 xu2, .slice A3 ol.length c3, .slice A5 oh.length c5, .int .i64 0, .int .i64 0, .int .i64 0, .int .i64 0, .int .i64 0, .int .i64 0, .int .i64 0, .int .i64 0, .int .i64 0, .int .i64 0, .int .i64 0, .int .i64 0, .int .i64 0, .int .i64 xu3]) :: (g1, .cells [.int .i64 0, .int .i64 0, .int .i64 0, .int .i64 0, .int .i64 0, .slice none 0 0, .slice none 0 0, .int .i64 0, .int .i64 0, .int .i64 0, .int .i64 0, .int .i64 0, .int .i64 0, .int .i64 0, .int .i64 0, .int .i64 0, .int .i64 0, .int .i64 0, .int .i64 0, .int .i64 0, .int .i64 0]) :: (bp, .cells [.int .u64 su11]) :: (Ii ++ Io))) Try.info48 hsh M (by first | rfl | simp) T rfl rfl rfl rfl Try.underlying38 rfl rfl rfl (by omega) (T.ev 7 rfl) (T.ev 0 rfl) (nthE_mem (i := 0) rfl) rfl rfl ?_; clear M T; intro ga10 cga10 wc ac M T
  refine sh_out hK _ _ (MA.mk (fun _ => M.perm [2, 3] rfl rfl) (MA.mk (fun h => (no_of (by kernel_rfl) h).elim) (M.perm [3] rfl rfl))) ?_; clear hK K
  refine gq (v := (.pointer (some ⟨g2, 6, none⟩))) T 10 2047 rfl (fun _ _ _ _ _ => (rn_fieldAddr (off := 6) rfl (T.ev 15 rfl) (fun _ _ _ => by kernel_rfl))) ?_; clear T ac; intro ac T
  refine gw 11 4095 ?_; intro K hK
  refine ow_stO M T rfl rfl (T.ev 0 rfl) (T.ev 1 rfl) rfl (.tail (.tail .head)) rfl (by simp) rfl (by kernel_rfl) ?_; clear M T; intro wc ac M T
  refine sh_out hK _ _ (MA.mk (fun h => (no_of (by kernel_rfl) h).elim) (MA.mk (fun h => (no_of (by kernel_rfl) h).elim) (M.perm [3] rfl rfl))) ?_; clear hK K
  refine g_done (by kernel_rfl) ?_
  replace T := T.pick [13, 14, 15, 16, 17, 18, 19] rfl
  replace M := M.mask [true, false, true, true, true] rfl
  refine nm_blk ?_
  refine nm_then ?_
  refine wp_region_lit ?_
  refine lq T (rn_move rfl (T.ev 6 rfl)) ?_; clear T ac; intro ac T
  refine lq T (rn_sub rfl (T.ev 0 rfl) evc (by omega)) ?_; clear T ac; intro ac T
  refine l_q (v := (.int .i64 (q - 1))) (T.pick [0, 1, 2, 3, 4, 5, 6, 7] rfl) rfl rfl rfl rfl (rn_assign rfl (T.ev 0 rfl)) ?_; clear T ac; intro ac T
  refine wpList_nil ?_
  replace T := T.pick [0, 3, 4, 5, 6, 7, 8] rfl
  refine nm_then ?_
  have e9a : oh.length + 1 = (oh ++ [xu11]).length := by simp
  have e8a : ((sc oh) ++ [.int .i64 xu11.t0, .int .i64 xu11.t1, .int .i64 xu11.s0, .int .i64 xu11.s1]) = sc (oh ++ [xu11]) := by rw [← sc_snoc]
  rw [e9a, e8a] at M
  (try rw [e9a] at T)
  exact ⟨_, by omega, (q - 1), (oh ++ [xu11]), _, _, su11, [(ga10, .row 48 4 (oh ++ [xu11]).length (sc (oh ++ [xu11])) cga10)], rfl, (by omega), (by simp only [List.length_append, List.length_cons, List.length_nil]; omega), (fun z hz => by rcases List.mem_append.1 hz with h9 | h9; exact hgh z h9; simp only [List.mem_cons, List.not_mem_nil, or_false] at h9; subst h9; exact hxu11), hsu11, (Sl.row _ _ _ _ _ _), T.pick [1, 2, 3, 4, 5, 6, 0] rfl, (Mem.spin [(g2, .cells [.int .i64 lu1.first, .int .i64 lu1.step, .int .i64 lu1.span, .int .i64 lu1.press, .int .i64 xu2, .slice A3 ol.length c3, .slice (some ⟨ga10, 0, none⟩) ((oh ++ [xu11]).length) cga10, .int .i64 0, .int .i64 0, .int .i64 0, .int .i64 0, .int .i64 0, .int .i64 0, .int .i64 0, .int .i64 0, .int .i64 0, .int .i64 0, .int .i64 0, .int .i64 0, .int .i64 0, .int .i64 xu3]), (g1, .cells [.int .i64 0, .int .i64 0, .int .i64 0, .int .i64 0, .int .i64 0, .slice none 0 0, .slice none 0 0, .int .i64 0, .int .i64 0, .int .i64 0, .int .i64 0, .int .i64 0, .int .i64 0, .int .i64 0, .int .i64 0, .int .i64 0, .int .i64 0, .int .i64 0, .int .i64 0, .int .i64 0, .int .i64 0]), (bp, .cells [.int .u64 su11])] [(ga10, .row 48 4 (oh ++ [xu11]).length (sc (oh ++ [xu11])) cga10)] (Ii ++ Io) (M.permT [1, 2, 3, 0] 4 rfl rfl rfl rfl))⟩
 intro h2
 refine wp_exit ?_
 refine ex_then ?_
 refine ex_then ?_
 refine ex_hit ?_
 refine nm_then ?_
 refine wp_seq ?_
 refine wp_region_lit ?_
 refine lq T (rn_move rfl (T.ev 1 rfl)) ?_; clear T ac; intro ac T
 refine l_w rfl ?_; intro K hK
 refine ow_call (first := []) (cap := []) T rfl rfl rfl rfl evf (.cons (T.ev 0 rfl) (.cons evc (.cons evc .nil))) Try.func62 rfl rfl ?_
 refine Calls.mono (jobOf_any _ bp 0 1 _ (by omega) (by omega) (by omega) (by omega) (M.nth 2 rfl) hs2) ?_
 clear T
 rintro e wc ⟨ju12, Au12, cu12, su12, Iu12, rfl, hmu12, hsu12, hslu12, N⟩
 intro ac T
 obtain ⟨bu12, ou12, SVu12⟩ := hslu12.spV (rc_length _)
 have Su12 := SVu12 w (fun b => b = bp)
 replace M := (M.joinW (.tail (.tail .head)) N).swapI
 replace M := M.mask [true, true, true] rfl
 clear N hslu12
 have hgu12 := hmu12.good
 have hfewu12 := hgu12.few
 have hpu12 := hgu12.p
 have hmeu12 := hgu12.me
 refine sh_out hK _ _ ?_; clear hK K
 refine l_w rfl ?_; intro K hK
 refine ow_al M T rfl rfl rfl rfl ?_; clear M T; intro g5 wc ac M T
 refine sh_out hK _ _ ?_; clear hK K
 refine l_w rfl ?_; intro K hK
 refine ow_stO M T rfl rfl (T.ev 0 rfl) (T.ev 1 rfl) rfl .head rfl (by simp) rfl (by kernel_rfl) ?_; clear M T; intro wc ac M T
 refine sh_out hK _ _ ?_; clear hK K
 refine wpList_nil ?_
 replace T := T.pick [0, 6, 7] rfl
 refine nm_then ?_
 refine wp_seq ?_
 refine g_start2 M (M.mask [true, false, true, true] rfl) 14 (by kernel_rfl) rfl (by kernel_rfl) ?_
 clear M; intro wc M
 refine g_addG 9 M ?_
 refine gq (v := (.pointer (some ⟨g5, 0, none⟩))) T 0 1 rfl (fun _ _ _ _ _ => (rn_fieldAddr (off := 0) rfl (T.ev 0 rfl) (fun _ _ _ => by kernel_rfl))) ?_; clear T ac; intro ac T
 refine gq (v := (.pointer (some ⟨g5, 2, none⟩))) T 1 3 rfl (fun _ _ _ _ _ => (rn_fieldAddr (off := 2) rfl (T.ev 0 rfl) (fun _ _ _ => by kernel_rfl))) ?_; clear T ac; intro ac T
 refine gq T 2 7 rfl (fun B w' hD hl hS => (rn_rowO (Mem.nth (show Mem w (fun b => b = bp) w' _ from ((MA.lft hS) (hD.wait (i := 2) (m := 9) (by kernel_rfl) hl))) 0 rfl) rfl (T.ev 0 rfl) rfl)) ?_; clear T ac; intro ac T
 refine gq (v := (.pointer (some ⟨g5, 0, none⟩))) T 3 15 rfl (fun _ _ _ _ _ => (rn_fieldAddr (off := 0) rfl (T.ev 3 rfl) (fun _ _ _ => by kernel_rfl))) ?_; clear T ac; intro ac T
 refine gq (v := (.pointer (some ⟨g5, 4, none⟩))) T 4 31 rfl (fun _ _ _ _ _ => (rn_fieldAddr (off := 4) rfl (T.ev 0 rfl) (fun _ _ _ => by kernel_rfl))) ?_; clear T ac; intro ac T
 refine gq T 5 63 rfl (fun B w' hD hl hS => (rn_rowO (Mem.nth (show Mem w (fun b => b = bp) w' _ from (MA.rgt hS)) 0 rfl) rfl (T.ev 0 rfl) rfl)) ?_; clear T ac; intro ac T
 refine gq (v := (.pointer (some ⟨g5, 6, none⟩))) T 6 127 rfl (fun _ _ _ _ _ => (rn_fieldAddr (off := 6) rfl (T.ev 6 rfl) (fun _ _ _ => by kernel_rfl))) ?_; clear T ac; intro ac T
 refine gq T 7 255 rfl (fun B w' hD hl hS => (rn_rowO (Mem.nth (show Mem w (fun b => b = bp) w' _ from (MA.rgt hS)) 0 rfl) rfl (T.ev 0 rfl) rfl)) ?_; clear T ac; intro ac T
 refine gq (v := (.pointer (some ⟨g2, 7, none⟩))) T 8 511 rfl (fun _ _ _ _ _ => (rn_fieldAddr (off := 7) rfl (T.ev 10 rfl) (fun _ _ _ => by kernel_rfl))) ?_; clear T ac; intro ac T
 refine gw 9 1023 ?_; intro K hK
 refine ow_stO M T rfl rfl (T.ev 0 rfl) (T.ev 6 rfl) rfl (.tail .head) rfl (by simp) rfl (by kernel_rfl) ?_; clear M T; intro wc ac M T
 refine sh_out hK _ _ (MA.mk (fun h => (no_of (by kernel_rfl) h).elim) (M.mask [true, false, true, true] rfl)) ?_; clear hK K
 refine gq (v := (.pointer (some ⟨g2, 9, none⟩))) T 10 2047 rfl (fun _ _ _ _ _ => (rn_fieldAddr (off := 9) rfl (T.ev 11 rfl) (fun _ _ _ => by kernel_rfl))) ?_; clear T ac; intro ac T
 refine gw 11 4095 ?_; intro K hK
 refine ow_stO M T rfl rfl (T.ev 0 rfl) (T.ev 4 rfl) rfl (.tail .head) rfl (by simp) rfl (by kernel_rfl) ?_; clear M T; intro wc ac M T
 refine sh_out hK _ _ (MA.mk (fun h => (no_of (by kernel_rfl) h).elim) (M.mask [true, false, true, true] rfl)) ?_; clear hK K
 refine gq (v := (.pointer (some ⟨g2, 11, none⟩))) T 12 8191 rfl (fun _ _ _ _ _ => (rn_fieldAddr (off := 11) rfl (T.ev 12 rfl) (fun _ _ _ => by kernel_rfl))) ?_; clear T ac; intro ac T
 refine gw 13 16383 ?_; intro K hK
 refine ow_stO M T rfl rfl (T.ev 0 rfl) (T.ev 3 rfl) rfl (.tail .head) rfl (by simp) rfl (by kernel_rfl) ?_; clear M T; intro wc ac M T
 refine sh_out hK _ _ (MA.mk (fun h => (no_of (by kernel_rfl) h).elim) (M.mask [true, false, true, true] rfl)) ?_; clear hK K
 refine g_done (by kernel_rfl) ?_
 replace T := T.pick [12, 13] rfl
 replace M := M.mask [false, true, true, true] rfl
 refine nm_then ?_
 refine wp_seq ?_
 refine wp_region_lit ?_
 refine lq T (rn_rowO (Mem.nth M 0 rfl) rfl (T.ev 1 rfl) rfl) ?_; clear T ac; intro ac T
 refine l_w rfl ?_; intro K hK
 refine ow_stO M T rfl rfl (T.ev 1 rfl) (T.ev 0 rfl) rfl (.tail .head) rfl (by simp) rfl (by kernel_rfl) ?_; clear M T; intro wc ac M T
 refine sh_out hK _ _ ?_; clear hK K
 refine wpList_nil ?_
 replace T := T.pick [1] rfl
 replace M := M.mask [false, true, true] rfl
 refine nm_then ?_
 refine wp_ret ?_
 refine rt_c M T rfl (T.ev 0 rfl) (nthE_mem (i := 0) rfl) rfl ?_
 obtain ⟨bs1, os1, hS1⟩ := hsl.spV (sc_length _)
 obtain ⟨bs2, os2, hS2⟩ := hsh.spV (sc_length _)
 have hmd := boxMade (b := ({ first := lu1.first, step := lu1.step, span := lu1.span, press := lu1.press, note := xu2, lows := ol, highs := oh, t0 := ju12.t0, t1 := ju12.t1, r0 := ju12.r0, r1 := ju12.r1, u0 := ju12.u0, u1 := ju12.u1, d0 := ju12.d0, d1 := ju12.d1, a0 := ju12.a0, a1 := ju12.a1, b0 := ju12.b0, b1 := ju12.b1, le := ju12.le, me := xu3 } : Bx)) (lo := nlo) (hi := nhi) (j := ju12) hlu1 (by dsimp only; omega) (by dsimp only; omega) (by dsimp only; omega) hgo hgh (by dsimp only; omega) hmu12 ⟨rfl, rfl, rfl, rfl, rfl, rfl, rfl, rfl, rfl, rfl, rfl, rfl, rfl⟩
 refine ⟨_, A3, c3, A5, c5, _, Io ++ Ih, rfl, hmd, hsu12, ⟨bs1, os1, fun w ex => (hS1 w ex).mono (List.sublist_append_left _ _)⟩, ⟨bs2, os2, fun w ex => (hS2 w ex).mono (List.sublist_append_right _ _)⟩, Mem.swapI (I := [(bp, .cells [.int .u64 su12])]) (L := Io ++ Ih) ?_⟩
 have M9 : Mem w (fun b => b = bp) wc ((bp, .cells [.int .u64 su12]) :: (Ii ++ Io ++ Ih ++ Iu12)) := M.permT [1] 2 rfl rfl rfl rfl
 refine M9.sub (.cons_cons _ ?_)
 refine List.Sublist.trans ?_ (List.sublist_append_left _ _)
 rw [List.append_assoc]
 exact List.sublist_append_right _ _
end Go.Proofs.Ytlahdenlmmlplaa
end

section
/-
 kit: scales and registers out of a pot; law05's own checks.
-/
namespace Go.Proofs.Ytlahdenlmmlplaa
set_option linter.unusedSimpArgs false
set_option linter.unusedVariables false
open Go.RowKit
def OddsPost (bp : Nat) (w : World) (e : Ending) (w' : World) : Prop := ∃ (b : Bool) (s' : Int), u64ok s' ∧ e = .returned (.bool b) ∧ w.grownBy w' (some bp) ∧ Bk w' bp #[.int .u64 s']
def SungPost (bp : Nat) (x : Snd) (w : World) (e : Ending) (w' : World) : Prop := ∃ t u s' : Int, (x.t0 ≤ t ∧ t ≤ x.t1 ∧ x.s0 ≤ u ∧ u ≤ x.s1) ∧ u64ok s' ∧ e = .returned (.agg #[.int .i64 t, .int .i64 u]) ∧ w.grownBy w' (some bp) ∧ Bk w' bp #[.int .u64 s']
def Asc (n : Int) (l : List Int) : Prop := l.Pairwise (· < ·) ∧ ∀ x ∈ l, 0 ≤ x ∧ x < n
theorem Asc.nil (n : Int) : Asc n [] := ⟨List.Pairwise.nil, fun x hx => by cases hx⟩
theorem Asc.snoc {n : Int} {l : List Int} (h : Asc n l) (hn : 0 ≤ n) : Asc (n + 1) (l ++ [n]) := by
 refine ⟨List.pairwise_append.2 ⟨h.1, List.pairwise_singleton _ _, fun a ha b hb => ?_⟩, fun x hx => ?_⟩
 · simp only [List.mem_cons, List.not_mem_nil, or_false] at hb
   subst hb
   exact (h.2 a ha).2
 · rcases List.mem_append.1 hx with hx | hx
   · have := h.2 x hx
     omega
   · simp only [List.mem_cons, List.not_mem_nil, or_false] at hx
     omega
theorem Asc.more {n m : Int} {l : List Int} (h : Asc n l) (hm : n ≤ m) : Asc m l := ⟨h.1, fun x hx => by have := h.2 x hx; omega⟩
theorem Asc.sub {n : Int} {l l' : List Int} (h : Asc n l) (hs : l'.Sublist l) : Asc n l' := ⟨h.1.sublist hs, fun x hx => h.2 x (hs.subset hx)⟩
theorem Asc.reg : ∀ {n : Int} {l : List Int} {p : Option Int}, Asc n l → (∀ q, p = some q → ∀ x ∈ l, q < x) → regE n p l = 0
 | n, [], p, _, _ => rfl
 | n, r :: l, p, h, hp => by
   have h1 := h.2 r List.mem_cons_self
   have h2 := List.pairwise_cons.1 h.1
   unfold regE
   rw [if_neg (by omega), if_neg]
   · exact Asc.reg ⟨h2.2, fun x hx => h.2 x (List.mem_cons_of_mem _ hx)⟩ fun q hq x hx => by injection hq with hq; subst hq; exact h2.1 x hx
   · cases p with
     | none => simp [leO]
     | some q =>
       have := hp q rfl r List.mem_cons_self
       simp only [leO, decide_eq_true_eq]
       omega
theorem Asc.check {l : Lw} {R : List (List Snd)} {g : List Int} (hS : SGood l R) (h : Asc R.length g) : checkR l R g = 0 := by
 unfold checkR
 rw [if_neg (by rw [checkS_good.2 hS]; simp)]
 exact h.reg fun q hq => by cases hq
theorem Sl.cap {w0 w : World} {ex : Nat → Prop} {e n c size : Nat} {A : Option Addr} {xs : List Value} {I L : List (Nat × BA)} (h : Sl e size (.slice A n c) n xs I) (M : Mem w0 ex w L) (hI : I.Sublist L) : n ≤ c := by
 rcases h with ⟨h1, rfl, _, _⟩ | ⟨g, cap, h1, rfl⟩
 · omega
 · injection h1 with h1 _ h2
   subst h1 h2
   obtain ⟨hb, hn⟩ := (M.blk _ (hI.subset List.mem_cons_self)).2
   obtain ⟨g', cap', e1, h3, _⟩ := own_form hb hn
   injection e1 with _ _ e3
   omega
def PickPost (bp : Nat) (n : Int) (w : World) (e : Ending) (w' : World) : Prop := ∃ (l : List Int) (A : Option Addr) (c : Nat) (s : Int) (I : List (Nat × BA)), e = .returned (.slice A l.length c) ∧ Asc n l ∧ u64ok s ∧ l.length ≤ c ∧ (∃ b o, ∀ (w : World) (ex : Nat → Prop), Sp w ex I A l.length 1 b o (ic l)) ∧ Mem w (fun b => b = bp) w' (I ++ [(bp, .cells [.int .u64 s])])
theorem ElsR.mono {LL : List LS} {I I' : List (Nat × BA)} (h : ElsR LL I) (hs : I.Sublist I') : ElsR LL I' := fun x hx => by
 obtain ⟨b, o, h1⟩ := h x hx
 exact ⟨b, o, fun w ex => (h1 w ex).mono hs⟩
theorem ElsR.snoc {LL : List LS} {I I' : List (Nat × BA)} (h : ElsR LL I) {l : List Snd} {A : Option Addr} {c : Nat} (hs : ∃ b o, ∀ (w : World) (ex : Nat → Prop), Sp w ex I' A l.length 4 b o (sc l)) : ElsR (LL ++ [(l, A, c)]) (I ++ I') := fun x hx => by
 rcases List.mem_append.1 hx with hx | hx
 · exact h.mono (List.sublist_append_left _ _) x hx
 · simp only [List.mem_cons, List.not_mem_nil, or_false] at hx
   subst hx
   obtain ⟨b, o, h1⟩ := hs
   exact ⟨b, o, fun w ex => (h1 w ex).mono (List.sublist_append_right _ _)⟩
def ScaleOfPost (bp : Nat) (w : World) (e : Ending) (w' : World) : Prop :=
 ∃ (l : Lw) (LL : List LS) (A : Option Addr) (c : Nat) (s : Int) (I : List (Nat × BA)), e = .returned (.agg #[.int .i64 l.first, .int .i64 l.step, .int .i64 l.span, .int .i64 l.press, .slice A LL.length c]) ∧ SGood l (rowsOf LL) ∧ u64ok s ∧ (∃ b o, ∀ (w : World) (ex : Nat → Prop), Sp w ex I A LL.length 1 b o (lsC LL)) ∧ ElsR LL I ∧ Mem w (fun b => b = bp) w' (I ++ [(bp, .cells [.int .u64 s])])
end Go.Proofs.Ytlahdenlmmlplaa
end

section
/-
 Plain law: verdicts on parts of a register.
-/
namespace Go.Proofs.Ytlahdenlmmlplaa
set_option linter.unusedSimpArgs false
set_option linter.unusedVariables false
open Go.RowKit
theorem surelyL_cons (l : Lw) (due : Int) (a b : Snd) (r : List Snd) : surelyL l due (a :: b :: r) = (decide (offP l due a b ≤ l.span) && surelyL l due (b :: r)) := rfl
theorem surelyL_iff {l : Lw} {due : Int} : ∀ {ts : List Snd}, surelyL l due ts = true ↔ ∀ (i : Nat) (a b : Snd), ts[i]? = some a → ts[i + 1]? = some b → offP l due a b ≤ l.span
 | [] => by simp [surelyL]
 | [x] => by simp [surelyL]
 | x :: y :: r => by
   rw [surelyL_cons, Bool.and_eq_true, decide_eq_true_eq, surelyL_iff (ts := y :: r)]
   constructor
   · rintro ⟨h1, h2⟩ i a b ha hb
     cases i with
     | zero =>
       simp at ha hb
       subst ha hb
       exact h1
     | succ i => exact h2 i a b (by simpa using ha) (by simpa using hb)
   · intro h
     exact ⟨h 0 x y rfl rfl, fun i a b ha hb => h (i + 1) a b (by simpa using ha) (by simpa using hb)⟩
theorem keepsP_one {l : Lw} {due : Int} {ts : List Snd} : keepsP l due ts = 1 ↔ surelyL l due ts = true := by
 unfold keepsP
 constructor
 · intro h
   split at h
   · assumption
   · split at h <;> omega
 · intro h
   rw [if_pos h]
theorem keepsP_two {l : Lw} {due : Int} {ts : List Snd} : keepsP l due ts = 2 ↔ surelyL l due ts = false ∧ nowL l due ts = [] := by
 unfold keepsP
 constructor
 · intro h
   split at h
   · omega
   · split at h
     · rename_i h1 h2
       exact ⟨by simpa using h1, by simpa using h2⟩
     · omega
 · rintro ⟨h1, h2⟩
   rw [if_neg (by simp [h1]), if_pos (by simp [h2])]
end Go.Proofs.Ytlahdenlmmlplaa
end

section
/-
 law05: what the laws about scales use.
-/
namespace Go.Proofs.Ytlahdenlmmlplaa
set_option linter.unusedSimpArgs false
set_option linter.unusedVariables false
open Go.RowKit
def onlyB (l : List Int) (n : Int) : Bool := l.all fun u => decide (u = n)
end Go.Proofs.Ytlahdenlmmlplaa
end

section
/-
 ref05: all pairings.
-/
namespace Go.Proofs.Ytlahdenlmmlplaa
set_option linter.unusedSimpArgs false
set_option linter.unusedVariables false
open Go.RowKit
theorem Els.append {l r : List LE} {I J : List (Nat × BA)} (h : Els l I) (k : Els r J) : Els (l ++ r) (I ++ J) := fun x hx => by
 rcases List.mem_append.1 hx with hx | hx
 · exact h.mono (List.sublist_append_left _ _) x hx
 · exact k.mono (List.sublist_append_right _ _) x hx
def anyP (_ _ : Nat) : Bool := true
theorem prsP_len (may : Nat → Nat → Bool) (highs : Nat) : ∀ (r : Nat) (l : List Int), 0 < (prsP may highs r l).length ∧ (prsP may highs r l).length ≤ (highs + 1) ^ r
 | 0, l => by simp [prsP]
 | r + 1, l => by
   unfold prsP
   have key : ∀ k, ((List.range k).flatMap fun h => if goP may l h then prsP may highs r (l ++ [(h : Int)]) else []).length ≤ k * (highs + 1) ^ r := fun k => by
     induction k with
     | zero => simp
     | succ k ih =>
       rw [List.range_succ, List.flatMap_append, List.length_append, Nat.succ_mul]
       have : ([k].flatMap fun h => if goP may l h then prsP may highs r (l ++ [(h : Int)]) else []).length ≤ (highs + 1) ^ r := by
         simp only [List.flatMap_cons, List.flatMap_nil, List.append_nil]
         split
         · exact (prsP_len may highs r _).2
         · simp
       omega
   have h2 := prsP_len may highs r (l ++ [-1])
   have h3 := key highs
   rw [List.length_append, Nat.pow_succ, Nat.mul_add, Nat.mul_one, Nat.mul_comm]
   omega
def preP (highs r : Nat) (l : List Int) (k : Nat) : List (List Int) := (List.range k).flatMap fun h => if goP anyP l h then prsP anyP highs r (l ++ [(h : Int)]) else []
def PrsPost (R : List (List Int)) (Il : List (Nat × BA)) (w : World) (e : Ending) (w' : World) : Prop := ∃ (A : Option Addr) (c : Nat) (LL : List LE) (I : List (Nat × BA)), e = .returned (.slice A LL.length c) ∧ LL.map (·.1) = R ∧ (∃ b o, ∀ (w : World) (ex : Nat → Prop), Sp w ex I A LL.length 1 b o (lc LL)) ∧ Els LL (Il ++ I) ∧ Mem w noEx w' I
def PrsSpec (lows highs r : Nat) : Prop := ∀ (w : World) (l : List Int) (A : Option Addr) (m c : Nat) (Il : List (Nat × BA)), m = l.length → l.length + r = lows → Rd w w.heap.size 1 A m (ic l) → (∃ b o, ∀ (w : World) (ex : Nat → Prop), Sp w ex Il A m 1 b o (ic l)) →
 Calls Try.prog 34 #[.int .i64 (lows : Int), .int .i64 (highs : Int), .slice A m c] w (PrsPost (prsP anyP highs r l) Il w)
end Go.Proofs.Ytlahdenlmmlplaa
end

section
/-
 Plain law: Beat and Keeps are just what all truths say.
-/
namespace Go.Proofs.Ytlahdenlmmlplaa
set_option linter.unusedSimpArgs false
set_option linter.unusedVariables false
open Go.RowKit
abbrev Q4 := Int × Int × Int × Int
def inQ (x y : Snd) (q : Q4) : Prop := (x.t0 ≤ q.1 ∧ q.1 ≤ x.t1) ∧ (x.s0 ≤ q.2.1 ∧ q.2.1 ≤ x.s1) ∧ (y.t0 ≤ q.2.2.1 ∧ q.2.2.1 ≤ y.t1) ∧ (y.s0 ≤ q.2.2.2 ∧ q.2.2.2 ≤ y.s1)
def befQ (t s u r : Int) (q : Q4) : Prop := q.1 < t ∨ (q.1 = t ∧ (q.2.1 < s ∨ (q.2.1 = s ∧ (q.2.2.1 < u ∨ (q.2.2.1 = u ∧ q.2.2.2 < r)))))
def PQ (x y : Snd) (t s u r : Int) (P : List Q4) : Prop := ∀ q, q ∈ P ↔ inQ x y q ∧ befQ t s u r q
theorem PQ.start (x y : Snd) : PQ x y x.t0 x.s0 y.t0 y.s0 [] := fun q => by
 unfold inQ befQ
 simp only [List.not_mem_nil, false_iff]
 omega
theorem PQ.as {x y : Snd} {t s u r t' s' u' r' : Int} {P : List Q4} (h : PQ x y t s u r P) (he : ∀ q : Q4, inQ x y q → (befQ t s u r q ↔ befQ t' s' u' r' q)) : PQ x y t' s' u' r' P := fun q => by
 rw [h q]
 constructor
 · rintro ⟨a, b⟩; exact ⟨a, (he q a).1 b⟩
 · rintro ⟨a, b⟩; exact ⟨a, (he q a).2 b⟩
theorem PQ.next {x y : Snd} {t s u r : Int} {P : List Q4} (h : PQ x y t s u r P) (hq : inQ x y (t, s, u, r)) : PQ x y t s u (r + 1) (P ++ [(t, s, u, r)]) := fun q => by
 obtain ⟨a, b, c, d⟩ := q
 rw [List.mem_append, h, List.mem_singleton]
 unfold inQ befQ at *
 simp only [Prod.mk.injEq]
 dsimp only at *
 omega
theorem PQ.done {x y : Snd} {t : Int} {P : List Q4} (h : PQ x y t x.s0 y.t0 y.s0 P) (ht : x.t1 < t) : ∀ q, q ∈ P ↔ inQ x y q := fun q => by
 rw [h q]
 constructor
 · exact fun a => a.1
 · intro a
   refine ⟨a, ?_⟩
   unfold inQ at a
   unfold befQ
   omega
def kQ (l : Lw) (due : Int) (q : Q4) : Bool := agreeP l due (q.2.2.1 - q.1) (q.2.2.2 - q.2.1)
def bQ (q : Q4) (p : Int) : Int := beatT q.1 q.2.1 q.2.2.1 q.2.2.2 p
structure FQ (l : Lw) (due : Int) (P : List Q4) (kept all : Int) (bl : List (Int × Int)) : Prop where
 n : bl.length = (l.press + 1).toNat
 ka : 0 ≤ kept ∧ kept ≤ all ∧ all = P.length
 kall : kept = all ↔ ∀ q ∈ P, kQ l due q = true
 k0 : kept = 0 ↔ ∀ q ∈ P, kQ l due q = false
 bd : ∀ (k : Nat) (v : Int × Int), bl[k]? = some v → P ≠ [] → (∀ q ∈ P, v.1 ≤ bQ q k ∧ bQ q k ≤ v.2) ∧ (∃ q ∈ P, bQ q k = v.1) ∧ ∃ q ∈ P, bQ q k = v.2
theorem FQ.start {l : Lw} {due : Int} {bl : List (Int × Int)} (h : bl.length = (l.press + 1).toNat) : FQ l due [] 0 0 bl :=
 ⟨h, by simp, by simp, by simp, fun k v _ h => absurd rfl h⟩
def newV (all : Int) (v : Int × Int) (n : Int) : Int × Int := (min (if all = 0 then n else v.1) n, max (if all = 0 then n else v.2) n)
theorem FQ.step {l : Lw} {due : Int} {P : List Q4} {kept all kept' : Int} {bl bl' : List (Int × Int)} (h : FQ l due P kept all bl) (q : Q4) (hk : kept' = kept + if kQ l due q = true then 1 else 0) (hn : bl'.length = bl.length)
   (hb : ∀ (k : Nat) (v : Int × Int), bl[k]? = some v → bl'[k]? = some (newV all v (bQ q k))) : FQ l due (P ++ [q]) kept' (all + 1) bl' := by
 obtain ⟨h1, ⟨h2, h3, h4⟩, h5, h6, h7⟩ := h
 refine ⟨by rw [hn, h1], ⟨by split at hk <;> omega, by split at hk <;> omega, by rw [List.length_append]; simp; omega⟩, ?_, ?_, ?_⟩
 · simp only [List.mem_append, List.mem_singleton]
   constructor
   · intro e z hz
     split at hk
     · rename_i hq
       rcases hz with hz | rfl
       · exact h5.1 (by omega) z hz
       · exact hq
     · omega
   · intro e
     rw [hk, if_pos (e q (.inr rfl)), h5.2 fun z hz => e z (.inl hz)]
 · simp only [List.mem_append, List.mem_singleton]
   constructor
   · intro e z hz
     split at hk
     · omega
     · rename_i hq
       rcases hz with hz | rfl
       · exact h6.1 (by omega) z hz
       · simpa using hq
   · intro e
     rw [hk, if_neg (by rw [e q (.inr rfl)]; simp), h6.2 fun z hz => e z (.inl hz)]
     rfl
 · intro k v' hv' _
   obtain ⟨v, hv⟩ : ∃ v, bl[k]? = some v := ⟨_, List.getElem?_eq_getElem (by have := (List.getElem?_eq_some_iff.1 hv').1; omega)⟩
   have e := hb k v hv
   rw [hv'] at e
   injection e with e
   subst e
   simp only [List.mem_append, List.mem_singleton]
   by_cases hP : P = []
   · subst hP
     have h0 : all = 0 := by simpa using h4
     unfold newV
     rw [if_pos h0, if_pos h0]
     refine ⟨fun z hz => ?_, ⟨q, .inr rfl, by dsimp only; omega⟩, ⟨q, .inr rfl, by dsimp only; omega⟩⟩
     rcases hz with hz | rfl
     · cases hz
     · dsimp only; omega
   · have h0 : all ≠ 0 := by
       have := List.length_pos_iff.2 hP
       omega
     obtain ⟨g1, ⟨qa, qa1, qa2⟩, qb, qb1, qb2⟩ := h7 k v hv hP
     unfold newV
     rw [if_neg h0, if_neg h0]
     refine ⟨fun z hz => ?_, ?_, ?_⟩
     · rcases hz with hz | rfl
       · have := g1 z hz
         dsimp only
         omega
       · dsimp only
         omega
     · dsimp only
       by_cases hm : v.1 ≤ bQ q k
       · exact ⟨qa, .inl qa1, by omega⟩
       · exact ⟨q, .inr rfl, by omega⟩
     · dsimp only
       by_cases hm : bQ q k ≤ v.2
       · exact ⟨qb, .inl qb1, by omega⟩
       · exact ⟨q, .inr rfl, by omega⟩
structure NB (all : Int) (q : Q4) (bl b : List (Int × Int)) (k : Nat) : Prop where
 n : b.length = bl.length
 a : ∀ (i : Nat) (v : Int × Int), i < k → bl[i]? = some v → b[i]? = some (newV all v (bQ q i))
 b : ∀ i : Nat, k ≤ i → b[i]? = bl[i]?
theorem NB.start (all : Int) (q : Q4) (bl : List (Int × Int)) : NB all q bl bl 0 := ⟨rfl, fun _ _ h => absurd h (Nat.not_lt_zero _), fun _ _ => rfl⟩
theorem NB.step {all : Int} {q : Q4} {bl b b' : List (Int × Int)} {k : Nat} {v v' : Int × Int} (h : NB all q bl b k) (hk : k < b.length) (hv : b[k]? = some v) (hb : b' = b.set k v') (he : v' = newV all v (bQ q k)) : NB all q bl b' (k + 1) := by
 subst hb he
 refine ⟨by rw [List.length_set, h.n], fun i u hi hu => ?_, fun i hi => ?_⟩
 · rcases Nat.lt_or_ge i k with h1 | h1
   · rw [List.getElem?_set_ne (by omega)]
     exact h.a i u h1 hu
   · obtain rfl : i = k := by omega
     rw [List.getElem?_set_self hk]
     rw [h.b i (Nat.le_refl _), hu] at hv
     injection hv with hv
     rw [hv]
 · rw [List.getElem?_set_ne (by omega)]
   exact h.b i (by omega)
theorem NB.done {all : Int} {q : Q4} {bl b : List (Int × Int)} {k : Nat} (h : NB all q bl b k) (hk : bl.length ≤ k) : ∀ (i : Nat) (v : Int × Int), bl[i]? = some v → b[i]? = some (newV all v (bQ q i)) := fun i v hv =>
 h.a i v (by have := (List.getElem?_eq_some_iff.1 hv).1; omega) hv
theorem bQ_in {x y : Snd} {q : Q4} (h : inQ x y q) {p : Int} (hp : 0 ≤ p) : (beatP x y p).1 ≤ bQ q p ∧ bQ q p ≤ (beatP x y p).2 := by
 obtain ⟨⟨a1, a2⟩, ⟨b1, b2⟩, ⟨c1, c2⟩, d1, d2⟩ := h
 have m1 : x.s0 * p ≤ q.2.1 * p := Int.mul_le_mul_of_nonneg_right b1 hp
 have m2 : q.2.1 * p ≤ x.s1 * p := Int.mul_le_mul_of_nonneg_right b2 hp
 have m3 : y.s0 * p ≤ q.2.2.2 * p := Int.mul_le_mul_of_nonneg_right d1 hp
 have m4 : q.2.2.2 * p ≤ y.s1 * p := Int.mul_le_mul_of_nonneg_right d2 hp
 unfold beatP riseP bQ beatT
 rw [Int.mul_comm p y.s0, Int.mul_comm p y.s1, Int.mul_comm p x.s0, Int.mul_comm p x.s1]
 dsimp only
 omega
theorem bQ_lo (x y : Snd) (p : Int) : bQ (x.t1, x.s1, y.t0, y.s0) p = (beatP x y p).1 := by
 unfold beatP riseP bQ beatT
 rw [Int.mul_comm p y.s0, Int.mul_comm p x.s1]
 dsimp only
 omega
theorem bQ_hi (x y : Snd) (p : Int) : bQ (x.t0, x.s0, y.t1, y.s1) p = (beatP x y p).2 := by
 unfold beatP riseP bQ beatT
 rw [Int.mul_comm p y.s1, Int.mul_comm p x.s0]
 dsimp only
 omega
theorem kQ_iff {l : Lw} {due : Int} {q : Q4} : kQ l due q = true ↔ ∀ p : Int, 0 ≤ p → p ≤ l.press → -l.span ≤ bQ q p - due ∧ bQ q p - due ≤ l.span := by
 unfold kQ agreeP
 rw [List.all_eq_true]
 constructor
 · intro h p h1 h2
   have h3 := h p.toNat (List.mem_range.2 (by omega))
   rw [show ((p.toNat : Nat) : Int) = p by omega, ← beatT_eq] at h3
   simpa [withinB, bQ] using h3
 · intro h k hk
   have h3 := h k (by omega) (by have := List.mem_range.1 hk; omega)
   rw [← beatT_eq]
   simpa [withinB, bQ] using h3
theorem offL_le (due b : Int) : ∀ (l : List (Int × Int)) (n : Int), offL due l n ≤ b ↔ n ≤ b ∧ ∀ x ∈ l, due - x.1 ≤ b ∧ x.2 - due ≤ b
 | [], n => by simp [offL]
 | x :: r, n => by
   unfold offL
   rw [offL_le due b r]
   constructor
   · rintro ⟨h1, h2⟩
     refine ⟨by omega, fun z hz => ?_⟩
     rcases List.mem_cons.1 hz with rfl | hz
     · omega
     · exact h2 z hz
   · rintro ⟨h1, h2⟩
     have := h2 x List.mem_cons_self
     exact ⟨by omega, fun z hz => h2 z (List.mem_cons_of_mem _ hz)⟩
theorem offP_le {l : Lw} {due b : Int} {x y : Snd} (hb : 0 ≤ b) : offP l due x y ≤ b ↔ ∀ p : Int, 0 ≤ p → p ≤ l.press → due - (beatP x y p).1 ≤ b ∧ (beatP x y p).2 - due ≤ b := by
 unfold offP
 rw [offL_le]
 constructor
 · rintro ⟨_, h⟩ p h1 h2
   exact h _ (beatsL_mem.2 ⟨p, h1, h2, rfl⟩)
 · intro h
   refine ⟨hb, fun z hz => ?_⟩
   obtain ⟨p, h1, h2, rfl⟩ := beatsL_mem.1 hz
   exact h p h1 h2
theorem inQ_lo {x y : Snd} (gx : x.good) (gy : y.good) : inQ x y (x.t1, x.s1, y.t0, y.s0) ∧ inQ x y (x.t0, x.s0, y.t1, y.s1) := by
 obtain ⟨a1, a2⟩ := gx
 obtain ⟨b1, b2⟩ := gy
 unfold inQ
 dsimp only
 omega
theorem sure_iff {l : Lw} {due : Int} {x y : Snd} (gx : x.good) (gy : y.good) (hs : 0 ≤ l.span) : offP l due x y ≤ l.span ↔ ∀ q, inQ x y q → kQ l due q = true := by
 rw [offP_le hs]
 constructor
 · intro h q hq
   rw [kQ_iff]
   intro p h1 h2
   have h3 := h p h1 h2
   have h4 := bQ_in hq h1
   omega
 · intro h p h1 h2
   obtain ⟨e1, e2⟩ := inQ_lo gx gy
   have h3 := kQ_iff.1 (h _ e1) p h1 h2
   have h4 := kQ_iff.1 (h _ e2) p h1 h2
   rw [bQ_lo] at h3
   rw [bQ_hi] at h4
   omega
theorem mem_allOf {x : Snd} {v : Int × Int} : v ∈ allOf x ↔ (x.t0 ≤ v.1 ∧ v.1 ≤ x.t1) ∧ x.s0 ≤ v.2 ∧ v.2 ≤ x.s1 := mem_allL
theorem never_iff {l : Lw} {due : Int} {x y : Snd} : (nowL l due [x, y]).isEmpty = true ↔ ∀ q, inQ x y q → kQ l due q = false := by
 show ((allOf y).filter fun v => (allOf x).any fun z => agreeP l due (v.1 - z.1) (v.2 - z.2)).isEmpty = true ↔ _
 rw [List.isEmpty_iff, List.filter_eq_nil_iff]
 constructor
 · intro h q hq
   obtain ⟨t, s, u, r⟩ := q
   unfold inQ at hq
   dsimp only at hq
   have h1 := h (u, r) (mem_allOf.2 ⟨hq.2.2.1, hq.2.2.2⟩)
   unfold kQ
   dsimp only
   rcases Bool.eq_false_or_eq_true (agreeP l due (u - t) (r - s)) with h2 | h2
   · exact absurd (List.any_eq_true.2 ⟨(t, s), mem_allOf.2 ⟨hq.1, hq.2.1⟩, h2⟩) h1
   · exact h2
 · intro h v hv hn
   obtain ⟨z, hz, ha⟩ := List.any_eq_true.1 hn
   have h1 := h (z.1, z.2, v.1, v.2) ⟨(mem_allOf.1 hz).1, (mem_allOf.1 hz).2, (mem_allOf.1 hv).1, (mem_allOf.1 hv).2⟩
   unfold kQ at h1
   dsimp only at h1
   rw [h1] at ha
   cases ha
theorem surelyL_two (l : Lw) (due : Int) (x y : Snd) : surelyL l due [x, y] = decide (offP l due x y ≤ l.span) := by simp [surelyL]
theorem keeps_always {l : Lw} {due : Int} {x y : Snd} (gx : x.good) (gy : y.good) (hs : 0 ≤ l.span) : keepsP l due [x, y] = 1 ↔ ∀ q, inQ x y q → kQ l due q = true := by
 rw [← sure_iff gx gy hs]
 unfold keepsP
 rw [surelyL_two]
 constructor
 · intro h
   split at h
   · rename_i h1; simpa using h1
   · split at h <;> omega
 · intro h
   rw [if_pos (by simpa using h)]
theorem keeps_never {l : Lw} {due : Int} {x y : Snd} (gx : x.good) (gy : y.good) (hs : 0 ≤ l.span) : keepsP l due [x, y] = 2 ↔ ∀ q, inQ x y q → kQ l due q = false := by
 have h0 := sure_iff (l := l) (due := due) gx gy hs
 rw [← never_iff]
 unfold keepsP
 rw [surelyL_two]
 constructor
 · intro h
   split at h
   · omega
   · split at h
     · rename_i h1; exact h1
     · omega
 · intro h
   rw [if_neg, if_pos h]
   simp only [decide_eq_true_eq]
   intro h1
   have h2 := h0.1 h1 _ (inQ_lo gx gy).1
   rw [never_iff.1 h _ (inQ_lo gx gy).1] at h2
   cases h2
theorem FQ.keeps {l : Lw} {due : Int} {x y : Snd} {P : List Q4} {kept all : Int} {bl : List (Int × Int)} (h : FQ l due P kept all bl) (hP : ∀ q, q ∈ P ↔ inQ x y q) (gx : x.good) (gy : y.good) (hs : 0 ≤ l.span) :
   (keepsP l due [x, y] = 1 ↔ kept = all) ∧ (keepsP l due [x, y] = 2 ↔ kept = 0) := by
 rw [keeps_always gx gy hs, keeps_never gx gy hs, h.kall, h.k0]
 simp only [hP]
 constructor <;> first | exact Iff.rfl | trivial
theorem FQ.beats {l : Lw} {due : Int} {x y : Snd} {P : List Q4} {kept all : Int} {bl : List (Int × Int)} (h : FQ l due P kept all bl) (hP : ∀ q, q ∈ P ↔ inQ x y q) (gx : x.good) (gy : y.good) : bl = beatsL l x y := by
 apply List.ext_getElem?
 intro k
 rcases Nat.lt_or_ge k (l.press + 1).toNat with hk | hk
 · obtain ⟨v, hv⟩ : ∃ v, bl[k]? = some v := ⟨_, List.getElem?_eq_getElem (by rw [h.n]; exact hk)⟩
   have e : (beatsL l x y)[k]? = some (beatP x y (k : Int)) := by
     unfold beatsL
     rw [List.getElem?_map, List.getElem?_range hk]
     rfl
   rw [hv, e]
   obtain ⟨e1, e2⟩ := inQ_lo gx gy
   have m1 := (hP _).2 e1
   have m2 := (hP _).2 e2
   obtain ⟨g1, ⟨qa, qa1, qa2⟩, qb, qb1, qb2⟩ := h.bd k v hv (List.ne_nil_of_mem m1)
   have b1 := (g1 _ m1).1
   have b2 := (g1 _ m2).2
   rw [bQ_lo] at b1
   rw [bQ_hi] at b2
   have b3 := bQ_in ((hP _).1 qa1) (p := (k : Int)) (by omega)
   have b4 := bQ_in ((hP _).1 qb1) (p := (k : Int)) (by omega)
   congr 1
   apply Prod.ext
   · show v.1 = (beatP x y k).1
     omega
   · show v.2 = (beatP x y k).2
     omega
 · rw [List.getElem?_eq_none (by rw [h.n]; exact hk), List.getElem?_eq_none (by rw [beatsL_length]; exact hk)]
end Go.Proofs.Ytlahdenlmmlplaa
end

section
/-
 law05: VoiceAll, walked.
-/
namespace Go.Proofs.Ytlahdenlmmlplaa
set_option linter.unusedSimpArgs false
set_option linter.unusedVariables false
open Go.RowKit
section
variable {P : Program} {op : Oper} {a : Act} {K : Act → World → Prop} {Q : Exit → Act → World → Prop} {w0 w : World} {ex : Nat → Prop} {L : List (Nat × BA)} {E : List (Nat × Value)} {df : List Deferred} {t n : Nat}
end
def allB (b : Bx) (x y : Snd) : Bx := { b with lows := [x], highs := [y] }
end Go.Proofs.Ytlahdenlmmlplaa
end

section
/-
 Plain law: whatever the tongues truly are, the verdicts are right.
-/
namespace Go.Proofs.Ytlahdenlmmlplaa
set_option linter.unusedSimpArgs false
set_option linter.unusedVariables false
open Go.RowKit
def rightB (v : Int) (is : Bool) : Bool := (decide (v = 3) || (decide (v = 1) && is)) || (decide (v = 2) && !is)
theorem keepsP_or (l : Lw) (due : Int) (ts : List Snd) : keepsP l due ts = 1 ∨ keepsP l due ts = 2 ∨ keepsP l due ts = 3 := by
 unfold keepsP
 split
 · exact .inl rfl
 · split
   · exact .inr (.inl rfl)
   · exact .inr (.inr rfl)
theorem rightB_of {l : Lw} {due : Int} {ts : List Snd} {is : Bool} (h1 : keepsP l due ts = 1 → is = true) (h2 : keepsP l due ts = 2 → is = false) : rightB (keepsP l due ts) is = true := by
 unfold rightB
 rcases keepsP_or l due ts with h | h | h
 · rw [h1 h, h]; rfl
 · rw [h2 h, h]; rfl
 · rw [h]; rfl
structure ChQ (l : Lw) (due : Int) (ts : List Snd) (i : Nat) (v : Int × Int) (is : Bool) : Prop where
 a : surelyL l due ts = true → is = true
 b : is = true → i = 0 ∨ v ∈ nowL l due (ts.take i)
 c : i = 0 ∨ ∃ y, ts[i - 1]? = some y ∧ v ∈ allOf y
theorem ChQ.start (l : Lw) (due : Int) (ts : List Snd) (v : Int × Int) : ChQ l due ts 0 v true := ⟨fun _ => rfl, fun _ => .inl rfl, .inl rfl⟩
theorem ChQ.step {l : Lw} {due : Int} {ts : List Snd} {i : Nat} {v v' : Int × Int} {is : Bool} {y : Snd} (h : ChQ l due ts i v is) (hy : ts[i]? = some y) (gs : ∀ z ∈ ts, z.good) (hs : 0 ≤ l.span) (hv : v' ∈ allOf y) :
   ChQ l due ts (i + 1) v' (is && (decide ((i : Int) = 0) || agreeP l due (v'.1 - v.1) (v'.2 - v.2))) := by
 obtain ⟨h1, h2, h3⟩ := h
 refine ⟨fun hsu => ?_, fun hi => ?_, .inr ⟨y, by simpa using hy, hv⟩⟩
 · rw [h1 hsu, Bool.true_and, Bool.or_eq_true, decide_eq_true_eq]
   rcases Nat.eq_zero_or_pos i with hi | hi
   · exact .inl (by omega)
   · right
     rcases h3 with h3 | ⟨x, hx, hvx⟩
     · omega
     · have hof := surelyL_iff.1 hsu (i - 1) x y hx (by rw [show i - 1 + 1 = i by omega]; exact hy)
       have gx := gs x (List.mem_of_getElem? hx)
       have gy := gs y (List.mem_of_getElem? hy)
       have hk := (sure_iff gx gy hs).1 hof (v.1, v.2, v'.1, v'.2) ⟨(mem_allOf.1 hvx).1, (mem_allOf.1 hvx).2, (mem_allOf.1 hv).1, (mem_allOf.1 hv).2⟩
       exact hk
 · right
   rw [Bool.and_eq_true, Bool.or_eq_true, decide_eq_true_eq] at hi
   obtain ⟨hi1, hi2⟩ := hi
   cases i with
   | zero =>
     cases ts with
     | nil => simp at hy
     | cons a r =>
       simp at hy
       subst hy
       simpa [nowL] using hv
   | succ k =>
     rw [nowL_take hy]
     rcases hi2 with hi2 | hi2
     · omega
     · rcases h2 hi1 with h5 | h5
       · omega
       · unfold stepN
         rw [List.mem_filter]
         exact ⟨hv, List.any_eq_true.2 ⟨v, h5, hi2⟩⟩
theorem ChQ.right {l : Lw} {due : Int} {ts : List Snd} {i : Nat} {v : Int × Int} {is : Bool} (h : ChQ l due ts i v is) (hi : ts.length ≤ i) : rightB (keepsP l due ts) is = true := by
 refine rightB_of (fun h1 => h.a (keepsP_one.1 h1)) fun h2 => ?_
 rcases Bool.eq_false_or_eq_true is with h3 | h3
 · obtain ⟨h4, h5⟩ := keepsP_two.1 h2
   rcases h.b h3 with h6 | h6
   · subst h6
     have : ts = [] := List.eq_nil_of_length_eq_zero (by omega)
     subst this
     simp [surelyL] at h4
   · rw [List.take_of_length_le hi, h5] at h6
     cases h6
 · exact h3
end Go.Proofs.Ytlahdenlmmlplaa
end

section
/-
 law05: what the laws about boxes use.
-/
namespace Go.Proofs.Ytlahdenlmmlplaa
set_option linter.unusedSimpArgs false
set_option linter.unusedVariables false
open Go.RowKit
def placeF (v : Int) : List Int → Nat → Int
 | [], _ => -1
 | x :: r, k => if x = v then (k : Int) else placeF v r (k + 1)
def placeP (l : List Int) (v : Int) : Int := placeF v l 0
set_option maxRecDepth 100000 in
set_option maxHeartbeats 1000000 in
theorem place_any (A : Option Addr) (m c : Nat) (l : List Int) (v : Int) (w : World) (hr : Rd w w.heap.size 1 A m (ic l)) (hm : m ≤ 1000000) :
   Calls Try.prog 30 #[.slice A m c, .int .i64 v] w fun e w' => e = .returned (.int .i64 (placeP l v)) ∧ Below w.heap.size w w' := by
 have hml := hr.len1
 obtain ⟨bA, oA, SA⟩ := Sp.old hr
 refine px_enter noEx Try.func30 rfl 19 rfl [.slice A m c, .int .i64 v] rfl rfl (Mem.init w _) ?_
 intro ac wc T M
 refine wp_seq ?_
 refine wp_region_lit ?_
 refine lq T (rn_assign rfl evc) ?_; clear T ac; intro ac T
 refine wpList_nil ?_
 replace T := T.pick [1, 2] rfl
 refine nm_then ?_
 refine wp_seq ?_
 refine wp_seq ?_
 refine wp_region_lit ?_
 refine lq T (rn_assign rfl evc) ?_; clear T ac; intro ac T
 refine wpList_nil ?_
 refine nm_then ?_
 refine wp_block ?_
 refine wp_loop_n (fun mz ac wc => ∃ (k : Nat), mz = m - k ∧ (k ≤ m) ∧ (placeP l v = placeF v (l.drop k) k) ∧ Tm ac 19 [(0, .slice A m c), (1, .int .i64 v), (5, .int .i64 (k : Int))] ∧ Mem w noEx wc []) ?_ ?_
 ·exact ⟨_, 0, rfl, (Nat.zero_le _), rfl, T.pick [1, 2, 0] rfl, M.mask [] rfl⟩
 clear T M
 rintro mz ac wc ⟨k, hmm1, hk, H, T, M⟩
 refine wp_seq ?_
 refine wp_seq ?_
 refine wp_region_lit ?_
 refine lq T (rn_move rfl (T.ev 2 rfl)) ?_; clear T ac; intro ac T
 refine lq T (rn_move rfl (T.ev 1 rfl)) ?_; clear T ac; intro ac T
 refine lq T (rn_lenS rfl Try.underlying22 (T.ev 0 rfl)) ?_; clear T ac; intro ac T
 refine lq T (rn_lss rfl (T.ev 2 rfl) (T.ev 0 rfl)) ?_; clear T ac; intro ac T
 refine wpList_nil ?_
 replace T := T.pick [0, 4, 5, 6] rfl
 refine nm_then ?_
 refine wp_if (T.ev 0 rfl) ?_ ?_
 ·intro h1
  obtain ⟨x, hkx, hdx⟩ := ic_next (l := l) (k := k) (by omega)
  rw [hdx, placeF] at H
  refine wp_skip ?_
  refine nm_then ?_
  refine wp_seq ?_
  refine wp_block ?_
  refine wp_seq ?_
  refine wp_region_lit ?_
  refine lq T (rn_move rfl (T.ev 1 rfl)) ?_; clear T ac; intro ac T
  refine lq T (rn_move rfl (T.ev 4 rfl)) ?_; clear T ac; intro ac T
  refine lq T (rn_indexAddr (size := 1) k rfl (T.ev 1 rfl) (T.ev 0 rfl) ⟨_, Try.underlying22, by kernel_rfl⟩ rfl (by omega) (SA.at0 (by omega))) ?_; clear T ac; intro ac T
  refine lq T (rn_cell (Sp.ic0 SA M (List.nil_sublist _) hkx) rfl (T.ev 0 rfl)) ?_; clear T ac; intro ac T
  refine lq T (rn_move rfl (T.ev 6 rfl)) ?_; clear T ac; intro ac T
  refine lq T (rn_eql rfl (T.ev 1 rfl) (T.ev 0 rfl)) ?_; clear T ac; intro ac T
  refine wpList_nil ?_
  replace T := T.pick [0, 7, 8, 9] rfl
  refine nm_then ?_
  refine wp_if (T.ev 0 rfl) ?_ ?_
  ·intro h2
   refine wp_seq ?_
   refine wp_region_lit ?_
   refine lq T (rn_move rfl (T.ev 3 rfl)) ?_; clear T ac; intro ac T
   refine lq T (rn_assign rfl (T.ev 0 rfl)) ?_; clear T ac; intro ac T
   refine wpList_nil ?_
   replace T := T.pick [0] rfl
   refine nm_then ?_
   refine wp_ret ?_
   refine rt_blk ?_
   refine rt_then ?_
   refine rt_then ?_
   refine rt_blk ?_
   refine rt_then ?_
   refine rt_1 T rfl (T.ev 0 rfl) ?_
   rw [if_pos (by omega)] at H
   exact ⟨ret_int H.symm, M.below⟩
  intro h2
  refine wp_skip ?_
  refine nm_blk ?_
  refine nm_then ?_
  refine wp_region_lit ?_
  refine lq T (rn_move rfl (T.ev 3 rfl)) ?_; clear T ac; intro ac T
  refine lq T (rn_add rfl (T.ev 0 rfl) evc (by omega)) ?_; clear T ac; intro ac T
  refine l_q (v := (.int .i64 ((k : Int) + 1))) (T.pick [0, 1, 2, 3, 4] rfl) rfl rfl rfl rfl (rn_assign rfl (T.ev 0 rfl)) ?_; clear T ac; intro ac T
  refine wpList_nil ?_
  replace T := T.pick [0, 4, 5] rfl
  refine nm_then ?_
  exact ⟨_, by omega, k + 1, rfl, (by omega), (by rw [if_neg (by omega)] at H; exact H), T.pick [1, 2, 0] rfl, M.mask [] rfl⟩
 intro h1
 rw [List.drop_of_length_le (by omega), placeF] at H
 refine wp_exit ?_
 refine ex_then ?_
 refine ex_then ?_
 refine ex_hit ?_
 refine nm_then ?_
 refine wp_seq ?_
 refine wp_region_lit ?_
 refine lq T (rn_assign rfl evc) ?_; clear T ac; intro ac T
 refine wpList_nil ?_
 replace T := T.pick [0] rfl
 refine nm_then ?_
 refine wp_ret ?_
 refine rt_1 T rfl (T.ev 0 rfl) ?_
 exact ⟨ret_int H.symm, M.below⟩
theorem pair_at {b : Bx} {i k : Nat} {x y : Snd} (gb : b.good) (hx : b.lows[i]? = some x) (hy : b.highs[k]? = some y) : checkPB b i k = 0 ∧ b.low i = x ∧ b.high k = y := by
 have h1 := (List.getElem?_eq_some_iff.1 hx).1
 have h2 := (List.getElem?_eq_some_iff.1 hy).1
 refine ⟨?_, ?_, ?_⟩
 · unfold checkPB
   rw [if_neg (by rw [checkB_good.2 gb]; simp), if_neg (by simp; omega)]
 · unfold Bx.low
   rw [List.getD_eq_getElem?_getD, Int.toNat_natCast, hx]
   rfl
 · unfold Bx.high
   rw [List.getD_eq_getElem?_getD, Int.toNat_natCast, hy]
   rfl
theorem Beat_at (b : Bx) (A : Option Addr) (c : Nat) (B : Option Addr) (d : Nat) (i k : Nat) (x y : Snd) (w : World) (hA : Rd w w.heap.size 4 A b.lows.length (sc b.lows)) (hB : Rd w w.heap.size 4 B b.highs.length (sc b.highs)) (gb : b.good) (hx : b.lows[i]? = some x) (hy : b.highs[k]? = some y) :
   Calls Try.prog 21 #[bxV b A c B d, .int .i64 (i : Int), .int .i64 (k : Int)] w fun e w' => ∃ A' c' I, e = .returned (.tuple #[.slice A' (beatsL b.law x y).length c', .int .i64 0]) ∧ (∃ b1 o1, ∀ (w : World) (ex : Nat → Prop), Sp w ex I A' (beatsL b.law x y).length 2 b1 o1 (rc (beatsL b.law x y))) ∧ Mem w noEx w' I := by
 have h4 := gb.lows.1
 have h5 := gb.highs.1
 refine Calls.mono (Beat_any b A c B d i k w hA hB (by omega) (by omega)) fun e w' h => ?_
 obtain ⟨A', c', I, rfl, h2, h3⟩ := h
 obtain ⟨e1, e2, e3⟩ := pair_at gb hx hy
 have hb : beatE b i k = beatsL b.law x y := by unfold beatE; rw [if_pos e1, e2, e3]
 rw [hb] at h2
 rw [hb, e1]
 exact ⟨A', c', I, rfl, h2.spV (rc_length _), h3⟩
def PairsPost (b : Bx) (w : World) (e : Ending) (w' : World) : Prop := ∃ (A : Option Addr) (c : Nat) (LL : List LE) (I : List (Nat × BA)), e = .returned (.tuple #[.slice A LL.length c, .int .i64 0]) ∧ LL.map (·.1) = tableP b ∧ (∃ b o, ∀ (w : World) (ex : Nat → Prop), Sp w ex I A LL.length 1 b o (lc LL)) ∧ Els LL I ∧ Mem w noEx w' I
theorem vCheck_good (b : Bx) (A : Option Addr) (c : Nat) (B : Option Addr) (d : Nat) (w : World) (hA : Rd w w.heap.size 4 A b.lows.length (sc b.lows)) (hB : Rd w w.heap.size 4 B b.highs.length (sc b.highs)) (gb : b.good) : Calls Try.prog 67 #[bxV b A c B d] w fun e w' => e = .returned (.int .i64 0) ∧ Below w.heap.size w w' := by
 have h4 := gb.lows.1
 have h5 := gb.highs.1
 have h9 := vCheck_any b A c B d w hA hB (by omega) (by omega)
 rw [checkB_good.2 gb] at h9
 exact h9
set_option maxRecDepth 100000 in
set_option maxHeartbeats 1000000 in
theorem Pairs_good (b : Bx) (A : Option Addr) (c : Nat) (B : Option Addr) (d : Nat) (w : World) (hA : Rd w w.heap.size 4 A b.lows.length (sc b.lows)) (hB : Rd w w.heap.size 4 B b.highs.length (sc b.highs)) (gb : b.good) :
   Calls Try.prog 29 #[bxV b A c B d] w (PairsPost b w) := by
 have hlA := hA.len4
 have hlB := hB.len4
 obtain ⟨bA, oA, SA⟩ := Sp.old hA
 obtain ⟨bB, oB, SB⟩ := Sp.old hB
 refine px_enter noEx Try.func29 rfl 12 rfl [.agg #[.int .i64 b.first, .int .i64 b.step, .int .i64 b.span, .int .i64 b.press, .int .i64 b.note, .slice A b.lows.length c, .slice B b.highs.length d, .int .i64 b.t0, .int .i64 b.t1, .int .i64 b.r0, .int .i64 b.r1, .int .i64 b.u0, .int .i64 b.u1, .int .i64 b.d0, .int .i64 b.d1, .int .i64 b.a0, .int .i64 b.a1, .int .i64 b.b0, .int .i64 b.b1, .int .i64 b.le, .int .i64 b.me]] rfl rfl (Mem.init w _) ?_
 intro ac wc T M
 refine wp_seq ?_
 refine wp_region_lit ?_
 refine l_w rfl ?_; intro K hK
 refine ow_bx M T rfl rfl rfl rfl (T.ev 0 rfl) rfl ?_; clear M T; intro g1 wc ac M T
 refine sh_out hK _ _ ?_; clear hK K
 refine lq T (rn_assign rfl evc) ?_; clear T ac; intro ac T
 refine lq T (rn_assign rfl evc) ?_; clear T ac; intro ac T
 refine wpList_nil ?_
 replace T := T.pick [2] rfl
 refine nm_then ?_
 refine wp_seq ?_
 refine wp_seq ?_
 refine wp_region_lit ?_
 refine lq T (rn_rowO (Mem.nth M 0 rfl) rfl (T.ev 0 rfl) rfl) ?_; clear T ac; intro ac T
 refine l_w rfl ?_; intro K hK
 refine ow_call (first := []) (cap := []) T rfl rfl rfl rfl evf (.cons (T.ev 0 rfl) .nil) Try.func67 rfl rfl ?_
 refine Calls.mono (vCheck_good b _ _ _ _ _ (SA.rd M (List.nil_sublist _)) (SB.rd M (List.nil_sublist _)) gb) ?_
 clear T
 rintro e wc ⟨rfl, hb⟩
 intro ac T
 replace M := M.call hb; clear hb
 refine sh_out hK _ _ ?_; clear hK K
 refine lq T (rn_assign rfl (T.ev 0 rfl)) ?_; clear T ac; intro ac T
 refine wpList_nil ?_
 replace T := T.pick [0, 3] rfl
 refine nm_then ?_
 refine wp_seq ?_
 refine wp_region_lit ?_
 refine lq T (rn_move rfl (T.ev 0 rfl)) ?_; clear T ac; intro ac T
 refine lq (v := (.bool false)) T (rn_neqof (rn_neq rfl (T.ev 0 rfl) evc) (by simp)) ?_; clear T ac; intro ac T
 refine wpList_nil ?_
 replace T := T.pick [0, 2, 3] rfl
 refine nm_then ?_
 refine wp_cond_false (T.ev 0 rfl) ?_
 refine wp_skip ?_
 refine nm_then ?_
 refine wp_seq ?_
 refine wp_region_lit ?_
 refine lq T (rn_rowO (Mem.nth M 0 rfl) rfl (T.ev 2 rfl) rfl) ?_; clear T ac; intro ac T
 refine l_w rfl ?_; intro K hK
 refine ow_call (first := []) (cap := []) T rfl rfl rfl rfl evf (.cons (T.ev 0 rfl) .nil) Try.func71 rfl rfl ?_
 refine Calls.mono (table_any b A c B d _ (SA.rd M (List.nil_sublist _)) (SB.rd M (List.nil_sublist _)) gb) ?_
 clear T
 rintro e wc ⟨Au2, cu2, LLu2, Iu2, rfl, hLu2, hSu2, hEu2, N⟩
 intro ac T
 replace M := (M.join N).swapI
 replace M : Mem w noEx wc ((g1, .cells [.int .i64 b.first, .int .i64 b.step, .int .i64 b.span, .int .i64 b.press, .int .i64 b.note, .slice A b.lows.length c, .slice B b.highs.length d, .int .i64 b.t0, .int .i64 b.t1, .int .i64 b.r0, .int .i64 b.r1, .int .i64 b.u0, .int .i64 b.u1, .int .i64 b.d0, .int .i64 b.d1, .int .i64 b.a0, .int .i64 b.a1, .int .i64 b.b0, .int .i64 b.b1, .int .i64 b.le, .int .i64 b.me]) :: Iu2) := M
 clear N
 refine sh_out hK _ _ ?_; clear hK K
 refine lq T (rn_assign rfl (T.ev 0 rfl)) ?_; clear T ac; intro ac T
 refine lq T (rn_assign rfl evc) ?_; clear T ac; intro ac T
 refine wpList_nil ?_
 replace T := T.pick [0, 1] rfl
 replace M := M.mask [false] rfl
 refine nm_then ?_
 refine wp_ret ?_
 refine rt_2 T rfl (T.ev 1 rfl) (T.ev 0 rfl) ?_
 exact ⟨Au2, cu2, LLu2, Iu2, rfl, hLu2, hSu2, hEu2, M.sub (List.Sublist.refl _)⟩
end Go.Proofs.Ytlahdenlmmlplaa
end

section
/-
 Plain law: the first pairing with the most pairs, and how many there may be.
-/
namespace Go.Proofs.Ytlahdenlmmlplaa
set_option linter.unusedSimpArgs false
set_option linter.unusedVariables false
open Go.RowKit
def okList (may : Nat → Nat → Bool) : Nat → List Int → Bool
 | _, [] => true
 | i, h :: r => (decide (h < 0) || may i h.toNat) && okList may (i + 1) r
theorem prs_prefix (may : Nat → Nat → Bool) (highs : Nat) : ∀ (r : Nat) (l p : List Int), p ∈ prsP may highs r l → ∃ t, p = l ++ t ∧ t.length = r
 | 0, l, p, h => by
   simp only [prsP, List.mem_cons, List.not_mem_nil, or_false] at h
   exact ⟨[], by simp [h], rfl⟩
 | r + 1, l, p, h => by
   unfold prsP at h
   rcases List.mem_append.1 h with h | h
   · obtain ⟨k, _, hk⟩ := List.mem_flatMap.1 h
     split at hk
     · obtain ⟨t, rfl, ht⟩ := prs_prefix may highs r _ p hk
       exact ⟨(k : Int) :: t, by simp, by simp [ht]⟩
     · cases hk
   · obtain ⟨t, rfl, ht⟩ := prs_prefix may highs r _ p h
     exact ⟨-1 :: t, by simp, by simp [ht]⟩
theorem filter_flatMap' {α β : Type} (f : α → List β) (p : β → Bool) : ∀ l : List α, (l.flatMap f).filter p = l.flatMap fun a => (f a).filter p
 | [] => rfl
 | a :: l => by rw [List.flatMap_cons, List.filter_append, filter_flatMap' f p l, List.flatMap_cons]
theorem okDrop {may : Nat → Nat → Bool} {highs r : Nat} {l p : List Int} {x : Int} (h : p ∈ prsP anyP highs r (l ++ [x])) : okList may l.length (p.drop l.length) = ((decide (x < 0) || may l.length x.toNat) && okList may (l ++ [x]).length (p.drop (l ++ [x]).length)) := by
 obtain ⟨t, rfl, _⟩ := prs_prefix anyP highs r _ p h
 have e1 : ((l ++ [x]) ++ t).drop l.length = x :: t := by rw [List.append_assoc, List.drop_left]; rfl
 have e2 : ((l ++ [x]) ++ t).drop (l ++ [x]).length = t := List.drop_left
 rw [e1, e2, okList, List.length_append]
 rfl
theorem prs_filter (may : Nat → Nat → Bool) (highs : Nat) : ∀ (r : Nat) (l : List Int), prsP may highs r l = (prsP anyP highs r l).filter fun p => okList may l.length (p.drop l.length)
 | 0, l => by simp [prsP, okList]
 | r + 1, l => by
   have key : ∀ x : Int, (prsP anyP highs r (l ++ [x])).filter (fun p => okList may l.length (p.drop l.length)) = if (decide (x < 0) || may l.length x.toNat) = true then prsP may highs r (l ++ [x]) else [] := fun x => by
     rw [List.filter_congr (q := fun p => (decide (x < 0) || may l.length x.toNat) && okList may (l ++ [x]).length (p.drop (l ++ [x]).length)) (fun p hp => okDrop hp)]
     split
     · rename_i h
       rw [prs_filter may highs r (l ++ [x])]
       simp only [h, Bool.true_and]
     · rename_i h
       simp only [Bool.not_eq_true] at h
       simp only [h, Bool.false_and]
       exact List.filter_eq_nil_iff.2 (by simp)
   conv => lhs; unfold prsP
   conv => rhs; unfold prsP
   rw [List.filter_append, filter_flatMap', key (-1)]
   congr 1
   congr 1
   funext h
   by_cases hm : (h : Int) ∈ l
   · have g1 : goP may l h = false := by simp [goP, hm]
     have g2 : goP anyP l h = false := by simp [goP, hm]
     rw [if_neg (by simp [g1]), if_neg (by simp [g2])]
     rfl
   · have g1 : goP may l h = may l.length h := by simp [goP, hm]
     have g2 : goP anyP l h = true := by simp [goP, hm, anyP]
     have e1 : decide ((h : Int) < 0) = false := by rw [decide_eq_false_iff_not]; omega
     rw [g1, if_pos g2, key (h : Int), e1, Bool.false_or, Int.toNat_natCast]
def okTp (T : List (List Int)) (ok : Int → Bool) (p : List Int) : Bool := okList (tabP T ok) 0 p
theorem mostO_eq (T : List (List Int)) (ok : Int → Bool) (lows highs : Nat) : mostO T ok lows highs = ((prsP anyP highs lows []).filter (okTp T ok)).foldl offerP none := by
 unfold mostO growP
 rw [prs_filter]
 rfl
def stAp : Option (List Int) → List Int × Int
 | none => ([], -1)
 | some b => (b, pairsP b)
def stepAp (ok : List Int → Bool) (s : List Int × Int) (p : List Int) : List Int × Int := if ok p = true ∧ s.2 < pairsP p then (p, pairsP p) else s
def stBp : Option (List Int) → Int
 | none => 0
 | some b => pairsP b
def stepBp (ok : List Int → Bool) (m : Int) (p : List Int) : Int := if ok p = true then max m (pairsP p) else m
theorem fold_mem : ∀ (L : List (List Int)) (o : Option (List Int)) (b : List Int), L.foldl offerP o = some b → b ∈ L ∨ o = some b
 | [], o, b, h => .inr h
 | p :: L, o, b, h => by
   rw [List.foldl_cons] at h
   rcases fold_mem L _ b h with h1 | h1
   · exact .inl (List.mem_cons_of_mem _ h1)
   · cases o with
     | none => simp only [offerP, Option.some.injEq] at h1; exact .inl (by rw [h1]; exact List.mem_cons_self)
     | some q =>
       by_cases h2 : pairsP q < pairsP p
       · simp only [offerP, h2, if_true, Option.some.injEq] at h1; exact .inl (by rw [h1]; exact List.mem_cons_self)
       · simp only [offerP, h2, if_false] at h1; exact .inr h1
theorem fold_some : ∀ (L : List (List Int)) (o : Option (List Int)), (L ≠ [] ∨ o.isSome = true) → ∃ b, L.foldl offerP o = some b
 | [], o, h => by
   rcases h with h | h
   · exact absurd rfl h
   · exact Option.isSome_iff_exists.1 h
 | p :: L, o, _ => by
   rw [List.foldl_cons]
   obtain ⟨x, hx⟩ := offerP_some o p
   exact fold_some L _ (.inr (by rw [hx]; rfl))
theorem mostO_some (T : List (List Int)) (ok : Int → Bool) (lows highs : Nat) : ∃ b, mostO T ok lows highs = some b ∧ b ∈ prsP (tabP T ok) highs lows [] := by
 have h := (prsP_len (tabP T ok) highs lows []).1
 obtain ⟨b, hb⟩ := fold_some (prsP (tabP T ok) highs lows []) none (.inl (List.ne_nil_of_length_pos h))
 refine ⟨b, hb, ?_⟩
 rcases fold_mem _ _ b hb with h1 | h1
 · exact h1
 · cases h1
structure PairOk (highs : Nat) (p : List Int) : Prop where
 rng : ∀ x ∈ p, -1 ≤ x ∧ x < highs
 dif : p.Pairwise fun a b => 0 ≤ a → a ≠ b
theorem PairOk.nil (highs : Nat) : PairOk highs [] := ⟨fun x hx => (by cases hx), List.Pairwise.nil⟩
theorem PairOk.snoc {highs : Nat} {l : List Int} {x : Int} (h : PairOk highs l) (hx : -1 ≤ x ∧ x < highs) (hn : 0 ≤ x → x ∉ l) : PairOk highs (l ++ [x]) := by
 refine ⟨fun y hy => ?_, List.pairwise_append.2 ⟨h.dif, List.pairwise_singleton _ _, fun a ha b hb h0 e => ?_⟩⟩
 · rcases List.mem_append.1 hy with hy | hy
   · exact h.rng y hy
   · simp only [List.mem_cons, List.not_mem_nil, or_false] at hy
     subst hy
     exact hx
 · simp only [List.mem_cons, List.not_mem_nil, or_false] at hb
   subst hb
   subst e
   exact hn h0 ha
theorem prs_ok (may : Nat → Nat → Bool) (highs : Nat) : ∀ (r : Nat) (l : List Int), PairOk highs l → ∀ p ∈ prsP may highs r l, PairOk highs p
 | 0, l, h, p, hp => by
   simp only [prsP, List.mem_cons, List.not_mem_nil, or_false] at hp
   subst hp
   exact h
 | r + 1, l, h, p, hp => by
   unfold prsP at hp
   rcases List.mem_append.1 hp with hp | hp
   · obtain ⟨k, hk, hp⟩ := List.mem_flatMap.1 hp
     split at hp
     · rename_i hg
       have hk2 := List.mem_range.1 hk
       refine prs_ok may highs r _ (h.snoc (by omega) fun _ hm => ?_) p hp
       unfold goP at hg
       rw [List.contains_iff_mem.2 hm] at hg
       simp at hg
     · cases hp
   · exact prs_ok may highs r _ (h.snoc (by omega) fun h0 => by omega) p hp
theorem most_ok (T : List (List Int)) (ok : Int → Bool) (lows highs : Nat) : PairOk highs (mostP T ok lows highs) ∧ (mostP T ok lows highs).length = lows ∧ okTp T ok (mostP T ok lows highs) = true := by
 obtain ⟨b, hb, hm⟩ := mostO_some T ok lows highs
 have e : mostP T ok lows highs = b := by unfold mostP; rw [hb]; rfl
 rw [e]
 refine ⟨prs_ok _ highs lows [] (PairOk.nil highs) b hm, ?_, ?_⟩
 · obtain ⟨t, rfl, ht⟩ := prs_prefix _ highs lows [] b hm
   simpa using ht
 · rw [prs_filter] at hm
   exact (List.mem_filter.1 hm).2
theorem place_from (v : Int) : ∀ (l : List Int) (k i : Nat), l[i]? = some v → (∀ j, j < i → l[j]? ≠ some v) → placeF v l k = (k + i : Nat)
 | [], k, i, h, _ => by simp at h
 | x :: l, k, 0, h, _ => by
   simp at h
   rw [placeF, if_pos h]
   simp
 | x :: l, k, i + 1, h, hn => by
   have h0 := hn 0 (by omega)
   simp at h0
   rw [placeF, if_neg h0, place_from v l (k + 1) i (by simpa using h) (fun j hj => by have := hn (j + 1) (by omega); simpa using this)]
   congr 1
   omega
theorem PairOk.place {highs : Nat} {p : List Int} {i : Nat} {v : Int} (h : PairOk highs p) (hv : p[i]? = some v) (h0 : 0 ≤ v) : placeP p v = (i : Int) := by
 unfold placeP
 rw [place_from v p 0 i hv (fun j hj e => ?_)]
 · simp
 · have h1 := (List.getElem?_eq_some_iff.1 hv).1
   have h2 := List.pairwise_iff_getElem.1 h.dif j i (by omega) h1 hj
   rw [List.getElem?_eq_getElem (by omega)] at e hv
   injection e with e
   injection hv with hv
   rw [e, hv] at h2
   exact h2 h0 rfl
end Go.Proofs.Ytlahdenlmmlplaa
end

section
/-
 law05: VoiceMost, walked.
-/
namespace Go.Proofs.Ytlahdenlmmlplaa
set_option linter.unusedSimpArgs false
set_option linter.unusedVariables false
open Go.RowKit
theorem mostL_ok {b : Bx} (ok : Int → Bool) : PairOk b.highs.length (mostL b ok) ∧ (mostL b ok).length = b.lows.length := ⟨(most_ok _ ok _ _).1, (most_ok _ ok _ _).2.1⟩
theorem Match_good (b : Bx) (A : Option Addr) (c : Nat) (B : Option Addr) (d : Nat) (w : World) (hA : Rd w w.heap.size 4 A b.lows.length (sc b.lows)) (hB : Rd w w.heap.size 4 B b.highs.length (sc b.highs)) (gb : b.good) :
   Calls Try.prog 27 #[bxV b A c B d] w fun e w' => ∃ A' c' I, e = .returned (.tuple #[.slice A' (mostL b okA).length c', .int .i64 0]) ∧ (∃ b1 o1, ∀ (w : World) (ex : Nat → Prop), Sp w ex I A' (mostL b okA).length 1 b1 o1 (ic (mostL b okA))) ∧ Mem w noEx w' I := by
 have h4 := gb.lows.1
 have h5 := gb.highs.1
 refine Calls.mono (Match_any b A c B d w hA hB (by omega) (by omega)) fun e w' h => ?_
 rw [show matchE b = (mostL b okA, 0) by unfold matchE; rw [if_pos (checkB_good.2 gb)]] at h
 obtain ⟨A', c', I, rfl, _, h2, h3⟩ := h
 exact ⟨A', c', I, rfl, h2, h3⟩
end Go.Proofs.Ytlahdenlmmlplaa
end

section
/-
 kit: boxes copied, and their tongues written in place.
-/
namespace Go.Proofs.Ytlahdenlmmlplaa
set_option linter.unusedSimpArgs false
set_option linter.unusedVariables false
open Go.RowKit
theorem Try.append0s (B : Option Addr) (d g : Nat) (ty : TypeId) (w : World) : (Builtin.append_ #[38, 38] ty #[.slice (some ⟨g, 0, none⟩) 0 0, .slice B 0 d]).run Try.prog w = .ok (.slice (some ⟨g, 0, none⟩) 0 0) w := by
 cases B <;> kernel_rfl
theorem sc_one (l : List Snd) : ∀ u ∈ sc l, u.oneCell' = true := by
 intro u hu
 obtain ⟨p, _, hp⟩ := List.mem_flatMap.1 hu
 simp only [sndC, List.mem_cons, List.not_mem_nil, or_false] at hp
 rcases hp with rfl | rfl | rfl | rfl <;> rfl
section
variable {P : Program} {op : Oper} {a : Act} {K : Act → World → Prop} {Q : Exit → Act → World → Prop} {w0 w : World} {ex : Nat → Prop} {L0 L : List (Nat × BA)} {E : List (Nat × Value)} {t n : Nat}
theorem ow_appE {s x : Operand} {ty e size bytes b m d : Nat} {B : Option Addr} {z : Value} {cs : List Value}
   (hinfo : (P.info? e).map (fun i => (i.zero, i.size, i.bytes)) = some (some z, size, bytes)) (M : Mem w0 ex w ((b, .any fun o => o = .cells #[] e) :: L)) (T : Tm a n E)
   (ho : op.op = .call { callee := .builtin .append, args := #[s, x], argTypes := #[ty, ty] }) (hd : op.dst = some t) (hf : freshE E t = true) (hnn : Nat.blt t n = true)
   (h0 : ∀ g (w : World), (Builtin.append_ #[ty, ty] op.type #[.slice (some ⟨g, 0, none⟩) 0 0, .slice B 0 d]).run P w = .ok (.slice (some ⟨g, 0, none⟩) 0 0) w)
   (ht : P.underlying ty = some (.slice e)) (hzs : z.cells.size = size) (hsz : Nat.blt 0 size = true) (hby : Nat.ble bytes 1000 = true) (hm : m ≤ 1000000)
   (hs : a.eval s = .slice (some ⟨b, 0, none⟩) 0 0) (hx : a.eval x = .slice B m d) (hr : Rd w w.heap.size size B m cs) (h1 : ∀ u ∈ cs, u.oneCell' = true)
   (h : ∀ g cap' ys w' a', Mem w0 ex w' ((g, .cells (cs ++ ys)) :: L) → Tm a' n ((t, .slice (some ⟨g, 0, none⟩) m cap') :: E) → K a' w') : op.wp P a w K Q := by
 rcases Nat.eq_zero_or_pos m with rfl | hm0
 · obtain rfl : cs = [] := List.eq_nil_of_length_eq_zero (by have := hr.1; omega)
   unfold Oper.wp execOp
   simp only [ho, resolve, invoke, builtin, Sem.run_bind, Sem.run_pure, Result.andThen_ok, List.map_toArray, List.map_cons, List.map_nil, hs, hx, h0]
   refine h b 0 [] w _ ⟨M.os, M.tape, M.output, M.size, M.block, ?_, M.nd⟩ (by rw [hd]; exact T.put hnn hf _)
   intro p hp
   rcases List.mem_cons.1 hp with rfl | hp
   · obtain ⟨h2, o, ho2, rfl⟩ := M.blk _ List.mem_cons_self
     exact ⟨h2, Bk.of_heap (cur := #[]) ho2⟩
   · exact M.blk p (List.mem_cons_of_mem _ hp)
 · obtain ⟨i, hi, hz0, hz1, hz2⟩ := info_parts hinfo
   obtain ⟨g2, o2, rfl, hlt, hc⟩ := hr.cells hm0
   have hby := Nat.le_of_ble_eq_true hby
   have hsz := Nat.le_of_ble_eq_true hsz
   have hbb : (0 + m) * bytes ≤ 140737488355328 := by
     have : (0 + m) * bytes ≤ 1000000 * 1000 := Nat.mul_le_mul (by omega) hby
     omega
   obtain ⟨h2, o, hge, rfl⟩ := M.blk (b, .any fun o => o = .cells #[] e) List.mem_cons_self
   have hgl : b < w.heap.size := (Array.getElem?_eq_some_iff.1 hge).1
   refine wp_append_lies w s x ty ho b e i z size bytes ht hi hz0 hz1 hz2 hzs hsz _ 0 [] hs ⟨by simp, .inr ⟨b, 0, #[], rfl, Nat.le_refl _, hge, by omega, by unfold maxLen; omega, by simp, by simp⟩⟩ ⟨g2, o2, none⟩ m d cs hx hr.1 (fun j u hu => by rw [Addr.add_mid]; exact hc j u hu) h1 hm0 (by unfold maxLen; omega) hbb (Nat.le_of_lt hgl) w.heap.size rfl ?_
   intro g cap' w' hown hgr hat hlt2
   have hgr : w.grownBy w' (some b) := hgr
   simp only [Nat.zero_add, List.nil_append] at hown
   have key : Mem w0 ex w' ((g, .row e size m cs cap') :: L) := by
     rcases hat with h3 | h3
     · have h3 : some b = some g := h3
       injection h3 with h3
       subst h3
       exact M.callW (L' := (b, .row e size m cs cap') :: L) .head hgr (own_rebase hown hm0)
     · have M1 := M.callW (L' := (b, .any (fun _ => True)) :: L) .head hgr (by
         have hl0 : b < w'.heap.size := Nat.lt_of_lt_of_le hgl hgr.size
         exact ⟨w'.heap[b], Array.getElem?_eq_getElem hl0, trivial⟩)
       exact M1.forget.add (by rw [h3]; exact M.size) (own_rebase hown hm0) (fun q hq e => by have := BA.lt (M.blk q (List.mem_cons_of_mem _ hq)).2; omega)
   obtain ⟨⟨hl, hb⟩, hk⟩ := (key.blk _ List.mem_cons_self).2
   rcases hb with ⟨hb, _⟩ | ⟨g', cap2, cur, e1, _, hg, hc1, hc2, hc3, hc4⟩
   · cases hb
   · injection e1 with e1 _ _
     injection e1 with e1
     injection e1 with e1 _ _
     subst e1
     refine h g cap' (cur.toList.drop (m * size)) w' _ ⟨key.os, key.tape, key.output, key.size, key.block, ?_, key.nd⟩ (by rw [hd, Nat.zero_add]; exact T.put hnn hf _)
     intro p hp
     rcases List.mem_cons.1 hp with rfl | hp
     · refine ⟨(key.blk _ List.mem_cons_self).1, ?_⟩
       rw [← hc4, List.take_append_drop]
       exact Bk.of_heap hg
     · exact key.blk p (List.mem_cons_of_mem _ hp)
end
def CopyBPost (b : Bx) (w : World) (e : Ending) (w' : World) : Prop := ∃ g1 c1 ys1 g2 c2 ys2, e = .returned (bxV b (some ⟨g1, 0, none⟩) c1 (some ⟨g2, 0, none⟩) c2) ∧ Mem w noEx w' [(g1, .cells (sc b.lows ++ ys1)), (g2, .cells (sc b.highs ++ ys2))]
set_option maxRecDepth 100000 in
set_option maxHeartbeats 1000000 in
theorem copyBox_any (b : Bx) (A : Option Addr) (c : Nat) (B : Option Addr) (d : Nat) (w : World) (hA : Rd w w.heap.size 4 A b.lows.length (sc b.lows)) (hB : Rd w w.heap.size 4 B b.highs.length (sc b.highs)) (nA : b.lows.length ≤ 1000000) (nB : b.highs.length ≤ 1000000)  :
   Calls Try.prog 31 #[bxV b A c B d] w (CopyBPost b w) := by
 have hlA := hA.len4
 have hlB := hB.len4
 obtain ⟨bA, oA, SA⟩ := Sp.old hA
 obtain ⟨bB, oB, SB⟩ := Sp.old hB
 refine px_enter noEx Try.func31 rfl 14 rfl [.agg #[.int .i64 b.first, .int .i64 b.step, .int .i64 b.span, .int .i64 b.press, .int .i64 b.note, .slice A b.lows.length c, .slice B b.highs.length d, .int .i64 b.t0, .int .i64 b.t1, .int .i64 b.r0, .int .i64 b.r1, .int .i64 b.u0, .int .i64 b.u1, .int .i64 b.d0, .int .i64 b.d1, .int .i64 b.a0, .int .i64 b.a1, .int .i64 b.b0, .int .i64 b.b1, .int .i64 b.le, .int .i64 b.me]] rfl rfl (Mem.init w _) ?_
 intro ac wc T M
 refine wp_seq ?_
 refine wp_region_lit ?_
 refine l_w rfl ?_; intro K hK
 refine ow_bx M T rfl rfl rfl rfl (T.ev 0 rfl) rfl ?_; clear M T; intro g1 wc ac M T
 refine sh_out hK _ _ ?_; clear hK K
 refine l_w rfl ?_; intro K hK
 refine ow_al M T rfl rfl rfl rfl ?_; clear M T; intro g2 wc ac M T
 refine sh_out hK _ _ ?_; clear hK K
 refine wpList_nil ?_
 replace T := T.pick [0, 1] rfl
 refine nm_then ?_
 refine wp_seq ?_
 refine g_start2 M (M.perm [0] rfl rfl) 12 (by kernel_rfl) rfl (by kernel_rfl) ?_
 clear M; intro wc M
 refine g_addG 9 M ?_
 refine gq (v := (.pointer (some ⟨g1, 5, none⟩))) T 1 2 rfl (fun _ _ _ _ _ => (rn_fieldAddr (off := 5) rfl (T.ev 1 rfl) (fun _ _ _ => by kernel_rfl))) ?_; clear T ac; intro ac T
 refine gq T 2 6 rfl (fun B w' hD hl hS => (rn_one (Mem.nth (show Mem w noEx w' _ from ((MA.lft hS) (hD.wait (i := 2) (m := 9) (by kernel_rfl) hl))) 1 rfl) rfl (T.ev 0 rfl) rfl)) ?_; clear T ac; intro ac T
 refine gq (v := (.pointer (some ⟨g1, 6, none⟩))) T 5 38 rfl (fun _ _ _ _ _ => (rn_fieldAddr (off := 6) rfl (T.ev 3 rfl) (fun _ _ _ => by kernel_rfl))) ?_; clear T ac; intro ac T
 refine gq T 6 102 rfl (fun B w' hD hl hS => (rn_one (Mem.nth (show Mem w noEx w' _ from ((MA.lft hS) (hD.wait (i := 6) (m := 9) (by kernel_rfl) hl))) 1 rfl) rfl (T.ev 0 rfl) rfl)) ?_; clear T ac; intro ac T
 refine g_m2 (i := 0) (j := 4) (by kernel_rfl) ?_ ?_
 ·refine gi 103 ?_; intro K hK
  refine ow_bs0 (e := 48) M T rfl rfl rfl rfl (fun _ => by kernel_rfl) ?_; clear M T; intro gr1_0 wc ac M T
  refine sh_out hK _ _ (MA.mk (fun _ => M.mask [false, true, true] rfl) (M.mask [false, true, false] rfl)) ?_; clear hK K
  refine g_m2 (i := 3) (j := 4) (by kernel_rfl) ?_ ?_
  ·refine gi 111 ?_; intro K hK
   refine ow_appE Try.info48 M T rfl rfl rfl rfl (fun g w => Try.append0s _ _ g _ w) Try.underlying38 rfl rfl rfl (by omega) (T.ev 0 rfl) (T.ev 3 rfl) (SA.rd M (List.nil_sublist _)) (sc_one _) ?_; clear M T; intro ge1_3 ce1_3 ys1_3 wc ac M T
   refine sh_out hK _ _ (MA.mk (fun _ => M.mask [false, true, true] rfl) (M.mask [false, true, false] rfl)) ?_; clear hK K
   refine gq (v := (.pointer (some ⟨g1, 5, none⟩))) T 8 367 rfl (fun _ _ _ _ _ => (rn_fieldAddr (off := 5) rfl (T.ev 7 rfl) (fun _ _ _ => by kernel_rfl))) ?_; clear T ac; intro ac T
   refine gw 4 383 ?_; intro K hK
   refine ow_bs0 (e := 48) M T rfl rfl rfl rfl (fun _ => by kernel_rfl) ?_; clear M T; intro gr1_4 wc ac M T
   refine sh_out hK _ _ (MA.mk (fun _ => M.mask [false, false, true, true] rfl) (M.mask [false, false, true, false] rfl)) ?_; clear hK K
   refine gw 7 511 ?_; intro K hK
   refine ow_appE Try.info48 M T rfl rfl rfl rfl (fun g w => Try.append0s _ _ g _ w) Try.underlying38 rfl rfl rfl (by omega) (T.ev 0 rfl) (T.ev 4 rfl) (SB.rd M (List.nil_sublist _)) (sc_one _) ?_; clear M T; intro ge1_7 ce1_7 ys1_7 wc ac M T
   refine sh_out hK _ _ (MA.mk (fun _ => M.mask [false, false, true, true] rfl) (M.mask [false, false, true, false] rfl)) ?_; clear hK K
   refine gw 9 1023 ?_; intro K hK
   refine ow_stO M T rfl rfl (T.ev 2 rfl) (T.ev 3 rfl) rfl (.tail (.tail (.tail .head))) rfl (by simp) rfl (by kernel_rfl) ?_; clear M T; intro wc ac M T
   refine sh_out hK _ _ (MA.mk (fun h => (no_of (by kernel_rfl) h).elim) (M.mask [false, false, true, false] rfl)) ?_; clear hK K
   refine gq (v := (.pointer (some ⟨g1, 6, none⟩))) T 10 2047 rfl (fun _ _ _ _ _ => (rn_fieldAddr (off := 6) rfl (T.ev 10 rfl) (fun _ _ _ => by kernel_rfl))) ?_; clear T ac; intro ac T
   refine gw 11 4095 ?_; intro K hK
   refine ow_stO M T rfl rfl (T.ev 0 rfl) (T.ev 1 rfl) rfl (.tail (.tail (.tail .head))) rfl (by simp) rfl (by kernel_rfl) ?_; clear M T; intro wc ac M T
   refine sh_out hK _ _ (MA.mk (fun h => (no_of (by kernel_rfl) h).elim) (M.mask [false, false, true, false] rfl)) ?_; clear hK K
   refine g_done (by kernel_rfl) ?_
   replace T := T.pick [10, 11] rfl
   refine nm_then ?_
   refine wp_seq ?_
   refine wp_region_lit ?_
   refine lq T (rn_rowO (Mem.nth M 3 rfl) rfl (T.ev 1 rfl) rfl) ?_; clear T ac; intro ac T
   refine l_w rfl ?_; intro K hK
   refine ow_stO M T rfl rfl (T.ev 1 rfl) (T.ev 0 rfl) rfl (.tail (.tail .head)) rfl (by simp) rfl (by kernel_rfl) ?_; clear M T; intro wc ac M T
   refine sh_out hK _ _ ?_; clear hK K
   refine wpList_nil ?_
   replace T := T.pick [1] rfl
   replace M := M.mask [true, true, true, false] rfl
   refine nm_then ?_
   refine wp_ret ?_
   refine rt_c M T rfl (T.ev 0 rfl) (nthE_mem (i := 2) rfl) rfl ?_
   exact ⟨ge1_3, ce1_3, ys1_3, ge1_7, ce1_7, ys1_7, rfl, M.perm [1, 0] rfl rfl⟩
  refine gi 119 ?_; intro K hK
  refine ow_bs0 (e := 48) M T rfl rfl rfl rfl (fun _ => by kernel_rfl) ?_; clear M T; intro gr1_4 wc ac M T
  refine sh_out hK _ _ (MA.mk (fun _ => M.mask [false, false, true, true] rfl) (M.mask [false, false, true, false] rfl)) ?_; clear hK K
  refine gw 3 127 ?_; intro K hK
  replace M := M.permT [1, 0, 2, 3] 4 rfl rfl rfl rfl
  refine ow_appE Try.info48 M T rfl rfl rfl rfl (fun g w => Try.append0s _ _ g _ w) Try.underlying38 rfl rfl rfl (by omega) (T.ev 1 rfl) (T.ev 4 rfl) (SA.rd M (List.nil_sublist _)) (sc_one _) ?_; clear M T; intro ge1_3 ce1_3 ys1_3 wc ac M T
  refine sh_out hK _ _ (MA.mk (fun _ => M.mask [false, false, true, true] rfl) (M.mask [false, false, true, false] rfl)) ?_; clear hK K
  refine gq (v := (.pointer (some ⟨g1, 5, none⟩))) T 8 383 rfl (fun _ _ _ _ _ => (rn_fieldAddr (off := 5) rfl (T.ev 8 rfl) (fun _ _ _ => by kernel_rfl))) ?_; clear T ac; intro ac T
  refine gw 7 511 ?_; intro K hK
  replace M := M.permT [1, 0, 2, 3] 4 rfl rfl rfl rfl
  refine ow_appE Try.info48 M T rfl rfl rfl rfl (fun g w => Try.append0s _ _ g _ w) Try.underlying38 rfl rfl rfl (by omega) (T.ev 2 rfl) (T.ev 4 rfl) (SB.rd M (List.nil_sublist _)) (sc_one _) ?_; clear M T; intro ge1_7 ce1_7 ys1_7 wc ac M T
  refine sh_out hK _ _ (MA.mk (fun _ => M.mask [false, false, true, true] rfl) (M.mask [false, false, true, false] rfl)) ?_; clear hK K
  refine gw 9 1023 ?_; intro K hK
  refine ow_stO M T rfl rfl (T.ev 1 rfl) (T.ev 2 rfl) rfl (.tail (.tail (.tail .head))) rfl (by simp) rfl (by kernel_rfl) ?_; clear M T; intro wc ac M T
  refine sh_out hK _ _ (MA.mk (fun h => (no_of (by kernel_rfl) h).elim) (M.mask [false, false, true, false] rfl)) ?_; clear hK K
  refine gq (v := (.pointer (some ⟨g1, 6, none⟩))) T 10 2047 rfl (fun _ _ _ _ _ => (rn_fieldAddr (off := 6) rfl (T.ev 10 rfl) (fun _ _ _ => by kernel_rfl))) ?_; clear T ac; intro ac T
  refine gw 11 4095 ?_; intro K hK
  refine ow_stO M T rfl rfl (T.ev 0 rfl) (T.ev 1 rfl) rfl (.tail (.tail (.tail .head))) rfl (by simp) rfl (by kernel_rfl) ?_; clear M T; intro wc ac M T
  refine sh_out hK _ _ (MA.mk (fun h => (no_of (by kernel_rfl) h).elim) (M.mask [false, false, true, false] rfl)) ?_; clear hK K
  refine g_done (by kernel_rfl) ?_
  replace T := T.pick [10, 11] rfl
  refine nm_then ?_
  refine wp_seq ?_
  refine wp_region_lit ?_
  refine lq T (rn_rowO (Mem.nth M 3 rfl) rfl (T.ev 1 rfl) rfl) ?_; clear T ac; intro ac T
  refine l_w rfl ?_; intro K hK
  refine ow_stO M T rfl rfl (T.ev 1 rfl) (T.ev 0 rfl) rfl (.tail (.tail .head)) rfl (by simp) rfl (by kernel_rfl) ?_; clear M T; intro wc ac M T
  refine sh_out hK _ _ ?_; clear hK K
  refine wpList_nil ?_
  replace T := T.pick [1] rfl
  replace M := M.mask [true, true, true, false] rfl
  refine nm_then ?_
  refine wp_ret ?_
  refine rt_c M T rfl (T.ev 0 rfl) (nthE_mem (i := 2) rfl) rfl ?_
  exact ⟨ge1_3, ce1_3, ys1_3, ge1_7, ce1_7, ys1_7, rfl, M.perm [1, 0] rfl rfl⟩
 refine gi 118 ?_; intro K hK
 refine ow_bs0 (e := 48) M T rfl rfl rfl rfl (fun _ => by kernel_rfl) ?_; clear M T; intro gr1_4 wc ac M T
 refine sh_out hK _ _ (MA.mk (fun _ => M.mask [false, true, true] rfl) (M.mask [false, true, false] rfl)) ?_; clear hK K
 refine gw 0 119 ?_; intro K hK
 refine ow_bs0 (e := 48) M T rfl rfl rfl rfl (fun _ => by kernel_rfl) ?_; clear M T; intro gr1_0 wc ac M T
 refine sh_out hK _ _ (MA.mk (fun _ => M.mask [false, false, true, true] rfl) (M.mask [false, false, true, false] rfl)) ?_; clear hK K
 refine gw 3 127 ?_; intro K hK
 refine ow_appE Try.info48 M T rfl rfl rfl rfl (fun g w => Try.append0s _ _ g _ w) Try.underlying38 rfl rfl rfl (by omega) (T.ev 0 rfl) (T.ev 4 rfl) (SA.rd M (List.nil_sublist _)) (sc_one _) ?_; clear M T; intro ge1_3 ce1_3 ys1_3 wc ac M T
 refine sh_out hK _ _ (MA.mk (fun _ => M.mask [false, false, true, true] rfl) (M.mask [false, false, true, false] rfl)) ?_; clear hK K
 refine gq (v := (.pointer (some ⟨g1, 5, none⟩))) T 8 383 rfl (fun _ _ _ _ _ => (rn_fieldAddr (off := 5) rfl (T.ev 8 rfl) (fun _ _ _ => by kernel_rfl))) ?_; clear T ac; intro ac T
 refine gw 7 511 ?_; intro K hK
 replace M := M.permT [1, 0, 2, 3] 4 rfl rfl rfl rfl
 refine ow_appE Try.info48 M T rfl rfl rfl rfl (fun g w => Try.append0s _ _ g _ w) Try.underlying38 rfl rfl rfl (by omega) (T.ev 3 rfl) (T.ev 4 rfl) (SB.rd M (List.nil_sublist _)) (sc_one _) ?_; clear M T; intro ge1_7 ce1_7 ys1_7 wc ac M T
 refine sh_out hK _ _ (MA.mk (fun _ => M.mask [false, false, true, true] rfl) (M.mask [false, false, true, false] rfl)) ?_; clear hK K
 refine gw 9 1023 ?_; intro K hK
 refine ow_stO M T rfl rfl (T.ev 1 rfl) (T.ev 2 rfl) rfl (.tail (.tail (.tail .head))) rfl (by simp) rfl (by kernel_rfl) ?_; clear M T; intro wc ac M T
 refine sh_out hK _ _ (MA.mk (fun h => (no_of (by kernel_rfl) h).elim) (M.mask [false, false, true, false] rfl)) ?_; clear hK K
 refine gq (v := (.pointer (some ⟨g1, 6, none⟩))) T 10 2047 rfl (fun _ _ _ _ _ => (rn_fieldAddr (off := 6) rfl (T.ev 10 rfl) (fun _ _ _ => by kernel_rfl))) ?_; clear T ac; intro ac T
 refine gw 11 4095 ?_; intro K hK
 refine ow_stO M T rfl rfl (T.ev 0 rfl) (T.ev 1 rfl) rfl (.tail (.tail (.tail .head))) rfl (by simp) rfl (by kernel_rfl) ?_; clear M T; intro wc ac M T
 refine sh_out hK _ _ (MA.mk (fun h => (no_of (by kernel_rfl) h).elim) (M.mask [false, false, true, false] rfl)) ?_; clear hK K
 refine g_done (by kernel_rfl) ?_
 replace T := T.pick [10, 11] rfl
 refine nm_then ?_
 refine wp_seq ?_
 refine wp_region_lit ?_
 refine lq T (rn_rowO (Mem.nth M 3 rfl) rfl (T.ev 1 rfl) rfl) ?_; clear T ac; intro ac T
 refine l_w rfl ?_; intro K hK
 refine ow_stO M T rfl rfl (T.ev 1 rfl) (T.ev 0 rfl) rfl (.tail (.tail .head)) rfl (by simp) rfl (by kernel_rfl) ?_; clear M T; intro wc ac M T
 refine sh_out hK _ _ ?_; clear hK K
 refine wpList_nil ?_
 replace T := T.pick [1] rfl
 replace M := M.mask [true, true, true, false] rfl
 refine nm_then ?_
 refine wp_ret ?_
 refine rt_c M T rfl (T.ev 0 rfl) (nthE_mem (i := 2) rfl) rfl ?_
 exact ⟨ge1_3, ce1_3, ys1_3, ge1_7, ce1_7, ys1_7, rfl, M.perm [1, 0] rfl rfl⟩
end Go.Proofs.Ytlahdenlmmlplaa
end

section
/-
 Plain law: what is known better loses no verdict.
-/
namespace Go.Proofs.Ytlahdenlmmlplaa
set_option linter.unusedSimpArgs false
set_option linter.unusedVariables false
open Go.RowKit
def narS (x y : Snd) : Prop := (y.t0 ≤ x.t0 ∧ x.t0 ≤ x.t1 ∧ x.t1 ≤ y.t1) ∧ y.s0 ≤ x.s0 ∧ x.s0 ≤ x.s1 ∧ x.s1 ≤ y.s1
theorem narS.good {x y : Snd} (h : narS x y) (g : y.good) : x.good := by
 obtain ⟨a1, a2⟩ := g
 obtain ⟨b1, b2⟩ := h
 exact ⟨by omega, by omega⟩
theorem fold_max : ∀ (L : List (List Int)) (o : Option (List Int)) (b : List Int), L.foldl offerP o = some b → (∀ p ∈ L, pairsP p ≤ pairsP b) ∧ ∀ q, o = some q → pairsP q ≤ pairsP b
 | [], o, b, h => ⟨fun p hp => (by cases hp), fun q hq => by rw [hq] at h; injection h with h; rw [h]; omega⟩
 | p :: L, o, b, h => by
   rw [List.foldl_cons] at h
   obtain ⟨h1, h2⟩ := fold_max L _ b h
   have key : pairsP p ≤ pairsP b ∧ ∀ q, o = some q → pairsP q ≤ pairsP b := by
     cases o with
     | none => exact ⟨h2 p rfl, fun q hq => by cases hq⟩
     | some r =>
       by_cases h3 : pairsP r < pairsP p
       · have h4 := h2 p (by simp [offerP, h3])
         exact ⟨h4, fun q hq => by injection hq with hq; subst hq; omega⟩
       · have h4 := h2 r (by simp [offerP, h3])
         exact ⟨by omega, fun q hq => by injection hq with hq; subst hq; exact h4⟩
   refine ⟨fun z hz => ?_, key.2⟩
   rcases List.mem_cons.1 hz with rfl | hz
   · exact key.1
   · exact h1 z hz
theorem most_max (T : List (List Int)) (ok : Int → Bool) (lows highs : Nat) {p : List Int} (hp : p ∈ prsP anyP highs lows []) (ho : okTp T ok p = true) : pairsP p ≤ pairsP (mostP T ok lows highs) := by
 obtain ⟨b, hb, _⟩ := mostO_some T ok lows highs
 have e : mostP T ok lows highs = b := by unfold mostP; rw [hb]; rfl
 rw [e]
 rw [mostO_eq] at hb
 exact (fold_max _ _ b hb).1 p (List.mem_filter.2 ⟨hp, ho⟩)
theorem tabP_table {b : Bx} {i k : Nat} : tabP (tableP b) okA i k = true ↔ ∃ x y, b.lows[i]? = some x ∧ b.highs[k]? = some y ∧ keepsP b.law b.due [x, y] = 1 := by
 unfold tabP tableP
 rw [List.getD_eq_getElem?_getD (l := b.lows.map (rowP b)), List.getElem?_map]
 cases hx : b.lows[i]? with
 | none => simp [okA]
 | some x =>
   show okA ((rowP b x).getD k 0) = true ↔ _
   unfold rowP
   rw [List.getD_eq_getElem?_getD, List.getElem?_map]
   cases hy : b.highs[k]? with
   | none => simp [okA]
   | some y => simp [okA]
structure NarL (l l' : List Snd) : Prop where
 n : l'.length = l.length
 nar : ∀ (i : Nat) (x x' : Snd), l[i]? = some x → l'[i]? = some x' → narS x' x
theorem NarL.at {l l' : List Snd} (h : NarL l l') {i : Nat} {x : Snd} (hx : l[i]? = some x) : ∃ x', l'[i]? = some x' ∧ narS x' x := by
 have h1 := (List.getElem?_eq_some_iff.1 hx).1
 have hn := h.n
 exact ⟨l'[i], List.getElem?_eq_getElem (by omega), h.nar i x _ hx (List.getElem?_eq_getElem (by omega))⟩
theorem NarL.good {l l' : List Snd} (h : NarL l l') (g : ∀ x ∈ l, x.good) : ∀ x ∈ l', x.good := fun x hx => by
 obtain ⟨i, hi⟩ := List.getElem?_of_mem hx
 have h1 := (List.getElem?_eq_some_iff.1 hi).1
 have hn := h.n
 exact (h.nar i _ x (List.getElem?_eq_getElem (by omega)) hi).good (g _ (List.getElem_mem _))
structure NarK (l l' : List Snd) (k : Nat) : Prop where
 n : l'.length = l.length
 a : ∀ (i : Nat) (x x' : Snd), i < k → l[i]? = some x → l'[i]? = some x' → narS x' x
theorem NarK.start (l : List Snd) : NarK l l 0 := ⟨rfl, fun _ _ _ h => absurd h (Nat.not_lt_zero _)⟩
theorem NarK.step {l l' l2 : List Snd} {k : Nat} {x x' : Snd} (h : NarK l l' k) (hk : k < l.length) (hx : l[k]? = some x) (h2 : l2 = l'.set k x') (hn : narS x' x) : NarK l l2 (k + 1) := by
 subst h2
 refine ⟨by rw [List.length_set, h.n], fun i z z' hi hz hz' => ?_⟩
 rcases Nat.lt_or_ge i k with h1 | h1
 · rw [List.getElem?_set_ne (by omega)] at hz'
   exact h.a i z z' h1 hz hz'
 · obtain rfl : i = k := by omega
   rw [List.getElem?_set_self (by rw [h.n]; exact hk)] at hz'
   injection hz' with hz'
   rw [hx] at hz
   injection hz with hz
   rw [← hz, ← hz']
   exact hn
theorem NarK.done {l l' : List Snd} {k : Nat} (h : NarK l l' k) (hk : l.length ≤ k) : NarL l l' := ⟨h.n, fun i x x' hx hx' => h.a i x x' (by have := (List.getElem?_eq_some_iff.1 hx).1; omega) hx hx'⟩
end Go.Proofs.Ytlahdenlmmlplaa
end

section
/-
 Plain: Hall's theorem, on lists of numbers.
-/
namespace Go.Proofs.Ytlahdenlmmlplaa
set_option linter.unusedSimpArgs false
set_option linter.unusedVariables false
theorem sub_count {α : Type} [DecidableEq α] : ∀ {V L : List α}, V.Sublist L → L.Nodup → L.countP (fun i => decide (i ∈ V)) = V.length
 | _, _, .slnil, _ => rfl
 | V, x :: L, .cons _ h, hn => by
   have hn2 := List.nodup_cons.1 hn
   have hx : x ∉ V := fun hm => hn2.1 (h.subset hm)
   rw [List.countP_cons, sub_count h hn2.2]
   simp [hx]
 | x :: V, _ :: L, .cons_cons _ h, hn => by
   have hn2 := List.nodup_cons.1 hn
   have hx : x ∉ L := hn2.1
   rw [List.countP_cons, List.length_cons]
   have e : L.countP (fun i => decide (i ∈ x :: V)) = L.countP (fun i => decide (i ∈ V)) := List.countP_congr fun i hi => by
     have : i ≠ x := fun e => hx (e ▸ hi)
     simp [this]
   rw [e, sub_count h hn2.2]
   simp
theorem countP_or {α : Type} {p q : α → Bool} : ∀ (L : List α), (∀ i ∈ L, ¬ (p i = true ∧ q i = true)) → L.countP (fun i => p i || q i) = L.countP p + L.countP q
 | [], _ => rfl
 | x :: L, h => by
   have h1 := h x List.mem_cons_self
   rw [List.countP_cons, List.countP_cons, List.countP_cons, countP_or L fun i hi => h i (List.mem_cons_of_mem _ hi)]
   cases hp : p x <;> cases hq : q x
   · simp
   · simp; omega
   · simp; omega
   · exact absurd ⟨hp, hq⟩ h1
theorem countP_le_or {α : Type} {p q r : α → Bool} (L : List α) (h : ∀ i ∈ L, r i = true → p i = true ∨ q i = true) : L.countP r ≤ L.countP p + L.countP q := by
 induction L with
 | nil => simp
 | cons x L ih =>
   have h1 := h x List.mem_cons_self
   have h2 := ih fun i hi => h i (List.mem_cons_of_mem _ hi)
   rw [List.countP_cons, List.countP_cons, List.countP_cons]
   cases hr : r x with
   | false => simp; omega
   | true =>
     rcases h1 hr with h3 | h3
     · simp [h3]; omega
     · simp [h3]; omega
def cntN (m : Nat) (a : Nat → Nat → Bool) (av : Nat → Bool) (U : List Nat) : Nat := (List.range m).countP fun k => av k && U.any fun i => a i k
theorem cntN_pos {m : Nat} {a : Nat → Nat → Bool} {av : Nat → Bool} {x : Nat} (h : 1 ≤ cntN m a av [x]) : ∃ k, k < m ∧ av k = true ∧ a x k = true := by
 unfold cntN at h
 obtain ⟨k, hk, hp⟩ := List.countP_pos_iff.1 h
 simp at hp
 exact ⟨k, List.mem_range.1 hk, hp.1, hp.2⟩
theorem cntN_less {m : Nat} {a : Nat → Nat → Bool} {av : Nat → Bool} {U : List Nat} (z : Nat) : cntN m a av U ≤ cntN m a (fun k => av k && decide (k ≠ z)) U + 1 := by
 unfold cntN
 have h1 : (List.range m).countP (fun k => decide (k = z)) ≤ 1 := by
   have := List.nodup_range (n := m)
   have h2 := List.nodup_iff_count.1 this z
   unfold List.count at h2
   have e : (List.range m).countP (fun k => decide (k = z)) = (List.range m).countP (fun k => k == z) := List.countP_congr fun i _ => by simp
   rw [e]
   exact h2
 have h2 := countP_le_or (p := fun k => (av k && decide (k ≠ z)) && U.any fun i => a i k) (q := fun k => decide (k = z)) (r := fun k => av k && U.any fun i => a i k) (List.range m) (fun k _ hr => by
   by_cases hz : k = z
   · right; simp [hz]
   · left
     rw [Bool.and_eq_true] at hr
     rw [Bool.and_eq_true, Bool.and_eq_true]
     exact ⟨⟨hr.1, by simp [hz]⟩, hr.2⟩)
 exact Nat.le_trans h2 (Nat.add_le_add_left h1 _)
theorem hall (m : Nat) (a : Nat → Nat → Bool) : ∀ (n : Nat) (L : List Nat) (av : Nat → Bool), L.length ≤ n → L.Nodup → (∀ U, U.Sublist L → U.length ≤ cntN m a av U) →
   ∃ g : Nat → Nat, (∀ i ∈ L, g i < m ∧ av (g i) = true ∧ a i (g i) = true) ∧ ∀ i ∈ L, ∀ j ∈ L, i ≠ j → g i ≠ g j
 | _, [], av, _, _, _ => ⟨fun _ => 0, ⟨fun i hi => (by cases hi), fun i hi => (by cases hi)⟩⟩
 | 0, x :: L, av, hl, _, _ => by simp at hl
 | n + 1, x :: L, av, hl, hn, hh => by
   have hn2 := List.nodup_cons.1 hn
   have hl2 : L.length ≤ n := by rw [List.length_cons] at hl; omega
   by_cases hc : ∃ U, U.Sublist L ∧ U ≠ [] ∧ cntN m a av U ≤ U.length
   · obtain ⟨U, hU, hU0, hUc⟩ := hc
     have hUl : 0 < U.length := List.length_pos_iff.2 hU0
     have hUn : U.Nodup := hn2.2.sublist hU
     obtain ⟨g1, g1a, g1b⟩ := hall m a n U av (Nat.le_trans hU.length_le hl2) hUn fun V hV => hh V ((hV.trans hU).cons x)
     have key : ∃ g : Nat → Nat, (∀ i ∈ (x :: L).filter (fun i => decide (i ∉ U)), g i < m ∧ (av (g i) && !(U.any fun i' => a i' (g i))) = true ∧ a i (g i) = true) ∧ ∀ i ∈ (x :: L).filter (fun i => decide (i ∉ U)), ∀ j ∈ (x :: L).filter (fun i => decide (i ∉ U)), i ≠ j → g i ≠ g j := by
       refine hall m a n ((x :: L).filter fun i => decide (i ∉ U)) (fun k => av k && !(U.any fun i' => a i' k)) ?_ (hn.filter _) fun V hV => ?_
       · have h1 := sub_count (hU.cons x) hn
         have h2 : ((x :: L).filter fun i => decide (i ∉ U)).length = (x :: L).countP fun i => decide (i ∉ U) := by rw [List.countP_eq_length_filter]
         have h3 := List.length_eq_countP_add_countP (fun i => decide (i ∈ U)) (l := x :: L)
         have h4 : (x :: L).countP (fun i => decide (i ∉ U)) = (x :: L).countP (fun i => decide ¬ (decide (i ∈ U)) = true) := List.countP_congr fun i _ => by simp
         rw [List.length_cons] at hl h3
         omega
       · have hVL : V.Sublist (x :: L) := hV.trans List.filter_sublist
         have hdis : ∀ i ∈ V, i ∉ U := fun i hi => by
           have := (List.mem_filter.1 (hV.subset hi)).2
           simpa using this
         have hW := hh ((x :: L).filter fun i => decide (i ∈ V) || decide (i ∈ U)) List.filter_sublist
         have e1 : ((x :: L).filter fun i => decide (i ∈ V) || decide (i ∈ U)).length = V.length + U.length := by
           rw [← List.countP_eq_length_filter, countP_or, sub_count hVL hn, sub_count (hU.cons x) hn]
           intro i _ h
           simp at h
           exact hdis i h.1 h.2
         have e2 : cntN m a av ((x :: L).filter fun i => decide (i ∈ V) || decide (i ∈ U)) ≤ cntN m a av U + cntN m a (fun k => av k && !(U.any fun i' => a i' k)) V := by
           unfold cntN
           refine countP_le_or _ fun k _ hr => ?_
           rw [Bool.and_eq_true] at hr
           obtain ⟨hr1, hr2⟩ := hr
           cases hu : U.any fun i' => a i' k with
           | true => left; rw [hr1]; rfl
           | false =>
             right
             obtain ⟨i, hi, hai⟩ := List.any_eq_true.1 hr2
             have hi2 := (List.mem_filter.1 hi).2
             rw [Bool.or_eq_true, decide_eq_true_eq, decide_eq_true_eq] at hi2
             have hiV : i ∈ V := by
               rcases hi2 with h | h
               · exact h
               · exact absurd (List.any_eq_true.2 ⟨i, h, hai⟩) (by rw [hu]; simp)
             have : (V.any fun i => a i k) = true := List.any_eq_true.2 ⟨i, hiV, hai⟩
             show (av k && !(U.any fun i' => a i' k) && V.any fun i => a i k) = true
             rw [hr1, hu, this]
             rfl
         omega
     obtain ⟨g2, g2a, g2b⟩ := key
     have hin : ∀ i ∈ x :: L, i ∉ U → i ∈ (x :: L).filter fun i => decide (i ∉ U) := fun i hi hu => List.mem_filter.2 ⟨hi, by simpa using hu⟩
     refine ⟨fun i => if i ∈ U then g1 i else g2 i, fun i hi => ?_, fun i hi j hj hij => ?_⟩
     · by_cases hu : i ∈ U
       · simp only [hu, if_true]; exact g1a i hu
       · simp only [hu, if_false]
         have h := g2a i (hin i hi hu)
         rw [Bool.and_eq_true] at h
         exact ⟨h.1, h.2.1.1, h.2.2⟩
     · by_cases hu : i ∈ U <;> by_cases hv : j ∈ U
       · simp only [hu, hv, if_true]; exact g1b i hu j hv hij
       · simp only [hu, hv, if_true, if_false]
         intro e
         have h := (g2a j (hin j hj hv)).2.1
         rw [Bool.and_eq_true, Bool.not_eq_true'] at h
         have h2 : (U.any fun i' => a i' (g2 j)) = true := List.any_eq_true.2 ⟨i, hu, by rw [← e]; exact (g1a i hu).2.2⟩
         rw [h.2] at h2
         cases h2
       · simp only [hu, hv, if_true, if_false]
         intro e
         have h := (g2a i (hin i hi hu)).2.1
         rw [Bool.and_eq_true, Bool.not_eq_true'] at h
         have h2 : (U.any fun i' => a i' (g2 i)) = true := List.any_eq_true.2 ⟨j, hv, by rw [e]; exact (g1a j hv).2.2⟩
         rw [h.2] at h2
         cases h2
       · simp only [hu, hv, if_false]; exact g2b i (hin i hi hu) j (hin j hj hv) hij
   · obtain ⟨z, hz1, hz2, hz3⟩ := cntN_pos (hh [x] (List.Sublist.cons_cons x (List.nil_sublist L)))
     obtain ⟨g, ga, gb⟩ := hall m a n L (fun k => av k && decide (k ≠ z)) hl2 hn2.2 fun U hU => by
       by_cases hU0 : U = []
       · simp [hU0]
       · have h1 := cntN_less (m := m) (a := a) (av := av) (U := U) z
         have h2 : ¬ cntN m a av U ≤ U.length := fun h => hc ⟨U, hU, hU0, h⟩
         omega
     refine ⟨fun i => if i = x then z else g i, fun i hi => ?_, fun i hi j hj hij => ?_⟩
     · by_cases hx : i = x
       · subst hx; simp only [if_true]; exact ⟨hz1, hz2, hz3⟩
       · simp only [hx, if_false]
         have h := ga i (by rcases List.mem_cons.1 hi with h | h; exact absurd h hx; exact h)
         rw [Bool.and_eq_true] at h
         exact ⟨h.1, h.2.1.1, h.2.2⟩
     · have mem : ∀ i ∈ x :: L, i ≠ x → i ∈ L := fun i hi hx => by rcases List.mem_cons.1 hi with h | h; exact absurd h hx; exact h
       have gz : ∀ i ∈ L, g i ≠ z := fun i hi => by
         have h := (ga i hi).2.1
         rw [Bool.and_eq_true, decide_eq_true_eq] at h
         exact h.2
       by_cases hx : i = x <;> by_cases hy : j = x
       · exact absurd (hx.trans hy.symm) hij
       · simp only [hx, hy, if_true, if_false]; exact fun e => gz j (mem j hj hy) e.symm
       · simp only [hx, hy, if_true, if_false]; exact gz i (mem i hi hx)
       · simp only [hx, hy, if_false]; exact gb i (mem i hi hx) j (mem j hj hy) hij
end Go.Proofs.Ytlahdenlmmlplaa
end

section
/-
 Plain law: a pairing for all lower tongues, or lower tongues that cannot all have one.
-/
namespace Go.Proofs.Ytlahdenlmmlplaa
set_option linter.unusedSimpArgs false
set_option linter.unusedVariables false
open Go.RowKit
def upsP (T : List (List Int)) (up : Int) (t : List Nat) : Int := t.foldl (fun u i => moreP u (T.getD i []) 0) up
theorem shortP_spec (T : List (List Int)) (n : Nat) : ∀ (k : Nat) (l : List Int) (first : Nat) (up : Int),
   (∀ r, shortP T n k l first up = some r → ∃ t : List Nat, r = l ++ t.map (fun i : Nat => (i : Int)) ∧ t.length = k ∧ t.Pairwise (· < ·) ∧ (∀ i ∈ t, first ≤ i ∧ i < n) ∧ sizeI (upsP T up t) < r.length) ∧
   (shortP T n k l first up = none → ∀ t : List Nat, t.length = k → t.Pairwise (· < ·) → (∀ i ∈ t, first ≤ i ∧ i < n) → l.length + k ≤ sizeI (upsP T up t))
 | 0, l, first, up => by
   refine ⟨fun r h => ?_, fun h t ht _ _ => ?_⟩
   · unfold shortP at h
     split at h
     · injection h with h
       subst h
       rename_i h2
       exact ⟨[], by simp, rfl, List.Pairwise.nil, (fun i hi => (by cases hi)), h2⟩
     · cases h
   · unfold shortP at h
     split at h
     · cases h
     · rename_i h2
       obtain rfl := List.length_eq_zero_iff.1 ht
       show l.length + 0 ≤ sizeI up
       omega
 | k + 1, l, first, up => by
   refine ⟨fun r h => ?_, fun h t ht hp hr => ?_⟩
   · unfold shortP at h
     obtain ⟨i, hi, h2⟩ := List.exists_of_findSome?_eq_some h
     have hi2 := List.mem_range'_1.1 hi
     obtain ⟨t, rfl, h3, h4, h5, h6⟩ := (shortP_spec T n k (l ++ [(i : Int)]) (i + 1) (moreP up (T.getD i []) 0)).1 r h2
     refine ⟨i :: t, by simp, by simp [h3], List.pairwise_cons.2 ⟨fun j hj => (by have := (h5 j hj).1; omega), h4⟩, fun j hj => ?_, h6⟩
     rcases List.mem_cons.1 hj with rfl | hj
     · omega
     · have := h5 j hj; omega
   · cases t with
     | nil => cases ht
     | cons i t =>
       unfold shortP at h
       have hi := hr i List.mem_cons_self
       have hp2 := List.pairwise_cons.1 hp
       have h2 := List.findSome?_eq_none_iff.1 h i (List.mem_range'_1.2 (by omega))
       have h3 := (shortP_spec T n k (l ++ [(i : Int)]) (i + 1) (moreP up (T.getD i []) 0)).2 h2 t (by simpa using ht) hp2.2 fun j hj => ⟨hp2.1 j hj, (hr j (List.mem_cons_of_mem _ hj)).2⟩
       rw [List.length_append, List.length_cons, List.length_nil] at h3
       show l.length + (k + 1) ≤ sizeI (upsP T (moreP up (T.getD i []) 0) t)
       omega
theorem sizeF_spec (T : List (List Int)) (n : Nat) : ∀ (d s : Nat), n + 1 - s = d →
   (∀ r, sizeF T n s = some r → ∃ q, s ≤ q ∧ 0 < q ∧ q ≤ n ∧ shortP T n q [] 0 0 = some r ∧ ∀ q', s ≤ q' → q' < q → 0 < q' → shortP T n q' [] 0 0 = none) ∧
   (sizeF T n s = none → ∀ q', s ≤ q' → q' ≤ n → 0 < q' → shortP T n q' [] 0 0 = none)
 | 0, s, hd => ⟨fun r h => (by rw [sizeF_end (by omega)] at h; cases h), fun _ q' h1 h2 _ => (by omega)⟩
 | d + 1, s, hd => by
   have ih := sizeF_spec T n d (s + 1) (by omega)
   by_cases h0 : s = 0
   · subst h0
     rw [sizeF_zero]
     refine ⟨fun r h => ?_, fun h q' h1 h2 h3 => ih.2 h q' (by omega) h2 h3⟩
     obtain ⟨q, h1, h2, h3, h4, h5⟩ := ih.1 r h
     exact ⟨q, by omega, h2, h3, h4, fun q' _ hb hc => h5 q' (by omega) hb hc⟩
   · cases hs : shortP T n s [] 0 0 with
     | some r0 =>
       rw [sizeF_some (by omega) (by omega) (by rw [hs]; rfl)]
       refine ⟨fun r h => ⟨s, Nat.le_refl _, by omega, by omega, h, fun q' h1 h2 => by omega⟩, fun h => by rw [hs] at h; cases h⟩
     | none =>
       rw [sizeF_none (by omega) (by omega) (by rw [hs]; rfl)]
       have key : ∀ (P : Nat → Prop), (∀ q', s + 1 ≤ q' → P q') → P s → ∀ q', s ≤ q' → P q' := fun P h1 h2 q' hq => by
         by_cases e : q' = s
         · rw [e]; exact h2
         · exact h1 q' (by omega)
       refine ⟨fun r h => ?_, fun h q' h1 h2 h3 => ?_⟩
       · obtain ⟨q, h1, h2, h3, h4, h5⟩ := ih.1 r h
         refine ⟨q, by omega, h2, h3, h4, fun q' ha hb hc => ?_⟩
         by_cases e : q' = s
         · rw [e]; exact hs
         · exact h5 q' (by omega) hb hc
       · by_cases e : q' = s
         · rw [e]; exact hs
         · exact ih.2 h q' (by omega) h2 h3
theorem moreP_has : ∀ (r : List Int) (up : Int) (h k : Nat), 0 ≤ up ∧ up < 32 → h + r.length ≤ 5 → k < 5 → hasI (moreP up r h) (k : Int) = (hasI up (k : Int) || (decide (h ≤ k) && okA (r.getD (k - h) 0)))
 | [], up, h, k, _, _, _ => by simp [moreP, okA]
 | v :: r, up, h, k, hu, hl, hk => by
   rw [List.length_cons] at hl
   unfold moreP
   have hu2 : 0 ≤ (if v = 1 then withI up h else up) ∧ (if v = 1 then withI up h else up) < 32 := by
     split
     · exact with_bd hu (by omega)
     · exact hu
   rw [moreP_has r _ (h + 1) k hu2 (by omega) hk]
   rcases Nat.lt_trichotomy k h with h1 | h1 | h1
   · have e1 : decide (h + 1 ≤ k) = false := decide_eq_false (by omega)
     have e2 : decide (h ≤ k) = false := decide_eq_false (by omega)
     rw [e1, e2, Bool.false_and, Bool.or_false, Bool.false_and, Bool.or_false]
     split
     · rw [with_has hu (by omega) (by omega), decide_eq_false (show ¬ (k : Int) = h by omega), Bool.or_false]
     · rfl
   · subst h1
     have e1 : decide (k + 1 ≤ k) = false := decide_eq_false (by omega)
     rw [e1, Bool.false_and, Bool.or_false, Nat.sub_self, decide_eq_true (Nat.le_refl k), Bool.true_and]
     show _ = (hasI up k || okA v)
     unfold okA
     by_cases hv : v = 1
     · rw [if_pos hv, with_has hu (by omega) (by omega), decide_eq_true hv, decide_eq_true rfl]
     · rw [if_neg hv, decide_eq_false hv, Bool.or_false]
   · have e1 : decide (h + 1 ≤ k) = true := decide_eq_true (by omega)
     have e2 : decide (h ≤ k) = true := decide_eq_true (by omega)
     rw [e1, e2, Bool.true_and, Bool.true_and, show k - h = (k - (h + 1)) + 1 by omega]
     have e3 : (v :: r).getD (k - (h + 1) + 1) 0 = r.getD (k - (h + 1)) 0 := rfl
     rw [e3]
     congr 1
     split
     · rw [with_has hu (by omega) (by omega), decide_eq_false (show ¬ (k : Int) = h by omega), Bool.or_false]
     · rfl
theorem upsP_has {T : List (List Int)} (hT : ∀ x ∈ T, x.length ≤ 5) : ∀ (t : List Nat) (up : Int) (k : Nat), 0 ≤ up ∧ up < 32 → k < 5 → hasI (upsP T up t) (k : Int) = (hasI up (k : Int) || t.any fun i => tabP T okA i k)
 | [], up, k, _, _ => by simp [upsP]
 | i :: t, up, k, hu, hk => by
   have hr : (T.getD i []).length ≤ 5 := by
     rw [List.getD_eq_getElem?_getD]
     cases h : T[i]? with
     | none => simp
     | some x => exact hT x (List.mem_of_getElem? h)
   show hasI (upsP T (moreP up (T.getD i []) 0) t) (k : Int) = _
   rw [upsP_has hT t _ k (moreP_bd _ _ 0 hu (by omega)) hk, moreP_has _ _ 0 k hu (by omega) hk, List.any_cons, decide_eq_true (Nat.zero_le k), Bool.true_and, Nat.sub_zero, Bool.or_assoc]
   rfl
def nearN (T : List (List Int)) (t : List Nat) : Nat := cntN 5 (tabP T okA) (fun _ => true) t
theorem upsP_size {T : List (List Int)} (hT : ∀ x ∈ T, x.length ≤ 5) (t : List Nat) : sizeI (upsP T 0 t) = nearN T t := by
 unfold sizeI nearN cntN
 refine List.countP_congr fun k hk => ?_
 have hk := List.mem_range.1 hk
 rw [upsP_has hT t 0 k (by omega) hk, has0 (by omega), Bool.false_or, Bool.true_and]
theorem prs_mem {m : Nat} : ∀ (r : Nat) (l t : List Int), t.length = r → PairOk m (l ++ t) → l ++ t ∈ prsP anyP m r l
 | 0, l, t, h, _ => by
   obtain rfl := List.length_eq_zero_iff.1 h
   simp [prsP]
 | r + 1, l, t, h, ok => by
   cases t with
   | nil => cases h
   | cons x t =>
     have hr := ok.rng x (by simp)
     have ok2 : PairOk m ((l ++ [x]) ++ t) := by simpa using ok
     have h2 := prs_mem r (l ++ [x]) t (by simpa using h) ok2
     rw [List.append_assoc] at h2
     unfold prsP
     rw [List.mem_append]
     rcases Int.lt_or_le x 0 with hx | hx
     · obtain rfl : x = -1 := by omega
       exact .inr h2
     · left
       rw [List.mem_flatMap]
       refine ⟨x.toNat, List.mem_range.2 (by omega), ?_⟩
       have e : ((x.toNat : Nat) : Int) = x := Int.toNat_of_nonneg hx
       rw [e]
       have hn : x ∉ l := fun hm => by
         have := List.pairwise_append.1 ok.dif
         exact this.2.2 x hm x (by simp) hx rfl
       have hg : goP anyP l x.toNat = true := by
         unfold goP anyP
         rw [e]
         simp [hn]
       rw [if_pos hg]
       exact h2
theorem okList_of {may : Nat → Nat → Bool} : ∀ (i : Nat) (l : List Int), (∀ (j : Nat) (h : Int), l[j]? = some h → h < 0 ∨ may (i + j) h.toNat = true) → okList may i l = true
 | _, [], _ => rfl
 | i, x :: l, h => by
   unfold okList
   rw [Bool.and_eq_true, Bool.or_eq_true]
   refine ⟨?_, okList_of (i + 1) l fun j y hy => ?_⟩
   · rcases h 0 x rfl with h1 | h1
     · exact .inl (decide_eq_true h1)
     · exact .inr h1
   · have := h (j + 1) y (by simpa using hy)
     rw [show i + 1 + j = i + (j + 1) by omega]
     exact this
theorem pairsP_full : ∀ {p : List Int}, (∀ x ∈ p, 0 ≤ x) → pairsP p = p.length
 | [], _ => rfl
 | x :: p, h => by
   unfold pairsP
   rw [if_pos (h x List.mem_cons_self), pairsP_full fun y hy => h y (List.mem_cons_of_mem _ hy), List.length_cons]
   omega
theorem pairsP_notfull : ∀ {p : List Int}, pairsP p = p.length → ∀ x ∈ p, 0 ≤ x
 | [], _, x, hx => by cases hx
 | y :: p, h, x, hx => by
   unfold pairsP at h
   have hb := pairsP_bd p
   rw [List.length_cons] at h
   by_cases hy : 0 ≤ y
   · rw [if_pos hy] at h
     rcases List.mem_cons.1 hx with rfl | hx
     · exact hy
     · exact pairsP_notfull (by omega) x hx
   · rw [if_neg hy] at h
     omega
theorem placeF_neg (v : Int) : ∀ (l : List Int) (k : Nat), placeF v l k < 0 ↔ v ∉ l
 | [], k => by simp [placeF]
 | x :: l, k => by
   unfold placeF
   by_cases h : x = v
   · rw [if_pos h]
     simp [h]
   · rw [if_neg h, placeF_neg v l (k + 1)]
     simp [Ne.symm h]
theorem placeP_neg {v : Int} {l : List Int} : placeP l v < 0 ↔ v ∉ l := placeF_neg v l 0
theorem full_iff {m : Nat} {p : List Int} (h : PairOk m p) : placeP p (-1) < 0 ↔ pairsP p = p.length := by
 rw [placeP_neg]
 refine ⟨fun hn => pairsP_full fun x hx => ?_, fun hf hm => ?_⟩
 · have := h.rng x hx
   have : x ≠ -1 := fun e => hn (e ▸ hx)
   omega
 · have := pairsP_notfull hf _ hm
   omega
theorem full_of_hall {T : List (List Int)} {n m : Nat} (htab : ∀ i k, tabP T okA i k = true → k < m) (hc : ∀ U : List Nat, U.Sublist (List.range n) → U.length ≤ nearN T U) : pairsP (mostP T okA n m) = n := by
 obtain ⟨g, ga, gb⟩ := hall 5 (tabP T okA) n (List.range n) (fun _ => true) (by simp) List.nodup_range hc
 have hlen : ((List.range n).map fun i => (g i : Int)).length = n := by simp
 have hat : ∀ (j : Nat) (h : Int), ((List.range n).map fun i => (g i : Int))[j]? = some h → j < n ∧ h = (g j : Int) := fun j h hj => by
   have hjn := (List.getElem?_eq_some_iff.1 hj).1
   rw [hlen] at hjn
   rw [List.getElem?_map, List.getElem?_range hjn] at hj
   exact ⟨hjn, by simpa using hj.symm⟩
 have ok : PairOk m ((List.range n).map fun i => (g i : Int)) := by
   refine ⟨fun x hx => ?_, ?_⟩
   · obtain ⟨i, hi, rfl⟩ := List.mem_map.1 hx
     have := htab i _ (ga i hi).2.2
     omega
   · rw [List.pairwise_map]
     refine List.Pairwise.imp_of_mem (R := fun a b => a ≠ b) (fun {a b} ha hb hab _ e => ?_) List.nodup_range
     exact gb a ha b hb hab (by exact_mod_cast e)
 have hm := prs_mem n [] _ hlen ok
 rw [List.nil_append] at hm
 have ho : okTp T okA ((List.range n).map fun i => (g i : Int)) = true := okList_of 0 _ fun j h hj => by
   obtain ⟨hjn, rfl⟩ := hat j h hj
   right
   rw [Nat.zero_add, Int.toNat_natCast]
   exact (ga j (List.mem_range.2 hjn)).2.2
 have h1 := most_max T okA n m hm ho
 rw [pairsP_full (fun x hx => by obtain ⟨i, _, rfl⟩ := List.mem_map.1 hx; omega), hlen] at h1
 have h2 := (pairsP_bd (mostP T okA n m)).2
 rw [(most_ok T okA n m).2.1] at h2
 omega
structure Wit (b : Bx) (t : List Nat) : Prop where
 asc : t.Pairwise (· < ·)
 lt : ∀ i ∈ t, i < b.lows.length
 few : nearN (tableP b) t < t.length
 least : ∀ t' : List Nat, t'.Pairwise (· < ·) → (∀ i ∈ t', i < b.lows.length) → t'.length < t.length → t'.length ≤ nearN (tableP b) t'
theorem tab_rows {b : Bx} (gb : b.good) : ∀ x ∈ tableP b, x.length ≤ 5 := fun x hx => by
 rw [(tableP_len b).2 x hx]
 exact gb.highs.1
theorem tab_lt {b : Bx} (i k : Nat) (h : tabP (tableP b) okA i k = true) : k < b.highs.length := by
 obtain ⟨x, y, _, hy, _⟩ := tabP_table.1 h
 exact (List.getElem?_eq_some_iff.1 hy).1
theorem wit_short {b : Bx} (gb : b.good) (hn : pairsP (mostL b okA) ≠ b.lows.length) : ∃ t : List Nat, shortE b = (t.map (fun i : Nat => (i : Int)), 0) ∧ Wit b t := by
 have hT := tab_rows gb
 have hs := sizeF_spec (tableP b) b.lows.length (b.lows.length + 1) 0 rfl
 have e9 : shortE b = ((sizeF (tableP b) b.lows.length 0).getD [], 0) := by
   unfold shortE
   rw [if_pos (checkB_good.2 gb), if_neg hn]
 cases hf : sizeF (tableP b) b.lows.length 0 with
 | none =>
   exfalso
   refine hn (full_of_hall tab_lt fun U hU => ?_)
   by_cases h0 : U.length = 0
   · omega
   have hul := hU.length_le
   rw [List.length_range] at hul
   have h1 := hs.2 hf U.length (Nat.zero_le _) hul (by omega)
   have h2 := (shortP_spec (tableP b) b.lows.length U.length [] 0 0).2 h1 U rfl (List.Pairwise.sublist hU List.pairwise_lt_range) fun i hi => ⟨Nat.zero_le _, List.mem_range.1 (hU.subset hi)⟩
   rw [upsP_size hT, List.length_nil, Nat.zero_add] at h2
   exact h2
 | some r =>
   obtain ⟨q, h1, h2, h3, h4, h5⟩ := hs.1 r hf
   obtain ⟨t, rfl, t1, t2, t3, t4⟩ := (shortP_spec (tableP b) b.lows.length q [] 0 0).1 r h4
   rw [List.nil_append] at hf
   refine ⟨t, by rw [e9, hf]; rfl, t2, fun i hi => (t3 i hi).2, ?_, fun t' a1 a2 a3 => ?_⟩
   · rw [upsP_size hT] at t4
     simpa using t4
   · by_cases h0 : t'.length = 0
     · omega
     have b1 := h5 t'.length (Nat.zero_le _) (by omega) (by omega)
     have b2 := (shortP_spec (tableP b) b.lows.length t'.length [] 0 0).2 b1 t' rfl a1 fun i hi => ⟨Nat.zero_le _, a2 i hi⟩
     rw [upsP_size hT, List.length_nil, Nat.zero_add] at b2
     exact b2
theorem short_none {b : Bx} (gb : b.good) (hn : pairsP (mostL b okA) = b.lows.length) : shortE b = ([], 11) := by
 unfold shortE
 rw [if_pos (checkB_good.2 gb), if_pos hn]
def goneN (t : List Nat) (gone : Nat) : Nat → List Nat
 | 0 => []
 | k + 1 => if k = gone then goneN t gone k else goneN t gone k ++ [t.getD k 0]
def goneL (L : List Snd) (t : List Nat) (gone : Nat) (k : Nat) : List Snd := (goneN t gone k).map fun i => L.getD i ⟨0, 0, 0, 0⟩
theorem goneL_yes (L : List Snd) (t : List Nat) {gone k : Nat} (h : k = gone) : goneL L t gone (k + 1) = goneL L t gone k := by
 unfold goneL
 rw [goneN, if_pos h]
theorem goneL_no {L : List Snd} {t : List Nat} {gone k i : Nat} {x : Snd} (h : k ≠ gone) (hi : t[k]? = some i) (hx : L[i]? = some x) : goneL L t gone (k + 1) = goneL L t gone k ++ [x] := by
 unfold goneL
 rw [goneN, if_neg h, List.map_append, List.getD_eq_getElem?_getD, hi]
 show _ ++ [L.getD i ⟨0, 0, 0, 0⟩] = _
 rw [List.getD_eq_getElem?_getD, hx]
 rfl
theorem goneN_spec {t : List Nat} (ht : t.Pairwise (· < ·)) (gone : Nat) : ∀ k, k ≤ t.length → (goneN t gone k).Pairwise (· < ·) ∧ (∀ i ∈ goneN t gone k, ∃ j, j < k ∧ t[j]? = some i) ∧ (goneN t gone k).length = if gone < k then k - 1 else k
 | 0, _ => ⟨List.Pairwise.nil, (fun i hi => (by cases hi)), by simp [goneN]⟩
 | k + 1, hk => by
   obtain ⟨h1, h2, h3⟩ := goneN_spec ht gone k (by omega)
   unfold goneN
   by_cases hg : k = gone
   · rw [if_pos hg]
     refine ⟨h1, fun i hi => ?_, ?_⟩
     · obtain ⟨j, hj, e⟩ := h2 i hi
       exact ⟨j, by omega, e⟩
     · rw [h3, if_neg (by omega), if_pos (by omega)]
       omega
   · rw [if_neg hg]
     have e : t[k]? = some t[k] := List.getElem?_eq_getElem (by omega)
     have e2 : t.getD k 0 = t[k] := by rw [List.getD_eq_getElem?_getD, e]; rfl
     refine ⟨List.pairwise_append.2 ⟨h1, List.pairwise_singleton _ _, fun a ha c hc => ?_⟩, fun i hi => ?_, ?_⟩
     · obtain ⟨j, hj, ej⟩ := h2 a ha
       simp only [List.mem_cons, List.not_mem_nil, or_false] at hc
       subst hc
       have hj2 := (List.getElem?_eq_some_iff.1 ej).1
       rw [List.getElem?_eq_getElem hj2] at ej
       injection ej with ej
       rw [← ej, e2]
       exact List.pairwise_iff_getElem.1 ht j k hj2 (by omega) hj
     · rcases List.mem_append.1 hi with hi | hi
       · obtain ⟨j, hj, ej⟩ := h2 i hi
         exact ⟨j, by omega, ej⟩
       · simp only [List.mem_cons, List.not_mem_nil, or_false] at hi
         exact ⟨k, by omega, by rw [hi, e2, e]⟩
     · rw [List.length_append, h3, List.length_cons, List.length_nil]
       split <;> split <;> omega
theorem asc_len : ∀ (n : Nat) (t : List Nat), t.Pairwise (· < ·) → (∀ i ∈ t, i < n) → t.length ≤ n
 | 0, t, _, h => by
   cases t with
   | nil => simp
   | cons x t => exact absurd (h x List.mem_cons_self) (Nat.not_lt_zero _)
 | n + 1, t, hp, h => by
   rcases List.eq_nil_or_concat t with rfl | ⟨s, x, rfl⟩
   · simp
   · rw [List.concat_eq_append] at *
     have hq := List.pairwise_append.1 hp
     have := asc_len n s hq.1 fun i hi => (by
       have h4 := hq.2.2 i hi x (by simp)
       have h5 := h x (by simp)
       omega)
     rw [List.length_append, List.length_cons, List.length_nil]
     omega
theorem gone_mem {b : Bx} {t : List Nat} (ht : Wit b t) (gone : Nat) : ∀ i ∈ goneN t gone t.length, i < b.lows.length := fun i hi => by
 obtain ⟨j, _, hj⟩ := (goneN_spec ht.asc gone t.length (Nat.le_refl _)).2.1 i hi
 exact ht.lt i (List.mem_of_getElem? hj)
theorem gone_len {b : Bx} {t : List Nat} (ht : Wit b t) (gone : Nat) : (goneL b.lows t gone t.length).length ≤ b.lows.length := by
 unfold goneL
 rw [List.length_map]
 exact asc_len _ _ (goneN_spec ht.asc gone t.length (Nat.le_refl _)).1 (gone_mem ht gone)
theorem gone_good {b : Bx} (gb : b.good) {t : List Nat} (ht : Wit b t) (gone : Nat) : ({ b with lows := goneL b.lows t gone t.length } : Bx).good := by
 have gj := good_of gb.job
 have h1 := gone_len ht gone
 have h2 := gb.lows.1
 refine ⟨gb.law, gb.note, gb.due, ⟨by show (goneL b.lows t gone t.length).length ≤ 4; omega, fun x hx => ?_⟩, gb.highs, check_of_good gj⟩
 obtain ⟨i, hi, rfl⟩ := List.mem_map.1 hx
 have hi2 := gone_mem ht gone i hi
 refine gb.lows.2 _ ?_
 rw [List.getD_eq_getElem?_getD, List.getElem?_eq_getElem hi2]
 exact List.getElem_mem _
theorem gone_full {b : Bx} (gb : b.good) {t : List Nat} (ht : Wit b t) {gone : Nat} (hg : gone < t.length) : pairsP (mostL { b with lows := goneL b.lows t gone t.length } okA) = (goneL b.lows t gone t.length).length := by
 have hsp := goneN_spec ht.asc gone t.length (Nat.le_refl _)
 have hlen : (goneL b.lows t gone t.length).length = (goneN t gone t.length).length := List.length_map _
 refine full_of_hall tab_lt fun U hU => ?_
 rw [hlen] at hU
 have hU2 : ∀ i ∈ U, i < (goneN t gone t.length).length := fun i hi => List.mem_range.1 (hU.subset hi)
 have hgt : ∀ i, (hi : i < (goneN t gone t.length).length) → (goneN t gone t.length).getD i 0 = (goneN t gone t.length)[i] := fun i hi => by rw [List.getD_eq_getElem?_getD, List.getElem?_eq_getElem hi]; rfl
 have hp : (U.map fun i => (goneN t gone t.length).getD i 0).Pairwise (· < ·) := by
   rw [List.pairwise_map]
   refine List.Pairwise.imp_of_mem (R := (· < ·)) (fun {a c} ha hc hac => ?_) (List.Pairwise.sublist hU List.pairwise_lt_range)
   rw [hgt a (hU2 a ha), hgt c (hU2 c hc)]
   exact List.pairwise_iff_getElem.1 hsp.1 a c (hU2 a ha) (hU2 c hc) hac
 have hm : ∀ i ∈ U.map fun i => (goneN t gone t.length).getD i 0, i < b.lows.length := fun i hi => by
   obtain ⟨j, hj, rfl⟩ := List.mem_map.1 hi
   rw [hgt j (hU2 j hj)]
   exact gone_mem ht gone _ (List.getElem_mem _)
 have hl := hU.length_le
 rw [List.length_range, hsp.2.2, if_pos hg] at hl
 have h9 := ht.least _ hp hm (by rw [List.length_map]; omega)
 rw [List.length_map] at h9
 refine Nat.le_trans h9 (Nat.le_of_eq ?_)
 unfold nearN cntN
 refine List.countP_congr fun k _ => ?_
 rw [Bool.true_and, Bool.true_and, List.any_map, List.any_eq_true, List.any_eq_true]
 have key : ∀ i ∈ U, (tabP (tableP b) okA ((goneN t gone t.length).getD i 0) k = true ↔ tabP (tableP { b with lows := goneL b.lows t gone t.length }) okA i k = true) := fun i hi => by
   rw [tabP_table, tabP_table]
   have hi2 := hU2 i hi
   have hb := gone_mem ht gone _ (List.getElem_mem hi2)
   have e1 : (goneL b.lows t gone t.length)[i]? = b.lows[(goneN t gone t.length).getD i 0]? := by
     unfold goneL
     rw [List.getElem?_map, List.getElem?_eq_getElem hi2, hgt i hi2, List.getElem?_eq_getElem hb]
     show some (b.lows.getD _ _) = _
     rw [List.getD_eq_getElem?_getD, List.getElem?_eq_getElem hb]
     rfl
   show _ ↔ ∃ x y, (goneL b.lows t gone t.length)[i]? = some x ∧ b.highs[k]? = some y ∧ keepsP b.law b.due [x, y] = 1
   rw [e1]
 exact ⟨fun ⟨i, hi, h⟩ => ⟨i, hi, (key i hi).1 h⟩, fun ⟨i, hi, h⟩ => ⟨i, hi, (key i hi).2 h⟩⟩
structure NearOk (T : List (List Int)) (t : List Nat) (l : List Int) : Prop where
 dif : l.Nodup
 mem : ∀ v ∈ l, ∃ k : Nat, v = (k : Int) ∧ k < 5 ∧ (t.any fun i => tabP T okA i k) = true
theorem NearOk.nil (T : List (List Int)) (t : List Nat) : NearOk T t [] := ⟨List.nodup_nil, fun v hv => by cases hv⟩
theorem NearOk.snoc {T : List (List Int)} {t : List Nat} {l : List Int} (h : NearOk T t l) {i k : Nat} (hi : i ∈ t) (hk : k < 5) (ht : tabP T okA i k = true) (hp : placeP l (k : Int) < 0) : NearOk T t (l ++ [(k : Int)]) := by
 refine ⟨List.nodup_append.2 ⟨h.dif, by simp, fun a ha c hc e => ?_⟩, fun v hv => ?_⟩
 · simp only [List.mem_cons, List.not_mem_nil, or_false] at hc
   subst hc
   subst e
   exact placeP_neg.1 hp ha
 · rcases List.mem_append.1 hv with hv | hv
   · exact h.mem v hv
   · simp only [List.mem_cons, List.not_mem_nil, or_false] at hv
     exact ⟨k, hv, hk, List.any_eq_true.2 ⟨i, hi, ht⟩⟩
theorem nodup_le {α : Type} [DecidableEq α] : ∀ {l L : List α}, l.Nodup → (∀ x ∈ l, x ∈ L) → l.length ≤ L.length
 | [], _, _, _ => Nat.zero_le _
 | x :: l, L, hn, hm => by
   have hn2 := List.nodup_cons.1 hn
   have hx := hm x List.mem_cons_self
   have h1 := nodup_le (l := l) (L := L.erase x) hn2.2 fun y hy => (List.mem_erase_of_ne (a := y) (b := x) (fun e => hn2.1 (by rw [← e]; exact hy))).2 (hm y (List.mem_cons_of_mem _ hy))
   have h2 := List.length_erase_of_mem hx
   have h3 := List.length_pos_of_mem hx
   rw [List.length_cons]
   omega
theorem NearOk.le {T : List (List Int)} {t : List Nat} {l : List Int} (h : NearOk T t l) : l.length ≤ nearN T t ∧ l.length ≤ 5 := by
 have h1 : l.length ≤ (((List.range 5).filter fun k => true && t.any fun i => tabP T okA i k).map fun (k : Nat) => (k : Int)).length := by
   refine nodup_le h.dif fun v hv => ?_
   obtain ⟨k, rfl, hk, ht⟩ := h.mem v hv
   exact List.mem_map.2 ⟨k, List.mem_filter.2 ⟨List.mem_range.2 hk, by rw [ht]; rfl⟩, rfl⟩
 rw [List.length_map, ← List.countP_eq_length_filter] at h1
 refine ⟨h1, Nat.le_trans h1 ?_⟩
 have := List.countP_le_length (p := fun k => true && t.any fun i => tabP T okA i k) (l := List.range 5)
 rw [List.length_range] at this
 exact this
end Go.Proofs.Ytlahdenlmmlplaa
end

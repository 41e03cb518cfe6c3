/-
  Walks of functions, and plain laws (texts put together). No condition.
-/
import Derived.Test.YtlahdenlmmlplaaMVoiceJob1
import Derived.Test.YtlahdenlmmlplaaMVoiceJob2
import Derived.Test.YtlahdenlmmlplaaMVoiceJob3
import Derived.Test.YtlahdenlmmlplaaMVoiceJob4
import Derived.Test.YtlahdenlmmlplaaMVoiceJob5

section
/-
 reed: Shortest, whose list is the call's own.
-/
namespace Go.Proofs.Ytlahdenlmmlplaa
set_option linter.unusedSimpArgs false
set_option linter.unusedVariables false
open Go.RowKit
theorem Sl.sp {w : World} {ex : Nat → Prop} {e size n c : Nat} {A : Option Addr} {xs : List Value} {I : List (Nat × BA)} (h : Sl e size (.slice A n c) n xs I) (hl : xs.length = n * size) : ∃ b o, Sp w ex I A n size b o xs := by
 rcases h with ⟨h1, rfl, rfl, rfl⟩ | ⟨g, cap, h1, rfl⟩
 · exact ⟨0, 0, Sp.nil⟩
 · injection h1 with h1 _ h2
   subst h1
   exact ⟨g, 0, Sp.row hl⟩
theorem Sn.sp {w : World} {ex : Nat → Prop} {e size n c : Nat} {A : Option Addr} {xs : List Value} {I : List (Nat × BA)} (h : Sn e size A n c xs I) (hl : xs.length = n * size) : ∃ b o, Sp w ex I A n size b o xs := by
 rcases h with ⟨rfl, rfl, rfl⟩ | ⟨g, rfl, rfl⟩
 · exact ⟨0, 0, Sp.nil⟩
 · exact ⟨g, 0, Sp.row hl⟩
theorem Sl.sn {e size n c : Nat} {A : Option Addr} {xs : List Value} {I : List (Nat × BA)} (h : Sl e size (.slice A n c) n xs I) : Sn e size A n c xs I := by
 rcases h with ⟨h1, rfl, rfl, rfl⟩ | ⟨g, cap, h1, rfl⟩
 · exact .inl ⟨rfl, rfl, rfl⟩
 · injection h1 with h1 _ h2
   subst h1
   subst h2
   exact .inr ⟨g, rfl, rfl⟩
def ShortPost2 (l : List Int) (err : Int) (w : World) (e : Ending) (w' : World) : Prop := ∃ A c I, e = .returned (.tuple #[.slice A l.length c, .int .i64 err]) ∧ Sn 3 1 A l.length c (ic l) I ∧ Mem w noEx w' I
theorem plan_pre {n r i : Nat} (hr : r ≤ n) (hi : n ≤ i) : (plan n r).take i = plan n r := List.take_of_length_le (by rw [plan_length hr]; omega)
set_option maxRecDepth 100000 in
set_option maxHeartbeats 1000000 in
theorem Shortest_own (j : Jb) (A : Option Addr) (c : Nat) (w : World) (hr : Rd w w.heap.size 2 A j.sh.length (rc j.sh)) (hn : j.sh.length ≤ 9223372036854775807) :
   Calls Try.prog 49 #[jobV j A c] w (ShortPost2 (shortL j) (shortJE j) w) := by
 obtain ⟨bJ, oJ, SJ⟩ := Sp.old hr
 refine px_enter noEx Try.func49 rfl 47 rfl [.agg #[.int .i64 j.p0, .int .i64 j.p1, .int .i64 j.t0, .int .i64 j.t1, .int .i64 j.r0, .int .i64 j.r1, .int .i64 j.u0, .int .i64 j.u1, .int .i64 j.d0, .int .i64 j.d1, .int .i64 j.a0, .int .i64 j.a1, .int .i64 j.b0, .int .i64 j.b1, .int .i64 j.le, .slice A j.sh.length c, .int .i64 j.wi, .int .i64 j.me]] rfl rfl (Mem.init w _) ?_
 intro ac wc T M
 refine wp_seq ?_
 refine wp_region_lit ?_
 refine l_w rfl ?_; intro K hK
 refine ow_bx M T rfl rfl rfl rfl (T.ev 0 rfl) rfl ?_; clear M T; intro g1 wc ac M T
 refine sh_out hK _ _ ?_; clear hK K
 refine lq T (rn_assign rfl evc) ?_; clear T ac; intro ac T
 refine lq T (rn_assign rfl evc) ?_; clear T ac; intro ac T
 refine wpList_nil ?_
 replace T := T.pick [2] rfl
 refine nm_then ?_
 refine wp_seq ?_
 refine wp_seq ?_
 refine wp_region_lit ?_
 refine lq T (rn_rowO (Mem.nth M 0 rfl) rfl (T.ev 0 rfl) rfl) ?_; clear T ac; intro ac T
 refine l_w rfl ?_; intro K hK
 refine ow_call (first := []) (cap := []) T rfl rfl rfl rfl evf (.cons (T.ev 0 rfl) .nil) Try.func84 rfl rfl ?_
 refine Calls.mono (check_any j _ _ _ (SJ.rd M (List.nil_sublist _)) (by omega)) ?_
 clear T
 rintro e wc ⟨rfl, hb⟩
 intro ac T
 replace M := M.call hb; clear hb
 refine sh_out hK _ _ ?_; clear hK K
 refine lq T (rn_assign rfl (T.ev 0 rfl)) ?_; clear T ac; intro ac T
 refine wpList_nil ?_
 replace T := T.pick [0, 3] rfl
 refine nm_then ?_
 refine wp_seq ?_
 refine wp_region_lit ?_
 refine lq T (rn_move rfl (T.ev 0 rfl)) ?_; clear T ac; intro ac T
 refine lq T (rn_neq rfl (T.ev 0 rfl) evc) ?_; clear T ac; intro ac T
 refine wpList_nil ?_
 replace T := T.pick [0, 2, 3] rfl
 refine nm_then ?_
 refine wp_ifn (T.ev 0 rfl) ?_ ?_
 ·intro h1
  refine wp_seq ?_
  refine wp_region_lit ?_
  refine lq T (rn_move rfl (T.ev 1 rfl)) ?_; clear T ac; intro ac T
  refine lq T (rn_assign rfl evc) ?_; clear T ac; intro ac T
  refine lq T (rn_assign rfl (T.ev 1 rfl)) ?_; clear T ac; intro ac T
  refine wpList_nil ?_
  replace T := T.pick [0, 1] rfl
  replace M := M.mask [false] rfl
  refine nm_then ?_
  refine wp_ret ?_
  refine rt_then ?_
  refine rt_2 T rfl (T.ev 1 rfl) (T.ev 0 rfl) ?_
  have e1 : shortL j = [] := by unfold shortL; rw [if_neg h1]
  have e2 : shortJE j = checkJ j := by unfold shortJE; rw [if_neg h1]
  exact ⟨_, _, [], by rw [e1, e2]; rfl, by rw [e1]; exact .inl ⟨rfl, rfl, rfl⟩, M.mask [] rfl⟩
 intro h1
 have hj := good_of h1
 have hst := hj.st
 refine wp_skip ?_
 refine nm_then ?_
 refine wp_seq ?_
 refine wp_seq ?_
 refine wp_region_lit ?_
 refine lq T (rn_move rfl evc) ?_; clear T ac; intro ac T
 refine wpList_nil ?_
 replace T := T.pick [0, 3] rfl
 refine nm_then ?_
 refine wp_block ?_
 refine wp_loop_n (fun mz ac wc => ∃ (a : Nat), mz = 7 - a ∧ (a ≤ 7) ∧ (plansFrom j 7 0 = plansFrom j (7 - a) a) ∧ Tm ac 47 [(1, .pointer (some ⟨g1, 0, none⟩)), (14, .int .i64 (a : Int))] ∧ Mem w noEx wc [(g1, .cells (jobL j A c))]) ?_ ?_
 ·exact ⟨_, 0, rfl, (by omega), rfl, T.pick [1, 0] rfl, M.mask [true] rfl⟩
 clear T M
 rintro mz ac wc ⟨a, hmm1, ha, H, T, M⟩
 refine wp_seq ?_
 refine wp_region_lit ?_
 refine lq T (rn_lss rfl (T.ev 1 rfl) evc) ?_; clear T ac; intro ac T
 refine wpList_nil ?_
 refine nm_then ?_
 refine wp_seq ?_
 refine wp_if (T.ev 0 rfl) ?_ ?_
 ·intro h2
  refine wp_skip ?_
  refine nm_then ?_
  refine wp_seq ?_
  refine wp_block ?_
  refine wp_seq ?_
  refine wp_region_lit ?_
  refine lq T (rn_move rfl (T.ev 2 rfl)) ?_; clear T ac; intro ac T
  refine lq T (rn_assign rfl (T.ev 0 rfl)) ?_; clear T ac; intro ac T
  refine wpList_nil ?_
  replace T := T.pick [0, 3, 4] rfl
  refine nm_then ?_
  refine wp_seq ?_
  refine wp_region_lit ?_
  refine lq T (rn_move rfl (T.ev 0 rfl)) ?_; clear T ac; intro ac T
  refine lq T (rn_add rfl (T.ev 0 rfl) evc (by omega)) ?_; clear T ac; intro ac T
  refine lq T (rn_move rfl evc) ?_; clear T ac; intro ac T
  refine wpList_nil ?_
  replace T := T.pick [0, 1, 3, 4, 5] rfl
  refine nm_then ?_
  refine wp_block ?_
  refine wp_loop_n (fun mz ac wc => ∃ (b : Nat), mz = a + 1 - b ∧ (b ≤ a + 1) ∧ (rootsFrom j a (a + 1) 0 = rootsFrom j a (a + 1 - b) b) ∧ Tm ac 47 [(1, .pointer (some ⟨g1, 0, none⟩)), (5, .int .i64 (a : Int)), (14, .int .i64 (a : Int)), (18, .int .i64 ((a : Int) + 1)), (19, .int .i64 (b : Int))] ∧ Mem w noEx wc [(g1, .cells (jobL j A c))]) ?_ ?_
  ·exact ⟨_, 0, rfl, (by omega), rfl, T.pick [3, 2, 4, 1, 0] rfl, M.mask [true] rfl⟩
  clear T M
  rintro mz ac wc ⟨b, hmm2, hb, H2, T, M⟩
  refine wp_seq ?_
  refine wp_region_lit ?_
  refine lq T (rn_lss rfl (T.ev 4 rfl) (T.ev 3 rfl)) ?_; clear T ac; intro ac T
  refine wpList_nil ?_
  refine nm_then ?_
  refine wp_seq ?_
  refine wp_if (T.ev 0 rfl) ?_ ?_
  ·intro h3
   refine wp_skip ?_
   refine nm_then ?_
   refine wp_seq ?_
   refine wp_block ?_
   refine wp_seq ?_
   refine wp_region_lit ?_
   refine lq T (rn_move rfl (T.ev 5 rfl)) ?_; clear T ac; intro ac T
   refine lq T (rn_assign rfl (T.ev 0 rfl)) ?_; clear T ac; intro ac T
   refine wpList_nil ?_
   replace T := T.pick [0, 3, 4, 5, 6, 7] rfl
   refine nm_then ?_
   refine wp_seq ?_
   refine wp_region_lit ?_
   refine lq T (rn_assign rfl evc) ?_; clear T ac; intro ac T
   refine wpList_nil ?_
   refine nm_then ?_
   refine wp_seq ?_
   refine wp_seq ?_
   refine wp_region_lit ?_
   refine lq T (rn_move rfl (T.ev 3 rfl)) ?_; clear T ac; intro ac T
   refine lq T (rn_move rfl evc) ?_; clear T ac; intro ac T
   refine wpList_nil ?_
   refine nm_then ?_
   refine wp_block ?_
   refine wp_loop_n (fun mz ac wc => ∃ (k : Nat) (A7 : Option Addr) (c7 : Nat) (I : List (Nat × BA)), mz = a - k ∧ (k ≤ a) ∧ (Sl 3 1 (.slice A7 k c7) k (ic ((plan a b).take k)) I) ∧ Tm ac 47 [(1, .pointer (some ⟨g1, 0, none⟩)), (5, .int .i64 (a : Int)), (6, .int .i64 (b : Int)), (7, .slice A7 k c7), (14, .int .i64 (a : Int)), (18, .int .i64 ((a : Int) + 1)), (19, .int .i64 (b : Int)), (22, .int .i64 (a : Int)), (23, .int .i64 (k : Int))] ∧ Mem w noEx wc ((g1, .cells (jobL j A c)) :: I)) ?_ ?_
   ·exact ⟨_, 0, none, 0, [], rfl, (by omega), (Sl.nil _ _), T.pick [4, 5, 3, 2, 6, 7, 8, 1, 0] rfl, M.mask [true] rfl⟩
   clear T M
   rintro mz ac wc ⟨k, A7, c7, I, hmm3, hk, hsl, T, M⟩
   refine wp_seq ?_
   refine wp_region_lit ?_
   refine lq T (rn_lss rfl (T.ev 8 rfl) (T.ev 7 rfl)) ?_; clear T ac; intro ac T
   refine wpList_nil ?_
   refine nm_then ?_
   refine wp_seq ?_
   refine wp_if (T.ev 0 rfl) ?_ ?_
   ·intro h4
    refine wp_skip ?_
    refine nm_then ?_
    refine wp_seq ?_
    refine wp_block ?_
    refine wp_seq ?_
    refine wp_region_lit ?_
    refine lq T (rn_move rfl (T.ev 9 rfl)) ?_; clear T ac; intro ac T
    refine lq T (rn_assign rfl (T.ev 0 rfl)) ?_; clear T ac; intro ac T
    refine wpList_nil ?_
    replace T := T.pick [0, 3, 4, 5, 6, 7, 8, 9, 10, 11] rfl
    refine nm_then ?_
    refine wp_seq ?_
    refine wp_region_lit ?_
    refine lq T (rn_move rfl (T.ev 0 rfl)) ?_; clear T ac; intro ac T
    refine lq T (rn_move rfl (T.ev 3 rfl)) ?_; clear T ac; intro ac T
    refine lq T (rn_move rfl (T.ev 5 rfl)) ?_; clear T ac; intro ac T
    refine lq T (rn_sub rfl (T.ev 1 rfl) (T.ev 0 rfl) (by omega)) ?_; clear T ac; intro ac T
    refine lq T (rn_lss rfl (T.ev 3 rfl) (T.ev 0 rfl)) ?_; clear T ac; intro ac T
    refine wpList_nil ?_
    replace T := T.pick [0, 6, 7, 8, 9, 10, 11, 12, 13, 14] rfl
    refine nm_then ?_
    refine wp_if (T.ev 0 rfl) ?_ ?_
    ·intro h5
     refine wp_region_lit ?_
     refine lq T (rn_move rfl (T.ev 4 rfl)) ?_; clear T ac; intro ac T
     refine l_w rfl ?_; intro K hK
     refine ow_bs (e := 3) [.int .i64 1] M T rfl rfl rfl rfl (.cons evc .nil) (fun _ => by kernel_rfl) ?_; clear M T; intro g2 wc ac M T
     refine sh_out hK _ _ ?_; clear hK K
     refine l_w rfl ?_; intro K hK
     refine ow_app ([(g2, .cells [.int .i64 1]), (g1, .cells (jobL j A c))]) Try.info3 hsl M (by first | rfl | simp) T rfl rfl rfl rfl Try.underlying22 rfl rfl rfl (by omega) (T.ev 1 rfl) (T.ev 0 rfl) (nthE_mem (i := 0) rfl) rfl rfl ?_; clear M T; intro ga1 cga1 wc ac M T
     refine sh_out hK _ _ ?_; clear hK K
     refine l_q (v := (.slice (some ⟨ga1, 0, none⟩) (k + 1) cga1)) (T.pick [0, 1, 2, 3, 4, 5, 6, 8, 9, 10, 11, 12] rfl) rfl rfl rfl rfl (rn_assign rfl (T.ev 0 rfl)) ?_; clear T ac; intro ac T
     refine wpList_nil ?_
     replace T := T.pick [0, 5, 6, 7, 8, 9, 10, 11, 12] rfl
     replace M := M.mask [true, false, true] rfl
     refine nm_blk ?_
     refine nm_then ?_
     refine wp_region_lit ?_
     refine lq T (rn_add rfl (T.ev 8 rfl) evc (by omega)) ?_; clear T ac; intro ac T
     refine l_q (v := (.int .i64 ((k : Int) + 1))) (T.pick [0, 1, 2, 3, 4, 5, 6, 7, 8] rfl) rfl rfl rfl rfl (rn_move rfl (T.ev 0 rfl)) ?_; clear T ac; intro ac T
     refine wpList_nil ?_
     replace T := T.pick [0, 2, 3, 4, 5, 6, 7, 8, 9] rfl
     refine nm_then ?_
     exact ⟨_, by omega, (k + 1), _, cga1, [(ga1, .row 3 1 (k + 1) ((ic ((plan a b).take k)) ++ [.int .i64 1]) cga1)], rfl, (by omega), (by rw [plan_take (by omega) (by omega) _ (by first | rw [if_pos (by omega)] | rw [if_neg (by omega)])]; exact Sl.row _ _ _ _ _ _), T.pick [2, 3, 4, 1, 5, 6, 7, 8, 0] rfl, M.perm [1, 0] rfl rfl⟩
    intro h5
    refine wp_region_lit ?_
    refine lq T (rn_move rfl (T.ev 4 rfl)) ?_; clear T ac; intro ac T
    refine l_w rfl ?_; intro K hK
    refine ow_bs (e := 3) [.int .i64 2] M T rfl rfl rfl rfl (.cons evc .nil) (fun _ => by kernel_rfl) ?_; clear M T; intro g3 wc ac M T
    refine sh_out hK _ _ ?_; clear hK K
    refine l_w rfl ?_; intro K hK
    refine ow_app ([(g3, .cells [.int .i64 2]), (g1, .cells (jobL j A c))]) Try.info3 hsl M (by first | rfl | simp) T rfl rfl rfl rfl Try.underlying22 rfl rfl rfl (by omega) (T.ev 1 rfl) (T.ev 0 rfl) (nthE_mem (i := 0) rfl) rfl rfl ?_; clear M T; intro ga2 cga2 wc ac M T
    refine sh_out hK _ _ ?_; clear hK K
    refine l_q (v := (.slice (some ⟨ga2, 0, none⟩) (k + 1) cga2)) (T.pick [0, 1, 2, 3, 4, 5, 6, 8, 9, 10, 11, 12] rfl) rfl rfl rfl rfl (rn_assign rfl (T.ev 0 rfl)) ?_; clear T ac; intro ac T
    refine wpList_nil ?_
    replace T := T.pick [0, 5, 6, 7, 8, 9, 10, 11, 12] rfl
    replace M := M.mask [true, false, true] rfl
    refine nm_blk ?_
    refine nm_then ?_
    refine wp_region_lit ?_
    refine lq T (rn_add rfl (T.ev 8 rfl) evc (by omega)) ?_; clear T ac; intro ac T
    refine l_q (v := (.int .i64 ((k : Int) + 1))) (T.pick [0, 1, 2, 3, 4, 5, 6, 7, 8] rfl) rfl rfl rfl rfl (rn_move rfl (T.ev 0 rfl)) ?_; clear T ac; intro ac T
    refine wpList_nil ?_
    replace T := T.pick [0, 2, 3, 4, 5, 6, 7, 8, 9] rfl
    refine nm_then ?_
    exact ⟨_, by omega, (k + 1), _, cga2, [(ga2, .row 3 1 (k + 1) ((ic ((plan a b).take k)) ++ [.int .i64 2]) cga2)], rfl, (by omega), (by rw [plan_take (by omega) (by omega) _ (by first | rw [if_pos (by omega)] | rw [if_neg (by omega)])]; exact Sl.row _ _ _ _ _ _), T.pick [2, 3, 4, 1, 5, 6, 7, 8, 0] rfl, M.perm [1, 0] rfl rfl⟩
   intro h4
   obtain ⟨b7, o7, S7⟩ := hsl.sp (w := w) (ex := noEx) (by rw [ic_length, plan_pre (by omega) (by omega), plan_length (by omega)]; omega)
   have hok : ∀ x ∈ (plan a b).take k, okS x = true := fun x hx => plan_ok a b x (List.mem_of_mem_take hx)
   have hpp := plan_pre (n := a) (r := b) (i := k) (by omega) (by omega)
   refine wp_exit ?_
   refine ex_then ?_
   refine ex_then ?_
   refine ex_hit ?_
   refine nm_then ?_
   refine wp_seq ?_
   refine g_start2 M (M.mask [true] rfl) 6 (by kernel_rfl) rfl (by kernel_rfl) ?_
   clear M; intro wc M
   refine gq T 0 1 rfl (fun B w' hD hl hS => (rn_rowO (Mem.nth (show Mem w noEx w' _ from hS) 0 rfl) rfl (T.ev 1 rfl) rfl)) ?_; clear T ac; intro ac T
   refine gq T 1 3 rfl (fun B w' hD hl hS => (rn_rowO (Mem.nth (show Mem w noEx w' _ from hS) 0 rfl) rfl (T.ev 2 rfl) rfl)) ?_; clear T ac; intro ac T
   refine gq T 2 7 rfl (fun _ _ _ _ _ => (rn_move rfl (T.ev 6 rfl))) ?_; clear T ac; intro ac T
   refine gw 3 15 ?_; intro K hK
   refine ow_call (first := []) (cap := []) T rfl rfl rfl rfl evf (.cons (T.ev 1 rfl) (.cons (T.ev 0 rfl) .nil)) Try.func87 rfl rfl ?_
   refine Calls.mono (after_any j _ _ _ _ _ ((plan a b).take k) _ (S7.rd M (.cons _ (List.Sublist.refl _))) (by omega) hst hok) ?_
   clear T
   rintro e wc ⟨rfl, hb⟩
   intro ac T
   replace M := M.call hb; clear hb
   refine sh_out hK _ _ (M.mask [true] rfl) ?_; clear hK K
   refine gw 4 31 ?_; intro K hK
   refine ow_call (first := []) (cap := []) T rfl rfl rfl rfl evf (.cons (T.ev 3 rfl) (.cons (T.ev 0 rfl) .nil)) Try.func86 rfl rfl ?_
   refine Calls.mono (fine_any j _ _ (j.st.after ((plan a b).take k)) _ hj.ok (SJ.rd M (List.nil_sublist _))) ?_
   clear T
   rintro e wc ⟨rfl, hb⟩
   intro ac T
   replace M := M.call hb; clear hb
   refine sh_out hK _ _ (M.mask [true] rfl) ?_; clear hK K
   refine gq T 5 63 rfl (fun _ _ _ _ _ => (rn_eql rfl (T.ev 0 rfl) evc)) ?_; clear T ac; intro ac T
   refine g_done (by kernel_rfl) ?_
   replace T := T.pick [0, 7, 8, 10, 11, 12, 13] rfl
   refine nm_then ?_
   refine wp_if (T.ev 0 rfl) ?_ ?_
   ·intro h6
    refine wp_seq ?_
    refine wp_region_lit ?_
    refine lq T (rn_move rfl (T.ev 3 rfl)) ?_; clear T ac; intro ac T
    refine lq T (rn_assign rfl (T.ev 0 rfl)) ?_; clear T ac; intro ac T
    refine lq T (rn_assign rfl evc) ?_; clear T ac; intro ac T
    refine wpList_nil ?_
    replace T := T.pick [0, 1] rfl
    replace M := M.mask [false] rfl
    refine nm_then ?_
    refine wp_ret ?_
    refine rt_blk ?_
    refine rt_then ?_
    refine rt_then ?_
    refine rt_blk ?_
    refine rt_blk ?_
    refine rt_then ?_
    refine rt_then ?_
    refine rt_blk ?_
    refine rt_then ?_
    refine rt_2 T rfl (T.ev 1 rfl) (T.ev 0 rfl) ?_
    have hf : isFine j (plan a b) = true := by unfold isFine; rw [← hpp, h6]; rfl
    rw [roots_hit (by omega) hf] at H2
    rw [plans_hit (by omega) H2] at H
    have e1 : shortL j = plan a b := by unfold shortL; rw [if_pos h1, H]; rfl
    have e2 : shortJE j = 0 := by unfold shortJE; rw [if_pos h1, H]; rfl
    have hka : k = a := by omega
    refine ⟨A7, c7, I, ?_, ?_, M.mask [] rfl⟩
    · rw [e1, e2, plan_length (by omega), hka]
    · rw [hpp, hka] at hsl
      rw [e1, plan_length (by omega)]
      exact hsl.sn
   intro h6
   refine wp_skip ?_
   refine nm_blk ?_
   refine nm_then ?_
   refine wp_region_lit ?_
   refine lq T (rn_add rfl (T.ev 6 rfl) evc (by omega)) ?_; clear T ac; intro ac T
   refine l_q (v := (.int .i64 ((b : Int) + 1))) (T.pick [0, 1, 2, 3, 4, 5, 6] rfl) rfl rfl rfl rfl (rn_move rfl (T.ev 0 rfl)) ?_; clear T ac; intro ac T
   refine wpList_nil ?_
   replace T := T.pick [0, 3, 4, 6, 7] rfl
   refine nm_then ?_
   have hf : isFine j (plan a b) = false := by unfold isFine; rw [← hpp]; simpa using h6
   rw [roots_miss (by omega) hf] at H2
   exact ⟨_, by omega, (b + 1), rfl, (by omega), H2, T.pick [1, 2, 3, 4, 0] rfl, M.perm [0] rfl rfl⟩
  intro h3
  refine wp_exit ?_
  refine ex_then ?_
  refine ex_then ?_
  refine ex_hit ?_
  refine nm_blk ?_
  refine nm_then ?_
  refine wp_region_lit ?_
  refine lq T (rn_add rfl (T.ev 3 rfl) evc (by omega)) ?_; clear T ac; intro ac T
  refine l_q (v := (.int .i64 ((a : Int) + 1))) (T.pick [0, 1, 2, 3, 5, 6] rfl) rfl rfl rfl rfl (rn_move rfl (T.ev 0 rfl)) ?_; clear T ac; intro ac T
  refine wpList_nil ?_
  replace T := T.pick [0, 3] rfl
  refine nm_then ?_
  rw [roots_end (by omega)] at H2
  rw [plans_miss (by omega) H2] at H
  exact ⟨_, by omega, (a + 1), rfl, (by omega), H, T.pick [1, 0] rfl, M.mask [true] rfl⟩
 intro h2
 refine wp_exit ?_
 refine ex_then ?_
 refine ex_then ?_
 refine ex_hit ?_
 refine nm_then ?_
 refine wp_seq ?_
 refine wp_region_lit ?_
 refine lq T (rn_assign rfl evc) ?_; clear T ac; intro ac T
 refine lq T (rn_assign rfl evc) ?_; clear T ac; intro ac T
 refine wpList_nil ?_
 replace T := T.pick [0, 1] rfl
 replace M := M.mask [false] rfl
 refine nm_then ?_
 refine wp_ret ?_
 refine rt_2 T rfl (T.ev 1 rfl) (T.ev 0 rfl) ?_
 rw [plans_end (by omega)] at H
 have e1 : shortL j = [] := by unfold shortL; rw [if_pos h1, H]; rfl
 have e2 : shortJE j = 11 := by unfold shortJE; rw [if_pos h1, H]; rfl
 exact ⟨_, _, [], by rw [e1, e2]; rfl, by rw [e1]; exact .inl ⟨rfl, rfl, rfl⟩, M.mask [] rfl⟩
end Go.Proofs.Ytlahdenlmmlplaa
end

section
/-
 Plain law: a pair and its job.
-/
namespace Go.Proofs.Ytlahdenlmmlplaa
set_option linter.unusedSimpArgs false
set_option linter.unusedVariables false
open Go.RowKit
theorem winL_loJ (j : Jb) (n : Int) : (winL j).1 ≤ n ↔ ∀ s ∈ shx j.sh, -j.wi - s.2 ≤ n := by
 unfold winL looseL shx
 cases h : j.sh with
 | nil => simp [winOf]
 | cons q r =>
   simp only [List.map_cons, winOf, meet_lo, List.mem_map, forall_exists_index, and_imp, forall_apply_eq_imp_iff₂, reduceCtorEq, if_false, List.mem_cons, forall_eq_or_imp]
theorem winL_hiJ (j : Jb) (n : Int) : n ≤ (winL j).2 ↔ ∀ s ∈ shx j.sh, n ≤ j.wi - s.1 := by
 unfold winL looseL shx
 cases h : j.sh with
 | nil => simp [winOf]
 | cons q r =>
   simp only [List.map_cons, winOf, meet_hi, List.mem_map, forall_exists_index, and_imp, forall_apply_eq_imp_iff₂, reduceCtorEq, if_false, List.mem_cons, forall_eq_or_imp]
theorem passes_one (j : Jb) (p0 p1 : Int) : passesJ j p0 p1 = 1 ↔ ∀ s ∈ shx j.sh, -j.wi ≤ p0 + s.1 ∧ p1 + s.2 ≤ j.wi := by
 have h1 : passesJ j p0 p1 = 1 ↔ hasB (winS j).1 (winS j).2 p0 p1 = true := by rw [← passes_1, beq_iff_eq]
 rw [h1]
 unfold hasB
 rw [decide_eq_true_eq, winS_lo, winS_hi]
 exact ⟨fun h s hs => ⟨by have := h.1 s hs; omega, by have := h.2 s hs; omega⟩, fun h => ⟨fun s hs => by have := (h s hs).1; omega, fun s hs => by have := (h s hs).2; omega⟩⟩
theorem passes_two {j : Jb} {p0 p1 a : Int} (h : passesJ j p0 p1 = 2) (ha : p0 ≤ a ∧ a ≤ p1) : ¬ ∀ s ∈ shx j.sh, -j.wi ≤ a + s.2 ∧ a + s.1 ≤ j.wi := fun hle => by
 have q1 : (winL j).1 ≤ a := (winL_loJ j a).2 fun s hs => by have := (hle s hs).1; omega
 have q2 : a ≤ (winL j).2 := (winL_hiJ j a).2 fun s hs => by have := (hle s hs).2; omega
 unfold passesJ at h
 split at h
 · omega
 split at h
 · rename_i h3
   have e1 : (meetL (winL j) [(p0, p1)]).1 ≤ a := (meet_lo a _ _).2 ⟨q1, fun s hs => by simp only [List.mem_cons, List.not_mem_nil, or_false] at hs; subst hs; exact ha.1⟩
   have e2 : a ≤ (meetL (winL j) [(p0, p1)]).2 := (meet_hi a _ _).2 ⟨q2, fun s hs => by simp only [List.mem_cons, List.not_mem_nil, or_false] at hs; subst hs; exact ha.2⟩
   omega
 · omega
theorem shx_job {b : Bx} {x y : Snd} (gb : b.good) : ∀ s : Int × Int, s ∈ shx (jobP b x y).sh ↔ ∃ p : Nat, (p : Int) ≤ b.press ∧ s = riseP x y (p : Int) := fun s => by
 have h0 := gb.law.press
 dsimp only at h0
 have hne : (jobP b x y).sh ≠ [] := fun e => by
   have h1 : (shL b x y).length = 0 := by rw [show shL b x y = [] from e]; rfl
   rw [shL_length] at h1
   omega
 unfold shx
 rw [if_neg hne]
 show s ∈ shL b x y ↔ _
 unfold shL
 rw [List.mem_map]
 constructor
 · rintro ⟨p, hp, rfl⟩
   exact ⟨p, by have := List.mem_range.1 hp; omega, rfl⟩
 · rintro ⟨p, hp, rfl⟩
   exact ⟨p, List.mem_range.2 (by omega), rfl⟩
theorem keeps_one_iff {b : Bx} {x y : Snd} (gb : b.good) (gx : x.good) (gy : y.good) : keepsP b.law b.due [x, y] = 1 ↔ ∀ p : Int, 0 ≤ p → p ≤ b.press → b.due - (beatP x y p).1 ≤ b.span ∧ (beatP x y p).2 - b.due ≤ b.span := by
 have h0 := gb.law.span
 dsimp only at h0
 rw [keeps_always gx gy h0.1, ← sure_iff gx gy h0.1, offP_le h0.1]
theorem job_one {b : Bx} {x y : Snd} (gb : b.good) (gx : x.good) (gy : y.good) (p0 p1 : Int) : passesJ (jobP b x y) p0 p1 = 1 ↔ ∀ p : Int, 0 ≤ p → p ≤ b.press → b.due - (p0 + b.due + (riseP x y p).1) ≤ b.span ∧ p1 + b.due + (riseP x y p).2 - b.due ≤ b.span := by
 rw [passes_one]
 show (∀ s ∈ shx (jobP b x y).sh, -b.span ≤ p0 + s.1 ∧ p1 + s.2 ≤ b.span) ↔ _
 constructor
 · intro h p h1 h2
   have h3 := h _ ((shx_job gb _).2 ⟨p.toNat, by omega, rfl⟩)
   rw [Int.toNat_of_nonneg h1] at h3
   omega
 · intro h s hs
   obtain ⟨p, hp, rfl⟩ := (shx_job gb s).1 hs
   have := h (p : Int) (by omega) hp
   omega
theorem job_always {b : Bx} {x y : Snd} (gb : b.good) (gx : x.good) (gy : y.good) : passesJ (jobP b x y) (jobP b x y).p0 (jobP b x y).p1 = 1 ↔ keepsP b.law b.due [x, y] = 1 := by
 rw [keeps_one_iff gb gx gy, job_one gb gx gy]
 show (∀ p : Int, 0 ≤ p → p ≤ b.press → b.due - (y.t0 - b.due + b.due + (riseP x y p).1) ≤ b.span ∧ y.t1 - b.due + b.due + (riseP x y p).2 - b.due ≤ b.span) ↔ ∀ p : Int, 0 ≤ p → p ≤ b.press → b.due - (y.t0 + (riseP x y p).1) ≤ b.span ∧ (y.t1 + (riseP x y p).2) - b.due ≤ b.span
 constructor
 · intro h p h1 h2; have := h p h1 h2; omega
 · intro h p h1 h2; have := h p h1 h2; omega
theorem job_never {b : Bx} {x y : Snd} (gb : b.good) (gx : x.good) (gy : y.good) (h : passesJ (jobP b x y) (jobP b x y).p0 (jobP b x y).p1 = 2) : keepsP b.law b.due [x, y] = 2 := by
 have h0 := gb.law.span
 dsimp only at h0
 rw [keeps_never gx gy h0.1]
 intro q hq
 rcases Bool.eq_false_or_eq_true (kQ b.law b.due q) with hk | hk
 · exfalso
   refine passes_two h (a := q.2.2.1 - b.due) (by show y.t0 - b.due ≤ _ ∧ _ ≤ y.t1 - b.due; unfold inQ at hq; omega) fun s hs => ?_
   obtain ⟨p, hp, rfl⟩ := (shx_job gb s).1 hs
   have h3 := kQ_iff.1 hk (p : Int) (by omega) hp
   show -b.span ≤ _ ∧ _ ≤ b.span
   have h4 : -b.span ≤ bQ q p - b.due ∧ bQ q p - b.due ≤ b.span := h3
   unfold bQ beatT at h4
   unfold riseP
   dsimp only
   unfold inQ at hq
   have m1 : (p : Int) * y.s0 ≤ q.2.2.2 * p := by rw [Int.mul_comm q.2.2.2]; exact Int.mul_le_mul_of_nonneg_left hq.2.2.2.1 (by omega)
   have m2 : q.2.2.2 * p ≤ (p : Int) * y.s1 := by rw [Int.mul_comm q.2.2.2]; exact Int.mul_le_mul_of_nonneg_left hq.2.2.2.2 (by omega)
   have m3 : (p : Int) * x.s0 ≤ q.2.1 * p := by rw [Int.mul_comm q.2.1]; exact Int.mul_le_mul_of_nonneg_left hq.2.1.1 (by omega)
   have m4 : q.2.1 * p ≤ (p : Int) * x.s1 := by rw [Int.mul_comm q.2.1]; exact Int.mul_le_mul_of_nonneg_left hq.2.1.2 (by omega)
   omega
 · exact hk
theorem roots_some {j : Jb} {n : Nat} : ∀ (k r : Nat) {l : List Int}, rootsFrom j n k r = some l → r + k ≤ n + 1 → ∃ r', r' ≤ n ∧ l = plan n r' ∧ isFine j l = true
 | 0, _, _, h, _ => by cases h
 | k + 1, r, l, h, hk => by
   unfold rootsFrom at h
   split at h
   · rename_i hf
     injection h with h
     subst h
     exact ⟨r, by omega, rfl, hf⟩
   · exact roots_some k (r + 1) h (by omega)
theorem plans_some {j : Jb} : ∀ (k n : Nat) {l : List Int}, plansFrom j k n = some l → n + k ≤ 7 → ∃ n' r', n' ≤ 6 ∧ r' ≤ n' ∧ l = plan n' r' ∧ isFine j l = true
 | 0, _, _, h, _ => by cases h
 | k + 1, n, l, h, hk => by
   unfold plansFrom at h
   cases hr : rootsFrom j n (n + 1) 0 with
   | some l' =>
     rw [hr] at h
     injection h with h
     subst h
     obtain ⟨r', h1, h2, h3⟩ := roots_some _ _ hr (by omega)
     exact ⟨n, r', by omega, h1, h2, h3⟩
   | none =>
     rw [hr] at h
     exact plans_some k (n + 1) h (by omega)
theorem plan_in (n r : Nat) : ∀ k ∈ plan n r, k = 1 ∨ k = 2 := fun k hk => by
 unfold plan at hk
 rcases List.mem_append.1 hk with h | h
 · exact .inl (List.eq_of_mem_replicate h)
 · exact .inr (List.eq_of_mem_replicate h)
theorem chkS_mk : ∀ (l : List Int), (∀ k ∈ l, k = 1 ∨ k = 2) → chkS l = 0
 | [], _ => rfl
 | k :: l, h => by
   unfold chkS
   have h1 := h k List.mem_cons_self
   have h2 := chkS_mk l fun q hq => h q (List.mem_cons_of_mem _ hq)
   rcases h1 with rfl | rfl <;> simp [h2, okS]
theorem strokes_mk {j : Jb} (h : j.good) {l : List Int} (hl : l.length ≤ 6) (hk : ∀ k ∈ l, k = 1 ∨ k = 2) : checkStrokesJ j l = 0 := by
 unfold checkStrokesJ
 rw [if_neg (by rw [check_of_good h]; decide), if_neg (by omega)]
 exact chkS_mk l hk
structure St.inord (s : St) : Prop where
 p : s.p0 ≤ s.p1
 u : s.u0 ≤ s.u1
 d : s.d0 ≤ s.d1
theorem St.inord.filed {s : St} (h : s.inord) (k : Int) : (s.filed k).inord := by
 obtain ⟨h1, h2, h3⟩ := h
 unfold St.filed
 split
 · exact ⟨by simp only [St.tip]; omega, h2, h3⟩
 · exact ⟨by simp only [St.root]; omega, h2, h3⟩
theorem St.inord.after : ∀ (l : List Int) {s : St}, s.inord → (s.after l).inord
 | [], _, h => h
 | k :: l, _, h => St.inord.after l (h.filed k)
theorem job_good {b : Bx} {x y : Snd} (gb : b.good) (gx : x.good) (gy : y.good) : (jobP b x y).good := by
 have gj := good_of gb.job
 have h0 := gb.law.press
 have h1 := gb.due
 have h2 := gb.law.span
 obtain ⟨a1, a2⟩ := gx
 obtain ⟨b1, b2⟩ := gy
 dsimp only at h0 h2
 refine ⟨by show -60 ≤ y.t0 - b.due ∧ y.t0 - b.due ≤ y.t1 - b.due ∧ y.t1 - b.due ≤ 60; omega, gj.t, gj.r, gj.u, gj.d, gj.a, gj.b, gj.le, by show (shL b x y).length ≤ 4; rw [shL_length]; omega, fun s hs => ?_, by show 0 ≤ b.span ∧ b.span ≤ 60; omega, gj.me⟩
 obtain ⟨p, hp, rfl⟩ := List.mem_map.1 (show s ∈ shL b x y from hs)
 have hp2 := List.mem_range.1 hp
 have hp' : (p : Int) = 0 ∨ (p : Int) = 1 ∨ (p : Int) = 2 ∨ (p : Int) = 3 := by omega
 unfold riseP
 rcases hp' with e | e | e | e <;> rw [e] <;> dsimp only <;> omega
theorem short_ok {j : Jb} (h0 : shortJE j = 0) (hc : checkJ j = 0) : (shortL j).length ≤ 6 ∧ checkStrokesJ j (shortL j) = 0 ∧ passesJ j (j.st.after (shortL j)).p0 (j.st.after (shortL j)).p1 = 1 ∧ (j.st.after (shortL j)).p0 ≤ (j.st.after (shortL j)).p1 := by
 have hj := good_of hc
 unfold shortJE at h0
 rw [if_pos hc] at h0
 have e : shortL j = (plansFrom j 7 0).getD [] := by unfold shortL; rw [if_pos hc]
 cases hp : plansFrom j 7 0 with
 | none => rw [hp] at h0; cases h0
 | some l =>
   obtain ⟨n, r, h1, h2, h3, h4⟩ := plans_some 7 0 hp (by omega)
   have e2 : shortL j = l := by rw [e, hp]; rfl
   rw [e2]
   have hl : l.length ≤ 6 := by rw [h3, plan_length h2]; exact h1
   refine ⟨hl, strokes_mk hj hl (by rw [h3]; exact plan_in n r), ?_, (St.inord.after l ⟨hj.p.2.1, hj.u.2.1, hj.d.2.1⟩).p⟩
   unfold isFine at h4
   rw [beq_iff_eq] at h4
   unfold fineJ at h4
   split at h4
   · rename_i h5; exact h5.1
   · split at h4 <;> omega
theorem short_or {j : Jb} (hc : checkJ j = 0) : shortJE j = 0 ∨ shortJE j = 11 := by
 unfold shortJE
 rw [if_pos hc]
 split
 · exact .inl rfl
 · exact .inr rfl
theorem job_filed {b : Bx} {x y : Snd} {p0 p1 : Int} (gb : b.good) (gx : x.good) (gy : y.good) (h : passesJ (jobP b x y) p0 p1 = 1) (gy' : (⟨p0 + b.due, p1 + b.due, y.s0, y.s1⟩ : Snd).good) : keepsP b.law b.due [x, ⟨p0 + b.due, p1 + b.due, y.s0, y.s1⟩] = 1 := by
 rw [keeps_one_iff gb gx gy']
 exact (job_one gb gx gy p0 p1).1 h
end Go.Proofs.Ytlahdenlmmlplaa
end

section
/-
 law05: VoiceJob, walked.
-/
namespace Go.Proofs.Ytlahdenlmmlplaa
set_option linter.unusedSimpArgs false
set_option linter.unusedVariables false
open Go.RowKit
theorem Job_at (b : Bx) (A : Option Addr) (c : Nat) (B : Option Addr) (d : Nat) (i k : Nat) (x y : Snd) (w : World) (hA : Rd w w.heap.size 4 A b.lows.length (sc b.lows)) (hB : Rd w w.heap.size 4 B b.highs.length (sc b.highs)) (gb : b.good) (hx : b.lows[i]? = some x) (hy : b.highs[k]? = some y) :
   Calls Try.prog 47 #[bxV b A c B d, .int .i64 (i : Int), .int .i64 (k : Int)] w fun e w' => ∃ A' c' I, e = .returned (.tuple #[jobV (jobP b x y) A' c', .int .i64 0]) ∧ (∃ b1 o1, ∀ (w : World) (ex : Nat → Prop), Sp w ex I A' (jobP b x y).sh.length 2 b1 o1 (rc (jobP b x y).sh)) ∧ Mem w noEx w' I := by
 have h4 := gb.lows.1
 have h5 := gb.highs.1
 obtain ⟨e1, e2, e3⟩ := pair_at gb hx hy
 have e : jobE b i k = jobP b x y := by unfold jobE; rw [if_pos e1, e2, e3]
 refine Calls.mono (Job_any b A c B d i k w hA hB (by omega) (by omega)) fun e' w' h => ?_
 rw [e, e1] at h
 obtain ⟨A', c', I, rfl, h2, h3⟩ := h
 exact ⟨A', c', I, rfl, h2, h3⟩
theorem Passes_good (j : Jb) (A : Option Addr) (c : Nat) (w : World) (hr : Rd w w.heap.size 2 A j.sh.length (rc j.sh)) (hj : j.good) :
   Calls Try.prog 48 #[jobV j A c] w fun e w' => e = .returned (.tuple #[.int .i64 (passesJ j j.p0 j.p1), .int .i64 0]) ∧ Below w.heap.size w w' := by
 have h := Passes_any j A c w hr (by have := hj.few; omega)
 rw [show passesT j = (passesJ j j.p0 j.p1, 0) by unfold passesT; rw [if_pos (check_of_good hj)]] at h
 exact h
theorem Sn.spV {e n c size : Nat} {A : Option Addr} {xs : List Value} {I : List (Nat × BA)} (h : Sn e size A n c xs I) (hl : xs.length = n * size) : ∃ b o, ∀ (w : World) (ex : Nat → Prop), Sp w ex I A n size b o xs := by
 rcases h with ⟨rfl, rfl, rfl⟩ | ⟨g, rfl, rfl⟩
 · exact ⟨0, 0, fun _ _ => Sp.nil⟩
 · exact ⟨g, 0, fun _ _ => Sp.row hl⟩
theorem Shortest_good (j : Jb) (A : Option Addr) (c : Nat) (w : World) (hr : Rd w w.heap.size 2 A j.sh.length (rc j.sh)) (hj : j.good) :
   Calls Try.prog 49 #[jobV j A c] w fun e w' => ∃ A' c' I, e = .returned (.tuple #[.slice A' (shortL j).length c', .int .i64 (shortJE j)]) ∧ (∃ b1 o1, ∀ (w : World) (ex : Nat → Prop), Sp w ex I A' (shortL j).length 1 b1 o1 (ic (shortL j))) ∧ Mem w noEx w' I := by
 refine Calls.mono (Shortest_own j A c w hr (by have := hj.few; omega)) fun e w' h => ?_
 obtain ⟨A', c', I, rfl, h2, h3⟩ := h
 exact ⟨A', c', I, rfl, h2.spV (by rw [ic_length]; omega), h3⟩
theorem After_good (j : Jb) (A : Option Addr) (c : Nat) (B : Option Addr) (d n : Nat) (l : List Int) (w : World) (hr : Rd w w.heap.size 2 A j.sh.length (rc j.sh)) (hj : j.good) (hl : Rd w w.heap.size 1 B n (ic l)) (hm : n ≤ 9223372036854775807) (hc : checkStrokesJ j l = 0) :
   Calls Try.prog 50 #[jobV j A c, .slice B n d] w fun e w' => e = .returned (.tuple #[.agg #[.int .i64 ((j.st.after l).p0), .int .i64 ((j.st.after l).p1), .int .i64 ((j.st.after l).t0), .int .i64 ((j.st.after l).t1), .int .i64 ((j.st.after l).r0), .int .i64 ((j.st.after l).r1)], .int .i64 0]) ∧ Below w.heap.size w w' := by
 have h := After_any j A c B d n l w hr (by have := hj.few; omega) hl hm
 rw [show afterC j l = (j.st.after l).tongue by unfold afterC; rw [if_pos hc], hc] at h
 exact h
theorem after_small {j : Jb} (hj : j.good) {l : List Int} (hl : l.length ≤ 6) : -2000 ≤ (j.st.after l).p0 ∧ (j.st.after l).p1 ≤ 2000 := by
 have key : ∀ (l : List Int) (s : St) (m : Int), s.upTo m → (s.after l).upTo (m + 100 * (l.length : Int)) := by
   intro l
   induction l with
   | nil => intro s m h; simpa [St.after] using h
   | cons k l ih =>
     intro s m h
     have := ih (s.filed k) (m + 100) (h.filed k)
     rw [show m + 100 * ((k :: l).length : Int) = m + 100 + 100 * (l.length : Int) by simp only [List.length_cons]; omega]
     exact this
 have h0 : j.st.upTo 1000 := by
   obtain ⟨g1, g2, g3, g4, g5, g6, g7, g8, -, -, -, -⟩ := hj
   constructor <;> dsimp only [Jb.st] <;> omega
 have h := key l _ _ h0
 have h1 := h.p0
 have h2 := h.p1
 omega
theorem Due_box (b : Bx) (w : World) (gb : b.good) : Calls Try.prog 41 #[.agg #[.int .i64 b.first, .int .i64 b.step, .int .i64 b.span, .int .i64 b.press], .int .i64 b.note] w fun e w' => e = .returned (.tuple #[.int .i64 (b.first + b.step * b.note), .int .i64 0]) ∧ Below w.heap.size w w' := Due_good b.law b.note w gb.law gb.note
theorem CopyBox_ren (b : Bx) (A : Option Addr) (c : Nat) (B : Option Addr) (d : Nat) (w : World) (hA : Rd w w.heap.size 4 A b.lows.length (sc b.lows)) (hB : Rd w w.heap.size 4 B b.highs.length (sc b.highs)) (nA : b.lows.length ≤ 1000000) (nB : b.highs.length ≤ 1000000) :
   Calls Try.prog 31 #[bxV b A c B d] w fun e w' => ∃ g1 c1 ys1 g2 c2 ys2, ∃ hq : List Snd, hq = b.highs ∧ e = .returned (.agg #[.int .i64 b.first, .int .i64 b.step, .int .i64 b.span, .int .i64 b.press, .int .i64 b.note, .slice (some ⟨g1, 0, none⟩) b.lows.length c1, .slice (some ⟨g2, 0, none⟩) hq.length c2, .int .i64 b.t0, .int .i64 b.t1, .int .i64 b.r0, .int .i64 b.r1, .int .i64 b.u0, .int .i64 b.u1, .int .i64 b.d0, .int .i64 b.d1, .int .i64 b.a0, .int .i64 b.a1, .int .i64 b.b0, .int .i64 b.b1, .int .i64 b.le, .int .i64 b.me]) ∧ Mem w noEx w' [(g1, .cells (sc b.lows ++ ys1)), (g2, .cells (sc hq ++ ys2))] := by
 refine Calls.mono (copyBox_any b A c B d w hA hB nA nB) fun e w' h => ?_
 obtain ⟨g1, c1, y1, g2, c2, y2, rfl, h⟩ := h
 exact ⟨g1, c1, y1, g2, c2, y2, b.highs, rfl, rfl, h⟩
theorem hi_good {b : Bx} (gb : b.good) {k : Nat} {y : Snd} (hk : k < b.highs.length) (gy : y.good) {hs : List Snd} (he : hs = b.highs.set k y) : ({ b with lows := b.lows, highs := hs, span := b.span, press := b.press } : Bx).good := by
 subst he
 have gj := good_of gb.job
 refine ⟨gb.law, gb.note, gb.due, gb.lows, ⟨by show (b.highs.set k y).length ≤ 5; rw [List.length_set]; exact gb.highs.1, fun x hx => ?_⟩, check_of_good gj⟩
 rcases List.mem_or_eq_of_mem_set hx with h | h
 · exact gb.highs.2 x h
 · rw [h]; exact gy
theorem job_eqs {k p : Int} (h : p = 1 ↔ k = 1) : (decide (k = 1) == decide (p = 1)) = true := by
 by_cases h1 : k = 1
 · rw [decide_eq_true h1, decide_eq_true (h.2 h1)]; rfl
 · rw [decide_eq_false h1, decide_eq_false fun h2 => h1 (h.1 h2)]; rfl
theorem keeps_ye {b : Bx} {x y ye : Snd} {z0 z1 : Int} (h : keepsP b.law b.due [x, ⟨z0 + b.due, z1 + b.due, y.s0, y.s1⟩] = 1) (he : ye = { y with t0 := z0 + b.due, t1 := z1 + b.due }) : keepsP b.law b.due [x, ye] = 1 := by
 subst he
 exact h
set_option maxRecDepth 100000 in
set_option maxHeartbeats 4000000 in
theorem VoiceJob_any (D : Option Addr) (n d : Nat) (l : List Int) (w : World) (hl : Rd w w.heap.size 1 D n (ic l)) (hm : n ≤ 9223372036854775807) :
   Calls Try.prog 11 #[.slice D n d] w fun e w' => e = .returned (.bool true) ∧ Below w.heap.size w w' := by
 have hll := hl.len1
 obtain ⟨bI, oI, SI⟩ := Sp.old hl
 refine px_enter noEx Try.func11 rfl 163 rfl [.slice D n d] rfl rfl (Mem.init w _) ?_
 intro ac wc T M
 refine wp_seq ?_
 refine wp_region_lit ?_
 refine lq T (rn_assign rfl evc) ?_; clear T ac; intro ac T
 refine wpList_nil ?_
 replace T := T.pick [1] rfl
 refine nm_then ?_
 refine wp_seq ?_
 refine wp_region_lit ?_
 refine lq T (rn_move rfl (T.ev 0 rfl)) ?_; clear T ac; intro ac T
 refine l_w rfl ?_; intro K hK
 refine ow_call (first := []) (cap := []) T rfl rfl rfl rfl evf (.cons (T.ev 0 rfl) .nil) Try.func12 rfl rfl ?_
 refine Calls.mono (newPot_any _ _ _ l _ (SI.rd M (List.nil_sublist _)) (by omega)) ?_
 clear T
 rintro e wc ⟨bpu1, su1, hsu1, rfl, N⟩
 intro ac T
 replace M := M.join N; clear N
 replace M := M.mask [true] rfl
 refine sh_out hK _ _ ?_; clear hK K
 refine l_w rfl ?_; intro K hK
 refine ow_call (first := []) (cap := []) T rfl rfl rfl rfl evf (.cons (T.ev 0 rfl) (.cons evc (.cons evc (.cons evc .nil)))) Try.func18 rfl rfl ?_
 refine Calls.mono (boxOf_any _ bpu1 3 3 1 _ (by omega) (by omega) (by omega) (M.nth 0 rfl) hsu1) ?_
 clear T
 rintro e wc ⟨bu2, Au2, cu2, Bu2, du2, su2, Iu2, rfl, hmu2, hsu2, SAu2, SBu2, N⟩
 intro ac T
 obtain ⟨b1u2, o1u2, SAu2⟩ := SAu2
 replace SAu2 := SAu2 w noEx
 obtain ⟨b2u2, o2u2, SBu2⟩ := SBu2
 replace SBu2 := SBu2 w noEx
 replace M := (M.joinW .head N).swapI
 clear N
 replace M : Mem w noEx wc ((bpu1, .cells [.int .u64 su2]) :: Iu2) := M
 have hgu2 := hmu2.good
 have nlu2 := hgu2.lows.1
 have nhu2 := hgu2.highs.1
 have hstu2 := step_bd (notes := 3) hmu2.law.step hmu2.note
 have hnou2 := hmu2.note
 have ⟨hfu2, hzu2, hpu2, hqu2⟩ := hmu2.law
 dsimp only at hstu2 hfu2 hpu2 hqu2
 refine sh_out hK _ _ ?_; clear hK K
 refine l_w rfl ?_; intro K hK
 refine ow_al M T rfl rfl rfl rfl ?_; clear M T; intro g1 wc ac M T
 refine sh_out hK _ _ ?_; clear hK K
 refine l_w rfl ?_; intro K hK
 refine ow_stO M T rfl rfl (T.ev 0 rfl) (T.ev 1 rfl) rfl .head rfl (by simp) rfl (by kernel_rfl) ?_; clear M T; intro wc ac M T
 refine sh_out hK _ _ ?_; clear hK K
 refine wpList_nil ?_
 replace T := T.pick [0] rfl
 replace M := M.mask [true, false] rfl
 refine nm_then ?_
 refine wp_seq ?_
 refine wp_seq ?_
 refine wp_region_lit ?_
 refine lq T (rn_assign rfl evc) ?_; clear T ac; intro ac T
 refine wpList_nil ?_
 refine nm_then ?_
 refine wp_block ?_
 refine wp_loop_n (fun mz ac wc => ∃ (i : Nat), mz = bu2.lows.length - i ∧ (i ≤ bu2.lows.length) ∧ Tm ac 163 [(3, .pointer (some ⟨g1, 0, none⟩)), (4, .int .i64 (i : Int))] ∧ Mem w noEx wc ((g1, .cells [.int .i64 bu2.first, .int .i64 bu2.step, .int .i64 bu2.span, .int .i64 bu2.press, .int .i64 bu2.note, .slice Au2 bu2.lows.length cu2, .slice Bu2 bu2.highs.length du2, .int .i64 bu2.t0, .int .i64 bu2.t1, .int .i64 bu2.r0, .int .i64 bu2.r1, .int .i64 bu2.u0, .int .i64 bu2.u1, .int .i64 bu2.d0, .int .i64 bu2.d1, .int .i64 bu2.a0, .int .i64 bu2.a1, .int .i64 bu2.b0, .int .i64 bu2.b1, .int .i64 bu2.le, .int .i64 bu2.me]) :: Iu2)) ?_ ?_
 ·exact ⟨_, 0, rfl, (Nat.zero_le _), T.pick [1, 0] rfl, M.mask [true] rfl⟩
 clear T M
 rintro mz ac wc ⟨i, hmm1, hi, T, M⟩
 refine wp_seq ?_
 refine wp_seq ?_
 refine wp_region_lit ?_
 refine lq T (rn_move rfl (T.ev 1 rfl)) ?_; clear T ac; intro ac T
 refine lq (v := (.pointer (some ⟨g1, 5, none⟩))) T (rn_fieldAddr (off := 5) rfl (T.ev 1 rfl) (fun _ _ _ => by kernel_rfl)) ?_; clear T ac; intro ac T
 refine lq T (rn_one (Mem.nth M 0 rfl) rfl (T.ev 0 rfl) rfl) ?_; clear T ac; intro ac T
 refine lq T (rn_lenS rfl Try.underlying38 (T.ev 0 rfl)) ?_; clear T ac; intro ac T
 refine lq T (rn_lss rfl (T.ev 3 rfl) (T.ev 0 rfl)) ?_; clear T ac; intro ac T
 refine wpList_nil ?_
 replace T := T.pick [0, 5, 6] rfl
 refine nm_then ?_
 refine wp_if (T.ev 0 rfl) ?_ ?_
 ·intro h1
  obtain ⟨x, hkx9, -⟩ := sc_next (l := bu2.lows) (k := i) (by omega)
  have gx9 := hgu2.lows.2 x (List.mem_of_getElem? hkx9)
  refine wp_skip ?_
  refine nm_then ?_
  refine wp_seq ?_
  refine wp_block ?_
  refine wp_seq ?_
  refine wp_region_lit ?_
  refine lq T (rn_assign rfl evc) ?_; clear T ac; intro ac T
  refine wpList_nil ?_
  replace T := T.pick [0, 2, 3] rfl
  refine nm_then ?_
  refine wp_block ?_
  refine wp_loop_n (fun mz ac wc => ∃ (k : Nat), mz = bu2.highs.length - k ∧ (k ≤ bu2.highs.length) ∧ Tm ac 163 [(3, .pointer (some ⟨g1, 0, none⟩)), (4, .int .i64 (i : Int)), (5, .int .i64 (k : Int))] ∧ Mem w noEx wc ((g1, .cells [.int .i64 bu2.first, .int .i64 bu2.step, .int .i64 bu2.span, .int .i64 bu2.press, .int .i64 bu2.note, .slice Au2 bu2.lows.length cu2, .slice Bu2 bu2.highs.length du2, .int .i64 bu2.t0, .int .i64 bu2.t1, .int .i64 bu2.r0, .int .i64 bu2.r1, .int .i64 bu2.u0, .int .i64 bu2.u1, .int .i64 bu2.d0, .int .i64 bu2.d1, .int .i64 bu2.a0, .int .i64 bu2.a1, .int .i64 bu2.b0, .int .i64 bu2.b1, .int .i64 bu2.le, .int .i64 bu2.me]) :: Iu2)) ?_ ?_
  ·exact ⟨_, 0, rfl, (Nat.zero_le _), T.pick [1, 2, 0] rfl, M.mask [true] rfl⟩
  clear T M
  rintro mz ac wc ⟨k, hmm2, hj, T, M⟩
  refine wp_seq ?_
  refine wp_seq ?_
  refine wp_region_lit ?_
  refine lq T (rn_move rfl (T.ev 2 rfl)) ?_; clear T ac; intro ac T
  refine lq (v := (.pointer (some ⟨g1, 6, none⟩))) T (rn_fieldAddr (off := 6) rfl (T.ev 1 rfl) (fun _ _ _ => by kernel_rfl)) ?_; clear T ac; intro ac T
  refine lq T (rn_one (Mem.nth M 0 rfl) rfl (T.ev 0 rfl) rfl) ?_; clear T ac; intro ac T
  refine lq T (rn_lenS rfl Try.underlying38 (T.ev 0 rfl)) ?_; clear T ac; intro ac T
  refine lq T (rn_lss rfl (T.ev 3 rfl) (T.ev 0 rfl)) ?_; clear T ac; intro ac T
  refine wpList_nil ?_
  replace T := T.pick [0, 5, 6, 7] rfl
  refine nm_then ?_
  refine wp_if (T.ev 0 rfl) ?_ ?_
  ·intro h2
   obtain ⟨y, hky9, -⟩ := sc_next (l := bu2.highs) (k := k) (by omega)
   have gy9 := hgu2.highs.2 y (List.mem_of_getElem? hky9)
   refine wp_skip ?_
   refine nm_then ?_
   refine wp_seq ?_
   refine wp_block ?_
   refine wp_seq ?_
   refine wp_region_lit ?_
   refine lq T (rn_rowO (Mem.nth M 0 rfl) rfl (T.ev 1 rfl) rfl) ?_; clear T ac; intro ac T
   refine lq T (rn_move rfl (T.ev 3 rfl)) ?_; clear T ac; intro ac T
   refine lq T (rn_move rfl (T.ev 5 rfl)) ?_; clear T ac; intro ac T
   refine l_w rfl ?_; intro K hK
   refine ow_call (first := []) (cap := []) T rfl rfl rfl rfl evf (.cons (T.ev 2 rfl) (.cons (T.ev 1 rfl) (.cons (T.ev 0 rfl) .nil))) Try.func47 rfl rfl ?_
   refine Calls.mono (Job_at bu2 _ _ _ _ i k x y _ (SAu2.rd M (.cons _ (List.Sublist.refl _))) (SBu2.rd M (.cons _ (List.Sublist.refl _))) hgu2 hkx9 hky9) ?_
   clear T
   rintro e wc ⟨Au3, cu3, Iu3, rfl, Su3, N⟩
   intro ac T
   obtain ⟨bu3, ou3, Su3⟩ := Su3
   obtain ⟨jqu3, hjqu3⟩ : ∃ q, q = jobP bu2 x y := ⟨_, rfl⟩
   rw [← hjqu3] at Su3
   replace Su3 := Su3 w noEx
   have gq9 : jqu3.good := by rw [hjqu3]; exact job_good hgu2 gx9 gy9
   have nq9 := gq9.few
   replace M := (M.join N).swapI
   clear N
   replace M : Mem w noEx wc ((g1, .cells [.int .i64 bu2.first, .int .i64 bu2.step, .int .i64 bu2.span, .int .i64 bu2.press, .int .i64 bu2.note, .slice Au2 bu2.lows.length cu2, .slice Bu2 bu2.highs.length du2, .int .i64 bu2.t0, .int .i64 bu2.t1, .int .i64 bu2.r0, .int .i64 bu2.r1, .int .i64 bu2.u0, .int .i64 bu2.u1, .int .i64 bu2.d0, .int .i64 bu2.d1, .int .i64 bu2.a0, .int .i64 bu2.a1, .int .i64 bu2.b0, .int .i64 bu2.b1, .int .i64 bu2.le, .int .i64 bu2.me]) :: (Iu2 ++ Iu3)) := M
   rw [← hjqu3] at T
   refine sh_out hK _ _ ?_; clear hK K
   refine lq T (rn_move rfl (T.ev 0 rfl)) ?_; clear T ac; intro ac T
   refine lq T (rn_extract rfl (T.ev 0 rfl) rfl) ?_; clear T ac; intro ac T
   refine lq T (rn_extract rfl (T.ev 1 rfl) rfl) ?_; clear T ac; intro ac T
   refine l_w rfl ?_; intro K hK
   refine ow_al M T rfl rfl rfl rfl ?_; clear M T; intro g2 wc ac M T
   refine sh_out hK _ _ ?_; clear hK K
   refine l_w rfl ?_; intro K hK
   refine ow_stO M T rfl rfl (T.ev 0 rfl) (T.ev 2 rfl) rfl .head rfl (by simp) rfl (by kernel_rfl) ?_; clear M T; intro wc ac M T
   refine sh_out hK _ _ ?_; clear hK K
   refine lq T (rn_assign rfl (T.ev 1 rfl)) ?_; clear T ac; intro ac T
   refine wpList_nil ?_
   replace T := T.pick [0, 1, 10, 11, 12] rfl
   refine nm_then ?_
   refine wp_seq ?_
   refine wp_region_lit ?_
   refine lq T (rn_rowO (Mem.nth M 1 rfl) rfl (T.ev 2 rfl) rfl) ?_; clear T ac; intro ac T
   refine lq T (rn_move rfl (T.ev 4 rfl)) ?_; clear T ac; intro ac T
   refine lq T (rn_move rfl (T.ev 6 rfl)) ?_; clear T ac; intro ac T
   refine l_w rfl ?_; intro K hK
   refine ow_call (first := []) (cap := []) T rfl rfl rfl rfl evf (.cons (T.ev 2 rfl) (.cons (T.ev 1 rfl) (.cons (T.ev 0 rfl) .nil))) Try.func22 rfl rfl ?_
   refine Calls.mono (Keeps_at bu2 _ _ _ _ i k x y _ (SAu2.rd M (.cons _ (.cons _ (subL (List.Sublist.refl _))))) (SBu2.rd M (.cons _ (.cons _ (subL (List.Sublist.refl _))))) hgu2 hkx9 hky9) ?_
   clear T
   rintro e wc ⟨rfl, hb⟩
   intro ac T
   replace M := M.call hb; clear hb
   obtain ⟨kpu4, hkpu4⟩ : ∃ q, q = keepsP bu2.law bu2.due [x, y] := ⟨_, rfl⟩
   rw [← hkpu4] at T
   refine sh_out hK _ _ ?_; clear hK K
   refine lq T (rn_move rfl (T.ev 0 rfl)) ?_; clear T ac; intro ac T
   refine lq T (rn_extract rfl (T.ev 0 rfl) rfl) ?_; clear T ac; intro ac T
   refine lq T (rn_extract rfl (T.ev 1 rfl) rfl) ?_; clear T ac; intro ac T
   refine lq T (rn_assign rfl (T.ev 1 rfl)) ?_; clear T ac; intro ac T
   refine lq T (rn_assign rfl (T.ev 1 rfl)) ?_; clear T ac; intro ac T
   refine wpList_nil ?_
   replace T := T.pick [0, 1, 9, 10, 11, 12, 13] rfl
   refine nm_then ?_
   refine wp_seq ?_
   refine wp_region_lit ?_
   refine lq T (rn_rowO (Mem.nth M 0 rfl) rfl (T.ev 3 rfl) rfl) ?_; clear T ac; intro ac T
   refine l_w rfl ?_; intro K hK
   refine ow_call (first := []) (cap := []) T rfl rfl rfl rfl evf (.cons (T.ev 0 rfl) .nil) Try.func48 rfl rfl ?_
   refine Calls.mono (Passes_good jqu3 _ _ _ (Su3.rd M (.cons _ (.cons _ (List.sublist_append_right _ _)))) gq9) ?_
   clear T
   rintro e wc ⟨rfl, hb⟩
   intro ac T
   replace M := M.call hb; clear hb
   obtain ⟨pau5, hpau5⟩ : ∃ q, q = passesJ jqu3 jqu3.p0 jqu3.p1 := ⟨_, rfl⟩
   rw [← hpau5] at T
   have hpk1 : pau5 = 1 ↔ kpu4 = 1 := by rw [hpau5, hkpu4, hjqu3]; exact job_always hgu2 gx9 gy9
   have hpk2 : pau5 = 2 → kpu4 = 2 := by rw [hpau5, hkpu4, hjqu3]; exact job_never hgu2 gx9 gy9
   refine sh_out hK _ _ ?_; clear hK K
   refine lq T (rn_move rfl (T.ev 0 rfl)) ?_; clear T ac; intro ac T
   refine lq T (rn_extract rfl (T.ev 0 rfl) rfl) ?_; clear T ac; intro ac T
   refine lq T (rn_extract rfl (T.ev 1 rfl) rfl) ?_; clear T ac; intro ac T
   refine lq T (rn_assign rfl (T.ev 1 rfl)) ?_; clear T ac; intro ac T
   refine lq T (rn_assign rfl (T.ev 1 rfl)) ?_; clear T ac; intro ac T
   refine wpList_nil ?_
   replace T := T.pick [0, 1, 7, 8, 9, 10, 11, 12, 13] rfl
   refine nm_then ?_
   refine wp_seq ?_
   refine cut_seq (fun ac wc => Tm ac 163 [(3, .pointer (some ⟨g1, 0, none⟩)), (4, .int .i64 (i : Int)), (5, .int .i64 (k : Int)), (6, .pointer (some ⟨g2, 0, none⟩)), (60, .int .i64 0), (61, .bool false), (64, .int .i64 0), (65, .bool false), (68, .int .i64 kpu4), (69, .bool (decide (kpu4 = 1))), (70, .int .i64 pau5), (71, .bool (decide (pau5 = 1))), (72, .bool (!((decide (kpu4 = 1)) == (decide (pau5 = 1))))), (75, .int .i64 pau5), (76, .bool (decide (pau5 = 2))), (77, .bool (decide (pau5 = 2))), (80, .bool ((decide (pau5 = 2)) && (!(decide (kpu4 = 2))))), (81, .bool ((decide (pau5 = 2)) && (!(decide (kpu4 = 2)))))] ∧ Mem w noEx wc ((g2, .cells (jobL jqu3 Au3 cu3)) :: (g1, .cells [.int .i64 bu2.first, .int .i64 bu2.step, .int .i64 bu2.span, .int .i64 bu2.press, .int .i64 bu2.note, .slice Au2 bu2.lows.length cu2, .slice Bu2 bu2.highs.length du2, .int .i64 bu2.t0, .int .i64 bu2.t1, .int .i64 bu2.r0, .int .i64 bu2.r1, .int .i64 bu2.u0, .int .i64 bu2.u1, .int .i64 bu2.d0, .int .i64 bu2.d1, .int .i64 bu2.a0, .int .i64 bu2.a1, .int .i64 bu2.b0, .int .i64 bu2.b1, .int .i64 bu2.le, .int .i64 bu2.me]) :: (Iu2 ++ Iu3))) ?_ ?_
   ·refine wp_region_lit ?_
    refine lq T (rn_move rfl (T.ev 4 rfl)) ?_; clear T ac; intro ac T
    refine lq (v := (.bool false)) T (rn_neqof (rn_neq rfl (T.ev 0 rfl) evc) (by simp)) ?_; clear T ac; intro ac T
    refine lq T (rn_move rfl (T.ev 0 rfl)) ?_; clear T ac; intro ac T
    refine lw T (wanted_yes rfl rfl (T.ev 0 rfl) rfl) (rn_move rfl (T.ev 5 rfl)) ?_; clear T ac; intro ac T
    refine lw (v := (.bool false)) T (wanted_yes rfl rfl (T.ev 1 rfl) rfl) (rn_neqof (rn_neq rfl (T.ev 0 rfl) evc) (by simp)) ?_; clear T ac; intro ac T
    refine lq T (rn_pick0 rfl (T.ev 2 rfl) rfl (T.ev 0 rfl)) ?_; clear T ac; intro ac T
    refine lq T (rn_move rfl (T.ev 0 rfl)) ?_; clear T ac; intro ac T
    refine lw T (wanted_yes rfl rfl (T.ev 0 rfl) rfl) (rn_move rfl (T.ev 7 rfl)) ?_; clear T ac; intro ac T
    refine lw (v := (.bool false)) T (wanted_yes rfl rfl (T.ev 1 rfl) rfl) (rn_neqof (rn_neq rfl (T.ev 0 rfl) evc) (by simp)) ?_; clear T ac; intro ac T
    refine lq T (rn_pick0 rfl (T.ev 2 rfl) rfl (T.ev 0 rfl)) ?_; clear T ac; intro ac T
    refine lq T (rn_move rfl (T.ev 0 rfl)) ?_; clear T ac; intro ac T
    refine lw T (wanted_yes rfl rfl (T.ev 0 rfl) rfl) (rn_move rfl (T.ev 14 rfl)) ?_; clear T ac; intro ac T
    refine lw T (wanted_yes rfl rfl (T.ev 1 rfl) rfl) (rn_eql rfl (T.ev 0 rfl) evc) ?_; clear T ac; intro ac T
    refine lw T (wanted_yes rfl rfl (T.ev 2 rfl) rfl) (rn_move rfl (T.ev 14 rfl)) ?_; clear T ac; intro ac T
    refine lw T (wanted_yes rfl rfl (T.ev 3 rfl) rfl) (rn_eql rfl (T.ev 0 rfl) evc) ?_; clear T ac; intro ac T
    refine lw (v := (.bool (!((decide (kpu4 = 1)) == (decide (pau5 = 1)))))) T (wanted_yes rfl rfl (T.ev 4 rfl) rfl) (rn_bin rfl (T.ev 2 rfl) (T.ev 0 rfl) (by kernel_rfl)) ?_; clear T ac; intro ac T
    refine lq T (rn_pick0 rfl (T.ev 5 rfl) rfl (T.ev 0 rfl)) ?_; clear T ac; intro ac T
    refine lq T (rn_move rfl (T.ev 0 rfl)) ?_; clear T ac; intro ac T
    refine lw T (wanted_yes rfl rfl (T.ev 0 rfl) (by rw [show ((decide (kpu4 = 1)) == (decide (pau5 = 1))) = true from (job_eqs hpk1)]; rfl)) (rn_move rfl (T.ev 19 rfl)) ?_; clear T ac; intro ac T
    refine lw T (wanted_yes rfl rfl (T.ev 1 rfl) (by rw [show ((decide (kpu4 = 1)) == (decide (pau5 = 1))) = true from (job_eqs hpk1)]; rfl)) (rn_eql rfl (T.ev 0 rfl) evc) ?_; clear T ac; intro ac T
    refine lw T (wanted_yes rfl rfl (T.ev 2 rfl) (by rw [show ((decide (kpu4 = 1)) == (decide (pau5 = 1))) = true from (job_eqs hpk1)]; rfl)) (rn_move rfl (T.ev 0 rfl)) ?_; clear T ac; intro ac T
    rcases Bool.eq_false_or_eq_true (decide (pau5 = 2)) with h3 | h3
    ·replace h3 := of_decide_eq_true h3
     refine lw T (wanted_yes rfl rfl (T.ev 0 rfl) (decide_eq_true h3)) (rn_move rfl (T.ev 24 rfl)) ?_; clear T ac; intro ac T
     refine lw T (wanted_yes rfl rfl (T.ev 1 rfl) (decide_eq_true h3)) (rn_neq rfl (T.ev 0 rfl) evc) ?_; clear T ac; intro ac T
     refine lw T (wanted_yes rfl rfl (T.ev 5 rfl) (by rw [show ((decide (kpu4 = 1)) == (decide (pau5 = 1))) = true from (job_eqs hpk1)]; rfl)) (rn_pick1 rfl (T.ev 2 rfl) (decide_eq_true h3) (T.ev 0 rfl)) ?_; clear T ac; intro ac T
     refine lq T (rn_pick0 rfl (T.ev 6 rfl) (by rw [show ((decide (kpu4 = 1)) == (decide (pau5 = 1))) = true from (job_eqs hpk1)]; rfl) (T.ev 0 rfl)) ?_; clear T ac; intro ac T
     refine wpList_nil ?_
     replace T := T.pick [0, 1, 2, 3, 4, 5, 6, 9, 10, 11, 12, 13, 16, 17, 20, 21, 30, 31, 32, 33] rfl
     exact ⟨(T.pick (E' := [(3, .pointer (some ⟨g1, 0, none⟩)), (4, .int .i64 (i : Int)), (5, .int .i64 (k : Int)), (6, .pointer (some ⟨g2, 0, none⟩)), (60, .int .i64 0), (61, .bool false), (64, .int .i64 0), (65, .bool false), (68, .int .i64 kpu4), (69, .bool (decide (kpu4 = 1))), (70, .int .i64 pau5), (71, .bool (decide (pau5 = 1))), (72, .bool (!((decide (kpu4 = 1)) == (decide (pau5 = 1))))), (75, .int .i64 pau5), (76, .bool (decide (pau5 = 2))), (77, .bool (decide (pau5 = 2))), (80, .bool (!(decide (kpu4 = 2)))), (81, .bool (!(decide (kpu4 = 2))))]) [17, 18, 19, 16, 15, 14, 13, 12, 11, 10, 9, 8, 7, 6, 5, 4, 1, 0] rfl).as (by (try rw [show (decide (pau5 = 2)) = true from (decide_eq_true h3)]); (try rfl)), M.mask [true, true] rfl⟩
    replace h3 := of_decide_eq_false h3
    refine lp T (wanted_no rfl rfl (T.ev 0 rfl) (decide_eq_false h3)) ?_; clear T ac; intro ac T
    refine lp T (wanted_no rfl rfl (T.ev 1 rfl) (decide_eq_false h3)) ?_; clear T ac; intro ac T
    refine lw T (wanted_yes rfl rfl (T.ev 5 rfl) (by rw [show ((decide (kpu4 = 1)) == (decide (pau5 = 1))) = true from (job_eqs hpk1)]; rfl)) (rn_pick0 rfl (T.ev 2 rfl) (decide_eq_false h3) evc) ?_; clear T ac; intro ac T
    refine lq T (rn_pick0 rfl (T.ev 6 rfl) (by rw [show ((decide (kpu4 = 1)) == (decide (pau5 = 1))) = true from (job_eqs hpk1)]; rfl) (T.ev 0 rfl)) ?_; clear T ac; intro ac T
    refine wpList_nil ?_
    replace T := T.pick [0, 1, 2, 3, 4, 5, 6, 9, 10, 11, 12, 13, 16, 17, 20, 21, 30, 31, 32, 33] rfl
    exact ⟨(T.pick (E' := [(3, .pointer (some ⟨g1, 0, none⟩)), (4, .int .i64 (i : Int)), (5, .int .i64 (k : Int)), (6, .pointer (some ⟨g2, 0, none⟩)), (60, .int .i64 0), (61, .bool false), (64, .int .i64 0), (65, .bool false), (68, .int .i64 kpu4), (69, .bool (decide (kpu4 = 1))), (70, .int .i64 pau5), (71, .bool (decide (pau5 = 1))), (72, .bool (!((decide (kpu4 = 1)) == (decide (pau5 = 1))))), (75, .int .i64 pau5), (76, .bool (decide (pau5 = 2))), (77, .bool (decide (pau5 = 2))), (80, .bool false), (81, .bool false)]) [17, 18, 19, 16, 15, 14, 13, 12, 11, 10, 9, 8, 7, 6, 5, 4, 1, 0] rfl).as (by (try rw [show (decide (pau5 = 2)) = false from (decide_eq_false h3)]); (try rfl)), M.mask [true, true] rfl⟩
   clear T M
   rintro ac wc ⟨T, M⟩
   refine wp_cond_split (T.ev 17 rfl) ?_ ?_
   ·intro h4
    exfalso
    simp only [Bool.and_eq_true, Bool.not_eq_true', decide_eq_true_eq, decide_eq_false_iff_not] at h4; exact h4.2 (hpk2 h4.1)
   intro h4
   (try have h4' := h4; try simp only [Bool.and_eq_true, Bool.or_eq_true, Bool.not_eq_true', Bool.and_eq_false_imp, Bool.or_eq_false_iff, decide_eq_true_eq, decide_eq_false_iff_not] at h4')
   refine wp_skip ?_
   refine nm_then ?_
   refine wp_seq ?_
   refine wp_region_lit ?_
   refine lq T (rn_rowO (Mem.nth M 0 rfl) rfl (T.ev 3 rfl) rfl) ?_; clear T ac; intro ac T
   refine l_w rfl ?_; intro K hK
   refine ow_call (first := []) (cap := []) T rfl rfl rfl rfl evf (.cons (T.ev 0 rfl) .nil) Try.func49 rfl rfl ?_
   refine Calls.mono (Shortest_good jqu3 _ _ _ (Su3.rd M (.cons _ (.cons _ (List.sublist_append_right _ _)))) gq9) ?_
   clear T
   rintro e wc ⟨Au6, cu6, Iu6, rfl, Su6, N⟩
   intro ac T
   obtain ⟨bu6, ou6, Su6⟩ := Su6
   replace Su6 := Su6 w noEx
   obtain ⟨shu6, hshu6⟩ : ∃ q, q = shortL jqu3 := ⟨_, rfl⟩
   rw [← hshu6] at Su6
   obtain ⟨eru6, heru6⟩ : ∃ q, q = shortJE jqu3 := ⟨_, rfl⟩
   have hor9 := short_or (check_of_good gq9)
   rw [← heru6] at hor9
   replace M := (M.join N).swapI
   clear N
   replace M : Mem w noEx wc ((g2, .cells (jobL jqu3 Au3 cu3)) :: (g1, .cells [.int .i64 bu2.first, .int .i64 bu2.step, .int .i64 bu2.span, .int .i64 bu2.press, .int .i64 bu2.note, .slice Au2 bu2.lows.length cu2, .slice Bu2 bu2.highs.length du2, .int .i64 bu2.t0, .int .i64 bu2.t1, .int .i64 bu2.r0, .int .i64 bu2.r1, .int .i64 bu2.u0, .int .i64 bu2.u1, .int .i64 bu2.d0, .int .i64 bu2.d1, .int .i64 bu2.a0, .int .i64 bu2.a1, .int .i64 bu2.b0, .int .i64 bu2.b1, .int .i64 bu2.le, .int .i64 bu2.me]) :: (Iu2 ++ Iu3 ++ Iu6)) := M
   rw [← hshu6] at T
   rw [← heru6] at T
   refine sh_out hK _ _ ?_; clear hK K
   refine lq T (rn_move rfl (T.ev 0 rfl)) ?_; clear T ac; intro ac T
   refine lq T (rn_extract rfl (T.ev 0 rfl) rfl) ?_; clear T ac; intro ac T
   refine lq T (rn_extract rfl (T.ev 1 rfl) rfl) ?_; clear T ac; intro ac T
   refine lq T (rn_assign rfl (T.ev 1 rfl)) ?_; clear T ac; intro ac T
   refine lq T (rn_assign rfl (T.ev 1 rfl)) ?_; clear T ac; intro ac T
   refine wpList_nil ?_
   replace T := T.pick [0, 1, 7, 8, 9, 10, 11, 12, 13, 14, 15, 16, 17, 18, 19, 20, 21, 22, 23] rfl
   refine nm_then ?_
   refine wp_seq ?_
   refine wp_seq ?_
   refine wp_region_lit ?_
   refine lq T (rn_move rfl (T.ev 0 rfl)) ?_; clear T ac; intro ac T
   refine lq T (rn_eql rfl (T.ev 0 rfl) evc) ?_; clear T ac; intro ac T
   refine wpList_nil ?_
   replace T := T.pick [0, 2, 3, 4, 5, 6, 7, 8, 9, 10, 11, 12, 13, 14, 15, 16, 17, 18, 19, 20] rfl
   refine nm_then ?_
   refine wp_if (T.ev 0 rfl) ?_ ?_
   ·intro h5
    refine wp_exit ?_
    refine ex_then ?_
    refine ex_hit ?_
    refine nm_then ?_
    refine wp_region_lit ?_
    refine lq T (rn_move rfl (T.ev 5 rfl)) ?_; clear T ac; intro ac T
    refine lq T (rn_add rfl (T.ev 0 rfl) evc (by omega)) ?_; clear T ac; intro ac T
    refine l_q (v := (.int .i64 ((k : Int) + 1))) (T.pick [0, 1, 2, 3, 4, 5, 6, 8, 9, 10, 11, 12, 13, 14, 15, 16, 17, 18, 19, 20, 21] rfl) rfl rfl rfl rfl (rn_assign rfl (T.ev 0 rfl)) ?_; clear T ac; intro ac T
    refine wpList_nil ?_
    replace T := T.pick [0, 6, 7, 9, 10, 11, 12, 13, 14, 15, 16, 17, 18, 19, 20, 21] rfl
    replace M := M.mask [false, true] rfl
    refine nm_then ?_
    exact ⟨_, by omega, k + 1, rfl, (by omega), T.pick [1, 2, 0] rfl, (M.sub (List.Sublist.cons_cons _ (List.Sublist.trans (List.sublist_append_left _ _) (List.sublist_append_left _ _))))⟩
   intro h5
   have her9 : eru6 = 0 := by omega
   have hok9 := short_ok (by rw [← heru6]; exact her9) (check_of_good gq9)
   rw [← hshu6] at hok9
   refine wp_skip ?_
   refine nm_then ?_
   refine wp_seq ?_
   refine wp_region_lit ?_
   refine lq T (rn_rowO (Mem.nth M 0 rfl) rfl (T.ev 6 rfl) rfl) ?_; clear T ac; intro ac T
   refine lq T (rn_move rfl (T.ev 3 rfl)) ?_; clear T ac; intro ac T
   refine l_w rfl ?_; intro K hK
   refine ow_call (first := []) (cap := []) T rfl rfl rfl rfl evf (.cons (T.ev 1 rfl) (.cons (T.ev 0 rfl) .nil)) Try.func50 rfl rfl ?_
   refine Calls.mono (After_good jqu3 _ _ _ _ _ shu6 _ (Su3.rd M (.cons _ (.cons _ (subL (List.sublist_append_right _ _))))) gq9 (Su6.rd M (.cons _ (.cons _ (List.sublist_append_right _ _)))) (by omega) hok9.2.1) ?_
   clear T
   rintro e wc ⟨rfl, hb⟩
   intro ac T
   replace M := M.call hb; clear hb
   obtain ⟨zu7, hzu7⟩ : ∃ q, q = jqu3.st.after shu6 := ⟨_, rfl⟩
   rw [← hzu7] at T
   have hzo9 := hok9.2.2.2
   rw [← hzu7] at hzo9
   have hzb9 : -2000 ≤ zu7.p0 ∧ zu7.p1 ≤ 2000 := by rw [hzu7]; exact after_small gq9 hok9.1
   refine sh_out hK _ _ ?_; clear hK K
   refine lq T (rn_move rfl (T.ev 0 rfl)) ?_; clear T ac; intro ac T
   refine lq T (rn_extract rfl (T.ev 0 rfl) rfl) ?_; clear T ac; intro ac T
   refine lq T (rn_extract rfl (T.ev 1 rfl) rfl) ?_; clear T ac; intro ac T
   refine l_w rfl ?_; intro K hK
   refine ow_al M T rfl rfl rfl rfl ?_; clear M T; intro g3 wc ac M T
   refine sh_out hK _ _ ?_; clear hK K
   refine l_w rfl ?_; intro K hK
   refine ow_stO M T rfl rfl (T.ev 0 rfl) (T.ev 2 rfl) rfl .head rfl (by simp) rfl (by kernel_rfl) ?_; clear M T; intro wc ac M T
   refine sh_out hK _ _ ?_; clear hK K
   refine lq T (rn_assign rfl (T.ev 1 rfl)) ?_; clear T ac; intro ac T
   refine wpList_nil ?_
   replace T := T.pick [0, 1, 9, 11, 12, 13, 15, 16, 17, 18, 19, 20, 21, 22, 23, 24, 25, 26, 27] rfl
   replace M := M.mask [true, false, true] rfl
   refine nm_then ?_
   refine wp_seq ?_
   refine wp_region_lit ?_
   refine lq T (rn_rowO (Mem.nth M 1 rfl) rfl (T.ev 3 rfl) rfl) ?_; clear T ac; intro ac T
   refine l_w rfl ?_; intro K hK
   refine ow_call (first := []) (cap := []) T rfl rfl rfl rfl evf (.cons (T.ev 0 rfl) .nil) Try.func31 rfl rfl ?_
   refine Calls.mono (CopyBox_ren bu2 _ _ _ _ _ (SAu2.rd M (.cons _ (.cons _ (subL (subL (List.Sublist.refl _)))))) (SBu2.rd M (.cons _ (.cons _ (subL (subL (List.Sublist.refl _)))))) (by omega) (by omega)) ?_
   clear T
   rintro e wc ⟨g1u8, c1u8, y1u8, g2u8, c2u8, y2u8, hqu8, hhqu8, rfl, N⟩
   intro ac T
   replace M := M.join N
   clear N
   replace M : Mem w noEx wc ((g1u8, .cells (sc bu2.lows ++ y1u8)) :: (g2u8, .cells (sc hqu8 ++ y2u8)) :: (g3, .cells [.int .i64 zu7.p0, .int .i64 zu7.p1, .int .i64 zu7.t0, .int .i64 zu7.t1, .int .i64 zu7.r0, .int .i64 zu7.r1]) :: (g1, .cells [.int .i64 bu2.first, .int .i64 bu2.step, .int .i64 bu2.span, .int .i64 bu2.press, .int .i64 bu2.note, .slice Au2 bu2.lows.length cu2, .slice Bu2 bu2.highs.length du2, .int .i64 bu2.t0, .int .i64 bu2.t1, .int .i64 bu2.r0, .int .i64 bu2.r1, .int .i64 bu2.u0, .int .i64 bu2.u1, .int .i64 bu2.d0, .int .i64 bu2.d1, .int .i64 bu2.a0, .int .i64 bu2.a1, .int .i64 bu2.b0, .int .i64 bu2.b1, .int .i64 bu2.le, .int .i64 bu2.me]) :: (Iu2 ++ Iu3 ++ Iu6)) := M
   have hnq9 : hqu8.length = bu2.highs.length := by rw [hhqu8]
   have hkq9 : hqu8[k]? = some y := by rw [hhqu8]; exact hky9
   have Sc1u8 := Sp.pre (w := w) (ex := noEx) (size := 4) (n := bu2.lows.length) (g := g1u8) (xs := sc bu2.lows) (ys := y1u8) (by simp [sc_length])
   have Sc2u8 := Sp.pre (w := w) (ex := noEx) (size := 4) (n := hqu8.length) (g := g2u8) (xs := sc hqu8) (ys := y2u8) (by simp [sc_length])
   refine sh_out hK _ _ ?_; clear hK K
   refine l_w rfl ?_; intro K hK
   refine ow_al M T rfl rfl rfl rfl ?_; clear M T; intro g4 wc ac M T
   refine sh_out hK _ _ ?_; clear hK K
   refine l_w rfl ?_; intro K hK
   refine ow_stO M T rfl rfl (T.ev 0 rfl) (T.ev 1 rfl) rfl .head rfl (by simp) rfl (by kernel_rfl) ?_; clear M T; intro wc ac M T
   refine sh_out hK _ _ ?_; clear hK K
   refine wpList_nil ?_
   replace T := T.pick [0, 3, 4, 5, 6, 7, 8, 9, 10, 11, 12, 13, 14, 15, 16, 17, 18, 19, 20, 21] rfl
   refine nm_then ?_
   refine wp_seq ?_
   refine wp_region_lit ?_
   refine lq (v := (.pointer (some ⟨g1, 0, none⟩))) T (rn_fieldAddr (off := 0) rfl (T.ev 4 rfl) (fun _ _ _ => by kernel_rfl)) ?_; clear T ac; intro ac T
   refine lq T (rn_rowO (Mem.nth M 4 rfl) rfl (T.ev 0 rfl) rfl) ?_; clear T ac; intro ac T
   refine lq (v := (.pointer (some ⟨g1, 4, none⟩))) T (rn_fieldAddr (off := 4) rfl (T.ev 6 rfl) (fun _ _ _ => by kernel_rfl)) ?_; clear T ac; intro ac T
   refine lq T (rn_one (Mem.nth M 4 rfl) rfl (T.ev 0 rfl) rfl) ?_; clear T ac; intro ac T
   refine l_w rfl ?_; intro K hK
   refine ow_call (first := []) (cap := []) T rfl rfl rfl rfl evf (.cons (T.ev 2 rfl) (.cons (T.ev 0 rfl) .nil)) Try.func41 rfl rfl ?_
   refine Calls.mono (Due_box bu2 _ hgu2) ?_
   clear T
   rintro e wc ⟨rfl, hb⟩
   intro ac T
   replace M := M.call hb; clear hb
   refine sh_out hK _ _ ?_; clear hK K
   refine lq T (rn_move rfl (T.ev 0 rfl)) ?_; clear T ac; intro ac T
   refine lq T (rn_extract rfl (T.ev 0 rfl) rfl) ?_; clear T ac; intro ac T
   refine lq T (rn_extract rfl (T.ev 1 rfl) rfl) ?_; clear T ac; intro ac T
   refine lq T (rn_assign rfl (T.ev 1 rfl)) ?_; clear T ac; intro ac T
   refine lq T (rn_assign rfl (T.ev 1 rfl)) ?_; clear T ac; intro ac T
   refine wpList_nil ?_
   replace T := T.pick [0, 1, 10, 11, 12, 13, 14, 15, 16, 17, 18, 19, 20, 21, 22, 23, 24, 25, 26, 27, 28, 29] rfl
   refine nm_then ?_
   refine wp_seq ?_
   refine wp_seq ?_
   refine wp_region_lit ?_
   refine lq T (rn_move rfl (T.ev 5 rfl)) ?_; clear T ac; intro ac T
   refine lq T (rn_neq rfl (T.ev 0 rfl) evc) ?_; clear T ac; intro ac T
   refine lq T (rn_move rfl (T.ev 0 rfl)) ?_; clear T ac; intro ac T
   refine lw T (wanted_yes rfl rfl (T.ev 0 rfl) (by rw [show (decide (eru6 = 0)) = true from (decide_eq_true her9)]; rfl)) (rn_move rfl (T.ev 6 rfl)) ?_; clear T ac; intro ac T
   refine lw (v := (.bool false)) T (wanted_yes rfl rfl (T.ev 1 rfl) (by rw [show (decide (eru6 = 0)) = true from (decide_eq_true her9)]; rfl)) (rn_neqof (rn_neq rfl (T.ev 0 rfl) evc) (by simp)) ?_; clear T ac; intro ac T
   refine lq T (rn_pick0 rfl (T.ev 2 rfl) (by rw [show (decide (eru6 = 0)) = true from (decide_eq_true her9)]; rfl) (T.ev 0 rfl)) ?_; clear T ac; intro ac T
   refine lq T (rn_move rfl (T.ev 0 rfl)) ?_; clear T ac; intro ac T
   refine lw T (wanted_yes rfl rfl (T.ev 0 rfl) rfl) (rn_move rfl (T.ev 7 rfl)) ?_; clear T ac; intro ac T
   refine lw (v := (.bool false)) T (wanted_yes rfl rfl (T.ev 1 rfl) rfl) (rn_neqof (rn_neq rfl (T.ev 0 rfl) evc) (by simp)) ?_; clear T ac; intro ac T
   refine lq T (rn_pick0 rfl (T.ev 2 rfl) rfl (T.ev 0 rfl)) ?_; clear T ac; intro ac T
   refine wpList_nil ?_
   replace T := T.pick [0, 1, 2, 5, 6, 11, 12, 14, 16, 17, 18, 19, 20, 21, 22, 23, 24, 25, 26, 27, 28, 29, 30, 31] rfl
   refine nm_then ?_
   refine wp_cond_false (T.ev 0 rfl) ?_
   refine wp_skip ?_
   refine nm_then ?_
   refine wp_seq ?_
   refine g_start2 M (M.mask [false, false, false, false, false] rfl) 17 (by kernel_rfl) rfl (by kernel_rfl) ?_
   clear M; intro wc M
   refine g_addG 16 M ?_
   refine gq (v := (.pointer (some ⟨g4, 6, none⟩))) T 0 1 rfl (fun _ _ _ _ _ => (rn_fieldAddr (off := 6) rfl (T.ev 6 rfl) (fun _ _ _ => by kernel_rfl))) ?_; clear T ac; intro ac T
   refine gq T 1 3 rfl (fun B w' hD hl hS => (rn_one (Mem.nth (show Mem w noEx w' _ from ((MA.lft hS) (hD.wait (i := 1) (m := 16) (by kernel_rfl) hl))) 0 rfl) rfl (T.ev 0 rfl) rfl)) ?_; clear T ac; intro ac T
   refine gq T 2 7 rfl (fun _ _ _ _ _ => (rn_move rfl (T.ev 12 rfl))) ?_; clear T ac; intro ac T
   refine gq (v := (.pointer (some ⟨g3, 0, none⟩))) T 3 15 rfl (fun _ _ _ _ _ => (rn_fieldAddr (off := 0) rfl (T.ev 10 rfl) (fun _ _ _ => by kernel_rfl))) ?_; clear T ac; intro ac T
   refine gq (v := (.pointer (some ⟨g3, 0, none⟩))) T 4 31 rfl (fun _ _ _ _ _ => (rn_fieldAddr (off := 0) rfl (T.ev 0 rfl) (fun _ _ _ => by kernel_rfl))) ?_; clear T ac; intro ac T
   refine gq T 5 63 rfl (fun B w' hD hl hS => (rn_one (Mem.nth (show Mem w noEx w' _ from ((MA.lft hS) (hD.wait (i := 5) (m := 16) (by kernel_rfl) hl))) 3 rfl) rfl (T.ev 0 rfl) rfl)) ?_; clear T ac; intro ac T
   refine gq T 6 127 rfl (fun _ _ _ _ _ => (rn_move rfl (T.ev 11 rfl))) ?_; clear T ac; intro ac T
   refine gq T 7 255 rfl (fun _ _ _ _ _ => (rn_add rfl (T.ev 1 rfl) (T.ev 0 rfl) (by omega))) ?_; clear T ac; intro ac T
   refine gq (v := (.pointer (some ⟨g3, 0, none⟩))) T 8 511 rfl (fun _ _ _ _ _ => (rn_fieldAddr (off := 0) rfl (T.ev 15 rfl) (fun _ _ _ => by kernel_rfl))) ?_; clear T ac; intro ac T
   refine gq (v := (.pointer (some ⟨g3, 1, none⟩))) T 9 1023 rfl (fun _ _ _ _ _ => (rn_fieldAddr (off := 1) rfl (T.ev 0 rfl) (fun _ _ _ => by kernel_rfl))) ?_; clear T ac; intro ac T
   refine gq T 10 2047 rfl (fun B w' hD hl hS => (rn_one (Mem.nth (show Mem w noEx w' _ from ((MA.lft hS) (hD.wait (i := 10) (m := 16) (by kernel_rfl) hl))) 3 rfl) rfl (T.ev 0 rfl) rfl)) ?_; clear T ac; intro ac T
   refine gq T 11 4095 rfl (fun _ _ _ _ _ => (rn_move rfl (T.ev 16 rfl))) ?_; clear T ac; intro ac T
   refine gq T 12 8191 rfl (fun _ _ _ _ _ => (rn_add rfl (T.ev 1 rfl) (T.ev 0 rfl) (by omega))) ?_; clear T ac; intro ac T
   refine gw 13 16383 ?_; intro K hK
   refine ow_call (first := []) (cap := []) T rfl rfl rfl rfl evf (.cons (T.ev 5 rfl) (.cons (T.ev 0 rfl) .nil)) Try.func24 rfl rfl ?_
   refine Calls.mono (to5_any (zu7.p0 + (bu2.first + (bu2.step * bu2.note))) (zu7.p1 + (bu2.first + (bu2.step * bu2.note))) _) ?_
   clear T
   rintro e wc ⟨rfl, hb⟩
   intro ac T
   replace M := M.call hb; clear hb
   refine sh_out hK _ _ (MA.mk (fun _ => M.mask [true, true, true, true, true] rfl) (M.mask [false, false, false, false, false] rfl)) ?_; clear hK K
   refine gq T 14 32767 rfl (fun _ _ _ _ _ => (rn_indexAddr (size := 4) k rfl (T.ev 12 rfl) (T.ev 11 rfl) ⟨_, Try.underlying38, by kernel_rfl⟩ rfl (by omega) rfl)) ?_; clear T ac; intro ac T
   refine gq T 15 65535 rfl (fun _ _ _ _ _ => (rn_fieldAddr (off := 0) rfl (T.ev 0 rfl) (fun _ _ _ => by kernel_rfl))) ?_; clear T ac; intro ac T
   refine gw 16 131071 ?_; intro K hK
   refine ow_stS2 M T rfl rfl (T.ev 0 rfl) (T.ev 2 rfl) hkq9 (.tail (.tail .head)) (by omega) rfl ?_; clear M T; intro wc ac M T
   obtain ⟨lo1, hlo1⟩ : ∃ q, q = hqu8.set k ({ y with t0 := (zu7.p0 + (bu2.first + (bu2.step * bu2.note))), t1 := (zu7.p1 + (bu2.first + (bu2.step * bu2.note))) } : Snd) := ⟨_, rfl⟩
   have lhlo1 : hqu8.length = lo1.length := by rw [hlo1, List.length_set]
   rw [← hlo1] at M; (try rw [lhlo1] at M); (try rw [lhlo1] at T)
   have Ss1 := Sp.pre (w := w) (ex := noEx) (size := 4) (n := lo1.length) (g := g2u8) (xs := sc lo1) (ys := y2u8) (by simp [sc_length])
   obtain ⟨ye1, hye1⟩ : ∃ q : Snd, q = ({ y with t0 := (zu7.p0 + (bu2.first + (bu2.step * bu2.note))), t1 := (zu7.p1 + (bu2.first + (bu2.step * bu2.note))) } : Snd) := ⟨_, rfl⟩
   have hello1 : lo1[k]? = some ye1 := by rw [hlo1, hye1]; exact List.getElem?_set_self (by omega)
   refine sh_out hK _ _ (MA.mk (fun h => (no_of (by kernel_rfl) h).elim) (M.mask [false, false, false, false, false] rfl)) ?_; clear hK K
   refine g_done (by kernel_rfl) ?_
   replace T := T.pick [17, 18, 19, 20, 22, 24, 25, 26, 27, 28, 29, 30, 31, 32, 33, 34, 35, 36, 37, 38, 39] rfl
   replace M := M.mask [true, true, true, false, true] rfl
   refine nm_then ?_
   refine wp_seq ?_
   refine cut_seq (fun ac wc => Tm ac 163 [(3, .pointer (some ⟨g1, 0, none⟩)), (4, .int .i64 (i : Int)), (5, .int .i64 (k : Int)), (16, .pointer (some ⟨g4, 0, none⟩)), (60, .int .i64 0), (61, .bool false), (64, .int .i64 0), (65, .bool false), (68, .int .i64 kpu4), (69, .bool (decide (kpu4 = 1))), (70, .int .i64 pau5), (71, .bool (decide (pau5 = 1))), (72, .bool (!((decide (kpu4 = 1)) == (decide (pau5 = 1))))), (75, .int .i64 pau5), (76, .bool (decide (pau5 = 2))), (77, .bool (decide (pau5 = 2))), (80, .bool ((decide (pau5 = 2)) && (!(decide (kpu4 = 2))))), (108, .int .i64 0), (109, .bool false), (112, .int .i64 0), (113, .bool false), (148, .bool ((decide (ye1.t0 < (-30))) || (decide (30 < ye1.t1))))] ∧ Mem w noEx wc ((g4, .cells [.int .i64 bu2.first, .int .i64 bu2.step, .int .i64 bu2.span, .int .i64 bu2.press, .int .i64 bu2.note, .slice (some ⟨g1u8, 0, none⟩) bu2.lows.length c1u8, .slice (some ⟨g2u8, 0, none⟩) lo1.length c2u8, .int .i64 bu2.t0, .int .i64 bu2.t1, .int .i64 bu2.r0, .int .i64 bu2.r1, .int .i64 bu2.u0, .int .i64 bu2.u1, .int .i64 bu2.d0, .int .i64 bu2.d1, .int .i64 bu2.a0, .int .i64 bu2.a1, .int .i64 bu2.b0, .int .i64 bu2.b1, .int .i64 bu2.le, .int .i64 bu2.me]) :: (g1u8, .cells (sc bu2.lows ++ y1u8)) :: (g2u8, .cells (sc lo1 ++ y2u8)) :: (g1, .cells [.int .i64 bu2.first, .int .i64 bu2.step, .int .i64 bu2.span, .int .i64 bu2.press, .int .i64 bu2.note, .slice Au2 bu2.lows.length cu2, .slice Bu2 bu2.highs.length du2, .int .i64 bu2.t0, .int .i64 bu2.t1, .int .i64 bu2.r0, .int .i64 bu2.r1, .int .i64 bu2.u0, .int .i64 bu2.u1, .int .i64 bu2.d0, .int .i64 bu2.d1, .int .i64 bu2.a0, .int .i64 bu2.a1, .int .i64 bu2.b0, .int .i64 bu2.b1, .int .i64 bu2.le, .int .i64 bu2.me]) :: (Iu2 ++ Iu3 ++ Iu6))) ?_ ?_
   ·refine wp_region_lit ?_
    refine lq (v := (.pointer (some ⟨g4, 6, none⟩))) T (rn_fieldAddr (off := 6) rfl (T.ev 4 rfl) (fun _ _ _ => by kernel_rfl)) ?_; clear T ac; intro ac T
    refine lq T (rn_one (Mem.nth M 0 rfl) rfl (T.ev 0 rfl) rfl) ?_; clear T ac; intro ac T
    refine lq T (rn_move rfl (T.ev 9 rfl)) ?_; clear T ac; intro ac T
    refine lq T (rn_indexAddr (size := 4) k rfl (T.ev 1 rfl) (T.ev 0 rfl) ⟨_, Try.underlying38, by kernel_rfl⟩ rfl (by omega) rfl) ?_; clear T ac; intro ac T
    refine lq T (rn_fieldAddr (off := 0) rfl (T.ev 0 rfl) (fun _ _ _ => by kernel_rfl)) ?_; clear T ac; intro ac T
    refine lq T (rn_fieldAddr (off := 0) rfl (T.ev 0 rfl) (fun _ _ _ => by kernel_rfl)) ?_; clear T ac; intro ac T
    refine lq T (rn_cell (Sp.scC0 Ss1 M (.cons _ (.cons _ (List.Sublist.cons_cons _ (List.nil_sublist _)))) hello1) rfl (T.ev 0 rfl)) ?_; clear T ac; intro ac T
    refine lq T (rn_lss rfl (T.ev 0 rfl) evc) ?_; clear T ac; intro ac T
    refine lq T (rn_move rfl (T.ev 0 rfl)) ?_; clear T ac; intro ac T
    rcases Bool.eq_false_or_eq_true (decide (ye1.t0 < (-30))) with h6 | h6
    ·replace h6 := of_decide_eq_true h6
     refine lp T (wanted_no rfl rfl (T.ev 0 rfl) (decide_eq_true h6)) ?_; clear T ac; intro ac T
     refine lp T (wanted_no rfl rfl (T.ev 1 rfl) (decide_eq_true h6)) ?_; clear T ac; intro ac T
     refine lp T (wanted_no rfl rfl (T.ev 2 rfl) (decide_eq_true h6)) ?_; clear T ac; intro ac T
     refine lp T (wanted_no rfl rfl (T.ev 3 rfl) (decide_eq_true h6)) ?_; clear T ac; intro ac T
     refine lp T (wanted_no rfl rfl (T.ev 4 rfl) (decide_eq_true h6)) ?_; clear T ac; intro ac T
     refine lp T (wanted_no rfl rfl (T.ev 5 rfl) (decide_eq_true h6)) ?_; clear T ac; intro ac T
     refine lp T (wanted_no rfl rfl (T.ev 6 rfl) (decide_eq_true h6)) ?_; clear T ac; intro ac T
     refine lp T (wanted_no rfl rfl (T.ev 7 rfl) (decide_eq_true h6)) ?_; clear T ac; intro ac T
     refine lq T (rn_pick1 rfl (T.ev 8 rfl) (decide_eq_true h6) evc) ?_; clear T ac; intro ac T
     refine wpList_nil ?_
     replace T := T.pick [0, 1, 2, 3, 4, 5, 6, 7, 8, 18, 19, 20, 21, 22, 23, 24, 25, 26, 27, 28, 29, 30, 31, 32, 33, 34, 35, 36, 37, 38] rfl
     exact ⟨(T.pick (E' := [(3, .pointer (some ⟨g1, 0, none⟩)), (4, .int .i64 (i : Int)), (5, .int .i64 (k : Int)), (16, .pointer (some ⟨g4, 0, none⟩)), (60, .int .i64 0), (61, .bool false), (64, .int .i64 0), (65, .bool false), (68, .int .i64 kpu4), (69, .bool (decide (kpu4 = 1))), (70, .int .i64 pau5), (71, .bool (decide (pau5 = 1))), (72, .bool (!((decide (kpu4 = 1)) == (decide (pau5 = 1))))), (75, .int .i64 pau5), (76, .bool (decide (pau5 = 2))), (77, .bool (decide (pau5 = 2))), (80, .bool ((decide (pau5 = 2)) && (!(decide (kpu4 = 2))))), (108, .int .i64 0), (109, .bool false), (112, .int .i64 0), (113, .bool false), (148, .bool true)]) [14, 15, 16, 13, 17, 18, 19, 20, 21, 22, 23, 24, 25, 26, 27, 28, 29, 12, 11, 10, 9, 0] rfl).as (by (try rw [show (decide (ye1.t0 < (-30))) = true from (decide_eq_true h6)]); (try rfl)), M.mask [true, true, true, true] rfl⟩
    replace h6 := of_decide_eq_false h6
    refine lw (v := (.pointer (some ⟨g4, 6, none⟩))) T (wanted_yes rfl rfl (T.ev 0 rfl) (decide_eq_false h6)) (rn_fieldAddr (off := 6) rfl (T.ev 13 rfl) (fun _ _ _ => by kernel_rfl)) ?_; clear T ac; intro ac T
    refine lw T (wanted_yes rfl rfl (T.ev 1 rfl) (decide_eq_false h6)) (rn_one (Mem.nth M 0 rfl) rfl (T.ev 0 rfl) rfl) ?_; clear T ac; intro ac T
    refine lw T (wanted_yes rfl rfl (T.ev 2 rfl) (decide_eq_false h6)) (rn_move rfl (T.ev 18 rfl)) ?_; clear T ac; intro ac T
    refine lw T (wanted_yes rfl rfl (T.ev 3 rfl) (decide_eq_false h6)) (rn_indexAddr (size := 4) k rfl (T.ev 1 rfl) (T.ev 0 rfl) ⟨_, Try.underlying38, by kernel_rfl⟩ rfl (by omega) rfl) ?_; clear T ac; intro ac T
    refine lw T (wanted_yes rfl rfl (T.ev 4 rfl) (decide_eq_false h6)) (rn_fieldAddr (off := 0) rfl (T.ev 0 rfl) (fun _ _ _ => by kernel_rfl)) ?_; clear T ac; intro ac T
    refine lw T (wanted_yes rfl rfl (T.ev 5 rfl) (decide_eq_false h6)) (rn_fieldAddr (off := 1) rfl (T.ev 0 rfl) (fun _ _ _ => by kernel_rfl)) ?_; clear T ac; intro ac T
    refine lw T (wanted_yes rfl rfl (T.ev 6 rfl) (decide_eq_false h6)) (rn_cell (Sp.scC1 Ss1 M (.cons _ (.cons _ (List.Sublist.cons_cons _ (List.nil_sublist _)))) hello1) rfl (T.ev 0 rfl)) ?_; clear T ac; intro ac T
    refine lw T (wanted_yes rfl rfl (T.ev 7 rfl) (decide_eq_false h6)) (rn_gtr rfl (T.ev 0 rfl) evc) ?_; clear T ac; intro ac T
    refine lq T (rn_pick0 rfl (T.ev 8 rfl) (decide_eq_false h6) (T.ev 0 rfl)) ?_; clear T ac; intro ac T
    refine wpList_nil ?_
    replace T := T.pick [0, 1, 2, 3, 4, 5, 6, 7, 8, 18, 19, 20, 21, 22, 23, 24, 25, 26, 27, 28, 29, 30, 31, 32, 33, 34, 35, 36, 37, 38] rfl
    exact ⟨(T.pick (E' := [(3, .pointer (some ⟨g1, 0, none⟩)), (4, .int .i64 (i : Int)), (5, .int .i64 (k : Int)), (16, .pointer (some ⟨g4, 0, none⟩)), (60, .int .i64 0), (61, .bool false), (64, .int .i64 0), (65, .bool false), (68, .int .i64 kpu4), (69, .bool (decide (kpu4 = 1))), (70, .int .i64 pau5), (71, .bool (decide (pau5 = 1))), (72, .bool (!((decide (kpu4 = 1)) == (decide (pau5 = 1))))), (75, .int .i64 pau5), (76, .bool (decide (pau5 = 2))), (77, .bool (decide (pau5 = 2))), (80, .bool ((decide (pau5 = 2)) && (!(decide (kpu4 = 2))))), (108, .int .i64 0), (109, .bool false), (112, .int .i64 0), (113, .bool false), (148, .bool (decide (30 < ye1.t1)))]) [14, 15, 16, 13, 17, 18, 19, 20, 21, 22, 23, 24, 25, 26, 27, 28, 29, 12, 11, 10, 9, 0] rfl).as (by (try rw [show (decide (ye1.t0 < (-30))) = false from (decide_eq_false h6)]); (try rfl)), M.mask [true, true, true, true] rfl⟩
   clear T M
   rintro ac wc ⟨T, M⟩
   refine wp_cond_split (T.ev 21 rfl) ?_ ?_
   ·intro h7
    (try have h7' := h7; try simp only [Bool.and_eq_true, Bool.or_eq_true, Bool.not_eq_true', Bool.and_eq_false_imp, Bool.or_eq_false_iff, decide_eq_true_eq, decide_eq_false_iff_not] at h7')
    refine wp_exit ?_
    refine ex_then ?_
    refine ex_hit ?_
    refine nm_then ?_
    refine wp_region_lit ?_
    refine lq T (rn_move rfl (T.ev 2 rfl)) ?_; clear T ac; intro ac T
    refine lq T (rn_add rfl (T.ev 0 rfl) evc (by omega)) ?_; clear T ac; intro ac T
    refine l_q (v := (.int .i64 ((k : Int) + 1))) (T.pick [0, 1, 2, 3, 5, 6, 7, 8, 9, 10, 11, 12, 13, 14, 15, 16, 17, 18, 19, 20, 21, 22, 23] rfl) rfl rfl rfl rfl (rn_assign rfl (T.ev 0 rfl)) ?_; clear T ac; intro ac T
    refine wpList_nil ?_
    replace T := T.pick [0, 3, 4, 6, 7, 8, 9, 10, 11, 12, 13, 14, 15, 16, 17, 18, 19, 20, 21, 22] rfl
    replace M := M.mask [false, true, true, true] rfl
    refine nm_then ?_
    exact ⟨_, by omega, k + 1, rfl, (by omega), T.pick [1, 2, 0] rfl, ((M.permT [2] 3 rfl rfl rfl rfl).sub (List.Sublist.cons_cons _ (List.Sublist.trans (List.sublist_append_left _ _) (List.sublist_append_left _ _))))⟩
   intro h7
   (try have h7' := h7; try simp only [Bool.and_eq_true, Bool.or_eq_true, Bool.not_eq_true', Bool.and_eq_false_imp, Bool.or_eq_false_iff, decide_eq_true_eq, decide_eq_false_iff_not] at h7')
   have hb1 : -30 ≤ ye1.t0 := by omega
   have hb2 : ye1.t1 ≤ 30 := by omega
   refine wp_skip ?_
   refine nm_then ?_
   refine wp_seq ?_
   refine wp_region_lit ?_
   refine lq T (rn_rowO (Mem.nth M 0 rfl) rfl (T.ev 3 rfl) rfl) ?_; clear T ac; intro ac T
   refine lq T (rn_move rfl (T.ev 2 rfl)) ?_; clear T ac; intro ac T
   refine lq T (rn_move rfl (T.ev 4 rfl)) ?_; clear T ac; intro ac T
   refine l_w rfl ?_; intro K hK
   have gye : ye1.good := ⟨by rw [hye1]; dsimp only; rw [hye1] at hb1 hb2; dsimp only at hb1 hb2; omega, by rw [hye1]; exact gy9.s⟩
   have gx2 := hi_good (k := k) hgu2 (by omega) gye (hs := lo1) (by rw [hlo1, hye1, hhqu8])
   refine ow_call (first := []) (cap := []) T rfl rfl rfl rfl evf (.cons (T.ev 2 rfl) (.cons (T.ev 1 rfl) (.cons (T.ev 0 rfl) .nil))) Try.func22 rfl rfl ?_
   refine Calls.mono (Keeps_at ({ bu2 with lows := bu2.lows, highs := lo1, span := bu2.span, press := bu2.press }) _ _ _ _ i k x ye1 _ (Sc1u8.rd M (.cons _ (List.Sublist.cons_cons _ (List.nil_sublist _)))) (Ss1.rd M (.cons _ (.cons _ (List.Sublist.cons_cons _ (List.nil_sublist _))))) gx2 hkx9 hello1) ?_
   clear T
   rintro e wc ⟨rfl, hb⟩
   intro ac T
   replace M := M.call hb; clear hb
   obtain ⟨kpu11, hkqu11⟩ : ∃ q, q = keepsP ({ bu2 with lows := bu2.lows, highs := lo1, span := bu2.span, press := bu2.press } : Bx).law ({ bu2 with lows := bu2.lows, highs := lo1, span := bu2.span, press := bu2.press } : Bx).due [x, ye1] := ⟨_, rfl⟩
   rw [← hkqu11] at T
   have hkpu11 : kpu11 = 1 := by rw [hkqu11]; exact keeps_ye (b := bu2) (y := y) (job_filed (b := bu2) (y := y) (p0 := zu7.p0) (p1 := zu7.p1) hgu2 gx9 gy9 (by rw [← hjqu3, hzu7]; exact hok9.2.2.1) (by have h99 := gye; rw [hye1] at h99; exact h99)) hye1
   refine sh_out hK _ _ ?_; clear hK K
   refine lq T (rn_move rfl (T.ev 0 rfl)) ?_; clear T ac; intro ac T
   refine lq T (rn_extract rfl (T.ev 0 rfl) rfl) ?_; clear T ac; intro ac T
   refine lq T (rn_extract rfl (T.ev 1 rfl) rfl) ?_; clear T ac; intro ac T
   refine lq T (rn_assign rfl (T.ev 1 rfl)) ?_; clear T ac; intro ac T
   refine lq T (rn_assign rfl (T.ev 1 rfl)) ?_; clear T ac; intro ac T
   refine wpList_nil ?_
   replace T := T.pick [0, 1, 9, 10, 11, 13, 14, 15, 16, 17, 18, 19, 20, 21, 22, 23, 24, 25, 26, 27, 28, 29] rfl
   replace M := M.mask [false, true, true, true] rfl
   refine nm_then ?_
   refine wp_seq ?_
   refine wp_region_lit ?_
   refine lq T (rn_move rfl (T.ev 0 rfl)) ?_; clear T ac; intro ac T
   refine lq (v := (.bool false)) T (rn_neqof (rn_neq rfl (T.ev 0 rfl) evc) (by simp)) ?_; clear T ac; intro ac T
   refine lq T (rn_move rfl (T.ev 0 rfl)) ?_; clear T ac; intro ac T
   refine lw T (wanted_yes rfl rfl (T.ev 0 rfl) rfl) (rn_move rfl (T.ev 4 rfl)) ?_; clear T ac; intro ac T
   refine lw T (wanted_yes rfl rfl (T.ev 1 rfl) rfl) (rn_neq rfl (T.ev 0 rfl) evc) ?_; clear T ac; intro ac T
   refine lq T (rn_pick0 rfl (T.ev 2 rfl) rfl (T.ev 0 rfl)) ?_; clear T ac; intro ac T
   refine wpList_nil ?_
   replace T := T.pick [0, 1, 2, 8, 9, 10, 11, 12, 13, 14, 15, 16, 17, 18, 19, 20, 21, 22, 23, 24, 25, 26, 27] rfl
   refine nm_then ?_
   refine wp_cond_false ((T.ev 0 rfl).trans (congrArg Value.bool (by rw [show (decide (kpu11 = 1)) = true from (decide_eq_true hkpu11)]; rfl))) ?_
   refine wp_skip ?_
   refine nm_blk ?_
   refine nm_then ?_
   refine wp_region_lit ?_
   refine lq T (rn_move rfl (T.ev 5 rfl)) ?_; clear T ac; intro ac T
   refine lq T (rn_add rfl (T.ev 0 rfl) evc (by omega)) ?_; clear T ac; intro ac T
   refine l_q (v := (.int .i64 ((k : Int) + 1))) (T.pick [0, 1, 2, 3, 4, 5, 6, 8, 9, 10, 11, 12, 13, 14, 15, 16, 17, 18, 19, 20, 21, 22, 23, 24] rfl) rfl rfl rfl rfl (rn_assign rfl (T.ev 0 rfl)) ?_; clear T ac; intro ac T
   refine wpList_nil ?_
   replace T := T.pick [0, 4, 5, 6, 7, 8, 9, 10, 11, 12, 13, 14, 15, 16, 17, 18, 19, 20, 21, 22, 23, 24] rfl
   refine nm_then ?_
   exact ⟨_, by omega, k + 1, rfl, (by omega), T.pick [3, 4, 0] rfl, ((M.permT [2] 3 rfl rfl rfl rfl).sub (List.Sublist.cons_cons _ (List.Sublist.trans (List.sublist_append_left _ _) (List.sublist_append_left _ _))))⟩
  intro h2
  refine wp_exit ?_
  refine ex_then ?_
  refine ex_then ?_
  refine ex_hit ?_
  refine nm_blk ?_
  refine nm_then ?_
  refine wp_region_lit ?_
  refine lq T (rn_move rfl (T.ev 2 rfl)) ?_; clear T ac; intro ac T
  refine lq T (rn_add rfl (T.ev 0 rfl) evc (by omega)) ?_; clear T ac; intro ac T
  refine l_q (v := (.int .i64 ((i : Int) + 1))) (T.pick [0, 1, 2, 3, 5] rfl) rfl rfl rfl rfl (rn_assign rfl (T.ev 0 rfl)) ?_; clear T ac; intro ac T
  refine wpList_nil ?_
  replace T := T.pick [0, 4] rfl
  refine nm_then ?_
  exact ⟨_, by omega, i + 1, rfl, (by omega), T.pick [1, 0] rfl, M⟩
 intro h1
 refine wp_exit ?_
 refine ex_then ?_
 refine ex_then ?_
 refine ex_hit ?_
 refine nm_then ?_
 refine wp_seq ?_
 refine wp_region_lit ?_
 refine l_w rfl ?_; intro K hK
 refine ow_call (first := []) (cap := []) T rfl rfl rfl rfl evf .nil Try.func17 rfl rfl ?_
 refine Calls.mono (trembling_any _) ?_
 clear T
 rintro e wc ⟨rfl, hb⟩
 intro ac T
 replace M := M.call hb; clear hb
 refine sh_out hK _ _ ?_; clear hK K
 refine lq T (rn_assign rfl (T.ev 0 rfl)) ?_; clear T ac; intro ac T
 refine wpList_nil ?_
 replace T := T.pick [0] rfl
 replace M := M.mask [false] rfl
 refine nm_then ?_
 refine wp_ret ?_
 refine rt_1 T rfl (T.ev 0 rfl) ?_
 exact ⟨rfl, M.below⟩
end Go.Proofs.Ytlahdenlmmlplaa
end

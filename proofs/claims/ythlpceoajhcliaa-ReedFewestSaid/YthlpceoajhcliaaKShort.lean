/-
  reed: Shortest, whose list is the call's own.
-/
import Derived.Test.YthlpceoajhcliaaK3
import Derived.Test.YthlpceoajhcliaaK2
import Derived.Test.YthlpceoajhcliaaRShort
import Derived.Test.YthlpceoajhcliaaRFine
import Derived.Test.YthlpceoajhcliaaRAfter
import Derived.Test.YthlpceoajhcliaaKCopy
namespace Go.Proofs.Ythlpceoajhcliaa
set_option linter.unusedSimpArgs false
set_option linter.unusedVariables false
open Go.RowKit

theorem Sl.sp {w : World} {ex : Nat → Prop} {e size n c : Nat} {A : Option Addr} {xs : List Value} {I : List (Nat × BA)} (h : Sl e size (.slice A n c) n xs I) (hl : xs.length = n * size) : ∃ b o, Sp w ex I A n size b o xs := by
  rcases h with ⟨h1, rfl, rfl, rfl⟩ | ⟨g, cap, h1, rfl⟩
  · exact ⟨0, 0, Sp.nil⟩
  · injection h1 with h1 _ h2
    subst h1
    exact ⟨g, 0, Sp.row hl⟩
theorem Sn.sp {w : World} {ex : Nat → Prop} {e size n c : Nat} {A : Option Addr} {xs : List Value} {I : List (Nat × BA)} (h : Sn e size A n c xs I) (hl : xs.length = n * size) : ∃ b o, Sp w ex I A n size b o xs := by
  rcases h with ⟨rfl, rfl, rfl⟩ | ⟨g, rfl, rfl⟩
  · exact ⟨0, 0, Sp.nil⟩
  · exact ⟨g, 0, Sp.row hl⟩
theorem Sl.sn {e size n c : Nat} {A : Option Addr} {xs : List Value} {I : List (Nat × BA)} (h : Sl e size (.slice A n c) n xs I) : Sn e size A n c xs I := by
  rcases h with ⟨h1, rfl, rfl, rfl⟩ | ⟨g, cap, h1, rfl⟩
  · exact .inl ⟨rfl, rfl, rfl⟩
  · injection h1 with h1 _ h2
    subst h1
    subst h2
    exact .inr ⟨g, rfl, rfl⟩
def ShortPost2 (l : List Int) (err : Int) (w : World) (e : Ending) (w' : World) : Prop := ∃ A c I, e = .returned (.tuple #[.slice A l.length c, .int .i64 err]) ∧ Sn 3 1 A l.length c (ic l) I ∧ Mem w noEx w' I
theorem plan_pre {n r i : Nat} (hr : r ≤ n) (hi : n ≤ i) : (plan n r).take i = plan n r := List.take_of_length_le (by rw [plan_length hr]; omega)


set_option maxRecDepth 100000 in
set_option maxHeartbeats 1000000 in
theorem Shortest_own (j : Jb) (A : Option Addr) (c : Nat) (w : World) (hr : Rd w w.heap.size 2 A j.sh.length (rc j.sh)) (hn : j.sh.length ≤ 9223372036854775807) :
    Calls Try.prog 19 #[jobV j A c] w (ShortPost2 (shortL j) (shortE j) w) := by
  obtain ⟨bJ, oJ, SJ⟩ := Sp.old hr
  refine px_enter noEx Try.func19 rfl 47 rfl [.agg #[.int .i64 j.p0, .int .i64 j.p1, .int .i64 j.t0, .int .i64 j.t1, .int .i64 j.r0, .int .i64 j.r1, .int .i64 j.u0, .int .i64 j.u1, .int .i64 j.d0, .int .i64 j.d1, .int .i64 j.a0, .int .i64 j.a1, .int .i64 j.b0, .int .i64 j.b1, .int .i64 j.le, .slice A j.sh.length c, .int .i64 j.wi, .int .i64 j.me]] rfl rfl (Mem.init w _) ?_
  intro ac wc T M
  refine wp_seq ?_
  refine wp_region_lit ?_
  refine l_w rfl ?_; intro K hK
  refine ow_bx M T rfl rfl rfl rfl (T.ev 0 rfl) rfl ?_; clear M T; intro g1 wc ac M T
  refine sh_out hK _ _ ?_; clear hK K
  refine l_q T rfl rfl rfl rfl (rn_assign rfl evc) ?_; clear T ac; intro ac T
  refine l_q T rfl rfl rfl rfl (rn_assign rfl evc) ?_; clear T ac; intro ac T
  refine wpList_nil ?_
  replace T := T.pick [2] rfl
  refine nm_then ?_
  refine wp_seq ?_
  refine wp_seq ?_
  refine wp_region_lit ?_
  refine l_q T rfl rfl rfl rfl (rn_rowO (Mem.nth M 0 rfl) rfl (T.ev 0 rfl) rfl) ?_; clear T ac; intro ac T
  refine l_w rfl ?_; intro K hK
  refine ow_call (first := []) (cap := []) T rfl rfl rfl rfl evf (.cons (T.ev 0 rfl) .nil) Try.func49 rfl rfl ?_
  refine Calls.mono (check_any j _ _ _ (SJ.rd M (List.nil_sublist _)) (by omega)) ?_
  clear T
  rintro e wc ⟨rfl, hb⟩
  intro ac T
  replace M := M.call hb; clear hb
  refine sh_out hK _ _ ?_; clear hK K
  refine l_q T rfl rfl rfl rfl (rn_assign rfl (T.ev 0 rfl)) ?_; clear T ac; intro ac T
  refine wpList_nil ?_
  replace T := T.pick [0, 3] rfl
  refine nm_then ?_
  refine wp_seq ?_
  refine wp_region_lit ?_
  refine l_q T rfl rfl rfl rfl (rn_move rfl (T.ev 0 rfl)) ?_; clear T ac; intro ac T
  refine l_q T rfl rfl rfl rfl (rn_neq rfl (T.ev 0 rfl) evc) ?_; clear T ac; intro ac T
  refine wpList_nil ?_
  replace T := T.pick [0, 2, 3] rfl
  refine nm_then ?_
  refine wp_ifn (T.ev 0 rfl) ?_ ?_
  · intro h1
    refine wp_seq ?_
    refine wp_region_lit ?_
    refine l_q T rfl rfl rfl rfl (rn_move rfl (T.ev 1 rfl)) ?_; clear T ac; intro ac T
    refine l_q T rfl rfl rfl rfl (rn_assign rfl evc) ?_; clear T ac; intro ac T
    refine l_q T rfl rfl rfl rfl (rn_assign rfl (T.ev 1 rfl)) ?_; clear T ac; intro ac T
    refine wpList_nil ?_
    replace T := T.pick [0, 1] rfl
    replace M := M.mask [false] rfl
    refine nm_then ?_
    refine wp_ret ?_
    refine rt_then ?_
    refine rt_2 T rfl (T.ev 1 rfl) (T.ev 0 rfl) ?_
    have e1 : shortL j = [] := by unfold shortL; rw [if_neg h1]
    have e2 : shortE j = checkJ j := by unfold shortE; rw [if_neg h1]
    exact ⟨_, _, [], by rw [e1, e2]; rfl, by rw [e1]; exact .inl ⟨rfl, rfl, rfl⟩, M.mask [] rfl⟩
  · intro h1
    have hj := good_of h1
    have hst := hj.st
    refine wp_skip ?_
    refine nm_then ?_
    refine wp_seq ?_
    refine wp_seq ?_
    refine wp_region_lit ?_
    refine l_q T rfl rfl rfl rfl (rn_move rfl evc) ?_; clear T ac; intro ac T
    refine wpList_nil ?_
    replace T := T.pick [0, 3] rfl
    refine nm_then ?_
    refine wp_block ?_
    refine wp_loop_n (fun mz ac wc => ∃ (a : Nat), mz = 7 - a ∧ (a ≤ 7) ∧ (plansFrom j 7 0 = plansFrom j (7 - a) a) ∧ Tm ac 47 [(1, .pointer (some ⟨g1, 0, none⟩)), (14, .int .i64 (a : Int))] ∧ Mem w noEx wc [(g1, .cells (jobL j A c))]) ?_ ?_
    · exact ⟨_, 0, rfl, (by omega), rfl, T.pick [1, 0] rfl, M.mask [true] rfl⟩
    · clear T M
      rintro mz ac wc ⟨a, hmm1, ha, H, T, M⟩
      refine wp_seq ?_
      refine wp_region_lit ?_
      refine l_q T rfl rfl rfl rfl (rn_lss rfl (T.ev 1 rfl) evc) ?_; clear T ac; intro ac T
      refine wpList_nil ?_
      refine nm_then ?_
      refine wp_seq ?_
      refine wp_if (T.ev 0 rfl) ?_ ?_
      · intro h2
        refine wp_skip ?_
        refine nm_then ?_
        refine wp_seq ?_
        refine wp_block ?_
        refine wp_seq ?_
        refine wp_region_lit ?_
        refine l_q T rfl rfl rfl rfl (rn_move rfl (T.ev 2 rfl)) ?_; clear T ac; intro ac T
        refine l_q T rfl rfl rfl rfl (rn_assign rfl (T.ev 0 rfl)) ?_; clear T ac; intro ac T
        refine wpList_nil ?_
        replace T := T.pick [0, 3, 4] rfl
        refine nm_then ?_
        refine wp_seq ?_
        refine wp_region_lit ?_
        refine l_q T rfl rfl rfl rfl (rn_move rfl (T.ev 0 rfl)) ?_; clear T ac; intro ac T
        refine l_q T rfl rfl rfl rfl (rn_add rfl (T.ev 0 rfl) evc (by omega)) ?_; clear T ac; intro ac T
        refine l_q T rfl rfl rfl rfl (rn_move rfl evc) ?_; clear T ac; intro ac T
        refine wpList_nil ?_
        replace T := T.pick [0, 1, 3, 4, 5] rfl
        refine nm_then ?_
        refine wp_block ?_
        refine wp_loop_n (fun mz ac wc => ∃ (b : Nat), mz = a + 1 - b ∧ (b ≤ a + 1) ∧ (rootsFrom j a (a + 1) 0 = rootsFrom j a (a + 1 - b) b) ∧ Tm ac 47 [(1, .pointer (some ⟨g1, 0, none⟩)), (5, .int .i64 (a : Int)), (14, .int .i64 (a : Int)), (18, .int .i64 ((a : Int) + 1)), (19, .int .i64 (b : Int))] ∧ Mem w noEx wc [(g1, .cells (jobL j A c))]) ?_ ?_
        · exact ⟨_, 0, rfl, (by omega), rfl, T.pick [3, 2, 4, 1, 0] rfl, M.mask [true] rfl⟩
        · clear T M
          rintro mz ac wc ⟨b, hmm2, hb, H2, T, M⟩
          refine wp_seq ?_
          refine wp_region_lit ?_
          refine l_q T rfl rfl rfl rfl (rn_lss rfl (T.ev 4 rfl) (T.ev 3 rfl)) ?_; clear T ac; intro ac T
          refine wpList_nil ?_
          refine nm_then ?_
          refine wp_seq ?_
          refine wp_if (T.ev 0 rfl) ?_ ?_
          · intro h3
            refine wp_skip ?_
            refine nm_then ?_
            refine wp_seq ?_
            refine wp_block ?_
            refine wp_seq ?_
            refine wp_region_lit ?_
            refine l_q T rfl rfl rfl rfl (rn_move rfl (T.ev 5 rfl)) ?_; clear T ac; intro ac T
            refine l_q T rfl rfl rfl rfl (rn_assign rfl (T.ev 0 rfl)) ?_; clear T ac; intro ac T
            refine wpList_nil ?_
            replace T := T.pick [0, 3, 4, 5, 6, 7] rfl
            refine nm_then ?_
            refine wp_seq ?_
            refine wp_region_lit ?_
            refine l_q T rfl rfl rfl rfl (rn_assign rfl evc) ?_; clear T ac; intro ac T
            refine wpList_nil ?_
            refine nm_then ?_
            refine wp_seq ?_
            refine wp_seq ?_
            refine wp_region_lit ?_
            refine l_q T rfl rfl rfl rfl (rn_move rfl (T.ev 3 rfl)) ?_; clear T ac; intro ac T
            refine l_q T rfl rfl rfl rfl (rn_move rfl evc) ?_; clear T ac; intro ac T
            refine wpList_nil ?_
            refine nm_then ?_
            refine wp_block ?_
            refine wp_loop_n (fun mz ac wc => ∃ (k : Nat) (A7 : Option Addr) (c7 : Nat) (I : List (Nat × BA)), mz = a - k ∧ (k ≤ a) ∧ (Sl 3 1 (.slice A7 k c7) k (ic ((plan a b).take k)) I) ∧ Tm ac 47 [(1, .pointer (some ⟨g1, 0, none⟩)), (5, .int .i64 (a : Int)), (6, .int .i64 (b : Int)), (7, .slice A7 k c7), (14, .int .i64 (a : Int)), (18, .int .i64 ((a : Int) + 1)), (19, .int .i64 (b : Int)), (22, .int .i64 (a : Int)), (23, .int .i64 (k : Int))] ∧ Mem w noEx wc ((g1, .cells (jobL j A c)) :: I)) ?_ ?_
            · exact ⟨_, 0, none, 0, [], rfl, (by omega), (Sl.nil _ _), T.pick [4, 5, 3, 2, 6, 7, 8, 1, 0] rfl, M.mask [true] rfl⟩
            · clear T M
              rintro mz ac wc ⟨k, A7, c7, I, hmm3, hk, hsl, T, M⟩
              refine wp_seq ?_
              refine wp_region_lit ?_
              refine l_q T rfl rfl rfl rfl (rn_lss rfl (T.ev 8 rfl) (T.ev 7 rfl)) ?_; clear T ac; intro ac T
              refine wpList_nil ?_
              refine nm_then ?_
              refine wp_seq ?_
              refine wp_if (T.ev 0 rfl) ?_ ?_
              · intro h4
                refine wp_skip ?_
                refine nm_then ?_
                refine wp_seq ?_
                refine wp_block ?_
                refine wp_seq ?_
                refine wp_region_lit ?_
                refine l_q T rfl rfl rfl rfl (rn_move rfl (T.ev 9 rfl)) ?_; clear T ac; intro ac T
                refine l_q T rfl rfl rfl rfl (rn_assign rfl (T.ev 0 rfl)) ?_; clear T ac; intro ac T
                refine wpList_nil ?_
                replace T := T.pick [0, 3, 4, 5, 6, 7, 8, 9, 10, 11] rfl
                refine nm_then ?_
                refine wp_seq ?_
                refine wp_region_lit ?_
                refine l_q T rfl rfl rfl rfl (rn_move rfl (T.ev 0 rfl)) ?_; clear T ac; intro ac T
                refine l_q T rfl rfl rfl rfl (rn_move rfl (T.ev 3 rfl)) ?_; clear T ac; intro ac T
                refine l_q T rfl rfl rfl rfl (rn_move rfl (T.ev 5 rfl)) ?_; clear T ac; intro ac T
                refine l_q T rfl rfl rfl rfl (rn_sub rfl (T.ev 1 rfl) (T.ev 0 rfl) (by omega)) ?_; clear T ac; intro ac T
                refine l_q T rfl rfl rfl rfl (rn_lss rfl (T.ev 3 rfl) (T.ev 0 rfl)) ?_; clear T ac; intro ac T
                refine wpList_nil ?_
                replace T := T.pick [0, 6, 7, 8, 9, 10, 11, 12, 13, 14] rfl
                refine nm_then ?_
                refine wp_if (T.ev 0 rfl) ?_ ?_
                · intro h5
                  refine wp_region_lit ?_
                  refine l_q T rfl rfl rfl rfl (rn_move rfl (T.ev 4 rfl)) ?_; clear T ac; intro ac T
                  refine l_w rfl ?_; intro K hK
                  refine ow_bs (e := 3) [.int .i64 1] M T rfl rfl rfl rfl (.cons evc .nil) (fun _ => by kernel_rfl) ?_; clear M T; intro g2 wc ac M T
                  refine sh_out hK _ _ ?_; clear hK K
                  refine l_w rfl ?_; intro K hK
                  refine ow_app ([(g2, .cells [.int .i64 1]), (g1, .cells (jobL j A c))]) Try.info3 hsl M (by first | rfl | simp) T rfl rfl rfl rfl Try.underlying31 rfl rfl rfl (by omega) (T.ev 1 rfl) (T.ev 0 rfl) (nthE_mem (i := 0) rfl) rfl rfl ?_; clear M T; intro ga1 cga1 wc ac M T
                  refine sh_out hK _ _ ?_; clear hK K
                  refine l_q (v := (.slice (some ⟨ga1, 0, none⟩) (k + 1) cga1)) (T.pick [0, 1, 2, 3, 4, 5, 6, 8, 9, 10, 11, 12] rfl) rfl rfl rfl rfl (rn_assign rfl (T.ev 0 rfl)) ?_; clear T ac; intro ac T
                  refine wpList_nil ?_
                  replace T := T.pick [0, 5, 6, 7, 8, 9, 10, 11, 12] rfl
                  replace M := M.mask [true, false, true] rfl
                  refine nm_blk ?_
                  refine nm_then ?_
                  refine wp_region_lit ?_
                  refine l_q T rfl rfl rfl rfl (rn_add rfl (T.ev 8 rfl) evc (by omega)) ?_; clear T ac; intro ac T
                  refine l_q (v := (.int .i64 ((k : Int) + 1))) (T.pick [0, 1, 2, 3, 4, 5, 6, 7, 8] rfl) rfl rfl rfl rfl (rn_move rfl (T.ev 0 rfl)) ?_; clear T ac; intro ac T
                  refine wpList_nil ?_
                  replace T := T.pick [0, 2, 3, 4, 5, 6, 7, 8, 9] rfl
                  refine nm_then ?_
                  exact ⟨_, by omega, (k + 1), _, cga1, [(ga1, .row 3 1 (k + 1) ((ic ((plan a b).take k)) ++ [.int .i64 1]) cga1)], rfl, (by omega), (by rw [plan_take (by omega) (by omega) _ (by first | rw [if_pos (by omega)] | rw [if_neg (by omega)])]; exact Sl.row _ _ _ _ _ _), T.pick [2, 3, 4, 1, 5, 6, 7, 8, 0] rfl, M.perm [1, 0] rfl rfl⟩
                · intro h5
                  refine wp_region_lit ?_
                  refine l_q T rfl rfl rfl rfl (rn_move rfl (T.ev 4 rfl)) ?_; clear T ac; intro ac T
                  refine l_w rfl ?_; intro K hK
                  refine ow_bs (e := 3) [.int .i64 2] M T rfl rfl rfl rfl (.cons evc .nil) (fun _ => by kernel_rfl) ?_; clear M T; intro g3 wc ac M T
                  refine sh_out hK _ _ ?_; clear hK K
                  refine l_w rfl ?_; intro K hK
                  refine ow_app ([(g3, .cells [.int .i64 2]), (g1, .cells (jobL j A c))]) Try.info3 hsl M (by first | rfl | simp) T rfl rfl rfl rfl Try.underlying31 rfl rfl rfl (by omega) (T.ev 1 rfl) (T.ev 0 rfl) (nthE_mem (i := 0) rfl) rfl rfl ?_; clear M T; intro ga2 cga2 wc ac M T
                  refine sh_out hK _ _ ?_; clear hK K
                  refine l_q (v := (.slice (some ⟨ga2, 0, none⟩) (k + 1) cga2)) (T.pick [0, 1, 2, 3, 4, 5, 6, 8, 9, 10, 11, 12] rfl) rfl rfl rfl rfl (rn_assign rfl (T.ev 0 rfl)) ?_; clear T ac; intro ac T
                  refine wpList_nil ?_
                  replace T := T.pick [0, 5, 6, 7, 8, 9, 10, 11, 12] rfl
                  replace M := M.mask [true, false, true] rfl
                  refine nm_blk ?_
                  refine nm_then ?_
                  refine wp_region_lit ?_
                  refine l_q T rfl rfl rfl rfl (rn_add rfl (T.ev 8 rfl) evc (by omega)) ?_; clear T ac; intro ac T
                  refine l_q (v := (.int .i64 ((k : Int) + 1))) (T.pick [0, 1, 2, 3, 4, 5, 6, 7, 8] rfl) rfl rfl rfl rfl (rn_move rfl (T.ev 0 rfl)) ?_; clear T ac; intro ac T
                  refine wpList_nil ?_
                  replace T := T.pick [0, 2, 3, 4, 5, 6, 7, 8, 9] rfl
                  refine nm_then ?_
                  exact ⟨_, by omega, (k + 1), _, cga2, [(ga2, .row 3 1 (k + 1) ((ic ((plan a b).take k)) ++ [.int .i64 2]) cga2)], rfl, (by omega), (by rw [plan_take (by omega) (by omega) _ (by first | rw [if_pos (by omega)] | rw [if_neg (by omega)])]; exact Sl.row _ _ _ _ _ _), T.pick [2, 3, 4, 1, 5, 6, 7, 8, 0] rfl, M.perm [1, 0] rfl rfl⟩
              · intro h4
                obtain ⟨b7, o7, S7⟩ := hsl.sp (w := w) (ex := noEx) (by rw [ic_length, plan_pre (by omega) (by omega), plan_length (by omega)]; omega)
                have hok : ∀ x ∈ (plan a b).take k, okS x = true := fun x hx => plan_ok a b x (List.mem_of_mem_take hx)
                have hpp := plan_pre (n := a) (r := b) (i := k) (by omega) (by omega)
                refine wp_exit ?_
                refine ex_then ?_
                refine ex_then ?_
                refine ex_hit ?_
                refine nm_then ?_
                refine wp_seq ?_
                refine g_start2 M (M.mask [true] rfl) 6 (by kernel_rfl) rfl (by kernel_rfl) ?_
                clear M; intro wc M
                refine g_q (T := T) (i := 0) rfl (by kernel_rfl) (by kernel_rfl : (pbits 6 0).setIfInBounds 0 true = pbits 6 1) si_U (fun _ _ _ h => h) rfl rfl rfl rfl (fun B w' hD hl hS => (rn_rowO (Mem.nth (show Mem w noEx w' _ from hS) 0 rfl) rfl (T.ev 1 rfl) rfl)) ?_; clear T ac; intro ac T
                refine g_q (T := T) (i := 1) rfl (by kernel_rfl) (by kernel_rfl : (pbits 6 1).setIfInBounds 1 true = pbits 6 3) si_U (fun _ _ _ h => h) rfl rfl rfl rfl (fun B w' hD hl hS => (rn_rowO (Mem.nth (show Mem w noEx w' _ from hS) 0 rfl) rfl (T.ev 2 rfl) rfl)) ?_; clear T ac; intro ac T
                refine g_q (T := T) (i := 2) rfl (by kernel_rfl) (by kernel_rfl : (pbits 6 3).setIfInBounds 2 true = pbits 6 7) si_U (fun _ _ _ h => h) rfl rfl rfl rfl (fun _ _ _ _ _ => (rn_move rfl (T.ev 6 rfl))) ?_; clear T ac; intro ac T
                refine g_w (i := 3) (by kernel_rfl) rfl (by kernel_rfl : (pbits 6 7).setIfInBounds 3 true = pbits 6 15) rfl ?_; intro K hK
                refine ow_call (first := []) (cap := []) T rfl rfl rfl rfl evf (.cons (T.ev 1 rfl) (.cons (T.ev 0 rfl) .nil)) Try.func69 rfl rfl ?_
                refine Calls.mono (after_any j _ _ _ _ _ ((plan a b).take k) _ (S7.rd M (.cons _ (List.Sublist.refl _))) (by omega) hst hok) ?_
                clear T
                rintro e wc ⟨rfl, hb⟩
                intro ac T
                replace M := M.call hb; clear hb
                refine sh_out hK _ _ (M.mask [true] rfl) ?_; clear hK K
                refine g_w (i := 4) (by kernel_rfl) rfl (by kernel_rfl : (pbits 6 15).setIfInBounds 4 true = pbits 6 31) rfl ?_; intro K hK
                refine ow_call (first := []) (cap := []) T rfl rfl rfl rfl evf (.cons (T.ev 3 rfl) (.cons (T.ev 0 rfl) .nil)) Try.func68 rfl rfl ?_
                refine Calls.mono (fine_any j _ _ (j.st.after ((plan a b).take k)) _ hj.ok (SJ.rd M (List.nil_sublist _))) ?_
                clear T
                rintro e wc ⟨rfl, hb⟩
                intro ac T
                replace M := M.call hb; clear hb
                refine sh_out hK _ _ (M.mask [true] rfl) ?_; clear hK K
                refine g_q (T := T) (i := 5) rfl (by kernel_rfl) (by kernel_rfl : (pbits 6 31).setIfInBounds 5 true = pbits 6 63) si_U (fun _ _ _ h => h) rfl rfl rfl rfl (fun _ _ _ _ _ => (rn_eql rfl (T.ev 0 rfl) evc)) ?_; clear T ac; intro ac T
                refine g_done (by kernel_rfl) ?_
                replace T := T.pick [0, 7, 8, 10, 11, 12, 13] rfl
                refine nm_then ?_
                refine wp_if (T.ev 0 rfl) ?_ ?_
                · intro h6
                  refine wp_seq ?_
                  refine wp_region_lit ?_
                  refine l_q T rfl rfl rfl rfl (rn_move rfl (T.ev 3 rfl)) ?_; clear T ac; intro ac T
                  refine l_q T rfl rfl rfl rfl (rn_assign rfl (T.ev 0 rfl)) ?_; clear T ac; intro ac T
                  refine l_q T rfl rfl rfl rfl (rn_assign rfl evc) ?_; clear T ac; intro ac T
                  refine wpList_nil ?_
                  replace T := T.pick [0, 1] rfl
                  replace M := M.mask [false] rfl
                  refine nm_then ?_
                  refine wp_ret ?_
                  refine rt_blk ?_
                  refine rt_then ?_
                  refine rt_then ?_
                  refine rt_blk ?_
                  refine rt_blk ?_
                  refine rt_then ?_
                  refine rt_then ?_
                  refine rt_blk ?_
                  refine rt_then ?_
                  refine rt_2 T rfl (T.ev 1 rfl) (T.ev 0 rfl) ?_
                  have hf : isFine j (plan a b) = true := by unfold isFine; rw [← hpp, h6]; rfl
                  rw [roots_hit (by omega) hf] at H2
                  rw [plans_hit (by omega) H2] at H
                  have e1 : shortL j = plan a b := by unfold shortL; rw [if_pos h1, H]; rfl
                  have e2 : shortE j = 0 := by unfold shortE; rw [if_pos h1, H]; rfl
                  have hka : k = a := by omega
                  refine ⟨A7, c7, I, ?_, ?_, M.mask [] rfl⟩
                  · rw [e1, e2, plan_length (by omega), hka]
                  · rw [hpp, hka] at hsl
                    rw [e1, plan_length (by omega)]
                    exact hsl.sn
                · intro h6
                  refine wp_skip ?_
                  refine nm_blk ?_
                  refine nm_then ?_
                  refine wp_region_lit ?_
                  refine l_q T rfl rfl rfl rfl (rn_add rfl (T.ev 6 rfl) evc (by omega)) ?_; clear T ac; intro ac T
                  refine l_q (v := (.int .i64 ((b : Int) + 1))) (T.pick [0, 1, 2, 3, 4, 5, 6] rfl) rfl rfl rfl rfl (rn_move rfl (T.ev 0 rfl)) ?_; clear T ac; intro ac T
                  refine wpList_nil ?_
                  replace T := T.pick [0, 3, 4, 6, 7] rfl
                  refine nm_then ?_
                  have hf : isFine j (plan a b) = false := by unfold isFine; rw [← hpp]; simpa using h6
                  rw [roots_miss (by omega) hf] at H2
                  exact ⟨_, by omega, (b + 1), rfl, (by omega), H2, T.pick [1, 2, 3, 4, 0] rfl, M.perm [0] rfl rfl⟩
          · intro h3
            refine wp_exit ?_
            refine ex_then ?_
            refine ex_then ?_
            refine ex_hit ?_
            refine nm_blk ?_
            refine nm_then ?_
            refine wp_region_lit ?_
            refine l_q T rfl rfl rfl rfl (rn_add rfl (T.ev 3 rfl) evc (by omega)) ?_; clear T ac; intro ac T
            refine l_q (v := (.int .i64 ((a : Int) + 1))) (T.pick [0, 1, 2, 3, 5, 6] rfl) rfl rfl rfl rfl (rn_move rfl (T.ev 0 rfl)) ?_; clear T ac; intro ac T
            refine wpList_nil ?_
            replace T := T.pick [0, 3] rfl
            refine nm_then ?_
            rw [roots_end (by omega)] at H2
            rw [plans_miss (by omega) H2] at H
            exact ⟨_, by omega, (a + 1), rfl, (by omega), H, T.pick [1, 0] rfl, M.mask [true] rfl⟩
      · intro h2
        refine wp_exit ?_
        refine ex_then ?_
        refine ex_then ?_
        refine ex_hit ?_
        refine nm_then ?_
        refine wp_seq ?_
        refine wp_region_lit ?_
        refine l_q T rfl rfl rfl rfl (rn_assign rfl evc) ?_; clear T ac; intro ac T
        refine l_q T rfl rfl rfl rfl (rn_assign rfl evc) ?_; clear T ac; intro ac T
        refine wpList_nil ?_
        replace T := T.pick [0, 1] rfl
        replace M := M.mask [false] rfl
        refine nm_then ?_
        refine wp_ret ?_
        refine rt_2 T rfl (T.ev 1 rfl) (T.ev 0 rfl) ?_
        rw [plans_end (by omega)] at H
        have e1 : shortL j = [] := by unfold shortL; rw [if_pos h1, H]; rfl
        have e2 : shortE j = 11 := by unfold shortE; rw [if_pos h1, H]; rfl
        exact ⟨_, _, [], by rw [e1, e2]; rfl, by rw [e1]; exact .inl ⟨rfl, rfl, rfl⟩, M.mask [] rfl⟩

end Go.Proofs.Ythlpceoajhcliaa
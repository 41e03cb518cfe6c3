/-
  ref1: Shortest; the law ReedShortest, walked.
-/
import Derived.Test.YthlpceoajhcliaaK6
import Derived.Test.YthlpceoajhcliaaKPlans
namespace Go.Proofs.Ythlpceoajhcliaa
set_option linter.unusedSimpArgs false
set_option linter.unusedVariables false
open Go.RowKit

def ShortPost3 (j : Jb) (w : World) (e : Ending) (w' : World) : Prop := ∃ A c I, e = .returned (.tuple #[.slice A (shortL j).length c, .int .i64 (shortE j)]) ∧ (∃ b o, ∀ (w : World) (ex : Nat → Prop), Sp w ex I A (shortL j).length 1 b o (ic (shortL j))) ∧ Mem w noEx w' I
theorem find_no {j : Jb} {LL : List LE} {i : Nat} {x : LE} (hd : LL.drop i = x :: LL.drop (i + 1)) (h : isFine j x.1 = false) : ((LL.drop i).map (·.1)).find? (isFine j) = ((LL.drop (i + 1)).map (·.1)).find? (isFine j) := by
  rw [hd, List.map_cons, List.find?_cons_of_neg (by rw [h]; decide)]
theorem find_yes {j : Jb} {LL : List LE} {i : Nat} {x : LE} (hd : LL.drop i = x :: LL.drop (i + 1)) (h : isFine j x.1 = true) : ((LL.drop i).map (·.1)).find? (isFine j) = some x.1 := by
  rw [hd, List.map_cons, List.find?_cons_of_pos h]
theorem isFine_r {j : Jb} (h : j.good) (l : List Int) : isFine j l = decide (rfineJ j l = 1) := by
  unfold isFine
  rw [rfineJ_eq h]
  rfl


set_option maxRecDepth 100000 in
set_option maxHeartbeats 1000000 in
theorem rShortest_own (j : Jb) (A : Option Addr) (c : Nat) (w : World) (hr : Rd w w.heap.size 2 A j.sh.length (rc j.sh)) (hn : j.sh.length ≤ 9223372036854775807) :
    Calls Try.prog 20 #[jobV j A c] w (ShortPost3 j w) := by
  obtain ⟨bJ, oJ, SJ⟩ := Sp.old hr
  refine px_enter noEx Try.func20 rfl 36 rfl [.agg #[.int .i64 j.p0, .int .i64 j.p1, .int .i64 j.t0, .int .i64 j.t1, .int .i64 j.r0, .int .i64 j.r1, .int .i64 j.u0, .int .i64 j.u1, .int .i64 j.d0, .int .i64 j.d1, .int .i64 j.a0, .int .i64 j.a1, .int .i64 j.b0, .int .i64 j.b1, .int .i64 j.le, .slice A j.sh.length c, .int .i64 j.wi, .int .i64 j.me]] rfl rfl (Mem.init w _) ?_
  intro ac wc T M
  refine wp_seq ?_
  refine wp_region_lit ?_
  refine l_w rfl ?_; intro K hK
  refine ow_bx M T rfl rfl rfl rfl (T.ev 0 rfl) rfl ?_; clear M T; intro g1 wc ac M T
  refine sh_out hK _ _ ?_; clear hK K
  refine l_q T rfl rfl rfl rfl (rn_assign rfl evc) ?_; clear T ac; intro ac T
  refine l_q T rfl rfl rfl rfl (rn_assign rfl evc) ?_; clear T ac; intro ac T
  refine wpList_nil ?_
  replace T := T.pick [2] rfl
  refine nm_then ?_
  refine wp_seq ?_
  refine wp_seq ?_
  refine wp_region_lit ?_
  refine l_q T rfl rfl rfl rfl (rn_rowO (Mem.nth M 0 rfl) rfl (T.ev 0 rfl) rfl) ?_; clear T ac; intro ac T
  refine l_w rfl ?_; intro K hK
  refine ow_call (first := []) (cap := []) T rfl rfl rfl rfl evf (.cons (T.ev 0 rfl) .nil) Try.func50 rfl rfl ?_
  refine Calls.mono (rCheck_any j _ _ _ (SJ.rd M (List.nil_sublist _)) (by omega)) ?_
  clear T
  rintro e wc ⟨rfl, hb⟩
  intro ac T
  replace M := M.call hb; clear hb
  refine sh_out hK _ _ ?_; clear hK K
  refine l_q T rfl rfl rfl rfl (rn_assign rfl (T.ev 0 rfl)) ?_; clear T ac; intro ac T
  refine wpList_nil ?_
  replace T := T.pick [0, 3] rfl
  refine nm_then ?_
  refine wp_seq ?_
  refine wp_region_lit ?_
  refine l_q T rfl rfl rfl rfl (rn_move rfl (T.ev 0 rfl)) ?_; clear T ac; intro ac T
  refine l_q T rfl rfl rfl rfl (rn_neq rfl (T.ev 0 rfl) evc) ?_; clear T ac; intro ac T
  refine wpList_nil ?_
  replace T := T.pick [0, 2, 3] rfl
  refine nm_then ?_
  refine wp_ifn (T.ev 0 rfl) ?_ ?_
  · intro h1
    refine wp_seq ?_
    refine wp_region_lit ?_
    refine l_q T rfl rfl rfl rfl (rn_move rfl (T.ev 1 rfl)) ?_; clear T ac; intro ac T
    refine l_q T rfl rfl rfl rfl (rn_assign rfl evc) ?_; clear T ac; intro ac T
    refine l_q T rfl rfl rfl rfl (rn_assign rfl (T.ev 1 rfl)) ?_; clear T ac; intro ac T
    refine wpList_nil ?_
    replace T := T.pick [0, 1] rfl
    replace M := M.mask [false] rfl
    refine nm_then ?_
    refine wp_ret ?_
    refine rt_then ?_
    refine rt_2 T rfl (T.ev 1 rfl) (T.ev 0 rfl) ?_
    have e1 : shortL j = [] := by unfold shortL; rw [if_neg h1]
    have e2 : shortE j = checkJ j := by unfold shortE; rw [if_neg h1]
    refine ⟨none, 0, [], ?_, ⟨0, 0, fun w ex => ?_⟩, M.perm [] rfl rfl⟩
    · rw [e1, e2]; rfl
    · rw [e1]; exact Sp.nil
  · intro h1
    have hj := good_of h1
    refine wp_skip ?_
    refine nm_then ?_
    refine wp_seq ?_
    refine wp_seq ?_
    refine wp_region_lit ?_
    refine l_q T rfl rfl rfl rfl (rn_assign rfl evc) ?_; clear T ac; intro ac T
    refine wpList_nil ?_
    replace T := T.pick [0, 3] rfl
    refine nm_then ?_
    refine wp_block ?_
    refine wp_loop_n (fun mz ac wc => ∃ (m : Nat), mz = 7 - m ∧ (m ≤ 7) ∧ (plansFrom j (7 - m) m = plansFrom j 7 0) ∧ Tm ac 36 [(1, .pointer (some ⟨g1, 0, none⟩)), (5, .int .i64 (m : Int))] ∧ Mem w noEx wc [(g1, .cells (jobL j A c))]) ?_ ?_
    · exact ⟨_, 0, rfl, (by omega), rfl, T.pick [1, 0] rfl, M.mask [true] rfl⟩
    · clear T M
      rintro mz ac wc ⟨m, hmm1, hm, hH, T, M⟩
      refine wp_seq ?_
      refine wp_seq ?_
      refine wp_region_lit ?_
      refine l_q T rfl rfl rfl rfl (rn_move rfl (T.ev 1 rfl)) ?_; clear T ac; intro ac T
      refine l_q T rfl rfl rfl rfl (rn_leq rfl (T.ev 0 rfl) evc) ?_; clear T ac; intro ac T
      refine wpList_nil ?_
      replace T := T.pick [0, 2, 3] rfl
      refine nm_then ?_
      refine wp_if (T.ev 0 rfl) ?_ ?_
      · intro h2
        refine wp_skip ?_
        refine nm_then ?_
        refine wp_seq ?_
        refine wp_block ?_
        refine wp_seq ?_
        refine wp_region_lit ?_
        refine l_q T rfl rfl rfl rfl (rn_move rfl (T.ev 2 rfl)) ?_; clear T ac; intro ac T
        refine l_w rfl ?_; intro K hK
        refine ow_call (first := []) (cap := []) T rfl rfl rfl rfl evf (.cons (T.ev 0 rfl) .nil) Try.func29 rfl rfl ?_
        refine Calls.mono (plans_any m (by omega) _) ?_
        clear T
        rintro e wc ⟨Au2, cu2, LLu2, Iu2, rfl, hLu2, hSu2, hEu2, N⟩
        intro ac T
        obtain ⟨bu2, ou2, hSu2⟩ := hSu2
        have Su2 := hSu2 w noEx
        replace M := (M.join N).swapI
        replace M : Mem w noEx wc ((g1, .cells (jobL j A c)) :: Iu2) := M
        clear N
        have hmlu2 : LLu2.length ≤ 64 := by rw [← List.length_map (f := (·.1)), hLu2, lists_length]; exact Nat.pow_le_pow_right (by decide) (by omega : m ≤ 6)
        refine sh_out hK _ _ ?_; clear hK K
        refine l_q T rfl rfl rfl rfl (rn_assign rfl (T.ev 0 rfl)) ?_; clear T ac; intro ac T
        refine wpList_nil ?_
        replace T := T.pick [0, 4, 5] rfl
        refine nm_then ?_
        refine wp_seq ?_
        refine wp_region_lit ?_
        refine l_q T rfl rfl rfl rfl (rn_assign rfl evc) ?_; clear T ac; intro ac T
        refine wpList_nil ?_
        refine nm_then ?_
        refine wp_block ?_
        refine wp_loop_n (fun mz ac wc => ∃ (i : Nat), mz = LLu2.length - i ∧ (i ≤ LLu2.length) ∧ ((lists m).find? (isFine j) = ((LLu2.drop i).map (·.1)).find? (isFine j)) ∧ Tm ac 36 [(1, .pointer (some ⟨g1, 0, none⟩)), (5, .int .i64 (m : Int)), (6, .slice Au2 LLu2.length cu2), (7, .int .i64 (i : Int))] ∧ Mem w noEx wc ((g1, .cells (jobL j A c)) :: Iu2)) ?_ ?_
        · exact ⟨_, 0, rfl, (Nat.zero_le _), (by rw [List.drop_zero, hLu2]), T.pick [2, 3, 1, 0] rfl, M.mask [true] rfl⟩
        · clear T M
          rintro mz ac wc ⟨i, hmm2, hi, hF, T, M⟩
          refine wp_seq ?_
          refine wp_seq ?_
          refine wp_region_lit ?_
          refine l_q T rfl rfl rfl rfl (rn_move rfl (T.ev 3 rfl)) ?_; clear T ac; intro ac T
          refine l_q T rfl rfl rfl rfl (rn_move rfl (T.ev 3 rfl)) ?_; clear T ac; intro ac T
          refine l_q T rfl rfl rfl rfl (rn_lenS rfl Try.underlying51 (T.ev 0 rfl)) ?_; clear T ac; intro ac T
          refine l_q T rfl rfl rfl rfl (rn_lss rfl (T.ev 2 rfl) (T.ev 0 rfl)) ?_; clear T ac; intro ac T
          refine wpList_nil ?_
          replace T := T.pick [0, 4, 5, 6, 7] rfl
          refine nm_then ?_
          refine wp_if (T.ev 0 rfl) ?_ ?_
          · intro h3
            obtain ⟨⟨lv, Av, cv⟩, hkv⟩ : ∃ x, LLu2[i]? = some x := ⟨_, List.getElem?_eq_getElem (by omega)⟩
            obtain ⟨bv, ov, Svv⟩ := hEu2 _ (List.mem_of_getElem? hkv)
            replace Svv : ∀ (w : World) (ex : Nat → Prop), Sp w ex Iu2 Av lv.length 1 bv ov (ic lv) := Svv
            have Sv := Svv w noEx
            obtain ⟨hlv, hlk⟩ := lists_mem m lv (by rw [← hLu2]; exact List.mem_map.2 ⟨_, List.mem_of_getElem? hkv, rfl⟩)
            have hd : LLu2.drop i = (lv, Av, cv) :: LLu2.drop (i + 1) := by rw [List.drop_eq_getElem_cons (by omega)]; congr 1; exact (List.getElem?_eq_some_iff.1 hkv).2
            refine wp_skip ?_
            refine nm_then ?_
            refine wp_seq ?_
            refine wp_block ?_
            refine wp_seq ?_
            refine g_start2 M (M.mask [true] rfl) 7 (by kernel_rfl) rfl (by kernel_rfl) ?_
            clear M; intro wc M
            refine g_q (T := T) (i := 0) rfl (by kernel_rfl) (by kernel_rfl : (pbits 7 0).setIfInBounds 0 true = pbits 7 1) si_U (fun _ _ _ h => h) rfl rfl rfl rfl (fun B w' hD hl hS => (rn_rowO (Mem.nth (show Mem w noEx w' _ from hS) 0 rfl) rfl (T.ev 1 rfl) rfl)) ?_; clear T ac; intro ac T
            refine g_q (T := T) (i := 1) rfl (by kernel_rfl) (by kernel_rfl : (pbits 7 1).setIfInBounds 1 true = pbits 7 3) si_U (fun _ _ _ h => h) rfl rfl rfl rfl (fun _ _ _ _ _ => (rn_move rfl (T.ev 4 rfl))) ?_; clear T ac; intro ac T
            refine g_q (T := T) (i := 2) rfl (by kernel_rfl) (by kernel_rfl : (pbits 7 3).setIfInBounds 2 true = pbits 7 7) si_U (fun _ _ _ h => h) rfl rfl rfl rfl (fun _ _ _ _ _ => (rn_move rfl (T.ev 6 rfl))) ?_; clear T ac; intro ac T
            refine g_q (T := T) (i := 3) rfl (by kernel_rfl) (by kernel_rfl : (pbits 7 7).setIfInBounds 3 true = pbits 7 15) si_U (fun _ _ _ h => h) rfl rfl rfl rfl (fun _ _ _ _ _ => (rn_indexAddr (size := 1) i rfl (T.ev 1 rfl) (T.ev 0 rfl) ⟨_, Try.underlying51, by kernel_rfl⟩ rfl (by omega) (Su2.at0 (by omega)))) ?_; clear T ac; intro ac T
            refine g_q (v := (.slice Av lv.length cv)) (T := T) (i := 4) rfl (by kernel_rfl) (by kernel_rfl : (pbits 7 15).setIfInBounds 4 true = pbits 7 31) si_U (fun _ _ _ h => h) rfl rfl rfl rfl (fun B w' hD hl hS => (rn_cell (Sp.lc0 Su2 (show Mem w noEx w' _ from hS) (.cons _ (List.Sublist.refl _)) hkv) rfl (T.ev 0 rfl))) ?_; clear T ac; intro ac T
            refine g_w (i := 5) (by kernel_rfl) rfl (by kernel_rfl : (pbits 7 31).setIfInBounds 5 true = pbits 7 63) rfl ?_; intro K hK
            refine ow_call (first := []) (cap := []) T rfl rfl rfl rfl evf (.cons (T.ev 4 rfl) (.cons (T.ev 0 rfl) .nil)) Try.func70 rfl rfl ?_
            refine Calls.mono (rfine_any j _ _ _ _ _ lv _ hj (SJ.rd M (List.nil_sublist _)) (Sv.rd M (.cons _ (List.Sublist.refl _))) (by omega)) ?_
            clear T
            rintro e wc ⟨rfl, hb⟩
            intro ac T
            replace M := M.call hb; clear hb
            refine sh_out hK _ _ (M.mask [true] rfl) ?_; clear hK K
            refine g_q (T := T) (i := 6) rfl (by kernel_rfl) (by kernel_rfl : (pbits 7 63).setIfInBounds 6 true = pbits 7 127) si_U (fun _ _ _ h => h) rfl rfl rfl rfl (fun _ _ _ _ _ => (rn_eql rfl (T.ev 0 rfl) evc)) ?_; clear T ac; intro ac T
            refine g_done (by kernel_rfl) ?_
            replace T := T.pick [0, 8, 9, 10, 11] rfl
            refine nm_then ?_
            refine wp_if (T.ev 0 rfl) ?_ ?_
            · intro h4
              refine wp_seq ?_
              refine wp_region_lit ?_
              refine l_q T rfl rfl rfl rfl (rn_move rfl (T.ev 3 rfl)) ?_; clear T ac; intro ac T
              refine l_q T rfl rfl rfl rfl (rn_move rfl (T.ev 5 rfl)) ?_; clear T ac; intro ac T
              refine l_q T rfl rfl rfl rfl (rn_indexAddr (size := 1) i rfl (T.ev 1 rfl) (T.ev 0 rfl) ⟨_, Try.underlying51, by kernel_rfl⟩ rfl (by omega) (Su2.at0 (by omega))) ?_; clear T ac; intro ac T
              refine l_q (v := (.slice Av lv.length cv)) T rfl rfl rfl rfl (rn_cell (Sp.lc0 Su2 M (.cons _ (List.Sublist.refl _)) hkv) rfl (T.ev 0 rfl)) ?_; clear T ac; intro ac T
              refine l_q T rfl rfl rfl rfl (rn_assign rfl (T.ev 0 rfl)) ?_; clear T ac; intro ac T
              refine l_q T rfl rfl rfl rfl (rn_assign rfl evc) ?_; clear T ac; intro ac T
              refine wpList_nil ?_
              replace T := T.pick [0, 1] rfl
              replace M := M.mask [false] rfl
              refine nm_then ?_
              refine wp_ret ?_
              refine rt_blk ?_
              refine rt_then ?_
              refine rt_then ?_
              refine rt_blk ?_
              refine rt_blk ?_
              refine rt_then ?_
              refine rt_then ?_
              refine rt_blk ?_
              refine rt_then ?_
              refine rt_2 T rfl (T.ev 1 rfl) (T.ev 0 rfl) ?_
              rw [find_yes hd (by rw [isFine_r hj]; exact decide_eq_true h4), ← roots_find] at hF
              rw [plans_hit (by omega) hF] at hH
              have e1 : shortL j = lv := by unfold shortL; rw [if_pos h1, ← hH]; rfl
              have e2 : shortE j = 0 := by unfold shortE; rw [if_pos h1, ← hH]; rfl
              refine ⟨Av, cv, Iu2, ?_, ⟨bv, ov, fun w ex => ?_⟩, ?_⟩
              · rw [e1, e2]
              · rw [e1]; exact Svv w ex
              · exact M.mask [] rfl
            · intro h4
              refine wp_skip ?_
              refine nm_blk ?_
              refine nm_then ?_
              refine wp_region_lit ?_
              refine l_q T rfl rfl rfl rfl (rn_move rfl (T.ev 4 rfl)) ?_; clear T ac; intro ac T
              refine l_q T rfl rfl rfl rfl (rn_add rfl (T.ev 0 rfl) evc (by omega)) ?_; clear T ac; intro ac T
              refine l_q (v := (.int .i64 ((i : Int) + 1))) (T.pick [0, 1, 2, 3, 4, 5] rfl) rfl rfl rfl rfl (rn_assign rfl (T.ev 0 rfl)) ?_; clear T ac; intro ac T
              refine wpList_nil ?_
              replace T := T.pick [0, 4, 5, 6] rfl
              refine nm_then ?_
              exact ⟨_, by omega, i + 1, rfl, (by omega), (by rw [hF]; exact find_no hd (by rw [isFine_r hj]; exact decide_eq_false h4)), T.pick [1, 2, 3, 0] rfl, M.mask [true] rfl⟩
          · intro h3
            rw [List.drop_of_length_le (by omega)] at hF
            have hroots : rootsFrom j m (m + 1) 0 = none := by rw [roots_find]; exact hF
            refine wp_exit ?_
            refine ex_then ?_
            refine ex_then ?_
            refine ex_hit ?_
            refine nm_blk ?_
            refine nm_then ?_
            refine wp_region_lit ?_
            refine l_q T rfl rfl rfl rfl (rn_move rfl (T.ev 2 rfl)) ?_; clear T ac; intro ac T
            refine l_q T rfl rfl rfl rfl (rn_add rfl (T.ev 0 rfl) evc (by omega)) ?_; clear T ac; intro ac T
            refine l_q (v := (.int .i64 ((m : Int) + 1))) (T.pick [0, 1, 2, 3, 5, 6] rfl) rfl rfl rfl rfl (rn_assign rfl (T.ev 0 rfl)) ?_; clear T ac; intro ac T
            refine wpList_nil ?_
            replace T := T.pick [0, 4] rfl
            refine nm_then ?_
            exact ⟨_, by omega, m + 1, rfl, (by omega), (by rw [← plans_miss (by omega) hroots]; exact hH), T.pick [1, 0] rfl, M.perm [0] rfl rfl⟩
      · intro h2
        refine wp_exit ?_
        refine ex_then ?_
        refine ex_then ?_
        refine ex_hit ?_
        refine nm_then ?_
        refine wp_seq ?_
        refine wp_region_lit ?_
        refine l_q T rfl rfl rfl rfl (rn_assign rfl evc) ?_; clear T ac; intro ac T
        refine l_q T rfl rfl rfl rfl (rn_assign rfl evc) ?_; clear T ac; intro ac T
        refine wpList_nil ?_
        replace T := T.pick [0, 1] rfl
        replace M := M.mask [false] rfl
        refine nm_then ?_
        refine wp_ret ?_
        refine rt_2 T rfl (T.ev 1 rfl) (T.ev 0 rfl) ?_
        rw [plans_end (by omega)] at hH
        have e1 : shortL j = [] := by unfold shortL; rw [if_pos h1, ← hH]; rfl
        have e2 : shortE j = 11 := by unfold shortE; rw [if_pos h1, ← hH]; rfl
        refine ⟨none, 0, [], ?_, ⟨0, 0, fun w ex => ?_⟩, M.perm [] rfl rfl⟩
        · rw [e1, e2]; rfl
        · rw [e1]; exact Sp.nil

theorem short_len (j : Jb) : (shortL j).length ≤ 6 := by
  unfold shortL
  split
  · cases h : plansFrom j 7 0 with
    | none => simp
    | some l =>
      obtain ⟨n, r, _, h2, h3, rfl, _⟩ := plans_some _ _ h
      simp only [Option.getD_some, plan_length h3]; omega
  · simp

set_option maxRecDepth 100000 in
set_option maxHeartbeats 1000000 in
theorem ReedShortest_any (j : Jb) (A : Option Addr) (c : Nat) (D : Option Addr) (d n : Nat) (l : List Int) (w : World) (hr : Rd w w.heap.size 2 A j.sh.length (rc j.sh)) (hn : j.sh.length ≤ 9223372036854775807) (hl : Rd w w.heap.size 1 D n (ic l)) (hm : n ≤ 9223372036854775807) :
    Calls Try.prog 3 #[jobV j A c, .slice D n d] w fun e w' => e = .returned (.bool true) ∧ Below w.heap.size w w' := by
  obtain ⟨bJ, oJ, SJ⟩ := Sp.old hr
  have hll := hl.len1
  obtain ⟨bI, oI, SI⟩ := Sp.old hl
  refine px_enter noEx Try.func3 rfl 69 rfl [.agg #[.int .i64 j.p0, .int .i64 j.p1, .int .i64 j.t0, .int .i64 j.t1, .int .i64 j.r0, .int .i64 j.r1, .int .i64 j.u0, .int .i64 j.u1, .int .i64 j.d0, .int .i64 j.d1, .int .i64 j.a0, .int .i64 j.a1, .int .i64 j.b0, .int .i64 j.b1, .int .i64 j.le, .slice A j.sh.length c, .int .i64 j.wi, .int .i64 j.me], .slice D n d] rfl rfl (Mem.init w _) ?_
  intro ac wc T M
  refine wp_seq ?_
  refine wp_region_lit ?_
  refine l_w rfl ?_; intro K hK
  refine ow_bx M T rfl rfl rfl rfl (T.ev 0 rfl) rfl ?_; clear M T; intro g1 wc ac M T
  refine sh_out hK _ _ ?_; clear hK K
  refine l_q T rfl rfl rfl rfl (rn_assign rfl evc) ?_; clear T ac; intro ac T
  refine wpList_nil ?_
  replace T := T.pick [1, 3] rfl
  refine nm_then ?_
  refine wp_seq ?_
  refine wp_seq ?_
  refine wp_region_lit ?_
  refine l_q (v := (.pointer (some ⟨g1, 15, none⟩))) T rfl rfl rfl rfl (rn_fieldAddr (off := 15) rfl (T.ev 0 rfl) (fun _ _ _ => by kernel_rfl)) ?_; clear T ac; intro ac T
  refine l_q T rfl rfl rfl rfl (rn_one (Mem.nth M 0 rfl) rfl (T.ev 0 rfl) rfl) ?_; clear T ac; intro ac T
  refine l_q T rfl rfl rfl rfl (rn_lenS rfl Try.underlying28 (T.ev 0 rfl)) ?_; clear T ac; intro ac T
  refine l_q T rfl rfl rfl rfl (rn_gtr rfl (T.ev 0 rfl) evc) ?_; clear T ac; intro ac T
  refine wpList_nil ?_
  replace T := T.pick [0, 4, 5] rfl
  refine nm_then ?_
  refine wp_if (T.ev 0 rfl) ?_ ?_
  · intro h1
    refine wp_seq ?_
    refine wp_region_lit ?_
    refine l_w rfl ?_; intro K hK
    refine ow_call (first := []) (cap := []) T rfl rfl rfl rfl evf .nil Try.func15 rfl rfl ?_
    refine Calls.mono (tuned_any _) ?_
    clear T
    rintro e wc ⟨rfl, hb⟩
    intro ac T
    replace M := M.call hb; clear hb
    refine sh_out hK _ _ ?_; clear hK K
    refine l_q T rfl rfl rfl rfl (rn_assign rfl (T.ev 0 rfl)) ?_; clear T ac; intro ac T
    refine wpList_nil ?_
    replace T := T.pick [0] rfl
    replace M := M.mask [false] rfl
    refine nm_then ?_
    refine wp_ret ?_
    refine rt_then ?_
    refine rt_1 T rfl (T.ev 0 rfl) ?_
    exact ⟨rfl, M.below⟩
  · intro h1
    refine wp_skip ?_
    refine nm_then ?_
    refine wp_seq ?_
    refine wp_region_lit ?_
    refine l_q T rfl rfl rfl rfl (rn_move rfl (T.ev 2 rfl)) ?_; clear T ac; intro ac T
    refine l_w rfl ?_; intro K hK
    refine ow_call (first := []) (cap := []) T rfl rfl rfl rfl evf (.cons (T.ev 0 rfl) .nil) Try.func16 rfl rfl ?_
    refine Calls.mono (newPot_any _ _ _ l _ (SI.rd M (List.nil_sublist _)) (by omega)) ?_
    clear T
    rintro e wc ⟨bpu2, su2, hsu2, rfl, N⟩
    intro ac T
    replace M := M.join N; clear N
    replace M := M.mask [true, true] rfl
    refine sh_out hK _ _ ?_; clear hK K
    refine l_q T rfl rfl rfl rfl (rn_assign rfl (T.ev 0 rfl)) ?_; clear T ac; intro ac T
    refine wpList_nil ?_
    replace T := T.pick [0, 4] rfl
    refine nm_then ?_
    refine wp_seq ?_
    refine g_start2 M (M.perm [1] rfl rfl) 7 (by kernel_rfl) rfl (by kernel_rfl) ?_
    clear M; intro wc M
    refine g_addG 2 M ?_
    refine g_q (T := T) (i := 0) rfl (by kernel_rfl) (by kernel_rfl : (pbits 7 0).setIfInBounds 0 true = pbits 7 1) (si_and (si_G rfl) si_U) (fun _ _ _ h => h) rfl rfl rfl rfl (fun B w' hD hl hS => (rn_rowO (Mem.nth (show Mem w noEx w' _ from (MA.rgt hS)) 0 rfl) rfl (T.ev 1 rfl) rfl)) ?_; clear T ac; intro ac T
    refine g_q (T := T) (i := 1) rfl (by kernel_rfl) (by kernel_rfl : (pbits 7 1).setIfInBounds 1 true = pbits 7 3) (si_and (si_G rfl) si_U) (fun _ _ _ h => h) rfl rfl rfl rfl (fun _ _ _ _ _ => (rn_move rfl (T.ev 1 rfl))) ?_; clear T ac; intro ac T
    refine g_q (T := T) (i := 3) rfl (by kernel_rfl) (by kernel_rfl : (pbits 7 3).setIfInBounds 3 true = pbits 7 11) (si_and (si_G rfl) si_U) (fun _ _ _ h => h) rfl rfl rfl rfl (fun _ _ _ _ _ => (rn_move rfl (T.ev 2 rfl))) ?_; clear T ac; intro ac T
    refine g_w (i := 2) (by kernel_rfl) rfl (by kernel_rfl : (pbits 7 11).setIfInBounds 2 true = pbits 7 15) rfl ?_; intro K hK
    refine ow_call (first := []) (cap := []) T rfl rfl rfl rfl evf (.cons (T.ev 1 rfl) (.cons evc (.cons evc .nil))) Try.func17 rfl rfl ?_
    refine Calls.mono (jobOf_any _ bpu2 1 1 _ (by omega) (by omega) (by omega) (by omega) (M.nth 0 rfl) hsu2) ?_
    clear T
    rintro e wc ⟨ju3, Au3, cu3, su3, Iu3, rfl, hmu3, hsu3, hslu3, N⟩
    intro ac T
    obtain ⟨bu3, ou3, Su3⟩ := hslu3.sp (w := w) (ex := noEx) (rc_length _)
    replace M := (M.joinW .head N).swapI
    replace M := M.mask [true, true] rfl
    clear N hslu3
    have hgu3 := hmu3.good
    have hfewu3 := hgu3.few
    have hpu3 := hgu3.p
    have hmeu3 := hgu3.me
    refine sh_out hK _ _ (MA.mk (fun h => (no_of (by kernel_rfl) h).elim) (M.perm [1] rfl rfl)) ?_; clear hK K
    refine g_w (i := 4) (by kernel_rfl) rfl (by kernel_rfl : (pbits 7 15).setIfInBounds 4 true = pbits 7 31) rfl ?_; intro K hK
    refine ow_call (first := []) (cap := []) T rfl rfl rfl rfl evf (.cons (T.ev 1 rfl) (.cons evc (.cons evc .nil))) Try.func17 rfl rfl ?_
    refine Calls.mono (jobOf_any _ bpu2 3 2 _ (by omega) (by omega) (by omega) (by omega) (M.nth 0 rfl) hsu3) ?_
    clear T
    rintro e wc ⟨ju4, Au4, cu4, su4, Iu4, rfl, hmu4, hsu4, hslu4, N⟩
    intro ac T
    obtain ⟨bu4, ou4, Su4⟩ := hslu4.sp (w := w) (ex := noEx) (rc_length _)
    replace M := (M.joinW .head N).swapI
    replace M := M.mask [true, true] rfl
    clear N hslu4
    have hgu4 := hmu4.good
    have hfewu4 := hgu4.few
    have hpu4 := hgu4.p
    have hmeu4 := hgu4.me
    refine sh_out hK _ _ (MA.mk (fun h => (no_of (by kernel_rfl) h).elim) (M.perm [1] rfl rfl)) ?_; clear hK K
    refine g_w (i := 5) (by kernel_rfl) rfl (by kernel_rfl : (pbits 7 31).setIfInBounds 5 true = pbits 7 63) rfl ?_; intro K hK
    refine ow_bs (e := 30) [.int .i64 j.p0, .int .i64 j.p1, .int .i64 j.t0, .int .i64 j.t1, .int .i64 j.r0, .int .i64 j.r1, .int .i64 j.u0, .int .i64 j.u1, .int .i64 j.d0, .int .i64 j.d1, .int .i64 j.a0, .int .i64 j.a1, .int .i64 j.b0, .int .i64 j.b1, .int .i64 j.le, .slice A j.sh.length c, .int .i64 j.wi, .int .i64 j.me, .int .i64 ju3.p0, .int .i64 ju3.p1, .int .i64 ju3.t0, .int .i64 ju3.t1, .int .i64 ju3.r0, .int .i64 ju3.r1, .int .i64 ju3.u0, .int .i64 ju3.u1, .int .i64 ju3.d0, .int .i64 ju3.d1, .int .i64 ju3.a0, .int .i64 ju3.a1, .int .i64 ju3.b0, .int .i64 ju3.b1, .int .i64 ju3.le, .slice Au3 ju3.sh.length cu3, .int .i64 ju3.wi, .int .i64 ju3.me, .int .i64 ju4.p0, .int .i64 ju4.p1, .int .i64 ju4.t0, .int .i64 ju4.t1, .int .i64 ju4.r0, .int .i64 ju4.r1, .int .i64 ju4.u0, .int .i64 ju4.u1, .int .i64 ju4.d0, .int .i64 ju4.d1, .int .i64 ju4.a0, .int .i64 ju4.a1, .int .i64 ju4.b0, .int .i64 ju4.b1, .int .i64 ju4.le, .slice Au4 ju4.sh.length cu4, .int .i64 ju4.wi, .int .i64 ju4.me] M T rfl rfl rfl rfl (.cons (T.ev 4 rfl) (.cons (T.ev 1 rfl) (.cons (T.ev 0 rfl) .nil))) (fun _ => by kernel_rfl) ?_; clear M T; intro g2 wc ac M T
    refine sh_out hK _ _ (MA.mk (fun h => (no_of (by kernel_rfl) h).elim) (M.perm [2] rfl rfl)) ?_; clear hK K
    refine g_q (T := T) (i := 6) rfl (by kernel_rfl) (by kernel_rfl : (pbits 7 63).setIfInBounds 6 true = pbits 7 127) (si_and (si_G rfl) si_U) (fun _ _ _ h => h) rfl rfl rfl rfl (fun _ _ _ _ _ => (rn_assign rfl (T.ev 0 rfl))) ?_; clear T ac; intro ac T
    refine g_done (by kernel_rfl) ?_
    replace T := T.pick [0] rfl
    replace M := M.mask [true, false, false] rfl
    refine nm_then ?_
    refine wp_seq ?_
    refine wp_seq ?_
    refine wp_region_lit ?_
    refine l_q T rfl rfl rfl rfl (rn_assign rfl evc) ?_; clear T ac; intro ac T
    refine wpList_nil ?_
    refine nm_then ?_
    refine wp_block ?_
    refine wp_loop_rounds 4 ?_
    refine rounds_S ?_
    refine wp_seq ?_
    refine wp_seq ?_
    refine wp_region_lit ?_
    refine l_q T rfl rfl rfl rfl (rn_move rfl (T.ev 0 rfl)) ?_; clear T ac; intro ac T
    refine l_q T rfl rfl rfl rfl (rn_move rfl (T.ev 2 rfl)) ?_; clear T ac; intro ac T
    refine l_q (v := (.int .i64 3)) T rfl rfl rfl rfl (rn_lenS rfl Try.underlying36 (T.ev 0 rfl)) ?_; clear T ac; intro ac T
    refine l_q (v := (.bool true)) T rfl rfl rfl rfl (rn_neqof (rn_lss rfl (T.ev 2 rfl) (T.ev 0 rfl)) (by simp)) ?_; clear T ac; intro ac T
    refine wpList_nil ?_
    replace T := T.pick [0, 4, 5] rfl
    refine nm_then ?_
    refine wp_cond_true (T.ev 0 rfl) ?_
    refine wp_skip ?_
    refine nm_then ?_
    refine wp_seq ?_
    refine wp_block ?_
    refine wp_seq ?_
    refine wp_region_lit ?_
    refine l_q T rfl rfl rfl rfl (rn_move rfl (T.ev 2 rfl)) ?_; clear T ac; intro ac T
    refine l_q T rfl rfl rfl rfl (rn_move rfl (T.ev 2 rfl)) ?_; clear T ac; intro ac T
    refine l_q (v := (.pointer (some ⟨g2, 0, none⟩))) T rfl rfl rfl rfl (rn_indexAddr (size := 18) 0 rfl (T.ev 1 rfl) (T.ev 0 rfl) ⟨_, Try.underlying36, by kernel_rfl⟩ rfl (by decide) rfl) ?_; clear T ac; intro ac T
    refine l_q T rfl rfl rfl rfl (rn_rowO (Mem.nth M 0 rfl) rfl (T.ev 0 rfl) rfl) ?_; clear T ac; intro ac T
    refine l_w rfl ?_; intro K hK
    refine ow_call (first := []) (cap := []) T rfl rfl rfl rfl evf (.cons (T.ev 0 rfl) .nil) Try.func18 rfl rfl ?_
    refine Calls.mono (copyJob_own j _ _ _ (SJ.rd M (List.nil_sublist _)) (by first | omega | (dsimp only [Jb.one]; omega))) ?_
    clear T
    rintro e wc ⟨Au5, cu5, Iu5, rfl, hsnu5, N⟩
    intro ac T
    obtain ⟨bu5, ou5, Su5⟩ := hsnu5.sp (w := w) (ex := noEx) (rc_length _)
    replace M := (M.join N).swapI
    replace M := M.mask [true] rfl
    clear N hsnu5
    refine sh_out hK _ _ ?_; clear hK K
    refine l_w rfl ?_; intro K hK
    refine ow_al M T rfl rfl rfl rfl ?_; clear M T; intro g3 wc ac M T
    refine sh_out hK _ _ ?_; clear hK K
    refine l_w rfl ?_; intro K hK
    refine ow_stO M T rfl rfl (T.ev 0 rfl) (T.ev 1 rfl) rfl .head rfl (by simp) rfl (by kernel_rfl) ?_; clear M T; intro wc ac M T
    refine sh_out hK _ _ ?_; clear hK K
    refine wpList_nil ?_
    replace T := T.pick [0, 7, 8] rfl
    refine nm_then ?_
    refine wp_seq ?_
    refine wp_region_lit ?_
    refine l_q T rfl rfl rfl rfl (rn_rowO (Mem.nth M 0 rfl) rfl (T.ev 0 rfl) rfl) ?_; clear T ac; intro ac T
    refine l_w rfl ?_; intro K hK
    refine ow_call (first := []) (cap := []) T rfl rfl rfl rfl evf (.cons (T.ev 0 rfl) .nil) Try.func19 rfl rfl ?_
    refine Calls.mono (Shortest_own j _ _ _ (Su5.rd M (.cons _ (.cons _ (List.sublist_append_right _ _)))) (by omega)) ?_
    clear T
    rintro e wc ⟨Au6, cu6, Iu6, rfl, hsnu6, N⟩
    intro ac T
    obtain ⟨bu6, ou6, Su6⟩ := hsnu6.sp (w := w) (ex := noEx) (by simp [ic_length])
    replace M := (M.join N).swapI
    replace M : Mem w noEx wc ((g3, .cells (jobL j Au5 cu5)) :: (g2, .cells (jobL j A c ++ jobL ju3 Au3 cu3 ++ jobL ju4 Au4 cu4)) :: (Iu3 ++ Iu4 ++ Iu5 ++ Iu6)) := M
    clear N hsnu6
    refine sh_out hK _ _ ?_; clear hK K
    refine l_q T rfl rfl rfl rfl (rn_move rfl (T.ev 0 rfl)) ?_; clear T ac; intro ac T
    refine l_q T rfl rfl rfl rfl (rn_extract rfl (T.ev 0 rfl) rfl) ?_; clear T ac; intro ac T
    refine l_q T rfl rfl rfl rfl (rn_extract rfl (T.ev 1 rfl) rfl) ?_; clear T ac; intro ac T
    refine l_q T rfl rfl rfl rfl (rn_assign rfl (T.ev 1 rfl)) ?_; clear T ac; intro ac T
    refine l_q T rfl rfl rfl rfl (rn_assign rfl (T.ev 1 rfl)) ?_; clear T ac; intro ac T
    refine wpList_nil ?_
    replace T := T.pick [0, 1, 7, 8, 9] rfl
    refine nm_then ?_
    refine wp_seq ?_
    refine wp_region_lit ?_
    refine l_q T rfl rfl rfl rfl (rn_move rfl (T.ev 4 rfl)) ?_; clear T ac; intro ac T
    refine l_q T rfl rfl rfl rfl (rn_move rfl (T.ev 4 rfl)) ?_; clear T ac; intro ac T
    refine l_q (v := (.pointer (some ⟨g2, 0, none⟩))) T rfl rfl rfl rfl (rn_indexAddr (size := 18) 0 rfl (T.ev 1 rfl) (T.ev 0 rfl) ⟨_, Try.underlying36, by kernel_rfl⟩ rfl (by decide) rfl) ?_; clear T ac; intro ac T
    refine l_q T rfl rfl rfl rfl (rn_rowO (Mem.nth M 1 rfl) rfl (T.ev 0 rfl) rfl) ?_; clear T ac; intro ac T
    refine l_w rfl ?_; intro K hK
    refine ow_call (first := []) (cap := []) T rfl rfl rfl rfl evf (.cons (T.ev 0 rfl) .nil) Try.func20 rfl rfl ?_
    refine Calls.mono (rShortest_own j _ _ _ (SJ.rd M (List.nil_sublist _)) (by omega)) ?_
    clear T
    rintro e wc ⟨Au7, cu7, Iu7, rfl, hsnu7, N⟩
    intro ac T
    obtain ⟨bu7, ou7, Su7⟩ := hsnu7
    replace Su7 := Su7 w noEx
    replace M := (M.join N).swapI
    replace M : Mem w noEx wc ((g3, .cells (jobL j Au5 cu5)) :: (g2, .cells (jobL j A c ++ jobL ju3 Au3 cu3 ++ jobL ju4 Au4 cu4)) :: (Iu3 ++ Iu4 ++ Iu5 ++ Iu6 ++ Iu7)) := M
    clear N
    refine sh_out hK _ _ ?_; clear hK K
    refine l_q T rfl rfl rfl rfl (rn_move rfl (T.ev 0 rfl)) ?_; clear T ac; intro ac T
    refine l_q T rfl rfl rfl rfl (rn_extract rfl (T.ev 0 rfl) rfl) ?_; clear T ac; intro ac T
    refine l_q T rfl rfl rfl rfl (rn_extract rfl (T.ev 1 rfl) rfl) ?_; clear T ac; intro ac T
    refine l_q T rfl rfl rfl rfl (rn_assign rfl (T.ev 1 rfl)) ?_; clear T ac; intro ac T
    refine l_q T rfl rfl rfl rfl (rn_assign rfl (T.ev 1 rfl)) ?_; clear T ac; intro ac T
    refine wpList_nil ?_
    replace T := T.pick [0, 1, 10, 11, 12, 13, 14] rfl
    refine nm_then ?_
    refine wp_seq ?_
    refine g_start2 M (M.mask [true, true] rfl) 18 (by kernel_rfl) rfl (by kernel_rfl) ?_
    clear M; intro wc M
    refine g_q (T := T) (i := 0) rfl (by kernel_rfl) (by kernel_rfl : (pbits 18 0).setIfInBounds 0 true = pbits 18 1) si_U (fun _ _ _ h => h) rfl rfl rfl rfl (fun _ _ _ _ _ => (rn_move rfl (T.ev 2 rfl))) ?_; clear T ac; intro ac T
    refine g_q (T := T) (i := 1) rfl (by kernel_rfl) (by kernel_rfl : (pbits 18 1).setIfInBounds 1 true = pbits 18 3) si_U (fun _ _ _ h => h) rfl rfl rfl rfl (fun _ _ _ _ _ => (rn_move rfl (T.ev 1 rfl))) ?_; clear T ac; intro ac T
    refine g_q (v := (.bool false)) (T := T) (i := 2) rfl (by kernel_rfl) (by kernel_rfl : (pbits 18 3).setIfInBounds 2 true = pbits 18 7) si_U (fun _ _ _ h => h) rfl rfl rfl rfl (fun _ _ _ _ _ => (rn_neqof (rn_neq rfl (T.ev 1 rfl) (T.ev 0 rfl)) (by simp))) ?_; clear T ac; intro ac T
    refine g_q (T := T) (i := 3) rfl (by kernel_rfl) (by kernel_rfl : (pbits 18 7).setIfInBounds 3 true = pbits 18 15) si_U (fun _ _ _ h => h) rfl rfl rfl rfl (fun _ _ _ _ _ => (rn_move rfl (T.ev 0 rfl))) ?_; clear T ac; intro ac T
    refine g_q (T := T) (i := 4) rfl (by kernel_rfl) (by kernel_rfl : (pbits 18 15).setIfInBounds 4 true = pbits 18 31) si_U (fun _ _ _ h => h) (wanted_yes rfl rfl (T.ev 0 rfl) rfl) rfl rfl rfl (fun _ _ _ _ _ => (rn_move rfl (T.ev 7 rfl))) ?_; clear T ac; intro ac T
    refine g_q (T := T) (i := 5) rfl (by kernel_rfl) (by kernel_rfl : (pbits 18 31).setIfInBounds 5 true = pbits 18 63) si_U (fun _ _ _ h => h) (wanted_yes rfl rfl (T.ev 1 rfl) rfl) rfl rfl rfl (fun _ _ _ _ _ => (rn_move rfl (T.ev 6 rfl))) ?_; clear T ac; intro ac T
    refine g_w (i := 6) (by kernel_rfl) rfl (by kernel_rfl : (pbits 18 63).setIfInBounds 6 true = pbits 18 127) (wanted_yes rfl rfl (T.ev 2 rfl) rfl) ?_; intro K hK
    refine ow_call (first := []) (cap := []) T rfl rfl rfl rfl evf (.cons (T.ev 1 rfl) (.cons (T.ev 0 rfl) .nil)) Try.func21 rfl rfl ?_
    refine Calls.mono (sameInts_same _ _ _ _ _ _ (shortL j) _ (Su6.rd M (.cons _ (.cons _ (List.Sublist.trans (List.sublist_append_right _ _) (List.sublist_append_left _ _))))) (Su7.rd M (.cons _ (.cons _ (List.sublist_append_right _ _)))) (by have := short_len j; omega) (by have := short_len j; omega)) ?_
    clear T
    rintro e wc ⟨rfl, hb⟩
    intro ac T
    replace M := M.call hb; clear hb
    refine sh_out hK _ _ (M.mask [true, true] rfl) ?_; clear hK K
    refine g_addU M ?_
    refine g_q (v := (.bool false)) (T := T) (i := 7) rfl (by kernel_rfl) (by kernel_rfl : (pbits 18 127).setIfInBounds 7 true = pbits 18 255) (si_and si_U si_U) (fun _ _ _ h => h) (wanted_yes rfl rfl (T.ev 3 rfl) rfl) rfl rfl rfl (fun _ _ _ _ _ => (rn_neqof (rn_not rfl (T.ev 0 rfl)) (by simp))) ?_; clear T ac; intro ac T
    refine g_q (T := T) (i := 8) rfl (by kernel_rfl) (by kernel_rfl : (pbits 18 255).setIfInBounds 8 true = pbits 18 511) (si_and si_U si_U) (fun _ _ _ h => h) rfl rfl rfl rfl (fun _ _ _ _ _ => (rn_pick0 rfl (T.ev 4 rfl) rfl (T.ev 0 rfl))) ?_; clear T ac; intro ac T
    refine g_q (T := T) (i := 9) rfl (by kernel_rfl) (by kernel_rfl : (pbits 18 511).setIfInBounds 9 true = pbits 18 1023) (si_and si_U si_U) (fun _ _ _ h => h) rfl rfl rfl rfl (fun _ _ _ _ _ => (rn_move rfl (T.ev 0 rfl))) ?_; clear T ac; intro ac T
    refine g_q (T := T) (i := 10) rfl (by kernel_rfl) (by kernel_rfl : (pbits 18 1023).setIfInBounds 10 true = pbits 18 2047) (si_and si_U si_U) (fun _ _ _ h => h) (wanted_yes rfl rfl (T.ev 0 rfl) rfl) rfl rfl rfl (fun B w' hD hl hS => (rn_rowO (Mem.nth (show Mem w noEx w' _ from (MA.lft hS)) 0 rfl) rfl (T.ev 14 rfl) rfl)) ?_; clear T ac; intro ac T
    refine g_q (T := T) (i := 11) rfl (by kernel_rfl) (by kernel_rfl : (pbits 18 2047).setIfInBounds 11 true = pbits 18 4095) (si_and si_U si_U) (fun _ _ _ h => h) (wanted_yes rfl rfl (T.ev 1 rfl) rfl) rfl rfl rfl (fun _ _ _ _ _ => (rn_move rfl (T.ev 17 rfl))) ?_; clear T ac; intro ac T
    refine g_q (T := T) (i := 12) rfl (by kernel_rfl) (by kernel_rfl : (pbits 18 4095).setIfInBounds 12 true = pbits 18 8191) (si_and si_U si_U) (fun _ _ _ h => h) (wanted_yes rfl rfl (T.ev 2 rfl) rfl) rfl rfl rfl (fun _ _ _ _ _ => (rn_move rfl (T.ev 17 rfl))) ?_; clear T ac; intro ac T
    refine g_q (v := (.pointer (some ⟨g2, 0, none⟩))) (T := T) (i := 13) rfl (by kernel_rfl) (by kernel_rfl : (pbits 18 8191).setIfInBounds 13 true = pbits 18 16383) (si_and si_U si_U) (fun _ _ _ h => h) (wanted_yes rfl rfl (T.ev 3 rfl) rfl) rfl rfl rfl (fun _ _ _ _ _ => (rn_indexAddr (size := 18) 0 rfl (T.ev 1 rfl) (T.ev 0 rfl) ⟨_, Try.underlying36, by kernel_rfl⟩ rfl (by decide) rfl)) ?_; clear T ac; intro ac T
    refine g_q (T := T) (i := 14) rfl (by kernel_rfl) (by kernel_rfl : (pbits 18 16383).setIfInBounds 14 true = pbits 18 32767) (si_and si_U si_U) (fun _ _ _ h => h) (wanted_yes rfl rfl (T.ev 4 rfl) rfl) rfl rfl rfl (fun B w' hD hl hS => (rn_rowO (Mem.nth (show Mem w noEx w' _ from (MA.lft hS)) 1 rfl) rfl (T.ev 0 rfl) rfl)) ?_; clear T ac; intro ac T
    refine g_w (i := 15) (by kernel_rfl) rfl (by kernel_rfl : (pbits 18 32767).setIfInBounds 15 true = pbits 18 65535) (wanted_yes rfl rfl (T.ev 5 rfl) rfl) ?_; intro K hK
    refine ow_call (first := []) (cap := []) T rfl rfl rfl rfl evf (.cons (T.ev 4 rfl) (.cons (T.ev 0 rfl) .nil)) Try.func22 rfl rfl ?_
    refine Calls.mono (sameJobs_same j _ _ _ _ _ (Su5.rd M (.cons _ (.cons _ (List.Sublist.trans (List.Sublist.trans (List.sublist_append_right _ _) (List.sublist_append_left _ _)) (List.sublist_append_left _ _))))) (SJ.rd M (List.nil_sublist _)) (by omega)) ?_
    clear T
    rintro e wc ⟨rfl, hb⟩
    intro ac T
    replace M := M.call hb; clear hb
    refine sh_out hK _ _ (MA.mk (M.mask [true, true] rfl) (M.mask [true, true] rfl)) ?_; clear hK K
    refine g_q (v := (.bool false)) (T := T) (i := 16) rfl (by kernel_rfl) (by kernel_rfl : (pbits 18 65535).setIfInBounds 16 true = pbits 18 131071) (si_and si_U si_U) (fun _ _ _ h => h) (wanted_yes rfl rfl (T.ev 6 rfl) rfl) rfl rfl rfl (fun _ _ _ _ _ => (rn_neqof (rn_not rfl (T.ev 0 rfl)) (by simp))) ?_; clear T ac; intro ac T
    refine g_q (T := T) (i := 17) rfl (by kernel_rfl) (by kernel_rfl : (pbits 18 131071).setIfInBounds 17 true = pbits 18 262143) (si_and si_U si_U) (fun _ _ _ h => h) rfl rfl rfl rfl (fun _ _ _ _ _ => (rn_pick0 rfl (T.ev 7 rfl) rfl (T.ev 0 rfl))) ?_; clear T ac; intro ac T
    refine g_done (by kernel_rfl) ?_
    replace T := T.pick [0, 1, 2, 3, 4, 5, 6, 7, 10, 11, 12, 13, 23, 24] rfl
    replace M := M.mask [false, true] rfl
    refine nm_then ?_
    refine wp_cond_false (T.ev 0 rfl) ?_
    refine wp_skip ?_
    refine nm_blk ?_
    refine nm_then ?_
    refine wp_region_lit ?_
    refine l_q T rfl rfl rfl rfl (rn_move rfl (T.ev 12 rfl)) ?_; clear T ac; intro ac T
    refine l_q (v := (.int .i64 1)) T rfl rfl rfl rfl (rn_ofI (rn_add rfl (T.ev 0 rfl) evc (by omega)) (by rfl)) ?_; clear T ac; intro ac T
    refine l_q (v := (.int .i64 1)) (T.pick [0, 1, 2, 3, 4, 5, 6, 7, 8, 9, 10, 11, 12, 13, 15] rfl) rfl rfl rfl rfl (rn_assign rfl (T.ev 0 rfl)) ?_; clear T ac; intro ac T
    refine wpList_nil ?_
    replace T := T.pick [0, 4, 5, 6, 7, 8, 9, 10, 11, 12, 13, 14, 15] rfl
    refine nm_then ?_
    refine rounds_S ?_
    refine wp_seq ?_
    refine wp_seq ?_
    refine wp_region_lit ?_
    refine l_q T rfl rfl rfl rfl (rn_move rfl (T.ev 0 rfl)) ?_; clear T ac; intro ac T
    refine l_q T rfl rfl rfl rfl (rn_move rfl (T.ev 13 rfl)) ?_; clear T ac; intro ac T
    refine l_q (v := (.int .i64 3)) T rfl rfl rfl rfl (rn_lenS rfl Try.underlying36 (T.ev 0 rfl)) ?_; clear T ac; intro ac T
    refine l_q (v := (.bool true)) T rfl rfl rfl rfl (rn_neqof (rn_lss rfl (T.ev 2 rfl) (T.ev 0 rfl)) (by simp)) ?_; clear T ac; intro ac T
    refine wpList_nil ?_
    replace T := T.pick [0, 4, 5, 6, 7, 8, 9, 10, 11, 12, 13, 14, 15, 16] rfl
    refine nm_then ?_
    refine wp_cond_true (T.ev 0 rfl) ?_
    refine wp_skip ?_
    refine nm_then ?_
    refine wp_seq ?_
    refine wp_block ?_
    refine wp_seq ?_
    refine wp_region_lit ?_
    refine l_q T rfl rfl rfl rfl (rn_move rfl (T.ev 13 rfl)) ?_; clear T ac; intro ac T
    refine l_q T rfl rfl rfl rfl (rn_move rfl (T.ev 2 rfl)) ?_; clear T ac; intro ac T
    refine l_q (v := (.pointer (some ⟨g2, 18, none⟩))) T rfl rfl rfl rfl (rn_indexAddr (size := 18) 1 rfl (T.ev 1 rfl) (T.ev 0 rfl) ⟨_, Try.underlying36, by kernel_rfl⟩ rfl (by decide) rfl) ?_; clear T ac; intro ac T
    refine l_q T rfl rfl rfl rfl (rn_rowO (Mem.nth M 0 rfl) rfl (T.ev 0 rfl) rfl) ?_; clear T ac; intro ac T
    refine l_w rfl ?_; intro K hK
    refine ow_call (first := []) (cap := []) T rfl rfl rfl rfl evf (.cons (T.ev 0 rfl) .nil) Try.func18 rfl rfl ?_
    refine Calls.mono (copyJob_own ju3 _ _ _ (Su3.rd M (.cons _ (List.Sublist.trans (List.Sublist.trans (List.Sublist.trans (List.Sublist.trans (List.Sublist.refl _) (List.sublist_append_left _ _)) (List.sublist_append_left _ _)) (List.sublist_append_left _ _)) (List.sublist_append_left _ _)))) (by first | omega | (dsimp only [Jb.one]; omega))) ?_
    clear T
    rintro e wc ⟨Au10, cu10, Iu10, rfl, hsnu10, N⟩
    intro ac T
    obtain ⟨bu10, ou10, Su10⟩ := hsnu10.sp (w := w) (ex := noEx) (rc_length _)
    replace M := (M.join N).swapI
    replace M := M.mask [true] rfl
    clear N hsnu10
    refine sh_out hK _ _ ?_; clear hK K
    refine l_w rfl ?_; intro K hK
    refine ow_al M T rfl rfl rfl rfl ?_; clear M T; intro g4 wc ac M T
    refine sh_out hK _ _ ?_; clear hK K
    refine l_w rfl ?_; intro K hK
    refine ow_stO M T rfl rfl (T.ev 0 rfl) (T.ev 1 rfl) rfl .head rfl (by simp) rfl (by kernel_rfl) ?_; clear M T; intro wc ac M T
    refine sh_out hK _ _ ?_; clear hK K
    refine wpList_nil ?_
    replace T := T.pick [0, 7, 8, 9, 10, 11, 12, 13, 14, 15, 16, 17, 18, 19] rfl
    refine nm_then ?_
    refine wp_seq ?_
    refine wp_region_lit ?_
    refine l_q T rfl rfl rfl rfl (rn_rowO (Mem.nth M 0 rfl) rfl (T.ev 0 rfl) rfl) ?_; clear T ac; intro ac T
    refine l_w rfl ?_; intro K hK
    refine ow_call (first := []) (cap := []) T rfl rfl rfl rfl evf (.cons (T.ev 0 rfl) .nil) Try.func19 rfl rfl ?_
    refine Calls.mono (Shortest_own ju3 _ _ _ (Su10.rd M (.cons _ (.cons _ (List.sublist_append_right _ _)))) (by omega)) ?_
    clear T
    rintro e wc ⟨Au11, cu11, Iu11, rfl, hsnu11, N⟩
    intro ac T
    obtain ⟨bu11, ou11, Su11⟩ := hsnu11.sp (w := w) (ex := noEx) (by simp [ic_length])
    replace M := (M.join N).swapI
    replace M : Mem w noEx wc ((g4, .cells (jobL ju3 Au10 cu10)) :: (g2, .cells (jobL j A c ++ jobL ju3 Au3 cu3 ++ jobL ju4 Au4 cu4)) :: (Iu3 ++ Iu4 ++ Iu5 ++ Iu6 ++ Iu7 ++ Iu10 ++ Iu11)) := M
    clear N hsnu11
    refine sh_out hK _ _ ?_; clear hK K
    refine l_q T rfl rfl rfl rfl (rn_move rfl (T.ev 0 rfl)) ?_; clear T ac; intro ac T
    refine l_q T rfl rfl rfl rfl (rn_extract rfl (T.ev 0 rfl) rfl) ?_; clear T ac; intro ac T
    refine l_q T rfl rfl rfl rfl (rn_extract rfl (T.ev 1 rfl) rfl) ?_; clear T ac; intro ac T
    refine l_q T rfl rfl rfl rfl (rn_assign rfl (T.ev 1 rfl)) ?_; clear T ac; intro ac T
    refine l_q T rfl rfl rfl rfl (rn_assign rfl (T.ev 1 rfl)) ?_; clear T ac; intro ac T
    refine wpList_nil ?_
    replace T := T.pick [0, 1, 7, 8, 9, 10, 11, 12, 13, 14, 15, 16, 17, 18, 19, 20] rfl
    refine nm_then ?_
    refine wp_seq ?_
    refine wp_region_lit ?_
    refine l_q T rfl rfl rfl rfl (rn_move rfl (T.ev 15 rfl)) ?_; clear T ac; intro ac T
    refine l_q T rfl rfl rfl rfl (rn_move rfl (T.ev 4 rfl)) ?_; clear T ac; intro ac T
    refine l_q (v := (.pointer (some ⟨g2, 18, none⟩))) T rfl rfl rfl rfl (rn_indexAddr (size := 18) 1 rfl (T.ev 1 rfl) (T.ev 0 rfl) ⟨_, Try.underlying36, by kernel_rfl⟩ rfl (by decide) rfl) ?_; clear T ac; intro ac T
    refine l_q T rfl rfl rfl rfl (rn_rowO (Mem.nth M 1 rfl) rfl (T.ev 0 rfl) rfl) ?_; clear T ac; intro ac T
    refine l_w rfl ?_; intro K hK
    refine ow_call (first := []) (cap := []) T rfl rfl rfl rfl evf (.cons (T.ev 0 rfl) .nil) Try.func20 rfl rfl ?_
    refine Calls.mono (rShortest_own ju3 _ _ _ (Su3.rd M (.cons _ (.cons _ (List.Sublist.trans (List.Sublist.trans (List.Sublist.trans (List.Sublist.trans (List.Sublist.trans (List.Sublist.trans (List.Sublist.refl _) (List.sublist_append_left _ _)) (List.sublist_append_left _ _)) (List.sublist_append_left _ _)) (List.sublist_append_left _ _)) (List.sublist_append_left _ _)) (List.sublist_append_left _ _))))) (by omega)) ?_
    clear T
    rintro e wc ⟨Au12, cu12, Iu12, rfl, hsnu12, N⟩
    intro ac T
    obtain ⟨bu12, ou12, Su12⟩ := hsnu12
    replace Su12 := Su12 w noEx
    replace M := (M.join N).swapI
    replace M : Mem w noEx wc ((g4, .cells (jobL ju3 Au10 cu10)) :: (g2, .cells (jobL j A c ++ jobL ju3 Au3 cu3 ++ jobL ju4 Au4 cu4)) :: (Iu3 ++ Iu4 ++ Iu5 ++ Iu6 ++ Iu7 ++ Iu10 ++ Iu11 ++ Iu12)) := M
    clear N
    refine sh_out hK _ _ ?_; clear hK K
    refine l_q T rfl rfl rfl rfl (rn_move rfl (T.ev 0 rfl)) ?_; clear T ac; intro ac T
    refine l_q T rfl rfl rfl rfl (rn_extract rfl (T.ev 0 rfl) rfl) ?_; clear T ac; intro ac T
    refine l_q T rfl rfl rfl rfl (rn_extract rfl (T.ev 1 rfl) rfl) ?_; clear T ac; intro ac T
    refine l_q T rfl rfl rfl rfl (rn_assign rfl (T.ev 1 rfl)) ?_; clear T ac; intro ac T
    refine l_q T rfl rfl rfl rfl (rn_assign rfl (T.ev 1 rfl)) ?_; clear T ac; intro ac T
    refine wpList_nil ?_
    replace T := T.pick [0, 1, 10, 11, 12, 13, 14, 15, 16, 17, 18, 19, 20, 21, 22, 23, 24, 25] rfl
    refine nm_then ?_
    refine wp_seq ?_
    refine g_start2 M (M.mask [true, true] rfl) 18 (by kernel_rfl) rfl (by kernel_rfl) ?_
    clear M; intro wc M
    refine g_q (T := T) (i := 0) rfl (by kernel_rfl) (by kernel_rfl : (pbits 18 0).setIfInBounds 0 true = pbits 18 1) si_U (fun _ _ _ h => h) rfl rfl rfl rfl (fun _ _ _ _ _ => (rn_move rfl (T.ev 2 rfl))) ?_; clear T ac; intro ac T
    refine g_q (T := T) (i := 1) rfl (by kernel_rfl) (by kernel_rfl : (pbits 18 1).setIfInBounds 1 true = pbits 18 3) si_U (fun _ _ _ h => h) rfl rfl rfl rfl (fun _ _ _ _ _ => (rn_move rfl (T.ev 1 rfl))) ?_; clear T ac; intro ac T
    refine g_q (v := (.bool false)) (T := T) (i := 2) rfl (by kernel_rfl) (by kernel_rfl : (pbits 18 3).setIfInBounds 2 true = pbits 18 7) si_U (fun _ _ _ h => h) rfl rfl rfl rfl (fun _ _ _ _ _ => (rn_neqof (rn_neq rfl (T.ev 1 rfl) (T.ev 0 rfl)) (by simp))) ?_; clear T ac; intro ac T
    refine g_q (T := T) (i := 3) rfl (by kernel_rfl) (by kernel_rfl : (pbits 18 7).setIfInBounds 3 true = pbits 18 15) si_U (fun _ _ _ h => h) rfl rfl rfl rfl (fun _ _ _ _ _ => (rn_move rfl (T.ev 0 rfl))) ?_; clear T ac; intro ac T
    refine g_q (v := (.slice Au11 ((shortL ju3).length) cu11)) (T := T.pick [0, 1, 2, 3, 4, 5, 6, 7, 8, 9, 10, 11, 12, 13, 14, 15, 16, 17, 18, 19, 21] rfl) (i := 4) rfl (by kernel_rfl) (by kernel_rfl : (pbits 18 15).setIfInBounds 4 true = pbits 18 31) si_U (fun _ _ _ h => h) (wanted_yes rfl rfl (T.ev 0 rfl) rfl) rfl rfl rfl (fun _ _ _ _ _ => (rn_move rfl (T.ev 7 rfl))) ?_; clear T ac; intro ac T
    refine g_q (v := (.slice Au12 ((shortL ju3).length) cu12)) (T := T.pick [0, 1, 2, 3, 4, 5, 6, 7, 8, 9, 10, 11, 12, 13, 14, 15, 16, 17, 18, 19, 21] rfl) (i := 5) rfl (by kernel_rfl) (by kernel_rfl : (pbits 18 31).setIfInBounds 5 true = pbits 18 63) si_U (fun _ _ _ h => h) (wanted_yes rfl rfl (T.ev 1 rfl) rfl) rfl rfl rfl (fun _ _ _ _ _ => (rn_move rfl (T.ev 6 rfl))) ?_; clear T ac; intro ac T
    refine g_w (i := 6) (by kernel_rfl) rfl (by kernel_rfl : (pbits 18 63).setIfInBounds 6 true = pbits 18 127) (wanted_yes rfl rfl (T.ev 2 rfl) rfl) ?_; intro K hK
    replace T := T.pick [0, 1, 2, 3, 4, 5, 6, 7, 8, 9, 10, 11, 12, 13, 14, 15, 16, 17, 18, 19, 21] rfl
    refine ow_call (first := []) (cap := []) T rfl rfl rfl rfl evf (.cons (T.ev 1 rfl) (.cons (T.ev 0 rfl) .nil)) Try.func21 rfl rfl ?_
    refine Calls.mono (sameInts_same _ _ _ _ _ _ (shortL ju3) _ (Su11.rd M (.cons _ (.cons _ (List.Sublist.trans (List.sublist_append_right _ _) (List.sublist_append_left _ _))))) (Su12.rd M (.cons _ (.cons _ (List.sublist_append_right _ _)))) (by have := short_len ju3; omega) (by have := short_len ju3; omega)) ?_
    clear T
    rintro e wc ⟨rfl, hb⟩
    intro ac T
    replace M := M.call hb; clear hb
    refine sh_out hK _ _ (M.mask [true, true] rfl) ?_; clear hK K
    refine g_addU M ?_
    refine g_q (v := (.bool false)) (T := T.pick [0, 1, 2, 3, 4, 5, 6, 7, 8, 9, 10, 11, 12, 13, 14, 15, 16, 17, 18, 19, 21] rfl) (i := 7) rfl (by kernel_rfl) (by kernel_rfl : (pbits 18 127).setIfInBounds 7 true = pbits 18 255) (si_and si_U si_U) (fun _ _ _ h => h) (wanted_yes rfl rfl (T.ev 3 rfl) rfl) rfl rfl rfl (fun _ _ _ _ _ => (rn_neqof (rn_not rfl (T.ev 0 rfl)) (by simp))) ?_; clear T ac; intro ac T
    refine g_q (T := T) (i := 8) rfl (by kernel_rfl) (by kernel_rfl : (pbits 18 255).setIfInBounds 8 true = pbits 18 511) (si_and si_U si_U) (fun _ _ _ h => h) rfl rfl rfl rfl (fun _ _ _ _ _ => (rn_pick0 rfl (T.ev 4 rfl) rfl (T.ev 0 rfl))) ?_; clear T ac; intro ac T
    refine g_q (T := T) (i := 9) rfl (by kernel_rfl) (by kernel_rfl : (pbits 18 511).setIfInBounds 9 true = pbits 18 1023) (si_and si_U si_U) (fun _ _ _ h => h) rfl rfl rfl rfl (fun _ _ _ _ _ => (rn_move rfl (T.ev 0 rfl))) ?_; clear T ac; intro ac T
    refine g_q (v := (.agg #[.int .i64 ju3.p0, .int .i64 ju3.p1, .int .i64 ju3.t0, .int .i64 ju3.t1, .int .i64 ju3.r0, .int .i64 ju3.r1, .int .i64 ju3.u0, .int .i64 ju3.u1, .int .i64 ju3.d0, .int .i64 ju3.d1, .int .i64 ju3.a0, .int .i64 ju3.a1, .int .i64 ju3.b0, .int .i64 ju3.b1, .int .i64 ju3.le, .slice Au10 ju3.sh.length cu10, .int .i64 ju3.wi, .int .i64 ju3.me])) (T := T.pick [0, 1, 2, 3, 4, 5, 6, 7, 8, 9, 10, 11, 12, 13, 14, 15, 16, 17, 18, 19, 20, 21, 23] rfl) (i := 10) rfl (by kernel_rfl) (by kernel_rfl : (pbits 18 1023).setIfInBounds 10 true = pbits 18 2047) (si_and si_U si_U) (fun _ _ _ h => h) (wanted_yes rfl rfl (T.ev 0 rfl) rfl) rfl rfl rfl (fun B w' hD hl hS => (rn_rowO (Mem.nth (show Mem w noEx w' _ from (MA.lft hS)) 0 rfl) rfl (T.ev 14 rfl) rfl)) ?_; clear T ac; intro ac T
    refine g_q (v := (.slice (some ⟨g2, 0, none⟩) 3 3)) (T := T.pick [0, 1, 2, 3, 4, 5, 6, 7, 8, 9, 10, 11, 12, 13, 14, 15, 16, 17, 18, 19, 20, 21, 23] rfl) (i := 11) rfl (by kernel_rfl) (by kernel_rfl : (pbits 18 2047).setIfInBounds 11 true = pbits 18 4095) (si_and si_U si_U) (fun _ _ _ h => h) (wanted_yes rfl rfl (T.ev 1 rfl) rfl) rfl rfl rfl (fun _ _ _ _ _ => (rn_move rfl (T.ev 23 rfl))) ?_; clear T ac; intro ac T
    refine g_q (v := (.int .i64 1)) (T := T.pick [0, 1, 2, 3, 4, 5, 6, 7, 8, 9, 10, 11, 12, 13, 14, 15, 16, 17, 18, 19, 20, 21, 23] rfl) (i := 12) rfl (by kernel_rfl) (by kernel_rfl : (pbits 18 4095).setIfInBounds 12 true = pbits 18 8191) (si_and si_U si_U) (fun _ _ _ h => h) (wanted_yes rfl rfl (T.ev 2 rfl) rfl) rfl rfl rfl (fun _ _ _ _ _ => (rn_move rfl (T.ev 17 rfl))) ?_; clear T ac; intro ac T
    refine g_q (v := (.pointer (some ⟨g2, 18, none⟩))) (T := T.pick [0, 1, 2, 3, 4, 5, 6, 7, 8, 9, 10, 11, 12, 13, 14, 15, 16, 17, 18, 19, 20, 21, 23] rfl) (i := 13) rfl (by kernel_rfl) (by kernel_rfl : (pbits 18 8191).setIfInBounds 13 true = pbits 18 16383) (si_and si_U si_U) (fun _ _ _ h => h) (wanted_yes rfl rfl (T.ev 3 rfl) rfl) rfl rfl rfl (fun _ _ _ _ _ => (rn_indexAddr (size := 18) 1 rfl (T.ev 1 rfl) (T.ev 0 rfl) ⟨_, Try.underlying36, by kernel_rfl⟩ rfl (by decide) rfl)) ?_; clear T ac; intro ac T
    refine g_q (v := (.agg #[.int .i64 ju3.p0, .int .i64 ju3.p1, .int .i64 ju3.t0, .int .i64 ju3.t1, .int .i64 ju3.r0, .int .i64 ju3.r1, .int .i64 ju3.u0, .int .i64 ju3.u1, .int .i64 ju3.d0, .int .i64 ju3.d1, .int .i64 ju3.a0, .int .i64 ju3.a1, .int .i64 ju3.b0, .int .i64 ju3.b1, .int .i64 ju3.le, .slice Au3 ju3.sh.length cu3, .int .i64 ju3.wi, .int .i64 ju3.me])) (T := T.pick [0, 1, 2, 3, 4, 5, 6, 7, 8, 9, 10, 11, 12, 13, 14, 15, 16, 17, 18, 19, 20, 21, 23] rfl) (i := 14) rfl (by kernel_rfl) (by kernel_rfl : (pbits 18 16383).setIfInBounds 14 true = pbits 18 32767) (si_and si_U si_U) (fun _ _ _ h => h) (wanted_yes rfl rfl (T.ev 4 rfl) rfl) rfl rfl rfl (fun B w' hD hl hS => (rn_rowO (Mem.nth (show Mem w noEx w' _ from (MA.lft hS)) 1 rfl) rfl (T.ev 0 rfl) rfl)) ?_; clear T ac; intro ac T
    refine g_w (i := 15) (by kernel_rfl) rfl (by kernel_rfl : (pbits 18 32767).setIfInBounds 15 true = pbits 18 65535) (wanted_yes rfl rfl (T.ev 5 rfl) rfl) ?_; intro K hK
    replace T := T.pick [0, 1, 2, 3, 4, 5, 6, 7, 8, 9, 10, 11, 12, 13, 14, 15, 16, 17, 18, 19, 20, 21, 23] rfl
    refine ow_call (first := []) (cap := []) T rfl rfl rfl rfl evf (.cons (T.ev 4 rfl) (.cons (T.ev 0 rfl) .nil)) Try.func22 rfl rfl ?_
    refine Calls.mono (sameJobs_same ju3 _ _ _ _ _ (Su10.rd M (.cons _ (.cons _ (List.Sublist.trans (List.Sublist.trans (List.sublist_append_right _ _) (List.sublist_append_left _ _)) (List.sublist_append_left _ _))))) (Su3.rd M (.cons _ (.cons _ (List.Sublist.trans (List.Sublist.trans (List.Sublist.trans (List.Sublist.trans (List.Sublist.trans (List.Sublist.trans (List.Sublist.trans (List.Sublist.refl _) (List.sublist_append_left _ _)) (List.sublist_append_left _ _)) (List.sublist_append_left _ _)) (List.sublist_append_left _ _)) (List.sublist_append_left _ _)) (List.sublist_append_left _ _)) (List.sublist_append_left _ _))))) (by omega)) ?_
    clear T
    rintro e wc ⟨rfl, hb⟩
    intro ac T
    replace M := M.call hb; clear hb
    refine sh_out hK _ _ (MA.mk (M.mask [true, true] rfl) (M.mask [true, true] rfl)) ?_; clear hK K
    refine g_q (v := (.bool false)) (T := T.pick [0, 1, 2, 3, 4, 5, 6, 7, 8, 9, 10, 11, 12, 13, 14, 15, 16, 17, 18, 19, 20, 21, 23] rfl) (i := 16) rfl (by kernel_rfl) (by kernel_rfl : (pbits 18 65535).setIfInBounds 16 true = pbits 18 131071) (si_and si_U si_U) (fun _ _ _ h => h) (wanted_yes rfl rfl (T.ev 6 rfl) rfl) rfl rfl rfl (fun _ _ _ _ _ => (rn_neqof (rn_not rfl (T.ev 0 rfl)) (by simp))) ?_; clear T ac; intro ac T
    refine g_q (T := T) (i := 17) rfl (by kernel_rfl) (by kernel_rfl : (pbits 18 131071).setIfInBounds 17 true = pbits 18 262143) (si_and si_U si_U) (fun _ _ _ h => h) rfl rfl rfl rfl (fun _ _ _ _ _ => (rn_pick0 rfl (T.ev 7 rfl) rfl (T.ev 0 rfl))) ?_; clear T ac; intro ac T
    refine g_done (by kernel_rfl) ?_
    replace T := T.pick [0, 1, 2, 3, 4, 5, 6, 7, 10, 11, 12, 13, 23, 24] rfl
    replace M := M.mask [false, true] rfl
    refine nm_then ?_
    refine wp_cond_false (T.ev 0 rfl) ?_
    refine wp_skip ?_
    refine nm_blk ?_
    refine nm_then ?_
    refine wp_region_lit ?_
    refine l_q T rfl rfl rfl rfl (rn_move rfl (T.ev 12 rfl)) ?_; clear T ac; intro ac T
    refine l_q (v := (.int .i64 2)) T rfl rfl rfl rfl (rn_ofI (rn_add rfl (T.ev 0 rfl) evc (by omega)) (by rfl)) ?_; clear T ac; intro ac T
    refine l_q (v := (.int .i64 2)) (T.pick [0, 1, 2, 3, 4, 5, 6, 7, 8, 9, 10, 11, 12, 13, 15] rfl) rfl rfl rfl rfl (rn_assign rfl (T.ev 0 rfl)) ?_; clear T ac; intro ac T
    refine wpList_nil ?_
    replace T := T.pick [0, 4, 5, 6, 7, 8, 9, 10, 11, 12, 13, 14, 15] rfl
    refine nm_then ?_
    refine rounds_S ?_
    refine wp_seq ?_
    refine wp_seq ?_
    refine wp_region_lit ?_
    refine l_q T rfl rfl rfl rfl (rn_move rfl (T.ev 0 rfl)) ?_; clear T ac; intro ac T
    refine l_q T rfl rfl rfl rfl (rn_move rfl (T.ev 13 rfl)) ?_; clear T ac; intro ac T
    refine l_q (v := (.int .i64 3)) T rfl rfl rfl rfl (rn_lenS rfl Try.underlying36 (T.ev 0 rfl)) ?_; clear T ac; intro ac T
    refine l_q (v := (.bool true)) T rfl rfl rfl rfl (rn_neqof (rn_lss rfl (T.ev 2 rfl) (T.ev 0 rfl)) (by simp)) ?_; clear T ac; intro ac T
    refine wpList_nil ?_
    replace T := T.pick [0, 4, 5, 6, 7, 8, 9, 10, 11, 12, 13, 14, 15, 16] rfl
    refine nm_then ?_
    refine wp_cond_true (T.ev 0 rfl) ?_
    refine wp_skip ?_
    refine nm_then ?_
    refine wp_seq ?_
    refine wp_block ?_
    refine wp_seq ?_
    refine wp_region_lit ?_
    refine l_q T rfl rfl rfl rfl (rn_move rfl (T.ev 13 rfl)) ?_; clear T ac; intro ac T
    refine l_q T rfl rfl rfl rfl (rn_move rfl (T.ev 2 rfl)) ?_; clear T ac; intro ac T
    refine l_q (v := (.pointer (some ⟨g2, 36, none⟩))) T rfl rfl rfl rfl (rn_indexAddr (size := 18) 2 rfl (T.ev 1 rfl) (T.ev 0 rfl) ⟨_, Try.underlying36, by kernel_rfl⟩ rfl (by decide) rfl) ?_; clear T ac; intro ac T
    refine l_q T rfl rfl rfl rfl (rn_rowO (Mem.nth M 0 rfl) rfl (T.ev 0 rfl) rfl) ?_; clear T ac; intro ac T
    refine l_w rfl ?_; intro K hK
    refine ow_call (first := []) (cap := []) T rfl rfl rfl rfl evf (.cons (T.ev 0 rfl) .nil) Try.func18 rfl rfl ?_
    refine Calls.mono (copyJob_own ju4 _ _ _ (Su4.rd M (.cons _ (List.Sublist.trans (List.Sublist.trans (List.Sublist.trans (List.Sublist.trans (List.Sublist.trans (List.Sublist.trans (List.sublist_append_right _ _) (List.sublist_append_left _ _)) (List.sublist_append_left _ _)) (List.sublist_append_left _ _)) (List.sublist_append_left _ _)) (List.sublist_append_left _ _)) (List.sublist_append_left _ _)))) (by first | omega | (dsimp only [Jb.one]; omega))) ?_
    clear T
    rintro e wc ⟨Au15, cu15, Iu15, rfl, hsnu15, N⟩
    intro ac T
    obtain ⟨bu15, ou15, Su15⟩ := hsnu15.sp (w := w) (ex := noEx) (rc_length _)
    replace M := (M.join N).swapI
    replace M := M.mask [true] rfl
    clear N hsnu15
    refine sh_out hK _ _ ?_; clear hK K
    refine l_w rfl ?_; intro K hK
    refine ow_al M T rfl rfl rfl rfl ?_; clear M T; intro g5 wc ac M T
    refine sh_out hK _ _ ?_; clear hK K
    refine l_w rfl ?_; intro K hK
    refine ow_stO M T rfl rfl (T.ev 0 rfl) (T.ev 1 rfl) rfl .head rfl (by simp) rfl (by kernel_rfl) ?_; clear M T; intro wc ac M T
    refine sh_out hK _ _ ?_; clear hK K
    refine wpList_nil ?_
    replace T := T.pick [0, 7, 8, 9, 10, 11, 12, 13, 14, 15, 16, 17, 18, 19] rfl
    refine nm_then ?_
    refine wp_seq ?_
    refine wp_region_lit ?_
    refine l_q T rfl rfl rfl rfl (rn_rowO (Mem.nth M 0 rfl) rfl (T.ev 0 rfl) rfl) ?_; clear T ac; intro ac T
    refine l_w rfl ?_; intro K hK
    refine ow_call (first := []) (cap := []) T rfl rfl rfl rfl evf (.cons (T.ev 0 rfl) .nil) Try.func19 rfl rfl ?_
    refine Calls.mono (Shortest_own ju4 _ _ _ (Su15.rd M (.cons _ (.cons _ (List.sublist_append_right _ _)))) (by omega)) ?_
    clear T
    rintro e wc ⟨Au16, cu16, Iu16, rfl, hsnu16, N⟩
    intro ac T
    obtain ⟨bu16, ou16, Su16⟩ := hsnu16.sp (w := w) (ex := noEx) (by simp [ic_length])
    replace M := (M.join N).swapI
    replace M : Mem w noEx wc ((g5, .cells (jobL ju4 Au15 cu15)) :: (g2, .cells (jobL j A c ++ jobL ju3 Au3 cu3 ++ jobL ju4 Au4 cu4)) :: (Iu3 ++ Iu4 ++ Iu5 ++ Iu6 ++ Iu7 ++ Iu10 ++ Iu11 ++ Iu12 ++ Iu15 ++ Iu16)) := M
    clear N hsnu16
    refine sh_out hK _ _ ?_; clear hK K
    refine l_q T rfl rfl rfl rfl (rn_move rfl (T.ev 0 rfl)) ?_; clear T ac; intro ac T
    refine l_q T rfl rfl rfl rfl (rn_extract rfl (T.ev 0 rfl) rfl) ?_; clear T ac; intro ac T
    refine l_q T rfl rfl rfl rfl (rn_extract rfl (T.ev 1 rfl) rfl) ?_; clear T ac; intro ac T
    refine l_q T rfl rfl rfl rfl (rn_assign rfl (T.ev 1 rfl)) ?_; clear T ac; intro ac T
    refine l_q T rfl rfl rfl rfl (rn_assign rfl (T.ev 1 rfl)) ?_; clear T ac; intro ac T
    refine wpList_nil ?_
    replace T := T.pick [0, 1, 7, 8, 9, 10, 11, 12, 13, 14, 15, 16, 17, 18, 19, 20] rfl
    refine nm_then ?_
    refine wp_seq ?_
    refine wp_region_lit ?_
    refine l_q T rfl rfl rfl rfl (rn_move rfl (T.ev 15 rfl)) ?_; clear T ac; intro ac T
    refine l_q T rfl rfl rfl rfl (rn_move rfl (T.ev 4 rfl)) ?_; clear T ac; intro ac T
    refine l_q (v := (.pointer (some ⟨g2, 36, none⟩))) T rfl rfl rfl rfl (rn_indexAddr (size := 18) 2 rfl (T.ev 1 rfl) (T.ev 0 rfl) ⟨_, Try.underlying36, by kernel_rfl⟩ rfl (by decide) rfl) ?_; clear T ac; intro ac T
    refine l_q T rfl rfl rfl rfl (rn_rowO (Mem.nth M 1 rfl) rfl (T.ev 0 rfl) rfl) ?_; clear T ac; intro ac T
    refine l_w rfl ?_; intro K hK
    refine ow_call (first := []) (cap := []) T rfl rfl rfl rfl evf (.cons (T.ev 0 rfl) .nil) Try.func20 rfl rfl ?_
    refine Calls.mono (rShortest_own ju4 _ _ _ (Su4.rd M (.cons _ (.cons _ (List.Sublist.trans (List.Sublist.trans (List.Sublist.trans (List.Sublist.trans (List.Sublist.trans (List.Sublist.trans (List.Sublist.trans (List.Sublist.trans (List.sublist_append_right _ _) (List.sublist_append_left _ _)) (List.sublist_append_left _ _)) (List.sublist_append_left _ _)) (List.sublist_append_left _ _)) (List.sublist_append_left _ _)) (List.sublist_append_left _ _)) (List.sublist_append_left _ _)) (List.sublist_append_left _ _))))) (by omega)) ?_
    clear T
    rintro e wc ⟨Au17, cu17, Iu17, rfl, hsnu17, N⟩
    intro ac T
    obtain ⟨bu17, ou17, Su17⟩ := hsnu17
    replace Su17 := Su17 w noEx
    replace M := (M.join N).swapI
    replace M : Mem w noEx wc ((g5, .cells (jobL ju4 Au15 cu15)) :: (g2, .cells (jobL j A c ++ jobL ju3 Au3 cu3 ++ jobL ju4 Au4 cu4)) :: (Iu3 ++ Iu4 ++ Iu5 ++ Iu6 ++ Iu7 ++ Iu10 ++ Iu11 ++ Iu12 ++ Iu15 ++ Iu16 ++ Iu17)) := M
    clear N
    refine sh_out hK _ _ ?_; clear hK K
    refine l_q T rfl rfl rfl rfl (rn_move rfl (T.ev 0 rfl)) ?_; clear T ac; intro ac T
    refine l_q T rfl rfl rfl rfl (rn_extract rfl (T.ev 0 rfl) rfl) ?_; clear T ac; intro ac T
    refine l_q T rfl rfl rfl rfl (rn_extract rfl (T.ev 1 rfl) rfl) ?_; clear T ac; intro ac T
    refine l_q T rfl rfl rfl rfl (rn_assign rfl (T.ev 1 rfl)) ?_; clear T ac; intro ac T
    refine l_q T rfl rfl rfl rfl (rn_assign rfl (T.ev 1 rfl)) ?_; clear T ac; intro ac T
    refine wpList_nil ?_
    replace T := T.pick [0, 1, 10, 11, 12, 13, 14, 15, 16, 17, 18, 19, 20, 21, 22, 23, 24, 25] rfl
    refine nm_then ?_
    refine wp_seq ?_
    refine g_start2 M (M.mask [true, true] rfl) 18 (by kernel_rfl) rfl (by kernel_rfl) ?_
    clear M; intro wc M
    refine g_q (T := T) (i := 0) rfl (by kernel_rfl) (by kernel_rfl : (pbits 18 0).setIfInBounds 0 true = pbits 18 1) si_U (fun _ _ _ h => h) rfl rfl rfl rfl (fun _ _ _ _ _ => (rn_move rfl (T.ev 2 rfl))) ?_; clear T ac; intro ac T
    refine g_q (T := T) (i := 1) rfl (by kernel_rfl) (by kernel_rfl : (pbits 18 1).setIfInBounds 1 true = pbits 18 3) si_U (fun _ _ _ h => h) rfl rfl rfl rfl (fun _ _ _ _ _ => (rn_move rfl (T.ev 1 rfl))) ?_; clear T ac; intro ac T
    refine g_q (v := (.bool false)) (T := T) (i := 2) rfl (by kernel_rfl) (by kernel_rfl : (pbits 18 3).setIfInBounds 2 true = pbits 18 7) si_U (fun _ _ _ h => h) rfl rfl rfl rfl (fun _ _ _ _ _ => (rn_neqof (rn_neq rfl (T.ev 1 rfl) (T.ev 0 rfl)) (by simp))) ?_; clear T ac; intro ac T
    refine g_q (T := T) (i := 3) rfl (by kernel_rfl) (by kernel_rfl : (pbits 18 7).setIfInBounds 3 true = pbits 18 15) si_U (fun _ _ _ h => h) rfl rfl rfl rfl (fun _ _ _ _ _ => (rn_move rfl (T.ev 0 rfl))) ?_; clear T ac; intro ac T
    refine g_q (v := (.slice Au16 ((shortL ju4).length) cu16)) (T := T.pick [0, 1, 2, 3, 4, 5, 6, 7, 8, 9, 10, 11, 12, 13, 14, 15, 16, 17, 18, 19, 21] rfl) (i := 4) rfl (by kernel_rfl) (by kernel_rfl : (pbits 18 15).setIfInBounds 4 true = pbits 18 31) si_U (fun _ _ _ h => h) (wanted_yes rfl rfl (T.ev 0 rfl) rfl) rfl rfl rfl (fun _ _ _ _ _ => (rn_move rfl (T.ev 7 rfl))) ?_; clear T ac; intro ac T
    refine g_q (v := (.slice Au17 ((shortL ju4).length) cu17)) (T := T.pick [0, 1, 2, 3, 4, 5, 6, 7, 8, 9, 10, 11, 12, 13, 14, 15, 16, 17, 18, 19, 21] rfl) (i := 5) rfl (by kernel_rfl) (by kernel_rfl : (pbits 18 31).setIfInBounds 5 true = pbits 18 63) si_U (fun _ _ _ h => h) (wanted_yes rfl rfl (T.ev 1 rfl) rfl) rfl rfl rfl (fun _ _ _ _ _ => (rn_move rfl (T.ev 6 rfl))) ?_; clear T ac; intro ac T
    refine g_w (i := 6) (by kernel_rfl) rfl (by kernel_rfl : (pbits 18 63).setIfInBounds 6 true = pbits 18 127) (wanted_yes rfl rfl (T.ev 2 rfl) rfl) ?_; intro K hK
    replace T := T.pick [0, 1, 2, 3, 4, 5, 6, 7, 8, 9, 10, 11, 12, 13, 14, 15, 16, 17, 18, 19, 21] rfl
    refine ow_call (first := []) (cap := []) T rfl rfl rfl rfl evf (.cons (T.ev 1 rfl) (.cons (T.ev 0 rfl) .nil)) Try.func21 rfl rfl ?_
    refine Calls.mono (sameInts_same _ _ _ _ _ _ (shortL ju4) _ (Su16.rd M (.cons _ (.cons _ (List.Sublist.trans (List.sublist_append_right _ _) (List.sublist_append_left _ _))))) (Su17.rd M (.cons _ (.cons _ (List.sublist_append_right _ _)))) (by have := short_len ju4; omega) (by have := short_len ju4; omega)) ?_
    clear T
    rintro e wc ⟨rfl, hb⟩
    intro ac T
    replace M := M.call hb; clear hb
    refine sh_out hK _ _ (M.mask [true, true] rfl) ?_; clear hK K
    refine g_addU M ?_
    refine g_q (v := (.bool false)) (T := T.pick [0, 1, 2, 3, 4, 5, 6, 7, 8, 9, 10, 11, 12, 13, 14, 15, 16, 17, 18, 19, 21] rfl) (i := 7) rfl (by kernel_rfl) (by kernel_rfl : (pbits 18 127).setIfInBounds 7 true = pbits 18 255) (si_and si_U si_U) (fun _ _ _ h => h) (wanted_yes rfl rfl (T.ev 3 rfl) rfl) rfl rfl rfl (fun _ _ _ _ _ => (rn_neqof (rn_not rfl (T.ev 0 rfl)) (by simp))) ?_; clear T ac; intro ac T
    refine g_q (T := T) (i := 8) rfl (by kernel_rfl) (by kernel_rfl : (pbits 18 255).setIfInBounds 8 true = pbits 18 511) (si_and si_U si_U) (fun _ _ _ h => h) rfl rfl rfl rfl (fun _ _ _ _ _ => (rn_pick0 rfl (T.ev 4 rfl) rfl (T.ev 0 rfl))) ?_; clear T ac; intro ac T
    refine g_q (T := T) (i := 9) rfl (by kernel_rfl) (by kernel_rfl : (pbits 18 511).setIfInBounds 9 true = pbits 18 1023) (si_and si_U si_U) (fun _ _ _ h => h) rfl rfl rfl rfl (fun _ _ _ _ _ => (rn_move rfl (T.ev 0 rfl))) ?_; clear T ac; intro ac T
    refine g_q (v := (.agg #[.int .i64 ju4.p0, .int .i64 ju4.p1, .int .i64 ju4.t0, .int .i64 ju4.t1, .int .i64 ju4.r0, .int .i64 ju4.r1, .int .i64 ju4.u0, .int .i64 ju4.u1, .int .i64 ju4.d0, .int .i64 ju4.d1, .int .i64 ju4.a0, .int .i64 ju4.a1, .int .i64 ju4.b0, .int .i64 ju4.b1, .int .i64 ju4.le, .slice Au15 ju4.sh.length cu15, .int .i64 ju4.wi, .int .i64 ju4.me])) (T := T.pick [0, 1, 2, 3, 4, 5, 6, 7, 8, 9, 10, 11, 12, 13, 14, 15, 16, 17, 18, 19, 20, 21, 23] rfl) (i := 10) rfl (by kernel_rfl) (by kernel_rfl : (pbits 18 1023).setIfInBounds 10 true = pbits 18 2047) (si_and si_U si_U) (fun _ _ _ h => h) (wanted_yes rfl rfl (T.ev 0 rfl) rfl) rfl rfl rfl (fun B w' hD hl hS => (rn_rowO (Mem.nth (show Mem w noEx w' _ from (MA.lft hS)) 0 rfl) rfl (T.ev 14 rfl) rfl)) ?_; clear T ac; intro ac T
    refine g_q (v := (.slice (some ⟨g2, 0, none⟩) 3 3)) (T := T.pick [0, 1, 2, 3, 4, 5, 6, 7, 8, 9, 10, 11, 12, 13, 14, 15, 16, 17, 18, 19, 20, 21, 23] rfl) (i := 11) rfl (by kernel_rfl) (by kernel_rfl : (pbits 18 2047).setIfInBounds 11 true = pbits 18 4095) (si_and si_U si_U) (fun _ _ _ h => h) (wanted_yes rfl rfl (T.ev 1 rfl) rfl) rfl rfl rfl (fun _ _ _ _ _ => (rn_move rfl (T.ev 23 rfl))) ?_; clear T ac; intro ac T
    refine g_q (v := (.int .i64 2)) (T := T.pick [0, 1, 2, 3, 4, 5, 6, 7, 8, 9, 10, 11, 12, 13, 14, 15, 16, 17, 18, 19, 20, 21, 23] rfl) (i := 12) rfl (by kernel_rfl) (by kernel_rfl : (pbits 18 4095).setIfInBounds 12 true = pbits 18 8191) (si_and si_U si_U) (fun _ _ _ h => h) (wanted_yes rfl rfl (T.ev 2 rfl) rfl) rfl rfl rfl (fun _ _ _ _ _ => (rn_move rfl (T.ev 17 rfl))) ?_; clear T ac; intro ac T
    refine g_q (v := (.pointer (some ⟨g2, 36, none⟩))) (T := T.pick [0, 1, 2, 3, 4, 5, 6, 7, 8, 9, 10, 11, 12, 13, 14, 15, 16, 17, 18, 19, 20, 21, 23] rfl) (i := 13) rfl (by kernel_rfl) (by kernel_rfl : (pbits 18 8191).setIfInBounds 13 true = pbits 18 16383) (si_and si_U si_U) (fun _ _ _ h => h) (wanted_yes rfl rfl (T.ev 3 rfl) rfl) rfl rfl rfl (fun _ _ _ _ _ => (rn_indexAddr (size := 18) 2 rfl (T.ev 1 rfl) (T.ev 0 rfl) ⟨_, Try.underlying36, by kernel_rfl⟩ rfl (by decide) rfl)) ?_; clear T ac; intro ac T
    refine g_q (v := (.agg #[.int .i64 ju4.p0, .int .i64 ju4.p1, .int .i64 ju4.t0, .int .i64 ju4.t1, .int .i64 ju4.r0, .int .i64 ju4.r1, .int .i64 ju4.u0, .int .i64 ju4.u1, .int .i64 ju4.d0, .int .i64 ju4.d1, .int .i64 ju4.a0, .int .i64 ju4.a1, .int .i64 ju4.b0, .int .i64 ju4.b1, .int .i64 ju4.le, .slice Au4 ju4.sh.length cu4, .int .i64 ju4.wi, .int .i64 ju4.me])) (T := T.pick [0, 1, 2, 3, 4, 5, 6, 7, 8, 9, 10, 11, 12, 13, 14, 15, 16, 17, 18, 19, 20, 21, 23] rfl) (i := 14) rfl (by kernel_rfl) (by kernel_rfl : (pbits 18 16383).setIfInBounds 14 true = pbits 18 32767) (si_and si_U si_U) (fun _ _ _ h => h) (wanted_yes rfl rfl (T.ev 4 rfl) rfl) rfl rfl rfl (fun B w' hD hl hS => (rn_rowO (Mem.nth (show Mem w noEx w' _ from (MA.lft hS)) 1 rfl) rfl (T.ev 0 rfl) rfl)) ?_; clear T ac; intro ac T
    refine g_w (i := 15) (by kernel_rfl) rfl (by kernel_rfl : (pbits 18 32767).setIfInBounds 15 true = pbits 18 65535) (wanted_yes rfl rfl (T.ev 5 rfl) rfl) ?_; intro K hK
    replace T := T.pick [0, 1, 2, 3, 4, 5, 6, 7, 8, 9, 10, 11, 12, 13, 14, 15, 16, 17, 18, 19, 20, 21, 23] rfl
    refine ow_call (first := []) (cap := []) T rfl rfl rfl rfl evf (.cons (T.ev 4 rfl) (.cons (T.ev 0 rfl) .nil)) Try.func22 rfl rfl ?_
    refine Calls.mono (sameJobs_same ju4 _ _ _ _ _ (Su15.rd M (.cons _ (.cons _ (List.Sublist.trans (List.Sublist.trans (List.sublist_append_right _ _) (List.sublist_append_left _ _)) (List.sublist_append_left _ _))))) (Su4.rd M (.cons _ (.cons _ (List.Sublist.trans (List.Sublist.trans (List.Sublist.trans (List.Sublist.trans (List.Sublist.trans (List.Sublist.trans (List.Sublist.trans (List.Sublist.trans (List.Sublist.trans (List.sublist_append_right _ _) (List.sublist_append_left _ _)) (List.sublist_append_left _ _)) (List.sublist_append_left _ _)) (List.sublist_append_left _ _)) (List.sublist_append_left _ _)) (List.sublist_append_left _ _)) (List.sublist_append_left _ _)) (List.sublist_append_left _ _)) (List.sublist_append_left _ _))))) (by omega)) ?_
    clear T
    rintro e wc ⟨rfl, hb⟩
    intro ac T
    replace M := M.call hb; clear hb
    refine sh_out hK _ _ (MA.mk (M.mask [true, true] rfl) (M.mask [true, true] rfl)) ?_; clear hK K
    refine g_q (v := (.bool false)) (T := T.pick [0, 1, 2, 3, 4, 5, 6, 7, 8, 9, 10, 11, 12, 13, 14, 15, 16, 17, 18, 19, 20, 21, 23] rfl) (i := 16) rfl (by kernel_rfl) (by kernel_rfl : (pbits 18 65535).setIfInBounds 16 true = pbits 18 131071) (si_and si_U si_U) (fun _ _ _ h => h) (wanted_yes rfl rfl (T.ev 6 rfl) rfl) rfl rfl rfl (fun _ _ _ _ _ => (rn_neqof (rn_not rfl (T.ev 0 rfl)) (by simp))) ?_; clear T ac; intro ac T
    refine g_q (T := T) (i := 17) rfl (by kernel_rfl) (by kernel_rfl : (pbits 18 131071).setIfInBounds 17 true = pbits 18 262143) (si_and si_U si_U) (fun _ _ _ h => h) rfl rfl rfl rfl (fun _ _ _ _ _ => (rn_pick0 rfl (T.ev 7 rfl) rfl (T.ev 0 rfl))) ?_; clear T ac; intro ac T
    refine g_done (by kernel_rfl) ?_
    replace T := T.pick [0, 1, 2, 3, 4, 5, 6, 7, 10, 11, 12, 13, 23, 24] rfl
    replace M := M.mask [false, true] rfl
    refine nm_then ?_
    refine wp_cond_false (T.ev 0 rfl) ?_
    refine wp_skip ?_
    refine nm_blk ?_
    refine nm_then ?_
    refine wp_region_lit ?_
    refine l_q T rfl rfl rfl rfl (rn_move rfl (T.ev 12 rfl)) ?_; clear T ac; intro ac T
    refine l_q (v := (.int .i64 3)) T rfl rfl rfl rfl (rn_ofI (rn_add rfl (T.ev 0 rfl) evc (by omega)) (by rfl)) ?_; clear T ac; intro ac T
    refine l_q (v := (.int .i64 3)) (T.pick [0, 1, 2, 3, 4, 5, 6, 7, 8, 9, 10, 11, 12, 13, 15] rfl) rfl rfl rfl rfl (rn_assign rfl (T.ev 0 rfl)) ?_; clear T ac; intro ac T
    refine wpList_nil ?_
    replace T := T.pick [0, 4, 5, 6, 7, 8, 9, 10, 11, 12, 13, 14, 15] rfl
    refine nm_then ?_
    refine rounds_S ?_
    refine wp_seq ?_
    refine wp_seq ?_
    refine wp_region_lit ?_
    refine l_q T rfl rfl rfl rfl (rn_move rfl (T.ev 0 rfl)) ?_; clear T ac; intro ac T
    refine l_q T rfl rfl rfl rfl (rn_move rfl (T.ev 13 rfl)) ?_; clear T ac; intro ac T
    refine l_q (v := (.int .i64 3)) T rfl rfl rfl rfl (rn_lenS rfl Try.underlying36 (T.ev 0 rfl)) ?_; clear T ac; intro ac T
    refine l_q (v := (.bool false)) T rfl rfl rfl rfl (rn_neqof (rn_lss rfl (T.ev 2 rfl) (T.ev 0 rfl)) (by simp)) ?_; clear T ac; intro ac T
    refine wpList_nil ?_
    replace T := T.pick [0, 4, 5, 6, 7, 8, 9, 10, 11, 12, 13, 14, 15, 16] rfl
    refine nm_then ?_
    refine wp_cond_false (T.ev 0 rfl) ?_
    refine wp_exit ?_
    refine ex_then ?_
    refine ex_then ?_
    refine ex_hit ?_
    refine nm_then ?_
    refine wp_seq ?_
    refine wp_region_lit ?_
    refine l_w rfl ?_; intro K hK
    refine ow_call (first := []) (cap := []) T rfl rfl rfl rfl evf .nil Try.func15 rfl rfl ?_
    refine Calls.mono (tuned_any _) ?_
    clear T
    rintro e wc ⟨rfl, hb⟩
    intro ac T
    replace M := M.call hb; clear hb
    refine sh_out hK _ _ ?_; clear hK K
    refine l_q T rfl rfl rfl rfl (rn_assign rfl (T.ev 0 rfl)) ?_; clear T ac; intro ac T
    refine wpList_nil ?_
    replace T := T.pick [0] rfl
    replace M := M.mask [false] rfl
    refine nm_then ?_
    refine wp_ret ?_
    refine rt_1 T rfl (T.ev 0 rfl) ?_
    exact ⟨rfl, M.below⟩

end Go.Proofs.Ythlpceoajhcliaa
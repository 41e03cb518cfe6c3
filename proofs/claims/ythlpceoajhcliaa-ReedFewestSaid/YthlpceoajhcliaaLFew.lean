/-
  The law ReedFewest, walked.
-/
import Derived.Test.YthlpceoajhcliaaK6
import Derived.Test.YthlpceoajhcliaaKPlans
namespace Go.Proofs.Ythlpceoajhcliaa
set_option linter.unusedSimpArgs false
set_option linter.unusedVariables false
open Go.RowKit

theorem find_no {j : Jb} {LL : List LE} {i : Nat} {x : LE} (hd : LL.drop i = x :: LL.drop (i + 1)) (h : isFine j x.1 = false) : ((LL.drop i).map (·.1)).find? (isFine j) = ((LL.drop (i + 1)).map (·.1)).find? (isFine j) := by
  rw [hd, List.map_cons, List.find?_cons_of_neg (by rw [h]; decide)]
theorem find_yes {j : Jb} {LL : List LE} {i : Nat} {x : LE} (hd : LL.drop i = x :: LL.drop (i + 1)) (h : isFine j x.1 = true) : ((LL.drop i).map (·.1)).find? (isFine j) = some x.1 := by
  rw [hd, List.map_cons, List.find?_cons_of_pos h]
theorem chkS_12 : ∀ (l : List Int), (∀ k ∈ l, k = 1 ∨ k = 2) → chkS l = 0
  | [], _ => rfl
  | k :: l, h => by
    have := chkS_12 l fun q hq => h q (List.mem_cons_of_mem _ hq)
    rcases h k List.mem_cons_self with rfl | rfl <;> simpa [chkS, okS] using this
theorem fineT_12 {j : Jb} (h : j.good) {l : List Int} (hl : l.length ≤ 6) (hk : ∀ k ∈ l, k = 1 ∨ k = 2) : (fineT j l).2 = 0 ∧ isFine j l = decide ((fineT j l).1 = 1) := by
  have e : checkStrokesJ j l = 0 := by
    unfold checkStrokesJ
    rw [if_neg (by rw [check_of_good h]; decide), if_neg (by omega)]
    exact chkS_12 l hk
  unfold fineT
  rw [if_pos e]
  exact ⟨rfl, rfl⟩
theorem short_len (j : Jb) : (shortL j).length ≤ 6 := by
  unfold shortL
  split
  · cases h : plansFrom j 7 0 with
    | none => simp
    | some l =>
      obtain ⟨n, r, _, h2, h3, rfl, _⟩ := plans_some _ _ h
      simp only [Option.getD_some, plan_length h3]; omega
  · simp


set_option maxRecDepth 100000 in
set_option maxHeartbeats 1000000 in
theorem ReedFewest_any (D : Option Addr) (n d : Nat) (l : List Int) (w : World) (hl : Rd w w.heap.size 1 D n (ic l)) (hm : n ≤ 9223372036854775807) :
    Calls Try.prog 6 #[.slice D n d] w fun e w' => e = .returned (.bool true) ∧ Below w.heap.size w w' := by
  have hll := hl.len1
  obtain ⟨bI, oI, SI⟩ := Sp.old hl
  refine px_enter noEx Try.func6 rfl 71 rfl [.slice D n d] rfl rfl (Mem.init w _) ?_
  intro ac wc T M
  refine wp_seq ?_
  refine wp_region_lit ?_
  refine l_q T rfl rfl rfl rfl (rn_assign rfl evc) ?_; clear T ac; intro ac T
  refine wpList_nil ?_
  replace T := T.pick [1] rfl
  refine nm_then ?_
  refine wp_seq ?_
  refine wp_region_lit ?_
  refine l_q T rfl rfl rfl rfl (rn_move rfl (T.ev 0 rfl)) ?_; clear T ac; intro ac T
  refine l_w rfl ?_; intro K hK
  refine ow_call (first := []) (cap := []) T rfl rfl rfl rfl evf (.cons (T.ev 0 rfl) .nil) Try.func16 rfl rfl ?_
  refine Calls.mono (newPot_any _ _ _ l _ (SI.rd M (List.nil_sublist _)) (by omega)) ?_
  clear T
  rintro e wc ⟨bpu1, su1, hsu1, rfl, N⟩
  intro ac T
  replace M := M.join N; clear N
  replace M := M.mask [true] rfl
  refine sh_out hK _ _ ?_; clear hK K
  refine l_q T rfl rfl rfl rfl (rn_assign rfl (T.ev 0 rfl)) ?_; clear T ac; intro ac T
  refine wpList_nil ?_
  replace T := T.pick [0] rfl
  refine nm_then ?_
  refine wp_seq ?_
  refine wp_region_lit ?_
  refine l_q T rfl rfl rfl rfl (rn_move rfl (T.ev 0 rfl)) ?_; clear T ac; intro ac T
  refine l_q T rfl rfl rfl rfl (rn_move rfl (T.ev 1 rfl)) ?_; clear T ac; intro ac T
  refine l_w rfl ?_; intro K hK
  refine ow_call (first := []) (cap := []) T rfl rfl rfl rfl evf (.cons (T.ev 0 rfl) (.cons evc .nil)) Try.func28 rfl rfl ?_
  refine Calls.mono (upto_any _ bpu1 1 _ (by omega) (by omega) (M.nth 0 rfl) hsu1) ?_
  clear T
  rintro e wc ⟨xu2, su2, hxu2, hsu2, rfl, hgr, hbk⟩
  intro ac T
  replace M := M.callC (cs' := [.int .u64 su2]) .head hgr hbk
  clear hgr hbk
  refine sh_out hK _ _ ?_; clear hK K
  refine l_w rfl ?_; intro K hK
  refine ow_call (first := []) (cap := []) T rfl rfl rfl rfl evf (.cons (T.ev 2 rfl) (.cons evc (.cons (T.ev 0 rfl) .nil))) Try.func17 rfl rfl ?_
  refine Calls.mono (jobOf_any _ bpu1 1 xu2 _ (by omega) (by omega) (by omega) (by omega) (M.nth 0 rfl) hsu2) ?_
  clear T
  rintro e wc ⟨ju3, Au3, cu3, su3, Iu3, rfl, hmu3, hsu3, hslu3, N⟩
  intro ac T
  obtain ⟨bu3, ou3, Su3⟩ := hslu3.sp (w := w) (ex := noEx) (rc_length _)
  replace M := (M.joinW .head N).swapI
  replace M := M.mask [true] rfl
  clear N hslu3
  have hgu3 := hmu3.good
  have hfewu3 := hgu3.few
  have hpu3 := hgu3.p
  have hmeu3 := hgu3.me
  refine sh_out hK _ _ ?_; clear hK K
  refine l_w rfl ?_; intro K hK
  refine ow_al M T rfl rfl rfl rfl ?_; clear M T; intro g1 wc ac M T
  refine sh_out hK _ _ ?_; clear hK K
  refine l_w rfl ?_; intro K hK
  refine ow_stO M T rfl rfl (T.ev 0 rfl) (T.ev 1 rfl) rfl .head rfl (by simp) rfl (by kernel_rfl) ?_; clear M T; intro wc ac M T
  refine sh_out hK _ _ ?_; clear hK K
  refine wpList_nil ?_
  replace T := T.pick [0] rfl
  replace M := M.mask [true, false] rfl
  refine nm_then ?_
  refine wp_seq ?_
  refine wp_region_lit ?_
  refine l_q T rfl rfl rfl rfl (rn_rowO (Mem.nth M 0 rfl) rfl (T.ev 0 rfl) rfl) ?_; clear T ac; intro ac T
  refine l_w rfl ?_; intro K hK
  refine ow_call (first := []) (cap := []) T rfl rfl rfl rfl evf (.cons (T.ev 0 rfl) .nil) Try.func19 rfl rfl ?_
  refine Calls.mono (Shortest_own ju3 _ _ _ (Su3.rd M (.cons _ (List.Sublist.refl _))) (by omega)) ?_
  clear T
  rintro e wc ⟨Au4, cu4, Iu4, rfl, hsnu4, N⟩
  intro ac T
  obtain ⟨bu4, ou4, Su4⟩ := hsnu4.sp (w := w) (ex := noEx) (by simp [ic_length])
  replace M := (M.join N).swapI
  replace M : Mem w noEx wc ((g1, .cells (jobL ju3 Au3 cu3)) :: (Iu3 ++ Iu4)) := M
  clear N hsnu4
  have hsl6 := short_len ju3
  have hcg := check_of_good hgu3
  refine sh_out hK _ _ ?_; clear hK K
  refine l_q T rfl rfl rfl rfl (rn_move rfl (T.ev 0 rfl)) ?_; clear T ac; intro ac T
  refine l_q T rfl rfl rfl rfl (rn_extract rfl (T.ev 0 rfl) rfl) ?_; clear T ac; intro ac T
  refine l_q T rfl rfl rfl rfl (rn_extract rfl (T.ev 1 rfl) rfl) ?_; clear T ac; intro ac T
  refine l_q T rfl rfl rfl rfl (rn_assign rfl (T.ev 1 rfl)) ?_; clear T ac; intro ac T
  refine l_q T rfl rfl rfl rfl (rn_assign rfl (T.ev 1 rfl)) ?_; clear T ac; intro ac T
  refine wpList_nil ?_
  replace T := T.pick [0, 1, 7] rfl
  refine nm_then ?_
  refine wp_seq ?_
  refine wp_seq ?_
  refine wp_region_lit ?_
  refine l_q T rfl rfl rfl rfl (rn_assign rfl evc) ?_; clear T ac; intro ac T
  refine wpList_nil ?_
  refine nm_then ?_
  refine wp_block ?_
  refine wp_loop_n (fun mz ac wc => ∃ (m : Nat), mz = 7 - m ∧ (m ≤ 7) ∧ (plansFrom ju3 (7 - m) m = plansFrom ju3 7 0) ∧ Tm ac 71 [(4, .pointer (some ⟨g1, 0, none⟩)), (5, .slice Au4 ((shortL ju3).length) cu4), (6, .int .i64 (shortE ju3)), (7, .int .i64 (m : Int))] ∧ Mem w noEx wc ((g1, .cells (jobL ju3 Au3 cu3)) :: (Iu3 ++ Iu4))) ?_ ?_
  · exact ⟨_, 0, rfl, (by omega), rfl, T.pick [3, 2, 1, 0] rfl, M.mask [true] rfl⟩
  · clear T M
    rintro mz ac wc ⟨m, hmm1, hm7, hH, T, M⟩
    refine wp_seq ?_
    refine wp_seq ?_
    refine wp_region_lit ?_
    refine l_q T rfl rfl rfl rfl (rn_move rfl (T.ev 3 rfl)) ?_; clear T ac; intro ac T
    refine l_q T rfl rfl rfl rfl (rn_leq rfl (T.ev 0 rfl) evc) ?_; clear T ac; intro ac T
    refine wpList_nil ?_
    replace T := T.pick [0, 2, 3, 4, 5] rfl
    refine nm_then ?_
    refine wp_if (T.ev 0 rfl) ?_ ?_
    · intro h1
      refine wp_skip ?_
      refine nm_then ?_
      refine wp_seq ?_
      refine wp_block ?_
      refine wp_seq ?_
      refine wp_region_lit ?_
      refine l_q T rfl rfl rfl rfl (rn_move rfl (T.ev 4 rfl)) ?_; clear T ac; intro ac T
      refine l_w rfl ?_; intro K hK
      refine ow_call (first := []) (cap := []) T rfl rfl rfl rfl evf (.cons (T.ev 0 rfl) .nil) Try.func29 rfl rfl ?_
      refine Calls.mono (plans_any m (by omega) _) ?_
      clear T
      rintro e wc ⟨Au5, cu5, LLu5, Iu5, rfl, hLu5, hSu5, hEu5, N⟩
      intro ac T
      obtain ⟨bu5, ou5, hSu5⟩ := hSu5
      have Su5 := hSu5 w noEx
      replace M := (M.join N).swapI
      replace M : Mem w noEx wc ((g1, .cells (jobL ju3 Au3 cu3)) :: (Iu3 ++ Iu4 ++ Iu5)) := M
      clear N
      have hmlu5 : LLu5.length ≤ 64 := by rw [← List.length_map (f := (·.1)), hLu5, lists_length]; exact Nat.pow_le_pow_right (by decide) (by omega : m ≤ 6)
      refine sh_out hK _ _ ?_; clear hK K
      refine l_q T rfl rfl rfl rfl (rn_assign rfl (T.ev 0 rfl)) ?_; clear T ac; intro ac T
      refine wpList_nil ?_
      replace T := T.pick [0, 4, 5, 6, 7] rfl
      refine nm_then ?_
      refine wp_seq ?_
      refine wp_region_lit ?_
      refine l_q T rfl rfl rfl rfl (rn_assign rfl evc) ?_; clear T ac; intro ac T
      refine wpList_nil ?_
      refine nm_then ?_
      refine wp_block ?_
      refine wp_loop_n (fun mz ac wc => ∃ (i : Nat), mz = LLu5.length - i ∧ (i ≤ LLu5.length) ∧ ((lists m).find? (isFine ju3) = ((LLu5.drop i).map (·.1)).find? (isFine ju3)) ∧ Tm ac 71 [(4, .pointer (some ⟨g1, 0, none⟩)), (5, .slice Au4 ((shortL ju3).length) cu4), (6, .int .i64 (shortE ju3)), (7, .int .i64 (m : Int)), (8, .slice Au5 LLu5.length cu5), (9, .int .i64 (i : Int))] ∧ Mem w noEx wc ((g1, .cells (jobL ju3 Au3 cu3)) :: (Iu3 ++ Iu4 ++ Iu5))) ?_ ?_
      · exact ⟨_, 0, rfl, (Nat.zero_le _), (by rw [List.drop_zero, hLu5]), T.pick [2, 3, 4, 5, 1, 0] rfl, M.mask [true] rfl⟩
      · clear T M
        rintro mz ac wc ⟨i, hmm2, hi, hF, T, M⟩
        refine wp_seq ?_
        refine wp_seq ?_
        refine wp_region_lit ?_
        refine l_q T rfl rfl rfl rfl (rn_move rfl (T.ev 5 rfl)) ?_; clear T ac; intro ac T
        refine l_q T rfl rfl rfl rfl (rn_move rfl (T.ev 5 rfl)) ?_; clear T ac; intro ac T
        refine l_q T rfl rfl rfl rfl (rn_lenS rfl Try.underlying51 (T.ev 0 rfl)) ?_; clear T ac; intro ac T
        refine l_q T rfl rfl rfl rfl (rn_lss rfl (T.ev 2 rfl) (T.ev 0 rfl)) ?_; clear T ac; intro ac T
        refine wpList_nil ?_
        replace T := T.pick [0, 4, 5, 6, 7, 8, 9] rfl
        refine nm_then ?_
        refine wp_if (T.ev 0 rfl) ?_ ?_
        · intro h2
          obtain ⟨⟨lv, Av, cv⟩, hkv⟩ : ∃ x, LLu5[i]? = some x := ⟨_, List.getElem?_eq_getElem (by omega)⟩
          obtain ⟨bv, ov, Svv⟩ := hEu5 _ (List.mem_of_getElem? hkv)
          have Sv : Sp w noEx Iu5 Av lv.length 1 bv ov (ic lv) := Svv w noEx
          obtain ⟨hlv, hlk⟩ := lists_mem m lv (by rw [← hLu5]; exact List.mem_map.2 ⟨_, List.mem_of_getElem? hkv, rfl⟩)
          obtain ⟨hf2, hf1⟩ := fineT_12 hgu3 (l := lv) (by omega) hlk
          have hd : LLu5.drop i = (lv, Av, cv) :: LLu5.drop (i + 1) := by rw [List.drop_eq_getElem_cons (by omega)]; congr 1; exact (List.getElem?_eq_some_iff.1 hkv).2
          refine wp_skip ?_
          refine nm_then ?_
          refine wp_seq ?_
          refine wp_block ?_
          refine wp_seq ?_
          refine g_start2 M (M.mask [true] rfl) 11 (by kernel_rfl) rfl (by kernel_rfl) ?_
          clear M; intro wc M
          refine g_q (T := T) (i := 0) rfl (by kernel_rfl) (by kernel_rfl : (pbits 11 0).setIfInBounds 0 true = pbits 11 1) si_U (fun _ _ _ h => h) rfl rfl rfl rfl (fun B w' hD hl hS => (rn_rowO (Mem.nth (show Mem w noEx w' _ from hS) 0 rfl) rfl (T.ev 1 rfl) rfl)) ?_; clear T ac; intro ac T
          refine g_q (T := T) (i := 1) rfl (by kernel_rfl) (by kernel_rfl : (pbits 11 1).setIfInBounds 1 true = pbits 11 3) si_U (fun _ _ _ h => h) rfl rfl rfl rfl (fun _ _ _ _ _ => (rn_move rfl (T.ev 6 rfl))) ?_; clear T ac; intro ac T
          refine g_q (T := T) (i := 2) rfl (by kernel_rfl) (by kernel_rfl : (pbits 11 3).setIfInBounds 2 true = pbits 11 7) si_U (fun _ _ _ h => h) rfl rfl rfl rfl (fun _ _ _ _ _ => (rn_move rfl (T.ev 8 rfl))) ?_; clear T ac; intro ac T
          refine g_q (T := T) (i := 3) rfl (by kernel_rfl) (by kernel_rfl : (pbits 11 7).setIfInBounds 3 true = pbits 11 15) si_U (fun _ _ _ h => h) rfl rfl rfl rfl (fun _ _ _ _ _ => (rn_indexAddr (size := 1) i rfl (T.ev 1 rfl) (T.ev 0 rfl) ⟨_, Try.underlying51, by kernel_rfl⟩ rfl (by omega) (Su5.at0 (by omega)))) ?_; clear T ac; intro ac T
          refine g_q (v := (.slice Av lv.length cv)) (T := T) (i := 4) rfl (by kernel_rfl) (by kernel_rfl : (pbits 11 15).setIfInBounds 4 true = pbits 11 31) si_U (fun _ _ _ h => h) rfl rfl rfl rfl (fun B w' hD hl hS => (rn_cell (Sp.lc0 Su5 (show Mem w noEx w' _ from hS) (.cons _ (List.sublist_append_right _ _)) hkv) rfl (T.ev 0 rfl))) ?_; clear T ac; intro ac T
          refine g_w (i := 5) (by kernel_rfl) rfl (by kernel_rfl : (pbits 11 31).setIfInBounds 5 true = pbits 11 63) rfl ?_; intro K hK
          refine ow_call (first := []) (cap := []) T rfl rfl rfl rfl evf (.cons (T.ev 4 rfl) (.cons (T.ev 0 rfl) .nil)) Try.func30 rfl rfl ?_
          refine Calls.mono (Fine_any ju3 _ _ _ _ _ lv _ (Su3.rd M (.cons _ (List.Sublist.trans (List.Sublist.trans (List.Sublist.refl _) (List.sublist_append_left _ _)) (List.sublist_append_left _ _)))) (by first | omega | (simp only [List.length_cons, List.length_nil, List.length_set]; omega)) (Sv.rd M (.cons _ (List.sublist_append_right _ _))) (by first | omega | (simp only [List.length_cons, List.length_nil, List.length_set]; omega))) ?_
          clear T
          rintro e wc ⟨rfl, hb⟩
          intro ac T
          replace M := M.call hb; clear hb
          refine sh_out hK _ _ (M.mask [true] rfl) ?_; clear hK K
          refine g_q (T := T) (i := 6) rfl (by kernel_rfl) (by kernel_rfl : (pbits 11 63).setIfInBounds 6 true = pbits 11 127) si_U (fun _ _ _ h => h) rfl rfl rfl rfl (fun _ _ _ _ _ => (rn_move rfl (T.ev 0 rfl))) ?_; clear T ac; intro ac T
          refine g_q (T := T) (i := 7) rfl (by kernel_rfl) (by kernel_rfl : (pbits 11 127).setIfInBounds 7 true = pbits 11 255) si_U (fun _ _ _ h => h) rfl rfl rfl rfl (fun _ _ _ _ _ => (rn_extract rfl (T.ev 0 rfl) rfl)) ?_; clear T ac; intro ac T
          refine g_q (T := T) (i := 8) rfl (by kernel_rfl) (by kernel_rfl : (pbits 11 255).setIfInBounds 8 true = pbits 11 511) si_U (fun _ _ _ h => h) rfl rfl rfl rfl (fun _ _ _ _ _ => (rn_extract rfl (T.ev 1 rfl) rfl)) ?_; clear T ac; intro ac T
          refine g_q (T := T) (i := 9) rfl (by kernel_rfl) (by kernel_rfl : (pbits 11 511).setIfInBounds 9 true = pbits 11 1023) si_U (fun _ _ _ h => h) rfl rfl rfl rfl (fun _ _ _ _ _ => (rn_assign rfl (T.ev 1 rfl))) ?_; clear T ac; intro ac T
          refine g_q (T := T) (i := 10) rfl (by kernel_rfl) (by kernel_rfl : (pbits 11 1023).setIfInBounds 10 true = pbits 11 2047) si_U (fun _ _ _ h => h) rfl rfl rfl rfl (fun _ _ _ _ _ => (rn_assign rfl (T.ev 1 rfl))) ?_; clear T ac; intro ac T
          refine g_done (by kernel_rfl) ?_
          replace T := T.pick [0, 1, 12, 13, 14, 15, 16, 17] rfl
          refine nm_then ?_
          refine wp_seq ?_
          refine wp_seq ?_
          refine wp_region_lit ?_
          refine l_q T rfl rfl rfl rfl (rn_move rfl (T.ev 0 rfl)) ?_; clear T ac; intro ac T
          refine l_q T rfl rfl rfl rfl (rn_neq rfl (T.ev 0 rfl) evc) ?_; clear T ac; intro ac T
          refine wpList_nil ?_
          replace T := T.pick [0, 3, 4, 5, 6, 7, 8, 9] rfl
          refine nm_then ?_
          refine wp_ifn (T.ev 0 rfl) ?_ ?_
          · intro h3
            refine wp_seq ?_
            refine wp_region_lit ?_
            refine l_q T rfl rfl rfl rfl (rn_assign rfl evc) ?_; clear T ac; intro ac T
            refine wpList_nil ?_
            replace T := T.pick [0] rfl
            replace M := M.mask [false] rfl
            refine nm_then ?_
            refine wp_ret ?_
            refine rt_then ?_
            refine rt_blk ?_
            refine rt_then ?_
            refine rt_then ?_
            refine rt_blk ?_
            refine rt_blk ?_
            refine rt_then ?_
            refine rt_then ?_
            refine rt_blk ?_
            refine rt_then ?_
            refine rt_1 T rfl (T.ev 0 rfl) ?_
            exact absurd hf2 h3
          · intro h3
            refine wp_skip ?_
            refine nm_then ?_
            refine wp_seq ?_
            refine wp_region_lit ?_
            refine l_q T rfl rfl rfl rfl (rn_move rfl (T.ev 1 rfl)) ?_; clear T ac; intro ac T
            refine l_q T rfl rfl rfl rfl (rn_eql rfl (T.ev 0 rfl) evc) ?_; clear T ac; intro ac T
            refine wpList_nil ?_
            replace T := T.pick [0, 4, 5, 6, 7, 8, 9] rfl
            refine nm_then ?_
            refine wp_if (T.ev 0 rfl) ?_ ?_
            · intro h4
              refine cut_seq (fun ac wc => Tm ac 71 [(2, .bool ((decide ((shortE ju3) = 0)) && (decide ((shortL ju3) = lv))))] ∧ Mem w noEx wc ((Iu3 ++ Iu4 ++ Iu5))) ?_ ?_
              · refine wp_region_lit ?_
                refine l_q T rfl rfl rfl rfl (rn_move rfl (T.ev 3 rfl)) ?_; clear T ac; intro ac T
                refine l_q T rfl rfl rfl rfl (rn_eql rfl (T.ev 0 rfl) evc) ?_; clear T ac; intro ac T
                refine l_q T rfl rfl rfl rfl (rn_move rfl (T.ev 0 rfl)) ?_; clear T ac; intro ac T
                rcases Bool.eq_false_or_eq_true (decide ((shortE ju3) = 0)) with h5 | h5
                · replace h5 := of_decide_eq_true h5
                  refine l_q T (wanted_yes rfl rfl (T.ev 0 rfl) (decide_eq_true h5)) rfl rfl rfl (rn_move rfl (T.ev 5 rfl)) ?_; clear T ac; intro ac T
                  refine l_q T (wanted_yes rfl rfl (T.ev 1 rfl) (decide_eq_true h5)) rfl rfl rfl (rn_move rfl (T.ev 9 rfl)) ?_; clear T ac; intro ac T
                  refine l_q T (wanted_yes rfl rfl (T.ev 2 rfl) (decide_eq_true h5)) rfl rfl rfl (rn_move rfl (T.ev 11 rfl)) ?_; clear T ac; intro ac T
                  refine l_q T (wanted_yes rfl rfl (T.ev 3 rfl) (decide_eq_true h5)) rfl rfl rfl (rn_indexAddr (size := 1) i rfl (T.ev 1 rfl) (T.ev 0 rfl) ⟨_, Try.underlying51, by kernel_rfl⟩ rfl (by omega) (Su5.at0 (by omega))) ?_; clear T ac; intro ac T
                  refine l_q (v := (.slice Av lv.length cv)) T (wanted_yes rfl rfl (T.ev 4 rfl) (decide_eq_true h5)) rfl rfl rfl (rn_cell (Sp.lc0 Su5 M (.cons _ (List.sublist_append_right _ _)) hkv) rfl (T.ev 0 rfl)) ?_; clear T ac; intro ac T
                  refine l_w (wanted_yes rfl rfl (T.ev 5 rfl) (decide_eq_true h5)) ?_; intro K hK
                  refine ow_call (first := []) (cap := []) T rfl rfl rfl rfl evf (.cons (T.ev 4 rfl) (.cons (T.ev 0 rfl) .nil)) Try.func21 rfl rfl ?_
                  refine Calls.mono (sameInts_any _ _ _ _ _ _ (shortL ju3) lv _ (Su4.rd M (.cons _ (List.Sublist.trans (List.sublist_append_right _ _) (List.sublist_append_left _ _)))) (Sv.rd M (.cons _ (List.sublist_append_right _ _))) (by omega) (by omega)) ?_
                  clear T
                  rintro e wc ⟨rfl, hb⟩
                  intro ac T
                  replace M := M.call hb; clear hb
                  refine sh_out hK _ _ ?_; clear hK K
                  refine l_q T rfl rfl rfl rfl (rn_pick1 rfl (T.ev 6 rfl) (decide_eq_true h5) (T.ev 0 rfl)) ?_; clear T ac; intro ac T
                  refine l_q T rfl rfl rfl rfl (rn_move rfl (T.ev 0 rfl)) ?_; clear T ac; intro ac T
                  rcases Bool.eq_false_or_eq_true (decide ((shortL ju3) = lv)) with h6 | h6
                  · replace h6 := of_decide_eq_true h6
                    refine l_w (wanted_yes rfl rfl (T.ev 0 rfl) (decide_eq_true h6)) ?_; intro K hK
                    refine ow_call (first := []) (cap := []) T rfl rfl rfl rfl evf .nil Try.func15 rfl rfl ?_
                    refine Calls.mono (tuned_any _) ?_
                    clear T
                    rintro e wc ⟨rfl, hb⟩
                    intro ac T
                    replace M := M.call hb; clear hb
                    refine sh_out hK _ _ ?_; clear hK K
                    refine l_q T rfl rfl rfl rfl (rn_pick1 rfl (T.ev 1 rfl) (decide_eq_true h6) (T.ev 0 rfl)) ?_; clear T ac; intro ac T
                    refine l_q T rfl rfl rfl rfl (rn_assign rfl (T.ev 0 rfl)) ?_; clear T ac; intro ac T
                    refine wpList_nil ?_
                    replace T := T.pick [0] rfl
                    replace M := M.mask [false] rfl
                    exact ⟨(T.pick (E' := [(2, .bool true)]) [0] rfl).as (by (try rw [show (decide ((shortE ju3) = 0)) = true from (decide_eq_true h5)]); (try rw [show (decide ((shortL ju3) = lv)) = true from (decide_eq_true h6)]); rfl), M.mask [] rfl⟩
                  · replace h6 := of_decide_eq_false h6
                    refine l_pass T (wanted_no rfl rfl (T.ev 0 rfl) (decide_eq_false h6)) rfl rfl rfl ?_; clear T ac; intro ac T
                    refine l_q T rfl rfl rfl rfl (rn_pick0 rfl (T.ev 1 rfl) (decide_eq_false h6) evc) ?_; clear T ac; intro ac T
                    refine l_q T rfl rfl rfl rfl (rn_assign rfl (T.ev 0 rfl)) ?_; clear T ac; intro ac T
                    refine wpList_nil ?_
                    replace T := T.pick [0] rfl
                    replace M := M.mask [false] rfl
                    exact ⟨(T.pick (E' := [(2, .bool false)]) [0] rfl).as (by (try rw [show (decide ((shortE ju3) = 0)) = true from (decide_eq_true h5)]); (try rw [show (decide ((shortL ju3) = lv)) = false from (decide_eq_false h6)]); rfl), M.mask [] rfl⟩
                · replace h5 := of_decide_eq_false h5
                  refine l_pass T (wanted_no rfl rfl (T.ev 0 rfl) (decide_eq_false h5)) rfl rfl rfl ?_; clear T ac; intro ac T
                  refine l_pass T (wanted_no rfl rfl (T.ev 1 rfl) (decide_eq_false h5)) rfl rfl rfl ?_; clear T ac; intro ac T
                  refine l_pass T (wanted_no rfl rfl (T.ev 2 rfl) (decide_eq_false h5)) rfl rfl rfl ?_; clear T ac; intro ac T
                  refine l_pass T (wanted_no rfl rfl (T.ev 3 rfl) (decide_eq_false h5)) rfl rfl rfl ?_; clear T ac; intro ac T
                  refine l_pass T (wanted_no rfl rfl (T.ev 4 rfl) (decide_eq_false h5)) rfl rfl rfl ?_; clear T ac; intro ac T
                  refine l_pass T (wanted_no rfl rfl (T.ev 5 rfl) (decide_eq_false h5)) rfl rfl rfl ?_; clear T ac; intro ac T
                  refine l_q T rfl rfl rfl rfl (rn_pick0 rfl (T.ev 6 rfl) (decide_eq_false h5) evc) ?_; clear T ac; intro ac T
                  refine l_q T rfl rfl rfl rfl (rn_move rfl (T.ev 0 rfl)) ?_; clear T ac; intro ac T
                  refine l_pass T (wanted_no rfl rfl (T.ev 0 rfl) rfl) rfl rfl rfl ?_; clear T ac; intro ac T
                  refine l_q T rfl rfl rfl rfl (rn_pick0 rfl (T.ev 1 rfl) rfl evc) ?_; clear T ac; intro ac T
                  refine l_q T rfl rfl rfl rfl (rn_assign rfl (T.ev 0 rfl)) ?_; clear T ac; intro ac T
                  refine wpList_nil ?_
                  replace T := T.pick [0] rfl
                  replace M := M.mask [false] rfl
                  exact ⟨(T.pick (E' := [(2, .bool false)]) [0] rfl).as (by (try rw [show (decide ((shortE ju3) = 0)) = false from (decide_eq_false h5)]); rfl), M.mask [] rfl⟩
              · clear T M
                rintro ac wc ⟨T, M⟩
                refine wp_ret ?_
                refine rt_blk ?_
                refine rt_then ?_
                refine rt_then ?_
                refine rt_blk ?_
                refine rt_blk ?_
                refine rt_then ?_
                refine rt_then ?_
                refine rt_blk ?_
                refine rt_then ?_
                refine rt_1 T rfl (T.ev 0 rfl) ?_
                rw [find_yes hd (by rw [hf1]; exact decide_eq_true h4), ← roots_find] at hF
                rw [plans_hit (by omega) hF] at hH
                have e1 : shortL ju3 = lv := by unfold shortL; rw [if_pos hcg, ← hH]; rfl
                have e2 : shortE ju3 = 0 := by unfold shortE; rw [if_pos hcg, ← hH]; rfl
                refine ⟨ret_bool ?_, M.below⟩
                simp [e1, e2]
            · intro h4
              refine wp_skip ?_
              refine nm_blk ?_
              refine nm_then ?_
              refine wp_region_lit ?_
              refine l_q T rfl rfl rfl rfl (rn_move rfl (T.ev 6 rfl)) ?_; clear T ac; intro ac T
              refine l_q T rfl rfl rfl rfl (rn_add rfl (T.ev 0 rfl) evc (by omega)) ?_; clear T ac; intro ac T
              refine l_q (v := (.int .i64 ((i : Int) + 1))) (T.pick [0, 1, 2, 3, 4, 5, 6, 7] rfl) rfl rfl rfl rfl (rn_assign rfl (T.ev 0 rfl)) ?_; clear T ac; intro ac T
              refine wpList_nil ?_
              replace T := T.pick [0, 4, 5, 6, 7, 8] rfl
              refine nm_then ?_
              exact ⟨_, by omega, i + 1, rfl, (by omega), (by rw [hF]; exact find_no hd (by rw [hf1]; exact decide_eq_false h4)), T.pick [1, 2, 3, 4, 5, 0] rfl, M.mask [true] rfl⟩
        · intro h2
          rw [List.drop_of_length_le (by omega)] at hF
          have hroots : rootsFrom ju3 m (m + 1) 0 = none := by rw [roots_find]; exact hF
          refine wp_exit ?_
          refine ex_then ?_
          refine ex_then ?_
          refine ex_hit ?_
          refine nm_blk ?_
          refine nm_then ?_
          refine wp_region_lit ?_
          refine l_q T rfl rfl rfl rfl (rn_move rfl (T.ev 4 rfl)) ?_; clear T ac; intro ac T
          refine l_q T rfl rfl rfl rfl (rn_add rfl (T.ev 0 rfl) evc (by omega)) ?_; clear T ac; intro ac T
          refine l_q (v := (.int .i64 ((m : Int) + 1))) (T.pick [0, 1, 2, 3, 4, 5, 7, 8] rfl) rfl rfl rfl rfl (rn_assign rfl (T.ev 0 rfl)) ?_; clear T ac; intro ac T
          refine wpList_nil ?_
          replace T := T.pick [0, 4, 5, 6] rfl
          refine nm_then ?_
          exact ⟨_, by omega, m + 1, rfl, (by omega), (by rw [← plans_miss (by omega) hroots]; exact hH), T.pick [1, 2, 3, 0] rfl, (M.mask [true] rfl).sub (List.Sublist.cons_cons _ (List.sublist_append_left _ _))⟩
    · intro h1
      refine wp_exit ?_
      refine ex_then ?_
      refine ex_then ?_
      refine ex_hit ?_
      refine nm_then ?_
      refine cut_seq (fun ac wc => Tm ac 71 [(2, .bool ((decide ((shortE ju3) = 11)) && (decide ((((shortL ju3).length : Nat) : Int) = 0))))] ∧ Mem w noEx wc ((Iu3 ++ Iu4))) ?_ ?_
      · refine wp_region_lit ?_
        refine l_q T rfl rfl rfl rfl (rn_move rfl (T.ev 3 rfl)) ?_; clear T ac; intro ac T
        refine l_q T rfl rfl rfl rfl (rn_eql rfl (T.ev 0 rfl) evc) ?_; clear T ac; intro ac T
        refine l_q T rfl rfl rfl rfl (rn_move rfl (T.ev 0 rfl)) ?_; clear T ac; intro ac T
        rcases Bool.eq_false_or_eq_true (decide ((shortE ju3) = 11)) with h7 | h7
        · replace h7 := of_decide_eq_true h7
          refine l_q T (wanted_yes rfl rfl (T.ev 0 rfl) (decide_eq_true h7)) rfl rfl rfl (rn_move rfl (T.ev 5 rfl)) ?_; clear T ac; intro ac T
          refine l_q T (wanted_yes rfl rfl (T.ev 1 rfl) (decide_eq_true h7)) rfl rfl rfl (rn_lenS rfl Try.underlying31 (T.ev 0 rfl)) ?_; clear T ac; intro ac T
          refine l_q T (wanted_yes rfl rfl (T.ev 2 rfl) (decide_eq_true h7)) rfl rfl rfl (rn_eql rfl (T.ev 0 rfl) evc) ?_; clear T ac; intro ac T
          refine l_q T rfl rfl rfl rfl (rn_pick1 rfl (T.ev 3 rfl) (decide_eq_true h7) (T.ev 0 rfl)) ?_; clear T ac; intro ac T
          refine l_q T rfl rfl rfl rfl (rn_move rfl (T.ev 0 rfl)) ?_; clear T ac; intro ac T
          rcases Bool.eq_false_or_eq_true (decide ((((shortL ju3).length : Nat) : Int) = 0)) with h8 | h8
          · replace h8 := of_decide_eq_true h8
            refine l_w (wanted_yes rfl rfl (T.ev 0 rfl) (decide_eq_true h8)) ?_; intro K hK
            refine ow_call (first := []) (cap := []) T rfl rfl rfl rfl evf .nil Try.func15 rfl rfl ?_
            refine Calls.mono (tuned_any _) ?_
            clear T
            rintro e wc ⟨rfl, hb⟩
            intro ac T
            replace M := M.call hb; clear hb
            refine sh_out hK _ _ ?_; clear hK K
            refine l_q T rfl rfl rfl rfl (rn_pick1 rfl (T.ev 1 rfl) (decide_eq_true h8) (T.ev 0 rfl)) ?_; clear T ac; intro ac T
            refine l_q T rfl rfl rfl rfl (rn_assign rfl (T.ev 0 rfl)) ?_; clear T ac; intro ac T
            refine wpList_nil ?_
            replace T := T.pick [0] rfl
            replace M := M.mask [false] rfl
            exact ⟨(T.pick (E' := [(2, .bool true)]) [0] rfl).as (by (try rw [show (decide ((shortE ju3) = 11)) = true from (decide_eq_true h7)]); (try rw [show (decide ((((shortL ju3).length : Nat) : Int) = 0)) = true from (decide_eq_true h8)]); rfl), M.mask [] rfl⟩
          · replace h8 := of_decide_eq_false h8
            refine l_pass T (wanted_no rfl rfl (T.ev 0 rfl) (decide_eq_false h8)) rfl rfl rfl ?_; clear T ac; intro ac T
            refine l_q T rfl rfl rfl rfl (rn_pick0 rfl (T.ev 1 rfl) (decide_eq_false h8) evc) ?_; clear T ac; intro ac T
            refine l_q T rfl rfl rfl rfl (rn_assign rfl (T.ev 0 rfl)) ?_; clear T ac; intro ac T
            refine wpList_nil ?_
            replace T := T.pick [0] rfl
            replace M := M.mask [false] rfl
            exact ⟨(T.pick (E' := [(2, .bool false)]) [0] rfl).as (by (try rw [show (decide ((shortE ju3) = 11)) = true from (decide_eq_true h7)]); (try rw [show (decide ((((shortL ju3).length : Nat) : Int) = 0)) = false from (decide_eq_false h8)]); rfl), M.mask [] rfl⟩
        · replace h7 := of_decide_eq_false h7
          refine l_pass T (wanted_no rfl rfl (T.ev 0 rfl) (decide_eq_false h7)) rfl rfl rfl ?_; clear T ac; intro ac T
          refine l_pass T (wanted_no rfl rfl (T.ev 1 rfl) (decide_eq_false h7)) rfl rfl rfl ?_; clear T ac; intro ac T
          refine l_pass T (wanted_no rfl rfl (T.ev 2 rfl) (decide_eq_false h7)) rfl rfl rfl ?_; clear T ac; intro ac T
          refine l_q T rfl rfl rfl rfl (rn_pick0 rfl (T.ev 3 rfl) (decide_eq_false h7) evc) ?_; clear T ac; intro ac T
          refine l_q T rfl rfl rfl rfl (rn_move rfl (T.ev 0 rfl)) ?_; clear T ac; intro ac T
          refine l_pass T (wanted_no rfl rfl (T.ev 0 rfl) rfl) rfl rfl rfl ?_; clear T ac; intro ac T
          refine l_q T rfl rfl rfl rfl (rn_pick0 rfl (T.ev 1 rfl) rfl evc) ?_; clear T ac; intro ac T
          refine l_q T rfl rfl rfl rfl (rn_assign rfl (T.ev 0 rfl)) ?_; clear T ac; intro ac T
          refine wpList_nil ?_
          replace T := T.pick [0] rfl
          replace M := M.mask [false] rfl
          exact ⟨(T.pick (E' := [(2, .bool false)]) [0] rfl).as (by (try rw [show (decide ((shortE ju3) = 11)) = false from (decide_eq_false h7)]); rfl), M.mask [] rfl⟩
      · clear T M
        rintro ac wc ⟨T, M⟩
        refine wp_ret ?_
        refine rt_1 T rfl (T.ev 0 rfl) ?_
        rw [plans_end (by omega)] at hH
        have e1 : shortL ju3 = [] := by unfold shortL; rw [if_pos hcg, ← hH]; rfl
        have e2 : shortE ju3 = 11 := by unfold shortE; rw [if_pos hcg, ← hH]; rfl
        refine ⟨ret_bool ?_, M.below⟩
        simp [e1, e2]

end Go.Proofs.Ythlpceoajhcliaa
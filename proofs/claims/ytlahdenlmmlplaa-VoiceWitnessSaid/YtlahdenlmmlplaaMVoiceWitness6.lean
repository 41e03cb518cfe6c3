/-
  law05: VoiceWitness, walked.
-/
import Derived.Test.YtlahdenlmmlplaaMVoiceWitness1
import Derived.Test.YtlahdenlmmlplaaMVoiceWitness2
import Derived.Test.YtlahdenlmmlplaaMVoiceWitness3
import Derived.Test.YtlahdenlmmlplaaMVoiceWitness4
import Derived.Test.YtlahdenlmmlplaaMVoiceWitness5
namespace Go.Proofs.Ytlahdenlmmlplaa
set_option linter.unusedSimpArgs false
set_option linter.unusedVariables false
open Go.RowKit

theorem Short_good (b : Bx) (A : Option Addr) (c : Nat) (B : Option Addr) (d : Nat) (w : World) (hA : Rd w w.heap.size 4 A b.lows.length (sc b.lows)) (hB : Rd w w.heap.size 4 B b.highs.length (sc b.highs)) (gb : b.good) :
    Calls Try.prog 28 #[bxV b A c B d] w fun e w' => ∃ A' c' I, e = .returned (.tuple #[.slice A' (shortE b).1.length c', .int .i64 (shortE b).2]) ∧ (∃ b1 o1, ∀ (w : World) (ex : Nat → Prop), Sp w ex I A' (shortE b).1.length 1 b1 o1 (ic (shortE b).1)) ∧ Mem w noEx w' I := by
  have h4 := gb.lows.1
  have h5 := gb.highs.1
  refine Calls.mono (Short_any b A c B d w hA hB (by omega) (by omega)) fun e w' h => ?_
  obtain ⟨A', c', I, rfl, _, h2, h3⟩ := h
  exact ⟨A', c', I, rfl, h2, h3⟩
theorem shortE_len (b : Bx) (gb : b.good) : (shortE b).1.length ≤ 5 := by
  by_cases h : pairsP (mostL b okA) = b.lows.length
  · rw [short_none gb h]; simp
  · obtain ⟨t, e, hw⟩ := wit_short gb h
    rw [e]
    have := asc_len _ t hw.asc hw.lt
    have := gb.lows.1
    simp
    omega
/-- What holds of Short's list where not all have one. -/
theorem wit_at {b : Bx} {t : List Nat} {sh : List Int} (hw : Wit b t) (hs : sh = t.map fun i : Nat => (i : Int)) {i : Nat} {x : Int} (h : sh[i]? = some x) : ∃ xi : Nat, x = (xi : Int) ∧ t[i]? = some xi ∧ xi < b.lows.length := by
  subst hs
  rw [List.getElem?_map] at h
  cases ht : t[i]? with
  | none => rw [ht] at h; cases h
  | some xi =>
    rw [ht] at h
    injection h with h
    exact ⟨xi, h.symm, rfl, hw.lt xi (List.mem_of_getElem? ht)⟩
theorem wit_lt {b : Bx} {t : List Nat} (hw : Wit b t) {i j xi xj : Nat} (hi : t[i]? = some xi) (hj : t[j]? = some xj) (h : i < j) : xi < xj := by
  have h1 := (List.getElem?_eq_some_iff.1 hi).1
  have h2 := (List.getElem?_eq_some_iff.1 hj).1
  rw [List.getElem?_eq_getElem h1] at hi
  rw [List.getElem?_eq_getElem h2] at hj
  injection hi with hi
  injection hj with hj
  rw [← hi, ← hj]
  exact List.pairwise_iff_getElem.1 hw.asc i j h1 h2 h
theorem wit_prev {b : Bx} {t : List Nat} {sh : List Int} (hw : Wit b t) (hs : sh = t.map fun i : Nat => (i : Int)) {i : Nat} {x : Int} (h : sh[i]? = some x) : ∃ (ip : Nat) (xp : Int), 0 < (i : Int) → (i : Int) - 1 = (ip : Int) ∧ sh[ip]? = some xp ∧ xp < x := by
  by_cases h0 : 0 < i
  · have h1 := (List.getElem?_eq_some_iff.1 h).1
    have e : sh[i - 1]? = some sh[i - 1] := List.getElem?_eq_getElem (by omega)
    refine ⟨i - 1, sh[i - 1], fun _ => ⟨by omega, e, ?_⟩⟩
    obtain ⟨a, ha, ta, _⟩ := wit_at hw hs h
    obtain ⟨c, hc, tc, _⟩ := wit_at hw hs e
    have := wit_lt hw tc ta (by omega)
    omega
  · exact ⟨0, 0, fun h => absurd h (by omega)⟩
theorem tab_is {LL : List LE} {T : List (List Int)} (hL : LL.map (·.1) = T) {xi k : Nat} {rw : List Int} {B : Option Addr} {d : Nat} {v : Int} (hr : LL[xi]? = some (rw, B, d)) (hk : rw[k]? = some v) (hv : v = 1) : tabP T okA xi k = true := by
  subst hL hv
  unfold tabP
  rw [List.getD_eq_getElem?_getD (l := LL.map (·.1)), List.getElem?_map, hr]
  show okA (rw.getD k 0) = true
  rw [List.getD_eq_getElem?_getD, hk]
  rfl


set_option maxRecDepth 100000 in
set_option maxHeartbeats 4000000 in
theorem VoiceWitness_any (D : Option Addr) (n d : Nat) (l : List Int) (w : World) (hl : Rd w w.heap.size 1 D n (ic l)) (hm : n ≤ 9223372036854775807) :
    Calls Try.prog 5 #[.slice D n d] w fun e w' => e = .returned (.bool true) ∧ Below w.heap.size w w' := by
  have hll := hl.len1
  obtain ⟨bI, oI, SI⟩ := Sp.old hl
  refine px_enter noEx Try.func5 rfl 205 rfl [.slice D n d] rfl rfl (Mem.init w _) ?_
  intro ac wc T M
  refine wp_seq ?_
  refine wp_region_lit ?_
  refine lq T (rn_assign rfl evc) ?_; clear T ac; intro ac T
  refine wpList_nil ?_
  replace T := T.pick [1] rfl
  refine nm_then ?_
  refine wp_seq ?_
  refine wp_region_lit ?_
  refine lq T (rn_move rfl (T.ev 0 rfl)) ?_; clear T ac; intro ac T
  refine l_w rfl ?_; intro K hK
  refine ow_call (first := []) (cap := []) T rfl rfl rfl rfl evf (.cons (T.ev 0 rfl) .nil) Try.func12 rfl rfl ?_
  refine Calls.mono (newPot_any _ _ _ l _ (SI.rd M (List.nil_sublist _)) (by omega)) ?_
  clear T
  rintro e wc ⟨bpu1, su1, hsu1, rfl, N⟩
  intro ac T
  replace M := M.join N; clear N
  replace M := M.mask [true] rfl
  refine sh_out hK _ _ ?_; clear hK K
  refine l_w rfl ?_; intro K hK
  refine ow_call (first := []) (cap := []) T rfl rfl rfl rfl evf (.cons (T.ev 0 rfl) (.cons evc (.cons evc (.cons evc .nil)))) Try.func18 rfl rfl ?_
  refine Calls.mono (boxOf_any _ bpu1 4 4 1 _ (by omega) (by omega) (by omega) (M.nth 0 rfl) hsu1) ?_
  clear T
  rintro e wc ⟨bu2, Au2, cu2, Bu2, du2, su2, Iu2, rfl, hmu2, hsu2, SAu2, SBu2, N⟩
  intro ac T
  obtain ⟨b1u2, o1u2, SAu2⟩ := SAu2
  replace SAu2 := SAu2 w noEx
  obtain ⟨b2u2, o2u2, SBu2⟩ := SBu2
  replace SBu2 := SBu2 w noEx
  replace M := (M.joinW .head N).swapI
  clear N
  replace M : Mem w noEx wc ((bpu1, .cells [.int .u64 su2]) :: Iu2) := M
  have hgu2 := hmu2.good
  have nlu2 := hgu2.lows.1
  have nhu2 := hgu2.highs.1
  have hstu2 := step_bd (notes := 3) hmu2.law.step hmu2.note
  have hnou2 := hmu2.note
  have ⟨hfu2, hzu2, hpu2, hqu2⟩ := hmu2.law
  dsimp only at hstu2 hfu2 hpu2 hqu2
  refine sh_out hK _ _ ?_; clear hK K
  refine l_w rfl ?_; intro K hK
  refine ow_al M T rfl rfl rfl rfl ?_; clear M T; intro g1 wc ac M T
  refine sh_out hK _ _ ?_; clear hK K
  refine l_w rfl ?_; intro K hK
  refine ow_stO M T rfl rfl (T.ev 0 rfl) (T.ev 1 rfl) rfl .head rfl (by simp) rfl (by kernel_rfl) ?_; clear M T; intro wc ac M T
  refine sh_out hK _ _ ?_; clear hK K
  refine wpList_nil ?_
  replace T := T.pick [0] rfl
  replace M := M.mask [true, false] rfl
  refine nm_then ?_
  refine wp_seq ?_
  refine wp_region_lit ?_
  refine lq T (rn_rowO (Mem.nth M 0 rfl) rfl (T.ev 0 rfl) rfl) ?_; clear T ac; intro ac T
  refine l_w rfl ?_; intro K hK
  refine ow_call (first := []) (cap := []) T rfl rfl rfl rfl evf (.cons (T.ev 0 rfl) .nil) Try.func27 rfl rfl ?_
  refine Calls.mono (Match_good (bu2) _ _ _ _ _ (SAu2.rd M (.cons _ (List.Sublist.refl _))) (SBu2.rd M (.cons _ (List.Sublist.refl _))) hgu2) ?_
  clear T
  rintro e wc ⟨Au3, cu3, Iu3, rfl, Su3, N⟩
  intro ac T
  obtain ⟨bu3, ou3, Su3⟩ := Su3
  replace Su3 := Su3 w noEx
  obtain ⟨mlu3, hmlu3⟩ : ∃ q, q = mostL (bu2) okA := ⟨_, rfl⟩
  rw [← hmlu3] at Su3
  have hmoku3 := mostL_ok (b := (bu2 : Bx)) okA
  rw [← hmlu3] at hmoku3
  have nmlu3 : mlu3.length = bu2.lows.length := hmoku3.2
  have hfiu3 := full_iff hmoku3.1
  obtain ⟨plu3, hplu3⟩ : ∃ q, q = placeP mlu3 (-1) := ⟨_, rfl⟩
  rw [← hplu3] at hfiu3
  replace M := (M.join N).swapI
  clear N
  replace M : Mem w noEx wc ((g1, .cells [.int .i64 bu2.first, .int .i64 bu2.step, .int .i64 bu2.span, .int .i64 bu2.press, .int .i64 bu2.note, .slice Au2 bu2.lows.length cu2, .slice Bu2 bu2.highs.length du2, .int .i64 bu2.t0, .int .i64 bu2.t1, .int .i64 bu2.r0, .int .i64 bu2.r1, .int .i64 bu2.u0, .int .i64 bu2.u1, .int .i64 bu2.d0, .int .i64 bu2.d1, .int .i64 bu2.a0, .int .i64 bu2.a1, .int .i64 bu2.b0, .int .i64 bu2.b1, .int .i64 bu2.le, .int .i64 bu2.me]) :: (Iu2 ++ Iu3)) := M
  rw [← hmlu3] at T
  refine sh_out hK _ _ ?_; clear hK K
  refine lq T (rn_move rfl (T.ev 0 rfl)) ?_; clear T ac; intro ac T
  refine lq T (rn_extract rfl (T.ev 0 rfl) rfl) ?_; clear T ac; intro ac T
  refine lq T (rn_extract rfl (T.ev 1 rfl) rfl) ?_; clear T ac; intro ac T
  refine lq T (rn_assign rfl (T.ev 1 rfl)) ?_; clear T ac; intro ac T
  refine lq T (rn_assign rfl (T.ev 1 rfl)) ?_; clear T ac; intro ac T
  refine wpList_nil ?_
  replace T := T.pick [0, 1, 7] rfl
  refine nm_then ?_
  refine wp_seq ?_
  refine wp_region_lit ?_
  refine lq T (rn_rowO (Mem.nth M 0 rfl) rfl (T.ev 2 rfl) rfl) ?_; clear T ac; intro ac T
  refine l_w rfl ?_; intro K hK
  refine ow_call (first := []) (cap := []) T rfl rfl rfl rfl evf (.cons (T.ev 0 rfl) .nil) Try.func28 rfl rfl ?_
  refine Calls.mono (Short_good bu2 _ _ _ _ _ (SAu2.rd M (.cons _ (subL (List.Sublist.refl _)))) (SBu2.rd M (.cons _ (subL (List.Sublist.refl _)))) hgu2) ?_
  clear T
  rintro e wc ⟨Au4, cu4, Iu4, rfl, Su4, N⟩
  intro ac T
  obtain ⟨bu4, ou4, Su4⟩ := Su4
  replace Su4 := Su4 w noEx
  obtain ⟨shu4, hshu4⟩ : ∃ q, q = (shortE bu2).1 := ⟨_, rfl⟩
  rw [← hshu4] at Su4
  obtain ⟨eru4, heru4⟩ : ∃ q, q = (shortE bu2).2 := ⟨_, rfl⟩
  have hsl5u4 : shu4.length ≤ 5 := by rw [hshu4]; exact shortE_len _ hgu2
  replace M := (M.join N).swapI
  clear N
  replace M : Mem w noEx wc ((g1, .cells [.int .i64 bu2.first, .int .i64 bu2.step, .int .i64 bu2.span, .int .i64 bu2.press, .int .i64 bu2.note, .slice Au2 bu2.lows.length cu2, .slice Bu2 bu2.highs.length du2, .int .i64 bu2.t0, .int .i64 bu2.t1, .int .i64 bu2.r0, .int .i64 bu2.r1, .int .i64 bu2.u0, .int .i64 bu2.u1, .int .i64 bu2.d0, .int .i64 bu2.d1, .int .i64 bu2.a0, .int .i64 bu2.a1, .int .i64 bu2.b0, .int .i64 bu2.b1, .int .i64 bu2.le, .int .i64 bu2.me]) :: (Iu2 ++ Iu3 ++ Iu4)) := M
  rw [← hshu4] at T
  rw [← heru4] at T
  refine sh_out hK _ _ ?_; clear hK K
  refine lq T (rn_move rfl (T.ev 0 rfl)) ?_; clear T ac; intro ac T
  refine lq T (rn_extract rfl (T.ev 0 rfl) rfl) ?_; clear T ac; intro ac T
  refine lq T (rn_extract rfl (T.ev 1 rfl) rfl) ?_; clear T ac; intro ac T
  refine lq T (rn_assign rfl (T.ev 1 rfl)) ?_; clear T ac; intro ac T
  refine lq T (rn_assign rfl (T.ev 1 rfl)) ?_; clear T ac; intro ac T
  refine wpList_nil ?_
  replace T := T.pick [0, 1, 7, 8, 9] rfl
  refine nm_then ?_
  refine wp_seq ?_
  refine wp_region_lit ?_
  refine lq T (rn_rowO (Mem.nth M 0 rfl) rfl (T.ev 4 rfl) rfl) ?_; clear T ac; intro ac T
  refine l_w rfl ?_; intro K hK
  refine ow_call (first := []) (cap := []) T rfl rfl rfl rfl evf (.cons (T.ev 0 rfl) .nil) Try.func29 rfl rfl ?_
  refine Calls.mono (Pairs_good bu2 _ _ _ _ _ (SAu2.rd M (.cons _ (subL (subL (List.Sublist.refl _))))) (SBu2.rd M (.cons _ (subL (subL (List.Sublist.refl _))))) hgu2) ?_
  clear T
  rintro e wc ⟨Au5, cu5, LLu5, Iu5, rfl, hLu5, Su5, Eu5, N⟩
  intro ac T
  obtain ⟨bu5, ou5, Su5⟩ := Su5
  replace Su5 := Su5 w noEx
  have hnu5 : LLu5.length = bu2.lows.length := by rw [← (tableP_len bu2).1, ← hLu5, List.length_map]
  replace M := (M.join N).swapI
  clear N
  replace M : Mem w noEx wc ((g1, .cells [.int .i64 bu2.first, .int .i64 bu2.step, .int .i64 bu2.span, .int .i64 bu2.press, .int .i64 bu2.note, .slice Au2 bu2.lows.length cu2, .slice Bu2 bu2.highs.length du2, .int .i64 bu2.t0, .int .i64 bu2.t1, .int .i64 bu2.r0, .int .i64 bu2.r1, .int .i64 bu2.u0, .int .i64 bu2.u1, .int .i64 bu2.d0, .int .i64 bu2.d1, .int .i64 bu2.a0, .int .i64 bu2.a1, .int .i64 bu2.b0, .int .i64 bu2.b1, .int .i64 bu2.le, .int .i64 bu2.me]) :: (Iu2 ++ Iu3 ++ Iu4 ++ Iu5)) := M
  refine sh_out hK _ _ ?_; clear hK K
  refine lq T (rn_move rfl (T.ev 0 rfl)) ?_; clear T ac; intro ac T
  refine lq T (rn_extract rfl (T.ev 0 rfl) rfl) ?_; clear T ac; intro ac T
  refine lq T (rn_extract rfl (T.ev 1 rfl) rfl) ?_; clear T ac; intro ac T
  refine lq T (rn_assign rfl (T.ev 1 rfl)) ?_; clear T ac; intro ac T
  refine lq T (rn_assign rfl (T.ev 1 rfl)) ?_; clear T ac; intro ac T
  refine wpList_nil ?_
  replace T := T.pick [0, 1, 7, 8, 9, 10, 11] rfl
  refine nm_then ?_
  refine wp_seq ?_
  refine wp_seq ?_
  refine wp_region_lit ?_
  refine lq T (rn_move rfl (T.ev 4 rfl)) ?_; clear T ac; intro ac T
  refine lq (v := (.bool false)) T (rn_neqof (rn_neq rfl (T.ev 0 rfl) evc) (by simp)) ?_; clear T ac; intro ac T
  refine lq T (rn_move rfl (T.ev 0 rfl)) ?_; clear T ac; intro ac T
  refine lw T (wanted_yes rfl rfl (T.ev 0 rfl) rfl) (rn_move rfl (T.ev 3 rfl)) ?_; clear T ac; intro ac T
  refine lw (v := (.bool false)) T (wanted_yes rfl rfl (T.ev 1 rfl) rfl) (rn_neqof (rn_neq rfl (T.ev 0 rfl) evc) (by simp)) ?_; clear T ac; intro ac T
  refine lq T (rn_pick0 rfl (T.ev 2 rfl) rfl (T.ev 0 rfl)) ?_; clear T ac; intro ac T
  refine lq T (rn_move rfl (T.ev 0 rfl)) ?_; clear T ac; intro ac T
  refine lw T (wanted_yes rfl rfl (T.ev 0 rfl) rfl) (rn_move rfl (T.ev 8 rfl)) ?_; clear T ac; intro ac T
  refine lw T (wanted_yes rfl rfl (T.ev 1 rfl) rfl) (rn_lenS rfl Try.underlying62 (T.ev 0 rfl)) ?_; clear T ac; intro ac T
  refine lw (v := (.pointer (some ⟨g1, 5, none⟩))) T (wanted_yes rfl rfl (T.ev 2 rfl) rfl) (rn_fieldAddr (off := 5) rfl (T.ev 15 rfl) (fun _ _ _ => by kernel_rfl)) ?_; clear T ac; intro ac T
  refine lw T (wanted_yes rfl rfl (T.ev 3 rfl) rfl) (rn_one (Mem.nth M 0 rfl) rfl (T.ev 0 rfl) rfl) ?_; clear T ac; intro ac T
  refine lw T (wanted_yes rfl rfl (T.ev 4 rfl) rfl) (rn_lenS rfl Try.underlying38 (T.ev 0 rfl)) ?_; clear T ac; intro ac T
  refine lw T (wanted_yes rfl rfl (T.ev 5 rfl) rfl) (rn_neq rfl (T.ev 3 rfl) (T.ev 0 rfl)) ?_; clear T ac; intro ac T
  refine lq T (rn_pick0 rfl (T.ev 6 rfl) rfl (T.ev 0 rfl)) ?_; clear T ac; intro ac T
  refine lq T (rn_move rfl (T.ev 0 rfl)) ?_; clear T ac; intro ac T
  refine lw T (wanted_yes rfl rfl (T.ev 0 rfl) (by rw [show (decide (((LLu5.length : Nat) : Int) = ((bu2.lows.length : Nat) : Int))) = true from (decide_eq_true (by omega))]; rfl)) (rn_move rfl (T.ev 20 rfl)) ?_; clear T ac; intro ac T
  refine lw T (wanted_yes rfl rfl (T.ev 1 rfl) (by rw [show (decide (((LLu5.length : Nat) : Int) = ((bu2.lows.length : Nat) : Int))) = true from (decide_eq_true (by omega))]; rfl)) (rn_lenS rfl Try.underlying22 (T.ev 0 rfl)) ?_; clear T ac; intro ac T
  refine lw (v := (.pointer (some ⟨g1, 5, none⟩))) T (wanted_yes rfl rfl (T.ev 2 rfl) (by rw [show (decide (((LLu5.length : Nat) : Int) = ((bu2.lows.length : Nat) : Int))) = true from (decide_eq_true (by omega))]; rfl)) (rn_fieldAddr (off := 5) rfl (T.ev 23 rfl) (fun _ _ _ => by kernel_rfl)) ?_; clear T ac; intro ac T
  refine lw T (wanted_yes rfl rfl (T.ev 3 rfl) (by rw [show (decide (((LLu5.length : Nat) : Int) = ((bu2.lows.length : Nat) : Int))) = true from (decide_eq_true (by omega))]; rfl)) (rn_one (Mem.nth M 0 rfl) rfl (T.ev 0 rfl) rfl) ?_; clear T ac; intro ac T
  refine lw T (wanted_yes rfl rfl (T.ev 4 rfl) (by rw [show (decide (((LLu5.length : Nat) : Int) = ((bu2.lows.length : Nat) : Int))) = true from (decide_eq_true (by omega))]; rfl)) (rn_lenS rfl Try.underlying38 (T.ev 0 rfl)) ?_; clear T ac; intro ac T
  refine lw T (wanted_yes rfl rfl (T.ev 5 rfl) (by rw [show (decide (((LLu5.length : Nat) : Int) = ((bu2.lows.length : Nat) : Int))) = true from (decide_eq_true (by omega))]; rfl)) (rn_neq rfl (T.ev 3 rfl) (T.ev 0 rfl)) ?_; clear T ac; intro ac T
  refine lq T (rn_pick0 rfl (T.ev 6 rfl) (by rw [show (decide (((LLu5.length : Nat) : Int) = ((bu2.lows.length : Nat) : Int))) = true from (decide_eq_true (by omega))]; rfl) (T.ev 0 rfl)) ?_; clear T ac; intro ac T
  refine wpList_nil ?_
  replace T := T.pick [0, 23, 24, 25, 27, 28] rfl
  refine nm_then ?_
  refine wp_cond_false ((T.ev 0 rfl).trans (congrArg Value.bool (by rw [show (decide (((mlu3.length : Nat) : Int) = ((bu2.lows.length : Nat) : Int))) = true from (decide_eq_true (by omega))]; rfl))) ?_
  refine wp_skip ?_
  refine nm_then ?_
  refine wp_seq ?_
  refine wp_seq ?_
  refine wp_region_lit ?_
  refine lq T (rn_move rfl (T.ev 4 rfl)) ?_; clear T ac; intro ac T
  refine l_w rfl ?_; intro K hK
  refine ow_call (first := []) (cap := []) T rfl rfl rfl rfl evf (.cons (T.ev 0 rfl) (.cons evc .nil)) Try.func30 rfl rfl ?_
  refine Calls.mono (place_any _ _ _ mlu3 (-1) _ (Su3.rd M (.cons _ (subL (subL (List.sublist_append_right _ _))))) (by omega)) ?_
  clear T
  rintro e wc ⟨rfl, hb⟩
  intro ac T
  replace M := M.call hb; clear hb
  rw [← hplu3] at T
  refine sh_out hK _ _ ?_; clear hK K
  refine lq T (rn_lss rfl (T.ev 0 rfl) evc) ?_; clear T ac; intro ac T
  refine wpList_nil ?_
  replace T := T.pick [0, 4, 5, 6, 8] rfl
  refine nm_then ?_
  refine wp_if (T.ev 0 rfl) ?_ ?_
  ·intro h1
   have hpn9 : plu3 < 0 := h1
   have hfu := hfiu3.1 hpn9
   rw [nmlu3, hmlu3] at hfu
   have hse := short_none hgu2 hfu
   have her9 : eru4 = 11 := by rw [heru4, hse]
   have hsn9 : shu4.length = 0 := by rw [hshu4, hse]; rfl
   refine wp_seq ?_
   refine wp_region_lit ?_
   refine lq T (rn_move rfl (T.ev 2 rfl)) ?_; clear T ac; intro ac T
   refine lq T (rn_eql rfl (T.ev 0 rfl) evc) ?_; clear T ac; intro ac T
   refine lq T (rn_move rfl (T.ev 0 rfl)) ?_; clear T ac; intro ac T
   refine lw T (wanted_yes rfl rfl (T.ev 0 rfl) (decide_eq_true her9)) (rn_move rfl (T.ev 6 rfl)) ?_; clear T ac; intro ac T
   refine lw T (wanted_yes rfl rfl (T.ev 1 rfl) (decide_eq_true her9)) (rn_lenS rfl Try.underlying22 (T.ev 0 rfl)) ?_; clear T ac; intro ac T
   refine lw T (wanted_yes rfl rfl (T.ev 2 rfl) (decide_eq_true her9)) (rn_eql rfl (T.ev 0 rfl) evc) ?_; clear T ac; intro ac T
   refine lq T (rn_pick1 rfl (T.ev 3 rfl) (decide_eq_true her9) (T.ev 0 rfl)) ?_; clear T ac; intro ac T
   refine lq T (rn_move rfl (T.ev 0 rfl)) ?_; clear T ac; intro ac T
   refine l_w (wanted_yes rfl rfl (T.ev 0 rfl) (decide_eq_true (by omega))) ?_; intro K hK
   refine ow_call (first := []) (cap := []) T rfl rfl rfl rfl evf .nil Try.func17 rfl rfl ?_
   refine Calls.mono (trembling_any _) ?_
   clear T
   rintro e wc ⟨rfl, hb⟩
   intro ac T
   replace M := M.call hb; clear hb
   refine sh_out hK _ _ ?_; clear hK K
   refine lq T (rn_pick1 rfl (T.ev 1 rfl) (decide_eq_true (by omega)) (T.ev 0 rfl)) ?_; clear T ac; intro ac T
   refine lq T (rn_assign rfl (T.ev 0 rfl)) ?_; clear T ac; intro ac T
   refine wpList_nil ?_
   replace T := T.pick [0] rfl
   replace M := M.mask [false] rfl
   refine nm_then ?_
   refine wp_ret ?_
   refine rt_then ?_
   refine rt_1 T rfl (T.ev 0 rfl) ?_
   exact ⟨rfl, M.below⟩
  intro h1
  have hpn9 : ¬ plu3 < 0 := h1
  have hnf : pairsP (mostL bu2 okA) ≠ bu2.lows.length := fun e9 => hpn9 (hfiu3.2 (by rw [nmlu3, hmlu3, e9]))
  obtain ⟨t, hse, hw⟩ := wit_short hgu2 hnf
  have her9 : eru4 = 0 := by rw [heru4, hse]
  have hs9 : shu4 = t.map fun i : Nat => (i : Int) := by rw [hshu4, hse]
  have hst9 : shu4.length = t.length := by rw [hs9, List.length_map]
  have htp9 := hw.few
  refine wp_skip ?_
  refine nm_then ?_
  refine wp_seq ?_
  refine wp_seq ?_
  refine wp_region_lit ?_
  refine lq T (rn_move rfl (T.ev 2 rfl)) ?_; clear T ac; intro ac T
  refine lq T (rn_neq rfl (T.ev 0 rfl) evc) ?_; clear T ac; intro ac T
  refine lq T (rn_move rfl (T.ev 0 rfl)) ?_; clear T ac; intro ac T
  refine lw T (wanted_yes rfl rfl (T.ev 0 rfl) (by rw [show (decide (eru4 = 0)) = true from (decide_eq_true her9)]; rfl)) (rn_move rfl (T.ev 6 rfl)) ?_; clear T ac; intro ac T
  refine lw T (wanted_yes rfl rfl (T.ev 1 rfl) (by rw [show (decide (eru4 = 0)) = true from (decide_eq_true her9)]; rfl)) (rn_lenS rfl Try.underlying22 (T.ev 0 rfl)) ?_; clear T ac; intro ac T
  refine lw T (wanted_yes rfl rfl (T.ev 2 rfl) (by rw [show (decide (eru4 = 0)) = true from (decide_eq_true her9)]; rfl)) (rn_eql rfl (T.ev 0 rfl) evc) ?_; clear T ac; intro ac T
  refine lq T (rn_pick0 rfl (T.ev 3 rfl) (by rw [show (decide (eru4 = 0)) = true from (decide_eq_true her9)]; rfl) (T.ev 0 rfl)) ?_; clear T ac; intro ac T
  refine wpList_nil ?_
  replace T := T.pick [0, 8, 10, 11] rfl
  refine nm_then ?_
  refine wp_cond_false ((T.ev 0 rfl).trans (congrArg Value.bool (decide_eq_false (by omega)))) ?_
  refine wp_skip ?_
  refine nm_then ?_
  refine wp_seq ?_
  refine wp_region_lit ?_
  refine lq T (rn_assign rfl evc) ?_; clear T ac; intro ac T
  refine wpList_nil ?_
  replace T := T.pick [0, 2, 3, 4] rfl
  refine nm_then ?_
  refine wp_seq ?_
  refine wp_seq ?_
  refine wp_region_lit ?_
  refine lq T (rn_assign rfl evc) ?_; clear T ac; intro ac T
  refine wpList_nil ?_
  refine nm_then ?_
  refine wp_block ?_
  refine wp_loop_n (fun mz ac wc => ∃ (i : Nat) (NR : List Int) (A3 : Option Addr) (c3 : Nat) (Io : List (Nat × BA)), mz = shu4.length - i ∧ (i ≤ shu4.length) ∧ (NearOk (tableP bu2) t NR) ∧ (Sl 3 1 (.slice A3 NR.length c3) NR.length (ic NR) Io) ∧ Tm ac 205 [(3, .pointer (some ⟨g1, 0, none⟩)), (6, .slice Au4 shu4.length cu4), (8, .slice Au5 LLu5.length cu5), (10, .slice A3 NR.length c3), (11, .int .i64 (i : Int))] ∧ Mem w noEx wc ((g1, .cells [.int .i64 bu2.first, .int .i64 bu2.step, .int .i64 bu2.span, .int .i64 bu2.press, .int .i64 bu2.note, .slice Au2 bu2.lows.length cu2, .slice Bu2 bu2.highs.length du2, .int .i64 bu2.t0, .int .i64 bu2.t1, .int .i64 bu2.r0, .int .i64 bu2.r1, .int .i64 bu2.u0, .int .i64 bu2.u1, .int .i64 bu2.d0, .int .i64 bu2.d1, .int .i64 bu2.a0, .int .i64 bu2.a1, .int .i64 bu2.b0, .int .i64 bu2.b1, .int .i64 bu2.le, .int .i64 bu2.me]) :: (Iu2 ++ Iu3 ++ Iu4 ++ Iu5 ++ Io))) ?_ ?_
  ·exact ⟨_, 0, [], none, 0, [], rfl, (Nat.zero_le _), (NearOk.nil _ _), (Sl.nil _ _), T.pick [4, 3, 2, 1, 0] rfl, (by simp only [List.append_nil]; exact M)⟩
  clear T M
  rintro mz ac wc ⟨i, NR, A3, c3, Io, hmm1, hi, hnr, hsl, T, M⟩
  refine wp_seq ?_
  refine wp_seq ?_
  refine wp_region_lit ?_
  refine lq T (rn_move rfl (T.ev 4 rfl)) ?_; clear T ac; intro ac T
  refine lq T (rn_move rfl (T.ev 2 rfl)) ?_; clear T ac; intro ac T
  refine lq T (rn_lenS rfl Try.underlying22 (T.ev 0 rfl)) ?_; clear T ac; intro ac T
  refine lq T (rn_lss rfl (T.ev 2 rfl) (T.ev 0 rfl)) ?_; clear T ac; intro ac T
  refine wpList_nil ?_
  replace T := T.pick [0, 4, 5, 6, 7, 8] rfl
  refine nm_then ?_
  refine wp_if (T.ev 0 rfl) ?_ ?_
  ·intro h2
   obtain ⟨x, hkx, -⟩ := ic_next (l := shu4) (k := i) (by omega)
   obtain ⟨xi, hxi, htx, hxl⟩ := wit_at hw hs9 hkx
   obtain ⟨ip, xp, hip⟩ := wit_prev hw hs9 hkx
   obtain ⟨⟨rw, Br, dr⟩, hkr⟩ : ∃ z, LLu5[xi]? = some z := ⟨_, List.getElem?_eq_getElem (by omega)⟩
   have hrl : rw.length = bu2.highs.length := (tableP_len bu2).2 rw (by rw [← hLu5]; exact List.mem_map.2 ⟨_, List.mem_of_getElem? hkr, rfl⟩)
   obtain ⟨br, orr, hSr⟩ := Eu5 _ (List.mem_of_getElem? hkr)
   have Sr := hSr w noEx
   dsimp only at Sr
   refine wp_skip ?_
   refine nm_then ?_
   refine wp_seq ?_
   refine wp_block ?_
   refine wp_seq ?_
   refine cut_seq (fun ac wc => Tm ac 205 [(3, .pointer (some ⟨g1, 0, none⟩)), (6, .slice Au4 shu4.length cu4), (8, .slice Au5 LLu5.length cu5), (10, .slice A3 NR.length c3), (11, .int .i64 (i : Int)), (114, .bool ((decide (x < 0)) || ((decide (((bu2.lows.length : Nat) : Int) ≤ x)) || ((decide (0 < (i : Int))) && (decide (x ≤ xp))))))] ∧ Mem w noEx wc ((g1, .cells [.int .i64 bu2.first, .int .i64 bu2.step, .int .i64 bu2.span, .int .i64 bu2.press, .int .i64 bu2.note, .slice Au2 bu2.lows.length cu2, .slice Bu2 bu2.highs.length du2, .int .i64 bu2.t0, .int .i64 bu2.t1, .int .i64 bu2.r0, .int .i64 bu2.r1, .int .i64 bu2.u0, .int .i64 bu2.u1, .int .i64 bu2.d0, .int .i64 bu2.d1, .int .i64 bu2.a0, .int .i64 bu2.a1, .int .i64 bu2.b0, .int .i64 bu2.b1, .int .i64 bu2.le, .int .i64 bu2.me]) :: (Iu2 ++ Iu3 ++ Iu4 ++ Iu5 ++ Io))) ?_ ?_
   ·refine g_start2 M (M.mask [true] rfl) 31 (by kernel_rfl) rfl (by kernel_rfl) ?_
    clear M; intro wc M
    refine gq T 0 1 rfl (fun _ _ _ _ _ => (rn_move rfl (T.ev 2 rfl))) ?_; clear T ac; intro ac T
    refine gq T 1 3 rfl (fun _ _ _ _ _ => (rn_move rfl (T.ev 6 rfl))) ?_; clear T ac; intro ac T
    refine gq T 2 7 rfl (fun _ _ _ _ _ => (rn_indexAddr (size := 1) i rfl (T.ev 1 rfl) (T.ev 0 rfl) ⟨_, Try.underlying22, by kernel_rfl⟩ rfl (by omega) (Su4.at0 (by omega)))) ?_; clear T ac; intro ac T
    refine gq T 3 15 rfl (fun B w' hD hl hS => (rn_cell (Sp.ic0 Su4 (show Mem w noEx w' _ from hS) (.cons _ (subL (subL (List.sublist_append_right _ _)))) hkx) rfl (T.ev 0 rfl))) ?_; clear T ac; intro ac T
    refine gq T 4 31 rfl (fun _ _ _ _ _ => (rn_lss rfl (T.ev 0 rfl) evc)) ?_; clear T ac; intro ac T
    refine gq T 5 63 rfl (fun _ _ _ _ _ => (rn_move rfl (T.ev 0 rfl))) ?_; clear T ac; intro ac T
    rcases Bool.eq_false_or_eq_true (decide (x < 0)) with h3 | h3
    ·replace h3 := of_decide_eq_true h3
     refine g_pass (T := T) (i := 6) rfl (by kernel_rfl) (by kernel_rfl : (pbits 31 63).setIfInBounds 6 true = pbits 31 127) si_U (fun _ _ _ h => h) (wanted_no rfl rfl (T.ev 0 rfl) (decide_eq_true h3)) rfl rfl rfl ?_; clear T ac; intro ac T
     refine g_pass (T := T) (i := 7) rfl (by kernel_rfl) (by kernel_rfl : (pbits 31 127).setIfInBounds 7 true = pbits 31 255) si_U (fun _ _ _ h => h) (wanted_no rfl rfl (T.ev 1 rfl) (decide_eq_true h3)) rfl rfl rfl ?_; clear T ac; intro ac T
     refine g_pass (T := T) (i := 8) rfl (by kernel_rfl) (by kernel_rfl : (pbits 31 255).setIfInBounds 8 true = pbits 31 511) si_U (fun _ _ _ h => h) (wanted_no rfl rfl (T.ev 2 rfl) (decide_eq_true h3)) rfl rfl rfl ?_; clear T ac; intro ac T
     refine g_pass (T := T) (i := 9) rfl (by kernel_rfl) (by kernel_rfl : (pbits 31 511).setIfInBounds 9 true = pbits 31 1023) si_U (fun _ _ _ h => h) (wanted_no rfl rfl (T.ev 3 rfl) (decide_eq_true h3)) rfl rfl rfl ?_; clear T ac; intro ac T
     refine g_pass (T := T) (i := 10) rfl (by kernel_rfl) (by kernel_rfl : (pbits 31 1023).setIfInBounds 10 true = pbits 31 2047) si_U (fun _ _ _ h => h) (wanted_no rfl rfl (T.ev 4 rfl) (decide_eq_true h3)) rfl rfl rfl ?_; clear T ac; intro ac T
     refine g_pass (T := T) (i := 11) rfl (by kernel_rfl) (by kernel_rfl : (pbits 31 2047).setIfInBounds 11 true = pbits 31 4095) si_U (fun _ _ _ h => h) (wanted_no rfl rfl (T.ev 5 rfl) (decide_eq_true h3)) rfl rfl rfl ?_; clear T ac; intro ac T
     refine g_pass (T := T) (i := 12) rfl (by kernel_rfl) (by kernel_rfl : (pbits 31 4095).setIfInBounds 12 true = pbits 31 8191) si_U (fun _ _ _ h => h) (wanted_no rfl rfl (T.ev 6 rfl) (decide_eq_true h3)) rfl rfl rfl ?_; clear T ac; intro ac T
     refine g_pass (T := T) (i := 13) rfl (by kernel_rfl) (by kernel_rfl : (pbits 31 8191).setIfInBounds 13 true = pbits 31 16383) si_U (fun _ _ _ h => h) (wanted_no rfl rfl (T.ev 7 rfl) (decide_eq_true h3)) rfl rfl rfl ?_; clear T ac; intro ac T
     refine gq T 14 32767 rfl (fun _ _ _ _ _ => (rn_pick1 rfl (T.ev 8 rfl) (decide_eq_true h3) evc)) ?_; clear T ac; intro ac T
     refine gq T 15 65535 rfl (fun _ _ _ _ _ => (rn_move rfl (T.ev 0 rfl))) ?_; clear T ac; intro ac T
     refine g_pass (T := T) (i := 16) rfl (by kernel_rfl) (by kernel_rfl : (pbits 31 65535).setIfInBounds 16 true = pbits 31 131071) si_U (fun _ _ _ h => h) (wanted_no rfl rfl (T.ev 0 rfl) rfl) rfl rfl rfl ?_; clear T ac; intro ac T
     refine g_pass (T := T) (i := 17) rfl (by kernel_rfl) (by kernel_rfl : (pbits 31 131071).setIfInBounds 17 true = pbits 31 262143) si_U (fun _ _ _ h => h) (wanted_no rfl rfl (T.ev 1 rfl) rfl) rfl rfl rfl ?_; clear T ac; intro ac T
     refine g_pass (T := T) (i := 18) rfl (by kernel_rfl) (by kernel_rfl : (pbits 31 262143).setIfInBounds 18 true = pbits 31 524287) si_U (fun _ _ _ h => h) (wanted_no rfl rfl (T.ev 2 rfl) rfl) rfl rfl rfl ?_; clear T ac; intro ac T
     refine g_pass (T := T) (i := 19) rfl (by kernel_rfl) (by kernel_rfl : (pbits 31 524287).setIfInBounds 19 true = pbits 31 1048575) si_U (fun _ _ _ h => h) (wanted_un rfl rfl (T.ev 0 rfl)) rfl rfl rfl ?_; clear T ac; intro ac T
     refine g_pass (T := T) (i := 20) rfl (by kernel_rfl) (by kernel_rfl : (pbits 31 1048575).setIfInBounds 20 true = pbits 31 2097151) si_U (fun _ _ _ h => h) (wanted_un rfl rfl (T.ev 1 rfl)) rfl rfl rfl ?_; clear T ac; intro ac T
     refine g_pass (T := T) (i := 21) rfl (by kernel_rfl) (by kernel_rfl : (pbits 31 2097151).setIfInBounds 21 true = pbits 31 4194303) si_U (fun _ _ _ h => h) (wanted_un rfl rfl (T.ev 2 rfl)) rfl rfl rfl ?_; clear T ac; intro ac T
     refine g_pass (T := T) (i := 22) rfl (by kernel_rfl) (by kernel_rfl : (pbits 31 4194303).setIfInBounds 22 true = pbits 31 8388607) si_U (fun _ _ _ h => h) (wanted_un rfl rfl (T.ev 3 rfl)) rfl rfl rfl ?_; clear T ac; intro ac T
     refine g_pass (T := T) (i := 23) rfl (by kernel_rfl) (by kernel_rfl : (pbits 31 8388607).setIfInBounds 23 true = pbits 31 16777215) si_U (fun _ _ _ h => h) (wanted_un rfl rfl (T.ev 4 rfl)) rfl rfl rfl ?_; clear T ac; intro ac T
     refine g_pass (T := T) (i := 24) rfl (by kernel_rfl) (by kernel_rfl : (pbits 31 16777215).setIfInBounds 24 true = pbits 31 33554431) si_U (fun _ _ _ h => h) (wanted_un rfl rfl (T.ev 5 rfl)) rfl rfl rfl ?_; clear T ac; intro ac T
     refine g_pass (T := T) (i := 25) rfl (by kernel_rfl) (by kernel_rfl : (pbits 31 33554431).setIfInBounds 25 true = pbits 31 67108863) si_U (fun _ _ _ h => h) (wanted_un rfl rfl (T.ev 6 rfl)) rfl rfl rfl ?_; clear T ac; intro ac T
     refine g_pass (T := T) (i := 26) rfl (by kernel_rfl) (by kernel_rfl : (pbits 31 67108863).setIfInBounds 26 true = pbits 31 134217727) si_U (fun _ _ _ h => h) (wanted_un rfl rfl (T.ev 7 rfl)) rfl rfl rfl ?_; clear T ac; intro ac T
     refine g_pass (T := T) (i := 27) rfl (by kernel_rfl) (by kernel_rfl : (pbits 31 134217727).setIfInBounds 27 true = pbits 31 268435455) si_U (fun _ _ _ h => h) (wanted_un rfl rfl (T.ev 8 rfl)) rfl rfl rfl ?_; clear T ac; intro ac T
     refine g_pass (T := T) (i := 28) rfl (by kernel_rfl) (by kernel_rfl : (pbits 31 268435455).setIfInBounds 28 true = pbits 31 536870911) si_U (fun _ _ _ h => h) (wanted_un rfl rfl (T.ev 9 rfl)) rfl rfl rfl ?_; clear T ac; intro ac T
     refine g_pass (T := T) (i := 29) rfl (by kernel_rfl) (by kernel_rfl : (pbits 31 536870911).setIfInBounds 29 true = pbits 31 1073741823) si_U (fun _ _ _ h => h) (wanted_no rfl rfl (T.ev 13 rfl) rfl) rfl rfl rfl ?_; clear T ac; intro ac T
     refine gq T 30 2147483647 rfl (fun _ _ _ _ _ => (rn_pick1 rfl (T.ev 14 rfl) rfl evc)) ?_; clear T ac; intro ac T
     refine g_done (by kernel_rfl) ?_
     replace T := T.pick [0, 1, 2, 3, 4, 5, 6, 7, 8, 9, 10, 11, 12, 13, 14, 17, 18, 19, 20, 21, 22, 23, 24, 32, 33, 34, 35, 36] rfl
     exact ⟨(T.pick (E' := [(3, .pointer (some ⟨g1, 0, none⟩)), (6, .slice Au4 shu4.length cu4), (8, .slice Au5 LLu5.length cu5), (10, .slice A3 NR.length c3), (11, .int .i64 (i : Int)), (114, .bool true)]) [23, 24, 25, 26, 27, 0] rfl).as (by (try rw [show (decide (x < 0)) = true from (decide_eq_true h3)]); (try rfl)), M.mask [true] rfl⟩
    replace h3 := of_decide_eq_false h3
    refine g_q (T := T) (i := 6) rfl (by kernel_rfl) (by kernel_rfl : (pbits 31 63).setIfInBounds 6 true = pbits 31 127) si_U (fun _ _ _ h => h) (wanted_yes rfl rfl (T.ev 0 rfl) (decide_eq_false h3)) rfl rfl rfl (fun _ _ _ _ _ => (rn_move rfl (T.ev 8 rfl))) ?_; clear T ac; intro ac T
    refine g_q (T := T) (i := 7) rfl (by kernel_rfl) (by kernel_rfl : (pbits 31 127).setIfInBounds 7 true = pbits 31 255) si_U (fun _ _ _ h => h) (wanted_yes rfl rfl (T.ev 1 rfl) (decide_eq_false h3)) rfl rfl rfl (fun _ _ _ _ _ => (rn_move rfl (T.ev 12 rfl))) ?_; clear T ac; intro ac T
    refine g_q (T := T) (i := 8) rfl (by kernel_rfl) (by kernel_rfl : (pbits 31 255).setIfInBounds 8 true = pbits 31 511) si_U (fun _ _ _ h => h) (wanted_yes rfl rfl (T.ev 2 rfl) (decide_eq_false h3)) rfl rfl rfl (fun _ _ _ _ _ => (rn_indexAddr (size := 1) i rfl (T.ev 1 rfl) (T.ev 0 rfl) ⟨_, Try.underlying22, by kernel_rfl⟩ rfl (by omega) (Su4.at0 (by omega)))) ?_; clear T ac; intro ac T
    refine g_q (T := T) (i := 9) rfl (by kernel_rfl) (by kernel_rfl : (pbits 31 511).setIfInBounds 9 true = pbits 31 1023) si_U (fun _ _ _ h => h) (wanted_yes rfl rfl (T.ev 3 rfl) (decide_eq_false h3)) rfl rfl rfl (fun B w' hD hl hS => (rn_cell (Sp.ic0 Su4 (show Mem w noEx w' _ from hS) (.cons _ (subL (subL (List.sublist_append_right _ _)))) hkx) rfl (T.ev 0 rfl))) ?_; clear T ac; intro ac T
    refine g_q (v := (.pointer (some ⟨g1, 5, none⟩))) (T := T) (i := 10) rfl (by kernel_rfl) (by kernel_rfl : (pbits 31 1023).setIfInBounds 10 true = pbits 31 2047) si_U (fun _ _ _ h => h) (wanted_yes rfl rfl (T.ev 4 rfl) (decide_eq_false h3)) rfl rfl rfl (fun _ _ _ _ _ => (rn_fieldAddr (off := 5) rfl (T.ev 11 rfl) (fun _ _ _ => by kernel_rfl))) ?_; clear T ac; intro ac T
    refine g_q (T := T) (i := 11) rfl (by kernel_rfl) (by kernel_rfl : (pbits 31 2047).setIfInBounds 11 true = pbits 31 4095) si_U (fun _ _ _ h => h) (wanted_yes rfl rfl (T.ev 5 rfl) (decide_eq_false h3)) rfl rfl rfl (fun B w' hD hl hS => (rn_one (Mem.nth (show Mem w noEx w' _ from hS) 0 rfl) rfl (T.ev 0 rfl) rfl)) ?_; clear T ac; intro ac T
    refine g_q (T := T) (i := 12) rfl (by kernel_rfl) (by kernel_rfl : (pbits 31 4095).setIfInBounds 12 true = pbits 31 8191) si_U (fun _ _ _ h => h) (wanted_yes rfl rfl (T.ev 6 rfl) (decide_eq_false h3)) rfl rfl rfl (fun _ _ _ _ _ => (rn_lenS rfl Try.underlying38 (T.ev 0 rfl))) ?_; clear T ac; intro ac T
    refine g_q (T := T) (i := 13) rfl (by kernel_rfl) (by kernel_rfl : (pbits 31 8191).setIfInBounds 13 true = pbits 31 16383) si_U (fun _ _ _ h => h) (wanted_yes rfl rfl (T.ev 7 rfl) (decide_eq_false h3)) rfl rfl rfl (fun _ _ _ _ _ => (rn_geq rfl (T.ev 3 rfl) (T.ev 0 rfl))) ?_; clear T ac; intro ac T
    refine gq T 14 32767 rfl (fun _ _ _ _ _ => (rn_pick0 rfl (T.ev 8 rfl) (decide_eq_false h3) (T.ev 0 rfl))) ?_; clear T ac; intro ac T
    refine gq T 15 65535 rfl (fun _ _ _ _ _ => (rn_move rfl (T.ev 0 rfl))) ?_; clear T ac; intro ac T
    rcases Bool.eq_false_or_eq_true (decide (((bu2.lows.length : Nat) : Int) ≤ x)) with h4 | h4
    ·replace h4 := of_decide_eq_true h4
     refine g_pass (T := T) (i := 16) rfl (by kernel_rfl) (by kernel_rfl : (pbits 31 65535).setIfInBounds 16 true = pbits 31 131071) si_U (fun _ _ _ h => h) (wanted_no rfl rfl (T.ev 0 rfl) (decide_eq_true h4)) rfl rfl rfl ?_; clear T ac; intro ac T
     refine g_pass (T := T) (i := 17) rfl (by kernel_rfl) (by kernel_rfl : (pbits 31 131071).setIfInBounds 17 true = pbits 31 262143) si_U (fun _ _ _ h => h) (wanted_no rfl rfl (T.ev 1 rfl) (decide_eq_true h4)) rfl rfl rfl ?_; clear T ac; intro ac T
     refine g_pass (T := T) (i := 18) rfl (by kernel_rfl) (by kernel_rfl : (pbits 31 262143).setIfInBounds 18 true = pbits 31 524287) si_U (fun _ _ _ h => h) (wanted_no rfl rfl (T.ev 2 rfl) (decide_eq_true h4)) rfl rfl rfl ?_; clear T ac; intro ac T
     refine g_pass (T := T) (i := 19) rfl (by kernel_rfl) (by kernel_rfl : (pbits 31 524287).setIfInBounds 19 true = pbits 31 1048575) si_U (fun _ _ _ h => h) (wanted_un rfl rfl (T.ev 0 rfl)) rfl rfl rfl ?_; clear T ac; intro ac T
     refine g_pass (T := T) (i := 20) rfl (by kernel_rfl) (by kernel_rfl : (pbits 31 1048575).setIfInBounds 20 true = pbits 31 2097151) si_U (fun _ _ _ h => h) (wanted_un rfl rfl (T.ev 1 rfl)) rfl rfl rfl ?_; clear T ac; intro ac T
     refine g_pass (T := T) (i := 21) rfl (by kernel_rfl) (by kernel_rfl : (pbits 31 2097151).setIfInBounds 21 true = pbits 31 4194303) si_U (fun _ _ _ h => h) (wanted_un rfl rfl (T.ev 2 rfl)) rfl rfl rfl ?_; clear T ac; intro ac T
     refine g_pass (T := T) (i := 22) rfl (by kernel_rfl) (by kernel_rfl : (pbits 31 4194303).setIfInBounds 22 true = pbits 31 8388607) si_U (fun _ _ _ h => h) (wanted_un rfl rfl (T.ev 3 rfl)) rfl rfl rfl ?_; clear T ac; intro ac T
     refine g_pass (T := T) (i := 23) rfl (by kernel_rfl) (by kernel_rfl : (pbits 31 8388607).setIfInBounds 23 true = pbits 31 16777215) si_U (fun _ _ _ h => h) (wanted_un rfl rfl (T.ev 4 rfl)) rfl rfl rfl ?_; clear T ac; intro ac T
     refine g_pass (T := T) (i := 24) rfl (by kernel_rfl) (by kernel_rfl : (pbits 31 16777215).setIfInBounds 24 true = pbits 31 33554431) si_U (fun _ _ _ h => h) (wanted_un rfl rfl (T.ev 5 rfl)) rfl rfl rfl ?_; clear T ac; intro ac T
     refine g_pass (T := T) (i := 25) rfl (by kernel_rfl) (by kernel_rfl : (pbits 31 33554431).setIfInBounds 25 true = pbits 31 67108863) si_U (fun _ _ _ h => h) (wanted_un rfl rfl (T.ev 6 rfl)) rfl rfl rfl ?_; clear T ac; intro ac T
     refine g_pass (T := T) (i := 26) rfl (by kernel_rfl) (by kernel_rfl : (pbits 31 67108863).setIfInBounds 26 true = pbits 31 134217727) si_U (fun _ _ _ h => h) (wanted_un rfl rfl (T.ev 7 rfl)) rfl rfl rfl ?_; clear T ac; intro ac T
     refine g_pass (T := T) (i := 27) rfl (by kernel_rfl) (by kernel_rfl : (pbits 31 134217727).setIfInBounds 27 true = pbits 31 268435455) si_U (fun _ _ _ h => h) (wanted_un rfl rfl (T.ev 8 rfl)) rfl rfl rfl ?_; clear T ac; intro ac T
     refine g_pass (T := T) (i := 28) rfl (by kernel_rfl) (by kernel_rfl : (pbits 31 268435455).setIfInBounds 28 true = pbits 31 536870911) si_U (fun _ _ _ h => h) (wanted_un rfl rfl (T.ev 9 rfl)) rfl rfl rfl ?_; clear T ac; intro ac T
     refine g_pass (T := T) (i := 29) rfl (by kernel_rfl) (by kernel_rfl : (pbits 31 536870911).setIfInBounds 29 true = pbits 31 1073741823) si_U (fun _ _ _ h => h) (wanted_no rfl rfl (T.ev 13 rfl) (decide_eq_true h4)) rfl rfl rfl ?_; clear T ac; intro ac T
     refine gq T 30 2147483647 rfl (fun _ _ _ _ _ => (rn_pick1 rfl (T.ev 14 rfl) (decide_eq_true h4) evc)) ?_; clear T ac; intro ac T
     refine g_done (by kernel_rfl) ?_
     replace T := T.pick [0, 1, 2, 3, 4, 5, 6, 7, 8, 9, 10, 11, 12, 13, 14, 17, 18, 19, 20, 21, 22, 23, 24, 32, 33, 34, 35, 36] rfl
     exact ⟨(T.pick (E' := [(3, .pointer (some ⟨g1, 0, none⟩)), (6, .slice Au4 shu4.length cu4), (8, .slice Au5 LLu5.length cu5), (10, .slice A3 NR.length c3), (11, .int .i64 (i : Int)), (114, .bool true)]) [23, 24, 25, 26, 27, 0] rfl).as (by (try rw [show (decide (x < 0)) = false from (decide_eq_false h3)]); (try rw [show (decide (((bu2.lows.length : Nat) : Int) ≤ x)) = true from (decide_eq_true h4)]); (try rfl)), M.mask [true] rfl⟩
    replace h4 := of_decide_eq_false h4
    refine g_q (T := T) (i := 16) rfl (by kernel_rfl) (by kernel_rfl : (pbits 31 65535).setIfInBounds 16 true = pbits 31 131071) si_U (fun _ _ _ h => h) (wanted_yes rfl rfl (T.ev 0 rfl) (decide_eq_false h4)) rfl rfl rfl (fun _ _ _ _ _ => (rn_move rfl (T.ev 21 rfl))) ?_; clear T ac; intro ac T
    refine g_q (T := T) (i := 17) rfl (by kernel_rfl) (by kernel_rfl : (pbits 31 131071).setIfInBounds 17 true = pbits 31 262143) si_U (fun _ _ _ h => h) (wanted_yes rfl rfl (T.ev 1 rfl) (decide_eq_false h4)) rfl rfl rfl (fun _ _ _ _ _ => (rn_gtr rfl (T.ev 0 rfl) evc)) ?_; clear T ac; intro ac T
    refine g_q (T := T) (i := 18) rfl (by kernel_rfl) (by kernel_rfl : (pbits 31 262143).setIfInBounds 18 true = pbits 31 524287) si_U (fun _ _ _ h => h) (wanted_yes rfl rfl (T.ev 2 rfl) (decide_eq_false h4)) rfl rfl rfl (fun _ _ _ _ _ => (rn_move rfl (T.ev 0 rfl))) ?_; clear T ac; intro ac T
    rcases Bool.eq_false_or_eq_true (decide (0 < (i : Int))) with h5 | h5
    ·replace h5 := of_decide_eq_true h5
     have hip1 := (hip h5).1
     have hkp := (hip h5).2.1
     refine g_q (T := T) (i := 19) rfl (by kernel_rfl) (by kernel_rfl : (pbits 31 524287).setIfInBounds 19 true = pbits 31 1048575) si_U (fun _ _ _ h => h) (wanted_yes rfl rfl (T.ev 0 rfl) (decide_eq_true h5)) rfl rfl rfl (fun _ _ _ _ _ => (rn_move rfl (T.ev 21 rfl))) ?_; clear T ac; intro ac T
     refine g_q (T := T) (i := 20) rfl (by kernel_rfl) (by kernel_rfl : (pbits 31 1048575).setIfInBounds 20 true = pbits 31 2097151) si_U (fun _ _ _ h => h) (wanted_yes rfl rfl (T.ev 1 rfl) (decide_eq_true h5)) rfl rfl rfl (fun _ _ _ _ _ => (rn_move rfl (T.ev 25 rfl))) ?_; clear T ac; intro ac T
     refine g_q (T := T) (i := 21) rfl (by kernel_rfl) (by kernel_rfl : (pbits 31 2097151).setIfInBounds 21 true = pbits 31 4194303) si_U (fun _ _ _ h => h) (wanted_yes rfl rfl (T.ev 2 rfl) (decide_eq_true h5)) rfl rfl rfl (fun _ _ _ _ _ => (rn_indexAddr (size := 1) i rfl (T.ev 1 rfl) (T.ev 0 rfl) ⟨_, Try.underlying22, by kernel_rfl⟩ rfl (by omega) (Su4.at0 (by omega)))) ?_; clear T ac; intro ac T
     refine g_q (T := T) (i := 22) rfl (by kernel_rfl) (by kernel_rfl : (pbits 31 4194303).setIfInBounds 22 true = pbits 31 8388607) si_U (fun _ _ _ h => h) (wanted_yes rfl rfl (T.ev 3 rfl) (decide_eq_true h5)) rfl rfl rfl (fun B w' hD hl hS => (rn_cell (Sp.ic0 Su4 (show Mem w noEx w' _ from hS) (.cons _ (subL (subL (List.sublist_append_right _ _)))) hkx) rfl (T.ev 0 rfl))) ?_; clear T ac; intro ac T
     refine g_q (T := T) (i := 23) rfl (by kernel_rfl) (by kernel_rfl : (pbits 31 8388607).setIfInBounds 23 true = pbits 31 16777215) si_U (fun _ _ _ h => h) (wanted_yes rfl rfl (T.ev 4 rfl) (decide_eq_true h5)) rfl rfl rfl (fun _ _ _ _ _ => (rn_move rfl (T.ev 25 rfl))) ?_; clear T ac; intro ac T
     refine g_q (T := T) (i := 24) rfl (by kernel_rfl) (by kernel_rfl : (pbits 31 16777215).setIfInBounds 24 true = pbits 31 33554431) si_U (fun _ _ _ h => h) (wanted_yes rfl rfl (T.ev 5 rfl) (decide_eq_true h5)) rfl rfl rfl (fun _ _ _ _ _ => (rn_move rfl (T.ev 29 rfl))) ?_; clear T ac; intro ac T
     refine g_q (T := T) (i := 25) rfl (by kernel_rfl) (by kernel_rfl : (pbits 31 33554431).setIfInBounds 25 true = pbits 31 67108863) si_U (fun _ _ _ h => h) (wanted_yes rfl rfl (T.ev 6 rfl) (decide_eq_true h5)) rfl rfl rfl (fun _ _ _ _ _ => (rn_sub rfl (T.ev 0 rfl) evc (by omega))) ?_; clear T ac; intro ac T
     refine g_q (T := T) (i := 26) rfl (by kernel_rfl) (by kernel_rfl : (pbits 31 67108863).setIfInBounds 26 true = pbits 31 134217727) si_U (fun _ _ _ h => h) (wanted_yes rfl rfl (T.ev 7 rfl) (decide_eq_true h5)) rfl rfl rfl (fun _ _ _ _ _ => (rn_indexAddr (size := 1) ip rfl (T.ev 2 rfl) (T.ev 0 rfl) ⟨_, Try.underlying22, by kernel_rfl⟩ hip1 (by omega) (Su4.at0 (by omega)))) ?_; clear T ac; intro ac T
     refine g_q (T := T) (i := 27) rfl (by kernel_rfl) (by kernel_rfl : (pbits 31 134217727).setIfInBounds 27 true = pbits 31 268435455) si_U (fun _ _ _ h => h) (wanted_yes rfl rfl (T.ev 8 rfl) (decide_eq_true h5)) rfl rfl rfl (fun B w' hD hl hS => (rn_cell (Sp.ic0 Su4 (show Mem w noEx w' _ from hS) (.cons _ (subL (subL (List.sublist_append_right _ _)))) hkp) rfl (T.ev 0 rfl))) ?_; clear T ac; intro ac T
     refine g_q (T := T) (i := 28) rfl (by kernel_rfl) (by kernel_rfl : (pbits 31 268435455).setIfInBounds 28 true = pbits 31 536870911) si_U (fun _ _ _ h => h) (wanted_yes rfl rfl (T.ev 9 rfl) (decide_eq_true h5)) rfl rfl rfl (fun _ _ _ _ _ => (rn_leq rfl (T.ev 5 rfl) (T.ev 0 rfl))) ?_; clear T ac; intro ac T
     refine g_q (T := T) (i := 29) rfl (by kernel_rfl) (by kernel_rfl : (pbits 31 536870911).setIfInBounds 29 true = pbits 31 1073741823) si_U (fun _ _ _ h => h) (wanted_yes rfl rfl (T.ev 13 rfl) (decide_eq_false h4)) rfl rfl rfl (fun _ _ _ _ _ => (rn_pick1 rfl (T.ev 10 rfl) (decide_eq_true h5) (T.ev 0 rfl))) ?_; clear T ac; intro ac T
     refine gq T 30 2147483647 rfl (fun _ _ _ _ _ => (rn_pick0 rfl (T.ev 14 rfl) (decide_eq_false h4) (T.ev 0 rfl))) ?_; clear T ac; intro ac T
     refine g_done (by kernel_rfl) ?_
     replace T := T.pick [0, 1, 2, 3, 4, 5, 6, 7, 8, 9, 10, 11, 12, 13, 14, 17, 18, 19, 20, 21, 22, 23, 24, 32, 33, 34, 35, 36] rfl
     exact ⟨(T.pick (E' := [(3, .pointer (some ⟨g1, 0, none⟩)), (6, .slice Au4 shu4.length cu4), (8, .slice Au5 LLu5.length cu5), (10, .slice A3 NR.length c3), (11, .int .i64 (i : Int)), (114, .bool (decide (x ≤ xp)))]) [23, 24, 25, 26, 27, 0] rfl).as (by (try rw [show (decide (x < 0)) = false from (decide_eq_false h3)]); (try rw [show (decide (((bu2.lows.length : Nat) : Int) ≤ x)) = false from (decide_eq_false h4)]); (try rw [show (decide (0 < (i : Int))) = true from (decide_eq_true h5)]); (try rfl)), M.mask [true] rfl⟩
    replace h5 := of_decide_eq_false h5
    refine g_pass (T := T) (i := 19) rfl (by kernel_rfl) (by kernel_rfl : (pbits 31 524287).setIfInBounds 19 true = pbits 31 1048575) si_U (fun _ _ _ h => h) (wanted_no rfl rfl (T.ev 0 rfl) (decide_eq_false h5)) rfl rfl rfl ?_; clear T ac; intro ac T
    refine g_pass (T := T) (i := 20) rfl (by kernel_rfl) (by kernel_rfl : (pbits 31 1048575).setIfInBounds 20 true = pbits 31 2097151) si_U (fun _ _ _ h => h) (wanted_no rfl rfl (T.ev 1 rfl) (decide_eq_false h5)) rfl rfl rfl ?_; clear T ac; intro ac T
    refine g_pass (T := T) (i := 21) rfl (by kernel_rfl) (by kernel_rfl : (pbits 31 2097151).setIfInBounds 21 true = pbits 31 4194303) si_U (fun _ _ _ h => h) (wanted_no rfl rfl (T.ev 2 rfl) (decide_eq_false h5)) rfl rfl rfl ?_; clear T ac; intro ac T
    refine g_pass (T := T) (i := 22) rfl (by kernel_rfl) (by kernel_rfl : (pbits 31 4194303).setIfInBounds 22 true = pbits 31 8388607) si_U (fun _ _ _ h => h) (wanted_no rfl rfl (T.ev 3 rfl) (decide_eq_false h5)) rfl rfl rfl ?_; clear T ac; intro ac T
    refine g_pass (T := T) (i := 23) rfl (by kernel_rfl) (by kernel_rfl : (pbits 31 8388607).setIfInBounds 23 true = pbits 31 16777215) si_U (fun _ _ _ h => h) (wanted_no rfl rfl (T.ev 4 rfl) (decide_eq_false h5)) rfl rfl rfl ?_; clear T ac; intro ac T
    refine g_pass (T := T) (i := 24) rfl (by kernel_rfl) (by kernel_rfl : (pbits 31 16777215).setIfInBounds 24 true = pbits 31 33554431) si_U (fun _ _ _ h => h) (wanted_no rfl rfl (T.ev 5 rfl) (decide_eq_false h5)) rfl rfl rfl ?_; clear T ac; intro ac T
    refine g_pass (T := T) (i := 25) rfl (by kernel_rfl) (by kernel_rfl : (pbits 31 33554431).setIfInBounds 25 true = pbits 31 67108863) si_U (fun _ _ _ h => h) (wanted_no rfl rfl (T.ev 6 rfl) (decide_eq_false h5)) rfl rfl rfl ?_; clear T ac; intro ac T
    refine g_pass (T := T) (i := 26) rfl (by kernel_rfl) (by kernel_rfl : (pbits 31 67108863).setIfInBounds 26 true = pbits 31 134217727) si_U (fun _ _ _ h => h) (wanted_no rfl rfl (T.ev 7 rfl) (decide_eq_false h5)) rfl rfl rfl ?_; clear T ac; intro ac T
    refine g_pass (T := T) (i := 27) rfl (by kernel_rfl) (by kernel_rfl : (pbits 31 134217727).setIfInBounds 27 true = pbits 31 268435455) si_U (fun _ _ _ h => h) (wanted_no rfl rfl (T.ev 8 rfl) (decide_eq_false h5)) rfl rfl rfl ?_; clear T ac; intro ac T
    refine g_pass (T := T) (i := 28) rfl (by kernel_rfl) (by kernel_rfl : (pbits 31 268435455).setIfInBounds 28 true = pbits 31 536870911) si_U (fun _ _ _ h => h) (wanted_no rfl rfl (T.ev 9 rfl) (decide_eq_false h5)) rfl rfl rfl ?_; clear T ac; intro ac T
    refine g_q (T := T) (i := 29) rfl (by kernel_rfl) (by kernel_rfl : (pbits 31 536870911).setIfInBounds 29 true = pbits 31 1073741823) si_U (fun _ _ _ h => h) (wanted_yes rfl rfl (T.ev 13 rfl) (decide_eq_false h4)) rfl rfl rfl (fun _ _ _ _ _ => (rn_pick0 rfl (T.ev 10 rfl) (decide_eq_false h5) evc)) ?_; clear T ac; intro ac T
    refine gq T 30 2147483647 rfl (fun _ _ _ _ _ => (rn_pick0 rfl (T.ev 14 rfl) (decide_eq_false h4) (T.ev 0 rfl))) ?_; clear T ac; intro ac T
    refine g_done (by kernel_rfl) ?_
    replace T := T.pick [0, 1, 2, 3, 4, 5, 6, 7, 8, 9, 10, 11, 12, 13, 14, 17, 18, 19, 20, 21, 22, 23, 24, 32, 33, 34, 35, 36] rfl
    exact ⟨(T.pick (E' := [(3, .pointer (some ⟨g1, 0, none⟩)), (6, .slice Au4 shu4.length cu4), (8, .slice Au5 LLu5.length cu5), (10, .slice A3 NR.length c3), (11, .int .i64 (i : Int)), (114, .bool false)]) [23, 24, 25, 26, 27, 0] rfl).as (by (try rw [show (decide (x < 0)) = false from (decide_eq_false h3)]); (try rw [show (decide (((bu2.lows.length : Nat) : Int) ≤ x)) = false from (decide_eq_false h4)]); (try rw [show (decide (0 < (i : Int))) = false from (decide_eq_false h5)]); (try rfl)), M.mask [true] rfl⟩
   clear T M
   rintro ac wc ⟨T, M⟩
   refine wp_cond_split (T.ev 5 rfl) ?_ ?_
   ·intro h6
    exfalso
    simp only [Bool.or_eq_true, Bool.and_eq_true, decide_eq_true_eq] at h6; rcases Nat.eq_zero_or_pos i with h0 | h0; omega; have h99 := (hip (by omega)).2.2; omega
   intro h6
   (try have h6' := h6; try simp only [Bool.and_eq_true, Bool.or_eq_true, Bool.not_eq_true', Bool.and_eq_false_imp, Bool.or_eq_false_iff, decide_eq_true_eq, decide_eq_false_iff_not] at h6')
   refine wp_skip ?_
   refine nm_then ?_
   refine wp_seq ?_
   refine wp_region_lit ?_
   refine lq T (rn_assign rfl evc) ?_; clear T ac; intro ac T
   refine wpList_nil ?_
   replace T := T.pick [0, 1, 2, 3, 4, 5] rfl
   refine nm_then ?_
   refine wp_block ?_
   refine wp_loop_n (fun mz ac wc => ∃ (k : Nat) (NR4 : List Int) (A4 : Option Addr) (c4 : Nat) (Io4 : List (Nat × BA)), mz = rw.length - k ∧ (k ≤ rw.length) ∧ (NearOk (tableP bu2) t NR4) ∧ (Sl 3 1 (.slice A4 NR4.length c4) NR4.length (ic NR4) Io4) ∧ Tm ac 205 [(3, .pointer (some ⟨g1, 0, none⟩)), (6, .slice Au4 shu4.length cu4), (8, .slice Au5 LLu5.length cu5), (10, .slice A4 NR4.length c4), (11, .int .i64 (i : Int)), (12, .int .i64 (k : Int))] ∧ Mem w noEx wc ((g1, .cells [.int .i64 bu2.first, .int .i64 bu2.step, .int .i64 bu2.span, .int .i64 bu2.press, .int .i64 bu2.note, .slice Au2 bu2.lows.length cu2, .slice Bu2 bu2.highs.length du2, .int .i64 bu2.t0, .int .i64 bu2.t1, .int .i64 bu2.r0, .int .i64 bu2.r1, .int .i64 bu2.u0, .int .i64 bu2.u1, .int .i64 bu2.d0, .int .i64 bu2.d1, .int .i64 bu2.a0, .int .i64 bu2.a1, .int .i64 bu2.b0, .int .i64 bu2.b1, .int .i64 bu2.le, .int .i64 bu2.me]) :: (Iu2 ++ Iu3 ++ Iu4 ++ Iu5 ++ Io4))) ?_ ?_
   ·exact ⟨_, 0, NR, A3, c3, Io, rfl, (Nat.zero_le _), hnr, hsl, T.pick [1, 2, 3, 4, 5, 0] rfl, M.mask [true] rfl⟩
   clear T M
   rintro mz ac wc ⟨k, NR4, A4, c4, Io4, hmm2, hk, hnr4, hsl4, T, M⟩
   refine wp_seq ?_
   refine wp_seq ?_
   refine wp_region_lit ?_
   refine lq T (rn_move rfl (T.ev 5 rfl)) ?_; clear T ac; intro ac T
   refine lq T (rn_move rfl (T.ev 3 rfl)) ?_; clear T ac; intro ac T
   refine lq T (rn_move rfl (T.ev 3 rfl)) ?_; clear T ac; intro ac T
   refine lq T (rn_move rfl (T.ev 7 rfl)) ?_; clear T ac; intro ac T
   refine lq T (rn_indexAddr (size := 1) i rfl (T.ev 1 rfl) (T.ev 0 rfl) ⟨_, Try.underlying22, by kernel_rfl⟩ rfl (by omega) (Su4.at0 (by omega))) ?_; clear T ac; intro ac T
   refine lq T (rn_cell (Sp.ic0 Su4 M (.cons _ (subL (subL (List.sublist_append_right _ _)))) hkx) rfl (T.ev 0 rfl)) ?_; clear T ac; intro ac T
   refine lq T (rn_indexAddr (size := 1) xi rfl (T.ev 4 rfl) (T.ev 0 rfl) ⟨_, Try.underlying62, by kernel_rfl⟩ hxi (by omega) (Su5.at0 (by omega))) ?_; clear T ac; intro ac T
   refine lq (v := (.slice Br rw.length dr)) T (rn_cell (Sp.lc0 Su5 M (.cons _ (subL (List.sublist_append_right _ _))) hkr) rfl (T.ev 0 rfl)) ?_; clear T ac; intro ac T
   refine lq T (rn_lenS rfl Try.underlying22 (T.ev 0 rfl)) ?_; clear T ac; intro ac T
   refine lq T (rn_lss rfl (T.ev 8 rfl) (T.ev 0 rfl)) ?_; clear T ac; intro ac T
   refine wpList_nil ?_
   replace T := T.pick [0, 10, 11, 12, 13, 14, 15] rfl
   refine nm_then ?_
   refine wp_if (T.ev 0 rfl) ?_ ?_
   ·intro h7
    obtain ⟨b4, o4, h4S⟩ := hsl4.spV (by rw [ic_length]; omega)
    have S4 := h4S w noEx
    have hn4 := hnr4.le
    obtain ⟨tv, hkt, -⟩ := ic_next (l := rw) (k := k) (by omega)
    refine wp_skip ?_
    refine nm_then ?_
    refine wp_seq ?_
    refine wp_block ?_
    refine cut_seq (fun ac wc => Tm ac 205 [(3, .pointer (some ⟨g1, 0, none⟩)), (6, .slice Au4 shu4.length cu4), (8, .slice Au5 LLu5.length cu5), (10, .slice A4 NR4.length c4), (11, .int .i64 (i : Int)), (12, .int .i64 (k : Int)), (143, .bool ((decide (tv = 1)) && (decide ((placeP NR4 (k : Int)) < 0))))] ∧ Mem w noEx wc ((g1, .cells [.int .i64 bu2.first, .int .i64 bu2.step, .int .i64 bu2.span, .int .i64 bu2.press, .int .i64 bu2.note, .slice Au2 bu2.lows.length cu2, .slice Bu2 bu2.highs.length du2, .int .i64 bu2.t0, .int .i64 bu2.t1, .int .i64 bu2.r0, .int .i64 bu2.r1, .int .i64 bu2.u0, .int .i64 bu2.u1, .int .i64 bu2.d0, .int .i64 bu2.d1, .int .i64 bu2.a0, .int .i64 bu2.a1, .int .i64 bu2.b0, .int .i64 bu2.b1, .int .i64 bu2.le, .int .i64 bu2.me]) :: (Iu2 ++ Iu3 ++ Iu4 ++ Iu5 ++ Io4))) ?_ ?_
    ·refine wp_region_lit ?_
     refine lq T (rn_move rfl (T.ev 3 rfl)) ?_; clear T ac; intro ac T
     refine lq T (rn_move rfl (T.ev 3 rfl)) ?_; clear T ac; intro ac T
     refine lq T (rn_move rfl (T.ev 7 rfl)) ?_; clear T ac; intro ac T
     refine lq T (rn_indexAddr (size := 1) i rfl (T.ev 1 rfl) (T.ev 0 rfl) ⟨_, Try.underlying22, by kernel_rfl⟩ rfl (by omega) (Su4.at0 (by omega))) ?_; clear T ac; intro ac T
     refine lq T (rn_cell (Sp.ic0 Su4 M (.cons _ (subL (subL (List.sublist_append_right _ _)))) hkx) rfl (T.ev 0 rfl)) ?_; clear T ac; intro ac T
     refine lq T (rn_indexAddr (size := 1) xi rfl (T.ev 4 rfl) (T.ev 0 rfl) ⟨_, Try.underlying62, by kernel_rfl⟩ hxi (by omega) (Su5.at0 (by omega))) ?_; clear T ac; intro ac T
     refine lq (v := (.slice Br rw.length dr)) T (rn_cell (Sp.lc0 Su5 M (.cons _ (subL (List.sublist_append_right _ _))) hkr) rfl (T.ev 0 rfl)) ?_; clear T ac; intro ac T
     refine lq T (rn_move rfl (T.ev 13 rfl)) ?_; clear T ac; intro ac T
     refine lq T (rn_indexAddr (size := 1) k rfl (T.ev 1 rfl) (T.ev 0 rfl) ⟨_, Try.underlying22, by kernel_rfl⟩ rfl (by omega) (Sr.at0 (by omega))) ?_; clear T ac; intro ac T
     refine lq T (rn_cell (Sp.ic0 Sr M (.cons _ (subL (List.sublist_append_right _ _))) hkt) rfl (T.ev 0 rfl)) ?_; clear T ac; intro ac T
     refine lq T (rn_eql rfl (T.ev 0 rfl) evc) ?_; clear T ac; intro ac T
     refine lq T (rn_move rfl (T.ev 0 rfl)) ?_; clear T ac; intro ac T
     rcases Bool.eq_false_or_eq_true (decide (tv = 1)) with h8 | h8
     ·replace h8 := of_decide_eq_true h8
      refine lw T (wanted_yes rfl rfl (T.ev 0 rfl) (decide_eq_true h8)) (rn_move rfl (T.ev 16 rfl)) ?_; clear T ac; intro ac T
      refine lw T (wanted_yes rfl rfl (T.ev 1 rfl) (decide_eq_true h8)) (rn_move rfl (T.ev 19 rfl)) ?_; clear T ac; intro ac T
      refine l_w (wanted_yes rfl rfl (T.ev 2 rfl) (decide_eq_true h8)) ?_; intro K hK
      refine ow_call (first := []) (cap := []) T rfl rfl rfl rfl evf (.cons (T.ev 1 rfl) (.cons (T.ev 0 rfl) .nil)) Try.func30 rfl rfl ?_
      refine Calls.mono (place_any _ _ _ NR4 (k : Int) _ (S4.rd M (.cons _ (List.sublist_append_right _ _))) (by omega)) ?_
      clear T
      rintro e wc ⟨rfl, hb⟩
      intro ac T
      replace M := M.call hb; clear hb
      refine sh_out hK _ _ ?_; clear hK K
      refine lw T (wanted_yes rfl rfl (T.ev 3 rfl) (decide_eq_true h8)) (rn_lss rfl (T.ev 0 rfl) evc) ?_; clear T ac; intro ac T
      refine lq T (rn_pick1 rfl (T.ev 4 rfl) (decide_eq_true h8) (T.ev 0 rfl)) ?_; clear T ac; intro ac T
      refine wpList_nil ?_
      replace T := T.pick [0, 1, 2, 3, 4, 18, 19, 20, 21, 22, 23] rfl
      exact ⟨(T.pick (E' := [(3, .pointer (some ⟨g1, 0, none⟩)), (6, .slice Au4 shu4.length cu4), (8, .slice Au5 LLu5.length cu5), (10, .slice A4 NR4.length c4), (11, .int .i64 (i : Int)), (12, .int .i64 (k : Int)), (143, .bool (decide ((placeP NR4 (k : Int)) < 0)))]) [5, 6, 7, 8, 9, 10, 0] rfl).as (by (try rw [show (decide (tv = 1)) = true from (decide_eq_true h8)]); (try rfl)), M.mask [true] rfl⟩
     replace h8 := of_decide_eq_false h8
     refine lp T (wanted_no rfl rfl (T.ev 0 rfl) (decide_eq_false h8)) ?_; clear T ac; intro ac T
     refine lp T (wanted_no rfl rfl (T.ev 1 rfl) (decide_eq_false h8)) ?_; clear T ac; intro ac T
     refine lp T (wanted_no rfl rfl (T.ev 2 rfl) (decide_eq_false h8)) ?_; clear T ac; intro ac T
     refine lp T (wanted_no rfl rfl (T.ev 3 rfl) (decide_eq_false h8)) ?_; clear T ac; intro ac T
     refine lq T (rn_pick0 rfl (T.ev 4 rfl) (decide_eq_false h8) evc) ?_; clear T ac; intro ac T
     refine wpList_nil ?_
     replace T := T.pick [0, 1, 2, 3, 4, 18, 19, 20, 21, 22, 23] rfl
     exact ⟨(T.pick (E' := [(3, .pointer (some ⟨g1, 0, none⟩)), (6, .slice Au4 shu4.length cu4), (8, .slice Au5 LLu5.length cu5), (10, .slice A4 NR4.length c4), (11, .int .i64 (i : Int)), (12, .int .i64 (k : Int)), (143, .bool false)]) [5, 6, 7, 8, 9, 10, 0] rfl).as (by (try rw [show (decide (tv = 1)) = false from (decide_eq_false h8)]); (try rfl)), M.mask [true] rfl⟩
    clear T M
    rintro ac wc ⟨T, M⟩
    refine wp_cond_split (T.ev 6 rfl) ?_ ?_
    ·intro h9
     (try have h9' := h9; try simp only [Bool.and_eq_true, Bool.or_eq_true, Bool.not_eq_true', Bool.and_eq_false_imp, Bool.or_eq_false_iff, decide_eq_true_eq, decide_eq_false_iff_not] at h9')
     refine wp_region_lit ?_
     refine lq T (rn_move rfl (T.ev 3 rfl)) ?_; clear T ac; intro ac T
     refine lq T (rn_move rfl (T.ev 6 rfl)) ?_; clear T ac; intro ac T
     refine l_w rfl ?_; intro K hK
     refine ow_bs (e := 3) [.int .i64 (k : Int)] M T rfl rfl rfl rfl (.cons (T.ev 0 rfl) .nil) (fun _ => by kernel_rfl) ?_; clear M T; intro g2 wc ac M T
     refine sh_out hK _ _ ?_; clear hK K
     refine l_w rfl ?_; intro K hK
     refine ow_app (((g2, .cells [.int .i64 (k : Int)]) :: (g1, .cells [.int .i64 bu2.first, .int .i64 bu2.step, .int .i64 bu2.span, .int .i64 bu2.press, .int .i64 bu2.note, .slice Au2 bu2.lows.length cu2, .slice Bu2 bu2.highs.length du2, .int .i64 bu2.t0, .int .i64 bu2.t1, .int .i64 bu2.r0, .int .i64 bu2.r1, .int .i64 bu2.u0, .int .i64 bu2.u1, .int .i64 bu2.d0, .int .i64 bu2.d1, .int .i64 bu2.a0, .int .i64 bu2.a1, .int .i64 bu2.b0, .int .i64 bu2.b1, .int .i64 bu2.le, .int .i64 bu2.me]) :: (Iu2 ++ Iu3 ++ Iu4 ++ Iu5))) Try.info3 hsl4 M (by first | rfl | simp) T rfl rfl rfl rfl Try.underlying22 rfl rfl rfl (by omega) (T.ev 2 rfl) (T.ev 0 rfl) (nthE_mem (i := 0) rfl) rfl rfl ?_; clear M T; intro ga1 cga1 wc ac M T
     refine sh_out hK _ _ ?_; clear hK K
     refine l_q (v := (.slice (some ⟨ga1, 0, none⟩) (NR4.length + 1) cga1)) (T.pick [0, 1, 2, 3, 4, 5, 6, 8, 9, 10] rfl) rfl rfl rfl rfl (rn_assign rfl (T.ev 0 rfl)) ?_; clear T ac; intro ac T
     refine wpList_nil ?_
     replace T := T.pick [0, 5, 6, 7, 8, 9] rfl
     replace M := M.mask [true, false, true] rfl
     refine nm_blk ?_
     refine nm_then ?_
     refine wp_region_lit ?_
     refine lq T (rn_move rfl (T.ev 5 rfl)) ?_; clear T ac; intro ac T
     refine lq T (rn_add rfl (T.ev 0 rfl) evc (by omega)) ?_; clear T ac; intro ac T
     refine l_q (v := (.int .i64 ((k : Int) + 1))) (T.pick [0, 1, 2, 3, 4, 5, 6] rfl) rfl rfl rfl rfl (rn_assign rfl (T.ev 0 rfl)) ?_; clear T ac; intro ac T
     refine wpList_nil ?_
     replace T := T.pick [0, 3, 4, 5, 6, 7] rfl
     refine nm_then ?_
     have e9 : NR4.length + 1 = (NR4 ++ [(k : Int)]).length := by simp
     have e8 : ((ic NR4) ++ [.int .i64 (k : Int)]) = ic (NR4 ++ [(k : Int)]) := by rw [← ic_snoc]
     rw [e9, e8] at M
     rw [e9] at T
     clear e9 e8
     exact ⟨_, by omega, k + 1, (NR4 ++ [(k : Int)]), _, _, [(ga1, .row 3 1 (NR4 ++ [(k : Int)]).length (ic (NR4 ++ [(k : Int)])) cga1)], rfl, (by omega), (hnr4.snoc (List.mem_of_getElem? htx) (by omega) (tab_is hLu5 hkr hkt (by omega)) (by omega)), (Sl.row _ _ _ _ _ _), T.pick [2, 3, 4, 1, 5, 0] rfl, (Mem.spin [(g1, .cells [.int .i64 bu2.first, .int .i64 bu2.step, .int .i64 bu2.span, .int .i64 bu2.press, .int .i64 bu2.note, .slice Au2 bu2.lows.length cu2, .slice Bu2 bu2.highs.length du2, .int .i64 bu2.t0, .int .i64 bu2.t1, .int .i64 bu2.r0, .int .i64 bu2.r1, .int .i64 bu2.u0, .int .i64 bu2.u1, .int .i64 bu2.d0, .int .i64 bu2.d1, .int .i64 bu2.a0, .int .i64 bu2.a1, .int .i64 bu2.b0, .int .i64 bu2.b1, .int .i64 bu2.le, .int .i64 bu2.me])] [(ga1, .row 3 1 (NR4 ++ [(k : Int)]).length (ic (NR4 ++ [(k : Int)])) cga1)] (Iu2 ++ Iu3 ++ Iu4 ++ Iu5) (M.permT [1, 0] 2 rfl rfl rfl rfl))⟩
    intro h9
    (try have h9' := h9; try simp only [Bool.and_eq_true, Bool.or_eq_true, Bool.not_eq_true', Bool.and_eq_false_imp, Bool.or_eq_false_iff, decide_eq_true_eq, decide_eq_false_iff_not] at h9')
    refine wp_skip ?_
    refine nm_blk ?_
    refine nm_then ?_
    refine wp_region_lit ?_
    refine lq T (rn_move rfl (T.ev 5 rfl)) ?_; clear T ac; intro ac T
    refine lq T (rn_add rfl (T.ev 0 rfl) evc (by omega)) ?_; clear T ac; intro ac T
    refine l_q (v := (.int .i64 ((k : Int) + 1))) (T.pick [0, 1, 2, 3, 4, 5, 6, 8] rfl) rfl rfl rfl rfl (rn_assign rfl (T.ev 0 rfl)) ?_; clear T ac; intro ac T
    refine wpList_nil ?_
    replace T := T.pick [0, 3, 4, 5, 6, 7] rfl
    refine nm_then ?_
    exact ⟨_, by omega, k + 1, NR4, _, _, Io4, rfl, (by omega), hnr4, hsl4, T.pick [1, 2, 3, 4, 5, 0] rfl, M⟩
   intro h7
   refine wp_exit ?_
   refine ex_then ?_
   refine ex_then ?_
   refine ex_hit ?_
   refine nm_blk ?_
   refine nm_then ?_
   refine wp_region_lit ?_
   refine lq T (rn_move rfl (T.ev 5 rfl)) ?_; clear T ac; intro ac T
   refine lq T (rn_add rfl (T.ev 0 rfl) evc (by omega)) ?_; clear T ac; intro ac T
   refine l_q (v := (.int .i64 ((i : Int) + 1))) (T.pick [0, 1, 2, 3, 4, 5, 6, 8] rfl) rfl rfl rfl rfl (rn_assign rfl (T.ev 0 rfl)) ?_; clear T ac; intro ac T
   refine wpList_nil ?_
   replace T := T.pick [0, 4, 5, 6, 7] rfl
   refine nm_then ?_
   exact ⟨_, by omega, i + 1, NR4, _, _, Io4, rfl, (by omega), hnr4, hsl4, T.pick [1, 2, 3, 4, 0] rfl, M⟩
  intro h2
  have hnle := hnr.le
  have hfew := hw.few
  refine wp_exit ?_
  refine ex_then ?_
  refine ex_then ?_
  refine ex_hit ?_
  refine nm_then ?_
  refine wp_seq ?_
  refine wp_seq ?_
  refine wp_region_lit ?_
  refine lq T (rn_move rfl (T.ev 4 rfl)) ?_; clear T ac; intro ac T
  refine lq T (rn_lenS rfl Try.underlying22 (T.ev 0 rfl)) ?_; clear T ac; intro ac T
  refine lq T (rn_move rfl (T.ev 4 rfl)) ?_; clear T ac; intro ac T
  refine lq T (rn_lenS rfl Try.underlying22 (T.ev 0 rfl)) ?_; clear T ac; intro ac T
  refine lq T (rn_geq rfl (T.ev 2 rfl) (T.ev 0 rfl)) ?_; clear T ac; intro ac T
  refine wpList_nil ?_
  replace T := T.pick [0, 6, 7] rfl
  refine nm_then ?_
  refine wp_if (T.ev 0 rfl) ?_ ?_
  ·intro h10
   exfalso
   omega
  intro h10
  refine wp_skip ?_
  refine nm_then ?_
  refine wp_seq ?_
  refine wp_seq ?_
  refine wp_region_lit ?_
  refine lq T (rn_assign rfl evc) ?_; clear T ac; intro ac T
  refine wpList_nil ?_
  replace T := T.pick [0, 2, 3] rfl
  refine nm_then ?_
  refine wp_block ?_
  refine wp_loop_n (fun mz ac wc => ∃ (gone : Nat), mz = shu4.length - gone ∧ (gone ≤ shu4.length) ∧ Tm ac 205 [(3, .pointer (some ⟨g1, 0, none⟩)), (6, .slice Au4 shu4.length cu4), (13, .int .i64 (gone : Int))] ∧ Mem w noEx wc ((g1, .cells [.int .i64 bu2.first, .int .i64 bu2.step, .int .i64 bu2.span, .int .i64 bu2.press, .int .i64 bu2.note, .slice Au2 bu2.lows.length cu2, .slice Bu2 bu2.highs.length du2, .int .i64 bu2.t0, .int .i64 bu2.t1, .int .i64 bu2.r0, .int .i64 bu2.r1, .int .i64 bu2.u0, .int .i64 bu2.u1, .int .i64 bu2.d0, .int .i64 bu2.d1, .int .i64 bu2.a0, .int .i64 bu2.a1, .int .i64 bu2.b0, .int .i64 bu2.b1, .int .i64 bu2.le, .int .i64 bu2.me]) :: (Iu2 ++ Iu3 ++ Iu4 ++ Iu5 ++ Io))) ?_ ?_
  ·exact ⟨_, 0, rfl, (Nat.zero_le _), T.pick [1, 2, 0] rfl, M.mask [true] rfl⟩
  clear T M
  rintro mz ac wc ⟨gone, hmm3, hgo, T, M⟩
  refine wp_seq ?_
  refine wp_seq ?_
  refine wp_region_lit ?_
  refine lq T (rn_move rfl (T.ev 2 rfl)) ?_; clear T ac; intro ac T
  refine lq T (rn_move rfl (T.ev 2 rfl)) ?_; clear T ac; intro ac T
  refine lq T (rn_lenS rfl Try.underlying22 (T.ev 0 rfl)) ?_; clear T ac; intro ac T
  refine lq T (rn_lss rfl (T.ev 2 rfl) (T.ev 0 rfl)) ?_; clear T ac; intro ac T
  refine wpList_nil ?_
  replace T := T.pick [0, 4, 5, 6] rfl
  refine nm_then ?_
  refine wp_if (T.ev 0 rfl) ?_ ?_
  ·intro h11
   refine wp_skip ?_
   refine nm_then ?_
   refine wp_seq ?_
   refine wp_block ?_
   refine wp_seq ?_
   refine wp_region_lit ?_
   refine lq T (rn_rowO (Mem.nth M 0 rfl) rfl (T.ev 1 rfl) rfl) ?_; clear T ac; intro ac T
   refine l_w rfl ?_; intro K hK
   refine ow_call (first := []) (cap := []) T rfl rfl rfl rfl evf (.cons (T.ev 0 rfl) .nil) Try.func31 rfl rfl ?_
   refine Calls.mono (copyBox_any (bu2) _ _ _ _ _ (SAu2.rd M (.cons _ (subL (subL (subL (subL (List.Sublist.refl _))))))) (SBu2.rd M (.cons _ (subL (subL (subL (subL (List.Sublist.refl _))))))) (by show bu2.lows.length ≤ _; omega) (by show bu2.highs.length ≤ _; omega)) ?_
   clear T
   rintro e wc ⟨g1u9, c1u9, y1u9, g2u9, c2u9, y2u9, rfl, N⟩
   intro ac T
   replace M := M.join N
   clear N
   replace M : Mem w noEx wc ((g1u9, .cells (sc bu2.lows ++ y1u9)) :: (g2u9, .cells (sc bu2.highs ++ y2u9)) :: (g1, .cells [.int .i64 bu2.first, .int .i64 bu2.step, .int .i64 bu2.span, .int .i64 bu2.press, .int .i64 bu2.note, .slice Au2 bu2.lows.length cu2, .slice Bu2 bu2.highs.length du2, .int .i64 bu2.t0, .int .i64 bu2.t1, .int .i64 bu2.r0, .int .i64 bu2.r1, .int .i64 bu2.u0, .int .i64 bu2.u1, .int .i64 bu2.d0, .int .i64 bu2.d1, .int .i64 bu2.a0, .int .i64 bu2.a1, .int .i64 bu2.b0, .int .i64 bu2.b1, .int .i64 bu2.le, .int .i64 bu2.me]) :: (Iu2 ++ Iu3 ++ Iu4 ++ Iu5 ++ Io)) := M
   have Sc1u9 := Sp.pre (w := w) (ex := noEx) (size := 4) (n := bu2.lows.length) (g := g1u9) (xs := sc bu2.lows) (ys := y1u9) (by simp [sc_length])
   have Sc2u9 := Sp.pre (w := w) (ex := noEx) (size := 4) (n := bu2.highs.length) (g := g2u9) (xs := sc bu2.highs) (ys := y2u9) (by simp [sc_length])
   refine sh_out hK _ _ ?_; clear hK K
   refine l_w rfl ?_; intro K hK
   refine ow_al M T rfl rfl rfl rfl ?_; clear M T; intro g3 wc ac M T
   refine sh_out hK _ _ ?_; clear hK K
   refine l_w rfl ?_; intro K hK
   refine ow_stO M T rfl rfl (T.ev 0 rfl) (T.ev 1 rfl) rfl .head rfl (by simp) rfl (by kernel_rfl) ?_; clear M T; intro wc ac M T
   refine sh_out hK _ _ ?_; clear hK K
   refine wpList_nil ?_
   replace T := T.pick [0, 4, 5, 6] rfl
   refine nm_then ?_
   refine wp_seq ?_
   refine wp_region_lit ?_
   refine lq (v := (.pointer (some ⟨g3, 5, none⟩))) T (rn_fieldAddr (off := 5) rfl (T.ev 0 rfl) (fun _ _ _ => by kernel_rfl)) ?_; clear T ac; intro ac T
   refine l_w rfl ?_; intro K hK
   refine ow_stO M T rfl rfl (T.ev 0 rfl) evc rfl .head rfl (by simp) rfl (by kernel_rfl) ?_; clear M T; intro wc ac M T
   refine sh_out hK _ _ ?_; clear hK K
   refine wpList_nil ?_
   replace T := T.pick [1, 2, 3, 4] rfl
   refine nm_then ?_
   refine wp_seq ?_
   refine wp_seq ?_
   refine wp_region_lit ?_
   refine lq T (rn_assign rfl evc) ?_; clear T ac; intro ac T
   refine wpList_nil ?_
   refine nm_then ?_
   refine wp_block ?_
   refine wp_loop_n (fun mz ac wc => ∃ (k : Nat) (OL : List Snd) (A5 : Option Addr) (c5 : Nat) (Io5 : List (Nat × BA)), mz = shu4.length - k ∧ (k ≤ shu4.length) ∧ (OL = goneL bu2.lows t gone k) ∧ (OL.length ≤ k) ∧ (Sl 48 4 (.slice A5 OL.length c5) OL.length (sc OL) Io5) ∧ Tm ac 205 [(3, .pointer (some ⟨g1, 0, none⟩)), (6, .slice Au4 shu4.length cu4), (13, .int .i64 (gone : Int)), (14, .pointer (some ⟨g3, 0, none⟩)), (15, .int .i64 (k : Int))] ∧ Mem w noEx wc ((g3, .cells [.int .i64 bu2.first, .int .i64 bu2.step, .int .i64 bu2.span, .int .i64 bu2.press, .int .i64 bu2.note, .slice A5 OL.length c5, .slice (some ⟨g2u9, 0, none⟩) bu2.highs.length c2u9, .int .i64 bu2.t0, .int .i64 bu2.t1, .int .i64 bu2.r0, .int .i64 bu2.r1, .int .i64 bu2.u0, .int .i64 bu2.u1, .int .i64 bu2.d0, .int .i64 bu2.d1, .int .i64 bu2.a0, .int .i64 bu2.a1, .int .i64 bu2.b0, .int .i64 bu2.b1, .int .i64 bu2.le, .int .i64 bu2.me]) :: (g1u9, .cells (sc bu2.lows ++ y1u9)) :: (g2u9, .cells (sc bu2.highs ++ y2u9)) :: (g1, .cells [.int .i64 bu2.first, .int .i64 bu2.step, .int .i64 bu2.span, .int .i64 bu2.press, .int .i64 bu2.note, .slice Au2 bu2.lows.length cu2, .slice Bu2 bu2.highs.length du2, .int .i64 bu2.t0, .int .i64 bu2.t1, .int .i64 bu2.r0, .int .i64 bu2.r1, .int .i64 bu2.u0, .int .i64 bu2.u1, .int .i64 bu2.d0, .int .i64 bu2.d1, .int .i64 bu2.a0, .int .i64 bu2.a1, .int .i64 bu2.b0, .int .i64 bu2.b1, .int .i64 bu2.le, .int .i64 bu2.me]) :: (Iu2 ++ Iu3 ++ Iu4 ++ Iu5 ++ Io ++ Io5))) ?_ ?_
   ·exact ⟨_, 0, [], none, 0, [], rfl, (Nat.zero_le _), rfl, (Nat.le_refl _), (Sl.nil _ _), T.pick [2, 3, 4, 1, 0] rfl, (by simp only [List.append_nil]; exact M)⟩
   clear T M
   rintro mz ac wc ⟨k, OL, A5, c5, Io5, hmm4, hk, hO, hOl, hsl5, T, M⟩
   refine wp_seq ?_
   refine wp_seq ?_
   refine wp_region_lit ?_
   refine lq T (rn_move rfl (T.ev 4 rfl)) ?_; clear T ac; intro ac T
   refine lq T (rn_move rfl (T.ev 2 rfl)) ?_; clear T ac; intro ac T
   refine lq T (rn_lenS rfl Try.underlying22 (T.ev 0 rfl)) ?_; clear T ac; intro ac T
   refine lq T (rn_lss rfl (T.ev 2 rfl) (T.ev 0 rfl)) ?_; clear T ac; intro ac T
   refine wpList_nil ?_
   replace T := T.pick [0, 4, 5, 6, 7, 8] rfl
   refine nm_then ?_
   refine wp_if (T.ev 0 rfl) ?_ ?_
   ·intro h12
    obtain ⟨x, hkx, -⟩ := ic_next (l := shu4) (k := k) (by omega)
    obtain ⟨xi, hxi, htx, hxl⟩ := wit_at hw hs9 hkx
    obtain ⟨y, hky, -⟩ := sc_next (l := bu2.lows) (k := xi) hxl
    refine wp_skip ?_
    refine nm_then ?_
    refine wp_seq ?_
    refine wp_block ?_
    refine wp_seq ?_
    refine wp_region_lit ?_
    refine lq T (rn_move rfl (T.ev 5 rfl)) ?_; clear T ac; intro ac T
    refine lq T (rn_move rfl (T.ev 4 rfl)) ?_; clear T ac; intro ac T
    refine lq T (rn_neq rfl (T.ev 1 rfl) (T.ev 0 rfl)) ?_; clear T ac; intro ac T
    refine wpList_nil ?_
    replace T := T.pick [0, 4, 5, 6, 7, 8] rfl
    refine nm_then ?_
    refine wp_ifn (T.ev 0 rfl) ?_ ?_
    ·intro h13
     refine g_start2 M (M.perm [1, 2, 3] rfl rfl) 14 (by kernel_rfl) rfl (by kernel_rfl) ?_
     clear M; intro wc M
     refine g_addG 13 ((M.mask [true, true, true, true] rfl).sub (List.Sublist.cons_cons _ (List.Sublist.cons_cons _ (List.Sublist.cons_cons _ (List.Sublist.cons_cons _ (List.sublist_append_left _ _)))))) ?_
     refine gq (v := (.pointer (some ⟨g3, 5, none⟩))) T 0 1 rfl (fun _ _ _ _ _ => (rn_fieldAddr (off := 5) rfl (T.ev 4 rfl) (fun _ _ _ => by kernel_rfl))) ?_; clear T ac; intro ac T
     refine gq T 1 3 rfl (fun B w' hD hl hS => (rn_one (Mem.nth (show Mem w noEx w' _ from ((MA.lft hS) (hD.wait (i := 1) (m := 13) (by kernel_rfl) hl))) 0 rfl) rfl (T.ev 0 rfl) rfl)) ?_; clear T ac; intro ac T
     refine gq (v := (.pointer (some ⟨g1, 5, none⟩))) T 2 7 rfl (fun _ _ _ _ _ => (rn_fieldAddr (off := 5) rfl (T.ev 3 rfl) (fun _ _ _ => by kernel_rfl))) ?_; clear T ac; intro ac T
     refine gq T 3 15 rfl (fun B w' hD hl hS => (rn_one (Mem.nth (show Mem w noEx w' _ from ((MA.lft hS) (hD.wait (i := 3) (m := 13) (by kernel_rfl) hl))) 3 rfl) rfl (T.ev 0 rfl) rfl)) ?_; clear T ac; intro ac T
     refine gq T 4 31 rfl (fun _ _ _ _ _ => (rn_move rfl (T.ev 6 rfl))) ?_; clear T ac; intro ac T
     refine gq T 5 63 rfl (fun _ _ _ _ _ => (rn_move rfl (T.ev 10 rfl))) ?_; clear T ac; intro ac T
     refine gq T 6 127 rfl (fun _ _ _ _ _ => (rn_indexAddr (size := 1) k rfl (T.ev 1 rfl) (T.ev 0 rfl) ⟨_, Try.underlying22, by kernel_rfl⟩ rfl (by omega) (Su4.at0 (by omega)))) ?_; clear T ac; intro ac T
     refine gq T 7 255 rfl (fun B w' hD hl hS => (rn_cell (Sp.ic0 Su4 (show Mem w noEx w' _ from ((MA.lft hS) (hD.wait (i := 7) (m := 13) (by kernel_rfl) hl))) (.cons _ (.cons _ (.cons _ (.cons _ (subL (subL (List.sublist_append_right _ _))))))) hkx) rfl (T.ev 0 rfl))) ?_; clear T ac; intro ac T
     refine gq T 8 511 rfl (fun _ _ _ _ _ => (rn_indexAddr (size := 4) xi rfl (T.ev 4 rfl) (T.ev 0 rfl) ⟨_, Try.underlying38, by kernel_rfl⟩ hxi (by omega) (SAu2.at0 (by omega)))) ?_; clear T ac; intro ac T
     refine gq (v := (.agg #[.int .i64 y.t0, .int .i64 y.t1, .int .i64 y.s0, .int .i64 y.s1])) T 9 1023 rfl (fun B w' hD hl hS => (rn_rowat (Sp.scR4 SAu2 (show Mem w noEx w' _ from ((MA.lft hS) (hD.wait (i := 9) (m := 13) (by kernel_rfl) hl))) (.cons _ (.cons _ (.cons _ (.cons _ (subL (subL (subL (subL (List.Sublist.refl _))))))))) hky) rfl (T.ev 0 rfl) rfl)) ?_; clear T ac; intro ac T
     refine gw 10 2047 ?_; intro K hK
     refine ow_bs (e := 48) [.int .i64 y.t0, .int .i64 y.t1, .int .i64 y.s0, .int .i64 y.s1] M T rfl rfl rfl rfl (.cons (T.ev 0 rfl) .nil) (fun _ => by kernel_rfl) ?_; clear M T; intro g4 wc ac M T
     refine sh_out hK _ _ (MA.mk (fun _ => (M.mask [false, true, true, true, true] rfl).sub (List.Sublist.cons_cons _ (List.Sublist.cons_cons _ (List.Sublist.cons_cons _ (List.Sublist.cons_cons _ (List.sublist_append_left _ _)))))) (M.perm [2, 3, 4] rfl rfl)) ?_; clear hK K
     refine gw 11 4095 ?_; intro K hK
     refine ow_app (((g4, .cells [.int .i64 y.t0, .int .i64 y.t1, .int .i64 y.s0, .int .i64 y.s1]) :: (g3, .cells [.int .i64 bu2.first, .int .i64 bu2.step, .int .i64 bu2.span, .int .i64 bu2.press, .int .i64 bu2.note, .slice A5 OL.length c5, .slice (some ⟨g2u9, 0, none⟩) bu2.highs.length c2u9, .int .i64 bu2.t0, .int .i64 bu2.t1, .int .i64 bu2.r0, .int .i64 bu2.r1, .int .i64 bu2.u0, .int .i64 bu2.u1, .int .i64 bu2.d0, .int .i64 bu2.d1, .int .i64 bu2.a0, .int .i64 bu2.a1, .int .i64 bu2.b0, .int .i64 bu2.b1, .int .i64 bu2.le, .int .i64 bu2.me]) :: (g1u9, .cells (sc bu2.lows ++ y1u9)) :: (g2u9, .cells (sc bu2.highs ++ y2u9)) :: (g1, .cells [.int .i64 bu2.first, .int .i64 bu2.step, .int .i64 bu2.span, .int .i64 bu2.press, .int .i64 bu2.note, .slice Au2 bu2.lows.length cu2, .slice Bu2 bu2.highs.length du2, .int .i64 bu2.t0, .int .i64 bu2.t1, .int .i64 bu2.r0, .int .i64 bu2.r1, .int .i64 bu2.u0, .int .i64 bu2.u1, .int .i64 bu2.d0, .int .i64 bu2.d1, .int .i64 bu2.a0, .int .i64 bu2.a1, .int .i64 bu2.b0, .int .i64 bu2.b1, .int .i64 bu2.le, .int .i64 bu2.me]) :: (Iu2 ++ Iu3 ++ Iu4 ++ Iu5 ++ Io))) Try.info48 hsl5 M (by first | rfl | simp) T rfl rfl rfl rfl Try.underlying38 rfl rfl rfl (by omega) (T.ev 9 rfl) (T.ev 0 rfl) (nthE_mem (i := 0) rfl) rfl rfl ?_; clear M T; intro ga2 cga2 wc ac M T
     refine sh_out hK _ _ (MA.mk (fun _ => M.mask [false, false, true, true, true, true] rfl) (M.perm [3, 4, 5] rfl rfl)) ?_; clear hK K
     refine gq (v := (.pointer (some ⟨g3, 5, none⟩))) T 12 8191 rfl (fun _ _ _ _ _ => (rn_fieldAddr (off := 5) rfl (T.ev 16 rfl) (fun _ _ _ => by kernel_rfl))) ?_; clear T ac; intro ac T
     refine gw 13 16383 ?_; intro K hK
     refine ow_stO M T rfl rfl (T.ev 0 rfl) (T.ev 1 rfl) rfl (.tail (.tail .head)) rfl (by simp) rfl (by kernel_rfl) ?_; clear M T; intro wc ac M T
     refine sh_out hK _ _ (MA.mk (fun h => (no_of (by kernel_rfl) h).elim) (M.perm [3, 4, 5] rfl rfl)) ?_; clear hK K
     refine g_done (by kernel_rfl) ?_
     replace T := T.pick [14, 15, 16, 17, 18] rfl
     replace M := M.mask [true, false, true, true, true, true] rfl
     refine nm_blk ?_
     refine nm_then ?_
     refine wp_region_lit ?_
     refine lq T (rn_move rfl (T.ev 4 rfl)) ?_; clear T ac; intro ac T
     refine lq T (rn_add rfl (T.ev 0 rfl) evc (by omega)) ?_; clear T ac; intro ac T
     refine l_q (v := (.int .i64 ((k : Int) + 1))) (T.pick [0, 1, 2, 3, 4, 5] rfl) rfl rfl rfl rfl (rn_assign rfl (T.ev 0 rfl)) ?_; clear T ac; intro ac T
     refine wpList_nil ?_
     replace T := T.pick [0, 3, 4, 5, 6] rfl
     refine nm_then ?_
     have e9 : OL.length + 1 = (OL ++ [y]).length := by simp
     have e8 : ((sc OL) ++ [.int .i64 y.t0, .int .i64 y.t1, .int .i64 y.s0, .int .i64 y.s1]) = sc (OL ++ [y]) := by rw [← sc_snoc]
     rw [e9, e8] at M
     clear e9 e8
     exact ⟨_, by omega, k + 1, (OL ++ [y]), _, _, [(ga2, .row 48 4 (OL ++ [y]).length (sc (OL ++ [y])) cga2)], rfl, (by omega), (by rw [hO]; exact (goneL_no (by omega) htx hky).symm), (by simp only [List.length_append, List.length_cons, List.length_nil]; omega), (Sl.row _ _ _ _ _ _), T.pick [1, 2, 3, 4, 0] rfl, (Mem.spin [(g3, .cells [.int .i64 bu2.first, .int .i64 bu2.step, .int .i64 bu2.span, .int .i64 bu2.press, .int .i64 bu2.note, .slice (some ⟨ga2, 0, none⟩) ((OL ++ [y]).length) cga2, .slice (some ⟨g2u9, 0, none⟩) bu2.highs.length c2u9, .int .i64 bu2.t0, .int .i64 bu2.t1, .int .i64 bu2.r0, .int .i64 bu2.r1, .int .i64 bu2.u0, .int .i64 bu2.u1, .int .i64 bu2.d0, .int .i64 bu2.d1, .int .i64 bu2.a0, .int .i64 bu2.a1, .int .i64 bu2.b0, .int .i64 bu2.b1, .int .i64 bu2.le, .int .i64 bu2.me]), (g1u9, .cells (sc bu2.lows ++ y1u9)), (g2u9, .cells (sc bu2.highs ++ y2u9)), (g1, .cells [.int .i64 bu2.first, .int .i64 bu2.step, .int .i64 bu2.span, .int .i64 bu2.press, .int .i64 bu2.note, .slice Au2 bu2.lows.length cu2, .slice Bu2 bu2.highs.length du2, .int .i64 bu2.t0, .int .i64 bu2.t1, .int .i64 bu2.r0, .int .i64 bu2.r1, .int .i64 bu2.u0, .int .i64 bu2.u1, .int .i64 bu2.d0, .int .i64 bu2.d1, .int .i64 bu2.a0, .int .i64 bu2.a1, .int .i64 bu2.b0, .int .i64 bu2.b1, .int .i64 bu2.le, .int .i64 bu2.me])] [(ga2, .row 48 4 (OL ++ [y]).length (sc (OL ++ [y])) cga2)] (Iu2 ++ Iu3 ++ Iu4 ++ Iu5 ++ Io) (M.permT [1, 2, 3, 4, 0] 5 rfl rfl rfl rfl))⟩
    intro h13
    refine wp_skip ?_
    refine nm_blk ?_
    refine nm_then ?_
    refine wp_region_lit ?_
    refine lq T (rn_move rfl (T.ev 5 rfl)) ?_; clear T ac; intro ac T
    refine lq T (rn_add rfl (T.ev 0 rfl) evc (by omega)) ?_; clear T ac; intro ac T
    refine l_q (v := (.int .i64 ((k : Int) + 1))) (T.pick [0, 1, 2, 3, 4, 5, 6] rfl) rfl rfl rfl rfl (rn_assign rfl (T.ev 0 rfl)) ?_; clear T ac; intro ac T
    refine wpList_nil ?_
    replace T := T.pick [0, 4, 5, 6, 7] rfl
    refine nm_then ?_
    exact ⟨_, by omega, k + 1, OL, _, _, Io5, rfl, (by omega), (by rw [hO]; exact (goneL_yes _ _ (by omega)).symm), (by omega), hsl5, T.pick [1, 2, 3, 4, 0] rfl, M⟩
   intro h12
   obtain ⟨b5, o5, h5S⟩ := hsl5.spV (sc_length _)
   have S5 := h5S w noEx
   have hkt9 : k = t.length := by omega
   have hO9 : OL = goneL bu2.lows t gone t.length := by rw [hO, hkt9]
   refine wp_exit ?_
   refine ex_then ?_
   refine ex_then ?_
   refine ex_hit ?_
   refine nm_then ?_
   refine wp_seq ?_
   refine wp_region_lit ?_
   refine lq T (rn_rowO (Mem.nth M 0 rfl) rfl (T.ev 4 rfl) rfl) ?_; clear T ac; intro ac T
   refine l_w rfl ?_; intro K hK
   refine ow_call (first := []) (cap := []) T rfl rfl rfl rfl evf (.cons (T.ev 0 rfl) .nil) Try.func27 rfl rfl ?_
   refine Calls.mono (Match_good ({ bu2 with lows := OL, highs := bu2.highs, span := bu2.span, press := bu2.press }) _ _ _ _ _ (S5.rd M (.cons _ (.cons _ (.cons _ (.cons _ (List.sublist_append_right _ _)))))) (Sc2u9.rd M (.cons _ (.cons _ (List.Sublist.cons_cons _ (List.nil_sublist _))))) (by rw [hO9]; exact gone_good hgu2 hw gone)) ?_
   clear T
   rintro e wc ⟨Au10, cu10, Iu10, rfl, Su10, N⟩
   intro ac T
   obtain ⟨bu10, ou10, Su10⟩ := Su10
   replace Su10 := Su10 w noEx
   obtain ⟨mlu10, hmlu10⟩ : ∃ q, q = mostL ({ bu2 with lows := OL, highs := bu2.highs, span := bu2.span, press := bu2.press }) okA := ⟨_, rfl⟩
   rw [← hmlu10] at Su10
   have hmoku10 := mostL_ok (b := ({ bu2 with lows := OL, highs := bu2.highs, span := bu2.span, press := bu2.press } : Bx)) okA
   rw [← hmlu10] at hmoku10
   have nmlu10 : mlu10.length = OL.length := hmoku10.2
   have hfiu10 := full_iff hmoku10.1
   obtain ⟨plu10, hplu10⟩ : ∃ q, q = placeP mlu10 (-1) := ⟨_, rfl⟩
   rw [← hplu10] at hfiu10
   have hpnu10 : plu10 < 0 := hfiu10.2 (by rw [nmlu10, hmlu10, hO9]; exact gone_full (gone := gone) hgu2 hw (by omega))
   replace M := (M.join N).swapI
   clear N
   replace M : Mem w noEx wc ((g3, .cells [.int .i64 bu2.first, .int .i64 bu2.step, .int .i64 bu2.span, .int .i64 bu2.press, .int .i64 bu2.note, .slice A5 OL.length c5, .slice (some ⟨g2u9, 0, none⟩) bu2.highs.length c2u9, .int .i64 bu2.t0, .int .i64 bu2.t1, .int .i64 bu2.r0, .int .i64 bu2.r1, .int .i64 bu2.u0, .int .i64 bu2.u1, .int .i64 bu2.d0, .int .i64 bu2.d1, .int .i64 bu2.a0, .int .i64 bu2.a1, .int .i64 bu2.b0, .int .i64 bu2.b1, .int .i64 bu2.le, .int .i64 bu2.me]) :: (g1u9, .cells (sc bu2.lows ++ y1u9)) :: (g2u9, .cells (sc bu2.highs ++ y2u9)) :: (g1, .cells [.int .i64 bu2.first, .int .i64 bu2.step, .int .i64 bu2.span, .int .i64 bu2.press, .int .i64 bu2.note, .slice Au2 bu2.lows.length cu2, .slice Bu2 bu2.highs.length du2, .int .i64 bu2.t0, .int .i64 bu2.t1, .int .i64 bu2.r0, .int .i64 bu2.r1, .int .i64 bu2.u0, .int .i64 bu2.u1, .int .i64 bu2.d0, .int .i64 bu2.d1, .int .i64 bu2.a0, .int .i64 bu2.a1, .int .i64 bu2.b0, .int .i64 bu2.b1, .int .i64 bu2.le, .int .i64 bu2.me]) :: (Iu2 ++ Iu3 ++ Iu4 ++ Iu5 ++ Io ++ Io5 ++ Iu10)) := M
   rw [← hmlu10] at T
   refine sh_out hK _ _ ?_; clear hK K
   refine lq T (rn_move rfl (T.ev 0 rfl)) ?_; clear T ac; intro ac T
   refine lq T (rn_extract rfl (T.ev 0 rfl) rfl) ?_; clear T ac; intro ac T
   refine lq T (rn_extract rfl (T.ev 1 rfl) rfl) ?_; clear T ac; intro ac T
   refine lq T (rn_assign rfl (T.ev 1 rfl)) ?_; clear T ac; intro ac T
   refine lq T (rn_assign rfl (T.ev 1 rfl)) ?_; clear T ac; intro ac T
   refine wpList_nil ?_
   replace T := T.pick [0, 1, 8, 9, 10, 11] rfl
   refine nm_then ?_
   refine wp_seq ?_
   refine wp_region_lit ?_
   refine lq T (rn_move rfl (T.ev 0 rfl)) ?_; clear T ac; intro ac T
   refine lq (v := (.bool false)) T (rn_neqof (rn_neq rfl (T.ev 0 rfl) evc) (by simp)) ?_; clear T ac; intro ac T
   refine lq T (rn_move rfl (T.ev 0 rfl)) ?_; clear T ac; intro ac T
   refine lw T (wanted_yes rfl rfl (T.ev 0 rfl) rfl) (rn_move rfl (T.ev 4 rfl)) ?_; clear T ac; intro ac T
   refine lw T (wanted_yes rfl rfl (T.ev 1 rfl) rfl) (rn_lenS rfl Try.underlying22 (T.ev 0 rfl)) ?_; clear T ac; intro ac T
   refine lw (v := (.pointer (some ⟨g3, 5, none⟩))) T (wanted_yes rfl rfl (T.ev 2 rfl) rfl) (rn_fieldAddr (off := 5) rfl (T.ev 10 rfl) (fun _ _ _ => by kernel_rfl)) ?_; clear T ac; intro ac T
   refine lw T (wanted_yes rfl rfl (T.ev 3 rfl) rfl) (rn_one (Mem.nth M 0 rfl) rfl (T.ev 0 rfl) rfl) ?_; clear T ac; intro ac T
   refine lw T (wanted_yes rfl rfl (T.ev 4 rfl) rfl) (rn_lenS rfl Try.underlying38 (T.ev 0 rfl)) ?_; clear T ac; intro ac T
   refine lw T (wanted_yes rfl rfl (T.ev 5 rfl) rfl) (rn_neq rfl (T.ev 3 rfl) (T.ev 0 rfl)) ?_; clear T ac; intro ac T
   refine lq T (rn_pick0 rfl (T.ev 6 rfl) rfl (T.ev 0 rfl)) ?_; clear T ac; intro ac T
   refine lq T (rn_move rfl (T.ev 0 rfl)) ?_; clear T ac; intro ac T
   refine lw T (wanted_yes rfl rfl (T.ev 0 rfl) (by rw [show (decide (((mlu10.length : Nat) : Int) = ((OL.length : Nat) : Int))) = true from (decide_eq_true (by omega))]; rfl)) (rn_move rfl (T.ev 12 rfl)) ?_; clear T ac; intro ac T
   refine l_w (wanted_yes rfl rfl (T.ev 1 rfl) (by rw [show (decide (((mlu10.length : Nat) : Int) = ((OL.length : Nat) : Int))) = true from (decide_eq_true (by omega))]; rfl)) ?_; intro K hK
   refine ow_call (first := []) (cap := []) T rfl rfl rfl rfl evf (.cons (T.ev 0 rfl) (.cons evc .nil)) Try.func30 rfl rfl ?_
   refine Calls.mono (place_any _ _ _ mlu10 (-1) _ (Su10.rd M (.cons _ (.cons _ (.cons _ (.cons _ (List.sublist_append_right _ _)))))) (by omega)) ?_
   clear T
   rintro e wc ⟨rfl, hb⟩
   intro ac T
   replace M := M.call hb; clear hb
   rw [← hplu10] at T
   refine sh_out hK _ _ ?_; clear hK K
   refine lw T (wanted_yes rfl rfl (T.ev 2 rfl) (by rw [show (decide (((mlu10.length : Nat) : Int) = ((OL.length : Nat) : Int))) = true from (decide_eq_true (by omega))]; rfl)) (rn_geq rfl (T.ev 0 rfl) evc) ?_; clear T ac; intro ac T
   refine lq T (rn_pick0 rfl (T.ev 3 rfl) (by rw [show (decide (((mlu10.length : Nat) : Int) = ((OL.length : Nat) : Int))) = true from (decide_eq_true (by omega))]; rfl) (T.ev 0 rfl)) ?_; clear T ac; intro ac T
   refine wpList_nil ?_
   replace T := T.pick [0, 1, 2, 3, 6, 7, 8, 9, 10, 11, 17, 18, 19] rfl
   refine nm_then ?_
   refine wp_cond_false ((T.ev 0 rfl).trans (congrArg Value.bool (decide_eq_false (by omega)))) ?_
   refine wp_skip ?_
   refine nm_blk ?_
   refine nm_then ?_
   refine wp_region_lit ?_
   refine lq T (rn_move rfl (T.ev 12 rfl)) ?_; clear T ac; intro ac T
   refine lq T (rn_add rfl (T.ev 0 rfl) evc (by omega)) ?_; clear T ac; intro ac T
   refine l_q (v := (.int .i64 ((gone : Int) + 1))) (T.pick [0, 1, 2, 3, 4, 5, 6, 7, 8, 9, 10, 11, 12, 13] rfl) rfl rfl rfl rfl (rn_assign rfl (T.ev 0 rfl)) ?_; clear T ac; intro ac T
   refine wpList_nil ?_
   replace T := T.pick [0, 4, 5, 6, 7, 8, 9, 10, 11, 12, 13, 14] rfl
   refine nm_then ?_
   exact ⟨_, by omega, gone + 1, rfl, (by omega), T.pick [10, 11, 0] rfl, ((M.permT [3] 4 rfl rfl rfl rfl).sub (List.Sublist.cons_cons _ (List.Sublist.trans (List.sublist_append_left _ _) (List.sublist_append_left _ _))))⟩
  intro h11
  refine wp_exit ?_
  refine ex_then ?_
  refine ex_then ?_
  refine ex_hit ?_
  refine nm_then ?_
  refine wp_seq ?_
  refine wp_region_lit ?_
  refine l_w rfl ?_; intro K hK
  refine ow_call (first := []) (cap := []) T rfl rfl rfl rfl evf .nil Try.func17 rfl rfl ?_
  refine Calls.mono (trembling_any _) ?_
  clear T
  rintro e wc ⟨rfl, hb⟩
  intro ac T
  replace M := M.call hb; clear hb
  refine sh_out hK _ _ ?_; clear hK K
  refine lq T (rn_assign rfl (T.ev 0 rfl)) ?_; clear T ac; intro ac T
  refine wpList_nil ?_
  replace T := T.pick [0] rfl
  replace M := M.mask [false] rfl
  refine nm_then ?_
  refine wp_ret ?_
  refine rt_1 T rfl (T.ev 0 rfl) ?_
  exact ⟨rfl, M.below⟩

end Go.Proofs.Ytlahdenlmmlplaa

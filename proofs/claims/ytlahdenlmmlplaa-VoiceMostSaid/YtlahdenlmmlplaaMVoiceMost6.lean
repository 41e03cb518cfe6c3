/-
  law05: VoiceMost, walked.
-/
import Derived.Test.YtlahdenlmmlplaaMVoiceMost1
import Derived.Test.YtlahdenlmmlplaaMVoiceMost2
import Derived.Test.YtlahdenlmmlplaaMVoiceMost3
import Derived.Test.YtlahdenlmmlplaaMVoiceMost4
import Derived.Test.YtlahdenlmmlplaaMVoiceMost5
namespace Go.Proofs.Ytlahdenlmmlplaa
set_option linter.unusedSimpArgs false
set_option linter.unusedVariables false
open Go.RowKit

theorem mostL_ok {b : Bx} (ok : Int → Bool) : PairOk b.highs.length (mostL b ok) ∧ (mostL b ok).length = b.lows.length := ⟨(most_ok _ ok _ _).1, (most_ok _ ok _ _).2.1⟩
theorem Match_good (b : Bx) (A : Option Addr) (c : Nat) (B : Option Addr) (d : Nat) (w : World) (hA : Rd w w.heap.size 4 A b.lows.length (sc b.lows)) (hB : Rd w w.heap.size 4 B b.highs.length (sc b.highs)) (gb : b.good) :
    Calls Try.prog 27 #[bxV b A c B d] w fun e w' => ∃ A' c' I, e = .returned (.tuple #[.slice A' (mostL b okA).length c', .int .i64 0]) ∧ (∃ b1 o1, ∀ (w : World) (ex : Nat → Prop), Sp w ex I A' (mostL b okA).length 1 b1 o1 (ic (mostL b okA))) ∧ Mem w noEx w' I := by
  have h4 := gb.lows.1
  have h5 := gb.highs.1
  refine Calls.mono (Match_any b A c B d w hA hB (by omega) (by omega)) fun e w' h => ?_
  rw [show matchE b = (mostL b okA, 0) by unfold matchE; rw [if_pos (checkB_good.2 gb)]] at h
  obtain ⟨A', c', I, rfl, _, h2, h3⟩ := h
  exact ⟨A', c', I, rfl, h2, h3⟩
theorem Most_good (b : Bx) (A : Option Addr) (c : Nat) (B : Option Addr) (d : Nat) (w : World) (hA : Rd w w.heap.size 4 A b.lows.length (sc b.lows)) (hB : Rd w w.heap.size 4 B b.highs.length (sc b.highs)) (gb : b.good) :
    Calls Try.prog 32 #[bxV b A c B d] w fun e w' => e = .returned (.tuple #[.agg #[.int .i64 (pairsP (mostL b okA)), .int .i64 (pairsP (mostL b okM))], .int .i64 0]) ∧ Below w.heap.size w w' := by
  have h4 := gb.lows.1
  have h5 := gb.highs.1
  have h9 := Most_any b A c B d w hA hB (by omega) (by omega)
  rw [show mostE b = ((pairsP (mostL b okA), pairsP (mostL b okM)), 0) by unfold mostE; rw [if_pos (checkB_good.2 gb)]] at h9
  exact h9


set_option maxRecDepth 100000 in
set_option maxHeartbeats 1000000 in
theorem pairing_any (A : Option Addr) (m c : Nat) (l : List Int) (lows highs : Nat) (w : World) (hr : Rd w w.heap.size 1 A m (ic l)) (hm : m ≤ 1000000) (hp : PairOk highs l) (hl : l.length = lows) :
    Calls Try.prog 33 #[.slice A m c, .int .i64 (lows : Int), .int .i64 (highs : Int)] w fun e w' => e = .returned (.bool true) ∧ Below w.heap.size w w' := by
  have hml := hr.len1
  obtain ⟨bA, oA, SA⟩ := Sp.old hr
  refine px_enter noEx Try.func33 rfl 48 rfl [.slice A m c, .int .i64 (lows : Int), .int .i64 (highs : Int)] rfl rfl (Mem.init w _) ?_
  intro ac wc T M
  refine wp_seq ?_
  refine wp_region_lit ?_
  refine lq T (rn_assign rfl evc) ?_; clear T ac; intro ac T
  refine wpList_nil ?_
  replace T := T.pick [1, 2, 3] rfl
  refine nm_then ?_
  refine wp_seq ?_
  refine wp_seq ?_
  refine wp_region_lit ?_
  refine lq T (rn_assign rfl evc) ?_; clear T ac; intro ac T
  refine wpList_nil ?_
  refine nm_then ?_
  refine wp_block ?_
  refine wp_loop_n (fun mz ac wc => ∃ (k : Nat), mz = m - k ∧ (k ≤ m) ∧ Tm ac 48 [(0, .slice A m c), (1, .int .i64 (lows : Int)), (2, .int .i64 (highs : Int)), (7, .int .i64 (k : Int))] ∧ Mem w noEx wc []) ?_ ?_
  ·exact ⟨_, 0, rfl, (Nat.zero_le _), T.pick [1, 2, 3, 0] rfl, M.mask [] rfl⟩
  clear T M
  rintro mz ac wc ⟨k, hmm1, hk, T, M⟩
  refine wp_seq ?_
  refine wp_seq ?_
  refine wp_region_lit ?_
  refine lq T (rn_move rfl (T.ev 3 rfl)) ?_; clear T ac; intro ac T
  refine lq T (rn_move rfl (T.ev 1 rfl)) ?_; clear T ac; intro ac T
  refine lq T (rn_lenS rfl Try.underlying22 (T.ev 0 rfl)) ?_; clear T ac; intro ac T
  refine lq T (rn_lss rfl (T.ev 2 rfl) (T.ev 0 rfl)) ?_; clear T ac; intro ac T
  refine wpList_nil ?_
  replace T := T.pick [0, 4, 5, 6, 7] rfl
  refine nm_then ?_
  refine wp_if (T.ev 0 rfl) ?_ ?_
  ·intro h1
   obtain ⟨x, hkx, -⟩ := ic_next (l := l) (k := k) (by omega)
   have hxr := hp.rng x (List.mem_of_getElem? hkx)
   have hpl : 0 ≤ x → placeP l x = (k : Int) := fun h0 => hp.place hkx h0
   refine wp_skip ?_
   refine nm_then ?_
   refine wp_seq ?_
   refine wp_block ?_
   refine cut_seq (fun ac wc => Tm ac 48 [(0, .slice A m c), (1, .int .i64 (lows : Int)), (2, .int .i64 (highs : Int)), (7, .int .i64 (k : Int)), (43, .bool ((decide (x < (-1))) || ((decide ((highs : Int) ≤ x)) || ((decide (0 ≤ x)) && (!(decide ((placeP l x) = (k : Int))))))))] ∧ Mem w noEx wc []) ?_ ?_
   ·refine wp_region_lit ?_
    refine lq T (rn_move rfl (T.ev 1 rfl)) ?_; clear T ac; intro ac T
    refine lq T (rn_move rfl (T.ev 5 rfl)) ?_; clear T ac; intro ac T
    refine lq T (rn_indexAddr (size := 1) k rfl (T.ev 1 rfl) (T.ev 0 rfl) ⟨_, Try.underlying22, by kernel_rfl⟩ rfl (by omega) (SA.at0 (by omega))) ?_; clear T ac; intro ac T
    refine lq T (rn_cell (Sp.ic0 SA M (List.nil_sublist _) hkx) rfl (T.ev 0 rfl)) ?_; clear T ac; intro ac T
    refine lq T (rn_lss rfl (T.ev 0 rfl) evc) ?_; clear T ac; intro ac T
    refine lq T (rn_move rfl (T.ev 0 rfl)) ?_; clear T ac; intro ac T
    rcases Bool.eq_false_or_eq_true (decide (x < (-1))) with h2 | h2
    ·replace h2 := of_decide_eq_true h2
     refine lp T (wanted_no rfl rfl (T.ev 0 rfl) (decide_eq_true h2)) ?_; clear T ac; intro ac T
     refine lp T (wanted_no rfl rfl (T.ev 1 rfl) (decide_eq_true h2)) ?_; clear T ac; intro ac T
     refine lp T (wanted_no rfl rfl (T.ev 2 rfl) (decide_eq_true h2)) ?_; clear T ac; intro ac T
     refine lp T (wanted_no rfl rfl (T.ev 3 rfl) (decide_eq_true h2)) ?_; clear T ac; intro ac T
     refine lp T (wanted_no rfl rfl (T.ev 4 rfl) (decide_eq_true h2)) ?_; clear T ac; intro ac T
     refine lp T (wanted_no rfl rfl (T.ev 5 rfl) (decide_eq_true h2)) ?_; clear T ac; intro ac T
     refine lq T (rn_pick1 rfl (T.ev 6 rfl) (decide_eq_true h2) evc) ?_; clear T ac; intro ac T
     refine lq T (rn_move rfl (T.ev 0 rfl)) ?_; clear T ac; intro ac T
     refine lp T (wanted_no rfl rfl (T.ev 0 rfl) rfl) ?_; clear T ac; intro ac T
     refine lp T (wanted_no rfl rfl (T.ev 1 rfl) rfl) ?_; clear T ac; intro ac T
     refine lp T (wanted_no rfl rfl (T.ev 2 rfl) rfl) ?_; clear T ac; intro ac T
     refine lp T (wanted_no rfl rfl (T.ev 3 rfl) rfl) ?_; clear T ac; intro ac T
     refine lp T (wanted_no rfl rfl (T.ev 4 rfl) rfl) ?_; clear T ac; intro ac T
     refine lp T (wanted_no rfl rfl (T.ev 5 rfl) rfl) ?_; clear T ac; intro ac T
     refine lp T (wanted_un rfl rfl (T.ev 0 rfl)) ?_; clear T ac; intro ac T
     refine lp T (wanted_un rfl rfl (T.ev 1 rfl)) ?_; clear T ac; intro ac T
     refine lp T (wanted_un rfl rfl (T.ev 2 rfl)) ?_; clear T ac; intro ac T
     refine lp T (wanted_un rfl rfl (T.ev 3 rfl)) ?_; clear T ac; intro ac T
     refine lp T (wanted_un rfl rfl (T.ev 4 rfl)) ?_; clear T ac; intro ac T
     refine lp T (wanted_un rfl rfl (T.ev 5 rfl)) ?_; clear T ac; intro ac T
     refine lp T (wanted_un rfl rfl (T.ev 6 rfl)) ?_; clear T ac; intro ac T
     refine lp T (wanted_un rfl rfl (T.ev 7 rfl)) ?_; clear T ac; intro ac T
     refine lp T (wanted_no rfl rfl (T.ev 14 rfl) rfl) ?_; clear T ac; intro ac T
     refine lq T (rn_pick1 rfl (T.ev 15 rfl) rfl evc) ?_; clear T ac; intro ac T
     refine wpList_nil ?_
     replace T := T.pick [0, 1, 2, 3, 4, 5, 6, 7, 8, 9, 10, 11, 12, 13, 14, 15, 18, 19, 20, 21, 22, 23, 31, 32, 33, 34] rfl
     exact ⟨(T.pick (E' := [(0, .slice A m c), (1, .int .i64 (lows : Int)), (2, .int .i64 (highs : Int)), (7, .int .i64 (k : Int)), (43, .bool true)]) [22, 23, 24, 25, 0] rfl).as (by (try rw [show (decide (x < (-1))) = true from (decide_eq_true h2)]); (try rfl)), M.mask [] rfl⟩
    replace h2 := of_decide_eq_false h2
    refine lw T (wanted_yes rfl rfl (T.ev 0 rfl) (decide_eq_false h2)) (rn_move rfl (T.ev 7 rfl)) ?_; clear T ac; intro ac T
    refine lw T (wanted_yes rfl rfl (T.ev 1 rfl) (decide_eq_false h2)) (rn_move rfl (T.ev 11 rfl)) ?_; clear T ac; intro ac T
    refine lw T (wanted_yes rfl rfl (T.ev 2 rfl) (decide_eq_false h2)) (rn_indexAddr (size := 1) k rfl (T.ev 1 rfl) (T.ev 0 rfl) ⟨_, Try.underlying22, by kernel_rfl⟩ rfl (by omega) (SA.at0 (by omega))) ?_; clear T ac; intro ac T
    refine lw T (wanted_yes rfl rfl (T.ev 3 rfl) (decide_eq_false h2)) (rn_cell (Sp.ic0 SA M (List.nil_sublist _) hkx) rfl (T.ev 0 rfl)) ?_; clear T ac; intro ac T
    refine lw T (wanted_yes rfl rfl (T.ev 4 rfl) (decide_eq_false h2)) (rn_move rfl (T.ev 13 rfl)) ?_; clear T ac; intro ac T
    refine lw T (wanted_yes rfl rfl (T.ev 5 rfl) (decide_eq_false h2)) (rn_geq rfl (T.ev 1 rfl) (T.ev 0 rfl)) ?_; clear T ac; intro ac T
    refine lq T (rn_pick0 rfl (T.ev 6 rfl) (decide_eq_false h2) (T.ev 0 rfl)) ?_; clear T ac; intro ac T
    refine lq T (rn_move rfl (T.ev 0 rfl)) ?_; clear T ac; intro ac T
    rcases Bool.eq_false_or_eq_true (decide ((highs : Int) ≤ x)) with h3 | h3
    ·replace h3 := of_decide_eq_true h3
     refine lp T (wanted_no rfl rfl (T.ev 0 rfl) (decide_eq_true h3)) ?_; clear T ac; intro ac T
     refine lp T (wanted_no rfl rfl (T.ev 1 rfl) (decide_eq_true h3)) ?_; clear T ac; intro ac T
     refine lp T (wanted_no rfl rfl (T.ev 2 rfl) (decide_eq_true h3)) ?_; clear T ac; intro ac T
     refine lp T (wanted_no rfl rfl (T.ev 3 rfl) (decide_eq_true h3)) ?_; clear T ac; intro ac T
     refine lp T (wanted_no rfl rfl (T.ev 4 rfl) (decide_eq_true h3)) ?_; clear T ac; intro ac T
     refine lp T (wanted_no rfl rfl (T.ev 5 rfl) (decide_eq_true h3)) ?_; clear T ac; intro ac T
     refine lp T (wanted_un rfl rfl (T.ev 0 rfl)) ?_; clear T ac; intro ac T
     refine lp T (wanted_un rfl rfl (T.ev 1 rfl)) ?_; clear T ac; intro ac T
     refine lp T (wanted_un rfl rfl (T.ev 2 rfl)) ?_; clear T ac; intro ac T
     refine lp T (wanted_un rfl rfl (T.ev 3 rfl)) ?_; clear T ac; intro ac T
     refine lp T (wanted_un rfl rfl (T.ev 4 rfl)) ?_; clear T ac; intro ac T
     refine lp T (wanted_un rfl rfl (T.ev 5 rfl)) ?_; clear T ac; intro ac T
     refine lp T (wanted_un rfl rfl (T.ev 6 rfl)) ?_; clear T ac; intro ac T
     refine lp T (wanted_un rfl rfl (T.ev 7 rfl)) ?_; clear T ac; intro ac T
     refine lp T (wanted_no rfl rfl (T.ev 14 rfl) (decide_eq_true h3)) ?_; clear T ac; intro ac T
     refine lq T (rn_pick1 rfl (T.ev 15 rfl) (decide_eq_true h3) evc) ?_; clear T ac; intro ac T
     refine wpList_nil ?_
     replace T := T.pick [0, 1, 2, 3, 4, 5, 6, 7, 8, 9, 10, 11, 12, 13, 14, 15, 18, 19, 20, 21, 22, 23, 31, 32, 33, 34] rfl
     exact ⟨(T.pick (E' := [(0, .slice A m c), (1, .int .i64 (lows : Int)), (2, .int .i64 (highs : Int)), (7, .int .i64 (k : Int)), (43, .bool true)]) [22, 23, 24, 25, 0] rfl).as (by (try rw [show (decide (x < (-1))) = false from (decide_eq_false h2)]); (try rw [show (decide ((highs : Int) ≤ x)) = true from (decide_eq_true h3)]); (try rfl)), M.mask [] rfl⟩
    replace h3 := of_decide_eq_false h3
    refine lw T (wanted_yes rfl rfl (T.ev 0 rfl) (decide_eq_false h3)) (rn_move rfl (T.ev 15 rfl)) ?_; clear T ac; intro ac T
    refine lw T (wanted_yes rfl rfl (T.ev 1 rfl) (decide_eq_false h3)) (rn_move rfl (T.ev 19 rfl)) ?_; clear T ac; intro ac T
    refine lw T (wanted_yes rfl rfl (T.ev 2 rfl) (decide_eq_false h3)) (rn_indexAddr (size := 1) k rfl (T.ev 1 rfl) (T.ev 0 rfl) ⟨_, Try.underlying22, by kernel_rfl⟩ rfl (by omega) (SA.at0 (by omega))) ?_; clear T ac; intro ac T
    refine lw T (wanted_yes rfl rfl (T.ev 3 rfl) (decide_eq_false h3)) (rn_cell (Sp.ic0 SA M (List.nil_sublist _) hkx) rfl (T.ev 0 rfl)) ?_; clear T ac; intro ac T
    refine lw T (wanted_yes rfl rfl (T.ev 4 rfl) (decide_eq_false h3)) (rn_geq rfl (T.ev 0 rfl) evc) ?_; clear T ac; intro ac T
    refine lw T (wanted_yes rfl rfl (T.ev 5 rfl) (decide_eq_false h3)) (rn_move rfl (T.ev 0 rfl)) ?_; clear T ac; intro ac T
    rcases Bool.eq_false_or_eq_true (decide (0 ≤ x)) with h4 | h4
    ·replace h4 := of_decide_eq_true h4
     refine lw T (wanted_yes rfl rfl (T.ev 0 rfl) (decide_eq_true h4)) (rn_move rfl (T.ev 21 rfl)) ?_; clear T ac; intro ac T
     refine lw T (wanted_yes rfl rfl (T.ev 1 rfl) (decide_eq_true h4)) (rn_move rfl (T.ev 22 rfl)) ?_; clear T ac; intro ac T
     refine lw T (wanted_yes rfl rfl (T.ev 2 rfl) (decide_eq_true h4)) (rn_move rfl (T.ev 26 rfl)) ?_; clear T ac; intro ac T
     refine lw T (wanted_yes rfl rfl (T.ev 3 rfl) (decide_eq_true h4)) (rn_indexAddr (size := 1) k rfl (T.ev 1 rfl) (T.ev 0 rfl) ⟨_, Try.underlying22, by kernel_rfl⟩ rfl (by omega) (SA.at0 (by omega))) ?_; clear T ac; intro ac T
     refine lw T (wanted_yes rfl rfl (T.ev 4 rfl) (decide_eq_true h4)) (rn_cell (Sp.ic0 SA M (List.nil_sublist _) hkx) rfl (T.ev 0 rfl)) ?_; clear T ac; intro ac T
     refine l_w (wanted_yes rfl rfl (T.ev 5 rfl) (decide_eq_true h4)) ?_; intro K hK
     refine ow_call (first := []) (cap := []) T rfl rfl rfl rfl evf (.cons (T.ev 4 rfl) (.cons (T.ev 0 rfl) .nil)) Try.func30 rfl rfl ?_
     refine Calls.mono (place_any _ _ _ l x _ (SA.rd M (List.nil_sublist _)) hm) ?_
     clear T
     rintro e wc ⟨rfl, hb⟩
     intro ac T
     replace M := M.call hb; clear hb
     refine sh_out hK _ _ ?_; clear hK K
     refine lw T (wanted_yes rfl rfl (T.ev 6 rfl) (decide_eq_true h4)) (rn_move rfl (T.ev 30 rfl)) ?_; clear T ac; intro ac T
     refine lw T (wanted_yes rfl rfl (T.ev 7 rfl) (decide_eq_true h4)) (rn_neq rfl (T.ev 1 rfl) (T.ev 0 rfl)) ?_; clear T ac; intro ac T
     refine lw T (wanted_yes rfl rfl (T.ev 14 rfl) (decide_eq_false h3)) (rn_pick1 rfl (T.ev 8 rfl) (decide_eq_true h4) (T.ev 0 rfl)) ?_; clear T ac; intro ac T
     refine lq T (rn_pick0 rfl (T.ev 15 rfl) (decide_eq_false h3) (T.ev 0 rfl)) ?_; clear T ac; intro ac T
     refine wpList_nil ?_
     replace T := T.pick [0, 1, 2, 3, 4, 5, 6, 7, 8, 9, 10, 11, 12, 13, 14, 15, 18, 19, 20, 21, 22, 23, 31, 32, 33, 34] rfl
     exact ⟨(T.pick (E' := [(0, .slice A m c), (1, .int .i64 (lows : Int)), (2, .int .i64 (highs : Int)), (7, .int .i64 (k : Int)), (43, .bool (!(decide ((placeP l x) = (k : Int)))))]) [22, 23, 24, 25, 0] rfl).as (by (try rw [show (decide (x < (-1))) = false from (decide_eq_false h2)]); (try rw [show (decide ((highs : Int) ≤ x)) = false from (decide_eq_false h3)]); (try rw [show (decide (0 ≤ x)) = true from (decide_eq_true h4)]); (try rfl)), M.mask [] rfl⟩
    replace h4 := of_decide_eq_false h4
    refine lp T (wanted_no rfl rfl (T.ev 0 rfl) (decide_eq_false h4)) ?_; clear T ac; intro ac T
    refine lp T (wanted_no rfl rfl (T.ev 1 rfl) (decide_eq_false h4)) ?_; clear T ac; intro ac T
    refine lp T (wanted_no rfl rfl (T.ev 2 rfl) (decide_eq_false h4)) ?_; clear T ac; intro ac T
    refine lp T (wanted_no rfl rfl (T.ev 3 rfl) (decide_eq_false h4)) ?_; clear T ac; intro ac T
    refine lp T (wanted_no rfl rfl (T.ev 4 rfl) (decide_eq_false h4)) ?_; clear T ac; intro ac T
    refine lp T (wanted_no rfl rfl (T.ev 5 rfl) (decide_eq_false h4)) ?_; clear T ac; intro ac T
    refine lp T (wanted_no rfl rfl (T.ev 6 rfl) (decide_eq_false h4)) ?_; clear T ac; intro ac T
    refine lp T (wanted_no rfl rfl (T.ev 7 rfl) (decide_eq_false h4)) ?_; clear T ac; intro ac T
    refine lw T (wanted_yes rfl rfl (T.ev 14 rfl) (decide_eq_false h3)) (rn_pick0 rfl (T.ev 8 rfl) (decide_eq_false h4) evc) ?_; clear T ac; intro ac T
    refine lq T (rn_pick0 rfl (T.ev 15 rfl) (decide_eq_false h3) (T.ev 0 rfl)) ?_; clear T ac; intro ac T
    refine wpList_nil ?_
    replace T := T.pick [0, 1, 2, 3, 4, 5, 6, 7, 8, 9, 10, 11, 12, 13, 14, 15, 18, 19, 20, 21, 22, 23, 31, 32, 33, 34] rfl
    exact ⟨(T.pick (E' := [(0, .slice A m c), (1, .int .i64 (lows : Int)), (2, .int .i64 (highs : Int)), (7, .int .i64 (k : Int)), (43, .bool false)]) [22, 23, 24, 25, 0] rfl).as (by (try rw [show (decide (x < (-1))) = false from (decide_eq_false h2)]); (try rw [show (decide ((highs : Int) ≤ x)) = false from (decide_eq_false h3)]); (try rw [show (decide (0 ≤ x)) = false from (decide_eq_false h4)]); (try rfl)), M.mask [] rfl⟩
   clear T M
   rintro ac wc ⟨T, M⟩
   refine wp_cond_split (T.ev 4 rfl) ?_ ?_
   ·intro h5
    exfalso
    simp only [Bool.or_eq_true, Bool.and_eq_true, Bool.not_eq_true', decide_eq_true_eq, decide_eq_false_iff_not] at h5; omega
   intro h5
   (try have h5' := h5; try simp only [Bool.and_eq_true, Bool.or_eq_true, Bool.not_eq_true', Bool.and_eq_false_imp, Bool.or_eq_false_iff, decide_eq_true_eq, decide_eq_false_iff_not] at h5')
   refine wp_skip ?_
   refine nm_blk ?_
   refine nm_then ?_
   refine wp_region_lit ?_
   refine lq T (rn_move rfl (T.ev 3 rfl)) ?_; clear T ac; intro ac T
   refine lq T (rn_add rfl (T.ev 0 rfl) evc (by omega)) ?_; clear T ac; intro ac T
   refine l_q (v := (.int .i64 ((k : Int) + 1))) (T.pick [0, 1, 2, 3, 4, 6] rfl) rfl rfl rfl rfl (rn_assign rfl (T.ev 0 rfl)) ?_; clear T ac; intro ac T
   refine wpList_nil ?_
   replace T := T.pick [0, 3, 4, 5] rfl
   refine nm_then ?_
   exact ⟨_, by omega, k + 1, rfl, (by omega), T.pick [1, 2, 3, 0] rfl, M.mask [] rfl⟩
  intro h1
  refine wp_exit ?_
  refine ex_then ?_
  refine ex_then ?_
  refine ex_hit ?_
  refine nm_then ?_
  refine wp_seq ?_
  refine wp_region_lit ?_
  refine lq T (rn_move rfl (T.ev 1 rfl)) ?_; clear T ac; intro ac T
  refine lq T (rn_lenS rfl Try.underlying22 (T.ev 0 rfl)) ?_; clear T ac; intro ac T
  refine lq T (rn_move rfl (T.ev 4 rfl)) ?_; clear T ac; intro ac T
  refine lq T (rn_eql rfl (T.ev 1 rfl) (T.ev 0 rfl)) ?_; clear T ac; intro ac T
  refine lq T (rn_assign rfl (T.ev 0 rfl)) ?_; clear T ac; intro ac T
  refine wpList_nil ?_
  replace T := T.pick [0] rfl
  refine nm_then ?_
  refine wp_ret ?_
  refine rt_1 T rfl (T.ev 0 rfl) ?_
  exact ⟨ret_bool (by rw [decide_eq_true_eq]; omega), M.below⟩

theorem fold_take {α β : Type} {f : β → α → β} {s : β} {L : List α} {i : Nat} {x : α} (h : L[i]? = some x) : (L.take (i + 1)).foldl f s = f ((L.take i).foldl f s) x := by
  rw [List.take_add_one, h, List.foldl_append]
  rfl
theorem okTake {may : Nat → Nat → Bool} {p : List Int} {k : Nat} {x : Int} (h : p[k]? = some x) : okList may 0 (p.take (k + 1)) = (okList may 0 (p.take k) && (decide (x < 0) || may k x.toNat)) := by
  have hk := (List.getElem?_eq_some_iff.1 h).1
  rw [List.take_add_one, h]
  show okList may 0 (p.take k ++ [x]) = _
  rw [okList_snoc, Nat.zero_add, List.length_take, Nat.min_eq_left (by omega)]
theorem tab_at {LL : List LE} {T : List (List Int)} (hL : LL.map (·.1) = T) {k xk : Nat} {x tv : Int} {rw : List Int} {B : Option Addr} {d : Nat} {ok : Int → Bool} (hr : LL[k]? = some (rw, B, d)) (hx : x = (xk : Int)) (ht : rw[xk]? = some tv) : tabP T ok k x.toNat = ok tv := by
  subst hL hx
  unfold tabP
  rw [List.getD_eq_getElem?_getD (l := LL.map (·.1)), List.getElem?_map, hr, Int.toNat_natCast]
  show ok (rw.getD xk 0) = ok tv
  rw [List.getD_eq_getElem?_getD, ht]
  rfl
theorem stepA_yes {T : List (List Int)} {p : List Int} {n su : Int} {al : Bool} (ha : al = okList (tabP T okA) 0 p) (hn : n = pairsP p) (h : (al && decide (su < n)) = true) : okTp T okA p = true ∧ su < pairsP p := by
  rw [Bool.and_eq_true, decide_eq_true_eq] at h
  exact ⟨by rw [← h.1, ha]; rfl, by omega⟩
theorem stepA_no {T : List (List Int)} {p : List Int} {n su : Int} {al : Bool} (ha : al = okList (tabP T okA) 0 p) (hn : n = pairsP p) (h : (al && decide (su < n)) = false) : ¬ (okTp T okA p = true ∧ su < pairsP p) := by
  rintro ⟨h1, h2⟩
  rw [show al = true from ha.trans h1, Bool.true_and, decide_eq_false_iff_not] at h
  omega
theorem stepB_yes {T : List (List Int)} {p : List Int} {ne : Bool} (hn : ne = !okList (tabP T okM) 0 p) (h : (!ne) = true) : okTp T okM p = true := by
  rw [hn, Bool.not_not] at h
  exact h
theorem stepB_no {T : List (List Int)} {p : List Int} {ne : Bool} (hn : ne = !okList (tabP T okM) 0 p) (h : (!ne) = false) : ¬ okTp T okM p = true := by
  rw [hn, Bool.not_not] at h
  intro h1
  rw [show okList (tabP T okM) 0 p = true from h1] at h
  cases h


set_option maxRecDepth 100000 in
set_option maxHeartbeats 4000000 in
theorem VoiceMost_any (D : Option Addr) (n d : Nat) (l : List Int) (w : World) (hl : Rd w w.heap.size 1 D n (ic l)) (hm : n ≤ 9223372036854775807) :
    Calls Try.prog 6 #[.slice D n d] w fun e w' => e = .returned (.bool true) ∧ Below w.heap.size w w' := by
  have hll := hl.len1
  obtain ⟨bI, oI, SI⟩ := Sp.old hl
  refine px_enter noEx Try.func6 rfl 177 rfl [.slice D n d] rfl rfl (Mem.init w _) ?_
  intro ac wc T M
  refine wp_seq ?_
  refine wp_region_lit ?_
  refine lq T (rn_assign rfl evc) ?_; clear T ac; intro ac T
  refine wpList_nil ?_
  replace T := T.pick [1] rfl
  refine nm_then ?_
  refine wp_seq ?_
  refine wp_region_lit ?_
  refine lq T (rn_move rfl (T.ev 0 rfl)) ?_; clear T ac; intro ac T
  refine l_w rfl ?_; intro K hK
  refine ow_call (first := []) (cap := []) T rfl rfl rfl rfl evf (.cons (T.ev 0 rfl) .nil) Try.func12 rfl rfl ?_
  refine Calls.mono (newPot_any _ _ _ l _ (SI.rd M (List.nil_sublist _)) (by omega)) ?_
  clear T
  rintro e wc ⟨bpu1, su1, hsu1, rfl, N⟩
  intro ac T
  replace M := M.join N; clear N
  replace M := M.mask [true] rfl
  refine sh_out hK _ _ ?_; clear hK K
  refine l_w rfl ?_; intro K hK
  refine ow_call (first := []) (cap := []) T rfl rfl rfl rfl evf (.cons (T.ev 0 rfl) (.cons evc (.cons evc (.cons evc .nil)))) Try.func18 rfl rfl ?_
  refine Calls.mono (boxOf_any _ bpu1 4 4 2 _ (by omega) (by omega) (by omega) (M.nth 0 rfl) hsu1) ?_
  clear T
  rintro e wc ⟨bu2, Au2, cu2, Bu2, du2, su2, Iu2, rfl, hmu2, hsu2, SAu2, SBu2, N⟩
  intro ac T
  obtain ⟨b1u2, o1u2, SAu2⟩ := SAu2
  replace SAu2 := SAu2 w noEx
  obtain ⟨b2u2, o2u2, SBu2⟩ := SBu2
  replace SBu2 := SBu2 w noEx
  replace M := (M.joinW .head N).swapI
  clear N
  replace M : Mem w noEx wc ((bpu1, .cells [.int .u64 su2]) :: Iu2) := M
  have hgu2 := hmu2.good
  have nlu2 := hgu2.lows.1
  have nhu2 := hgu2.highs.1
  have hstu2 := step_bd (notes := 3) hmu2.law.step hmu2.note
  have hnou2 := hmu2.note
  have ⟨hfu2, hzu2, hpu2, hqu2⟩ := hmu2.law
  dsimp only at hstu2 hfu2 hpu2 hqu2
  refine sh_out hK _ _ ?_; clear hK K
  refine l_w rfl ?_; intro K hK
  refine ow_al M T rfl rfl rfl rfl ?_; clear M T; intro g1 wc ac M T
  refine sh_out hK _ _ ?_; clear hK K
  refine l_w rfl ?_; intro K hK
  refine ow_stO M T rfl rfl (T.ev 0 rfl) (T.ev 1 rfl) rfl .head rfl (by simp) rfl (by kernel_rfl) ?_; clear M T; intro wc ac M T
  refine sh_out hK _ _ ?_; clear hK K
  refine wpList_nil ?_
  replace T := T.pick [0] rfl
  replace M := M.mask [true, false] rfl
  refine nm_then ?_
  refine wp_seq ?_
  refine wp_region_lit ?_
  refine lq T (rn_rowO (Mem.nth M 0 rfl) rfl (T.ev 0 rfl) rfl) ?_; clear T ac; intro ac T
  refine l_w rfl ?_; intro K hK
  refine ow_call (first := []) (cap := []) T rfl rfl rfl rfl evf (.cons (T.ev 0 rfl) .nil) Try.func29 rfl rfl ?_
  refine Calls.mono (Pairs_good bu2 _ _ _ _ _ (SAu2.rd M (.cons _ (List.Sublist.refl _))) (SBu2.rd M (.cons _ (List.Sublist.refl _))) hgu2) ?_
  clear T
  rintro e wc ⟨Au3, cu3, LLu3, Iu3, rfl, hLu3, Su3, Eu3, N⟩
  intro ac T
  obtain ⟨bu3, ou3, Su3⟩ := Su3
  replace Su3 := Su3 w noEx
  have hnu3 : LLu3.length = bu2.lows.length := by rw [← (tableP_len bu2).1, ← hLu3, List.length_map]
  replace M := (M.join N).swapI
  clear N
  replace M : Mem w noEx wc ((g1, .cells [.int .i64 bu2.first, .int .i64 bu2.step, .int .i64 bu2.span, .int .i64 bu2.press, .int .i64 bu2.note, .slice Au2 bu2.lows.length cu2, .slice Bu2 bu2.highs.length du2, .int .i64 bu2.t0, .int .i64 bu2.t1, .int .i64 bu2.r0, .int .i64 bu2.r1, .int .i64 bu2.u0, .int .i64 bu2.u1, .int .i64 bu2.d0, .int .i64 bu2.d1, .int .i64 bu2.a0, .int .i64 bu2.a1, .int .i64 bu2.b0, .int .i64 bu2.b1, .int .i64 bu2.le, .int .i64 bu2.me]) :: (Iu2 ++ Iu3)) := M
  refine sh_out hK _ _ ?_; clear hK K
  refine lq T (rn_move rfl (T.ev 0 rfl)) ?_; clear T ac; intro ac T
  refine lq T (rn_extract rfl (T.ev 0 rfl) rfl) ?_; clear T ac; intro ac T
  refine lq T (rn_extract rfl (T.ev 1 rfl) rfl) ?_; clear T ac; intro ac T
  refine lq T (rn_assign rfl (T.ev 1 rfl)) ?_; clear T ac; intro ac T
  refine lq T (rn_assign rfl (T.ev 1 rfl)) ?_; clear T ac; intro ac T
  refine wpList_nil ?_
  replace T := T.pick [0, 1, 7] rfl
  refine nm_then ?_
  refine wp_seq ?_
  refine wp_region_lit ?_
  refine lq T (rn_rowO (Mem.nth M 0 rfl) rfl (T.ev 2 rfl) rfl) ?_; clear T ac; intro ac T
  refine l_w rfl ?_; intro K hK
  refine ow_call (first := []) (cap := []) T rfl rfl rfl rfl evf (.cons (T.ev 0 rfl) .nil) Try.func27 rfl rfl ?_
  refine Calls.mono (Match_good bu2 _ _ _ _ _ (SAu2.rd M (.cons _ (subL (List.Sublist.refl _)))) (SBu2.rd M (.cons _ (subL (List.Sublist.refl _)))) hgu2) ?_
  clear T
  rintro e wc ⟨Au4, cu4, Iu4, rfl, Su4, N⟩
  intro ac T
  obtain ⟨bu4, ou4, Su4⟩ := Su4
  replace Su4 := Su4 w noEx
  obtain ⟨mlu4, hmlu4⟩ : ∃ q, q = mostL bu2 okA := ⟨_, rfl⟩
  rw [← hmlu4] at Su4
  have hmoku4 := mostL_ok (b := bu2) okA
  rw [← hmlu4] at hmoku4
  have nmlu4 := hmoku4.2
  replace M := (M.join N).swapI
  clear N
  replace M : Mem w noEx wc ((g1, .cells [.int .i64 bu2.first, .int .i64 bu2.step, .int .i64 bu2.span, .int .i64 bu2.press, .int .i64 bu2.note, .slice Au2 bu2.lows.length cu2, .slice Bu2 bu2.highs.length du2, .int .i64 bu2.t0, .int .i64 bu2.t1, .int .i64 bu2.r0, .int .i64 bu2.r1, .int .i64 bu2.u0, .int .i64 bu2.u1, .int .i64 bu2.d0, .int .i64 bu2.d1, .int .i64 bu2.a0, .int .i64 bu2.a1, .int .i64 bu2.b0, .int .i64 bu2.b1, .int .i64 bu2.le, .int .i64 bu2.me]) :: (Iu2 ++ Iu3 ++ Iu4)) := M
  rw [← hmlu4] at T
  refine sh_out hK _ _ ?_; clear hK K
  refine lq T (rn_move rfl (T.ev 0 rfl)) ?_; clear T ac; intro ac T
  refine lq T (rn_extract rfl (T.ev 0 rfl) rfl) ?_; clear T ac; intro ac T
  refine lq T (rn_extract rfl (T.ev 1 rfl) rfl) ?_; clear T ac; intro ac T
  refine lq T (rn_assign rfl (T.ev 1 rfl)) ?_; clear T ac; intro ac T
  refine lq T (rn_assign rfl (T.ev 1 rfl)) ?_; clear T ac; intro ac T
  refine wpList_nil ?_
  replace T := T.pick [0, 1, 7, 8, 9] rfl
  refine nm_then ?_
  refine wp_seq ?_
  refine wp_region_lit ?_
  refine lq T (rn_rowO (Mem.nth M 0 rfl) rfl (T.ev 4 rfl) rfl) ?_; clear T ac; intro ac T
  refine l_w rfl ?_; intro K hK
  refine ow_call (first := []) (cap := []) T rfl rfl rfl rfl evf (.cons (T.ev 0 rfl) .nil) Try.func32 rfl rfl ?_
  refine Calls.mono (Most_good bu2 _ _ _ _ _ (SAu2.rd M (.cons _ (subL (subL (List.Sublist.refl _))))) (SBu2.rd M (.cons _ (subL (subL (List.Sublist.refl _))))) hgu2) ?_
  clear T
  rintro e wc ⟨rfl, hb⟩
  intro ac T
  replace M := M.call hb; clear hb
  obtain ⟨mo0, hmo0⟩ : ∃ q, q = pairsP (mostL bu2 okA) := ⟨_, rfl⟩
  obtain ⟨mo1, hmo1⟩ : ∃ q, q = pairsP (mostL bu2 okM) := ⟨_, rfl⟩
  rw [← hmo0, ← hmo1] at T
  refine sh_out hK _ _ ?_; clear hK K
  refine lq T (rn_move rfl (T.ev 0 rfl)) ?_; clear T ac; intro ac T
  refine lq T (rn_extract rfl (T.ev 0 rfl) rfl) ?_; clear T ac; intro ac T
  refine lq T (rn_extract rfl (T.ev 1 rfl) rfl) ?_; clear T ac; intro ac T
  refine l_w rfl ?_; intro K hK
  refine ow_al M T rfl rfl rfl rfl ?_; clear M T; intro g2 wc ac M T
  refine sh_out hK _ _ ?_; clear hK K
  refine l_w rfl ?_; intro K hK
  refine ow_stO M T rfl rfl (T.ev 0 rfl) (T.ev 2 rfl) rfl .head rfl (by simp) rfl (by kernel_rfl) ?_; clear M T; intro wc ac M T
  refine sh_out hK _ _ ?_; clear hK K
  refine lq T (rn_assign rfl (T.ev 1 rfl)) ?_; clear T ac; intro ac T
  refine wpList_nil ?_
  replace T := T.pick [0, 1, 7, 8, 9, 10, 11] rfl
  refine nm_then ?_
  refine wp_seq ?_
  refine wp_seq ?_
  refine wp_region_lit ?_
  refine lq T (rn_move rfl (T.ev 4 rfl)) ?_; clear T ac; intro ac T
  refine lq (v := (.bool false)) T (rn_neqof (rn_neq rfl (T.ev 0 rfl) evc) (by simp)) ?_; clear T ac; intro ac T
  refine lq T (rn_move rfl (T.ev 0 rfl)) ?_; clear T ac; intro ac T
  refine lw T (wanted_yes rfl rfl (T.ev 0 rfl) rfl) (rn_move rfl (T.ev 5 rfl)) ?_; clear T ac; intro ac T
  refine lw (v := (.bool false)) T (wanted_yes rfl rfl (T.ev 1 rfl) rfl) (rn_neqof (rn_neq rfl (T.ev 0 rfl) evc) (by simp)) ?_; clear T ac; intro ac T
  refine lq T (rn_pick0 rfl (T.ev 2 rfl) rfl (T.ev 0 rfl)) ?_; clear T ac; intro ac T
  refine lq T (rn_move rfl (T.ev 0 rfl)) ?_; clear T ac; intro ac T
  refine lw T (wanted_yes rfl rfl (T.ev 0 rfl) rfl) (rn_move rfl (T.ev 7 rfl)) ?_; clear T ac; intro ac T
  refine lw (v := (.bool false)) T (wanted_yes rfl rfl (T.ev 1 rfl) rfl) (rn_neqof (rn_neq rfl (T.ev 0 rfl) evc) (by simp)) ?_; clear T ac; intro ac T
  refine lq T (rn_pick0 rfl (T.ev 2 rfl) rfl (T.ev 0 rfl)) ?_; clear T ac; intro ac T
  refine lq T (rn_move rfl (T.ev 0 rfl)) ?_; clear T ac; intro ac T
  refine lw T (wanted_yes rfl rfl (T.ev 0 rfl) rfl) (rn_move rfl (T.ev 16 rfl)) ?_; clear T ac; intro ac T
  refine lw T (wanted_yes rfl rfl (T.ev 1 rfl) rfl) (rn_lenS rfl Try.underlying62 (T.ev 0 rfl)) ?_; clear T ac; intro ac T
  refine lw (v := (.pointer (some ⟨g1, 5, none⟩))) T (wanted_yes rfl rfl (T.ev 2 rfl) rfl) (rn_fieldAddr (off := 5) rfl (T.ev 19 rfl) (fun _ _ _ => by kernel_rfl)) ?_; clear T ac; intro ac T
  refine lw T (wanted_yes rfl rfl (T.ev 3 rfl) rfl) (rn_one (Mem.nth M 1 rfl) rfl (T.ev 0 rfl) rfl) ?_; clear T ac; intro ac T
  refine lw T (wanted_yes rfl rfl (T.ev 4 rfl) rfl) (rn_lenS rfl Try.underlying38 (T.ev 0 rfl)) ?_; clear T ac; intro ac T
  refine lw T (wanted_yes rfl rfl (T.ev 5 rfl) rfl) (rn_neq rfl (T.ev 3 rfl) (T.ev 0 rfl)) ?_; clear T ac; intro ac T
  refine lq T (rn_pick0 rfl (T.ev 6 rfl) rfl (T.ev 0 rfl)) ?_; clear T ac; intro ac T
  refine lq T (rn_move rfl (T.ev 0 rfl)) ?_; clear T ac; intro ac T
  refine lw T (wanted_yes rfl rfl (T.ev 0 rfl) (by rw [show (decide (((LLu3.length : Nat) : Int) = ((bu2.lows.length : Nat) : Int))) = true from (decide_eq_true (by omega))]; rfl)) (rn_move rfl (T.ev 22 rfl)) ?_; clear T ac; intro ac T
  refine lw (v := (.pointer (some ⟨g1, 5, none⟩))) T (wanted_yes rfl rfl (T.ev 1 rfl) (by rw [show (decide (((LLu3.length : Nat) : Int) = ((bu2.lows.length : Nat) : Int))) = true from (decide_eq_true (by omega))]; rfl)) (rn_fieldAddr (off := 5) rfl (T.ev 26 rfl) (fun _ _ _ => by kernel_rfl)) ?_; clear T ac; intro ac T
  refine lw T (wanted_yes rfl rfl (T.ev 2 rfl) (by rw [show (decide (((LLu3.length : Nat) : Int) = ((bu2.lows.length : Nat) : Int))) = true from (decide_eq_true (by omega))]; rfl)) (rn_one (Mem.nth M 1 rfl) rfl (T.ev 0 rfl) rfl) ?_; clear T ac; intro ac T
  refine lw T (wanted_yes rfl rfl (T.ev 3 rfl) (by rw [show (decide (((LLu3.length : Nat) : Int) = ((bu2.lows.length : Nat) : Int))) = true from (decide_eq_true (by omega))]; rfl)) (rn_lenS rfl Try.underlying38 (T.ev 0 rfl)) ?_; clear T ac; intro ac T
  refine lw (v := (.pointer (some ⟨g1, 6, none⟩))) T (wanted_yes rfl rfl (T.ev 4 rfl) (by rw [show (decide (((LLu3.length : Nat) : Int) = ((bu2.lows.length : Nat) : Int))) = true from (decide_eq_true (by omega))]; rfl)) (rn_fieldAddr (off := 6) rfl (T.ev 29 rfl) (fun _ _ _ => by kernel_rfl)) ?_; clear T ac; intro ac T
  refine lw T (wanted_yes rfl rfl (T.ev 5 rfl) (by rw [show (decide (((LLu3.length : Nat) : Int) = ((bu2.lows.length : Nat) : Int))) = true from (decide_eq_true (by omega))]; rfl)) (rn_one (Mem.nth M 1 rfl) rfl (T.ev 0 rfl) rfl) ?_; clear T ac; intro ac T
  refine lw T (wanted_yes rfl rfl (T.ev 6 rfl) (by rw [show (decide (((LLu3.length : Nat) : Int) = ((bu2.lows.length : Nat) : Int))) = true from (decide_eq_true (by omega))]; rfl)) (rn_lenS rfl Try.underlying38 (T.ev 0 rfl)) ?_; clear T ac; intro ac T
  refine l_w (wanted_yes rfl rfl (T.ev 7 rfl) (by rw [show (decide (((LLu3.length : Nat) : Int) = ((bu2.lows.length : Nat) : Int))) = true from (decide_eq_true (by omega))]; rfl)) ?_; intro K hK
  refine ow_call (first := []) (cap := []) T rfl rfl rfl rfl evf (.cons (T.ev 6 rfl) (.cons (T.ev 3 rfl) (.cons (T.ev 0 rfl) .nil))) Try.func33 rfl rfl ?_
  refine Calls.mono (pairing_any _ _ _ mlu4 bu2.lows.length bu2.highs.length _ (Su4.rd M (.cons _ (.cons _ (List.sublist_append_right _ _)))) (by omega) hmoku4.1 hmoku4.2) ?_
  clear T
  rintro e wc ⟨rfl, hb⟩
  intro ac T
  replace M := M.call hb; clear hb
  refine sh_out hK _ _ ?_; clear hK K
  refine lw (v := (.bool false)) T (wanted_yes rfl rfl (T.ev 8 rfl) (by rw [show (decide (((LLu3.length : Nat) : Int) = ((bu2.lows.length : Nat) : Int))) = true from (decide_eq_true (by omega))]; rfl)) (rn_neqof (rn_not rfl (T.ev 0 rfl)) (by simp)) ?_; clear T ac; intro ac T
  refine lq T (rn_pick0 rfl (T.ev 9 rfl) (by rw [show (decide (((LLu3.length : Nat) : Int) = ((bu2.lows.length : Nat) : Int))) = true from (decide_eq_true (by omega))]; rfl) (T.ev 0 rfl)) ?_; clear T ac; intro ac T
  refine wpList_nil ?_
  replace T := T.pick [0, 30, 32, 34, 35] rfl
  refine nm_then ?_
  refine wp_cond_false (T.ev 0 rfl) ?_
  refine wp_skip ?_
  refine nm_then ?_
  refine wp_seq ?_
  refine wp_seq ?_
  refine wp_region_lit ?_
  refine lq T (rn_assign rfl evc) ?_; clear T ac; intro ac T
  refine wpList_nil ?_
  replace T := T.pick [0, 2, 3, 4, 5] rfl
  refine nm_then ?_
  refine wp_block ?_
  refine wp_loop_n (fun mz ac wc => ∃ (i : Nat), mz = bu2.lows.length - i ∧ (i ≤ bu2.lows.length) ∧ Tm ac 177 [(3, .pointer (some ⟨g1, 0, none⟩)), (4, .slice Au3 LLu3.length cu3), (6, .slice Au4 mlu4.length cu4), (8, .pointer (some ⟨g2, 0, none⟩)), (10, .int .i64 (i : Int))] ∧ Mem w noEx wc ((g2, .cells [.int .i64 mo0, .int .i64 mo1]) :: (g1, .cells [.int .i64 bu2.first, .int .i64 bu2.step, .int .i64 bu2.span, .int .i64 bu2.press, .int .i64 bu2.note, .slice Au2 bu2.lows.length cu2, .slice Bu2 bu2.highs.length du2, .int .i64 bu2.t0, .int .i64 bu2.t1, .int .i64 bu2.r0, .int .i64 bu2.r1, .int .i64 bu2.u0, .int .i64 bu2.u1, .int .i64 bu2.d0, .int .i64 bu2.d1, .int .i64 bu2.a0, .int .i64 bu2.a1, .int .i64 bu2.b0, .int .i64 bu2.b1, .int .i64 bu2.le, .int .i64 bu2.me]) :: (Iu2 ++ Iu3 ++ Iu4))) ?_ ?_
  ·exact ⟨_, 0, rfl, (Nat.zero_le _), T.pick [4, 3, 2, 1, 0] rfl, M.mask [true, true] rfl⟩
  clear T M
  rintro mz ac wc ⟨i, hmm1, hi, T, M⟩
  refine wp_seq ?_
  refine wp_seq ?_
  refine wp_region_lit ?_
  refine lq T (rn_move rfl (T.ev 4 rfl)) ?_; clear T ac; intro ac T
  refine lq T (rn_move rfl (T.ev 2 rfl)) ?_; clear T ac; intro ac T
  refine lq T (rn_lenS rfl Try.underlying62 (T.ev 0 rfl)) ?_; clear T ac; intro ac T
  refine lq T (rn_lss rfl (T.ev 2 rfl) (T.ev 0 rfl)) ?_; clear T ac; intro ac T
  refine wpList_nil ?_
  replace T := T.pick [0, 4, 5, 6, 7, 8] rfl
  refine nm_then ?_
  refine wp_if (T.ev 0 rfl) ?_ ?_
  ·intro h1
   obtain ⟨⟨rw, Br, dr⟩, hkr⟩ : ∃ x, LLu3[i]? = some x := ⟨_, List.getElem?_eq_getElem (by omega)⟩
   have hrl : rw.length = bu2.highs.length := (tableP_len bu2).2 rw (by rw [← hLu3]; exact List.mem_map.2 ⟨_, List.mem_of_getElem? hkr, rfl⟩)
   obtain ⟨br, orr, hSr⟩ := Eu3 _ (List.mem_of_getElem? hkr)
   have Sr := hSr w noEx
   dsimp only at Sr
   refine wp_skip ?_
   refine nm_then ?_
   refine wp_seq ?_
   refine wp_block ?_
   refine wp_seq ?_
   refine g_start2 M (M.mask [true, true] rfl) 9 (by kernel_rfl) rfl (by kernel_rfl) ?_
   clear M; intro wc M
   refine gq T 0 1 rfl (fun _ _ _ _ _ => (rn_move rfl (T.ev 2 rfl))) ?_; clear T ac; intro ac T
   refine gq T 1 3 rfl (fun _ _ _ _ _ => (rn_move rfl (T.ev 6 rfl))) ?_; clear T ac; intro ac T
   refine gq T 2 7 rfl (fun _ _ _ _ _ => (rn_indexAddr (size := 1) i rfl (T.ev 1 rfl) (T.ev 0 rfl) ⟨_, Try.underlying62, by kernel_rfl⟩ rfl (by omega) (Su3.at0 (by omega)))) ?_; clear T ac; intro ac T
   refine gq (v := (.slice Br rw.length dr)) T 3 15 rfl (fun B w' hD hl hS => (rn_cell (Sp.lc0 Su3 (show Mem w noEx w' _ from hS) (.cons _ (.cons _ (subL (List.sublist_append_right _ _)))) hkr) rfl (T.ev 0 rfl))) ?_; clear T ac; intro ac T
   refine gq T 4 31 rfl (fun _ _ _ _ _ => (rn_lenS rfl Try.underlying22 (T.ev 0 rfl))) ?_; clear T ac; intro ac T
   refine gq (v := (.pointer (some ⟨g1, 6, none⟩))) T 5 63 rfl (fun _ _ _ _ _ => (rn_fieldAddr (off := 6) rfl (T.ev 6 rfl) (fun _ _ _ => by kernel_rfl))) ?_; clear T ac; intro ac T
   refine gq T 6 127 rfl (fun B w' hD hl hS => (rn_one (Mem.nth (show Mem w noEx w' _ from hS) 1 rfl) rfl (T.ev 0 rfl) rfl)) ?_; clear T ac; intro ac T
   refine gq T 7 255 rfl (fun _ _ _ _ _ => (rn_lenS rfl Try.underlying38 (T.ev 0 rfl))) ?_; clear T ac; intro ac T
   refine gq T 8 511 rfl (fun _ _ _ _ _ => (rn_neq rfl (T.ev 3 rfl) (T.ev 0 rfl))) ?_; clear T ac; intro ac T
   refine g_done (by kernel_rfl) ?_
   replace T := T.pick [0, 10, 11, 12, 13, 14] rfl
   refine nm_then ?_
   refine wp_cond_false ((T.ev 0 rfl).trans (congrArg Value.bool (by rw [show (decide (((rw.length : Nat) : Int) = ((bu2.highs.length : Nat) : Int))) = true from (decide_eq_true (by omega))]; rfl))) ?_
   refine wp_skip ?_
   refine nm_blk ?_
   refine nm_then ?_
   refine wp_region_lit ?_
   refine lq T (rn_move rfl (T.ev 5 rfl)) ?_; clear T ac; intro ac T
   refine lq T (rn_add rfl (T.ev 0 rfl) evc (by omega)) ?_; clear T ac; intro ac T
   refine l_q (v := (.int .i64 ((i : Int) + 1))) (T.pick [0, 1, 2, 3, 4, 5, 6] rfl) rfl rfl rfl rfl (rn_assign rfl (T.ev 0 rfl)) ?_; clear T ac; intro ac T
   refine wpList_nil ?_
   replace T := T.pick [0, 4, 5, 6, 7] rfl
   refine nm_then ?_
   exact ⟨_, by omega, i + 1, rfl, (by omega), T.pick [1, 2, 3, 4, 0] rfl, M.mask [true, true] rfl⟩
  intro h1
  refine wp_exit ?_
  refine ex_then ?_
  refine ex_then ?_
  refine ex_hit ?_
  refine nm_then ?_
  refine wp_seq ?_
  refine wp_region_lit ?_
  refine lq T (rn_assign rfl evc) ?_; clear T ac; intro ac T
  refine wpList_nil ?_
  replace T := T.pick [0, 2, 3, 4, 5] rfl
  refine nm_then ?_
  refine wp_seq ?_
  refine wp_region_lit ?_
  refine lq T (rn_assign rfl evc) ?_; clear T ac; intro ac T
  refine lq T (rn_assign rfl evc) ?_; clear T ac; intro ac T
  refine wpList_nil ?_
  refine nm_then ?_
  refine wp_seq ?_
  refine wp_region_lit ?_
  refine lq (v := (.pointer (some ⟨g1, 5, none⟩))) T (rn_fieldAddr (off := 5) rfl (T.ev 3 rfl) (fun _ _ _ => by kernel_rfl)) ?_; clear T ac; intro ac T
  refine lq T (rn_one (Mem.nth M 1 rfl) rfl (T.ev 0 rfl) rfl) ?_; clear T ac; intro ac T
  refine lq T (rn_lenS rfl Try.underlying38 (T.ev 0 rfl)) ?_; clear T ac; intro ac T
  refine lq (v := (.pointer (some ⟨g1, 6, none⟩))) T (rn_fieldAddr (off := 6) rfl (T.ev 6 rfl) (fun _ _ _ => by kernel_rfl)) ?_; clear T ac; intro ac T
  refine lq T (rn_one (Mem.nth M 1 rfl) rfl (T.ev 0 rfl) rfl) ?_; clear T ac; intro ac T
  refine lq T (rn_lenS rfl Try.underlying38 (T.ev 0 rfl)) ?_; clear T ac; intro ac T
  refine l_w rfl ?_; intro K hK
  have nlo4 := hgu2.lows.1
  have nhi5 := hgu2.highs.1
  refine ow_call (first := []) (cap := []) T rfl rfl rfl rfl evf (.cons (T.ev 3 rfl) (.cons (T.ev 0 rfl) (.cons evc .nil))) Try.func34 rfl rfl ?_
  refine Calls.mono (pairings5_any bu2.lows.length bu2.highs.length nlo4 nhi5 bu2.lows.length wc [] none 0 0 [] rfl (by simp) Rd.empty ⟨0, 0, fun _ _ => Sp.nil⟩) ?_
  clear T
  rintro e wc ⟨Au7, cu7, LLu7, Iu7, rfl, hLu7, Su7, Eu7, N⟩
  intro ac T
  obtain ⟨bu7, ou7, Su7⟩ := Su7
  replace Su7 := Su7 w noEx
  rw [List.nil_append] at Eu7
  obtain ⟨Lp, hLp⟩ : ∃ q, q = prsP anyP bu2.highs.length bu2.lows.length [] := ⟨_, rfl⟩
  rw [← hLp] at hLu7
  have nLp : LLu7.length = Lp.length := by rw [← hLu7, List.length_map]
  have nLq : Lp.length ≤ 1296 := by rw [hLp]; exact (prsP_bd _ nhi5 nlo4 _).2
  replace M := (M.join N).swapI
  clear N
  replace M : Mem w noEx wc ((g2, .cells [.int .i64 mo0, .int .i64 mo1]) :: (g1, .cells [.int .i64 bu2.first, .int .i64 bu2.step, .int .i64 bu2.span, .int .i64 bu2.press, .int .i64 bu2.note, .slice Au2 bu2.lows.length cu2, .slice Bu2 bu2.highs.length du2, .int .i64 bu2.t0, .int .i64 bu2.t1, .int .i64 bu2.r0, .int .i64 bu2.r1, .int .i64 bu2.u0, .int .i64 bu2.u1, .int .i64 bu2.d0, .int .i64 bu2.d1, .int .i64 bu2.a0, .int .i64 bu2.a1, .int .i64 bu2.b0, .int .i64 bu2.b1, .int .i64 bu2.le, .int .i64 bu2.me]) :: (Iu2 ++ Iu3 ++ Iu4 ++ Iu7)) := M
  refine sh_out hK _ _ ?_; clear hK K
  refine lq T (rn_assign rfl (T.ev 0 rfl)) ?_; clear T ac; intro ac T
  refine wpList_nil ?_
  replace T := T.pick [0, 8, 9, 10, 12, 13, 14] rfl
  replace M := M.mask [true, false] rfl
  refine nm_then ?_
  refine wp_seq ?_
  refine wp_seq ?_
  refine wp_region_lit ?_
  refine lq T (rn_assign rfl evc) ?_; clear T ac; intro ac T
  refine wpList_nil ?_
  refine nm_then ?_
  refine wp_block ?_
  refine wp_loop_n (fun mz ac wc => ∃ (i : Nat) (f1 : List Int) (A1 : Option Addr) (c1 : Nat) (su ma : Int), mz = Lp.length - i ∧ (i ≤ Lp.length) ∧ ((f1, su) = (Lp.take i).foldl (stepAp (okTp (tableP bu2) okA)) ([], -1)) ∧ (ma = (Lp.take i).foldl (stepBp (okTp (tableP bu2) okM)) 0) ∧ (∃ b o, ∀ (w : World) (ex : Nat → Prop), Sp w ex Iu7 A1 f1.length 1 b o (ic f1)) ∧ Tm ac 177 [(4, .slice Au3 LLu3.length cu3), (6, .slice Au4 mlu4.length cu4), (8, .pointer (some ⟨g2, 0, none⟩)), (11, .slice A1 f1.length c1), (12, .int .i64 su), (13, .int .i64 ma), (14, .slice Au7 LLu7.length cu7), (15, .int .i64 (i : Int))] ∧ Mem w noEx wc ((g2, .cells [.int .i64 mo0, .int .i64 mo1]) :: (Iu2 ++ Iu3 ++ Iu4 ++ Iu7))) ?_ ?_
  ·exact ⟨_, 0, [], none, 0, (-1), 0, rfl, (Nat.zero_le _), rfl, rfl, ⟨0, 0, fun _ _ => Sp.nil.mono (List.nil_sublist _)⟩, T.pick [5, 6, 7, 4, 3, 2, 1, 0] rfl, M.mask [true] rfl⟩
  clear T M
  rintro mz ac wc ⟨i, f1, A1, c1, su, ma, hmm2, hi, hst, hma, hFs, T, M⟩
  refine wp_seq ?_
  refine wp_seq ?_
  refine wp_region_lit ?_
  refine lq T (rn_move rfl (T.ev 7 rfl)) ?_; clear T ac; intro ac T
  refine lq T (rn_move rfl (T.ev 7 rfl)) ?_; clear T ac; intro ac T
  refine lq T (rn_lenS rfl Try.underlying62 (T.ev 0 rfl)) ?_; clear T ac; intro ac T
  refine lq T (rn_lss rfl (T.ev 2 rfl) (T.ev 0 rfl)) ?_; clear T ac; intro ac T
  refine wpList_nil ?_
  replace T := T.pick [0, 4, 5, 6, 7, 8, 9, 10, 11] rfl
  refine nm_then ?_
  refine wp_if (T.ev 0 rfl) ?_ ?_
  ·intro h2
   obtain ⟨⟨p, Bp, dp⟩, hkp⟩ : ∃ x, LLu7[i]? = some x := ⟨_, List.getElem?_eq_getElem (by omega)⟩
   have hpi : Lp[i]? = some p := by rw [← hLu7, List.getElem?_map, hkp]; rfl
   have hpm : p ∈ prsP anyP bu2.highs.length bu2.lows.length [] := by rw [← hLp]; exact List.mem_of_getElem? hpi
   have hpk := prs_ok _ _ _ [] (PairOk.nil _) p hpm
   have hpn : p.length = bu2.lows.length := by obtain ⟨t, rfl, ht⟩ := prs_prefix _ _ _ [] p hpm; simpa using ht
   have hEp := Eu7 _ (List.mem_of_getElem? hkp)
   dsimp only at hEp
   obtain ⟨bp9, op9, hSp9⟩ := id hEp
   have Spp := hSp9 w noEx
   refine wp_skip ?_
   refine nm_then ?_
   refine wp_seq ?_
   refine wp_block ?_
   refine wp_seq ?_
   refine wp_region_lit ?_
   refine lq T (rn_assign rfl evc) ?_; clear T ac; intro ac T
   refine lq T (rn_assign rfl evc) ?_; clear T ac; intro ac T
   refine lq T (rn_assign rfl evc) ?_; clear T ac; intro ac T
   refine wpList_nil ?_
   replace T := T.pick [0, 1, 2, 4, 5, 6, 7, 8, 9, 10, 11] rfl
   refine nm_then ?_
   refine wp_seq ?_
   refine wp_seq ?_
   refine wp_region_lit ?_
   refine lq T (rn_assign rfl evc) ?_; clear T ac; intro ac T
   refine wpList_nil ?_
   refine nm_then ?_
   refine wp_block ?_
   refine wp_loop_n (fun mz ac wc => ∃ (k : Nat) (n : Int) (al ne : Bool), mz = p.length - k ∧ (k ≤ p.length) ∧ (n = pairsP (p.take k)) ∧ (al = okList (tabP (tableP bu2) okA) 0 (p.take k)) ∧ (ne = !okList (tabP (tableP bu2) okM) 0 (p.take k)) ∧ Tm ac 177 [(4, .slice Au3 LLu3.length cu3), (6, .slice Au4 mlu4.length cu4), (8, .pointer (some ⟨g2, 0, none⟩)), (11, .slice A1 f1.length c1), (12, .int .i64 su), (13, .int .i64 ma), (14, .slice Au7 LLu7.length cu7), (15, .int .i64 (i : Int)), (16, .int .i64 n), (17, .bool al), (18, .bool ne), (19, .int .i64 (k : Int))] ∧ Mem w noEx wc ((g2, .cells [.int .i64 mo0, .int .i64 mo1]) :: (Iu2 ++ Iu3 ++ Iu4 ++ Iu7))) ?_ ?_
   ·exact ⟨_, 0, 0, true, false, rfl, (Nat.zero_le _), rfl, rfl, rfl, T.pick [4, 5, 6, 7, 8, 9, 10, 11, 3, 2, 1, 0] rfl, M.mask [true] rfl⟩
   clear T M
   rintro mz ac wc ⟨k, n, al, ne, hmm3, hk, hn, hal, hne, T, M⟩
   refine wp_seq ?_
   refine wp_seq ?_
   refine wp_region_lit ?_
   refine lq T (rn_move rfl (T.ev 11 rfl)) ?_; clear T ac; intro ac T
   refine lq T (rn_move rfl (T.ev 7 rfl)) ?_; clear T ac; intro ac T
   refine lq T (rn_move rfl (T.ev 9 rfl)) ?_; clear T ac; intro ac T
   refine lq T (rn_indexAddr (size := 1) i rfl (T.ev 1 rfl) (T.ev 0 rfl) ⟨_, Try.underlying62, by kernel_rfl⟩ rfl (by omega) (Su7.at0 (by omega))) ?_; clear T ac; intro ac T
   refine lq (v := (.slice Bp p.length dp)) T (rn_cell (Sp.lc0 Su7 M (.cons _ (List.sublist_append_right _ _)) hkp) rfl (T.ev 0 rfl)) ?_; clear T ac; intro ac T
   refine lq T (rn_lenS rfl Try.underlying22 (T.ev 0 rfl)) ?_; clear T ac; intro ac T
   refine lq T (rn_lss rfl (T.ev 5 rfl) (T.ev 0 rfl)) ?_; clear T ac; intro ac T
   refine wpList_nil ?_
   replace T := T.pick [0, 7, 8, 9, 10, 11, 12, 13, 14, 15, 16, 17, 18] rfl
   refine nm_then ?_
   refine wp_if (T.ev 0 rfl) ?_ ?_
   ·intro h3
    obtain ⟨x, hkx, -⟩ := ic_next (l := p) (k := k) (by omega)
    have hxr := hpk.rng x (List.mem_of_getElem? hkx)
    have hnb := pairsP_bd (p.take k)
    have hnl : (p.take k).length ≤ 4 := by rw [List.length_take]; omega
    refine wp_skip ?_
    refine nm_then ?_
    refine wp_seq ?_
    refine wp_block ?_
    refine wp_seq ?_
    refine wp_region_lit ?_
    refine lq T (rn_move rfl (T.ev 7 rfl)) ?_; clear T ac; intro ac T
    refine lq T (rn_move rfl (T.ev 9 rfl)) ?_; clear T ac; intro ac T
    refine lq T (rn_indexAddr (size := 1) i rfl (T.ev 1 rfl) (T.ev 0 rfl) ⟨_, Try.underlying62, by kernel_rfl⟩ rfl (by omega) (Su7.at0 (by omega))) ?_; clear T ac; intro ac T
    refine lq (v := (.slice Bp p.length dp)) T (rn_cell (Sp.lc0 Su7 M (.cons _ (List.sublist_append_right _ _)) hkp) rfl (T.ev 0 rfl)) ?_; clear T ac; intro ac T
    refine lq T (rn_move rfl (T.ev 16 rfl)) ?_; clear T ac; intro ac T
    refine lq T (rn_indexAddr (size := 1) k rfl (T.ev 1 rfl) (T.ev 0 rfl) ⟨_, Try.underlying22, by kernel_rfl⟩ rfl (by omega) (Spp.at0 (by omega))) ?_; clear T ac; intro ac T
    refine lq T (rn_cell (Sp.ic0 Spp M (.cons _ (List.sublist_append_right _ _)) hkx) rfl (T.ev 0 rfl)) ?_; clear T ac; intro ac T
    refine lq T (rn_geq rfl (T.ev 0 rfl) evc) ?_; clear T ac; intro ac T
    refine wpList_nil ?_
    replace T := T.pick [0, 9, 10, 11, 12, 13, 14, 15, 16, 17, 18, 19, 20] rfl
    refine nm_then ?_
    refine wp_if (T.ev 0 rfl) ?_ ?_
    ·intro h4
     have hx0 : 0 ≤ x := h4
     obtain ⟨xk, hxk⟩ : ∃ q : Nat, x = (q : Int) := ⟨x.toNat, by omega⟩
     obtain ⟨⟨rw, Br, dr⟩, hkr⟩ : ∃ z, LLu3[k]? = some z := ⟨_, List.getElem?_eq_getElem (by omega)⟩
     have hrl : rw.length = bu2.highs.length := (tableP_len bu2).2 rw (by rw [← hLu3]; exact List.mem_map.2 ⟨_, List.mem_of_getElem? hkr, rfl⟩)
     obtain ⟨br, orr, hSr⟩ := Eu3 _ (List.mem_of_getElem? hkr)
     have Sr := hSr w noEx
     dsimp only at Sr
     obtain ⟨tv, hkt, -⟩ := ic_next (l := rw) (k := xk) (by omega)
     skip
     refine wp_seq ?_
     refine wp_region_lit ?_
     refine lq T (rn_move rfl (T.ev 9 rfl)) ?_; clear T ac; intro ac T
     refine lq T (rn_add rfl (T.ev 0 rfl) evc (by omega)) ?_; clear T ac; intro ac T
     refine l_q (v := (.int .i64 (n + 1))) (T.pick [0, 1, 2, 3, 4, 5, 6, 7, 8, 9, 10, 12, 13, 14] rfl) rfl rfl rfl rfl (rn_assign rfl (T.ev 0 rfl)) ?_; clear T ac; intro ac T
     refine wpList_nil ?_
     replace T := T.pick [0, 4, 5, 6, 7, 8, 9, 10, 11, 12, 13, 14] rfl
     refine nm_then ?_
     refine g_start2 M (M.mask [true] rfl) 36 (by kernel_rfl) rfl (by kernel_rfl) ?_
     clear M; intro wc M
     refine gq T 0 1 rfl (fun _ _ _ _ _ => (rn_move rfl (T.ev 9 rfl))) ?_; clear T ac; intro ac T
     refine gq T 1 3 rfl (fun _ _ _ _ _ => (rn_move rfl (T.ev 0 rfl))) ?_; clear T ac; intro ac T
     rcases Bool.eq_false_or_eq_true al with h5 | h5
     ·refine g_q (T := T) (i := 2) rfl (by kernel_rfl) (by kernel_rfl : (pbits 36 3).setIfInBounds 2 true = pbits 36 7) si_U (fun _ _ _ h => h) (wanted_yes rfl rfl (T.ev 0 rfl) h5) rfl rfl rfl (fun _ _ _ _ _ => (rn_move rfl (T.ev 3 rfl))) ?_; clear T ac; intro ac T
      refine g_q (T := T) (i := 3) rfl (by kernel_rfl) (by kernel_rfl : (pbits 36 7).setIfInBounds 3 true = pbits 36 15) si_U (fun _ _ _ h => h) (wanted_yes rfl rfl (T.ev 1 rfl) h5) rfl rfl rfl (fun _ _ _ _ _ => (rn_move rfl (T.ev 14 rfl))) ?_; clear T ac; intro ac T
      refine g_q (T := T) (i := 4) rfl (by kernel_rfl) (by kernel_rfl : (pbits 36 15).setIfInBounds 4 true = pbits 36 31) si_U (fun _ _ _ h => h) (wanted_yes rfl rfl (T.ev 2 rfl) h5) rfl rfl rfl (fun _ _ _ _ _ => (rn_indexAddr (size := 1) k rfl (T.ev 1 rfl) (T.ev 0 rfl) ⟨_, Try.underlying62, by kernel_rfl⟩ rfl (by omega) (Su3.at0 (by omega)))) ?_; clear T ac; intro ac T
      refine g_q (v := (.slice Br rw.length dr)) (T := T) (i := 5) rfl (by kernel_rfl) (by kernel_rfl : (pbits 36 31).setIfInBounds 5 true = pbits 36 63) si_U (fun _ _ _ h => h) (wanted_yes rfl rfl (T.ev 3 rfl) h5) rfl rfl rfl (fun B w' hD hl hS => (rn_cell (Sp.lc0 Su3 (show Mem w noEx w' _ from hS) (.cons _ (subL (subL (List.sublist_append_right _ _)))) hkr) rfl (T.ev 0 rfl))) ?_; clear T ac; intro ac T
      refine g_q (T := T) (i := 6) rfl (by kernel_rfl) (by kernel_rfl : (pbits 36 63).setIfInBounds 6 true = pbits 36 127) si_U (fun _ _ _ h => h) (wanted_yes rfl rfl (T.ev 4 rfl) h5) rfl rfl rfl (fun _ _ _ _ _ => (rn_move rfl (T.ev 13 rfl))) ?_; clear T ac; intro ac T
      refine g_q (T := T) (i := 7) rfl (by kernel_rfl) (by kernel_rfl : (pbits 36 127).setIfInBounds 7 true = pbits 36 255) si_U (fun _ _ _ h => h) (wanted_yes rfl rfl (T.ev 5 rfl) h5) rfl rfl rfl (fun _ _ _ _ _ => (rn_move rfl (T.ev 15 rfl))) ?_; clear T ac; intro ac T
      refine g_q (T := T) (i := 8) rfl (by kernel_rfl) (by kernel_rfl : (pbits 36 255).setIfInBounds 8 true = pbits 36 511) si_U (fun _ _ _ h => h) (wanted_yes rfl rfl (T.ev 6 rfl) h5) rfl rfl rfl (fun _ _ _ _ _ => (rn_indexAddr (size := 1) i rfl (T.ev 1 rfl) (T.ev 0 rfl) ⟨_, Try.underlying62, by kernel_rfl⟩ rfl (by omega) (Su7.at0 (by omega)))) ?_; clear T ac; intro ac T
      refine g_q (v := (.slice Bp p.length dp)) (T := T) (i := 9) rfl (by kernel_rfl) (by kernel_rfl : (pbits 36 511).setIfInBounds 9 true = pbits 36 1023) si_U (fun _ _ _ h => h) (wanted_yes rfl rfl (T.ev 7 rfl) h5) rfl rfl rfl (fun B w' hD hl hS => (rn_cell (Sp.lc0 Su7 (show Mem w noEx w' _ from hS) (.cons _ (List.sublist_append_right _ _)) hkp) rfl (T.ev 0 rfl))) ?_; clear T ac; intro ac T
      refine g_q (T := T) (i := 10) rfl (by kernel_rfl) (by kernel_rfl : (pbits 36 1023).setIfInBounds 10 true = pbits 36 2047) si_U (fun _ _ _ h => h) (wanted_yes rfl rfl (T.ev 8 rfl) h5) rfl rfl rfl (fun _ _ _ _ _ => (rn_move rfl (T.ev 21 rfl))) ?_; clear T ac; intro ac T
      refine g_q (T := T) (i := 11) rfl (by kernel_rfl) (by kernel_rfl : (pbits 36 2047).setIfInBounds 11 true = pbits 36 4095) si_U (fun _ _ _ h => h) (wanted_yes rfl rfl (T.ev 9 rfl) h5) rfl rfl rfl (fun _ _ _ _ _ => (rn_indexAddr (size := 1) k rfl (T.ev 1 rfl) (T.ev 0 rfl) ⟨_, Try.underlying22, by kernel_rfl⟩ rfl (by omega) (Spp.at0 (by omega)))) ?_; clear T ac; intro ac T
      refine g_q (T := T) (i := 12) rfl (by kernel_rfl) (by kernel_rfl : (pbits 36 4095).setIfInBounds 12 true = pbits 36 8191) si_U (fun _ _ _ h => h) (wanted_yes rfl rfl (T.ev 10 rfl) h5) rfl rfl rfl (fun B w' hD hl hS => (rn_cell (Sp.ic0 Spp (show Mem w noEx w' _ from hS) (.cons _ (List.sublist_append_right _ _)) hkx) rfl (T.ev 0 rfl))) ?_; clear T ac; intro ac T
      refine g_q (T := T) (i := 13) rfl (by kernel_rfl) (by kernel_rfl : (pbits 36 8191).setIfInBounds 13 true = pbits 36 16383) si_U (fun _ _ _ h => h) (wanted_yes rfl rfl (T.ev 11 rfl) h5) rfl rfl rfl (fun _ _ _ _ _ => (rn_indexAddr (size := 1) xk rfl (T.ev 7 rfl) (T.ev 0 rfl) ⟨_, Try.underlying22, by kernel_rfl⟩ hxk (by omega) (Sr.at0 (by omega)))) ?_; clear T ac; intro ac T
      refine g_q (T := T) (i := 14) rfl (by kernel_rfl) (by kernel_rfl : (pbits 36 16383).setIfInBounds 14 true = pbits 36 32767) si_U (fun _ _ _ h => h) (wanted_yes rfl rfl (T.ev 12 rfl) h5) rfl rfl rfl (fun B w' hD hl hS => (rn_cell (Sp.ic0 Sr (show Mem w noEx w' _ from hS) (.cons _ (subL (subL (List.sublist_append_right _ _)))) hkt) rfl (T.ev 0 rfl))) ?_; clear T ac; intro ac T
      refine g_q (T := T) (i := 15) rfl (by kernel_rfl) (by kernel_rfl : (pbits 36 32767).setIfInBounds 15 true = pbits 36 65535) si_U (fun _ _ _ h => h) (wanted_yes rfl rfl (T.ev 13 rfl) h5) rfl rfl rfl (fun _ _ _ _ _ => (rn_eql rfl (T.ev 0 rfl) evc)) ?_; clear T ac; intro ac T
      refine gq T 16 131071 rfl (fun _ _ _ _ _ => (rn_pick1 rfl (T.ev 14 rfl) h5 (T.ev 0 rfl))) ?_; clear T ac; intro ac T
      refine gq T 17 262143 rfl (fun _ _ _ _ _ => (rn_move rfl (T.ev 27 rfl))) ?_; clear T ac; intro ac T
      refine gq T 18 524287 rfl (fun _ _ _ _ _ => (rn_move rfl (T.ev 0 rfl))) ?_; clear T ac; intro ac T
      rcases Bool.eq_false_or_eq_true ne with h6 | h6
      ·refine g_pass (T := T) (i := 19) rfl (by kernel_rfl) (by kernel_rfl : (pbits 36 524287).setIfInBounds 19 true = pbits 36 1048575) si_U (fun _ _ _ h => h) (wanted_no rfl rfl (T.ev 0 rfl) h6) rfl rfl rfl ?_; clear T ac; intro ac T
       refine g_pass (T := T) (i := 20) rfl (by kernel_rfl) (by kernel_rfl : (pbits 36 1048575).setIfInBounds 20 true = pbits 36 2097151) si_U (fun _ _ _ h => h) (wanted_no rfl rfl (T.ev 1 rfl) h6) rfl rfl rfl ?_; clear T ac; intro ac T
       refine g_pass (T := T) (i := 21) rfl (by kernel_rfl) (by kernel_rfl : (pbits 36 2097151).setIfInBounds 21 true = pbits 36 4194303) si_U (fun _ _ _ h => h) (wanted_no rfl rfl (T.ev 2 rfl) h6) rfl rfl rfl ?_; clear T ac; intro ac T
       refine g_pass (T := T) (i := 22) rfl (by kernel_rfl) (by kernel_rfl : (pbits 36 4194303).setIfInBounds 22 true = pbits 36 8388607) si_U (fun _ _ _ h => h) (wanted_no rfl rfl (T.ev 3 rfl) h6) rfl rfl rfl ?_; clear T ac; intro ac T
       refine g_pass (T := T) (i := 23) rfl (by kernel_rfl) (by kernel_rfl : (pbits 36 8388607).setIfInBounds 23 true = pbits 36 16777215) si_U (fun _ _ _ h => h) (wanted_no rfl rfl (T.ev 4 rfl) h6) rfl rfl rfl ?_; clear T ac; intro ac T
       refine g_pass (T := T) (i := 24) rfl (by kernel_rfl) (by kernel_rfl : (pbits 36 16777215).setIfInBounds 24 true = pbits 36 33554431) si_U (fun _ _ _ h => h) (wanted_no rfl rfl (T.ev 5 rfl) h6) rfl rfl rfl ?_; clear T ac; intro ac T
       refine g_pass (T := T) (i := 25) rfl (by kernel_rfl) (by kernel_rfl : (pbits 36 33554431).setIfInBounds 25 true = pbits 36 67108863) si_U (fun _ _ _ h => h) (wanted_no rfl rfl (T.ev 6 rfl) h6) rfl rfl rfl ?_; clear T ac; intro ac T
       refine g_pass (T := T) (i := 26) rfl (by kernel_rfl) (by kernel_rfl : (pbits 36 67108863).setIfInBounds 26 true = pbits 36 134217727) si_U (fun _ _ _ h => h) (wanted_no rfl rfl (T.ev 7 rfl) h6) rfl rfl rfl ?_; clear T ac; intro ac T
       refine g_pass (T := T) (i := 27) rfl (by kernel_rfl) (by kernel_rfl : (pbits 36 134217727).setIfInBounds 27 true = pbits 36 268435455) si_U (fun _ _ _ h => h) (wanted_no rfl rfl (T.ev 8 rfl) h6) rfl rfl rfl ?_; clear T ac; intro ac T
       refine g_pass (T := T) (i := 28) rfl (by kernel_rfl) (by kernel_rfl : (pbits 36 268435455).setIfInBounds 28 true = pbits 36 536870911) si_U (fun _ _ _ h => h) (wanted_no rfl rfl (T.ev 9 rfl) h6) rfl rfl rfl ?_; clear T ac; intro ac T
       refine g_pass (T := T) (i := 29) rfl (by kernel_rfl) (by kernel_rfl : (pbits 36 536870911).setIfInBounds 29 true = pbits 36 1073741823) si_U (fun _ _ _ h => h) (wanted_no rfl rfl (T.ev 10 rfl) h6) rfl rfl rfl ?_; clear T ac; intro ac T
       refine g_pass (T := T) (i := 30) rfl (by kernel_rfl) (by kernel_rfl : (pbits 36 1073741823).setIfInBounds 30 true = pbits 36 2147483647) si_U (fun _ _ _ h => h) (wanted_no rfl rfl (T.ev 11 rfl) h6) rfl rfl rfl ?_; clear T ac; intro ac T
       refine g_pass (T := T) (i := 31) rfl (by kernel_rfl) (by kernel_rfl : (pbits 36 2147483647).setIfInBounds 31 true = pbits 36 4294967295) si_U (fun _ _ _ h => h) (wanted_no rfl rfl (T.ev 12 rfl) h6) rfl rfl rfl ?_; clear T ac; intro ac T
       refine g_pass (T := T) (i := 32) rfl (by kernel_rfl) (by kernel_rfl : (pbits 36 4294967295).setIfInBounds 32 true = pbits 36 8589934591) si_U (fun _ _ _ h => h) (wanted_no rfl rfl (T.ev 13 rfl) h6) rfl rfl rfl ?_; clear T ac; intro ac T
       refine gq T 33 17179869183 rfl (fun _ _ _ _ _ => (rn_pick1 rfl (T.ev 14 rfl) h6 evc)) ?_; clear T ac; intro ac T
       refine g_q (v := (.bool (decide (tv = 1)))) (T := T.pick [0, 1, 2, 3, 4, 5, 6, 7, 8, 9, 10, 11, 12, 13, 14, 15, 16, 17, 18, 19, 20, 21, 22, 23, 24, 25, 26, 27, 28, 29, 30, 31, 32, 33, 34, 35, 36, 37, 38, 39, 40, 41, 42, 44, 45] rfl) (i := 34) rfl (by kernel_rfl) (by kernel_rfl : (pbits 36 17179869183).setIfInBounds 34 true = pbits 36 34359738367) si_U (fun _ _ _ h => h) rfl rfl rfl rfl (fun _ _ _ _ _ => (rn_assign rfl (T.ev 17 rfl))) ?_; clear T ac; intro ac T
       refine g_q (v := (.bool true)) (T := T.pick [0, 1, 2, 3, 4, 5, 6, 7, 8, 9, 10, 11, 12, 13, 14, 15, 16, 17, 18, 19, 20, 21, 22, 23, 24, 25, 26, 27, 28, 29, 30, 31, 32, 33, 34, 35, 36, 37, 38, 39, 40, 41, 42, 43, 45] rfl) (i := 35) rfl (by kernel_rfl) (by kernel_rfl : (pbits 36 34359738367).setIfInBounds 35 true = pbits 36 68719476735) si_U (fun _ _ _ h => h) rfl rfl rfl rfl (fun _ _ _ _ _ => (rn_assign rfl (T.ev 1 rfl))) ?_; clear T ac; intro ac T
       refine g_done (by kernel_rfl) ?_
       replace T := T.pick [0, 1, 3, 4, 5, 6, 7, 8, 9, 10, 11, 12, 13, 14, 15, 16, 20, 21, 22, 23, 24, 25, 26, 27, 28, 29, 30, 31, 32, 33, 36, 37, 38, 39, 40, 41, 42, 43, 44, 45] rfl
       refine nm_blk ?_
       refine nm_then ?_
       refine wp_region_lit ?_
       refine lq T (rn_move rfl (T.ev 39 rfl)) ?_; clear T ac; intro ac T
       refine lq T (rn_add rfl (T.ev 0 rfl) evc (by omega)) ?_; clear T ac; intro ac T
       refine l_q (v := (.int .i64 ((k : Int) + 1))) (T.pick [0, 1, 2, 3, 4, 5, 6, 7, 8, 9, 10, 11, 12, 13, 14, 15, 16, 17, 18, 19, 20, 21, 22, 23, 24, 25, 26, 27, 28, 29, 30, 31, 32, 33, 34, 35, 36, 37, 38, 39, 40] rfl) rfl rfl rfl rfl (rn_assign rfl (T.ev 0 rfl)) ?_; clear T ac; intro ac T
       refine wpList_nil ?_
       replace T := T.pick [0, 3, 4, 5, 6, 7, 8, 9, 10, 11, 12, 13, 14, 15, 16, 17, 18, 19, 20, 21, 22, 23, 24, 25, 26, 27, 28, 29, 30, 31, 32, 33, 34, 35, 36, 37, 38, 39, 40, 41] rfl
       refine nm_then ?_
       exact ⟨_, by omega, k + 1, (n + 1), (decide (tv = 1)), true, rfl, (by omega), (by rw [pairsP_take hkx, ← hn, if_pos hx0]), (by rw [okTake hkx, ← hal, tab_at hLu3 hkr hxk hkt, decide_eq_false (show ¬ x < 0 by omega), show al = true from h5]; simp [okA]), (by rw [okTake hkx, Bool.not_and, ← hne, tab_at hLu3 hkr hxk hkt, decide_eq_false (show ¬ x < 0 by omega), show ne = true from h6]; simp [okM]), T.pick [32, 33, 34, 35, 36, 37, 38, 39, 31, 2, 1, 0] rfl, M.mask [true] rfl⟩
      refine g_q (T := T) (i := 19) rfl (by kernel_rfl) (by kernel_rfl : (pbits 36 524287).setIfInBounds 19 true = pbits 36 1048575) si_U (fun _ _ _ h => h) (wanted_yes rfl rfl (T.ev 0 rfl) h6) rfl rfl rfl (fun _ _ _ _ _ => (rn_move rfl (T.ev 20 rfl))) ?_; clear T ac; intro ac T
      refine g_q (T := T) (i := 20) rfl (by kernel_rfl) (by kernel_rfl : (pbits 36 1048575).setIfInBounds 20 true = pbits 36 2097151) si_U (fun _ _ _ h => h) (wanted_yes rfl rfl (T.ev 1 rfl) h6) rfl rfl rfl (fun _ _ _ _ _ => (rn_move rfl (T.ev 31 rfl))) ?_; clear T ac; intro ac T
      refine g_q (T := T) (i := 21) rfl (by kernel_rfl) (by kernel_rfl : (pbits 36 2097151).setIfInBounds 21 true = pbits 36 4194303) si_U (fun _ _ _ h => h) (wanted_yes rfl rfl (T.ev 2 rfl) h6) rfl rfl rfl (fun _ _ _ _ _ => (rn_indexAddr (size := 1) k rfl (T.ev 1 rfl) (T.ev 0 rfl) ⟨_, Try.underlying62, by kernel_rfl⟩ rfl (by omega) (Su3.at0 (by omega)))) ?_; clear T ac; intro ac T
      refine g_q (v := (.slice Br rw.length dr)) (T := T) (i := 22) rfl (by kernel_rfl) (by kernel_rfl : (pbits 36 4194303).setIfInBounds 22 true = pbits 36 8388607) si_U (fun _ _ _ h => h) (wanted_yes rfl rfl (T.ev 3 rfl) h6) rfl rfl rfl (fun B w' hD hl hS => (rn_cell (Sp.lc0 Su3 (show Mem w noEx w' _ from hS) (.cons _ (subL (subL (List.sublist_append_right _ _)))) hkr) rfl (T.ev 0 rfl))) ?_; clear T ac; intro ac T
      refine g_q (T := T) (i := 23) rfl (by kernel_rfl) (by kernel_rfl : (pbits 36 8388607).setIfInBounds 23 true = pbits 36 16777215) si_U (fun _ _ _ h => h) (wanted_yes rfl rfl (T.ev 4 rfl) h6) rfl rfl rfl (fun _ _ _ _ _ => (rn_move rfl (T.ev 30 rfl))) ?_; clear T ac; intro ac T
      refine g_q (T := T) (i := 24) rfl (by kernel_rfl) (by kernel_rfl : (pbits 36 16777215).setIfInBounds 24 true = pbits 36 33554431) si_U (fun _ _ _ h => h) (wanted_yes rfl rfl (T.ev 5 rfl) h6) rfl rfl rfl (fun _ _ _ _ _ => (rn_move rfl (T.ev 32 rfl))) ?_; clear T ac; intro ac T
      refine g_q (T := T) (i := 25) rfl (by kernel_rfl) (by kernel_rfl : (pbits 36 33554431).setIfInBounds 25 true = pbits 36 67108863) si_U (fun _ _ _ h => h) (wanted_yes rfl rfl (T.ev 6 rfl) h6) rfl rfl rfl (fun _ _ _ _ _ => (rn_indexAddr (size := 1) i rfl (T.ev 1 rfl) (T.ev 0 rfl) ⟨_, Try.underlying62, by kernel_rfl⟩ rfl (by omega) (Su7.at0 (by omega)))) ?_; clear T ac; intro ac T
      refine g_q (v := (.slice Bp p.length dp)) (T := T) (i := 26) rfl (by kernel_rfl) (by kernel_rfl : (pbits 36 67108863).setIfInBounds 26 true = pbits 36 134217727) si_U (fun _ _ _ h => h) (wanted_yes rfl rfl (T.ev 7 rfl) h6) rfl rfl rfl (fun B w' hD hl hS => (rn_cell (Sp.lc0 Su7 (show Mem w noEx w' _ from hS) (.cons _ (List.sublist_append_right _ _)) hkp) rfl (T.ev 0 rfl))) ?_; clear T ac; intro ac T
      refine g_q (T := T) (i := 27) rfl (by kernel_rfl) (by kernel_rfl : (pbits 36 134217727).setIfInBounds 27 true = pbits 36 268435455) si_U (fun _ _ _ h => h) (wanted_yes rfl rfl (T.ev 8 rfl) h6) rfl rfl rfl (fun _ _ _ _ _ => (rn_move rfl (T.ev 38 rfl))) ?_; clear T ac; intro ac T
      refine g_q (T := T) (i := 28) rfl (by kernel_rfl) (by kernel_rfl : (pbits 36 268435455).setIfInBounds 28 true = pbits 36 536870911) si_U (fun _ _ _ h => h) (wanted_yes rfl rfl (T.ev 9 rfl) h6) rfl rfl rfl (fun _ _ _ _ _ => (rn_indexAddr (size := 1) k rfl (T.ev 1 rfl) (T.ev 0 rfl) ⟨_, Try.underlying22, by kernel_rfl⟩ rfl (by omega) (Spp.at0 (by omega)))) ?_; clear T ac; intro ac T
      refine g_q (T := T) (i := 29) rfl (by kernel_rfl) (by kernel_rfl : (pbits 36 536870911).setIfInBounds 29 true = pbits 36 1073741823) si_U (fun _ _ _ h => h) (wanted_yes rfl rfl (T.ev 10 rfl) h6) rfl rfl rfl (fun B w' hD hl hS => (rn_cell (Sp.ic0 Spp (show Mem w noEx w' _ from hS) (.cons _ (List.sublist_append_right _ _)) hkx) rfl (T.ev 0 rfl))) ?_; clear T ac; intro ac T
      refine g_q (T := T) (i := 30) rfl (by kernel_rfl) (by kernel_rfl : (pbits 36 1073741823).setIfInBounds 30 true = pbits 36 2147483647) si_U (fun _ _ _ h => h) (wanted_yes rfl rfl (T.ev 11 rfl) h6) rfl rfl rfl (fun _ _ _ _ _ => (rn_indexAddr (size := 1) xk rfl (T.ev 7 rfl) (T.ev 0 rfl) ⟨_, Try.underlying22, by kernel_rfl⟩ hxk (by omega) (Sr.at0 (by omega)))) ?_; clear T ac; intro ac T
      refine g_q (T := T) (i := 31) rfl (by kernel_rfl) (by kernel_rfl : (pbits 36 2147483647).setIfInBounds 31 true = pbits 36 4294967295) si_U (fun _ _ _ h => h) (wanted_yes rfl rfl (T.ev 12 rfl) h6) rfl rfl rfl (fun B w' hD hl hS => (rn_cell (Sp.ic0 Sr (show Mem w noEx w' _ from hS) (.cons _ (subL (subL (List.sublist_append_right _ _)))) hkt) rfl (T.ev 0 rfl))) ?_; clear T ac; intro ac T
      refine g_q (T := T) (i := 32) rfl (by kernel_rfl) (by kernel_rfl : (pbits 36 4294967295).setIfInBounds 32 true = pbits 36 8589934591) si_U (fun _ _ _ h => h) (wanted_yes rfl rfl (T.ev 13 rfl) h6) rfl rfl rfl (fun _ _ _ _ _ => (rn_eql rfl (T.ev 0 rfl) evc)) ?_; clear T ac; intro ac T
      refine gq T 33 17179869183 rfl (fun _ _ _ _ _ => (rn_pick0 rfl (T.ev 14 rfl) h6 (T.ev 0 rfl))) ?_; clear T ac; intro ac T
      refine g_q (v := (.bool (decide (tv = 1)))) (T := T.pick [0, 1, 2, 3, 4, 5, 6, 7, 8, 9, 10, 11, 12, 13, 14, 15, 16, 17, 18, 19, 20, 21, 22, 23, 24, 25, 26, 27, 28, 29, 30, 31, 32, 33, 34, 35, 36, 37, 38, 39, 40, 41, 42, 44, 45] rfl) (i := 34) rfl (by kernel_rfl) (by kernel_rfl : (pbits 36 17179869183).setIfInBounds 34 true = pbits 36 34359738367) si_U (fun _ _ _ h => h) rfl rfl rfl rfl (fun _ _ _ _ _ => (rn_assign rfl (T.ev 17 rfl))) ?_; clear T ac; intro ac T
      refine g_q (v := (.bool (decide (tv = 2)))) (T := T.pick [0, 1, 2, 3, 4, 5, 6, 7, 8, 9, 10, 11, 12, 13, 14, 15, 16, 17, 18, 19, 20, 21, 22, 23, 24, 25, 26, 27, 28, 29, 30, 31, 32, 33, 34, 35, 36, 37, 38, 39, 40, 41, 42, 43, 45] rfl) (i := 35) rfl (by kernel_rfl) (by kernel_rfl : (pbits 36 34359738367).setIfInBounds 35 true = pbits 36 68719476735) si_U (fun _ _ _ h => h) rfl rfl rfl rfl (fun _ _ _ _ _ => (rn_assign rfl (T.ev 1 rfl))) ?_; clear T ac; intro ac T
      refine g_done (by kernel_rfl) ?_
      replace T := T.pick [0, 1, 3, 4, 5, 6, 7, 8, 9, 10, 11, 12, 13, 14, 15, 16, 20, 21, 22, 23, 24, 25, 26, 27, 28, 29, 30, 31, 32, 33, 36, 37, 38, 39, 40, 41, 42, 43, 44, 45] rfl
      refine nm_blk ?_
      refine nm_then ?_
      refine wp_region_lit ?_
      refine lq T (rn_move rfl (T.ev 39 rfl)) ?_; clear T ac; intro ac T
      refine lq T (rn_add rfl (T.ev 0 rfl) evc (by omega)) ?_; clear T ac; intro ac T
      refine l_q (v := (.int .i64 ((k : Int) + 1))) (T.pick [0, 1, 2, 3, 4, 5, 6, 7, 8, 9, 10, 11, 12, 13, 14, 15, 16, 17, 18, 19, 20, 21, 22, 23, 24, 25, 26, 27, 28, 29, 30, 31, 32, 33, 34, 35, 36, 37, 38, 39, 40] rfl) rfl rfl rfl rfl (rn_assign rfl (T.ev 0 rfl)) ?_; clear T ac; intro ac T
      refine wpList_nil ?_
      replace T := T.pick [0, 3, 4, 5, 6, 7, 8, 9, 10, 11, 12, 13, 14, 15, 16, 17, 18, 19, 20, 21, 22, 23, 24, 25, 26, 27, 28, 29, 30, 31, 32, 33, 34, 35, 36, 37, 38, 39, 40, 41] rfl
      refine nm_then ?_
      exact ⟨_, by omega, k + 1, (n + 1), (decide (tv = 1)), (decide (tv = 2)), rfl, (by omega), (by rw [pairsP_take hkx, ← hn, if_pos hx0]), (by rw [okTake hkx, ← hal, tab_at hLu3 hkr hxk hkt, decide_eq_false (show ¬ x < 0 by omega), show al = true from h5]; simp [okA]), (by rw [okTake hkx, Bool.not_and, ← hne, tab_at hLu3 hkr hxk hkt, decide_eq_false (show ¬ x < 0 by omega), show ne = false from h6]; simp [okM]), T.pick [32, 33, 34, 35, 36, 37, 38, 39, 31, 2, 1, 0] rfl, M.mask [true] rfl⟩
     refine g_pass (T := T) (i := 2) rfl (by kernel_rfl) (by kernel_rfl : (pbits 36 3).setIfInBounds 2 true = pbits 36 7) si_U (fun _ _ _ h => h) (wanted_no rfl rfl (T.ev 0 rfl) h5) rfl rfl rfl ?_; clear T ac; intro ac T
     refine g_pass (T := T) (i := 3) rfl (by kernel_rfl) (by kernel_rfl : (pbits 36 7).setIfInBounds 3 true = pbits 36 15) si_U (fun _ _ _ h => h) (wanted_no rfl rfl (T.ev 1 rfl) h5) rfl rfl rfl ?_; clear T ac; intro ac T
     refine g_pass (T := T) (i := 4) rfl (by kernel_rfl) (by kernel_rfl : (pbits 36 15).setIfInBounds 4 true = pbits 36 31) si_U (fun _ _ _ h => h) (wanted_no rfl rfl (T.ev 2 rfl) h5) rfl rfl rfl ?_; clear T ac; intro ac T
     refine g_pass (T := T) (i := 5) rfl (by kernel_rfl) (by kernel_rfl : (pbits 36 31).setIfInBounds 5 true = pbits 36 63) si_U (fun _ _ _ h => h) (wanted_no rfl rfl (T.ev 3 rfl) h5) rfl rfl rfl ?_; clear T ac; intro ac T
     refine g_pass (T := T) (i := 6) rfl (by kernel_rfl) (by kernel_rfl : (pbits 36 63).setIfInBounds 6 true = pbits 36 127) si_U (fun _ _ _ h => h) (wanted_no rfl rfl (T.ev 4 rfl) h5) rfl rfl rfl ?_; clear T ac; intro ac T
     refine g_pass (T := T) (i := 7) rfl (by kernel_rfl) (by kernel_rfl : (pbits 36 127).setIfInBounds 7 true = pbits 36 255) si_U (fun _ _ _ h => h) (wanted_no rfl rfl (T.ev 5 rfl) h5) rfl rfl rfl ?_; clear T ac; intro ac T
     refine g_pass (T := T) (i := 8) rfl (by kernel_rfl) (by kernel_rfl : (pbits 36 255).setIfInBounds 8 true = pbits 36 511) si_U (fun _ _ _ h => h) (wanted_no rfl rfl (T.ev 6 rfl) h5) rfl rfl rfl ?_; clear T ac; intro ac T
     refine g_pass (T := T) (i := 9) rfl (by kernel_rfl) (by kernel_rfl : (pbits 36 511).setIfInBounds 9 true = pbits 36 1023) si_U (fun _ _ _ h => h) (wanted_no rfl rfl (T.ev 7 rfl) h5) rfl rfl rfl ?_; clear T ac; intro ac T
     refine g_pass (T := T) (i := 10) rfl (by kernel_rfl) (by kernel_rfl : (pbits 36 1023).setIfInBounds 10 true = pbits 36 2047) si_U (fun _ _ _ h => h) (wanted_no rfl rfl (T.ev 8 rfl) h5) rfl rfl rfl ?_; clear T ac; intro ac T
     refine g_pass (T := T) (i := 11) rfl (by kernel_rfl) (by kernel_rfl : (pbits 36 2047).setIfInBounds 11 true = pbits 36 4095) si_U (fun _ _ _ h => h) (wanted_no rfl rfl (T.ev 9 rfl) h5) rfl rfl rfl ?_; clear T ac; intro ac T
     refine g_pass (T := T) (i := 12) rfl (by kernel_rfl) (by kernel_rfl : (pbits 36 4095).setIfInBounds 12 true = pbits 36 8191) si_U (fun _ _ _ h => h) (wanted_no rfl rfl (T.ev 10 rfl) h5) rfl rfl rfl ?_; clear T ac; intro ac T
     refine g_pass (T := T) (i := 13) rfl (by kernel_rfl) (by kernel_rfl : (pbits 36 8191).setIfInBounds 13 true = pbits 36 16383) si_U (fun _ _ _ h => h) (wanted_no rfl rfl (T.ev 11 rfl) h5) rfl rfl rfl ?_; clear T ac; intro ac T
     refine g_pass (T := T) (i := 14) rfl (by kernel_rfl) (by kernel_rfl : (pbits 36 16383).setIfInBounds 14 true = pbits 36 32767) si_U (fun _ _ _ h => h) (wanted_no rfl rfl (T.ev 12 rfl) h5) rfl rfl rfl ?_; clear T ac; intro ac T
     refine g_pass (T := T) (i := 15) rfl (by kernel_rfl) (by kernel_rfl : (pbits 36 32767).setIfInBounds 15 true = pbits 36 65535) si_U (fun _ _ _ h => h) (wanted_no rfl rfl (T.ev 13 rfl) h5) rfl rfl rfl ?_; clear T ac; intro ac T
     refine gq T 16 131071 rfl (fun _ _ _ _ _ => (rn_pick0 rfl (T.ev 14 rfl) h5 evc)) ?_; clear T ac; intro ac T
     refine gq T 17 262143 rfl (fun _ _ _ _ _ => (rn_move rfl (T.ev 27 rfl))) ?_; clear T ac; intro ac T
     refine gq T 18 524287 rfl (fun _ _ _ _ _ => (rn_move rfl (T.ev 0 rfl))) ?_; clear T ac; intro ac T
     rcases Bool.eq_false_or_eq_true ne with h7 | h7
     ·refine g_pass (T := T) (i := 19) rfl (by kernel_rfl) (by kernel_rfl : (pbits 36 524287).setIfInBounds 19 true = pbits 36 1048575) si_U (fun _ _ _ h => h) (wanted_no rfl rfl (T.ev 0 rfl) h7) rfl rfl rfl ?_; clear T ac; intro ac T
      refine g_pass (T := T) (i := 20) rfl (by kernel_rfl) (by kernel_rfl : (pbits 36 1048575).setIfInBounds 20 true = pbits 36 2097151) si_U (fun _ _ _ h => h) (wanted_no rfl rfl (T.ev 1 rfl) h7) rfl rfl rfl ?_; clear T ac; intro ac T
      refine g_pass (T := T) (i := 21) rfl (by kernel_rfl) (by kernel_rfl : (pbits 36 2097151).setIfInBounds 21 true = pbits 36 4194303) si_U (fun _ _ _ h => h) (wanted_no rfl rfl (T.ev 2 rfl) h7) rfl rfl rfl ?_; clear T ac; intro ac T
      refine g_pass (T := T) (i := 22) rfl (by kernel_rfl) (by kernel_rfl : (pbits 36 4194303).setIfInBounds 22 true = pbits 36 8388607) si_U (fun _ _ _ h => h) (wanted_no rfl rfl (T.ev 3 rfl) h7) rfl rfl rfl ?_; clear T ac; intro ac T
      refine g_pass (T := T) (i := 23) rfl (by kernel_rfl) (by kernel_rfl : (pbits 36 8388607).setIfInBounds 23 true = pbits 36 16777215) si_U (fun _ _ _ h => h) (wanted_no rfl rfl (T.ev 4 rfl) h7) rfl rfl rfl ?_; clear T ac; intro ac T
      refine g_pass (T := T) (i := 24) rfl (by kernel_rfl) (by kernel_rfl : (pbits 36 16777215).setIfInBounds 24 true = pbits 36 33554431) si_U (fun _ _ _ h => h) (wanted_no rfl rfl (T.ev 5 rfl) h7) rfl rfl rfl ?_; clear T ac; intro ac T
      refine g_pass (T := T) (i := 25) rfl (by kernel_rfl) (by kernel_rfl : (pbits 36 33554431).setIfInBounds 25 true = pbits 36 67108863) si_U (fun _ _ _ h => h) (wanted_no rfl rfl (T.ev 6 rfl) h7) rfl rfl rfl ?_; clear T ac; intro ac T
      refine g_pass (T := T) (i := 26) rfl (by kernel_rfl) (by kernel_rfl : (pbits 36 67108863).setIfInBounds 26 true = pbits 36 134217727) si_U (fun _ _ _ h => h) (wanted_no rfl rfl (T.ev 7 rfl) h7) rfl rfl rfl ?_; clear T ac; intro ac T
      refine g_pass (T := T) (i := 27) rfl (by kernel_rfl) (by kernel_rfl : (pbits 36 134217727).setIfInBounds 27 true = pbits 36 268435455) si_U (fun _ _ _ h => h) (wanted_no rfl rfl (T.ev 8 rfl) h7) rfl rfl rfl ?_; clear T ac; intro ac T
      refine g_pass (T := T) (i := 28) rfl (by kernel_rfl) (by kernel_rfl : (pbits 36 268435455).setIfInBounds 28 true = pbits 36 536870911) si_U (fun _ _ _ h => h) (wanted_no rfl rfl (T.ev 9 rfl) h7) rfl rfl rfl ?_; clear T ac; intro ac T
      refine g_pass (T := T) (i := 29) rfl (by kernel_rfl) (by kernel_rfl : (pbits 36 536870911).setIfInBounds 29 true = pbits 36 1073741823) si_U (fun _ _ _ h => h) (wanted_no rfl rfl (T.ev 10 rfl) h7) rfl rfl rfl ?_; clear T ac; intro ac T
      refine g_pass (T := T) (i := 30) rfl (by kernel_rfl) (by kernel_rfl : (pbits 36 1073741823).setIfInBounds 30 true = pbits 36 2147483647) si_U (fun _ _ _ h => h) (wanted_no rfl rfl (T.ev 11 rfl) h7) rfl rfl rfl ?_; clear T ac; intro ac T
      refine g_pass (T := T) (i := 31) rfl (by kernel_rfl) (by kernel_rfl : (pbits 36 2147483647).setIfInBounds 31 true = pbits 36 4294967295) si_U (fun _ _ _ h => h) (wanted_no rfl rfl (T.ev 12 rfl) h7) rfl rfl rfl ?_; clear T ac; intro ac T
      refine g_pass (T := T) (i := 32) rfl (by kernel_rfl) (by kernel_rfl : (pbits 36 4294967295).setIfInBounds 32 true = pbits 36 8589934591) si_U (fun _ _ _ h => h) (wanted_no rfl rfl (T.ev 13 rfl) h7) rfl rfl rfl ?_; clear T ac; intro ac T
      refine gq T 33 17179869183 rfl (fun _ _ _ _ _ => (rn_pick1 rfl (T.ev 14 rfl) h7 evc)) ?_; clear T ac; intro ac T
      refine g_q (v := (.bool false)) (T := T.pick [0, 1, 2, 3, 4, 5, 6, 7, 8, 9, 10, 11, 12, 13, 14, 15, 16, 17, 18, 19, 20, 21, 22, 23, 24, 25, 26, 27, 28, 29, 30, 31, 32, 33, 34, 35, 36, 37, 38, 39, 40, 41, 42, 44, 45] rfl) (i := 34) rfl (by kernel_rfl) (by kernel_rfl : (pbits 36 17179869183).setIfInBounds 34 true = pbits 36 34359738367) si_U (fun _ _ _ h => h) rfl rfl rfl rfl (fun _ _ _ _ _ => (rn_assign rfl (T.ev 17 rfl))) ?_; clear T ac; intro ac T
      refine g_q (v := (.bool true)) (T := T.pick [0, 1, 2, 3, 4, 5, 6, 7, 8, 9, 10, 11, 12, 13, 14, 15, 16, 17, 18, 19, 20, 21, 22, 23, 24, 25, 26, 27, 28, 29, 30, 31, 32, 33, 34, 35, 36, 37, 38, 39, 40, 41, 42, 43, 45] rfl) (i := 35) rfl (by kernel_rfl) (by kernel_rfl : (pbits 36 34359738367).setIfInBounds 35 true = pbits 36 68719476735) si_U (fun _ _ _ h => h) rfl rfl rfl rfl (fun _ _ _ _ _ => (rn_assign rfl (T.ev 1 rfl))) ?_; clear T ac; intro ac T
      refine g_done (by kernel_rfl) ?_
      replace T := T.pick [0, 1, 3, 4, 5, 6, 7, 8, 9, 10, 11, 12, 13, 14, 15, 16, 20, 21, 22, 23, 24, 25, 26, 27, 28, 29, 30, 31, 32, 33, 36, 37, 38, 39, 40, 41, 42, 43, 44, 45] rfl
      refine nm_blk ?_
      refine nm_then ?_
      refine wp_region_lit ?_
      refine lq T (rn_move rfl (T.ev 39 rfl)) ?_; clear T ac; intro ac T
      refine lq T (rn_add rfl (T.ev 0 rfl) evc (by omega)) ?_; clear T ac; intro ac T
      refine l_q (v := (.int .i64 ((k : Int) + 1))) (T.pick [0, 1, 2, 3, 4, 5, 6, 7, 8, 9, 10, 11, 12, 13, 14, 15, 16, 17, 18, 19, 20, 21, 22, 23, 24, 25, 26, 27, 28, 29, 30, 31, 32, 33, 34, 35, 36, 37, 38, 39, 40] rfl) rfl rfl rfl rfl (rn_assign rfl (T.ev 0 rfl)) ?_; clear T ac; intro ac T
      refine wpList_nil ?_
      replace T := T.pick [0, 3, 4, 5, 6, 7, 8, 9, 10, 11, 12, 13, 14, 15, 16, 17, 18, 19, 20, 21, 22, 23, 24, 25, 26, 27, 28, 29, 30, 31, 32, 33, 34, 35, 36, 37, 38, 39, 40, 41] rfl
      refine nm_then ?_
      exact ⟨_, by omega, k + 1, (n + 1), false, true, rfl, (by omega), (by rw [pairsP_take hkx, ← hn, if_pos hx0]), (by rw [okTake hkx, ← hal, tab_at hLu3 hkr hxk hkt, decide_eq_false (show ¬ x < 0 by omega), show al = false from h5]; simp [okA]), (by rw [okTake hkx, Bool.not_and, ← hne, tab_at hLu3 hkr hxk hkt, decide_eq_false (show ¬ x < 0 by omega), show ne = true from h7]; simp [okM]), T.pick [32, 33, 34, 35, 36, 37, 38, 39, 31, 2, 1, 0] rfl, M.mask [true] rfl⟩
     refine g_q (T := T) (i := 19) rfl (by kernel_rfl) (by kernel_rfl : (pbits 36 524287).setIfInBounds 19 true = pbits 36 1048575) si_U (fun _ _ _ h => h) (wanted_yes rfl rfl (T.ev 0 rfl) h7) rfl rfl rfl (fun _ _ _ _ _ => (rn_move rfl (T.ev 20 rfl))) ?_; clear T ac; intro ac T
     refine g_q (T := T) (i := 20) rfl (by kernel_rfl) (by kernel_rfl : (pbits 36 1048575).setIfInBounds 20 true = pbits 36 2097151) si_U (fun _ _ _ h => h) (wanted_yes rfl rfl (T.ev 1 rfl) h7) rfl rfl rfl (fun _ _ _ _ _ => (rn_move rfl (T.ev 31 rfl))) ?_; clear T ac; intro ac T
     refine g_q (T := T) (i := 21) rfl (by kernel_rfl) (by kernel_rfl : (pbits 36 2097151).setIfInBounds 21 true = pbits 36 4194303) si_U (fun _ _ _ h => h) (wanted_yes rfl rfl (T.ev 2 rfl) h7) rfl rfl rfl (fun _ _ _ _ _ => (rn_indexAddr (size := 1) k rfl (T.ev 1 rfl) (T.ev 0 rfl) ⟨_, Try.underlying62, by kernel_rfl⟩ rfl (by omega) (Su3.at0 (by omega)))) ?_; clear T ac; intro ac T
     refine g_q (v := (.slice Br rw.length dr)) (T := T) (i := 22) rfl (by kernel_rfl) (by kernel_rfl : (pbits 36 4194303).setIfInBounds 22 true = pbits 36 8388607) si_U (fun _ _ _ h => h) (wanted_yes rfl rfl (T.ev 3 rfl) h7) rfl rfl rfl (fun B w' hD hl hS => (rn_cell (Sp.lc0 Su3 (show Mem w noEx w' _ from hS) (.cons _ (subL (subL (List.sublist_append_right _ _)))) hkr) rfl (T.ev 0 rfl))) ?_; clear T ac; intro ac T
     refine g_q (T := T) (i := 23) rfl (by kernel_rfl) (by kernel_rfl : (pbits 36 8388607).setIfInBounds 23 true = pbits 36 16777215) si_U (fun _ _ _ h => h) (wanted_yes rfl rfl (T.ev 4 rfl) h7) rfl rfl rfl (fun _ _ _ _ _ => (rn_move rfl (T.ev 30 rfl))) ?_; clear T ac; intro ac T
     refine g_q (T := T) (i := 24) rfl (by kernel_rfl) (by kernel_rfl : (pbits 36 16777215).setIfInBounds 24 true = pbits 36 33554431) si_U (fun _ _ _ h => h) (wanted_yes rfl rfl (T.ev 5 rfl) h7) rfl rfl rfl (fun _ _ _ _ _ => (rn_move rfl (T.ev 32 rfl))) ?_; clear T ac; intro ac T
     refine g_q (T := T) (i := 25) rfl (by kernel_rfl) (by kernel_rfl : (pbits 36 33554431).setIfInBounds 25 true = pbits 36 67108863) si_U (fun _ _ _ h => h) (wanted_yes rfl rfl (T.ev 6 rfl) h7) rfl rfl rfl (fun _ _ _ _ _ => (rn_indexAddr (size := 1) i rfl (T.ev 1 rfl) (T.ev 0 rfl) ⟨_, Try.underlying62, by kernel_rfl⟩ rfl (by omega) (Su7.at0 (by omega)))) ?_; clear T ac; intro ac T
     refine g_q (v := (.slice Bp p.length dp)) (T := T) (i := 26) rfl (by kernel_rfl) (by kernel_rfl : (pbits 36 67108863).setIfInBounds 26 true = pbits 36 134217727) si_U (fun _ _ _ h => h) (wanted_yes rfl rfl (T.ev 7 rfl) h7) rfl rfl rfl (fun B w' hD hl hS => (rn_cell (Sp.lc0 Su7 (show Mem w noEx w' _ from hS) (.cons _ (List.sublist_append_right _ _)) hkp) rfl (T.ev 0 rfl))) ?_; clear T ac; intro ac T
     refine g_q (T := T) (i := 27) rfl (by kernel_rfl) (by kernel_rfl : (pbits 36 134217727).setIfInBounds 27 true = pbits 36 268435455) si_U (fun _ _ _ h => h) (wanted_yes rfl rfl (T.ev 8 rfl) h7) rfl rfl rfl (fun _ _ _ _ _ => (rn_move rfl (T.ev 38 rfl))) ?_; clear T ac; intro ac T
     refine g_q (T := T) (i := 28) rfl (by kernel_rfl) (by kernel_rfl : (pbits 36 268435455).setIfInBounds 28 true = pbits 36 536870911) si_U (fun _ _ _ h => h) (wanted_yes rfl rfl (T.ev 9 rfl) h7) rfl rfl rfl (fun _ _ _ _ _ => (rn_indexAddr (size := 1) k rfl (T.ev 1 rfl) (T.ev 0 rfl) ⟨_, Try.underlying22, by kernel_rfl⟩ rfl (by omega) (Spp.at0 (by omega)))) ?_; clear T ac; intro ac T
     refine g_q (T := T) (i := 29) rfl (by kernel_rfl) (by kernel_rfl : (pbits 36 536870911).setIfInBounds 29 true = pbits 36 1073741823) si_U (fun _ _ _ h => h) (wanted_yes rfl rfl (T.ev 10 rfl) h7) rfl rfl rfl (fun B w' hD hl hS => (rn_cell (Sp.ic0 Spp (show Mem w noEx w' _ from hS) (.cons _ (List.sublist_append_right _ _)) hkx) rfl (T.ev 0 rfl))) ?_; clear T ac; intro ac T
     refine g_q (T := T) (i := 30) rfl (by kernel_rfl) (by kernel_rfl : (pbits 36 1073741823).setIfInBounds 30 true = pbits 36 2147483647) si_U (fun _ _ _ h => h) (wanted_yes rfl rfl (T.ev 11 rfl) h7) rfl rfl rfl (fun _ _ _ _ _ => (rn_indexAddr (size := 1) xk rfl (T.ev 7 rfl) (T.ev 0 rfl) ⟨_, Try.underlying22, by kernel_rfl⟩ hxk (by omega) (Sr.at0 (by omega)))) ?_; clear T ac; intro ac T
     refine g_q (T := T) (i := 31) rfl (by kernel_rfl) (by kernel_rfl : (pbits 36 2147483647).setIfInBounds 31 true = pbits 36 4294967295) si_U (fun _ _ _ h => h) (wanted_yes rfl rfl (T.ev 12 rfl) h7) rfl rfl rfl (fun B w' hD hl hS => (rn_cell (Sp.ic0 Sr (show Mem w noEx w' _ from hS) (.cons _ (subL (subL (List.sublist_append_right _ _)))) hkt) rfl (T.ev 0 rfl))) ?_; clear T ac; intro ac T
     refine g_q (T := T) (i := 32) rfl (by kernel_rfl) (by kernel_rfl : (pbits 36 4294967295).setIfInBounds 32 true = pbits 36 8589934591) si_U (fun _ _ _ h => h) (wanted_yes rfl rfl (T.ev 13 rfl) h7) rfl rfl rfl (fun _ _ _ _ _ => (rn_eql rfl (T.ev 0 rfl) evc)) ?_; clear T ac; intro ac T
     refine gq T 33 17179869183 rfl (fun _ _ _ _ _ => (rn_pick0 rfl (T.ev 14 rfl) h7 (T.ev 0 rfl))) ?_; clear T ac; intro ac T
     refine g_q (v := (.bool false)) (T := T.pick [0, 1, 2, 3, 4, 5, 6, 7, 8, 9, 10, 11, 12, 13, 14, 15, 16, 17, 18, 19, 20, 21, 22, 23, 24, 25, 26, 27, 28, 29, 30, 31, 32, 33, 34, 35, 36, 37, 38, 39, 40, 41, 42, 44, 45] rfl) (i := 34) rfl (by kernel_rfl) (by kernel_rfl : (pbits 36 17179869183).setIfInBounds 34 true = pbits 36 34359738367) si_U (fun _ _ _ h => h) rfl rfl rfl rfl (fun _ _ _ _ _ => (rn_assign rfl (T.ev 17 rfl))) ?_; clear T ac; intro ac T
     refine g_q (v := (.bool (decide (tv = 2)))) (T := T.pick [0, 1, 2, 3, 4, 5, 6, 7, 8, 9, 10, 11, 12, 13, 14, 15, 16, 17, 18, 19, 20, 21, 22, 23, 24, 25, 26, 27, 28, 29, 30, 31, 32, 33, 34, 35, 36, 37, 38, 39, 40, 41, 42, 43, 45] rfl) (i := 35) rfl (by kernel_rfl) (by kernel_rfl : (pbits 36 34359738367).setIfInBounds 35 true = pbits 36 68719476735) si_U (fun _ _ _ h => h) rfl rfl rfl rfl (fun _ _ _ _ _ => (rn_assign rfl (T.ev 1 rfl))) ?_; clear T ac; intro ac T
     refine g_done (by kernel_rfl) ?_
     replace T := T.pick [0, 1, 3, 4, 5, 6, 7, 8, 9, 10, 11, 12, 13, 14, 15, 16, 20, 21, 22, 23, 24, 25, 26, 27, 28, 29, 30, 31, 32, 33, 36, 37, 38, 39, 40, 41, 42, 43, 44, 45] rfl
     refine nm_blk ?_
     refine nm_then ?_
     refine wp_region_lit ?_
     refine lq T (rn_move rfl (T.ev 39 rfl)) ?_; clear T ac; intro ac T
     refine lq T (rn_add rfl (T.ev 0 rfl) evc (by omega)) ?_; clear T ac; intro ac T
     refine l_q (v := (.int .i64 ((k : Int) + 1))) (T.pick [0, 1, 2, 3, 4, 5, 6, 7, 8, 9, 10, 11, 12, 13, 14, 15, 16, 17, 18, 19, 20, 21, 22, 23, 24, 25, 26, 27, 28, 29, 30, 31, 32, 33, 34, 35, 36, 37, 38, 39, 40] rfl) rfl rfl rfl rfl (rn_assign rfl (T.ev 0 rfl)) ?_; clear T ac; intro ac T
     refine wpList_nil ?_
     replace T := T.pick [0, 3, 4, 5, 6, 7, 8, 9, 10, 11, 12, 13, 14, 15, 16, 17, 18, 19, 20, 21, 22, 23, 24, 25, 26, 27, 28, 29, 30, 31, 32, 33, 34, 35, 36, 37, 38, 39, 40, 41] rfl
     refine nm_then ?_
     exact ⟨_, by omega, k + 1, (n + 1), false, (decide (tv = 2)), rfl, (by omega), (by rw [pairsP_take hkx, ← hn, if_pos hx0]), (by rw [okTake hkx, ← hal, tab_at hLu3 hkr hxk hkt, decide_eq_false (show ¬ x < 0 by omega), show al = false from h5]; simp [okA]), (by rw [okTake hkx, Bool.not_and, ← hne, tab_at hLu3 hkr hxk hkt, decide_eq_false (show ¬ x < 0 by omega), show ne = false from h7]; simp [okM]), T.pick [32, 33, 34, 35, 36, 37, 38, 39, 31, 2, 1, 0] rfl, M.mask [true] rfl⟩
    intro h4
    refine wp_skip ?_
    refine nm_blk ?_
    refine nm_then ?_
    refine wp_region_lit ?_
    refine lq T (rn_move rfl (T.ev 12 rfl)) ?_; clear T ac; intro ac T
    refine lq T (rn_add rfl (T.ev 0 rfl) evc (by omega)) ?_; clear T ac; intro ac T
    refine l_q (v := (.int .i64 ((k : Int) + 1))) (T.pick [0, 1, 2, 3, 4, 5, 6, 7, 8, 9, 10, 11, 12, 13] rfl) rfl rfl rfl rfl (rn_assign rfl (T.ev 0 rfl)) ?_; clear T ac; intro ac T
    refine wpList_nil ?_
    replace T := T.pick [0, 4, 5, 6, 7, 8, 9, 10, 11, 12, 13, 14] rfl
    refine nm_then ?_
    exact ⟨_, by omega, k + 1, n, al, ne, rfl, (by omega), (by rw [pairsP_take hkx, ← hn, if_neg (by omega)]; omega), (by rw [okTake hkx, ← hal, decide_eq_true (show x < 0 by omega)]; simp), (by rw [okTake hkx, Bool.not_and, ← hne, decide_eq_true (show x < 0 by omega)]; simp), T.pick [1, 2, 3, 4, 5, 6, 7, 8, 9, 10, 11, 0] rfl, M.mask [true] rfl⟩
   intro h3
   rw [List.take_of_length_le (by omega)] at hn hal hne
   have hnb := pairsP_bd p
   refine wp_exit ?_
   refine ex_then ?_
   refine ex_then ?_
   refine ex_hit ?_
   refine nm_then ?_
   refine wp_seq ?_
   refine cut_seq (fun ac wc => Tm ac 177 [(4, .slice Au3 LLu3.length cu3), (6, .slice Au4 mlu4.length cu4), (8, .pointer (some ⟨g2, 0, none⟩)), (11, .slice A1 f1.length c1), (12, .int .i64 su), (13, .int .i64 ma), (14, .slice Au7 LLu7.length cu7), (15, .int .i64 (i : Int)), (16, .int .i64 n), (18, .bool ne), (153, .bool (al && (decide (su < n))))] ∧ Mem w noEx wc ((g2, .cells [.int .i64 mo0, .int .i64 mo1]) :: (Iu2 ++ Iu3 ++ Iu4 ++ Iu7))) ?_ ?_
   ·refine wp_region_lit ?_
    refine lq T (rn_move rfl (T.ev 10 rfl)) ?_; clear T ac; intro ac T
    refine lq T (rn_move rfl (T.ev 0 rfl)) ?_; clear T ac; intro ac T
    rcases Bool.eq_false_or_eq_true al with h8 | h8
    ·refine lw T (wanted_yes rfl rfl (T.ev 0 rfl) h8) (rn_move rfl (T.ev 11 rfl)) ?_; clear T ac; intro ac T
     refine lw T (wanted_yes rfl rfl (T.ev 1 rfl) h8) (rn_move rfl (T.ev 8 rfl)) ?_; clear T ac; intro ac T
     refine lw T (wanted_yes rfl rfl (T.ev 2 rfl) h8) (rn_gtr rfl (T.ev 1 rfl) (T.ev 0 rfl)) ?_; clear T ac; intro ac T
     refine lq T (rn_pick1 rfl (T.ev 3 rfl) h8 (T.ev 0 rfl)) ?_; clear T ac; intro ac T
     refine wpList_nil ?_
     replace T := T.pick [0, 1, 2, 3, 7, 8, 9, 10, 11, 12, 13, 14, 15, 17] rfl
     exact ⟨(T.pick (E' := [(4, .slice Au3 LLu3.length cu3), (6, .slice Au4 mlu4.length cu4), (8, .pointer (some ⟨g2, 0, none⟩)), (11, .slice A1 f1.length c1), (12, .int .i64 su), (13, .int .i64 ma), (14, .slice Au7 LLu7.length cu7), (15, .int .i64 (i : Int)), (16, .int .i64 n), (18, .bool ne), (153, .bool (decide (su < n)))]) [4, 5, 6, 7, 8, 9, 10, 11, 12, 13, 0] rfl).as (by (try rw [show al = true from h8]); (try rfl)), M.mask [true] rfl⟩
    refine lp T (wanted_no rfl rfl (T.ev 0 rfl) h8) ?_; clear T ac; intro ac T
    refine lp T (wanted_no rfl rfl (T.ev 1 rfl) h8) ?_; clear T ac; intro ac T
    refine lp T (wanted_no rfl rfl (T.ev 2 rfl) h8) ?_; clear T ac; intro ac T
    refine lq T (rn_pick0 rfl (T.ev 3 rfl) h8 evc) ?_; clear T ac; intro ac T
    refine wpList_nil ?_
    replace T := T.pick [0, 1, 2, 3, 7, 8, 9, 10, 11, 12, 13, 14, 15, 17] rfl
    exact ⟨(T.pick (E' := [(4, .slice Au3 LLu3.length cu3), (6, .slice Au4 mlu4.length cu4), (8, .pointer (some ⟨g2, 0, none⟩)), (11, .slice A1 f1.length c1), (12, .int .i64 su), (13, .int .i64 ma), (14, .slice Au7 LLu7.length cu7), (15, .int .i64 (i : Int)), (16, .int .i64 n), (18, .bool ne), (153, .bool false)]) [4, 5, 6, 7, 8, 9, 10, 11, 12, 13, 0] rfl).as (by (try rw [show al = false from h8]); (try rfl)), M.mask [true] rfl⟩
   clear T M
   rintro ac wc ⟨T, M⟩
   refine wp_cond_split (T.ev 10 rfl) ?_ ?_
   ·intro h9
    (try have h9' := h9; try simp only [Bool.and_eq_true, Bool.or_eq_true, Bool.not_eq_true', Bool.and_eq_false_imp, Bool.or_eq_false_iff, decide_eq_true_eq, decide_eq_false_iff_not] at h9')
    refine wp_region_lit ?_
    refine lq T (rn_move rfl (T.ev 6 rfl)) ?_; clear T ac; intro ac T
    refine lq T (rn_move rfl (T.ev 8 rfl)) ?_; clear T ac; intro ac T
    refine lq T (rn_indexAddr (size := 1) i rfl (T.ev 1 rfl) (T.ev 0 rfl) ⟨_, Try.underlying62, by kernel_rfl⟩ rfl (by omega) (Su7.at0 (by omega))) ?_; clear T ac; intro ac T
    refine lq (v := (.slice Bp p.length dp)) T (rn_cell (Sp.lc0 Su7 M (.cons _ (List.sublist_append_right _ _)) hkp) rfl (T.ev 0 rfl)) ?_; clear T ac; intro ac T
    refine lq T (rn_move rfl (T.ev 12 rfl)) ?_; clear T ac; intro ac T
    refine l_q (v := (.slice Bp p.length dp)) (T.pick [0, 1, 2, 3, 4, 5, 6, 7, 9, 10, 11, 12, 13, 14, 15] rfl) rfl rfl rfl rfl (rn_assign rfl (T.ev 1 rfl)) ?_; clear T ac; intro ac T
    refine l_q (v := (.int .i64 n)) (T.pick [0, 1, 2, 3, 4, 5, 6, 7, 8, 10, 11, 12, 13, 14, 15] rfl) rfl rfl rfl rfl (rn_assign rfl (T.ev 1 rfl)) ?_; clear T ac; intro ac T
    refine wpList_nil ?_
    replace T := T.pick [0, 1, 7, 8, 9, 10, 11, 12, 13, 14] rfl
    refine nm_then ?_
    refine wp_seq ?_
    refine wp_region_lit ?_
    refine lq T (rn_move rfl (T.ev 9 rfl)) ?_; clear T ac; intro ac T
    refine lq T (rn_not rfl (T.ev 0 rfl)) ?_; clear T ac; intro ac T
    refine wpList_nil ?_
    replace T := T.pick [0, 2, 3, 4, 5, 6, 7, 8, 9, 10] rfl
    refine nm_then ?_
    refine wp_cond_split (T.ev 0 rfl) ?_ ?_
    ·intro h10
     (try have h10' := h10; try simp only [Bool.and_eq_true, Bool.or_eq_true, Bool.not_eq_true', Bool.and_eq_false_imp, Bool.or_eq_false_iff, decide_eq_true_eq, decide_eq_false_iff_not] at h10')
     refine wp_region_lit ?_
     refine lq T (rn_move rfl (T.ev 6 rfl)) ?_; clear T ac; intro ac T
     refine lq T (rn_move rfl (T.ev 10 rfl)) ?_; clear T ac; intro ac T
     refine lq T (rn_max2 rfl (T.ev 1 rfl) (T.ev 0 rfl)) ?_; clear T ac; intro ac T
     refine l_q (v := (.int .i64 (max ma n))) (T.pick [0, 1, 2, 3, 4, 5, 6, 7, 8, 10, 11, 12] rfl) rfl rfl rfl rfl (rn_assign rfl (T.ev 0 rfl)) ?_; clear T ac; intro ac T
     refine wpList_nil ?_
     replace T := T.pick [0, 5, 6, 7, 8, 9, 10, 11] rfl
     refine nm_blk ?_
     refine nm_then ?_
     refine wp_region_lit ?_
     refine lq T (rn_move rfl (T.ev 7 rfl)) ?_; clear T ac; intro ac T
     refine lq T (rn_add rfl (T.ev 0 rfl) evc (by omega)) ?_; clear T ac; intro ac T
     refine l_q (v := (.int .i64 ((i : Int) + 1))) (T.pick [0, 1, 2, 3, 4, 5, 6, 7, 8] rfl) rfl rfl rfl rfl (rn_assign rfl (T.ev 0 rfl)) ?_; clear T ac; intro ac T
     refine wpList_nil ?_
     replace T := T.pick [0, 3, 4, 5, 6, 7, 8, 9] rfl
     refine nm_then ?_
     exact ⟨_, by omega, i + 1, p, _, _, n, (max ma n), rfl, (by omega), (by rw [fold_take hpi, ← hst]; unfold stepAp; rw [if_pos (stepA_yes hal hn h9), hn]), (by rw [fold_take hpi, ← hma]; unfold stepBp; rw [if_pos (stepB_yes hne h10), hn]), hEp, T.pick [4, 5, 6, 3, 2, 1, 7, 0] rfl, M.mask [true] rfl⟩
    intro h10
    (try have h10' := h10; try simp only [Bool.and_eq_true, Bool.or_eq_true, Bool.not_eq_true', Bool.and_eq_false_imp, Bool.or_eq_false_iff, decide_eq_true_eq, decide_eq_false_iff_not] at h10')
    refine wp_skip ?_
    refine nm_blk ?_
    refine nm_then ?_
    refine wp_region_lit ?_
    refine lq T (rn_move rfl (T.ev 8 rfl)) ?_; clear T ac; intro ac T
    refine lq T (rn_add rfl (T.ev 0 rfl) evc (by omega)) ?_; clear T ac; intro ac T
    refine l_q (v := (.int .i64 ((i : Int) + 1))) (T.pick [0, 1, 2, 3, 4, 5, 6, 7, 8, 9, 11] rfl) rfl rfl rfl rfl (rn_assign rfl (T.ev 0 rfl)) ?_; clear T ac; intro ac T
    refine wpList_nil ?_
    replace T := T.pick [0, 4, 5, 6, 7, 8, 9, 10] rfl
    refine nm_then ?_
    exact ⟨_, by omega, i + 1, p, _, _, n, ma, rfl, (by omega), (by rw [fold_take hpi, ← hst]; unfold stepAp; rw [if_pos (stepA_yes hal hn h9), hn]), (by rw [fold_take hpi, ← hma]; unfold stepBp; rw [if_neg (stepB_no hne h10)]), hEp, T.pick [3, 4, 5, 2, 1, 6, 7, 0] rfl, M.mask [true] rfl⟩
   intro h9
   (try have h9' := h9; try simp only [Bool.and_eq_true, Bool.or_eq_true, Bool.not_eq_true', Bool.and_eq_false_imp, Bool.or_eq_false_iff, decide_eq_true_eq, decide_eq_false_iff_not] at h9')
   refine wp_skip ?_
   refine nm_then ?_
   refine wp_seq ?_
   refine wp_region_lit ?_
   refine lq T (rn_move rfl (T.ev 9 rfl)) ?_; clear T ac; intro ac T
   refine lq T (rn_not rfl (T.ev 0 rfl)) ?_; clear T ac; intro ac T
   refine wpList_nil ?_
   replace T := T.pick [0, 2, 3, 4, 5, 6, 7, 8, 9, 10] rfl
   refine nm_then ?_
   refine wp_cond_split (T.ev 0 rfl) ?_ ?_
   ·intro h11
    (try have h11' := h11; try simp only [Bool.and_eq_true, Bool.or_eq_true, Bool.not_eq_true', Bool.and_eq_false_imp, Bool.or_eq_false_iff, decide_eq_true_eq, decide_eq_false_iff_not] at h11')
    refine wp_region_lit ?_
    refine lq T (rn_move rfl (T.ev 6 rfl)) ?_; clear T ac; intro ac T
    refine lq T (rn_move rfl (T.ev 10 rfl)) ?_; clear T ac; intro ac T
    refine lq T (rn_max2 rfl (T.ev 1 rfl) (T.ev 0 rfl)) ?_; clear T ac; intro ac T
    refine l_q (v := (.int .i64 (max ma n))) (T.pick [0, 1, 2, 3, 4, 5, 6, 7, 8, 10, 11, 12] rfl) rfl rfl rfl rfl (rn_assign rfl (T.ev 0 rfl)) ?_; clear T ac; intro ac T
    refine wpList_nil ?_
    replace T := T.pick [0, 5, 6, 7, 8, 9, 10, 11] rfl
    refine nm_blk ?_
    refine nm_then ?_
    refine wp_region_lit ?_
    refine lq T (rn_move rfl (T.ev 7 rfl)) ?_; clear T ac; intro ac T
    refine lq T (rn_add rfl (T.ev 0 rfl) evc (by omega)) ?_; clear T ac; intro ac T
    refine l_q (v := (.int .i64 ((i : Int) + 1))) (T.pick [0, 1, 2, 3, 4, 5, 6, 7, 8] rfl) rfl rfl rfl rfl (rn_assign rfl (T.ev 0 rfl)) ?_; clear T ac; intro ac T
    refine wpList_nil ?_
    replace T := T.pick [0, 3, 4, 5, 6, 7, 8, 9] rfl
    refine nm_then ?_
    exact ⟨_, by omega, i + 1, f1, _, _, su, (max ma n), rfl, (by omega), (by rw [fold_take hpi, ← hst]; unfold stepAp; rw [if_neg (stepA_no hal hn h9)]), (by rw [fold_take hpi, ← hma]; unfold stepBp; rw [if_pos (stepB_yes hne h11), hn]), hFs, T.pick [2, 3, 4, 5, 6, 1, 7, 0] rfl, M.mask [true] rfl⟩
   intro h11
   (try have h11' := h11; try simp only [Bool.and_eq_true, Bool.or_eq_true, Bool.not_eq_true', Bool.and_eq_false_imp, Bool.or_eq_false_iff, decide_eq_true_eq, decide_eq_false_iff_not] at h11')
   refine wp_skip ?_
   refine nm_blk ?_
   refine nm_then ?_
   refine wp_region_lit ?_
   refine lq T (rn_move rfl (T.ev 8 rfl)) ?_; clear T ac; intro ac T
   refine lq T (rn_add rfl (T.ev 0 rfl) evc (by omega)) ?_; clear T ac; intro ac T
   refine l_q (v := (.int .i64 ((i : Int) + 1))) (T.pick [0, 1, 2, 3, 4, 5, 6, 7, 8, 9, 11] rfl) rfl rfl rfl rfl (rn_assign rfl (T.ev 0 rfl)) ?_; clear T ac; intro ac T
   refine wpList_nil ?_
   replace T := T.pick [0, 4, 5, 6, 7, 8, 9, 10] rfl
   refine nm_then ?_
   exact ⟨_, by omega, i + 1, f1, _, _, su, ma, rfl, (by omega), (by rw [fold_take hpi, ← hst]; unfold stepAp; rw [if_neg (stepA_no hal hn h9)]), (by rw [fold_take hpi, ← hma]; unfold stepBp; rw [if_neg (stepB_no hne h11)]), hFs, T.pick [1, 2, 3, 4, 5, 6, 7, 0] rfl, M.mask [true] rfl⟩
  intro h2
  rw [List.take_of_length_le (by omega), hLp] at hst hma
  have hmf := hst.trans (most_first (tableP bu2) okA _ _)
  have hfe : f1 = mlu4 := by rw [hmlu4]; exact congrArg Prod.fst hmf
  have hd0 : mo0 = su := by rw [hmo0]; exact (congrArg Prod.snd hmf).symm
  have hd1 : mo1 = ma := by rw [hmo1]; exact (hma.trans (most_may (tableP bu2) okM _ _)).symm
  obtain ⟨bf, off, hSf⟩ := hFs
  have Sf1 := hSf w noEx
  refine wp_exit ?_
  refine ex_then ?_
  refine ex_then ?_
  refine ex_hit ?_
  refine nm_then ?_
  refine wp_seq ?_
  refine g_start2 M (M.mask [true] rfl) 14 (by kernel_rfl) rfl (by kernel_rfl) ?_
  clear M; intro wc M
  refine gq T 0 1 rfl (fun _ _ _ _ _ => (rn_move rfl (T.ev 2 rfl))) ?_; clear T ac; intro ac T
  refine gq T 1 3 rfl (fun _ _ _ _ _ => (rn_move rfl (T.ev 5 rfl))) ?_; clear T ac; intro ac T
  refine gw 2 7 ?_; intro K hK
  refine ow_call (first := []) (cap := []) T rfl rfl rfl rfl evf (.cons (T.ev 1 rfl) (.cons (T.ev 0 rfl) .nil)) Try.func35 rfl rfl ?_
  refine Calls.mono (sameInts_eq _ _ _ _ _ _ mlu4 _ (Su4.rd M (.cons _ (subL (List.sublist_append_right _ _)))) (by have h9 := Sf1.rd M (.cons _ (List.sublist_append_right _ _)); rw [hfe] at h9; rw [hfe]; exact h9) (by omega) (by rw [hfe]; omega)) ?_
  clear T
  rintro e wc ⟨rfl, hb⟩
  intro ac T
  replace M := M.call hb; clear hb
  refine sh_out hK _ _ (M.mask [true] rfl) ?_; clear hK K
  refine g_addU M ?_
  refine gq T 3 15 rfl (fun _ _ _ _ _ => (rn_move rfl (T.ev 0 rfl))) ?_; clear T ac; intro ac T
  refine g_q (T := T) (i := 4) rfl (by kernel_rfl) (by kernel_rfl : (pbits 14 15).setIfInBounds 4 true = pbits 14 31) (si_and si_U si_U) (fun _ _ _ h => h) (wanted_yes rfl rfl (T.ev 0 rfl) rfl) rfl rfl rfl (fun B w' hD hl hS => (rn_rowO (Mem.nth (show Mem w noEx w' _ from (MA.lft hS)) 0 rfl) rfl (T.ev 7 rfl) rfl)) ?_; clear T ac; intro ac T
  refine g_q (T := T) (i := 5) rfl (by kernel_rfl) (by kernel_rfl : (pbits 14 31).setIfInBounds 5 true = pbits 14 63) (si_and si_U si_U) (fun _ _ _ h => h) (wanted_yes rfl rfl (T.ev 1 rfl) rfl) rfl rfl rfl (fun _ _ _ _ _ => (rn_move rfl (T.ev 10 rfl))) ?_; clear T ac; intro ac T
  refine g_q (T := T) (i := 6) rfl (by kernel_rfl) (by kernel_rfl : (pbits 14 63).setIfInBounds 6 true = pbits 14 127) (si_and si_U si_U) (fun _ _ _ h => h) (wanted_yes rfl rfl (T.ev 2 rfl) rfl) rfl rfl rfl (fun _ _ _ _ _ => (rn_move rfl (T.ev 12 rfl))) ?_; clear T ac; intro ac T
  refine g_w (i := 7) (by kernel_rfl) rfl (by kernel_rfl : (pbits 14 127).setIfInBounds 7 true = pbits 14 255) (wanted_yes rfl rfl (T.ev 3 rfl) rfl) ?_; intro K hK
  refine ow_call (first := []) (cap := []) T rfl rfl rfl rfl evf (.cons (T.ev 1 rfl) (.cons (T.ev 0 rfl) .nil)) Try.func24 rfl rfl ?_
  refine Calls.mono (to5_any su ma _) ?_
  clear T
  rintro e wc ⟨rfl, hb⟩
  intro ac T
  replace M := M.call hb; clear hb
  refine sh_out hK _ _ (MA.mk (M.mask [true] rfl) (M.mask [true] rfl)) ?_; clear hK K
  refine g_q (v := (.bool ((decide (mo0 = su)) && (decide (mo1 = ma))))) (T := T) (i := 8) rfl (by kernel_rfl) (by kernel_rfl : (pbits 14 255).setIfInBounds 8 true = pbits 14 511) (si_and si_U si_U) (fun _ _ _ h => h) (wanted_yes rfl rfl (T.ev 4 rfl) rfl) rfl rfl rfl (fun _ _ _ _ _ => (rn_bin rfl (T.ev 3 rfl) (T.ev 0 rfl) eqT40)) ?_; clear T ac; intro ac T
  refine gq T 9 1023 rfl (fun _ _ _ _ _ => (rn_pick1 rfl (T.ev 5 rfl) rfl (T.ev 0 rfl))) ?_; clear T ac; intro ac T
  refine gq T 10 2047 rfl (fun _ _ _ _ _ => (rn_move rfl (T.ev 0 rfl))) ?_; clear T ac; intro ac T
  refine g_w (i := 11) (by kernel_rfl) rfl (by kernel_rfl : (pbits 14 2047).setIfInBounds 11 true = pbits 14 4095) (wanted_yes rfl rfl (T.ev 0 rfl) (by rw [show (decide (mo0 = su)) = true from (decide_eq_true hd0), show (decide (mo1 = ma)) = true from (decide_eq_true hd1)]; rfl)) ?_; intro K hK
  refine ow_call (first := []) (cap := []) T rfl rfl rfl rfl evf .nil Try.func17 rfl rfl ?_
  refine Calls.mono (trembling_any _) ?_
  clear T
  rintro e wc ⟨rfl, hb⟩
  intro ac T
  replace M := M.call hb; clear hb
  refine sh_out hK _ _ (MA.mk (M.mask [true] rfl) (M.mask [true] rfl)) ?_; clear hK K
  refine gq T 12 8191 rfl (fun _ _ _ _ _ => (rn_pick1 rfl (T.ev 1 rfl) (by rw [show (decide (mo0 = su)) = true from (decide_eq_true hd0), show (decide (mo1 = ma)) = true from (decide_eq_true hd1)]; rfl) (T.ev 0 rfl))) ?_; clear T ac; intro ac T
  refine gq T 13 16383 rfl (fun _ _ _ _ _ => (rn_assign rfl (T.ev 0 rfl))) ?_; clear T ac; intro ac T
  refine g_done (by kernel_rfl) ?_
  replace T := T.pick [0] rfl
  replace M := M.mask [false] rfl
  refine nm_then ?_
  refine wp_ret ?_
  refine rt_1 T rfl (T.ev 0 rfl) ?_
  exact ⟨rfl, M.below⟩

end Go.Proofs.Ytlahdenlmmlplaa

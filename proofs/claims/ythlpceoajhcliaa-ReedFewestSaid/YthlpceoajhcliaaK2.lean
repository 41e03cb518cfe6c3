/-
  kit: whether ranges and jobs are the same; reed.Hear.
-/
import Derived.Test.YthlpceoajhcliaaR1b
import Derived.Test.YthlpceoajhcliaaKSame
import Derived.Test.YthlpceoajhcliaaRMeet
namespace Go.Proofs.Ythlpceoajhcliaa
set_option linter.unusedSimpArgs false
set_option linter.unusedVariables false
open Go.RowKit



theorem eqT23 {x y : Operand} {a0 a1 b0 b1 : Int} {w : World} : (do eqGuard .eql 23 x y (.agg #[.int .i64 a0, .int .i64 a1]) (.agg #[.int .i64 b0, .int .i64 b1]); binOp .eql 23 (.agg #[.int .i64 a0, .int .i64 a1]) (.agg #[.int .i64 b0, .int .i64 b1]) : Sem Value).run Try.prog w = .ok (.bool ((decide (a0 = b0) && decide (a1 = b1)))) w := by
  go_simp
  (repeat' split) <;> simp_all
theorem neT23 {x y : Operand} {a0 a1 b0 b1 : Int} {w : World} : (do eqGuard .neq 23 x y (.agg #[.int .i64 a0, .int .i64 a1]) (.agg #[.int .i64 b0, .int .i64 b1]); binOp .neq 23 (.agg #[.int .i64 a0, .int .i64 a1]) (.agg #[.int .i64 b0, .int .i64 b1]) : Sem Value).run Try.prog w = .ok (.bool (!(decide (a0 = b0) && decide (a1 = b1)))) w := by
  go_simp
  (repeat' split) <;> simp_all


theorem eqT25 {x y : Operand} {a0 a1 a2 a3 a4 a5 b0 b1 b2 b3 b4 b5 : Int} {w : World} : (do eqGuard .eql 25 x y (.agg #[.int .i64 a0, .int .i64 a1, .int .i64 a2, .int .i64 a3, .int .i64 a4, .int .i64 a5]) (.agg #[.int .i64 b0, .int .i64 b1, .int .i64 b2, .int .i64 b3, .int .i64 b4, .int .i64 b5]); binOp .eql 25 (.agg #[.int .i64 a0, .int .i64 a1, .int .i64 a2, .int .i64 a3, .int .i64 a4, .int .i64 a5]) (.agg #[.int .i64 b0, .int .i64 b1, .int .i64 b2, .int .i64 b3, .int .i64 b4, .int .i64 b5]) : Sem Value).run Try.prog w = .ok (.bool ((decide (a0 = b0) && (decide (a1 = b1) && (decide (a2 = b2) && (decide (a3 = b3) && (decide (a4 = b4) && decide (a5 = b5)))))))) w := by
  go_simp
  (repeat' split) <;> simp_all
theorem neT25 {x y : Operand} {a0 a1 a2 a3 a4 a5 b0 b1 b2 b3 b4 b5 : Int} {w : World} : (do eqGuard .neq 25 x y (.agg #[.int .i64 a0, .int .i64 a1, .int .i64 a2, .int .i64 a3, .int .i64 a4, .int .i64 a5]) (.agg #[.int .i64 b0, .int .i64 b1, .int .i64 b2, .int .i64 b3, .int .i64 b4, .int .i64 b5]); binOp .neq 25 (.agg #[.int .i64 a0, .int .i64 a1, .int .i64 a2, .int .i64 a3, .int .i64 a4, .int .i64 a5]) (.agg #[.int .i64 b0, .int .i64 b1, .int .i64 b2, .int .i64 b3, .int .i64 b4, .int .i64 b5]) : Sem Value).run Try.prog w = .ok (.bool (!(decide (a0 = b0) && (decide (a1 = b1) && (decide (a2 = b2) && (decide (a3 = b3) && (decide (a4 = b4) && decide (a5 = b5)))))))) w := by
  go_simp
  (repeat' split) <;> simp_all


theorem eqT27 {x y : Operand} {a0 a1 a2 a3 a4 a5 a6 a7 a8 b0 b1 b2 b3 b4 b5 b6 b7 b8 : Int} {w : World} : (do eqGuard .eql 27 x y (.agg #[.int .i64 a0, .int .i64 a1, .int .i64 a2, .int .i64 a3, .int .i64 a4, .int .i64 a5, .int .i64 a6, .int .i64 a7, .int .i64 a8]) (.agg #[.int .i64 b0, .int .i64 b1, .int .i64 b2, .int .i64 b3, .int .i64 b4, .int .i64 b5, .int .i64 b6, .int .i64 b7, .int .i64 b8]); binOp .eql 27 (.agg #[.int .i64 a0, .int .i64 a1, .int .i64 a2, .int .i64 a3, .int .i64 a4, .int .i64 a5, .int .i64 a6, .int .i64 a7, .int .i64 a8]) (.agg #[.int .i64 b0, .int .i64 b1, .int .i64 b2, .int .i64 b3, .int .i64 b4, .int .i64 b5, .int .i64 b6, .int .i64 b7, .int .i64 b8]) : Sem Value).run Try.prog w = .ok (.bool ((decide (a0 = b0) && (decide (a1 = b1) && (decide (a2 = b2) && (decide (a3 = b3) && (decide (a4 = b4) && (decide (a5 = b5) && (decide (a6 = b6) && (decide (a7 = b7) && decide (a8 = b8))))))))))) w := by
  go_simp
  (repeat' split) <;> simp_all
theorem neT27 {x y : Operand} {a0 a1 a2 a3 a4 a5 a6 a7 a8 b0 b1 b2 b3 b4 b5 b6 b7 b8 : Int} {w : World} : (do eqGuard .neq 27 x y (.agg #[.int .i64 a0, .int .i64 a1, .int .i64 a2, .int .i64 a3, .int .i64 a4, .int .i64 a5, .int .i64 a6, .int .i64 a7, .int .i64 a8]) (.agg #[.int .i64 b0, .int .i64 b1, .int .i64 b2, .int .i64 b3, .int .i64 b4, .int .i64 b5, .int .i64 b6, .int .i64 b7, .int .i64 b8]); binOp .neq 27 (.agg #[.int .i64 a0, .int .i64 a1, .int .i64 a2, .int .i64 a3, .int .i64 a4, .int .i64 a5, .int .i64 a6, .int .i64 a7, .int .i64 a8]) (.agg #[.int .i64 b0, .int .i64 b1, .int .i64 b2, .int .i64 b3, .int .i64 b4, .int .i64 b5, .int .i64 b6, .int .i64 b7, .int .i64 b8]) : Sem Value).run Try.prog w = .ok (.bool (!(decide (a0 = b0) && (decide (a1 = b1) && (decide (a2 = b2) && (decide (a3 = b3) && (decide (a4 = b4) && (decide (a5 = b5) && (decide (a6 = b6) && (decide (a7 = b7) && decide (a8 = b8))))))))))) w := by
  go_simp
  (repeat' split) <;> simp_all


theorem same_start {α : Type} [DecidableEq α] (l r : List α) : decide (l = r) = (decide ((l.length : Int) = (r.length : Int)) && decide (l.drop 0 = r.drop 0)) := by
  by_cases h : l = r
  · subst h; simp
  · simp [h]
theorem same_next {x y x' y' : Int} {l r : List (Int × Int)} : decide ((x, y) :: l = (x', y') :: r) = ((decide (x = x') && decide (y = y')) && decide (l = r)) := by
  by_cases h1 : x = x' <;> by_cases h2 : y = y' <;> simp [h1, h2]


set_option maxRecDepth 100000 in
set_option maxHeartbeats 1000000 in
theorem sameRanges_any (A D : Option Addr) (n m c d : Nat) (l r : List (Int × Int)) (w : World) (hr : Rd w w.heap.size 2 A n (rc l)) (hs : Rd w w.heap.size 2 D m (rc r)) (hn : n ≤ 9223372036854775807) (hm : m ≤ 9223372036854775807) :
    Calls Try.prog 71 #[.slice A n c, .slice D m d] w fun e w' => e = .returned (.bool (decide (l = r))) ∧ Below w.heap.size w w' := by
  have hl := hr.len2
  have hl2 := hs.len2
  obtain ⟨bJ, oJ, SJ⟩ := Sp.old hr
  obtain ⟨bI, oI, SI⟩ := Sp.old hs
  refine px_enter noEx Try.func71 rfl 31 rfl [.slice A n c, .slice D m d] rfl rfl (Mem.init w _) ?_
  intro ac wc T M
  refine wp_seq ?_
  refine wp_region_lit ?_
  refine l_q T rfl rfl rfl rfl (rn_assign rfl evc) ?_; clear T ac; intro ac T
  refine wpList_nil ?_
  replace T := T.pick [1, 2] rfl
  refine nm_then ?_
  refine wp_seq ?_
  refine wp_region_lit ?_
  refine l_q T rfl rfl rfl rfl (rn_move rfl (T.ev 0 rfl)) ?_; clear T ac; intro ac T
  refine l_q T rfl rfl rfl rfl (rn_lenS rfl Try.underlying28 (T.ev 0 rfl)) ?_; clear T ac; intro ac T
  refine l_q T rfl rfl rfl rfl (rn_move rfl (T.ev 3 rfl)) ?_; clear T ac; intro ac T
  refine l_q T rfl rfl rfl rfl (rn_lenS rfl Try.underlying28 (T.ev 0 rfl)) ?_; clear T ac; intro ac T
  refine l_q T rfl rfl rfl rfl (rn_eql rfl (T.ev 2 rfl) (T.ev 0 rfl)) ?_; clear T ac; intro ac T
  refine l_q T rfl rfl rfl rfl (rn_assign rfl (T.ev 0 rfl)) ?_; clear T ac; intro ac T
  refine wpList_nil ?_
  replace T := T.pick [0, 6, 7] rfl
  refine nm_then ?_
  refine wp_seq ?_
  refine wp_seq ?_
  refine wp_region_lit ?_
  refine l_q T rfl rfl rfl rfl (rn_assign rfl evc) ?_; clear T ac; intro ac T
  refine wpList_nil ?_
  refine nm_then ?_
  refine wp_block ?_
  refine wp_loop_n (fun mz ac wc => ∃ (k : Nat) (b : Bool), mz = n - k ∧ (k ≤ n) ∧ (b = true → n = m) ∧ (decide (l = r) = (b && decide (l.drop k = r.drop k))) ∧ Tm ac 31 [(0, .slice A n c), (1, .slice D m d), (5, .bool b), (6, .int .i64 (k : Int))] ∧ Mem w noEx wc []) ?_ ?_
  · exact ⟨_, 0, _, rfl, (by omega), (fun h => by have := of_decide_eq_true h; omega), (by rw [same_start l r, hl, hl2]), T.pick [2, 3, 1, 0] rfl, M.mask [] rfl⟩
  · clear T M
    rintro mz ac wc ⟨k, b, hmm1, hk, hb, H, T, M⟩
    refine wp_seq ?_
    refine cut_seq (fun ac wc => Tm ac 31 [(0, .slice A n c), (1, .slice D m d), (5, .bool b), (6, .int .i64 (k : Int)), (18, .bool (b && (decide ((k : Int) < ((n : Nat) : Int)))))] ∧ Mem w noEx wc []) ?_ ?_
    · refine wp_region_lit ?_
      refine l_q T rfl rfl rfl rfl (rn_move rfl (T.ev 2 rfl)) ?_; clear T ac; intro ac T
      refine l_q T rfl rfl rfl rfl (rn_move rfl (T.ev 0 rfl)) ?_; clear T ac; intro ac T
      rcases Bool.eq_false_or_eq_true b with h1 | h1
      · refine l_q T (wanted_yes rfl rfl (T.ev 0 rfl) h1) rfl rfl rfl (rn_move rfl (T.ev 5 rfl)) ?_; clear T ac; intro ac T
        refine l_q T (wanted_yes rfl rfl (T.ev 1 rfl) h1) rfl rfl rfl (rn_move rfl (T.ev 3 rfl)) ?_; clear T ac; intro ac T
        refine l_q T (wanted_yes rfl rfl (T.ev 2 rfl) h1) rfl rfl rfl (rn_lenS rfl Try.underlying28 (T.ev 0 rfl)) ?_; clear T ac; intro ac T
        refine l_q T (wanted_yes rfl rfl (T.ev 3 rfl) h1) rfl rfl rfl (rn_lss rfl (T.ev 2 rfl) (T.ev 0 rfl)) ?_; clear T ac; intro ac T
        refine l_q T rfl rfl rfl rfl (rn_pick1 rfl (T.ev 4 rfl) h1 (T.ev 0 rfl)) ?_; clear T ac; intro ac T
        refine wpList_nil ?_
        replace T := T.pick [0, 1, 2, 3, 4, 7, 8, 9, 10] rfl
        exact ⟨(T.pick (E' := [(0, .slice A n c), (1, .slice D m d), (5, .bool b), (6, .int .i64 (k : Int)), (18, .bool (decide ((k : Int) < ((n : Nat) : Int))))]) [5, 6, 7, 8, 0] rfl).as (by (try rw [show b = true from h1]); rfl), M.mask [] rfl⟩
      · refine l_pass T (wanted_no rfl rfl (T.ev 0 rfl) h1) rfl rfl rfl ?_; clear T ac; intro ac T
        refine l_pass T (wanted_no rfl rfl (T.ev 1 rfl) h1) rfl rfl rfl ?_; clear T ac; intro ac T
        refine l_pass T (wanted_no rfl rfl (T.ev 2 rfl) h1) rfl rfl rfl ?_; clear T ac; intro ac T
        refine l_pass T (wanted_no rfl rfl (T.ev 3 rfl) h1) rfl rfl rfl ?_; clear T ac; intro ac T
        refine l_q T rfl rfl rfl rfl (rn_pick0 rfl (T.ev 4 rfl) h1 evc) ?_; clear T ac; intro ac T
        refine wpList_nil ?_
        replace T := T.pick [0, 1, 2, 3, 4, 7, 8, 9, 10] rfl
        exact ⟨(T.pick (E' := [(0, .slice A n c), (1, .slice D m d), (5, .bool b), (6, .int .i64 (k : Int)), (18, .bool false)]) [5, 6, 7, 8, 0] rfl).as (by (try rw [show b = false from h1]); rfl), M.mask [] rfl⟩
    · clear T M
      rintro ac wc ⟨T, M⟩
      refine wp_cond_split (T.ev 4 rfl) ?_ ?_
      · intro h2
        (try have h2' := h2; try simp only [Bool.and_eq_true, Bool.or_eq_true, Bool.not_eq_true', Bool.and_eq_false_imp, Bool.or_eq_false_iff, decide_eq_true_eq, decide_eq_false_iff_not] at h2')
        have h1 : b = true ∧ (k : Int) < (n : Int) := by simpa using h2
        have hnm := hb h1.1
        obtain ⟨x0, x1, hk1, hd⟩ := rc_next (l := l) (k := k) (by omega)
        obtain ⟨y0, y1, hk2, hd2⟩ := rc_next (l := r) (k := k) (by omega)
        rw [hd, hd2, h1.1, Bool.true_and, same_next] at H
        refine wp_skip ?_
        refine nm_then ?_
        refine wp_seq ?_
        refine wp_block ?_
        refine g_start2 M (M.mask [] rfl) 10 (by kernel_rfl) rfl (by kernel_rfl) ?_
        clear M; intro wc M
        refine g_q (T := T) (i := 0) rfl (by kernel_rfl) (by kernel_rfl : (pbits 10 0).setIfInBounds 0 true = pbits 10 1) si_U (fun _ _ _ h => h) rfl rfl rfl rfl (fun _ _ _ _ _ => (rn_move rfl (T.ev 0 rfl))) ?_; clear T ac; intro ac T
        refine g_q (T := T) (i := 1) rfl (by kernel_rfl) (by kernel_rfl : (pbits 10 1).setIfInBounds 1 true = pbits 10 3) si_U (fun _ _ _ h => h) rfl rfl rfl rfl (fun _ _ _ _ _ => (rn_move rfl (T.ev 4 rfl))) ?_; clear T ac; intro ac T
        refine g_q (T := T) (i := 2) rfl (by kernel_rfl) (by kernel_rfl : (pbits 10 3).setIfInBounds 2 true = pbits 10 7) si_U (fun _ _ _ h => h) rfl rfl rfl rfl (fun _ _ _ _ _ => (rn_indexAddr (size := 2) k rfl (T.ev 1 rfl) (T.ev 0 rfl) ⟨_, Try.underlying28, by kernel_rfl⟩ rfl (by omega) (SJ.at0 (by omega)))) ?_; clear T ac; intro ac T
        refine g_q (v := (.agg #[.int .i64 x0, .int .i64 x1])) (T := T) (i := 3) rfl (by kernel_rfl) (by kernel_rfl : (pbits 10 7).setIfInBounds 3 true = pbits 10 15) si_U (fun _ _ _ h => h) rfl rfl rfl rfl (fun B w' hD hl hS => (rn_rowat (Sp.rcR SJ (show Mem w noEx w' _ from hS) (List.nil_sublist _) hk1) rfl (T.ev 0 rfl) rfl)) ?_; clear T ac; intro ac T
        refine g_q (T := T) (i := 4) rfl (by kernel_rfl) (by kernel_rfl : (pbits 10 15).setIfInBounds 4 true = pbits 10 31) si_U (fun _ _ _ h => h) rfl rfl rfl rfl (fun _ _ _ _ _ => (rn_move rfl (T.ev 5 rfl))) ?_; clear T ac; intro ac T
        refine g_q (T := T) (i := 5) rfl (by kernel_rfl) (by kernel_rfl : (pbits 10 31).setIfInBounds 5 true = pbits 10 63) si_U (fun _ _ _ h => h) rfl rfl rfl rfl (fun _ _ _ _ _ => (rn_move rfl (T.ev 8 rfl))) ?_; clear T ac; intro ac T
        refine g_q (T := T) (i := 6) rfl (by kernel_rfl) (by kernel_rfl : (pbits 10 63).setIfInBounds 6 true = pbits 10 127) si_U (fun _ _ _ h => h) rfl rfl rfl rfl (fun _ _ _ _ _ => (rn_indexAddr (size := 2) k rfl (T.ev 1 rfl) (T.ev 0 rfl) ⟨_, Try.underlying28, by kernel_rfl⟩ rfl (by omega) (SI.at0 (by omega)))) ?_; clear T ac; intro ac T
        refine g_q (v := (.agg #[.int .i64 y0, .int .i64 y1])) (T := T) (i := 7) rfl (by kernel_rfl) (by kernel_rfl : (pbits 10 127).setIfInBounds 7 true = pbits 10 255) si_U (fun _ _ _ h => h) rfl rfl rfl rfl (fun B w' hD hl hS => (rn_rowat (Sp.rcR SI (show Mem w noEx w' _ from hS) (List.nil_sublist _) hk2) rfl (T.ev 0 rfl) rfl)) ?_; clear T ac; intro ac T
        refine g_q (v := (.bool ((decide (x0 = y0)) && (decide (x1 = y1))))) (T := T) (i := 8) rfl (by kernel_rfl) (by kernel_rfl : (pbits 10 255).setIfInBounds 8 true = pbits 10 511) si_U (fun _ _ _ h => h) rfl rfl rfl rfl (fun _ _ _ _ _ => (rn_bin rfl (T.ev 4 rfl) (T.ev 0 rfl) eqT23)) ?_; clear T ac; intro ac T
        refine g_q (v := (.bool ((decide (x0 = y0)) && (decide (x1 = y1))))) (T := T.pick [0, 1, 2, 3, 4, 5, 6, 7, 8, 9, 10, 12, 13] rfl) (i := 9) rfl (by kernel_rfl) (by kernel_rfl : (pbits 10 511).setIfInBounds 9 true = pbits 10 1023) si_U (fun _ _ _ h => h) rfl rfl rfl rfl (fun _ _ _ _ _ => (rn_assign rfl (T.ev 0 rfl))) ?_; clear T ac; intro ac T
        refine g_done (by kernel_rfl) ?_
        replace T := T.pick [0, 10, 11, 12] rfl
        refine nm_blk ?_
        refine nm_then ?_
        refine wp_region_lit ?_
        refine l_q T rfl rfl rfl rfl (rn_move rfl (T.ev 3 rfl)) ?_; clear T ac; intro ac T
        refine l_q T rfl rfl rfl rfl (rn_add rfl (T.ev 0 rfl) evc (by omega)) ?_; clear T ac; intro ac T
        refine l_q (v := (.int .i64 ((k : Int) + 1))) (T.pick [0, 1, 2, 3, 4] rfl) rfl rfl rfl rfl (rn_assign rfl (T.ev 0 rfl)) ?_; clear T ac; intro ac T
        refine wpList_nil ?_
        replace T := T.pick [0, 3, 4, 5] rfl
        refine nm_then ?_
        exact ⟨_, by omega, k + 1, _, rfl, (by omega), (fun _ => hnm), H, T.pick [2, 3, 1, 0] rfl, M.mask [] rfl⟩
      · intro h2
        (try have h2' := h2; try simp only [Bool.and_eq_true, Bool.or_eq_true, Bool.not_eq_true', Bool.and_eq_false_imp, Bool.or_eq_false_iff, decide_eq_true_eq, decide_eq_false_iff_not] at h2')
        refine wp_exit ?_
        refine ex_then ?_
        refine ex_then ?_
        refine ex_hit ?_
        refine nm_then ?_
        refine wp_seq ?_
        refine wp_region_lit ?_
        refine l_q T rfl rfl rfl rfl (rn_move rfl (T.ev 2 rfl)) ?_; clear T ac; intro ac T
        refine l_q T rfl rfl rfl rfl (rn_assign rfl (T.ev 0 rfl)) ?_; clear T ac; intro ac T
        refine wpList_nil ?_
        replace T := T.pick [0] rfl
        refine nm_then ?_
        refine wp_ret ?_
        refine rt_1 T rfl (T.ev 0 rfl) ?_
        refine ⟨ret_bool ?_, M.below⟩
        rw [H]
        rcases Bool.eq_false_or_eq_true b with hb1 | hb1
        · have hnm := hb hb1
          have : ¬ ((k : Int) < (n : Int)) := by intro hc; simp [hb1, hc] at h2
          rw [List.drop_of_length_le (by omega), List.drop_of_length_le (by omega)]
          simp [hb1]
        · simp [hb1]

theorem sameRanges_same (A D : Option Addr) (n m c d : Nat) (l : List (Int × Int)) (w : World) (hr : Rd w w.heap.size 2 A n (rc l)) (hs : Rd w w.heap.size 2 D m (rc l)) (hn : n ≤ 9223372036854775807) (hm : m ≤ 9223372036854775807) :
    Calls Try.prog 71 #[.slice A n c, .slice D m d] w fun e w' => e = .returned (.bool true) ∧ Below w.heap.size w w' := by
  have := sameRanges_any A D n m c d l l w hr hs hn hm
  simpa using this
def hearT (j : Jb) (r : Int) : (Int × Int) × Int := if checkJ j = 0 then (if withinB r (j.p0 - j.me) (j.p1 + j.me) = true then (meetL (j.p0, j.p1) [(r - j.me, r + j.me)], 0) else ((0, 0), 9)) else ((0, 0), checkJ j)


set_option maxRecDepth 100000 in
set_option maxHeartbeats 1000000 in
theorem sameJobs_same (j : Jb) (A D : Option Addr) (c d : Nat) (w : World) (hr : Rd w w.heap.size 2 A j.sh.length (rc j.sh)) (hs : Rd w w.heap.size 2 D j.sh.length (rc j.sh)) (hn : j.sh.length ≤ 9223372036854775807) :
    Calls Try.prog 22 #[jobV j A c, jobV j D d] w fun e w' => e = .returned (.bool true) ∧ Below w.heap.size w w' := by
  obtain ⟨bJ, oJ, SJ⟩ := Sp.old hr
  obtain ⟨bI, oI, SI⟩ := Sp.old hs
  refine px_enter noEx Try.func22 rfl 38 rfl [.agg #[.int .i64 j.p0, .int .i64 j.p1, .int .i64 j.t0, .int .i64 j.t1, .int .i64 j.r0, .int .i64 j.r1, .int .i64 j.u0, .int .i64 j.u1, .int .i64 j.d0, .int .i64 j.d1, .int .i64 j.a0, .int .i64 j.a1, .int .i64 j.b0, .int .i64 j.b1, .int .i64 j.le, .slice A j.sh.length c, .int .i64 j.wi, .int .i64 j.me], .agg #[.int .i64 j.p0, .int .i64 j.p1, .int .i64 j.t0, .int .i64 j.t1, .int .i64 j.r0, .int .i64 j.r1, .int .i64 j.u0, .int .i64 j.u1, .int .i64 j.d0, .int .i64 j.d1, .int .i64 j.a0, .int .i64 j.a1, .int .i64 j.b0, .int .i64 j.b1, .int .i64 j.le, .slice D j.sh.length d, .int .i64 j.wi, .int .i64 j.me]] rfl rfl (Mem.init w _) ?_
  intro ac wc T M
  refine wp_seq ?_
  refine wp_region_lit ?_
  refine l_w rfl ?_; intro K hK
  refine ow_bx M T rfl rfl rfl rfl (T.ev 0 rfl) rfl ?_; clear M T; intro g1 wc ac M T
  refine sh_out hK _ _ ?_; clear hK K
  refine l_w rfl ?_; intro K hK
  refine ow_bx M T rfl rfl rfl rfl (T.ev 2 rfl) rfl ?_; clear M T; intro g2 wc ac M T
  refine sh_out hK _ _ ?_; clear hK K
  refine l_q T rfl rfl rfl rfl (rn_assign rfl evc) ?_; clear T ac; intro ac T
  refine wpList_nil ?_
  replace T := T.pick [1, 2] rfl
  refine nm_then ?_
  refine wp_seq ?_
  refine wp_region_lit ?_
  refine l_q (v := (.pointer (some ⟨g1, 0, none⟩))) T rfl rfl rfl rfl (rn_fieldAddr (off := 0) rfl (T.ev 1 rfl) (fun _ _ _ => by kernel_rfl)) ?_; clear T ac; intro ac T
  refine l_q T rfl rfl rfl rfl (rn_rowO (Mem.nth M 1 rfl) rfl (T.ev 0 rfl) rfl) ?_; clear T ac; intro ac T
  refine l_q (v := (.pointer (some ⟨g2, 0, none⟩))) T rfl rfl rfl rfl (rn_fieldAddr (off := 0) rfl (T.ev 2 rfl) (fun _ _ _ => by kernel_rfl)) ?_; clear T ac; intro ac T
  refine l_q T rfl rfl rfl rfl (rn_rowO (Mem.nth M 0 rfl) rfl (T.ev 0 rfl) rfl) ?_; clear T ac; intro ac T
  refine l_q (v := (.bool true)) T rfl rfl rfl rfl (rn_neqof (rn_bin rfl (T.ev 2 rfl) (T.ev 0 rfl) eqT25) (by simp)) ?_; clear T ac; intro ac T
  refine l_q T rfl rfl rfl rfl (rn_move rfl (T.ev 0 rfl)) ?_; clear T ac; intro ac T
  refine l_q (v := (.pointer (some ⟨g1, 6, none⟩))) T (wanted_yes rfl rfl (T.ev 0 rfl) rfl) rfl rfl rfl (rn_fieldAddr (off := 6) rfl (T.ev 7 rfl) (fun _ _ _ => by kernel_rfl)) ?_; clear T ac; intro ac T
  refine l_q T (wanted_yes rfl rfl (T.ev 1 rfl) rfl) rfl rfl rfl (rn_rowO (Mem.nth M 1 rfl) rfl (T.ev 0 rfl) rfl) ?_; clear T ac; intro ac T
  refine l_q (v := (.pointer (some ⟨g2, 6, none⟩))) T (wanted_yes rfl rfl (T.ev 2 rfl) rfl) rfl rfl rfl (rn_fieldAddr (off := 6) rfl (T.ev 8 rfl) (fun _ _ _ => by kernel_rfl)) ?_; clear T ac; intro ac T
  refine l_q T (wanted_yes rfl rfl (T.ev 3 rfl) rfl) rfl rfl rfl (rn_rowO (Mem.nth M 0 rfl) rfl (T.ev 0 rfl) rfl) ?_; clear T ac; intro ac T
  refine l_q (v := (.bool true)) T (wanted_yes rfl rfl (T.ev 4 rfl) rfl) rfl rfl rfl (rn_neqof (rn_bin rfl (T.ev 2 rfl) (T.ev 0 rfl) eqT27) (by simp)) ?_; clear T ac; intro ac T
  refine l_q T rfl rfl rfl rfl (rn_pick1 rfl (T.ev 5 rfl) rfl (T.ev 0 rfl)) ?_; clear T ac; intro ac T
  refine l_q T rfl rfl rfl rfl (rn_move rfl (T.ev 0 rfl)) ?_; clear T ac; intro ac T
  refine l_q (v := (.pointer (some ⟨g1, 16, none⟩))) T (wanted_yes rfl rfl (T.ev 0 rfl) rfl) rfl rfl rfl (rn_fieldAddr (off := 16) rfl (T.ev 14 rfl) (fun _ _ _ => by kernel_rfl)) ?_; clear T ac; intro ac T
  refine l_q T (wanted_yes rfl rfl (T.ev 1 rfl) rfl) rfl rfl rfl (rn_one (Mem.nth M 1 rfl) rfl (T.ev 0 rfl) rfl) ?_; clear T ac; intro ac T
  refine l_q (v := (.pointer (some ⟨g2, 16, none⟩))) T (wanted_yes rfl rfl (T.ev 2 rfl) rfl) rfl rfl rfl (rn_fieldAddr (off := 16) rfl (T.ev 15 rfl) (fun _ _ _ => by kernel_rfl)) ?_; clear T ac; intro ac T
  refine l_q T (wanted_yes rfl rfl (T.ev 3 rfl) rfl) rfl rfl rfl (rn_one (Mem.nth M 0 rfl) rfl (T.ev 0 rfl) rfl) ?_; clear T ac; intro ac T
  refine l_q (v := (.bool true)) T (wanted_yes rfl rfl (T.ev 4 rfl) rfl) rfl rfl rfl (rn_neqof (rn_eql rfl (T.ev 2 rfl) (T.ev 0 rfl)) (by simp)) ?_; clear T ac; intro ac T
  refine l_q T rfl rfl rfl rfl (rn_pick1 rfl (T.ev 5 rfl) rfl (T.ev 0 rfl)) ?_; clear T ac; intro ac T
  refine l_q T rfl rfl rfl rfl (rn_move rfl (T.ev 0 rfl)) ?_; clear T ac; intro ac T
  refine l_q (v := (.pointer (some ⟨g1, 17, none⟩))) T (wanted_yes rfl rfl (T.ev 0 rfl) rfl) rfl rfl rfl (rn_fieldAddr (off := 17) rfl (T.ev 21 rfl) (fun _ _ _ => by kernel_rfl)) ?_; clear T ac; intro ac T
  refine l_q T (wanted_yes rfl rfl (T.ev 1 rfl) rfl) rfl rfl rfl (rn_one (Mem.nth M 1 rfl) rfl (T.ev 0 rfl) rfl) ?_; clear T ac; intro ac T
  refine l_q (v := (.pointer (some ⟨g2, 17, none⟩))) T (wanted_yes rfl rfl (T.ev 2 rfl) rfl) rfl rfl rfl (rn_fieldAddr (off := 17) rfl (T.ev 22 rfl) (fun _ _ _ => by kernel_rfl)) ?_; clear T ac; intro ac T
  refine l_q T (wanted_yes rfl rfl (T.ev 3 rfl) rfl) rfl rfl rfl (rn_one (Mem.nth M 0 rfl) rfl (T.ev 0 rfl) rfl) ?_; clear T ac; intro ac T
  refine l_q (v := (.bool true)) T (wanted_yes rfl rfl (T.ev 4 rfl) rfl) rfl rfl rfl (rn_neqof (rn_eql rfl (T.ev 2 rfl) (T.ev 0 rfl)) (by simp)) ?_; clear T ac; intro ac T
  refine l_q T rfl rfl rfl rfl (rn_pick1 rfl (T.ev 5 rfl) rfl (T.ev 0 rfl)) ?_; clear T ac; intro ac T
  refine l_q T rfl rfl rfl rfl (rn_move rfl (T.ev 0 rfl)) ?_; clear T ac; intro ac T
  refine l_q (v := (.pointer (some ⟨g1, 15, none⟩))) T (wanted_yes rfl rfl (T.ev 0 rfl) rfl) rfl rfl rfl (rn_fieldAddr (off := 15) rfl (T.ev 28 rfl) (fun _ _ _ => by kernel_rfl)) ?_; clear T ac; intro ac T
  refine l_q T (wanted_yes rfl rfl (T.ev 1 rfl) rfl) rfl rfl rfl (rn_one (Mem.nth M 1 rfl) rfl (T.ev 0 rfl) rfl) ?_; clear T ac; intro ac T
  refine l_q (v := (.pointer (some ⟨g2, 15, none⟩))) T (wanted_yes rfl rfl (T.ev 2 rfl) rfl) rfl rfl rfl (rn_fieldAddr (off := 15) rfl (T.ev 29 rfl) (fun _ _ _ => by kernel_rfl)) ?_; clear T ac; intro ac T
  refine l_q T (wanted_yes rfl rfl (T.ev 3 rfl) rfl) rfl rfl rfl (rn_one (Mem.nth M 0 rfl) rfl (T.ev 0 rfl) rfl) ?_; clear T ac; intro ac T
  refine l_w (wanted_yes rfl rfl (T.ev 4 rfl) rfl) ?_; intro K hK
  refine ow_call (first := []) (cap := []) T rfl rfl rfl rfl evf (.cons (T.ev 2 rfl) (.cons (T.ev 0 rfl) .nil)) Try.func71 rfl rfl ?_
  refine Calls.mono (sameRanges_same _ _ _ _ _ _ j.sh _ (SJ.rd M (List.nil_sublist _)) (SI.rd M (List.nil_sublist _)) (by omega) (by omega)) ?_
  clear T
  rintro e wc ⟨rfl, hb⟩
  intro ac T
  replace M := M.call hb; clear hb
  refine sh_out hK _ _ ?_; clear hK K
  refine l_q T rfl rfl rfl rfl (rn_pick1 rfl (T.ev 5 rfl) rfl (T.ev 0 rfl)) ?_; clear T ac; intro ac T
  refine l_q T rfl rfl rfl rfl (rn_assign rfl (T.ev 0 rfl)) ?_; clear T ac; intro ac T
  refine wpList_nil ?_
  replace T := T.pick [0] rfl
  replace M := M.mask [false, false] rfl
  refine nm_then ?_
  refine wp_ret ?_
  refine rt_1 T rfl (T.ev 0 rfl) ?_
  exact ⟨rfl, M.below⟩

set_option maxRecDepth 100000 in
set_option maxHeartbeats 1000000 in
theorem wider_any (x0 x1 y0 y1 : Int) (w : World)  :
    Calls Try.prog 40 #[.agg #[.int .i64 x0, .int .i64 x1], .agg #[.int .i64 y0, .int .i64 y1]] w fun e w' => e = .returned (.bool (hasB x0 x1 y0 y1)) ∧ Below w.heap.size w w' := by
  refine px_enter noEx Try.func40 rfl 17 rfl [.agg #[.int .i64 x0, .int .i64 x1], .agg #[.int .i64 y0, .int .i64 y1]] rfl rfl (Mem.init w _) ?_
  intro ac wc T M
  refine wp_seq ?_
  refine wp_region_lit ?_
  refine l_w rfl ?_; intro K hK
  refine ow_bx M T rfl rfl rfl rfl (T.ev 0 rfl) rfl ?_; clear M T; intro g1 wc ac M T
  refine sh_out hK _ _ ?_; clear hK K
  refine l_w rfl ?_; intro K hK
  refine ow_bx M T rfl rfl rfl rfl (T.ev 2 rfl) rfl ?_; clear M T; intro g2 wc ac M T
  refine sh_out hK _ _ ?_; clear hK K
  refine l_q T rfl rfl rfl rfl (rn_assign rfl evc) ?_; clear T ac; intro ac T
  refine wpList_nil ?_
  replace T := T.pick [1, 2] rfl
  refine nm_then ?_
  refine cut_seq (fun ac wc => Tm ac 17 [(4, .bool ((decide (x0 ≤ y0)) && (decide (y1 ≤ x1))))] ∧ Mem w noEx wc []) ?_ ?_
  · refine wp_region_lit ?_
    refine l_q (v := (.pointer (some ⟨g1, 0, none⟩))) T rfl rfl rfl rfl (rn_fieldAddr (off := 0) rfl (T.ev 1 rfl) (fun _ _ _ => by kernel_rfl)) ?_; clear T ac; intro ac T
    refine l_q T rfl rfl rfl rfl (rn_one (Mem.nth M 1 rfl) rfl (T.ev 0 rfl) rfl) ?_; clear T ac; intro ac T
    refine l_q (v := (.pointer (some ⟨g2, 0, none⟩))) T rfl rfl rfl rfl (rn_fieldAddr (off := 0) rfl (T.ev 2 rfl) (fun _ _ _ => by kernel_rfl)) ?_; clear T ac; intro ac T
    refine l_q T rfl rfl rfl rfl (rn_one (Mem.nth M 0 rfl) rfl (T.ev 0 rfl) rfl) ?_; clear T ac; intro ac T
    refine l_q T rfl rfl rfl rfl (rn_leq rfl (T.ev 2 rfl) (T.ev 0 rfl)) ?_; clear T ac; intro ac T
    refine l_q T rfl rfl rfl rfl (rn_move rfl (T.ev 0 rfl)) ?_; clear T ac; intro ac T
    rcases Bool.eq_false_or_eq_true (decide (x0 ≤ y0)) with h1 | h1
    · replace h1 := of_decide_eq_true h1
      refine l_q (v := (.pointer (some ⟨g2, 1, none⟩))) T (wanted_yes rfl rfl (T.ev 0 rfl) (decide_eq_true h1)) rfl rfl rfl (rn_fieldAddr (off := 1) rfl (T.ev 6 rfl) (fun _ _ _ => by kernel_rfl)) ?_; clear T ac; intro ac T
      refine l_q T (wanted_yes rfl rfl (T.ev 1 rfl) (decide_eq_true h1)) rfl rfl rfl (rn_one (Mem.nth M 0 rfl) rfl (T.ev 0 rfl) rfl) ?_; clear T ac; intro ac T
      refine l_q (v := (.pointer (some ⟨g1, 1, none⟩))) T (wanted_yes rfl rfl (T.ev 2 rfl) (decide_eq_true h1)) rfl rfl rfl (rn_fieldAddr (off := 1) rfl (T.ev 9 rfl) (fun _ _ _ => by kernel_rfl)) ?_; clear T ac; intro ac T
      refine l_q T (wanted_yes rfl rfl (T.ev 3 rfl) (decide_eq_true h1)) rfl rfl rfl (rn_one (Mem.nth M 1 rfl) rfl (T.ev 0 rfl) rfl) ?_; clear T ac; intro ac T
      refine l_q T (wanted_yes rfl rfl (T.ev 4 rfl) (decide_eq_true h1)) rfl rfl rfl (rn_leq rfl (T.ev 2 rfl) (T.ev 0 rfl)) ?_; clear T ac; intro ac T
      refine l_q T rfl rfl rfl rfl (rn_pick1 rfl (T.ev 5 rfl) (decide_eq_true h1) (T.ev 0 rfl)) ?_; clear T ac; intro ac T
      refine l_q T rfl rfl rfl rfl (rn_assign rfl (T.ev 0 rfl)) ?_; clear T ac; intro ac T
      refine wpList_nil ?_
      replace T := T.pick [0] rfl
      replace M := M.mask [false, false] rfl
      exact ⟨(T.pick (E' := [(4, .bool (decide (y1 ≤ x1)))]) [0] rfl).as (by (try rw [show (decide (x0 ≤ y0)) = true from (decide_eq_true h1)]); rfl), M.mask [] rfl⟩
    · replace h1 := of_decide_eq_false h1
      refine l_pass T (wanted_no rfl rfl (T.ev 0 rfl) (decide_eq_false h1)) rfl rfl rfl ?_; clear T ac; intro ac T
      refine l_pass T (wanted_no rfl rfl (T.ev 1 rfl) (decide_eq_false h1)) rfl rfl rfl ?_; clear T ac; intro ac T
      refine l_pass T (wanted_no rfl rfl (T.ev 2 rfl) (decide_eq_false h1)) rfl rfl rfl ?_; clear T ac; intro ac T
      refine l_pass T (wanted_no rfl rfl (T.ev 3 rfl) (decide_eq_false h1)) rfl rfl rfl ?_; clear T ac; intro ac T
      refine l_pass T (wanted_no rfl rfl (T.ev 4 rfl) (decide_eq_false h1)) rfl rfl rfl ?_; clear T ac; intro ac T
      refine l_q T rfl rfl rfl rfl (rn_pick0 rfl (T.ev 5 rfl) (decide_eq_false h1) evc) ?_; clear T ac; intro ac T
      refine l_q T rfl rfl rfl rfl (rn_assign rfl (T.ev 0 rfl)) ?_; clear T ac; intro ac T
      refine wpList_nil ?_
      replace T := T.pick [0] rfl
      replace M := M.mask [false, false] rfl
      exact ⟨(T.pick (E' := [(4, .bool false)]) [0] rfl).as (by (try rw [show (decide (x0 ≤ y0)) = false from (decide_eq_false h1)]); rfl), M.mask [] rfl⟩
  · clear T M
    rintro ac wc ⟨T, M⟩
    refine wp_ret ?_
    refine rt_1 T rfl (T.ev 0 rfl) ?_
    exact ⟨ret_bool (by unfold hasB; simp), M.below⟩

set_option maxRecDepth 100000 in
set_option maxHeartbeats 1000000 in
theorem Hear_any (j : Jb) (A : Option Addr) (c : Nat) (r : Int) (w : World) (hr : Rd w w.heap.size 2 A j.sh.length (rc j.sh)) (hn : j.sh.length ≤ 9223372036854775807) :
    Calls Try.prog 37 #[jobV j A c, .int .i64 r] w fun e w' => e = .returned (.tuple #[.agg #[.int .i64 ((hearT j r).1.1), .int .i64 ((hearT j r).1.2)], .int .i64 ((hearT j r).2)]) ∧ Below w.heap.size w w' := by
  obtain ⟨bJ, oJ, SJ⟩ := Sp.old hr
  refine px_enter noEx Try.func37 rfl 45 rfl [.agg #[.int .i64 j.p0, .int .i64 j.p1, .int .i64 j.t0, .int .i64 j.t1, .int .i64 j.r0, .int .i64 j.r1, .int .i64 j.u0, .int .i64 j.u1, .int .i64 j.d0, .int .i64 j.d1, .int .i64 j.a0, .int .i64 j.a1, .int .i64 j.b0, .int .i64 j.b1, .int .i64 j.le, .slice A j.sh.length c, .int .i64 j.wi, .int .i64 j.me], .int .i64 r] rfl rfl (Mem.init w _) ?_
  intro ac wc T M
  refine wp_seq ?_
  refine wp_region_lit ?_
  refine l_w rfl ?_; intro K hK
  refine ow_bx M T rfl rfl rfl rfl (T.ev 0 rfl) rfl ?_; clear M T; intro g1 wc ac M T
  refine sh_out hK _ _ ?_; clear hK K
  refine l_w rfl ?_; intro K hK
  refine ow_al M T rfl rfl rfl rfl ?_; clear M T; intro g2 wc ac M T
  refine sh_out hK _ _ ?_; clear hK K
  refine l_q T rfl rfl rfl rfl (rn_assign rfl evc) ?_; clear T ac; intro ac T
  refine wpList_nil ?_
  replace T := T.pick [1, 2, 4] rfl
  refine nm_then ?_
  refine wp_seq ?_
  refine wp_seq ?_
  refine wp_region_lit ?_
  refine l_q T rfl rfl rfl rfl (rn_rowO (Mem.nth M 1 rfl) rfl (T.ev 1 rfl) rfl) ?_; clear T ac; intro ac T
  refine l_w rfl ?_; intro K hK
  refine ow_call (first := []) (cap := []) T rfl rfl rfl rfl evf (.cons (T.ev 0 rfl) .nil) Try.func49 rfl rfl ?_
  refine Calls.mono (check_any j _ _ _ (SJ.rd M (List.nil_sublist _)) (by omega)) ?_
  clear T
  rintro e wc ⟨rfl, hb⟩
  intro ac T
  replace M := M.call hb; clear hb
  refine sh_out hK _ _ ?_; clear hK K
  refine l_q T rfl rfl rfl rfl (rn_assign rfl (T.ev 0 rfl)) ?_; clear T ac; intro ac T
  refine wpList_nil ?_
  replace T := T.pick [0, 3, 4, 5] rfl
  refine nm_then ?_
  refine wp_seq ?_
  refine wp_region_lit ?_
  refine l_q T rfl rfl rfl rfl (rn_move rfl (T.ev 0 rfl)) ?_; clear T ac; intro ac T
  refine l_q T rfl rfl rfl rfl (rn_neq rfl (T.ev 0 rfl) evc) ?_; clear T ac; intro ac T
  refine wpList_nil ?_
  replace T := T.pick [0, 2, 3, 4, 5] rfl
  refine nm_then ?_
  refine wp_ifn (T.ev 0 rfl) ?_ ?_
  · intro h1
    refine wp_seq ?_
    refine wp_region_lit ?_
    refine l_q (v := (.agg #[.int .i64 0, .int .i64 0])) T rfl rfl rfl rfl (rn_build rfl .nil (fun _ => by kernel_rfl)) ?_; clear T ac; intro ac T
    refine l_q T rfl rfl rfl rfl (rn_move rfl (T.ev 2 rfl)) ?_; clear T ac; intro ac T
    refine l_w rfl ?_; intro K hK
    refine ow_stO M T rfl rfl (T.ev 4 rfl) (T.ev 1 rfl) rfl .head rfl (by simp) rfl (by kernel_rfl) ?_; clear M T; intro wc ac M T
    refine sh_out hK _ _ ?_; clear hK K
    refine l_q T rfl rfl rfl rfl (rn_assign rfl (T.ev 0 rfl)) ?_; clear T ac; intro ac T
    refine wpList_nil ?_
    replace T := T.pick [0, 5] rfl
    replace M := M.mask [true, false] rfl
    refine nm_then ?_
    refine wp_ret ?_
    refine rt_then ?_
    refine rt_ct M T rfl (T.ev 1 rfl) (T.ev 0 rfl) (nthE_mem (i := 0) rfl) rfl ?_
    refine ⟨?_, M.below⟩
    unfold hearT
    (repeat' split) <;> first | rfl | omega | contradiction | (simp_all; done) | (simp_all; omega)
  · intro h1
    have hj := good_of h1
    have hp := hj.p
    have hme := hj.me
    refine wp_skip ?_
    refine nm_then ?_
    refine wp_seq ?_
    refine wp_seq ?_
    refine wp_region_lit ?_
    refine l_q T rfl rfl rfl rfl (rn_move rfl (T.ev 4 rfl)) ?_; clear T ac; intro ac T
    refine l_q (v := (.pointer (some ⟨g1, 0, none⟩))) T rfl rfl rfl rfl (rn_fieldAddr (off := 0) rfl (T.ev 4 rfl) (fun _ _ _ => by kernel_rfl)) ?_; clear T ac; intro ac T
    refine l_q (v := (.pointer (some ⟨g1, 0, none⟩))) T rfl rfl rfl rfl (rn_fieldAddr (off := 0) rfl (T.ev 0 rfl) (fun _ _ _ => by kernel_rfl)) ?_; clear T ac; intro ac T
    refine l_q (v := (.pointer (some ⟨g1, 0, none⟩))) T rfl rfl rfl rfl (rn_fieldAddr (off := 0) rfl (T.ev 0 rfl) (fun _ _ _ => by kernel_rfl)) ?_; clear T ac; intro ac T
    refine l_q T rfl rfl rfl rfl (rn_one (Mem.nth M 1 rfl) rfl (T.ev 0 rfl) rfl) ?_; clear T ac; intro ac T
    refine l_q (v := (.pointer (some ⟨g1, 17, none⟩))) T rfl rfl rfl rfl (rn_fieldAddr (off := 17) rfl (T.ev 8 rfl) (fun _ _ _ => by kernel_rfl)) ?_; clear T ac; intro ac T
    refine l_q T rfl rfl rfl rfl (rn_one (Mem.nth M 1 rfl) rfl (T.ev 0 rfl) rfl) ?_; clear T ac; intro ac T
    refine l_q T rfl rfl rfl rfl (rn_sub rfl (T.ev 2 rfl) (T.ev 0 rfl) (by omega)) ?_; clear T ac; intro ac T
    refine l_q (v := (.pointer (some ⟨g1, 0, none⟩))) T rfl rfl rfl rfl (rn_fieldAddr (off := 0) rfl (T.ev 11 rfl) (fun _ _ _ => by kernel_rfl)) ?_; clear T ac; intro ac T
    refine l_q (v := (.pointer (some ⟨g1, 0, none⟩))) T rfl rfl rfl rfl (rn_fieldAddr (off := 0) rfl (T.ev 0 rfl) (fun _ _ _ => by kernel_rfl)) ?_; clear T ac; intro ac T
    refine l_q (v := (.pointer (some ⟨g1, 1, none⟩))) T rfl rfl rfl rfl (rn_fieldAddr (off := 1) rfl (T.ev 0 rfl) (fun _ _ _ => by kernel_rfl)) ?_; clear T ac; intro ac T
    refine l_q T rfl rfl rfl rfl (rn_one (Mem.nth M 1 rfl) rfl (T.ev 0 rfl) rfl) ?_; clear T ac; intro ac T
    refine l_q (v := (.pointer (some ⟨g1, 17, none⟩))) T rfl rfl rfl rfl (rn_fieldAddr (off := 17) rfl (T.ev 15 rfl) (fun _ _ _ => by kernel_rfl)) ?_; clear T ac; intro ac T
    refine l_q T rfl rfl rfl rfl (rn_one (Mem.nth M 1 rfl) rfl (T.ev 0 rfl) rfl) ?_; clear T ac; intro ac T
    refine l_q T rfl rfl rfl rfl (rn_add rfl (T.ev 2 rfl) (T.ev 0 rfl) (by omega)) ?_; clear T ac; intro ac T
    refine l_w rfl ?_; intro K hK
    refine ow_call (first := []) (cap := []) T rfl rfl rfl rfl evf (.cons (T.ev 14 rfl) (.cons (T.ev 7 rfl) (.cons (T.ev 0 rfl) .nil))) Try.func85 rfl rfl ?_
    refine Calls.mono (within_any r (j.p0 - j.me) (j.p1 + j.me) _) ?_
    clear T
    rintro e wc ⟨rfl, rfl⟩
    intro ac T
    refine sh_out hK _ _ ?_; clear hK K
    refine l_q T rfl rfl rfl rfl (rn_not rfl (T.ev 0 rfl)) ?_; clear T ac; intro ac T
    refine wpList_nil ?_
    replace T := T.pick [0, 19, 20, 21] rfl
    refine nm_then ?_
    refine wp_cond_split (T.ev 0 rfl) ?_ ?_
    · intro h2
      (try have h2' := h2; try simp only [Bool.and_eq_true, Bool.or_eq_true, Bool.not_eq_true', Bool.and_eq_false_imp, Bool.or_eq_false_iff, decide_eq_true_eq, decide_eq_false_iff_not] at h2')
      refine wp_seq ?_
      refine wp_region_lit ?_
      refine l_q (v := (.agg #[.int .i64 0, .int .i64 0])) T rfl rfl rfl rfl (rn_build rfl .nil (fun _ => by kernel_rfl)) ?_; clear T ac; intro ac T
      refine l_w rfl ?_; intro K hK
      refine ow_stO M T rfl rfl (T.ev 2 rfl) (T.ev 0 rfl) rfl .head rfl (by simp) rfl (by kernel_rfl) ?_; clear M T; intro wc ac M T
      refine sh_out hK _ _ ?_; clear hK K
      refine l_q T rfl rfl rfl rfl (rn_assign rfl evc) ?_; clear T ac; intro ac T
      refine wpList_nil ?_
      replace T := T.pick [0, 3] rfl
      replace M := M.mask [true, false] rfl
      refine nm_then ?_
      refine wp_ret ?_
      refine rt_then ?_
      refine rt_ct M T rfl (T.ev 1 rfl) (T.ev 0 rfl) (nthE_mem (i := 0) rfl) rfl ?_
      refine ⟨?_, M.below⟩
      unfold hearT
      (repeat' split) <;> first | rfl | omega | contradiction | (simp_all; done) | (simp_all; omega)
    · intro h2
      (try have h2' := h2; try simp only [Bool.and_eq_true, Bool.or_eq_true, Bool.not_eq_true', Bool.and_eq_false_imp, Bool.or_eq_false_iff, decide_eq_true_eq, decide_eq_false_iff_not] at h2')
      have hw : j.p0 - j.me ≤ r ∧ r ≤ j.p1 + j.me := by simpa [withinB] using h2
      refine wp_skip ?_
      refine nm_then ?_
      refine wp_seq ?_
      refine wp_region_lit ?_
      refine l_q (v := (.pointer (some ⟨g1, 0, none⟩))) T rfl rfl rfl rfl (rn_fieldAddr (off := 0) rfl (T.ev 2 rfl) (fun _ _ _ => by kernel_rfl)) ?_; clear T ac; intro ac T
      refine l_q (v := (.pointer (some ⟨g1, 0, none⟩))) T rfl rfl rfl rfl (rn_fieldAddr (off := 0) rfl (T.ev 0 rfl) (fun _ _ _ => by kernel_rfl)) ?_; clear T ac; intro ac T
      refine l_q T rfl rfl rfl rfl (rn_rowO (Mem.nth M 1 rfl) rfl (T.ev 0 rfl) rfl) ?_; clear T ac; intro ac T
      refine l_q T rfl rfl rfl rfl (rn_move rfl (T.ev 6 rfl)) ?_; clear T ac; intro ac T
      refine l_q (v := (.pointer (some ⟨g1, 17, none⟩))) T rfl rfl rfl rfl (rn_fieldAddr (off := 17) rfl (T.ev 6 rfl) (fun _ _ _ => by kernel_rfl)) ?_; clear T ac; intro ac T
      refine l_q T rfl rfl rfl rfl (rn_one (Mem.nth M 1 rfl) rfl (T.ev 0 rfl) rfl) ?_; clear T ac; intro ac T
      refine l_q T rfl rfl rfl rfl (rn_sub rfl (T.ev 2 rfl) (T.ev 0 rfl) (by omega)) ?_; clear T ac; intro ac T
      refine l_q T rfl rfl rfl rfl (rn_move rfl (T.ev 10 rfl)) ?_; clear T ac; intro ac T
      refine l_q (v := (.pointer (some ⟨g1, 17, none⟩))) T rfl rfl rfl rfl (rn_fieldAddr (off := 17) rfl (T.ev 10 rfl) (fun _ _ _ => by kernel_rfl)) ?_; clear T ac; intro ac T
      refine l_q T rfl rfl rfl rfl (rn_one (Mem.nth M 1 rfl) rfl (T.ev 0 rfl) rfl) ?_; clear T ac; intro ac T
      refine l_q T rfl rfl rfl rfl (rn_add rfl (T.ev 2 rfl) (T.ev 0 rfl) (by omega)) ?_; clear T ac; intro ac T
      refine l_q (v := (.agg #[.int .i64 (r - j.me), .int .i64 (r + j.me)])) T rfl rfl rfl rfl (rn_build rfl (.cons (T.ev 4 rfl) (.cons (T.ev 0 rfl) .nil)) (fun _ => by kernel_rfl)) ?_; clear T ac; intro ac T
      refine l_w rfl ?_; intro K hK
      refine ow_bs (e := 23) [.int .i64 (r - j.me), .int .i64 (r + j.me)] M T rfl rfl rfl rfl (.cons (T.ev 0 rfl) .nil) (fun _ => by kernel_rfl) ?_; clear M T; intro g3 wc ac M T
      refine sh_out hK _ _ ?_; clear hK K
      refine l_w rfl ?_; intro K hK
      refine ow_call (first := []) (cap := []) T rfl rfl rfl rfl evf (.cons (T.ev 10 rfl) (.cons (T.ev 0 rfl) .nil)) Try.func86 rfl rfl ?_
      refine Calls.mono (meet_any j.p0 j.p1 _ _ _ [((r - j.me), (r + j.me))] _ (M.rdOwn (nthE_mem (i := 0) rfl) rfl rfl) (by omega)) ?_
      clear T
      rintro e wc ⟨rfl, hb⟩
      intro ac T
      replace M := M.call hb; clear hb
      refine sh_out hK _ _ ?_; clear hK K
      refine l_w rfl ?_; intro K hK
      refine ow_stO M T rfl rfl (T.ev 15 rfl) (T.ev 0 rfl) rfl (.tail .head) rfl (by simp) rfl (by kernel_rfl) ?_; clear M T; intro wc ac M T
      refine sh_out hK _ _ ?_; clear hK K
      refine l_q T rfl rfl rfl rfl (rn_assign rfl evc) ?_; clear T ac; intro ac T
      refine wpList_nil ?_
      replace T := T.pick [0, 16] rfl
      replace M := M.mask [false, true, false] rfl
      refine nm_then ?_
      refine wp_ret ?_
      refine rt_ct M T rfl (T.ev 1 rfl) (T.ev 0 rfl) (nthE_mem (i := 0) rfl) rfl ?_
      refine ⟨?_, M.below⟩
      unfold hearT
      (repeat' split) <;> first | rfl | omega | contradiction | (simp_all; done) | (simp_all; omega)

end Go.Proofs.Ythlpceoajhcliaa
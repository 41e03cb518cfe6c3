/-
  Walks of functions, and plain laws (texts put together). No condition.
-/
import Derived.Test.YtlahdenlmmlplaaMVoiceTrue1
import Derived.Test.YtlahdenlmmlplaaMVoiceTrue2
import Derived.Test.YtlahdenlmmlplaaMVoiceTrue3
import Derived.Test.YtlahdenlmmlplaaMVoiceTrue4
import Derived.Test.YtlahdenlmmlplaaMVoiceTrue5

section
/-
 law05: what the laws about boxes use.
-/
namespace Go.Proofs.Ytlahdenlmmlplaa
set_option linter.unusedSimpArgs false
set_option linter.unusedVariables false
open Go.RowKit
def placeF (v : Int) : List Int → Nat → Int
 | [], _ => -1
 | x :: r, k => if x = v then (k : Int) else placeF v r (k + 1)
def placeP (l : List Int) (v : Int) : Int := placeF v l 0
set_option maxRecDepth 100000 in
set_option maxHeartbeats 1000000 in
theorem inK_any (p0 p1 n : Int) (w : World)  :
   Calls Try.prog 44 #[.agg #[.int .i64 p0, .int .i64 p1], .int .i64 n] w fun e w' => e = .returned (.bool (decide (p0 ≤ n) && decide (n ≤ p1))) ∧ Below w.heap.size w w' := by
 refine px_enter noEx Try.func44 rfl 15 rfl [.agg #[.int .i64 p0, .int .i64 p1], .int .i64 n] rfl rfl (Mem.init w _) ?_
 intro ac wc T M
 refine wp_seq ?_
 refine wp_region_lit ?_
 refine l_w rfl ?_; intro K hK
 refine ow_bx M T rfl rfl rfl rfl (T.ev 0 rfl) rfl ?_; clear M T; intro g1 wc ac M T
 refine sh_out hK _ _ ?_; clear hK K
 refine lq T (rn_assign rfl evc) ?_; clear T ac; intro ac T
 refine wpList_nil ?_
 replace T := T.pick [1, 3] rfl
 refine nm_then ?_
 refine cut_seq (fun ac wc => Tm ac 15 [(4, .bool ((decide (p0 ≤ n)) && (decide (n ≤ p1))))] ∧ Mem w noEx wc []) ?_ ?_
 ·refine wp_region_lit ?_
  refine lq (v := (.pointer (some ⟨g1, 0, none⟩))) T (rn_fieldAddr (off := 0) rfl (T.ev 0 rfl) (fun _ _ _ => by kernel_rfl)) ?_; clear T ac; intro ac T
  refine lq T (rn_one (Mem.nth M 0 rfl) rfl (T.ev 0 rfl) rfl) ?_; clear T ac; intro ac T
  refine lq T (rn_move rfl (T.ev 3 rfl)) ?_; clear T ac; intro ac T
  refine lq T (rn_leq rfl (T.ev 1 rfl) (T.ev 0 rfl)) ?_; clear T ac; intro ac T
  refine lq T (rn_move rfl (T.ev 0 rfl)) ?_; clear T ac; intro ac T
  rcases Bool.eq_false_or_eq_true (decide (p0 ≤ n)) with h1 | h1
  ·replace h1 := of_decide_eq_true h1
   refine lw T (wanted_yes rfl rfl (T.ev 0 rfl) (decide_eq_true h1)) (rn_move rfl (T.ev 6 rfl)) ?_; clear T ac; intro ac T
   refine lw (v := (.pointer (some ⟨g1, 1, none⟩))) T (wanted_yes rfl rfl (T.ev 1 rfl) (decide_eq_true h1)) (rn_fieldAddr (off := 1) rfl (T.ev 6 rfl) (fun _ _ _ => by kernel_rfl)) ?_; clear T ac; intro ac T
   refine lw T (wanted_yes rfl rfl (T.ev 2 rfl) (decide_eq_true h1)) (rn_one (Mem.nth M 0 rfl) rfl (T.ev 0 rfl) rfl) ?_; clear T ac; intro ac T
   refine lw T (wanted_yes rfl rfl (T.ev 3 rfl) (decide_eq_true h1)) (rn_leq rfl (T.ev 2 rfl) (T.ev 0 rfl)) ?_; clear T ac; intro ac T
   refine lq T (rn_pick1 rfl (T.ev 4 rfl) (decide_eq_true h1) (T.ev 0 rfl)) ?_; clear T ac; intro ac T
   refine lq T (rn_assign rfl (T.ev 0 rfl)) ?_; clear T ac; intro ac T
   refine wpList_nil ?_
   replace T := T.pick [0] rfl
   replace M := M.mask [false] rfl
   exact ⟨(T.pick (E' := [(4, .bool (decide (n ≤ p1)))]) [0] rfl).as (by (try rw [show (decide (p0 ≤ n)) = true from (decide_eq_true h1)]); (try rfl)), M.mask [] rfl⟩
  replace h1 := of_decide_eq_false h1
  refine lp T (wanted_no rfl rfl (T.ev 0 rfl) (decide_eq_false h1)) ?_; clear T ac; intro ac T
  refine lp T (wanted_no rfl rfl (T.ev 1 rfl) (decide_eq_false h1)) ?_; clear T ac; intro ac T
  refine lp T (wanted_no rfl rfl (T.ev 2 rfl) (decide_eq_false h1)) ?_; clear T ac; intro ac T
  refine lp T (wanted_no rfl rfl (T.ev 3 rfl) (decide_eq_false h1)) ?_; clear T ac; intro ac T
  refine lq T (rn_pick0 rfl (T.ev 4 rfl) (decide_eq_false h1) evc) ?_; clear T ac; intro ac T
  refine lq T (rn_assign rfl (T.ev 0 rfl)) ?_; clear T ac; intro ac T
  refine wpList_nil ?_
  replace T := T.pick [0] rfl
  replace M := M.mask [false] rfl
  exact ⟨(T.pick (E' := [(4, .bool false)]) [0] rfl).as (by (try rw [show (decide (p0 ≤ n)) = false from (decide_eq_false h1)]); (try rfl)), M.mask [] rfl⟩
 clear T M
 rintro ac wc ⟨T, M⟩
 refine wp_ret ?_
 refine rt_1 T rfl (T.ev 0 rfl) ?_
 exact ⟨rfl, M.below⟩
set_option maxRecDepth 100000 in
set_option maxHeartbeats 1000000 in
theorem right_any (v : Int) (is : Bool) (w : World)  :
   Calls Try.prog 43 #[.int .i64 v, .bool is] w fun e w' => e = .returned (.bool (rightB v is)) ∧ Below w.heap.size w w' := by
 refine px_enter noEx Try.func43 rfl 22 rfl [.int .i64 v, .bool is] rfl rfl (Mem.init w _) ?_
 intro ac wc T M
 refine wp_seq ?_
 refine wp_region_lit ?_
 refine lq T (rn_assign rfl evc) ?_; clear T ac; intro ac T
 refine wpList_nil ?_
 replace T := T.pick [1, 2] rfl
 refine nm_then ?_
 refine cut_seq (fun ac wc => Tm ac 22 [(4, .bool ((decide (v = 3)) || (bif (decide (v = 1)) then (is || ((decide (v = 2)) && (!is))) else ((decide (v = 2)) && (!is)))))] ∧ Mem w noEx wc []) ?_ ?_
 ·refine wp_region_lit ?_
  refine lq T (rn_move rfl (T.ev 0 rfl)) ?_; clear T ac; intro ac T
  refine lq T (rn_eql rfl (T.ev 0 rfl) evc) ?_; clear T ac; intro ac T
  refine lq T (rn_move rfl (T.ev 0 rfl)) ?_; clear T ac; intro ac T
  rcases Bool.eq_false_or_eq_true (decide (v = 3)) with h1 | h1
  ·replace h1 := of_decide_eq_true h1
   refine lp T (wanted_no rfl rfl (T.ev 0 rfl) (decide_eq_true h1)) ?_; clear T ac; intro ac T
   refine lp T (wanted_no rfl rfl (T.ev 1 rfl) (decide_eq_true h1)) ?_; clear T ac; intro ac T
   refine lp T (wanted_no rfl rfl (T.ev 2 rfl) (decide_eq_true h1)) ?_; clear T ac; intro ac T
   refine lp T (wanted_un rfl rfl (T.ev 0 rfl)) ?_; clear T ac; intro ac T
   refine lp T (wanted_no rfl rfl (T.ev 4 rfl) (decide_eq_true h1)) ?_; clear T ac; intro ac T
   refine lq T (rn_pick1 rfl (T.ev 5 rfl) (decide_eq_true h1) evc) ?_; clear T ac; intro ac T
   refine lq T (rn_move rfl (T.ev 0 rfl)) ?_; clear T ac; intro ac T
   refine lp T (wanted_no rfl rfl (T.ev 0 rfl) rfl) ?_; clear T ac; intro ac T
   refine lp T (wanted_no rfl rfl (T.ev 1 rfl) rfl) ?_; clear T ac; intro ac T
   refine lp T (wanted_no rfl rfl (T.ev 2 rfl) rfl) ?_; clear T ac; intro ac T
   refine lp T (wanted_un rfl rfl (T.ev 0 rfl)) ?_; clear T ac; intro ac T
   refine lp T (wanted_un rfl rfl (T.ev 1 rfl)) ?_; clear T ac; intro ac T
   refine lp T (wanted_no rfl rfl (T.ev 5 rfl) rfl) ?_; clear T ac; intro ac T
   refine lq T (rn_pick1 rfl (T.ev 6 rfl) rfl evc) ?_; clear T ac; intro ac T
   refine lq T (rn_assign rfl (T.ev 0 rfl)) ?_; clear T ac; intro ac T
   refine wpList_nil ?_
   replace T := T.pick [0] rfl
   exact ⟨(T.pick (E' := [(4, .bool true)]) [0] rfl).as (by (try rw [show (decide (v = 3)) = true from (decide_eq_true h1)]); (try rfl)), M.mask [] rfl⟩
  replace h1 := of_decide_eq_false h1
  refine lw T (wanted_yes rfl rfl (T.ev 0 rfl) (decide_eq_false h1)) (rn_move rfl (T.ev 3 rfl)) ?_; clear T ac; intro ac T
  refine lw T (wanted_yes rfl rfl (T.ev 1 rfl) (decide_eq_false h1)) (rn_eql rfl (T.ev 0 rfl) evc) ?_; clear T ac; intro ac T
  refine lw T (wanted_yes rfl rfl (T.ev 2 rfl) (decide_eq_false h1)) (rn_move rfl (T.ev 0 rfl)) ?_; clear T ac; intro ac T
  rcases Bool.eq_false_or_eq_true (decide (v = 1)) with h2 | h2
  ·replace h2 := of_decide_eq_true h2
   refine lw T (wanted_yes rfl rfl (T.ev 0 rfl) (decide_eq_true h2)) (rn_move rfl (T.ev 7 rfl)) ?_; clear T ac; intro ac T
   refine lw T (wanted_yes rfl rfl (T.ev 4 rfl) (decide_eq_false h1)) (rn_pick1 rfl (T.ev 1 rfl) (decide_eq_true h2) (T.ev 0 rfl)) ?_; clear T ac; intro ac T
   refine lq T (rn_pick0 rfl (T.ev 5 rfl) (decide_eq_false h1) (T.ev 0 rfl)) ?_; clear T ac; intro ac T
   refine lq T (rn_move rfl (T.ev 0 rfl)) ?_; clear T ac; intro ac T
   rcases Bool.eq_false_or_eq_true is with h3 | h3
   ·refine lp T (wanted_no rfl rfl (T.ev 0 rfl) h3) ?_; clear T ac; intro ac T
    refine lp T (wanted_no rfl rfl (T.ev 1 rfl) h3) ?_; clear T ac; intro ac T
    refine lp T (wanted_no rfl rfl (T.ev 2 rfl) h3) ?_; clear T ac; intro ac T
    refine lp T (wanted_un rfl rfl (T.ev 0 rfl)) ?_; clear T ac; intro ac T
    refine lp T (wanted_un rfl rfl (T.ev 1 rfl)) ?_; clear T ac; intro ac T
    refine lp T (wanted_no rfl rfl (T.ev 5 rfl) h3) ?_; clear T ac; intro ac T
    refine lq T (rn_pick1 rfl (T.ev 6 rfl) h3 evc) ?_; clear T ac; intro ac T
    refine lq T (rn_assign rfl (T.ev 0 rfl)) ?_; clear T ac; intro ac T
    refine wpList_nil ?_
    replace T := T.pick [0] rfl
    exact ⟨(T.pick (E' := [(4, .bool true)]) [0] rfl).as (by (try rw [show (decide (v = 3)) = false from (decide_eq_false h1)]); (try rw [show (decide (v = 1)) = true from (decide_eq_true h2)]); (try rw [show is = true from h3]); (try rfl)), M.mask [] rfl⟩
   refine lw T (wanted_yes rfl rfl (T.ev 0 rfl) h3) (rn_move rfl (T.ev 10 rfl)) ?_; clear T ac; intro ac T
   refine lw T (wanted_yes rfl rfl (T.ev 1 rfl) h3) (rn_eql rfl (T.ev 0 rfl) evc) ?_; clear T ac; intro ac T
   refine lw T (wanted_yes rfl rfl (T.ev 2 rfl) h3) (rn_move rfl (T.ev 0 rfl)) ?_; clear T ac; intro ac T
   rcases Bool.eq_false_or_eq_true (decide (v = 2)) with h4 | h4
   ·replace h4 := of_decide_eq_true h4
    refine lw T (wanted_yes rfl rfl (T.ev 0 rfl) (decide_eq_true h4)) (rn_move rfl (T.ev 14 rfl)) ?_; clear T ac; intro ac T
    refine lw T (wanted_yes rfl rfl (T.ev 1 rfl) (decide_eq_true h4)) (rn_not rfl (T.ev 0 rfl)) ?_; clear T ac; intro ac T
    refine lw T (wanted_yes rfl rfl (T.ev 5 rfl) h3) (rn_pick1 rfl (T.ev 2 rfl) (decide_eq_true h4) (T.ev 0 rfl)) ?_; clear T ac; intro ac T
    refine lq T (rn_pick0 rfl (T.ev 6 rfl) h3 (T.ev 0 rfl)) ?_; clear T ac; intro ac T
    refine lq T (rn_assign rfl (T.ev 0 rfl)) ?_; clear T ac; intro ac T
    refine wpList_nil ?_
    replace T := T.pick [0] rfl
    exact ⟨(T.pick (E' := [(4, .bool (!is))]) [0] rfl).as (by (try rw [show (decide (v = 3)) = false from (decide_eq_false h1)]); (try rw [show (decide (v = 1)) = true from (decide_eq_true h2)]); (try rw [show is = false from h3]); (try rw [show (decide (v = 2)) = true from (decide_eq_true h4)]); (try rfl)), M.mask [] rfl⟩
   replace h4 := of_decide_eq_false h4
   refine lp T (wanted_no rfl rfl (T.ev 0 rfl) (decide_eq_false h4)) ?_; clear T ac; intro ac T
   refine lp T (wanted_no rfl rfl (T.ev 1 rfl) (decide_eq_false h4)) ?_; clear T ac; intro ac T
   refine lw T (wanted_yes rfl rfl (T.ev 5 rfl) h3) (rn_pick0 rfl (T.ev 2 rfl) (decide_eq_false h4) evc) ?_; clear T ac; intro ac T
   refine lq T (rn_pick0 rfl (T.ev 6 rfl) h3 (T.ev 0 rfl)) ?_; clear T ac; intro ac T
   refine lq T (rn_assign rfl (T.ev 0 rfl)) ?_; clear T ac; intro ac T
   refine wpList_nil ?_
   replace T := T.pick [0] rfl
   exact ⟨(T.pick (E' := [(4, .bool false)]) [0] rfl).as (by (try rw [show (decide (v = 3)) = false from (decide_eq_false h1)]); (try rw [show (decide (v = 1)) = true from (decide_eq_true h2)]); (try rw [show is = false from h3]); (try rw [show (decide (v = 2)) = false from (decide_eq_false h4)]); (try rfl)), M.mask [] rfl⟩
  replace h2 := of_decide_eq_false h2
  refine lp T (wanted_no rfl rfl (T.ev 0 rfl) (decide_eq_false h2)) ?_; clear T ac; intro ac T
  refine lw T (wanted_yes rfl rfl (T.ev 4 rfl) (decide_eq_false h1)) (rn_pick0 rfl (T.ev 1 rfl) (decide_eq_false h2) evc) ?_; clear T ac; intro ac T
  refine lq T (rn_pick0 rfl (T.ev 5 rfl) (decide_eq_false h1) (T.ev 0 rfl)) ?_; clear T ac; intro ac T
  refine lq T (rn_move rfl (T.ev 0 rfl)) ?_; clear T ac; intro ac T
  refine lw T (wanted_yes rfl rfl (T.ev 0 rfl) rfl) (rn_move rfl (T.ev 10 rfl)) ?_; clear T ac; intro ac T
  refine lw T (wanted_yes rfl rfl (T.ev 1 rfl) rfl) (rn_eql rfl (T.ev 0 rfl) evc) ?_; clear T ac; intro ac T
  refine lw T (wanted_yes rfl rfl (T.ev 2 rfl) rfl) (rn_move rfl (T.ev 0 rfl)) ?_; clear T ac; intro ac T
  rcases Bool.eq_false_or_eq_true (decide (v = 2)) with h5 | h5
  ·replace h5 := of_decide_eq_true h5
   refine lw T (wanted_yes rfl rfl (T.ev 0 rfl) (decide_eq_true h5)) (rn_move rfl (T.ev 14 rfl)) ?_; clear T ac; intro ac T
   refine lw T (wanted_yes rfl rfl (T.ev 1 rfl) (decide_eq_true h5)) (rn_not rfl (T.ev 0 rfl)) ?_; clear T ac; intro ac T
   refine lw T (wanted_yes rfl rfl (T.ev 5 rfl) rfl) (rn_pick1 rfl (T.ev 2 rfl) (decide_eq_true h5) (T.ev 0 rfl)) ?_; clear T ac; intro ac T
   refine lq T (rn_pick0 rfl (T.ev 6 rfl) rfl (T.ev 0 rfl)) ?_; clear T ac; intro ac T
   refine lq T (rn_assign rfl (T.ev 0 rfl)) ?_; clear T ac; intro ac T
   refine wpList_nil ?_
   replace T := T.pick [0] rfl
   exact ⟨(T.pick (E' := [(4, .bool (!is))]) [0] rfl).as (by (try rw [show (decide (v = 3)) = false from (decide_eq_false h1)]); (try rw [show (decide (v = 1)) = false from (decide_eq_false h2)]); (try rw [show (decide (v = 2)) = true from (decide_eq_true h5)]); (try rfl)), M.mask [] rfl⟩
  replace h5 := of_decide_eq_false h5
  refine lp T (wanted_no rfl rfl (T.ev 0 rfl) (decide_eq_false h5)) ?_; clear T ac; intro ac T
  refine lp T (wanted_no rfl rfl (T.ev 1 rfl) (decide_eq_false h5)) ?_; clear T ac; intro ac T
  refine lw T (wanted_yes rfl rfl (T.ev 5 rfl) rfl) (rn_pick0 rfl (T.ev 2 rfl) (decide_eq_false h5) evc) ?_; clear T ac; intro ac T
  refine lq T (rn_pick0 rfl (T.ev 6 rfl) rfl (T.ev 0 rfl)) ?_; clear T ac; intro ac T
  refine lq T (rn_assign rfl (T.ev 0 rfl)) ?_; clear T ac; intro ac T
  refine wpList_nil ?_
  replace T := T.pick [0] rfl
  exact ⟨(T.pick (E' := [(4, .bool false)]) [0] rfl).as (by (try rw [show (decide (v = 3)) = false from (decide_eq_false h1)]); (try rw [show (decide (v = 1)) = false from (decide_eq_false h2)]); (try rw [show (decide (v = 2)) = false from (decide_eq_false h5)]); (try rfl)), M.mask [] rfl⟩
 clear T M
 rintro ac wc ⟨T, M⟩
 refine wp_ret ?_
 refine rt_1 T rfl (T.ev 0 rfl) ?_
 exact ⟨ret_bool (by unfold rightB; by_cases c1 : v = 3 <;> by_cases c2 : v = 1 <;> by_cases c3 : v = 2 <;> cases is <;> simp [c1, c2, c3]), M.below⟩
theorem in_true {p0 p1 n : Int} (w : World) (h : p0 ≤ n ∧ n ≤ p1) : Calls Try.prog 44 #[.agg #[.int .i64 p0, .int .i64 p1], .int .i64 n] w fun e w' => e = .returned (.bool true) ∧ Below w.heap.size w w' := by
 have h9 := inK_any p0 p1 n w
 rw [decide_eq_true h.1, decide_eq_true h.2] at h9
 exact h9
theorem right_true {v : Int} {is : Bool} (w : World) (h : rightB v is = true) : Calls Try.prog 43 #[.int .i64 v, .bool is] w fun e w' => e = .returned (.bool true) ∧ Below w.heap.size w w' := by
 have h9 := right_any v is w
 rw [h] at h9
 exact h9
theorem Due_good (l : Lw) (n : Int) (w : World) (gl : l.good) (hn : 0 ≤ n ∧ n ≤ 11) : Calls Try.prog 41 #[.agg #[.int .i64 l.first, .int .i64 l.step, .int .i64 l.span, .int .i64 l.press], .int .i64 n] w fun e w' => e = .returned (.tuple #[.int .i64 (l.first + l.step * n), .int .i64 0]) ∧ Below w.heap.size w w' := by
 have h9 := Due_any l n w
 rw [show dueE l n = (l.first + l.step * n, 0) by unfold dueE; rw [if_neg (by simp [good_lawE gl]), if_neg (by simp [hn])]] at h9
 exact h9
theorem pair_at {b : Bx} {i k : Nat} {x y : Snd} (gb : b.good) (hx : b.lows[i]? = some x) (hy : b.highs[k]? = some y) : checkPB b i k = 0 ∧ b.low i = x ∧ b.high k = y := by
 have h1 := (List.getElem?_eq_some_iff.1 hx).1
 have h2 := (List.getElem?_eq_some_iff.1 hy).1
 refine ⟨?_, ?_, ?_⟩
 · unfold checkPB
   rw [if_neg (by rw [checkB_good.2 gb]; simp), if_neg (by simp; omega)]
 · unfold Bx.low
   rw [List.getD_eq_getElem?_getD, Int.toNat_natCast, hx]
   rfl
 · unfold Bx.high
   rw [List.getD_eq_getElem?_getD, Int.toNat_natCast, hy]
   rfl
theorem Beat_at (b : Bx) (A : Option Addr) (c : Nat) (B : Option Addr) (d : Nat) (i k : Nat) (x y : Snd) (w : World) (hA : Rd w w.heap.size 4 A b.lows.length (sc b.lows)) (hB : Rd w w.heap.size 4 B b.highs.length (sc b.highs)) (gb : b.good) (hx : b.lows[i]? = some x) (hy : b.highs[k]? = some y) :
   Calls Try.prog 21 #[bxV b A c B d, .int .i64 (i : Int), .int .i64 (k : Int)] w fun e w' => ∃ A' c' I, e = .returned (.tuple #[.slice A' (beatsL b.law x y).length c', .int .i64 0]) ∧ (∃ b1 o1, ∀ (w : World) (ex : Nat → Prop), Sp w ex I A' (beatsL b.law x y).length 2 b1 o1 (rc (beatsL b.law x y))) ∧ Mem w noEx w' I := by
 have h4 := gb.lows.1
 have h5 := gb.highs.1
 refine Calls.mono (Beat_any b A c B d i k w hA hB (by omega) (by omega)) fun e w' h => ?_
 obtain ⟨A', c', I, rfl, h2, h3⟩ := h
 obtain ⟨e1, e2, e3⟩ := pair_at gb hx hy
 have hb : beatE b i k = beatsL b.law x y := by unfold beatE; rw [if_pos e1, e2, e3]
 rw [hb] at h2
 rw [hb, e1]
 exact ⟨A', c', I, rfl, h2.spV (rc_length _), h3⟩
theorem Keeps_at (b : Bx) (A : Option Addr) (c : Nat) (B : Option Addr) (d : Nat) (i k : Nat) (x y : Snd) (w : World) (hA : Rd w w.heap.size 4 A b.lows.length (sc b.lows)) (hB : Rd w w.heap.size 4 B b.highs.length (sc b.highs)) (gb : b.good) (hx : b.lows[i]? = some x) (hy : b.highs[k]? = some y) :
   Calls Try.prog 22 #[bxV b A c B d, .int .i64 (i : Int), .int .i64 (k : Int)] w fun e w' => e = .returned (.tuple #[.int .i64 (keepsP b.law b.due [x, y]), .int .i64 0]) ∧ Below w.heap.size w w' := by
 have h4 := gb.lows.1
 have h5 := gb.highs.1
 have h9 := Keeps_any b A c B d i k w hA hB (by omega) (by omega)
 obtain ⟨e1, e2, e3⟩ := pair_at gb hx hy
 rw [show keepsE b i k = keepsP b.law b.due [x, y] by unfold keepsE; rw [if_pos e1, e2, e3], e1] at h9
 exact h9
theorem table_at {b : Bx} {LL : List LE} (hL : LL.map (·.1) = tableP b) {i k : Nat} {x y : Snd} {rw : List Int} {B : Option Addr} {d : Nat} {v : Int} (hx : b.lows[i]? = some x) (hy : b.highs[k]? = some y) (hr : LL[i]? = some (rw, B, d)) (hv : rw[k]? = some v) : v = keepsP b.law b.due [x, y] := by
 have h1 : (LL.map (·.1))[i]? = some rw := by rw [List.getElem?_map, hr]; rfl
 rw [hL, tableP, List.getElem?_map, hx] at h1
 injection h1 with h1
 subst h1
 unfold rowP at hv
 rw [List.getElem?_map, hy] at hv
 injection hv with hv
 exact hv.symm
def PairsPost (b : Bx) (w : World) (e : Ending) (w' : World) : Prop := ∃ (A : Option Addr) (c : Nat) (LL : List LE) (I : List (Nat × BA)), e = .returned (.tuple #[.slice A LL.length c, .int .i64 0]) ∧ LL.map (·.1) = tableP b ∧ (∃ b o, ∀ (w : World) (ex : Nat → Prop), Sp w ex I A LL.length 1 b o (lc LL)) ∧ Els LL I ∧ Mem w noEx w' I
theorem vCheck_good (b : Bx) (A : Option Addr) (c : Nat) (B : Option Addr) (d : Nat) (w : World) (hA : Rd w w.heap.size 4 A b.lows.length (sc b.lows)) (hB : Rd w w.heap.size 4 B b.highs.length (sc b.highs)) (gb : b.good) : Calls Try.prog 67 #[bxV b A c B d] w fun e w' => e = .returned (.int .i64 0) ∧ Below w.heap.size w w' := by
 have h4 := gb.lows.1
 have h5 := gb.highs.1
 have h9 := vCheck_any b A c B d w hA hB (by omega) (by omega)
 rw [checkB_good.2 gb] at h9
 exact h9
set_option maxRecDepth 100000 in
set_option maxHeartbeats 1000000 in
theorem Pairs_good (b : Bx) (A : Option Addr) (c : Nat) (B : Option Addr) (d : Nat) (w : World) (hA : Rd w w.heap.size 4 A b.lows.length (sc b.lows)) (hB : Rd w w.heap.size 4 B b.highs.length (sc b.highs)) (gb : b.good) :
   Calls Try.prog 29 #[bxV b A c B d] w (PairsPost b w) := by
 have hlA := hA.len4
 have hlB := hB.len4
 obtain ⟨bA, oA, SA⟩ := Sp.old hA
 obtain ⟨bB, oB, SB⟩ := Sp.old hB
 refine px_enter noEx Try.func29 rfl 12 rfl [.agg #[.int .i64 b.first, .int .i64 b.step, .int .i64 b.span, .int .i64 b.press, .int .i64 b.note, .slice A b.lows.length c, .slice B b.highs.length d, .int .i64 b.t0, .int .i64 b.t1, .int .i64 b.r0, .int .i64 b.r1, .int .i64 b.u0, .int .i64 b.u1, .int .i64 b.d0, .int .i64 b.d1, .int .i64 b.a0, .int .i64 b.a1, .int .i64 b.b0, .int .i64 b.b1, .int .i64 b.le, .int .i64 b.me]] rfl rfl (Mem.init w _) ?_
 intro ac wc T M
 refine wp_seq ?_
 refine wp_region_lit ?_
 refine l_w rfl ?_; intro K hK
 refine ow_bx M T rfl rfl rfl rfl (T.ev 0 rfl) rfl ?_; clear M T; intro g1 wc ac M T
 refine sh_out hK _ _ ?_; clear hK K
 refine lq T (rn_assign rfl evc) ?_; clear T ac; intro ac T
 refine lq T (rn_assign rfl evc) ?_; clear T ac; intro ac T
 refine wpList_nil ?_
 replace T := T.pick [2] rfl
 refine nm_then ?_
 refine wp_seq ?_
 refine wp_seq ?_
 refine wp_region_lit ?_
 refine lq T (rn_rowO (Mem.nth M 0 rfl) rfl (T.ev 0 rfl) rfl) ?_; clear T ac; intro ac T
 refine l_w rfl ?_; intro K hK
 refine ow_call (first := []) (cap := []) T rfl rfl rfl rfl evf (.cons (T.ev 0 rfl) .nil) Try.func67 rfl rfl ?_
 refine Calls.mono (vCheck_good b _ _ _ _ _ (SA.rd M (List.nil_sublist _)) (SB.rd M (List.nil_sublist _)) gb) ?_
 clear T
 rintro e wc ⟨rfl, hb⟩
 intro ac T
 replace M := M.call hb; clear hb
 refine sh_out hK _ _ ?_; clear hK K
 refine lq T (rn_assign rfl (T.ev 0 rfl)) ?_; clear T ac; intro ac T
 refine wpList_nil ?_
 replace T := T.pick [0, 3] rfl
 refine nm_then ?_
 refine wp_seq ?_
 refine wp_region_lit ?_
 refine lq T (rn_move rfl (T.ev 0 rfl)) ?_; clear T ac; intro ac T
 refine lq (v := (.bool false)) T (rn_neqof (rn_neq rfl (T.ev 0 rfl) evc) (by simp)) ?_; clear T ac; intro ac T
 refine wpList_nil ?_
 replace T := T.pick [0, 2, 3] rfl
 refine nm_then ?_
 refine wp_cond_false (T.ev 0 rfl) ?_
 refine wp_skip ?_
 refine nm_then ?_
 refine wp_seq ?_
 refine wp_region_lit ?_
 refine lq T (rn_rowO (Mem.nth M 0 rfl) rfl (T.ev 2 rfl) rfl) ?_; clear T ac; intro ac T
 refine l_w rfl ?_; intro K hK
 refine ow_call (first := []) (cap := []) T rfl rfl rfl rfl evf (.cons (T.ev 0 rfl) .nil) Try.func71 rfl rfl ?_
 refine Calls.mono (table_any b A c B d _ (SA.rd M (List.nil_sublist _)) (SB.rd M (List.nil_sublist _)) gb) ?_
 clear T
 rintro e wc ⟨Au2, cu2, LLu2, Iu2, rfl, hLu2, hSu2, hEu2, N⟩
 intro ac T
 replace M := (M.join N).swapI
 replace M : Mem w noEx wc ((g1, .cells [.int .i64 b.first, .int .i64 b.step, .int .i64 b.span, .int .i64 b.press, .int .i64 b.note, .slice A b.lows.length c, .slice B b.highs.length d, .int .i64 b.t0, .int .i64 b.t1, .int .i64 b.r0, .int .i64 b.r1, .int .i64 b.u0, .int .i64 b.u1, .int .i64 b.d0, .int .i64 b.d1, .int .i64 b.a0, .int .i64 b.a1, .int .i64 b.b0, .int .i64 b.b1, .int .i64 b.le, .int .i64 b.me]) :: Iu2) := M
 clear N
 refine sh_out hK _ _ ?_; clear hK K
 refine lq T (rn_assign rfl (T.ev 0 rfl)) ?_; clear T ac; intro ac T
 refine lq T (rn_assign rfl evc) ?_; clear T ac; intro ac T
 refine wpList_nil ?_
 replace T := T.pick [0, 1] rfl
 replace M := M.mask [false] rfl
 refine nm_then ?_
 refine wp_ret ?_
 refine rt_2 T rfl (T.ev 1 rfl) (T.ev 0 rfl) ?_
 exact ⟨Au2, cu2, LLu2, Iu2, rfl, hLu2, hSu2, hEu2, M.sub (List.Sublist.refl _)⟩
end Go.Proofs.Ytlahdenlmmlplaa
end

section
/-
 law05: VoiceTrue, walked.
-/
namespace Go.Proofs.Ytlahdenlmmlplaa
set_option linter.unusedSimpArgs false
set_option linter.unusedVariables false
open Go.RowKit
theorem chq_as {l : Lw} {due : Int} {ts : List Snd} {i : Nat} {v : Int × Int} {is is' : Bool} (h : ChQ l due ts i v is) (e : is = is') : ChQ l due ts i v is' := e ▸ h
theorem x0_at {LL : List LS} {x0 : List Snd} {B0 : Option Addr} {d0 : Nat} (h1 : x0 = (rowsOf LL).headD []) (h2 : B0 = (LL.headD ([], none, 0)).2.1) (h3 : d0 = (LL.headD ([], none, 0)).2.2) (h : 0 < LL.length) : LL[0]? = some (x0, B0, d0) := by
 cases LL with
 | nil => simp at h
 | cons a r => subst h1 h2 h3; rfl
set_option maxRecDepth 100000 in
set_option maxHeartbeats 4000000 in
theorem VoiceTrue_any (D : Option Addr) (n d : Nat) (l : List Int) (w : World) (hl : Rd w w.heap.size 1 D n (ic l)) (hm : n ≤ 9223372036854775807) :
   Calls Try.prog 9 #[.slice D n d] w fun e w' => e = .returned (.bool true) ∧ Below w.heap.size w w' := by
 have hll := hl.len1
 obtain ⟨bI, oI, SI⟩ := Sp.old hl
 refine px_enter noEx Try.func9 rfl 257 rfl [.slice D n d] rfl rfl (Mem.init w _) ?_
 intro ac wc T M
 refine wp_seq ?_
 refine wp_region_lit ?_
 refine lq T (rn_assign rfl evc) ?_; clear T ac; intro ac T
 refine wpList_nil ?_
 replace T := T.pick [1] rfl
 refine nm_then ?_
 refine wp_seq ?_
 refine wp_region_lit ?_
 refine lq T (rn_move rfl (T.ev 0 rfl)) ?_; clear T ac; intro ac T
 refine l_w rfl ?_; intro K hK
 refine ow_call (first := []) (cap := []) T rfl rfl rfl rfl evf (.cons (T.ev 0 rfl) .nil) Try.func12 rfl rfl ?_
 refine Calls.mono (newPot_any _ _ _ l _ (SI.rd M (List.nil_sublist _)) (by omega)) ?_
 clear T
 rintro e wc ⟨bpu1, su1, hsu1, rfl, N⟩
 intro ac T
 replace M := M.join N; clear N
 replace M := M.mask [true] rfl
 refine sh_out hK _ _ ?_; clear hK K
 refine lq T (rn_assign rfl (T.ev 0 rfl)) ?_; clear T ac; intro ac T
 refine wpList_nil ?_
 replace T := T.pick [0] rfl
 refine nm_then ?_
 refine wp_seq ?_
 refine wp_region_lit ?_
 refine lq T (rn_move rfl (T.ev 0 rfl)) ?_; clear T ac; intro ac T
 refine l_w rfl ?_; intro K hK
 refine ow_call (first := []) (cap := []) T rfl rfl rfl rfl evf (.cons (T.ev 0 rfl) (.cons evc (.cons evc (.cons evc .nil)))) Try.func18 rfl rfl ?_
 refine Calls.mono (boxOf_any _ bpu1 4 4 3 _ (by omega) (by omega) (by omega) (M.nth 0 rfl) hsu1) ?_
 clear T
 rintro e wc ⟨bu2, Au2, cu2, Bu2, du2, su2, Iu2, rfl, hmu2, hsu2, SAu2, SBu2, N⟩
 intro ac T
 obtain ⟨b1u2, o1u2, SAu2⟩ := SAu2
 replace SAu2 := SAu2 w noEx
 obtain ⟨b2u2, o2u2, SBu2⟩ := SBu2
 replace SBu2 := SBu2 w noEx
 replace M := (M.joinW .head N).swapI
 clear N
 replace M : Mem w noEx wc ((bpu1, .cells [.int .u64 su2]) :: Iu2) := M
 have hgu2 := hmu2.good
 have nlu2 := hgu2.lows.1
 have nhu2 := hgu2.highs.1
 have hstu2 := step_bd (notes := 3) hmu2.law.step hmu2.note
 have hnou2 := hmu2.note
 have ⟨hfu2, hzu2, hpu2, hqu2⟩ := hmu2.law
 dsimp only at hstu2 hfu2 hpu2 hqu2
 refine sh_out hK _ _ ?_; clear hK K
 refine l_w rfl ?_; intro K hK
 refine ow_al M T rfl rfl rfl rfl ?_; clear M T; intro g1 wc ac M T
 refine sh_out hK _ _ ?_; clear hK K
 refine l_w rfl ?_; intro K hK
 refine ow_stO M T rfl rfl (T.ev 0 rfl) (T.ev 1 rfl) rfl .head rfl (by simp) rfl (by kernel_rfl) ?_; clear M T; intro wc ac M T
 refine sh_out hK _ _ ?_; clear hK K
 refine wpList_nil ?_
 replace T := T.pick [0, 3] rfl
 refine nm_then ?_
 refine wp_seq ?_
 refine wp_region_lit ?_
 refine lq (v := (.pointer (some ⟨g1, 0, none⟩))) T (rn_fieldAddr (off := 0) rfl (T.ev 0 rfl) (fun _ _ _ => by kernel_rfl)) ?_; clear T ac; intro ac T
 refine lq T (rn_rowO (Mem.nth M 0 rfl) rfl (T.ev 0 rfl) rfl) ?_; clear T ac; intro ac T
 refine lq (v := (.pointer (some ⟨g1, 4, none⟩))) T (rn_fieldAddr (off := 4) rfl (T.ev 2 rfl) (fun _ _ _ => by kernel_rfl)) ?_; clear T ac; intro ac T
 refine lq T (rn_one (Mem.nth M 0 rfl) rfl (T.ev 0 rfl) rfl) ?_; clear T ac; intro ac T
 refine l_w rfl ?_; intro K hK
 refine ow_call (first := []) (cap := []) T rfl rfl rfl rfl evf (.cons (T.ev 2 rfl) (.cons (T.ev 0 rfl) .nil)) Try.func41 rfl rfl ?_
 refine Calls.mono (Due_good bu2.law bu2.note _ hgu2.law (by omega)) ?_
 clear T
 rintro e wc ⟨rfl, hb⟩
 intro ac T
 replace M := M.call hb; clear hb
 refine sh_out hK _ _ ?_; clear hK K
 refine lq T (rn_move rfl (T.ev 0 rfl)) ?_; clear T ac; intro ac T
 refine lq T (rn_extract rfl (T.ev 0 rfl) rfl) ?_; clear T ac; intro ac T
 refine lq T (rn_extract rfl (T.ev 1 rfl) rfl) ?_; clear T ac; intro ac T
 refine lq T (rn_assign rfl (T.ev 1 rfl)) ?_; clear T ac; intro ac T
 refine lq T (rn_assign rfl (T.ev 1 rfl)) ?_; clear T ac; intro ac T
 refine wpList_nil ?_
 replace T := T.pick [0, 1, 10, 11] rfl
 refine nm_then ?_
 refine wp_seq ?_
 refine wp_region_lit ?_
 refine lq T (rn_rowO (Mem.nth M 0 rfl) rfl (T.ev 2 rfl) rfl) ?_; clear T ac; intro ac T
 refine l_w rfl ?_; intro K hK
 refine ow_call (first := []) (cap := []) T rfl rfl rfl rfl evf (.cons (T.ev 0 rfl) .nil) Try.func29 rfl rfl ?_
 refine Calls.mono (Pairs_good bu2 _ _ _ _ _ (SAu2.rd M (.cons _ (.cons _ (List.Sublist.refl _)))) (SBu2.rd M (.cons _ (.cons _ (List.Sublist.refl _)))) hgu2) ?_
 clear T
 rintro e wc ⟨Au4, cu4, LLu4, Iu4, rfl, hLu4, Su4, Eu4, N⟩
 intro ac T
 obtain ⟨bu4, ou4, Su4⟩ := Su4
 replace Su4 := Su4 w noEx
 have hnu4 : LLu4.length = bu2.lows.length := by rw [← (tableP_len bu2).1, ← hLu4, List.length_map]
 replace M := (M.join N).swapI
 clear N
 replace M : Mem w noEx wc ((g1, .cells [.int .i64 bu2.first, .int .i64 bu2.step, .int .i64 bu2.span, .int .i64 bu2.press, .int .i64 bu2.note, .slice Au2 bu2.lows.length cu2, .slice Bu2 bu2.highs.length du2, .int .i64 bu2.t0, .int .i64 bu2.t1, .int .i64 bu2.r0, .int .i64 bu2.r1, .int .i64 bu2.u0, .int .i64 bu2.u1, .int .i64 bu2.d0, .int .i64 bu2.d1, .int .i64 bu2.a0, .int .i64 bu2.a1, .int .i64 bu2.b0, .int .i64 bu2.b1, .int .i64 bu2.le, .int .i64 bu2.me]) :: (bpu1, .cells [.int .u64 su2]) :: (Iu2 ++ Iu4)) := M
 refine sh_out hK _ _ ?_; clear hK K
 refine lq T (rn_move rfl (T.ev 0 rfl)) ?_; clear T ac; intro ac T
 refine lq T (rn_extract rfl (T.ev 0 rfl) rfl) ?_; clear T ac; intro ac T
 refine lq T (rn_extract rfl (T.ev 1 rfl) rfl) ?_; clear T ac; intro ac T
 refine lq T (rn_assign rfl (T.ev 1 rfl)) ?_; clear T ac; intro ac T
 refine lq T (rn_assign rfl (T.ev 1 rfl)) ?_; clear T ac; intro ac T
 refine wpList_nil ?_
 replace T := T.pick [0, 1, 7, 8, 9, 10] rfl
 refine nm_then ?_
 refine wp_seq ?_
 refine wp_seq ?_
 refine wp_region_lit ?_
 refine lq T (rn_move rfl (T.ev 2 rfl)) ?_; clear T ac; intro ac T
 refine lq (v := (.bool false)) T (rn_neqof (rn_neq rfl (T.ev 0 rfl) evc) (by simp)) ?_; clear T ac; intro ac T
 refine lq T (rn_move rfl (T.ev 0 rfl)) ?_; clear T ac; intro ac T
 refine lw T (wanted_yes rfl rfl (T.ev 0 rfl) rfl) (rn_move rfl (T.ev 3 rfl)) ?_; clear T ac; intro ac T
 refine lw (v := (.bool false)) T (wanted_yes rfl rfl (T.ev 1 rfl) rfl) (rn_neqof (rn_neq rfl (T.ev 0 rfl) evc) (by simp)) ?_; clear T ac; intro ac T
 refine lq T (rn_pick0 rfl (T.ev 2 rfl) rfl (T.ev 0 rfl)) ?_; clear T ac; intro ac T
 refine lq T (rn_move rfl (T.ev 0 rfl)) ?_; clear T ac; intro ac T
 refine lw T (wanted_yes rfl rfl (T.ev 0 rfl) rfl) (rn_move rfl (T.ev 8 rfl)) ?_; clear T ac; intro ac T
 refine lw T (wanted_yes rfl rfl (T.ev 1 rfl) rfl) (rn_lenS rfl Try.underlying62 (T.ev 0 rfl)) ?_; clear T ac; intro ac T
 refine lw (v := (.pointer (some ⟨g1, 5, none⟩))) T (wanted_yes rfl rfl (T.ev 2 rfl) rfl) (rn_fieldAddr (off := 5) rfl (T.ev 13 rfl) (fun _ _ _ => by kernel_rfl)) ?_; clear T ac; intro ac T
 refine lw T (wanted_yes rfl rfl (T.ev 3 rfl) rfl) (rn_one (Mem.nth M 0 rfl) rfl (T.ev 0 rfl) rfl) ?_; clear T ac; intro ac T
 refine lw T (wanted_yes rfl rfl (T.ev 4 rfl) rfl) (rn_lenS rfl Try.underlying38 (T.ev 0 rfl)) ?_; clear T ac; intro ac T
 refine lw T (wanted_yes rfl rfl (T.ev 5 rfl) rfl) (rn_neq rfl (T.ev 3 rfl) (T.ev 0 rfl)) ?_; clear T ac; intro ac T
 refine lq T (rn_pick0 rfl (T.ev 6 rfl) rfl (T.ev 0 rfl)) ?_; clear T ac; intro ac T
 refine wpList_nil ?_
 replace T := T.pick [0, 15, 17, 18, 19] rfl
 refine nm_then ?_
 refine wp_cond_false ((T.ev 0 rfl).trans (congrArg Value.bool (by rw [show (decide (((LLu4.length : Nat) : Int) = ((bu2.lows.length : Nat) : Int))) = true from (decide_eq_true (by omega))]; rfl))) ?_
 refine wp_skip ?_
 refine nm_then ?_
 refine wp_seq ?_
 refine wp_seq ?_
 refine wp_region_lit ?_
 refine lq T (rn_assign rfl evc) ?_; clear T ac; intro ac T
 refine wpList_nil ?_
 replace T := T.pick [0, 2, 3, 4, 5] rfl
 refine nm_then ?_
 refine wp_block ?_
 refine wp_loop_n (fun mz ac wc => ∃ (i : Nat) (s1 : Int), mz = bu2.lows.length - i ∧ (i ≤ bu2.lows.length) ∧ (u64ok s1) ∧ Tm ac 257 [(3, .pointer (some ⟨bpu1, 0, none⟩)), (4, .pointer (some ⟨g1, 0, none⟩)), (5, .int .i64 (bu2.first + bu2.step * bu2.note)), (7, .slice Au4 LLu4.length cu4), (9, .int .i64 (i : Int))] ∧ Mem w noEx wc ((g1, .cells [.int .i64 bu2.first, .int .i64 bu2.step, .int .i64 bu2.span, .int .i64 bu2.press, .int .i64 bu2.note, .slice Au2 bu2.lows.length cu2, .slice Bu2 bu2.highs.length du2, .int .i64 bu2.t0, .int .i64 bu2.t1, .int .i64 bu2.r0, .int .i64 bu2.r1, .int .i64 bu2.u0, .int .i64 bu2.u1, .int .i64 bu2.d0, .int .i64 bu2.d1, .int .i64 bu2.a0, .int .i64 bu2.a1, .int .i64 bu2.b0, .int .i64 bu2.b1, .int .i64 bu2.le, .int .i64 bu2.me]) :: (bpu1, .cells [.int .u64 s1]) :: (Iu2 ++ Iu4))) ?_ ?_
 ·exact ⟨_, 0, _, rfl, (Nat.zero_le _), hsu2, T.pick [4, 3, 2, 1, 0] rfl, M.mask [true, true] rfl⟩
 clear T M
 rintro mz ac wc ⟨i, s1, hmm1, hi, hs1, T, M⟩
 refine wp_seq ?_
 refine wp_seq ?_
 refine wp_region_lit ?_
 refine lq T (rn_move rfl (T.ev 4 rfl)) ?_; clear T ac; intro ac T
 refine lq (v := (.pointer (some ⟨g1, 5, none⟩))) T (rn_fieldAddr (off := 5) rfl (T.ev 2 rfl) (fun _ _ _ => by kernel_rfl)) ?_; clear T ac; intro ac T
 refine lq T (rn_one (Mem.nth M 0 rfl) rfl (T.ev 0 rfl) rfl) ?_; clear T ac; intro ac T
 refine lq T (rn_lenS rfl Try.underlying38 (T.ev 0 rfl)) ?_; clear T ac; intro ac T
 refine lq T (rn_lss rfl (T.ev 3 rfl) (T.ev 0 rfl)) ?_; clear T ac; intro ac T
 refine wpList_nil ?_
 replace T := T.pick [0, 5, 6, 7, 8, 9] rfl
 refine nm_then ?_
 refine wp_if (T.ev 0 rfl) ?_ ?_
 ·intro h1
  have nlo4 := hgu2.lows.1
  have nhi5 := hgu2.highs.1
  obtain ⟨x, hkx, -⟩ := sc_next (l := bu2.lows) (k := i) (by omega)
  have gx := hgu2.lows.2 x (List.mem_of_getElem? hkx)
  have ⟨gx1, gx2⟩ := gx
  obtain ⟨⟨rw, Br, dr⟩, hkr⟩ : ∃ x, LLu4[i]? = some x := ⟨_, List.getElem?_eq_getElem (by omega)⟩
  have hrl : rw.length = bu2.highs.length := (tableP_len bu2).2 rw (by rw [← hLu4]; exact List.mem_map.2 ⟨_, List.mem_of_getElem? hkr, rfl⟩)
  obtain ⟨br, orr, hSr⟩ := Eu4 _ (List.mem_of_getElem? hkr)
  have Sr := hSr w noEx
  dsimp only at Sr
  refine wp_skip ?_
  refine nm_then ?_
  refine wp_seq ?_
  refine wp_block ?_
  refine wp_seq ?_
  refine wp_seq ?_
  refine g_start2 M (M.mask [true, true] rfl) 9 (by kernel_rfl) rfl (by kernel_rfl) ?_
  clear M; intro wc M
  refine gq T 0 1 rfl (fun _ _ _ _ _ => (rn_move rfl (T.ev 4 rfl))) ?_; clear T ac; intro ac T
  refine gq T 1 3 rfl (fun _ _ _ _ _ => (rn_move rfl (T.ev 6 rfl))) ?_; clear T ac; intro ac T
  refine gq T 2 7 rfl (fun _ _ _ _ _ => (rn_indexAddr (size := 1) i rfl (T.ev 1 rfl) (T.ev 0 rfl) ⟨_, Try.underlying62, by kernel_rfl⟩ rfl (by omega) (Su4.at0 (by omega)))) ?_; clear T ac; intro ac T
  refine gq (v := (.slice Br rw.length dr)) T 3 15 rfl (fun B w' hD hl hS => (rn_cell (Sp.lc0 Su4 (show Mem w noEx w' _ from hS) (.cons _ (.cons _ (List.sublist_append_right _ _))) hkr) rfl (T.ev 0 rfl))) ?_; clear T ac; intro ac T
  refine gq T 4 31 rfl (fun _ _ _ _ _ => (rn_lenS rfl Try.underlying22 (T.ev 0 rfl))) ?_; clear T ac; intro ac T
  refine gq (v := (.pointer (some ⟨g1, 6, none⟩))) T 5 63 rfl (fun _ _ _ _ _ => (rn_fieldAddr (off := 6) rfl (T.ev 7 rfl) (fun _ _ _ => by kernel_rfl))) ?_; clear T ac; intro ac T
  refine gq T 6 127 rfl (fun B w' hD hl hS => (rn_one (Mem.nth (show Mem w noEx w' _ from hS) 0 rfl) rfl (T.ev 0 rfl) rfl)) ?_; clear T ac; intro ac T
  refine gq T 7 255 rfl (fun _ _ _ _ _ => (rn_lenS rfl Try.underlying38 (T.ev 0 rfl))) ?_; clear T ac; intro ac T
  refine gq T 8 511 rfl (fun _ _ _ _ _ => (rn_neq rfl (T.ev 3 rfl) (T.ev 0 rfl))) ?_; clear T ac; intro ac T
  refine g_done (by kernel_rfl) ?_
  replace T := T.pick [0, 10, 11, 12, 13, 14] rfl
  refine nm_then ?_
  refine wp_cond_false ((T.ev 0 rfl).trans (congrArg Value.bool (by rw [show (decide (((rw.length : Nat) : Int) = ((bu2.highs.length : Nat) : Int))) = true from (decide_eq_true (by omega))]; rfl))) ?_
  refine wp_skip ?_
  refine nm_then ?_
  refine wp_seq ?_
  refine wp_region_lit ?_
  refine lq T (rn_assign rfl evc) ?_; clear T ac; intro ac T
  refine wpList_nil ?_
  replace T := T.pick [0, 2, 3, 4, 5, 6] rfl
  refine nm_then ?_
  refine wp_block ?_
  refine wp_loop_n (fun mz ac wc => ∃ (k : Nat) (s2 : Int), mz = bu2.highs.length - k ∧ (k ≤ bu2.highs.length) ∧ (u64ok s2) ∧ Tm ac 257 [(3, .pointer (some ⟨bpu1, 0, none⟩)), (4, .pointer (some ⟨g1, 0, none⟩)), (5, .int .i64 (bu2.first + bu2.step * bu2.note)), (7, .slice Au4 LLu4.length cu4), (9, .int .i64 (i : Int)), (10, .int .i64 (k : Int))] ∧ Mem w noEx wc ((g1, .cells [.int .i64 bu2.first, .int .i64 bu2.step, .int .i64 bu2.span, .int .i64 bu2.press, .int .i64 bu2.note, .slice Au2 bu2.lows.length cu2, .slice Bu2 bu2.highs.length du2, .int .i64 bu2.t0, .int .i64 bu2.t1, .int .i64 bu2.r0, .int .i64 bu2.r1, .int .i64 bu2.u0, .int .i64 bu2.u1, .int .i64 bu2.d0, .int .i64 bu2.d1, .int .i64 bu2.a0, .int .i64 bu2.a1, .int .i64 bu2.b0, .int .i64 bu2.b1, .int .i64 bu2.le, .int .i64 bu2.me]) :: (bpu1, .cells [.int .u64 s2]) :: (Iu2 ++ Iu4))) ?_ ?_
  ·exact ⟨_, 0, _, rfl, (Nat.zero_le _), hs1, T.pick [1, 2, 3, 4, 5, 0] rfl, M.mask [true, true] rfl⟩
  clear T M
  rintro mz ac wc ⟨k, s2, hmm2, hk, hs2, T, M⟩
  refine wp_seq ?_
  refine wp_seq ?_
  refine wp_region_lit ?_
  refine lq T (rn_move rfl (T.ev 5 rfl)) ?_; clear T ac; intro ac T
  refine lq (v := (.pointer (some ⟨g1, 6, none⟩))) T (rn_fieldAddr (off := 6) rfl (T.ev 2 rfl) (fun _ _ _ => by kernel_rfl)) ?_; clear T ac; intro ac T
  refine lq T (rn_one (Mem.nth M 0 rfl) rfl (T.ev 0 rfl) rfl) ?_; clear T ac; intro ac T
  refine lq T (rn_lenS rfl Try.underlying38 (T.ev 0 rfl)) ?_; clear T ac; intro ac T
  refine lq T (rn_lss rfl (T.ev 3 rfl) (T.ev 0 rfl)) ?_; clear T ac; intro ac T
  refine wpList_nil ?_
  replace T := T.pick [0, 5, 6, 7, 8, 9, 10] rfl
  refine nm_then ?_
  refine wp_if (T.ev 0 rfl) ?_ ?_
  ·intro h2
   obtain ⟨y, hky, -⟩ := sc_next (l := bu2.highs) (k := k) (by omega)
   have gy := hgu2.highs.2 y (List.mem_of_getElem? hky)
   have ⟨gy1, gy2⟩ := gy
   obtain ⟨tv, hkt, -⟩ := ic_next (l := rw) (k := k) (by omega)
   have htv := table_at hLu4 hkx hky hkr hkt
   refine wp_skip ?_
   refine nm_then ?_
   refine wp_seq ?_
   refine wp_block ?_
   refine wp_seq ?_
   refine g_start2 M (M.mask [true, false] rfl) 18 (by kernel_rfl) rfl (by kernel_rfl) ?_
   clear M; intro wc M
   refine g_addG 6 M ?_
   refine g_have (fun ac wc => ∃ (tur15_6 : Int), ∃ (rur15_6 : Int), ∃ (sur15_6 : Int), ∃ (tur15_13 : Int), ∃ (rur15_13 : Int), ∃ (sur15_13 : Int), (x.t0 ≤ tur15_6 ∧ tur15_6 ≤ x.t1 ∧ x.s0 ≤ rur15_6 ∧ rur15_6 ≤ x.s1) ∧ (u64ok sur15_6) ∧ (y.t0 ≤ tur15_13 ∧ tur15_13 ≤ y.t1 ∧ y.s0 ≤ rur15_13 ∧ rur15_13 ≤ y.s1) ∧ (u64ok sur15_13) ∧ ∃ (gr15_14 gr15_15 : Nat), Tm ac 257 [(93, .agg #[.int .i64 tur15_13, .int .i64 rur15_13]), (11, .pointer (some ⟨gr15_14, 0, none⟩)), (12, .pointer (some ⟨gr15_15, 0, none⟩)), (86, .agg #[.int .i64 tur15_6, .int .i64 rur15_6]), (92, .agg #[.int .i64 y.t0, .int .i64 y.t1, .int .i64 y.s0, .int .i64 y.s1]), (91, .pointer (some ⟨b2u2, o2u2 + k * 4, none⟩)), (90, .int .i64 (k : Int)), (89, .slice Bu2 bu2.highs.length du2), (88, .pointer (some ⟨g1, 6, none⟩)), (87, .pointer (some ⟨bpu1, 0, none⟩)), (85, .agg #[.int .i64 x.t0, .int .i64 x.t1, .int .i64 x.s0, .int .i64 x.s1]), (84, .pointer (some ⟨b1u2, o1u2 + i * 4, none⟩)), (83, .int .i64 (i : Int)), (82, .slice Au2 bu2.lows.length cu2), (81, .pointer (some ⟨g1, 5, none⟩)), (80, .pointer (some ⟨bpu1, 0, none⟩)), (77, .bool (decide ((k : Int) < ((bu2.highs.length : Nat) : Int)))), (3, .pointer (some ⟨bpu1, 0, none⟩)), (4, .pointer (some ⟨g1, 0, none⟩)), (5, .int .i64 (bu2.first + bu2.step * bu2.note)), (7, .slice Au4 LLu4.length cu4), (9, .int .i64 (i : Int)), (10, .int .i64 (k : Int))] ∧ Mem w noEx wc ((gr15_14, .cells [.int .i64 0, .int .i64 0]) :: (gr15_15, .cells [.int .i64 0, .int .i64 0]) :: (g1, .cells [.int .i64 bu2.first, .int .i64 bu2.step, .int .i64 bu2.span, .int .i64 bu2.press, .int .i64 bu2.note, .slice Au2 bu2.lows.length cu2, .slice Bu2 bu2.highs.length du2, .int .i64 bu2.t0, .int .i64 bu2.t1, .int .i64 bu2.r0, .int .i64 bu2.r1, .int .i64 bu2.u0, .int .i64 bu2.u1, .int .i64 bu2.d0, .int .i64 bu2.d1, .int .i64 bu2.a0, .int .i64 bu2.a1, .int .i64 bu2.b0, .int .i64 bu2.b1, .int .i64 bu2.le, .int .i64 bu2.me]) :: (bpu1, .cells [.int .u64 sur15_13]) :: (Iu2 ++ Iu4))) (pbits 18 65535) 2 ?_ ?_
   ·clear T M
    rintro ac wc ⟨tur15_6, rur15_6, sur15_6, tur15_13, rur15_13, sur15_13, hxur15_6, hsur15_6, hxur15_13, hsur15_13, gr15_14, gr15_15, T, M⟩
    refine gw 16 131071 ?_; intro K hK
    refine ow_stO M T rfl rfl (T.ev 1 rfl) (T.ev 3 rfl) rfl .head rfl (by simp) rfl (by kernel_rfl) ?_; clear M T; intro wc ac M T
    refine sh_out hK _ _ (MA.mk (fun h => (no_of (by kernel_rfl) h).elim) (M.mask [false, false, true, false] rfl)) ?_; clear hK K
    refine gw 17 262143 ?_; intro K hK
    refine ow_stO M T rfl rfl (T.ev 2 rfl) (T.ev 0 rfl) rfl (.tail .head) rfl (by simp) rfl (by kernel_rfl) ?_; clear M T; intro wc ac M T
    refine sh_out hK _ _ (MA.mk (fun h => (no_of (by kernel_rfl) h).elim) (M.mask [false, false, true, false] rfl)) ?_; clear hK K
    refine g_done (by kernel_rfl) ?_
    replace T := T.pick [1, 2, 17, 18, 19, 20, 21, 22] rfl
    refine nm_then ?_
    refine wp_seq ?_
    refine wp_region_lit ?_
    refine lq T (rn_rowO (Mem.nth M 2 rfl) rfl (T.ev 3 rfl) rfl) ?_; clear T ac; intro ac T
    refine lq T (rn_move rfl (T.ev 7 rfl)) ?_; clear T ac; intro ac T
    refine lq T (rn_move rfl (T.ev 9 rfl)) ?_; clear T ac; intro ac T
    refine l_w rfl ?_; intro K hK
    refine ow_call (first := []) (cap := []) T rfl rfl rfl rfl evf (.cons (T.ev 2 rfl) (.cons (T.ev 1 rfl) (.cons (T.ev 0 rfl) .nil))) Try.func21 rfl rfl ?_
    refine Calls.mono (Beat_at bu2 _ _ _ _ i k x y _ (SAu2.rd M (.cons _ (.cons _ (.cons _ (.cons _ (subL (List.Sublist.refl _))))))) (SBu2.rd M (.cons _ (.cons _ (.cons _ (.cons _ (subL (List.Sublist.refl _))))))) hgu2 hkx hky) ?_
    clear T
    rintro e wc ⟨Au5, cu5, Iu5, rfl, Su5, N⟩
    intro ac T
    obtain ⟨bu5, ou5, Su5⟩ := Su5
    replace Su5 := Su5 w noEx
    obtain ⟨lbu5, hlbu5⟩ : ∃ q, q = beatsL bu2.law x y := ⟨_, rfl⟩
    rw [← hlbu5] at Su5
    have hldu5 : lbu5.length = (bu2.press + 1).toNat := by rw [hlbu5, beatsL_length]
    have hlcu5 : ((lbu5.length : Nat) : Int) = bu2.press + 1 := by omega
    replace M := (M.join N).swapI
    clear N
    replace M : Mem w noEx wc ((gr15_14, .cells [.int .i64 tur15_6, .int .i64 rur15_6]) :: (gr15_15, .cells [.int .i64 tur15_13, .int .i64 rur15_13]) :: (g1, .cells [.int .i64 bu2.first, .int .i64 bu2.step, .int .i64 bu2.span, .int .i64 bu2.press, .int .i64 bu2.note, .slice Au2 bu2.lows.length cu2, .slice Bu2 bu2.highs.length du2, .int .i64 bu2.t0, .int .i64 bu2.t1, .int .i64 bu2.r0, .int .i64 bu2.r1, .int .i64 bu2.u0, .int .i64 bu2.u1, .int .i64 bu2.d0, .int .i64 bu2.d1, .int .i64 bu2.a0, .int .i64 bu2.a1, .int .i64 bu2.b0, .int .i64 bu2.b1, .int .i64 bu2.le, .int .i64 bu2.me]) :: (bpu1, .cells [.int .u64 sur15_13]) :: (Iu2 ++ Iu4 ++ Iu5)) := M
    rw [← hlbu5] at T
    refine sh_out hK _ _ ?_; clear hK K
    refine lq T (rn_move rfl (T.ev 0 rfl)) ?_; clear T ac; intro ac T
    refine lq T (rn_extract rfl (T.ev 0 rfl) rfl) ?_; clear T ac; intro ac T
    refine lq T (rn_extract rfl (T.ev 1 rfl) rfl) ?_; clear T ac; intro ac T
    refine lq T (rn_assign rfl (T.ev 1 rfl)) ?_; clear T ac; intro ac T
    refine lq T (rn_assign rfl (T.ev 1 rfl)) ?_; clear T ac; intro ac T
    refine wpList_nil ?_
    replace T := T.pick [0, 1, 9, 10, 11, 12, 13, 14, 15, 16] rfl
    refine nm_then ?_
    refine wp_seq ?_
    refine wp_region_lit ?_
    refine lq T (rn_rowO (Mem.nth M 2 rfl) rfl (T.ev 5 rfl) rfl) ?_; clear T ac; intro ac T
    refine lq T (rn_move rfl (T.ev 9 rfl)) ?_; clear T ac; intro ac T
    refine lq T (rn_move rfl (T.ev 11 rfl)) ?_; clear T ac; intro ac T
    refine l_w rfl ?_; intro K hK
    refine ow_call (first := []) (cap := []) T rfl rfl rfl rfl evf (.cons (T.ev 2 rfl) (.cons (T.ev 1 rfl) (.cons (T.ev 0 rfl) .nil))) Try.func22 rfl rfl ?_
    refine Calls.mono (Keeps_at bu2 _ _ _ _ i k x y _ (SAu2.rd M (.cons _ (.cons _ (.cons _ (.cons _ (subL (subL (List.Sublist.refl _)))))))) (SBu2.rd M (.cons _ (.cons _ (.cons _ (.cons _ (subL (subL (List.Sublist.refl _)))))))) hgu2 hkx hky) ?_
    clear T
    rintro e wc ⟨rfl, hb⟩
    intro ac T
    replace M := M.call hb; clear hb
    obtain ⟨kpu6, hkpu6⟩ : ∃ q, q = keepsP bu2.law bu2.due [x, y] := ⟨_, rfl⟩
    rw [← hkpu6] at T
    refine sh_out hK _ _ ?_; clear hK K
    refine lq T (rn_move rfl (T.ev 0 rfl)) ?_; clear T ac; intro ac T
    refine lq T (rn_extract rfl (T.ev 0 rfl) rfl) ?_; clear T ac; intro ac T
    refine lq T (rn_extract rfl (T.ev 1 rfl) rfl) ?_; clear T ac; intro ac T
    refine lq T (rn_assign rfl (T.ev 1 rfl)) ?_; clear T ac; intro ac T
    refine lq T (rn_assign rfl (T.ev 1 rfl)) ?_; clear T ac; intro ac T
    refine wpList_nil ?_
    replace T := T.pick [0, 1, 9, 10, 11, 12, 13, 14, 15, 16, 17, 18] rfl
    refine nm_then ?_
    refine wp_seq ?_
    refine wp_seq ?_
    refine wp_region_lit ?_
    refine lq T (rn_move rfl (T.ev 2 rfl)) ?_; clear T ac; intro ac T
    refine lq (v := (.bool false)) T (rn_neqof (rn_neq rfl (T.ev 0 rfl) evc) (by simp)) ?_; clear T ac; intro ac T
    refine lq T (rn_move rfl (T.ev 0 rfl)) ?_; clear T ac; intro ac T
    refine lw T (wanted_yes rfl rfl (T.ev 0 rfl) rfl) (rn_move rfl (T.ev 3 rfl)) ?_; clear T ac; intro ac T
    refine lw (v := (.bool false)) T (wanted_yes rfl rfl (T.ev 1 rfl) rfl) (rn_neqof (rn_neq rfl (T.ev 0 rfl) evc) (by simp)) ?_; clear T ac; intro ac T
    refine lq T (rn_pick0 rfl (T.ev 2 rfl) rfl (T.ev 0 rfl)) ?_; clear T ac; intro ac T
    refine lq T (rn_move rfl (T.ev 0 rfl)) ?_; clear T ac; intro ac T
    refine lw T (wanted_yes rfl rfl (T.ev 0 rfl) rfl) (rn_move rfl (T.ev 8 rfl)) ?_; clear T ac; intro ac T
    refine lw T (wanted_yes rfl rfl (T.ev 1 rfl) rfl) (rn_move rfl (T.ev 17 rfl)) ?_; clear T ac; intro ac T
    refine lw T (wanted_yes rfl rfl (T.ev 2 rfl) rfl) (rn_move rfl (T.ev 19 rfl)) ?_; clear T ac; intro ac T
    refine lw T (wanted_yes rfl rfl (T.ev 3 rfl) rfl) (rn_indexAddr (size := 1) i rfl (T.ev 1 rfl) (T.ev 0 rfl) ⟨_, Try.underlying62, by kernel_rfl⟩ rfl (by omega) (Su4.at0 (by omega))) ?_; clear T ac; intro ac T
    refine lw (v := (.slice Br rw.length dr)) T (wanted_yes rfl rfl (T.ev 4 rfl) rfl) (rn_cell (Sp.lc0 Su4 M (.cons _ (.cons _ (.cons _ (.cons _ (subL (List.sublist_append_right _ _)))))) hkr) rfl (T.ev 0 rfl)) ?_; clear T ac; intro ac T
    refine lw T (wanted_yes rfl rfl (T.ev 5 rfl) rfl) (rn_move rfl (T.ev 23 rfl)) ?_; clear T ac; intro ac T
    refine lw T (wanted_yes rfl rfl (T.ev 6 rfl) rfl) (rn_indexAddr (size := 1) k rfl (T.ev 1 rfl) (T.ev 0 rfl) ⟨_, Try.underlying22, by kernel_rfl⟩ rfl (by omega) (Sr.at0 (by omega))) ?_; clear T ac; intro ac T
    refine lw T (wanted_yes rfl rfl (T.ev 7 rfl) rfl) (rn_cell (Sp.ic0 Sr M (.cons _ (.cons _ (.cons _ (.cons _ (subL (List.sublist_append_right _ _)))))) hkt) rfl (T.ev 0 rfl)) ?_; clear T ac; intro ac T
    refine lw T (wanted_yes rfl rfl (T.ev 8 rfl) rfl) (rn_neq rfl (T.ev 7 rfl) (T.ev 0 rfl)) ?_; clear T ac; intro ac T
    refine lq T (rn_pick0 rfl (T.ev 9 rfl) rfl (T.ev 0 rfl)) ?_; clear T ac; intro ac T
    refine lq T (rn_move rfl (T.ev 0 rfl)) ?_; clear T ac; intro ac T
    refine lw T (wanted_yes rfl rfl (T.ev 0 rfl) (by rw [show (decide (kpu6 = tv)) = true from (decide_eq_true (by rw [htv]; exact hkpu6))]; rfl)) (rn_move rfl (T.ev 21 rfl)) ?_; clear T ac; intro ac T
    refine lw T (wanted_yes rfl rfl (T.ev 1 rfl) (by rw [show (decide (kpu6 = tv)) = true from (decide_eq_true (by rw [htv]; exact hkpu6))]; rfl)) (rn_lenS rfl Try.underlying50 (T.ev 0 rfl)) ?_; clear T ac; intro ac T
    refine lw (v := (.pointer (some ⟨g1, 0, none⟩))) T (wanted_yes rfl rfl (T.ev 2 rfl) (by rw [show (decide (kpu6 = tv)) = true from (decide_eq_true (by rw [htv]; exact hkpu6))]; rfl)) (rn_fieldAddr (off := 0) rfl (T.ev 27 rfl) (fun _ _ _ => by kernel_rfl)) ?_; clear T ac; intro ac T
    refine lw (v := (.pointer (some ⟨g1, 3, none⟩))) T (wanted_yes rfl rfl (T.ev 3 rfl) (by rw [show (decide (kpu6 = tv)) = true from (decide_eq_true (by rw [htv]; exact hkpu6))]; rfl)) (rn_fieldAddr (off := 3) rfl (T.ev 0 rfl) (fun _ _ _ => by kernel_rfl)) ?_; clear T ac; intro ac T
    refine lw T (wanted_yes rfl rfl (T.ev 4 rfl) (by rw [show (decide (kpu6 = tv)) = true from (decide_eq_true (by rw [htv]; exact hkpu6))]; rfl)) (rn_one (Mem.nth M 2 rfl) rfl (T.ev 0 rfl) rfl) ?_; clear T ac; intro ac T
    refine lw T (wanted_yes rfl rfl (T.ev 5 rfl) (by rw [show (decide (kpu6 = tv)) = true from (decide_eq_true (by rw [htv]; exact hkpu6))]; rfl)) (rn_add rfl (T.ev 0 rfl) evc (by omega)) ?_; clear T ac; intro ac T
    refine lw T (wanted_yes rfl rfl (T.ev 6 rfl) (by rw [show (decide (kpu6 = tv)) = true from (decide_eq_true (by rw [htv]; exact hkpu6))]; rfl)) (rn_neq rfl (T.ev 4 rfl) (T.ev 0 rfl)) ?_; clear T ac; intro ac T
    refine lq T (rn_pick0 rfl (T.ev 7 rfl) (by rw [show (decide (kpu6 = tv)) = true from (decide_eq_true (by rw [htv]; exact hkpu6))]; rfl) (T.ev 0 rfl)) ?_; clear T ac; intro ac T
    refine lq T (rn_move rfl (T.ev 0 rfl)) ?_; clear T ac; intro ac T
    refine lw T (wanted_yes rfl rfl (T.ev 0 rfl) (by rw [show (decide (((lbu5.length : Nat) : Int) = (bu2.press + 1))) = true from (decide_eq_true hlcu5)]; rfl)) (rn_move rfl (T.ev 28 rfl)) ?_; clear T ac; intro ac T
    refine lw (v := (.pointer (some ⟨g1, 0, none⟩))) T (wanted_yes rfl rfl (T.ev 1 rfl) (by rw [show (decide (((lbu5.length : Nat) : Int) = (bu2.press + 1))) = true from (decide_eq_true hlcu5)]; rfl)) (rn_fieldAddr (off := 0) rfl (T.ev 35 rfl) (fun _ _ _ => by kernel_rfl)) ?_; clear T ac; intro ac T
    refine lw T (wanted_yes rfl rfl (T.ev 2 rfl) (by rw [show (decide (((lbu5.length : Nat) : Int) = (bu2.press + 1))) = true from (decide_eq_true hlcu5)]; rfl)) (rn_rowO (Mem.nth M 2 rfl) rfl (T.ev 0 rfl) rfl) ?_; clear T ac; intro ac T
    refine lw T (wanted_yes rfl rfl (T.ev 3 rfl) (by rw [show (decide (((lbu5.length : Nat) : Int) = (bu2.press + 1))) = true from (decide_eq_true hlcu5)]; rfl)) (rn_move rfl (T.ev 38 rfl)) ?_; clear T ac; intro ac T
    refine lw T (wanted_yes rfl rfl (T.ev 4 rfl) (by rw [show (decide (((lbu5.length : Nat) : Int) = (bu2.press + 1))) = true from (decide_eq_true hlcu5)]; rfl)) (rn_rowO (Mem.nth M 0 rfl) rfl (T.ev 35 rfl) rfl) ?_; clear T ac; intro ac T
    refine lw T (wanted_yes rfl rfl (T.ev 5 rfl) (by rw [show (decide (((lbu5.length : Nat) : Int) = (bu2.press + 1))) = true from (decide_eq_true hlcu5)]; rfl)) (rn_rowO (Mem.nth M 1 rfl) rfl (T.ev 37 rfl) rfl) ?_; clear T ac; intro ac T
    refine l_w (wanted_yes rfl rfl (T.ev 6 rfl) (by rw [show (decide (((lbu5.length : Nat) : Int) = (bu2.press + 1))) = true from (decide_eq_true hlcu5)]; rfl)) ?_; intro K hK
    refine ow_call (first := []) (cap := []) T rfl rfl rfl rfl evf (.cons (T.ev 3 rfl) (.cons (T.ev 2 rfl) (.cons (T.ev 1 rfl) (.cons (T.ev 0 rfl) .nil)))) Try.func25 rfl rfl ?_
    refine Calls.mono (kkeeps_any bu2.law (bu2.first + bu2.step * bu2.note) tur15_6 rur15_6 tur15_13 rur15_13 _ (by (try dsimp only); omega) (by (try dsimp only); omega) (by (try dsimp only); omega) (by (try dsimp only); omega) (by (try dsimp only); omega) (by (try dsimp only); omega) (by (try dsimp only); omega)) ?_
    clear T
    rintro e wc ⟨rfl, hb⟩
    intro ac T
    replace M := M.call hb; clear hb
    refine sh_out hK _ _ ?_; clear hK K
    refine l_w (wanted_yes rfl rfl (T.ev 7 rfl) (by rw [show (decide (((lbu5.length : Nat) : Int) = (bu2.press + 1))) = true from (decide_eq_true hlcu5)]; rfl)) ?_; intro K hK
    refine ow_call (first := []) (cap := []) T rfl rfl rfl rfl evf (.cons (T.ev 6 rfl) (.cons (T.ev 0 rfl) .nil)) Try.func43 rfl rfl ?_
    refine Calls.mono (right_true _ (by rw [hkpu6]; exact right_keeps gx gy (by dsimp only; omega) (by unfold inQ; dsimp only; omega))) ?_
    clear T
    rintro e wc ⟨rfl, hb⟩
    intro ac T
    replace M := M.call hb; clear hb
    refine sh_out hK _ _ ?_; clear hK K
    refine lw (v := (.bool false)) T (wanted_yes rfl rfl (T.ev 8 rfl) (by rw [show (decide (((lbu5.length : Nat) : Int) = (bu2.press + 1))) = true from (decide_eq_true hlcu5)]; rfl)) (rn_neqof (rn_not rfl (T.ev 0 rfl)) (by simp)) ?_; clear T ac; intro ac T
    refine lq T (rn_pick0 rfl (T.ev 9 rfl) (by rw [show (decide (((lbu5.length : Nat) : Int) = (bu2.press + 1))) = true from (decide_eq_true hlcu5)]; rfl) (T.ev 0 rfl)) ?_; clear T ac; intro ac T
    refine wpList_nil ?_
    replace T := T.pick [0, 1, 2, 3, 4, 5, 6, 7, 8, 9, 12, 13, 14, 15, 16, 17, 18, 21, 22, 23, 24, 25, 26, 27, 28, 29, 32, 33, 40, 41, 42, 43, 44, 45, 46, 47, 48] rfl
    refine nm_then ?_
    refine wp_cond_false (T.ev 0 rfl) ?_
    refine wp_skip ?_
    refine nm_then ?_
    refine wp_seq ?_
    refine wp_region_lit ?_
    refine lq T (rn_assign rfl evc) ?_; clear T ac; intro ac T
    refine wpList_nil ?_
    replace T := T.pick [0, 2, 3, 4, 5, 6, 7, 8, 9, 10, 11, 12, 13, 14, 15, 16, 17, 18, 19, 20, 21, 22, 23, 24, 25, 26, 27, 28, 29, 30, 31, 32, 33, 34, 35, 36, 37] rfl
    refine nm_then ?_
    refine wp_block ?_
    refine wp_loop_n (fun mz ac wc => ∃ (q : Nat), mz = lbu5.length - q ∧ (q ≤ lbu5.length) ∧ Tm ac 257 [(3, .pointer (some ⟨bpu1, 0, none⟩)), (4, .pointer (some ⟨g1, 0, none⟩)), (5, .int .i64 (bu2.first + bu2.step * bu2.note)), (7, .slice Au4 LLu4.length cu4), (9, .int .i64 (i : Int)), (10, .int .i64 (k : Int)), (11, .pointer (some ⟨gr15_14, 0, none⟩)), (12, .pointer (some ⟨gr15_15, 0, none⟩)), (13, .slice Au5 lbu5.length cu5), (17, .int .i64 (q : Int)), (111, .int .i64 0), (112, .bool false), (115, .int .i64 kpu6), (116, .slice Au4 LLu4.length cu4), (117, .int .i64 (i : Int)), (118, .pointer (some ⟨bu4, ou4 + i * 1, none⟩)), (119, .slice Br rw.length dr), (120, .int .i64 (k : Int)), (121, .pointer (some ⟨br, orr + k * 1, none⟩)), (122, .int .i64 tv), (123, .bool (!(decide (kpu6 = tv)))), (126, .slice Au5 lbu5.length cu5), (127, .int .i64 ((lbu5.length : Nat) : Int)), (128, .pointer (some ⟨g1, 0, none⟩)), (129, .pointer (some ⟨g1, 3, none⟩)), (130, .int .i64 bu2.press), (131, .int .i64 (bu2.press + 1)), (132, .bool (!(decide (((lbu5.length : Nat) : Int) = (bu2.press + 1))))), (135, .int .i64 kpu6), (136, .pointer (some ⟨g1, 0, none⟩)), (137, .agg #[.int .i64 bu2.first, .int .i64 bu2.step, .int .i64 bu2.span, .int .i64 bu2.press]), (138, .int .i64 (bu2.first + bu2.step * bu2.note)), (139, .agg #[.int .i64 tur15_6, .int .i64 rur15_6]), (140, .agg #[.int .i64 tur15_13, .int .i64 rur15_13]), (141, .bool (agreeP bu2.law (bu2.first + bu2.step * bu2.note) (tur15_13 - tur15_6) (rur15_13 - rur15_6))), (142, .bool true), (143, .bool false)] ∧ Mem w noEx wc ((gr15_14, .cells [.int .i64 tur15_6, .int .i64 rur15_6]) :: (gr15_15, .cells [.int .i64 tur15_13, .int .i64 rur15_13]) :: (g1, .cells [.int .i64 bu2.first, .int .i64 bu2.step, .int .i64 bu2.span, .int .i64 bu2.press, .int .i64 bu2.note, .slice Au2 bu2.lows.length cu2, .slice Bu2 bu2.highs.length du2, .int .i64 bu2.t0, .int .i64 bu2.t1, .int .i64 bu2.r0, .int .i64 bu2.r1, .int .i64 bu2.u0, .int .i64 bu2.u1, .int .i64 bu2.d0, .int .i64 bu2.d1, .int .i64 bu2.a0, .int .i64 bu2.a1, .int .i64 bu2.b0, .int .i64 bu2.b1, .int .i64 bu2.le, .int .i64 bu2.me]) :: (bpu1, .cells [.int .u64 sur15_13]) :: (Iu2 ++ Iu4 ++ Iu5))) ?_ ?_
    ·exact ⟨_, 0, rfl, (Nat.zero_le _), T.pick [31, 32, 33, 34, 35, 36, 29, 30, 28, 0, 27, 26, 25, 24, 23, 22, 21, 20, 19, 18, 17, 16, 15, 14, 13, 12, 11, 10, 9, 8, 7, 6, 5, 4, 3, 2, 1] rfl, M.mask [true, true, true, true] rfl⟩
    clear T M
    rintro mz ac wc ⟨q, hmm3, hq, T, M⟩
    refine wp_seq ?_
    refine wp_seq ?_
    refine wp_region_lit ?_
    refine lq T (rn_move rfl (T.ev 9 rfl)) ?_; clear T ac; intro ac T
    refine lq (v := (.pointer (some ⟨g1, 0, none⟩))) T (rn_fieldAddr (off := 0) rfl (T.ev 2 rfl) (fun _ _ _ => by kernel_rfl)) ?_; clear T ac; intro ac T
    refine lq (v := (.pointer (some ⟨g1, 3, none⟩))) T (rn_fieldAddr (off := 3) rfl (T.ev 0 rfl) (fun _ _ _ => by kernel_rfl)) ?_; clear T ac; intro ac T
    refine lq T (rn_one (Mem.nth M 2 rfl) rfl (T.ev 0 rfl) rfl) ?_; clear T ac; intro ac T
    refine lq T (rn_leq rfl (T.ev 3 rfl) (T.ev 0 rfl)) ?_; clear T ac; intro ac T
    refine wpList_nil ?_
    replace T := T.pick [0, 5, 6, 7, 8, 9, 10, 11, 12, 13, 14, 15, 16, 17, 18, 19, 20, 21, 22, 23, 24, 25, 26, 27, 28, 29, 30, 31, 32, 33, 34, 35, 36, 37, 38, 39, 40, 41] rfl
    refine nm_then ?_
    refine wp_if (T.ev 0 rfl) ?_ ?_
    ·intro h3
     obtain ⟨b0, b1, hkb, -⟩ := rc_next (l := lbu5) (k := q) (by omega)
     have hbb : (b0, b1) = beatP x y (q : Int) := by rw [hlbu5, beatsL, List.getElem?_map, List.getElem?_range (by show q < (bu2.press + 1).toNat; omega)] at hkb; injection hkb with hkb; exact hkb.symm
     have hb0 : b0 = (beatP x y (q : Int)).1 := by rw [← hbb]
     have hb1 : b1 = (beatP x y (q : Int)).2 := by rw [← hbb]
     have hq3 : (q : Int) ≤ 3 := by omega
     refine wp_skip ?_
     refine nm_then ?_
     refine wp_seq ?_
     refine wp_block ?_
     refine wp_seq ?_
     refine g_start2 M (M.mask [true, true, true, true] rfl) 10 (by kernel_rfl) rfl (by kernel_rfl) ?_
     clear M; intro wc M
     refine gq T 0 1 rfl (fun _ _ _ _ _ => (rn_move rfl (T.ev 9 rfl))) ?_; clear T ac; intro ac T
     refine gq T 1 3 rfl (fun _ _ _ _ _ => (rn_move rfl (T.ev 11 rfl))) ?_; clear T ac; intro ac T
     refine gq T 2 7 rfl (fun _ _ _ _ _ => (rn_indexAddr (size := 2) q rfl (T.ev 1 rfl) (T.ev 0 rfl) ⟨_, Try.underlying50, by kernel_rfl⟩ rfl (by omega) (Su5.at0 (by omega)))) ?_; clear T ac; intro ac T
     refine gq (v := (.agg #[.int .i64 b0, .int .i64 b1])) T 3 15 rfl (fun B w' hD hl hS => (rn_rowat (Sp.rcR Su5 (show Mem w noEx w' _ from hS) (.cons _ (.cons _ (.cons _ (.cons _ (List.sublist_append_right _ _))))) hkb) rfl (T.ev 0 rfl) rfl)) ?_; clear T ac; intro ac T
     refine gq T 4 31 rfl (fun B w' hD hl hS => (rn_rowO (Mem.nth (show Mem w noEx w' _ from hS) 0 rfl) rfl (T.ev 11 rfl) rfl)) ?_; clear T ac; intro ac T
     refine gq T 5 63 rfl (fun B w' hD hl hS => (rn_rowO (Mem.nth (show Mem w noEx w' _ from hS) 1 rfl) rfl (T.ev 13 rfl) rfl)) ?_; clear T ac; intro ac T
     refine gq T 6 127 rfl (fun _ _ _ _ _ => (rn_move rfl (T.ev 16 rfl))) ?_; clear T ac; intro ac T
     refine gw 7 255 ?_; intro K hK
     refine ow_call (first := []) (cap := []) T rfl rfl rfl rfl evf (.cons (T.ev 2 rfl) (.cons (T.ev 1 rfl) (.cons (T.ev 0 rfl) .nil))) Try.func23 rfl rfl ?_
     refine Calls.mono (kbeats_any tur15_6 rur15_6 tur15_13 rur15_13 (q : Int) _ (by (try dsimp only); omega) (by (try dsimp only); omega) (by (try dsimp only); omega) (by (try dsimp only); omega) (by (try dsimp only); omega)) ?_
     clear T
     rintro e wc ⟨rfl, hb⟩
     intro ac T
     replace M := M.call hb; clear hb
     refine sh_out hK _ _ (M.mask [true, true, true, true] rfl) ?_; clear hK K
     refine gw 8 511 ?_; intro K hK
     refine ow_call (first := []) (cap := []) T rfl rfl rfl rfl evf (.cons (T.ev 4 rfl) (.cons (T.ev 0 rfl) .nil)) Try.func44 rfl rfl ?_
     refine Calls.mono (in_true _ (by rw [hb0, hb1]; exact bQ_in (q := (tur15_6, rur15_6, tur15_13, rur15_13)) (by unfold inQ; dsimp only; omega) (by omega))) ?_
     clear T
     rintro e wc ⟨rfl, hb⟩
     intro ac T
     replace M := M.call hb; clear hb
     refine sh_out hK _ _ (M.mask [true, true, true, true] rfl) ?_; clear hK K
     refine gq (v := (.bool false)) T 9 1023 rfl (fun _ _ _ _ _ => (rn_neqof (rn_not rfl (T.ev 0 rfl)) (by simp))) ?_; clear T ac; intro ac T
     refine g_done (by kernel_rfl) ?_
     replace T := T.pick [0, 11, 12, 13, 14, 15, 16, 17, 18, 19, 20, 21, 22, 23, 24, 25, 26, 27, 28, 29, 30, 31, 32, 33, 34, 35, 36, 37, 38, 39, 40, 41, 42, 43, 44, 45, 46, 47] rfl
     refine nm_then ?_
     refine wp_cond_false (T.ev 0 rfl) ?_
     refine wp_skip ?_
     refine nm_blk ?_
     refine nm_then ?_
     refine wp_region_lit ?_
     refine lq T (rn_move rfl (T.ev 10 rfl)) ?_; clear T ac; intro ac T
     refine lq T (rn_add rfl (T.ev 0 rfl) evc (by omega)) ?_; clear T ac; intro ac T
     refine l_q (v := (.int .i64 ((q : Int) + 1))) (T.pick [0, 1, 2, 3, 4, 5, 6, 7, 8, 9, 10, 11, 13, 14, 15, 16, 17, 18, 19, 20, 21, 22, 23, 24, 25, 26, 27, 28, 29, 30, 31, 32, 33, 34, 35, 36, 37, 38, 39] rfl) rfl rfl rfl rfl (rn_assign rfl (T.ev 0 rfl)) ?_; clear T ac; intro ac T
     refine wpList_nil ?_
     replace T := T.pick [0, 4, 5, 6, 7, 8, 9, 10, 11, 12, 13, 14, 15, 16, 17, 18, 19, 20, 21, 22, 23, 24, 25, 26, 27, 28, 29, 30, 31, 32, 33, 34, 35, 36, 37, 38, 39] rfl
     refine nm_then ?_
     exact ⟨_, by omega, q + 1, rfl, (by omega), T.pick [1, 2, 3, 4, 5, 6, 7, 8, 9, 0, 10, 11, 12, 13, 14, 15, 16, 17, 18, 19, 20, 21, 22, 23, 24, 25, 26, 27, 28, 29, 30, 31, 32, 33, 34, 35, 36] rfl, M.mask [true, true, true, true] rfl⟩
    intro h3
    refine wp_exit ?_
    refine ex_then ?_
    refine ex_then ?_
    refine ex_hit ?_
    refine nm_blk ?_
    refine nm_then ?_
    refine wp_region_lit ?_
    refine lq T (rn_move rfl (T.ev 6 rfl)) ?_; clear T ac; intro ac T
    refine lq T (rn_add rfl (T.ev 0 rfl) evc (by omega)) ?_; clear T ac; intro ac T
    refine l_q (v := (.int .i64 ((k : Int) + 1))) (T.pick [0, 1, 2, 3, 4, 5, 6, 7, 9, 10, 11, 12, 13, 14, 15, 16, 17, 18, 19, 20, 21, 22, 23, 24, 25, 26, 27, 28, 29, 30, 31, 32, 33, 34, 35, 36, 37, 38, 39] rfl) rfl rfl rfl rfl (rn_assign rfl (T.ev 0 rfl)) ?_; clear T ac; intro ac T
    refine wpList_nil ?_
    replace T := T.pick [0, 4, 5, 6, 7, 8, 13, 14, 15, 16, 17, 18, 19, 20, 21, 22, 23, 24, 25, 26, 27, 28, 29, 30, 31, 32, 33, 34, 35, 36, 37, 38, 39] rfl
    replace M := M.mask [false, false, true, true] rfl
    refine nm_then ?_
    exact ⟨_, by omega, k + 1, sur15_13, rfl, (by omega), hsur15_13, T.pick [1, 2, 3, 4, 5, 0] rfl, (M.sub (List.Sublist.cons_cons _ (List.Sublist.cons_cons _ (List.sublist_append_left _ _))))⟩
   intro H6
   refine g_have (fun ac wc => ∃ (tur15_6 : Int), ∃ (rur15_6 : Int), ∃ (sur15_6 : Int), ∃ (tur15_13 : Int), ∃ (rur15_13 : Int), ∃ (sur15_13 : Int), (x.t0 ≤ tur15_6 ∧ tur15_6 ≤ x.t1 ∧ x.s0 ≤ rur15_6 ∧ rur15_6 ≤ x.s1) ∧ (u64ok sur15_6) ∧ (y.t0 ≤ tur15_13 ∧ tur15_13 ≤ y.t1 ∧ y.s0 ≤ rur15_13 ∧ rur15_13 ≤ y.s1) ∧ (u64ok sur15_13) ∧ ∃ (gr15_14 : Nat), Tm ac 257 [(11, .pointer (some ⟨gr15_14, 0, none⟩)), (93, .agg #[.int .i64 tur15_13, .int .i64 rur15_13]), (86, .agg #[.int .i64 tur15_6, .int .i64 rur15_6]), (92, .agg #[.int .i64 y.t0, .int .i64 y.t1, .int .i64 y.s0, .int .i64 y.s1]), (91, .pointer (some ⟨b2u2, o2u2 + k * 4, none⟩)), (90, .int .i64 (k : Int)), (89, .slice Bu2 bu2.highs.length du2), (88, .pointer (some ⟨g1, 6, none⟩)), (87, .pointer (some ⟨bpu1, 0, none⟩)), (85, .agg #[.int .i64 x.t0, .int .i64 x.t1, .int .i64 x.s0, .int .i64 x.s1]), (84, .pointer (some ⟨b1u2, o1u2 + i * 4, none⟩)), (83, .int .i64 (i : Int)), (82, .slice Au2 bu2.lows.length cu2), (81, .pointer (some ⟨g1, 5, none⟩)), (80, .pointer (some ⟨bpu1, 0, none⟩)), (77, .bool (decide ((k : Int) < ((bu2.highs.length : Nat) : Int)))), (3, .pointer (some ⟨bpu1, 0, none⟩)), (4, .pointer (some ⟨g1, 0, none⟩)), (5, .int .i64 (bu2.first + bu2.step * bu2.note)), (7, .slice Au4 LLu4.length cu4), (9, .int .i64 (i : Int)), (10, .int .i64 (k : Int))] ∧ Mem w noEx wc ((gr15_14, .cells [.int .i64 0, .int .i64 0]) :: (g1, .cells [.int .i64 bu2.first, .int .i64 bu2.step, .int .i64 bu2.span, .int .i64 bu2.press, .int .i64 bu2.note, .slice Au2 bu2.lows.length cu2, .slice Bu2 bu2.highs.length du2, .int .i64 bu2.t0, .int .i64 bu2.t1, .int .i64 bu2.r0, .int .i64 bu2.r1, .int .i64 bu2.u0, .int .i64 bu2.u1, .int .i64 bu2.d0, .int .i64 bu2.d1, .int .i64 bu2.a0, .int .i64 bu2.a1, .int .i64 bu2.b0, .int .i64 bu2.b1, .int .i64 bu2.le, .int .i64 bu2.me]) :: (bpu1, .cells [.int .u64 sur15_13]) :: (Iu2 ++ Iu4))) (pbits 18 32767) 3 ?_ ?_
   ·clear T M
    rintro ac wc ⟨tur15_6, rur15_6, sur15_6, tur15_13, rur15_13, sur15_13, hxur15_6, hsur15_6, hxur15_13, hsur15_13, gr15_14, T, M⟩
    refine gw 15 65535 ?_; intro K hK
    refine ow_al M T rfl rfl rfl rfl ?_; clear M T; intro gr15_15 wc ac M T
    refine sh_out hK _ _ (MA.mk (fun h => (no_of (by kernel_rfl) h).elim) (M.mask [false, false, true, false] rfl)) ?_; clear hK K
    exact H6 _ _ ⟨tur15_6, rur15_6, sur15_6, tur15_13, rur15_13, sur15_13, hxur15_6, hsur15_6, hxur15_13, hsur15_13, gr15_14, gr15_15, T.pick [2, 1, 0, 3, 4, 5, 6, 7, 8, 9, 10, 11, 12, 13, 14, 15, 16, 17, 18, 19, 20, 21, 22] rfl, M.permT [1, 0, 2, 3] 4 rfl rfl rfl rfl⟩
   intro H5
   refine g_have (fun ac wc => ∃ (tur15_6 : Int), ∃ (rur15_6 : Int), ∃ (sur15_6 : Int), ∃ (tur15_13 : Int), ∃ (rur15_13 : Int), ∃ (sur15_13 : Int), (x.t0 ≤ tur15_6 ∧ tur15_6 ≤ x.t1 ∧ x.s0 ≤ rur15_6 ∧ rur15_6 ≤ x.s1) ∧ (u64ok sur15_6) ∧ (y.t0 ≤ tur15_13 ∧ tur15_13 ≤ y.t1 ∧ y.s0 ≤ rur15_13 ∧ rur15_13 ≤ y.s1) ∧ (u64ok sur15_13) ∧ ∃ (gr15_15 : Nat), Tm ac 257 [(12, .pointer (some ⟨gr15_15, 0, none⟩)), (93, .agg #[.int .i64 tur15_13, .int .i64 rur15_13]), (86, .agg #[.int .i64 tur15_6, .int .i64 rur15_6]), (92, .agg #[.int .i64 y.t0, .int .i64 y.t1, .int .i64 y.s0, .int .i64 y.s1]), (91, .pointer (some ⟨b2u2, o2u2 + k * 4, none⟩)), (90, .int .i64 (k : Int)), (89, .slice Bu2 bu2.highs.length du2), (88, .pointer (some ⟨g1, 6, none⟩)), (87, .pointer (some ⟨bpu1, 0, none⟩)), (85, .agg #[.int .i64 x.t0, .int .i64 x.t1, .int .i64 x.s0, .int .i64 x.s1]), (84, .pointer (some ⟨b1u2, o1u2 + i * 4, none⟩)), (83, .int .i64 (i : Int)), (82, .slice Au2 bu2.lows.length cu2), (81, .pointer (some ⟨g1, 5, none⟩)), (80, .pointer (some ⟨bpu1, 0, none⟩)), (77, .bool (decide ((k : Int) < ((bu2.highs.length : Nat) : Int)))), (3, .pointer (some ⟨bpu1, 0, none⟩)), (4, .pointer (some ⟨g1, 0, none⟩)), (5, .int .i64 (bu2.first + bu2.step * bu2.note)), (7, .slice Au4 LLu4.length cu4), (9, .int .i64 (i : Int)), (10, .int .i64 (k : Int))] ∧ Mem w noEx wc ((gr15_15, .cells [.int .i64 0, .int .i64 0]) :: (g1, .cells [.int .i64 bu2.first, .int .i64 bu2.step, .int .i64 bu2.span, .int .i64 bu2.press, .int .i64 bu2.note, .slice Au2 bu2.lows.length cu2, .slice Bu2 bu2.highs.length du2, .int .i64 bu2.t0, .int .i64 bu2.t1, .int .i64 bu2.r0, .int .i64 bu2.r1, .int .i64 bu2.u0, .int .i64 bu2.u1, .int .i64 bu2.d0, .int .i64 bu2.d1, .int .i64 bu2.a0, .int .i64 bu2.a1, .int .i64 bu2.b0, .int .i64 bu2.b1, .int .i64 bu2.le, .int .i64 bu2.me]) :: (bpu1, .cells [.int .u64 sur15_13]) :: (Iu2 ++ Iu4))) (pbits 18 49151) 3 ?_ ?_
   ·clear T M
    rintro ac wc ⟨tur15_6, rur15_6, sur15_6, tur15_13, rur15_13, sur15_13, hxur15_6, hsur15_6, hxur15_13, hsur15_13, gr15_15, T, M⟩
    refine gw 14 65535 ?_; intro K hK
    refine ow_al M T rfl rfl rfl rfl ?_; clear M T; intro gr15_14 wc ac M T
    refine sh_out hK _ _ (MA.mk (fun h => (no_of (by kernel_rfl) h).elim) (M.mask [false, false, true, false] rfl)) ?_; clear hK K
    exact H6 _ _ ⟨tur15_6, rur15_6, sur15_6, tur15_13, rur15_13, sur15_13, hxur15_6, hsur15_6, hxur15_13, hsur15_13, gr15_14, gr15_15, T.pick [2, 0, 1, 3, 4, 5, 6, 7, 8, 9, 10, 11, 12, 13, 14, 15, 16, 17, 18, 19, 20, 21, 22] rfl, M⟩
   intro H4
   refine g_have (fun ac wc => ∃ (tur15_6 : Int), ∃ (rur15_6 : Int), ∃ (sur15_6 : Int), (x.t0 ≤ tur15_6 ∧ tur15_6 ≤ x.t1 ∧ x.s0 ≤ rur15_6 ∧ rur15_6 ≤ x.s1) ∧ (u64ok sur15_6) ∧ ∃ (gr15_14 gr15_15 : Nat), Tm ac 257 [(11, .pointer (some ⟨gr15_14, 0, none⟩)), (12, .pointer (some ⟨gr15_15, 0, none⟩)), (86, .agg #[.int .i64 tur15_6, .int .i64 rur15_6]), (92, .agg #[.int .i64 y.t0, .int .i64 y.t1, .int .i64 y.s0, .int .i64 y.s1]), (91, .pointer (some ⟨b2u2, o2u2 + k * 4, none⟩)), (90, .int .i64 (k : Int)), (89, .slice Bu2 bu2.highs.length du2), (88, .pointer (some ⟨g1, 6, none⟩)), (87, .pointer (some ⟨bpu1, 0, none⟩)), (85, .agg #[.int .i64 x.t0, .int .i64 x.t1, .int .i64 x.s0, .int .i64 x.s1]), (84, .pointer (some ⟨b1u2, o1u2 + i * 4, none⟩)), (83, .int .i64 (i : Int)), (82, .slice Au2 bu2.lows.length cu2), (81, .pointer (some ⟨g1, 5, none⟩)), (80, .pointer (some ⟨bpu1, 0, none⟩)), (77, .bool (decide ((k : Int) < ((bu2.highs.length : Nat) : Int)))), (3, .pointer (some ⟨bpu1, 0, none⟩)), (4, .pointer (some ⟨g1, 0, none⟩)), (5, .int .i64 (bu2.first + bu2.step * bu2.note)), (7, .slice Au4 LLu4.length cu4), (9, .int .i64 (i : Int)), (10, .int .i64 (k : Int))] ∧ Mem w noEx wc ((gr15_14, .cells [.int .i64 0, .int .i64 0]) :: (gr15_15, .cells [.int .i64 0, .int .i64 0]) :: (g1, .cells [.int .i64 bu2.first, .int .i64 bu2.step, .int .i64 bu2.span, .int .i64 bu2.press, .int .i64 bu2.note, .slice Au2 bu2.lows.length cu2, .slice Bu2 bu2.highs.length du2, .int .i64 bu2.t0, .int .i64 bu2.t1, .int .i64 bu2.r0, .int .i64 bu2.r1, .int .i64 bu2.u0, .int .i64 bu2.u1, .int .i64 bu2.d0, .int .i64 bu2.d1, .int .i64 bu2.a0, .int .i64 bu2.a1, .int .i64 bu2.b0, .int .i64 bu2.b1, .int .i64 bu2.le, .int .i64 bu2.me]) :: (bpu1, .cells [.int .u64 sur15_6]) :: (Iu2 ++ Iu4))) (pbits 18 57343) 3 ?_ ?_
   ·clear T M
    rintro ac wc ⟨tur15_6, rur15_6, sur15_6, hxur15_6, hsur15_6, gr15_14, gr15_15, T, M⟩
    refine gw 13 65535 ?_; intro K hK
    refine ow_call (first := []) (cap := []) T rfl rfl rfl rfl evf (.cons (T.ev 8 rfl) (.cons (T.ev 3 rfl) .nil)) Try.func42 rfl rfl ?_
    refine Calls.mono (sungOf_any _ bpu1 y _ gy (M.nth 3 rfl) hsur15_6) ?_
    clear T
    rintro e wc ⟨tur15_13, rur15_13, sur15_13, hxur15_13, hsur15_13, rfl, hgr, hbk⟩
    intro ac T
    replace M := M.callC (cs' := [.int .u64 sur15_13]) (.tail (.tail (.tail .head))) hgr hbk
    clear hgr hbk
    refine sh_out hK _ _ (MA.mk (fun h => (no_of (by kernel_rfl) h).elim) (M.mask [false, false, true, false] rfl)) ?_; clear hK K
    exact H6 _ _ ⟨tur15_6, rur15_6, sur15_6, tur15_13, rur15_13, sur15_13, hxur15_6, hsur15_6, hxur15_13, hsur15_13, gr15_14, gr15_15, T, M⟩
   intro H3
   refine g_have (fun ac wc => ∃ (tur15_6 : Int), ∃ (rur15_6 : Int), ∃ (sur15_6 : Int), (x.t0 ≤ tur15_6 ∧ tur15_6 ≤ x.t1 ∧ x.s0 ≤ rur15_6 ∧ rur15_6 ≤ x.s1) ∧ (u64ok sur15_6) ∧ ∃ (gr15_14 : Nat), Tm ac 257 [(11, .pointer (some ⟨gr15_14, 0, none⟩)), (86, .agg #[.int .i64 tur15_6, .int .i64 rur15_6]), (92, .agg #[.int .i64 y.t0, .int .i64 y.t1, .int .i64 y.s0, .int .i64 y.s1]), (91, .pointer (some ⟨b2u2, o2u2 + k * 4, none⟩)), (90, .int .i64 (k : Int)), (89, .slice Bu2 bu2.highs.length du2), (88, .pointer (some ⟨g1, 6, none⟩)), (87, .pointer (some ⟨bpu1, 0, none⟩)), (85, .agg #[.int .i64 x.t0, .int .i64 x.t1, .int .i64 x.s0, .int .i64 x.s1]), (84, .pointer (some ⟨b1u2, o1u2 + i * 4, none⟩)), (83, .int .i64 (i : Int)), (82, .slice Au2 bu2.lows.length cu2), (81, .pointer (some ⟨g1, 5, none⟩)), (80, .pointer (some ⟨bpu1, 0, none⟩)), (77, .bool (decide ((k : Int) < ((bu2.highs.length : Nat) : Int)))), (3, .pointer (some ⟨bpu1, 0, none⟩)), (4, .pointer (some ⟨g1, 0, none⟩)), (5, .int .i64 (bu2.first + bu2.step * bu2.note)), (7, .slice Au4 LLu4.length cu4), (9, .int .i64 (i : Int)), (10, .int .i64 (k : Int))] ∧ Mem w noEx wc ((gr15_14, .cells [.int .i64 0, .int .i64 0]) :: (g1, .cells [.int .i64 bu2.first, .int .i64 bu2.step, .int .i64 bu2.span, .int .i64 bu2.press, .int .i64 bu2.note, .slice Au2 bu2.lows.length cu2, .slice Bu2 bu2.highs.length du2, .int .i64 bu2.t0, .int .i64 bu2.t1, .int .i64 bu2.r0, .int .i64 bu2.r1, .int .i64 bu2.u0, .int .i64 bu2.u1, .int .i64 bu2.d0, .int .i64 bu2.d1, .int .i64 bu2.a0, .int .i64 bu2.a1, .int .i64 bu2.b0, .int .i64 bu2.b1, .int .i64 bu2.le, .int .i64 bu2.me]) :: (bpu1, .cells [.int .u64 sur15_6]) :: (Iu2 ++ Iu4))) (pbits 18 24575) 4 ?_ ?_
   ·clear T M
    rintro ac wc ⟨tur15_6, rur15_6, sur15_6, hxur15_6, hsur15_6, gr15_14, T, M⟩
    refine g_m2 (i := 13) (j := 15) (by kernel_rfl) ?_ ?_
    ·refine gi 32767 ?_; intro K hK
     refine ow_call (first := []) (cap := []) T rfl rfl rfl rfl evf (.cons (T.ev 7 rfl) (.cons (T.ev 2 rfl) .nil)) Try.func42 rfl rfl ?_
     refine Calls.mono (sungOf_any _ bpu1 y _ gy (M.nth 2 rfl) hsur15_6) ?_
     clear T
     rintro e wc ⟨tur15_13, rur15_13, sur15_13, hxur15_13, hsur15_13, rfl, hgr, hbk⟩
     intro ac T
     replace M := M.callC (cs' := [.int .u64 sur15_13]) (.tail (.tail .head)) hgr hbk
     clear hgr hbk
     refine sh_out hK _ _ (MA.mk (fun h => (no_of (by kernel_rfl) h).elim) (M.mask [false, true, false] rfl)) ?_; clear hK K
     exact H5 _ _ ⟨tur15_6, rur15_6, sur15_6, tur15_13, rur15_13, sur15_13, hxur15_6, hsur15_6, hxur15_13, hsur15_13, gr15_14, T.pick [1, 0, 2, 3, 4, 5, 6, 7, 8, 9, 10, 11, 12, 13, 14, 15, 16, 17, 18, 19, 20, 21] rfl, M⟩
    refine gi 57343 ?_; intro K hK
    refine ow_al M T rfl rfl rfl rfl ?_; clear M T; intro gr15_15 wc ac M T
    refine sh_out hK _ _ (MA.mk (fun h => (no_of (by kernel_rfl) h).elim) (M.mask [false, false, true, false] rfl)) ?_; clear hK K
    exact H3 _ _ ⟨tur15_6, rur15_6, sur15_6, hxur15_6, hsur15_6, gr15_14, gr15_15, T.pick [1, 0, 2, 3, 4, 5, 6, 7, 8, 9, 10, 11, 12, 13, 14, 15, 16, 17, 18, 19, 20, 21] rfl, M.permT [1, 0, 2, 3] 4 rfl rfl rfl rfl⟩
   intro H2
   refine g_have (fun ac wc => ∃ (gr15_15 gr15_14 : Nat), Tm ac 257 [(12, .pointer (some ⟨gr15_15, 0, none⟩)), (11, .pointer (some ⟨gr15_14, 0, none⟩)), (92, .agg #[.int .i64 y.t0, .int .i64 y.t1, .int .i64 y.s0, .int .i64 y.s1]), (91, .pointer (some ⟨b2u2, o2u2 + k * 4, none⟩)), (90, .int .i64 (k : Int)), (89, .slice Bu2 bu2.highs.length du2), (88, .pointer (some ⟨g1, 6, none⟩)), (87, .pointer (some ⟨bpu1, 0, none⟩)), (85, .agg #[.int .i64 x.t0, .int .i64 x.t1, .int .i64 x.s0, .int .i64 x.s1]), (84, .pointer (some ⟨b1u2, o1u2 + i * 4, none⟩)), (83, .int .i64 (i : Int)), (82, .slice Au2 bu2.lows.length cu2), (81, .pointer (some ⟨g1, 5, none⟩)), (80, .pointer (some ⟨bpu1, 0, none⟩)), (77, .bool (decide ((k : Int) < ((bu2.highs.length : Nat) : Int)))), (3, .pointer (some ⟨bpu1, 0, none⟩)), (4, .pointer (some ⟨g1, 0, none⟩)), (5, .int .i64 (bu2.first + bu2.step * bu2.note)), (7, .slice Au4 LLu4.length cu4), (9, .int .i64 (i : Int)), (10, .int .i64 (k : Int))] ∧ Mem w noEx wc ((gr15_15, .cells [.int .i64 0, .int .i64 0]) :: (gr15_14, .cells [.int .i64 0, .int .i64 0]) :: (g1, .cells [.int .i64 bu2.first, .int .i64 bu2.step, .int .i64 bu2.span, .int .i64 bu2.press, .int .i64 bu2.note, .slice Au2 bu2.lows.length cu2, .slice Bu2 bu2.highs.length du2, .int .i64 bu2.t0, .int .i64 bu2.t1, .int .i64 bu2.r0, .int .i64 bu2.r1, .int .i64 bu2.u0, .int .i64 bu2.u1, .int .i64 bu2.d0, .int .i64 bu2.d1, .int .i64 bu2.a0, .int .i64 bu2.a1, .int .i64 bu2.b0, .int .i64 bu2.b1, .int .i64 bu2.le, .int .i64 bu2.me]) :: (bpu1, .cells [.int .u64 s2]) :: (Iu2 ++ Iu4))) (pbits 18 57279) 4 ?_ ?_
   ·clear T M
    rintro ac wc ⟨gr15_15, gr15_14, T, M⟩
    refine gw 6 57343 ?_; intro K hK
    refine ow_call (first := []) (cap := []) T rfl rfl rfl rfl evf (.cons (T.ev 13 rfl) (.cons (T.ev 8 rfl) .nil)) Try.func42 rfl rfl ?_
    refine Calls.mono (sungOf_any _ bpu1 x _ gx (M.nth 3 rfl) hs2) ?_
    clear T
    rintro e wc ⟨tur15_6, rur15_6, sur15_6, hxur15_6, hsur15_6, rfl, hgr, hbk⟩
    intro ac T
    replace M := M.callC (cs' := [.int .u64 sur15_6]) (.tail (.tail (.tail .head))) hgr hbk
    clear hgr hbk
    refine sh_out hK _ _ (MA.mk (fun h => (no_of (by kernel_rfl) h).elim) (M.mask [false, false, true, false] rfl)) ?_; clear hK K
    exact H3 _ _ ⟨tur15_6, rur15_6, sur15_6, hxur15_6, hsur15_6, gr15_14, gr15_15, T.pick [2, 1, 0, 3, 4, 5, 6, 7, 8, 9, 10, 11, 12, 13, 14, 15, 16, 17, 18, 19, 20, 21] rfl, M.permT [1, 0, 2, 3] 4 rfl rfl rfl rfl⟩
   intro H1
   refine g_have (fun ac wc => ∃ (tur15_6 : Int), ∃ (rur15_6 : Int), ∃ (sur15_6 : Int), (x.t0 ≤ tur15_6 ∧ tur15_6 ≤ x.t1 ∧ x.s0 ≤ rur15_6 ∧ rur15_6 ≤ x.s1) ∧ (u64ok sur15_6) ∧ ∃ (gr15_15 : Nat), Tm ac 257 [(12, .pointer (some ⟨gr15_15, 0, none⟩)), (86, .agg #[.int .i64 tur15_6, .int .i64 rur15_6]), (92, .agg #[.int .i64 y.t0, .int .i64 y.t1, .int .i64 y.s0, .int .i64 y.s1]), (91, .pointer (some ⟨b2u2, o2u2 + k * 4, none⟩)), (90, .int .i64 (k : Int)), (89, .slice Bu2 bu2.highs.length du2), (88, .pointer (some ⟨g1, 6, none⟩)), (87, .pointer (some ⟨bpu1, 0, none⟩)), (85, .agg #[.int .i64 x.t0, .int .i64 x.t1, .int .i64 x.s0, .int .i64 x.s1]), (84, .pointer (some ⟨b1u2, o1u2 + i * 4, none⟩)), (83, .int .i64 (i : Int)), (82, .slice Au2 bu2.lows.length cu2), (81, .pointer (some ⟨g1, 5, none⟩)), (80, .pointer (some ⟨bpu1, 0, none⟩)), (77, .bool (decide ((k : Int) < ((bu2.highs.length : Nat) : Int)))), (3, .pointer (some ⟨bpu1, 0, none⟩)), (4, .pointer (some ⟨g1, 0, none⟩)), (5, .int .i64 (bu2.first + bu2.step * bu2.note)), (7, .slice Au4 LLu4.length cu4), (9, .int .i64 (i : Int)), (10, .int .i64 (k : Int))] ∧ Mem w noEx wc ((gr15_15, .cells [.int .i64 0, .int .i64 0]) :: (g1, .cells [.int .i64 bu2.first, .int .i64 bu2.step, .int .i64 bu2.span, .int .i64 bu2.press, .int .i64 bu2.note, .slice Au2 bu2.lows.length cu2, .slice Bu2 bu2.highs.length du2, .int .i64 bu2.t0, .int .i64 bu2.t1, .int .i64 bu2.r0, .int .i64 bu2.r1, .int .i64 bu2.u0, .int .i64 bu2.u1, .int .i64 bu2.d0, .int .i64 bu2.d1, .int .i64 bu2.a0, .int .i64 bu2.a1, .int .i64 bu2.b0, .int .i64 bu2.b1, .int .i64 bu2.le, .int .i64 bu2.me]) :: (bpu1, .cells [.int .u64 sur15_6]) :: (Iu2 ++ Iu4))) (pbits 18 40959) 4 ?_ ?_
   ·clear T M
    rintro ac wc ⟨tur15_6, rur15_6, sur15_6, hxur15_6, hsur15_6, gr15_15, T, M⟩
    refine g_m2 (i := 13) (j := 14) (by kernel_rfl) ?_ ?_
    ·refine gi 49151 ?_; intro K hK
     refine ow_call (first := []) (cap := []) T rfl rfl rfl rfl evf (.cons (T.ev 7 rfl) (.cons (T.ev 2 rfl) .nil)) Try.func42 rfl rfl ?_
     refine Calls.mono (sungOf_any _ bpu1 y _ gy (M.nth 2 rfl) hsur15_6) ?_
     clear T
     rintro e wc ⟨tur15_13, rur15_13, sur15_13, hxur15_13, hsur15_13, rfl, hgr, hbk⟩
     intro ac T
     replace M := M.callC (cs' := [.int .u64 sur15_13]) (.tail (.tail .head)) hgr hbk
     clear hgr hbk
     refine sh_out hK _ _ (MA.mk (fun h => (no_of (by kernel_rfl) h).elim) (M.mask [false, true, false] rfl)) ?_; clear hK K
     exact H4 _ _ ⟨tur15_6, rur15_6, sur15_6, tur15_13, rur15_13, sur15_13, hxur15_6, hsur15_6, hxur15_13, hsur15_13, gr15_15, T.pick [1, 0, 2, 3, 4, 5, 6, 7, 8, 9, 10, 11, 12, 13, 14, 15, 16, 17, 18, 19, 20, 21] rfl, M⟩
    refine gi 57343 ?_; intro K hK
    refine ow_al M T rfl rfl rfl rfl ?_; clear M T; intro gr15_14 wc ac M T
    refine sh_out hK _ _ (MA.mk (fun h => (no_of (by kernel_rfl) h).elim) (M.mask [false, false, true, false] rfl)) ?_; clear hK K
    exact H3 _ _ ⟨tur15_6, rur15_6, sur15_6, hxur15_6, hsur15_6, gr15_14, gr15_15, T, M⟩
   intro H0
   refine gq T 0 1 rfl (fun _ _ _ _ _ => (rn_move rfl (T.ev 1 rfl))) ?_; clear T ac; intro ac T
   refine gq (v := (.pointer (some ⟨g1, 5, none⟩))) T 1 3 rfl (fun _ _ _ _ _ => (rn_fieldAddr (off := 5) rfl (T.ev 3 rfl) (fun _ _ _ => by kernel_rfl))) ?_; clear T ac; intro ac T
   refine gq T 2 7 rfl (fun B w' hD hl hS => (rn_one (Mem.nth (show Mem w noEx w' _ from ((MA.lft hS) (hD.wait (i := 5) (m := 6) (by kernel_rfl) (hD.wait (i := 4) (m := 5) (by kernel_rfl) (hD.wait (i := 2) (m := 4) (by kernel_rfl) hl))))) 0 rfl) rfl (T.ev 0 rfl) rfl)) ?_; clear T ac; intro ac T
   refine gq T 3 15 rfl (fun _ _ _ _ _ => (rn_move rfl (T.ev 8 rfl))) ?_; clear T ac; intro ac T
   refine gq T 4 31 rfl (fun _ _ _ _ _ => (rn_indexAddr (size := 4) i rfl (T.ev 1 rfl) (T.ev 0 rfl) ⟨_, Try.underlying38, by kernel_rfl⟩ rfl (by omega) (SAu2.at0 (by omega)))) ?_; clear T ac; intro ac T
   refine gq (v := (.agg #[.int .i64 x.t0, .int .i64 x.t1, .int .i64 x.s0, .int .i64 x.s1])) T 5 63 rfl (fun B w' hD hl hS => (rn_rowat (Sp.scR4 SAu2 (show Mem w noEx w' _ from ((MA.lft hS) (hD.wait (i := 5) (m := 6) (by kernel_rfl) hl))) (.cons _ (.cons _ (subL (List.Sublist.refl _)))) hkx) rfl (T.ev 0 rfl) rfl)) ?_; clear T ac; intro ac T
   refine gq T 7 191 rfl (fun _ _ _ _ _ => (rn_move rfl (T.ev 7 rfl))) ?_; clear T ac; intro ac T
   refine gq (v := (.pointer (some ⟨g1, 6, none⟩))) T 8 447 rfl (fun _ _ _ _ _ => (rn_fieldAddr (off := 6) rfl (T.ev 9 rfl) (fun _ _ _ => by kernel_rfl))) ?_; clear T ac; intro ac T
   refine gq T 9 959 rfl (fun B w' hD hl hS => (rn_one (Mem.nth (show Mem w noEx w' _ from (MA.rgt hS)) 0 rfl) rfl (T.ev 0 rfl) rfl)) ?_; clear T ac; intro ac T
   refine gq T 10 1983 rfl (fun _ _ _ _ _ => (rn_move rfl (T.ev 15 rfl))) ?_; clear T ac; intro ac T
   refine gq T 11 4031 rfl (fun _ _ _ _ _ => (rn_indexAddr (size := 4) k rfl (T.ev 1 rfl) (T.ev 0 rfl) ⟨_, Try.underlying38, by kernel_rfl⟩ rfl (by omega) (SBu2.at0 (by omega)))) ?_; clear T ac; intro ac T
   refine gq (v := (.agg #[.int .i64 y.t0, .int .i64 y.t1, .int .i64 y.s0, .int .i64 y.s1])) T 12 8127 rfl (fun B w' hD hl hS => (rn_rowat (Sp.scR4 SBu2 (show Mem w noEx w' _ from (MA.rgt hS)) (.cons _ (subL (List.Sublist.refl _))) hky) rfl (T.ev 0 rfl) rfl)) ?_; clear T ac; intro ac T
   refine g_m3 (i := 6) (j := 14) (k := 15) (by kernel_rfl) ?_ ?_ ?_
   ·refine gi 8191 ?_; intro K hK
    refine ow_call (first := []) (cap := []) T rfl rfl rfl rfl evf (.cons (T.ev 11 rfl) (.cons (T.ev 6 rfl) .nil)) Try.func42 rfl rfl ?_
    refine Calls.mono (sungOf_any _ bpu1 x _ gx (M.nth 1 rfl) hs2) ?_
    clear T
    rintro e wc ⟨tur15_6, rur15_6, sur15_6, hxur15_6, hsur15_6, rfl, hgr, hbk⟩
    intro ac T
    replace M := M.callC (cs' := [.int .u64 sur15_6]) (.tail .head) hgr hbk
    clear hgr hbk
    refine sh_out hK _ _ (MA.mk (fun h => (no_of (by kernel_rfl) h).elim) (M.mask [true, false] rfl)) ?_; clear hK K
    refine g_m3 (i := 13) (j := 14) (k := 15) (by kernel_rfl) ?_ ?_ ?_
    ·refine gi 16383 ?_; intro K hK
     refine ow_call (first := []) (cap := []) T rfl rfl rfl rfl evf (.cons (T.ev 6 rfl) (.cons (T.ev 1 rfl) .nil)) Try.func42 rfl rfl ?_
     refine Calls.mono (sungOf_any _ bpu1 y _ gy (M.nth 1 rfl) hsur15_6) ?_
     clear T
     rintro e wc ⟨tur15_13, rur15_13, sur15_13, hxur15_13, hsur15_13, rfl, hgr, hbk⟩
     intro ac T
     replace M := M.callC (cs' := [.int .u64 sur15_13]) (.tail .head) hgr hbk
     clear hgr hbk
     refine sh_out hK _ _ (MA.mk (fun h => (no_of (by kernel_rfl) h).elim) (M.mask [true, false] rfl)) ?_; clear hK K
     refine g_m2 (i := 14) (j := 15) (by kernel_rfl) ?_ ?_
     ·refine gi 32767 ?_; intro K hK
      refine ow_al M T rfl rfl rfl rfl ?_; clear M T; intro gr15_14 wc ac M T
      refine sh_out hK _ _ (MA.mk (fun h => (no_of (by kernel_rfl) h).elim) (M.mask [false, true, false] rfl)) ?_; clear hK K
      exact H5 _ _ ⟨tur15_6, rur15_6, sur15_6, tur15_13, rur15_13, sur15_13, hxur15_6, hsur15_6, hxur15_13, hsur15_13, gr15_14, T, M⟩
     refine gi 49151 ?_; intro K hK
     refine ow_al M T rfl rfl rfl rfl ?_; clear M T; intro gr15_15 wc ac M T
     refine sh_out hK _ _ (MA.mk (fun h => (no_of (by kernel_rfl) h).elim) (M.mask [false, true, false] rfl)) ?_; clear hK K
     exact H4 _ _ ⟨tur15_6, rur15_6, sur15_6, tur15_13, rur15_13, sur15_13, hxur15_6, hsur15_6, hxur15_13, hsur15_13, gr15_15, T, M⟩
    ·refine gi 24575 ?_; intro K hK
     refine ow_al M T rfl rfl rfl rfl ?_; clear M T; intro gr15_14 wc ac M T
     refine sh_out hK _ _ (MA.mk (fun h => (no_of (by kernel_rfl) h).elim) (M.mask [false, true, false] rfl)) ?_; clear hK K
     exact H2 _ _ ⟨tur15_6, rur15_6, sur15_6, hxur15_6, hsur15_6, gr15_14, T, M⟩
    refine gi 40959 ?_; intro K hK
    refine ow_al M T rfl rfl rfl rfl ?_; clear M T; intro gr15_15 wc ac M T
    refine sh_out hK _ _ (MA.mk (fun h => (no_of (by kernel_rfl) h).elim) (M.mask [false, true, false] rfl)) ?_; clear hK K
    exact H0 _ _ ⟨tur15_6, rur15_6, sur15_6, hxur15_6, hsur15_6, gr15_15, T, M⟩
   ·refine gi 24511 ?_; intro K hK
    refine ow_al M T rfl rfl rfl rfl ?_; clear M T; intro gr15_14 wc ac M T
    refine sh_out hK _ _ (MA.mk (fun _ => M.mask [false, true, true] rfl) (M.mask [false, true, false] rfl)) ?_; clear hK K
    refine g_m2 (i := 6) (j := 15) (by kernel_rfl) ?_ ?_
    ·refine gi 24575 ?_; intro K hK
     refine ow_call (first := []) (cap := []) T rfl rfl rfl rfl evf (.cons (T.ev 12 rfl) (.cons (T.ev 7 rfl) .nil)) Try.func42 rfl rfl ?_
     refine Calls.mono (sungOf_any _ bpu1 x _ gx (M.nth 2 rfl) hs2) ?_
     clear T
     rintro e wc ⟨tur15_6, rur15_6, sur15_6, hxur15_6, hsur15_6, rfl, hgr, hbk⟩
     intro ac T
     replace M := M.callC (cs' := [.int .u64 sur15_6]) (.tail (.tail .head)) hgr hbk
     clear hgr hbk
     refine sh_out hK _ _ (MA.mk (fun h => (no_of (by kernel_rfl) h).elim) (M.mask [false, true, false] rfl)) ?_; clear hK K
     exact H2 _ _ ⟨tur15_6, rur15_6, sur15_6, hxur15_6, hsur15_6, gr15_14, T.pick [1, 0, 2, 3, 4, 5, 6, 7, 8, 9, 10, 11, 12, 13, 14, 15, 16, 17, 18, 19, 20] rfl, M⟩
    refine gi 57279 ?_; intro K hK
    refine ow_al M T rfl rfl rfl rfl ?_; clear M T; intro gr15_15 wc ac M T
    refine sh_out hK _ _ (MA.mk (fun _ => M.mask [false, false, true, true] rfl) (M.mask [false, false, true, false] rfl)) ?_; clear hK K
    exact H1 _ _ ⟨gr15_15, gr15_14, T, M⟩
   refine gi 40895 ?_; intro K hK
   refine ow_al M T rfl rfl rfl rfl ?_; clear M T; intro gr15_15 wc ac M T
   refine sh_out hK _ _ (MA.mk (fun _ => M.mask [false, true, true] rfl) (M.mask [false, true, false] rfl)) ?_; clear hK K
   refine g_m2 (i := 6) (j := 14) (by kernel_rfl) ?_ ?_
   ·refine gi 40959 ?_; intro K hK
    refine ow_call (first := []) (cap := []) T rfl rfl rfl rfl evf (.cons (T.ev 12 rfl) (.cons (T.ev 7 rfl) .nil)) Try.func42 rfl rfl ?_
    refine Calls.mono (sungOf_any _ bpu1 x _ gx (M.nth 2 rfl) hs2) ?_
    clear T
    rintro e wc ⟨tur15_6, rur15_6, sur15_6, hxur15_6, hsur15_6, rfl, hgr, hbk⟩
    intro ac T
    replace M := M.callC (cs' := [.int .u64 sur15_6]) (.tail (.tail .head)) hgr hbk
    clear hgr hbk
    refine sh_out hK _ _ (MA.mk (fun h => (no_of (by kernel_rfl) h).elim) (M.mask [false, true, false] rfl)) ?_; clear hK K
    exact H0 _ _ ⟨tur15_6, rur15_6, sur15_6, hxur15_6, hsur15_6, gr15_15, T.pick [1, 0, 2, 3, 4, 5, 6, 7, 8, 9, 10, 11, 12, 13, 14, 15, 16, 17, 18, 19, 20] rfl, M⟩
   refine gi 57279 ?_; intro K hK
   refine ow_al M T rfl rfl rfl rfl ?_; clear M T; intro gr15_14 wc ac M T
   refine sh_out hK _ _ (MA.mk (fun _ => M.mask [false, false, true, true] rfl) (M.mask [false, false, true, false] rfl)) ?_; clear hK K
   exact H1 _ _ ⟨gr15_15, gr15_14, T.pick [1, 0, 2, 3, 4, 5, 6, 7, 8, 9, 10, 11, 12, 13, 14, 15, 16, 17, 18, 19, 20] rfl, M.permT [1, 0, 2, 3] 4 rfl rfl rfl rfl⟩
  intro h2
  refine wp_exit ?_
  refine ex_then ?_
  refine ex_then ?_
  refine ex_hit ?_
  refine nm_blk ?_
  refine nm_then ?_
  refine wp_region_lit ?_
  refine lq T (rn_move rfl (T.ev 5 rfl)) ?_; clear T ac; intro ac T
  refine lq T (rn_add rfl (T.ev 0 rfl) evc (by omega)) ?_; clear T ac; intro ac T
  refine l_q (v := (.int .i64 ((i : Int) + 1))) (T.pick [0, 1, 2, 3, 4, 5, 6, 8] rfl) rfl rfl rfl rfl (rn_assign rfl (T.ev 0 rfl)) ?_; clear T ac; intro ac T
  refine wpList_nil ?_
  replace T := T.pick [0, 4, 5, 6, 7] rfl
  refine nm_then ?_
  exact ⟨_, by omega, i + 1, s2, rfl, (by omega), hs2, T.pick [1, 2, 3, 4, 0] rfl, M⟩
 intro h1
 refine wp_exit ?_
 refine ex_then ?_
 refine ex_then ?_
 refine ex_hit ?_
 refine nm_then ?_
 refine wp_seq ?_
 refine wp_region_lit ?_
 refine lq T (rn_move rfl (T.ev 1 rfl)) ?_; clear T ac; intro ac T
 refine l_w rfl ?_; intro K hK
 refine ow_call (first := []) (cap := []) T rfl rfl rfl rfl evf (.cons (T.ev 0 rfl) (.cons evc (.cons evc (.cons evc .nil)))) Try.func13 rfl rfl ?_
 refine Calls.mono (scaleOf_any _ bpu1 4 4 3 _ (by omega) (by omega) (by omega) (M.nth 1 rfl) hs1) ?_
 clear T
 rintro e wc ⟨lu11, LLu11, Au11, cu11, su11, Iu11, rfl, hSu11, hsu11, Su11, Eu11, N⟩
 intro ac T
 obtain ⟨bu11, ou11, Su11⟩ := Su11
 replace Su11 := Su11 w noEx
 replace M := (M.joinW (.tail .head) N).swapI
 clear N
 replace M : Mem w noEx wc ((g1, .cells [.int .i64 bu2.first, .int .i64 bu2.step, .int .i64 bu2.span, .int .i64 bu2.press, .int .i64 bu2.note, .slice Au2 bu2.lows.length cu2, .slice Bu2 bu2.highs.length du2, .int .i64 bu2.t0, .int .i64 bu2.t1, .int .i64 bu2.r0, .int .i64 bu2.r1, .int .i64 bu2.u0, .int .i64 bu2.u1, .int .i64 bu2.d0, .int .i64 bu2.d1, .int .i64 bu2.a0, .int .i64 bu2.a1, .int .i64 bu2.b0, .int .i64 bu2.b1, .int .i64 bu2.le, .int .i64 bu2.me]) :: (bpu1, .cells [.int .u64 su11]) :: (Iu2 ++ Iu4 ++ Iu11)) := M
 have hlenu11 := hSu11.len
 rw [show (rowsOf LLu11).length = LLu11.length by simp] at hlenu11
 have hNu11 := hSu11.notes
 obtain ⟨x0, hx0⟩ : ∃ q, q = (rowsOf LLu11).headD [] := ⟨_, rfl⟩
 have hx0n9 : x0.length = notesP (rowsOf LLu11) := by rw [hx0]; rfl
 obtain ⟨B0, hB0⟩ : ∃ q, q = (LLu11.headD ([], none, 0)).2.1 := ⟨_, rfl⟩
 obtain ⟨d0, hd0⟩ : ∃ q, q = (LLu11.headD ([], none, 0)).2.2 := ⟨_, rfl⟩
 refine sh_out hK _ _ ?_; clear hK K
 refine l_w rfl ?_; intro K hK
 refine ow_al M T rfl rfl rfl rfl ?_; clear M T; intro g2 wc ac M T
 refine sh_out hK _ _ ?_; clear hK K
 refine l_w rfl ?_; intro K hK
 refine ow_stO M T rfl rfl (T.ev 0 rfl) (T.ev 1 rfl) rfl .head rfl (by simp) rfl (by kernel_rfl) ?_; clear M T; intro wc ac M T
 refine sh_out hK _ _ ?_; clear hK K
 refine wpList_nil ?_
 replace T := T.pick [0, 4] rfl
 replace M := M.mask [true, false, true] rfl
 refine nm_then ?_
 refine wp_seq ?_
 refine wp_region_lit ?_
 refine lq T (rn_move rfl (T.ev 1 rfl)) ?_; clear T ac; intro ac T
 refine lq (v := (.pointer (some ⟨g2, 4, none⟩))) T (rn_fieldAddr (off := 4) rfl (T.ev 1 rfl) (fun _ _ _ => by kernel_rfl)) ?_; clear T ac; intro ac T
 refine lq T (rn_one (Mem.nth M 0 rfl) rfl (T.ev 0 rfl) rfl) ?_; clear T ac; intro ac T
 refine lq T (rn_lenS rfl Try.underlying27 (T.ev 0 rfl)) ?_; clear T ac; intro ac T
 refine l_w rfl ?_; intro K hK
 refine ow_call (first := []) (cap := []) T rfl rfl rfl rfl evf (.cons (T.ev 3 rfl) (.cons (T.ev 0 rfl) .nil)) Try.func14 rfl rfl ?_
 refine Calls.mono (pick_any _ bpu1 ((LLu11.length : Nat) : Int) _ (by omega) (M.nth 1 rfl) hsu11) ?_
 clear T
 rintro e wc ⟨gu12, Au12, cu12, su12, Iu12, rfl, hau12, hsu12, hcu12, Su12, N⟩
 intro ac T
 obtain ⟨bu12, ou12, Su12⟩ := Su12
 replace Su12 := Su12 w noEx
 replace M := (M.joinW (.tail .head) N).swapI
 clear N
 replace M : Mem w noEx wc ((g2, .cells [.int .i64 lu11.first, .int .i64 lu11.step, .int .i64 lu11.span, .int .i64 lu11.press, .slice Au11 LLu11.length cu11]) :: (bpu1, .cells [.int .u64 su12]) :: (Iu2 ++ Iu4 ++ Iu11 ++ Iu12)) := M
 replace hau12 : Asc ((rowsOf LLu11).length : Nat) gu12 := by rw [show (rowsOf LLu11).length = LLu11.length by simp]; exact hau12
 have hglu12 := hau12.short
 rw [show (rowsOf LLu11).length = LLu11.length by simp] at hglu12
 refine sh_out hK _ _ ?_; clear hK K
 refine lq T (rn_assign rfl (T.ev 0 rfl)) ?_; clear T ac; intro ac T
 refine wpList_nil ?_
 replace T := T.pick [0, 6, 7] rfl
 refine nm_then ?_
 refine wp_seq ?_
 refine wp_region_lit ?_
 refine lq T (rn_rowO (Mem.nth M 0 rfl) rfl (T.ev 1 rfl) rfl) ?_; clear T ac; intro ac T
 refine lq T (rn_move rfl (T.ev 1 rfl)) ?_; clear T ac; intro ac T
 refine l_w rfl ?_; intro K hK
 refine ow_call (first := []) (cap := []) T rfl rfl rfl rfl evf (.cons (T.ev 1 rfl) (.cons (T.ev 0 rfl) .nil)) Try.func15 rfl rfl ?_
 refine Calls.mono (Tremolo_reg lu11 _ _ LLu11 _ _ gu12 _ hSu11 hau12 (Su11.rd M (.cons _ (.cons _ (subL (List.sublist_append_right _ _))))) (fun x hx => by obtain ⟨b9, o9, h9⟩ := Eu11 x hx; exact (h9 w noEx).rd M (.cons _ (.cons _ (subL (List.sublist_append_right _ _))))) (Su12.rd M (.cons _ (.cons _ (List.sublist_append_right _ _))))) ?_
 clear T
 rintro e wc ⟨Au13, cu13, Iu13, rfl, Su13, N⟩
 intro ac T
 obtain ⟨bu13, ou13, Su13⟩ := Su13
 replace Su13 := Su13 w noEx
 obtain ⟨tmu13, htmu13⟩ : ∃ q, q = tremP lu11 (rowsOf LLu11) gu12 := ⟨_, rfl⟩
 rw [← htmu13] at Su13
 have ntmu13 : tmu13.length = notesP (rowsOf LLu11) := by rw [htmu13, tremP_length]
 replace M := (M.join N).swapI
 clear N
 replace M : Mem w noEx wc ((g2, .cells [.int .i64 lu11.first, .int .i64 lu11.step, .int .i64 lu11.span, .int .i64 lu11.press, .slice Au11 LLu11.length cu11]) :: (bpu1, .cells [.int .u64 su12]) :: (Iu2 ++ Iu4 ++ Iu11 ++ Iu12 ++ Iu13)) := M
 rw [← htmu13] at T
 refine sh_out hK _ _ ?_; clear hK K
 refine lq T (rn_move rfl (T.ev 0 rfl)) ?_; clear T ac; intro ac T
 refine lq T (rn_extract rfl (T.ev 0 rfl) rfl) ?_; clear T ac; intro ac T
 refine lq T (rn_extract rfl (T.ev 1 rfl) rfl) ?_; clear T ac; intro ac T
 refine lq T (rn_assign rfl (T.ev 1 rfl)) ?_; clear T ac; intro ac T
 refine lq T (rn_assign rfl (T.ev 1 rfl)) ?_; clear T ac; intro ac T
 refine wpList_nil ?_
 replace T := T.pick [0, 1, 8, 9, 10] rfl
 refine nm_then ?_
 refine wp_seq ?_
 refine cut_seq (fun ac wc => Tm ac 257 [(3, .pointer (some ⟨bpu1, 0, none⟩)), (18, .pointer (some ⟨g2, 0, none⟩)), (19, .slice Au12 gu12.length cu12), (20, .slice Au13 tmu13.length cu13), (192, .bool ((decide (0 < ((LLu11.length : Nat) : Int))) && (!(decide (((tmu13.length : Nat) : Int) = ((x0.length : Nat) : Int))))))] ∧ Mem w noEx wc ((g2, .cells [.int .i64 lu11.first, .int .i64 lu11.step, .int .i64 lu11.span, .int .i64 lu11.press, .slice Au11 LLu11.length cu11]) :: (bpu1, .cells [.int .u64 su12]) :: (Iu2 ++ Iu4 ++ Iu11 ++ Iu12 ++ Iu13))) ?_ ?_
 ·refine wp_region_lit ?_
  refine lq T (rn_move rfl (T.ev 0 rfl)) ?_; clear T ac; intro ac T
  refine lq (v := (.bool false)) T (rn_neqof (rn_neq rfl (T.ev 0 rfl) evc) (by simp)) ?_; clear T ac; intro ac T
  refine lq T (rn_move rfl (T.ev 0 rfl)) ?_; clear T ac; intro ac T
  refine lw (v := (.pointer (some ⟨g2, 4, none⟩))) T (wanted_yes rfl rfl (T.ev 0 rfl) rfl) (rn_fieldAddr (off := 4) rfl (T.ev 6 rfl) (fun _ _ _ => by kernel_rfl)) ?_; clear T ac; intro ac T
  refine lw T (wanted_yes rfl rfl (T.ev 1 rfl) rfl) (rn_one (Mem.nth M 0 rfl) rfl (T.ev 0 rfl) rfl) ?_; clear T ac; intro ac T
  refine lw T (wanted_yes rfl rfl (T.ev 2 rfl) rfl) (rn_lenS rfl Try.underlying27 (T.ev 0 rfl)) ?_; clear T ac; intro ac T
  refine lw T (wanted_yes rfl rfl (T.ev 3 rfl) rfl) (rn_gtr rfl (T.ev 0 rfl) evc) ?_; clear T ac; intro ac T
  refine lw T (wanted_yes rfl rfl (T.ev 4 rfl) rfl) (rn_move rfl (T.ev 0 rfl)) ?_; clear T ac; intro ac T
  rcases Bool.eq_false_or_eq_true (decide (0 < ((LLu11.length : Nat) : Int))) with h4 | h4
  ·replace h4 := of_decide_eq_true h4
   have hk0 := x0_at hx0 hB0 hd0 (by omega)
   refine lw T (wanted_yes rfl rfl (T.ev 0 rfl) (decide_eq_true h4)) (rn_move rfl (T.ev 9 rfl)) ?_; clear T ac; intro ac T
   refine lw T (wanted_yes rfl rfl (T.ev 1 rfl) (decide_eq_true h4)) (rn_lenS rfl Try.underlying22 (T.ev 0 rfl)) ?_; clear T ac; intro ac T
   refine lw (v := (.pointer (some ⟨g2, 4, none⟩))) T (wanted_yes rfl rfl (T.ev 2 rfl) (decide_eq_true h4)) (rn_fieldAddr (off := 4) rfl (T.ev 13 rfl) (fun _ _ _ => by kernel_rfl)) ?_; clear T ac; intro ac T
   refine lw T (wanted_yes rfl rfl (T.ev 3 rfl) (decide_eq_true h4)) (rn_one (Mem.nth M 0 rfl) rfl (T.ev 0 rfl) rfl) ?_; clear T ac; intro ac T
   refine lw T (wanted_yes rfl rfl (T.ev 4 rfl) (decide_eq_true h4)) (rn_indexAddr (size := 1) 0 rfl (T.ev 0 rfl) evc ⟨_, Try.underlying27, by kernel_rfl⟩ rfl (by omega) (Su11.at0 (by omega))) ?_; clear T ac; intro ac T
   refine lw (v := (.slice B0 x0.length d0)) T (wanted_yes rfl rfl (T.ev 5 rfl) (decide_eq_true h4)) (rn_cell (Sp.ls0 Su11 M (.cons _ (.cons _ (subL (subL (List.sublist_append_right _ _))))) hk0) rfl (T.ev 0 rfl)) ?_; clear T ac; intro ac T
   refine lw T (wanted_yes rfl rfl (T.ev 6 rfl) (decide_eq_true h4)) (rn_lenS rfl Try.underlying38 (T.ev 0 rfl)) ?_; clear T ac; intro ac T
   refine lw T (wanted_yes rfl rfl (T.ev 7 rfl) (decide_eq_true h4)) (rn_neq rfl (T.ev 5 rfl) (T.ev 0 rfl)) ?_; clear T ac; intro ac T
   refine lw T (wanted_yes rfl rfl (T.ev 13 rfl) rfl) (rn_pick1 rfl (T.ev 8 rfl) (decide_eq_true h4) (T.ev 0 rfl)) ?_; clear T ac; intro ac T
   refine lq T (rn_pick0 rfl (T.ev 14 rfl) rfl (T.ev 0 rfl)) ?_; clear T ac; intro ac T
   refine wpList_nil ?_
   replace T := T.pick [0, 19, 20, 21, 22] rfl
   exact ⟨(T.pick (E' := [(3, .pointer (some ⟨bpu1, 0, none⟩)), (18, .pointer (some ⟨g2, 0, none⟩)), (19, .slice Au12 gu12.length cu12), (20, .slice Au13 tmu13.length cu13), (192, .bool (!(decide (((tmu13.length : Nat) : Int) = ((x0.length : Nat) : Int)))))]) [4, 3, 2, 1, 0] rfl).as (by (try rw [show (decide (0 < ((LLu11.length : Nat) : Int))) = true from (decide_eq_true h4)]); (try rfl)), M.mask [true, true] rfl⟩
  replace h4 := of_decide_eq_false h4
  refine lp T (wanted_no rfl rfl (T.ev 0 rfl) (decide_eq_false h4)) ?_; clear T ac; intro ac T
  refine lp T (wanted_no rfl rfl (T.ev 1 rfl) (decide_eq_false h4)) ?_; clear T ac; intro ac T
  refine lp T (wanted_no rfl rfl (T.ev 2 rfl) (decide_eq_false h4)) ?_; clear T ac; intro ac T
  refine lp T (wanted_no rfl rfl (T.ev 3 rfl) (decide_eq_false h4)) ?_; clear T ac; intro ac T
  refine lp T (wanted_no rfl rfl (T.ev 4 rfl) (decide_eq_false h4)) ?_; clear T ac; intro ac T
  refine lp T (wanted_no rfl rfl (T.ev 5 rfl) (decide_eq_false h4)) ?_; clear T ac; intro ac T
  refine lp T (wanted_no rfl rfl (T.ev 6 rfl) (decide_eq_false h4)) ?_; clear T ac; intro ac T
  refine lp T (wanted_no rfl rfl (T.ev 7 rfl) (decide_eq_false h4)) ?_; clear T ac; intro ac T
  refine lw T (wanted_yes rfl rfl (T.ev 13 rfl) rfl) (rn_pick0 rfl (T.ev 8 rfl) (decide_eq_false h4) evc) ?_; clear T ac; intro ac T
  refine lq T (rn_pick0 rfl (T.ev 14 rfl) rfl (T.ev 0 rfl)) ?_; clear T ac; intro ac T
  refine wpList_nil ?_
  replace T := T.pick [0, 19, 20, 21, 22] rfl
  exact ⟨(T.pick (E' := [(3, .pointer (some ⟨bpu1, 0, none⟩)), (18, .pointer (some ⟨g2, 0, none⟩)), (19, .slice Au12 gu12.length cu12), (20, .slice Au13 tmu13.length cu13), (192, .bool false)]) [4, 3, 2, 1, 0] rfl).as (by (try rw [show (decide (0 < ((LLu11.length : Nat) : Int))) = false from (decide_eq_false h4)]); (try rfl)), M.mask [true, true] rfl⟩
 clear T M
 rintro ac wc ⟨T, M⟩
 refine wp_cond_false ((T.ev 4 rfl).trans (congrArg Value.bool (by rw [show (!(decide (((tmu13.length : Nat) : Int) = ((x0.length : Nat) : Int)))) = false from (by rw [show (decide (((tmu13.length : Nat) : Int) = ((x0.length : Nat) : Int))) = true from (decide_eq_true (by omega))]; rfl)]; exact Bool.and_false _))) ?_
 refine wp_skip ?_
 refine nm_then ?_
 refine wp_seq ?_
 refine wp_seq ?_
 refine wp_region_lit ?_
 refine lq T (rn_assign rfl evc) ?_; clear T ac; intro ac T
 refine wpList_nil ?_
 replace T := T.pick [0, 1, 2, 3, 4] rfl
 refine nm_then ?_
 refine wp_block ?_
 refine wp_loop_n (fun mz ac wc => ∃ (q : Nat) (s4 : Int), mz = notesP (rowsOf LLu11) - q ∧ (q ≤ notesP (rowsOf LLu11)) ∧ (u64ok s4) ∧ Tm ac 257 [(3, .pointer (some ⟨bpu1, 0, none⟩)), (18, .pointer (some ⟨g2, 0, none⟩)), (19, .slice Au12 gu12.length cu12), (20, .slice Au13 tmu13.length cu13), (21, .int .i64 (q : Int))] ∧ Mem w noEx wc ((g2, .cells [.int .i64 lu11.first, .int .i64 lu11.step, .int .i64 lu11.span, .int .i64 lu11.press, .slice Au11 LLu11.length cu11]) :: (bpu1, .cells [.int .u64 s4]) :: (Iu2 ++ Iu4 ++ Iu11 ++ Iu12 ++ Iu13))) ?_ ?_
 ·exact ⟨_, 0, _, rfl, (Nat.zero_le _), hsu12, T.pick [1, 2, 3, 4, 0] rfl, M.mask [true, true] rfl⟩
 clear T M
 rintro mz ac wc ⟨q, s4, hmm4, hq, hs4, T, M⟩
 refine wp_seq ?_
 refine cut_seq (fun ac wc => Tm ac 257 [(3, .pointer (some ⟨bpu1, 0, none⟩)), (18, .pointer (some ⟨g2, 0, none⟩)), (19, .slice Au12 gu12.length cu12), (20, .slice Au13 tmu13.length cu13), (21, .int .i64 (q : Int)), (205, .bool ((decide (0 < ((LLu11.length : Nat) : Int))) && (decide ((q : Int) < ((x0.length : Nat) : Int)))))] ∧ Mem w noEx wc ((g2, .cells [.int .i64 lu11.first, .int .i64 lu11.step, .int .i64 lu11.span, .int .i64 lu11.press, .slice Au11 LLu11.length cu11]) :: (bpu1, .cells [.int .u64 s4]) :: (Iu2 ++ Iu4 ++ Iu11 ++ Iu12 ++ Iu13))) ?_ ?_
 ·refine wp_region_lit ?_
  refine lq (v := (.pointer (some ⟨g2, 4, none⟩))) T (rn_fieldAddr (off := 4) rfl (T.ev 1 rfl) (fun _ _ _ => by kernel_rfl)) ?_; clear T ac; intro ac T
  refine lq T (rn_one (Mem.nth M 0 rfl) rfl (T.ev 0 rfl) rfl) ?_; clear T ac; intro ac T
  refine lq T (rn_lenS rfl Try.underlying27 (T.ev 0 rfl)) ?_; clear T ac; intro ac T
  refine lq T (rn_gtr rfl (T.ev 0 rfl) evc) ?_; clear T ac; intro ac T
  refine lq T (rn_move rfl (T.ev 0 rfl)) ?_; clear T ac; intro ac T
  rcases Bool.eq_false_or_eq_true (decide (0 < ((LLu11.length : Nat) : Int))) with h5 | h5
  ·replace h5 := of_decide_eq_true h5
   have hk0 := x0_at hx0 hB0 hd0 (by omega)
   refine lw T (wanted_yes rfl rfl (T.ev 0 rfl) (decide_eq_true h5)) (rn_move rfl (T.ev 9 rfl)) ?_; clear T ac; intro ac T
   refine lw (v := (.pointer (some ⟨g2, 4, none⟩))) T (wanted_yes rfl rfl (T.ev 1 rfl) (decide_eq_true h5)) (rn_fieldAddr (off := 4) rfl (T.ev 7 rfl) (fun _ _ _ => by kernel_rfl)) ?_; clear T ac; intro ac T
   refine lw T (wanted_yes rfl rfl (T.ev 2 rfl) (decide_eq_true h5)) (rn_one (Mem.nth M 0 rfl) rfl (T.ev 0 rfl) rfl) ?_; clear T ac; intro ac T
   refine lw T (wanted_yes rfl rfl (T.ev 3 rfl) (decide_eq_true h5)) (rn_indexAddr (size := 1) 0 rfl (T.ev 0 rfl) evc ⟨_, Try.underlying27, by kernel_rfl⟩ rfl (by omega) (Su11.at0 (by omega))) ?_; clear T ac; intro ac T
   refine lw (v := (.slice B0 x0.length d0)) T (wanted_yes rfl rfl (T.ev 4 rfl) (decide_eq_true h5)) (rn_cell (Sp.ls0 Su11 M (.cons _ (.cons _ (subL (subL (List.sublist_append_right _ _))))) hk0) rfl (T.ev 0 rfl)) ?_; clear T ac; intro ac T
   refine lw T (wanted_yes rfl rfl (T.ev 5 rfl) (decide_eq_true h5)) (rn_lenS rfl Try.underlying38 (T.ev 0 rfl)) ?_; clear T ac; intro ac T
   refine lw T (wanted_yes rfl rfl (T.ev 6 rfl) (decide_eq_true h5)) (rn_lss rfl (T.ev 5 rfl) (T.ev 0 rfl)) ?_; clear T ac; intro ac T
   refine lq T (rn_pick1 rfl (T.ev 7 rfl) (decide_eq_true h5) (T.ev 0 rfl)) ?_; clear T ac; intro ac T
   refine wpList_nil ?_
   replace T := T.pick [0, 1, 2, 3, 4, 5, 6, 7, 13, 14, 15, 16, 17] rfl
   exact ⟨(T.pick (E' := [(3, .pointer (some ⟨bpu1, 0, none⟩)), (18, .pointer (some ⟨g2, 0, none⟩)), (19, .slice Au12 gu12.length cu12), (20, .slice Au13 tmu13.length cu13), (21, .int .i64 (q : Int)), (205, .bool (decide ((q : Int) < ((x0.length : Nat) : Int))))]) [8, 9, 10, 11, 12, 0] rfl).as (by (try rw [show (decide (0 < ((LLu11.length : Nat) : Int))) = true from (decide_eq_true h5)]); (try rfl)), M.mask [true, true] rfl⟩
  replace h5 := of_decide_eq_false h5
  refine lp T (wanted_no rfl rfl (T.ev 0 rfl) (decide_eq_false h5)) ?_; clear T ac; intro ac T
  refine lp T (wanted_no rfl rfl (T.ev 1 rfl) (decide_eq_false h5)) ?_; clear T ac; intro ac T
  refine lp T (wanted_no rfl rfl (T.ev 2 rfl) (decide_eq_false h5)) ?_; clear T ac; intro ac T
  refine lp T (wanted_no rfl rfl (T.ev 3 rfl) (decide_eq_false h5)) ?_; clear T ac; intro ac T
  refine lp T (wanted_no rfl rfl (T.ev 4 rfl) (decide_eq_false h5)) ?_; clear T ac; intro ac T
  refine lp T (wanted_no rfl rfl (T.ev 5 rfl) (decide_eq_false h5)) ?_; clear T ac; intro ac T
  refine lp T (wanted_no rfl rfl (T.ev 6 rfl) (decide_eq_false h5)) ?_; clear T ac; intro ac T
  refine lq T (rn_pick0 rfl (T.ev 7 rfl) (decide_eq_false h5) evc) ?_; clear T ac; intro ac T
  refine wpList_nil ?_
  replace T := T.pick [0, 1, 2, 3, 4, 5, 6, 7, 13, 14, 15, 16, 17] rfl
  exact ⟨(T.pick (E' := [(3, .pointer (some ⟨bpu1, 0, none⟩)), (18, .pointer (some ⟨g2, 0, none⟩)), (19, .slice Au12 gu12.length cu12), (20, .slice Au13 tmu13.length cu13), (21, .int .i64 (q : Int)), (205, .bool false)]) [8, 9, 10, 11, 12, 0] rfl).as (by (try rw [show (decide (0 < ((LLu11.length : Nat) : Int))) = false from (decide_eq_false h5)]); (try rfl)), M.mask [true, true] rfl⟩
 clear T M
 rintro ac wc ⟨T, M⟩
 refine wp_cond_split (T.ev 5 rfl) ?_ ?_
 ·intro h6
  (try have h6' := h6; try simp only [Bool.and_eq_true, Bool.or_eq_true, Bool.not_eq_true', Bool.and_eq_false_imp, Bool.or_eq_false_iff, decide_eq_true_eq, decide_eq_false_iff_not] at h6')
  have hcd : 0 < LLu11.length ∧ q < x0.length := by have h8 := h6; simp only [Bool.and_eq_true, decide_eq_true_eq] at h8; omega
  obtain ⟨tv5, hkt5, -⟩ := ic_next (l := tmu13) (k := q) (by omega)
  have htv5 : tv5 = keepsP lu11 (lu11.first + lu11.step * (q : Int)) (voicesP (rowsOf LLu11) gu12 q) := tremP_at (by rw [← htmu13]; exact hkt5)
  have gdd := hSu11.dues q (by omega)
  have ⟨gl1, gl2, gl3, gl4⟩ := hSu11.law
  simp only [dueO, decide_eq_true_eq] at gdd
  have hgi : ∀ r ∈ gu12, 0 ≤ r ∧ r < ((rowsOf LLu11).length : Nat) := fun r hr => hau12.2 r hr
  have gvs := voicesP_good hSu11 hgi (show q < notesP (rowsOf LLu11) by omega)
  obtain ⟨ts5, hts⟩ : ∃ q9, q9 = voicesP (rowsOf LLu11) gu12 q := ⟨_, rfl⟩
  rw [← hts] at htv5 gvs
  have hts5 : ts5.length = gu12.length := by rw [hts]; simp [voicesP]
  refine wp_skip ?_
  refine nm_then ?_
  refine wp_seq ?_
  refine wp_block ?_
  refine wp_seq ?_
  refine wp_region_lit ?_
  refine lq T (rn_assign rfl evc) ?_; clear T ac; intro ac T
  refine wpList_nil ?_
  replace T := T.pick [0, 1, 2, 3, 4, 5] rfl
  refine nm_then ?_
  refine wp_seq ?_
  refine wp_region_lit ?_
  refine l_w rfl ?_; intro K hK
  refine ow_al M T rfl rfl rfl rfl ?_; clear M T; intro g3 wc ac M T
  refine sh_out hK _ _ ?_; clear hK K
  refine wpList_nil ?_
  refine nm_then ?_
  refine wp_seq ?_
  refine wp_seq ?_
  refine wp_region_lit ?_
  refine lq T (rn_assign rfl evc) ?_; clear T ac; intro ac T
  refine wpList_nil ?_
  refine nm_then ?_
  refine wp_block ?_
  refine wp_loop_n (fun mz ac wc => ∃ (m : Nat) (bt bs : Int) (isv : Bool) (s5 : Int), mz = gu12.length - m ∧ (m ≤ gu12.length) ∧ (ChQ lu11 (lu11.first + lu11.step * (q : Int)) ts5 m (bt, bs) isv) ∧ (u64ok s5) ∧ ((-30 ≤ bt ∧ bt ≤ 30) ∧ -3 ≤ bs ∧ bs ≤ 3) ∧ Tm ac 257 [(3, .pointer (some ⟨bpu1, 0, none⟩)), (18, .pointer (some ⟨g2, 0, none⟩)), (19, .slice Au12 gu12.length cu12), (20, .slice Au13 tmu13.length cu13), (21, .int .i64 (q : Int)), (22, .bool isv), (23, .pointer (some ⟨g3, 0, none⟩)), (24, .int .i64 (m : Int))] ∧ Mem w noEx wc ((g3, .cells [.int .i64 bt, .int .i64 bs]) :: (g2, .cells [.int .i64 lu11.first, .int .i64 lu11.step, .int .i64 lu11.span, .int .i64 lu11.press, .slice Au11 LLu11.length cu11]) :: (bpu1, .cells [.int .u64 s5]) :: (Iu2 ++ Iu4 ++ Iu11 ++ Iu12 ++ Iu13))) ?_ ?_
  ·exact ⟨_, 0, 0, 0, true, _, rfl, (Nat.zero_le _), (ChQ.start _ _ _ _), hs4, (by omega), T.pick [3, 4, 5, 6, 7, 2, 1, 0] rfl, M.mask [true, true, true] rfl⟩
  clear T M
  rintro mz ac wc ⟨m, bt, bs, isv, s5, hmm5, hm5, hch, hs5, hbd, T, M⟩
  refine wp_seq ?_
  refine wp_seq ?_
  refine wp_region_lit ?_
  refine lq T (rn_move rfl (T.ev 7 rfl)) ?_; clear T ac; intro ac T
  refine lq T (rn_move rfl (T.ev 3 rfl)) ?_; clear T ac; intro ac T
  refine lq T (rn_lenS rfl Try.underlying22 (T.ev 0 rfl)) ?_; clear T ac; intro ac T
  refine lq T (rn_lss rfl (T.ev 2 rfl) (T.ev 0 rfl)) ?_; clear T ac; intro ac T
  refine wpList_nil ?_
  replace T := T.pick [0, 4, 5, 6, 7, 8, 9, 10, 11] rfl
  refine nm_then ?_
  refine wp_if (T.ev 0 rfl) ?_ ?_
  ·intro h7
   obtain ⟨r, hkr5, -⟩ := ic_next (l := gu12) (k := m) (by omega)
   have hrb := hgi r (List.mem_of_getElem? hkr5)
   rw [show (rowsOf LLu11).length = LLu11.length by simp] at hrb
   obtain ⟨rk, hrk⟩ : ∃ q9 : Nat, r = (q9 : Int) := ⟨r.toNat, by omega⟩
   obtain ⟨⟨x5, B5, d5⟩, hkx5⟩ : ∃ x9, LLu11[rk]? = some x9 := ⟨_, List.getElem?_eq_getElem (by omega)⟩
   obtain ⟨b5, o5, hS5⟩ := Eu11 _ (List.mem_of_getElem? hkx5)
   have S5 := hS5 w noEx
   dsimp only at S5
   have hx5 := hSu11.rows x5 (List.mem_map.2 ⟨_, List.mem_of_getElem? hkx5, rfl⟩)
   obtain ⟨y, hky9, -⟩ := sc_next (l := x5) (k := q) (by omega)
   have gy := hx5.2.2 y (List.mem_of_getElem? hky9)
   have ⟨gy1, gy2⟩ := gy
   have hky5 : ts5[m]? = some y := by rw [hts, voicesP, List.getElem?_map, hkr5]; show some (voiceP _ _ _) = _; rw [voiceP_at hkx5 hrk hky9]
   refine wp_skip ?_
   refine nm_then ?_
   refine wp_seq ?_
   refine wp_block ?_
   refine wp_seq ?_
   refine g_start2 M (M.mask [true, true, false] rfl) 15 (by kernel_rfl) rfl (by kernel_rfl) ?_
   clear M; intro wc M
   refine g_addG 12 M ?_
   refine g_have (fun ac wc => ∃ (tur38_12 : Int), ∃ (rur38_12 : Int), ∃ (sur38_12 : Int), (y.t0 ≤ tur38_12 ∧ tur38_12 ≤ y.t1 ∧ y.s0 ≤ rur38_12 ∧ rur38_12 ≤ y.s1) ∧ (u64ok sur38_12) ∧ ∃ (gr38_13 : Nat), Tm ac 257 [(25, .pointer (some ⟨gr38_13, 0, none⟩)), (226, .agg #[.int .i64 tur38_12, .int .i64 rur38_12]), (225, .agg #[.int .i64 y.t0, .int .i64 y.t1, .int .i64 y.s0, .int .i64 y.s1]), (224, .pointer (some ⟨b5, o5 + q * 4, none⟩)), (223, .int .i64 (q : Int)), (222, .slice B5 x5.length d5), (221, .pointer (some ⟨bu11, ou11 + rk * 1, none⟩)), (220, .int .i64 r), (219, .pointer (some ⟨bu12, ou12 + m * 1, none⟩)), (218, .int .i64 (m : Int)), (217, .slice Au12 gu12.length cu12), (216, .slice Au11 LLu11.length cu11), (215, .pointer (some ⟨g2, 4, none⟩)), (214, .pointer (some ⟨bpu1, 0, none⟩)), (211, .bool (decide ((m : Int) < ((gu12.length : Nat) : Int)))), (3, .pointer (some ⟨bpu1, 0, none⟩)), (18, .pointer (some ⟨g2, 0, none⟩)), (19, .slice Au12 gu12.length cu12), (20, .slice Au13 tmu13.length cu13), (21, .int .i64 (q : Int)), (22, .bool isv), (23, .pointer (some ⟨g3, 0, none⟩)), (24, .int .i64 (m : Int))] ∧ Mem w noEx wc ((gr38_13, .cells [.int .i64 0, .int .i64 0]) :: (g3, .cells [.int .i64 bt, .int .i64 bs]) :: (g2, .cells [.int .i64 lu11.first, .int .i64 lu11.step, .int .i64 lu11.span, .int .i64 lu11.press, .slice Au11 LLu11.length cu11]) :: (bpu1, .cells [.int .u64 sur38_12]) :: (Iu2 ++ Iu4 ++ Iu11 ++ Iu12 ++ Iu13))) (pbits 15 16383) 1 ?_ ?_
   ·clear T M
    rintro ac wc ⟨tur38_12, rur38_12, sur38_12, hxur38_12, hsur38_12, gr38_13, T, M⟩
    refine gw 14 32767 ?_; intro K hK
    refine ow_stO M T rfl rfl (T.ev 0 rfl) (T.ev 1 rfl) rfl .head rfl (by simp) rfl (by kernel_rfl) ?_; clear M T; intro wc ac M T
    refine sh_out hK _ _ (MA.mk (fun h => (no_of (by kernel_rfl) h).elim) (M.mask [false, true, true, false] rfl)) ?_; clear hK K
    refine g_done (by kernel_rfl) ?_
    replace T := T.pick [0, 15, 16, 17, 18, 19, 20, 21, 22] rfl
    refine nm_then ?_
    refine cut_seq (fun ac wc => Tm ac 257 [(3, .pointer (some ⟨bpu1, 0, none⟩)), (18, .pointer (some ⟨g2, 0, none⟩)), (19, .slice Au12 gu12.length cu12), (20, .slice Au13 tmu13.length cu13), (21, .int .i64 (q : Int)), (22, .bool (isv && ((decide ((m : Int) = 0)) || (agreeP lu11 (lu11.first + (lu11.step * (q : Int))) (tur38_12 - bt) (rur38_12 - bs))))), (23, .pointer (some ⟨g3, 0, none⟩)), (24, .int .i64 (m : Int)), (25, .pointer (some ⟨gr38_13, 0, none⟩))] ∧ Mem w noEx wc ((gr38_13, .cells [.int .i64 tur38_12, .int .i64 rur38_12]) :: (g3, .cells [.int .i64 bt, .int .i64 bs]) :: (g2, .cells [.int .i64 lu11.first, .int .i64 lu11.step, .int .i64 lu11.span, .int .i64 lu11.press, .slice Au11 LLu11.length cu11]) :: (bpu1, .cells [.int .u64 sur38_12]) :: (Iu2 ++ Iu4 ++ Iu11 ++ Iu12 ++ Iu13))) ?_ ?_
    ·refine wp_region_lit ?_
     refine lq T (rn_move rfl (T.ev 6 rfl)) ?_; clear T ac; intro ac T
     refine lq T (rn_move rfl (T.ev 0 rfl)) ?_; clear T ac; intro ac T
     rcases Bool.eq_false_or_eq_true isv with h8 | h8
     ·refine lw T (wanted_yes rfl rfl (T.ev 0 rfl) h8) (rn_move rfl (T.ev 10 rfl)) ?_; clear T ac; intro ac T
      refine lw T (wanted_yes rfl rfl (T.ev 1 rfl) h8) (rn_eql rfl (T.ev 0 rfl) evc) ?_; clear T ac; intro ac T
      refine lw T (wanted_yes rfl rfl (T.ev 2 rfl) h8) (rn_move rfl (T.ev 0 rfl)) ?_; clear T ac; intro ac T
      rcases Bool.eq_false_or_eq_true (decide ((m : Int) = 0)) with h9 | h9
      ·replace h9 := of_decide_eq_true h9
       refine lp T (wanted_no rfl rfl (T.ev 0 rfl) (decide_eq_true h9)) ?_; clear T ac; intro ac T
       refine lp T (wanted_no rfl rfl (T.ev 1 rfl) (decide_eq_true h9)) ?_; clear T ac; intro ac T
       refine lp T (wanted_no rfl rfl (T.ev 2 rfl) (decide_eq_true h9)) ?_; clear T ac; intro ac T
       refine lp T (wanted_no rfl rfl (T.ev 3 rfl) (decide_eq_true h9)) ?_; clear T ac; intro ac T
       refine lp T (wanted_no rfl rfl (T.ev 4 rfl) (decide_eq_true h9)) ?_; clear T ac; intro ac T
       refine lp T (wanted_no rfl rfl (T.ev 5 rfl) (decide_eq_true h9)) ?_; clear T ac; intro ac T
       refine lp T (wanted_no rfl rfl (T.ev 6 rfl) (decide_eq_true h9)) ?_; clear T ac; intro ac T
       refine lp T (wanted_no rfl rfl (T.ev 7 rfl) (decide_eq_true h9)) ?_; clear T ac; intro ac T
       refine lp T (wanted_no rfl rfl (T.ev 8 rfl) (decide_eq_true h9)) ?_; clear T ac; intro ac T
       refine lp T (wanted_no rfl rfl (T.ev 9 rfl) (decide_eq_true h9)) ?_; clear T ac; intro ac T
       refine lp T (wanted_no rfl rfl (T.ev 10 rfl) (decide_eq_true h9)) ?_; clear T ac; intro ac T
       refine lp T (wanted_no rfl rfl (T.ev 11 rfl) (decide_eq_true h9)) ?_; clear T ac; intro ac T
       refine lp T (wanted_no rfl rfl (T.ev 12 rfl) (decide_eq_true h9)) ?_; clear T ac; intro ac T
       refine lp T (wanted_no rfl rfl (T.ev 13 rfl) (decide_eq_true h9)) ?_; clear T ac; intro ac T
       refine lw T (wanted_yes rfl rfl (T.ev 17 rfl) h8) (rn_pick1 rfl (T.ev 14 rfl) (decide_eq_true h9) evc) ?_; clear T ac; intro ac T
       refine lq T (rn_pick1 rfl (T.ev 18 rfl) h8 (T.ev 0 rfl)) ?_; clear T ac; intro ac T
       refine l_q (v := (.bool true)) (T.pick [0, 1, 2, 3, 4, 5, 6, 7, 8, 9, 10, 11, 12, 13, 14, 15, 16, 17, 18, 19, 20, 21, 22, 23, 24, 25, 26, 28, 29] rfl) rfl rfl rfl rfl (rn_assign rfl (T.ev 0 rfl)) ?_; clear T ac; intro ac T
       refine wpList_nil ?_
       replace T := T.pick [0, 2, 3, 4, 5, 6, 7, 8, 9, 10, 11, 12, 13, 14, 15, 16, 17, 18, 19, 22, 23, 24, 25, 26, 27, 28, 29] rfl
       exact ⟨(T.pick (E' := [(3, .pointer (some ⟨bpu1, 0, none⟩)), (18, .pointer (some ⟨g2, 0, none⟩)), (19, .slice Au12 gu12.length cu12), (20, .slice Au13 tmu13.length cu13), (21, .int .i64 (q : Int)), (22, .bool true), (23, .pointer (some ⟨g3, 0, none⟩)), (24, .int .i64 (m : Int)), (25, .pointer (some ⟨gr38_13, 0, none⟩))]) [20, 21, 22, 23, 24, 0, 25, 26, 19] rfl).as (by (try rw [show isv = true from h8]); (try rw [show (decide ((m : Int) = 0)) = true from (decide_eq_true h9)]); (try rfl)), M.mask [true, true, true, true] rfl⟩
      replace h9 := of_decide_eq_false h9
      refine lw (v := (.pointer (some ⟨g2, 0, none⟩))) T (wanted_yes rfl rfl (T.ev 0 rfl) (decide_eq_false h9)) (rn_fieldAddr (off := 0) rfl (T.ev 7 rfl) (fun _ _ _ => by kernel_rfl)) ?_; clear T ac; intro ac T
      refine lw T (wanted_yes rfl rfl (T.ev 1 rfl) (decide_eq_false h9)) (rn_rowO (Mem.nth M 2 rfl) rfl (T.ev 0 rfl) rfl) ?_; clear T ac; intro ac T
      refine lw (v := (.pointer (some ⟨g2, 0, none⟩))) T (wanted_yes rfl rfl (T.ev 2 rfl) (decide_eq_false h9)) (rn_fieldAddr (off := 0) rfl (T.ev 9 rfl) (fun _ _ _ => by kernel_rfl)) ?_; clear T ac; intro ac T
      refine lw (v := (.pointer (some ⟨g2, 0, none⟩))) T (wanted_yes rfl rfl (T.ev 3 rfl) (decide_eq_false h9)) (rn_fieldAddr (off := 0) rfl (T.ev 0 rfl) (fun _ _ _ => by kernel_rfl)) ?_; clear T ac; intro ac T
      refine lw T (wanted_yes rfl rfl (T.ev 4 rfl) (decide_eq_false h9)) (rn_one (Mem.nth M 2 rfl) rfl (T.ev 0 rfl) rfl) ?_; clear T ac; intro ac T
      refine lw (v := (.pointer (some ⟨g2, 0, none⟩))) T (wanted_yes rfl rfl (T.ev 5 rfl) (decide_eq_false h9)) (rn_fieldAddr (off := 0) rfl (T.ev 12 rfl) (fun _ _ _ => by kernel_rfl)) ?_; clear T ac; intro ac T
      refine lw (v := (.pointer (some ⟨g2, 1, none⟩))) T (wanted_yes rfl rfl (T.ev 6 rfl) (decide_eq_false h9)) (rn_fieldAddr (off := 1) rfl (T.ev 0 rfl) (fun _ _ _ => by kernel_rfl)) ?_; clear T ac; intro ac T
      refine lw T (wanted_yes rfl rfl (T.ev 7 rfl) (decide_eq_false h9)) (rn_one (Mem.nth M 2 rfl) rfl (T.ev 0 rfl) rfl) ?_; clear T ac; intro ac T
      refine lw T (wanted_yes rfl rfl (T.ev 8 rfl) (decide_eq_false h9)) (rn_move rfl (T.ev 18 rfl)) ?_; clear T ac; intro ac T
      refine lw T (wanted_yes rfl rfl (T.ev 9 rfl) (decide_eq_false h9)) (rn_mul rfl (T.ev 1 rfl) (T.ev 0 rfl) (by omega)) ?_; clear T ac; intro ac T
      refine lw T (wanted_yes rfl rfl (T.ev 10 rfl) (decide_eq_false h9)) (rn_add rfl (T.ev 5 rfl) (T.ev 0 rfl) (by omega)) ?_; clear T ac; intro ac T
      refine lw T (wanted_yes rfl rfl (T.ev 11 rfl) (decide_eq_false h9)) (rn_rowO (Mem.nth M 1 rfl) rfl (T.ev 23 rfl) rfl) ?_; clear T ac; intro ac T
      refine lw T (wanted_yes rfl rfl (T.ev 12 rfl) (decide_eq_false h9)) (rn_rowO (Mem.nth M 0 rfl) rfl (T.ev 17 rfl) rfl) ?_; clear T ac; intro ac T
      refine l_w (wanted_yes rfl rfl (T.ev 13 rfl) (decide_eq_false h9)) ?_; intro K hK
      refine ow_call (first := []) (cap := []) T rfl rfl rfl rfl evf (.cons (T.ev 11 rfl) (.cons (T.ev 2 rfl) (.cons (T.ev 1 rfl) (.cons (T.ev 0 rfl) .nil)))) Try.func25 rfl rfl ?_
      refine Calls.mono (kkeeps_any lu11 (lu11.first + (lu11.step * (q : Int))) bt bs tur38_12 rur38_12 _ (by (try dsimp only); omega) (by (try dsimp only); omega) (by (try dsimp only); omega) (by (try dsimp only); omega) (by (try dsimp only); omega) (by (try dsimp only); omega) (by (try dsimp only); omega)) ?_
      clear T
      rintro e wc ⟨rfl, hb⟩
      intro ac T
      replace M := M.call hb; clear hb
      refine sh_out hK _ _ ?_; clear hK K
      refine lw T (wanted_yes rfl rfl (T.ev 17 rfl) h8) (rn_pick0 rfl (T.ev 14 rfl) (decide_eq_false h9) (T.ev 0 rfl)) ?_; clear T ac; intro ac T
      refine lq T (rn_pick1 rfl (T.ev 18 rfl) h8 (T.ev 0 rfl)) ?_; clear T ac; intro ac T
      refine l_q (v := (.bool (agreeP lu11 (lu11.first + (lu11.step * (q : Int))) (tur38_12 - bt) (rur38_12 - bs)))) (T.pick [0, 1, 2, 3, 4, 5, 6, 7, 8, 9, 10, 11, 12, 13, 14, 15, 16, 17, 18, 19, 20, 21, 22, 23, 24, 25, 26, 28, 29] rfl) rfl rfl rfl rfl (rn_assign rfl (T.ev 0 rfl)) ?_; clear T ac; intro ac T
      refine wpList_nil ?_
      replace T := T.pick [0, 2, 3, 4, 5, 6, 7, 8, 9, 10, 11, 12, 13, 14, 15, 16, 17, 18, 19, 22, 23, 24, 25, 26, 27, 28, 29] rfl
      exact ⟨(T.pick (E' := [(3, .pointer (some ⟨bpu1, 0, none⟩)), (18, .pointer (some ⟨g2, 0, none⟩)), (19, .slice Au12 gu12.length cu12), (20, .slice Au13 tmu13.length cu13), (21, .int .i64 (q : Int)), (22, .bool (agreeP lu11 (lu11.first + (lu11.step * (q : Int))) (tur38_12 - bt) (rur38_12 - bs))), (23, .pointer (some ⟨g3, 0, none⟩)), (24, .int .i64 (m : Int)), (25, .pointer (some ⟨gr38_13, 0, none⟩))]) [20, 21, 22, 23, 24, 0, 25, 26, 19] rfl).as (by (try rw [show isv = true from h8]); (try rw [show (decide ((m : Int) = 0)) = false from (decide_eq_false h9)]); (try rfl)), M.mask [true, true, true, true] rfl⟩
     refine lp T (wanted_no rfl rfl (T.ev 0 rfl) h8) ?_; clear T ac; intro ac T
     refine lp T (wanted_no rfl rfl (T.ev 1 rfl) h8) ?_; clear T ac; intro ac T
     refine lp T (wanted_no rfl rfl (T.ev 2 rfl) h8) ?_; clear T ac; intro ac T
     refine lp T (wanted_un rfl rfl (T.ev 0 rfl)) ?_; clear T ac; intro ac T
     refine lp T (wanted_un rfl rfl (T.ev 1 rfl)) ?_; clear T ac; intro ac T
     refine lp T (wanted_un rfl rfl (T.ev 2 rfl)) ?_; clear T ac; intro ac T
     refine lp T (wanted_un rfl rfl (T.ev 3 rfl)) ?_; clear T ac; intro ac T
     refine lp T (wanted_un rfl rfl (T.ev 4 rfl)) ?_; clear T ac; intro ac T
     refine lp T (wanted_un rfl rfl (T.ev 5 rfl)) ?_; clear T ac; intro ac T
     refine lp T (wanted_un rfl rfl (T.ev 6 rfl)) ?_; clear T ac; intro ac T
     refine lp T (wanted_un rfl rfl (T.ev 7 rfl)) ?_; clear T ac; intro ac T
     refine lp T (wanted_un rfl rfl (T.ev 8 rfl)) ?_; clear T ac; intro ac T
     refine lp T (wanted_un rfl rfl (T.ev 9 rfl)) ?_; clear T ac; intro ac T
     refine lp T (wanted_un rfl rfl (T.ev 10 rfl)) ?_; clear T ac; intro ac T
     refine lp T (wanted_un rfl rfl (T.ev 11 rfl)) ?_; clear T ac; intro ac T
     refine lp T (wanted_un rfl rfl (T.ev 12 rfl)) ?_; clear T ac; intro ac T
     refine lp T (wanted_un rfl rfl (T.ev 13 rfl)) ?_; clear T ac; intro ac T
     refine lp T (wanted_no rfl rfl (T.ev 17 rfl) h8) ?_; clear T ac; intro ac T
     refine lq T (rn_pick0 rfl (T.ev 18 rfl) h8 evc) ?_; clear T ac; intro ac T
     refine l_q (v := (.bool false)) (T.pick [0, 1, 2, 3, 4, 5, 6, 7, 8, 9, 10, 11, 12, 13, 14, 15, 16, 17, 18, 19, 20, 21, 22, 23, 24, 25, 26, 28, 29] rfl) rfl rfl rfl rfl (rn_assign rfl (T.ev 0 rfl)) ?_; clear T ac; intro ac T
     refine wpList_nil ?_
     replace T := T.pick [0, 2, 3, 4, 5, 6, 7, 8, 9, 10, 11, 12, 13, 14, 15, 16, 17, 18, 19, 22, 23, 24, 25, 26, 27, 28, 29] rfl
     exact ⟨(T.pick (E' := [(3, .pointer (some ⟨bpu1, 0, none⟩)), (18, .pointer (some ⟨g2, 0, none⟩)), (19, .slice Au12 gu12.length cu12), (20, .slice Au13 tmu13.length cu13), (21, .int .i64 (q : Int)), (22, .bool false), (23, .pointer (some ⟨g3, 0, none⟩)), (24, .int .i64 (m : Int)), (25, .pointer (some ⟨gr38_13, 0, none⟩))]) [20, 21, 22, 23, 24, 0, 25, 26, 19] rfl).as (by (try rw [show isv = false from h8]); (try rfl)), M.mask [true, true, true, true] rfl⟩
    clear T M
    rintro ac wc ⟨T, M⟩
    refine wp_region_lit ?_
    refine lq T (rn_rowO (Mem.nth M 0 rfl) rfl (T.ev 8 rfl) rfl) ?_; clear T ac; intro ac T
    refine l_w rfl ?_; intro K hK
    refine ow_stO M T rfl rfl (T.ev 7 rfl) (T.ev 0 rfl) rfl (.tail .head) rfl (by simp) rfl (by kernel_rfl) ?_; clear M T; intro wc ac M T
    refine sh_out hK _ _ ?_; clear hK K
    refine wpList_nil ?_
    replace T := T.pick [1, 2, 3, 4, 5, 6, 7, 8] rfl
    replace M := M.mask [false, true, true, true] rfl
    refine nm_blk ?_
    refine nm_then ?_
    refine wp_region_lit ?_
    refine lq T (rn_move rfl (T.ev 7 rfl)) ?_; clear T ac; intro ac T
    refine lq T (rn_add rfl (T.ev 0 rfl) evc (by omega)) ?_; clear T ac; intro ac T
    refine l_q (v := (.int .i64 ((m : Int) + 1))) (T.pick [0, 1, 2, 3, 4, 5, 6, 7, 8] rfl) rfl rfl rfl rfl (rn_assign rfl (T.ev 0 rfl)) ?_; clear T ac; intro ac T
    refine wpList_nil ?_
    replace T := T.pick [0, 3, 4, 5, 6, 7, 8, 9] rfl
    refine nm_then ?_
    exact ⟨_, by omega, m + 1, tur38_12, rur38_12, (isv && ((decide ((m : Int) = 0)) || (agreeP lu11 (lu11.first + (lu11.step * (q : Int))) (tur38_12 - bt) (rur38_12 - bs)))), sur38_12, rfl, (by omega), (by have h9 := hch.step (v' := (tur38_12, rur38_12)) hky5 gvs (by omega) (mem_allOf.2 ⟨by dsimp only; omega, by dsimp only; omega⟩); (try dsimp only at h9); exact chq_as h9 (by cases isv <;> by_cases c1 : (m : Int) = 0 <;> simp [c1])), hsur38_12, (by omega), T.pick [1, 2, 3, 4, 5, 6, 7, 0] rfl, M.mask [true, true, true] rfl⟩
   intro H0
   refine gq T 0 1 rfl (fun _ _ _ _ _ => (rn_move rfl (T.ev 1 rfl))) ?_; clear T ac; intro ac T
   refine gq (v := (.pointer (some ⟨g2, 4, none⟩))) T 1 3 rfl (fun _ _ _ _ _ => (rn_fieldAddr (off := 4) rfl (T.ev 3 rfl) (fun _ _ _ => by kernel_rfl))) ?_; clear T ac; intro ac T
   refine gq T 2 7 rfl (fun B w' hD hl hS => (rn_one (Mem.nth (show Mem w noEx w' _ from ((MA.lft hS) (hD.wait (i := 11) (m := 12) (by kernel_rfl) (hD.wait (i := 10) (m := 11) (by kernel_rfl) (hD.wait (i := 8) (m := 10) (by kernel_rfl) (hD.wait (i := 7) (m := 8) (by kernel_rfl) (hD.wait (i := 2) (m := 7) (by kernel_rfl) hl))))))) 1 rfl) rfl (T.ev 0 rfl) rfl)) ?_; clear T ac; intro ac T
   refine gq T 3 15 rfl (fun _ _ _ _ _ => (rn_move rfl (T.ev 6 rfl))) ?_; clear T ac; intro ac T
   refine gq T 4 31 rfl (fun _ _ _ _ _ => (rn_move rfl (T.ev 12 rfl))) ?_; clear T ac; intro ac T
   refine gq T 5 63 rfl (fun _ _ _ _ _ => (rn_indexAddr (size := 1) m rfl (T.ev 1 rfl) (T.ev 0 rfl) ⟨_, Try.underlying22, by kernel_rfl⟩ rfl (by omega) (Su12.at0 (by omega)))) ?_; clear T ac; intro ac T
   refine gq T 6 127 rfl (fun B w' hD hl hS => (rn_cell (Sp.ic0 Su12 (show Mem w noEx w' _ from ((MA.lft hS) (hD.wait (i := 11) (m := 12) (by kernel_rfl) (hD.wait (i := 10) (m := 11) (by kernel_rfl) (hD.wait (i := 8) (m := 10) (by kernel_rfl) (hD.wait (i := 7) (m := 8) (by kernel_rfl) (hD.wait (i := 6) (m := 7) (by kernel_rfl) hl))))))) (.cons _ (.cons _ (.cons _ (subL (List.sublist_append_right _ _))))) hkr5) rfl (T.ev 0 rfl))) ?_; clear T ac; intro ac T
   refine gq T 7 255 rfl (fun _ _ _ _ _ => (rn_indexAddr (size := 1) rk rfl (T.ev 4 rfl) (T.ev 0 rfl) ⟨_, Try.underlying27, by kernel_rfl⟩ hrk (by omega) (Su11.at0 (by omega)))) ?_; clear T ac; intro ac T
   refine gq (v := (.slice B5 x5.length d5)) T 8 511 rfl (fun B w' hD hl hS => (rn_cell (Sp.ls0 Su11 (show Mem w noEx w' _ from ((MA.lft hS) (hD.wait (i := 11) (m := 12) (by kernel_rfl) (hD.wait (i := 10) (m := 11) (by kernel_rfl) (hD.wait (i := 8) (m := 10) (by kernel_rfl) hl))))) (.cons _ (.cons _ (.cons _ (subL (subL (List.sublist_append_right _ _)))))) hkx5) rfl (T.ev 0 rfl))) ?_; clear T ac; intro ac T
   refine gq T 9 1023 rfl (fun _ _ _ _ _ => (rn_move rfl (T.ev 14 rfl))) ?_; clear T ac; intro ac T
   refine gq T 10 2047 rfl (fun _ _ _ _ _ => (rn_indexAddr (size := 4) q rfl (T.ev 1 rfl) (T.ev 0 rfl) ⟨_, Try.underlying38, by kernel_rfl⟩ rfl (by omega) (S5.at0 (by omega)))) ?_; clear T ac; intro ac T
   refine gq (v := (.agg #[.int .i64 y.t0, .int .i64 y.t1, .int .i64 y.s0, .int .i64 y.s1])) T 11 4095 rfl (fun B w' hD hl hS => (rn_rowat (Sp.scR4 S5 (show Mem w noEx w' _ from ((MA.lft hS) (hD.wait (i := 11) (m := 12) (by kernel_rfl) hl))) (.cons _ (.cons _ (.cons _ (subL (subL (List.sublist_append_right _ _)))))) hky9) rfl (T.ev 0 rfl) rfl)) ?_; clear T ac; intro ac T
   refine g_m2 (i := 12) (j := 13) (by kernel_rfl) ?_ ?_
   ·refine gi 8191 ?_; intro K hK
    refine ow_call (first := []) (cap := []) T rfl rfl rfl rfl evf (.cons (T.ev 11 rfl) (.cons (T.ev 0 rfl) .nil)) Try.func42 rfl rfl ?_
    refine Calls.mono (sungOf_any _ bpu1 y _ gy (M.nth 2 rfl) hs5) ?_
    clear T
    rintro e wc ⟨tur38_12, rur38_12, sur38_12, hxur38_12, hsur38_12, rfl, hgr, hbk⟩
    intro ac T
    replace M := M.callC (cs' := [.int .u64 sur38_12]) (.tail (.tail .head)) hgr hbk
    clear hgr hbk
    refine sh_out hK _ _ (MA.mk (fun h => (no_of (by kernel_rfl) h).elim) (M.mask [true, true, false] rfl)) ?_; clear hK K
    refine gw 13 16383 ?_; intro K hK
    refine ow_al M T rfl rfl rfl rfl ?_; clear M T; intro gr38_13 wc ac M T
    refine sh_out hK _ _ (MA.mk (fun h => (no_of (by kernel_rfl) h).elim) (M.mask [false, true, true, false] rfl)) ?_; clear hK K
    exact H0 _ _ ⟨tur38_12, rur38_12, sur38_12, hxur38_12, hsur38_12, gr38_13, T, M⟩
   refine gi 12287 ?_; intro K hK
   refine ow_al M T rfl rfl rfl rfl ?_; clear M T; intro gr38_13 wc ac M T
   refine sh_out hK _ _ (MA.mk (fun _ => M.mask [false, true, true, true] rfl) (M.mask [false, true, true, false] rfl)) ?_; clear hK K
   refine gw 12 16383 ?_; intro K hK
   refine ow_call (first := []) (cap := []) T rfl rfl rfl rfl evf (.cons (T.ev 12 rfl) (.cons (T.ev 1 rfl) .nil)) Try.func42 rfl rfl ?_
   refine Calls.mono (sungOf_any _ bpu1 y _ gy (M.nth 3 rfl) hs5) ?_
   clear T
   rintro e wc ⟨tur38_12, rur38_12, sur38_12, hxur38_12, hsur38_12, rfl, hgr, hbk⟩
   intro ac T
   replace M := M.callC (cs' := [.int .u64 sur38_12]) (.tail (.tail (.tail .head))) hgr hbk
   clear hgr hbk
   refine sh_out hK _ _ (MA.mk (fun h => (no_of (by kernel_rfl) h).elim) (M.mask [false, true, true, false] rfl)) ?_; clear hK K
   exact H0 _ _ ⟨tur38_12, rur38_12, sur38_12, hxur38_12, hsur38_12, gr38_13, T.pick [1, 0, 2, 3, 4, 5, 6, 7, 8, 9, 10, 11, 12, 13, 14, 15, 16, 17, 18, 19, 20, 21, 22] rfl, M⟩
  intro h7
  refine wp_exit ?_
  refine ex_then ?_
  refine ex_then ?_
  refine ex_hit ?_
  refine nm_then ?_
  refine wp_seq ?_
  refine wp_region_lit ?_
  refine lq T (rn_move rfl (T.ev 4 rfl)) ?_; clear T ac; intro ac T
  refine lq T (rn_move rfl (T.ev 6 rfl)) ?_; clear T ac; intro ac T
  refine lq T (rn_indexAddr (size := 1) q rfl (T.ev 1 rfl) (T.ev 0 rfl) ⟨_, Try.underlying22, by kernel_rfl⟩ rfl (by omega) (Su13.at0 (by omega))) ?_; clear T ac; intro ac T
  refine lq T (rn_cell (Sp.ic0 Su13 M (.cons _ (.cons _ (.cons _ (List.sublist_append_right _ _)))) hkt5) rfl (T.ev 0 rfl)) ?_; clear T ac; intro ac T
  refine lq T (rn_move rfl (T.ev 10 rfl)) ?_; clear T ac; intro ac T
  refine l_w rfl ?_; intro K hK
  refine ow_call (first := []) (cap := []) T rfl rfl rfl rfl evf (.cons (T.ev 1 rfl) (.cons (T.ev 0 rfl) .nil)) Try.func43 rfl rfl ?_
  refine Calls.mono (right_true _ (by rw [htv5]; exact hch.right (by rw [hts5]; omega))) ?_
  clear T
  rintro e wc ⟨rfl, hb⟩
  intro ac T
  replace M := M.call hb; clear hb
  refine sh_out hK _ _ ?_; clear hK K
  refine lq (v := (.bool false)) T (rn_neqof (rn_not rfl (T.ev 0 rfl)) (by simp)) ?_; clear T ac; intro ac T
  refine wpList_nil ?_
  replace T := T.pick [0, 8, 9, 10, 11, 12] rfl
  replace M := M.mask [false, true, true] rfl
  refine nm_then ?_
  refine wp_cond_false (T.ev 0 rfl) ?_
  refine wp_skip ?_
  refine nm_blk ?_
  refine nm_then ?_
  refine wp_region_lit ?_
  refine lq T (rn_move rfl (T.ev 5 rfl)) ?_; clear T ac; intro ac T
  refine lq T (rn_add rfl (T.ev 0 rfl) evc (by omega)) ?_; clear T ac; intro ac T
  refine l_q (v := (.int .i64 ((q : Int) + 1))) (T.pick [0, 1, 2, 3, 4, 5, 6] rfl) rfl rfl rfl rfl (rn_assign rfl (T.ev 0 rfl)) ?_; clear T ac; intro ac T
  refine wpList_nil ?_
  replace T := T.pick [0, 4, 5, 6, 7] rfl
  refine nm_then ?_
  exact ⟨_, by omega, q + 1, s5, rfl, (by omega), hs5, T.pick [1, 2, 3, 4, 0] rfl, M⟩
 intro h6
 (try have h6' := h6; try simp only [Bool.and_eq_true, Bool.or_eq_true, Bool.not_eq_true', Bool.and_eq_false_imp, Bool.or_eq_false_iff, decide_eq_true_eq, decide_eq_false_iff_not] at h6')
 refine wp_exit ?_
 refine ex_then ?_
 refine ex_then ?_
 refine ex_hit ?_
 refine nm_then ?_
 refine wp_seq ?_
 refine wp_region_lit ?_
 refine l_w rfl ?_; intro K hK
 refine ow_call (first := []) (cap := []) T rfl rfl rfl rfl evf .nil Try.func17 rfl rfl ?_
 refine Calls.mono (trembling_any _) ?_
 clear T
 rintro e wc ⟨rfl, hb⟩
 intro ac T
 replace M := M.call hb; clear hb
 refine sh_out hK _ _ ?_; clear hK K
 refine lq T (rn_assign rfl (T.ev 0 rfl)) ?_; clear T ac; intro ac T
 refine wpList_nil ?_
 replace T := T.pick [0] rfl
 replace M := M.mask [false, false] rfl
 refine nm_then ?_
 refine wp_ret ?_
 refine rt_1 T rfl (T.ev 0 rfl) ?_
 exact ⟨rfl, M.below⟩
end Go.Proofs.Ytlahdenlmmlplaa
end

/-
  Walks of functions, and plain laws (texts put together). No condition.
-/
import Derived.Test.YtdnbljihhimijaaGreatMVoiceMatches1
import Derived.Test.YtdnbljihhimijaaGreatMVoiceMatches2
import Derived.Test.YtdnbljihhimijaaGreatMVoiceMatches3
import Derived.Test.YtdnbljihhimijaaGreatMVoiceMatches4
import Derived.Test.YtdnbljihhimijaaGreatMVoiceMatches5
set_option maxRecDepth 100000
set_option maxHeartbeats 1000000
set_option linter.unusedSimpArgs false
set_option linter.unusedVariables false
namespace Go.Proofs.YtdnbljihhimijaaGreat
open Go.RowKit
theorem tab_at8 {LL : List LE} {T : List (List Int)} (hL : LL.map (·.1) = T) {k xk : Nat} {x tv : Int} {rw : List Int} {B : Option Addr} {d : Nat} {ok : Int → Bool} (hr : LL[k]? = some (rw, B, d)) (hx : x = (xk : Int)) (ht : rw[xk]? = some tv) : tabP T ok k x.toNat = ok tv := by
 subst hL hx
 unfold tabP
 rw [List.getD_eq_getElem?_getD (l := LL.map (·.1)), List.getElem?_map, hr, Int.toNat_natCast]
 show ok (rw.getD xk 0) = ok tv
 rw [List.getD_eq_getElem?_getD, ht]
 rfl
theorem cnt8_bd (T : List (List Int)) (ok : Int → Bool) (p : List Int) : -1 ≤ cnt8 T ok p ∧ cnt8 T ok p ≤ p.length := by
 have := pairsP_bd p
 unfold cnt8
 split <;> omega
def RowsR (w : World) (LL : List LE) (highs : Nat) : Prop := ∀ x ∈ LL, Rd w w.heap.size 1 x.2.1 x.1.length (ic x.1) ∧ x.1.length = highs
theorem count5_any (P : Option Addr) (m : Nat) (p : List Int) (A : Option Addr) (c : Nat) (TT : List LE) (u v : Int) (highs : Nat) (w : World) (hP : Rd w w.heap.size 1 P p.length (ic p)) (hA : Rd w w.heap.size 1 A TT.length (lc TT)) (hT : RowsR w TT highs) (hp : PairOk highs p) (hpl : p.length = TT.length) (hn5 : p.length ≤ 1000) :
   Calls Tryz.prog 110 #[.slice P p.length m, .slice A TT.length c, .int .i64 u, .int .i64 v] w fun e w' => e = .returned (.int .i64 (cnt8 (TT.map (·.1)) (okN u v) p)) ∧ Below w.heap.size w w' := by
 obtain ⟨bP, oP, SP9⟩ := Sp.old hP
 obtain ⟨bA, oA, SA⟩ := Sp.old hA
 refine Zpx noEx Tryz.func110 rfl 51 rfl [.slice P p.length m, .slice A TT.length c, .int .i64 u, .int .i64 v] rfl rfl (Mem.init w _) ?_
 intro ac wc T M
 refine Zsr ?_
 refine lq T (Zra rfl evc) ?_; clear T ac; intro ac T
 replace T := T.pick [1, 2, 3, 4] rfl
 refine Zln ?_
 refine Zsr ?_
 refine lq T (Zra rfl evc) ?_; clear T ac; intro ac T
 refine Zln ?_
 refine wp_seq ?_
 refine Zsr ?_
 refine lq T (Zra rfl evc) ?_; clear T ac; intro ac T
 refine Zln ?_
 refine wp_block ?_
 refine wp_loop_n (fun mz ac wc => ∃ (k : Nat) (n : Int), mz = p.length - k ∧ (k ≤ p.length) ∧ (n = pairsP (p.take k)) ∧ (0 ≤ n ∧ n ≤ k) ∧ (validT (TT.map (·.1)) (okN u v) (p.take k) = true) ∧ Tm ac 51 [(0, .slice P p.length m), (1, .slice A TT.length c), (2, .int .i64 u), (3, .int .i64 v), (9, .int .i64 n), (10, .int .i64 (k : Int))] ∧ Mem w noEx wc []) ?_ ?_
 ·exact ⟨_, 0, 0, rfl, (Nat.zero_le _), rfl, (by omega), rfl, T.pick [2, 3, 4, 5, 1, 0] rfl, M.mask [] rfl⟩
 clear T M
 rintro mz ac wc ⟨k, n, hmm1, hk, hn, hb, hv, T, M⟩
 refine wp_seq ?_
 refine Zsr ?_
 refine Zg4 T (Zq (Zrm rfl (T.e 5 rfl))) rfl (Zm 1 rfl rfl) rfl (Zl Tryz.underlying33 0 rfl rfl) rfl (fun _ T => Zq (rn_lss rfl (T.e 2 rfl) (T.e 0 rfl))) rfl ?_; clear T ac; intro ac T
 replace T := T.pick [0, 4, 5, 6, 7, 8, 9] rfl
 refine Zln ?_
 refine wp_if (T.e 0 rfl) ?_ ?_
 ·intro h1
  obtain ⟨x, hkx, -⟩ := ic_next (l := p) (k := k) (by omega)
  have hxr := hp.rng x (List.mem_of_getElem? hkx)
  refine Zsk ?_
  refine wp_seq ?_
  refine wp_block ?_
  refine wp_seq ?_
  refine Zsr ?_
  refine Zg5 T (Zq (Zrm rfl (T.e 1 rfl))) rfl (Zm 7 rfl rfl) rfl (fun _ T => Zq (Zri (size := 1) k rfl (T.e 1 rfl) (T.e 0 rfl) ⟨_, Tryz.underlying33, by kernel_rfl⟩ rfl (by omega) (SP9.at0 (by omega)))) rfl (fun _ T => Zq (rn_cell (Sp.ic0 SP9 M (Zz9 _) hkx) rfl (T.e 0 rfl))) rfl (fun _ T => Zq (rn_lss rfl (T.e 0 rfl) evc)) rfl ?_; clear T ac; intro ac T
  replace T := T.pick [0, 6, 7, 8, 9, 10, 11] rfl
  refine Zln ?_
  refine wp_if (T.e 0 rfl) ?_ ?_
  ·intro h2
   refine wp_exit ?_
   refine Zet ?_
   refine ex_hit ?_
   refine nm_then ?_
   refine wp_region_lit ?_
   refine Zg2 T (Zq (Zrm rfl (T.e 6 rfl))) rfl (fun _ T => Zq (rn_add rfl (T.e 0 rfl) evc (by omega))) rfl ?_; clear T ac; intro ac T
   refine l_q (v := (.int .i64 ((k : Int) + 1))) (T.pick [0, 1, 2, 3, 4, 5, 6, 7] rfl) rfl rfl rfl rfl (Zra rfl (T.e 0 rfl)) ?_; clear T ac; intro ac T
   replace T := T.pick [0, 4, 5, 6, 7, 8] rfl
   refine Zln ?_
   exact ⟨_, by omega, k + 1, _, rfl, (by omega), (by rw [pairsP_take hkx, ← hn, if_neg (by omega), Int.add_zero]), (by omega), (by rw [validT_take hkx, hv, Zdt (show x < 0 by omega), Bool.true_or, Bool.true_and]), T.pick [1, 2, 3, 4, 5, 0] rfl, M.mask [] rfl⟩
  intro h2
  obtain ⟨xk, hxk⟩ : ∃ q : Nat, x = (q : Int) := ⟨x.toNat, by omega⟩
  obtain ⟨⟨rw, Br, dr⟩, hkr⟩ : ∃ z, TT[k]? = some z := ⟨_, List.getElem?_eq_getElem (by omega)⟩
  have hrow := hT _ (List.mem_of_getElem? hkr)
  dsimp only at hrow
  have hrl := hrow.2
  obtain ⟨br, orr, Sr⟩ := Sp.old hrow.1
  obtain ⟨tv, hkt, -⟩ := ic_next (l := rw) (k := xk) (by omega)
  refine Zsk ?_
  refine wp_seq ?_
  refine cut_seq (fun ac wc => Tm ac 51 [(0, .slice P p.length m), (1, .slice A TT.length c), (2, .int .i64 u), (3, .int .i64 v), (9, .int .i64 n), (10, .int .i64 (k : Int)), (47, .bool ((decide (tv = u)) || (decide (tv = v))))] ∧ Mem w noEx wc []) ?_ ?_
  ·refine Zgs M (M.mask [] rfl) 26 (by kernel_rfl) rfl (by kernel_rfl) ?_
   clear M; intro wc M
   refine gq T 0 1 rfl (fun _ _ _ _ _ => (Zrm rfl (T.e 2 rfl))) ?_; clear T ac; intro ac T
   refine gq T 1 3 rfl (fun _ _ _ _ _ => (Zrm rfl (T.e 7 rfl))) ?_; clear T ac; intro ac T
   refine gq T 2 7 rfl (fun _ _ _ _ _ => (Zri (size := 1) k rfl (T.e 1 rfl) (T.e 0 rfl) ⟨_, Tryz.underlying55, by kernel_rfl⟩ rfl (by omega) (SA.at0 (by omega)))) ?_; clear T ac; intro ac T
   refine gq (v := (.slice Br rw.length dr)) T 3 15 rfl (fun B w' hD hl hS => (rn_cell (Sp.lc0 SA (show Mem w noEx w' _ from hS) (Zz9 _) hkr) rfl (T.e 0 rfl))) ?_; clear T ac; intro ac T
   refine gq T 4 31 rfl (fun _ _ _ _ _ => (Zrm rfl (T.e 5 rfl))) ?_; clear T ac; intro ac T
   refine gq T 5 63 rfl (fun _ _ _ _ _ => (Zrm rfl (T.e 11 rfl))) ?_; clear T ac; intro ac T
   refine gq T 6 127 rfl (fun _ _ _ _ _ => (Zri (size := 1) k rfl (T.e 1 rfl) (T.e 0 rfl) ⟨_, Tryz.underlying33, by kernel_rfl⟩ rfl (by omega) (SP9.at0 (by omega)))) ?_; clear T ac; intro ac T
   refine gq T 7 255 rfl (fun B w' hD hl hS => (rn_cell (Sp.ic0 SP9 (show Mem w noEx w' _ from hS) (Zz9 _) hkx) rfl (T.e 0 rfl))) ?_; clear T ac; intro ac T
   refine gq T 8 511 rfl (fun _ _ _ _ _ => (Zri (size := 1) xk rfl (T.e 4 rfl) (T.e 0 rfl) ⟨_, Tryz.underlying33, by kernel_rfl⟩ hxk (by omega) (Sr.at0 (by omega)))) ?_; clear T ac; intro ac T
   refine gq T 9 1023 rfl (fun B w' hD hl hS => (rn_cell (Sp.ic0 Sr (show Mem w noEx w' _ from hS) (Zz9 _) hkt) rfl (T.e 0 rfl))) ?_; clear T ac; intro ac T
   refine gq T 10 2047 rfl (fun _ _ _ _ _ => (Zrm rfl (T.e 13 rfl))) ?_; clear T ac; intro ac T
   refine gq T 11 4095 rfl (fun _ _ _ _ _ => (rn_eql rfl (T.e 1 rfl) (T.e 0 rfl))) ?_; clear T ac; intro ac T
   refine gq T 12 8191 rfl (fun _ _ _ _ _ => (Zrm rfl (T.e 0 rfl))) ?_; clear T ac; intro ac T
   rcases Bool.eq_false_or_eq_true (decide (tv = u)) with h3 | h3
   ·replace h3 := of_decide_eq_true h3
    refine g_pass (T := T) (i := 13) rfl (by kernel_rfl) (by kernel_rfl : (Zpb 26 8191).setIfInBounds 13 true = Zpb 26 16383) si_U (fun _ _ _ h => h) (Zwn rfl rfl (T.e 0 rfl) (Zdt h3)) rfl rfl rfl ?_; clear T ac; intro ac T
    refine g_pass (T := T) (i := 14) rfl (by kernel_rfl) (by kernel_rfl : (Zpb 26 16383).setIfInBounds 14 true = Zpb 26 32767) si_U (fun _ _ _ h => h) (Zwn rfl rfl (T.e 1 rfl) (Zdt h3)) rfl rfl rfl ?_; clear T ac; intro ac T
    refine g_pass (T := T) (i := 15) rfl (by kernel_rfl) (by kernel_rfl : (Zpb 26 32767).setIfInBounds 15 true = Zpb 26 65535) si_U (fun _ _ _ h => h) (Zwn rfl rfl (T.e 2 rfl) (Zdt h3)) rfl rfl rfl ?_; clear T ac; intro ac T
    refine g_pass (T := T) (i := 16) rfl (by kernel_rfl) (by kernel_rfl : (Zpb 26 65535).setIfInBounds 16 true = Zpb 26 131071) si_U (fun _ _ _ h => h) (Zwn rfl rfl (T.e 3 rfl) (Zdt h3)) rfl rfl rfl ?_; clear T ac; intro ac T
    refine g_pass (T := T) (i := 17) rfl (by kernel_rfl) (by kernel_rfl : (Zpb 26 131071).setIfInBounds 17 true = Zpb 26 262143) si_U (fun _ _ _ h => h) (Zwn rfl rfl (T.e 4 rfl) (Zdt h3)) rfl rfl rfl ?_; clear T ac; intro ac T
    refine g_pass (T := T) (i := 18) rfl (by kernel_rfl) (by kernel_rfl : (Zpb 26 262143).setIfInBounds 18 true = Zpb 26 524287) si_U (fun _ _ _ h => h) (Zwn rfl rfl (T.e 5 rfl) (Zdt h3)) rfl rfl rfl ?_; clear T ac; intro ac T
    refine g_pass (T := T) (i := 19) rfl (by kernel_rfl) (by kernel_rfl : (Zpb 26 524287).setIfInBounds 19 true = Zpb 26 1048575) si_U (fun _ _ _ h => h) (Zwn rfl rfl (T.e 6 rfl) (Zdt h3)) rfl rfl rfl ?_; clear T ac; intro ac T
    refine g_pass (T := T) (i := 20) rfl (by kernel_rfl) (by kernel_rfl : (Zpb 26 1048575).setIfInBounds 20 true = Zpb 26 2097151) si_U (fun _ _ _ h => h) (Zwn rfl rfl (T.e 7 rfl) (Zdt h3)) rfl rfl rfl ?_; clear T ac; intro ac T
    refine g_pass (T := T) (i := 21) rfl (by kernel_rfl) (by kernel_rfl : (Zpb 26 2097151).setIfInBounds 21 true = Zpb 26 4194303) si_U (fun _ _ _ h => h) (Zwn rfl rfl (T.e 8 rfl) (Zdt h3)) rfl rfl rfl ?_; clear T ac; intro ac T
    refine g_pass (T := T) (i := 22) rfl (by kernel_rfl) (by kernel_rfl : (Zpb 26 4194303).setIfInBounds 22 true = Zpb 26 8388607) si_U (fun _ _ _ h => h) (Zwn rfl rfl (T.e 9 rfl) (Zdt h3)) rfl rfl rfl ?_; clear T ac; intro ac T
    refine g_pass (T := T) (i := 23) rfl (by kernel_rfl) (by kernel_rfl : (Zpb 26 8388607).setIfInBounds 23 true = Zpb 26 16777215) si_U (fun _ _ _ h => h) (Zwn rfl rfl (T.e 10 rfl) (Zdt h3)) rfl rfl rfl ?_; clear T ac; intro ac T
    refine g_pass (T := T) (i := 24) rfl (by kernel_rfl) (by kernel_rfl : (Zpb 26 16777215).setIfInBounds 24 true = Zpb 26 33554431) si_U (fun _ _ _ h => h) (Zwn rfl rfl (T.e 11 rfl) (Zdt h3)) rfl rfl rfl ?_; clear T ac; intro ac T
    refine gq T 25 67108863 rfl (fun _ _ _ _ _ => (Zr1 rfl (T.e 12 rfl) (Zdt h3) evc)) ?_; clear T ac; intro ac T
    refine Zgd (by kernel_rfl) ?_
    replace T := T.pick [0, 1, 2, 3, 4, 5, 6, 7, 8, 9, 10, 11, 12, 27, 28, 29, 30, 31, 32] rfl
    exact ⟨(T.pick (E' := [(0, .slice P p.length m), (1, .slice A TT.length c), (2, .int .i64 u), (3, .int .i64 v), (9, .int .i64 n), (10, .int .i64 (k : Int)), (47, .bool true)]) [13, 14, 15, 16, 17, 18, 0] rfl).as (by (try rw [show (decide (tv = u)) = true from (Zdt h3)]); (try rfl)), M.mask [] rfl⟩
   replace h3 := of_decide_eq_false h3
   refine g_q (T := T) (i := 13) rfl (by kernel_rfl) (by kernel_rfl : (Zpb 26 8191).setIfInBounds 13 true = Zpb 26 16383) si_U (fun _ _ _ h => h) (Zwy rfl rfl (T.e 0 rfl) (Zdf h3)) rfl rfl rfl (fun _ _ _ _ _ => (Zrm rfl (T.e 15 rfl))) ?_; clear T ac; intro ac T
   refine g_q (T := T) (i := 14) rfl (by kernel_rfl) (by kernel_rfl : (Zpb 26 16383).setIfInBounds 14 true = Zpb 26 32767) si_U (fun _ _ _ h => h) (Zwy rfl rfl (T.e 1 rfl) (Zdf h3)) rfl rfl rfl (fun _ _ _ _ _ => (Zrm rfl (T.e 20 rfl))) ?_; clear T ac; intro ac T
   refine g_q (T := T) (i := 15) rfl (by kernel_rfl) (by kernel_rfl : (Zpb 26 32767).setIfInBounds 15 true = Zpb 26 65535) si_U (fun _ _ _ h => h) (Zwy rfl rfl (T.e 2 rfl) (Zdf h3)) rfl rfl rfl (fun _ _ _ _ _ => (Zri (size := 1) k rfl (T.e 1 rfl) (T.e 0 rfl) ⟨_, Tryz.underlying55, by kernel_rfl⟩ rfl (by omega) (SA.at0 (by omega)))) ?_; clear T ac; intro ac T
   refine g_q (v := (.slice Br rw.length dr)) (T := T) (i := 16) rfl (by kernel_rfl) (by kernel_rfl : (Zpb 26 65535).setIfInBounds 16 true = Zpb 26 131071) si_U (fun _ _ _ h => h) (Zwy rfl rfl (T.e 3 rfl) (Zdf h3)) rfl rfl rfl (fun B w' hD hl hS => (rn_cell (Sp.lc0 SA (show Mem w noEx w' _ from hS) (Zz9 _) hkr) rfl (T.e 0 rfl))) ?_; clear T ac; intro ac T
   refine g_q (T := T) (i := 17) rfl (by kernel_rfl) (by kernel_rfl : (Zpb 26 131071).setIfInBounds 17 true = Zpb 26 262143) si_U (fun _ _ _ h => h) (Zwy rfl rfl (T.e 4 rfl) (Zdf h3)) rfl rfl rfl (fun _ _ _ _ _ => (Zrm rfl (T.e 18 rfl))) ?_; clear T ac; intro ac T
   refine g_q (T := T) (i := 18) rfl (by kernel_rfl) (by kernel_rfl : (Zpb 26 262143).setIfInBounds 18 true = Zpb 26 524287) si_U (fun _ _ _ h => h) (Zwy rfl rfl (T.e 5 rfl) (Zdf h3)) rfl rfl rfl (fun _ _ _ _ _ => (Zrm rfl (T.e 24 rfl))) ?_; clear T ac; intro ac T
   refine g_q (T := T) (i := 19) rfl (by kernel_rfl) (by kernel_rfl : (Zpb 26 524287).setIfInBounds 19 true = Zpb 26 1048575) si_U (fun _ _ _ h => h) (Zwy rfl rfl (T.e 6 rfl) (Zdf h3)) rfl rfl rfl (fun _ _ _ _ _ => (Zri (size := 1) k rfl (T.e 1 rfl) (T.e 0 rfl) ⟨_, Tryz.underlying33, by kernel_rfl⟩ rfl (by omega) (SP9.at0 (by omega)))) ?_; clear T ac; intro ac T
   refine g_q (T := T) (i := 20) rfl (by kernel_rfl) (by kernel_rfl : (Zpb 26 1048575).setIfInBounds 20 true = Zpb 26 2097151) si_U (fun _ _ _ h => h) (Zwy rfl rfl (T.e 7 rfl) (Zdf h3)) rfl rfl rfl (fun B w' hD hl hS => (rn_cell (Sp.ic0 SP9 (show Mem w noEx w' _ from hS) (Zz9 _) hkx) rfl (T.e 0 rfl))) ?_; clear T ac; intro ac T
   refine g_q (T := T) (i := 21) rfl (by kernel_rfl) (by kernel_rfl : (Zpb 26 2097151).setIfInBounds 21 true = Zpb 26 4194303) si_U (fun _ _ _ h => h) (Zwy rfl rfl (T.e 8 rfl) (Zdf h3)) rfl rfl rfl (fun _ _ _ _ _ => (Zri (size := 1) xk rfl (T.e 4 rfl) (T.e 0 rfl) ⟨_, Tryz.underlying33, by kernel_rfl⟩ hxk (by omega) (Sr.at0 (by omega)))) ?_; clear T ac; intro ac T
   refine g_q (T := T) (i := 22) rfl (by kernel_rfl) (by kernel_rfl : (Zpb 26 4194303).setIfInBounds 22 true = Zpb 26 8388607) si_U (fun _ _ _ h => h) (Zwy rfl rfl (T.e 9 rfl) (Zdf h3)) rfl rfl rfl (fun B w' hD hl hS => (rn_cell (Sp.ic0 Sr (show Mem w noEx w' _ from hS) (Zz9 _) hkt) rfl (T.e 0 rfl))) ?_; clear T ac; intro ac T
   refine g_q (T := T) (i := 23) rfl (by kernel_rfl) (by kernel_rfl : (Zpb 26 8388607).setIfInBounds 23 true = Zpb 26 16777215) si_U (fun _ _ _ h => h) (Zwy rfl rfl (T.e 10 rfl) (Zdf h3)) rfl rfl rfl (fun _ _ _ _ _ => (Zrm rfl (T.e 27 rfl))) ?_; clear T ac; intro ac T
   refine g_q (T := T) (i := 24) rfl (by kernel_rfl) (by kernel_rfl : (Zpb 26 16777215).setIfInBounds 24 true = Zpb 26 33554431) si_U (fun _ _ _ h => h) (Zwy rfl rfl (T.e 11 rfl) (Zdf h3)) rfl rfl rfl (fun _ _ _ _ _ => (rn_eql rfl (T.e 1 rfl) (T.e 0 rfl))) ?_; clear T ac; intro ac T
   refine gq T 25 67108863 rfl (fun _ _ _ _ _ => (Zr0 rfl (T.e 12 rfl) (Zdf h3) (T.e 0 rfl))) ?_; clear T ac; intro ac T
   refine Zgd (by kernel_rfl) ?_
   replace T := T.pick [0, 1, 2, 3, 4, 5, 6, 7, 8, 9, 10, 11, 12, 27, 28, 29, 30, 31, 32] rfl
   exact ⟨(T.pick (E' := [(0, .slice P p.length m), (1, .slice A TT.length c), (2, .int .i64 u), (3, .int .i64 v), (9, .int .i64 n), (10, .int .i64 (k : Int)), (47, .bool (decide (tv = v)))]) [13, 14, 15, 16, 17, 18, 0] rfl).as (by (try rw [show (decide (tv = u)) = false from (Zdf h3)]); (try rfl)), M.mask [] rfl⟩
  clear T M
  rintro ac wc ⟨T, M⟩
  refine wp_cond_split (T.e 6 rfl) ?_ ?_
  ·intro h4
   (have h4' := h4; try simp only [Zb1, Zb2, Zb3, Zb4, Zb5, Zb6, Zb7] at h4')
   have hok : okN u v tv = false := by unfold okN; rw [Bool.not_eq_false']; exact h4
   refine Zsr ?_
   refine lq T (Zra rfl evc) ?_; clear T ac; intro ac T
   replace T := T.pick [0] rfl
   refine Zln ?_
   refine wp_ret ?_
   refine Zrt ?_
   refine Zrb ?_
   refine Zrt ?_
   refine Zrt ?_
   refine Zrb ?_
   refine Zrt ?_
   refine rt_1 T rfl (T.e 0 rfl) ?_
   have e9 : cnt8 (TT.map (·.1)) (okN u v) p = -1 := if_neg (by rw [validT_no hkx (by omega) ((tab_at8 (ok := okN u v) rfl hkr hxk hkt).trans hok)]; decide)
   rw [e9]
   exact ⟨rfl, M.below⟩
  intro h4
  (have h4' := h4; try simp only [Zb1, Zb2, Zb3, Zb4, Zb5, Zb6, Zb7] at h4')
  have hok : okN u v tv = true := by unfold okN; rw [Bool.not_eq_true']; exact h4
  refine Zsk ?_
  refine wp_region_lit ?_
  refine Zg2 T (Zq (Zrm rfl (T.e 4 rfl))) rfl (fun _ T => Zq (rn_add rfl (T.e 0 rfl) evc (by omega))) rfl ?_; clear T ac; intro ac T
  refine l_q (v := (.int .i64 (n + 1))) (T.pick [0, 1, 2, 3, 4, 5, 7, 8] rfl) rfl rfl rfl rfl (Zra rfl (T.e 0 rfl)) ?_; clear T ac; intro ac T
  refine wpList_nil ?_
  replace T := T.pick [0, 3, 4, 5, 6, 7] rfl
  refine Znb ?_
  refine nm_then ?_
  refine wp_region_lit ?_
  refine Zg2 T (Zq (Zrm rfl (T.e 5 rfl))) rfl (fun _ T => Zq (rn_add rfl (T.e 0 rfl) evc (by omega))) rfl ?_; clear T ac; intro ac T
  refine l_q (v := (.int .i64 ((k : Int) + 1))) (T.pick [0, 1, 2, 3, 4, 5, 6] rfl) rfl rfl rfl rfl (Zra rfl (T.e 0 rfl)) ?_; clear T ac; intro ac T
  replace T := T.pick [0, 3, 4, 5, 6, 7] rfl
  refine Zln ?_
  exact ⟨_, by omega, k + 1, _, rfl, (by omega), (by rw [pairsP_take hkx, ← hn, if_pos (by omega)]), (by omega), (by rw [validT_take hkx, hv, tab_at8 (ok := okN u v) rfl hkr hxk hkt, hok, Bool.or_true, Bool.true_and]), T.pick [2, 3, 4, 5, 1, 0] rfl, M.mask [] rfl⟩
 intro h1
 rw [List.take_of_length_le (by omega)] at hn hv
 refine wp_exit ?_
 refine Zet ?_
 refine Zet ?_
 refine ex_hit ?_
 refine nm_then ?_
 refine Zsr ?_
 refine Zg2 T (Zq (Zrm rfl (T.e 5 rfl))) rfl (Za 0 rfl rfl) rfl ?_; clear T ac; intro ac T
 replace T := T.pick [0] rfl
 refine Zln ?_
 refine wp_ret ?_
 refine rt_1 T rfl (T.e 0 rfl) ?_
 have e9 : cnt8 (TT.map (·.1)) (okN u v) p = n := (if_pos hv).trans hn.symm
 rw [e9]
 exact ⟨rfl, M.below⟩
theorem size5_any (A : Option Addr) (m c : Nat) (l : List Int) (w : World) (hr : Rd w w.heap.size 1 A m (ic l)) (hm : m ≤ 1000000)  :
   Calls Tryz.prog 67 #[.slice A m c] w fun e w' => e = .returned (.int .i64 (pairsP l)) ∧ Below w.heap.size w w' := by
 have hml := hr.len1
 obtain ⟨bA, oA, SA⟩ := Sp.old hr
 refine Zpx noEx Tryz.func67 rfl 19 rfl [.slice A m c] rfl rfl (Mem.init w _) ?_
 intro ac wc T M
 refine Zsr ?_
 refine lq T (Zra rfl evc) ?_; clear T ac; intro ac T
 replace T := T.pick [1] rfl
 refine Zln ?_
 refine Zsr ?_
 refine lq T (Zra rfl evc) ?_; clear T ac; intro ac T
 refine Zln ?_
 refine wp_seq ?_
 refine Zsr ?_
 refine lq T (Zra rfl evc) ?_; clear T ac; intro ac T
 refine Zln ?_
 refine wp_block ?_
 refine wp_loop_n (fun mz ac wc => ∃ (k : Nat) (q : Int), mz = m - k ∧ (k ≤ m) ∧ (0 ≤ q ∧ q ≤ k) ∧ (q = pairsP (l.take k)) ∧ Tm ac 19 [(0, .slice A m c), (3, .int .i64 q), (4, .int .i64 (k : Int))] ∧ Mem w noEx wc []) ?_ ?_
 ·exact ⟨_, 0, 0, rfl, (Nat.zero_le _), (by omega), rfl, T.pick [2, 1, 0] rfl, M.mask [] rfl⟩
 clear T M
 rintro mz ac wc ⟨k, q, hmm1, hk, hq, H, T, M⟩
 refine wp_seq ?_
 refine Zsr ?_
 refine Zg4 T (Zq (Zrm rfl (T.e 2 rfl))) rfl (Zm 1 rfl rfl) rfl (Zl Tryz.underlying33 0 rfl rfl) rfl (fun _ T => Zq (rn_lss rfl (T.e 2 rfl) (T.e 0 rfl))) rfl ?_; clear T ac; intro ac T
 replace T := T.pick [0, 4, 5, 6] rfl
 refine Zln ?_
 refine wp_if (T.e 0 rfl) ?_ ?_
 ·intro h1
  obtain ⟨x, hkx, -⟩ := ic_next (l := l) (k := k) (by omega)
  have hpt := pairsP_take hkx
  refine Zsk ?_
  refine cut_seq (fun ac wc => Tm ac 19 [(0, .slice A m c), (3, .int .i64 (if 0 ≤ x then (q + 1) else q)), (4, .int .i64 (k : Int))] ∧ Mem w noEx wc []) ?_ ?_
  ·refine wp_block ?_
   refine Zsr ?_
   refine Zg5 T (Zq (Zrm rfl (T.e 1 rfl))) rfl (Zm 4 rfl rfl) rfl (fun _ T => Zq (Zri (size := 1) k rfl (T.e 1 rfl) (T.e 0 rfl) ⟨_, Tryz.underlying33, by kernel_rfl⟩ rfl (by omega) (SA.at0 (by omega)))) rfl (fun _ T => Zq (rn_cell (Sp.ic0 SA M (Zz9 _) hkx) rfl (T.e 0 rfl))) rfl (fun _ T => Zq (rn_geq rfl (T.e 0 rfl) evc)) rfl ?_; clear T ac; intro ac T
   replace T := T.pick [0, 6, 7, 8] rfl
   refine Zln ?_
   refine wp_if (T.e 0 rfl) ?_ ?_
   ·intro h2
    refine wp_region_lit ?_
    refine Zg2 T (Zq (Zrm rfl (T.e 2 rfl))) rfl (fun _ T => Zq (rn_add rfl (T.e 0 rfl) evc (by omega))) rfl ?_; clear T ac; intro ac T
    refine l_q (v := (.int .i64 (q + 1))) (T.pick [0, 1, 2, 3, 5] rfl) rfl rfl rfl rfl (Zra rfl (T.e 0 rfl)) ?_; clear T ac; intro ac T
    refine wpList_nil ?_
    replace T := T.pick [0, 4, 5] rfl
    refine Znb ?_
    exact ⟨(T.pick (E' := [(0, .slice A m c), (3, .int .i64 (q + 1)), (4, .int .i64 (k : Int))]) [1, 0, 2] rfl).as (by (try rw [show (decide (0 ≤ x)) = true from (Zdt h2)]); (try simp only [if_pos h2]); (try rfl)), M.mask [] rfl⟩
   intro h2
   refine wp_skip ?_
   refine Znb ?_
   exact ⟨(T.pick (E' := [(0, .slice A m c), (3, .int .i64 q), (4, .int .i64 (k : Int))]) [1, 2, 3] rfl).as (by (try rw [show (decide (0 ≤ x)) = false from (Zdf h2)]); (try simp only [if_neg h2]); (try rfl)), M.mask [] rfl⟩
  clear T M
  rintro ac wc ⟨T, M⟩
  refine wp_region_lit ?_
  refine Zg2 T (Zq (Zrm rfl (T.e 2 rfl))) rfl (fun _ T => Zq (rn_add rfl (T.e 0 rfl) evc (by omega))) rfl ?_; clear T ac; intro ac T
  refine l_q (v := (.int .i64 ((k : Int) + 1))) (T.pick [0, 1, 2, 3] rfl) rfl rfl rfl rfl (Zra rfl (T.e 0 rfl)) ?_; clear T ac; intro ac T
  replace T := T.pick [0, 3, 4] rfl
  refine Zln ?_
  exact ⟨_, by omega, k + 1, _, rfl, (by omega), (by (try split) <;> omega), (by rw [hpt, ← H]; (try split) <;> omega), T.pick [1, 2, 0] rfl, M.mask [] rfl⟩
 intro h1
 rw [List.take_of_length_le (by omega)] at H
 refine wp_exit ?_
 refine Zet ?_
 refine Zet ?_
 refine ex_hit ?_
 refine nm_then ?_
 refine Zsr ?_
 refine Zg2 T (Zq (Zrm rfl (T.e 2 rfl))) rfl (Za 0 rfl rfl) rfl ?_; clear T ac; intro ac T
 replace T := T.pick [0] rfl
 refine Zln ?_
 refine wp_ret ?_
 refine rt_1 T rfl (T.e 0 rfl) ?_
 exact ⟨ret_int H, M.below⟩
theorem head_at {α : Type} {L : List (List α)} (h : 0 < L.length) : L[0]? = some (L.headD []) := by
 cases L with
 | nil => simp at h
 | cons a t => rfl
def BestPost (l : List Int) (w : World) (e : Ending) (w' : World) : Prop := ∃ A c I, e = .returned (.slice A l.length c) ∧ l.length ≤ 6 ∧ (∃ b o, ∀ (w : World) (ex : Nat → Prop), Sp w ex I A l.length 1 b o (ic l)) ∧ Mem w noEx w' I
theorem best5_any (b : Bx) (A : Option Addr) (c : Nat) (B : Option Addr) (d : Nat) (u v : Int) (w : World) (hA : Rd w w.heap.size 4 A b.lows.length (sc b.lows)) (hB : Rd w w.heap.size 4 B b.highs.length (sc b.highs)) (gb : b.good) :
   Calls Tryz.prog 57 #[bxV b A c B d, .int .i64 u, .int .i64 v] w (BestPost (mostP (tableP b) (okN u v) b.lows.length b.highs.length) w) := by
 have hlA := hA.len4
 have hlB := hB.len4
 obtain ⟨bA, oA, SA⟩ := Sp.old hA
 obtain ⟨bB, oB, SB⟩ := Sp.old hB
 have nA := gb.lows.1
 have nB := gb.highs.1
 refine Zpx noEx Tryz.func57 rfl 48 rfl [.agg #[.int .i64 b.first, .int .i64 b.step, .int .i64 b.span, .int .i64 b.press, .int .i64 b.note, .slice A b.lows.length c, .slice B b.highs.length d, .int .i64 b.t0, .int .i64 b.t1, .int .i64 b.r0, .int .i64 b.r1, .int .i64 b.u0, .int .i64 b.u1, .int .i64 b.d0, .int .i64 b.d1, .int .i64 b.a0, .int .i64 b.a1, .int .i64 b.b0, .int .i64 b.b1, .int .i64 b.le, .int .i64 b.me], .int .i64 u, .int .i64 v] rfl rfl (Mem.init w _) ?_
 intro ac wc T M
 refine Zsr ?_
 refine Zl2 ?_
 refine Zob M T rfl rfl rfl rfl (T.e 0 rfl) rfl ?_; clear M T; intro g1 wc ac M T
 refine lq T (Zra rfl evc) ?_; clear T ac; intro ac T
 replace T := T.pick [1, 3, 4] rfl
 refine Zln ?_
 refine wp_seq ?_
 refine Zgs M (M.mask [true] rfl) 11 (by kernel_rfl) rfl (by kernel_rfl) ?_
 clear M; intro wc M
 refine gq (v := (.pointer (some ⟨g1, 5, none⟩))) T 0 1 rfl (fun _ _ _ _ _ => (Zrf (off := 5) rfl (T.e 0 rfl) (fun _ _ _ => by kernel_rfl))) ?_; clear T ac; intro ac T
 refine gq T 1 3 rfl (fun B w' hD hl hS => (Zro (Mem.nth (show Mem w noEx w' _ from hS) 0 rfl) rfl (T.e 0 rfl) rfl)) ?_; clear T ac; intro ac T
 refine gq T 2 7 rfl (fun _ _ _ _ _ => (Zrl rfl Tryz.underlying24 (T.e 0 rfl))) ?_; clear T ac; intro ac T
 refine gq (v := (.pointer (some ⟨g1, 6, none⟩))) T 3 15 rfl (fun _ _ _ _ _ => (Zrf (off := 6) rfl (T.e 3 rfl) (fun _ _ _ => by kernel_rfl))) ?_; clear T ac; intro ac T
 refine gq T 4 31 rfl (fun B w' hD hl hS => (Zro (Mem.nth (show Mem w noEx w' _ from hS) 0 rfl) rfl (T.e 0 rfl) rfl)) ?_; clear T ac; intro ac T
 refine gq T 5 63 rfl (fun _ _ _ _ _ => (Zrl rfl Tryz.underlying24 (T.e 0 rfl))) ?_; clear T ac; intro ac T
 refine gq T 7 191 rfl (fun B w' hD hl hS => (Zrr (Mem.nth (show Mem w noEx w' _ from hS) 0 rfl) rfl (T.e 6 rfl) rfl)) ?_; clear T ac; intro ac T
 refine gw 6 255 ?_; intro K hK
 refine Zoc (first := []) (cap := []) T rfl rfl rfl rfl evf (.cons (T.e 4 rfl) (.cons (T.e 1 rfl) (.cons evc .nil))) Tryz.func109 rfl rfl ?_
 refine Calls.mono (pairings5_any b.lows.length b.highs.length nA nB b.lows.length _ [] none 0 0 [] rfl (by simp) Rd.empty ⟨0, 0, fun _ _ => Sp.nil⟩) ?_
 clear T; rintro e wc ⟨Au1, cu1, LLu1, Iu1, rfl, hLu1, Su1, Eu1, N⟩ ac T
 obtain ⟨bu1, ou1, Su1⟩ := Su1
 replace Su1 := Su1 w noEx
 rw [List.nil_append] at Eu1
 obtain ⟨Lp, hLp⟩ : ∃ q, q = prsP anyP b.highs.length b.lows.length [] := ⟨_, rfl⟩
 rw [← hLp] at hLu1
 have nLp : LLu1.length = Lp.length := by rw [← hLu1, List.length_map]
 have nLq : 0 < Lp.length ∧ Lp.length ≤ 1296 := by rw [hLp]; exact prsP_bd _ nB nA _
 replace M := (M.join N).swapI
 clear N
 replace M : Mem w noEx wc ((g1, .cells [.int .i64 b.first, .int .i64 b.step, .int .i64 b.span, .int .i64 b.press, .int .i64 b.note, .slice A b.lows.length c, .slice B b.highs.length d, .int .i64 b.t0, .int .i64 b.t1, .int .i64 b.r0, .int .i64 b.r1, .int .i64 b.u0, .int .i64 b.u1, .int .i64 b.d0, .int .i64 b.d1, .int .i64 b.a0, .int .i64 b.a1, .int .i64 b.b0, .int .i64 b.b1, .int .i64 b.le, .int .i64 b.me]) :: Iu1) := M
 refine Zso hK _ _ (M.perm [0] rfl rfl) ?_; clear hK K
 refine gw 8 511 ?_; intro K hK
 refine Zoc (first := []) (cap := []) T rfl rfl rfl rfl evf (.cons (T.e 1 rfl) .nil) Tryz.func63 rfl rfl ?_
 refine Calls.mono (pairs5_any b A c B d _ (SA.rd M (Zz9 _)) (SB.rd M (Zz9 _)) gb) ?_
 clear T; rintro e wc ⟨Au2, cu2, LLu2, Iu2, rfl, hLu2, Su2, Eu2, N⟩ ac T
 obtain ⟨bu2, ou2, Su2⟩ := Su2
 replace Su2 := Su2 w noEx
 have nT : LLu2.length = b.lows.length := by rw [← (tableP_len b).1, ← hLu2, List.length_map]
 replace M := (M.join N).swapI
 replace M : Mem w noEx wc ((g1, .cells [.int .i64 b.first, .int .i64 b.step, .int .i64 b.span, .int .i64 b.press, .int .i64 b.note, .slice A b.lows.length c, .slice B b.highs.length d, .int .i64 b.t0, .int .i64 b.t1, .int .i64 b.r0, .int .i64 b.r1, .int .i64 b.u0, .int .i64 b.u1, .int .i64 b.d0, .int .i64 b.d1, .int .i64 b.a0, .int .i64 b.a1, .int .i64 b.b0, .int .i64 b.b1, .int .i64 b.le, .int .i64 b.me]) :: (Iu1 ++ Iu2)) := M
 clear N
 refine Zso hK _ _ (M.perm [0] rfl rfl) ?_; clear hK K
 refine gq T 9 1023 rfl (fun _ _ _ _ _ => (Zra rfl (T.e 1 rfl))) ?_; clear T ac; intro ac T
 refine gq T 10 2047 rfl (fun _ _ _ _ _ => (Zra rfl (T.e 1 rfl))) ?_; clear T ac; intro ac T
 refine Zgd (by kernel_rfl) ?_
 replace T := T.pick [0, 1, 12, 13] rfl
 replace M := M.mask [false] rfl
 refine nm_then ?_
 refine Zsr ?_
 refine lq T (Zra rfl evc) ?_; clear T ac; intro ac T
 refine Zln ?_
 refine wp_seq ?_
 refine Zsr ?_
 refine lq T (Zra rfl evc) ?_; clear T ac; intro ac T
 refine Zln ?_
 refine wp_block ?_
 refine wp_loop_n (fun mz ac wc => ∃ (i at9 : Nat), mz = Lp.length - i ∧ (i ≤ Lp.length) ∧ (at9 < Lp.length) ∧ (Lp[at9]? = some (bst8 (tableP b) (okN u v) (Lp.headD []) (Lp.take i))) ∧ Tm ac 48 [(1, .int .i64 u), (2, .int .i64 v), (7, .slice Au1 LLu1.length cu1), (8, .slice Au2 LLu2.length cu2), (9, .int .i64 (at9 : Int)), (10, .int .i64 (i : Int))] ∧ Mem w noEx wc ((Iu1 ++ Iu2))) ?_ ?_
 ·exact ⟨_, 0, 0, rfl, (Nat.zero_le _), (by omega), (head_at (by omega)), T.pick [4, 5, 3, 2, 1, 0] rfl, M.mask [] rfl⟩
 clear T M
 rintro mz ac wc ⟨i, at9, hmm1, hi, hat, H, T, M⟩
 refine wp_seq ?_
 refine Zsr ?_
 refine Zg4 T (Zq (Zrm rfl (T.e 5 rfl))) rfl (Zm 3 rfl rfl) rfl (Zl Tryz.underlying55 0 rfl rfl) rfl (fun _ T => Zq (rn_lss rfl (T.e 2 rfl) (T.e 0 rfl))) rfl ?_; clear T ac; intro ac T
 replace T := T.pick [0, 4, 5, 6, 7, 8, 9] rfl
 refine Zln ?_
 refine wp_if (T.e 0 rfl) ?_ ?_
 ·intro h1
  obtain ⟨⟨pi, Bpi, dpi⟩, hkpi⟩ : ∃ z, LLu1[i]? = some z := ⟨_, List.getElem?_eq_getElem (by omega)⟩
  have hlpi : Lp[i]? = some pi := by rw [← hLu1, List.getElem?_map, hkpi]; rfl
  have hmpi : pi ∈ prsP anyP b.highs.length b.lows.length [] := by rw [← hLp]; exact List.mem_of_getElem? hlpi
  have hokpi := prs_ok _ _ _ [] (PairOk.nil _) pi hmpi
  have hpnpi : pi.length = b.lows.length := by obtain ⟨t, rfl, ht⟩ := prs_prefix _ _ _ [] pi hmpi; simpa using ht
  have hEpi := Eu1 _ (List.mem_of_getElem? hkpi)
  dsimp only at hEpi
  obtain ⟨bpi, opi, hSpi⟩ := id hEpi
  have Spi := hSpi w noEx
  obtain ⟨⟨pa, Bpa, dpa⟩, hkpa⟩ : ∃ z, LLu1[at9]? = some z := ⟨_, List.getElem?_eq_getElem (by omega)⟩
  have hlpa : Lp[at9]? = some pa := by rw [← hLu1, List.getElem?_map, hkpa]; rfl
  have hmpa : pa ∈ prsP anyP b.highs.length b.lows.length [] := by rw [← hLp]; exact List.mem_of_getElem? hlpa
  have hokpa := prs_ok _ _ _ [] (PairOk.nil _) pa hmpa
  have hpnpa : pa.length = b.lows.length := by obtain ⟨t, rfl, ht⟩ := prs_prefix _ _ _ [] pa hmpa; simpa using ht
  have hEpa := Eu1 _ (List.mem_of_getElem? hkpa)
  dsimp only at hEpa
  obtain ⟨bpa, opa, hSpa⟩ := id hEpa
  have Spa := hSpa w noEx
  have hpa : pa = bst8 (tableP b) (okN u v) (Lp.headD []) (Lp.take i) := by rw [hlpa] at H; injection H
  refine Zsk ?_
  refine wp_seq ?_
  refine wp_block ?_
  refine wp_seq ?_
  refine Zgs M (M.mask [] rfl) 17 (by kernel_rfl) rfl (by kernel_rfl) ?_
  clear M; intro wc M
  refine gq T 0 1 rfl (fun _ _ _ _ _ => (Zrm rfl (T.e 3 rfl))) ?_; clear T ac; intro ac T
  refine gq T 1 3 rfl (fun _ _ _ _ _ => (Zrm rfl (T.e 7 rfl))) ?_; clear T ac; intro ac T
  refine gq T 2 7 rfl (fun _ _ _ _ _ => (Zri (size := 1) i rfl (T.e 1 rfl) (T.e 0 rfl) ⟨_, Tryz.underlying55, by kernel_rfl⟩ rfl (by omega) (Su1.at0 (by omega)))) ?_; clear T ac; intro ac T
  refine gq (v := (.slice Bpi pi.length dpi)) T 3 15 rfl (fun B w' hD hl hS => (rn_cell (Sp.lc0 Su1 (show Mem w noEx w' _ from hS) (subL (List.Sublist.refl _)) hkpi) rfl (T.e 0 rfl))) ?_; clear T ac; intro ac T
  refine gq T 4 31 rfl (fun _ _ _ _ _ => (Zrm rfl (T.e 8 rfl))) ?_; clear T ac; intro ac T
  refine gq T 5 63 rfl (fun _ _ _ _ _ => (Zrm rfl (T.e 6 rfl))) ?_; clear T ac; intro ac T
  refine gq T 6 127 rfl (fun _ _ _ _ _ => (Zrm rfl (T.e 8 rfl))) ?_; clear T ac; intro ac T
  refine gq T 8 383 rfl (fun _ _ _ _ _ => (Zrm rfl (T.e 10 rfl))) ?_; clear T ac; intro ac T
  refine gq T 9 895 rfl (fun _ _ _ _ _ => (Zrm rfl (T.e 13 rfl))) ?_; clear T ac; intro ac T
  refine gq T 10 1919 rfl (fun _ _ _ _ _ => (Zri (size := 1) at9 rfl (T.e 1 rfl) (T.e 0 rfl) ⟨_, Tryz.underlying55, by kernel_rfl⟩ rfl (by omega) (Su1.at0 (by omega)))) ?_; clear T ac; intro ac T
  refine gq (v := (.slice Bpa pa.length dpa)) T 11 3967 rfl (fun B w' hD hl hS => (rn_cell (Sp.lc0 Su1 (show Mem w noEx w' _ from hS) (subL (List.Sublist.refl _)) hkpa) rfl (T.e 0 rfl))) ?_; clear T ac; intro ac T
  refine gq T 12 8063 rfl (fun _ _ _ _ _ => (Zrm rfl (T.e 15 rfl))) ?_; clear T ac; intro ac T
  refine gq T 13 16255 rfl (fun _ _ _ _ _ => (Zrm rfl (T.e 13 rfl))) ?_; clear T ac; intro ac T
  refine gq T 14 32639 rfl (fun _ _ _ _ _ => (Zrm rfl (T.e 15 rfl))) ?_; clear T ac; intro ac T
  refine gw 7 32767 ?_; intro K hK
  refine Zoc (first := []) (cap := []) T rfl rfl rfl rfl evf (.cons (T.e 10 rfl) (.cons (T.e 9 rfl) (.cons (T.e 8 rfl) (.cons (T.e 7 rfl) .nil)))) Tryz.func110 rfl rfl ?_
  refine Calls.mono (count5_any _ _ pi _ _ LLu2 u v b.highs.length _ (Spi.rd M (subL (List.Sublist.refl _))) (Su2.rd M (Zsq _ _)) (fun x hx => by obtain ⟨b8, o8, h8⟩ := Eu2 x hx; exact ⟨(h8 w noEx).rd M (Zsq _ _), (tableP_len b).2 x.1 (by rw [← hLu2]; exact List.mem_map.2 ⟨x, hx, rfl⟩)⟩) hokpi (by rw [hpnpi]; omega) (by omega)) ?_
  clear T; rintro e wc ⟨rfl, hb⟩ ac T
  replace M := M.call hb; clear hb
  rw [hLu2] at T
  have hcbpi := cnt8_bd (tableP b) (okN u v) pi
  refine Zso hK _ _ (M.mask [] rfl) ?_; clear hK K
  refine gw 15 65535 ?_; intro K hK
  refine Zoc (first := []) (cap := []) T rfl rfl rfl rfl evf (.cons (T.e 4 rfl) (.cons (T.e 3 rfl) (.cons (T.e 2 rfl) (.cons (T.e 1 rfl) .nil)))) Tryz.func110 rfl rfl ?_
  refine Calls.mono (count5_any _ _ pa _ _ LLu2 u v b.highs.length _ (Spa.rd M (subL (List.Sublist.refl _))) (Su2.rd M (Zsq _ _)) (fun x hx => by obtain ⟨b8, o8, h8⟩ := Eu2 x hx; exact ⟨(h8 w noEx).rd M (Zsq _ _), (tableP_len b).2 x.1 (by rw [← hLu2]; exact List.mem_map.2 ⟨x, hx, rfl⟩)⟩) hokpa (by rw [hpnpa]; omega) (by omega)) ?_
  clear T; rintro e wc ⟨rfl, hb⟩ ac T
  replace M := M.call hb; clear hb
  rw [hLu2] at T
  have hcbpa := cnt8_bd (tableP b) (okN u v) pa
  refine Zso hK _ _ (M.mask [] rfl) ?_; clear hK K
  refine gq T 16 131071 rfl (fun _ _ _ _ _ => (rn_gtr rfl (T.e 1 rfl) (T.e 0 rfl))) ?_; clear T ac; intro ac T
  refine Zgd (by kernel_rfl) ?_
  replace T := T.pick [0, 18, 19, 20, 21, 22, 23] rfl
  refine nm_then ?_
  refine wp_if (T.e 0 rfl) ?_ ?_
  ·intro h2
   refine wp_region_lit ?_
   refine lq T (Zrm rfl (T.e 6 rfl)) ?_; clear T ac; intro ac T
   refine l_q (v := (.int .i64 (i : Int))) (T.pick [0, 1, 2, 3, 4, 5, 7] rfl) rfl rfl rfl rfl (Zra rfl (T.e 0 rfl)) ?_; clear T ac; intro ac T
   refine wpList_nil ?_
   replace T := T.pick [0, 3, 4, 5, 6, 7] rfl
   refine Znb ?_
   refine nm_then ?_
   refine wp_region_lit ?_
   refine Zg2 T (Zq (Zrm rfl (T.e 5 rfl))) rfl (fun _ T => Zq (rn_add rfl (T.e 0 rfl) evc (by omega))) rfl ?_; clear T ac; intro ac T
   refine l_q (v := (.int .i64 ((i : Int) + 1))) (T.pick [0, 1, 2, 3, 4, 5, 6] rfl) rfl rfl rfl rfl (Zra rfl (T.e 0 rfl)) ?_; clear T ac; intro ac T
   replace T := T.pick [0, 3, 4, 5, 6, 7] rfl
   refine Zln ?_
   exact ⟨_, by omega, i + 1, i, rfl, (by omega), (by omega), (by rw [bst8_succ hlpi, ← hpa, if_pos (by omega)]; exact hlpi), T.pick [2, 3, 4, 5, 1, 0] rfl, M.mask [] rfl⟩
  intro h2
  refine wp_skip ?_
  refine Znb ?_
  refine nm_then ?_
  refine wp_region_lit ?_
  refine Zg2 T (Zq (Zrm rfl (T.e 6 rfl))) rfl (fun _ T => Zq (rn_add rfl (T.e 0 rfl) evc (by omega))) rfl ?_; clear T ac; intro ac T
  refine l_q (v := (.int .i64 ((i : Int) + 1))) (T.pick [0, 1, 2, 3, 4, 5, 6, 7] rfl) rfl rfl rfl rfl (Zra rfl (T.e 0 rfl)) ?_; clear T ac; intro ac T
  replace T := T.pick [0, 4, 5, 6, 7, 8] rfl
  refine Zln ?_
  exact ⟨_, by omega, i + 1, at9, rfl, (by omega), (by omega), (by rw [bst8_succ hlpi, ← hpa, if_neg (by omega)]; exact hlpa), T.pick [1, 2, 3, 4, 5, 0] rfl, M.mask [] rfl⟩
 intro h1
 obtain ⟨⟨pa, Bpa, dpa⟩, hkpa⟩ : ∃ z, LLu1[at9]? = some z := ⟨_, List.getElem?_eq_getElem (by omega)⟩
 have hlpa : Lp[at9]? = some pa := by rw [← hLu1, List.getElem?_map, hkpa]; rfl
 have hmpa : pa ∈ prsP anyP b.highs.length b.lows.length [] := by rw [← hLp]; exact List.mem_of_getElem? hlpa
 have hokpa := prs_ok _ _ _ [] (PairOk.nil _) pa hmpa
 have hpnpa : pa.length = b.lows.length := by obtain ⟨t, rfl, ht⟩ := prs_prefix _ _ _ [] pa hmpa; simpa using ht
 have hEpa := Eu1 _ (List.mem_of_getElem? hkpa)
 dsimp only at hEpa
 obtain ⟨bpa, opa, hSpa⟩ := id hEpa
 have Spa := hSpa w noEx
 rw [List.take_of_length_le (by omega)] at H
 have hpa : pa = bst8 (tableP b) (okN u v) (Lp.headD []) Lp := by rw [hlpa] at H; injection H
 rw [bst8_all hLp.symm (head_at (by omega))] at hpa
 refine wp_exit ?_
 refine Zet ?_
 refine Zet ?_
 refine ex_hit ?_
 refine nm_then ?_
 refine Zsr ?_
 refine Zg5 (v4 := (.slice Bpa pa.length dpa)) T (Zq (Zrm rfl (T.e 3 rfl))) rfl (Zm 6 rfl rfl) rfl (fun _ T => Zq (Zri (size := 1) at9 rfl (T.e 1 rfl) (T.e 0 rfl) ⟨_, Tryz.underlying55, by kernel_rfl⟩ rfl (by omega) (Su1.at0 (by omega)))) rfl (fun _ T => Zq (rn_cell (Sp.lc0 Su1 M (subL (List.Sublist.refl _)) hkpa) rfl (T.e 0 rfl))) rfl (Za 0 rfl rfl) rfl ?_; clear T ac; intro ac T
 replace T := T.pick [0] rfl
 refine Zln ?_
 refine wp_ret ?_
 refine rt_1 T rfl (T.e 0 rfl) ?_
 rw [← hpa]
 exact ⟨Bpa, dpa, Iu1, rfl, by omega, hEpa, M.sub (subL (List.Sublist.refl _))⟩
theorem Match5_any (b : Bx) (A : Option Addr) (c : Nat) (B : Option Addr) (d : Nat) (w : World) (hA : Rd w w.heap.size 4 A b.lows.length (sc b.lows)) (hB : Rd w w.heap.size 4 B b.highs.length (sc b.highs)) (nA : b.lows.length ≤ 1000000) (nB : b.highs.length ≤ 1000000)  :
   Calls Tryz.prog 11 #[bxV b A c B d] w (LEPost (matchE b).1 (matchE b).2 w) := by
 have hlA := hA.len4
 have hlB := hB.len4
 obtain ⟨bA, oA, SA⟩ := Sp.old hA
 obtain ⟨bB, oB, SB⟩ := Sp.old hB
 refine Zpx noEx Tryz.func11 rfl 12 rfl [.agg #[.int .i64 b.first, .int .i64 b.step, .int .i64 b.span, .int .i64 b.press, .int .i64 b.note, .slice A b.lows.length c, .slice B b.highs.length d, .int .i64 b.t0, .int .i64 b.t1, .int .i64 b.r0, .int .i64 b.r1, .int .i64 b.u0, .int .i64 b.u1, .int .i64 b.d0, .int .i64 b.d1, .int .i64 b.a0, .int .i64 b.a1, .int .i64 b.b0, .int .i64 b.b1, .int .i64 b.le, .int .i64 b.me]] rfl rfl (Mem.init w _) ?_
 intro ac wc T M
 refine Zsr ?_
 refine Zl2 ?_
 refine Zob M T rfl rfl rfl rfl (T.e 0 rfl) rfl ?_; clear M T; intro g1 wc ac M T
 refine Zg2 T (Zq (Zra rfl evc)) rfl (Zc rfl) rfl ?_; clear T ac; intro ac T
 replace T := T.pick [2] rfl
 refine Zln ?_
 refine wp_seq ?_
 refine Zsr ?_
 refine lq T (Zrr (Mem.nth M 0 rfl) rfl (T.e 0 rfl) rfl) ?_; clear T ac; intro ac T
 refine Zl2 ?_
 refine Zoc (first := []) (cap := []) T rfl rfl rfl rfl evf (.cons (T.e 0 rfl) .nil) Tryz.func28 rfl rfl ?_
 refine Calls.mono (Check5_any b _ _ _ _ _ (SA.rd M (Zz9 _)) (SB.rd M (Zz9 _)) (by omega) (by omega)) ?_
 clear T; rintro e wc ⟨rfl, hb⟩ ac T
 replace M := M.call hb; clear hb
 refine lq T (Zra rfl (T.e 0 rfl)) ?_; clear T ac; intro ac T
 replace T := T.pick [0, 3] rfl
 refine Zln ?_
 refine Zsr ?_
 refine Zg2 T (Zq (Zrm rfl (T.e 0 rfl))) rfl (fun _ T => Zq (rn_neq rfl (T.e 0 rfl) evc)) rfl ?_; clear T ac; intro ac T
 replace T := T.pick [0, 2, 3] rfl
 refine Zln ?_
 refine wp_ifn (T.e 0 rfl) ?_ ?_
 ·intro h1
  refine Zsr ?_
  refine Zg3 T (Zq (Zrm rfl (T.e 1 rfl))) rfl (Zc rfl) rfl (Za 1 rfl rfl) rfl ?_; clear T ac; intro ac T
  refine wpList_nil ?_
  replace T := T.pick [0, 1] rfl
  replace M := M.mask [false] rfl
  refine Znr ?_
  refine Zrt ?_
  refine rt_2 T rfl (T.e 1 rfl) (T.e 0 rfl) ?_
  have e9 : matchE b = ([], checkB b) := by unfold matchE; rw [if_neg (by simpa using h1)]
  rw [e9]
  exact LEPost.nil rfl M
 intro h1
 have gb := checkB_good.1 (show checkB b = 0 by simpa using h1)
 have nA5 := gb.lows.1
 have nB5 := gb.highs.1
 refine Zsk ?_
 refine Zsr ?_
 refine lq T (Zrr (Mem.nth M 0 rfl) rfl (T.e 2 rfl) rfl) ?_; clear T ac; intro ac T
 refine Zl2 ?_
 refine Zoc (first := []) (cap := []) T rfl rfl rfl rfl evf (.cons (T.e 0 rfl) (.cons evc (.cons evc .nil))) Tryz.func57 rfl rfl ?_
 refine Calls.mono (best5_any b A c B d 2 3 _ (SA.rd M (Zz9 _)) (SB.rd M (Zz9 _)) gb) ?_
 clear T; rintro e wc ⟨Au2, cu2, Iu2, rfl, h5u2, SVu2, N⟩ ac T
 obtain ⟨bu2, ou2, SVu2⟩ := SVu2
 obtain ⟨lmu2, hlmu2⟩ : ∃ q, q = mostL b okA := ⟨_, rfl⟩
 rw [most_A, ← hlmu2] at h5u2 SVu2
 have Su2 := SVu2 w noEx
 replace M := (M.join N).swapI
 replace M : Mem w noEx wc ((g1, .cells [.int .i64 b.first, .int .i64 b.step, .int .i64 b.span, .int .i64 b.press, .int .i64 b.note, .slice A b.lows.length c, .slice B b.highs.length d, .int .i64 b.t0, .int .i64 b.t1, .int .i64 b.r0, .int .i64 b.r1, .int .i64 b.u0, .int .i64 b.u1, .int .i64 b.d0, .int .i64 b.d1, .int .i64 b.a0, .int .i64 b.a1, .int .i64 b.b0, .int .i64 b.b1, .int .i64 b.le, .int .i64 b.me]) :: Iu2) := M
 clear N
 rw [most_A, ← hlmu2] at T
 refine Zg2 T (Zq (Zra rfl (T.e 0 rfl))) rfl (Zc rfl) rfl ?_; clear T ac; intro ac T
 refine wpList_nil ?_
 replace T := T.pick [0, 1] rfl
 replace M := M.mask [false] rfl
 refine Znr ?_
 refine rt_2 T rfl (T.e 1 rfl) (T.e 0 rfl) ?_
 have e9 : matchE b = (lmu2, 0) := by unfold matchE; rw [if_pos (by simpa using h1), hlmu2]
 rw [e9]
 exact ⟨Au2, cu2, Iu2, rfl, h5u2, ⟨_, _, SVu2⟩, M.sub ((List.Sublist.refl _))⟩
theorem Most5_any (b : Bx) (A : Option Addr) (c : Nat) (B : Option Addr) (d : Nat) (w : World) (hA : Rd w w.heap.size 4 A b.lows.length (sc b.lows)) (hB : Rd w w.heap.size 4 B b.highs.length (sc b.highs)) (nA : b.lows.length ≤ 1000000) (nB : b.highs.length ≤ 1000000)  :
   Calls Tryz.prog 15 #[bxV b A c B d] w fun e w' => e = .returned (.tuple #[.agg #[.int .i64 ((mostE b).1.1), .int .i64 ((mostE b).1.2)], .int .i64 ((mostE b).2)]) ∧ Below w.heap.size w w' := by
 have hlA := hA.len4
 have hlB := hB.len4
 obtain ⟨bA, oA, SA⟩ := Sp.old hA
 obtain ⟨bB, oB, SB⟩ := Sp.old hB
 refine Zpx noEx Tryz.func15 rfl 18 rfl [.agg #[.int .i64 b.first, .int .i64 b.step, .int .i64 b.span, .int .i64 b.press, .int .i64 b.note, .slice A b.lows.length c, .slice B b.highs.length d, .int .i64 b.t0, .int .i64 b.t1, .int .i64 b.r0, .int .i64 b.r1, .int .i64 b.u0, .int .i64 b.u1, .int .i64 b.d0, .int .i64 b.d1, .int .i64 b.a0, .int .i64 b.a1, .int .i64 b.b0, .int .i64 b.b1, .int .i64 b.le, .int .i64 b.me]] rfl rfl (Mem.init w _) ?_
 intro ac wc T M
 refine Zsr ?_
 refine Zl2 ?_
 refine Zob M T rfl rfl rfl rfl (T.e 0 rfl) rfl ?_; clear M T; intro g1 wc ac M T
 refine Zl2 ?_
 refine Zoa M T rfl rfl rfl rfl ?_; clear M T; intro g2 wc ac M T
 refine lq T (Zra rfl evc) ?_; clear T ac; intro ac T
 replace T := T.pick [1, 2] rfl
 refine Zln ?_
 refine wp_seq ?_
 refine Zsr ?_
 refine lq T (Zrr (Mem.nth M 1 rfl) rfl (T.e 1 rfl) rfl) ?_; clear T ac; intro ac T
 refine Zl2 ?_
 refine Zoc (first := []) (cap := []) T rfl rfl rfl rfl evf (.cons (T.e 0 rfl) .nil) Tryz.func28 rfl rfl ?_
 refine Calls.mono (Check5_any b _ _ _ _ _ (SA.rd M (Zz9 _)) (SB.rd M (Zz9 _)) (by omega) (by omega)) ?_
 clear T; rintro e wc ⟨rfl, hb⟩ ac T
 replace M := M.call hb; clear hb
 refine lq T (Zra rfl (T.e 0 rfl)) ?_; clear T ac; intro ac T
 replace T := T.pick [0, 3, 4] rfl
 refine Zln ?_
 refine Zsr ?_
 refine Zg2 T (Zq (Zrm rfl (T.e 0 rfl))) rfl (fun _ T => Zq (rn_neq rfl (T.e 0 rfl) evc)) rfl ?_; clear T ac; intro ac T
 replace T := T.pick [0, 2, 3, 4] rfl
 refine Zln ?_
 refine wp_ifn (T.e 0 rfl) ?_ ?_
 ·intro h1
  refine Zsr ?_
  refine Zg2 (v1 := (.agg #[.int .i64 0, .int .i64 0])) T (Zq (rn_build rfl .nil (fun _ => by kernel_rfl))) rfl (Zm 2 rfl rfl) rfl ?_; clear T ac; intro ac T
  refine Zl2 ?_
  refine Zos M T rfl rfl (T.e 4 rfl) (T.e 1 rfl) rfl .head rfl (by simp) rfl (by kernel_rfl) ?_; clear M T; intro wc ac M T
  refine lq T (Zra rfl (T.e 0 rfl)) ?_; clear T ac; intro ac T
  refine wpList_nil ?_
  replace T := T.pick [0, 5] rfl
  replace M := M.mask [true, false] rfl
  refine Znr ?_
  refine Zrt ?_
  refine rt_ct M T rfl (T.e 1 rfl) (T.e 0 rfl) (Zne (i := 0) rfl) rfl ?_
  have e9 : mostE b = ((0, 0), checkB b) := by unfold mostE; rw [if_neg (by simpa using h1)]
  rw [e9]
  exact ⟨rfl, M.below⟩
 intro h1
 have gb := checkB_good.1 (show checkB b = 0 by simpa using h1)
 have nA5 := gb.lows.1
 have nB5 := gb.highs.1
 refine Zsk ?_
 refine wp_seq ?_
 refine Zgs M (M.perm [1] rfl rfl) 9 (by kernel_rfl) rfl (by kernel_rfl) ?_
 clear M; intro wc M
 refine g_addG 7 M ?_
 refine gq T 0 1 rfl (fun B w' hD hl hS => (Zrr (Mem.nth (show Mem w noEx w' _ from ((MA.lft hS) (hD.wait (i := 0) (m := 7) (by kernel_rfl) hl))) 1 rfl) rfl (T.e 3 rfl) rfl)) ?_; clear T ac; intro ac T
 refine gq T 3 9 rfl (fun B w' hD hl hS => (Zrr (Mem.nth (show Mem w noEx w' _ from ((MA.lft hS) (hD.wait (i := 3) (m := 7) (by kernel_rfl) hl))) 1 rfl) rfl (T.e 4 rfl) rfl)) ?_; clear T ac; intro ac T
 refine gw 1 11 ?_; intro K hK
 refine Zoc (first := []) (cap := []) T rfl rfl rfl rfl evf (.cons (T.e 1 rfl) (.cons evc (.cons evc .nil))) Tryz.func57 rfl rfl ?_
 refine Calls.mono (best5_any b A c B d 2 3 _ (SA.rd M (Zz9 _)) (SB.rd M (Zz9 _)) gb) ?_
 clear T; rintro e wc ⟨Au2, cu2, Iu2, rfl, h5u2, SVu2, N⟩ ac T
 obtain ⟨bu2, ou2, SVu2⟩ := SVu2
 obtain ⟨lmu2, hlmu2⟩ : ∃ q, q = mostL b okA := ⟨_, rfl⟩
 rw [most_A, ← hlmu2] at h5u2 SVu2
 have Su2 := SVu2 w noEx
 replace M := (M.join N).swapI
 replace M : Mem w noEx wc ((g2, .cells [.int .i64 0, .int .i64 0]) :: (g1, .cells [.int .i64 b.first, .int .i64 b.step, .int .i64 b.span, .int .i64 b.press, .int .i64 b.note, .slice A b.lows.length c, .slice B b.highs.length d, .int .i64 b.t0, .int .i64 b.t1, .int .i64 b.r0, .int .i64 b.r1, .int .i64 b.u0, .int .i64 b.u1, .int .i64 b.d0, .int .i64 b.d1, .int .i64 b.a0, .int .i64 b.a1, .int .i64 b.b0, .int .i64 b.b1, .int .i64 b.le, .int .i64 b.me]) :: Iu2) := M
 clear N
 rw [most_A, ← hlmu2] at T
 refine Zso hK _ _ (MA.mk (fun _ => M.perm [0, 1] rfl rfl) (M.perm [1] rfl rfl)) ?_; clear hK K
 refine gw 2 15 ?_; intro K hK
 refine Zoc (first := []) (cap := []) T rfl rfl rfl rfl evf (.cons (T.e 0 rfl) .nil) Tryz.func67 rfl rfl ?_
 refine Calls.mono (size5_any _ _ _ lmu2 _ (Su2.rd M (.cons _ (.cons _ (List.Sublist.refl _)))) (by omega)) ?_
 clear T; rintro e wc ⟨rfl, hb⟩ ac T
 replace M := M.call hb; clear hb
 refine Zso hK _ _ (MA.mk (fun _ => M.perm [0, 1] rfl rfl) (M.perm [1] rfl rfl)) ?_; clear hK K
 refine gw 4 31 ?_; intro K hK
 refine Zoc (first := []) (cap := []) T rfl rfl rfl rfl evf (.cons (T.e 2 rfl) (.cons evc (.cons evc .nil))) Tryz.func57 rfl rfl ?_
 refine Calls.mono (best5_any b A c B d 2 2 _ (SA.rd M (Zz9 _)) (SB.rd M (Zz9 _)) gb) ?_
 clear T; rintro e wc ⟨Au4, cu4, Iu4, rfl, h5u4, SVu4, N⟩ ac T
 obtain ⟨bu4, ou4, SVu4⟩ := SVu4
 obtain ⟨lmu4, hlmu4⟩ : ∃ q, q = mostL b okM := ⟨_, rfl⟩
 rw [most_M, ← hlmu4] at h5u4 SVu4
 have Su4 := SVu4 w noEx
 replace M := (M.join N).swapI
 replace M : Mem w noEx wc ((g2, .cells [.int .i64 0, .int .i64 0]) :: (g1, .cells [.int .i64 b.first, .int .i64 b.step, .int .i64 b.span, .int .i64 b.press, .int .i64 b.note, .slice A b.lows.length c, .slice B b.highs.length d, .int .i64 b.t0, .int .i64 b.t1, .int .i64 b.r0, .int .i64 b.r1, .int .i64 b.u0, .int .i64 b.u1, .int .i64 b.d0, .int .i64 b.d1, .int .i64 b.a0, .int .i64 b.a1, .int .i64 b.b0, .int .i64 b.b1, .int .i64 b.le, .int .i64 b.me]) :: (Iu2 ++ Iu4)) := M
 clear N
 rw [most_M, ← hlmu4] at T
 refine Zso hK _ _ (MA.mk (fun _ => M.perm [0, 1] rfl rfl) (M.perm [1] rfl rfl)) ?_; clear hK K
 refine gw 5 63 ?_; intro K hK
 refine Zoc (first := []) (cap := []) T rfl rfl rfl rfl evf (.cons (T.e 0 rfl) .nil) Tryz.func67 rfl rfl ?_
 refine Calls.mono (size5_any _ _ _ lmu4 _ (Su4.rd M (.cons _ (.cons _ (Zsq _ _)))) (by omega)) ?_
 clear T; rintro e wc ⟨rfl, hb⟩ ac T
 replace M := M.call hb; clear hb
 refine Zso hK _ _ (MA.mk (fun _ => M.perm [0, 1] rfl rfl) (M.perm [1] rfl rfl)) ?_; clear hK K
 refine gq (v := (.agg #[.int .i64 (pairsP lmu2), .int .i64 (pairsP lmu4)])) T 6 127 rfl (fun _ _ _ _ _ => (rn_build rfl (.cons (T.e 2 rfl) (.cons (T.e 0 rfl) .nil)) (fun _ => by kernel_rfl))) ?_; clear T ac; intro ac T
 refine gw 7 255 ?_; intro K hK
 refine Zos M T rfl rfl (T.e 9 rfl) (T.e 0 rfl) rfl .head rfl (by simp) rfl (by kernel_rfl) ?_; clear M T; intro wc ac M T
 refine Zso hK _ _ (MA.mk (fun h => (no_of (by kernel_rfl) h).elim) (M.perm [1] rfl rfl)) ?_; clear hK K
 refine gq T 8 511 rfl (fun _ _ _ _ _ => (Zra rfl evc)) ?_; clear T ac; intro ac T
 refine Zgd (by kernel_rfl) ?_
 replace T := T.pick [0, 10] rfl
 replace M := M.mask [true, false] rfl
 refine Znr ?_
 refine rt_ct M T rfl (T.e 1 rfl) (T.e 0 rfl) (Zne (i := 0) rfl) rfl ?_
 have e9 : mostE b = ((pairsP lmu2, pairsP lmu4), 0) := by unfold mostE; rw [if_pos (by simpa using h1), hlmu2, hlmu4]
 rw [e9]
 exact ⟨rfl, M.below⟩
theorem Tryz.append1i (B : Option Addr) (d g : Nat) (ty : TypeId) (w : World) : (Builtin.append_ #[33, 33] ty #[.slice (some ⟨g, 0, none⟩) 1 1, .slice B 0 d]).run Tryz.prog w = .ok (.slice (some ⟨g, 0, none⟩) 1 1) w := by
 cases B <;> kernel_rfl
theorem flatMap_len8 {α β : Type} {f : α → List β} {m : Nat} : ∀ (l : List α), (∀ x ∈ l, (f x).length ≤ m) → (l.flatMap f).length ≤ l.length * m
 | [], _ => by simp
 | x :: l, h => by
  rw [List.flatMap_cons, List.length_append, List.length_cons, Nat.succ_mul]
  have h1 := h x Zz2
  have h2 := flatMap_len8 l fun y hy => h y (Zz1 hy)
  omega
theorem chN_few {n : Nat} (hn : n ≤ 4) : ∀ (m first : Nat), (chN n m first).length ≤ 4 ^ m
 | 0, _ => by simp [chN]
 | m + 1, first => by
   unfold chN
   have h := flatMap_len8 (f := fun i : Nat => (chN n m (i + 1)).map ((i : Int) :: ·)) (m := 4 ^ m) (List.range' first (n - first)) fun i _ => by rw [List.length_map]; exact chN_few hn m _
   rw [List.length_range'] at h
   rw [Nat.pow_succ, Nat.mul_comm]
   exact Nat.le_trans h (Nat.mul_le_mul_right _ (by omega))
def chQ (n m first i k : Nat) : List (List Int) := ((List.range' first (i - first)).flatMap fun i => (chN n m (i + 1)).map ((i : Int) :: ·)) ++ ((chN n m (i + 1)).take k).map ((i : Int) :: ·)
theorem chQ_zero (n m first : Nat) : chQ n m first first 0 = [] := by
 unfold chQ
 rw [Nat.sub_self]
 rfl
theorem chQ_step {n m first i k : Nat} {l : List Int} (h : (chN n m (i + 1))[k]? = some l) : chQ n m first i (k + 1) = chQ n m first i k ++ [(i : Int) :: l] := by
 unfold chQ
 rw [List.take_add_one, h, Option.toList_some, List.map_append, List.append_assoc]
 rfl
theorem chQ_next {n m first i k : Nat} (hi : first ≤ i) (hk : (chN n m (i + 1)).length ≤ k) : chQ n m first i k = chQ n m first (i + 1) 0 := by
 unfold chQ
 have e : List.range' first (i + 1 - first) = List.range' first (i - first) ++ [i] := by
  rw [show i + 1 - first = (i - first) + 1 by omega, List.range'_concat]
  simp
  omega
 rw [e, List.take_of_length_le hk, List.flatMap_append]
 simp
theorem chQ_end {n m first i : Nat} (hi : i = n) : chQ n m first i 0 = chN n (m + 1) first := by
 subst hi
 unfold chQ
 rw [List.take_zero, List.map_nil, List.append_nil]
 rfl
theorem chQ_few {n m first i k : Nat} (hn : n ≤ 4) (hm : m ≤ 3) (h1 : first ≤ i) (h2 : i < n) : (chQ n m first i k).length ≤ 1000 := by
 unfold chQ
 have ha := flatMap_len8 (f := fun i : Nat => (chN n m (i + 1)).map ((i : Int) :: ·)) (m := 64) (List.range' first (i - first)) fun i _ => by rw [List.length_map]; exact Nat.le_trans (chN_few hn m _) (Nat.pow_le_pow_right (by omega) hm)
 have hb : (chN n m (i + 1)).length ≤ 64 := Nat.le_trans (chN_few hn m _) (Nat.pow_le_pow_right (by omega) hm)
 rw [List.length_range'] at ha
 have hc : (i - first) * 64 ≤ 4 * 64 := Nat.mul_le_mul_right _ (by omega)
 have hd : ((chN n m (i + 1)).take k).length ≤ (chN n m (i + 1)).length := by rw [List.length_take]; exact Nat.min_le_right _ _
 rw [List.length_append, List.length_map]
 omega
theorem Mem.rot9 {w0 w : World} {ex : Nat → Prop} {K A B C : List (Nat × BA)} (M : Mem w0 ex w (K ++ (A ++ B ++ C))) : Mem w0 ex w (K ++ (C ++ A ++ B)) :=
 have hp : (K ++ (A ++ B ++ C)).Perm (K ++ (C ++ A ++ B)) := List.Perm.append_left K (by rw [List.append_assoc C]; exact List.perm_append_comm)
 ⟨M.os, M.tape, M.output, M.size, M.block, fun p h => M.blk p (hp.mem_iff.2 h), (hp.map _).nodup_iff.1 M.nd⟩
theorem Mem.drop9 {w0 w : World} {ex : Nat → Prop} {K A B C : List (Nat × BA)} (M : Mem w0 ex w (K ++ (C ++ A ++ B))) : Mem w0 ex w (K ++ (A ++ B)) := M.sub (List.Sublist.append_left (by rw [List.append_assoc]; exact Zsq _ _) _)
def ChPost (R : List (List Int)) (w : World) (e : Ending) (w' : World) : Prop := ∃ (A : Option Addr) (c : Nat) (LL : List LE) (I : List (Nat × BA)), e = .returned (.slice A LL.length c) ∧ LL.map (·.1) = R ∧ (∃ b o, ∀ (w : World) (ex : Nat → Prop), Sp w ex I A LL.length 1 b o (lc LL)) ∧ Els LL I ∧ Mem w noEx w' I
def ChSpec (n m : Nat) : Prop := ∀ (first : Nat) (w : World), first ≤ n → Calls Tryz.prog 64 #[.int .i64 (first : Int), .int .i64 (n : Int), .int .i64 (m : Int)] w (ChPost (chN n m first) w)
theorem choices_step (first n m : Nat) (w : World) (hn4 : n ≤ 4) (hm4 : m ≤ 4) (hf : first ≤ n) (ih : ∀ m1, m = m1 + 1 → ChSpec n m1) :
   Calls Tryz.prog 64 #[.int .i64 (first : Int), .int .i64 (n : Int), .int .i64 (m : Int)] w (ChPost (chN n m first) w) := by
 refine Zpx noEx Tryz.func64 rfl 43 rfl [.int .i64 (first : Int), .int .i64 (n : Int), .int .i64 (m : Int)] rfl rfl (Mem.init w _) ?_
 intro ac wc T M
 refine Zsr ?_
 refine lq T (Zra rfl evc) ?_; clear T ac; intro ac T
 replace T := T.pick [1, 2, 3] rfl
 refine Zln ?_
 refine wp_seq ?_
 refine Zsr ?_
 refine Zg2 T (Zq (Zrm rfl (T.e 2 rfl))) rfl (fun _ T => Zq (rn_eql rfl (T.e 0 rfl) evc)) rfl ?_; clear T ac; intro ac T
 replace T := T.pick [0, 2, 3, 4] rfl
 refine Zln ?_
 refine wp_if (T.e 0 rfl) ?_ ?_
 ·intro h1
  obtain rfl : m = 0 := by omega
  refine Zsr ?_
  refine Zl2 ?_
  refine ow_bs (e := 33) [.slice none 0 0] M T rfl rfl rfl rfl (.cons evc .nil) (fun _ => by kernel_rfl) ?_; clear M T; intro g1 wc ac M T
  refine lq T (Zra rfl (T.e 0 rfl)) ?_; clear T ac; intro ac T
  replace T := T.pick [0] rfl
  refine Zln ?_
  refine wp_ret ?_
  refine Zrt ?_
  refine rt_1 T rfl (T.e 0 rfl) ?_
  exact ⟨_, _, [([], none, 0)], _, rfl, rfl, ⟨g1, 0, fun w ex => Sp.cells (xs := lc [([], none, 0)]) rfl⟩, (fun x hx => by simp only [List.mem_cons, List.not_mem_nil, or_false] at hx; subst hx; exact ⟨0, 0, fun w ex => Sp.nil.mono (Zz9 _)⟩), M⟩
 intro h1
 obtain ⟨m1, rfl⟩ : ∃ k, m = k + 1 := ⟨m - 1, by omega⟩
 have ih1 := ih m1 rfl
 refine Zsk ?_
 refine Zsr ?_
 refine lq T (Zra rfl evc) ?_; clear T ac; intro ac T
 replace T := T.pick [0, 2, 3, 4] rfl
 refine Zln ?_
 refine wp_seq ?_
 refine Zsr ?_
 refine Zg2 T (Zq (Zrm rfl (T.e 1 rfl))) rfl (Za 0 rfl rfl) rfl ?_; clear T ac; intro ac T
 replace T := T.pick [0, 2, 4, 5] rfl
 refine Zln ?_
 refine wp_block ?_
 refine wp_loop_n (fun mz ac wc => ∃ (i : Nat) (OL : List LE) (A3 : Option Addr) (c3 : Nat) (Ie Io : List (Nat × BA)), mz = n - i ∧ (first ≤ i ∧ i ≤ n) ∧ (OL.map (·.1) = chQ n m1 first i 0) ∧ (Els OL Ie) ∧ (Sl 33 1 (.slice A3 OL.length c3) OL.length (lc OL) Io) ∧ Tm ac 43 [(1, .int .i64 (n : Int)), (2, .int .i64 ((m1 + 1 : Nat) : Int)), (7, .slice A3 OL.length c3), (8, .int .i64 (i : Int))] ∧ Mem w noEx wc ((Ie ++ Io))) ?_ ?_
 ·exact ⟨_, first, [], none, 0, [], [], rfl, (by omega), (chQ_zero _ _ _).symm, (fun x hx => by cases hx), (Sl.nil _ _), T.pick [2, 3, 1, 0] rfl, ((M.mask [] rfl).as (by simp))⟩
 clear T M
 rintro mz ac wc ⟨i, OL, A3, c3, Ie, Io, hmm1, hi, hO, hE, hsl, T, M⟩
 refine wp_seq ?_
 refine Zsr ?_
 refine Zg3 T (Zq (Zrm rfl (T.e 3 rfl))) rfl (Zm 1 rfl rfl) rfl (fun _ T => Zq (rn_lss rfl (T.e 1 rfl) (T.e 0 rfl))) rfl ?_; clear T ac; intro ac T
 replace T := T.pick [0, 3, 4, 5, 6] rfl
 refine Zln ?_
 refine wp_if (T.e 0 rfl) ?_ ?_
 ·intro h2
  refine Zsk ?_
  refine wp_seq ?_
  refine wp_block ?_
  refine Zsr ?_
  refine Zg5 T (Zq (Zrm rfl (T.e 4 rfl))) rfl (fun _ T => Zq (rn_add rfl (T.e 0 rfl) evc (by omega))) rfl (Zm 3 rfl rfl) rfl (Zm 5 rfl rfl) rfl (fun _ T => Zq (rn_sub rfl (T.e 0 rfl) evc (by omega))) rfl ?_; clear T ac; intro ac T
  refine Zl2 ?_
  have e7 : ((i : Int) + 1) = ((i + 1 : Nat) : Int) := rfl
  have e6 : (((m1 + 1 : Nat) : Int) - 1) = (m1 : Int) := by omega
  refine Zoc (first := []) (cap := []) T rfl rfl rfl rfl evf (.cons (T.e 3 rfl) (.cons (T.e 2 rfl) (.cons (T.e 0 rfl) .nil))) Tryz.func64 rfl rfl ?_
  refine Calls.mono ((by rw [e6]; exact ih1 (i + 1) _ (by omega))) ?_
  clear T; rintro e wc ⟨Au1, cu1, LLu1, Iu1, rfl, hLu1, Su1, Eu1, N⟩ ac T
  obtain ⟨bu1, ou1, Su1⟩ := Su1
  replace Su1 := Su1 w noEx
  have nR : LLu1.length = (chN n m1 (i + 1)).length := by rw [← hLu1, List.length_map]
  have nR4 : (chN n m1 (i + 1)).length ≤ 64 := Nat.le_trans (chN_few hn4 m1 _) (Nat.pow_le_pow_right (by omega) (by omega : m1 ≤ 3))
  replace M := (M.join N).swapI
  clear N
  replace M : Mem w noEx wc ((Iu1 ++ Ie ++ Io)) := Mem.rot9 (K := []) M
  refine lq T (Zra rfl (T.e 0 rfl)) ?_; clear T ac; intro ac T
  replace T := T.pick [0, 8, 9, 10, 11] rfl
  refine Zln ?_
  refine Zsr ?_
  refine lq T (Zra rfl evc) ?_; clear T ac; intro ac T
  refine Zln ?_
  refine wp_block ?_
  refine wp_loop_n (fun mz ac wc => ∃ (k : Nat) (OL2 : List LE) (A4 : Option Addr) (c4 : Nat) (Ie2 Io2 : List (Nat × BA)), mz = LLu1.length - k ∧ (k ≤ LLu1.length) ∧ (OL2.map (·.1) = chQ n m1 first i k) ∧ (Els OL2 Ie2) ∧ (Sl 33 1 (.slice A4 OL2.length c4) OL2.length (lc OL2) Io2) ∧ Tm ac 43 [(1, .int .i64 (n : Int)), (2, .int .i64 ((m1 + 1 : Nat) : Int)), (7, .slice A4 OL2.length c4), (8, .int .i64 (i : Int)), (9, .slice Au1 LLu1.length cu1), (10, .int .i64 (k : Int))] ∧ Mem w noEx wc ((Iu1 ++ Ie2 ++ Io2))) ?_ ?_
  ·exact ⟨_, 0, OL, _, _, Ie, Io, rfl, (Nat.zero_le _), hO, hE, hsl, T.pick [2, 3, 4, 5, 1, 0] rfl, M.mask [] rfl⟩
  clear T M
  rintro mz ac wc ⟨k, OL2, A4, c4, Ie2, Io2, hmm2, hk, hO2, hE2, hsl2, T, M⟩
  refine wp_seq ?_
  refine Zsr ?_
  refine Zg4 T (Zq (Zrm rfl (T.e 5 rfl))) rfl (Zm 5 rfl rfl) rfl (Zl Tryz.underlying55 0 rfl rfl) rfl (fun _ T => Zq (rn_lss rfl (T.e 2 rfl) (T.e 0 rfl))) rfl ?_; clear T ac; intro ac T
  replace T := T.pick [0, 4, 5, 6, 7, 8, 9] rfl
  refine Zln ?_
  refine wp_if (T.e 0 rfl) ?_ ?_
  ·intro h3
   obtain ⟨⟨lv, Av, cv⟩, hkv⟩ : ∃ x, LLu1[k]? = some x := ⟨_, List.getElem?_eq_getElem (by omega)⟩
   obtain ⟨bv, ov, Sv⟩ := Eu1 _ (List.mem_of_getElem? hkv)
   replace Sv : Sp w noEx Iu1 Av lv.length 1 bv ov (ic lv) := Sv w noEx
   have hkq : (chN n m1 (i + 1))[k]? = some lv := by rw [← hLu1, List.getElem?_map, hkv]; rfl
   have hlv := (chN_len _ _ lv (List.mem_of_getElem? hkq)).1
   have hOn : OL2.length ≤ 1000 := by rw [← List.length_map (f := (·.1)), hO2]; exact chQ_few hn4 (by omega) (by omega) (by omega)
   refine Zsk ?_
   refine wp_seq ?_
   refine wp_block ?_
   refine wp_region_lit ?_
   refine Zg2 T (Zq (Zrm rfl (T.e 3 rfl))) rfl (Zm 5 rfl rfl) rfl ?_; clear T ac; intro ac T
   refine Zl2 ?_
   refine ow_bsR (e := 3) (size := 1) [.int .i64 (i : Int)] M T rfl rfl rfl rfl (.cons (T.e 0 rfl) .nil) (fun _ => by kernel_rfl) rfl rfl rfl ?_; clear M T; intro g2 wc ac M T
   refine Zg4 (v4 := (.slice Av lv.length cv)) T (Zq (Zrm rfl (T.e 8 rfl))) rfl (Zm 10 rfl rfl) rfl (fun _ T => Zq (Zri (size := 1) k rfl (T.e 1 rfl) (T.e 0 rfl) ⟨_, Tryz.underlying55, by kernel_rfl⟩ rfl (by omega) (Su1.at0 (by omega)))) rfl (fun _ T => Zq (rn_cell (Sp.lc0 Su1 M (.cons _ (subL (subL (List.Sublist.refl _)))) hkv) rfl (T.e 0 rfl))) rfl ?_; clear T ac; intro ac T
   refine Zl2 ?_
   refine ow_appL Tryz.info3 M T rfl rfl rfl rfl (fun g w => Tryz.append1i _ _ g _ w) Tryz.underlying33 rfl rfl rfl (by omega) (T.e 4 rfl) (T.e 0 rfl) (Sv.rd M (.cons _ (subL (subL (List.Sublist.refl _))))) (ic_one _) ?_; clear M T; intro go1 cgo1 ysgo1 wc ac M T
   obtain ⟨lo1, hlo1⟩ : ∃ q : List Int, q = (i : Int) :: lv := ⟨_, rfl⟩
   have lhlo1 : lo1.length = lv.length + 1 := by rw [hlo1]; rfl
   replace M : Mem w noEx wc ((go1, .cells (ic lo1 ++ ysgo1)) :: (Iu1 ++ Ie2 ++ Io2)) := by rw [hlo1]; exact M
   rw [show 1 + lv.length = lo1.length by omega] at T
   refine Zl2 ?_
   refine ow_bs (e := 33) [.slice (some ⟨go1, 0, none⟩) lo1.length cgo1] M T rfl rfl rfl rfl (.cons (T.e 0 rfl) .nil) (fun _ => by kernel_rfl) ?_; clear M T; intro g3 wc ac M T
   refine Zl2 ?_
   refine ow_app (((g3, .cells [.slice (some ⟨go1, 0, none⟩) lo1.length cgo1]) :: (go1, .cells (ic lo1 ++ ysgo1)) :: (Iu1 ++ Ie2))) Tryz.info33 hsl2 M (by first | rfl | simp) T rfl rfl rfl rfl Tryz.underlying55 rfl rfl rfl (by omega) (T.e 8 rfl) (T.e 0 rfl) (Zne (i := 0) rfl) rfl rfl ?_; clear M T; intro ga1 cga1 wc ac M T
   refine l_q (v := (.slice (some ⟨ga1, 0, none⟩) (OL2.length + 1) cga1)) (T.pick [0, 1, 2, 3, 4, 5, 6, 7, 8, 9, 10, 11, 12, 14, 15, 16] rfl) rfl rfl rfl rfl (Zra rfl (T.e 0 rfl)) ?_; clear T ac; intro ac T
   refine wpList_nil ?_
   replace T := T.pick [0, 12, 13, 14, 15, 16] rfl
   replace M := M.mask [true, false, true] rfl
   refine Znb ?_
   refine nm_then ?_
   refine wp_region_lit ?_
   refine Zg2 T (Zq (Zrm rfl (T.e 5 rfl))) rfl (fun _ T => Zq (rn_add rfl (T.e 0 rfl) evc (by omega))) rfl ?_; clear T ac; intro ac T
   refine l_q (v := (.int .i64 ((k : Int) + 1))) (T.pick [0, 1, 2, 3, 4, 5, 6] rfl) rfl rfl rfl rfl (Zra rfl (T.e 0 rfl)) ?_; clear T ac; intro ac T
   replace T := T.pick [0, 3, 4, 5, 6, 7] rfl
   refine Zln ?_
   have e9 : OL2.length + 1 = (OL2 ++ [(lo1, (some ⟨go1, 0, none⟩ : Option Addr), cgo1)]).length := by simp
   rw [e9, lc_snoc] at M
   rw [e9] at T
   clear e9
   exact ⟨_, by omega, k + 1, (OL2 ++ [(lo1, (some ⟨go1, 0, none⟩ : Option Addr), cgo1)]), _, _, (Ie2 ++ [(go1, .cells (ic lo1 ++ ysgo1))]), [(ga1, .row 33 1 (OL2 ++ [(lo1, (some ⟨go1, 0, none⟩ : Option Addr), cgo1)]).length (lc (OL2 ++ [(lo1, (some ⟨go1, 0, none⟩ : Option Addr), cgo1)])) cga1)], rfl, (by omega), (by rw [List.map_append, hO2, chQ_step hkq]; simp [hlo1]), (hE2.snoc _ _ _ _), (Sl.row _ _ _ _ _ _), T.pick [2, 3, 1, 4, 5, 0] rfl, ((Mem.swapI (I := [(go1, .cells (ic lo1 ++ ysgo1)), (ga1, .row 33 1 (OL2 ++ [(lo1, (some ⟨go1, 0, none⟩ : Option Addr), cgo1)]).length (lc (OL2 ++ [(lo1, (some ⟨go1, 0, none⟩ : Option Addr), cgo1)])) cga1)]) (L := [] ++ (Iu1 ++ Ie2)) (M.permT [1, 0] 2 rfl rfl rfl rfl)).as (by simp))⟩
  intro h3
  refine wp_exit ?_
  refine Zet ?_
  refine Zet ?_
  refine ex_hit ?_
  refine Znb ?_
  refine nm_then ?_
  refine wp_region_lit ?_
  refine Zg2 T (Zq (Zrm rfl (T.e 4 rfl))) rfl (fun _ T => Zq (rn_add rfl (T.e 0 rfl) evc (by omega))) rfl ?_; clear T ac; intro ac T
  refine l_q (v := (.int .i64 ((i : Int) + 1))) (T.pick [0, 1, 2, 3, 4, 5, 7, 8] rfl) rfl rfl rfl rfl (Zra rfl (T.e 0 rfl)) ?_; clear T ac; intro ac T
  replace T := T.pick [0, 4, 5, 6] rfl
  refine Zln ?_
  exact ⟨_, by omega, i + 1, OL2, _, _, Ie2, Io2, rfl, (by omega), (by rw [hO2, chQ_next (by omega) (by omega)]), hE2, hsl2, T.pick [1, 2, 3, 0] rfl, Mem.drop9 (K := []) M⟩
 intro h2
 refine wp_exit ?_
 refine Zet ?_
 refine Zet ?_
 refine ex_hit ?_
 refine nm_then ?_
 refine Zsr ?_
 refine Zg2 T (Zq (Zrm rfl (T.e 3 rfl))) rfl (Za 0 rfl rfl) rfl ?_; clear T ac; intro ac T
 replace T := T.pick [0] rfl
 refine Zln ?_
 refine wp_ret ?_
 refine rt_1 T rfl (T.e 0 rfl) ?_
 obtain ⟨b9, o9, h9⟩ := hsl.spV (by rw [lc_length, Nat.mul_one])
 refine ⟨A3, c3, OL, _, rfl, ?_, ⟨b9, o9, fun w ex => (h9 w ex).mono (Zsq _ _)⟩, hE.mono (Zsl _ _), M⟩
 rw [hO]
 exact chQ_end (by omega)
theorem choices_any (n : Nat) (hn : n ≤ 4) : ∀ m : Nat, m ≤ 4 → ChSpec n m
 | 0, h => fun first w hf => choices_step first n 0 w hn h hf fun m1 e => by omega
 | m + 1, h => fun first w hf => choices_step first n (m + 1) w hn h hf fun m1 e => by
  obtain rfl : m = m1 := by omega
  exact choices_any n hn m (by omega)
theorem any_take {α : Type} {l : List α} {p : α → Bool} {i : Nat} {x : α} (h : l[i]? = some x) : (l.take (i + 1)).any p = ((l.take i).any p || p x) := by
 rw [List.take_add_one, h, Option.toList_some, List.any_append, List.any_cons, List.any_nil, Bool.or_false]
def hit8 (T : List (List Int)) (k : Nat) (x : Int) : Bool := decide ((T.getD x.toNat []).getD k 0 = 1)
theorem hit_at {LL : List LE} {T : List (List Int)} (hL : LL.map (·.1) = T) {k xk : Nat} {x tv : Int} {rw : List Int} {B : Option Addr} {d : Nat} (hr : LL[xk]? = some (rw, B, d)) (hx : x = (xk : Int)) (ht : rw[k]? = some tv) : hit8 T k x = decide (tv = 1) := by
 subst hL hx
 unfold hit8
 rw [Int.toNat_natCast, List.getD_eq_getElem?_getD (l := LL.map (·.1)), List.getElem?_map, hr]
 show decide (rw.getD k 0 = 1) = _
 rw [List.getD_eq_getElem?_getD, ht]
 rfl
theorem countP_succ {p : Nat → Bool} {k : Nat} : (List.range (k + 1)).countP p = (List.range k).countP p + (if p k = true then 1 else 0) := by
 rw [List.range_succ, List.countP_append]
 simp [List.countP_cons]
theorem near5_any (A : Option Addr) (c : Nat) (TT : List LE) (G : Option Addr) (d : Nat) (l : List Int) (highs : Nat) (w : World) (hA : Rd w w.heap.size 1 A TT.length (lc TT)) (hT : RowsR w TT highs) (hG : Rd w w.heap.size 1 G l.length (ic l)) (hl : ∀ x ∈ l, 0 ≤ x ∧ x < (TT.length : Int)) (hl5 : l.length ≤ 1000) (hh5 : highs ≤ 1000) (hn5 : TT.length ≤ 1000) :
   Calls Tryz.prog 65 #[.slice A TT.length c, .slice G l.length d, .int .i64 (highs : Int)] w fun e w' => e = .returned (.int .i64 ((near8 (TT.map (·.1)) highs l : Nat) : Int)) ∧ Below w.heap.size w w' := by
 obtain ⟨bG, oG, SG⟩ := Sp.old hG
 obtain ⟨bA, oA, SA⟩ := Sp.old hA
 refine Zpx noEx Tryz.func65 rfl 40 rfl [.slice A TT.length c, .slice G l.length d, .int .i64 (highs : Int)] rfl rfl (Mem.init w _) ?_
 intro ac wc T M
 refine Zsr ?_
 refine lq T (Zra rfl evc) ?_; clear T ac; intro ac T
 replace T := T.pick [1, 2, 3] rfl
 refine Zln ?_
 refine Zsr ?_
 refine lq T (Zra rfl evc) ?_; clear T ac; intro ac T
 refine Zln ?_
 refine wp_seq ?_
 refine Zsr ?_
 refine lq T (Zra rfl evc) ?_; clear T ac; intro ac T
 refine Zln ?_
 refine wp_block ?_
 refine wp_loop_n (fun mz ac wc => ∃ (k q : Nat), mz = highs - k ∧ (k ≤ highs) ∧ (q = (List.range k).countP (fun k => l.any (hit8 (TT.map (·.1)) k))) ∧ (q ≤ k) ∧ Tm ac 40 [(0, .slice A TT.length c), (1, .slice G l.length d), (2, .int .i64 (highs : Int)), (7, .int .i64 (q : Int)), (8, .int .i64 (k : Int))] ∧ Mem w noEx wc []) ?_ ?_
 ·exact ⟨_, 0, 0, rfl, (Nat.zero_le _), rfl, (Nat.le_refl _), T.pick [2, 3, 4, 1, 0] rfl, M.mask [] rfl⟩
 clear T M
 rintro mz ac wc ⟨k, q, hmm1, hk, hq, hb, T, M⟩
 refine wp_seq ?_
 refine Zsr ?_
 refine Zg3 T (Zq (Zrm rfl (T.e 4 rfl))) rfl (Zm 3 rfl rfl) rfl (fun _ T => Zq (rn_lss rfl (T.e 1 rfl) (T.e 0 rfl))) rfl ?_; clear T ac; intro ac T
 replace T := T.pick [0, 3, 4, 5, 6, 7] rfl
 refine Zln ?_
 refine wp_if (T.e 0 rfl) ?_ ?_
 ·intro h1
  refine Zsk ?_
  refine wp_seq ?_
  refine wp_block ?_
  refine Zsr ?_
  refine lq T (Zra rfl evc) ?_; clear T ac; intro ac T
  replace T := T.pick [0, 2, 3, 4, 5, 6] rfl
  refine Zln ?_
  refine wp_seq ?_
  refine Zsr ?_
  refine lq T (Zra rfl evc) ?_; clear T ac; intro ac T
  refine Zln ?_
  refine wp_block ?_
  refine wp_loop_n (fun mz ac wc => ∃ (i : Nat) (is : Bool), mz = l.length - i ∧ (i ≤ l.length) ∧ (is = (l.take i).any (hit8 (TT.map (·.1)) k)) ∧ Tm ac 40 [(0, .slice A TT.length c), (1, .slice G l.length d), (2, .int .i64 (highs : Int)), (7, .int .i64 (q : Int)), (8, .int .i64 (k : Int)), (9, .bool is), (10, .int .i64 (i : Int))] ∧ Mem w noEx wc []) ?_ ?_
  ·exact ⟨_, 0, false, rfl, (Nat.zero_le _), rfl, T.pick [2, 3, 4, 5, 6, 1, 0] rfl, M.mask [] rfl⟩
  clear T M
  rintro mz ac wc ⟨i, is, hmm2, hi, hs, T, M⟩
  refine wp_seq ?_
  refine Zsr ?_
  refine Zg4 T (Zq (Zrm rfl (T.e 6 rfl))) rfl (Zm 2 rfl rfl) rfl (Zl Tryz.underlying33 0 rfl rfl) rfl (fun _ T => Zq (rn_lss rfl (T.e 2 rfl) (T.e 0 rfl))) rfl ?_; clear T ac; intro ac T
  replace T := T.pick [0, 4, 5, 6, 7, 8, 9, 10] rfl
  refine Zln ?_
  refine wp_if (T.e 0 rfl) ?_ ?_
  ·intro h2
   obtain ⟨x, hkx, -⟩ := ic_next (l := l) (k := i) (by omega)
   have hxr := hl x (List.mem_of_getElem? hkx)
   obtain ⟨xk, hxk⟩ : ∃ q : Nat, x = (q : Int) := ⟨x.toNat, by omega⟩
   obtain ⟨⟨rw, Br, dr⟩, hkr⟩ : ∃ z, TT[xk]? = some z := ⟨_, List.getElem?_eq_getElem (by omega)⟩
   have hrow := hT _ (List.mem_of_getElem? hkr)
   dsimp only at hrow
   have hrl := hrow.2
   obtain ⟨br, orr, Sr⟩ := Sp.old hrow.1
   obtain ⟨tv, hkt, -⟩ := ic_next (l := rw) (k := k) (by omega)
   refine Zsk ?_
   refine wp_seq ?_
   refine wp_block ?_
   refine wp_region_lit ?_
   refine Zg2 T (Zq (Zrm rfl (T.e 6 rfl))) rfl (Zm 0 rfl rfl) rfl ?_; clear T ac; intro ac T
   rcases Bool.eq_false_or_eq_true is with h3 | h3
   ·refine Zg8 T (Zp (Zwn rfl rfl (T.e 0 rfl) h3)) rfl (fun _ T => Zp (Zwn rfl rfl (T.e 1 rfl) h3)) rfl (fun _ T => Zp (Zwn rfl rfl (T.e 2 rfl) h3)) rfl (fun _ T => Zp (Zwn rfl rfl (T.e 3 rfl) h3)) rfl (fun _ T => Zp (Zwn rfl rfl (T.e 4 rfl) h3)) rfl (fun _ T => Zp (Zwn rfl rfl (T.e 5 rfl) h3)) rfl (fun _ T => Zp (Zwn rfl rfl (T.e 6 rfl) h3)) rfl (fun _ T => Zp (Zwn rfl rfl (T.e 7 rfl) h3)) rfl ?_; clear T ac; intro ac T
    refine Zg4 T (Zp (Zwn rfl rfl (T.e 8 rfl) h3)) rfl (fun _ T => Zp (Zwn rfl rfl (T.e 9 rfl) h3)) rfl (fun _ T => Zp (Zwn rfl rfl (T.e 10 rfl) h3)) rfl (fun _ T => Zq (Zr1 rfl (T.e 11 rfl) h3 evc)) rfl ?_; clear T ac; intro ac T
    refine l_q (v := (.bool true)) (T.pick [0, 1, 2, 3, 4, 5, 6, 7, 8, 9, 10, 11, 12, 13, 14, 15, 16, 17, 18, 19, 21] rfl) rfl rfl rfl rfl (Zra rfl (T.e 0 rfl)) ?_; clear T ac; intro ac T
    refine wpList_nil ?_
    replace T := T.pick [0, 2, 3, 4, 5, 6, 7, 8, 9, 10, 11, 12, 16, 17, 18, 19, 20, 21] rfl
    refine Znb ?_
    refine nm_then ?_
    refine wp_region_lit ?_
    refine Zg2 T (Zq (Zrm rfl (T.e 17 rfl))) rfl (fun _ T => Zq (rn_add rfl (T.e 0 rfl) evc (by omega))) rfl ?_; clear T ac; intro ac T
    refine l_q (v := (.int .i64 ((i : Int) + 1))) (T.pick [0, 1, 2, 3, 4, 5, 6, 7, 8, 9, 10, 11, 12, 13, 14, 15, 16, 17, 18] rfl) rfl rfl rfl rfl (Zra rfl (T.e 0 rfl)) ?_; clear T ac; intro ac T
    replace T := T.pick [0, 3, 4, 5, 6, 7, 8, 9, 10, 11, 12, 13, 14, 15, 16, 17, 18, 19] rfl
    refine Zln ?_
    exact ⟨_, by omega, i + 1, _, rfl, (by omega), (by rw [any_take hkx, ← hs, hit_at rfl hkr hxk hkt]; clear hs; (try cases is <;> simp_all)), T.pick [13, 14, 15, 16, 17, 1, 0] rfl, M.mask [] rfl⟩
   refine Zg8 (v7 := (.slice Br rw.length dr)) T (Zw (Zwy rfl rfl (T.e 0 rfl) h3) (Zrm rfl (T.e 3 rfl))) rfl (fun _ T => Zw (Zwy rfl rfl (T.e 1 rfl) h3) (Zrm rfl (T.e 5 rfl))) rfl (fun _ T => Zw (Zwy rfl rfl (T.e 2 rfl) h3) (Zrm rfl (T.e 11 rfl))) rfl (fun _ T => Zw (Zwy rfl rfl (T.e 3 rfl) h3) (Zri (size := 1) i rfl (T.e 1 rfl) (T.e 0 rfl) ⟨_, Tryz.underlying33, by kernel_rfl⟩ rfl (by omega) (SG.at0 (by omega)))) rfl (fun _ T => Zw (Zwy rfl rfl (T.e 4 rfl) h3) (rn_cell (Sp.ic0 SG M (Zz9 _) hkx) rfl (T.e 0 rfl))) rfl (fun _ T => Zw (Zwy rfl rfl (T.e 5 rfl) h3) (Zri (size := 1) xk rfl (T.e 4 rfl) (T.e 0 rfl) ⟨_, Tryz.underlying55, by kernel_rfl⟩ hxk (by omega) (SA.at0 (by omega)))) rfl (fun _ T => Zw (Zwy rfl rfl (T.e 6 rfl) h3) (rn_cell (Sp.lc0 SA M (Zz9 _) hkr) rfl (T.e 0 rfl))) rfl (fun _ T => Zw (Zwy rfl rfl (T.e 7 rfl) h3) (Zrm rfl (T.e 14 rfl))) rfl ?_; clear T ac; intro ac T
   refine Zg4 T (Zw (Zwy rfl rfl (T.e 8 rfl) h3) (Zri (size := 1) k rfl (T.e 1 rfl) (T.e 0 rfl) ⟨_, Tryz.underlying33, by kernel_rfl⟩ rfl (by omega) (Sr.at0 (by omega)))) rfl (fun _ T => Zw (Zwy rfl rfl (T.e 9 rfl) h3) (rn_cell (Sp.ic0 Sr M (Zz9 _) hkt) rfl (T.e 0 rfl))) rfl (fun _ T => Zw (Zwy rfl rfl (T.e 10 rfl) h3) (rn_eql rfl (T.e 0 rfl) evc)) rfl (fun _ T => Zq (Zr0 rfl (T.e 11 rfl) h3 (T.e 0 rfl))) rfl ?_; clear T ac; intro ac T
   refine l_q (v := (.bool (decide (tv = 1)))) (T.pick [0, 1, 2, 3, 4, 5, 6, 7, 8, 9, 10, 11, 12, 13, 14, 15, 16, 17, 18, 19, 21] rfl) rfl rfl rfl rfl (Zra rfl (T.e 0 rfl)) ?_; clear T ac; intro ac T
   refine wpList_nil ?_
   replace T := T.pick [0, 2, 3, 4, 5, 6, 7, 8, 9, 10, 11, 12, 16, 17, 18, 19, 20, 21] rfl
   refine Znb ?_
   refine nm_then ?_
   refine wp_region_lit ?_
   refine Zg2 T (Zq (Zrm rfl (T.e 17 rfl))) rfl (fun _ T => Zq (rn_add rfl (T.e 0 rfl) evc (by omega))) rfl ?_; clear T ac; intro ac T
   refine l_q (v := (.int .i64 ((i : Int) + 1))) (T.pick [0, 1, 2, 3, 4, 5, 6, 7, 8, 9, 10, 11, 12, 13, 14, 15, 16, 17, 18] rfl) rfl rfl rfl rfl (Zra rfl (T.e 0 rfl)) ?_; clear T ac; intro ac T
   replace T := T.pick [0, 3, 4, 5, 6, 7, 8, 9, 10, 11, 12, 13, 14, 15, 16, 17, 18, 19] rfl
   refine Zln ?_
   exact ⟨_, by omega, i + 1, _, rfl, (by omega), (by rw [any_take hkx, ← hs, hit_at rfl hkr hxk hkt]; clear hs; (try cases is <;> simp_all)), T.pick [13, 14, 15, 16, 17, 1, 0] rfl, M.mask [] rfl⟩
  intro h2
  rw [List.take_of_length_le (by omega)] at hs
  refine wp_exit ?_
  refine Zet ?_
  refine Zet ?_
  refine ex_hit ?_
  refine nm_then ?_
  refine Zsr ?_
  refine lq T (Zrm rfl (T.e 6 rfl)) ?_; clear T ac; intro ac T
  replace T := T.pick [0, 2, 3, 4, 5, 6] rfl
  refine Zln ?_
  refine wp_cond_split (T.e 0 rfl) ?_ ?_
  ·intro h4
   refine wp_region_lit ?_
   refine Zg2 T (Zq (Zrm rfl (T.e 4 rfl))) rfl (fun _ T => Zq (rn_add rfl (T.e 0 rfl) evc (by omega))) rfl ?_; clear T ac; intro ac T
   refine l_q (v := (.int .i64 ((q : Int) + 1))) (T.pick [0, 1, 2, 3, 4, 5, 7] rfl) rfl rfl rfl rfl (Zra rfl (T.e 0 rfl)) ?_; clear T ac; intro ac T
   refine wpList_nil ?_
   replace T := T.pick [0, 4, 5, 6, 7] rfl
   refine Znb ?_
   refine nm_then ?_
   refine wp_region_lit ?_
   refine Zg2 T (Zq (Zrm rfl (T.e 4 rfl))) rfl (fun _ T => Zq (rn_add rfl (T.e 0 rfl) evc (by omega))) rfl ?_; clear T ac; intro ac T
   refine l_q (v := (.int .i64 ((k : Int) + 1))) (T.pick [0, 1, 2, 3, 4, 5] rfl) rfl rfl rfl rfl (Zra rfl (T.e 0 rfl)) ?_; clear T ac; intro ac T
   replace T := T.pick [0, 3, 4, 5, 6] rfl
   refine Zln ?_
   exact ⟨_, by omega, k + 1, q + 1, rfl, (by omega), (by rw [countP_succ, ← hq, if_pos (hs.symm.trans h4)]), (by omega), T.pick [2, 3, 4, 1, 0] rfl, M.mask [] rfl⟩
  intro h4
  refine wp_skip ?_
  refine Znb ?_
  refine nm_then ?_
  refine wp_region_lit ?_
  refine Zg2 T (Zq (Zrm rfl (T.e 5 rfl))) rfl (fun _ T => Zq (rn_add rfl (T.e 0 rfl) evc (by omega))) rfl ?_; clear T ac; intro ac T
  refine l_q (v := (.int .i64 ((k : Int) + 1))) (T.pick [0, 1, 2, 3, 4, 5, 6] rfl) rfl rfl rfl rfl (Zra rfl (T.e 0 rfl)) ?_; clear T ac; intro ac T
  replace T := T.pick [0, 4, 5, 6, 7] rfl
  refine Zln ?_
  exact ⟨_, by omega, k + 1, q, rfl, (by omega), (by rw [countP_succ, ← hq, if_neg (by show ¬ l.any (hit8 (TT.map (·.1)) k) = true; rw [← hs, h4]; decide), Nat.add_zero]), (by omega), T.pick [1, 2, 3, 4, 0] rfl, M.mask [] rfl⟩
 intro h1
 refine wp_exit ?_
 refine Zet ?_
 refine Zet ?_
 refine ex_hit ?_
 refine nm_then ?_
 refine Zsr ?_
 refine Zg2 T (Zq (Zrm rfl (T.e 4 rfl))) rfl (Za 0 rfl rfl) rfl ?_; clear T ac; intro ac T
 replace T := T.pick [0] rfl
 refine Zln ?_
 refine wp_ret ?_
 refine rt_1 T rfl (T.e 0 rfl) ?_
 have e9 : near8 (TT.map (·.1)) highs l = q := by rw [hq, show k = highs by omega]; rfl
 rw [e9]
 exact ⟨rfl, M.below⟩
def fnd8 (T : List (List Int)) (highs m : Nat) (L : List (List Int)) : Option (List Int) := L.find? fun l => decide (near8 T highs l < m)
theorem sh8_cons {T : List (List Int)} {n highs m : Nat} (h : m ≤ n) : sh8 T n highs m = match fnd8 T highs m (chN n m 0) with | some l => some l | none => sh8 T n highs (m + 1) := by
 unfold sh8 fnd8
 rw [show n + 1 - m = (n + 1 - (m + 1)) + 1 by omega, List.range'_succ, List.findSome?_cons]
 cases List.find? (fun l => decide (near8 T highs l < m)) (chN n m 0) <;> rfl
theorem sh8_end {T : List (List Int)} {n highs m : Nat} (h : n < m) : sh8 T n highs m = none := by
 unfold sh8
 rw [show n + 1 - m = 0 by omega]
 rfl
theorem fnd8_step {T : List (List Int)} {highs m i : Nat} {L : List (List Int)} {x : List Int} (h : L[i]? = some x) : fnd8 T highs m (L.drop i) = if near8 T highs x < m then some x else fnd8 T highs m (L.drop (i + 1)) := by
 have hi := (List.getElem?_eq_some_iff.1 h)
 have e : L.drop i = x :: L.drop (i + 1) := by rw [List.drop_eq_getElem_cons hi.1, hi.2]
 unfold fnd8
 rw [e, List.find?_cons]
 by_cases hc : near8 T highs x < m
 · rw [if_pos hc, Zdt hc]
 · rw [if_neg hc, Zdf hc]
theorem Short5_any (b : Bx) (A : Option Addr) (c : Nat) (B : Option Addr) (d : Nat) (w : World) (hA : Rd w w.heap.size 4 A b.lows.length (sc b.lows)) (hB : Rd w w.heap.size 4 B b.highs.length (sc b.highs)) (nA : b.lows.length ≤ 1000000) (nB : b.highs.length ≤ 1000000)  :
   Calls Tryz.prog 13 #[bxV b A c B d] w (LEPost (shortE b).1 (shortE b).2 w) := by
 have hlA := hA.len4
 have hlB := hB.len4
 obtain ⟨bA, oA, SA⟩ := Sp.old hA
 obtain ⟨bB, oB, SB⟩ := Sp.old hB
 refine Zpx noEx Tryz.func13 rfl 49 rfl [.agg #[.int .i64 b.first, .int .i64 b.step, .int .i64 b.span, .int .i64 b.press, .int .i64 b.note, .slice A b.lows.length c, .slice B b.highs.length d, .int .i64 b.t0, .int .i64 b.t1, .int .i64 b.r0, .int .i64 b.r1, .int .i64 b.u0, .int .i64 b.u1, .int .i64 b.d0, .int .i64 b.d1, .int .i64 b.a0, .int .i64 b.a1, .int .i64 b.b0, .int .i64 b.b1, .int .i64 b.le, .int .i64 b.me]] rfl rfl (Mem.init w _) ?_
 intro ac wc T M
 refine Zsr ?_
 refine Zl2 ?_
 refine Zob M T rfl rfl rfl rfl (T.e 0 rfl) rfl ?_; clear M T; intro g1 wc ac M T
 refine Zg2 T (Zq (Zra rfl evc)) rfl (Zc rfl) rfl ?_; clear T ac; intro ac T
 replace T := T.pick [2] rfl
 refine Zln ?_
 refine wp_seq ?_
 refine Zsr ?_
 refine lq T (Zrr (Mem.nth M 0 rfl) rfl (T.e 0 rfl) rfl) ?_; clear T ac; intro ac T
 refine Zl2 ?_
 refine Zoc (first := []) (cap := []) T rfl rfl rfl rfl evf (.cons (T.e 0 rfl) .nil) Tryz.func28 rfl rfl ?_
 refine Calls.mono (Check5_any b _ _ _ _ _ (SA.rd M (Zz9 _)) (SB.rd M (Zz9 _)) (by omega) (by omega)) ?_
 clear T; rintro e wc ⟨rfl, hb⟩ ac T
 replace M := M.call hb; clear hb
 refine lq T (Zra rfl (T.e 0 rfl)) ?_; clear T ac; intro ac T
 replace T := T.pick [0, 3] rfl
 refine Zln ?_
 refine Zsr ?_
 refine Zg2 T (Zq (Zrm rfl (T.e 0 rfl))) rfl (fun _ T => Zq (rn_neq rfl (T.e 0 rfl) evc)) rfl ?_; clear T ac; intro ac T
 replace T := T.pick [0, 2, 3] rfl
 refine Zln ?_
 refine wp_ifn (T.e 0 rfl) ?_ ?_
 ·intro h1
  refine Zsr ?_
  refine Zg3 T (Zq (Zrm rfl (T.e 1 rfl))) rfl (Zc rfl) rfl (Za 1 rfl rfl) rfl ?_; clear T ac; intro ac T
  refine wpList_nil ?_
  replace T := T.pick [0, 1] rfl
  replace M := M.mask [false] rfl
  refine Znr ?_
  refine Zrt ?_
  refine rt_2 T rfl (T.e 1 rfl) (T.e 0 rfl) ?_
  have e9 : shortE b = ([], checkB b) := by unfold shortE; rw [if_neg (by simpa using h1)]
  rw [e9]
  exact LEPost.nil rfl M
 intro h1
 have gb := checkB_good.1 (show checkB b = 0 by simpa using h1)
 have nA5 := gb.lows.1
 have nB5 := gb.highs.1
 refine Zsk ?_
 refine Zsr ?_
 refine lq T (Zrr (Mem.nth M 0 rfl) rfl (T.e 2 rfl) rfl) ?_; clear T ac; intro ac T
 refine Zl2 ?_
 refine Zoc (first := []) (cap := []) T rfl rfl rfl rfl evf (.cons (T.e 0 rfl) .nil) Tryz.func63 rfl rfl ?_
 refine Calls.mono (pairs5_any b A c B d _ (SA.rd M (Zz9 _)) (SB.rd M (Zz9 _)) gb) ?_
 clear T; rintro e wc ⟨Au2, cu2, LLu2, Iu2, rfl, hLu2, Su2, Eu2, N⟩ ac T
 obtain ⟨bu2, ou2, Su2⟩ := Su2
 replace Su2 := Su2 w noEx
 have nT : LLu2.length = b.lows.length := by rw [← (tableP_len b).1, ← hLu2, List.length_map]
 replace M := (M.join N).swapI
 replace M : Mem w noEx wc ((g1, .cells [.int .i64 b.first, .int .i64 b.step, .int .i64 b.span, .int .i64 b.press, .int .i64 b.note, .slice A b.lows.length c, .slice B b.highs.length d, .int .i64 b.t0, .int .i64 b.t1, .int .i64 b.r0, .int .i64 b.r1, .int .i64 b.u0, .int .i64 b.u1, .int .i64 b.d0, .int .i64 b.d1, .int .i64 b.a0, .int .i64 b.a1, .int .i64 b.b0, .int .i64 b.b1, .int .i64 b.le, .int .i64 b.me]) :: Iu2) := M
 clear N
 refine lq T (Zra rfl (T.e 0 rfl)) ?_; clear T ac; intro ac T
 replace T := T.pick [0, 5] rfl
 refine Zln ?_
 refine wp_seq ?_
 refine Zsr ?_
 refine lq T (Zra rfl evc) ?_; clear T ac; intro ac T
 refine Zln ?_
 refine wp_block ?_
 refine wp_loop_n (fun mz ac wc => ∃ (m : Nat), mz = b.lows.length + 1 - m ∧ (1 ≤ m ∧ m ≤ b.lows.length + 1) ∧ (shortE b = match sh8 (tableP b) b.lows.length b.highs.length m with | some l => (l, 0) | none => ([], 11)) ∧ Tm ac 49 [(1, .pointer (some ⟨g1, 0, none⟩)), (5, .slice Au2 LLu2.length cu2), (6, .int .i64 (m : Int))] ∧ Mem w noEx wc ((g1, .cells [.int .i64 b.first, .int .i64 b.step, .int .i64 b.span, .int .i64 b.press, .int .i64 b.note, .slice A b.lows.length c, .slice B b.highs.length d, .int .i64 b.t0, .int .i64 b.t1, .int .i64 b.r0, .int .i64 b.r1, .int .i64 b.u0, .int .i64 b.u1, .int .i64 b.d0, .int .i64 b.d1, .int .i64 b.a0, .int .i64 b.a1, .int .i64 b.b0, .int .i64 b.b1, .int .i64 b.le, .int .i64 b.me]) :: Iu2)) ?_ ?_
 ·exact ⟨_, 1, rfl, (by omega), (short8_eq gb), T.pick [2, 1, 0] rfl, M.mask [true] rfl⟩
 clear T M
 rintro mz ac wc ⟨m, hmm1, hm, H, T, M⟩
 refine wp_seq ?_
 refine Zsr ?_
 refine Zg5 (v2 := (.pointer (some ⟨g1, 5, none⟩))) T (Zq (Zrm rfl (T.e 2 rfl))) rfl (Zf 5 1 rfl rfl) rfl (Zo M 0 0 rfl rfl rfl rfl) rfl (Zl Tryz.underlying24 0 rfl rfl) rfl (fun _ T => Zq (rn_leq rfl (T.e 3 rfl) (T.e 0 rfl))) rfl ?_; clear T ac; intro ac T
 replace T := T.pick [0, 5, 6, 7] rfl
 refine Zln ?_
 refine wp_if (T.e 0 rfl) ?_ ?_
 ·intro h2
  rw [sh8_cons (by omega)] at H
  refine Zsk ?_
  refine wp_seq ?_
  refine wp_block ?_
  refine Zsr ?_
  refine Zg4 (v1 := (.pointer (some ⟨g1, 5, none⟩))) T (Zq (Zrf (off := 5) rfl (T.e 1 rfl) (fun _ _ _ => by kernel_rfl))) rfl (Zo M 0 0 rfl rfl rfl rfl) rfl (Zl Tryz.underlying24 0 rfl rfl) rfl (Zm 6 rfl rfl) rfl ?_; clear T ac; intro ac T
  refine Zl2 ?_
  refine Zoc (first := []) (cap := []) T rfl rfl rfl rfl evf (.cons evc (.cons (T.e 1 rfl) (.cons (T.e 0 rfl) .nil))) Tryz.func64 rfl rfl ?_
  refine Calls.mono (choices_any b.lows.length nA5 m (by omega) 0 _ (Nat.zero_le _)) ?_
  clear T; rintro e wc ⟨Au3, cu3, LLu3, Iu3, rfl, hLu3, Su3, Eu3, N⟩ ac T
  obtain ⟨bu3, ou3, Su3⟩ := Su3
  replace Su3 := Su3 w noEx
  have nC : LLu3.length = (chN b.lows.length m 0).length := by rw [← hLu3, List.length_map]
  have nC4 : (chN b.lows.length m 0).length ≤ 256 := Nat.le_trans (chN_few nA5 m _) (Nat.pow_le_pow_right (by omega) (by omega : m ≤ 4))
  replace M := (M.join N).swapI
  clear N
  replace M : Mem w noEx wc ((g1, .cells [.int .i64 b.first, .int .i64 b.step, .int .i64 b.span, .int .i64 b.press, .int .i64 b.note, .slice A b.lows.length c, .slice B b.highs.length d, .int .i64 b.t0, .int .i64 b.t1, .int .i64 b.r0, .int .i64 b.r1, .int .i64 b.u0, .int .i64 b.u1, .int .i64 b.d0, .int .i64 b.d1, .int .i64 b.a0, .int .i64 b.a1, .int .i64 b.b0, .int .i64 b.b1, .int .i64 b.le, .int .i64 b.me]) :: (Iu2 ++ Iu3)) := M
  refine lq T (Zra rfl (T.e 0 rfl)) ?_; clear T ac; intro ac T
  replace T := T.pick [0, 7, 8, 9] rfl
  refine Zln ?_
  refine Zsr ?_
  refine lq T (Zra rfl evc) ?_; clear T ac; intro ac T
  refine Zln ?_
  refine wp_block ?_
  refine wp_loop_n (fun mz ac wc => ∃ (i : Nat), mz = LLu3.length - i ∧ (i ≤ LLu3.length) ∧ (shortE b = match (match fnd8 (tableP b) b.highs.length m ((chN b.lows.length m 0).drop i) with | some l => some l | none => sh8 (tableP b) b.lows.length b.highs.length (m + 1)) with | some l => (l, 0) | none => ([], 11)) ∧ Tm ac 49 [(1, .pointer (some ⟨g1, 0, none⟩)), (5, .slice Au2 LLu2.length cu2), (6, .int .i64 (m : Int)), (7, .slice Au3 LLu3.length cu3), (8, .int .i64 (i : Int))] ∧ Mem w noEx wc ((g1, .cells [.int .i64 b.first, .int .i64 b.step, .int .i64 b.span, .int .i64 b.press, .int .i64 b.note, .slice A b.lows.length c, .slice B b.highs.length d, .int .i64 b.t0, .int .i64 b.t1, .int .i64 b.r0, .int .i64 b.r1, .int .i64 b.u0, .int .i64 b.u1, .int .i64 b.d0, .int .i64 b.d1, .int .i64 b.a0, .int .i64 b.a1, .int .i64 b.b0, .int .i64 b.b1, .int .i64 b.le, .int .i64 b.me]) :: (Iu2 ++ Iu3))) ?_ ?_
  ·exact ⟨_, 0, rfl, (Nat.zero_le _), H, T.pick [2, 3, 4, 1, 0] rfl, M.mask [true] rfl⟩
  clear T M
  rintro mz ac wc ⟨i, hmm2, hi, H2, T, M⟩
  refine wp_seq ?_
  refine Zsr ?_
  refine Zg4 T (Zq (Zrm rfl (T.e 4 rfl))) rfl (Zm 4 rfl rfl) rfl (Zl Tryz.underlying55 0 rfl rfl) rfl (fun _ T => Zq (rn_lss rfl (T.e 2 rfl) (T.e 0 rfl))) rfl ?_; clear T ac; intro ac T
  replace T := T.pick [0, 4, 5, 6, 7, 8] rfl
  refine Zln ?_
  refine wp_if (T.e 0 rfl) ?_ ?_
  ·intro h3
   obtain ⟨⟨lv, Av, cv⟩, hkv⟩ : ∃ x, LLu3[i]? = some x := ⟨_, List.getElem?_eq_getElem (by omega)⟩
   have hEv := Eu3 _ (List.mem_of_getElem? hkv)
   dsimp only at hEv
   obtain ⟨bv, ov, hSv⟩ := id hEv
   have Sv := hSv w noEx
   have hkq : (chN b.lows.length m 0)[i]? = some lv := by rw [← hLu3, List.getElem?_map, hkv]; rfl
   have hlv := chN_len _ _ lv (List.mem_of_getElem? hkq)
   rw [fnd8_step hkq] at H2
   refine Zsk ?_
   refine wp_seq ?_
   refine wp_block ?_
   refine wp_seq ?_
   refine Zgs M (M.mask [true] rfl) 11 (by kernel_rfl) rfl (by kernel_rfl) ?_
   clear M; intro wc M
   refine gq T 0 1 rfl (fun _ _ _ _ _ => (Zrm rfl (T.e 2 rfl))) ?_; clear T ac; intro ac T
   refine gq T 1 3 rfl (fun _ _ _ _ _ => (Zrm rfl (T.e 5 rfl))) ?_; clear T ac; intro ac T
   refine gq T 2 7 rfl (fun _ _ _ _ _ => (Zrm rfl (T.e 7 rfl))) ?_; clear T ac; intro ac T
   refine gq T 3 15 rfl (fun _ _ _ _ _ => (Zri (size := 1) i rfl (T.e 1 rfl) (T.e 0 rfl) ⟨_, Tryz.underlying55, by kernel_rfl⟩ rfl (by omega) (Su3.at0 (by omega)))) ?_; clear T ac; intro ac T
   refine gq (v := (.slice Av lv.length cv)) T 4 31 rfl (fun B w' hD hl hS => (rn_cell (Sp.lc0 Su3 (show Mem w noEx w' _ from hS) (.cons _ (Zsq _ _)) hkv) rfl (T.e 0 rfl))) ?_; clear T ac; intro ac T
   refine gq (v := (.pointer (some ⟨g1, 6, none⟩))) T 5 63 rfl (fun _ _ _ _ _ => (Zrf (off := 6) rfl (T.e 6 rfl) (fun _ _ _ => by kernel_rfl))) ?_; clear T ac; intro ac T
   refine gq T 6 127 rfl (fun B w' hD hl hS => (Zro (Mem.nth (show Mem w noEx w' _ from hS) 0 rfl) rfl (T.e 0 rfl) rfl)) ?_; clear T ac; intro ac T
   refine gq T 7 255 rfl (fun _ _ _ _ _ => (Zrl rfl Tryz.underlying24 (T.e 0 rfl))) ?_; clear T ac; intro ac T
   refine gq T 9 767 rfl (fun _ _ _ _ _ => (Zrm rfl (T.e 11 rfl))) ?_; clear T ac; intro ac T
   refine gw 8 1023 ?_; intro K hK
   refine Zoc (first := []) (cap := []) T rfl rfl rfl rfl evf (.cons (T.e 8 rfl) (.cons (T.e 4 rfl) (.cons (T.e 1 rfl) .nil))) Tryz.func65 rfl rfl ?_
   refine Calls.mono (near5_any _ _ LLu2 _ _ lv b.highs.length _ (Su2.rd M (.cons _ (subL (List.Sublist.refl _)))) (fun x hx => by obtain ⟨b8, o8, h8⟩ := Eu2 x hx; exact ⟨(h8 w noEx).rd M (.cons _ (subL (List.Sublist.refl _))), (tableP_len b).2 x.1 (by rw [← hLu2]; exact List.mem_map.2 ⟨x, hx, rfl⟩)⟩) (Sv.rd M (.cons _ (Zsq _ _))) (fun x hx => by have := hlv.2 x hx; omega) (by omega) (by omega) (by omega)) ?_
   clear T; rintro e wc ⟨rfl, hb⟩ ac T
   replace M := M.call hb; clear hb
   rw [hLu2] at T
   refine Zso hK _ _ (M.mask [true] rfl) ?_; clear hK K
   refine gq T 10 2047 rfl (fun _ _ _ _ _ => (rn_lss rfl (T.e 0 rfl) (T.e 1 rfl))) ?_; clear T ac; intro ac T
   refine Zgd (by kernel_rfl) ?_
   replace T := T.pick [0, 12, 13, 14, 15, 16] rfl
   refine nm_then ?_
   refine wp_if (T.e 0 rfl) ?_ ?_
   ·intro h4
    refine Zsr ?_
    refine Zg6 (v4 := (.slice Av lv.length cv)) T (Zq (Zrm rfl (T.e 4 rfl))) rfl (Zm 6 rfl rfl) rfl (fun _ T => Zq (Zri (size := 1) i rfl (T.e 1 rfl) (T.e 0 rfl) ⟨_, Tryz.underlying55, by kernel_rfl⟩ rfl (by omega) (Su3.at0 (by omega)))) rfl (fun _ T => Zq (rn_cell (Sp.lc0 Su3 M (.cons _ (Zsq _ _)) hkv) rfl (T.e 0 rfl))) rfl (Za 0 rfl rfl) rfl (Zc rfl) rfl ?_; clear T ac; intro ac T
    refine wpList_nil ?_
    replace T := T.pick [0, 1] rfl
    replace M := M.mask [false] rfl
    refine Znr ?_
    refine Zrb ?_
    refine Zrt ?_
    refine Zrt ?_
    refine Zrb ?_
    refine Zrb ?_
    refine Zrt ?_
    refine Zrt ?_
    refine Zrb ?_
    refine Zrt ?_
    refine rt_2 T rfl (T.e 1 rfl) (T.e 0 rfl) ?_
    rw [if_pos (by omega)] at H2
    replace H2 : shortE b = (lv, 0) := H2
    rw [H2]
    exact ⟨Av, cv, Iu3, rfl, (by show lv.length ≤ 6; have := hlv.1; omega), hEv, M.sub ((Zsq _ _))⟩
   intro h4
   refine wp_skip ?_
   refine Znb ?_
   refine nm_then ?_
   refine wp_region_lit ?_
   refine Zg2 T (Zq (Zrm rfl (T.e 5 rfl))) rfl (fun _ T => Zq (rn_add rfl (T.e 0 rfl) evc (by omega))) rfl ?_; clear T ac; intro ac T
   refine l_q (v := (.int .i64 ((i : Int) + 1))) (T.pick [0, 1, 2, 3, 4, 5, 6] rfl) rfl rfl rfl rfl (Zra rfl (T.e 0 rfl)) ?_; clear T ac; intro ac T
   replace T := T.pick [0, 4, 5, 6, 7] rfl
   refine Zln ?_
   exact ⟨_, by omega, i + 1, rfl, (by omega), (by rw [if_neg (by omega)] at H2; exact H2), T.pick [1, 2, 3, 4, 0] rfl, M.mask [true] rfl⟩
  intro h3
  rw [List.drop_of_length_le (by omega)] at H2
  replace H2 : shortE b = match sh8 (tableP b) b.lows.length b.highs.length (m + 1) with | some l => (l, 0) | none => ([], 11) := H2
  refine wp_exit ?_
  refine Zet ?_
  refine Zet ?_
  refine ex_hit ?_
  refine Znb ?_
  refine nm_then ?_
  refine wp_region_lit ?_
  refine Zg2 T (Zq (Zrm rfl (T.e 3 rfl))) rfl (fun _ T => Zq (rn_add rfl (T.e 0 rfl) evc (by omega))) rfl ?_; clear T ac; intro ac T
  refine l_q (v := (.int .i64 ((m : Int) + 1))) (T.pick [0, 1, 2, 3, 4, 6, 7] rfl) rfl rfl rfl rfl (Zra rfl (T.e 0 rfl)) ?_; clear T ac; intro ac T
  replace T := T.pick [0, 4, 5] rfl
  refine Zln ?_
  exact ⟨_, by omega, m + 1, rfl, (by omega), H2, T.pick [1, 2, 0] rfl, (M.sub (List.Sublist.cons_cons _ (Zsl _ _)))⟩
 intro h2
 rw [sh8_end (by omega)] at H
 refine wp_exit ?_
 refine Zet ?_
 refine Zet ?_
 refine ex_hit ?_
 refine nm_then ?_
 refine Zsr ?_
 refine Zg2 T (Zq (Zra rfl evc)) rfl (Zc rfl) rfl ?_; clear T ac; intro ac T
 refine wpList_nil ?_
 replace T := T.pick [0, 1] rfl
 replace M := M.mask [false] rfl
 refine Znr ?_
 refine rt_2 T rfl (T.e 1 rfl) (T.e 0 rfl) ?_
 replace H : shortE b = ([], 11) := H
 rw [H]
 exact LEPost.nil rfl M
theorem Tryz.append0s (B : Option Addr) (d g : Nat) (ty : TypeId) (w : World) : (Builtin.append_ #[24, 24] ty #[.slice (some ⟨g, 0, none⟩) 0 0, .slice B 0 d]).run Tryz.prog w = .ok (.slice (some ⟨g, 0, none⟩) 0 0) w := by
 cases B <;> kernel_rfl
theorem sc_one (l : List Snd) : ∀ u ∈ sc l, u.oneCell' = true := by
 intro u hu
 obtain ⟨p, _, hp⟩ := List.mem_flatMap.1 hu
 simp only [sndC, List.mem_cons, List.not_mem_nil, or_false] at hp
 rcases hp with rfl | rfl | rfl | rfl <;> rfl
def CopyMPost (b : Bx) (w : World) (e : Ending) (w' : World) : Prop := ∃ A1 c1 I1 A2 c2 I2, e = .returned (bxV b A1 c1 A2 c2) ∧ Sm 32 4 A1 b.lows.length c1 (sc b.lows) I1 ∧ Sm 32 4 A2 b.highs.length c2 (sc b.highs) I2 ∧ Mem w noEx w' (I1 ++ I2)
theorem Sm.spV {e size n c : Nat} {A : Option Addr} {xs : List Value} {I : List (Nat × BA)} (h : Sm e size A n c xs I) (hl : xs.length = n * size) : ∃ b o, ∀ (w : World) (ex : Nat → Prop), Sp w ex I A n size b o xs := Cl.spV (.inr h) hl
abbrev BE := Bx × Option Addr × Nat × Option Addr × Nat
def bxK (b : Bx) (A : Option Addr) (c : Nat) (B : Option Addr) (d : Nat) : List Value := [.int .i64 b.first, .int .i64 b.step, .int .i64 b.span, .int .i64 b.press, .int .i64 b.note, .slice A b.lows.length c, .slice B b.highs.length d, .int .i64 b.t0, .int .i64 b.t1, .int .i64 b.r0, .int .i64 b.r1, .int .i64 b.u0, .int .i64 b.u1, .int .i64 b.d0, .int .i64 b.d1, .int .i64 b.a0, .int .i64 b.a1, .int .i64 b.b0, .int .i64 b.b1, .int .i64 b.le, .int .i64 b.me]
def bx (l : List BE) : List Value := l.flatMap fun x => bxK x.1 x.2.1 x.2.2.1 x.2.2.2.1 x.2.2.2.2
theorem bx_get : ∀ (l : List BE) (k : Nat) {x : BE}, l[k]? = some x → ∀ (i : Nat) (v : Value), (bxK x.1 x.2.1 x.2.2.1 x.2.2.2.1 x.2.2.2.2)[i]? = some v → (bx l)[k * 21 + i]? = some v
 | [], k, x, h, _, _, _ => by simp at h
 | y :: l, 0, x, h, i, v, hv => by
  simp only [List.getElem?_cons_zero, Option.some.injEq] at h
  subst h
  have hi : i < (bxK y.1 y.2.1 y.2.2.1 y.2.2.2.1 y.2.2.2.2).length := (List.getElem?_eq_some_iff.1 hv).1
  show (bxK y.1 y.2.1 y.2.2.1 y.2.2.2.1 y.2.2.2.2 ++ bx l)[0 * 21 + i]? = some v
  rw [Nat.zero_mul, Nat.zero_add, List.getElem?_append_left hi]
  exact hv
 | y :: l, k + 1, x, h, i, v, hv => by
  rw [List.getElem?_cons_succ] at h
  have := bx_get l k h i v hv
  show (bxK y.1 y.2.1 y.2.2.1 y.2.2.2.1 y.2.2.2.2 ++ bx l)[(k + 1) * 21 + i]? = some v
  have hl : (bxK y.1 y.2.1 y.2.2.1 y.2.2.2.1 y.2.2.2.2).length = 21 := rfl
  rw [List.getElem?_append_right (by rw [hl]; omega), hl, show (k + 1) * 21 + i - 21 = k * 21 + i by omega]
  exact this
theorem Sp.bxR {w w' : World} {ex : Nat → Prop} {I L : List (Nat × BA)} {n b o k : Nat} {A : Option Addr} {l : List BE} {x : Bx} {B C : Option Addr} {c d : Nat} (S : Sp w ex I A n 21 b o (bx l)) (M : Mem w ex w' L) (hI : I.Sublist L) (h : l[k]? = some (x, B, c, C, d)) : w'.rangeAt b (o + k * 21) (bxK x B c C d) := fun i v hv => by
 have := S.cell w' L M hI _ _ (bx_get l k h i v hv)
 rwa [← Nat.add_assoc] at this
theorem copyBoxM_any (b : Bx) (A : Option Addr) (c : Nat) (B : Option Addr) (d : Nat) (w : World) (hA : Rd w w.heap.size 4 A b.lows.length (sc b.lows)) (hB : Rd w w.heap.size 4 B b.highs.length (sc b.highs)) (nA : b.lows.length ≤ 1000000) (nB : b.highs.length ≤ 1000000)  :
   Calls Tryz.prog 9 #[bxV b A c B d] w (CopyMPost b w) := by
 have hlA := hA.len4
 have hlB := hB.len4
 obtain ⟨bA, oA, SA⟩ := Sp.old hA
 obtain ⟨bB, oB, SB⟩ := Sp.old hB
 refine Zpx noEx Tryz.func9 rfl 14 rfl [.agg #[.int .i64 b.first, .int .i64 b.step, .int .i64 b.span, .int .i64 b.press, .int .i64 b.note, .slice A b.lows.length c, .slice B b.highs.length d, .int .i64 b.t0, .int .i64 b.t1, .int .i64 b.r0, .int .i64 b.r1, .int .i64 b.u0, .int .i64 b.u1, .int .i64 b.d0, .int .i64 b.d1, .int .i64 b.a0, .int .i64 b.a1, .int .i64 b.b0, .int .i64 b.b1, .int .i64 b.le, .int .i64 b.me]] rfl rfl (Mem.init w _) ?_
 intro ac wc T M
 refine Zsr ?_
 refine Zl2 ?_
 refine Zob M T rfl rfl rfl rfl (T.e 0 rfl) rfl ?_; clear M T; intro g1 wc ac M T
 refine Zl2 ?_
 refine Zoa M T rfl rfl rfl rfl ?_; clear M T; intro g2 wc ac M T
 replace T := T.pick [0, 1] rfl
 refine Zln ?_
 refine wp_seq ?_
 refine Zgs M (M.perm [0] rfl rfl) 12 (by kernel_rfl) rfl (by kernel_rfl) ?_
 clear M; intro wc M
 refine g_addG 9 M ?_
 refine gq (v := (.pointer (some ⟨g1, 5, none⟩))) T 1 2 rfl (fun _ _ _ _ _ => (Zrf (off := 5) rfl (T.e 1 rfl) (fun _ _ _ => by kernel_rfl))) ?_; clear T ac; intro ac T
 refine gq T 2 6 rfl (fun B w' hD hl hS => (Zro (Mem.nth (show Mem w noEx w' _ from ((MA.lft hS) (hD.wait (i := 2) (m := 9) (by kernel_rfl) hl))) 1 rfl) rfl (T.e 0 rfl) rfl)) ?_; clear T ac; intro ac T
 refine gq (v := (.pointer (some ⟨g1, 6, none⟩))) T 5 38 rfl (fun _ _ _ _ _ => (Zrf (off := 6) rfl (T.e 3 rfl) (fun _ _ _ => by kernel_rfl))) ?_; clear T ac; intro ac T
 refine gq T 6 102 rfl (fun B w' hD hl hS => (Zro (Mem.nth (show Mem w noEx w' _ from ((MA.lft hS) (hD.wait (i := 6) (m := 9) (by kernel_rfl) hl))) 1 rfl) rfl (T.e 0 rfl) rfl)) ?_; clear T ac; intro ac T
 refine g_m2 (i := 0) (j := 4) (by kernel_rfl) ?_ ?_
 ·refine gi 103 ?_; intro K hK
  refine ow_bs0 (e := 32) M T rfl rfl rfl rfl (fun _ => by kernel_rfl) ?_; clear M T; intro gr1_0 wc ac M T
  refine Zso hK _ _ (MA.mk (fun _ => M.mask [false, true, true] rfl) (M.mask [false, true, false] rfl)) ?_; clear hK K
  refine g_m2 (i := 3) (j := 4) (by kernel_rfl) ?_ ?_
  ·refine gi 111 ?_; intro K hK
   refine ow_appS Tryz.info32 M T rfl rfl rfl rfl (fun g w => Tryz.append0s _ _ g _ w) Tryz.underlying24 rfl rfl rfl (by omega) (T.e 0 rfl) (T.e 3 rfl) (SA.rd M (Zz9 _)) (sc_one _) ?_; clear M T; intro Au1_3 cu1_3 Iu1_3 wc ac hSm1_3 M T
   replace M : Mem w noEx wc ((g2, .cells [.int .i64 0, .int .i64 0, .int .i64 0, .int .i64 0, .int .i64 0, .slice none 0 0, .slice none 0 0, .int .i64 0, .int .i64 0, .int .i64 0, .int .i64 0, .int .i64 0, .int .i64 0, .int .i64 0, .int .i64 0, .int .i64 0, .int .i64 0, .int .i64 0, .int .i64 0, .int .i64 0, .int .i64 0]) :: (g1, .cells [.int .i64 b.first, .int .i64 b.step, .int .i64 b.span, .int .i64 b.press, .int .i64 b.note, .slice A b.lows.length c, .slice B b.highs.length d, .int .i64 b.t0, .int .i64 b.t1, .int .i64 b.r0, .int .i64 b.r1, .int .i64 b.u0, .int .i64 b.u1, .int .i64 b.d0, .int .i64 b.d1, .int .i64 b.a0, .int .i64 b.a1, .int .i64 b.b0, .int .i64 b.b1, .int .i64 b.le, .int .i64 b.me]) :: Iu1_3) := M.swapI
   refine Zso hK _ _ (MA.mk (fun _ => M.perm [0, 1] rfl rfl) (M.perm [0] rfl rfl)) ?_; clear hK K
   refine gq (v := (.pointer (some ⟨g1, 5, none⟩))) T 8 367 rfl (fun _ _ _ _ _ => (Zrf (off := 5) rfl (T.e 7 rfl) (fun _ _ _ => by kernel_rfl))) ?_; clear T ac; intro ac T
   refine gw 4 383 ?_; intro K hK
   refine ow_bs0 (e := 32) M T rfl rfl rfl rfl (fun _ => by kernel_rfl) ?_; clear M T; intro gr1_4 wc ac M T
   refine Zso hK _ _ (MA.mk (fun _ => M.perm [1, 2] rfl rfl) (M.perm [1] rfl rfl)) ?_; clear hK K
   refine gw 7 511 ?_; intro K hK
   refine ow_appS Tryz.info32 M T rfl rfl rfl rfl (fun g w => Tryz.append0s _ _ g _ w) Tryz.underlying24 rfl rfl rfl (by omega) (T.e 0 rfl) (T.e 4 rfl) (SB.rd M (Zz9 _)) (sc_one _) ?_; clear M T; intro Au1_7 cu1_7 Iu1_7 wc ac hSm1_7 M T
   replace M : Mem w noEx wc ((g2, .cells [.int .i64 0, .int .i64 0, .int .i64 0, .int .i64 0, .int .i64 0, .slice none 0 0, .slice none 0 0, .int .i64 0, .int .i64 0, .int .i64 0, .int .i64 0, .int .i64 0, .int .i64 0, .int .i64 0, .int .i64 0, .int .i64 0, .int .i64 0, .int .i64 0, .int .i64 0, .int .i64 0, .int .i64 0]) :: (g1, .cells [.int .i64 b.first, .int .i64 b.step, .int .i64 b.span, .int .i64 b.press, .int .i64 b.note, .slice A b.lows.length c, .slice B b.highs.length d, .int .i64 b.t0, .int .i64 b.t1, .int .i64 b.r0, .int .i64 b.r1, .int .i64 b.u0, .int .i64 b.u1, .int .i64 b.d0, .int .i64 b.d1, .int .i64 b.a0, .int .i64 b.a1, .int .i64 b.b0, .int .i64 b.b1, .int .i64 b.le, .int .i64 b.me]) :: (Iu1_3 ++ Iu1_7)) := M.swapI
   refine Zso hK _ _ (MA.mk (fun _ => M.perm [0, 1] rfl rfl) (M.perm [0] rfl rfl)) ?_; clear hK K
   refine gw 9 1023 ?_; intro K hK
   refine Zos M T rfl rfl (T.e 2 rfl) (T.e 3 rfl) rfl (.tail .head) rfl (by simp) rfl (by kernel_rfl) ?_; clear M T; intro wc ac M T
   refine Zso hK _ _ (MA.mk (fun h => (no_of (by kernel_rfl) h).elim) (M.perm [0] rfl rfl)) ?_; clear hK K
   refine gq (v := (.pointer (some ⟨g1, 6, none⟩))) T 10 2047 rfl (fun _ _ _ _ _ => (Zrf (off := 6) rfl (T.e 10 rfl) (fun _ _ _ => by kernel_rfl))) ?_; clear T ac; intro ac T
   refine gw 11 4095 ?_; intro K hK
   refine Zos M T rfl rfl (T.e 0 rfl) (T.e 1 rfl) rfl (.tail .head) rfl (by simp) rfl (by kernel_rfl) ?_; clear M T; intro wc ac M T
   refine Zso hK _ _ (MA.mk (fun h => (no_of (by kernel_rfl) h).elim) (M.perm [0] rfl rfl)) ?_; clear hK K
   refine Zgd (by kernel_rfl) ?_
   replace T := T.pick [10, 11] rfl
   refine nm_then ?_
   refine Zsr ?_
   refine lq T (Zrr (Mem.nth M 1 rfl) rfl (T.e 1 rfl) rfl) ?_; clear T ac; intro ac T
   refine Zl2 ?_
   refine Zos M T rfl rfl (T.e 1 rfl) (T.e 0 rfl) rfl .head rfl (by simp) rfl (by kernel_rfl) ?_; clear M T; intro wc ac M T
   refine wpList_nil ?_
   replace T := T.pick [1] rfl
   replace M := M.mask [true, false] rfl
   refine Znr ?_
   refine rt_c M T rfl (T.e 0 rfl) (Zne (i := 0) rfl) rfl ?_
   exact ⟨Au1_3, cu1_3, Iu1_3, Au1_7, cu1_7, Iu1_7, rfl, hSm1_3, hSm1_7, M.sub (Zsq ([(g2, .cells [.int .i64 b.first, .int .i64 b.step, .int .i64 b.span, .int .i64 b.press, .int .i64 b.note, .slice Au1_3 b.lows.length cu1_3, .slice Au1_7 b.highs.length cu1_7, .int .i64 b.t0, .int .i64 b.t1, .int .i64 b.r0, .int .i64 b.r1, .int .i64 b.u0, .int .i64 b.u1, .int .i64 b.d0, .int .i64 b.d1, .int .i64 b.a0, .int .i64 b.a1, .int .i64 b.b0, .int .i64 b.b1, .int .i64 b.le, .int .i64 b.me])] : List (Nat × BA)) _)⟩
  refine gi 119 ?_; intro K hK
  refine ow_bs0 (e := 32) M T rfl rfl rfl rfl (fun _ => by kernel_rfl) ?_; clear M T; intro gr1_4 wc ac M T
  refine Zso hK _ _ (MA.mk (fun _ => M.mask [false, false, true, true] rfl) (M.mask [false, false, true, false] rfl)) ?_; clear hK K
  refine gw 3 127 ?_; intro K hK
  replace M := M.permT [1, 0, 2, 3] 4 rfl rfl rfl rfl
  refine ow_appS Tryz.info32 M T rfl rfl rfl rfl (fun g w => Tryz.append0s _ _ g _ w) Tryz.underlying24 rfl rfl rfl (by omega) (T.e 1 rfl) (T.e 4 rfl) (SA.rd M (Zz9 _)) (sc_one _) ?_; clear M T; intro Au1_3 cu1_3 Iu1_3 wc ac hSm1_3 M T
  replace M : Mem w noEx wc ((gr1_4, .any fun o => o = .cells #[] 32) :: (g2, .cells [.int .i64 0, .int .i64 0, .int .i64 0, .int .i64 0, .int .i64 0, .slice none 0 0, .slice none 0 0, .int .i64 0, .int .i64 0, .int .i64 0, .int .i64 0, .int .i64 0, .int .i64 0, .int .i64 0, .int .i64 0, .int .i64 0, .int .i64 0, .int .i64 0, .int .i64 0, .int .i64 0, .int .i64 0]) :: (g1, .cells [.int .i64 b.first, .int .i64 b.step, .int .i64 b.span, .int .i64 b.press, .int .i64 b.note, .slice A b.lows.length c, .slice B b.highs.length d, .int .i64 b.t0, .int .i64 b.t1, .int .i64 b.r0, .int .i64 b.r1, .int .i64 b.u0, .int .i64 b.u1, .int .i64 b.d0, .int .i64 b.d1, .int .i64 b.a0, .int .i64 b.a1, .int .i64 b.b0, .int .i64 b.b1, .int .i64 b.le, .int .i64 b.me]) :: Iu1_3) := M.swapI
  refine Zso hK _ _ (MA.mk (fun _ => M.perm [1, 2] rfl rfl) (M.perm [1] rfl rfl)) ?_; clear hK K
  refine gq (v := (.pointer (some ⟨g1, 5, none⟩))) T 8 383 rfl (fun _ _ _ _ _ => (Zrf (off := 5) rfl (T.e 8 rfl) (fun _ _ _ => by kernel_rfl))) ?_; clear T ac; intro ac T
  refine gw 7 511 ?_; intro K hK
  refine ow_appS Tryz.info32 M T rfl rfl rfl rfl (fun g w => Tryz.append0s _ _ g _ w) Tryz.underlying24 rfl rfl rfl (by omega) (T.e 2 rfl) (T.e 4 rfl) (SB.rd M (Zz9 _)) (sc_one _) ?_; clear M T; intro Au1_7 cu1_7 Iu1_7 wc ac hSm1_7 M T
  replace M : Mem w noEx wc ((g2, .cells [.int .i64 0, .int .i64 0, .int .i64 0, .int .i64 0, .int .i64 0, .slice none 0 0, .slice none 0 0, .int .i64 0, .int .i64 0, .int .i64 0, .int .i64 0, .int .i64 0, .int .i64 0, .int .i64 0, .int .i64 0, .int .i64 0, .int .i64 0, .int .i64 0, .int .i64 0, .int .i64 0, .int .i64 0]) :: (g1, .cells [.int .i64 b.first, .int .i64 b.step, .int .i64 b.span, .int .i64 b.press, .int .i64 b.note, .slice A b.lows.length c, .slice B b.highs.length d, .int .i64 b.t0, .int .i64 b.t1, .int .i64 b.r0, .int .i64 b.r1, .int .i64 b.u0, .int .i64 b.u1, .int .i64 b.d0, .int .i64 b.d1, .int .i64 b.a0, .int .i64 b.a1, .int .i64 b.b0, .int .i64 b.b1, .int .i64 b.le, .int .i64 b.me]) :: (Iu1_3 ++ Iu1_7)) := M.swapI
  refine Zso hK _ _ (MA.mk (fun _ => M.perm [0, 1] rfl rfl) (M.perm [0] rfl rfl)) ?_; clear hK K
  refine gw 9 1023 ?_; intro K hK
  refine Zos M T rfl rfl (T.e 1 rfl) (T.e 2 rfl) rfl (.tail .head) rfl (by simp) rfl (by kernel_rfl) ?_; clear M T; intro wc ac M T
  refine Zso hK _ _ (MA.mk (fun h => (no_of (by kernel_rfl) h).elim) (M.perm [0] rfl rfl)) ?_; clear hK K
  refine gq (v := (.pointer (some ⟨g1, 6, none⟩))) T 10 2047 rfl (fun _ _ _ _ _ => (Zrf (off := 6) rfl (T.e 10 rfl) (fun _ _ _ => by kernel_rfl))) ?_; clear T ac; intro ac T
  refine gw 11 4095 ?_; intro K hK
  refine Zos M T rfl rfl (T.e 0 rfl) (T.e 1 rfl) rfl (.tail .head) rfl (by simp) rfl (by kernel_rfl) ?_; clear M T; intro wc ac M T
  refine Zso hK _ _ (MA.mk (fun h => (no_of (by kernel_rfl) h).elim) (M.perm [0] rfl rfl)) ?_; clear hK K
  refine Zgd (by kernel_rfl) ?_
  replace T := T.pick [10, 11] rfl
  refine nm_then ?_
  refine Zsr ?_
  refine lq T (Zrr (Mem.nth M 1 rfl) rfl (T.e 1 rfl) rfl) ?_; clear T ac; intro ac T
  refine Zl2 ?_
  refine Zos M T rfl rfl (T.e 1 rfl) (T.e 0 rfl) rfl .head rfl (by simp) rfl (by kernel_rfl) ?_; clear M T; intro wc ac M T
  refine wpList_nil ?_
  replace T := T.pick [1] rfl
  replace M := M.mask [true, false] rfl
  refine Znr ?_
  refine rt_c M T rfl (T.e 0 rfl) (Zne (i := 0) rfl) rfl ?_
  exact ⟨Au1_3, cu1_3, Iu1_3, Au1_7, cu1_7, Iu1_7, rfl, hSm1_3, hSm1_7, M.sub (Zsq ([(g2, .cells [.int .i64 b.first, .int .i64 b.step, .int .i64 b.span, .int .i64 b.press, .int .i64 b.note, .slice Au1_3 b.lows.length cu1_3, .slice Au1_7 b.highs.length cu1_7, .int .i64 b.t0, .int .i64 b.t1, .int .i64 b.r0, .int .i64 b.r1, .int .i64 b.u0, .int .i64 b.u1, .int .i64 b.d0, .int .i64 b.d1, .int .i64 b.a0, .int .i64 b.a1, .int .i64 b.b0, .int .i64 b.b1, .int .i64 b.le, .int .i64 b.me])] : List (Nat × BA)) _)⟩
 refine gi 118 ?_; intro K hK
 refine ow_bs0 (e := 32) M T rfl rfl rfl rfl (fun _ => by kernel_rfl) ?_; clear M T; intro gr1_4 wc ac M T
 refine Zso hK _ _ (MA.mk (fun _ => M.mask [false, true, true] rfl) (M.mask [false, true, false] rfl)) ?_; clear hK K
 refine gw 0 119 ?_; intro K hK
 refine ow_bs0 (e := 32) M T rfl rfl rfl rfl (fun _ => by kernel_rfl) ?_; clear M T; intro gr1_0 wc ac M T
 refine Zso hK _ _ (MA.mk (fun _ => M.mask [false, false, true, true] rfl) (M.mask [false, false, true, false] rfl)) ?_; clear hK K
 refine gw 3 127 ?_; intro K hK
 refine ow_appS Tryz.info32 M T rfl rfl rfl rfl (fun g w => Tryz.append0s _ _ g _ w) Tryz.underlying24 rfl rfl rfl (by omega) (T.e 0 rfl) (T.e 4 rfl) (SA.rd M (Zz9 _)) (sc_one _) ?_; clear M T; intro Au1_3 cu1_3 Iu1_3 wc ac hSm1_3 M T
 replace M : Mem w noEx wc ((gr1_4, .any fun o => o = .cells #[] 32) :: (g2, .cells [.int .i64 0, .int .i64 0, .int .i64 0, .int .i64 0, .int .i64 0, .slice none 0 0, .slice none 0 0, .int .i64 0, .int .i64 0, .int .i64 0, .int .i64 0, .int .i64 0, .int .i64 0, .int .i64 0, .int .i64 0, .int .i64 0, .int .i64 0, .int .i64 0, .int .i64 0, .int .i64 0, .int .i64 0]) :: (g1, .cells [.int .i64 b.first, .int .i64 b.step, .int .i64 b.span, .int .i64 b.press, .int .i64 b.note, .slice A b.lows.length c, .slice B b.highs.length d, .int .i64 b.t0, .int .i64 b.t1, .int .i64 b.r0, .int .i64 b.r1, .int .i64 b.u0, .int .i64 b.u1, .int .i64 b.d0, .int .i64 b.d1, .int .i64 b.a0, .int .i64 b.a1, .int .i64 b.b0, .int .i64 b.b1, .int .i64 b.le, .int .i64 b.me]) :: Iu1_3) := M.swapI
 refine Zso hK _ _ (MA.mk (fun _ => M.perm [1, 2] rfl rfl) (M.perm [1] rfl rfl)) ?_; clear hK K
 refine gq (v := (.pointer (some ⟨g1, 5, none⟩))) T 8 383 rfl (fun _ _ _ _ _ => (Zrf (off := 5) rfl (T.e 8 rfl) (fun _ _ _ => by kernel_rfl))) ?_; clear T ac; intro ac T
 refine gw 7 511 ?_; intro K hK
 refine ow_appS Tryz.info32 M T rfl rfl rfl rfl (fun g w => Tryz.append0s _ _ g _ w) Tryz.underlying24 rfl rfl rfl (by omega) (T.e 3 rfl) (T.e 4 rfl) (SB.rd M (Zz9 _)) (sc_one _) ?_; clear M T; intro Au1_7 cu1_7 Iu1_7 wc ac hSm1_7 M T
 replace M : Mem w noEx wc ((g2, .cells [.int .i64 0, .int .i64 0, .int .i64 0, .int .i64 0, .int .i64 0, .slice none 0 0, .slice none 0 0, .int .i64 0, .int .i64 0, .int .i64 0, .int .i64 0, .int .i64 0, .int .i64 0, .int .i64 0, .int .i64 0, .int .i64 0, .int .i64 0, .int .i64 0, .int .i64 0, .int .i64 0, .int .i64 0]) :: (g1, .cells [.int .i64 b.first, .int .i64 b.step, .int .i64 b.span, .int .i64 b.press, .int .i64 b.note, .slice A b.lows.length c, .slice B b.highs.length d, .int .i64 b.t0, .int .i64 b.t1, .int .i64 b.r0, .int .i64 b.r1, .int .i64 b.u0, .int .i64 b.u1, .int .i64 b.d0, .int .i64 b.d1, .int .i64 b.a0, .int .i64 b.a1, .int .i64 b.b0, .int .i64 b.b1, .int .i64 b.le, .int .i64 b.me]) :: (Iu1_3 ++ Iu1_7)) := M.swapI
 refine Zso hK _ _ (MA.mk (fun _ => M.perm [0, 1] rfl rfl) (M.perm [0] rfl rfl)) ?_; clear hK K
 refine gw 9 1023 ?_; intro K hK
 refine Zos M T rfl rfl (T.e 1 rfl) (T.e 2 rfl) rfl (.tail .head) rfl (by simp) rfl (by kernel_rfl) ?_; clear M T; intro wc ac M T
 refine Zso hK _ _ (MA.mk (fun h => (no_of (by kernel_rfl) h).elim) (M.perm [0] rfl rfl)) ?_; clear hK K
 refine gq (v := (.pointer (some ⟨g1, 6, none⟩))) T 10 2047 rfl (fun _ _ _ _ _ => (Zrf (off := 6) rfl (T.e 10 rfl) (fun _ _ _ => by kernel_rfl))) ?_; clear T ac; intro ac T
 refine gw 11 4095 ?_; intro K hK
 refine Zos M T rfl rfl (T.e 0 rfl) (T.e 1 rfl) rfl (.tail .head) rfl (by simp) rfl (by kernel_rfl) ?_; clear M T; intro wc ac M T
 refine Zso hK _ _ (MA.mk (fun h => (no_of (by kernel_rfl) h).elim) (M.perm [0] rfl rfl)) ?_; clear hK K
 refine Zgd (by kernel_rfl) ?_
 replace T := T.pick [10, 11] rfl
 refine nm_then ?_
 refine Zsr ?_
 refine lq T (Zrr (Mem.nth M 1 rfl) rfl (T.e 1 rfl) rfl) ?_; clear T ac; intro ac T
 refine Zl2 ?_
 refine Zos M T rfl rfl (T.e 1 rfl) (T.e 0 rfl) rfl .head rfl (by simp) rfl (by kernel_rfl) ?_; clear M T; intro wc ac M T
 refine wpList_nil ?_
 replace T := T.pick [1] rfl
 replace M := M.mask [true, false] rfl
 refine Znr ?_
 refine rt_c M T rfl (T.e 0 rfl) (Zne (i := 0) rfl) rfl ?_
 exact ⟨Au1_3, cu1_3, Iu1_3, Au1_7, cu1_7, Iu1_7, rfl, hSm1_3, hSm1_7, M.sub (Zsq ([(g2, .cells [.int .i64 b.first, .int .i64 b.step, .int .i64 b.span, .int .i64 b.press, .int .i64 b.note, .slice Au1_3 b.lows.length cu1_3, .slice Au1_7 b.highs.length cu1_7, .int .i64 b.t0, .int .i64 b.t1, .int .i64 b.r0, .int .i64 b.r1, .int .i64 b.u0, .int .i64 b.u1, .int .i64 b.d0, .int .i64 b.d1, .int .i64 b.a0, .int .i64 b.a1, .int .i64 b.b0, .int .i64 b.b1, .int .i64 b.le, .int .i64 b.me])] : List (Nat × BA)) _)⟩
set_option maxHeartbeats 4000000 in
theorem VoiceMatches_any (b0 : Bx) (A0 : Option Addr) (c0 : Nat) (B0 : Option Addr) (d0 : Nat) (xm : Snd) (D : Option Addr) (n d : Nat) (l : List Int) (w : World) (hl : Rd w w.heap.size 1 D n (ic l)) (hm : n ≤ 9223372036854775807) (hA0 : Rd w w.heap.size 4 A0 b0.lows.length (sc b0.lows)) (hB0 : Rd w w.heap.size 4 B0 b0.highs.length (sc b0.highs)) (hn1 : b0.lows.length ≤ 9223372036854775807) (hn2 : b0.highs.length ≤ 9223372036854775807)  :
   Calls Tryz.prog 3 #[.agg #[.int .i64 b0.first, .int .i64 b0.step, .int .i64 b0.span, .int .i64 b0.press, .int .i64 b0.note, .slice A0 b0.lows.length c0, .slice B0 b0.highs.length d0, .int .i64 b0.t0, .int .i64 b0.t1, .int .i64 b0.r0, .int .i64 b0.r1, .int .i64 b0.u0, .int .i64 b0.u1, .int .i64 b0.d0, .int .i64 b0.d1, .int .i64 b0.a0, .int .i64 b0.a1, .int .i64 b0.b0, .int .i64 b0.b1, .int .i64 b0.le, .int .i64 b0.me], .agg #[.int .i64 xm.t0, .int .i64 xm.t1, .int .i64 xm.s0, .int .i64 xm.s1], .slice D n d] w fun e w' => e = .returned (.bool true) ∧ Below w.heap.size w w' := by
 have hll := hl.len1
 obtain ⟨bI, oI, SI⟩ := Sp.old hl
 have hl1 := hA0.len4
 have hl2 := hB0.len4
 obtain ⟨ba0, oa0, SA0⟩ := Sp.old hA0
 obtain ⟨bb0, ob0, SB0⟩ := Sp.old hB0
 refine Zpx noEx Tryz.func3 rfl 140 rfl [.agg #[.int .i64 b0.first, .int .i64 b0.step, .int .i64 b0.span, .int .i64 b0.press, .int .i64 b0.note, .slice A0 b0.lows.length c0, .slice B0 b0.highs.length d0, .int .i64 b0.t0, .int .i64 b0.t1, .int .i64 b0.r0, .int .i64 b0.r1, .int .i64 b0.u0, .int .i64 b0.u1, .int .i64 b0.d0, .int .i64 b0.d1, .int .i64 b0.a0, .int .i64 b0.a1, .int .i64 b0.b0, .int .i64 b0.b1, .int .i64 b0.le, .int .i64 b0.me], .agg #[.int .i64 xm.t0, .int .i64 xm.t1, .int .i64 xm.s0, .int .i64 xm.s1], .slice D n d] rfl rfl (Mem.init w _) ?_
 intro ac wc T M
 refine Zsr ?_
 refine Zl2 ?_
 refine Zob M T rfl rfl rfl rfl (T.e 0 rfl) rfl ?_; clear M T; intro g1 wc ac M T
 refine Zl2 ?_
 refine Zob M T rfl rfl rfl rfl (T.e 2 rfl) rfl ?_; clear M T; intro g2 wc ac M T
 refine lq T (Zra rfl evc) ?_; clear T ac; intro ac T
 replace T := T.pick [1, 2, 5] rfl
 refine Zln ?_
 refine wp_seq ?_
 refine cut_seq (fun ac wc => Tm ac 140 [(2, .slice D n d), (3, .pointer (some ⟨g1, 0, none⟩)), (4, .pointer (some ⟨g2, 0, none⟩)), (33, .bool ((decide (20 < ((b0.lows.length : Nat) : Int))) || (decide (20 < ((b0.highs.length : Nat) : Int)))))] ∧ Mem w noEx wc [(g2, .cells [.int .i64 xm.t0, .int .i64 xm.t1, .int .i64 xm.s0, .int .i64 xm.s1]), (g1, .cells [.int .i64 b0.first, .int .i64 b0.step, .int .i64 b0.span, .int .i64 b0.press, .int .i64 b0.note, .slice A0 b0.lows.length c0, .slice B0 b0.highs.length d0, .int .i64 b0.t0, .int .i64 b0.t1, .int .i64 b0.r0, .int .i64 b0.r1, .int .i64 b0.u0, .int .i64 b0.u1, .int .i64 b0.d0, .int .i64 b0.d1, .int .i64 b0.a0, .int .i64 b0.a1, .int .i64 b0.b0, .int .i64 b0.b1, .int .i64 b0.le, .int .i64 b0.me])]) ?_ ?_
 ·refine wp_region_lit ?_
  refine Zg5 (v1 := (.pointer (some ⟨g1, 5, none⟩))) T (Zq (Zrf (off := 5) rfl (T.e 1 rfl) (fun _ _ _ => by kernel_rfl))) rfl (Zo M 1 0 rfl rfl rfl rfl) rfl (Zl Tryz.underlying24 0 rfl rfl) rfl (fun _ T => Zq (rn_gtr rfl (T.e 0 rfl) evc)) rfl (Zm 0 rfl rfl) rfl ?_; clear T ac; intro ac T
  rcases Bool.eq_false_or_eq_true (decide (20 < ((b0.lows.length : Nat) : Int))) with h1 | h1
  ·replace h1 := of_decide_eq_true h1
   refine Zg5 T (Zp (Zwn rfl rfl (T.e 0 rfl) (Zdt h1))) rfl (fun _ T => Zp (Zwn rfl rfl (T.e 1 rfl) (Zdt h1))) rfl (fun _ T => Zp (Zwn rfl rfl (T.e 2 rfl) (Zdt h1))) rfl (fun _ T => Zp (Zwn rfl rfl (T.e 3 rfl) (Zdt h1))) rfl (fun _ T => Zq (Zr1 rfl (T.e 4 rfl) (Zdt h1) evc)) rfl ?_; clear T ac; intro ac T
   refine wpList_nil ?_
   replace T := T.pick [0, 10, 11, 12] rfl
   exact ⟨(T.pick (E' := [(2, .slice D n d), (3, .pointer (some ⟨g1, 0, none⟩)), (4, .pointer (some ⟨g2, 0, none⟩)), (33, .bool true)]) [3, 2, 1, 0] rfl).as (by (try rw [show (decide (20 < ((b0.lows.length : Nat) : Int))) = true from (Zdt h1)]); (try rfl)), M.mask [true, true] rfl⟩
  replace h1 := of_decide_eq_false h1
  refine Zg5 (v1 := (.pointer (some ⟨g1, 6, none⟩))) T (Zw (Zwy rfl rfl (T.e 0 rfl) (Zdf h1)) (Zrf (off := 6) rfl (T.e 6 rfl) (fun _ _ _ => by kernel_rfl))) rfl (fun _ T => Zw (Zwy rfl rfl (T.e 1 rfl) (Zdf h1)) (Zro (Mem.nth M 1 rfl) rfl (T.e 0 rfl) rfl)) rfl (fun _ T => Zw (Zwy rfl rfl (T.e 2 rfl) (Zdf h1)) (Zrl rfl Tryz.underlying24 (T.e 0 rfl))) rfl (fun _ T => Zw (Zwy rfl rfl (T.e 3 rfl) (Zdf h1)) (rn_gtr rfl (T.e 0 rfl) evc)) rfl (fun _ T => Zq (Zr0 rfl (T.e 4 rfl) (Zdf h1) (T.e 0 rfl))) rfl ?_; clear T ac; intro ac T
  refine wpList_nil ?_
  replace T := T.pick [0, 10, 11, 12] rfl
  exact ⟨(T.pick (E' := [(2, .slice D n d), (3, .pointer (some ⟨g1, 0, none⟩)), (4, .pointer (some ⟨g2, 0, none⟩)), (33, .bool (decide (20 < ((b0.highs.length : Nat) : Int))))]) [3, 2, 1, 0] rfl).as (by (try rw [show (decide (20 < ((b0.lows.length : Nat) : Int))) = false from (Zdf h1)]); (try rfl)), M.mask [true, true] rfl⟩
 clear T M
 rintro ac wc ⟨T, M⟩
 refine wp_cond_split (T.e 3 rfl) ?_ ?_
 ·intro h2
  (have h2' := h2; try simp only [Zb1, Zb2, Zb3, Zb4, Zb5, Zb6, Zb7] at h2')
  refine Zsr ?_
  refine Zl2 ?_
  refine Zoc (first := []) (cap := []) T rfl rfl rfl rfl evf .nil Tryz.func6 rfl rfl ?_
  refine Calls.mono (trembling_any _) ?_
  clear T; rintro e wc ⟨rfl, hb⟩ ac T
  replace M := M.call hb; clear hb
  refine lq T (Zra rfl (T.e 0 rfl)) ?_; clear T ac; intro ac T
  refine wpList_nil ?_
  replace T := T.pick [0] rfl
  replace M := M.mask [false, false] rfl
  refine Znr ?_
  refine Zrt ?_
  refine rt_1 T rfl (T.e 0 rfl) ?_
  exact ⟨rfl, M.below⟩
 intro h2
 (have h2' := h2; try simp only [Zb1, Zb2, Zb3, Zb4, Zb5, Zb6, Zb7] at h2')
 have hs9 : b0.lows.length ≤ 20 ∧ b0.highs.length ≤ 20 := by simp at h2; omega
 refine Zsk ?_
 refine Zsr ?_
 refine lq T (Zrm rfl (T.e 0 rfl)) ?_; clear T ac; intro ac T
 refine Zl2 ?_
 refine Zoc (first := []) (cap := []) T rfl rfl rfl rfl evf (.cons (T.e 0 rfl) .nil) Tryz.func8 rfl rfl ?_
 refine Calls.mono (newPot_any _ _ _ l _ (SI.rd M (Zz9 _)) (by omega)) ?_
 clear T; rintro e wc ⟨bpu2, su2, hsu2, rfl, N⟩ ac T
 replace M := M.join N; clear N
 replace M := M.mask [true, true, true] rfl
 refine Zl2 ?_
 refine Zoc (first := []) (cap := []) T rfl rfl rfl rfl evf (.cons (T.e 0 rfl) (.cons evc (.cons evc (.cons evc .nil)))) Tryz.func7 rfl rfl ?_
 refine Calls.mono (boxOf_any _ bpu2 4 5 2 _ (by omega) (by omega) (by omega) (M.nth 0 rfl) hsu2) ?_
 clear T; rintro e wc ⟨bu3, Au3, cu3, Bu3, du3, su3, Iu3, rfl, hmu3, hsu3, SAu3, SBu3, N⟩ ac T
 obtain ⟨b1u3, o1u3, SAu3⟩ := SAu3
 replace SAu3 := SAu3 w noEx
 obtain ⟨b2u3, o2u3, SBu3⟩ := SBu3
 replace SBu3 := SBu3 w noEx
 replace M := (M.joinW .head N).swapI
 clear N
 replace M : Mem w noEx wc ((bpu2, .cells [.int .u64 su3]) :: (g2, .cells [.int .i64 xm.t0, .int .i64 xm.t1, .int .i64 xm.s0, .int .i64 xm.s1]) :: (g1, .cells [.int .i64 b0.first, .int .i64 b0.step, .int .i64 b0.span, .int .i64 b0.press, .int .i64 b0.note, .slice A0 b0.lows.length c0, .slice B0 b0.highs.length d0, .int .i64 b0.t0, .int .i64 b0.t1, .int .i64 b0.r0, .int .i64 b0.r1, .int .i64 b0.u0, .int .i64 b0.u1, .int .i64 b0.d0, .int .i64 b0.d1, .int .i64 b0.a0, .int .i64 b0.a1, .int .i64 b0.b0, .int .i64 b0.b1, .int .i64 b0.le, .int .i64 b0.me]) :: Iu3) := M
 have hgu3 := hmu3.good
 have nlu3 := hgu3.lows.1
 have nhu3 := hgu3.highs.1
 have hstu3 := step_bd (notes := 3) hmu3.law.step hmu3.note
 have hnou3 := hmu3.note
 have ⟨hfu3, hzu3, hpu3, hqu3⟩ := hmu3.law
 dsimp only at hstu3 hfu3 hpu3 hqu3
 refine Zl2 ?_
 refine Zoa M T rfl rfl rfl rfl ?_; clear M T; intro g3 wc ac M T
 refine Zl2 ?_
 refine Zos M T rfl rfl (T.e 0 rfl) (T.e 1 rfl) rfl .head rfl (by simp) rfl (by kernel_rfl) ?_; clear M T; intro wc ac M T
 refine wpList_nil ?_
 replace T := T.pick [0, 5, 6] rfl
 replace M := M.mask [true, false, true, true] rfl
 refine nm_then ?_
 refine Zsr ?_
 refine lq T (Zrr (Mem.nth M 0 rfl) rfl (T.e 0 rfl) rfl) ?_; clear T ac; intro ac T
 refine Zl2 ?_
 refine Zoc (first := []) (cap := []) T rfl rfl rfl rfl evf (.cons (T.e 0 rfl) .nil) Tryz.func9 rfl rfl ?_
 refine Calls.mono (copyBoxM_any bu3 Au3 cu3 Bu3 du3 _ (SAu3.rd M (.cons _ (.cons _ (.cons _ (List.Sublist.refl _))))) (SBu3.rd M (.cons _ (.cons _ (.cons _ (List.Sublist.refl _))))) (by omega) (by omega)) ?_
 clear T; rintro e wc ⟨Au4, cAu4, IAu4, Bu4, cBu4, IBu4, rfl, hmAu4, hmBu4, N⟩ ac T
 obtain ⟨bau4, oau4, SVAu4⟩ := hmAu4.spV (sc_length _)
 have SAu4 := SVAu4 w noEx
 obtain ⟨bbu4, obu4, SVBu4⟩ := hmBu4.spV (sc_length _)
 have SBu4 := SVBu4 w noEx
 replace M : Mem w noEx wc ((g3, .cells [.int .i64 bu3.first, .int .i64 bu3.step, .int .i64 bu3.span, .int .i64 bu3.press, .int .i64 bu3.note, .slice Au3 bu3.lows.length cu3, .slice Bu3 bu3.highs.length du3, .int .i64 bu3.t0, .int .i64 bu3.t1, .int .i64 bu3.r0, .int .i64 bu3.r1, .int .i64 bu3.u0, .int .i64 bu3.u1, .int .i64 bu3.d0, .int .i64 bu3.d1, .int .i64 bu3.a0, .int .i64 bu3.a1, .int .i64 bu3.b0, .int .i64 bu3.b1, .int .i64 bu3.le, .int .i64 bu3.me]) :: (g2, .cells [.int .i64 xm.t0, .int .i64 xm.t1, .int .i64 xm.s0, .int .i64 xm.s1]) :: (g1, .cells [.int .i64 b0.first, .int .i64 b0.step, .int .i64 b0.span, .int .i64 b0.press, .int .i64 b0.note, .slice A0 b0.lows.length c0, .slice B0 b0.highs.length d0, .int .i64 b0.t0, .int .i64 b0.t1, .int .i64 b0.r0, .int .i64 b0.r1, .int .i64 b0.u0, .int .i64 b0.u1, .int .i64 b0.d0, .int .i64 b0.d1, .int .i64 b0.a0, .int .i64 b0.a1, .int .i64 b0.b0, .int .i64 b0.b1, .int .i64 b0.le, .int .i64 b0.me]) :: (Iu3 ++ IAu4 ++ IBu4)) := (M.join N).swapI.as (by simp only [List.append_assoc, List.cons_append, List.nil_append])
 clear N
 refine Zl2 ?_
 refine Zoa M T rfl rfl rfl rfl ?_; clear M T; intro g4 wc ac M T
 refine Zl2 ?_
 refine Zos M T rfl rfl (T.e 0 rfl) (T.e 1 rfl) rfl .head rfl (by simp) rfl (by kernel_rfl) ?_; clear M T; intro wc ac M T
 replace T := T.pick [0, 3, 4, 5] rfl
 refine Zln ?_
 refine Zsr ?_
 refine Zg3 (v1 := (.pointer (some ⟨g4, 6, none⟩))) T (Zq (Zrf (off := 6) rfl (T.e 0 rfl) (fun _ _ _ => by kernel_rfl))) rfl (Zo M 0 0 rfl rfl rfl rfl) rfl (Zr M 2 5 rfl rfl rfl rfl) rfl ?_; clear T ac; intro ac T
 refine Zl2 ?_
 refine ow_bs (e := 32) [.int .i64 xm.t0, .int .i64 xm.t1, .int .i64 xm.s0, .int .i64 xm.s1] M T rfl rfl rfl rfl (.cons (T.e 0 rfl) .nil) (fun _ => by kernel_rfl) ?_; clear M T; intro g5 wc ac M T
 refine Zl2 ?_
 refine ow_appM (((g5, .cells [.int .i64 xm.t0, .int .i64 xm.t1, .int .i64 xm.s0, .int .i64 xm.s1]) :: (g4, .cells [.int .i64 bu3.first, .int .i64 bu3.step, .int .i64 bu3.span, .int .i64 bu3.press, .int .i64 bu3.note, .slice Au4 bu3.lows.length cAu4, .slice Bu4 bu3.highs.length cBu4, .int .i64 bu3.t0, .int .i64 bu3.t1, .int .i64 bu3.r0, .int .i64 bu3.r1, .int .i64 bu3.u0, .int .i64 bu3.u1, .int .i64 bu3.d0, .int .i64 bu3.d1, .int .i64 bu3.a0, .int .i64 bu3.a1, .int .i64 bu3.b0, .int .i64 bu3.b1, .int .i64 bu3.le, .int .i64 bu3.me]) :: (g3, .cells [.int .i64 bu3.first, .int .i64 bu3.step, .int .i64 bu3.span, .int .i64 bu3.press, .int .i64 bu3.note, .slice Au3 bu3.lows.length cu3, .slice Bu3 bu3.highs.length du3, .int .i64 bu3.t0, .int .i64 bu3.t1, .int .i64 bu3.r0, .int .i64 bu3.r1, .int .i64 bu3.u0, .int .i64 bu3.u1, .int .i64 bu3.d0, .int .i64 bu3.d1, .int .i64 bu3.a0, .int .i64 bu3.a1, .int .i64 bu3.b0, .int .i64 bu3.b1, .int .i64 bu3.le, .int .i64 bu3.me]) :: (g2, .cells [.int .i64 xm.t0, .int .i64 xm.t1, .int .i64 xm.s0, .int .i64 xm.s1]) :: (g1, .cells [.int .i64 b0.first, .int .i64 b0.step, .int .i64 b0.span, .int .i64 b0.press, .int .i64 b0.note, .slice A0 b0.lows.length c0, .slice B0 b0.highs.length d0, .int .i64 b0.t0, .int .i64 b0.t1, .int .i64 b0.r0, .int .i64 b0.r1, .int .i64 b0.u0, .int .i64 b0.u1, .int .i64 b0.d0, .int .i64 b0.d1, .int .i64 b0.a0, .int .i64 b0.a1, .int .i64 b0.b0, .int .i64 b0.b1, .int .i64 b0.le, .int .i64 b0.me]) :: (Iu3 ++ IAu4))) Tryz.info32 hmBu4 M (by first | rfl | simp) T rfl rfl rfl rfl Tryz.underlying24 rfl rfl rfl (by omega) (T.e 2 rfl) (T.e 0 rfl) (Zne (i := 0) rfl) rfl rfl ?_; clear M T; intro go1 cgo1 wc ac M T
 have e9 : bu3.highs.length + 1 = (bu3.highs ++ [xm]).length := by simp
 rw [e9, sc_snoc _ xm] at M
 rw [e9] at T
 clear e9
 have Sgo1 := Sp.row (w := w) (ex := noEx) (e := 32) (size := 4) (n := (bu3.highs ++ [xm]).length) (g := go1) (xs := sc (bu3.highs ++ [xm])) (cap := cgo1) (sc_length _)
 refine lq (v := (.pointer (some ⟨g4, 6, none⟩))) T (Zrf (off := 6) rfl (T.e 5 rfl) (fun _ _ _ => by kernel_rfl)) ?_; clear T ac; intro ac T
 refine Zl2 ?_
 refine Zos M T rfl rfl (T.e 0 rfl) (T.e 1 rfl) rfl (.tail (.tail .head)) rfl (by simp) rfl (by kernel_rfl) ?_; clear M T; intro wc ac M T
 refine wpList_nil ?_
 replace T := T.pick [6, 7, 8] rfl
 replace M := M.mask [true, false, true, true, false, true] rfl
 refine nm_then ?_
 refine Zsr ?_
 refine Zg3 T (Zq (Zrr (Mem.nth M 3 rfl) rfl (T.e 2 rfl) rfl)) rfl (Zr M 2 2 rfl rfl rfl rfl) rfl (Zr M 1 2 rfl rfl rfl rfl) rfl ?_; clear T ac; intro ac T
 refine Zl2 ?_
 refine ow_bs (e := 30) [.int .i64 b0.first, .int .i64 b0.step, .int .i64 b0.span, .int .i64 b0.press, .int .i64 b0.note, .slice A0 b0.lows.length c0, .slice B0 b0.highs.length d0, .int .i64 b0.t0, .int .i64 b0.t1, .int .i64 b0.r0, .int .i64 b0.r1, .int .i64 b0.u0, .int .i64 b0.u1, .int .i64 b0.d0, .int .i64 b0.d1, .int .i64 b0.a0, .int .i64 b0.a1, .int .i64 b0.b0, .int .i64 b0.b1, .int .i64 b0.le, .int .i64 b0.me, .int .i64 bu3.first, .int .i64 bu3.step, .int .i64 bu3.span, .int .i64 bu3.press, .int .i64 bu3.note, .slice Au3 bu3.lows.length cu3, .slice Bu3 bu3.highs.length du3, .int .i64 bu3.t0, .int .i64 bu3.t1, .int .i64 bu3.r0, .int .i64 bu3.r1, .int .i64 bu3.u0, .int .i64 bu3.u1, .int .i64 bu3.d0, .int .i64 bu3.d1, .int .i64 bu3.a0, .int .i64 bu3.a1, .int .i64 bu3.b0, .int .i64 bu3.b1, .int .i64 bu3.le, .int .i64 bu3.me, .int .i64 bu3.first, .int .i64 bu3.step, .int .i64 bu3.span, .int .i64 bu3.press, .int .i64 bu3.note, .slice Au4 bu3.lows.length cAu4, .slice (some ⟨go1, 0, none⟩) ((bu3.highs ++ [xm]).length) cgo1, .int .i64 bu3.t0, .int .i64 bu3.t1, .int .i64 bu3.r0, .int .i64 bu3.r1, .int .i64 bu3.u0, .int .i64 bu3.u1, .int .i64 bu3.d0, .int .i64 bu3.d1, .int .i64 bu3.a0, .int .i64 bu3.a1, .int .i64 bu3.b0, .int .i64 bu3.b1, .int .i64 bu3.le, .int .i64 bu3.me] M T rfl rfl rfl rfl (.cons (T.e 2 rfl) (.cons (T.e 1 rfl) (.cons (T.e 0 rfl) .nil))) (fun _ => by kernel_rfl) ?_; clear M T; intro g6 wc ac M T
 refine lq T (Zra rfl (T.e 0 rfl)) ?_; clear T ac; intro ac T
 refine wpList_nil ?_
 replace T := T.pick [0] rfl
 replace M := M.mask [true, true, false, false, false] rfl
 refine Zns ?_
 refine Zsr ?_
 refine lq T (Zra rfl evc) ?_; clear T ac; intro ac T
 refine Zln ?_
 refine wp_block ?_
 obtain ⟨IT, hIT⟩ : ∃ IT : List (Nat × BA), IT = ((g6, .cells [.int .i64 b0.first, .int .i64 b0.step, .int .i64 b0.span, .int .i64 b0.press, .int .i64 b0.note, .slice A0 b0.lows.length c0, .slice B0 b0.highs.length d0, .int .i64 b0.t0, .int .i64 b0.t1, .int .i64 b0.r0, .int .i64 b0.r1, .int .i64 b0.u0, .int .i64 b0.u1, .int .i64 b0.d0, .int .i64 b0.d1, .int .i64 b0.a0, .int .i64 b0.a1, .int .i64 b0.b0, .int .i64 b0.b1, .int .i64 b0.le, .int .i64 b0.me, .int .i64 bu3.first, .int .i64 bu3.step, .int .i64 bu3.span, .int .i64 bu3.press, .int .i64 bu3.note, .slice Au3 bu3.lows.length cu3, .slice Bu3 bu3.highs.length du3, .int .i64 bu3.t0, .int .i64 bu3.t1, .int .i64 bu3.r0, .int .i64 bu3.r1, .int .i64 bu3.u0, .int .i64 bu3.u1, .int .i64 bu3.d0, .int .i64 bu3.d1, .int .i64 bu3.a0, .int .i64 bu3.a1, .int .i64 bu3.b0, .int .i64 bu3.b1, .int .i64 bu3.le, .int .i64 bu3.me, .int .i64 bu3.first, .int .i64 bu3.step, .int .i64 bu3.span, .int .i64 bu3.press, .int .i64 bu3.note, .slice Au4 bu3.lows.length cAu4, .slice (some ⟨go1, 0, none⟩) ((bu3.highs ++ [xm]).length) cgo1, .int .i64 bu3.t0, .int .i64 bu3.t1, .int .i64 bu3.r0, .int .i64 bu3.r1, .int .i64 bu3.u0, .int .i64 bu3.u1, .int .i64 bu3.d0, .int .i64 bu3.d1, .int .i64 bu3.a0, .int .i64 bu3.a1, .int .i64 bu3.b0, .int .i64 bu3.b1, .int .i64 bu3.le, .int .i64 bu3.me]) :: (go1, .row 32 4 (bu3.highs ++ [xm]).length (sc (bu3.highs ++ [xm])) cgo1) :: (Iu3 ++ IAu4)) := ⟨_, rfl⟩
 have S0 : Sp w noEx IT (some ⟨g6, 0, none⟩) 3 21 g6 0 (bx ([(b0, A0, c0, B0, d0), (bu3, Au3, cu3, Bu3, du3), (({ bu3 with highs := (bu3.highs ++ [xm]) } : Bx), Au4, cAu4, some ⟨go1, 0, none⟩, cgo1)] : List BE)) := (Sp.cells (w := w) (ex := noEx) (g := g6) (xs := bx ([(b0, A0, c0, B0, d0), (bu3, Au3, cu3, Bu3, du3), (({ bu3 with highs := (bu3.highs ++ [xm]) } : Bx), Au4, cAu4, some ⟨go1, 0, none⟩, cgo1)] : List BE)) (n := 3) (size := 21) (by rfl)).mono (by rw [hIT]; exact (List.Sublist.cons_cons _ (Zz9 _)))
 have E0 : ∀ x ∈ ([(b0, A0, c0, B0, d0), (bu3, Au3, cu3, Bu3, du3), (({ bu3 with highs := (bu3.highs ++ [xm]) } : Bx), Au4, cAu4, some ⟨go1, 0, none⟩, cgo1)] : List BE), x.1.lows.length ≤ 20 ∧ x.1.highs.length ≤ 20 ∧ (∃ b o, Sp w noEx IT x.2.1 x.1.lows.length 4 b o (sc x.1.lows)) ∧ ∃ b o, Sp w noEx IT x.2.2.2.1 x.1.highs.length 4 b o (sc x.1.highs) := by
   intro x hx
   simp only [List.mem_cons, List.not_mem_nil, or_false] at hx
   rcases hx with rfl | rfl | rfl
   · exact ⟨(by first | omega | (dsimp only; omega) | (simp only [List.length_append, List.length_cons, List.length_nil]; omega)), (by first | omega | (dsimp only; omega) | (simp only [List.length_append, List.length_cons, List.length_nil]; omega)), ⟨_, _, SA0.mono (by rw [hIT]; exact Zz9 _)⟩, ⟨_, _, SB0.mono (by rw [hIT]; exact Zz9 _)⟩⟩
   · exact ⟨(by first | omega | (dsimp only; omega) | (simp only [List.length_append, List.length_cons, List.length_nil]; omega)), (by first | omega | (dsimp only; omega) | (simp only [List.length_append, List.length_cons, List.length_nil]; omega)), ⟨_, _, SAu3.mono (by rw [hIT]; exact (.cons _ (.cons _ (subL (List.Sublist.refl _)))))⟩, ⟨_, _, SBu3.mono (by rw [hIT]; exact (.cons _ (.cons _ (subL (List.Sublist.refl _)))))⟩⟩
   · exact ⟨(by first | omega | (dsimp only; omega) | (simp only [List.length_append, List.length_cons, List.length_nil]; omega)), (by first | omega | (dsimp only; omega) | (simp only [List.length_append, List.length_cons, List.length_nil]; omega)), ⟨_, _, SAu4.mono (by rw [hIT]; exact (.cons _ (.cons _ (Zsq _ _))))⟩, ⟨_, _, Sgo1.mono (by rw [hIT]; exact (.cons _ (List.Sublist.cons_cons _ (Zz9 _))))⟩⟩
 obtain ⟨BB, hBB, SBB, EBB⟩ : ∃ BB : List BE, BB.length = 3 ∧ Sp w noEx IT (some ⟨g6, 0, none⟩) 3 21 g6 0 (bx BB) ∧ ∀ x ∈ BB, x.1.lows.length ≤ 20 ∧ x.1.highs.length ≤ 20 ∧ (∃ b o, Sp w noEx IT x.2.1 x.1.lows.length 4 b o (sc x.1.lows)) ∧ ∃ b o, Sp w noEx IT x.2.2.2.1 x.1.highs.length 4 b o (sc x.1.highs) := ⟨_, rfl, S0, E0⟩
 clear S0 E0
 replace M : Mem w noEx wc IT := by rw [hIT]; exact M
 clear hIT
 refine wp_loop_n (fun mz ac wc => ∃ (i : Nat), mz = 3 - i ∧ (i ≤ 3) ∧ Tm ac 140 [(9, .slice (some ⟨g6, 0, none⟩) 3 3), (10, .int .i64 (i : Int))] ∧ Mem w noEx wc (IT)) ?_ ?_
 ·exact ⟨_, 0, rfl, (Nat.zero_le _), T.pick [1, 0] rfl, M⟩
 clear T M
 rintro mz ac wc ⟨i, hmm1, hi, T, M⟩
 refine wp_seq ?_
 refine Zsr ?_
 refine Zg4 (v3 := (.int .i64 3)) T (Zq (Zrm rfl (T.e 1 rfl))) rfl (Zm 1 rfl rfl) rfl (Zl Tryz.underlying39 0 rfl rfl) rfl (fun _ T => Zq (rn_lss rfl (T.e 2 rfl) (T.e 0 rfl))) rfl ?_; clear T ac; intro ac T
 replace T := T.pick [0, 4, 5] rfl
 refine Zln ?_
 refine wp_if (T.e 0 rfl) ?_ ?_
 ·intro h3
  obtain ⟨⟨b9, A9, c9, B9, d9⟩, hk9⟩ : ∃ x, BB[i]? = some x := ⟨_, List.getElem?_eq_getElem (by omega)⟩
  obtain ⟨hfl9, hfh9, ⟨ba9, oa9, SA9⟩, bb9, ob9, SB9⟩ := EBB _ (List.mem_of_getElem? hk9)
  replace hfl9 : b9.lows.length ≤ 20 := hfl9
  replace hfh9 : b9.highs.length ≤ 20 := hfh9
  replace SA9 : Sp w noEx IT A9 b9.lows.length 4 ba9 oa9 (sc b9.lows) := SA9
  replace SB9 : Sp w noEx IT B9 b9.highs.length 4 bb9 ob9 (sc b9.highs) := SB9
  refine Zsk ?_
  refine wp_seq ?_
  refine wp_block ?_
  refine Zsr ?_
  refine Zg4 (v4 := (.agg #[.int .i64 b9.first, .int .i64 b9.step, .int .i64 b9.span, .int .i64 b9.press, .int .i64 b9.note, .slice A9 b9.lows.length c9, .slice B9 b9.highs.length d9, .int .i64 b9.t0, .int .i64 b9.t1, .int .i64 b9.r0, .int .i64 b9.r1, .int .i64 b9.u0, .int .i64 b9.u1, .int .i64 b9.d0, .int .i64 b9.d1, .int .i64 b9.a0, .int .i64 b9.a1, .int .i64 b9.b0, .int .i64 b9.b1, .int .i64 b9.le, .int .i64 b9.me])) T (Zq (Zrm rfl (T.e 1 rfl))) rfl (Zm 3 rfl rfl) rfl (fun _ T => Zq (Zri (size := 21) i rfl (T.e 1 rfl) (T.e 0 rfl) ⟨_, Tryz.underlying39, by kernel_rfl⟩ rfl (by omega) (SBB.at0 (by omega)))) rfl (fun _ T => Zq (rn_rowat (Sp.bxR SBB M (List.Sublist.refl _) hk9) rfl (T.e 0 rfl) rfl)) rfl ?_; clear T ac; intro ac T
  refine Zl2 ?_
  refine Zoc (first := []) (cap := []) T rfl rfl rfl rfl evf (.cons (T.e 0 rfl) .nil) Tryz.func9 rfl rfl ?_
  refine Calls.mono (copyBoxM_any b9 A9 c9 B9 d9 _ (SA9.rd M (List.Sublist.refl _)) (SB9.rd M (List.Sublist.refl _)) (by omega) (by omega)) ?_
  clear T; rintro e wc ⟨Au5, cAu5, IAu5, Bu5, cBu5, IBu5, rfl, hmAu5, hmBu5, N⟩ ac T
  obtain ⟨bau5, oau5, SVAu5⟩ := hmAu5.spV (sc_length _)
  have SAu5 := SVAu5 w noEx
  obtain ⟨bbu5, obu5, SVBu5⟩ := hmBu5.spV (sc_length _)
  have SBu5 := SVBu5 w noEx
  replace M : Mem w noEx wc ((IT ++ IAu5 ++ IBu5)) := (M.join N).swapI.as (by simp only [List.append_assoc, List.cons_append, List.nil_append])
  clear N
  refine Zl2 ?_
  refine Zoa M T rfl rfl rfl rfl ?_; clear M T; intro g7 wc ac M T
  refine Zl2 ?_
  refine Zos M T rfl rfl (T.e 0 rfl) (T.e 1 rfl) rfl .head rfl (by simp) rfl (by kernel_rfl) ?_; clear M T; intro wc ac M T
  replace T := T.pick [0, 7, 8] rfl
  refine Zln ?_
  refine Zsr ?_
  refine lq T (Zrr (Mem.nth M 0 rfl) rfl (T.e 0 rfl) rfl) ?_; clear T ac; intro ac T
  refine Zl2 ?_
  refine Zoc (first := []) (cap := []) T rfl rfl rfl rfl evf (.cons (T.e 0 rfl) .nil) Tryz.func10 rfl rfl ?_
  refine Calls.mono (Match_any b9 _ _ _ _ _ (SAu5.rd M (.cons _ (subL (Zsq _ _)))) (SBu5.rd M (.cons _ (Zsq _ _))) (by omega) (by omega)) ?_
  clear T; rintro e wc ⟨ALu6, cLu6, ILu6, rfl, hl6u6, SVLu6, N⟩ ac T
  obtain ⟨bALu6, oALu6, SVLu6⟩ := SVLu6
  have SALu6 := SVLu6 w noEx
  replace M := (M.join N).swapI
  clear N
  replace M : Mem w noEx wc ((g7, .cells [.int .i64 b9.first, .int .i64 b9.step, .int .i64 b9.span, .int .i64 b9.press, .int .i64 b9.note, .slice Au5 b9.lows.length cAu5, .slice Bu5 b9.highs.length cBu5, .int .i64 b9.t0, .int .i64 b9.t1, .int .i64 b9.r0, .int .i64 b9.r1, .int .i64 b9.u0, .int .i64 b9.u1, .int .i64 b9.d0, .int .i64 b9.d1, .int .i64 b9.a0, .int .i64 b9.a1, .int .i64 b9.b0, .int .i64 b9.b1, .int .i64 b9.le, .int .i64 b9.me]) :: (IT ++ IAu5 ++ IBu5 ++ ILu6)) := M
  refine Zg5 T (Zq (Zrm rfl (T.e 0 rfl))) rfl (Ze 0 rfl rfl rfl) rfl (Ze 1 rfl rfl rfl) rfl (Za 1 rfl rfl) rfl (Za 1 rfl rfl) rfl ?_; clear T ac; intro ac T
  replace T := T.pick [0, 1, 7, 8, 9] rfl
  refine Zln ?_
  refine Zsr ?_
  refine Zg4 (v4 := (.agg #[.int .i64 b9.first, .int .i64 b9.step, .int .i64 b9.span, .int .i64 b9.press, .int .i64 b9.note, .slice A9 b9.lows.length c9, .slice B9 b9.highs.length d9, .int .i64 b9.t0, .int .i64 b9.t1, .int .i64 b9.r0, .int .i64 b9.r1, .int .i64 b9.u0, .int .i64 b9.u1, .int .i64 b9.d0, .int .i64 b9.d1, .int .i64 b9.a0, .int .i64 b9.a1, .int .i64 b9.b0, .int .i64 b9.b1, .int .i64 b9.le, .int .i64 b9.me])) T (Zq (Zrm rfl (T.e 3 rfl))) rfl (Zm 5 rfl rfl) rfl (fun _ T => Zq (Zri (size := 21) i rfl (T.e 1 rfl) (T.e 0 rfl) ⟨_, Tryz.underlying39, by kernel_rfl⟩ rfl (by omega) (SBB.at0 (by omega)))) rfl (fun _ T => Zq (rn_rowat (Sp.bxR SBB M (.cons _ (subL (subL (subL (List.Sublist.refl _))))) hk9) rfl (T.e 0 rfl) rfl)) rfl ?_; clear T ac; intro ac T
  refine Zl2 ?_
  refine Zoc (first := []) (cap := []) T rfl rfl rfl rfl evf (.cons (T.e 0 rfl) .nil) Tryz.func11 rfl rfl ?_
  refine Calls.mono (Match5_any b9 _ _ _ _ _ (SA9.rd M (.cons _ (subL (subL (subL (List.Sublist.refl _)))))) (SB9.rd M (.cons _ (subL (subL (subL (List.Sublist.refl _)))))) (by omega) (by omega)) ?_
  clear T; rintro e wc ⟨ALu7, cLu7, ILu7, rfl, hl6u7, SVLu7, N⟩ ac T
  obtain ⟨bALu7, oALu7, SVLu7⟩ := SVLu7
  have SALu7 := SVLu7 w noEx
  replace M := (M.join N).swapI
  clear N
  replace M : Mem w noEx wc ((g7, .cells [.int .i64 b9.first, .int .i64 b9.step, .int .i64 b9.span, .int .i64 b9.press, .int .i64 b9.note, .slice Au5 b9.lows.length cAu5, .slice Bu5 b9.highs.length cBu5, .int .i64 b9.t0, .int .i64 b9.t1, .int .i64 b9.r0, .int .i64 b9.r1, .int .i64 b9.u0, .int .i64 b9.u1, .int .i64 b9.d0, .int .i64 b9.d1, .int .i64 b9.a0, .int .i64 b9.a1, .int .i64 b9.b0, .int .i64 b9.b1, .int .i64 b9.le, .int .i64 b9.me]) :: (IT ++ IAu5 ++ IBu5 ++ ILu6 ++ ILu7)) := M
  refine Zg5 T (Zq (Zrm rfl (T.e 0 rfl))) rfl (Ze 0 rfl rfl rfl) rfl (Ze 1 rfl rfl rfl) rfl (Za 1 rfl rfl) rfl (Za 1 rfl rfl) rfl ?_; clear T ac; intro ac T
  replace T := T.pick [0, 1, 10, 11, 12, 13, 14] rfl
  refine Zln ?_
  refine Zsr ?_
  refine lq T (Zrr (Mem.nth M 0 rfl) rfl (T.e 4 rfl) rfl) ?_; clear T ac; intro ac T
  refine Zl2 ?_
  refine Zoc (first := []) (cap := []) T rfl rfl rfl rfl evf (.cons (T.e 0 rfl) .nil) Tryz.func12 rfl rfl ?_
  refine Calls.mono (Short_any b9 _ _ _ _ _ (SAu5.rd M (.cons _ (subL (subL (subL (Zsq _ _)))))) (SBu5.rd M (.cons _ (subL (subL (Zsq _ _))))) (by omega) (by omega)) ?_
  clear T; rintro e wc ⟨ALu8, cLu8, ILu8, rfl, hl6u8, SVLu8, N⟩ ac T
  obtain ⟨bALu8, oALu8, SVLu8⟩ := SVLu8
  have SALu8 := SVLu8 w noEx
  replace M := (M.join N).swapI
  clear N
  replace M : Mem w noEx wc ((g7, .cells [.int .i64 b9.first, .int .i64 b9.step, .int .i64 b9.span, .int .i64 b9.press, .int .i64 b9.note, .slice Au5 b9.lows.length cAu5, .slice Bu5 b9.highs.length cBu5, .int .i64 b9.t0, .int .i64 b9.t1, .int .i64 b9.r0, .int .i64 b9.r1, .int .i64 b9.u0, .int .i64 b9.u1, .int .i64 b9.d0, .int .i64 b9.d1, .int .i64 b9.a0, .int .i64 b9.a1, .int .i64 b9.b0, .int .i64 b9.b1, .int .i64 b9.le, .int .i64 b9.me]) :: (IT ++ IAu5 ++ IBu5 ++ ILu6 ++ ILu7 ++ ILu8)) := M
  refine Zg5 T (Zq (Zrm rfl (T.e 0 rfl))) rfl (Ze 0 rfl rfl rfl) rfl (Ze 1 rfl rfl rfl) rfl (Za 1 rfl rfl) rfl (Za 1 rfl rfl) rfl ?_; clear T ac; intro ac T
  replace T := T.pick [0, 1, 7, 8, 9, 10, 11, 12, 13] rfl
  refine Zln ?_
  refine Zsr ?_
  refine Zg4 (v4 := (.agg #[.int .i64 b9.first, .int .i64 b9.step, .int .i64 b9.span, .int .i64 b9.press, .int .i64 b9.note, .slice A9 b9.lows.length c9, .slice B9 b9.highs.length d9, .int .i64 b9.t0, .int .i64 b9.t1, .int .i64 b9.r0, .int .i64 b9.r1, .int .i64 b9.u0, .int .i64 b9.u1, .int .i64 b9.d0, .int .i64 b9.d1, .int .i64 b9.a0, .int .i64 b9.a1, .int .i64 b9.b0, .int .i64 b9.b1, .int .i64 b9.le, .int .i64 b9.me])) T (Zq (Zrm rfl (T.e 7 rfl))) rfl (Zm 9 rfl rfl) rfl (fun _ T => Zq (Zri (size := 21) i rfl (T.e 1 rfl) (T.e 0 rfl) ⟨_, Tryz.underlying39, by kernel_rfl⟩ rfl (by omega) (SBB.at0 (by omega)))) rfl (fun _ T => Zq (rn_rowat (Sp.bxR SBB M (.cons _ (subL (subL (subL (subL (subL (List.Sublist.refl _))))))) hk9) rfl (T.e 0 rfl) rfl)) rfl ?_; clear T ac; intro ac T
  refine Zl2 ?_
  refine Zoc (first := []) (cap := []) T rfl rfl rfl rfl evf (.cons (T.e 0 rfl) .nil) Tryz.func13 rfl rfl ?_
  refine Calls.mono (Short5_any b9 _ _ _ _ _ (SA9.rd M (.cons _ (subL (subL (subL (subL (subL (List.Sublist.refl _)))))))) (SB9.rd M (.cons _ (subL (subL (subL (subL (subL (List.Sublist.refl _)))))))) (by omega) (by omega)) ?_
  clear T; rintro e wc ⟨ALu9, cLu9, ILu9, rfl, hl6u9, SVLu9, N⟩ ac T
  obtain ⟨bALu9, oALu9, SVLu9⟩ := SVLu9
  have SALu9 := SVLu9 w noEx
  replace M := (M.join N).swapI
  clear N
  replace M : Mem w noEx wc ((g7, .cells [.int .i64 b9.first, .int .i64 b9.step, .int .i64 b9.span, .int .i64 b9.press, .int .i64 b9.note, .slice Au5 b9.lows.length cAu5, .slice Bu5 b9.highs.length cBu5, .int .i64 b9.t0, .int .i64 b9.t1, .int .i64 b9.r0, .int .i64 b9.r1, .int .i64 b9.u0, .int .i64 b9.u1, .int .i64 b9.d0, .int .i64 b9.d1, .int .i64 b9.a0, .int .i64 b9.a1, .int .i64 b9.b0, .int .i64 b9.b1, .int .i64 b9.le, .int .i64 b9.me]) :: (IT ++ IAu5 ++ IBu5 ++ ILu6 ++ ILu7 ++ ILu8 ++ ILu9)) := M
  refine Zg5 T (Zq (Zrm rfl (T.e 0 rfl))) rfl (Ze 0 rfl rfl rfl) rfl (Ze 1 rfl rfl rfl) rfl (Za 1 rfl rfl) rfl (Za 1 rfl rfl) rfl ?_; clear T ac; intro ac T
  replace T := T.pick [0, 1, 10, 11, 12, 13, 14, 15, 16, 17, 18] rfl
  refine Zln ?_
  refine Zsr ?_
  refine lq T (Zrr (Mem.nth M 0 rfl) rfl (T.e 8 rfl) rfl) ?_; clear T ac; intro ac T
  refine Zl2 ?_
  refine Zoc (first := []) (cap := []) T rfl rfl rfl rfl evf (.cons (T.e 0 rfl) .nil) Tryz.func14 rfl rfl ?_
  refine Calls.mono (Most_any b9 _ _ _ _ _ (SAu5.rd M (.cons _ (subL (subL (subL (subL (subL (Zsq _ _)))))))) (SBu5.rd M (.cons _ (subL (subL (subL (subL (Zsq _ _))))))) (by omega) (by omega)) ?_
  clear T; rintro e wc ⟨rfl, hb⟩ ac T
  replace M := M.call hb; clear hb
  refine Zg3 T (Zq (Zrm rfl (T.e 0 rfl))) rfl (Ze 0 rfl rfl rfl) rfl (Ze 1 rfl rfl rfl) rfl ?_; clear T ac; intro ac T
  refine Zl2 ?_
  refine Zoa M T rfl rfl rfl rfl ?_; clear M T; intro g8 wc ac M T
  refine Zl2 ?_
  refine Zos M T rfl rfl (T.e 0 rfl) (T.e 2 rfl) rfl .head rfl (by simp) rfl (by kernel_rfl) ?_; clear M T; intro wc ac M T
  refine lq T (Zra rfl (T.e 1 rfl)) ?_; clear T ac; intro ac T
  replace T := T.pick [0, 1, 7, 8, 9, 10, 11, 12, 13, 14, 15, 16, 17] rfl
  refine Zln ?_
  refine Zsr ?_
  refine Zg4 (v4 := (.agg #[.int .i64 b9.first, .int .i64 b9.step, .int .i64 b9.span, .int .i64 b9.press, .int .i64 b9.note, .slice A9 b9.lows.length c9, .slice B9 b9.highs.length d9, .int .i64 b9.t0, .int .i64 b9.t1, .int .i64 b9.r0, .int .i64 b9.r1, .int .i64 b9.u0, .int .i64 b9.u1, .int .i64 b9.d0, .int .i64 b9.d1, .int .i64 b9.a0, .int .i64 b9.a1, .int .i64 b9.b0, .int .i64 b9.b1, .int .i64 b9.le, .int .i64 b9.me])) T (Zq (Zrm rfl (T.e 11 rfl))) rfl (Zm 13 rfl rfl) rfl (fun _ T => Zq (Zri (size := 21) i rfl (T.e 1 rfl) (T.e 0 rfl) ⟨_, Tryz.underlying39, by kernel_rfl⟩ rfl (by omega) (SBB.at0 (by omega)))) rfl (fun _ T => Zq (rn_rowat (Sp.bxR SBB M (.cons _ (.cons _ (subL (subL (subL (subL (subL (subL (List.Sublist.refl _))))))))) hk9) rfl (T.e 0 rfl) rfl)) rfl ?_; clear T ac; intro ac T
  refine Zl2 ?_
  refine Zoc (first := []) (cap := []) T rfl rfl rfl rfl evf (.cons (T.e 0 rfl) .nil) Tryz.func15 rfl rfl ?_
  refine Calls.mono (Most5_any b9 _ _ _ _ _ (SA9.rd M (.cons _ (.cons _ (subL (subL (subL (subL (subL (subL (List.Sublist.refl _)))))))))) (SB9.rd M (.cons _ (.cons _ (subL (subL (subL (subL (subL (subL (List.Sublist.refl _)))))))))) (by omega) (by omega)) ?_
  clear T; rintro e wc ⟨rfl, hb⟩ ac T
  replace M := M.call hb; clear hb
  refine Zg3 T (Zq (Zrm rfl (T.e 0 rfl))) rfl (Ze 0 rfl rfl rfl) rfl (Ze 1 rfl rfl rfl) rfl ?_; clear T ac; intro ac T
  refine Zl2 ?_
  refine Zoa M T rfl rfl rfl rfl ?_; clear M T; intro g9 wc ac M T
  refine Zl2 ?_
  refine Zos M T rfl rfl (T.e 0 rfl) (T.e 2 rfl) rfl .head rfl (by simp) rfl (by kernel_rfl) ?_; clear M T; intro wc ac M T
  refine lq T (Zra rfl (T.e 1 rfl)) ?_; clear T ac; intro ac T
  replace T := T.pick [0, 1, 10, 11, 12, 13, 14, 15, 16, 17, 18, 19, 20, 21, 22] rfl
  refine Zln ?_
  refine wp_seq ?_
  refine Zgs M (M.mask [true, true, true] rfl) 39 (by kernel_rfl) rfl (by kernel_rfl) ?_
  clear M; intro wc M
  refine gq T 0 1 rfl (fun _ _ _ _ _ => (Zrm rfl (T.e 10 rfl))) ?_; clear T ac; intro ac T
  refine gq T 1 3 rfl (fun _ _ _ _ _ => (Zrm rfl (T.e 9 rfl))) ?_; clear T ac; intro ac T
  refine gq (v := (.bool false)) T 2 7 rfl (fun _ _ _ _ _ => (Zrq (rn_neq rfl (T.e 1 rfl) (T.e 0 rfl)) (by simp))) ?_; clear T ac; intro ac T
  refine gq T 3 15 rfl (fun _ _ _ _ _ => (Zrm rfl (T.e 0 rfl))) ?_; clear T ac; intro ac T
  refine g_q (T := T) (i := 4) rfl (by kernel_rfl) (by kernel_rfl : (Zpb 39 15).setIfInBounds 4 true = Zpb 39 31) si_U (fun _ _ _ h => h) (Zwy rfl rfl (T.e 0 rfl) rfl) rfl rfl rfl (fun _ _ _ _ _ => (Zrm rfl (T.e 10 rfl))) ?_; clear T ac; intro ac T
  refine g_q (T := T) (i := 5) rfl (by kernel_rfl) (by kernel_rfl : (Zpb 39 31).setIfInBounds 5 true = Zpb 39 63) si_U (fun _ _ _ h => h) (Zwy rfl rfl (T.e 1 rfl) rfl) rfl rfl rfl (fun _ _ _ _ _ => (Zrm rfl (T.e 9 rfl))) ?_; clear T ac; intro ac T
  refine g_q (v := (.bool false)) (T := T) (i := 6) rfl (by kernel_rfl) (by kernel_rfl : (Zpb 39 63).setIfInBounds 6 true = Zpb 39 127) si_U (fun _ _ _ h => h) (Zwy rfl rfl (T.e 2 rfl) rfl) rfl rfl rfl (fun _ _ _ _ _ => (Zrq (rn_neq rfl (T.e 1 rfl) (T.e 0 rfl)) (by simp))) ?_; clear T ac; intro ac T
  refine gq T 7 255 rfl (fun _ _ _ _ _ => (Zr0 rfl (T.e 3 rfl) rfl (T.e 0 rfl))) ?_; clear T ac; intro ac T
  refine gq T 8 511 rfl (fun _ _ _ _ _ => (Zrm rfl (T.e 0 rfl))) ?_; clear T ac; intro ac T
  refine g_q (T := T) (i := 9) rfl (by kernel_rfl) (by kernel_rfl : (Zpb 39 511).setIfInBounds 9 true = Zpb 39 1023) si_U (fun _ _ _ h => h) (Zwy rfl rfl (T.e 0 rfl) rfl) rfl rfl rfl (fun B w' hD hl hS => (Zrr (Mem.nth (show Mem w noEx w' _ from hS) 1 rfl) rfl (T.e 12 rfl) rfl)) ?_; clear T ac; intro ac T
  refine g_q (T := T) (i := 10) rfl (by kernel_rfl) (by kernel_rfl : (Zpb 39 1023).setIfInBounds 10 true = Zpb 39 2047) si_U (fun _ _ _ h => h) (Zwy rfl rfl (T.e 1 rfl) rfl) rfl rfl rfl (fun B w' hD hl hS => (Zrr (Mem.nth (show Mem w noEx w' _ from hS) 0 rfl) rfl (T.e 11 rfl) rfl)) ?_; clear T ac; intro ac T
  refine g_q (v := (.bool false)) (T := T) (i := 11) rfl (by kernel_rfl) (by kernel_rfl : (Zpb 39 2047).setIfInBounds 11 true = Zpb 39 4095) si_U (fun _ _ _ h => h) (Zwy rfl rfl (T.e 2 rfl) rfl) rfl rfl rfl (fun _ _ _ _ _ => (Zrq (rn_bin rfl (T.e 1 rfl) (T.e 0 rfl) neT26) (by simp))) ?_; clear T ac; intro ac T
  refine gq T 12 8191 rfl (fun _ _ _ _ _ => (Zr0 rfl (T.e 3 rfl) rfl (T.e 0 rfl))) ?_; clear T ac; intro ac T
  refine gq T 13 16383 rfl (fun _ _ _ _ _ => (Zrm rfl (T.e 0 rfl))) ?_; clear T ac; intro ac T
  refine g_q (T := T) (i := 14) rfl (by kernel_rfl) (by kernel_rfl : (Zpb 39 16383).setIfInBounds 14 true = Zpb 39 32767) si_U (fun _ _ _ h => h) (Zwy rfl rfl (T.e 0 rfl) rfl) rfl rfl rfl (fun _ _ _ _ _ => (Zrm rfl (T.e 16 rfl))) ?_; clear T ac; intro ac T
  refine g_q (T := T) (i := 15) rfl (by kernel_rfl) (by kernel_rfl : (Zpb 39 32767).setIfInBounds 15 true = Zpb 39 65535) si_U (fun _ _ _ h => h) (Zwy rfl rfl (T.e 1 rfl) rfl) rfl rfl rfl (fun _ _ _ _ _ => (Zrm rfl (T.e 15 rfl))) ?_; clear T ac; intro ac T
  refine g_q (v := (.bool false)) (T := T) (i := 16) rfl (by kernel_rfl) (by kernel_rfl : (Zpb 39 65535).setIfInBounds 16 true = Zpb 39 131071) si_U (fun _ _ _ h => h) (Zwy rfl rfl (T.e 2 rfl) rfl) rfl rfl rfl (fun _ _ _ _ _ => (Zrq (rn_neq rfl (T.e 1 rfl) (T.e 0 rfl)) (by simp))) ?_; clear T ac; intro ac T
  refine gq T 17 262143 rfl (fun _ _ _ _ _ => (Zr0 rfl (T.e 3 rfl) rfl (T.e 0 rfl))) ?_; clear T ac; intro ac T
  refine gq T 18 524287 rfl (fun _ _ _ _ _ => (Zrm rfl (T.e 0 rfl))) ?_; clear T ac; intro ac T
  refine g_q (T := T) (i := 19) rfl (by kernel_rfl) (by kernel_rfl : (Zpb 39 524287).setIfInBounds 19 true = Zpb 39 1048575) si_U (fun _ _ _ h => h) (Zwy rfl rfl (T.e 0 rfl) rfl) rfl rfl rfl (fun _ _ _ _ _ => (Zrm rfl (T.e 30 rfl))) ?_; clear T ac; intro ac T
  refine g_q (T := T) (i := 20) rfl (by kernel_rfl) (by kernel_rfl : (Zpb 39 1048575).setIfInBounds 20 true = Zpb 39 2097151) si_U (fun _ _ _ h => h) (Zwy rfl rfl (T.e 1 rfl) rfl) rfl rfl rfl (fun _ _ _ _ _ => (Zrm rfl (T.e 29 rfl))) ?_; clear T ac; intro ac T
  refine g_w (i := 21) (by kernel_rfl) rfl (by kernel_rfl : (Zpb 39 2097151).setIfInBounds 21 true = Zpb 39 4194303) (Zwy rfl rfl (T.e 2 rfl) rfl) ?_; intro K hK
  refine Zoc (first := []) (cap := []) T rfl rfl rfl rfl evf (.cons (T.e 1 rfl) (.cons (T.e 0 rfl) .nil)) Tryz.func16 rfl rfl ?_
  refine Calls.mono (sameInts_eq _ _ _ _ _ _ ((matchE b9).1) _ (SALu6.rd M (.cons _ (.cons _ (.cons _ (subL (subL (subL (Zsq _ _)))))))) (SALu7.rd M (.cons _ (.cons _ (.cons _ (subL (subL (Zsq _ _))))))) (by omega) (by omega)) ?_
  clear T; rintro e wc ⟨rfl, hb⟩ ac T
  replace M := M.call hb; clear hb
  refine Zso hK _ _ (M.mask [true, true, true] rfl) ?_; clear hK K
  refine g_addU M ?_
  refine g_q (v := (.bool false)) (T := T) (i := 22) rfl (by kernel_rfl) (by kernel_rfl : (Zpb 39 4194303).setIfInBounds 22 true = Zpb 39 8388607) (si_and si_U si_U) (fun _ _ _ h => h) (Zwy rfl rfl (T.e 3 rfl) rfl) rfl rfl rfl (fun _ _ _ _ _ => (Zrq (rn_not rfl (T.e 0 rfl)) (by simp))) ?_; clear T ac; intro ac T
  refine gq T 23 16777215 rfl (fun _ _ _ _ _ => (Zr0 rfl (T.e 4 rfl) rfl (T.e 0 rfl))) ?_; clear T ac; intro ac T
  refine gq T 24 33554431 rfl (fun _ _ _ _ _ => (Zrm rfl (T.e 0 rfl))) ?_; clear T ac; intro ac T
  refine g_q (T := T) (i := 25) rfl (by kernel_rfl) (by kernel_rfl : (Zpb 39 33554431).setIfInBounds 25 true = Zpb 39 67108863) (si_and si_U si_U) (fun _ _ _ h => h) (Zwy rfl rfl (T.e 0 rfl) rfl) rfl rfl rfl (fun _ _ _ _ _ => (Zrm rfl (T.e 32 rfl))) ?_; clear T ac; intro ac T
  refine g_q (T := T) (i := 26) rfl (by kernel_rfl) (by kernel_rfl : (Zpb 39 67108863).setIfInBounds 26 true = Zpb 39 134217727) (si_and si_U si_U) (fun _ _ _ h => h) (Zwy rfl rfl (T.e 1 rfl) rfl) rfl rfl rfl (fun _ _ _ _ _ => (Zrm rfl (T.e 31 rfl))) ?_; clear T ac; intro ac T
  refine g_w (i := 27) (by kernel_rfl) rfl (by kernel_rfl : (Zpb 39 134217727).setIfInBounds 27 true = Zpb 39 268435455) (Zwy rfl rfl (T.e 2 rfl) rfl) ?_; intro K hK
  refine Zoc (first := []) (cap := []) T rfl rfl rfl rfl evf (.cons (T.e 1 rfl) (.cons (T.e 0 rfl) .nil)) Tryz.func16 rfl rfl ?_
  refine Calls.mono (sameInts_eq _ _ _ _ _ _ ((shortE b9).1) _ (SALu8.rd M (.cons _ (.cons _ (.cons _ (subL (Zsq _ _)))))) (SALu9.rd M (.cons _ (.cons _ (.cons _ (Zsq _ _))))) (by omega) (by omega)) ?_
  clear T; rintro e wc ⟨rfl, hb⟩ ac T
  replace M := M.call hb; clear hb
  refine Zso hK _ _ (MA.mk (M.mask [true, true, true] rfl) (M.mask [true, true, true] rfl)) ?_; clear hK K
  refine g_addU M ?_
  refine g_q (v := (.bool false)) (T := T) (i := 28) rfl (by kernel_rfl) (by kernel_rfl : (Zpb 39 268435455).setIfInBounds 28 true = Zpb 39 536870911) (si_and si_U (si_and si_U si_U)) (fun _ _ _ h => h) (Zwy rfl rfl (T.e 3 rfl) rfl) rfl rfl rfl (fun _ _ _ _ _ => (Zrq (rn_not rfl (T.e 0 rfl)) (by simp))) ?_; clear T ac; intro ac T
  refine gq T 29 1073741823 rfl (fun _ _ _ _ _ => (Zr0 rfl (T.e 4 rfl) rfl (T.e 0 rfl))) ?_; clear T ac; intro ac T
  refine gq T 30 2147483647 rfl (fun _ _ _ _ _ => (Zrm rfl (T.e 0 rfl))) ?_; clear T ac; intro ac T
  refine g_q (T := T) (i := 31) rfl (by kernel_rfl) (by kernel_rfl : (Zpb 39 2147483647).setIfInBounds 31 true = Zpb 39 4294967295) (si_and si_U (si_and si_U si_U)) (fun _ _ _ h => h) (Zwy rfl rfl (T.e 0 rfl) rfl) rfl rfl rfl (fun B w' hD hl hS => (Zrr (Mem.nth (show Mem w noEx w' _ from (MA.lft hS)) 2 rfl) rfl (T.e 43 rfl) rfl)) ?_; clear T ac; intro ac T
  refine g_q (T := T) (i := 32) rfl (by kernel_rfl) (by kernel_rfl : (Zpb 39 4294967295).setIfInBounds 32 true = Zpb 39 8589934591) (si_and si_U (si_and si_U si_U)) (fun _ _ _ h => h) (Zwy rfl rfl (T.e 1 rfl) rfl) rfl rfl rfl (fun _ _ _ _ _ => (Zrm rfl (T.e 45 rfl))) ?_; clear T ac; intro ac T
  refine g_q (T := T) (i := 33) rfl (by kernel_rfl) (by kernel_rfl : (Zpb 39 8589934591).setIfInBounds 33 true = Zpb 39 17179869183) (si_and si_U (si_and si_U si_U)) (fun _ _ _ h => h) (Zwy rfl rfl (T.e 2 rfl) rfl) rfl rfl rfl (fun _ _ _ _ _ => (Zrm rfl (T.e 47 rfl))) ?_; clear T ac; intro ac T
  refine g_q (T := T) (i := 34) rfl (by kernel_rfl) (by kernel_rfl : (Zpb 39 17179869183).setIfInBounds 34 true = Zpb 39 34359738367) (si_and si_U (si_and si_U si_U)) (fun _ _ _ h => h) (Zwy rfl rfl (T.e 3 rfl) rfl) rfl rfl rfl (fun _ _ _ _ _ => (Zri (size := 21) i rfl (T.e 1 rfl) (T.e 0 rfl) ⟨_, Tryz.underlying39, by kernel_rfl⟩ rfl (by omega) (SBB.at0 (by omega)))) ?_; clear T ac; intro ac T
  refine g_q (v := (.agg #[.int .i64 b9.first, .int .i64 b9.step, .int .i64 b9.span, .int .i64 b9.press, .int .i64 b9.note, .slice A9 b9.lows.length c9, .slice B9 b9.highs.length d9, .int .i64 b9.t0, .int .i64 b9.t1, .int .i64 b9.r0, .int .i64 b9.r1, .int .i64 b9.u0, .int .i64 b9.u1, .int .i64 b9.d0, .int .i64 b9.d1, .int .i64 b9.a0, .int .i64 b9.a1, .int .i64 b9.b0, .int .i64 b9.b1, .int .i64 b9.le, .int .i64 b9.me])) (T := T) (i := 35) rfl (by kernel_rfl) (by kernel_rfl : (Zpb 39 34359738367).setIfInBounds 35 true = Zpb 39 68719476735) (si_and si_U (si_and si_U si_U)) (fun _ _ _ h => h) (Zwy rfl rfl (T.e 4 rfl) rfl) rfl rfl rfl (fun B w' hD hl hS => (rn_rowat (Sp.bxR SBB (show Mem w noEx w' _ from (MA.lft hS)) (.cons _ (.cons _ (.cons _ (subL (subL (subL (subL (subL (subL (List.Sublist.refl _)))))))))) hk9) rfl (T.e 0 rfl) rfl)) ?_; clear T ac; intro ac T
  refine g_w (i := 36) (by kernel_rfl) rfl (by kernel_rfl : (Zpb 39 68719476735).setIfInBounds 36 true = Zpb 39 137438953471) (Zwy rfl rfl (T.e 5 rfl) rfl) ?_; intro K hK
  refine Zoc (first := []) (cap := []) T rfl rfl rfl rfl evf (.cons (T.e 4 rfl) (.cons (T.e 0 rfl) .nil)) Tryz.func17 rfl rfl ?_
  refine Calls.mono (sameBoxes_same b9 _ _ _ _ _ _ _ _ _ (SAu5.rd M (.cons _ (.cons _ (.cons _ (subL (subL (subL (subL (subL (Zsq _ _)))))))))) (SBu5.rd M (.cons _ (.cons _ (.cons _ (subL (subL (subL (subL (Zsq _ _))))))))) (SA9.rd M (.cons _ (.cons _ (.cons _ (subL (subL (subL (subL (subL (subL (List.Sublist.refl _))))))))))) (SB9.rd M (.cons _ (.cons _ (.cons _ (subL (subL (subL (subL (subL (subL (List.Sublist.refl _))))))))))) (by omega) (by omega)) ?_
  clear T; rintro e wc ⟨rfl, hb⟩ ac T
  replace M := M.call hb; clear hb
  refine Zso hK _ _ (MA.mk (M.mask [true, true, true] rfl) (MA.mk (M.mask [true, true, true] rfl) (M.mask [true, true, true] rfl))) ?_; clear hK K
  refine g_q (v := (.bool false)) (T := T) (i := 37) rfl (by kernel_rfl) (by kernel_rfl : (Zpb 39 137438953471).setIfInBounds 37 true = Zpb 39 274877906943) (si_and si_U (si_and si_U si_U)) (fun _ _ _ h => h) (Zwy rfl rfl (T.e 6 rfl) rfl) rfl rfl rfl (fun _ _ _ _ _ => (Zrq (rn_not rfl (T.e 0 rfl)) (by simp))) ?_; clear T ac; intro ac T
  refine gq T 38 549755813887 rfl (fun _ _ _ _ _ => (Zr0 rfl (T.e 7 rfl) rfl (T.e 0 rfl))) ?_; clear T ac; intro ac T
  refine Zgd (by kernel_rfl) ?_
  replace T := T.pick [0, 1, 2, 3, 4, 5, 6, 7, 10, 11, 12, 13, 16, 17, 18, 19, 22, 23, 24, 27, 28, 29, 32, 33, 34, 52, 53] rfl
  replace M := M.mask [false, false, false] rfl
  replace M : Mem w noEx wc ((IT ++ IAu5 ++ IBu5 ++ ILu6 ++ ILu7 ++ ILu8 ++ ILu9)) := M
  refine nm_then ?_
  refine wp_cond_false (T.e 0 rfl) ?_
  refine wp_skip ?_
  refine Znb ?_
  refine nm_then ?_
  refine wp_region_lit ?_
  refine Zg2 T (Zq (Zrm rfl (T.e 26 rfl))) rfl (fun _ T => Zq (rn_add rfl (T.e 0 rfl) evc (by omega))) rfl ?_; clear T ac; intro ac T
  refine l_q (v := (.int .i64 ((i : Int) + 1))) (T.pick [0, 1, 2, 3, 4, 5, 6, 7, 8, 9, 10, 11, 12, 13, 14, 15, 16, 17, 18, 19, 20, 21, 22, 23, 24, 25, 26, 27] rfl) rfl rfl rfl rfl (Zra rfl (T.e 0 rfl)) ?_; clear T ac; intro ac T
  replace T := T.pick [0, 4, 5, 6, 7, 8, 9, 10, 11, 12, 13, 14, 15, 16, 17, 18, 19, 20, 21, 22, 23, 24, 25, 26, 27, 28] rfl
  refine Zln ?_
  exact ⟨_, by omega, i + 1, rfl, (by omega), T.pick [25, 0] rfl, (M.sub (subL (subL (subL (subL (subL (subL (List.Sublist.refl _))))))))⟩
 intro h3
 refine wp_exit ?_
 refine Zet ?_
 refine Zet ?_
 refine ex_hit ?_
 refine nm_then ?_
 refine Zsr ?_
 refine Zl2 ?_
 refine Zoc (first := []) (cap := []) T rfl rfl rfl rfl evf .nil Tryz.func6 rfl rfl ?_
 refine Calls.mono (trembling_any _) ?_
 clear T; rintro e wc ⟨rfl, hb⟩ ac T
 replace M := M.call hb; clear hb
 refine lq T (Zra rfl (T.e 0 rfl)) ?_; clear T ac; intro ac T
 replace T := T.pick [0] rfl
 refine Zln ?_
 refine wp_ret ?_
 refine rt_1 T rfl (T.e 0 rfl) ?_
 exact ⟨rfl, M.below⟩
end Go.Proofs.YtdnbljihhimijaaGreat


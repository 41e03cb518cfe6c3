/-
  Blank, by the program and by ref1.
-/
import Derived.Test.YtmdbdaofjepelaaDoorMReedKnown1
import Derived.Test.YtmdbdaofjepelaaDoorMReedKnown2
namespace Go.Proofs.YtmdbdaofjepelaaDoor
set_option linter.unusedSimpArgs false
set_option linter.unusedVariables false
open Go.RowKit
def bestF : List JE → Int → Int × Int → Int × Int
 | [], _, a => a
 | x :: r, i, a => bestF r (i + 1) (if (guidedJ x.1).2 = 0 ∧ (a.1 < 0 ∨ (guidedJ x.1).1 < a.2) then (i, (guidedJ x.1).1) else a)
def chkJs : List JE → Int
 | [] => 0
 | x :: r => if checkJ x.1 = 0 then chkJs r else checkJ x.1
def blankT (L : List JE) : Int × Int × Int := if L.length = 0 then (0, 0, 7) else if 6 < L.length then (0, 0, 6) else if chkJs L = 0 then (if (bestF L 0 (-1, 0)).1 < 0 then (0, 0, 11) else ((bestF L 0 (-1, 0)).1, (bestF L 0 (-1, 0)).2, 0)) else (0, 0, chkJs L)
theorem best_step (g e a b i : Int) : (if e = 0 ∧ (a < 0 ∨ g < b) then (i, g) else (a, b)) = (bif decide (e = 0) && (decide (a < 0) || decide (g < b)) then i else a, bif decide (e = 0) && (decide (a < 0) || decide (g < b)) then g else b) := by
 by_cases c1 : e = 0 <;> by_cases c2 : a < 0 <;> by_cases c3 : g < b <;> simp [c1, c2, c3]
theorem jel {L : List JE} {k : Nat} (h : k < L.length) : ∃ j A c, L[k]? = some (j, A, c) ∧ L.drop k = (j, A, c) :: L.drop (k + 1) := ⟨L[k].1, L[k].2.1, L[k].2.2, List.getElem?_eq_getElem h, List.drop_eq_getElem_cons h⟩
set_option maxRecDepth 100000 in
set_option maxHeartbeats 1000000 in
theorem blankNum_any (j : Jb) (A : Option Addr) (c : Nat) (w : World) (hr : Rd w w.heap.size 2 A j.sh.length (rc j.sh)) (hn : j.sh.length ≤ 9223372036854775807) :
  Calls Tryd.prog 81 #[jobV j A c] w fun e w' => e = .returned (.tuple #[.int .i64 ((guidedJ j).1), .bool (decide ((guidedJ j).2 = 0))]) ∧ Below w.heap.size w w' := by
 obtain ⟨bJ, oJ, SJ⟩ := Sp.old hr
 refine Zpx noEx Tryd.func81 rfl 14 rfl [.agg #[.int .i64 j.p0, .int .i64 j.p1, .int .i64 j.t0, .int .i64 j.t1, .int .i64 j.r0, .int .i64 j.r1, .int .i64 j.u0, .int .i64 j.u1, .int .i64 j.d0, .int .i64 j.d1, .int .i64 j.a0, .int .i64 j.a1, .int .i64 j.b0, .int .i64 j.b1, .int .i64 j.le, .slice A j.sh.length c, .int .i64 j.wi, .int .i64 j.me]] rfl rfl (Mem.init w _) ?_
 intro ac wc T M
 refine Zsr ?_
 refine Zl2 ?_
 refine Zob M T rfl rfl rfl rfl (T.e 0 rfl) rfl ?_; clear M T; intro g1 wc ac M T
 refine Zg2 T (Zq (Zra rfl evc)) rfl (Zc rfl) rfl ?_; clear T ac; intro ac T
 replace T := T.pick [2] rfl
 refine Zln ?_
 refine Zsr ?_
 refine lq T (Zrr (Mem.nth M 0 rfl) rfl (T.e 0 rfl) rfl) ?_; clear T ac; intro ac T
 refine Zl2 ?_
 refine Zoc (first := []) (cap := []) T rfl rfl rfl rfl evf (.cons (T.e 0 rfl) .nil) Tryd.func37 rfl rfl ?_
 refine Calls.mono (Guided_any j _ _ _ (SJ.rd M (Zz9 _)) (by omega)) ?_
 clear T; rintro e wc ⟨rfl, hb⟩ ac T
 replace M := M.call hb; clear hb
 refine Zg5 T (Zq (Zrm rfl (T.e 0 rfl))) rfl (Ze 0 rfl rfl rfl) rfl (Ze 1 rfl rfl rfl) rfl (Za 1 rfl rfl) rfl (Za 1 rfl rfl) rfl ?_; clear T ac; intro ac T
 refine wpList_nil ?_
 replace T := T.pick [0, 1] rfl
 replace M := M.mask [false] rfl
 refine nm_then ?_
 refine Zsr ?_
 refine Zg5 T (Zq (Zrm rfl (T.e 1 rfl))) rfl (Zm 1 rfl rfl) rfl (fun _ T => Zq (rn_eql rfl (T.e 0 rfl) evc)) rfl (Za 2 rfl rfl) rfl (Za 1 rfl rfl) rfl ?_; clear T ac; intro ac T
 replace T := T.pick [0, 1] rfl
 refine Zln ?_
 refine wp_ret ?_
 refine rt_2 T rfl (T.e 1 rfl) (T.e 0 rfl) ?_
 exact ⟨rfl, M.below⟩
set_option maxRecDepth 100000 in
set_option maxHeartbeats 1000000 in
theorem best_any (A : Option Addr) (c : Nat) (L : List JE) (w : World) (hr : Rd w w.heap.size 18 A L.length (jc L)) (hE : ∀ x ∈ L, Rd w w.heap.size 2 x.2.1 x.1.sh.length (rc x.1.sh) ∧ x.1.sh.length ≤ 9223372036854775807) (hn : L.length ≤ 9223372036854775807) :
   Calls Tryd.prog 80 #[.slice A L.length c, .func (.func 81) #[] #[]] w fun e w' => e = .returned (.tuple #[.int .i64 ((bestF L 0 (-1, 0)).1), .int .i64 ((bestF L 0 (-1, 0)).2)]) ∧ Below w.heap.size w w' := by
 obtain ⟨bL, oL, SL⟩ := Sp.old hr
 refine Zpx noEx Tryd.func80 rfl 38 rfl [.slice A L.length c, .func (.func 81) #[] #[]] rfl rfl (Mem.init w _) ?_
 intro ac wc T M
 refine Zsr ?_
 refine Zg2 T (Zq (Zra rfl evc)) rfl (Zc rfl) rfl ?_; clear T ac; intro ac T
 replace T := T.pick [0, 2, 3] rfl
 refine Zln ?_
 refine Zsr ?_
 refine lq T (Zra rfl evc) ?_; clear T ac; intro ac T
 refine Zln ?_
 refine wp_seq ?_
 refine Zsr ?_
 refine Zg3 T (Zq (Zrm rfl (T.e 2 rfl))) rfl (Zl Tryd.underlying91 0 rfl rfl) rfl (fun _ T => Zq (Zrm rfl evc)) rfl ?_; clear T ac; intro ac T
 replace T := T.pick [0, 1, 2, 3, 4, 6] rfl
 refine Zln ?_
 refine wp_block ?_
 refine wp_loop_n (fun mz ac wc => ∃ (k : Nat) (a b : Int), mz = L.length - k ∧ (k ≤ L.length) ∧ (bestF L 0 (-1, 0) = bestF (L.drop k) k (a, b)) ∧ Tm ac 38 [(1, .func (.func 81) #[] #[]), (4, .int .i64 a), (5, .int .i64 b), (10, .slice A L.length c), (11, .int .i64 ((L.length : Nat) : Int)), (12, .int .i64 (k : Int))] ∧ Mem w noEx wc []) ?_ ?_
 ·exact ⟨_, 0, (-1), 0, rfl, (by omega), rfl, T.pick [5, 3, 4, 2, 1, 0] rfl, M.mask [] rfl⟩
 clear T M
 rintro mz ac wc ⟨k, a, b, hmm1, hk, H, T, M⟩
 refine Zsr ?_
 refine lq T (rn_lss rfl (T.e 5 rfl) (T.e 4 rfl)) ?_; clear T ac; intro ac T
 refine Zln ?_
 refine wp_seq ?_
 refine wp_if (T.e 0 rfl) ?_ ?_
 ·intro h1
  obtain ⟨jx, Ax, cx, hkx, hd⟩ := jel (L := L) (k := k) (by omega)
  obtain ⟨hrx, hfx⟩ := hE _ (List.mem_of_getElem? hkx)
  replace hrx : Rd w w.heap.size 2 Ax jx.sh.length (rc jx.sh) := hrx
  replace hfx : jx.sh.length ≤ 9223372036854775807 := hfx
  obtain ⟨bx, ox, Sx⟩ := Sp.old hrx
  rw [hd] at H
  refine Zsk ?_
  refine cut_seq (fun ac wc => Tm ac 38 [(1, .func (.func 81) #[] #[]), (4, .int .i64 (bif ((decide ((guidedJ jx).2 = 0)) && ((decide (a < 0)) || (decide (((guidedJ jx).1) < b)))) then (k : Int) else a)), (5, .int .i64 (bif ((decide ((guidedJ jx).2 = 0)) && ((decide (a < 0)) || (decide (((guidedJ jx).1) < b)))) then (guidedJ jx).1 else b)), (10, .slice A L.length c), (11, .int .i64 ((L.length : Nat) : Int)), (12, .int .i64 (k : Int))] ∧ Mem w noEx wc []) ?_ ?_
  ·refine wp_block ?_
   refine Zsr ?_
   refine Zg3 (v3 := (.agg #[.int .i64 jx.p0, .int .i64 jx.p1, .int .i64 jx.t0, .int .i64 jx.t1, .int .i64 jx.r0, .int .i64 jx.r1, .int .i64 jx.u0, .int .i64 jx.u1, .int .i64 jx.d0, .int .i64 jx.d1, .int .i64 jx.a0, .int .i64 jx.a1, .int .i64 jx.b0, .int .i64 jx.b1, .int .i64 jx.le, .slice Ax jx.sh.length cx, .int .i64 jx.wi, .int .i64 jx.me])) T (Zq (Zrm rfl (T.e 6 rfl))) rfl (fun _ T => Zq (Zri (size := 18) k rfl (T.e 5 rfl) (T.e 7 rfl) ⟨_, Tryd.underlying91, by kernel_rfl⟩ rfl (by omega) (SL.at0 (by omega)))) rfl (fun _ T => Zq (rn_rowat (Sp.jcR SL M (Zz9 _) hkx) rfl (T.e 0 rfl) rfl)) rfl ?_; clear T ac; intro ac T
   refine Zl2 ?_
   refine Zoa M T rfl rfl rfl rfl ?_; clear M T; intro g1 wc ac M T
   refine lq T (Zra rfl (T.e 3 rfl)) ?_; clear T ac; intro ac T
   refine Zl2 ?_
   refine Zos M T rfl rfl (T.e 1 rfl) (T.e 2 rfl) rfl .head rfl (by simp) rfl (by kernel_rfl) ?_; clear M T; intro wc ac M T
   replace T := T.pick [0, 1, 6, 7, 8, 9, 10, 11] rfl
   refine Zln ?_
   refine Zsr ?_
   refine Zg2 T (Zq (Zrm rfl (T.e 2 rfl))) rfl (Zr M 0 2 rfl rfl rfl rfl) rfl ?_; clear T ac; intro ac T
   refine Zl2 ?_
   refine Zoc (first := []) (cap := []) T rfl rfl rfl rfl (T.e 1 rfl) (.cons (T.e 0 rfl) .nil) Tryd.func81 rfl rfl ?_
   refine Calls.mono (blankNum_any jx _ _ _ (Sx.rd M (Zz9 _)) (by omega)) ?_
   clear T; rintro e wc ⟨rfl, hb⟩ ac T
   replace M := M.call hb; clear hb
   refine Zg5 T (Zq (Zrm rfl (T.e 0 rfl))) rfl (Ze 0 rfl rfl rfl) rfl (Ze 1 rfl rfl rfl) rfl (Za 1 rfl rfl) rfl (Za 1 rfl rfl) rfl ?_; clear T ac; intro ac T
   refine wpList_nil ?_
   replace T := T.pick [0, 1, 8, 10, 11, 12, 13, 14, 15] rfl
   replace M := M.mask [false] rfl
   refine nm_then ?_
   refine cut_seq (fun ac wc => Tm ac 38 [(1, .func (.func 81) #[] #[]), (4, .int .i64 a), (5, .int .i64 b), (6, .int .i64 (k : Int)), (8, .int .i64 ((guidedJ jx).1)), (10, .slice A L.length c), (11, .int .i64 ((L.length : Nat) : Int)), (12, .int .i64 (k : Int)), (32, .bool ((decide ((guidedJ jx).2 = 0)) && ((decide (a < 0)) || (decide (((guidedJ jx).1) < b)))))] ∧ Mem w noEx wc []) ?_ ?_
   ·refine wp_region_lit ?_
    refine Zg2 T (Zq (Zrm rfl (T.e 0 rfl))) rfl (Zm 0 rfl rfl) rfl ?_; clear T ac; intro ac T
    rcases Bool.eq_false_or_eq_true (decide ((guidedJ jx).2 = 0)) with h2 | h2
    ·replace h2 := of_decide_eq_true h2
     refine Zg3 T (Zw (Zwy rfl rfl (T.e 0 rfl) (Zdt h2)) (Zrm rfl (T.e 6 rfl))) rfl (fun _ T => Zw (Zwy rfl rfl (T.e 1 rfl) (Zdt h2)) (rn_lss rfl (T.e 0 rfl) evc)) rfl (fun _ T => Zw (Zwy rfl rfl (T.e 2 rfl) (Zdt h2)) (Zrm rfl (T.e 0 rfl))) rfl ?_; clear T ac; intro ac T
     rcases Bool.eq_false_or_eq_true (decide (a < 0)) with h3 | h3
     ·replace h3 := of_decide_eq_true h3
      refine Zg5 T (Zp (Zwn rfl rfl (T.e 0 rfl) (Zdt h3))) rfl (fun _ T => Zp (Zwn rfl rfl (T.e 1 rfl) (Zdt h3))) rfl (fun _ T => Zp (Zwn rfl rfl (T.e 2 rfl) (Zdt h3))) rfl (fun _ T => Zw (Zwy rfl rfl (T.e 6 rfl) (Zdt h2)) (Zr1 rfl (T.e 3 rfl) (Zdt h3) evc)) rfl (fun _ T => Zq (Zr1 rfl (T.e 7 rfl) (Zdt h2) (T.e 0 rfl))) rfl ?_; clear T ac; intro ac T
      refine wpList_nil ?_
      replace T := T.pick [0, 1, 2, 3, 4, 5, 6, 7, 11, 12, 13, 14, 15, 16, 17, 18] rfl
      exact ⟨(T.pick (E' := [(1, .func (.func 81) #[] #[]), (4, .int .i64 a), (5, .int .i64 b), (6, .int .i64 (k : Int)), (8, .int .i64 ((guidedJ jx).1)), (10, .slice A L.length c), (11, .int .i64 ((L.length : Nat) : Int)), (12, .int .i64 (k : Int)), (32, .bool true)]) [10, 11, 12, 9, 8, 13, 14, 15, 0] rfl).as (by (try rw [show (decide ((guidedJ jx).2 = 0)) = true from (Zdt h2)]); (try rw [show (decide (a < 0)) = true from (Zdt h3)]); (try rfl)), M.mask [] rfl⟩
     replace h3 := of_decide_eq_false h3
     refine Zg5 T (Zw (Zwy rfl rfl (T.e 0 rfl) (Zdf h3)) (Zrm rfl (T.e 6 rfl))) rfl (fun _ T => Zw (Zwy rfl rfl (T.e 1 rfl) (Zdf h3)) (Zrm rfl (T.e 11 rfl))) rfl (fun _ T => Zw (Zwy rfl rfl (T.e 2 rfl) (Zdf h3)) (rn_lss rfl (T.e 1 rfl) (T.e 0 rfl))) rfl (fun _ T => Zw (Zwy rfl rfl (T.e 6 rfl) (Zdt h2)) (Zr0 rfl (T.e 3 rfl) (Zdf h3) (T.e 0 rfl))) rfl (fun _ T => Zq (Zr1 rfl (T.e 7 rfl) (Zdt h2) (T.e 0 rfl))) rfl ?_; clear T ac; intro ac T
     refine wpList_nil ?_
     replace T := T.pick [0, 1, 2, 3, 4, 5, 6, 7, 11, 12, 13, 14, 15, 16, 17, 18] rfl
     exact ⟨(T.pick (E' := [(1, .func (.func 81) #[] #[]), (4, .int .i64 a), (5, .int .i64 b), (6, .int .i64 (k : Int)), (8, .int .i64 ((guidedJ jx).1)), (10, .slice A L.length c), (11, .int .i64 ((L.length : Nat) : Int)), (12, .int .i64 (k : Int)), (32, .bool (decide (((guidedJ jx).1) < b)))]) [10, 11, 12, 9, 8, 13, 14, 15, 0] rfl).as (by (try rw [show (decide ((guidedJ jx).2 = 0)) = true from (Zdt h2)]); (try rw [show (decide (a < 0)) = false from (Zdf h3)]); (try rfl)), M.mask [] rfl⟩
    replace h2 := of_decide_eq_false h2
    refine Zg8 T (Zp (Zwn rfl rfl (T.e 0 rfl) (Zdf h2))) rfl (fun _ T => Zp (Zwn rfl rfl (T.e 1 rfl) (Zdf h2))) rfl (fun _ T => Zp (Zwn rfl rfl (T.e 2 rfl) (Zdf h2))) rfl (fun _ T => Zp (Zwu rfl rfl (T.e 0 rfl))) rfl (fun _ T => Zp (Zwu rfl rfl (T.e 1 rfl))) rfl (fun _ T => Zp (Zwu rfl rfl (T.e 2 rfl))) rfl (fun _ T => Zp (Zwn rfl rfl (T.e 6 rfl) (Zdf h2))) rfl (fun _ T => Zq (Zr0 rfl (T.e 7 rfl) (Zdf h2) evc)) rfl ?_; clear T ac; intro ac T
    refine wpList_nil ?_
    replace T := T.pick [0, 1, 2, 3, 4, 5, 6, 7, 11, 12, 13, 14, 15, 16, 17, 18] rfl
    exact ⟨(T.pick (E' := [(1, .func (.func 81) #[] #[]), (4, .int .i64 a), (5, .int .i64 b), (6, .int .i64 (k : Int)), (8, .int .i64 ((guidedJ jx).1)), (10, .slice A L.length c), (11, .int .i64 ((L.length : Nat) : Int)), (12, .int .i64 (k : Int)), (32, .bool false)]) [10, 11, 12, 9, 8, 13, 14, 15, 0] rfl).as (by (try rw [show (decide ((guidedJ jx).2 = 0)) = false from (Zdf h2)]); (try rfl)), M.mask [] rfl⟩
   clear T M
   rintro ac wc ⟨T, M⟩
   refine wp_cond_split (T.e 8 rfl) ?_ ?_
   ·intro h4
    (have h4' := h4; try simp only [Zb1, Zb2, Zb3, Zb4, Zb5, Zb6, Zb7] at h4')
    refine wp_region_lit ?_
    refine Zg2 T (Zq (Zrm rfl (T.e 3 rfl))) rfl (Zm 5 rfl rfl) rfl ?_; clear T ac; intro ac T
    refine l_q (v := (.int .i64 (k : Int))) (T.pick [0, 1, 2, 4, 5, 6, 7, 8, 9, 10] rfl) rfl rfl rfl rfl (Zra rfl (T.e 1 rfl)) ?_; clear T ac; intro ac T
    refine l_q (v := (.int .i64 ((guidedJ jx).1))) (T.pick [0, 1, 2, 3, 5, 6, 7, 8, 9, 10] rfl) rfl rfl rfl rfl (Zra rfl (T.e 1 rfl)) ?_; clear T ac; intro ac T
    refine wpList_nil ?_
    replace T := T.pick [0, 1, 4, 7, 8, 9] rfl
    refine Znb ?_
    exact ⟨(T.pick (E' := [(1, .func (.func 81) #[] #[]), (4, .int .i64 (k : Int)), (5, .int .i64 ((guidedJ jx).1)), (10, .slice A L.length c), (11, .int .i64 ((L.length : Nat) : Int)), (12, .int .i64 (k : Int))]) [2, 1, 0, 3, 4, 5] rfl).as (by (try rw [show ((decide ((guidedJ jx).2 = 0)) && ((decide (a < 0)) || (decide (((guidedJ jx).1) < b)))) = true from h4]); (try rfl)), M.mask [] rfl⟩
   intro h4
   (have h4' := h4; try simp only [Zb1, Zb2, Zb3, Zb4, Zb5, Zb6, Zb7] at h4')
   refine wp_skip ?_
   refine Znb ?_
   exact ⟨(T.pick (E' := [(1, .func (.func 81) #[] #[]), (4, .int .i64 a), (5, .int .i64 b), (10, .slice A L.length c), (11, .int .i64 ((L.length : Nat) : Int)), (12, .int .i64 (k : Int))]) [0, 1, 2, 5, 6, 7] rfl).as (by (try rw [show ((decide ((guidedJ jx).2 = 0)) && ((decide (a < 0)) || (decide (((guidedJ jx).1) < b)))) = false from h4]); (try rfl)), M.mask [] rfl⟩
  clear T M
  rintro ac wc ⟨T, M⟩
  refine wp_region_lit ?_
  refine lq T (rn_add rfl (T.e 5 rfl) evc (by omega)) ?_; clear T ac; intro ac T
  refine l_q (v := (.int .i64 ((k : Int) + 1))) (T.pick [0, 1, 2, 3, 4, 5] rfl) rfl rfl rfl rfl (Zrm rfl (T.e 0 rfl)) ?_; clear T ac; intro ac T
  replace T := T.pick [0, 2, 3, 4, 5, 6] rfl
  refine Zln ?_
  exact ⟨_, by omega, k + 1, (bif ((decide ((guidedJ jx).2 = 0)) && ((decide (a < 0)) || (decide (((guidedJ jx).1) < b)))) then (k : Int) else a), (bif ((decide ((guidedJ jx).2 = 0)) && ((decide (a < 0)) || (decide (((guidedJ jx).1) < b)))) then (guidedJ jx).1 else b), rfl, (by omega), (H.trans (congrArg (bestF _ _) (best_step _ _ _ _ _))), T.pick [1, 2, 3, 4, 5, 0] rfl, M.mask [] rfl⟩
 intro h1
 rw [List.drop_of_length_le (by omega)] at H
 refine wp_exit ?_
 refine Zet ?_
 refine Zet ?_
 refine ex_hit ?_
 refine nm_then ?_
 refine Zsr ?_
 refine Zg2 T (Zq (Zrm rfl (T.e 2 rfl))) rfl (Zm 4 rfl rfl) rfl ?_; clear T ac; intro ac T
 refine l_q (v := (.int .i64 a)) (T.pick [0, 1, 2, 3, 5, 6, 7, 8] rfl) rfl rfl rfl rfl (Zra rfl (T.e 1 rfl)) ?_; clear T ac; intro ac T
 refine l_q (v := (.int .i64 b)) (T.pick [0, 1, 2, 3, 4, 6, 7, 8] rfl) rfl rfl rfl rfl (Zra rfl (T.e 1 rfl)) ?_; clear T ac; intro ac T
 replace T := T.pick [0, 1] rfl
 refine Zln ?_
 refine wp_ret ?_
 refine rt_2 T rfl (T.e 1 rfl) (T.e 0 rfl) ?_
 refine ⟨?_, M.below⟩
 rw [H]
 rfl
theorem chk_next {L : List JE} {k : Nat} {x : JE} (hd : L.drop k = x :: L.drop (k + 1)) : chkJs (L.drop k) = if checkJ x.1 = 0 then chkJs (L.drop (k + 1)) else checkJ x.1 := by rw [hd]; rfl
theorem chk_all : ∀ (L : List JE), chkJs L = 0 → ∀ x ∈ L, x.1.good
 | [], _, x, h => by cases h
 | y :: L, h, x, hx => by
  unfold chkJs at h
  by_cases e : checkJ y.1 = 0
  ·rw [if_pos e] at h
   rcases List.mem_cons.1 hx with rfl | hx
   ·exact good_of e
   ·exact chk_all L h x hx
  ·rw [if_neg e] at h; exact absurd h e
set_option maxRecDepth 100000 in
set_option maxHeartbeats 1000000 in
theorem Blank_any (A : Option Addr) (c : Nat) (L : List JE) (w : World) (hr : Rd w w.heap.size 18 A L.length (jc L)) (hE : ∀ x ∈ L, Rd w w.heap.size 2 x.2.1 x.1.sh.length (rc x.1.sh) ∧ x.1.sh.length ≤ 9223372036854775807) (hn : L.length ≤ 9223372036854775807) :
   Calls Tryd.prog 50 #[.slice A L.length c] w fun e w' => e = .returned (.tuple #[.int .i64 ((blankT L).1), .int .i64 ((blankT L).2.1), .int .i64 ((blankT L).2.2)]) ∧ Below w.heap.size w w' := by
 obtain ⟨bL, oL, SL⟩ := Sp.old hr
 refine Zpx noEx Tryd.func50 rfl 39 rfl [.slice A L.length c] rfl rfl (Mem.init w _) ?_
 intro ac wc T M
 refine Zsr ?_
 refine Zg3 T (Zq (Zra rfl evc)) rfl (Zc rfl) rfl (Zc rfl) rfl ?_; clear T ac; intro ac T
 replace T := T.pick [3] rfl
 refine Zln ?_
 refine wp_seq ?_
 refine wp_block ?_
 refine Zsr ?_
 refine Zg4 T (Zq (Zrm rfl (T.e 0 rfl))) rfl (Zl Tryd.underlying91 0 rfl rfl) rfl (fun _ T => Zq (rn_eql rfl (T.e 0 rfl) evc)) rfl (Za 0 rfl rfl) rfl ?_; clear T ac; intro ac T
 replace T := T.pick [0, 4] rfl
 refine Zln ?_
 refine wp_if (T.e 0 rfl) ?_ ?_
 ·intro h1
  refine Zsr ?_
  refine Zg3 T (Zq (Zra rfl evc)) rfl (Zc rfl) rfl (Zc rfl) rfl ?_; clear T ac; intro ac T
  replace T := T.pick [0, 1, 2] rfl
  refine Zln ?_
  refine wp_ret ?_
  refine Zrb ?_
  refine Zrt ?_
  refine rt_3 T rfl (T.e 2 rfl) (T.e 1 rfl) (T.e 0 rfl) ?_
  refine ⟨?_, M.below⟩
  unfold blankT
  rw [if_pos (by omega)]
 intro h1
 refine Zsr ?_
 refine Zg4 T (Zq (Zrm rfl (T.e 1 rfl))) rfl (Zl Tryd.underlying91 0 rfl rfl) rfl (fun _ T => Zq (rn_gtr rfl (T.e 0 rfl) evc)) rfl (Za 0 rfl rfl) rfl ?_; clear T ac; intro ac T
 replace T := T.pick [0, 5] rfl
 refine Zln ?_
 refine wp_if (T.e 0 rfl) ?_ ?_
 ·intro h2
  refine Zsr ?_
  refine Zg3 T (Zq (Zra rfl evc)) rfl (Zc rfl) rfl (Zc rfl) rfl ?_; clear T ac; intro ac T
  replace T := T.pick [0, 1, 2] rfl
  refine Zln ?_
  refine wp_ret ?_
  refine Zrb ?_
  refine Zrt ?_
  refine rt_3 T rfl (T.e 2 rfl) (T.e 1 rfl) (T.e 0 rfl) ?_
  refine ⟨?_, M.below⟩
  unfold blankT
  rw [if_neg (by omega), if_pos (by omega)]
 intro h2
 refine wp_skip ?_
 refine Znb ?_
 refine Zns ?_
 refine Zsr ?_
 refine Zg3 T (Zq (Zrm rfl (T.e 1 rfl))) rfl (Zl Tryd.underlying91 0 rfl rfl) rfl (fun _ T => Zq (Zrm rfl evc)) rfl ?_; clear T ac; intro ac T
 replace T := T.pick [0, 1, 2, 4] rfl
 refine Zln ?_
 refine wp_block ?_
 refine wp_loop_n (fun mz ac wc => ∃ (k : Nat), mz = L.length - k ∧ (k ≤ L.length) ∧ (chkJs L = chkJs (L.drop k)) ∧ Tm ac 39 [(0, .slice A L.length c), (18, .slice A L.length c), (19, .int .i64 ((L.length : Nat) : Int)), (20, .int .i64 (k : Int))] ∧ Mem w noEx wc []) ?_ ?_
 ·exact ⟨_, 0, rfl, (by omega), rfl, T.pick [3, 2, 1, 0] rfl, M.mask [] rfl⟩
 clear T M
 rintro mz ac wc ⟨k, hmm1, hk, H, T, M⟩
 refine Zsr ?_
 refine lq T (rn_lss rfl (T.e 3 rfl) (T.e 2 rfl)) ?_; clear T ac; intro ac T
 refine Zln ?_
 refine wp_seq ?_
 refine wp_if (T.e 0 rfl) ?_ ?_
 ·intro h3
  obtain ⟨jx, Ax, cx, hkx, hd⟩ := jel (L := L) (k := k) (by omega)
  obtain ⟨hrx, hfx⟩ := hE _ (List.mem_of_getElem? hkx)
  replace hrx : Rd w w.heap.size 2 Ax jx.sh.length (rc jx.sh) := hrx
  replace hfx : jx.sh.length ≤ 9223372036854775807 := hfx
  obtain ⟨bx, ox, Sx⟩ := Sp.old hrx
  rw [chk_next hd] at H
  refine Zsk ?_
  refine wp_seq ?_
  refine wp_block ?_
  refine Zsr ?_
  refine Zg2 (v2 := (.agg #[.int .i64 jx.p0, .int .i64 jx.p1, .int .i64 jx.t0, .int .i64 jx.t1, .int .i64 jx.r0, .int .i64 jx.r1, .int .i64 jx.u0, .int .i64 jx.u1, .int .i64 jx.d0, .int .i64 jx.d1, .int .i64 jx.a0, .int .i64 jx.a1, .int .i64 jx.b0, .int .i64 jx.b1, .int .i64 jx.le, .slice Ax jx.sh.length cx, .int .i64 jx.wi, .int .i64 jx.me])) T (Zq (Zri (size := 18) k rfl (T.e 2 rfl) (T.e 4 rfl) ⟨_, Tryd.underlying91, by kernel_rfl⟩ rfl (by omega) (SL.at0 (by omega)))) rfl (fun _ T => Zq (rn_rowat (Sp.jcR SL M (Zz9 _) hkx) rfl (T.e 0 rfl) rfl)) rfl ?_; clear T ac; intro ac T
  refine Zl2 ?_
  refine Zoa M T rfl rfl rfl rfl ?_; clear M T; intro g1 wc ac M T
  refine Zl2 ?_
  refine Zos M T rfl rfl (T.e 0 rfl) (T.e 1 rfl) rfl .head rfl (by simp) rfl (by kernel_rfl) ?_; clear M T; intro wc ac M T
  replace T := T.pick [0, 4, 5, 6, 7] rfl
  refine Zln ?_
  refine Zsr ?_
  refine lq T (Zrr (Mem.nth M 0 rfl) rfl (T.e 0 rfl) rfl) ?_; clear T ac; intro ac T
  refine Zl2 ?_
  refine Zoc (first := []) (cap := []) T rfl rfl rfl rfl evf (.cons (T.e 0 rfl) .nil) Tryd.func8 rfl rfl ?_
  refine Calls.mono (check_any jx _ _ _ (Sx.rd M (Zz9 _)) (by omega)) ?_
  clear T; rintro e wc ⟨rfl, hb⟩ ac T
  replace M := M.call hb; clear hb
  refine lq T (Zra rfl (T.e 0 rfl)) ?_; clear T ac; intro ac T
  refine wpList_nil ?_
  replace T := T.pick [0, 4, 5, 6, 7] rfl
  replace M := M.mask [false] rfl
  refine nm_then ?_
  refine Zsr ?_
  refine Zg2 T (Zq (Zrm rfl (T.e 0 rfl))) rfl (fun _ T => Zq (rn_neq rfl (T.e 0 rfl) evc)) rfl ?_; clear T ac; intro ac T
  replace T := T.pick [0, 2, 3, 4, 5, 6] rfl
  refine Zln ?_
  refine wp_ifn (T.e 0 rfl) ?_ ?_
  ·intro h4
   refine Zsr ?_
   refine Zg4 T (Zq (Zrm rfl (T.e 1 rfl))) rfl (Zc rfl) rfl (Zc rfl) rfl (Za 2 rfl rfl) rfl ?_; clear T ac; intro ac T
   replace T := T.pick [0, 1, 2] rfl
   refine Zln ?_
   refine wp_ret ?_
   refine Zrb ?_
   refine Zrt ?_
   refine Zrt ?_
   refine Zrb ?_
   refine Zrt ?_
   refine rt_3 T rfl (T.e 2 rfl) (T.e 1 rfl) (T.e 0 rfl) ?_
   rw [if_neg (by simpa using h4)] at H
   refine ⟨?_, M.below⟩
   unfold blankT
   rw [if_neg (by omega), if_neg (by omega), if_neg (by rw [H]; simpa using h4), H]
  intro h4
  refine wp_skip ?_
  refine Znb ?_
  refine nm_then ?_
  refine wp_region_lit ?_
  refine lq T (rn_add rfl (T.e 5 rfl) evc (by omega)) ?_; clear T ac; intro ac T
  refine l_q (v := (.int .i64 ((k : Int) + 1))) (T.pick [0, 1, 2, 3, 4, 5] rfl) rfl rfl rfl rfl (Zrm rfl (T.e 0 rfl)) ?_; clear T ac; intro ac T
  replace T := T.pick [0, 4, 5, 6] rfl
  refine Zln ?_
  exact ⟨_, by omega, k + 1, rfl, (by omega), (by rw [if_pos (by simpa using h4)] at H; exact H), T.pick [1, 2, 3, 0] rfl, M.mask [] rfl⟩
 intro h3
 rw [List.drop_of_length_le (by omega)] at H
 replace H : chkJs L = 0 := H
 have hgL := chk_all L H
 refine wp_exit ?_
 refine Zet ?_
 refine Zet ?_
 refine ex_hit ?_
 refine nm_then ?_
 refine Zsr ?_
 refine lq T (Zrm rfl (T.e 1 rfl)) ?_; clear T ac; intro ac T
 refine Zl2 ?_
 refine Zoc (first := []) (cap := []) T rfl rfl rfl rfl evf (.cons (T.e 0 rfl) (.cons evf .nil)) Tryd.func80 rfl rfl ?_
 refine Calls.mono (best_any _ _ L _ (SL.rd M (Zz9 _)) (fun x hx => ⟨M.rd (hE x hx).1 (Nat.le_refl _), (hE x hx).2⟩) (by omega)) ?_
 clear T; rintro e wc ⟨rfl, hb⟩ ac T
 replace M := M.call hb; clear hb
 refine Zg5 T (Zq (Zrm rfl (T.e 0 rfl))) rfl (Ze 0 rfl rfl rfl) rfl (Ze 1 rfl rfl rfl) rfl (Za 1 rfl rfl) rfl (Za 1 rfl rfl) rfl ?_; clear T ac; intro ac T
 replace T := T.pick [0, 1] rfl
 refine Zln ?_
 refine wp_seq ?_
 refine Zsr ?_
 refine Zg2 T (Zq (Zrm rfl (T.e 1 rfl))) rfl (fun _ T => Zq (rn_lss rfl (T.e 0 rfl) evc)) rfl ?_; clear T ac; intro ac T
 replace T := T.pick [0, 2, 3] rfl
 refine Zln ?_
 refine wp_if (T.e 0 rfl) ?_ ?_
 ·intro h5
  refine Zsr ?_
  refine Zg3 T (Zq (Zra rfl evc)) rfl (Zc rfl) rfl (Zc rfl) rfl ?_; clear T ac; intro ac T
  replace T := T.pick [0, 1, 2] rfl
  refine Zln ?_
  refine wp_ret ?_
  refine Zrt ?_
  refine rt_3 T rfl (T.e 2 rfl) (T.e 1 rfl) (T.e 0 rfl) ?_
  refine ⟨?_, M.below⟩
  unfold blankT
  rw [if_neg (by omega), if_neg (by omega), if_pos H, if_pos (by first | exact h5 | (rw [H3]; exact h5))]
 intro h5
 refine Zsk ?_
 refine Zsr ?_
 refine Zg5 T (Zq (Zrm rfl (T.e 2 rfl))) rfl (Zm 2 rfl rfl) rfl (Za 1 rfl rfl) rfl (Za 1 rfl rfl) rfl (Zc rfl) rfl ?_; clear T ac; intro ac T
 replace T := T.pick [0, 1, 2] rfl
 refine Zln ?_
 refine wp_ret ?_
 refine rt_3 T rfl (T.e 2 rfl) (T.e 1 rfl) (T.e 0 rfl) ?_
 refine ⟨?_, M.below⟩
 unfold blankT
 rw [if_neg (by omega), if_neg (by omega), if_pos H, if_neg (by first | exact h5 | (rw [H3]; exact h5))]
 try rw [H3]
end Go.Proofs.YtmdbdaofjepelaaDoor

/-
  Walks of functions, and plain laws (texts put together). No condition.
-/
import Derived.Test.YtehpcclfgjccbaaDoorMSheetFewest1
import Derived.Test.YtehpcclfgjccbaaDoorMSheetFewest2
import Derived.Test.YtehpcclfgjccbaaDoorMSheetFewest3
import Derived.Test.YtehpcclfgjccbaaDoorMSheetFewest4
set_option maxRecDepth 100000
set_option maxHeartbeats 1000000
section
/-
 ref8: Number; sheet's law: whether a numbering will do.
-/
namespace Go.Proofs.YtehpcclfgjccbaaDoor
set_option linter.unusedSimpArgs false
set_option linter.unusedVariables false
open Go.RowKit
def numI (l : List Int) : Int := l.foldl (fun m x => max m (x + 1)) 0
theorem numI_take {l : List Int} {k : Nat} {x : Int} (h : l[k]? = some x) : numI (l.take (k + 1)) = max (numI (l.take k)) (x + 1) := by
 rw [List.take_add_one, h, Option.toList_some]
 unfold numI
 rw [List.foldl_append]
 rfl
theorem numI_ge : ∀ (l : List Int) (m : Int), m ≤ l.foldl (fun m x => max m (x + 1)) m ∧ ∀ x ∈ l, x + 1 ≤ l.foldl (fun m x => max m (x + 1)) m
 | [], m => ⟨Int.le_refl _, fun x h => by cases h⟩
 | y :: l, m => by
   obtain ⟨h1, h2⟩ := numI_ge l (max m (y + 1))
   rw [List.foldl_cons]
   refine ⟨by omega, fun x hx => ?_⟩
   rcases List.mem_cons.1 hx with rfl | hx
   · omega
   · exact h2 x hx
theorem num0 {g : List Int} (h : numI g = 0) (hb : ∀ x ∈ g, 0 ≤ x ∧ x ≤ 1000) : g = [] := by
 cases g with
 | nil => rfl
 | cons x t =>
   have h1 := (numI_ge (x :: t) 0).2 x List.mem_cons_self
   have h2 := hb x List.mem_cons_self
   unfold numI at h
   omega
theorem num_rg {sh n : Nat} {t : List Int} (h : RG sh t n) : t.foldl (fun m x => max m (x + 1)) (sh : Int) = (n : Int) ∧ ∀ x ∈ t, 0 ≤ x ∧ x < (n : Int) := by
 induction h with
 | nil => exact ⟨rfl, fun x h => by cases h⟩
 | @cons sh x n t hx hr ih =>
   obtain ⟨h1, h2⟩ := ih
   have hle := hr.le.1
   rw [List.foldl_cons]
   refine ⟨by rw [show max (sh : Int) ((x : Int) + 1) = ((max sh (x + 1) : Nat) : Int) by omega]; exact h1, fun y hy => ?_⟩
   rcases List.mem_cons.1 hy with rfl | hy
   · omega
   · exact h2 y hy
theorem num_asg {k n : Nat} {l : List Int} (h : (l, n) ∈ asgP k [] 0) : numI l = (n : Int) ∧ l.length = k ∧ n ≤ k ∧ ∀ x ∈ l, 0 ≤ x ∧ x < (n : Int) := by
 obtain ⟨t, h1, h2, h3⟩ := (mem_asg k [] 0 l n).1 h
 rw [List.nil_append] at h2
 subst h2
 obtain ⟨h4, h5⟩ := num_rg h3
 have := h3.le
 exact ⟨h4, h1, by omega, h5⟩
theorem plan_cases {s : Sk} {g : List Int} {su : Bool} (hg : s.good) (h : ∀ x ∈ g, 0 ≤ x ∧ x < (s.ps.length : Int)) (hn : g.Nodup) : (planE s g su = 0 ∧ canS s su (gP s g) = true) ∨ (planE s g su = 11 ∧ canS s su (gP s g) = false) := by
 have h1 : lstE s g = 0 := lstE_iff.2 ⟨hg, h, hn⟩
 unfold planE
 rw [if_neg (show ¬ lstE s g ≠ 0 by omega)]
 by_cases hc : canS s su (gP s g) = true
 · rw [if_pos hc]; exact .inl ⟨rfl, hc⟩
 · rw [if_neg hc]; exact .inr ⟨rfl, by simpa using hc⟩
theorem number_any (G : Option Addr) (n : Nat) (g : List Int)  (w : World) (hG : Rd w w.heap.size 1 G g.length (ic g)) (nG : g.length ≤ 1000000) (hgb : ∀ x ∈ g, 0 ≤ x ∧ x ≤ 1000)  :
   Calls Tryd.prog 36 #[.slice G g.length n] w fun e w' => e = .returned (.int .i64 (numI g)) ∧ Below w.heap.size w w' := by
 obtain ⟨bG, oG, SG⟩ := Sp.old hG
 refine px_enter noEx Tryd.func36 rfl 19 rfl [.slice G g.length n] rfl rfl (Mem.init w _) ?_
 intro ac wc T M
 refine wp_seq ?_
 refine wp_region_lit ?_
 refine lq T (rn_assign rfl evc) ?_; clear T ac; intro ac T
 refine wpList_nil ?_
 replace T := T.pick [1] rfl
 refine nm_then ?_
 refine wp_seq ?_
 refine wp_region_lit ?_
 refine lq T (rn_assign rfl evc) ?_; clear T ac; intro ac T
 refine wpList_nil ?_
 refine nm_then ?_
 refine wp_seq ?_
 refine wp_seq ?_
 refine wp_region_lit ?_
 refine lq T (rn_assign rfl evc) ?_; clear T ac; intro ac T
 refine wpList_nil ?_
 refine nm_then ?_
 refine wp_block ?_
 refine wp_loop_n (fun mz ac wc => ∃ (i : Nat) (m : Int), mz = g.length - i ∧ (i ≤ g.length) ∧ (m = numI (g.take i)) ∧ (0 ≤ m ∧ m ≤ 1001) ∧ Tm ac 19 [(0, .slice G g.length n), (3, .int .i64 m), (4, .int .i64 (i : Int))] ∧ Mem w noEx wc []) ?_ ?_
 ·exact ⟨_, 0, 0, rfl, (Nat.zero_le _), rfl, (by omega), T.pick [2, 1, 0] rfl, M.mask [] rfl⟩
 clear T M
 rintro mz ac wc ⟨i, m, hmm1, hi, hm, hb, T, M⟩
 refine wp_seq ?_
 refine wp_seq ?_
 refine wp_region_lit ?_
 refine lq T (rn_move rfl (T.ev 2 rfl)) ?_; clear T ac; intro ac T
 refine lq T (rn_move rfl (T.ev 1 rfl)) ?_; clear T ac; intro ac T
 refine lq T (rn_lenS rfl Tryd.underlying27 (T.ev 0 rfl)) ?_; clear T ac; intro ac T
 refine lq T (rn_lss rfl (T.ev 2 rfl) (T.ev 0 rfl)) ?_; clear T ac; intro ac T
 refine wpList_nil ?_
 replace T := T.pick [0, 4, 5, 6] rfl
 refine nm_then ?_
 refine wp_if (T.ev 0 rfl) ?_ ?_
 ·intro h1
  obtain ⟨x, hkx, -⟩ := ic_next (l := g) (k := i) (by omega)
  have hx := hgb x (List.mem_of_getElem? hkx)
  refine wp_skip ?_
  refine nm_then ?_
  refine wp_seq ?_
  refine wp_block ?_
  refine wp_region_lit ?_
  refine lq T (rn_move rfl (T.ev 2 rfl)) ?_; clear T ac; intro ac T
  refine lq T (rn_move rfl (T.ev 2 rfl)) ?_; clear T ac; intro ac T
  refine lq T (rn_move rfl (T.ev 5 rfl)) ?_; clear T ac; intro ac T
  refine lq T (rn_indexAddr (size := 1) i rfl (T.ev 1 rfl) (T.ev 0 rfl) ⟨_, Tryd.underlying27, by kernel_rfl⟩ rfl (by omega) (SG.at0 (by omega))) ?_; clear T ac; intro ac T
  refine lq T (rn_cell (Sp.ic0 SG M (List.nil_sublist _) hkx) rfl (T.ev 0 rfl)) ?_; clear T ac; intro ac T
  refine lq T (rn_add rfl (T.ev 0 rfl) evc (by omega)) ?_; clear T ac; intro ac T
  refine lq T (rn_max2 rfl (T.ev 5 rfl) (T.ev 0 rfl)) ?_; clear T ac; intro ac T
  refine l_q (v := (.int .i64 (max m (x + 1)))) (T.pick [0, 1, 2, 3, 4, 5, 6, 7, 8, 10] rfl) rfl rfl rfl rfl (rn_assign rfl (T.ev 0 rfl)) ?_; clear T ac; intro ac T
  refine wpList_nil ?_
  replace T := T.pick [0, 9, 10] rfl
  refine nm_blk ?_
  refine nm_then ?_
  refine wp_region_lit ?_
  refine lq T (rn_move rfl (T.ev 2 rfl)) ?_; clear T ac; intro ac T
  refine lq T (rn_add rfl (T.ev 0 rfl) evc (by omega)) ?_; clear T ac; intro ac T
  refine l_q (v := (.int .i64 ((i : Int) + 1))) (T.pick [0, 1, 2, 3] rfl) rfl rfl rfl rfl (rn_assign rfl (T.ev 0 rfl)) ?_; clear T ac; intro ac T
  refine wpList_nil ?_
  replace T := T.pick [0, 3, 4] rfl
  refine nm_then ?_
  exact ⟨_, by omega, i + 1, _, rfl, (by omega), (by rw [numI_take hkx, hm]), (by omega), T.pick [2, 1, 0] rfl, M.mask [] rfl⟩
 intro h1
 refine wp_exit ?_
 refine ex_then ?_
 refine ex_then ?_
 refine ex_hit ?_
 refine nm_then ?_
 refine wp_seq ?_
 refine wp_region_lit ?_
 refine lq T (rn_move rfl (T.ev 2 rfl)) ?_; clear T ac; intro ac T
 refine lq T (rn_assign rfl (T.ev 0 rfl)) ?_; clear T ac; intro ac T
 refine wpList_nil ?_
 replace T := T.pick [0] rfl
 refine nm_then ?_
 refine wp_ret ?_
 refine rt_1 T rfl (T.ev 0 rfl) ?_
 rw [List.take_of_length_le (by omega)] at hm
 exact ⟨by rw [hm], M.below⟩
set_option maxHeartbeats 4000000 in
theorem will8_any (s : Sk) (A : Option Addr) (d : Nat) (G : Option Addr) (n : Nat) (g : List Int) (num : Nat) (su : Bool)  (w : World) (hA : Rd w w.heap.size 4 A s.ps.length (pc s.ps)) (hG : Rd w w.heap.size 1 G g.length (ic g)) (hsg : s.good) (hd : s.ps.length ≤ d) (hgl : g.length = s.ps.length) (hnum : numI g = (num : Int)) (hgb : ∀ x ∈ g, 0 ≤ x ∧ x ≤ 1000) (hn5 : num ≤ 1000) (hT : TabW w)  :
   Calls Tryd.prog 37 #[.agg #[.int .i64 s.lo, .int .i64 s.wi, .int .i64 s.a0, .int .i64 s.a1, .int .i64 s.c0, .int .i64 s.c1, .slice A s.ps.length d], .slice G g.length n, .bool su] w fun e w' => e = .returned (.tuple #[.bool (willB s su g num), .bool true]) ∧ Below w.heap.size w w' := by
 obtain ⟨bA, oA, SA⟩ := Sp.old hA
 obtain ⟨bG, oG, SG⟩ := Sp.old hG
 have hl5 := hsg.len
 refine px_enter noEx Tryd.func37 rfl 85 rfl [.agg #[.int .i64 s.lo, .int .i64 s.wi, .int .i64 s.a0, .int .i64 s.a1, .int .i64 s.c0, .int .i64 s.c1, .slice A s.ps.length d], .slice G g.length n, .bool su] rfl rfl (Mem.init w _) ?_
 intro ac wc T M
 refine wp_seq ?_
 refine wp_region_lit ?_
 refine l_w rfl ?_; intro K hK
 refine ow_bx M T rfl rfl rfl rfl (T.ev 0 rfl) rfl ?_; clear M T; intro g1 wc ac M T
 refine sh_out hK _ _ ?_; clear hK K
 refine lq T (rn_assign rfl evc) ?_; clear T ac; intro ac T
 refine lq T (rn_assign rfl evc) ?_; clear T ac; intro ac T
 refine wpList_nil ?_
 replace T := T.pick [2, 4, 5] rfl
 refine nm_then ?_
 refine wp_seq ?_
 refine wp_seq ?_
 refine wp_region_lit ?_
 refine lq T (rn_assign rfl evc) ?_; clear T ac; intro ac T
 refine wpList_nil ?_
 refine nm_then ?_
 refine wp_block ?_
 refine wp_loop_n (fun mz ac wc => ∃ (z : Nat), mz = num - z ∧ (z ≤ num) ∧ (∀ k, k < z → canS s su (clsP s.ps g (k : Int)) = true) ∧ (0 < z → patB s.ps g = true) ∧ Tm ac 85 [(1, .slice G g.length n), (2, .bool su), (3, .pointer (some ⟨g1, 0, none⟩)), (8, .int .i64 (z : Int))] ∧ Mem w noEx wc [(g1, .cells [.int .i64 s.lo, .int .i64 s.wi, .int .i64 s.a0, .int .i64 s.a1, .int .i64 s.c0, .int .i64 s.c1, .slice A s.ps.length d])]) ?_ ?_
 ·exact ⟨_, 0, rfl, (Nat.zero_le _), (fun k h => by omega), (fun h => by omega), T.pick [2, 3, 1, 0] rfl, M.mask [true] rfl⟩
 clear T M
 rintro mz ac wc ⟨z, hmm1, hz, H3, hP, T, M⟩
 refine wp_seq ?_
 refine wp_seq ?_
 refine wp_region_lit ?_
 refine lq T (rn_move rfl (T.ev 3 rfl)) ?_; clear T ac; intro ac T
 refine lq T (rn_move rfl (T.ev 1 rfl)) ?_; clear T ac; intro ac T
 refine l_w rfl ?_; intro K hK
 refine ow_call (first := []) (cap := []) T rfl rfl rfl rfl evf (.cons (T.ev 0 rfl) .nil) Tryd.func36 rfl rfl ?_
 refine Calls.mono (number_any G n g _ (SG.rd M (List.nil_sublist _)) (by omega) hgb) ?_
 clear T
 rintro e wc ⟨rfl, hb⟩
 intro ac T
 rw [hnum] at T
 replace M := M.call hb; clear hb
 refine sh_out hK _ _ ?_; clear hK K
 refine lq T (rn_lss rfl (T.ev 2 rfl) (T.ev 0 rfl)) ?_; clear T ac; intro ac T
 refine wpList_nil ?_
 replace T := T.pick [0, 4, 5, 6, 7] rfl
 refine nm_then ?_
 refine wp_if (T.ev 0 rfl) ?_ ?_
 ·intro h1
  refine wp_skip ?_
  refine nm_then ?_
  refine wp_seq ?_
  refine wp_block ?_
  refine wp_seq ?_
  refine wp_region_lit ?_
  refine lq T (rn_assign rfl evc) ?_; clear T ac; intro ac T
  refine wpList_nil ?_
  replace T := T.pick [0, 2, 3, 4, 5] rfl
  refine nm_then ?_
  refine wp_seq ?_
  refine wp_seq ?_
  refine wp_region_lit ?_
  refine lq T (rn_assign rfl evc) ?_; clear T ac; intro ac T
  refine wpList_nil ?_
  refine nm_then ?_
  refine wp_block ?_
  refine wp_loop_n (fun mz ac wc => ∃ (i : Nat) (OL : List Int) (A3 : Option Addr) (c3 : Nat) (Io : List (Nat × BA)), mz = g.length - i ∧ (i ≤ g.length) ∧ (Idx (i : Int) OL) ∧ (OL.length ≤ i) ∧ (gP s OL = clsP (s.ps.take i) (g.take i) (z : Int)) ∧ (patQ s.ps g i) ∧ (Sl 3 1 (.slice A3 OL.length c3) OL.length (ic OL) Io) ∧ Tm ac 85 [(1, .slice G g.length n), (2, .bool su), (3, .pointer (some ⟨g1, 0, none⟩)), (8, .int .i64 (z : Int)), (9, .slice A3 OL.length c3), (10, .int .i64 (i : Int))] ∧ Mem w noEx wc ((g1, .cells [.int .i64 s.lo, .int .i64 s.wi, .int .i64 s.a0, .int .i64 s.a1, .int .i64 s.c0, .int .i64 s.c1, .slice A s.ps.length d]) :: Io)) ?_ ?_
  ·exact ⟨_, 0, [], none, 0, [], rfl, (Nat.zero_le _), (Idx.nil _), (Nat.zero_le _), rfl, (fun j h => by omega), (Sl.nil _ _), T.pick [2, 3, 4, 5, 1, 0] rfl, M.mask [true] rfl⟩
  clear T M
  rintro mz ac wc ⟨i, OL, A3, c3, Io, hmm2, hi, hx, hol, hgp, H, hsl, T, M⟩
  refine wp_seq ?_
  refine wp_seq ?_
  refine wp_region_lit ?_
  refine lq T (rn_move rfl (T.ev 5 rfl)) ?_; clear T ac; intro ac T
  refine lq T (rn_move rfl (T.ev 1 rfl)) ?_; clear T ac; intro ac T
  refine lq T (rn_lenS rfl Tryd.underlying27 (T.ev 0 rfl)) ?_; clear T ac; intro ac T
  refine lq T (rn_lss rfl (T.ev 2 rfl) (T.ev 0 rfl)) ?_; clear T ac; intro ac T
  refine wpList_nil ?_
  replace T := T.pick [0, 4, 5, 6, 7, 8, 9] rfl
  refine nm_then ?_
  refine wp_if (T.ev 0 rfl) ?_ ?_
  ·intro h2
   obtain ⟨p, hkp, -⟩ := pc_next (l := s.ps) (k := i) (by omega)
   obtain ⟨x, hkx, -⟩ := ic_next (l := g) (k := i) (by omega)
   refine wp_skip ?_
   refine nm_then ?_
   refine wp_seq ?_
   refine wp_block ?_
   refine wp_seq ?_
   refine wp_seq ?_
   refine wp_region_lit ?_
   refine lq T (rn_move rfl (T.ev 1 rfl)) ?_; clear T ac; intro ac T
   refine lq T (rn_move rfl (T.ev 7 rfl)) ?_; clear T ac; intro ac T
   refine lq T (rn_indexAddr (size := 1) i rfl (T.ev 1 rfl) (T.ev 0 rfl) ⟨_, Tryd.underlying27, by kernel_rfl⟩ rfl (by omega) (SG.at0 (by omega))) ?_; clear T ac; intro ac T
   refine lq T (rn_cell (Sp.ic0 SG M (List.nil_sublist _) hkx) rfl (T.ev 0 rfl)) ?_; clear T ac; intro ac T
   refine lq T (rn_move rfl (T.ev 8 rfl)) ?_; clear T ac; intro ac T
   refine lq T (rn_eql rfl (T.ev 1 rfl) (T.ev 0 rfl)) ?_; clear T ac; intro ac T
   refine wpList_nil ?_
   replace T := T.pick [0, 7, 8, 9, 10, 11, 12] rfl
   refine nm_then ?_
   refine wp_if (T.ev 0 rfl) ?_ ?_
   ·intro h3
    refine wp_region_lit ?_
    refine lq T (rn_move rfl (T.ev 5 rfl)) ?_; clear T ac; intro ac T
    refine lq T (rn_move rfl (T.ev 7 rfl)) ?_; clear T ac; intro ac T
    refine l_w rfl ?_; intro K hK
    refine ow_bs (e := 3) [.int .i64 (i : Int)] M T rfl rfl rfl rfl (.cons (T.ev 0 rfl) .nil) (fun _ => by kernel_rfl) ?_; clear M T; intro g2 wc ac M T
    refine sh_out hK _ _ ?_; clear hK K
    refine l_w rfl ?_; intro K hK
    refine ow_app ([(g2, .cells [.int .i64 (i : Int)]), (g1, .cells [.int .i64 s.lo, .int .i64 s.wi, .int .i64 s.a0, .int .i64 s.a1, .int .i64 s.c0, .int .i64 s.c1, .slice A s.ps.length d])]) Tryd.info3 hsl M (by first | rfl | simp) T rfl rfl rfl rfl Tryd.underlying27 rfl rfl rfl (by omega) (T.ev 2 rfl) (T.ev 0 rfl) (nthE_mem (i := 0) rfl) rfl rfl ?_; clear M T; intro ga1 cga1 wc ac M T
    refine sh_out hK _ _ ?_; clear hK K
    have e9 : OL.length + 1 = (OL ++ [(i : Int)]).length := by simp
    have e8 : ((ic OL) ++ [.int .i64 (i : Int)]) = ic (OL ++ [(i : Int)]) := by rw [← ic_snoc]
    rw [e9, e8] at M
    rw [e9] at T
    clear e9 e8
    refine l_q (v := (.slice (some ⟨ga1, 0, none⟩) ((OL ++ [(i : Int)]).length) cga1)) (T.pick [0, 1, 2, 3, 4, 5, 6, 7, 8, 10] rfl) rfl rfl rfl rfl (rn_assign rfl (T.ev 0 rfl)) ?_; clear T ac; intro ac T
    refine wpList_nil ?_
    replace T := T.pick [0, 6, 7, 8, 9, 10] rfl
    replace M := M.mask [true, false, true] rfl
    refine nm_then ?_
    refine wp_seq ?_
    refine wp_region_lit ?_
    refine lq T (rn_assign rfl evc) ?_; clear T ac; intro ac T
    refine wpList_nil ?_
    refine nm_then ?_
    refine wp_block ?_
    refine wp_loop_n (fun mz ac wc => ∃ (k : Nat), mz = i - k ∧ (k ≤ i) ∧ (∀ k', k' < k → ∀ q y, s.ps[k']? = some q → g[k']? = some y → ¬ ((0 < p.pa ∧ p.pa = q.pa) ∧ ¬ x = y)) ∧ Tm ac 85 [(1, .slice G g.length n), (2, .bool su), (3, .pointer (some ⟨g1, 0, none⟩)), (8, .int .i64 (z : Int)), (9, .slice (some ⟨ga1, 0, none⟩) ((OL ++ [(i : Int)]).length) cga1), (10, .int .i64 (i : Int)), (11, .int .i64 (k : Int))] ∧ Mem w noEx wc [(ga1, .row 3 1 (OL ++ [(i : Int)]).length (ic (OL ++ [(i : Int)])) cga1), (g1, .cells [.int .i64 s.lo, .int .i64 s.wi, .int .i64 s.a0, .int .i64 s.a1, .int .i64 s.c0, .int .i64 s.c1, .slice A s.ps.length d])]) ?_ ?_
    ·exact ⟨_, 0, rfl, (Nat.zero_le _), (fun k h => by omega), T.pick [2, 3, 4, 5, 1, 6, 0] rfl, M.mask [true, true] rfl⟩
    clear T M
    rintro mz ac wc ⟨k, hmm3, hk, H2, T, M⟩
    refine wp_seq ?_
    refine wp_seq ?_
    refine wp_region_lit ?_
    refine lq T (rn_move rfl (T.ev 6 rfl)) ?_; clear T ac; intro ac T
    refine lq T (rn_move rfl (T.ev 6 rfl)) ?_; clear T ac; intro ac T
    refine lq T (rn_lss rfl (T.ev 1 rfl) (T.ev 0 rfl)) ?_; clear T ac; intro ac T
    refine wpList_nil ?_
    replace T := T.pick [0, 3, 4, 5, 6, 7, 8, 9] rfl
    refine nm_then ?_
    refine wp_if (T.ev 0 rfl) ?_ ?_
    ·intro h4
     obtain ⟨q, hkq, -⟩ := pc_next (l := s.ps) (k := k) (by omega)
     obtain ⟨y, hky, -⟩ := ic_next (l := g) (k := k) (by omega)
     refine wp_skip ?_
     refine nm_then ?_
     refine wp_seq ?_
     refine wp_block ?_
     refine cut_seq (fun ac wc => Tm ac 85 [(1, .slice G g.length n), (2, .bool su), (3, .pointer (some ⟨g1, 0, none⟩)), (8, .int .i64 (z : Int)), (9, .slice (some ⟨ga1, 0, none⟩) ((OL ++ [(i : Int)]).length) cga1), (10, .int .i64 (i : Int)), (11, .int .i64 (k : Int)), (73, .bool ((decide (0 < p.pa)) && ((decide (q.pa = p.pa)) && (!(decide (x = y))))))] ∧ Mem w noEx wc [(ga1, .row 3 1 (OL ++ [(i : Int)]).length (ic (OL ++ [(i : Int)])) cga1), (g1, .cells [.int .i64 s.lo, .int .i64 s.wi, .int .i64 s.a0, .int .i64 s.a1, .int .i64 s.c0, .int .i64 s.c1, .slice A s.ps.length d])]) ?_ ?_
     ·refine g_start2 M (M.mask [true, true] rfl) 33 (by kernel_rfl) rfl (by kernel_rfl) ?_
      clear M; intro wc M
      refine gq (v := (.pointer (some ⟨g1, 6, none⟩))) T 0 1 rfl (fun _ _ _ _ _ => (rn_fieldAddr (off := 6) rfl (T.ev 3 rfl) (fun _ _ _ => by kernel_rfl))) ?_; clear T ac; intro ac T
      refine gq T 1 3 rfl (fun B w' hD hl hS => (rn_one (Mem.nth (show Mem w noEx w' _ from hS) 1 rfl) rfl (T.ev 0 rfl) rfl)) ?_; clear T ac; intro ac T
      refine gq T 2 7 rfl (fun _ _ _ _ _ => (rn_move rfl (T.ev 8 rfl))) ?_; clear T ac; intro ac T
      refine gq T 3 15 rfl (fun _ _ _ _ _ => (rn_indexAddr (size := 4) i rfl (T.ev 1 rfl) (T.ev 0 rfl) ⟨_, Tryd.underlying24, by kernel_rfl⟩ rfl (by omega) (SA.at0 (by omega)))) ?_; clear T ac; intro ac T
      refine gq T 4 31 rfl (fun _ _ _ _ _ => (rn_fieldAddr (off := 3) rfl (T.ev 0 rfl) (fun _ _ _ => by kernel_rfl))) ?_; clear T ac; intro ac T
      refine gq T 5 63 rfl (fun B w' hD hl hS => (rn_cell (Sp.pcC3 SA (show Mem w noEx w' _ from hS) (List.nil_sublist _) hkp) rfl (T.ev 0 rfl))) ?_; clear T ac; intro ac T
      refine gq T 6 127 rfl (fun _ _ _ _ _ => (rn_gtr rfl (T.ev 0 rfl) evc)) ?_; clear T ac; intro ac T
      refine gq T 7 255 rfl (fun _ _ _ _ _ => (rn_move rfl (T.ev 0 rfl))) ?_; clear T ac; intro ac T
      rcases Bool.eq_false_or_eq_true (decide (0 < p.pa)) with h5 | h5
      ·replace h5 := of_decide_eq_true h5
       refine g_q (v := (.pointer (some ⟨g1, 6, none⟩))) (T := T) (i := 8) rfl (by kernel_rfl) (by kernel_rfl : (pbits 33 255).setIfInBounds 8 true = pbits 33 511) si_U (fun _ _ _ h => h) (wanted_yes rfl rfl (T.ev 0 rfl) (decide_eq_true h5)) rfl rfl rfl (fun _ _ _ _ _ => (rn_fieldAddr (off := 6) rfl (T.ev 11 rfl) (fun _ _ _ => by kernel_rfl))) ?_; clear T ac; intro ac T
       refine g_q (T := T) (i := 9) rfl (by kernel_rfl) (by kernel_rfl : (pbits 33 511).setIfInBounds 9 true = pbits 33 1023) si_U (fun _ _ _ h => h) (wanted_yes rfl rfl (T.ev 1 rfl) (decide_eq_true h5)) rfl rfl rfl (fun B w' hD hl hS => (rn_one (Mem.nth (show Mem w noEx w' _ from hS) 1 rfl) rfl (T.ev 0 rfl) rfl)) ?_; clear T ac; intro ac T
       refine g_q (T := T) (i := 10) rfl (by kernel_rfl) (by kernel_rfl : (pbits 33 1023).setIfInBounds 10 true = pbits 33 2047) si_U (fun _ _ _ h => h) (wanted_yes rfl rfl (T.ev 2 rfl) (decide_eq_true h5)) rfl rfl rfl (fun _ _ _ _ _ => (rn_move rfl (T.ev 17 rfl))) ?_; clear T ac; intro ac T
       refine g_q (T := T) (i := 11) rfl (by kernel_rfl) (by kernel_rfl : (pbits 33 2047).setIfInBounds 11 true = pbits 33 4095) si_U (fun _ _ _ h => h) (wanted_yes rfl rfl (T.ev 3 rfl) (decide_eq_true h5)) rfl rfl rfl (fun _ _ _ _ _ => (rn_indexAddr (size := 4) k rfl (T.ev 1 rfl) (T.ev 0 rfl) ⟨_, Tryd.underlying24, by kernel_rfl⟩ rfl (by omega) (SA.at0 (by omega)))) ?_; clear T ac; intro ac T
       refine g_q (T := T) (i := 12) rfl (by kernel_rfl) (by kernel_rfl : (pbits 33 4095).setIfInBounds 12 true = pbits 33 8191) si_U (fun _ _ _ h => h) (wanted_yes rfl rfl (T.ev 4 rfl) (decide_eq_true h5)) rfl rfl rfl (fun _ _ _ _ _ => (rn_fieldAddr (off := 3) rfl (T.ev 0 rfl) (fun _ _ _ => by kernel_rfl))) ?_; clear T ac; intro ac T
       refine g_q (T := T) (i := 13) rfl (by kernel_rfl) (by kernel_rfl : (pbits 33 8191).setIfInBounds 13 true = pbits 33 16383) si_U (fun _ _ _ h => h) (wanted_yes rfl rfl (T.ev 5 rfl) (decide_eq_true h5)) rfl rfl rfl (fun B w' hD hl hS => (rn_cell (Sp.pcC3 SA (show Mem w noEx w' _ from hS) (List.nil_sublist _) hkq) rfl (T.ev 0 rfl))) ?_; clear T ac; intro ac T
       refine g_q (v := (.pointer (some ⟨g1, 6, none⟩))) (T := T) (i := 14) rfl (by kernel_rfl) (by kernel_rfl : (pbits 33 16383).setIfInBounds 14 true = pbits 33 32767) si_U (fun _ _ _ h => h) (wanted_yes rfl rfl (T.ev 6 rfl) (decide_eq_true h5)) rfl rfl rfl (fun _ _ _ _ _ => (rn_fieldAddr (off := 6) rfl (T.ev 17 rfl) (fun _ _ _ => by kernel_rfl))) ?_; clear T ac; intro ac T
       refine g_q (T := T) (i := 15) rfl (by kernel_rfl) (by kernel_rfl : (pbits 33 32767).setIfInBounds 15 true = pbits 33 65535) si_U (fun _ _ _ h => h) (wanted_yes rfl rfl (T.ev 7 rfl) (decide_eq_true h5)) rfl rfl rfl (fun B w' hD hl hS => (rn_one (Mem.nth (show Mem w noEx w' _ from hS) 1 rfl) rfl (T.ev 0 rfl) rfl)) ?_; clear T ac; intro ac T
       refine g_q (T := T) (i := 16) rfl (by kernel_rfl) (by kernel_rfl : (pbits 33 65535).setIfInBounds 16 true = pbits 33 131071) si_U (fun _ _ _ h => h) (wanted_yes rfl rfl (T.ev 8 rfl) (decide_eq_true h5)) rfl rfl rfl (fun _ _ _ _ _ => (rn_move rfl (T.ev 22 rfl))) ?_; clear T ac; intro ac T
       refine g_q (T := T) (i := 17) rfl (by kernel_rfl) (by kernel_rfl : (pbits 33 131071).setIfInBounds 17 true = pbits 33 262143) si_U (fun _ _ _ h => h) (wanted_yes rfl rfl (T.ev 9 rfl) (decide_eq_true h5)) rfl rfl rfl (fun _ _ _ _ _ => (rn_indexAddr (size := 4) i rfl (T.ev 1 rfl) (T.ev 0 rfl) ⟨_, Tryd.underlying24, by kernel_rfl⟩ rfl (by omega) (SA.at0 (by omega)))) ?_; clear T ac; intro ac T
       refine g_q (T := T) (i := 18) rfl (by kernel_rfl) (by kernel_rfl : (pbits 33 262143).setIfInBounds 18 true = pbits 33 524287) si_U (fun _ _ _ h => h) (wanted_yes rfl rfl (T.ev 10 rfl) (decide_eq_true h5)) rfl rfl rfl (fun _ _ _ _ _ => (rn_fieldAddr (off := 3) rfl (T.ev 0 rfl) (fun _ _ _ => by kernel_rfl))) ?_; clear T ac; intro ac T
       refine g_q (T := T) (i := 19) rfl (by kernel_rfl) (by kernel_rfl : (pbits 33 524287).setIfInBounds 19 true = pbits 33 1048575) si_U (fun _ _ _ h => h) (wanted_yes rfl rfl (T.ev 11 rfl) (decide_eq_true h5)) rfl rfl rfl (fun B w' hD hl hS => (rn_cell (Sp.pcC3 SA (show Mem w noEx w' _ from hS) (List.nil_sublist _) hkp) rfl (T.ev 0 rfl))) ?_; clear T ac; intro ac T
       refine g_q (T := T) (i := 20) rfl (by kernel_rfl) (by kernel_rfl : (pbits 33 1048575).setIfInBounds 20 true = pbits 33 2097151) si_U (fun _ _ _ h => h) (wanted_yes rfl rfl (T.ev 12 rfl) (decide_eq_true h5)) rfl rfl rfl (fun _ _ _ _ _ => (rn_eql rfl (T.ev 6 rfl) (T.ev 0 rfl))) ?_; clear T ac; intro ac T
       refine gq T 21 4194303 rfl (fun _ _ _ _ _ => (rn_pick1 rfl (T.ev 13 rfl) (decide_eq_true h5) (T.ev 0 rfl))) ?_; clear T ac; intro ac T
       refine gq T 22 8388607 rfl (fun _ _ _ _ _ => (rn_move rfl (T.ev 0 rfl))) ?_; clear T ac; intro ac T
       rcases Bool.eq_false_or_eq_true (decide (q.pa = p.pa)) with h6 | h6
       ·replace h6 := of_decide_eq_true h6
        refine g_q (T := T) (i := 23) rfl (by kernel_rfl) (by kernel_rfl : (pbits 33 8388607).setIfInBounds 23 true = pbits 33 16777215) si_U (fun _ _ _ h => h) (wanted_yes rfl rfl (T.ev 0 rfl) (decide_eq_true h6)) rfl rfl rfl (fun _ _ _ _ _ => (rn_move rfl (T.ev 24 rfl))) ?_; clear T ac; intro ac T
        refine g_q (T := T) (i := 24) rfl (by kernel_rfl) (by kernel_rfl : (pbits 33 16777215).setIfInBounds 24 true = pbits 33 33554431) si_U (fun _ _ _ h => h) (wanted_yes rfl rfl (T.ev 1 rfl) (decide_eq_true h6)) rfl rfl rfl (fun _ _ _ _ _ => (rn_move rfl (T.ev 30 rfl))) ?_; clear T ac; intro ac T
        refine g_q (T := T) (i := 25) rfl (by kernel_rfl) (by kernel_rfl : (pbits 33 33554431).setIfInBounds 25 true = pbits 33 67108863) si_U (fun _ _ _ h => h) (wanted_yes rfl rfl (T.ev 2 rfl) (decide_eq_true h6)) rfl rfl rfl (fun _ _ _ _ _ => (rn_indexAddr (size := 1) i rfl (T.ev 1 rfl) (T.ev 0 rfl) ⟨_, Tryd.underlying27, by kernel_rfl⟩ rfl (by omega) (SG.at0 (by omega)))) ?_; clear T ac; intro ac T
        refine g_q (T := T) (i := 26) rfl (by kernel_rfl) (by kernel_rfl : (pbits 33 67108863).setIfInBounds 26 true = pbits 33 134217727) si_U (fun _ _ _ h => h) (wanted_yes rfl rfl (T.ev 3 rfl) (decide_eq_true h6)) rfl rfl rfl (fun B w' hD hl hS => (rn_cell (Sp.ic0 SG (show Mem w noEx w' _ from hS) (List.nil_sublist _) hkx) rfl (T.ev 0 rfl))) ?_; clear T ac; intro ac T
        refine g_q (T := T) (i := 27) rfl (by kernel_rfl) (by kernel_rfl : (pbits 33 134217727).setIfInBounds 27 true = pbits 33 268435455) si_U (fun _ _ _ h => h) (wanted_yes rfl rfl (T.ev 4 rfl) (decide_eq_true h6)) rfl rfl rfl (fun _ _ _ _ _ => (rn_move rfl (T.ev 28 rfl))) ?_; clear T ac; intro ac T
        refine g_q (T := T) (i := 28) rfl (by kernel_rfl) (by kernel_rfl : (pbits 33 268435455).setIfInBounds 28 true = pbits 33 536870911) si_U (fun _ _ _ h => h) (wanted_yes rfl rfl (T.ev 5 rfl) (decide_eq_true h6)) rfl rfl rfl (fun _ _ _ _ _ => (rn_move rfl (T.ev 35 rfl))) ?_; clear T ac; intro ac T
        refine g_q (T := T) (i := 29) rfl (by kernel_rfl) (by kernel_rfl : (pbits 33 536870911).setIfInBounds 29 true = pbits 33 1073741823) si_U (fun _ _ _ h => h) (wanted_yes rfl rfl (T.ev 6 rfl) (decide_eq_true h6)) rfl rfl rfl (fun _ _ _ _ _ => (rn_indexAddr (size := 1) k rfl (T.ev 1 rfl) (T.ev 0 rfl) ⟨_, Tryd.underlying27, by kernel_rfl⟩ rfl (by omega) (SG.at0 (by omega)))) ?_; clear T ac; intro ac T
        refine g_q (T := T) (i := 30) rfl (by kernel_rfl) (by kernel_rfl : (pbits 33 1073741823).setIfInBounds 30 true = pbits 33 2147483647) si_U (fun _ _ _ h => h) (wanted_yes rfl rfl (T.ev 7 rfl) (decide_eq_true h6)) rfl rfl rfl (fun B w' hD hl hS => (rn_cell (Sp.ic0 SG (show Mem w noEx w' _ from hS) (List.nil_sublist _) hky) rfl (T.ev 0 rfl))) ?_; clear T ac; intro ac T
        refine g_q (T := T) (i := 31) rfl (by kernel_rfl) (by kernel_rfl : (pbits 33 2147483647).setIfInBounds 31 true = pbits 33 4294967295) si_U (fun _ _ _ h => h) (wanted_yes rfl rfl (T.ev 8 rfl) (decide_eq_true h6)) rfl rfl rfl (fun _ _ _ _ _ => (rn_neq rfl (T.ev 4 rfl) (T.ev 0 rfl))) ?_; clear T ac; intro ac T
        refine gq T 32 8589934591 rfl (fun _ _ _ _ _ => (rn_pick1 rfl (T.ev 9 rfl) (decide_eq_true h6) (T.ev 0 rfl))) ?_; clear T ac; intro ac T
        refine g_done (by kernel_rfl) ?_
        replace T := T.pick [0, 1, 2, 3, 4, 5, 6, 7, 8, 9, 12, 13, 14, 15, 16, 17, 18, 19, 20, 21, 22, 23, 24, 34, 35, 36, 37, 38, 39, 40] rfl
        exact ⟨(T.pick (E' := [(1, .slice G g.length n), (2, .bool su), (3, .pointer (some ⟨g1, 0, none⟩)), (8, .int .i64 (z : Int)), (9, .slice (some ⟨ga1, 0, none⟩) ((OL ++ [(i : Int)]).length) cga1), (10, .int .i64 (i : Int)), (11, .int .i64 (k : Int)), (73, .bool (!(decide (x = y))))]) [23, 24, 25, 26, 27, 28, 29, 0] rfl).as (by (try rw [show (decide (0 < p.pa)) = true from (decide_eq_true h5)]); (try rw [show (decide (q.pa = p.pa)) = true from (decide_eq_true h6)]); (try rfl)), M.mask [true, true] rfl⟩
       replace h6 := of_decide_eq_false h6
       refine g_pass (T := T) (i := 23) rfl (by kernel_rfl) (by kernel_rfl : (pbits 33 8388607).setIfInBounds 23 true = pbits 33 16777215) si_U (fun _ _ _ h => h) (wanted_no rfl rfl (T.ev 0 rfl) (decide_eq_false h6)) rfl rfl rfl ?_; clear T ac; intro ac T
       refine g_pass (T := T) (i := 24) rfl (by kernel_rfl) (by kernel_rfl : (pbits 33 16777215).setIfInBounds 24 true = pbits 33 33554431) si_U (fun _ _ _ h => h) (wanted_no rfl rfl (T.ev 1 rfl) (decide_eq_false h6)) rfl rfl rfl ?_; clear T ac; intro ac T
       refine g_pass (T := T) (i := 25) rfl (by kernel_rfl) (by kernel_rfl : (pbits 33 33554431).setIfInBounds 25 true = pbits 33 67108863) si_U (fun _ _ _ h => h) (wanted_no rfl rfl (T.ev 2 rfl) (decide_eq_false h6)) rfl rfl rfl ?_; clear T ac; intro ac T
       refine g_pass (T := T) (i := 26) rfl (by kernel_rfl) (by kernel_rfl : (pbits 33 67108863).setIfInBounds 26 true = pbits 33 134217727) si_U (fun _ _ _ h => h) (wanted_no rfl rfl (T.ev 3 rfl) (decide_eq_false h6)) rfl rfl rfl ?_; clear T ac; intro ac T
       refine g_pass (T := T) (i := 27) rfl (by kernel_rfl) (by kernel_rfl : (pbits 33 134217727).setIfInBounds 27 true = pbits 33 268435455) si_U (fun _ _ _ h => h) (wanted_no rfl rfl (T.ev 4 rfl) (decide_eq_false h6)) rfl rfl rfl ?_; clear T ac; intro ac T
       refine g_pass (T := T) (i := 28) rfl (by kernel_rfl) (by kernel_rfl : (pbits 33 268435455).setIfInBounds 28 true = pbits 33 536870911) si_U (fun _ _ _ h => h) (wanted_no rfl rfl (T.ev 5 rfl) (decide_eq_false h6)) rfl rfl rfl ?_; clear T ac; intro ac T
       refine g_pass (T := T) (i := 29) rfl (by kernel_rfl) (by kernel_rfl : (pbits 33 536870911).setIfInBounds 29 true = pbits 33 1073741823) si_U (fun _ _ _ h => h) (wanted_no rfl rfl (T.ev 6 rfl) (decide_eq_false h6)) rfl rfl rfl ?_; clear T ac; intro ac T
       refine g_pass (T := T) (i := 30) rfl (by kernel_rfl) (by kernel_rfl : (pbits 33 1073741823).setIfInBounds 30 true = pbits 33 2147483647) si_U (fun _ _ _ h => h) (wanted_no rfl rfl (T.ev 7 rfl) (decide_eq_false h6)) rfl rfl rfl ?_; clear T ac; intro ac T
       refine g_pass (T := T) (i := 31) rfl (by kernel_rfl) (by kernel_rfl : (pbits 33 2147483647).setIfInBounds 31 true = pbits 33 4294967295) si_U (fun _ _ _ h => h) (wanted_no rfl rfl (T.ev 8 rfl) (decide_eq_false h6)) rfl rfl rfl ?_; clear T ac; intro ac T
       refine gq T 32 8589934591 rfl (fun _ _ _ _ _ => (rn_pick0 rfl (T.ev 9 rfl) (decide_eq_false h6) evc)) ?_; clear T ac; intro ac T
       refine g_done (by kernel_rfl) ?_
       replace T := T.pick [0, 1, 2, 3, 4, 5, 6, 7, 8, 9, 12, 13, 14, 15, 16, 17, 18, 19, 20, 21, 22, 23, 24, 34, 35, 36, 37, 38, 39, 40] rfl
       exact ⟨(T.pick (E' := [(1, .slice G g.length n), (2, .bool su), (3, .pointer (some ⟨g1, 0, none⟩)), (8, .int .i64 (z : Int)), (9, .slice (some ⟨ga1, 0, none⟩) ((OL ++ [(i : Int)]).length) cga1), (10, .int .i64 (i : Int)), (11, .int .i64 (k : Int)), (73, .bool false)]) [23, 24, 25, 26, 27, 28, 29, 0] rfl).as (by (try rw [show (decide (0 < p.pa)) = true from (decide_eq_true h5)]); (try rw [show (decide (q.pa = p.pa)) = false from (decide_eq_false h6)]); (try rfl)), M.mask [true, true] rfl⟩
      replace h5 := of_decide_eq_false h5
      refine g_pass (T := T) (i := 8) rfl (by kernel_rfl) (by kernel_rfl : (pbits 33 255).setIfInBounds 8 true = pbits 33 511) si_U (fun _ _ _ h => h) (wanted_no rfl rfl (T.ev 0 rfl) (decide_eq_false h5)) rfl rfl rfl ?_; clear T ac; intro ac T
      refine g_pass (T := T) (i := 9) rfl (by kernel_rfl) (by kernel_rfl : (pbits 33 511).setIfInBounds 9 true = pbits 33 1023) si_U (fun _ _ _ h => h) (wanted_no rfl rfl (T.ev 1 rfl) (decide_eq_false h5)) rfl rfl rfl ?_; clear T ac; intro ac T
      refine g_pass (T := T) (i := 10) rfl (by kernel_rfl) (by kernel_rfl : (pbits 33 1023).setIfInBounds 10 true = pbits 33 2047) si_U (fun _ _ _ h => h) (wanted_no rfl rfl (T.ev 2 rfl) (decide_eq_false h5)) rfl rfl rfl ?_; clear T ac; intro ac T
      refine g_pass (T := T) (i := 11) rfl (by kernel_rfl) (by kernel_rfl : (pbits 33 2047).setIfInBounds 11 true = pbits 33 4095) si_U (fun _ _ _ h => h) (wanted_no rfl rfl (T.ev 3 rfl) (decide_eq_false h5)) rfl rfl rfl ?_; clear T ac; intro ac T
      refine g_pass (T := T) (i := 12) rfl (by kernel_rfl) (by kernel_rfl : (pbits 33 4095).setIfInBounds 12 true = pbits 33 8191) si_U (fun _ _ _ h => h) (wanted_no rfl rfl (T.ev 4 rfl) (decide_eq_false h5)) rfl rfl rfl ?_; clear T ac; intro ac T
      refine g_pass (T := T) (i := 13) rfl (by kernel_rfl) (by kernel_rfl : (pbits 33 8191).setIfInBounds 13 true = pbits 33 16383) si_U (fun _ _ _ h => h) (wanted_no rfl rfl (T.ev 5 rfl) (decide_eq_false h5)) rfl rfl rfl ?_; clear T ac; intro ac T
      refine g_pass (T := T) (i := 14) rfl (by kernel_rfl) (by kernel_rfl : (pbits 33 16383).setIfInBounds 14 true = pbits 33 32767) si_U (fun _ _ _ h => h) (wanted_no rfl rfl (T.ev 6 rfl) (decide_eq_false h5)) rfl rfl rfl ?_; clear T ac; intro ac T
      refine g_pass (T := T) (i := 15) rfl (by kernel_rfl) (by kernel_rfl : (pbits 33 32767).setIfInBounds 15 true = pbits 33 65535) si_U (fun _ _ _ h => h) (wanted_no rfl rfl (T.ev 7 rfl) (decide_eq_false h5)) rfl rfl rfl ?_; clear T ac; intro ac T
      refine g_pass (T := T) (i := 16) rfl (by kernel_rfl) (by kernel_rfl : (pbits 33 65535).setIfInBounds 16 true = pbits 33 131071) si_U (fun _ _ _ h => h) (wanted_no rfl rfl (T.ev 8 rfl) (decide_eq_false h5)) rfl rfl rfl ?_; clear T ac; intro ac T
      refine g_pass (T := T) (i := 17) rfl (by kernel_rfl) (by kernel_rfl : (pbits 33 131071).setIfInBounds 17 true = pbits 33 262143) si_U (fun _ _ _ h => h) (wanted_no rfl rfl (T.ev 9 rfl) (decide_eq_false h5)) rfl rfl rfl ?_; clear T ac; intro ac T
      refine g_pass (T := T) (i := 18) rfl (by kernel_rfl) (by kernel_rfl : (pbits 33 262143).setIfInBounds 18 true = pbits 33 524287) si_U (fun _ _ _ h => h) (wanted_no rfl rfl (T.ev 10 rfl) (decide_eq_false h5)) rfl rfl rfl ?_; clear T ac; intro ac T
      refine g_pass (T := T) (i := 19) rfl (by kernel_rfl) (by kernel_rfl : (pbits 33 524287).setIfInBounds 19 true = pbits 33 1048575) si_U (fun _ _ _ h => h) (wanted_no rfl rfl (T.ev 11 rfl) (decide_eq_false h5)) rfl rfl rfl ?_; clear T ac; intro ac T
      refine g_pass (T := T) (i := 20) rfl (by kernel_rfl) (by kernel_rfl : (pbits 33 1048575).setIfInBounds 20 true = pbits 33 2097151) si_U (fun _ _ _ h => h) (wanted_no rfl rfl (T.ev 12 rfl) (decide_eq_false h5)) rfl rfl rfl ?_; clear T ac; intro ac T
      refine gq T 21 4194303 rfl (fun _ _ _ _ _ => (rn_pick0 rfl (T.ev 13 rfl) (decide_eq_false h5) evc)) ?_; clear T ac; intro ac T
      refine gq T 22 8388607 rfl (fun _ _ _ _ _ => (rn_move rfl (T.ev 0 rfl))) ?_; clear T ac; intro ac T
      refine g_pass (T := T) (i := 23) rfl (by kernel_rfl) (by kernel_rfl : (pbits 33 8388607).setIfInBounds 23 true = pbits 33 16777215) si_U (fun _ _ _ h => h) (wanted_no rfl rfl (T.ev 0 rfl) rfl) rfl rfl rfl ?_; clear T ac; intro ac T
      refine g_pass (T := T) (i := 24) rfl (by kernel_rfl) (by kernel_rfl : (pbits 33 16777215).setIfInBounds 24 true = pbits 33 33554431) si_U (fun _ _ _ h => h) (wanted_no rfl rfl (T.ev 1 rfl) rfl) rfl rfl rfl ?_; clear T ac; intro ac T
      refine g_pass (T := T) (i := 25) rfl (by kernel_rfl) (by kernel_rfl : (pbits 33 33554431).setIfInBounds 25 true = pbits 33 67108863) si_U (fun _ _ _ h => h) (wanted_no rfl rfl (T.ev 2 rfl) rfl) rfl rfl rfl ?_; clear T ac; intro ac T
      refine g_pass (T := T) (i := 26) rfl (by kernel_rfl) (by kernel_rfl : (pbits 33 67108863).setIfInBounds 26 true = pbits 33 134217727) si_U (fun _ _ _ h => h) (wanted_no rfl rfl (T.ev 3 rfl) rfl) rfl rfl rfl ?_; clear T ac; intro ac T
      refine g_pass (T := T) (i := 27) rfl (by kernel_rfl) (by kernel_rfl : (pbits 33 134217727).setIfInBounds 27 true = pbits 33 268435455) si_U (fun _ _ _ h => h) (wanted_no rfl rfl (T.ev 4 rfl) rfl) rfl rfl rfl ?_; clear T ac; intro ac T
      refine g_pass (T := T) (i := 28) rfl (by kernel_rfl) (by kernel_rfl : (pbits 33 268435455).setIfInBounds 28 true = pbits 33 536870911) si_U (fun _ _ _ h => h) (wanted_no rfl rfl (T.ev 5 rfl) rfl) rfl rfl rfl ?_; clear T ac; intro ac T
      refine g_pass (T := T) (i := 29) rfl (by kernel_rfl) (by kernel_rfl : (pbits 33 536870911).setIfInBounds 29 true = pbits 33 1073741823) si_U (fun _ _ _ h => h) (wanted_no rfl rfl (T.ev 6 rfl) rfl) rfl rfl rfl ?_; clear T ac; intro ac T
      refine g_pass (T := T) (i := 30) rfl (by kernel_rfl) (by kernel_rfl : (pbits 33 1073741823).setIfInBounds 30 true = pbits 33 2147483647) si_U (fun _ _ _ h => h) (wanted_no rfl rfl (T.ev 7 rfl) rfl) rfl rfl rfl ?_; clear T ac; intro ac T
      refine g_pass (T := T) (i := 31) rfl (by kernel_rfl) (by kernel_rfl : (pbits 33 2147483647).setIfInBounds 31 true = pbits 33 4294967295) si_U (fun _ _ _ h => h) (wanted_no rfl rfl (T.ev 8 rfl) rfl) rfl rfl rfl ?_; clear T ac; intro ac T
      refine gq T 32 8589934591 rfl (fun _ _ _ _ _ => (rn_pick0 rfl (T.ev 9 rfl) rfl evc)) ?_; clear T ac; intro ac T
      refine g_done (by kernel_rfl) ?_
      replace T := T.pick [0, 1, 2, 3, 4, 5, 6, 7, 8, 9, 12, 13, 14, 15, 16, 17, 18, 19, 20, 21, 22, 23, 24, 34, 35, 36, 37, 38, 39, 40] rfl
      exact ⟨(T.pick (E' := [(1, .slice G g.length n), (2, .bool su), (3, .pointer (some ⟨g1, 0, none⟩)), (8, .int .i64 (z : Int)), (9, .slice (some ⟨ga1, 0, none⟩) ((OL ++ [(i : Int)]).length) cga1), (10, .int .i64 (i : Int)), (11, .int .i64 (k : Int)), (73, .bool false)]) [23, 24, 25, 26, 27, 28, 29, 0] rfl).as (by (try rw [show (decide (0 < p.pa)) = false from (decide_eq_false h5)]); (try rfl)), M.mask [true, true] rfl⟩
     clear T M
     rintro ac wc ⟨T, M⟩
     refine wp_cond_split (T.ev 7 rfl) ?_ ?_
     ·intro h7
      (try have h7' := h7; try simp only [Bool.and_eq_true, Bool.or_eq_true, Bool.not_eq_true', Bool.and_eq_false_imp, Bool.or_eq_false_iff, decide_eq_true_eq, decide_eq_false_iff_not] at h7')
      refine wp_seq ?_
      refine wp_region_lit ?_
      refine lq T (rn_assign rfl evc) ?_; clear T ac; intro ac T
      refine lq T (rn_assign rfl evc) ?_; clear T ac; intro ac T
      refine wpList_nil ?_
      replace T := T.pick [0, 1] rfl
      replace M := M.mask [true, false] rfl
      refine nm_then ?_
      refine wp_ret ?_
      refine rt_blk ?_
      refine rt_then ?_
      refine rt_then ?_
      refine rt_blk ?_
      refine rt_blk ?_
      refine rt_then ?_
      refine rt_then ?_
      refine rt_blk ?_
      refine rt_then ?_
      refine rt_blk ?_
      refine rt_then ?_
      refine rt_then ?_
      refine rt_blk ?_
      refine rt_then ?_
      refine rt_2 T rfl (T.ev 1 rfl) (T.ev 0 rfl) ?_
      have e9 : willB s su g num = false := by rw [← willV_eq]; unfold willV; rw [patB_no hkp hkq hkx hky (by have h9 := h7; simp only [Bool.and_eq_true, Bool.not_eq_true', decide_eq_true_eq, decide_eq_false_iff_not] at h9; obtain ⟨f1, f2, f3⟩ := h9; exact ⟨⟨f1, f2.symm⟩, f3⟩)]; rfl
      rw [e9]
      exact ⟨rfl, M.below⟩
     intro h7
     (try have h7' := h7; try simp only [Bool.and_eq_true, Bool.or_eq_true, Bool.not_eq_true', Bool.and_eq_false_imp, Bool.or_eq_false_iff, decide_eq_true_eq, decide_eq_false_iff_not] at h7')
     refine wp_skip ?_
     refine nm_blk ?_
     refine nm_then ?_
     refine wp_region_lit ?_
     refine lq T (rn_move rfl (T.ev 6 rfl)) ?_; clear T ac; intro ac T
     refine lq T (rn_add rfl (T.ev 0 rfl) evc (by omega)) ?_; clear T ac; intro ac T
     refine l_q (v := (.int .i64 ((k : Int) + 1))) (T.pick [0, 1, 2, 3, 4, 5, 6, 7, 9] rfl) rfl rfl rfl rfl (rn_assign rfl (T.ev 0 rfl)) ?_; clear T ac; intro ac T
     refine wpList_nil ?_
     replace T := T.pick [0, 3, 4, 5, 6, 7, 8] rfl
     refine nm_then ?_
     exact ⟨_, by omega, k + 1, rfl, (by omega), (fun k9 h9 q9 y9 e1 e2 => by rcases Nat.lt_or_eq_of_le (Nat.le_of_lt_succ h9) with h8 | rfl; exact H2 k9 h8 q9 y9 e1 e2; rw [hkq] at e1; rw [hky] at e2; injection e1 with e1; injection e2 with e2; subst e1; subst e2; rintro ⟨⟨f1, f2⟩, f3⟩; rw [← Bool.not_eq_true] at h7; apply h7; simp only [Bool.and_eq_true, Bool.not_eq_true', decide_eq_true_eq, decide_eq_false_iff_not]; exact ⟨f1, f2.symm, f3⟩), T.pick [1, 2, 3, 4, 5, 6, 0] rfl, M.mask [true, true] rfl⟩
    intro h4
    rw [show k = i by omega] at H2
    refine wp_exit ?_
    refine ex_then ?_
    refine ex_then ?_
    refine ex_hit ?_
    refine nm_blk ?_
    refine nm_then ?_
    refine wp_region_lit ?_
    refine lq T (rn_move rfl (T.ev 6 rfl)) ?_; clear T ac; intro ac T
    refine lq T (rn_add rfl (T.ev 0 rfl) evc (by omega)) ?_; clear T ac; intro ac T
    refine l_q (v := (.int .i64 ((i : Int) + 1))) (T.pick [0, 1, 2, 3, 4, 5, 6, 7, 9] rfl) rfl rfl rfl rfl (rn_assign rfl (T.ev 0 rfl)) ?_; clear T ac; intro ac T
    refine wpList_nil ?_
    replace T := T.pick [0, 4, 5, 6, 7, 8] rfl
    refine nm_then ?_
    exact ⟨_, by omega, i + 1, (OL ++ [(i : Int)]), _, cga1, [(ga1, .row 3 1 (OL ++ [(i : Int)]).length (ic (OL ++ [(i : Int)])) cga1)], rfl, (by omega), (hx.snoc (by omega) (by omega)), (by simp only [List.length_append, List.length_cons, List.length_nil]; omega), (by rw [List.take_add_one, List.take_add_one, hkx, hkp, Option.toList_some, Option.toList_some, clsP_snoc _ _ _ _ _ (by rw [List.length_take, List.length_take]; omega), ← hgp, if_pos (show x = (z : Int) by omega)]; unfold gP; rw [List.map_append]; simp [List.getD_eq_getElem?_getD, hkp]), (patQ_succ H hkp hkx H2), (Sl.row _ _ _ _ _ _), T.pick [1, 2, 3, 4, 5, 0] rfl, M.perm [1, 0] rfl rfl⟩
   intro h3
   refine wp_skip ?_
   refine nm_then ?_
   refine wp_seq ?_
   refine wp_region_lit ?_
   refine lq T (rn_assign rfl evc) ?_; clear T ac; intro ac T
   refine wpList_nil ?_
   replace T := T.pick [0, 2, 3, 4, 5, 6, 7] rfl
   refine nm_then ?_
   refine wp_block ?_
   refine wp_loop_n (fun mz ac wc => ∃ (k : Nat), mz = i - k ∧ (k ≤ i) ∧ (∀ k', k' < k → ∀ q y, s.ps[k']? = some q → g[k']? = some y → ¬ ((0 < p.pa ∧ p.pa = q.pa) ∧ ¬ x = y)) ∧ Tm ac 85 [(1, .slice G g.length n), (2, .bool su), (3, .pointer (some ⟨g1, 0, none⟩)), (8, .int .i64 (z : Int)), (9, .slice A3 OL.length c3), (10, .int .i64 (i : Int)), (11, .int .i64 (k : Int))] ∧ Mem w noEx wc ((g1, .cells [.int .i64 s.lo, .int .i64 s.wi, .int .i64 s.a0, .int .i64 s.a1, .int .i64 s.c0, .int .i64 s.c1, .slice A s.ps.length d]) :: Io)) ?_ ?_
   ·exact ⟨_, 0, rfl, (Nat.zero_le _), (fun k h => by omega), T.pick [1, 2, 3, 4, 5, 6, 0] rfl, M.mask [true] rfl⟩
   clear T M
   rintro mz ac wc ⟨k, hmm3, hk, H2, T, M⟩
   refine wp_seq ?_
   refine wp_seq ?_
   refine wp_region_lit ?_
   refine lq T (rn_move rfl (T.ev 6 rfl)) ?_; clear T ac; intro ac T
   refine lq T (rn_move rfl (T.ev 6 rfl)) ?_; clear T ac; intro ac T
   refine lq T (rn_lss rfl (T.ev 1 rfl) (T.ev 0 rfl)) ?_; clear T ac; intro ac T
   refine wpList_nil ?_
   replace T := T.pick [0, 3, 4, 5, 6, 7, 8, 9] rfl
   refine nm_then ?_
   refine wp_if (T.ev 0 rfl) ?_ ?_
   ·intro h8
    obtain ⟨q, hkq, -⟩ := pc_next (l := s.ps) (k := k) (by omega)
    obtain ⟨y, hky, -⟩ := ic_next (l := g) (k := k) (by omega)
    refine wp_skip ?_
    refine nm_then ?_
    refine wp_seq ?_
    refine wp_block ?_
    refine cut_seq (fun ac wc => Tm ac 85 [(1, .slice G g.length n), (2, .bool su), (3, .pointer (some ⟨g1, 0, none⟩)), (8, .int .i64 (z : Int)), (9, .slice A3 OL.length c3), (10, .int .i64 (i : Int)), (11, .int .i64 (k : Int)), (73, .bool ((decide (0 < p.pa)) && ((decide (q.pa = p.pa)) && (!(decide (x = y))))))] ∧ Mem w noEx wc ((g1, .cells [.int .i64 s.lo, .int .i64 s.wi, .int .i64 s.a0, .int .i64 s.a1, .int .i64 s.c0, .int .i64 s.c1, .slice A s.ps.length d]) :: Io)) ?_ ?_
    ·refine g_start2 M (M.mask [true] rfl) 33 (by kernel_rfl) rfl (by kernel_rfl) ?_
     clear M; intro wc M
     refine gq (v := (.pointer (some ⟨g1, 6, none⟩))) T 0 1 rfl (fun _ _ _ _ _ => (rn_fieldAddr (off := 6) rfl (T.ev 3 rfl) (fun _ _ _ => by kernel_rfl))) ?_; clear T ac; intro ac T
     refine gq T 1 3 rfl (fun B w' hD hl hS => (rn_one (Mem.nth (show Mem w noEx w' _ from hS) 0 rfl) rfl (T.ev 0 rfl) rfl)) ?_; clear T ac; intro ac T
     refine gq T 2 7 rfl (fun _ _ _ _ _ => (rn_move rfl (T.ev 8 rfl))) ?_; clear T ac; intro ac T
     refine gq T 3 15 rfl (fun _ _ _ _ _ => (rn_indexAddr (size := 4) i rfl (T.ev 1 rfl) (T.ev 0 rfl) ⟨_, Tryd.underlying24, by kernel_rfl⟩ rfl (by omega) (SA.at0 (by omega)))) ?_; clear T ac; intro ac T
     refine gq T 4 31 rfl (fun _ _ _ _ _ => (rn_fieldAddr (off := 3) rfl (T.ev 0 rfl) (fun _ _ _ => by kernel_rfl))) ?_; clear T ac; intro ac T
     refine gq T 5 63 rfl (fun B w' hD hl hS => (rn_cell (Sp.pcC3 SA (show Mem w noEx w' _ from hS) (List.nil_sublist _) hkp) rfl (T.ev 0 rfl))) ?_; clear T ac; intro ac T
     refine gq T 6 127 rfl (fun _ _ _ _ _ => (rn_gtr rfl (T.ev 0 rfl) evc)) ?_; clear T ac; intro ac T
     refine gq T 7 255 rfl (fun _ _ _ _ _ => (rn_move rfl (T.ev 0 rfl))) ?_; clear T ac; intro ac T
     rcases Bool.eq_false_or_eq_true (decide (0 < p.pa)) with h9 | h9
     ·replace h9 := of_decide_eq_true h9
      refine g_q (v := (.pointer (some ⟨g1, 6, none⟩))) (T := T) (i := 8) rfl (by kernel_rfl) (by kernel_rfl : (pbits 33 255).setIfInBounds 8 true = pbits 33 511) si_U (fun _ _ _ h => h) (wanted_yes rfl rfl (T.ev 0 rfl) (decide_eq_true h9)) rfl rfl rfl (fun _ _ _ _ _ => (rn_fieldAddr (off := 6) rfl (T.ev 11 rfl) (fun _ _ _ => by kernel_rfl))) ?_; clear T ac; intro ac T
      refine g_q (T := T) (i := 9) rfl (by kernel_rfl) (by kernel_rfl : (pbits 33 511).setIfInBounds 9 true = pbits 33 1023) si_U (fun _ _ _ h => h) (wanted_yes rfl rfl (T.ev 1 rfl) (decide_eq_true h9)) rfl rfl rfl (fun B w' hD hl hS => (rn_one (Mem.nth (show Mem w noEx w' _ from hS) 0 rfl) rfl (T.ev 0 rfl) rfl)) ?_; clear T ac; intro ac T
      refine g_q (T := T) (i := 10) rfl (by kernel_rfl) (by kernel_rfl : (pbits 33 1023).setIfInBounds 10 true = pbits 33 2047) si_U (fun _ _ _ h => h) (wanted_yes rfl rfl (T.ev 2 rfl) (decide_eq_true h9)) rfl rfl rfl (fun _ _ _ _ _ => (rn_move rfl (T.ev 17 rfl))) ?_; clear T ac; intro ac T
      refine g_q (T := T) (i := 11) rfl (by kernel_rfl) (by kernel_rfl : (pbits 33 2047).setIfInBounds 11 true = pbits 33 4095) si_U (fun _ _ _ h => h) (wanted_yes rfl rfl (T.ev 3 rfl) (decide_eq_true h9)) rfl rfl rfl (fun _ _ _ _ _ => (rn_indexAddr (size := 4) k rfl (T.ev 1 rfl) (T.ev 0 rfl) ⟨_, Tryd.underlying24, by kernel_rfl⟩ rfl (by omega) (SA.at0 (by omega)))) ?_; clear T ac; intro ac T
      refine g_q (T := T) (i := 12) rfl (by kernel_rfl) (by kernel_rfl : (pbits 33 4095).setIfInBounds 12 true = pbits 33 8191) si_U (fun _ _ _ h => h) (wanted_yes rfl rfl (T.ev 4 rfl) (decide_eq_true h9)) rfl rfl rfl (fun _ _ _ _ _ => (rn_fieldAddr (off := 3) rfl (T.ev 0 rfl) (fun _ _ _ => by kernel_rfl))) ?_; clear T ac; intro ac T
      refine g_q (T := T) (i := 13) rfl (by kernel_rfl) (by kernel_rfl : (pbits 33 8191).setIfInBounds 13 true = pbits 33 16383) si_U (fun _ _ _ h => h) (wanted_yes rfl rfl (T.ev 5 rfl) (decide_eq_true h9)) rfl rfl rfl (fun B w' hD hl hS => (rn_cell (Sp.pcC3 SA (show Mem w noEx w' _ from hS) (List.nil_sublist _) hkq) rfl (T.ev 0 rfl))) ?_; clear T ac; intro ac T
      refine g_q (v := (.pointer (some ⟨g1, 6, none⟩))) (T := T) (i := 14) rfl (by kernel_rfl) (by kernel_rfl : (pbits 33 16383).setIfInBounds 14 true = pbits 33 32767) si_U (fun _ _ _ h => h) (wanted_yes rfl rfl (T.ev 6 rfl) (decide_eq_true h9)) rfl rfl rfl (fun _ _ _ _ _ => (rn_fieldAddr (off := 6) rfl (T.ev 17 rfl) (fun _ _ _ => by kernel_rfl))) ?_; clear T ac; intro ac T
      refine g_q (T := T) (i := 15) rfl (by kernel_rfl) (by kernel_rfl : (pbits 33 32767).setIfInBounds 15 true = pbits 33 65535) si_U (fun _ _ _ h => h) (wanted_yes rfl rfl (T.ev 7 rfl) (decide_eq_true h9)) rfl rfl rfl (fun B w' hD hl hS => (rn_one (Mem.nth (show Mem w noEx w' _ from hS) 0 rfl) rfl (T.ev 0 rfl) rfl)) ?_; clear T ac; intro ac T
      refine g_q (T := T) (i := 16) rfl (by kernel_rfl) (by kernel_rfl : (pbits 33 65535).setIfInBounds 16 true = pbits 33 131071) si_U (fun _ _ _ h => h) (wanted_yes rfl rfl (T.ev 8 rfl) (decide_eq_true h9)) rfl rfl rfl (fun _ _ _ _ _ => (rn_move rfl (T.ev 22 rfl))) ?_; clear T ac; intro ac T
      refine g_q (T := T) (i := 17) rfl (by kernel_rfl) (by kernel_rfl : (pbits 33 131071).setIfInBounds 17 true = pbits 33 262143) si_U (fun _ _ _ h => h) (wanted_yes rfl rfl (T.ev 9 rfl) (decide_eq_true h9)) rfl rfl rfl (fun _ _ _ _ _ => (rn_indexAddr (size := 4) i rfl (T.ev 1 rfl) (T.ev 0 rfl) ⟨_, Tryd.underlying24, by kernel_rfl⟩ rfl (by omega) (SA.at0 (by omega)))) ?_; clear T ac; intro ac T
      refine g_q (T := T) (i := 18) rfl (by kernel_rfl) (by kernel_rfl : (pbits 33 262143).setIfInBounds 18 true = pbits 33 524287) si_U (fun _ _ _ h => h) (wanted_yes rfl rfl (T.ev 10 rfl) (decide_eq_true h9)) rfl rfl rfl (fun _ _ _ _ _ => (rn_fieldAddr (off := 3) rfl (T.ev 0 rfl) (fun _ _ _ => by kernel_rfl))) ?_; clear T ac; intro ac T
      refine g_q (T := T) (i := 19) rfl (by kernel_rfl) (by kernel_rfl : (pbits 33 524287).setIfInBounds 19 true = pbits 33 1048575) si_U (fun _ _ _ h => h) (wanted_yes rfl rfl (T.ev 11 rfl) (decide_eq_true h9)) rfl rfl rfl (fun B w' hD hl hS => (rn_cell (Sp.pcC3 SA (show Mem w noEx w' _ from hS) (List.nil_sublist _) hkp) rfl (T.ev 0 rfl))) ?_; clear T ac; intro ac T
      refine g_q (T := T) (i := 20) rfl (by kernel_rfl) (by kernel_rfl : (pbits 33 1048575).setIfInBounds 20 true = pbits 33 2097151) si_U (fun _ _ _ h => h) (wanted_yes rfl rfl (T.ev 12 rfl) (decide_eq_true h9)) rfl rfl rfl (fun _ _ _ _ _ => (rn_eql rfl (T.ev 6 rfl) (T.ev 0 rfl))) ?_; clear T ac; intro ac T
      refine gq T 21 4194303 rfl (fun _ _ _ _ _ => (rn_pick1 rfl (T.ev 13 rfl) (decide_eq_true h9) (T.ev 0 rfl))) ?_; clear T ac; intro ac T
      refine gq T 22 8388607 rfl (fun _ _ _ _ _ => (rn_move rfl (T.ev 0 rfl))) ?_; clear T ac; intro ac T
      rcases Bool.eq_false_or_eq_true (decide (q.pa = p.pa)) with h10 | h10
      ·replace h10 := of_decide_eq_true h10
       refine g_q (T := T) (i := 23) rfl (by kernel_rfl) (by kernel_rfl : (pbits 33 8388607).setIfInBounds 23 true = pbits 33 16777215) si_U (fun _ _ _ h => h) (wanted_yes rfl rfl (T.ev 0 rfl) (decide_eq_true h10)) rfl rfl rfl (fun _ _ _ _ _ => (rn_move rfl (T.ev 24 rfl))) ?_; clear T ac; intro ac T
       refine g_q (T := T) (i := 24) rfl (by kernel_rfl) (by kernel_rfl : (pbits 33 16777215).setIfInBounds 24 true = pbits 33 33554431) si_U (fun _ _ _ h => h) (wanted_yes rfl rfl (T.ev 1 rfl) (decide_eq_true h10)) rfl rfl rfl (fun _ _ _ _ _ => (rn_move rfl (T.ev 30 rfl))) ?_; clear T ac; intro ac T
       refine g_q (T := T) (i := 25) rfl (by kernel_rfl) (by kernel_rfl : (pbits 33 33554431).setIfInBounds 25 true = pbits 33 67108863) si_U (fun _ _ _ h => h) (wanted_yes rfl rfl (T.ev 2 rfl) (decide_eq_true h10)) rfl rfl rfl (fun _ _ _ _ _ => (rn_indexAddr (size := 1) i rfl (T.ev 1 rfl) (T.ev 0 rfl) ⟨_, Tryd.underlying27, by kernel_rfl⟩ rfl (by omega) (SG.at0 (by omega)))) ?_; clear T ac; intro ac T
       refine g_q (T := T) (i := 26) rfl (by kernel_rfl) (by kernel_rfl : (pbits 33 67108863).setIfInBounds 26 true = pbits 33 134217727) si_U (fun _ _ _ h => h) (wanted_yes rfl rfl (T.ev 3 rfl) (decide_eq_true h10)) rfl rfl rfl (fun B w' hD hl hS => (rn_cell (Sp.ic0 SG (show Mem w noEx w' _ from hS) (List.nil_sublist _) hkx) rfl (T.ev 0 rfl))) ?_; clear T ac; intro ac T
       refine g_q (T := T) (i := 27) rfl (by kernel_rfl) (by kernel_rfl : (pbits 33 134217727).setIfInBounds 27 true = pbits 33 268435455) si_U (fun _ _ _ h => h) (wanted_yes rfl rfl (T.ev 4 rfl) (decide_eq_true h10)) rfl rfl rfl (fun _ _ _ _ _ => (rn_move rfl (T.ev 28 rfl))) ?_; clear T ac; intro ac T
       refine g_q (T := T) (i := 28) rfl (by kernel_rfl) (by kernel_rfl : (pbits 33 268435455).setIfInBounds 28 true = pbits 33 536870911) si_U (fun _ _ _ h => h) (wanted_yes rfl rfl (T.ev 5 rfl) (decide_eq_true h10)) rfl rfl rfl (fun _ _ _ _ _ => (rn_move rfl (T.ev 35 rfl))) ?_; clear T ac; intro ac T
       refine g_q (T := T) (i := 29) rfl (by kernel_rfl) (by kernel_rfl : (pbits 33 536870911).setIfInBounds 29 true = pbits 33 1073741823) si_U (fun _ _ _ h => h) (wanted_yes rfl rfl (T.ev 6 rfl) (decide_eq_true h10)) rfl rfl rfl (fun _ _ _ _ _ => (rn_indexAddr (size := 1) k rfl (T.ev 1 rfl) (T.ev 0 rfl) ⟨_, Tryd.underlying27, by kernel_rfl⟩ rfl (by omega) (SG.at0 (by omega)))) ?_; clear T ac; intro ac T
       refine g_q (T := T) (i := 30) rfl (by kernel_rfl) (by kernel_rfl : (pbits 33 1073741823).setIfInBounds 30 true = pbits 33 2147483647) si_U (fun _ _ _ h => h) (wanted_yes rfl rfl (T.ev 7 rfl) (decide_eq_true h10)) rfl rfl rfl (fun B w' hD hl hS => (rn_cell (Sp.ic0 SG (show Mem w noEx w' _ from hS) (List.nil_sublist _) hky) rfl (T.ev 0 rfl))) ?_; clear T ac; intro ac T
       refine g_q (T := T) (i := 31) rfl (by kernel_rfl) (by kernel_rfl : (pbits 33 2147483647).setIfInBounds 31 true = pbits 33 4294967295) si_U (fun _ _ _ h => h) (wanted_yes rfl rfl (T.ev 8 rfl) (decide_eq_true h10)) rfl rfl rfl (fun _ _ _ _ _ => (rn_neq rfl (T.ev 4 rfl) (T.ev 0 rfl))) ?_; clear T ac; intro ac T
       refine gq T 32 8589934591 rfl (fun _ _ _ _ _ => (rn_pick1 rfl (T.ev 9 rfl) (decide_eq_true h10) (T.ev 0 rfl))) ?_; clear T ac; intro ac T
       refine g_done (by kernel_rfl) ?_
       replace T := T.pick [0, 1, 2, 3, 4, 5, 6, 7, 8, 9, 12, 13, 14, 15, 16, 17, 18, 19, 20, 21, 22, 23, 24, 34, 35, 36, 37, 38, 39, 40] rfl
       exact ⟨(T.pick (E' := [(1, .slice G g.length n), (2, .bool su), (3, .pointer (some ⟨g1, 0, none⟩)), (8, .int .i64 (z : Int)), (9, .slice A3 OL.length c3), (10, .int .i64 (i : Int)), (11, .int .i64 (k : Int)), (73, .bool (!(decide (x = y))))]) [23, 24, 25, 26, 27, 28, 29, 0] rfl).as (by (try rw [show (decide (0 < p.pa)) = true from (decide_eq_true h9)]); (try rw [show (decide (q.pa = p.pa)) = true from (decide_eq_true h10)]); (try rfl)), M.mask [true] rfl⟩
      replace h10 := of_decide_eq_false h10
      refine g_pass (T := T) (i := 23) rfl (by kernel_rfl) (by kernel_rfl : (pbits 33 8388607).setIfInBounds 23 true = pbits 33 16777215) si_U (fun _ _ _ h => h) (wanted_no rfl rfl (T.ev 0 rfl) (decide_eq_false h10)) rfl rfl rfl ?_; clear T ac; intro ac T
      refine g_pass (T := T) (i := 24) rfl (by kernel_rfl) (by kernel_rfl : (pbits 33 16777215).setIfInBounds 24 true = pbits 33 33554431) si_U (fun _ _ _ h => h) (wanted_no rfl rfl (T.ev 1 rfl) (decide_eq_false h10)) rfl rfl rfl ?_; clear T ac; intro ac T
      refine g_pass (T := T) (i := 25) rfl (by kernel_rfl) (by kernel_rfl : (pbits 33 33554431).setIfInBounds 25 true = pbits 33 67108863) si_U (fun _ _ _ h => h) (wanted_no rfl rfl (T.ev 2 rfl) (decide_eq_false h10)) rfl rfl rfl ?_; clear T ac; intro ac T
      refine g_pass (T := T) (i := 26) rfl (by kernel_rfl) (by kernel_rfl : (pbits 33 67108863).setIfInBounds 26 true = pbits 33 134217727) si_U (fun _ _ _ h => h) (wanted_no rfl rfl (T.ev 3 rfl) (decide_eq_false h10)) rfl rfl rfl ?_; clear T ac; intro ac T
      refine g_pass (T := T) (i := 27) rfl (by kernel_rfl) (by kernel_rfl : (pbits 33 134217727).setIfInBounds 27 true = pbits 33 268435455) si_U (fun _ _ _ h => h) (wanted_no rfl rfl (T.ev 4 rfl) (decide_eq_false h10)) rfl rfl rfl ?_; clear T ac; intro ac T
      refine g_pass (T := T) (i := 28) rfl (by kernel_rfl) (by kernel_rfl : (pbits 33 268435455).setIfInBounds 28 true = pbits 33 536870911) si_U (fun _ _ _ h => h) (wanted_no rfl rfl (T.ev 5 rfl) (decide_eq_false h10)) rfl rfl rfl ?_; clear T ac; intro ac T
      refine g_pass (T := T) (i := 29) rfl (by kernel_rfl) (by kernel_rfl : (pbits 33 536870911).setIfInBounds 29 true = pbits 33 1073741823) si_U (fun _ _ _ h => h) (wanted_no rfl rfl (T.ev 6 rfl) (decide_eq_false h10)) rfl rfl rfl ?_; clear T ac; intro ac T
      refine g_pass (T := T) (i := 30) rfl (by kernel_rfl) (by kernel_rfl : (pbits 33 1073741823).setIfInBounds 30 true = pbits 33 2147483647) si_U (fun _ _ _ h => h) (wanted_no rfl rfl (T.ev 7 rfl) (decide_eq_false h10)) rfl rfl rfl ?_; clear T ac; intro ac T
      refine g_pass (T := T) (i := 31) rfl (by kernel_rfl) (by kernel_rfl : (pbits 33 2147483647).setIfInBounds 31 true = pbits 33 4294967295) si_U (fun _ _ _ h => h) (wanted_no rfl rfl (T.ev 8 rfl) (decide_eq_false h10)) rfl rfl rfl ?_; clear T ac; intro ac T
      refine gq T 32 8589934591 rfl (fun _ _ _ _ _ => (rn_pick0 rfl (T.ev 9 rfl) (decide_eq_false h10) evc)) ?_; clear T ac; intro ac T
      refine g_done (by kernel_rfl) ?_
      replace T := T.pick [0, 1, 2, 3, 4, 5, 6, 7, 8, 9, 12, 13, 14, 15, 16, 17, 18, 19, 20, 21, 22, 23, 24, 34, 35, 36, 37, 38, 39, 40] rfl
      exact ⟨(T.pick (E' := [(1, .slice G g.length n), (2, .bool su), (3, .pointer (some ⟨g1, 0, none⟩)), (8, .int .i64 (z : Int)), (9, .slice A3 OL.length c3), (10, .int .i64 (i : Int)), (11, .int .i64 (k : Int)), (73, .bool false)]) [23, 24, 25, 26, 27, 28, 29, 0] rfl).as (by (try rw [show (decide (0 < p.pa)) = true from (decide_eq_true h9)]); (try rw [show (decide (q.pa = p.pa)) = false from (decide_eq_false h10)]); (try rfl)), M.mask [true] rfl⟩
     replace h9 := of_decide_eq_false h9
     refine g_pass (T := T) (i := 8) rfl (by kernel_rfl) (by kernel_rfl : (pbits 33 255).setIfInBounds 8 true = pbits 33 511) si_U (fun _ _ _ h => h) (wanted_no rfl rfl (T.ev 0 rfl) (decide_eq_false h9)) rfl rfl rfl ?_; clear T ac; intro ac T
     refine g_pass (T := T) (i := 9) rfl (by kernel_rfl) (by kernel_rfl : (pbits 33 511).setIfInBounds 9 true = pbits 33 1023) si_U (fun _ _ _ h => h) (wanted_no rfl rfl (T.ev 1 rfl) (decide_eq_false h9)) rfl rfl rfl ?_; clear T ac; intro ac T
     refine g_pass (T := T) (i := 10) rfl (by kernel_rfl) (by kernel_rfl : (pbits 33 1023).setIfInBounds 10 true = pbits 33 2047) si_U (fun _ _ _ h => h) (wanted_no rfl rfl (T.ev 2 rfl) (decide_eq_false h9)) rfl rfl rfl ?_; clear T ac; intro ac T
     refine g_pass (T := T) (i := 11) rfl (by kernel_rfl) (by kernel_rfl : (pbits 33 2047).setIfInBounds 11 true = pbits 33 4095) si_U (fun _ _ _ h => h) (wanted_no rfl rfl (T.ev 3 rfl) (decide_eq_false h9)) rfl rfl rfl ?_; clear T ac; intro ac T
     refine g_pass (T := T) (i := 12) rfl (by kernel_rfl) (by kernel_rfl : (pbits 33 4095).setIfInBounds 12 true = pbits 33 8191) si_U (fun _ _ _ h => h) (wanted_no rfl rfl (T.ev 4 rfl) (decide_eq_false h9)) rfl rfl rfl ?_; clear T ac; intro ac T
     refine g_pass (T := T) (i := 13) rfl (by kernel_rfl) (by kernel_rfl : (pbits 33 8191).setIfInBounds 13 true = pbits 33 16383) si_U (fun _ _ _ h => h) (wanted_no rfl rfl (T.ev 5 rfl) (decide_eq_false h9)) rfl rfl rfl ?_; clear T ac; intro ac T
     refine g_pass (T := T) (i := 14) rfl (by kernel_rfl) (by kernel_rfl : (pbits 33 16383).setIfInBounds 14 true = pbits 33 32767) si_U (fun _ _ _ h => h) (wanted_no rfl rfl (T.ev 6 rfl) (decide_eq_false h9)) rfl rfl rfl ?_; clear T ac; intro ac T
     refine g_pass (T := T) (i := 15) rfl (by kernel_rfl) (by kernel_rfl : (pbits 33 32767).setIfInBounds 15 true = pbits 33 65535) si_U (fun _ _ _ h => h) (wanted_no rfl rfl (T.ev 7 rfl) (decide_eq_false h9)) rfl rfl rfl ?_; clear T ac; intro ac T
     refine g_pass (T := T) (i := 16) rfl (by kernel_rfl) (by kernel_rfl : (pbits 33 65535).setIfInBounds 16 true = pbits 33 131071) si_U (fun _ _ _ h => h) (wanted_no rfl rfl (T.ev 8 rfl) (decide_eq_false h9)) rfl rfl rfl ?_; clear T ac; intro ac T
     refine g_pass (T := T) (i := 17) rfl (by kernel_rfl) (by kernel_rfl : (pbits 33 131071).setIfInBounds 17 true = pbits 33 262143) si_U (fun _ _ _ h => h) (wanted_no rfl rfl (T.ev 9 rfl) (decide_eq_false h9)) rfl rfl rfl ?_; clear T ac; intro ac T
     refine g_pass (T := T) (i := 18) rfl (by kernel_rfl) (by kernel_rfl : (pbits 33 262143).setIfInBounds 18 true = pbits 33 524287) si_U (fun _ _ _ h => h) (wanted_no rfl rfl (T.ev 10 rfl) (decide_eq_false h9)) rfl rfl rfl ?_; clear T ac; intro ac T
     refine g_pass (T := T) (i := 19) rfl (by kernel_rfl) (by kernel_rfl : (pbits 33 524287).setIfInBounds 19 true = pbits 33 1048575) si_U (fun _ _ _ h => h) (wanted_no rfl rfl (T.ev 11 rfl) (decide_eq_false h9)) rfl rfl rfl ?_; clear T ac; intro ac T
     refine g_pass (T := T) (i := 20) rfl (by kernel_rfl) (by kernel_rfl : (pbits 33 1048575).setIfInBounds 20 true = pbits 33 2097151) si_U (fun _ _ _ h => h) (wanted_no rfl rfl (T.ev 12 rfl) (decide_eq_false h9)) rfl rfl rfl ?_; clear T ac; intro ac T
     refine gq T 21 4194303 rfl (fun _ _ _ _ _ => (rn_pick0 rfl (T.ev 13 rfl) (decide_eq_false h9) evc)) ?_; clear T ac; intro ac T
     refine gq T 22 8388607 rfl (fun _ _ _ _ _ => (rn_move rfl (T.ev 0 rfl))) ?_; clear T ac; intro ac T
     refine g_pass (T := T) (i := 23) rfl (by kernel_rfl) (by kernel_rfl : (pbits 33 8388607).setIfInBounds 23 true = pbits 33 16777215) si_U (fun _ _ _ h => h) (wanted_no rfl rfl (T.ev 0 rfl) rfl) rfl rfl rfl ?_; clear T ac; intro ac T
     refine g_pass (T := T) (i := 24) rfl (by kernel_rfl) (by kernel_rfl : (pbits 33 16777215).setIfInBounds 24 true = pbits 33 33554431) si_U (fun _ _ _ h => h) (wanted_no rfl rfl (T.ev 1 rfl) rfl) rfl rfl rfl ?_; clear T ac; intro ac T
     refine g_pass (T := T) (i := 25) rfl (by kernel_rfl) (by kernel_rfl : (pbits 33 33554431).setIfInBounds 25 true = pbits 33 67108863) si_U (fun _ _ _ h => h) (wanted_no rfl rfl (T.ev 2 rfl) rfl) rfl rfl rfl ?_; clear T ac; intro ac T
     refine g_pass (T := T) (i := 26) rfl (by kernel_rfl) (by kernel_rfl : (pbits 33 67108863).setIfInBounds 26 true = pbits 33 134217727) si_U (fun _ _ _ h => h) (wanted_no rfl rfl (T.ev 3 rfl) rfl) rfl rfl rfl ?_; clear T ac; intro ac T
     refine g_pass (T := T) (i := 27) rfl (by kernel_rfl) (by kernel_rfl : (pbits 33 134217727).setIfInBounds 27 true = pbits 33 268435455) si_U (fun _ _ _ h => h) (wanted_no rfl rfl (T.ev 4 rfl) rfl) rfl rfl rfl ?_; clear T ac; intro ac T
     refine g_pass (T := T) (i := 28) rfl (by kernel_rfl) (by kernel_rfl : (pbits 33 268435455).setIfInBounds 28 true = pbits 33 536870911) si_U (fun _ _ _ h => h) (wanted_no rfl rfl (T.ev 5 rfl) rfl) rfl rfl rfl ?_; clear T ac; intro ac T
     refine g_pass (T := T) (i := 29) rfl (by kernel_rfl) (by kernel_rfl : (pbits 33 536870911).setIfInBounds 29 true = pbits 33 1073741823) si_U (fun _ _ _ h => h) (wanted_no rfl rfl (T.ev 6 rfl) rfl) rfl rfl rfl ?_; clear T ac; intro ac T
     refine g_pass (T := T) (i := 30) rfl (by kernel_rfl) (by kernel_rfl : (pbits 33 1073741823).setIfInBounds 30 true = pbits 33 2147483647) si_U (fun _ _ _ h => h) (wanted_no rfl rfl (T.ev 7 rfl) rfl) rfl rfl rfl ?_; clear T ac; intro ac T
     refine g_pass (T := T) (i := 31) rfl (by kernel_rfl) (by kernel_rfl : (pbits 33 2147483647).setIfInBounds 31 true = pbits 33 4294967295) si_U (fun _ _ _ h => h) (wanted_no rfl rfl (T.ev 8 rfl) rfl) rfl rfl rfl ?_; clear T ac; intro ac T
     refine gq T 32 8589934591 rfl (fun _ _ _ _ _ => (rn_pick0 rfl (T.ev 9 rfl) rfl evc)) ?_; clear T ac; intro ac T
     refine g_done (by kernel_rfl) ?_
     replace T := T.pick [0, 1, 2, 3, 4, 5, 6, 7, 8, 9, 12, 13, 14, 15, 16, 17, 18, 19, 20, 21, 22, 23, 24, 34, 35, 36, 37, 38, 39, 40] rfl
     exact ⟨(T.pick (E' := [(1, .slice G g.length n), (2, .bool su), (3, .pointer (some ⟨g1, 0, none⟩)), (8, .int .i64 (z : Int)), (9, .slice A3 OL.length c3), (10, .int .i64 (i : Int)), (11, .int .i64 (k : Int)), (73, .bool false)]) [23, 24, 25, 26, 27, 28, 29, 0] rfl).as (by (try rw [show (decide (0 < p.pa)) = false from (decide_eq_false h9)]); (try rfl)), M.mask [true] rfl⟩
    clear T M
    rintro ac wc ⟨T, M⟩
    refine wp_cond_split (T.ev 7 rfl) ?_ ?_
    ·intro h11
     (try have h11' := h11; try simp only [Bool.and_eq_true, Bool.or_eq_true, Bool.not_eq_true', Bool.and_eq_false_imp, Bool.or_eq_false_iff, decide_eq_true_eq, decide_eq_false_iff_not] at h11')
     refine wp_seq ?_
     refine wp_region_lit ?_
     refine lq T (rn_assign rfl evc) ?_; clear T ac; intro ac T
     refine lq T (rn_assign rfl evc) ?_; clear T ac; intro ac T
     refine wpList_nil ?_
     replace T := T.pick [0, 1] rfl
     replace M := M.mask [false] rfl
     refine nm_then ?_
     refine wp_ret ?_
     refine rt_blk ?_
     refine rt_then ?_
     refine rt_then ?_
     refine rt_blk ?_
     refine rt_blk ?_
     refine rt_then ?_
     refine rt_then ?_
     refine rt_blk ?_
     refine rt_then ?_
     refine rt_blk ?_
     refine rt_then ?_
     refine rt_then ?_
     refine rt_blk ?_
     refine rt_then ?_
     refine rt_2 T rfl (T.ev 1 rfl) (T.ev 0 rfl) ?_
     have e9 : willB s su g num = false := by rw [← willV_eq]; unfold willV; rw [patB_no hkp hkq hkx hky (by have h9 := h11; simp only [Bool.and_eq_true, Bool.not_eq_true', decide_eq_true_eq, decide_eq_false_iff_not] at h9; obtain ⟨f1, f2, f3⟩ := h9; exact ⟨⟨f1, f2.symm⟩, f3⟩)]; rfl
     rw [e9]
     exact ⟨rfl, M.below⟩
    intro h11
    (try have h11' := h11; try simp only [Bool.and_eq_true, Bool.or_eq_true, Bool.not_eq_true', Bool.and_eq_false_imp, Bool.or_eq_false_iff, decide_eq_true_eq, decide_eq_false_iff_not] at h11')
    refine wp_skip ?_
    refine nm_blk ?_
    refine nm_then ?_
    refine wp_region_lit ?_
    refine lq T (rn_move rfl (T.ev 6 rfl)) ?_; clear T ac; intro ac T
    refine lq T (rn_add rfl (T.ev 0 rfl) evc (by omega)) ?_; clear T ac; intro ac T
    refine l_q (v := (.int .i64 ((k : Int) + 1))) (T.pick [0, 1, 2, 3, 4, 5, 6, 7, 9] rfl) rfl rfl rfl rfl (rn_assign rfl (T.ev 0 rfl)) ?_; clear T ac; intro ac T
    refine wpList_nil ?_
    replace T := T.pick [0, 3, 4, 5, 6, 7, 8] rfl
    refine nm_then ?_
    exact ⟨_, by omega, k + 1, rfl, (by omega), (fun k9 h9 q9 y9 e1 e2 => by rcases Nat.lt_or_eq_of_le (Nat.le_of_lt_succ h9) with h8 | rfl; exact H2 k9 h8 q9 y9 e1 e2; rw [hkq] at e1; rw [hky] at e2; injection e1 with e1; injection e2 with e2; subst e1; subst e2; rintro ⟨⟨f1, f2⟩, f3⟩; rw [← Bool.not_eq_true] at h11; apply h11; simp only [Bool.and_eq_true, Bool.not_eq_true', decide_eq_true_eq, decide_eq_false_iff_not]; exact ⟨f1, f2.symm, f3⟩), T.pick [1, 2, 3, 4, 5, 6, 0] rfl, M.mask [true] rfl⟩
   intro h8
   rw [show k = i by omega] at H2
   refine wp_exit ?_
   refine ex_then ?_
   refine ex_then ?_
   refine ex_hit ?_
   refine nm_blk ?_
   refine nm_then ?_
   refine wp_region_lit ?_
   refine lq T (rn_move rfl (T.ev 6 rfl)) ?_; clear T ac; intro ac T
   refine lq T (rn_add rfl (T.ev 0 rfl) evc (by omega)) ?_; clear T ac; intro ac T
   refine l_q (v := (.int .i64 ((i : Int) + 1))) (T.pick [0, 1, 2, 3, 4, 5, 6, 7, 9] rfl) rfl rfl rfl rfl (rn_assign rfl (T.ev 0 rfl)) ?_; clear T ac; intro ac T
   refine wpList_nil ?_
   replace T := T.pick [0, 4, 5, 6, 7, 8] rfl
   refine nm_then ?_
   exact ⟨_, by omega, i + 1, OL, _, _, Io, rfl, (by omega), (hx.more (by omega)), (by omega), (by rw [List.take_add_one, List.take_add_one, hkx, hkp, Option.toList_some, Option.toList_some, clsP_snoc _ _ _ _ _ (by rw [List.length_take, List.length_take]; omega), ← hgp, if_neg (show ¬ x = (z : Int) by omega)]; simp), (patQ_succ H hkp hkx H2), hsl, T.pick [1, 2, 3, 4, 5, 0] rfl, M.mask [true] rfl⟩
  intro h2
  obtain ⟨bo, oo, SVo⟩ := hsl.spV (by rw [ic_length]; omega)
  have So := SVo w noEx
  have hcap9 := hsl.capLe M (.cons _ (List.Sublist.refl _))
  have hpat := patQ_all hgl (show patQ s.ps g s.ps.length by rw [show s.ps.length = i by omega]; exact H)
  rw [List.take_of_length_le (by omega), List.take_of_length_le (by omega)] at hgp
  have hxS : Idx s.ps.length OL := hx.more (by omega)
  refine wp_exit ?_
  refine ex_then ?_
  refine ex_then ?_
  refine ex_hit ?_
  refine nm_then ?_
  refine wp_seq ?_
  refine wp_region_lit ?_
  refine lq T (rn_rowO (Mem.nth M 0 rfl) rfl (T.ev 3 rfl) rfl) ?_; clear T ac; intro ac T
  refine lq T (rn_move rfl (T.ev 6 rfl)) ?_; clear T ac; intro ac T
  refine lq T (rn_move rfl (T.ev 4 rfl)) ?_; clear T ac; intro ac T
  refine l_w rfl ?_; intro K hK
  refine ow_call (first := []) (cap := []) T rfl rfl rfl rfl evf (.cons (T.ev 2 rfl) (.cons (T.ev 1 rfl) (.cons (T.ev 0 rfl) .nil))) Tryd.func33 rfl rfl ?_
  refine Calls.mono (Plan_any s A d A3 c3 OL su _ (SA.rd M (List.nil_sublist _)) (So.rd M (.cons _ (List.Sublist.refl _))) (by omega) (by omega) (by omega) (hT.mem M (fun h => h))) ?_
  clear T
  rintro e wc ⟨APu2, cPu2, IPu2, rfl, hcpPu2, SVPu2, N⟩
  intro ac T
  have hpe := plan_cases (su := su) (g := OL) hsg hxS.1 hxS.2
  have hpe1 : planE s OL su = 0 ∨ planE s OL su = 11 := hpe.imp And.left And.left
  obtain ⟨bAPu2, oAPu2, SVPu2⟩ := SVPu2
  have SAPu2 := SVPu2 w noEx
  replace M := (M.join N).swapI
  clear N
  replace M : Mem w noEx wc ((g1, .cells [.int .i64 s.lo, .int .i64 s.wi, .int .i64 s.a0, .int .i64 s.a1, .int .i64 s.c0, .int .i64 s.c1, .slice A s.ps.length d]) :: (Io ++ IPu2)) := M
  refine sh_out hK _ _ ?_; clear hK K
  refine lq T (rn_move rfl (T.ev 0 rfl)) ?_; clear T ac; intro ac T
  refine lq T (rn_extract rfl (T.ev 0 rfl) rfl) ?_; clear T ac; intro ac T
  refine lq T (rn_extract rfl (T.ev 1 rfl) rfl) ?_; clear T ac; intro ac T
  refine lq T (rn_assign rfl (T.ev 1 rfl)) ?_; clear T ac; intro ac T
  refine lq T (rn_assign rfl (T.ev 1 rfl)) ?_; clear T ac; intro ac T
  refine wpList_nil ?_
  replace T := T.pick [0, 10, 11, 12, 13] rfl
  refine nm_then ?_
  refine wp_seq ?_
  refine wp_seq ?_
  refine wp_region_lit ?_
  refine lq T (rn_move rfl (T.ev 0 rfl)) ?_; clear T ac; intro ac T
  refine lq T (rn_eql rfl (T.ev 0 rfl) evc) ?_; clear T ac; intro ac T
  refine wpList_nil ?_
  replace T := T.pick [0, 2, 3, 4, 5, 6] rfl
  refine nm_then ?_
  refine wp_if (T.ev 0 rfl) ?_ ?_
  ·intro h12
   refine wp_seq ?_
   refine wp_region_lit ?_
   refine lq T (rn_assign rfl evc) ?_; clear T ac; intro ac T
   refine lq T (rn_assign rfl evc) ?_; clear T ac; intro ac T
   refine wpList_nil ?_
   replace T := T.pick [0, 1] rfl
   replace M := M.mask [false] rfl
   refine nm_then ?_
   refine wp_ret ?_
   refine rt_then ?_
   refine rt_blk ?_
   refine rt_then ?_
   refine rt_then ?_
   refine rt_blk ?_
   refine rt_then ?_
   refine rt_2 T rfl (T.ev 1 rfl) (T.ev 0 rfl) ?_
   have hc9 : canS s su (clsP s.ps g (z : Int)) = false := by rw [← hgp]; rcases hpe with ⟨e1, e2⟩ | ⟨e1, e2⟩; omega; exact e2
   have e9 : willB s su g num = false := by rw [← willV_eq]; unfold willV; rw [Bool.and_eq_false_imp]; intro _; rw [List.all_eq_false]; exact ⟨z, List.mem_range.2 (by omega), by show ¬ canS s su (clsP s.ps g (z : Int)) = true; rw [hc9]; decide⟩
   rw [e9]
   exact ⟨rfl, M.below⟩
  intro h12
  refine wp_skip ?_
  refine nm_then ?_
  refine wp_seq ?_
  refine wp_region_lit ?_
  refine lq T (rn_move rfl (T.ev 1 rfl)) ?_; clear T ac; intro ac T
  refine lq T (rn_neq rfl (T.ev 0 rfl) evc) ?_; clear T ac; intro ac T
  refine wpList_nil ?_
  replace T := T.pick [0, 4, 5, 6, 7] rfl
  refine nm_then ?_
  refine wp_ifn (T.ev 0 rfl) ?_ ?_
  ·intro h13
   refine wp_seq ?_
   refine wp_region_lit ?_
   refine lq T (rn_assign rfl evc) ?_; clear T ac; intro ac T
   refine lq T (rn_assign rfl evc) ?_; clear T ac; intro ac T
   refine wpList_nil ?_
   replace T := T.pick [0, 1] rfl
   replace M := M.mask [false] rfl
   refine nm_then ?_
   refine wp_ret ?_
   refine rt_blk ?_
   refine rt_then ?_
   refine rt_then ?_
   refine rt_blk ?_
   refine rt_then ?_
   refine rt_2 T rfl (T.ev 1 rfl) (T.ev 0 rfl) ?_
   exfalso
   omega
  intro h13
  refine wp_skip ?_
  refine nm_blk ?_
  refine nm_then ?_
  refine wp_region_lit ?_
  refine lq T (rn_move rfl (T.ev 4 rfl)) ?_; clear T ac; intro ac T
  refine lq T (rn_add rfl (T.ev 0 rfl) evc (by omega)) ?_; clear T ac; intro ac T
  refine l_q (v := (.int .i64 ((z : Int) + 1))) (T.pick [0, 1, 2, 3, 4, 5] rfl) rfl rfl rfl rfl (rn_assign rfl (T.ev 0 rfl)) ?_; clear T ac; intro ac T
  refine wpList_nil ?_
  replace T := T.pick [0, 4, 5, 6] rfl
  refine nm_then ?_
  exact ⟨_, by omega, z + 1, rfl, (by omega), (fun k9 h9 => by rcases Nat.lt_or_eq_of_le (Nat.le_of_lt_succ h9) with h8 | rfl; exact H3 k9 h8; rw [← hgp]; rcases hpe with ⟨e1, e2⟩ | ⟨e1, e2⟩; exact e2; omega), (fun _ => hpat), T.pick [1, 2, 3, 0] rfl, ((M.permT [0] 1 rfl rfl rfl rfl).sub (List.sublist_append_left ([(g1, .cells [.int .i64 s.lo, .int .i64 s.wi, .int .i64 s.a0, .int .i64 s.a1, .int .i64 s.c0, .int .i64 s.c1, .slice A s.ps.length d])] : List (Nat × BA)) _))⟩
 intro h1
 refine wp_exit ?_
 refine ex_then ?_
 refine ex_then ?_
 refine ex_hit ?_
 refine nm_then ?_
 refine wp_seq ?_
 refine wp_region_lit ?_
 refine lq T (rn_assign rfl evc) ?_; clear T ac; intro ac T
 refine lq T (rn_assign rfl evc) ?_; clear T ac; intro ac T
 refine wpList_nil ?_
 replace T := T.pick [0, 1] rfl
 replace M := M.mask [false] rfl
 refine nm_then ?_
 refine wp_ret ?_
 refine rt_2 T rfl (T.ev 1 rfl) (T.ev 0 rfl) ?_
 have hpat : patB s.ps g = true := by rcases Nat.eq_zero_or_pos z with h0 | h0; (have hg0 := num0 (g := g) (by omega) hgb; have h7 : s.ps = [] := List.eq_nil_of_length_eq_zero (by rw [← hgl, hg0]; rfl); rw [h7, hg0]; rfl); exact hP h0
 have e9 : willB s su g num = true := by rw [← willV_eq]; unfold willV; rw [hpat, Bool.true_and, List.all_eq_true]; exact fun k hk => H3 k (by have := List.mem_range.1 hk; omega)
 rw [e9]
 exact ⟨rfl, M.below⟩
end Go.Proofs.YtehpcclfgjccbaaDoor
end

section
/-
 ref8: all numberings.
-/
namespace Go.Proofs.YtehpcclfgjccbaaDoor
set_option linter.unusedSimpArgs false
set_option linter.unusedVariables false
open Go.RowKit
theorem Tryd.info27 : (Tryd.prog.info? 27).map (fun i => (i.zero, i.size, i.bytes)) = some (some (.slice none 0 0), 1, 24) := by kernel_rfl
theorem lc_one (l : List LE) : ∀ u ∈ lc l, u.oneCell' = true := fun u hu => by
 obtain ⟨x, -, rfl⟩ := List.mem_map.1 hu
 rfl
section
variable {df : List Deferred} {P : Program} {op : Oper} {a : Act} {K : Act → World → Prop} {Q : Exit → Act → World → Prop} {w0 w : World} {ex : Nat → Prop} {L0 I : List (Nat × BA)} {E : List (Nat × Value)}
theorem ow_appV {s x : Operand} {ty e size bytes m d n nn t' : Nat} {B : Option Addr} {z : Value} {xs cs : List Value} {v : Value} (L : List (Nat × BA))
   (hinfo : (P.info? e).map (fun i => (i.zero, i.size, i.bytes)) = some (some z, size, bytes)) (hS : Sl e size v n xs I) (M : Mem w0 ex w L0) (hsp : L0 = L ++ I) (T : TmD df a nn E)
   (ho : op.op = .call { callee := .builtin .append, args := #[s, x], argTypes := #[ty, ty] }) (hd : op.dst = some t') (hf : freshE E t' = true) (hnn : Nat.blt t' nn = true)
   (ht : P.underlying ty = some (.slice e)) (hzs : z.cells.size = size) (hsz : Nat.blt 0 size = true) (hby : Nat.ble bytes 1000 = true) (hm : n + m ≤ 1000000) (hm0 : 0 < m)
   (hs : a.eval s = v) (hx : a.eval x = .slice B m d) (hr : Rd w w.heap.size size B m cs) (h1 : ∀ u ∈ cs, u.oneCell' = true)
   (h : ∀ g cap w' a', Mem w0 ex w' ((g, .row e size (n + m) (xs ++ cs) cap) :: L) → TmD df a' nn ((t', .slice (some ⟨g, 0, none⟩) (n + m) cap) :: E) → K a' w') : op.wp P a w K Q := by
 subst hsp
 replace M : Mem w0 ex w (I ++ L) := Mem.swapI (I := L) (L := I) M
 obtain ⟨i, hi, hz0, hz1, hz2⟩ := info_parts hinfo
 obtain ⟨g2, o2, rfl, hlt, hc⟩ := hr.cells hm0
 have hby := Nat.le_of_ble_eq_true hby
 have hsz := Nat.le_of_ble_eq_true hsz
 have hbb : (n + m) * bytes ≤ 140737488355328 := by
   have : (n + m) * bytes ≤ 1000000 * 1000 := Nat.mul_le_mul (by omega) hby
   omega
 have hnews : ∀ j u, cs[j]? = some u → w.cell? ((⟨g2, o2, none⟩ : Addr).add j) = some u := fun j u hu => by rw [Addr.add_mid]; exact hc j u hu
 rcases hS with ⟨rfl, rfl, rfl, rfl⟩ | ⟨g0, cap0, rfl, rfl⟩
 · refine wp_append_lies w s x ty ho w.heap.size e i z size bytes ht hi hz0 hz1 hz2 hzs hsz (.slice none 0 0) 0 [] hs ⟨by simp, .inl ⟨rfl, rfl⟩⟩ ⟨g2, o2, none⟩ m d cs hx hr.1 hnews h1 hm0 (by unfold maxLen; omega) hbb (Nat.le_refl _) w.heap.size rfl ?_
   intro g cap w' hown hgr hat hlt
   have hg : g = w.heap.size := by
     rcases hat with h | h
     · cases h
     · exact h
   have M1 : Mem w0 ex w' L := M.call ⟨hgr.os, hgr.tape, hgr.output, hgr.size, fun k hk => hgr.block k hk (fun e => by cases e)⟩
   exact h g cap w' _ (M1.add (by rw [hg]; exact M.size) (own_rebase hown (by omega)) (fun q hq e => by have := BA.lt (M.blk q hq).2; omega)) (by rw [hd]; exact T.put hnn hf _)
 · have hrow := (M.blk (g0, .row e size n xs cap0) (by simp)).2
   refine wp_append_lies w s x ty ho g0 e i z size bytes ht hi hz0 hz1 hz2 hzs hsz _ n xs hs hrow.1 ⟨g2, o2, none⟩ m d cs hx hr.1 hnews h1 hm0 (by unfold maxLen; omega) hbb (Nat.le_of_lt (BA.lt hrow)) w.heap.size rfl ?_
   intro g cap w' hown hgr hat hlt
   have hgr : w.grownBy w' (some g0) := hgr
   rcases hat with h2 | h2
   · have h2 : some g0 = some g := h2
     injection h2 with h2
     subst h2
     exact h g0 cap w' _ (M.callW (L' := (g0, .row e size (n + m) (xs ++ cs) cap) :: L) .head hgr (own_rebase hown (by omega))) (by rw [hd]; exact T.put hnn hf _)
   · have M1 := M.callW (L' := (g0, .any (fun _ => True)) :: L) .head hgr (by
       have hl0 : g0 < w'.heap.size := Nat.lt_of_lt_of_le (BA.lt hrow) hgr.size
       exact ⟨w'.heap[g0], Array.getElem?_eq_getElem hl0, trivial⟩)
     exact h g cap w' _ (M1.forget.add (by rw [h2]; exact M.size) (own_rebase hown (by omega)) (fun q hq e => by have := BA.lt (M.blk q (List.mem_append_right _ hq)).2; omega)) (by rw [hd]; exact T.put hnn hf _)
end
theorem Mem.permL {w0 w : World} {ex : Nat → Prop} {L L' : List (Nat × BA)} (M : Mem w0 ex w L) (h : L.Perm L') : Mem w0 ex w L' :=
 ⟨M.os, M.tape, M.output, M.size, M.block, fun p hp => M.blk p (h.mem_iff.2 hp), (h.map (·.1)).nodup M.nd⟩
theorem Mem.tail3 {w0 w : World} {ex : Nat → Prop} {K A B C : List (Nat × BA)} (M : Mem w0 ex w (K ++ (A ++ B ++ C))) : Mem w0 ex w (K ++ (A ++ C ++ B)) :=
 M.permL (List.Perm.append_left K (by rw [List.append_assoc, List.append_assoc]; exact List.Perm.append_left A List.perm_append_comm))
def ElsB (LL : List LE) (x0 : LE) (I : List (Nat × BA)) : Prop := ∀ x ∈ LL, x = x0 ∨ ∃ b o, ∀ (w : World) (ex : Nat → Prop), Sp w ex I x.2.1 x.1.length 1 b o (ic x.1)
def ElsO (LL : List LE) (I : List (Nat × BA)) : Prop := ∀ x ∈ LL, ∃ b o, ∀ (w : World) (ex : Nat → Prop), Sp w ex I x.2.1 x.1.length 1 b o (ic x.1)
theorem ElsO.step {OL LL : List LE} {Ie I' : List (Nat × BA)} {e g c : Nat} {l : List Int} {c2 : Nat} (h : ElsO OL Ie) (h' : ElsB LL (l, some ⟨g, 0, none⟩, c) I') : ElsO (OL ++ LL) (Ie ++ I' ++ [(g, .row e 1 l.length (ic l) c2)]) := fun x hx => by
 rcases List.mem_append.1 hx with hx | hx
 · obtain ⟨b, o, h1⟩ := h x hx
   exact ⟨b, o, fun w ex => (h1 w ex).mono ((List.sublist_append_left _ _).trans (List.sublist_append_left _ _))⟩
 · rcases h' x hx with rfl | ⟨b, o, h1⟩
   · exact ⟨g, 0, fun w ex => (Sp.row (by rw [ic_length, Nat.mul_one])).mono (List.sublist_append_right _ _)⟩
   · exact ⟨b, o, fun w ex => (h1 w ex).mono ((List.sublist_append_right _ _).trans (List.sublist_append_left _ _))⟩
theorem flatMap_len {α β : Type} {f : α → List β} {m : Nat} : ∀ (l : List α), (∀ x ∈ l, (f x).length ≤ m) → (l.flatMap f).length ≤ l.length * m
 | [], _ => by simp
 | x :: l, h => by
   rw [List.flatMap_cons, List.length_append, List.length_cons, Nat.succ_mul]
   have h1 := h x List.mem_cons_self
   have h2 := flatMap_len l fun y hy => h y (List.mem_cons_of_mem _ hy)
   omega
theorem asgP_le : ∀ (k : Nat) (b : List Int) (sh : Nat), (asgP k b sh).length ≤ (sh + k) ^ k
 | 0, b, sh => by simp [asgP]
 | k + 1, b, sh => by
   have h := flatMap_len (f := fun n : Nat => asgP k (b ++ [(n : Int)]) (max sh (n + 1))) (m := (sh + (k + 1)) ^ k) (List.range (sh + 1)) fun n hn => by
     have := List.mem_range.1 hn
     exact Nat.le_trans (asgP_le k _ _) (Nat.pow_le_pow_left (by omega) k)
   rw [List.length_range] at h
   rw [Nat.pow_succ, Nat.mul_comm]
   exact Nat.le_trans h (Nat.mul_le_mul_right _ (by omega))
theorem asgP_few {k sh : Nat} (b : List Int) (h : sh + k ≤ 5) : (asgP k b sh).length ≤ 3125 :=
 Nat.le_trans (asgP_le k b sh) (Nat.le_trans (Nat.pow_le_pow_left h k) (Nat.le_trans (Nat.pow_le_pow_right (by omega) (by omega : k ≤ 5)) (by decide)))
theorem asgP_pos : ∀ (k : Nat) (b : List Int) (sh : Nat), 0 < (asgP k b sh).length
 | 0, b, sh => by simp [asgP]
 | k + 1, b, sh => by
   have h0 := asgP_pos k (b ++ [((0 : Nat) : Int)]) (max sh (0 + 1))
   obtain ⟨x, hx⟩ := List.exists_mem_of_length_pos h0
   exact List.length_pos_of_mem (List.mem_flatMap.2 ⟨0, List.mem_range.2 (by omega), hx⟩)
theorem asN_few {k sh x : Nat} {b : List Int} (h : sh + (k + 1) ≤ 5) (hx : x ≤ sh + 1) : (asN k b sh x).length ≤ 3125 := by
 have h1 := (asN_mono (k := k) (b := b) (sh := sh) (x := x) (sh + 1 - x)).length_le
 rw [show x + (sh + 1 - x) = sh + 1 by omega, ← asN_end] at h1
 exact Nat.le_trans h1 (asgP_few b h)
theorem numI_snoc {l : List Int} {x : Int} : numI (l ++ [x]) = max (numI l) (x + 1) := by
 unfold numI
 rw [List.foldl_append]
 rfl
theorem lc_app (l r : List LE) : lc l ++ lc r = lc (l ++ r) := by simp [lc]
def AsgLPost (k : Nat) (g : List Int) (x0 : LE) (sh : Nat) (w : World) (e : Ending) (w' : World) : Prop := ∃ (A : Option Addr) (c : Nat) (LL : List LE) (I : List (Nat × BA)), e = .returned (.slice A LL.length c) ∧ LL.map (·.1) = (asgP k g sh).map (·.1) ∧ LL.length ≤ c ∧ (∃ b o, ∀ (w : World) (ex : Nat → Prop), Sp w ex I A LL.length 1 b o (lc LL)) ∧ ElsB LL x0 I ∧ Mem w noEx w' I
def AsgSpec (m k : Nat) : Prop := ∀ (g : List Int) (G : Option Addr) (n sh : Nat) (w : World), Rd w w.heap.size 1 G g.length (ic g) → g.length ≤ n → g.length + k = m → numI g = (sh : Int) → sh ≤ g.length → (∀ x ∈ g, 0 ≤ x ∧ x ≤ 1000) → Calls Tryd.prog 35 #[.int .i64 (m : Int), .slice G g.length n] w (AsgLPost k g (g, G, n) sh w)
set_option maxHeartbeats 4000000 in
theorem asg_step (G : Option Addr) (n : Nat) (g : List Int) (m k sh : Nat)  (w : World) (hG : Rd w w.heap.size 1 G g.length (ic g)) (hm5 : m ≤ 5) (ih : ∀ k1, k = k1 + 1 → AsgSpec m k1) (hgn : g.length ≤ n) (hk : g.length + k = m) (hsh : numI g = (sh : Int)) (hsg : sh ≤ g.length) (hgb : ∀ x ∈ g, 0 ≤ x ∧ x ≤ 1000)  :
   Calls Tryd.prog 35 #[.int .i64 (m : Int), .slice G g.length n] w (AsgLPost k g (g, G, n) sh w) := by
 obtain ⟨bG, oG, SG⟩ := Sp.old hG
 refine px_enter noEx Tryd.func35 rfl 44 rfl [.int .i64 (m : Int), .slice G g.length n] rfl rfl (Mem.init w _) ?_
 intro ac wc T M
 refine wp_seq ?_
 refine wp_region_lit ?_
 refine lq T (rn_assign rfl evc) ?_; clear T ac; intro ac T
 refine wpList_nil ?_
 replace T := T.pick [1, 2] rfl
 refine nm_then ?_
 refine wp_seq ?_
 refine wp_seq ?_
 refine wp_region_lit ?_
 refine lq T (rn_move rfl (T.ev 1 rfl)) ?_; clear T ac; intro ac T
 refine lq T (rn_lenS rfl Tryd.underlying27 (T.ev 0 rfl)) ?_; clear T ac; intro ac T
 refine lq T (rn_move rfl (T.ev 2 rfl)) ?_; clear T ac; intro ac T
 refine lq T (rn_eql rfl (T.ev 1 rfl) (T.ev 0 rfl)) ?_; clear T ac; intro ac T
 refine wpList_nil ?_
 replace T := T.pick [0, 4, 5] rfl
 refine nm_then ?_
 refine wp_if (T.ev 0 rfl) ?_ ?_
 ·intro h1
  obtain rfl : k = 0 := by omega
  refine wp_seq ?_
  refine wp_region_lit ?_
  refine lq T (rn_move rfl (T.ev 2 rfl)) ?_; clear T ac; intro ac T
  refine l_w rfl ?_; intro K hK
  refine ow_bs (e := 27) [.slice G g.length n] M T rfl rfl rfl rfl (.cons (T.ev 0 rfl) .nil) (fun _ => by kernel_rfl) ?_; clear M T; intro g1 wc ac M T
  refine sh_out hK _ _ ?_; clear hK K
  refine lq T (rn_assign rfl (T.ev 0 rfl)) ?_; clear T ac; intro ac T
  refine wpList_nil ?_
  replace T := T.pick [0] rfl
  refine nm_then ?_
  refine wp_ret ?_
  refine rt_then ?_
  refine rt_1 T rfl (T.ev 0 rfl) ?_
  exact ⟨_, _, [(g, G, n)], _, rfl, rfl, Nat.le_refl _, ⟨g1, 0, fun w ex => Sp.cells (xs := lc [(g, G, n)]) rfl⟩, fun x hx => .inl (List.mem_singleton.1 hx), M⟩
 intro h1
 obtain ⟨k1, rfl⟩ : ∃ k1, k = k1 + 1 := ⟨k - 1, by omega⟩
 refine wp_skip ?_
 refine nm_then ?_
 refine wp_seq ?_
 refine wp_region_lit ?_
 refine lq T (rn_assign rfl evc) ?_; clear T ac; intro ac T
 refine wpList_nil ?_
 replace T := T.pick [0, 2, 3] rfl
 refine nm_then ?_
 refine wp_seq ?_
 refine wp_seq ?_
 refine wp_region_lit ?_
 refine lq T (rn_assign rfl evc) ?_; clear T ac; intro ac T
 refine wpList_nil ?_
 refine nm_then ?_
 refine wp_block ?_
 refine wp_loop_n (fun mz ac wc => ∃ (i : Nat) (m9 : Int), mz = g.length - i ∧ (i ≤ g.length) ∧ (m9 = numI (g.take i)) ∧ (0 ≤ m9 ∧ m9 ≤ 1001) ∧ Tm ac 44 [(0, .int .i64 (m : Int)), (1, .slice G g.length n), (5, .int .i64 m9), (6, .int .i64 (i : Int))] ∧ Mem w noEx wc []) ?_ ?_
 ·exact ⟨_, 0, 0, rfl, (Nat.zero_le _), rfl, (by omega), T.pick [2, 3, 1, 0] rfl, M.mask [] rfl⟩
 clear T M
 rintro mz ac wc ⟨i, m9, hmm1, hi, hm, hb, T, M⟩
 refine wp_seq ?_
 refine wp_seq ?_
 refine wp_region_lit ?_
 refine lq T (rn_move rfl (T.ev 3 rfl)) ?_; clear T ac; intro ac T
 refine lq T (rn_move rfl (T.ev 2 rfl)) ?_; clear T ac; intro ac T
 refine lq T (rn_lenS rfl Tryd.underlying27 (T.ev 0 rfl)) ?_; clear T ac; intro ac T
 refine lq T (rn_lss rfl (T.ev 2 rfl) (T.ev 0 rfl)) ?_; clear T ac; intro ac T
 refine wpList_nil ?_
 replace T := T.pick [0, 4, 5, 6, 7] rfl
 refine nm_then ?_
 refine wp_if (T.ev 0 rfl) ?_ ?_
 ·intro h2
  obtain ⟨x, hkx, -⟩ := ic_next (l := g) (k := i) (by omega)
  have hx := hgb x (List.mem_of_getElem? hkx)
  refine wp_skip ?_
  refine nm_then ?_
  refine wp_seq ?_
  refine wp_block ?_
  refine wp_region_lit ?_
  refine lq T (rn_move rfl (T.ev 3 rfl)) ?_; clear T ac; intro ac T
  refine lq T (rn_move rfl (T.ev 3 rfl)) ?_; clear T ac; intro ac T
  refine lq T (rn_move rfl (T.ev 6 rfl)) ?_; clear T ac; intro ac T
  refine lq T (rn_indexAddr (size := 1) i rfl (T.ev 1 rfl) (T.ev 0 rfl) ⟨_, Tryd.underlying27, by kernel_rfl⟩ rfl (by omega) (SG.at0 (by omega))) ?_; clear T ac; intro ac T
  refine lq T (rn_cell (Sp.ic0 SG M (List.nil_sublist _) hkx) rfl (T.ev 0 rfl)) ?_; clear T ac; intro ac T
  refine lq T (rn_add rfl (T.ev 0 rfl) evc (by omega)) ?_; clear T ac; intro ac T
  refine lq T (rn_max2 rfl (T.ev 5 rfl) (T.ev 0 rfl)) ?_; clear T ac; intro ac T
  refine l_q (v := (.int .i64 (max m9 (x + 1)))) (T.pick [0, 1, 2, 3, 4, 5, 6, 7, 8, 9, 11] rfl) rfl rfl rfl rfl (rn_assign rfl (T.ev 0 rfl)) ?_; clear T ac; intro ac T
  refine wpList_nil ?_
  replace T := T.pick [0, 9, 10, 11] rfl
  refine nm_blk ?_
  refine nm_then ?_
  refine wp_region_lit ?_
  refine lq T (rn_move rfl (T.ev 3 rfl)) ?_; clear T ac; intro ac T
  refine lq T (rn_add rfl (T.ev 0 rfl) evc (by omega)) ?_; clear T ac; intro ac T
  refine l_q (v := (.int .i64 ((i : Int) + 1))) (T.pick [0, 1, 2, 3, 4] rfl) rfl rfl rfl rfl (rn_assign rfl (T.ev 0 rfl)) ?_; clear T ac; intro ac T
  refine wpList_nil ?_
  replace T := T.pick [0, 3, 4, 5] rfl
  refine nm_then ?_
  exact ⟨_, by omega, i + 1, _, rfl, (by omega), (by rw [numI_take hkx, hm]), (by omega), T.pick [2, 3, 1, 0] rfl, M.mask [] rfl⟩
 intro h2
 rw [List.take_of_length_le (by omega), hsh] at hm
 refine wp_exit ?_
 refine ex_then ?_
 refine ex_then ?_
 refine ex_hit ?_
 refine nm_then ?_
 refine wp_seq ?_
 refine wp_region_lit ?_
 refine lq T (rn_assign rfl evc) ?_; clear T ac; intro ac T
 refine wpList_nil ?_
 replace T := T.pick [0, 2, 3, 4] rfl
 refine nm_then ?_
 refine wp_seq ?_
 refine wp_seq ?_
 refine wp_region_lit ?_
 refine lq T (rn_assign rfl evc) ?_; clear T ac; intro ac T
 refine wpList_nil ?_
 refine nm_then ?_
 refine wp_block ?_
 refine wp_loop_n (fun mz ac wc => ∃ (j : Nat) (OL : List LE) (A3 : Option Addr) (c3 : Nat) (Ie Io : List (Nat × BA)), mz = sh + 1 - j ∧ (j ≤ sh + 1) ∧ (OL.map (·.1) = (asN k1 g sh j).map (·.1)) ∧ (ElsO OL Ie) ∧ (Sl 27 1 (.slice A3 OL.length c3) OL.length (lc OL) Io) ∧ Tm ac 44 [(0, .int .i64 (m : Int)), (1, .slice G g.length n), (5, .int .i64 m9), (7, .slice A3 OL.length c3), (8, .int .i64 (j : Int))] ∧ Mem w noEx wc ((Ie ++ Io))) ?_ ?_
 ·exact ⟨_, 0, [], none, 0, [], [], rfl, (Nat.zero_le _), rfl, (fun x hx => by cases hx), (Sl.nil _ _), T.pick [2, 3, 4, 1, 0] rfl, M.mask [] rfl⟩
 clear T M
 rintro mz ac wc ⟨j, OL, A3, c3, Ie, Io, hmm2, hj, hO, hE, hsl, T, M⟩
 refine wp_seq ?_
 refine wp_seq ?_
 refine wp_region_lit ?_
 refine lq T (rn_move rfl (T.ev 4 rfl)) ?_; clear T ac; intro ac T
 refine lq T (rn_move rfl (T.ev 3 rfl)) ?_; clear T ac; intro ac T
 refine lq T (rn_leq rfl (T.ev 1 rfl) (T.ev 0 rfl)) ?_; clear T ac; intro ac T
 refine wpList_nil ?_
 replace T := T.pick [0, 3, 4, 5, 6, 7] rfl
 refine nm_then ?_
 refine wp_if (T.ev 0 rfl) ?_ ?_
 ·intro h3
  have hOn : OL.length ≤ 3125 := by rw [← List.length_map (f := (·.1)), hO, List.length_map]; exact asN_few (by omega) (by omega)
  refine wp_skip ?_
  refine nm_then ?_
  refine wp_seq ?_
  refine wp_block ?_
  refine wp_region_lit ?_
  refine lq T (rn_move rfl (T.ev 4 rfl)) ?_; clear T ac; intro ac T
  refine lq T (rn_move rfl (T.ev 2 rfl)) ?_; clear T ac; intro ac T
  refine l_w rfl ?_; intro K hK
  refine ow_bs0 (e := 3) M T rfl rfl rfl rfl (fun _ => by kernel_rfl) ?_; clear M T; intro g2 wc ac M T
  refine sh_out hK _ _ ?_; clear hK K
  refine lq T (rn_move rfl (T.ev 5 rfl)) ?_; clear T ac; intro ac T
  refine l_w rfl ?_; intro K hK
  refine ow_appS Tryd.info3 M T rfl rfl rfl rfl (fun g w => Tryd.append0_27 _ _ g _ w) Tryd.underlying27 rfl rfl rfl (by omega) (T.ev 1 rfl) (T.ev 0 rfl) (SG.rd M (List.nil_sublist _)) (icl_one _) ?_; clear M T; intro Augo1 cugo1 Iugo1 wc ac hSmgo1 M T
  replace M : Mem w noEx wc ((Ie ++ Io ++ Iugo1)) := M.swapI
  refine sh_out hK _ _ ?_; clear hK K
  have hclgo1 : Cl 3 1 Augo1 g.length cugo1 (ic g) Iugo1 := .inr hSmgo1
  refine lq T (rn_move rfl (T.ev 10 rfl)) ?_; clear T ac; intro ac T
  refine l_w rfl ?_; intro K hK
  refine ow_bs (e := 3) [.int .i64 (j : Int)] M T rfl rfl rfl rfl (.cons (T.ev 0 rfl) .nil) (fun _ => by kernel_rfl) ?_; clear M T; intro g3 wc ac M T
  refine sh_out hK _ _ ?_; clear hK K
  refine l_w rfl ?_; intro K hK
  refine ow_appC (((g3, .cells [.int .i64 (j : Int)]) :: (Ie ++ Io))) Tryd.info3 hclgo1 M (by first | rfl | simp) T rfl rfl rfl rfl Tryd.underlying27 rfl rfl rfl (by omega) (T.ev 2 rfl) (T.ev 0 rfl) (nthE_mem (i := 0) rfl) rfl rfl ?_; clear M T; intro ga1 cga1 wc ac M T
  refine sh_out hK _ _ ?_; clear hK K
  have e9 : g.length + 1 = (g ++ [(j : Int)]).length := by simp
  have e8 : ((ic g) ++ [.int .i64 (j : Int)]) = ic (g ++ [(j : Int)]) := by rw [← ic_snoc]
  rw [e9, e8] at M
  rw [e9] at T
  clear e9 e8
  refine l_w rfl ?_; intro K hK
  have e9 : numI (g ++ [(j : Int)]) = ((max sh (j + 1) : Nat) : Int) := by rw [numI_snoc, hsh]; omega
  refine ow_call (first := []) (cap := []) T rfl rfl rfl rfl evf (.cons (T.ev 6 rfl) (.cons (T.ev 0 rfl) .nil)) Tryd.func35 rfl rfl ?_
  refine Calls.mono (ih k1 rfl (g ++ [(j : Int)]) _ _ (max sh (j + 1)) _ (M.rdRow (nthE_mem (i := 0) rfl)) ((Cl.row _ _ ga1 _ _ _).capLe M (List.Sublist.cons_cons _ (List.nil_sublist _))) (by simp; omega) e9 (by simp; omega) (fun x hx => by rcases List.mem_append.1 hx with hx | hx; exact hgb x hx; rw [List.mem_singleton.1 hx]; omega)) ?_
  clear T
  rintro e wc ⟨Au1, cu1, LLu1, Iu1, rfl, hLu1, hcu1, hSu1, hEu1, N⟩
  intro ac T
  obtain ⟨bu1, ou1, hSu1⟩ := hSu1
  have Su1 := hSu1 w noEx
  replace M := (M.join N).swapI
  replace M : Mem w noEx wc ((ga1, .row 3 1 (g ++ [(j : Int)]).length (ic (g ++ [(j : Int)])) cga1) :: (g3, .cells [.int .i64 (j : Int)]) :: (Ie ++ Io ++ Iu1)) := M
  clear N
  have hllu1 : LLu1.length = (asgP k1 (g ++ [(j : Int)]) (max sh (j + 1))).length := by rw [← List.length_map (f := (·.1)), hLu1, List.length_map]
  have hlp : 0 < LLu1.length := by rw [hllu1]; exact asgP_pos _ _ _
  have hl2 := asgP_few (k := k1) (sh := max sh (j + 1)) (g ++ [(j : Int)]) (by omega)
  refine sh_out hK _ _ ?_; clear hK K
  refine l_w rfl ?_; intro K hK
  replace M : Mem w noEx wc ((ga1, .row 3 1 (g ++ [(j : Int)]).length (ic (g ++ [(j : Int)])) cga1) :: (g3, .cells [.int .i64 (j : Int)]) :: (Ie ++ Iu1 ++ Io)) := M.tail3 (K := [(ga1, .row 3 1 (g ++ [(j : Int)]).length (ic (g ++ [(j : Int)])) cga1), (g3, .cells [.int .i64 (j : Int)])]) (A := Ie)
  refine ow_appV (((ga1, .row 3 1 (g ++ [(j : Int)]).length (ic (g ++ [(j : Int)])) cga1) :: (g3, .cells [.int .i64 (j : Int)]) :: (Ie ++ Iu1))) Tryd.info27 hsl M (by first | rfl | simp) T rfl rfl rfl rfl Tryd.underlying43 rfl rfl rfl (by omega) hlp (T.ev 8 rfl) (T.ev 0 rfl) (Su1.rd M (.cons _ (.cons _ (subL (List.sublist_append_right _ _))))) (lc_one _) ?_; clear M T; intro go2 cgo2 wc ac M T
  have e9 : OL.length + LLu1.length = (OL ++ LLu1).length := by rw [List.length_append]
  rw [e9, lc_app] at M
  rw [e9] at T
  clear e9
  refine sh_out hK _ _ ?_; clear hK K
  refine l_q (v := (.slice (some ⟨go2, 0, none⟩) ((OL ++ LLu1).length) cgo2)) (T.pick [0, 1, 2, 3, 4, 5, 6, 7, 8, 9, 10, 11, 12, 13, 15] rfl) rfl rfl rfl rfl (rn_assign rfl (T.ev 0 rfl)) ?_; clear T ac; intro ac T
  refine wpList_nil ?_
  replace T := T.pick [0, 12, 13, 14, 15] rfl
  replace M := M.mask [true, true, false] rfl
  refine nm_blk ?_
  refine nm_then ?_
  refine wp_region_lit ?_
  refine lq T (rn_move rfl (T.ev 4 rfl)) ?_; clear T ac; intro ac T
  refine lq T (rn_add rfl (T.ev 0 rfl) evc (by omega)) ?_; clear T ac; intro ac T
  refine l_q (v := (.int .i64 ((j : Int) + 1))) (T.pick [0, 1, 2, 3, 4, 5] rfl) rfl rfl rfl rfl (rn_assign rfl (T.ev 0 rfl)) ?_; clear T ac; intro ac T
  refine wpList_nil ?_
  replace T := T.pick [0, 3, 4, 5, 6] rfl
  refine nm_then ?_
  exact ⟨_, by omega, j + 1, (OL ++ LLu1), _, _, (Ie ++ Iu1 ++ [(ga1, .row 3 1 (g ++ [(j : Int)]).length (ic (g ++ [(j : Int)])) cga1)]), [(go2, .row 27 1 (OL ++ LLu1).length (lc (OL ++ LLu1)) cgo2)], rfl, (by omega), (by rw [List.map_append, hO, hLu1, asN_succ, List.map_append]), (hE.step hEu1), (Sl.row _ _ _ _ _ _), T.pick [2, 3, 4, 1, 0] rfl, (by rw [List.append_assoc (Ie ++ Iu1)]; exact Mem.swapI (I := [(ga1, .row 3 1 (g ++ [(j : Int)]).length (ic (g ++ [(j : Int)])) cga1), (go2, .row 27 1 (OL ++ LLu1).length (lc (OL ++ LLu1)) cgo2)]) (L := Ie ++ Iu1) (M.permT [1, 0] 2 rfl rfl rfl rfl))⟩
 intro h3
 refine wp_exit ?_
 refine ex_then ?_
 refine ex_then ?_
 refine ex_hit ?_
 refine nm_then ?_
 refine wp_seq ?_
 refine wp_region_lit ?_
 refine lq T (rn_move rfl (T.ev 4 rfl)) ?_; clear T ac; intro ac T
 refine lq T (rn_assign rfl (T.ev 0 rfl)) ?_; clear T ac; intro ac T
 refine wpList_nil ?_
 replace T := T.pick [0] rfl
 refine nm_then ?_
 refine wp_ret ?_
 refine rt_1 T rfl (T.ev 0 rfl) ?_
 obtain ⟨b9, o9, h9⟩ := hsl.spV (by rw [lc_length]; omega)
 have hcap := hsl.capLe M (List.sublist_append_right _ _)
 refine ⟨A3, c3, OL, _, rfl, ?_, hcap, ⟨b9, o9, fun w ex => (h9 w ex).mono (List.sublist_append_right _ _)⟩, fun x hx => .inr (by obtain ⟨b, o, h1⟩ := hE x hx; exact ⟨b, o, fun w ex => (h1 w ex).mono (List.sublist_append_left _ _)⟩), M⟩
 rw [hO, show j = sh + 1 by omega, ← asN_end]
theorem assignments_any (m : Nat) (hm5 : m ≤ 5) : ∀ k : Nat, AsgSpec m k := by
 intro k
 induction k with
 | zero => exact fun g G n sh w hG hgn hk hsh hsg hgb => asg_step G n g m 0 sh w hG hm5 (fun k1 h => by omega) hgn hk hsh hsg hgb
 | succ k ihk => exact fun g G n sh w hG hgn hk hsh hsg hgb => asg_step G n g m (k + 1) sh w hG hm5 (fun k1 h => by obtain rfl : k1 = k := (by omega); exact ihk) hgn hk hsh hsg hgb
end Go.Proofs.YtehpcclfgjccbaaDoor
end

section
/-
 sheet's law: no numbering has fewer sheets.
-/
namespace Go.Proofs.YtehpcclfgjccbaaDoor
set_option linter.unusedSimpArgs false
set_option linter.unusedVariables false
open Go.RowKit
theorem few_hit {s : Sk} {su : Bool} (hg : s.good) {i m : Nat} {lv : List Int} (hx : (asgP s.ps.length [] 0)[i]? = some (lv, m)) (hp : willB s su lv m = true) (hA : ∀ x ∈ asgP s.ps.length [] 0, x.2 < m → willB s su x.1 x.2 = false)
   (hB : ∀ (j : Nat) (x : List Int × Nat), j < i → (asgP s.ps.length [] 0)[j]? = some x → x.2 = m → willB s su x.1 x.2 = false) : shE s su = 0 ∧ (shN s su : Int) = (m : Int) ∧ shL s su = lv := by
 obtain ⟨h1, h2⟩ := fewF_spec (fun x => willB s su x.1 x.2) (asgP s.ps.length [] 0)
 have hm := List.mem_of_getElem? hx
 cases hf : shF s su with
 | none =>
   have := h1 hf _ hm
   rw [show willB s su (lv, m).1 (lv, m).2 = true from hp] at this
   cases this
 | some y =>
   obtain ⟨k1, k2, k3, k4⟩ := h2 y hf
   have hle : y.2 ≤ m := k4 _ hm hp
   have hge : ¬ y.2 < m := fun h => by
     have := hA y k3 h
     rw [k2] at this
     cases this
   have hye : y.2 = m := by omega
   obtain ⟨-, i', hi', he, hj⟩ := List.find?_eq_some_iff_getElem.1 k1
   obtain ⟨hi, hxe⟩ := List.getElem?_eq_some_iff.1 hx
   have hy : y = (lv, m) := by
     rcases Nat.lt_trichotomy i i' with h | h | h
     · have := hj i h
       rw [hxe] at this
       simp [hye, hp] at this
     · subst h
       rw [← he, hxe]
     · have := hB i' y h (by rw [List.getElem?_eq_getElem hi', he]) hye
       rw [k2] at this
       cases this
   have h0 : shE s su = 0 := by
     unfold shE
     rw [if_neg (by rw [skErr_iff.2 hg]; decide), hf]
     rfl
   obtain ⟨l', m', e1, e2, e3⟩ := (shE_some hg).1 h0
   rw [hf, hy] at e1
   injection e1 with e1
   injection e1 with e1 e4
   exact ⟨h0, by omega, by rw [e3, e1]⟩
theorem few_none {s : Sk} {su : Bool} (hg : s.good) (hA : ∀ x ∈ asgP s.ps.length [] 0, willB s su x.1 x.2 = false) : shE s su = 11 ∧ shL s su = [] := by
 obtain ⟨h1, h2⟩ := fewF_spec (fun x => willB s su x.1 x.2) (asgP s.ps.length [] 0)
 have hf : shF s su = none := by
   cases hf : shF s su with
   | none => rfl
   | some y =>
     obtain ⟨k1, k2, k3, k4⟩ := h2 y hf
     have := hA y k3
     rw [k2] at this
     cases this
 have hE : shE s su = 11 := by
   unfold shE
   rw [if_neg (by rw [skErr_iff.2 hg]; decide), hf]
   rfl
 exact ⟨hE, by unfold shL; rw [if_neg (by omega)]⟩
theorem asg_at {k i : Nat} {LL : List LE} {x : LE} (h : LL.map (·.1) = (asgP k [] 0).map (·.1)) (hx : LL[i]? = some x) : ∃ m, (asgP k [] 0)[i]? = some (x.1, m) := by
 have h1 : (LL.map (·.1))[i]? = some x.1 := by rw [List.getElem?_map, hx]; rfl
 rw [h, List.getElem?_map] at h1
 cases h2 : (asgP k [] 0)[i]? with
 | none => rw [h2] at h1; cases h1
 | some y =>
   rw [h2] at h1
   injection h1 with h1
   exact ⟨y.2, by rw [← h1]⟩
theorem ElsB.own {LL : List LE} {I : List (Nat × BA)} (h : ElsB LL ([], none, 0) I) : ElsO LL I := fun x hx => by
 rcases h x hx with rfl | h1
 · exact ⟨0, 0, fun w ex => Sp.nil.mono (List.nil_sublist _)⟩
 · exact h1
set_option maxHeartbeats 4000000 in
theorem SheetFewest_any (D : Option Addr) (n d : Nat) (l : List Int) (w : World) (hl : Rd w w.heap.size 1 D n (ic l)) (hm : n ≤ 9223372036854775807) (hT : TabW w) :
   Calls Tryd.prog 5 #[.slice D n d] w fun e w' => e = .returned (.bool true) ∧ Below w.heap.size w w' := by
 have hll := hl.len1
 obtain ⟨bI, oI, SI⟩ := Sp.old hl
 refine px_enter noEx Tryd.func5 rfl 92 rfl [.slice D n d] rfl rfl (Mem.init w _) ?_
 intro ac wc T M
 refine wp_seq ?_
 refine wp_region_lit ?_
 refine lq T (rn_assign rfl evc) ?_; clear T ac; intro ac T
 refine wpList_nil ?_
 replace T := T.pick [1] rfl
 refine nm_then ?_
 refine wp_seq ?_
 refine wp_region_lit ?_
 refine lq T (rn_move rfl (T.ev 0 rfl)) ?_; clear T ac; intro ac T
 refine l_w rfl ?_; intro K hK
 refine ow_call (first := []) (cap := []) T rfl rfl rfl rfl evf (.cons (T.ev 0 rfl) .nil) Tryd.func18 rfl rfl ?_
 refine Calls.mono (newPot_any _ _ _ l _ (SI.rd M (List.nil_sublist _)) (by omega)) ?_
 clear T
 rintro e wc ⟨bpu1, su1, hsu1, rfl, N⟩
 intro ac T
 replace M := M.join N; clear N
 replace M := M.mask [true] rfl
 refine sh_out hK _ _ ?_; clear hK K
 refine lq T (rn_assign rfl (T.ev 0 rfl)) ?_; clear T ac; intro ac T
 refine wpList_nil ?_
 replace T := T.pick [0] rfl
 refine nm_then ?_
 refine wp_seq ?_
 refine wp_region_lit ?_
 refine lq T (rn_move rfl (T.ev 0 rfl)) ?_; clear T ac; intro ac T
 refine l_w rfl ?_; intro K hK
 refine ow_call (first := []) (cap := []) T rfl rfl rfl rfl evf (.cons (T.ev 0 rfl) (.cons evc (.cons evc .nil))) Tryd.func19 rfl rfl ?_
 refine Calls.mono (sheetOf_any _ bpu1 5 4 _ (by omega) (by omega) (M.nth 0 rfl) hsu1) ?_
 clear T
 rintro e wc ⟨s, AKu2, cKu2, sdu2, IKu2, rfl, hsgs, ⟨⟨hbls, hbws⟩, hbps⟩, hsu2, hcpKu2, SVKu2, N⟩
 intro ac T
 obtain ⟨bAKu2, oAKu2, SVKu2⟩ := SVKu2
 have SAKu2 := SVKu2 w noEx
 replace M := M.joinEI N .head
 clear N
 replace M : Mem w noEx wc ((bpu1, .cells [.int .u64 sdu2]) :: IKu2) := M
 have hlns := hsgs.len
 obtain ⟨hg1s, hg2s, hg3s, hg4s, -, -⟩ := id hsgs
 refine sh_out hK _ _ ?_; clear hK K
 refine l_w rfl ?_; intro K hK
 refine ow_al M T rfl rfl rfl rfl ?_; clear M T; intro g1 wc ac M T
 refine sh_out hK _ _ ?_; clear hK K
 refine l_w rfl ?_; intro K hK
 refine ow_stO M T rfl rfl (T.ev 0 rfl) (T.ev 1 rfl) rfl .head rfl (by simp) rfl (by kernel_rfl) ?_; clear M T; intro wc ac M T
 refine sh_out hK _ _ ?_; clear hK K
 refine wpList_nil ?_
 replace T := T.pick [0, 3] rfl
 refine nm_then ?_
 refine wp_seq ?_
 refine wp_region_lit ?_
 refine lq T (rn_move rfl (T.ev 1 rfl)) ?_; clear T ac; intro ac T
 refine l_w rfl ?_; intro K hK
 refine ow_call (first := []) (cap := []) T rfl rfl rfl rfl evf (.cons (T.ev 0 rfl) (.cons evc (.cons evc .nil))) Tryd.func23 rfl rfl ?_
 refine Calls.mono (odds_any _ bpu1 1 2 _ (by omega) (by omega) (M.nth 1 rfl) hsu2) ?_
 clear T
 rintro e wc ⟨bu3, su3, hsu3, rfl, hgr, hbk⟩
 intro ac T
 replace M := M.callC (cs' := [.int .u64 su3]) (.tail .head) hgr hbk
 clear hgr hbk
 refine sh_out hK _ _ ?_; clear hK K
 refine lq T (rn_assign rfl (T.ev 0 rfl)) ?_; clear T ac; intro ac T
 refine wpList_nil ?_
 replace T := T.pick [0, 3] rfl
 replace M := M.mask [true, false] rfl
 refine nm_then ?_
 refine wp_seq ?_
 refine wp_region_lit ?_
 refine lq T (rn_rowO (Mem.nth M 0 rfl) rfl (T.ev 1 rfl) rfl) ?_; clear T ac; intro ac T
 refine lq T (rn_move rfl (T.ev 1 rfl)) ?_; clear T ac; intro ac T
 refine l_w rfl ?_; intro K hK
 refine ow_call (first := []) (cap := []) T rfl rfl rfl rfl evf (.cons (T.ev 1 rfl) (.cons (T.ev 0 rfl) .nil)) Tryd.func34 rfl rfl ?_
 refine Calls.mono (Sheets_any s AKu2 cKu2 bu3 _ (SAKu2.rd M (.cons _ (List.Sublist.refl _))) (by omega) (by omega) (hT.mem M (fun h => h))) ?_
 clear T
 rintro e wc ⟨ASu4, cSu4, ISu4, rfl, hcpSu4, SVSu4, N⟩
 intro ac T
 obtain ⟨bASu4, oASu4, SVSu4⟩ := SVSu4
 have SASu4 := SVSu4 w noEx
 replace M := (M.join N).swapI
 clear N
 replace M : Mem w noEx wc ((g1, .cells [.int .i64 s.lo, .int .i64 s.wi, .int .i64 s.a0, .int .i64 s.a1, .int .i64 s.c0, .int .i64 s.c1, .slice AKu2 s.ps.length cKu2]) :: (IKu2 ++ ISu4)) := M
 refine sh_out hK _ _ ?_; clear hK K
 refine lq T (rn_move rfl (T.ev 0 rfl)) ?_; clear T ac; intro ac T
 refine lq T (rn_extract rfl (T.ev 0 rfl) rfl) ?_; clear T ac; intro ac T
 refine lq T (rn_extract rfl (T.ev 1 rfl) rfl) ?_; clear T ac; intro ac T
 refine lq T (rn_extract rfl (T.ev 2 rfl) rfl) ?_; clear T ac; intro ac T
 refine lq T (rn_assign rfl (T.ev 2 rfl)) ?_; clear T ac; intro ac T
 refine lq T (rn_assign rfl (T.ev 2 rfl)) ?_; clear T ac; intro ac T
 refine lq T (rn_assign rfl (T.ev 2 rfl)) ?_; clear T ac; intro ac T
 refine wpList_nil ?_
 replace T := T.pick [0, 1, 2, 10, 11] rfl
 refine nm_then ?_
 refine wp_seq ?_
 refine wp_region_lit ?_
 refine lq (v := (.pointer (some ⟨g1, 6, none⟩))) T (rn_fieldAddr (off := 6) rfl (T.ev 4 rfl) (fun _ _ _ => by kernel_rfl)) ?_; clear T ac; intro ac T
 refine lq T (rn_one (Mem.nth M 0 rfl) rfl (T.ev 0 rfl) rfl) ?_; clear T ac; intro ac T
 refine lq T (rn_lenS rfl Tryd.underlying24 (T.ev 0 rfl)) ?_; clear T ac; intro ac T
 refine l_w rfl ?_; intro K hK
 refine ow_call (first := []) (cap := []) T rfl rfl rfl rfl evf (.cons (T.ev 0 rfl) (.cons evc .nil)) Tryd.func35 rfl rfl ?_
 refine Calls.mono (assignments_any s.ps.length hlns s.ps.length [] none 0 0 _ ⟨by simp [ic], fun h => absurd h (by simp)⟩ (Nat.le_refl _) (by simp) rfl (Nat.le_refl _) (fun x h => by cases h)) ?_
 clear T
 rintro e wc ⟨Au5, cu5, LLu5, Iu5, rfl, hLu5, hcu5, hSu5, hEu5, N⟩
 intro ac T
 obtain ⟨bu5, ou5, hSu5⟩ := hSu5
 have Su5 := hSu5 w noEx
 replace M := (M.join N).swapI
 replace M : Mem w noEx wc ((g1, .cells [.int .i64 s.lo, .int .i64 s.wi, .int .i64 s.a0, .int .i64 s.a1, .int .i64 s.c0, .int .i64 s.c1, .slice AKu2 s.ps.length cKu2]) :: (IKu2 ++ ISu4 ++ Iu5)) := M
 clear N
 have hEo := hEu5.own
 have hllu5 : LLu5.length = (asgP s.ps.length [] 0).length := by rw [← List.length_map (f := (·.1)), hLu5, List.length_map]
 have hl2 := asgP_few (k := s.ps.length) (sh := 0) [] (by omega)
 refine sh_out hK _ _ ?_; clear hK K
 refine lq T (rn_assign rfl (T.ev 0 rfl)) ?_; clear T ac; intro ac T
 refine wpList_nil ?_
 replace T := T.pick [0, 5, 6, 7, 8, 9] rfl
 refine nm_then ?_
 refine wp_seq ?_
 refine wp_seq ?_
 refine wp_region_lit ?_
 refine lq T (rn_assign rfl evc) ?_; clear T ac; intro ac T
 refine wpList_nil ?_
 refine nm_then ?_
 refine wp_block ?_
 refine wp_loop_n (fun mz ac wc => ∃ (mm : Nat), mz = s.ps.length + 1 - mm ∧ (mm ≤ s.ps.length + 1) ∧ (∀ x ∈ asgP s.ps.length [] 0, x.2 < mm → willB s bu3 x.1 x.2 = false) ∧ Tm ac 92 [(4, .pointer (some ⟨g1, 0, none⟩)), (5, .bool bu3), (6, .slice ASu4 ((shL s bu3).length) cSu4), (7, .int .i64 (shN s bu3 : Int)), (8, .int .i64 (shE s bu3)), (9, .slice Au5 LLu5.length cu5), (10, .int .i64 (mm : Int))] ∧ Mem w noEx wc ((g1, .cells [.int .i64 s.lo, .int .i64 s.wi, .int .i64 s.a0, .int .i64 s.a1, .int .i64 s.c0, .int .i64 s.c1, .slice AKu2 s.ps.length cKu2]) :: (IKu2 ++ ISu4 ++ Iu5))) ?_ ?_
 ·exact ⟨_, 0, rfl, (Nat.zero_le _), (fun x h h2 => by omega), T.pick [6, 5, 4, 3, 2, 1, 0] rfl, M.mask [true] rfl⟩
 clear T M
 rintro mz ac wc ⟨mm, hmm1, hmm, HA, T, M⟩
 refine wp_seq ?_
 refine wp_seq ?_
 refine wp_region_lit ?_
 refine lq T (rn_move rfl (T.ev 6 rfl)) ?_; clear T ac; intro ac T
 refine lq (v := (.pointer (some ⟨g1, 6, none⟩))) T (rn_fieldAddr (off := 6) rfl (T.ev 1 rfl) (fun _ _ _ => by kernel_rfl)) ?_; clear T ac; intro ac T
 refine lq T (rn_one (Mem.nth M 0 rfl) rfl (T.ev 0 rfl) rfl) ?_; clear T ac; intro ac T
 refine lq T (rn_lenS rfl Tryd.underlying24 (T.ev 0 rfl)) ?_; clear T ac; intro ac T
 refine lq T (rn_leq rfl (T.ev 3 rfl) (T.ev 0 rfl)) ?_; clear T ac; intro ac T
 refine wpList_nil ?_
 replace T := T.pick [0, 5, 6, 7, 8, 9, 10, 11] rfl
 refine nm_then ?_
 refine wp_if (T.ev 0 rfl) ?_ ?_
 ·intro h1
  refine wp_skip ?_
  refine nm_then ?_
  refine wp_seq ?_
  refine wp_block ?_
  refine wp_seq ?_
  refine wp_region_lit ?_
  refine lq T (rn_assign rfl evc) ?_; clear T ac; intro ac T
  refine wpList_nil ?_
  replace T := T.pick [0, 2, 3, 4, 5, 6, 7, 8] rfl
  refine nm_then ?_
  refine wp_block ?_
  refine wp_loop_n (fun mz ac wc => ∃ (i : Nat), mz = LLu5.length - i ∧ (i ≤ LLu5.length) ∧ (∀ (j : Nat) (x : List Int × Nat), j < i → (asgP s.ps.length [] 0)[j]? = some x → x.2 = mm → willB s bu3 x.1 x.2 = false) ∧ Tm ac 92 [(4, .pointer (some ⟨g1, 0, none⟩)), (5, .bool bu3), (6, .slice ASu4 ((shL s bu3).length) cSu4), (7, .int .i64 (shN s bu3 : Int)), (8, .int .i64 (shE s bu3)), (9, .slice Au5 LLu5.length cu5), (10, .int .i64 (mm : Int)), (11, .int .i64 (i : Int))] ∧ Mem w noEx wc ((g1, .cells [.int .i64 s.lo, .int .i64 s.wi, .int .i64 s.a0, .int .i64 s.a1, .int .i64 s.c0, .int .i64 s.c1, .slice AKu2 s.ps.length cKu2]) :: (IKu2 ++ ISu4 ++ Iu5))) ?_ ?_
  ·exact ⟨_, 0, rfl, (Nat.zero_le _), (fun j x h => by omega), T.pick [1, 2, 3, 4, 5, 6, 7, 0] rfl, M.mask [true] rfl⟩
  clear T M
  rintro mz ac wc ⟨i, hmm2, hi, HB, T, M⟩
  refine wp_seq ?_
  refine wp_seq ?_
  refine wp_region_lit ?_
  refine lq T (rn_move rfl (T.ev 7 rfl)) ?_; clear T ac; intro ac T
  refine lq T (rn_move rfl (T.ev 6 rfl)) ?_; clear T ac; intro ac T
  refine lq T (rn_lenS rfl Tryd.underlying43 (T.ev 0 rfl)) ?_; clear T ac; intro ac T
  refine lq T (rn_lss rfl (T.ev 2 rfl) (T.ev 0 rfl)) ?_; clear T ac; intro ac T
  refine wpList_nil ?_
  replace T := T.pick [0, 4, 5, 6, 7, 8, 9, 10, 11] rfl
  refine nm_then ?_
  refine wp_if (T.ev 0 rfl) ?_ ?_
  ·intro h2
   obtain ⟨⟨lv, Av, cv⟩, hkv⟩ : ∃ x, LLu5[i]? = some x := ⟨_, List.getElem?_eq_getElem (by omega)⟩
   obtain ⟨bv, ov, Sv⟩ := hEo _ (List.mem_of_getElem? hkv)
   replace Sv : Sp w noEx Iu5 Av lv.length 1 bv ov (ic lv) := Sv w noEx
   obtain ⟨m9, hx9⟩ := asg_at hLu5 hkv
   dsimp only at hx9
   obtain ⟨n1, n2, n3, n4⟩ := num_asg (List.mem_of_getElem? hx9)
   refine wp_skip ?_
   refine nm_then ?_
   refine wp_seq ?_
   refine wp_block ?_
   refine wp_seq ?_
   refine wp_seq ?_
   refine wp_region_lit ?_
   refine lq T (rn_move rfl (T.ev 6 rfl)) ?_; clear T ac; intro ac T
   refine lq T (rn_move rfl (T.ev 9 rfl)) ?_; clear T ac; intro ac T
   refine lq T (rn_indexAddr (size := 1) i rfl (T.ev 1 rfl) (T.ev 0 rfl) ⟨_, Tryd.underlying43, by kernel_rfl⟩ rfl (by omega) (Su5.at0 (by omega))) ?_; clear T ac; intro ac T
   refine lq (v := (.slice Av lv.length cv)) T (rn_cell (Sp.lc0 Su5 M (.cons _ (List.sublist_append_right _ _)) hkv) rfl (T.ev 0 rfl)) ?_; clear T ac; intro ac T
   refine l_w rfl ?_; intro K hK
   refine ow_call (first := []) (cap := []) T rfl rfl rfl rfl evf (.cons (T.ev 0 rfl) .nil) Tryd.func36 rfl rfl ?_
   refine Calls.mono (number_any Av cv lv _ (Sv.rd M (.cons _ (List.sublist_append_right _ _))) (by omega) (fun x hx => by have := n4 x hx; omega)) ?_
   clear T
   rintro e wc ⟨rfl, hb⟩
   intro ac T
   rw [n1] at T
   replace M := M.call hb; clear hb
   refine sh_out hK _ _ ?_; clear hK K
   refine lq T (rn_move rfl (T.ev 12 rfl)) ?_; clear T ac; intro ac T
   refine lq T (rn_neq rfl (T.ev 1 rfl) (T.ev 0 rfl)) ?_; clear T ac; intro ac T
   refine wpList_nil ?_
   replace T := T.pick [0, 8, 9, 10, 11, 12, 13, 14, 15] rfl
   refine nm_then ?_
   refine wp_ifn (T.ev 0 rfl) ?_ ?_
   ·intro h3
    refine wp_exit ?_
    refine ex_then ?_
    refine ex_hit ?_
    refine nm_then ?_
    refine wp_region_lit ?_
    refine lq T (rn_move rfl (T.ev 8 rfl)) ?_; clear T ac; intro ac T
    refine lq T (rn_add rfl (T.ev 0 rfl) evc (by omega)) ?_; clear T ac; intro ac T
    refine l_q (v := (.int .i64 ((i : Int) + 1))) (T.pick [0, 1, 2, 3, 4, 5, 6, 7, 8, 9] rfl) rfl rfl rfl rfl (rn_assign rfl (T.ev 0 rfl)) ?_; clear T ac; intro ac T
    refine wpList_nil ?_
    replace T := T.pick [0, 4, 5, 6, 7, 8, 9, 10] rfl
    refine nm_then ?_
    exact ⟨_, by omega, i + 1, rfl, (by omega), (fun j9 x9 h9 e9 f9 => by rcases Nat.lt_or_eq_of_le (Nat.le_of_lt_succ h9) with h8 | rfl; exact HB j9 x9 h8 e9 f9; rw [hx9] at e9; injection e9 with e9; subst e9; dsimp only at f9 ⊢; first | omega | simp_all), T.pick [1, 2, 3, 4, 5, 6, 7, 0] rfl, M.mask [true] rfl⟩
   intro h3
   refine wp_skip ?_
   refine nm_then ?_
   refine wp_seq ?_
   refine g_start2 M (M.mask [true] rfl) 12 (by kernel_rfl) rfl (by kernel_rfl) ?_
   clear M; intro wc M
   refine gq T 0 1 rfl (fun B w' hD hl hS => (rn_rowO (Mem.nth (show Mem w noEx w' _ from hS) 0 rfl) rfl (T.ev 1 rfl) rfl)) ?_; clear T ac; intro ac T
   refine gq T 1 3 rfl (fun _ _ _ _ _ => (rn_move rfl (T.ev 7 rfl))) ?_; clear T ac; intro ac T
   refine gq T 2 7 rfl (fun _ _ _ _ _ => (rn_move rfl (T.ev 10 rfl))) ?_; clear T ac; intro ac T
   refine gq T 3 15 rfl (fun _ _ _ _ _ => (rn_indexAddr (size := 1) i rfl (T.ev 1 rfl) (T.ev 0 rfl) ⟨_, Tryd.underlying43, by kernel_rfl⟩ rfl (by omega) (Su5.at0 (by omega)))) ?_; clear T ac; intro ac T
   refine gq (v := (.slice Av lv.length cv)) T 4 31 rfl (fun B w' hD hl hS => (rn_cell (Sp.lc0 Su5 (show Mem w noEx w' _ from hS) (.cons _ (List.sublist_append_right _ _)) hkv) rfl (T.ev 0 rfl))) ?_; clear T ac; intro ac T
   refine gq T 5 63 rfl (fun _ _ _ _ _ => (rn_move rfl (T.ev 7 rfl))) ?_; clear T ac; intro ac T
   refine gw 6 127 ?_; intro K hK
   refine ow_call (first := []) (cap := []) T rfl rfl rfl rfl evf (.cons (T.ev 5 rfl) (.cons (T.ev 1 rfl) (.cons (T.ev 0 rfl) .nil))) Tryd.func37 rfl rfl ?_
   refine Calls.mono (will8_any s AKu2 cKu2 Av cv lv m9 bu3 _ (SAKu2.rd M (.cons _ (subL (subL (List.Sublist.refl _))))) (Sv.rd M (.cons _ (List.sublist_append_right _ _))) hsgs (by omega) n2 n1 (fun x hx => by have := n4 x hx; omega) (by omega) (hT.mem M (fun h => h))) ?_
   clear T
   rintro e wc ⟨rfl, hb⟩
   intro ac T
   replace M := M.call hb; clear hb
   refine sh_out hK _ _ (M.mask [true] rfl) ?_; clear hK K
   refine gq T 7 255 rfl (fun _ _ _ _ _ => (rn_move rfl (T.ev 0 rfl))) ?_; clear T ac; intro ac T
   refine gq T 8 511 rfl (fun _ _ _ _ _ => (rn_extract rfl (T.ev 0 rfl) rfl)) ?_; clear T ac; intro ac T
   refine gq T 9 1023 rfl (fun _ _ _ _ _ => (rn_extract rfl (T.ev 1 rfl) rfl)) ?_; clear T ac; intro ac T
   refine gq T 10 2047 rfl (fun _ _ _ _ _ => (rn_assign rfl (T.ev 1 rfl))) ?_; clear T ac; intro ac T
   refine gq T 11 4095 rfl (fun _ _ _ _ _ => (rn_assign rfl (T.ev 1 rfl))) ?_; clear T ac; intro ac T
   refine g_done (by kernel_rfl) ?_
   replace T := T.pick [0, 1, 13, 14, 15, 16, 17, 18, 19, 20] rfl
   refine nm_then ?_
   refine wp_seq ?_
   refine wp_seq ?_
   refine wp_region_lit ?_
   refine lq T (rn_move rfl (T.ev 0 rfl)) ?_; clear T ac; intro ac T
   refine lq (v := (.bool false)) T (rn_neqof (rn_not rfl (T.ev 0 rfl)) (by simp)) ?_; clear T ac; intro ac T
   refine wpList_nil ?_
   replace T := T.pick [0, 3, 4, 5, 6, 7, 8, 9, 10, 11] rfl
   refine nm_then ?_
   refine wp_cond_false (T.ev 0 rfl) ?_
   refine wp_skip ?_
   refine nm_then ?_
   refine wp_seq ?_
   refine wp_region_lit ?_
   refine lq T (rn_move rfl (T.ev 1 rfl)) ?_; clear T ac; intro ac T
   refine wpList_nil ?_
   replace T := T.pick [0, 3, 4, 5, 6, 7, 8, 9, 10] rfl
   refine nm_then ?_
   refine wp_cond_split (T.ev 0 rfl) ?_ ?_
   ·intro h4
    have hmm9 : m9 = mm := by omega
    obtain ⟨hE0, hN0, hL0⟩ := few_hit hsgs hx9 h4 (fun x hx h => HA x hx (by omega)) (fun j x h e f => HB j x h e (by omega))
    have hLn9 : (shL s bu3).length = lv.length := by rw [hL0]
    rw [hmm9] at hN0
    rw [hE0, hN0] at T
    refine wp_seq ?_
    refine wp_region_lit ?_
    refine lq T (rn_move rfl (T.ev 5 rfl)) ?_; clear T ac; intro ac T
    refine lq (v := (.bool true)) T (rn_neqof (rn_eql rfl (T.ev 0 rfl) evc) (by simp)) ?_; clear T ac; intro ac T
    refine lq T (rn_move rfl (T.ev 0 rfl)) ?_; clear T ac; intro ac T
    refine lw T (wanted_yes rfl rfl (T.ev 0 rfl) rfl) (rn_move rfl (T.ev 7 rfl)) ?_; clear T ac; intro ac T
    refine lw T (wanted_yes rfl rfl (T.ev 1 rfl) rfl) (rn_move rfl (T.ev 11 rfl)) ?_; clear T ac; intro ac T
    refine lw (v := (.bool true)) T (wanted_yes rfl rfl (T.ev 2 rfl) rfl) (rn_neqof (rn_eql rfl (T.ev 1 rfl) (T.ev 0 rfl)) (by simp)) ?_; clear T ac; intro ac T
    refine lq T (rn_pick1 rfl (T.ev 3 rfl) rfl (T.ev 0 rfl)) ?_; clear T ac; intro ac T
    refine lq T (rn_move rfl (T.ev 0 rfl)) ?_; clear T ac; intro ac T
    refine lw T (wanted_yes rfl rfl (T.ev 0 rfl) rfl) (rn_move rfl (T.ev 11 rfl)) ?_; clear T ac; intro ac T
    refine lw T (wanted_yes rfl rfl (T.ev 1 rfl) rfl) (rn_move rfl (T.ev 15 rfl)) ?_; clear T ac; intro ac T
    refine lw T (wanted_yes rfl rfl (T.ev 2 rfl) rfl) (rn_move rfl (T.ev 18 rfl)) ?_; clear T ac; intro ac T
    refine lw T (wanted_yes rfl rfl (T.ev 3 rfl) rfl) (rn_indexAddr (size := 1) i rfl (T.ev 1 rfl) (T.ev 0 rfl) ⟨_, Tryd.underlying43, by kernel_rfl⟩ rfl (by omega) (Su5.at0 (by omega))) ?_; clear T ac; intro ac T
    refine lw (v := (.slice Av lv.length cv)) T (wanted_yes rfl rfl (T.ev 4 rfl) rfl) (rn_cell (Sp.lc0 Su5 M (.cons _ (List.sublist_append_right _ _)) hkv) rfl (T.ev 0 rfl)) ?_; clear T ac; intro ac T
    refine l_w (wanted_yes rfl rfl (T.ev 5 rfl) rfl) ?_; intro K hK
    refine ow_call (first := []) (cap := []) T rfl rfl rfl rfl evf (.cons (T.ev 4 rfl) (.cons (T.ev 0 rfl) .nil)) Tryd.func30 rfl rfl ?_
    refine Calls.mono (sameInts_any _ _ _ _ _ _ (shL s bu3) lv _ (SASu4.rd M (.cons _ (subL (List.sublist_append_right _ _)))) (Sv.rd M (.cons _ (List.sublist_append_right _ _))) (by omega) (by omega)) ?_
    clear T
    rintro e wc ⟨rfl, hb⟩
    intro ac T
    replace M := M.call hb; clear hb
    rw [decide_eq_true hL0] at T
    refine sh_out hK _ _ ?_; clear hK K
    refine lq T (rn_pick1 rfl (T.ev 6 rfl) rfl (T.ev 0 rfl)) ?_; clear T ac; intro ac T
    refine lq T (rn_move rfl (T.ev 0 rfl)) ?_; clear T ac; intro ac T
    refine l_w (wanted_yes rfl rfl (T.ev 0 rfl) rfl) ?_; intro K hK
    refine ow_call (first := []) (cap := []) T rfl rfl rfl rfl evf .nil Tryd.func17 rfl rfl ?_
    refine Calls.mono (sawn8_any _ (hT.mem M (fun h => h))) ?_
    clear T
    rintro e wc ⟨rfl, hb⟩
    intro ac T
    replace M := M.call hb; clear hb
    refine sh_out hK _ _ ?_; clear hK K
    refine lq T (rn_pick1 rfl (T.ev 1 rfl) rfl (T.ev 0 rfl)) ?_; clear T ac; intro ac T
    refine lq T (rn_assign rfl (T.ev 0 rfl)) ?_; clear T ac; intro ac T
    refine wpList_nil ?_
    replace T := T.pick [0] rfl
    replace M := M.mask [false] rfl
    replace M : Mem w noEx wc ((IKu2 ++ ISu4 ++ Iu5)) := M
    refine nm_then ?_
    refine wp_ret ?_
    refine rt_blk ?_
    refine rt_then ?_
    refine rt_then ?_
    refine rt_blk ?_
    refine rt_blk ?_
    refine rt_then ?_
    refine rt_then ?_
    refine rt_blk ?_
    refine rt_then ?_
    refine rt_1 T rfl (T.ev 0 rfl) ?_
    exact ⟨ret_bool (by simp_all), M.below⟩
   intro h4
   refine wp_skip ?_
   refine nm_blk ?_
   refine nm_then ?_
   refine wp_region_lit ?_
   refine lq T (rn_move rfl (T.ev 8 rfl)) ?_; clear T ac; intro ac T
   refine lq T (rn_add rfl (T.ev 0 rfl) evc (by omega)) ?_; clear T ac; intro ac T
   refine l_q (v := (.int .i64 ((i : Int) + 1))) (T.pick [0, 1, 2, 3, 4, 5, 6, 7, 8, 9] rfl) rfl rfl rfl rfl (rn_assign rfl (T.ev 0 rfl)) ?_; clear T ac; intro ac T
   refine wpList_nil ?_
   replace T := T.pick [0, 4, 5, 6, 7, 8, 9, 10] rfl
   refine nm_then ?_
   exact ⟨_, by omega, i + 1, rfl, (by omega), (fun j9 x9 h9 e9 f9 => by rcases Nat.lt_or_eq_of_le (Nat.le_of_lt_succ h9) with h8 | rfl; exact HB j9 x9 h8 e9 f9; rw [hx9] at e9; injection e9 with e9; subst e9; dsimp only at f9 ⊢; first | omega | simp_all), T.pick [1, 2, 3, 4, 5, 6, 7, 0] rfl, M.mask [true] rfl⟩
  intro h2
  refine wp_exit ?_
  refine ex_then ?_
  refine ex_then ?_
  refine ex_hit ?_
  refine nm_blk ?_
  refine nm_then ?_
  refine wp_region_lit ?_
  refine lq T (rn_move rfl (T.ev 7 rfl)) ?_; clear T ac; intro ac T
  refine lq T (rn_add rfl (T.ev 0 rfl) evc (by omega)) ?_; clear T ac; intro ac T
  refine l_q (v := (.int .i64 ((mm : Int) + 1))) (T.pick [0, 1, 2, 3, 4, 5, 6, 7, 8, 10] rfl) rfl rfl rfl rfl (rn_assign rfl (T.ev 0 rfl)) ?_; clear T ac; intro ac T
  refine wpList_nil ?_
  replace T := T.pick [0, 4, 5, 6, 7, 8, 9] rfl
  refine nm_then ?_
  exact ⟨_, by omega, mm + 1, rfl, (by omega), (fun x hx h9 => by rcases Nat.lt_or_eq_of_le (Nat.le_of_lt_succ h9) with h8 | h8; exact HA x hx h8; obtain ⟨j9, hj9, e9⟩ := List.mem_iff_getElem.1 hx; exact HB j9 x (by omega) (by rw [List.getElem?_eq_getElem hj9, e9]) h8), T.pick [1, 2, 3, 4, 5, 6, 0] rfl, M.mask [true] rfl⟩
 intro h1
 obtain ⟨hE11, hLz⟩ := few_none hsgs (fun x hx => HA x hx (by have := (num_asg (l := x.1) (n := x.2) hx).2.2.1; omega))
 rw [hE11] at T
 have hLz0 : (shL s bu3).length = 0 := by rw [hLz]; rfl
 refine wp_exit ?_
 refine ex_then ?_
 refine ex_then ?_
 refine ex_hit ?_
 refine nm_then ?_
 refine cut_seq (fun ac wc => Tm ac 92 [(2, .bool (decide ((((shL s bu3).length : Nat) : Int) = 0)))] ∧ Mem w noEx wc ((IKu2 ++ ISu4 ++ Iu5))) ?_ ?_
 ·refine wp_region_lit ?_
  refine lq T (rn_move rfl (T.ev 5 rfl)) ?_; clear T ac; intro ac T
  refine lq (v := (.bool true)) T (rn_neqof (rn_eql rfl (T.ev 0 rfl) evc) (by simp)) ?_; clear T ac; intro ac T
  refine lq T (rn_move rfl (T.ev 0 rfl)) ?_; clear T ac; intro ac T
  refine lw T (wanted_yes rfl rfl (T.ev 0 rfl) rfl) (rn_move rfl (T.ev 6 rfl)) ?_; clear T ac; intro ac T
  refine lw T (wanted_yes rfl rfl (T.ev 1 rfl) rfl) (rn_lenS rfl Tryd.underlying27 (T.ev 0 rfl)) ?_; clear T ac; intro ac T
  refine lw T (wanted_yes rfl rfl (T.ev 2 rfl) rfl) (rn_eql rfl (T.ev 0 rfl) evc) ?_; clear T ac; intro ac T
  refine lq T (rn_pick1 rfl (T.ev 3 rfl) rfl (T.ev 0 rfl)) ?_; clear T ac; intro ac T
  refine lq T (rn_move rfl (T.ev 0 rfl)) ?_; clear T ac; intro ac T
  rcases Bool.eq_false_or_eq_true (decide ((((shL s bu3).length : Nat) : Int) = 0)) with h5 | h5
  ·replace h5 := of_decide_eq_true h5
   refine l_w (wanted_yes rfl rfl (T.ev 0 rfl) (decide_eq_true h5)) ?_; intro K hK
   refine ow_call (first := []) (cap := []) T rfl rfl rfl rfl evf .nil Tryd.func17 rfl rfl ?_
   refine Calls.mono (sawn8_any _ (hT.mem M (fun h => h))) ?_
   clear T
   rintro e wc ⟨rfl, hb⟩
   intro ac T
   replace M := M.call hb; clear hb
   refine sh_out hK _ _ ?_; clear hK K
   refine lq T (rn_pick1 rfl (T.ev 1 rfl) (decide_eq_true h5) (T.ev 0 rfl)) ?_; clear T ac; intro ac T
   refine lq T (rn_assign rfl (T.ev 0 rfl)) ?_; clear T ac; intro ac T
   refine wpList_nil ?_
   replace T := T.pick [0] rfl
   replace M := M.mask [false] rfl
   replace M : Mem w noEx wc ((IKu2 ++ ISu4 ++ Iu5)) := M
   exact ⟨(T.pick (E' := [(2, .bool true)]) [0] rfl).as (by (try rw [show (decide ((((shL s bu3).length : Nat) : Int) = 0)) = true from (decide_eq_true h5)]); (try rfl)), M.mask [] rfl⟩
  replace h5 := of_decide_eq_false h5
  refine lp T (wanted_no rfl rfl (T.ev 0 rfl) (decide_eq_false h5)) ?_; clear T ac; intro ac T
  refine lq T (rn_pick0 rfl (T.ev 1 rfl) (decide_eq_false h5) evc) ?_; clear T ac; intro ac T
  refine lq T (rn_assign rfl (T.ev 0 rfl)) ?_; clear T ac; intro ac T
  refine wpList_nil ?_
  replace T := T.pick [0] rfl
  replace M := M.mask [false] rfl
  replace M : Mem w noEx wc ((IKu2 ++ ISu4 ++ Iu5)) := M
  exact ⟨(T.pick (E' := [(2, .bool false)]) [0] rfl).as (by (try rw [show (decide ((((shL s bu3).length : Nat) : Int) = 0)) = false from (decide_eq_false h5)]); (try rfl)), M.mask [] rfl⟩
 clear T M
 rintro ac wc ⟨T, M⟩
 refine wp_ret ?_
 refine rt_1 T rfl (T.ev 0 rfl) ?_
 exact ⟨ret_bool (by simp_all), M.below⟩
end Go.Proofs.YtehpcclfgjccbaaDoor
end

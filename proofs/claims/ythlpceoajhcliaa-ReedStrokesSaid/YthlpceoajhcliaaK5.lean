/-
  kit: strokes out of a pot, Turn.
-/
import Derived.Test.YthlpceoajhcliaaKL
namespace Go.Proofs.Ythlpceoajhcliaa
set_option linter.unusedSimpArgs false
set_option linter.unusedVariables false
open Go.RowKit

def TurnPost (n : Nat) (w : World) (e : Ending) (w' : World) : Prop := ∃ k : Nat, e = .returned (.int .i64 k) ∧ k < n ∧ Below w.heap.size w w'
theorem turn_bd (x : Int) (n : Nat) (h : 0 < n) : (-(n : Int) < x.tmod n ∧ x.tmod n < n) ∧ 0 ≤ (x.tmod n + n).tmod n ∧ (x.tmod n + n).tmod n < n := by
  have h1 := tmod_bd x n h
  exact ⟨h1, Int.tmod_nonneg _ (by omega), (tmod_bd _ n h).2⟩


set_option maxRecDepth 100000 in
set_option maxHeartbeats 1000000 in
theorem turn_any (x : Int) (n : Nat) (w : World) (h0 : 0 < n) (h9 : n ≤ 1000) :
    Calls Try.prog 52 #[.int .i64 x, .int .i64 (n : Int)] w (TurnPost n w) := by
  have hb := turn_bd x n h0
  refine px_enter noEx Try.func52 rfl 14 rfl [.int .i64 x, .int .i64 (n : Int)] rfl rfl (Mem.init w _) ?_
  intro ac wc T M
  refine wp_seq ?_
  refine wp_region_lit ?_
  refine l_q T rfl rfl rfl rfl (rn_assign rfl evc) ?_; clear T ac; intro ac T
  refine wpList_nil ?_
  replace T := T.pick [1, 2] rfl
  refine nm_then ?_
  refine wp_seq ?_
  refine wp_seq ?_
  refine wp_region_lit ?_
  refine l_q T rfl rfl rfl rfl (rn_move rfl (T.ev 1 rfl)) ?_; clear T ac; intro ac T
  refine l_q T rfl rfl rfl rfl (rn_lss rfl (T.ev 0 rfl) evc) ?_; clear T ac; intro ac T
  refine wpList_nil ?_
  replace T := T.pick [0, 2, 3] rfl
  refine nm_then ?_
  refine wp_if (T.ev 0 rfl) ?_ ?_
  · intro h1
    refine wp_seq ?_
    refine wp_region_lit ?_
    refine l_q T rfl rfl rfl rfl (rn_assign rfl evc) ?_; clear T ac; intro ac T
    refine wpList_nil ?_
    replace T := T.pick [0] rfl
    refine nm_then ?_
    refine wp_ret ?_
    refine rt_then ?_
    refine rt_1 T rfl (T.ev 0 rfl) ?_
    exact ⟨0, rfl, h0, M.below⟩
  · intro h1
    refine wp_skip ?_
    refine nm_then ?_
    refine wp_seq ?_
    refine wp_region_lit ?_
    refine l_q T rfl rfl rfl rfl (rn_move rfl (T.ev 1 rfl)) ?_; clear T ac; intro ac T
    refine l_q T rfl rfl rfl rfl (rn_move rfl (T.ev 3 rfl)) ?_; clear T ac; intro ac T
    refine l_q T rfl rfl rfl rfl (rn_rem rfl (T.ev 1 rfl) (T.ev 0 rfl) (by omega)) ?_; clear T ac; intro ac T
    refine l_q T rfl rfl rfl rfl (rn_move rfl (T.ev 5 rfl)) ?_; clear T ac; intro ac T
    refine l_q T rfl rfl rfl rfl (rn_add rfl (T.ev 1 rfl) (T.ev 0 rfl) (by omega)) ?_; clear T ac; intro ac T
    refine l_q T rfl rfl rfl rfl (rn_move rfl (T.ev 7 rfl)) ?_; clear T ac; intro ac T
    refine l_q T rfl rfl rfl rfl (rn_rem rfl (T.ev 1 rfl) (T.ev 0 rfl) (by omega)) ?_; clear T ac; intro ac T
    refine l_q T rfl rfl rfl rfl (rn_assign rfl (T.ev 0 rfl)) ?_; clear T ac; intro ac T
    refine wpList_nil ?_
    replace T := T.pick [0] rfl
    refine nm_then ?_
    refine wp_ret ?_
    refine rt_1 T rfl (T.ev 0 rfl) ?_
    exact ⟨_, by rw [Int.toNat_of_nonneg hb.2.1], by omega, M.below⟩

def StrokesPost (bp : Nat) (most : Int) (w : World) (e : Ending) (w' : World) : Prop :=
  ∃ (l : List Int) (A : Option Addr) (c : Nat) (s : Int) (I : List (Nat × BA)), e = .returned (.slice A l.length c) ∧ ((l.length : Int) ≤ most ∧ ∀ q ∈ l, q = 1 ∨ q = 2) ∧ u64ok s ∧ Sl 3 1 (.slice A l.length c) l.length (ic l) I ∧ Mem w (fun b => b = bp) w' (I ++ [(bp, .cells [.int .u64 s])])
theorem ic_snoc (l : List Int) (x : Int) : ic l ++ [.int .i64 x] = ic (l ++ [x]) := by simp [ic]


set_option maxRecDepth 100000 in
set_option maxHeartbeats 1000000 in
theorem strokesOf_any (s : Int) (bp : Nat) (most : Int) (w : World) (hm0 : 0 ≤ most) (hm1 : most ≤ 40) (hp : Bk w bp #[.int .u64 s]) (hs : u64ok s) :
    Calls Try.prog 32 #[.pointer (some ⟨bp, 0, none⟩), .int .i64 most] w (StrokesPost bp most w) := by
  refine px_enter (fun b => b = bp) Try.func32 rfl 21 rfl [.pointer (some ⟨bp, 0, none⟩), .int .i64 most] rfl rfl (Mem.initEx (p := .cells [.int .u64 s]) hp) ?_
  intro ac wc T M
  refine wp_seq ?_
  refine wp_region_lit ?_
  refine l_q T rfl rfl rfl rfl (rn_assign rfl evc) ?_; clear T ac; intro ac T
  refine wpList_nil ?_
  replace T := T.pick [1, 2] rfl
  refine nm_then ?_
  refine wp_seq ?_
  refine wp_region_lit ?_
  refine l_q T rfl rfl rfl rfl (rn_assign rfl evc) ?_; clear T ac; intro ac T
  refine wpList_nil ?_
  refine nm_then ?_
  refine wp_seq ?_
  refine wp_seq ?_
  refine wp_region_lit ?_
  refine l_q T rfl rfl rfl rfl (rn_move rfl (T.ev 1 rfl)) ?_; clear T ac; intro ac T
  refine l_q T rfl rfl rfl rfl (rn_move rfl (T.ev 3 rfl)) ?_; clear T ac; intro ac T
  refine l_w rfl ?_; intro K hK
  refine ow_call (first := []) (cap := []) T rfl rfl rfl rfl evf (.cons (T.ev 1 rfl) (.cons (T.ev 0 rfl) .nil)) Try.func28 rfl rfl ?_
  refine Calls.mono (upto_any _ bp most _ (by omega) (by omega) (M.nth 0 rfl) hs) ?_
  clear T
  rintro e wc ⟨xu1, su1, hxu1, hsu1, rfl, hgr, hbk⟩
  intro ac T
  replace M := M.callC (cs' := [.int .u64 su1]) .head hgr hbk
  clear hgr hbk
  refine sh_out hK _ _ ?_; clear hK K
  refine l_q T rfl rfl rfl rfl (rn_assign rfl (T.ev 0 rfl)) ?_; clear T ac; intro ac T
  refine wpList_nil ?_
  replace T := T.pick [0, 4, 5] rfl
  refine nm_then ?_
  refine wp_block ?_
  refine wp_loop_n (fun mz ac wc => ∃ (i : Int) (l : List Int) (A : Option Addr) (c : Nat) (s : Int) (I : List (Nat × BA)), mz = i.toNat ∧ (0 ≤ i) ∧ ((l.length : Int) + i ≤ most) ∧ (∀ q ∈ l, q = 1 ∨ q = 2) ∧ (u64ok s) ∧ (Sl 3 1 (.slice A l.length c) l.length (ic l) I) ∧ Tm ac 21 [(0, .pointer (some ⟨bp, 0, none⟩)), (5, .slice A l.length c), (6, .int .i64 i)] ∧ Mem w (fun b => b = bp) wc ((bp, .cells [.int .u64 s]) :: I)) ?_ ?_
  · exact ⟨_, _, [], none, 0, _, [], rfl, (by omega), (by simp; omega), (fun q hq => by cases hq), hsu1, (Sl.nil _ _), T.pick [2, 1, 0] rfl, M.mask [true] rfl⟩
  · clear T M
    rintro mz ac wc ⟨i, l, A, c, s, I, hmm1, hi, hlen, hq, hs, hsl, T, M⟩
    refine wp_seq ?_
    refine wp_seq ?_
    refine wp_region_lit ?_
    refine l_q T rfl rfl rfl rfl (rn_move rfl (T.ev 2 rfl)) ?_; clear T ac; intro ac T
    refine l_q T rfl rfl rfl rfl (rn_gtr rfl (T.ev 0 rfl) evc) ?_; clear T ac; intro ac T
    refine wpList_nil ?_
    replace T := T.pick [0, 2, 3, 4] rfl
    refine nm_then ?_
    refine wp_if (T.ev 0 rfl) ?_ ?_
    · intro h1
      refine wp_skip ?_
      refine nm_then ?_
      refine wp_seq ?_
      refine wp_block ?_
      refine wp_region_lit ?_
      refine l_q T rfl rfl rfl rfl (rn_move rfl (T.ev 2 rfl)) ?_; clear T ac; intro ac T
      refine l_q T rfl rfl rfl rfl (rn_move rfl (T.ev 2 rfl)) ?_; clear T ac; intro ac T
      refine l_w rfl ?_; intro K hK
      refine ow_bs (e := 3) [.int .i64 1, .int .i64 2] M T rfl rfl rfl rfl (.cons evc (.cons evc .nil)) (fun _ => by kernel_rfl) ?_; clear M T; intro g1 wc ac M T
      refine sh_out hK _ _ ?_; clear hK K
      refine l_w rfl ?_; intro K hK
      refine ow_call (first := []) (cap := []) T rfl rfl rfl rfl evf (.cons (T.ev 1 rfl) (.cons (T.ev 0 rfl) .nil)) Try.func60 rfl rfl ?_
      refine Calls.mono (of_any _ bp _ 2 2 [1, 2] _ (M.rdOwn (nthE_mem (i := 0) rfl) rfl rfl) (M.nee 0 1 rfl rfl rfl) (by decide) (by decide) (M.nth 1 rfl) hs) ?_
      clear T
      rintro e wc ⟨xu2, su2, hxu2, hsu2, rfl, hgr, hbk⟩
      intro ac T
      replace M := M.callC (cs' := [.int .u64 su2]) (.tail .head) hgr hbk
      clear hgr hbk
      simp only [List.mem_cons, List.not_mem_nil, or_false] at hxu2
      refine sh_out hK _ _ ?_; clear hK K
      refine l_w rfl ?_; intro K hK
      refine ow_bs (e := 3) [.int .i64 xu2] M T rfl rfl rfl rfl (.cons (T.ev 0 rfl) .nil) (fun _ => by kernel_rfl) ?_; clear M T; intro g2 wc ac M T
      refine sh_out hK _ _ ?_; clear hK K
      refine l_w rfl ?_; intro K hK
      refine ow_app ([(g2, .cells [.int .i64 xu2]), (g1, .cells [.int .i64 1, .int .i64 2]), (bp, .cells [.int .u64 su2])]) Try.info3 hsl M (by first | rfl | simp) T rfl rfl rfl rfl Try.underlying31 rfl rfl rfl (by omega) (T.ev 4 rfl) (T.ev 0 rfl) (nthE_mem (i := 0) rfl) rfl rfl ?_; clear M T; intro ga1 cga1 wc ac M T
      refine sh_out hK _ _ ?_; clear hK K
      refine l_q (v := (.slice (some ⟨ga1, 0, none⟩) (l.length + 1) cga1)) (T.pick [0, 1, 2, 3, 4, 5, 6, 7, 9] rfl) rfl rfl rfl rfl (rn_assign rfl (T.ev 0 rfl)) ?_; clear T ac; intro ac T
      refine wpList_nil ?_
      replace T := T.pick [0, 8, 9] rfl
      replace M := M.mask [true, false, false, true] rfl
      refine nm_blk ?_
      refine nm_then ?_
      refine wp_region_lit ?_
      refine l_q T rfl rfl rfl rfl (rn_move rfl (T.ev 2 rfl)) ?_; clear T ac; intro ac T
      refine l_q T rfl rfl rfl rfl (rn_sub rfl (T.ev 0 rfl) evc (by omega)) ?_; clear T ac; intro ac T
      refine l_q (v := (.int .i64 (i - 1))) (T.pick [0, 1, 2, 3] rfl) rfl rfl rfl rfl (rn_assign rfl (T.ev 0 rfl)) ?_; clear T ac; intro ac T
      refine wpList_nil ?_
      replace T := T.pick [0, 3, 4] rfl
      refine nm_then ?_
      have e9 : l.length + 1 = (l ++ [xu2]).length := by simp
      rw [e9, ic_snoc] at M
      rw [e9] at T
      clear e9
      exact ⟨_, by omega, (i - 1), (l ++ [xu2]), _, cga1, su2, [(ga1, .row 3 1 (l ++ [xu2]).length (ic (l ++ [xu2])) cga1)], rfl, (by omega), (by simp only [List.length_append, List.length_cons, List.length_nil]; omega), (fun q hq' => by rcases List.mem_append.1 hq' with h9 | h9; exact hq q h9; simp only [List.mem_cons, List.not_mem_nil, or_false] at h9; subst h9; omega), hsu2, (Sl.row _ _ _ _ _ _), T.pick [2, 1, 0] rfl, M.perm [1, 0] rfl rfl⟩
    · intro h1
      refine wp_exit ?_
      refine ex_then ?_
      refine ex_then ?_
      refine ex_hit ?_
      refine nm_then ?_
      refine wp_seq ?_
      refine wp_region_lit ?_
      refine l_q T rfl rfl rfl rfl (rn_move rfl (T.ev 2 rfl)) ?_; clear T ac; intro ac T
      refine l_q T rfl rfl rfl rfl (rn_assign rfl (T.ev 0 rfl)) ?_; clear T ac; intro ac T
      refine wpList_nil ?_
      replace T := T.pick [0] rfl
      refine nm_then ?_
      refine wp_ret ?_
      refine rt_1 T rfl (T.ev 0 rfl) ?_
      exact ⟨l, A, c, _, I, rfl, ⟨by omega, hq⟩, hs, hsl, Mem.swapI (I := [(bp, .cells [.int .u64 s])]) (L := I) (M.mask [true] rfl)⟩

end Go.Proofs.Ythlpceoajhcliaa
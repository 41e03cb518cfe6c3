/-
  ref1: all lists of strokes.
-/
import Derived.Test.YthlpceoajhcliaaK5
import Derived.Test.YthlpceoajhcliaaPHeard
namespace Go.Proofs.Ythlpceoajhcliaa
set_option linter.unusedSimpArgs false
set_option linter.unusedVariables false
open Go.RowKit

theorem Try.append1i (B : Option Addr) (d g : Nat) (ty : TypeId) (w : World) : (Builtin.append_ #[31, 31] ty #[.slice (some ⟨g, 0, none⟩) 1 1, .slice B 0 d]).run Try.prog w = .ok (.slice (some ⟨g, 0, none⟩) 1 1) w := by
  cases B <;> kernel_rfl
theorem ic_one (l : List Int) : ∀ u ∈ ic l, u.oneCell' = true := by
  intro u hu
  obtain ⟨p, _, rfl⟩ := List.mem_map.1 hu
  rfl
theorem Try.info31 : (Try.prog.info? 31).map (fun i => (i.zero, i.size, i.bytes)) = some (some (.slice none 0 0), 1, 24) := by kernel_rfl
/-- All lists of so many strokes, in order. -/
def lists : Nat → List (List Int)
  | 0 => [[]]
  | n + 1 => (lists n).map (1 :: ·) ++ (lists n).map (2 :: ·)
theorem lists_length : ∀ n, (lists n).length = 2 ^ n
  | 0 => rfl
  | n + 1 => by simp only [lists, List.length_append, List.length_map, lists_length n, Nat.pow_succ]; omega
theorem lists_mem : ∀ n, ∀ l ∈ lists n, l.length = n ∧ ∀ k ∈ l, k = 1 ∨ k = 2
  | 0, l, h => by simp only [lists, List.mem_cons, List.not_mem_nil, or_false] at h; subst h; exact ⟨rfl, fun k hk => by cases hk⟩
  | n + 1, l, h => by
    simp only [lists, List.mem_append, List.mem_map] at h
    rcases h with ⟨q, hq, rfl⟩ | ⟨q, hq, rfl⟩
    · obtain ⟨a, b⟩ := lists_mem n q hq
      refine ⟨by simp [a], fun k hk => ?_⟩
      rcases List.mem_cons.1 hk with rfl | hk
      · exact .inl rfl
      · exact b k hk
    · obtain ⟨a, b⟩ := lists_mem n q hq
      refine ⟨by simp [a], fun k hk => ?_⟩
      rcases List.mem_cons.1 hk with rfl | hk
      · exact .inr rfl
      · exact b k hk
/-- A list of lists that the call has made: where its elements lie. -/
def Els (LL : List LE) (I : List (Nat × BA)) : Prop := ∀ x ∈ LL, ∃ b o, ∀ (w : World) (ex : Nat → Prop), Sp w ex I x.2.1 x.1.length 1 b o (ic x.1)
theorem Els.mono {LL : List LE} {I I' : List (Nat × BA)} (h : Els LL I) (hs : I.Sublist I') : Els LL I' := fun x hx => by
  obtain ⟨b, o, h1⟩ := h x hx
  exact ⟨b, o, fun w ex => (h1 w ex).mono hs⟩
theorem Els.snoc {LL : List LE} {I : List (Nat × BA)} (h : Els LL I) (l : List Int) (g c : Nat) (ys : List Value) : Els (LL ++ [(l, some ⟨g, 0, none⟩, c)]) (I ++ [(g, .cells (ic l ++ ys))]) := fun x hx => by
  rcases List.mem_append.1 hx with hx | hx
  · exact h.mono (List.sublist_append_left _ _) x hx
  · simp only [List.mem_cons, List.not_mem_nil, or_false] at hx
    subst hx
    exact ⟨g, 0, fun w ex => (Sp.pre (by simp [ic_length])).mono (List.sublist_append_right _ _)⟩
theorem lc_snoc (l : List LE) (x : List Int) (B : Option Addr) (c : Nat) : lc l ++ [.slice B x.length c] = lc (l ++ [(x, B, c)]) := by simp [lc]
theorem Sl.spA {e n c : Nat} {A : Option Addr} {xs : List Value} {I : List (Nat × BA)} (h : Sl e 1 (.slice A n c) n xs I) (hl : xs.length = n) : ∃ b o, ∀ (w : World) (ex : Nat → Prop), Sp w ex I A n 1 b o xs := by
  rcases h with ⟨h1, rfl, rfl, rfl⟩ | ⟨g, cap, h1, rfl⟩
  · exact ⟨0, 0, fun w ex => Sp.nil⟩
  · injection h1 with h1 _ h2
    subst h1
    exact ⟨g, 0, fun w ex => Sp.row (by omega)⟩
theorem take_snoc {RL : List LE} {i : Nat} {x : LE} (k : Int) (h : RL[i]? = some x) (pre : List (List Int)) : pre ++ (RL.take (i + 1)).map (fun x => k :: x.1) = (pre ++ (RL.take i).map fun x => k :: x.1) ++ [k :: x.1] := by
  have hk := (List.getElem?_eq_some_iff.1 h).1
  rw [List.take_succ_eq_append_getElem hk, (List.getElem?_eq_some_iff.1 h).2, List.map_append, List.append_assoc]
  rfl
def PlansPost (n : Nat) (w : World) (e : Ending) (w' : World) : Prop := ∃ (A : Option Addr) (c : Nat) (LL : List LE) (I : List (Nat × BA)), e = .returned (.slice A LL.length c) ∧ LL.map (·.1) = lists n ∧ (∃ b o, ∀ (w : World) (ex : Nat → Prop), Sp w ex I A LL.length 1 b o (lc LL)) ∧ Els LL I ∧ Mem w noEx w' I


set_option maxRecDepth 100000 in
set_option maxHeartbeats 4000000 in
theorem plans_step (n : Nat) (w : World) (hn : n ≤ 6) (ih : ∀ m : Nat, m < n → ∀ w : World, Calls Try.prog 29 #[.int .i64 m] w (PlansPost m w)) :
    Calls Try.prog 29 #[.int .i64 (n : Int)] w (PlansPost n w) := by
  have ih2 : 1 ≤ n → ∀ w : World, Calls Try.prog 29 #[.int .i64 ((n : Int) - 1)] w (PlansPost (n - 1) w) := fun h w => by have h9 := ih (n - 1) (by omega) w; rwa [show ((n - 1 : Nat) : Int) = (n : Int) - 1 by omega] at h9
  refine px_enter noEx Try.func29 rfl 34 rfl [.int .i64 (n : Int)] rfl rfl (Mem.init w _) ?_
  intro ac wc T M
  refine wp_seq ?_
  refine wp_region_lit ?_
  refine l_q T rfl rfl rfl rfl (rn_assign rfl evc) ?_; clear T ac; intro ac T
  refine wpList_nil ?_
  replace T := T.pick [1] rfl
  refine nm_then ?_
  refine wp_seq ?_
  refine wp_seq ?_
  refine wp_region_lit ?_
  refine l_q T rfl rfl rfl rfl (rn_move rfl (T.ev 0 rfl)) ?_; clear T ac; intro ac T
  refine l_q T rfl rfl rfl rfl (rn_eql rfl (T.ev 0 rfl) evc) ?_; clear T ac; intro ac T
  refine wpList_nil ?_
  replace T := T.pick [0, 2] rfl
  refine nm_then ?_
  refine wp_if (T.ev 0 rfl) ?_ ?_
  · intro h1
    refine wp_seq ?_
    refine wp_region_lit ?_
    refine l_w rfl ?_; intro K hK
    refine ow_bs (e := 31) [.slice none 0 0] M T rfl rfl rfl rfl (.cons evc .nil) (fun _ => by kernel_rfl) ?_; clear M T; intro g1 wc ac M T
    refine sh_out hK _ _ ?_; clear hK K
    refine l_q T rfl rfl rfl rfl (rn_assign rfl (T.ev 0 rfl)) ?_; clear T ac; intro ac T
    refine wpList_nil ?_
    replace T := T.pick [0] rfl
    refine nm_then ?_
    refine wp_ret ?_
    refine rt_then ?_
    refine rt_1 T rfl (T.ev 0 rfl) ?_
    obtain rfl : n = 0 := by omega
    exact ⟨_, _, [([], none, 0)], _, rfl, rfl, ⟨g1, 0, fun w ex => Sp.cells (xs := lc [([], none, 0)]) rfl⟩, fun x hx => by simp only [List.mem_cons, List.not_mem_nil, or_false] at hx; subst hx; exact ⟨0, 0, fun w ex => Sp.nil.mono (List.nil_sublist _)⟩, M⟩
  · intro h1
    refine wp_skip ?_
    refine nm_then ?_
    refine wp_seq ?_
    refine wp_region_lit ?_
    refine l_q T rfl rfl rfl rfl (rn_assign rfl evc) ?_; clear T ac; intro ac T
    refine wpList_nil ?_
    replace T := T.pick [0, 2] rfl
    refine nm_then ?_
    refine wp_seq ?_
    refine wp_region_lit ?_
    refine l_q T rfl rfl rfl rfl (rn_move rfl (T.ev 1 rfl)) ?_; clear T ac; intro ac T
    refine l_q T rfl rfl rfl rfl (rn_sub rfl (T.ev 0 rfl) evc (by omega)) ?_; clear T ac; intro ac T
    refine l_w rfl ?_; intro K hK
    refine ow_call (first := []) (cap := []) T rfl rfl rfl rfl evf (.cons (T.ev 0 rfl) .nil) Try.func29 rfl rfl ?_
    refine Calls.mono (ih2 (by omega) _) ?_
    clear T
    rintro e wc ⟨Au1, cu1, LLu1, Iu1, rfl, hLu1, hSu1, hEu1, N⟩
    intro ac T
    obtain ⟨mu1, hmu1⟩ : ∃ m, m = n - 1 := ⟨_, rfl⟩
    rw [← hmu1] at hLu1
    obtain ⟨bu1, ou1, hSu1⟩ := hSu1
    have Su1 := hSu1 w noEx
    replace M := (M.join N).swapI
    replace M : Mem w noEx wc (Iu1) := M
    clear N
    have hmlu1 : LLu1.length ≤ 64 := by rw [← List.length_map (f := (·.1)), hLu1, lists_length]; exact Nat.pow_le_pow_right (by decide) (by omega : mu1 ≤ 6)
    refine sh_out hK _ _ ?_; clear hK K
    refine l_q T rfl rfl rfl rfl (rn_assign rfl (T.ev 0 rfl)) ?_; clear T ac; intro ac T
    refine wpList_nil ?_
    replace T := T.pick [0, 4] rfl
    refine nm_then ?_
    refine wp_seq ?_
    refine wp_seq ?_
    refine wp_region_lit ?_
    refine l_q T rfl rfl rfl rfl (rn_assign rfl evc) ?_; clear T ac; intro ac T
    refine wpList_nil ?_
    refine nm_then ?_
    refine wp_block ?_
    refine wp_loop_rounds 3 ?_
    refine rounds_S ?_
    refine wp_seq ?_
    refine wp_seq ?_
    refine wp_region_lit ?_
    refine l_q T rfl rfl rfl rfl (rn_move rfl (T.ev 0 rfl)) ?_; clear T ac; intro ac T
    refine l_q (v := (.bool true)) T rfl rfl rfl rfl (rn_neqof (rn_leq rfl (T.ev 0 rfl) evc) (by simp)) ?_; clear T ac; intro ac T
    refine wpList_nil ?_
    replace T := T.pick [0, 2, 3, 4] rfl
    refine nm_then ?_
    refine wp_cond_true (T.ev 0 rfl) ?_
    refine wp_skip ?_
    refine nm_then ?_
    refine wp_seq ?_
    refine wp_block ?_
    refine wp_seq ?_
    refine wp_region_lit ?_
    refine l_q T rfl rfl rfl rfl (rn_assign rfl evc) ?_; clear T ac; intro ac T
    refine wpList_nil ?_
    replace T := T.pick [0, 2, 3, 4] rfl
    refine nm_then ?_
    refine wp_block ?_
    refine wp_loop_n (fun mz ac wc => ∃ (i1 : Nat) (OL1 : List LE) (B1 : Option Addr) (d1 : Nat) (Ie1 Io1 : List (Nat × BA)), mz = LLu1.length - i1 ∧ (i1 ≤ LLu1.length) ∧ (OL1.map (·.1) = [] ++ (LLu1.take i1).map (fun x => 1 :: x.1)) ∧ (OL1.length ≤ 0 + i1) ∧ (Els OL1 Ie1) ∧ (Sl 31 1 (.slice B1 OL1.length d1) OL1.length (lc OL1) Io1) ∧ Tm ac 34 [(3, .slice B1 OL1.length d1), (4, .slice Au1 LLu1.length cu1), (5, .int .i64 1), (6, .int .i64 (i1 : Int))] ∧ Mem w noEx wc ((Iu1 ++ Ie1 ++ Io1))) ?_ ?_
    · exact ⟨_, 0, [], none, 0, [], [], rfl, (by omega), rfl, (Nat.le_refl _), (fun x hx => by cases hx), (Sl.nil _ _), T.pick [3, 2, 1, 0] rfl, (by simp only [List.append_nil]; exact M)⟩
    · clear T M
      rintro mz ac wc ⟨i1, OL1, B1, d1, Ie1, Io1, hmm2, hi, hO1, hOl1, hE1, hsl1, T, M⟩
      refine wp_seq ?_
      refine wp_seq ?_
      refine wp_region_lit ?_
      refine l_q T rfl rfl rfl rfl (rn_move rfl (T.ev 3 rfl)) ?_; clear T ac; intro ac T
      refine l_q T rfl rfl rfl rfl (rn_move rfl (T.ev 2 rfl)) ?_; clear T ac; intro ac T
      refine l_q T rfl rfl rfl rfl (rn_lenS rfl Try.underlying51 (T.ev 0 rfl)) ?_; clear T ac; intro ac T
      refine l_q T rfl rfl rfl rfl (rn_lss rfl (T.ev 2 rfl) (T.ev 0 rfl)) ?_; clear T ac; intro ac T
      refine wpList_nil ?_
      replace T := T.pick [0, 4, 5, 6, 7] rfl
      refine nm_then ?_
      refine wp_if (T.ev 0 rfl) ?_ ?_
      · intro h2
        obtain ⟨⟨lv, Av, cv⟩, hkv⟩ : ∃ x, LLu1[i1]? = some x := ⟨_, List.getElem?_eq_getElem (by omega)⟩
        obtain ⟨bv, ov, Sv⟩ := hEu1 _ (List.mem_of_getElem? hkv)
        replace Sv : Sp w noEx Iu1 Av lv.length 1 bv ov (ic lv) := Sv w noEx
        have hlv : lv.length = mu1 := (lists_mem mu1 lv (by rw [← hLu1]; exact List.mem_map.2 ⟨_, List.mem_of_getElem? hkv, rfl⟩)).1
        refine wp_skip ?_
        refine nm_then ?_
        refine wp_seq ?_
        refine wp_block ?_
        refine wp_region_lit ?_
        refine l_q T rfl rfl rfl rfl (rn_move rfl (T.ev 1 rfl)) ?_; clear T ac; intro ac T
        refine l_q T rfl rfl rfl rfl (rn_move rfl (T.ev 4 rfl)) ?_; clear T ac; intro ac T
        refine l_w rfl ?_; intro K hK
        refine ow_bsR (e := 3) (size := 1) [.int .i64 1] M T rfl rfl rfl rfl (.cons (T.ev 0 rfl) .nil) (fun _ => by kernel_rfl) rfl rfl rfl ?_; clear M T; intro g2 wc ac M T
        refine sh_out hK _ _ ?_; clear hK K
        refine l_q T rfl rfl rfl rfl (rn_move rfl (T.ev 5 rfl)) ?_; clear T ac; intro ac T
        refine l_q T rfl rfl rfl rfl (rn_move rfl (T.ev 8 rfl)) ?_; clear T ac; intro ac T
        refine l_q T rfl rfl rfl rfl (rn_indexAddr (size := 1) i1 rfl (T.ev 1 rfl) (T.ev 0 rfl) ⟨_, Try.underlying51, by kernel_rfl⟩ rfl (by omega) (Su1.at0 (by omega))) ?_; clear T ac; intro ac T
        refine l_q (v := (.slice Av lv.length cv)) T rfl rfl rfl rfl (rn_cell (Sp.lc0 Su1 M (.cons _ (List.Sublist.trans (List.Sublist.trans (List.Sublist.refl _) (List.sublist_append_left _ _)) (List.sublist_append_left _ _))) hkv) rfl (T.ev 0 rfl)) ?_; clear T ac; intro ac T
        refine l_w rfl ?_; intro K hK
        refine ow_appL Try.info3 M T rfl rfl rfl rfl (fun g w => Try.append1i _ _ g _ w) Try.underlying31 rfl rfl rfl (by omega) (T.ev 4 rfl) (T.ev 0 rfl) (Sv.rd M (.cons _ (List.Sublist.trans (List.Sublist.trans (List.Sublist.refl _) (List.sublist_append_left _ _)) (List.sublist_append_left _ _)))) (ic_one _) ?_; clear M T; intro go1 cgo1 ysgo1 wc ac M T
        obtain ⟨lo1, hlo1⟩ : ∃ q : List Int, q = 1 :: lv := ⟨_, rfl⟩
        have lhlo1 : lo1.length = lv.length + 1 := by rw [hlo1]; rfl
        replace M : Mem w noEx wc ((go1, .cells (ic lo1 ++ ysgo1)) :: (Iu1 ++ Ie1 ++ Io1)) := by rw [hlo1]; exact M
        rw [show 1 + lv.length = lo1.length by omega] at T
        refine sh_out hK _ _ ?_; clear hK K
        refine l_w rfl ?_; intro K hK
        refine ow_bs (e := 31) [.slice (some ⟨go1, 0, none⟩) lo1.length cgo1] M T rfl rfl rfl rfl (.cons (T.ev 0 rfl) .nil) (fun _ => by kernel_rfl) ?_; clear M T; intro g3 wc ac M T
        refine sh_out hK _ _ ?_; clear hK K
        refine l_w rfl ?_; intro K hK
        refine ow_app (((g3, .cells [.slice (some ⟨go1, 0, none⟩) lo1.length cgo1]) :: (go1, .cells (ic lo1 ++ ysgo1)) :: (Iu1 ++ Ie1))) Try.info31 hsl1 M (by first | rfl | simp) T rfl rfl rfl rfl Try.underlying51 rfl rfl rfl (by omega) (T.ev 8 rfl) (T.ev 0 rfl) (nthE_mem (i := 0) rfl) rfl rfl ?_; clear M T; intro ga1 cga1 wc ac M T
        refine sh_out hK _ _ ?_; clear hK K
        refine l_q (v := (.slice (some ⟨ga1, 0, none⟩) (OL1.length + 1) cga1)) (T.pick [0, 1, 2, 3, 4, 5, 6, 7, 8, 9, 10, 12, 13, 14] rfl) rfl rfl rfl rfl (rn_assign rfl (T.ev 0 rfl)) ?_; clear T ac; intro ac T
        refine wpList_nil ?_
        replace T := T.pick [0, 12, 13, 14] rfl
        replace M := M.mask [true, false, true] rfl
        refine nm_blk ?_
        refine nm_then ?_
        refine wp_region_lit ?_
        refine l_q T rfl rfl rfl rfl (rn_move rfl (T.ev 3 rfl)) ?_; clear T ac; intro ac T
        refine l_q T rfl rfl rfl rfl (rn_add rfl (T.ev 0 rfl) evc (by omega)) ?_; clear T ac; intro ac T
        refine l_q (v := (.int .i64 ((i1 : Int) + 1))) (T.pick [0, 1, 2, 3, 4] rfl) rfl rfl rfl rfl (rn_assign rfl (T.ev 0 rfl)) ?_; clear T ac; intro ac T
        refine wpList_nil ?_
        replace T := T.pick [0, 3, 4, 5] rfl
        refine nm_then ?_
        have e9 : OL1.length + 1 = (OL1 ++ [(lo1, (some ⟨go1, 0, none⟩ : Option Addr), cgo1)]).length := by simp
        rw [e9, lc_snoc] at M
        rw [e9] at T
        clear e9
        exact ⟨_, by omega, i1 + 1, (OL1 ++ [(lo1, (some ⟨go1, 0, none⟩ : Option Addr), cgo1)]), _, _, (Ie1 ++ [(go1, .cells (ic lo1 ++ ysgo1))]), [(ga1, .row 31 1 (OL1 ++ [(lo1, (some ⟨go1, 0, none⟩ : Option Addr), cgo1)]).length (lc (OL1 ++ [(lo1, (some ⟨go1, 0, none⟩ : Option Addr), cgo1)])) cga1)], rfl, (by omega), (by rw [take_snoc 1 hkv, List.map_append, hO1]; simp [hlo1]), (by simp only [List.length_append, List.length_cons, List.length_nil]; omega), (hE1.snoc _ _ _ _), (Sl.row _ _ _ _ _ _), T.pick [1, 2, 3, 0] rfl, (by rw [← List.append_assoc Iu1]; exact Mem.swapI (I := [(ga1, .row 31 1 (OL1 ++ [(lo1, (some ⟨go1, 0, none⟩ : Option Addr), cgo1)]).length (lc (OL1 ++ [(lo1, (some ⟨go1, 0, none⟩ : Option Addr), cgo1)])) cga1)]) (L := (Iu1 ++ Ie1) ++ [(go1, .cells (ic lo1 ++ ysgo1))]) (Mem.swapI (I := [(go1, .cells (ic lo1 ++ ysgo1))]) (L := (ga1, .row 31 1 (OL1 ++ [(lo1, (some ⟨go1, 0, none⟩ : Option Addr), cgo1)]).length (lc (OL1 ++ [(lo1, (some ⟨go1, 0, none⟩ : Option Addr), cgo1)])) cga1) :: (Iu1 ++ Ie1)) (M.permT [1, 0] 2 rfl rfl rfl rfl)))⟩
      · intro h2
        rw [List.take_of_length_le (by omega)] at hO1
        refine wp_exit ?_
        refine ex_then ?_
        refine ex_then ?_
        refine ex_hit ?_
        refine nm_blk ?_
        refine nm_then ?_
        refine wp_region_lit ?_
        refine l_q T rfl rfl rfl rfl (rn_move rfl (T.ev 3 rfl)) ?_; clear T ac; intro ac T
        refine l_q (v := (.int .i64 2)) T rfl rfl rfl rfl (rn_ofI (rn_add rfl (T.ev 0 rfl) evc (by omega)) (by rfl)) ?_; clear T ac; intro ac T
        refine l_q (v := (.int .i64 2)) (T.pick [0, 1, 2, 3, 4, 6] rfl) rfl rfl rfl rfl (rn_assign rfl (T.ev 0 rfl)) ?_; clear T ac; intro ac T
        refine wpList_nil ?_
        replace T := T.pick [0, 4, 5] rfl
        refine nm_then ?_
        refine rounds_S ?_
        refine wp_seq ?_
        refine wp_seq ?_
        refine wp_region_lit ?_
        refine l_q T rfl rfl rfl rfl (rn_move rfl (T.ev 0 rfl)) ?_; clear T ac; intro ac T
        refine l_q (v := (.bool true)) T rfl rfl rfl rfl (rn_neqof (rn_leq rfl (T.ev 0 rfl) evc) (by simp)) ?_; clear T ac; intro ac T
        refine wpList_nil ?_
        replace T := T.pick [0, 2, 3, 4] rfl
        refine nm_then ?_
        refine wp_cond_true (T.ev 0 rfl) ?_
        refine wp_skip ?_
        refine nm_then ?_
        refine wp_seq ?_
        refine wp_block ?_
        refine wp_seq ?_
        refine wp_region_lit ?_
        refine l_q T rfl rfl rfl rfl (rn_assign rfl evc) ?_; clear T ac; intro ac T
        refine wpList_nil ?_
        replace T := T.pick [0, 2, 3, 4] rfl
        refine nm_then ?_
        refine wp_block ?_
        refine wp_loop_n (fun mz ac wc => ∃ (i2 : Nat) (OL2 : List LE) (B2 : Option Addr) (d2 : Nat) (Ie2 Io2 : List (Nat × BA)), mz = LLu1.length - i2 ∧ (i2 ≤ LLu1.length) ∧ (OL2.map (·.1) = (LLu1.map fun x => 1 :: x.1) ++ (LLu1.take i2).map (fun x => 2 :: x.1)) ∧ (OL2.length ≤ LLu1.length + i2) ∧ (Els OL2 Ie2) ∧ (Sl 31 1 (.slice B2 OL2.length d2) OL2.length (lc OL2) Io2) ∧ Tm ac 34 [(3, .slice B2 OL2.length d2), (4, .slice Au1 LLu1.length cu1), (5, .int .i64 2), (6, .int .i64 (i2 : Int))] ∧ Mem w noEx wc ((Iu1 ++ Ie2 ++ Io2))) ?_ ?_
        · exact ⟨_, 0, OL1, _, _, Ie1, Io1, rfl, (by omega), (by rw [hO1]; simp), (by omega), hE1, hsl1, T.pick [2, 3, 1, 0] rfl, M.mask [] rfl⟩
        · clear T M
          rintro mz ac wc ⟨i2, OL2, B2, d2, Ie2, Io2, hmm2, hi, hO2, hOl2, hE2, hsl2, T, M⟩
          refine wp_seq ?_
          refine wp_seq ?_
          refine wp_region_lit ?_
          refine l_q T rfl rfl rfl rfl (rn_move rfl (T.ev 3 rfl)) ?_; clear T ac; intro ac T
          refine l_q T rfl rfl rfl rfl (rn_move rfl (T.ev 2 rfl)) ?_; clear T ac; intro ac T
          refine l_q T rfl rfl rfl rfl (rn_lenS rfl Try.underlying51 (T.ev 0 rfl)) ?_; clear T ac; intro ac T
          refine l_q T rfl rfl rfl rfl (rn_lss rfl (T.ev 2 rfl) (T.ev 0 rfl)) ?_; clear T ac; intro ac T
          refine wpList_nil ?_
          replace T := T.pick [0, 4, 5, 6, 7] rfl
          refine nm_then ?_
          refine wp_if (T.ev 0 rfl) ?_ ?_
          · intro h3
            obtain ⟨⟨lv, Av, cv⟩, hkv⟩ : ∃ x, LLu1[i2]? = some x := ⟨_, List.getElem?_eq_getElem (by omega)⟩
            obtain ⟨bv, ov, Sv⟩ := hEu1 _ (List.mem_of_getElem? hkv)
            replace Sv : Sp w noEx Iu1 Av lv.length 1 bv ov (ic lv) := Sv w noEx
            have hlv : lv.length = mu1 := (lists_mem mu1 lv (by rw [← hLu1]; exact List.mem_map.2 ⟨_, List.mem_of_getElem? hkv, rfl⟩)).1
            refine wp_skip ?_
            refine nm_then ?_
            refine wp_seq ?_
            refine wp_block ?_
            refine wp_region_lit ?_
            refine l_q T rfl rfl rfl rfl (rn_move rfl (T.ev 1 rfl)) ?_; clear T ac; intro ac T
            refine l_q T rfl rfl rfl rfl (rn_move rfl (T.ev 4 rfl)) ?_; clear T ac; intro ac T
            refine l_w rfl ?_; intro K hK
            refine ow_bsR (e := 3) (size := 1) [.int .i64 2] M T rfl rfl rfl rfl (.cons (T.ev 0 rfl) .nil) (fun _ => by kernel_rfl) rfl rfl rfl ?_; clear M T; intro g4 wc ac M T
            refine sh_out hK _ _ ?_; clear hK K
            refine l_q T rfl rfl rfl rfl (rn_move rfl (T.ev 5 rfl)) ?_; clear T ac; intro ac T
            refine l_q T rfl rfl rfl rfl (rn_move rfl (T.ev 8 rfl)) ?_; clear T ac; intro ac T
            refine l_q T rfl rfl rfl rfl (rn_indexAddr (size := 1) i2 rfl (T.ev 1 rfl) (T.ev 0 rfl) ⟨_, Try.underlying51, by kernel_rfl⟩ rfl (by omega) (Su1.at0 (by omega))) ?_; clear T ac; intro ac T
            refine l_q (v := (.slice Av lv.length cv)) T rfl rfl rfl rfl (rn_cell (Sp.lc0 Su1 M (.cons _ (List.Sublist.trans (List.Sublist.trans (List.Sublist.refl _) (List.sublist_append_left _ _)) (List.sublist_append_left _ _))) hkv) rfl (T.ev 0 rfl)) ?_; clear T ac; intro ac T
            refine l_w rfl ?_; intro K hK
            refine ow_appL Try.info3 M T rfl rfl rfl rfl (fun g w => Try.append1i _ _ g _ w) Try.underlying31 rfl rfl rfl (by omega) (T.ev 4 rfl) (T.ev 0 rfl) (Sv.rd M (.cons _ (List.Sublist.trans (List.Sublist.trans (List.Sublist.refl _) (List.sublist_append_left _ _)) (List.sublist_append_left _ _)))) (ic_one _) ?_; clear M T; intro go2 cgo2 ysgo2 wc ac M T
            obtain ⟨lo2, hlo2⟩ : ∃ q : List Int, q = 2 :: lv := ⟨_, rfl⟩
            have lhlo2 : lo2.length = lv.length + 1 := by rw [hlo2]; rfl
            replace M : Mem w noEx wc ((go2, .cells (ic lo2 ++ ysgo2)) :: (Iu1 ++ Ie2 ++ Io2)) := by rw [hlo2]; exact M
            rw [show 1 + lv.length = lo2.length by omega] at T
            refine sh_out hK _ _ ?_; clear hK K
            refine l_w rfl ?_; intro K hK
            refine ow_bs (e := 31) [.slice (some ⟨go2, 0, none⟩) lo2.length cgo2] M T rfl rfl rfl rfl (.cons (T.ev 0 rfl) .nil) (fun _ => by kernel_rfl) ?_; clear M T; intro g5 wc ac M T
            refine sh_out hK _ _ ?_; clear hK K
            refine l_w rfl ?_; intro K hK
            refine ow_app (((g5, .cells [.slice (some ⟨go2, 0, none⟩) lo2.length cgo2]) :: (go2, .cells (ic lo2 ++ ysgo2)) :: (Iu1 ++ Ie2))) Try.info31 hsl2 M (by first | rfl | simp) T rfl rfl rfl rfl Try.underlying51 rfl rfl rfl (by omega) (T.ev 8 rfl) (T.ev 0 rfl) (nthE_mem (i := 0) rfl) rfl rfl ?_; clear M T; intro ga2 cga2 wc ac M T
            refine sh_out hK _ _ ?_; clear hK K
            refine l_q (v := (.slice (some ⟨ga2, 0, none⟩) (OL2.length + 1) cga2)) (T.pick [0, 1, 2, 3, 4, 5, 6, 7, 8, 9, 10, 12, 13, 14] rfl) rfl rfl rfl rfl (rn_assign rfl (T.ev 0 rfl)) ?_; clear T ac; intro ac T
            refine wpList_nil ?_
            replace T := T.pick [0, 12, 13, 14] rfl
            replace M := M.mask [true, false, true] rfl
            refine nm_blk ?_
            refine nm_then ?_
            refine wp_region_lit ?_
            refine l_q T rfl rfl rfl rfl (rn_move rfl (T.ev 3 rfl)) ?_; clear T ac; intro ac T
            refine l_q T rfl rfl rfl rfl (rn_add rfl (T.ev 0 rfl) evc (by omega)) ?_; clear T ac; intro ac T
            refine l_q (v := (.int .i64 ((i2 : Int) + 1))) (T.pick [0, 1, 2, 3, 4] rfl) rfl rfl rfl rfl (rn_assign rfl (T.ev 0 rfl)) ?_; clear T ac; intro ac T
            refine wpList_nil ?_
            replace T := T.pick [0, 3, 4, 5] rfl
            refine nm_then ?_
            have e9 : OL2.length + 1 = (OL2 ++ [(lo2, (some ⟨go2, 0, none⟩ : Option Addr), cgo2)]).length := by simp
            rw [e9, lc_snoc] at M
            rw [e9] at T
            clear e9
            exact ⟨_, by omega, i2 + 1, (OL2 ++ [(lo2, (some ⟨go2, 0, none⟩ : Option Addr), cgo2)]), _, _, (Ie2 ++ [(go2, .cells (ic lo2 ++ ysgo2))]), [(ga2, .row 31 1 (OL2 ++ [(lo2, (some ⟨go2, 0, none⟩ : Option Addr), cgo2)]).length (lc (OL2 ++ [(lo2, (some ⟨go2, 0, none⟩ : Option Addr), cgo2)])) cga2)], rfl, (by omega), (by rw [take_snoc 2 hkv, List.map_append, hO2]; simp [hlo2]), (by simp only [List.length_append, List.length_cons, List.length_nil]; omega), (hE2.snoc _ _ _ _), (Sl.row _ _ _ _ _ _), T.pick [1, 2, 3, 0] rfl, (by rw [← List.append_assoc Iu1]; exact Mem.swapI (I := [(ga2, .row 31 1 (OL2 ++ [(lo2, (some ⟨go2, 0, none⟩ : Option Addr), cgo2)]).length (lc (OL2 ++ [(lo2, (some ⟨go2, 0, none⟩ : Option Addr), cgo2)])) cga2)]) (L := (Iu1 ++ Ie2) ++ [(go2, .cells (ic lo2 ++ ysgo2))]) (Mem.swapI (I := [(go2, .cells (ic lo2 ++ ysgo2))]) (L := (ga2, .row 31 1 (OL2 ++ [(lo2, (some ⟨go2, 0, none⟩ : Option Addr), cgo2)]).length (lc (OL2 ++ [(lo2, (some ⟨go2, 0, none⟩ : Option Addr), cgo2)])) cga2) :: (Iu1 ++ Ie2)) (M.permT [1, 0] 2 rfl rfl rfl rfl)))⟩
          · intro h3
            rw [List.take_of_length_le (by omega)] at hO2
            refine wp_exit ?_
            refine ex_then ?_
            refine ex_then ?_
            refine ex_hit ?_
            refine nm_blk ?_
            refine nm_then ?_
            refine wp_region_lit ?_
            refine l_q T rfl rfl rfl rfl (rn_move rfl (T.ev 3 rfl)) ?_; clear T ac; intro ac T
            refine l_q (v := (.int .i64 3)) T rfl rfl rfl rfl (rn_ofI (rn_add rfl (T.ev 0 rfl) evc (by omega)) (by rfl)) ?_; clear T ac; intro ac T
            refine l_q (v := (.int .i64 3)) (T.pick [0, 1, 2, 3, 4, 6] rfl) rfl rfl rfl rfl (rn_assign rfl (T.ev 0 rfl)) ?_; clear T ac; intro ac T
            refine wpList_nil ?_
            replace T := T.pick [0, 4, 5] rfl
            refine nm_then ?_
            refine rounds_S ?_
            refine wp_seq ?_
            refine wp_seq ?_
            refine wp_region_lit ?_
            refine l_q T rfl rfl rfl rfl (rn_move rfl (T.ev 0 rfl)) ?_; clear T ac; intro ac T
            refine l_q (v := (.bool false)) T rfl rfl rfl rfl (rn_neqof (rn_leq rfl (T.ev 0 rfl) evc) (by simp)) ?_; clear T ac; intro ac T
            refine wpList_nil ?_
            replace T := T.pick [0, 2, 3, 4] rfl
            refine nm_then ?_
            refine wp_cond_false (T.ev 0 rfl) ?_
            refine wp_exit ?_
            refine ex_then ?_
            refine ex_then ?_
            refine ex_hit ?_
            refine nm_then ?_
            refine wp_seq ?_
            refine wp_region_lit ?_
            refine l_q T rfl rfl rfl rfl (rn_move rfl (T.ev 2 rfl)) ?_; clear T ac; intro ac T
            refine l_q T rfl rfl rfl rfl (rn_assign rfl (T.ev 0 rfl)) ?_; clear T ac; intro ac T
            refine wpList_nil ?_
            replace T := T.pick [0] rfl
            refine nm_then ?_
            refine wp_ret ?_
            refine rt_1 T rfl (T.ev 0 rfl) ?_
            obtain ⟨b9, o9, h9⟩ := hsl2.spA (by rw [lc_length])
            refine ⟨B2, d2, OL2, _, rfl, ?_, ⟨b9, o9, fun w ex => (h9 w ex).mono (List.sublist_append_right _ _)⟩, hE2.mono (List.Sublist.trans (List.sublist_append_right _ _) (List.sublist_append_left _ _)), M⟩
            obtain ⟨n, rfl⟩ : ∃ k, n = k + 1 := ⟨n - 1, by omega⟩
            rw [hO2, lists, ← show mu1 = n by omega, ← hLu1, List.map_map, List.map_map]
            rfl

theorem plans_any : ∀ (n : Nat), n ≤ 6 → ∀ w : World, Calls Try.prog 29 #[.int .i64 n] w (PlansPost n w) := by
  intro n
  induction n using Nat.strongRecOn with
  | _ n ih => exact fun hn w => plans_step n w hn fun m hm w => ih m hm (by omega) w


theorem plan_one {n r : Nat} (h : r ≤ n) : plan (n + 1) r = 1 :: plan n r := by
  unfold plan
  rw [show n + 1 - r = (n - r) + 1 by omega, List.replicate_succ, List.cons_append]
theorem plan_full (n : Nat) : plan (n + 1) (n + 1) = 2 :: plan n n := by
  unfold plan
  rw [Nat.sub_self, Nat.sub_self, List.replicate_succ]
  rfl
theorem after_two (s : St) {n r : Nat} (h : r ≤ n) : (s.filed 2).after (plan n r) = s.after (plan (n + 1) (r + 1)) := by
  rw [after_plan, after_plan, show n + 1 - (r + 1) = n - r by omega]
  simp only [St.filed, show ¬ ((2 : Int) = 1) from by decide, if_false, St.root, St.mk.injEq, and_true, true_and, Int.natCast_succ, Int.add_mul, Int.one_mul]
  omega
theorem none_fine (F : St → Bool) : ∀ (n : Nat) (s : St), (∀ r, r ≤ n → F (s.after (plan n r)) = false) → ∀ l ∈ lists n, F (s.after l) = false
  | 0, s, h, l, hl => by
    simp only [lists, List.mem_cons, List.not_mem_nil, or_false] at hl
    subst hl
    exact h 0 (Nat.le_refl _)
  | n + 1, s, h, l, hl => by
    simp only [lists, List.mem_append, List.mem_map] at hl
    rcases hl with ⟨q, hq, rfl⟩ | ⟨q, hq, rfl⟩
    · exact none_fine F n (s.filed 1) (fun r hr => by have := h r (by omega); rwa [plan_one hr] at this) q hq
    · exact none_fine F n (s.filed 2) (fun r hr => by rw [after_two s hr]; exact h (r + 1) (by omega)) q hq
theorem first_fine (F : St → Bool) : ∀ (n r : Nat) (s : St), r ≤ n → F (s.after (plan n r)) = true → (∀ q, q < r → F (s.after (plan n q)) = false) → (lists n).find? (fun l => F (s.after l)) = some (plan n r)
  | 0, r, s, hr, h, _ => by
    obtain rfl : r = 0 := by omega
    have h : F (s.after []) = true := h
    simp [lists, h, plan]
  | n + 1, r, s, hr, h, hq => by
    have e1 : ∀ (k : Int), ((lists n).map (k :: ·)).find? (fun l => F (s.after l)) = ((lists n).find? (fun l => F ((s.filed k).after l))).map (k :: ·) := by
      intro k
      rw [List.find?_map]
      rfl
    rw [lists, List.find?_append, e1, e1]
    rcases Nat.lt_or_ge n r with hlt | hge
    · obtain rfl : r = n + 1 := by omega
      have e2 : (lists n).find? (fun l => F ((s.filed 1).after l)) = none := by
        rw [List.find?_eq_none]
        intro l hl
        have := none_fine F n (s.filed 1) (fun r hr => by have := hq r (by omega); rwa [plan_one hr] at this) l hl
        simp [this]
      have e3 := first_fine F n n (s.filed 2) (Nat.le_refl _) (by rw [after_two s (Nat.le_refl _)]; exact h) (fun q h9 => by rw [after_two s (by omega)]; exact hq (q + 1) (by omega))
      rw [e2, e3, plan_full]
      rfl
    · have e2 := first_fine F n r (s.filed 1) hge (by rw [plan_one hge] at h; exact h) (fun q h9 => by have := hq q h9; rwa [plan_one (by omega)] at this)
      rw [e2, plan_one hge]
      rfl
theorem roots_min {j : Jb} {n : Nat} {l : List Int} : ∀ (k r : Nat), rootsFrom j n k r = some l → ∃ r', r ≤ r' ∧ r' < r + k ∧ l = plan n r' ∧ isFine j (plan n r') = true ∧ ∀ q, r ≤ q → q < r' → isFine j (plan n q) = false
  | 0, _, h => by cases h
  | k + 1, r, h => by
    unfold rootsFrom at h
    split at h
    · rename_i hf
      injection h with h
      exact ⟨r, by omega, by omega, h.symm, hf, fun q a b => by omega⟩
    · rename_i hf
      obtain ⟨r', h1, h2, h3, h4, h5⟩ := roots_min k (r + 1) h
      refine ⟨r', by omega, by omega, h3, h4, fun q a b => ?_⟩
      by_cases e : q = r
      · subst e; exact Bool.eq_false_iff.2 hf
      · exact h5 q (by omega) b
theorem roots_find (j : Jb) (n : Nat) : rootsFrom j n (n + 1) 0 = (lists n).find? (isFine j) := by
  have key : isFine j = fun l => (fun s => fineJ j s == 1) (j.st.after l) := rfl
  cases h : rootsFrom j n (n + 1) 0 with
  | none =>
    have hn := roots_none _ _ h
    have := none_fine (fun s => fineJ j s == 1) n j.st (fun r hr => hn r (by omega) (by omega))
    symm
    rw [List.find?_eq_none]
    intro l hl
    have h9 := this l hl
    rw [key]
    simp only [h9]
    decide
  | some l =>
    obtain ⟨r, _, h2, rfl, h4, h5⟩ := roots_min _ _ h
    rw [key]
    exact (first_fine (fun s => fineJ j s == 1) n r j.st (by omega) h4 (fun q hq => h5 q (by omega) hq)).symm


end Go.Proofs.Ythlpceoajhcliaa
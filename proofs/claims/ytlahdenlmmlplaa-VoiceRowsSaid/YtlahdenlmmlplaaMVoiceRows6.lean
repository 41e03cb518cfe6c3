/-
  law05: what the laws about scales use.
-/
import Derived.Test.YtlahdenlmmlplaaMVoiceRows1
import Derived.Test.YtlahdenlmmlplaaMVoiceRows2
import Derived.Test.YtlahdenlmmlplaaMVoiceRows3
import Derived.Test.YtlahdenlmmlplaaMVoiceRows4
import Derived.Test.YtlahdenlmmlplaaMVoiceRows5
namespace Go.Proofs.Ytlahdenlmmlplaa
set_option linter.unusedSimpArgs false
set_option linter.unusedVariables false
open Go.RowKit

def onlyB (l : List Int) (n : Int) : Bool := l.all fun u => decide (u = n)
theorem onlyB_bd {l : List Int} {n x : Int} {k : Nat} (h : l[k]? = some x) (hx : x = n) (H : onlyB (l.take k) n = true) : onlyB (l.take (k + 1)) n = true := by
  unfold onlyB at *
  rw [List.take_add_one, h, List.all_append, H]
  simp [hx]
theorem Tremolo_reg (l : Lw) (A : Option Addr) (c : Nat) (LL : List LS) (G : Option Addr) (d : Nat) (g : List Int) (w : World) (hS : SGood l (rowsOf LL)) (ha : Asc (rowsOf LL).length g) (hA : Rd w w.heap.size 1 A LL.length (lsC LL)) (hE : ElsS w LL) (hG : Rd w w.heap.size 1 G g.length (ic g)) :
    Calls Try.prog 15 #[.agg #[.int .i64 l.first, .int .i64 l.step, .int .i64 l.span, .int .i64 l.press, .slice A LL.length c], .slice G g.length d] w fun e w' => ∃ A' c' I, e = .returned (.tuple #[.slice A' (tremP l (rowsOf LL) g).length c', .int .i64 0]) ∧ (∃ b o, ∀ (w : World) (ex : Nat → Prop), Sp w ex I A' (tremP l (rowsOf LL) g).length 1 b o (ic (tremP l (rowsOf LL) g))) ∧ Mem w noEx w' I := by
  have h4 := hS.len
  rw [show (rowsOf LL).length = LL.length by simp] at h4
  have hx : ∀ x ∈ LL, x.1.length ≤ 1000000 := fun x hx => by have := (hS.rows x.1 (List.mem_map.2 ⟨x, hx, rfl⟩)).1; omega
  have hg := ha.short
  rw [show (rowsOf LL).length = LL.length by simp] at hg
  refine Calls.mono (Tremolo_any l A c LL G d g w hA hE (by omega) hx hG (by omega)) fun e w' h => ?_
  have e9 : tremE l (rowsOf LL) g = (tremP l (rowsOf LL) g, 0) := by unfold tremE; rw [if_pos (ha.check hS)]
  rw [e9] at h
  obtain ⟨A', c', I, rfl, _, h2, h3⟩ := h
  exact ⟨A', c', I, rfl, h2, h3⟩


set_option maxRecDepth 100000 in
set_option maxHeartbeats 1000000 in
theorem only_any (A : Option Addr) (m c : Nat) (l : List Int) (v : Int) (w : World) (hr : Rd w w.heap.size 1 A m (ic l)) (hm : m ≤ 1000000) :
    Calls Try.prog 16 #[.slice A m c, .int .i64 v] w fun e w' => e = .returned (.bool (onlyB l v)) ∧ Below w.heap.size w w' := by
  have hml := hr.len1
  obtain ⟨bA, oA, SA⟩ := Sp.old hr
  refine px_enter noEx Try.func16 rfl 18 rfl [.slice A m c, .int .i64 v] rfl rfl (Mem.init w _) ?_
  intro ac wc T M
  refine wp_seq ?_
  refine wp_region_lit ?_
  refine l_q T rfl rfl rfl rfl (rn_assign rfl evc) ?_; clear T ac; intro ac T
  refine wpList_nil ?_
  replace T := T.pick [1, 2] rfl
  refine nm_then ?_
  refine wp_seq ?_
  refine wp_seq ?_
  refine wp_region_lit ?_
  refine l_q T rfl rfl rfl rfl (rn_assign rfl evc) ?_; clear T ac; intro ac T
  refine wpList_nil ?_
  refine nm_then ?_
  refine wp_block ?_
  refine wp_loop_n (fun mz ac wc => ∃ (k : Nat), mz = m - k ∧ (k ≤ m) ∧ (onlyB (l.take k) v = true) ∧ Tm ac 18 [(0, .slice A m c), (1, .int .i64 v), (5, .int .i64 (k : Int))] ∧ Mem w noEx wc []) ?_ ?_
  ·exact ⟨_, 0, rfl, (Nat.zero_le _), rfl, T.pick [1, 2, 0] rfl, M.mask [] rfl⟩
  ·clear T M
   rintro mz ac wc ⟨k, hmm1, hk, H, T, M⟩
   refine wp_seq ?_
   refine wp_seq ?_
   refine wp_region_lit ?_
   refine l_q T rfl rfl rfl rfl (rn_move rfl (T.ev 2 rfl)) ?_; clear T ac; intro ac T
   refine l_q T rfl rfl rfl rfl (rn_move rfl (T.ev 1 rfl)) ?_; clear T ac; intro ac T
   refine l_q T rfl rfl rfl rfl (rn_lenS rfl Try.underlying22 (T.ev 0 rfl)) ?_; clear T ac; intro ac T
   refine l_q T rfl rfl rfl rfl (rn_lss rfl (T.ev 2 rfl) (T.ev 0 rfl)) ?_; clear T ac; intro ac T
   refine wpList_nil ?_
   replace T := T.pick [0, 4, 5, 6] rfl
   refine nm_then ?_
   refine wp_if (T.ev 0 rfl) ?_ ?_
   ·intro h1
    obtain ⟨x, hkx, -⟩ := ic_next (l := l) (k := k) (by omega)
    refine wp_skip ?_
    refine nm_then ?_
    refine wp_seq ?_
    refine wp_block ?_
    refine wp_seq ?_
    refine wp_region_lit ?_
    refine l_q T rfl rfl rfl rfl (rn_move rfl (T.ev 1 rfl)) ?_; clear T ac; intro ac T
    refine l_q T rfl rfl rfl rfl (rn_move rfl (T.ev 4 rfl)) ?_; clear T ac; intro ac T
    refine l_q T rfl rfl rfl rfl (rn_indexAddr (size := 1) k rfl (T.ev 1 rfl) (T.ev 0 rfl) ⟨_, Try.underlying22, by kernel_rfl⟩ rfl (by omega) (SA.at0 (by omega))) ?_; clear T ac; intro ac T
    refine l_q T rfl rfl rfl rfl (rn_cell (Sp.ic0 SA M (List.nil_sublist _) hkx) rfl (T.ev 0 rfl)) ?_; clear T ac; intro ac T
    refine l_q T rfl rfl rfl rfl (rn_move rfl (T.ev 6 rfl)) ?_; clear T ac; intro ac T
    refine l_q T rfl rfl rfl rfl (rn_neq rfl (T.ev 1 rfl) (T.ev 0 rfl)) ?_; clear T ac; intro ac T
    refine wpList_nil ?_
    replace T := T.pick [0, 7, 8, 9] rfl
    refine nm_then ?_
    refine wp_ifn (T.ev 0 rfl) ?_ ?_
    ·intro h2
     refine wp_seq ?_
     refine wp_region_lit ?_
     refine l_q T rfl rfl rfl rfl (rn_assign rfl evc) ?_; clear T ac; intro ac T
     refine wpList_nil ?_
     replace T := T.pick [0] rfl
     refine nm_then ?_
     refine wp_ret ?_
     refine rt_blk ?_
     refine rt_then ?_
     refine rt_then ?_
     refine rt_blk ?_
     refine rt_then ?_
     refine rt_1 T rfl (T.ev 0 rfl) ?_
     refine ⟨ret_bool ?_, M.below⟩
     symm
     unfold onlyB
     rw [List.all_eq_false]
     exact ⟨x, List.mem_of_getElem? hkx, by simp; omega⟩
    ·intro h2
     refine wp_skip ?_
     refine nm_blk ?_
     refine nm_then ?_
     refine wp_region_lit ?_
     refine l_q T rfl rfl rfl rfl (rn_move rfl (T.ev 3 rfl)) ?_; clear T ac; intro ac T
     refine l_q T rfl rfl rfl rfl (rn_add rfl (T.ev 0 rfl) evc (by omega)) ?_; clear T ac; intro ac T
     refine l_q (v := (.int .i64 ((k : Int) + 1))) (T.pick [0, 1, 2, 3, 4] rfl) rfl rfl rfl rfl (rn_assign rfl (T.ev 0 rfl)) ?_; clear T ac; intro ac T
     refine wpList_nil ?_
     replace T := T.pick [0, 4, 5] rfl
     refine nm_then ?_
     exact ⟨_, by omega, k + 1, rfl, (by omega), (onlyB_bd hkx (by omega) H), T.pick [1, 2, 0] rfl, M.mask [] rfl⟩
   ·intro h1
    rw [List.take_of_length_le (by omega)] at H
    refine wp_exit ?_
    refine ex_then ?_
    refine ex_then ?_
    refine ex_hit ?_
    refine nm_then ?_
    refine wp_seq ?_
    refine wp_region_lit ?_
    refine l_q T rfl rfl rfl rfl (rn_assign rfl evc) ?_; clear T ac; intro ac T
    refine wpList_nil ?_
    replace T := T.pick [0] rfl
    refine nm_then ?_
    refine wp_ret ?_
    refine rt_1 T rfl (T.ev 0 rfl) ?_
    exact ⟨ret_bool H.symm, M.below⟩

theorem only_true (A : Option Addr) (m c : Nat) (l : List Int) (v : Int) (w : World) (hr : Rd w w.heap.size 1 A m (ic l)) (hm : m ≤ 1000000) (h : ∀ u ∈ l, u = v) :
    Calls Try.prog 16 #[.slice A m c, .int .i64 v] w fun e w' => e = .returned (.bool true) ∧ Below w.heap.size w w' := by
  have h9 := only_any A m c l v w hr hm
  rw [show onlyB l v = true by unfold onlyB; rw [List.all_eq_true]; intro u hu; simpa using h u hu] at h9
  exact h9


set_option maxRecDepth 100000 in
set_option maxHeartbeats 2000000 in
theorem VoiceRows_any (D : Option Addr) (n d : Nat) (l : List Int) (w : World) (hl : Rd w w.heap.size 1 D n (ic l)) (hm : n ≤ 9223372036854775807) :
    Calls Try.prog 3 #[.slice D n d] w fun e w' => e = .returned (.bool true) ∧ Below w.heap.size w w' := by
  have hll := hl.len1
  obtain ⟨bI, oI, SI⟩ := Sp.old hl
  refine px_enter noEx Try.func3 rfl 105 rfl [.slice D n d] rfl rfl (Mem.init w _) ?_
  intro ac wc T M
  refine wp_seq ?_
  refine wp_region_lit ?_
  refine l_q T rfl rfl rfl rfl (rn_assign rfl evc) ?_; clear T ac; intro ac T
  refine wpList_nil ?_
  replace T := T.pick [1] rfl
  refine nm_then ?_
  refine wp_seq ?_
  refine wp_region_lit ?_
  refine l_q T rfl rfl rfl rfl (rn_move rfl (T.ev 0 rfl)) ?_; clear T ac; intro ac T
  refine l_w rfl ?_; intro K hK
  refine ow_call (first := []) (cap := []) T rfl rfl rfl rfl evf (.cons (T.ev 0 rfl) .nil) Try.func12 rfl rfl ?_
  refine Calls.mono (newPot_any _ _ _ l _ (SI.rd M (List.nil_sublist _)) (by omega)) ?_
  clear T
  rintro e wc ⟨bpu1, su1, hsu1, rfl, N⟩
  intro ac T
  replace M := M.join N; clear N
  replace M := M.mask [true] rfl
  refine sh_out hK _ _ ?_; clear hK K
  refine l_q T rfl rfl rfl rfl (rn_assign rfl (T.ev 0 rfl)) ?_; clear T ac; intro ac T
  refine wpList_nil ?_
  replace T := T.pick [0] rfl
  refine nm_then ?_
  refine wp_seq ?_
  refine wp_region_lit ?_
  refine l_q T rfl rfl rfl rfl (rn_move rfl (T.ev 0 rfl)) ?_; clear T ac; intro ac T
  refine l_w rfl ?_; intro K hK
  refine ow_call (first := []) (cap := []) T rfl rfl rfl rfl evf (.cons (T.ev 0 rfl) (.cons evc (.cons evc (.cons evc .nil)))) Try.func13 rfl rfl ?_
  refine Calls.mono (scaleOf_any _ bpu1 4 4 2 _ (by omega) (by omega) (by omega) (M.nth 0 rfl) hsu1) ?_
  clear T
  rintro e wc ⟨lu2, LLu2, Au2, cu2, su2, Iu2, rfl, hSu2, hsu2, Su2, Eu2, N⟩
  intro ac T
  obtain ⟨bu2, ou2, Su2⟩ := Su2
  replace Su2 := Su2 w noEx
  replace M := (M.joinW .head N).swapI
  clear N
  replace M : Mem w noEx wc ((bpu1, .cells [.int .u64 su2]) :: Iu2) := M
  have hlenu2 := hSu2.len
  rw [show (rowsOf LLu2).length = LLu2.length by simp] at hlenu2
  have hNu2 := hSu2.notes
  refine sh_out hK _ _ ?_; clear hK K
  refine l_w rfl ?_; intro K hK
  refine ow_al M T rfl rfl rfl rfl ?_; clear M T; intro g1 wc ac M T
  refine sh_out hK _ _ ?_; clear hK K
  refine l_w rfl ?_; intro K hK
  refine ow_stO M T rfl rfl (T.ev 0 rfl) (T.ev 1 rfl) rfl .head rfl (by simp) rfl (by kernel_rfl) ?_; clear M T; intro wc ac M T
  refine sh_out hK _ _ ?_; clear hK K
  refine wpList_nil ?_
  replace T := T.pick [0, 3] rfl
  refine nm_then ?_
  refine wp_seq ?_
  refine wp_region_lit ?_
  refine l_q T rfl rfl rfl rfl (rn_move rfl (T.ev 1 rfl)) ?_; clear T ac; intro ac T
  refine l_q (v := (.pointer (some ⟨g1, 4, none⟩))) T rfl rfl rfl rfl (rn_fieldAddr (off := 4) rfl (T.ev 1 rfl) (fun _ _ _ => by kernel_rfl)) ?_; clear T ac; intro ac T
  refine l_q T rfl rfl rfl rfl (rn_one (Mem.nth M 0 rfl) rfl (T.ev 0 rfl) rfl) ?_; clear T ac; intro ac T
  refine l_q T rfl rfl rfl rfl (rn_lenS rfl Try.underlying27 (T.ev 0 rfl)) ?_; clear T ac; intro ac T
  refine l_w rfl ?_; intro K hK
  refine ow_call (first := []) (cap := []) T rfl rfl rfl rfl evf (.cons (T.ev 3 rfl) (.cons (T.ev 0 rfl) .nil)) Try.func14 rfl rfl ?_
  refine Calls.mono (pick_any _ bpu1 ((LLu2.length : Nat) : Int) _ (by omega) (M.nth 1 rfl) hsu2) ?_
  clear T
  rintro e wc ⟨gu3, Au3, cu3, su3, Iu3, rfl, hau3, hsu3, hcu3, Su3, N⟩
  intro ac T
  obtain ⟨bu3, ou3, Su3⟩ := Su3
  replace Su3 := Su3 w noEx
  replace M := (M.joinW (.tail .head) N).swapI
  clear N
  replace M : Mem w noEx wc ((g1, .cells [.int .i64 lu2.first, .int .i64 lu2.step, .int .i64 lu2.span, .int .i64 lu2.press, .slice Au2 LLu2.length cu2]) :: (bpu1, .cells [.int .u64 su3]) :: (Iu2 ++ Iu3)) := M
  replace hau3 : Asc ((rowsOf LLu2).length : Nat) gu3 := by rw [show (rowsOf LLu2).length = LLu2.length by simp]; exact hau3
  have hglu3 := hau3.short
  rw [show (rowsOf LLu2).length = LLu2.length by simp] at hglu3
  refine sh_out hK _ _ ?_; clear hK K
  refine l_q T rfl rfl rfl rfl (rn_assign rfl (T.ev 0 rfl)) ?_; clear T ac; intro ac T
  refine wpList_nil ?_
  replace T := T.pick [0, 6] rfl
  replace M := M.mask [true, false] rfl
  refine nm_then ?_
  refine wp_seq ?_
  refine wp_region_lit ?_
  refine l_q T rfl rfl rfl rfl (rn_rowO (Mem.nth M 0 rfl) rfl (T.ev 1 rfl) rfl) ?_; clear T ac; intro ac T
  refine l_q T rfl rfl rfl rfl (rn_move rfl (T.ev 1 rfl)) ?_; clear T ac; intro ac T
  refine l_w rfl ?_; intro K hK
  refine ow_call (first := []) (cap := []) T rfl rfl rfl rfl evf (.cons (T.ev 1 rfl) (.cons (T.ev 0 rfl) .nil)) Try.func15 rfl rfl ?_
  refine Calls.mono (Tremolo_reg lu2 _ _ LLu2 _ _ gu3 _ hSu2 hau3 (Su2.rd M (.cons _ (subL (List.Sublist.refl _)))) (fun x hx => by obtain ⟨b9, o9, h9⟩ := Eu2 x hx; exact (h9 w noEx).rd M (.cons _ (subL (List.Sublist.refl _)))) (Su3.rd M (.cons _ (List.sublist_append_right _ _)))) ?_
  clear T
  rintro e wc ⟨Au4, cu4, Iu4, rfl, Su4, N⟩
  intro ac T
  obtain ⟨bu4, ou4, Su4⟩ := Su4
  replace Su4 := Su4 w noEx
  obtain ⟨tmu4, htmu4⟩ : ∃ q, q = tremP lu2 (rowsOf LLu2) gu3 := ⟨_, rfl⟩
  rw [← htmu4] at Su4
  have ntmu4 : tmu4.length = notesP (rowsOf LLu2) := by rw [htmu4, tremP_length]
  replace M := (M.join N).swapI
  clear N
  replace M : Mem w noEx wc ((g1, .cells [.int .i64 lu2.first, .int .i64 lu2.step, .int .i64 lu2.span, .int .i64 lu2.press, .slice Au2 LLu2.length cu2]) :: (Iu2 ++ Iu3 ++ Iu4)) := M
  rw [← htmu4] at T
  refine sh_out hK _ _ ?_; clear hK K
  refine l_q T rfl rfl rfl rfl (rn_move rfl (T.ev 0 rfl)) ?_; clear T ac; intro ac T
  refine l_q T rfl rfl rfl rfl (rn_extract rfl (T.ev 0 rfl) rfl) ?_; clear T ac; intro ac T
  refine l_q T rfl rfl rfl rfl (rn_extract rfl (T.ev 1 rfl) rfl) ?_; clear T ac; intro ac T
  refine l_q T rfl rfl rfl rfl (rn_assign rfl (T.ev 1 rfl)) ?_; clear T ac; intro ac T
  refine l_q T rfl rfl rfl rfl (rn_assign rfl (T.ev 1 rfl)) ?_; clear T ac; intro ac T
  refine wpList_nil ?_
  replace T := T.pick [0, 1, 8, 9] rfl
  refine nm_then ?_
  refine wp_seq ?_
  refine wp_seq ?_
  refine wp_region_lit ?_
  refine l_q T rfl rfl rfl rfl (rn_move rfl (T.ev 0 rfl)) ?_; clear T ac; intro ac T
  refine l_q (v := (.bool false)) T rfl rfl rfl rfl (rn_neqof (rn_neq rfl (T.ev 0 rfl) evc) (by simp)) ?_; clear T ac; intro ac T
  refine wpList_nil ?_
  replace T := T.pick [0, 3, 4, 5] rfl
  refine nm_then ?_
  refine wp_cond_false (T.ev 0 rfl) ?_
  refine wp_skip ?_
  refine nm_then ?_
  refine wp_seq ?_
  refine wp_seq ?_
  refine wp_region_lit ?_
  refine l_q T rfl rfl rfl rfl (rn_assign rfl evc) ?_; clear T ac; intro ac T
  refine wpList_nil ?_
  replace T := T.pick [0, 2, 3, 4] rfl
  refine nm_then ?_
  refine wp_block ?_
  refine wp_loop_n (fun mz ac wc => ∃ (f : Nat), mz = gu3.length + 1 - f ∧ (f ≤ gu3.length + 1) ∧ Tm ac 105 [(4, .pointer (some ⟨g1, 0, none⟩)), (5, .slice Au3 gu3.length cu3), (6, .slice Au4 tmu4.length cu4), (8, .int .i64 (f : Int))] ∧ Mem w noEx wc ((g1, .cells [.int .i64 lu2.first, .int .i64 lu2.step, .int .i64 lu2.span, .int .i64 lu2.press, .slice Au2 LLu2.length cu2]) :: (Iu2 ++ Iu3 ++ Iu4))) ?_ ?_
  ·exact ⟨_, 0, rfl, (Nat.zero_le _), T.pick [3, 2, 1, 0] rfl, M.mask [true] rfl⟩
  ·clear T M
   rintro mz ac wc ⟨f, hmm1, hf, T, M⟩
   refine wp_seq ?_
   refine wp_seq ?_
   refine wp_region_lit ?_
   refine l_q T rfl rfl rfl rfl (rn_move rfl (T.ev 3 rfl)) ?_; clear T ac; intro ac T
   refine l_q T rfl rfl rfl rfl (rn_move rfl (T.ev 2 rfl)) ?_; clear T ac; intro ac T
   refine l_q T rfl rfl rfl rfl (rn_lenS rfl Try.underlying22 (T.ev 0 rfl)) ?_; clear T ac; intro ac T
   refine l_q T rfl rfl rfl rfl (rn_leq rfl (T.ev 2 rfl) (T.ev 0 rfl)) ?_; clear T ac; intro ac T
   refine wpList_nil ?_
   replace T := T.pick [0, 4, 5, 6, 7] rfl
   refine nm_then ?_
   refine wp_if (T.ev 0 rfl) ?_ ?_
   ·intro h1
    refine wp_skip ?_
    refine nm_then ?_
    refine wp_seq ?_
    refine wp_block ?_
    refine wp_seq ?_
    refine wp_region_lit ?_
    refine l_q T rfl rfl rfl rfl (rn_move rfl (T.ev 4 rfl)) ?_; clear T ac; intro ac T
    refine l_q T rfl rfl rfl rfl (rn_assign rfl (T.ev 0 rfl)) ?_; clear T ac; intro ac T
    refine wpList_nil ?_
    replace T := T.pick [0, 3, 4, 5, 6] rfl
    refine nm_then ?_
    refine wp_block ?_
    refine wp_loop_n (fun mz ac wc => ∃ (z : Nat), mz = gu3.length + 1 - z ∧ (f ≤ z ∧ z ≤ gu3.length + 1) ∧ Tm ac 105 [(4, .pointer (some ⟨g1, 0, none⟩)), (5, .slice Au3 gu3.length cu3), (6, .slice Au4 tmu4.length cu4), (8, .int .i64 (f : Int)), (9, .int .i64 (z : Int))] ∧ Mem w noEx wc ((g1, .cells [.int .i64 lu2.first, .int .i64 lu2.step, .int .i64 lu2.span, .int .i64 lu2.press, .slice Au2 LLu2.length cu2]) :: (Iu2 ++ Iu3 ++ Iu4))) ?_ ?_
    ·exact ⟨_, f, rfl, (by omega), T.pick [1, 2, 3, 4, 0] rfl, M.mask [true] rfl⟩
    ·clear T M
     rintro mz ac wc ⟨z, hmm2, hz, T, M⟩
     refine wp_seq ?_
     refine wp_seq ?_
     refine wp_region_lit ?_
     refine l_q T rfl rfl rfl rfl (rn_move rfl (T.ev 4 rfl)) ?_; clear T ac; intro ac T
     refine l_q T rfl rfl rfl rfl (rn_move rfl (T.ev 2 rfl)) ?_; clear T ac; intro ac T
     refine l_q T rfl rfl rfl rfl (rn_lenS rfl Try.underlying22 (T.ev 0 rfl)) ?_; clear T ac; intro ac T
     refine l_q T rfl rfl rfl rfl (rn_leq rfl (T.ev 2 rfl) (T.ev 0 rfl)) ?_; clear T ac; intro ac T
     refine wpList_nil ?_
     replace T := T.pick [0, 4, 5, 6, 7, 8] rfl
     refine nm_then ?_
     refine wp_if (T.ev 0 rfl) ?_ ?_
     ·intro h2
      refine wp_skip ?_
      refine nm_then ?_
      refine wp_seq ?_
      refine wp_block ?_
      refine wp_seq ?_
      refine g_start2 M (M.mask [true] rfl) 11 (by kernel_rfl) rfl (by kernel_rfl) ?_
      clear M; intro wc M
      refine g_q (T := T) (i := 0) rfl (by kernel_rfl) (by kernel_rfl : (pbits 11 0).setIfInBounds 0 true = pbits 11 1) si_U (fun _ _ _ h => h) rfl rfl rfl rfl (fun B w' hD hl hS => (rn_rowO (Mem.nth (show Mem w noEx w' _ from hS) 0 rfl) rfl (T.ev 1 rfl) rfl)) ?_; clear T ac; intro ac T
      refine g_q (T := T) (i := 1) rfl (by kernel_rfl) (by kernel_rfl : (pbits 11 1).setIfInBounds 1 true = pbits 11 3) si_U (fun _ _ _ h => h) rfl rfl rfl rfl (fun _ _ _ _ _ => (rn_move rfl (T.ev 3 rfl))) ?_; clear T ac; intro ac T
      refine g_q (T := T) (i := 2) rfl (by kernel_rfl) (by kernel_rfl : (pbits 11 3).setIfInBounds 2 true = pbits 11 7) si_U (fun _ _ _ h => h) rfl rfl rfl rfl (fun _ _ _ _ _ => (rn_move rfl (T.ev 6 rfl))) ?_; clear T ac; intro ac T
      refine g_q (T := T) (i := 3) rfl (by kernel_rfl) (by kernel_rfl : (pbits 11 7).setIfInBounds 3 true = pbits 11 15) si_U (fun _ _ _ h => h) rfl rfl rfl rfl (fun _ _ _ _ _ => (rn_move rfl (T.ev 8 rfl))) ?_; clear T ac; intro ac T
      refine g_q (T := T) (i := 4) rfl (by kernel_rfl) (by kernel_rfl : (pbits 11 15).setIfInBounds 4 true = pbits 11 31) si_U (fun _ _ _ h => h) rfl rfl rfl rfl (fun _ _ _ _ _ => (rn_slice (size := 1) (l := f) (h := z) rfl Try.underlying22 (by kernel_rfl) (T.ev 2 rfl) (T.ev 1 rfl) (T.ev 0 rfl) (by omega) (by omega))) ?_; clear T ac; intro ac T
      obtain ⟨Aq1, hAq1⟩ : ∃ q : Option Addr, q = (if cu3 = f then Au3 else Option.map (fun x => x.add (f * 1)) Au3) := ⟨_, rfl⟩
      rw [← hAq1] at T
      obtain ⟨lq1, hlq1⟩ : ∃ q, q = (gu3.drop f).take (z - f) := ⟨_, rfl⟩
      have nlq1 : lq1.length = z - f := by rw [hlq1, List.length_take, List.length_drop]; (try simp only [List.length_cons, List.length_append, List.length_nil]); omega
      rw [← nlq1] at T
      have SAq1 : Sp w noEx Iu3 Aq1 lq1.length 1 bu3 (ou3 + f * 1) (ic lq1) := by rw [nlq1, hAq1, hlq1, ← ic_part]; exact Su3.sub (by omega) (by omega) (by omega)
      refine g_w (i := 5) (by kernel_rfl) rfl (by kernel_rfl : (pbits 11 31).setIfInBounds 5 true = pbits 11 63) rfl ?_; intro K hK
      refine ow_call (first := []) (cap := []) T rfl rfl rfl rfl evf (.cons (T.ev 4 rfl) (.cons (T.ev 0 rfl) .nil)) Try.func15 rfl rfl ?_
      refine Calls.mono (Tremolo_reg lu2 _ _ LLu2 _ _ lq1 _ hSu2 (by rw [hlq1]; exact hau3.sub ((List.take_sublist _ _).trans (List.drop_sublist _ _))) (Su2.rd M (.cons _ (subL (subL (List.Sublist.refl _))))) (fun x hx => by obtain ⟨b9, o9, h9⟩ := Eu2 x hx; exact (h9 w noEx).rd M (.cons _ (subL (subL (List.Sublist.refl _))))) (SAq1.rd M (.cons _ (subL (List.sublist_append_right _ _))))) ?_
      clear T
      rintro e wc ⟨Au5, cu5, Iu5, rfl, Su5, N⟩
      intro ac T
      obtain ⟨bu5, ou5, Su5⟩ := Su5
      replace Su5 := Su5 w noEx
      obtain ⟨tmu5, htmu5⟩ : ∃ q, q = tremP lu2 (rowsOf LLu2) lq1 := ⟨_, rfl⟩
      rw [← htmu5] at Su5
      have ntmu5 : tmu5.length = notesP (rowsOf LLu2) := by rw [htmu5, tremP_length]
      replace M := (M.join N).swapI
      clear N
      replace M : Mem w noEx wc ((g1, .cells [.int .i64 lu2.first, .int .i64 lu2.step, .int .i64 lu2.span, .int .i64 lu2.press, .slice Au2 LLu2.length cu2]) :: (Iu2 ++ Iu3 ++ Iu4 ++ Iu5)) := M
      rw [← htmu5] at T
      refine sh_out hK _ _ ((M.mask [true] rfl).sub (List.Sublist.cons_cons _ (List.sublist_append_left _ _))) ?_; clear hK K
      refine g_q (T := T) (i := 6) rfl (by kernel_rfl) (by kernel_rfl : (pbits 11 63).setIfInBounds 6 true = pbits 11 127) si_U (fun _ _ _ h => h) rfl rfl rfl rfl (fun _ _ _ _ _ => (rn_move rfl (T.ev 0 rfl))) ?_; clear T ac; intro ac T
      refine g_q (T := T) (i := 7) rfl (by kernel_rfl) (by kernel_rfl : (pbits 11 127).setIfInBounds 7 true = pbits 11 255) si_U (fun _ _ _ h => h) rfl rfl rfl rfl (fun _ _ _ _ _ => (rn_extract rfl (T.ev 0 rfl) rfl)) ?_; clear T ac; intro ac T
      refine g_q (T := T) (i := 8) rfl (by kernel_rfl) (by kernel_rfl : (pbits 11 255).setIfInBounds 8 true = pbits 11 511) si_U (fun _ _ _ h => h) rfl rfl rfl rfl (fun _ _ _ _ _ => (rn_extract rfl (T.ev 1 rfl) rfl)) ?_; clear T ac; intro ac T
      refine g_q (T := T) (i := 9) rfl (by kernel_rfl) (by kernel_rfl : (pbits 11 511).setIfInBounds 9 true = pbits 11 1023) si_U (fun _ _ _ h => h) rfl rfl rfl rfl (fun _ _ _ _ _ => (rn_assign rfl (T.ev 1 rfl))) ?_; clear T ac; intro ac T
      refine g_q (T := T) (i := 10) rfl (by kernel_rfl) (by kernel_rfl : (pbits 11 1023).setIfInBounds 10 true = pbits 11 2047) si_U (fun _ _ _ h => h) rfl rfl rfl rfl (fun _ _ _ _ _ => (rn_assign rfl (T.ev 1 rfl))) ?_; clear T ac; intro ac T
      refine g_done (by kernel_rfl) ?_
      replace T := T.pick [0, 1, 12, 13, 14, 15, 16] rfl
      refine nm_then ?_
      refine wp_seq ?_
      refine cut_seq (fun ac wc => Tm ac 105 [(4, .pointer (some ⟨g1, 0, none⟩)), (5, .slice Au3 gu3.length cu3), (6, .slice Au4 tmu4.length cu4), (8, .int .i64 (f : Int)), (9, .int .i64 (z : Int)), (10, .slice Au5 tmu5.length cu5), (55, .slice Au5 tmu5.length cu5), (56, .int .i64 ((tmu5.length : Nat) : Int)), (57, .slice Au4 tmu4.length cu4), (58, .int .i64 ((tmu4.length : Nat) : Int)), (59, .bool (!(decide (((tmu5.length : Nat) : Int) = ((tmu4.length : Nat) : Int))))), (62, .int .i64 (z : Int)), (63, .int .i64 (f : Int)), (64, .int .i64 ((z : Int) - (f : Int))), (65, .bool (decide (((z : Int) - (f : Int)) < 2))), (66, .bool (decide (((z : Int) - (f : Int)) < 2))), (70, .bool false), (71, .bool false)] ∧ Mem w noEx wc ((g1, .cells [.int .i64 lu2.first, .int .i64 lu2.step, .int .i64 lu2.span, .int .i64 lu2.press, .slice Au2 LLu2.length cu2]) :: (Iu2 ++ Iu3 ++ Iu4 ++ Iu5))) ?_ ?_
      ·refine wp_region_lit ?_
       refine l_q T rfl rfl rfl rfl (rn_move rfl (T.ev 0 rfl)) ?_; clear T ac; intro ac T
       refine l_q (v := (.bool false)) T rfl rfl rfl rfl (rn_neqof (rn_neq rfl (T.ev 0 rfl) evc) (by simp)) ?_; clear T ac; intro ac T
       refine l_q T rfl rfl rfl rfl (rn_move rfl (T.ev 0 rfl)) ?_; clear T ac; intro ac T
       refine l_q T (wanted_yes rfl rfl (T.ev 0 rfl) rfl) rfl rfl rfl (rn_move rfl (T.ev 4 rfl)) ?_; clear T ac; intro ac T
       refine l_q T (wanted_yes rfl rfl (T.ev 1 rfl) rfl) rfl rfl rfl (rn_lenS rfl Try.underlying22 (T.ev 0 rfl)) ?_; clear T ac; intro ac T
       refine l_q T (wanted_yes rfl rfl (T.ev 2 rfl) rfl) rfl rfl rfl (rn_move rfl (T.ev 9 rfl)) ?_; clear T ac; intro ac T
       refine l_q T (wanted_yes rfl rfl (T.ev 3 rfl) rfl) rfl rfl rfl (rn_lenS rfl Try.underlying22 (T.ev 0 rfl)) ?_; clear T ac; intro ac T
       refine l_q T (wanted_yes rfl rfl (T.ev 4 rfl) rfl) rfl rfl rfl (rn_neq rfl (T.ev 2 rfl) (T.ev 0 rfl)) ?_; clear T ac; intro ac T
       refine l_q T rfl rfl rfl rfl (rn_pick0 rfl (T.ev 5 rfl) rfl (T.ev 0 rfl)) ?_; clear T ac; intro ac T
       refine l_q T rfl rfl rfl rfl (rn_move rfl (T.ev 0 rfl)) ?_; clear T ac; intro ac T
       refine l_q T (wanted_yes rfl rfl (T.ev 0 rfl) (by rw [show (decide (((tmu5.length : Nat) : Int) = ((tmu4.length : Nat) : Int))) = true from (decide_eq_true (by omega))]; rfl)) rfl rfl rfl (rn_move rfl (T.ev 16 rfl)) ?_; clear T ac; intro ac T
       refine l_q T (wanted_yes rfl rfl (T.ev 1 rfl) (by rw [show (decide (((tmu5.length : Nat) : Int) = ((tmu4.length : Nat) : Int))) = true from (decide_eq_true (by omega))]; rfl)) rfl rfl rfl (rn_move rfl (T.ev 16 rfl)) ?_; clear T ac; intro ac T
       refine l_q T (wanted_yes rfl rfl (T.ev 2 rfl) (by rw [show (decide (((tmu5.length : Nat) : Int) = ((tmu4.length : Nat) : Int))) = true from (decide_eq_true (by omega))]; rfl)) rfl rfl rfl (rn_sub rfl (T.ev 1 rfl) (T.ev 0 rfl) (by omega)) ?_; clear T ac; intro ac T
       refine l_q T (wanted_yes rfl rfl (T.ev 3 rfl) (by rw [show (decide (((tmu5.length : Nat) : Int) = ((tmu4.length : Nat) : Int))) = true from (decide_eq_true (by omega))]; rfl)) rfl rfl rfl (rn_lss rfl (T.ev 0 rfl) evc) ?_; clear T ac; intro ac T
       refine l_q T (wanted_yes rfl rfl (T.ev 4 rfl) (by rw [show (decide (((tmu5.length : Nat) : Int) = ((tmu4.length : Nat) : Int))) = true from (decide_eq_true (by omega))]; rfl)) rfl rfl rfl (rn_move rfl (T.ev 0 rfl)) ?_; clear T ac; intro ac T
       rcases Bool.eq_false_or_eq_true (decide (((z : Int) - (f : Int)) < 2)) with h3 | h3
       ·replace h3 := of_decide_eq_true h3
        refine l_q T (wanted_yes rfl rfl (T.ev 0 rfl) (decide_eq_true h3)) rfl rfl rfl (rn_move rfl (T.ev 16 rfl)) ?_; clear T ac; intro ac T
        refine l_w (wanted_yes rfl rfl (T.ev 1 rfl) (decide_eq_true h3)) ?_; intro K hK
        refine ow_call (first := []) (cap := []) T rfl rfl rfl rfl evf (.cons (T.ev 0 rfl) (.cons evc .nil)) Try.func16 rfl rfl ?_
        refine Calls.mono (only_true _ _ _ tmu5 1 _ (Su5.rd M (.cons _ (List.sublist_append_right _ _))) (by omega) (by rw [htmu5, hlq1]; exact rows_short (by omega))) ?_
        clear T
        rintro e wc ⟨rfl, hb⟩
        intro ac T
        replace M := M.call hb; clear hb
        refine sh_out hK _ _ ?_; clear hK K
        refine l_q (v := (.bool false)) T (wanted_yes rfl rfl (T.ev 2 rfl) (decide_eq_true h3)) rfl rfl rfl (rn_neqof (rn_not rfl (T.ev 0 rfl)) (by simp)) ?_; clear T ac; intro ac T
        refine l_q T (wanted_yes rfl rfl (T.ev 8 rfl) (by rw [show (decide (((tmu5.length : Nat) : Int) = ((tmu4.length : Nat) : Int))) = true from (decide_eq_true (by omega))]; rfl)) rfl rfl rfl (rn_pick1 rfl (T.ev 3 rfl) (decide_eq_true h3) (T.ev 0 rfl)) ?_; clear T ac; intro ac T
        refine l_q T rfl rfl rfl rfl (rn_pick0 rfl (T.ev 9 rfl) (by rw [show (decide (((tmu5.length : Nat) : Int) = ((tmu4.length : Nat) : Int))) = true from (decide_eq_true (by omega))]; rfl) (T.ev 0 rfl)) ?_; clear T ac; intro ac T
        refine wpList_nil ?_
        replace T := T.pick [0, 1, 2, 3, 4, 5, 6, 7, 8, 9, 12, 13, 14, 15, 16, 21, 22, 23, 24, 25, 26] rfl
        exact ⟨(T.pick (E' := [(4, .pointer (some ⟨g1, 0, none⟩)), (5, .slice Au3 gu3.length cu3), (6, .slice Au4 tmu4.length cu4), (8, .int .i64 (f : Int)), (9, .int .i64 (z : Int)), (10, .slice Au5 tmu5.length cu5), (55, .slice Au5 tmu5.length cu5), (56, .int .i64 ((tmu5.length : Nat) : Int)), (57, .slice Au4 tmu4.length cu4), (58, .int .i64 ((tmu4.length : Nat) : Int)), (59, .bool (!(decide (((tmu5.length : Nat) : Int) = ((tmu4.length : Nat) : Int))))), (62, .int .i64 (z : Int)), (63, .int .i64 (f : Int)), (64, .int .i64 ((z : Int) - (f : Int))), (65, .bool (decide (((z : Int) - (f : Int)) < 2))), (66, .bool (decide (((z : Int) - (f : Int)) < 2))), (70, .bool false), (71, .bool false)]) [16, 17, 18, 19, 20, 15, 14, 13, 12, 11, 10, 9, 8, 7, 6, 5, 1, 0] rfl).as (by (try rw [show (decide (((z : Int) - (f : Int)) < 2)) = true from (decide_eq_true h3)]); (try rfl)), M.mask [true] rfl⟩
       ·replace h3 := of_decide_eq_false h3
        refine l_pass T (wanted_no rfl rfl (T.ev 0 rfl) (decide_eq_false h3)) rfl rfl rfl ?_; clear T ac; intro ac T
        refine l_pass T (wanted_no rfl rfl (T.ev 1 rfl) (decide_eq_false h3)) rfl rfl rfl ?_; clear T ac; intro ac T
        refine l_pass T (wanted_no rfl rfl (T.ev 2 rfl) (decide_eq_false h3)) rfl rfl rfl ?_; clear T ac; intro ac T
        refine l_q T (wanted_yes rfl rfl (T.ev 8 rfl) (by rw [show (decide (((tmu5.length : Nat) : Int) = ((tmu4.length : Nat) : Int))) = true from (decide_eq_true (by omega))]; rfl)) rfl rfl rfl (rn_pick0 rfl (T.ev 3 rfl) (decide_eq_false h3) evc) ?_; clear T ac; intro ac T
        refine l_q T rfl rfl rfl rfl (rn_pick0 rfl (T.ev 9 rfl) (by rw [show (decide (((tmu5.length : Nat) : Int) = ((tmu4.length : Nat) : Int))) = true from (decide_eq_true (by omega))]; rfl) (T.ev 0 rfl)) ?_; clear T ac; intro ac T
        refine wpList_nil ?_
        replace T := T.pick [0, 1, 2, 3, 4, 5, 6, 7, 8, 9, 12, 13, 14, 15, 16, 21, 22, 23, 24, 25, 26] rfl
        exact ⟨(T.pick (E' := [(4, .pointer (some ⟨g1, 0, none⟩)), (5, .slice Au3 gu3.length cu3), (6, .slice Au4 tmu4.length cu4), (8, .int .i64 (f : Int)), (9, .int .i64 (z : Int)), (10, .slice Au5 tmu5.length cu5), (55, .slice Au5 tmu5.length cu5), (56, .int .i64 ((tmu5.length : Nat) : Int)), (57, .slice Au4 tmu4.length cu4), (58, .int .i64 ((tmu4.length : Nat) : Int)), (59, .bool (!(decide (((tmu5.length : Nat) : Int) = ((tmu4.length : Nat) : Int))))), (62, .int .i64 (z : Int)), (63, .int .i64 (f : Int)), (64, .int .i64 ((z : Int) - (f : Int))), (65, .bool (decide (((z : Int) - (f : Int)) < 2))), (66, .bool (decide (((z : Int) - (f : Int)) < 2))), (70, .bool false), (71, .bool false)]) [16, 17, 18, 19, 20, 15, 14, 13, 12, 11, 10, 9, 8, 7, 6, 5, 1, 0] rfl).as (by (try rw [show (decide (((z : Int) - (f : Int)) < 2)) = false from (decide_eq_false h3)]); (try rfl)), M.mask [true] rfl⟩
      ·clear T M
       rintro ac wc ⟨T, M⟩
       refine wp_cond_false (T.ev 17 rfl) ?_
       refine wp_skip ?_
       refine nm_then ?_
       refine wp_seq ?_
       refine wp_region_lit ?_
       refine l_q T rfl rfl rfl rfl (rn_assign rfl evc) ?_; clear T ac; intro ac T
       refine wpList_nil ?_
       replace T := T.pick [0, 1, 2, 3, 4, 5, 6, 7, 8, 9, 10, 11, 12, 13, 14, 15, 16, 17] rfl
       refine nm_then ?_
       refine wp_block ?_
       refine wp_loop_n (fun mz ac wc => ∃ (q : Nat), mz = tmu4.length - q ∧ (q ≤ tmu4.length) ∧ Tm ac 105 [(4, .pointer (some ⟨g1, 0, none⟩)), (5, .slice Au3 gu3.length cu3), (6, .slice Au4 tmu4.length cu4), (8, .int .i64 (f : Int)), (9, .int .i64 (z : Int)), (10, .slice Au5 tmu5.length cu5), (12, .int .i64 (q : Int)), (55, .slice Au5 tmu5.length cu5), (56, .int .i64 ((tmu5.length : Nat) : Int)), (57, .slice Au4 tmu4.length cu4), (58, .int .i64 ((tmu4.length : Nat) : Int)), (59, .bool (!(decide (((tmu5.length : Nat) : Int) = ((tmu4.length : Nat) : Int))))), (62, .int .i64 (z : Int)), (63, .int .i64 (f : Int)), (64, .int .i64 ((z : Int) - (f : Int))), (65, .bool (decide (((z : Int) - (f : Int)) < 2))), (66, .bool (decide (((z : Int) - (f : Int)) < 2))), (70, .bool false)] ∧ Mem w noEx wc ((g1, .cells [.int .i64 lu2.first, .int .i64 lu2.step, .int .i64 lu2.span, .int .i64 lu2.press, .slice Au2 LLu2.length cu2]) :: (Iu2 ++ Iu3 ++ Iu4 ++ Iu5))) ?_ ?_
       ·exact ⟨_, 0, rfl, (Nat.zero_le _), T.pick [1, 2, 3, 4, 5, 6, 0, 7, 8, 9, 10, 11, 12, 13, 14, 15, 16, 17] rfl, M.mask [true] rfl⟩
       ·clear T M
        rintro mz ac wc ⟨q, hmm3, hq, T, M⟩
        refine wp_seq ?_
        refine wp_seq ?_
        refine wp_region_lit ?_
        refine l_q T rfl rfl rfl rfl (rn_move rfl (T.ev 6 rfl)) ?_; clear T ac; intro ac T
        refine l_q T rfl rfl rfl rfl (rn_move rfl (T.ev 3 rfl)) ?_; clear T ac; intro ac T
        refine l_q T rfl rfl rfl rfl (rn_lenS rfl Try.underlying22 (T.ev 0 rfl)) ?_; clear T ac; intro ac T
        refine l_q T rfl rfl rfl rfl (rn_lss rfl (T.ev 2 rfl) (T.ev 0 rfl)) ?_; clear T ac; intro ac T
        refine wpList_nil ?_
        replace T := T.pick [0, 4, 5, 6, 7, 8, 9, 10, 11, 12, 13, 14, 15, 16, 17, 18, 19, 20, 21] rfl
        refine nm_then ?_
        refine wp_if (T.ev 0 rfl) ?_ ?_
        ·intro h4
         obtain ⟨v, hkv, -⟩ := ic_next (l := tmu4) (k := q) (by omega)
         obtain ⟨u, hku, -⟩ := ic_next (l := tmu5) (k := q) (by omega)
         have hvu := rows_law (f := f) (m := z - f) (by rw [← htmu4]; exact hkv) (by rw [← hlq1, ← htmu5]; exact hku)
         refine wp_skip ?_
         refine nm_then ?_
         refine wp_seq ?_
         refine wp_block ?_
         refine cut_seq (fun ac wc => Tm ac 105 [(4, .pointer (some ⟨g1, 0, none⟩)), (5, .slice Au3 gu3.length cu3), (6, .slice Au4 tmu4.length cu4), (8, .int .i64 (f : Int)), (9, .int .i64 (z : Int)), (10, .slice Au5 tmu5.length cu5), (12, .int .i64 (q : Int)), (55, .slice Au5 tmu5.length cu5), (56, .int .i64 ((tmu5.length : Nat) : Int)), (57, .slice Au4 tmu4.length cu4), (58, .int .i64 ((tmu4.length : Nat) : Int)), (59, .bool (!(decide (((tmu5.length : Nat) : Int) = ((tmu4.length : Nat) : Int))))), (62, .int .i64 (z : Int)), (63, .int .i64 (f : Int)), (64, .int .i64 ((z : Int) - (f : Int))), (65, .bool (decide (((z : Int) - (f : Int)) < 2))), (66, .bool (decide (((z : Int) - (f : Int)) < 2))), (70, .bool false), (103, .bool (bif (decide (v = 1)) then ((!(decide (u = 1))) || ((decide (u = 2)) && (!(decide (v = 2))))) else ((decide (u = 2)) && (!(decide (v = 2))))))] ∧ Mem w noEx wc ((g1, .cells [.int .i64 lu2.first, .int .i64 lu2.step, .int .i64 lu2.span, .int .i64 lu2.press, .slice Au2 LLu2.length cu2]) :: (Iu2 ++ Iu3 ++ Iu4 ++ Iu5))) ?_ ?_
         ·refine wp_region_lit ?_
          refine l_q T rfl rfl rfl rfl (rn_move rfl (T.ev 3 rfl)) ?_; clear T ac; intro ac T
          refine l_q T rfl rfl rfl rfl (rn_move rfl (T.ev 8 rfl)) ?_; clear T ac; intro ac T
          refine l_q T rfl rfl rfl rfl (rn_indexAddr (size := 1) q rfl (T.ev 1 rfl) (T.ev 0 rfl) ⟨_, Try.underlying22, by kernel_rfl⟩ rfl (by omega) (Su4.at0 (by omega))) ?_; clear T ac; intro ac T
          refine l_q T rfl rfl rfl rfl (rn_cell (Sp.ic0 Su4 M (.cons _ (subL (List.sublist_append_right _ _))) hkv) rfl (T.ev 0 rfl)) ?_; clear T ac; intro ac T
          refine l_q T rfl rfl rfl rfl (rn_eql rfl (T.ev 0 rfl) evc) ?_; clear T ac; intro ac T
          refine l_q T rfl rfl rfl rfl (rn_move rfl (T.ev 0 rfl)) ?_; clear T ac; intro ac T
          rcases Bool.eq_false_or_eq_true (decide (v = 1)) with h5 | h5
          ·replace h5 := of_decide_eq_true h5
           refine l_q T (wanted_yes rfl rfl (T.ev 0 rfl) (decide_eq_true h5)) rfl rfl rfl (rn_move rfl (T.ev 12 rfl)) ?_; clear T ac; intro ac T
           refine l_q T (wanted_yes rfl rfl (T.ev 1 rfl) (decide_eq_true h5)) rfl rfl rfl (rn_move rfl (T.ev 14 rfl)) ?_; clear T ac; intro ac T
           refine l_q T (wanted_yes rfl rfl (T.ev 2 rfl) (decide_eq_true h5)) rfl rfl rfl (rn_indexAddr (size := 1) q rfl (T.ev 1 rfl) (T.ev 0 rfl) ⟨_, Try.underlying22, by kernel_rfl⟩ rfl (by omega) (Su5.at0 (by omega))) ?_; clear T ac; intro ac T
           refine l_q T (wanted_yes rfl rfl (T.ev 3 rfl) (decide_eq_true h5)) rfl rfl rfl (rn_cell (Sp.ic0 Su5 M (.cons _ (List.sublist_append_right _ _)) hku) rfl (T.ev 0 rfl)) ?_; clear T ac; intro ac T
           refine l_q T (wanted_yes rfl rfl (T.ev 4 rfl) (decide_eq_true h5)) rfl rfl rfl (rn_neq rfl (T.ev 0 rfl) evc) ?_; clear T ac; intro ac T
           refine l_q T rfl rfl rfl rfl (rn_pick1 rfl (T.ev 5 rfl) (decide_eq_true h5) (T.ev 0 rfl)) ?_; clear T ac; intro ac T
           refine l_q T rfl rfl rfl rfl (rn_move rfl (T.ev 0 rfl)) ?_; clear T ac; intro ac T
           rcases Bool.eq_false_or_eq_true (!(decide (u = 1))) with h6 | h6
           ·replace h6 : ¬ (u = 1) := by first | (rw [Bool.not_eq_true'] at h6; exact of_decide_eq_false h6) | simpa using h6
            refine l_pass T (wanted_no rfl rfl (T.ev 0 rfl) (by simp [h6])) rfl rfl rfl ?_; clear T ac; intro ac T
            refine l_pass T (wanted_no rfl rfl (T.ev 1 rfl) (by simp [h6])) rfl rfl rfl ?_; clear T ac; intro ac T
            refine l_pass T (wanted_no rfl rfl (T.ev 2 rfl) (by simp [h6])) rfl rfl rfl ?_; clear T ac; intro ac T
            refine l_pass T (wanted_no rfl rfl (T.ev 3 rfl) (by simp [h6])) rfl rfl rfl ?_; clear T ac; intro ac T
            refine l_pass T (wanted_no rfl rfl (T.ev 4 rfl) (by simp [h6])) rfl rfl rfl ?_; clear T ac; intro ac T
            refine l_pass T (wanted_no rfl rfl (T.ev 5 rfl) (by simp [h6])) rfl rfl rfl ?_; clear T ac; intro ac T
            refine l_pass T (wanted_un rfl rfl (T.ev 0 rfl)) rfl rfl rfl ?_; clear T ac; intro ac T
            refine l_pass T (wanted_un rfl rfl (T.ev 1 rfl)) rfl rfl rfl ?_; clear T ac; intro ac T
            refine l_pass T (wanted_un rfl rfl (T.ev 2 rfl)) rfl rfl rfl ?_; clear T ac; intro ac T
            refine l_pass T (wanted_un rfl rfl (T.ev 3 rfl)) rfl rfl rfl ?_; clear T ac; intro ac T
            refine l_pass T (wanted_un rfl rfl (T.ev 4 rfl)) rfl rfl rfl ?_; clear T ac; intro ac T
            refine l_pass T (wanted_no rfl rfl (T.ev 11 rfl) (by simp [h6])) rfl rfl rfl ?_; clear T ac; intro ac T
            refine l_q T rfl rfl rfl rfl (rn_pick1 rfl (T.ev 12 rfl) (by simp [h6]) evc) ?_; clear T ac; intro ac T
            refine wpList_nil ?_
            replace T := T.pick [0, 1, 2, 3, 4, 5, 6, 7, 8, 9, 10, 11, 12, 15, 16, 17, 18, 19, 27, 28, 29, 30, 31, 32, 33, 34, 35, 36, 37, 38, 39, 40, 41, 42, 43, 44] rfl
            exact ⟨(T.pick (E' := [(4, .pointer (some ⟨g1, 0, none⟩)), (5, .slice Au3 gu3.length cu3), (6, .slice Au4 tmu4.length cu4), (8, .int .i64 (f : Int)), (9, .int .i64 (z : Int)), (10, .slice Au5 tmu5.length cu5), (12, .int .i64 (q : Int)), (55, .slice Au5 tmu5.length cu5), (56, .int .i64 ((tmu5.length : Nat) : Int)), (57, .slice Au4 tmu4.length cu4), (58, .int .i64 ((tmu4.length : Nat) : Int)), (59, .bool (!(decide (((tmu5.length : Nat) : Int) = ((tmu4.length : Nat) : Int))))), (62, .int .i64 (z : Int)), (63, .int .i64 (f : Int)), (64, .int .i64 ((z : Int) - (f : Int))), (65, .bool (decide (((z : Int) - (f : Int)) < 2))), (66, .bool (decide (((z : Int) - (f : Int)) < 2))), (70, .bool false), (103, .bool true)]) [18, 19, 20, 21, 22, 23, 24, 25, 26, 27, 28, 29, 30, 31, 32, 33, 34, 35, 0] rfl).as (by (try rw [show (decide (v = 1)) = true from (decide_eq_true h5)]); (try rw [show (!(decide (u = 1))) = true from (by simp [h6])]); (try rfl)), M.mask [true] rfl⟩
           ·replace h6 : u = 1 := by first | (rw [Bool.not_eq_false'] at h6; exact of_decide_eq_true h6) | simpa using h6
            refine l_q T (wanted_yes rfl rfl (T.ev 0 rfl) (by simp [h6])) rfl rfl rfl (rn_move rfl (T.ev 19 rfl)) ?_; clear T ac; intro ac T
            refine l_q T (wanted_yes rfl rfl (T.ev 1 rfl) (by simp [h6])) rfl rfl rfl (rn_move rfl (T.ev 21 rfl)) ?_; clear T ac; intro ac T
            refine l_q T (wanted_yes rfl rfl (T.ev 2 rfl) (by simp [h6])) rfl rfl rfl (rn_indexAddr (size := 1) q rfl (T.ev 1 rfl) (T.ev 0 rfl) ⟨_, Try.underlying22, by kernel_rfl⟩ rfl (by omega) (Su5.at0 (by omega))) ?_; clear T ac; intro ac T
            refine l_q T (wanted_yes rfl rfl (T.ev 3 rfl) (by simp [h6])) rfl rfl rfl (rn_cell (Sp.ic0 Su5 M (.cons _ (List.sublist_append_right _ _)) hku) rfl (T.ev 0 rfl)) ?_; clear T ac; intro ac T
            refine l_q T (wanted_yes rfl rfl (T.ev 4 rfl) (by simp [h6])) rfl rfl rfl (rn_eql rfl (T.ev 0 rfl) evc) ?_; clear T ac; intro ac T
            refine l_q T (wanted_yes rfl rfl (T.ev 5 rfl) (by simp [h6])) rfl rfl rfl (rn_move rfl (T.ev 0 rfl)) ?_; clear T ac; intro ac T
            rcases Bool.eq_false_or_eq_true (decide (u = 2)) with h7 | h7
            ·replace h7 := of_decide_eq_true h7
             refine l_q T (wanted_yes rfl rfl (T.ev 0 rfl) (decide_eq_true h7)) rfl rfl rfl (rn_move rfl (T.ev 22 rfl)) ?_; clear T ac; intro ac T
             refine l_q T (wanted_yes rfl rfl (T.ev 1 rfl) (decide_eq_true h7)) rfl rfl rfl (rn_move rfl (T.ev 27 rfl)) ?_; clear T ac; intro ac T
             refine l_q T (wanted_yes rfl rfl (T.ev 2 rfl) (decide_eq_true h7)) rfl rfl rfl (rn_indexAddr (size := 1) q rfl (T.ev 1 rfl) (T.ev 0 rfl) ⟨_, Try.underlying22, by kernel_rfl⟩ rfl (by omega) (Su4.at0 (by omega))) ?_; clear T ac; intro ac T
             refine l_q T (wanted_yes rfl rfl (T.ev 3 rfl) (decide_eq_true h7)) rfl rfl rfl (rn_cell (Sp.ic0 Su4 M (.cons _ (subL (List.sublist_append_right _ _))) hkv) rfl (T.ev 0 rfl)) ?_; clear T ac; intro ac T
             refine l_q T (wanted_yes rfl rfl (T.ev 4 rfl) (decide_eq_true h7)) rfl rfl rfl (rn_neq rfl (T.ev 0 rfl) evc) ?_; clear T ac; intro ac T
             refine l_q T (wanted_yes rfl rfl (T.ev 11 rfl) (by simp [h6])) rfl rfl rfl (rn_pick1 rfl (T.ev 5 rfl) (decide_eq_true h7) (T.ev 0 rfl)) ?_; clear T ac; intro ac T
             refine l_q T rfl rfl rfl rfl (rn_pick0 rfl (T.ev 12 rfl) (by simp [h6]) (T.ev 0 rfl)) ?_; clear T ac; intro ac T
             refine wpList_nil ?_
             replace T := T.pick [0, 1, 2, 3, 4, 5, 6, 7, 8, 9, 10, 11, 12, 15, 16, 17, 18, 19, 27, 28, 29, 30, 31, 32, 33, 34, 35, 36, 37, 38, 39, 40, 41, 42, 43, 44] rfl
             exact ⟨(T.pick (E' := [(4, .pointer (some ⟨g1, 0, none⟩)), (5, .slice Au3 gu3.length cu3), (6, .slice Au4 tmu4.length cu4), (8, .int .i64 (f : Int)), (9, .int .i64 (z : Int)), (10, .slice Au5 tmu5.length cu5), (12, .int .i64 (q : Int)), (55, .slice Au5 tmu5.length cu5), (56, .int .i64 ((tmu5.length : Nat) : Int)), (57, .slice Au4 tmu4.length cu4), (58, .int .i64 ((tmu4.length : Nat) : Int)), (59, .bool (!(decide (((tmu5.length : Nat) : Int) = ((tmu4.length : Nat) : Int))))), (62, .int .i64 (z : Int)), (63, .int .i64 (f : Int)), (64, .int .i64 ((z : Int) - (f : Int))), (65, .bool (decide (((z : Int) - (f : Int)) < 2))), (66, .bool (decide (((z : Int) - (f : Int)) < 2))), (70, .bool false), (103, .bool (!(decide (v = 2))))]) [18, 19, 20, 21, 22, 23, 24, 25, 26, 27, 28, 29, 30, 31, 32, 33, 34, 35, 0] rfl).as (by (try rw [show (decide (v = 1)) = true from (decide_eq_true h5)]); (try rw [show (!(decide (u = 1))) = false from (by simp [h6])]); (try rw [show (decide (u = 2)) = true from (decide_eq_true h7)]); (try rfl)), M.mask [true] rfl⟩
            ·replace h7 := of_decide_eq_false h7
             refine l_pass T (wanted_no rfl rfl (T.ev 0 rfl) (decide_eq_false h7)) rfl rfl rfl ?_; clear T ac; intro ac T
             refine l_pass T (wanted_no rfl rfl (T.ev 1 rfl) (decide_eq_false h7)) rfl rfl rfl ?_; clear T ac; intro ac T
             refine l_pass T (wanted_no rfl rfl (T.ev 2 rfl) (decide_eq_false h7)) rfl rfl rfl ?_; clear T ac; intro ac T
             refine l_pass T (wanted_no rfl rfl (T.ev 3 rfl) (decide_eq_false h7)) rfl rfl rfl ?_; clear T ac; intro ac T
             refine l_pass T (wanted_no rfl rfl (T.ev 4 rfl) (decide_eq_false h7)) rfl rfl rfl ?_; clear T ac; intro ac T
             refine l_q T (wanted_yes rfl rfl (T.ev 11 rfl) (by simp [h6])) rfl rfl rfl (rn_pick0 rfl (T.ev 5 rfl) (decide_eq_false h7) evc) ?_; clear T ac; intro ac T
             refine l_q T rfl rfl rfl rfl (rn_pick0 rfl (T.ev 12 rfl) (by simp [h6]) (T.ev 0 rfl)) ?_; clear T ac; intro ac T
             refine wpList_nil ?_
             replace T := T.pick [0, 1, 2, 3, 4, 5, 6, 7, 8, 9, 10, 11, 12, 15, 16, 17, 18, 19, 27, 28, 29, 30, 31, 32, 33, 34, 35, 36, 37, 38, 39, 40, 41, 42, 43, 44] rfl
             exact ⟨(T.pick (E' := [(4, .pointer (some ⟨g1, 0, none⟩)), (5, .slice Au3 gu3.length cu3), (6, .slice Au4 tmu4.length cu4), (8, .int .i64 (f : Int)), (9, .int .i64 (z : Int)), (10, .slice Au5 tmu5.length cu5), (12, .int .i64 (q : Int)), (55, .slice Au5 tmu5.length cu5), (56, .int .i64 ((tmu5.length : Nat) : Int)), (57, .slice Au4 tmu4.length cu4), (58, .int .i64 ((tmu4.length : Nat) : Int)), (59, .bool (!(decide (((tmu5.length : Nat) : Int) = ((tmu4.length : Nat) : Int))))), (62, .int .i64 (z : Int)), (63, .int .i64 (f : Int)), (64, .int .i64 ((z : Int) - (f : Int))), (65, .bool (decide (((z : Int) - (f : Int)) < 2))), (66, .bool (decide (((z : Int) - (f : Int)) < 2))), (70, .bool false), (103, .bool false)]) [18, 19, 20, 21, 22, 23, 24, 25, 26, 27, 28, 29, 30, 31, 32, 33, 34, 35, 0] rfl).as (by (try rw [show (decide (v = 1)) = true from (decide_eq_true h5)]); (try rw [show (!(decide (u = 1))) = false from (by simp [h6])]); (try rw [show (decide (u = 2)) = false from (decide_eq_false h7)]); (try rfl)), M.mask [true] rfl⟩
          ·replace h5 := of_decide_eq_false h5
           refine l_pass T (wanted_no rfl rfl (T.ev 0 rfl) (decide_eq_false h5)) rfl rfl rfl ?_; clear T ac; intro ac T
           refine l_pass T (wanted_no rfl rfl (T.ev 1 rfl) (decide_eq_false h5)) rfl rfl rfl ?_; clear T ac; intro ac T
           refine l_pass T (wanted_no rfl rfl (T.ev 2 rfl) (decide_eq_false h5)) rfl rfl rfl ?_; clear T ac; intro ac T
           refine l_pass T (wanted_no rfl rfl (T.ev 3 rfl) (decide_eq_false h5)) rfl rfl rfl ?_; clear T ac; intro ac T
           refine l_pass T (wanted_no rfl rfl (T.ev 4 rfl) (decide_eq_false h5)) rfl rfl rfl ?_; clear T ac; intro ac T
           refine l_q T rfl rfl rfl rfl (rn_pick0 rfl (T.ev 5 rfl) (decide_eq_false h5) evc) ?_; clear T ac; intro ac T
           refine l_q T rfl rfl rfl rfl (rn_move rfl (T.ev 0 rfl)) ?_; clear T ac; intro ac T
           refine l_q T (wanted_yes rfl rfl (T.ev 0 rfl) rfl) rfl rfl rfl (rn_move rfl (T.ev 19 rfl)) ?_; clear T ac; intro ac T
           refine l_q T (wanted_yes rfl rfl (T.ev 1 rfl) rfl) rfl rfl rfl (rn_move rfl (T.ev 21 rfl)) ?_; clear T ac; intro ac T
           refine l_q T (wanted_yes rfl rfl (T.ev 2 rfl) rfl) rfl rfl rfl (rn_indexAddr (size := 1) q rfl (T.ev 1 rfl) (T.ev 0 rfl) ⟨_, Try.underlying22, by kernel_rfl⟩ rfl (by omega) (Su5.at0 (by omega))) ?_; clear T ac; intro ac T
           refine l_q T (wanted_yes rfl rfl (T.ev 3 rfl) rfl) rfl rfl rfl (rn_cell (Sp.ic0 Su5 M (.cons _ (List.sublist_append_right _ _)) hku) rfl (T.ev 0 rfl)) ?_; clear T ac; intro ac T
           refine l_q T (wanted_yes rfl rfl (T.ev 4 rfl) rfl) rfl rfl rfl (rn_eql rfl (T.ev 0 rfl) evc) ?_; clear T ac; intro ac T
           refine l_q T (wanted_yes rfl rfl (T.ev 5 rfl) rfl) rfl rfl rfl (rn_move rfl (T.ev 0 rfl)) ?_; clear T ac; intro ac T
           rcases Bool.eq_false_or_eq_true (decide (u = 2)) with h8 | h8
           ·replace h8 := of_decide_eq_true h8
            refine l_q T (wanted_yes rfl rfl (T.ev 0 rfl) (decide_eq_true h8)) rfl rfl rfl (rn_move rfl (T.ev 22 rfl)) ?_; clear T ac; intro ac T
            refine l_q T (wanted_yes rfl rfl (T.ev 1 rfl) (decide_eq_true h8)) rfl rfl rfl (rn_move rfl (T.ev 27 rfl)) ?_; clear T ac; intro ac T
            refine l_q T (wanted_yes rfl rfl (T.ev 2 rfl) (decide_eq_true h8)) rfl rfl rfl (rn_indexAddr (size := 1) q rfl (T.ev 1 rfl) (T.ev 0 rfl) ⟨_, Try.underlying22, by kernel_rfl⟩ rfl (by omega) (Su4.at0 (by omega))) ?_; clear T ac; intro ac T
            refine l_q T (wanted_yes rfl rfl (T.ev 3 rfl) (decide_eq_true h8)) rfl rfl rfl (rn_cell (Sp.ic0 Su4 M (.cons _ (subL (List.sublist_append_right _ _))) hkv) rfl (T.ev 0 rfl)) ?_; clear T ac; intro ac T
            refine l_q T (wanted_yes rfl rfl (T.ev 4 rfl) (decide_eq_true h8)) rfl rfl rfl (rn_neq rfl (T.ev 0 rfl) evc) ?_; clear T ac; intro ac T
            refine l_q T (wanted_yes rfl rfl (T.ev 11 rfl) rfl) rfl rfl rfl (rn_pick1 rfl (T.ev 5 rfl) (decide_eq_true h8) (T.ev 0 rfl)) ?_; clear T ac; intro ac T
            refine l_q T rfl rfl rfl rfl (rn_pick0 rfl (T.ev 12 rfl) rfl (T.ev 0 rfl)) ?_; clear T ac; intro ac T
            refine wpList_nil ?_
            replace T := T.pick [0, 1, 2, 3, 4, 5, 6, 7, 8, 9, 10, 11, 12, 15, 16, 17, 18, 19, 27, 28, 29, 30, 31, 32, 33, 34, 35, 36, 37, 38, 39, 40, 41, 42, 43, 44] rfl
            exact ⟨(T.pick (E' := [(4, .pointer (some ⟨g1, 0, none⟩)), (5, .slice Au3 gu3.length cu3), (6, .slice Au4 tmu4.length cu4), (8, .int .i64 (f : Int)), (9, .int .i64 (z : Int)), (10, .slice Au5 tmu5.length cu5), (12, .int .i64 (q : Int)), (55, .slice Au5 tmu5.length cu5), (56, .int .i64 ((tmu5.length : Nat) : Int)), (57, .slice Au4 tmu4.length cu4), (58, .int .i64 ((tmu4.length : Nat) : Int)), (59, .bool (!(decide (((tmu5.length : Nat) : Int) = ((tmu4.length : Nat) : Int))))), (62, .int .i64 (z : Int)), (63, .int .i64 (f : Int)), (64, .int .i64 ((z : Int) - (f : Int))), (65, .bool (decide (((z : Int) - (f : Int)) < 2))), (66, .bool (decide (((z : Int) - (f : Int)) < 2))), (70, .bool false), (103, .bool (!(decide (v = 2))))]) [18, 19, 20, 21, 22, 23, 24, 25, 26, 27, 28, 29, 30, 31, 32, 33, 34, 35, 0] rfl).as (by (try rw [show (decide (v = 1)) = false from (decide_eq_false h5)]); (try rw [show (decide (u = 2)) = true from (decide_eq_true h8)]); (try rfl)), M.mask [true] rfl⟩
           ·replace h8 := of_decide_eq_false h8
            refine l_pass T (wanted_no rfl rfl (T.ev 0 rfl) (decide_eq_false h8)) rfl rfl rfl ?_; clear T ac; intro ac T
            refine l_pass T (wanted_no rfl rfl (T.ev 1 rfl) (decide_eq_false h8)) rfl rfl rfl ?_; clear T ac; intro ac T
            refine l_pass T (wanted_no rfl rfl (T.ev 2 rfl) (decide_eq_false h8)) rfl rfl rfl ?_; clear T ac; intro ac T
            refine l_pass T (wanted_no rfl rfl (T.ev 3 rfl) (decide_eq_false h8)) rfl rfl rfl ?_; clear T ac; intro ac T
            refine l_pass T (wanted_no rfl rfl (T.ev 4 rfl) (decide_eq_false h8)) rfl rfl rfl ?_; clear T ac; intro ac T
            refine l_q T (wanted_yes rfl rfl (T.ev 11 rfl) rfl) rfl rfl rfl (rn_pick0 rfl (T.ev 5 rfl) (decide_eq_false h8) evc) ?_; clear T ac; intro ac T
            refine l_q T rfl rfl rfl rfl (rn_pick0 rfl (T.ev 12 rfl) rfl (T.ev 0 rfl)) ?_; clear T ac; intro ac T
            refine wpList_nil ?_
            replace T := T.pick [0, 1, 2, 3, 4, 5, 6, 7, 8, 9, 10, 11, 12, 15, 16, 17, 18, 19, 27, 28, 29, 30, 31, 32, 33, 34, 35, 36, 37, 38, 39, 40, 41, 42, 43, 44] rfl
            exact ⟨(T.pick (E' := [(4, .pointer (some ⟨g1, 0, none⟩)), (5, .slice Au3 gu3.length cu3), (6, .slice Au4 tmu4.length cu4), (8, .int .i64 (f : Int)), (9, .int .i64 (z : Int)), (10, .slice Au5 tmu5.length cu5), (12, .int .i64 (q : Int)), (55, .slice Au5 tmu5.length cu5), (56, .int .i64 ((tmu5.length : Nat) : Int)), (57, .slice Au4 tmu4.length cu4), (58, .int .i64 ((tmu4.length : Nat) : Int)), (59, .bool (!(decide (((tmu5.length : Nat) : Int) = ((tmu4.length : Nat) : Int))))), (62, .int .i64 (z : Int)), (63, .int .i64 (f : Int)), (64, .int .i64 ((z : Int) - (f : Int))), (65, .bool (decide (((z : Int) - (f : Int)) < 2))), (66, .bool (decide (((z : Int) - (f : Int)) < 2))), (70, .bool false), (103, .bool false)]) [18, 19, 20, 21, 22, 23, 24, 25, 26, 27, 28, 29, 30, 31, 32, 33, 34, 35, 0] rfl).as (by (try rw [show (decide (v = 1)) = false from (decide_eq_false h5)]); (try rw [show (decide (u = 2)) = false from (decide_eq_false h8)]); (try rfl)), M.mask [true] rfl⟩
         ·clear T M
          rintro ac wc ⟨T, M⟩
          refine wp_cond_split (T.ev 18 rfl) ?_ ?_
          ·intro h9
           exfalso
           revert h9; by_cases c1 : v = 1 <;> by_cases c2 : u = 1 <;> by_cases c3 : u = 2 <;> by_cases c4 : v = 2 <;> simp [c1, c2, c3, c4] <;> omega
          ·intro h9
           (try have h9' := h9; try simp only [Bool.and_eq_true, Bool.or_eq_true, Bool.not_eq_true', Bool.and_eq_false_imp, Bool.or_eq_false_iff, decide_eq_true_eq, decide_eq_false_iff_not] at h9')
           refine wp_skip ?_
           refine nm_blk ?_
           refine nm_then ?_
           refine wp_region_lit ?_
           refine l_q T rfl rfl rfl rfl (rn_move rfl (T.ev 6 rfl)) ?_; clear T ac; intro ac T
           refine l_q T rfl rfl rfl rfl (rn_add rfl (T.ev 0 rfl) evc (by omega)) ?_; clear T ac; intro ac T
           refine l_q (v := (.int .i64 ((q : Int) + 1))) (T.pick [0, 1, 2, 3, 4, 5, 6, 7, 9, 10, 11, 12, 13, 14, 15, 16, 17, 18, 19, 20] rfl) rfl rfl rfl rfl (rn_assign rfl (T.ev 0 rfl)) ?_; clear T ac; intro ac T
           refine wpList_nil ?_
           replace T := T.pick [0, 3, 4, 5, 6, 7, 8, 9, 10, 11, 12, 13, 14, 15, 16, 17, 18, 19] rfl
           refine nm_then ?_
           exact ⟨_, by omega, q + 1, rfl, (by omega), T.pick [1, 2, 3, 4, 5, 6, 0, 7, 8, 9, 10, 11, 12, 13, 14, 15, 16, 17] rfl, M.mask [true] rfl⟩
        ·intro h4
         refine wp_exit ?_
         refine ex_then ?_
         refine ex_then ?_
         refine ex_hit ?_
         refine nm_blk ?_
         refine nm_then ?_
         refine wp_region_lit ?_
         refine l_q T rfl rfl rfl rfl (rn_move rfl (T.ev 5 rfl)) ?_; clear T ac; intro ac T
         refine l_q T rfl rfl rfl rfl (rn_add rfl (T.ev 0 rfl) evc (by omega)) ?_; clear T ac; intro ac T
         refine l_q (v := (.int .i64 ((z : Int) + 1))) (T.pick [0, 1, 2, 3, 4, 5, 6, 8, 9, 10, 11, 12, 13, 14, 15, 16, 17, 18, 19, 20] rfl) rfl rfl rfl rfl (rn_assign rfl (T.ev 0 rfl)) ?_; clear T ac; intro ac T
         refine wpList_nil ?_
         replace T := T.pick [0, 4, 5, 6, 7, 10, 11, 12, 13, 14, 15, 16, 17, 18, 19, 20] rfl
         refine nm_then ?_
         exact ⟨_, by omega, z + 1, rfl, (by omega), T.pick [1, 2, 3, 4, 0] rfl, (M.sub (List.Sublist.cons_cons _ (List.sublist_append_left _ _)))⟩
     ·intro h2
      refine wp_exit ?_
      refine ex_then ?_
      refine ex_then ?_
      refine ex_hit ?_
      refine nm_blk ?_
      refine nm_then ?_
      refine wp_region_lit ?_
      refine l_q T rfl rfl rfl rfl (rn_move rfl (T.ev 4 rfl)) ?_; clear T ac; intro ac T
      refine l_q T rfl rfl rfl rfl (rn_add rfl (T.ev 0 rfl) evc (by omega)) ?_; clear T ac; intro ac T
      refine l_q (v := (.int .i64 ((f : Int) + 1))) (T.pick [0, 1, 2, 3, 4, 5, 7] rfl) rfl rfl rfl rfl (rn_assign rfl (T.ev 0 rfl)) ?_; clear T ac; intro ac T
      refine wpList_nil ?_
      replace T := T.pick [0, 4, 5, 6] rfl
      refine nm_then ?_
      exact ⟨_, by omega, f + 1, rfl, (by omega), T.pick [1, 2, 3, 0] rfl, M.mask [true] rfl⟩
   ·intro h1
    refine wp_exit ?_
    refine ex_then ?_
    refine ex_then ?_
    refine ex_hit ?_
    refine nm_then ?_
    refine wp_seq ?_
    refine wp_region_lit ?_
    refine l_w rfl ?_; intro K hK
    refine ow_call (first := []) (cap := []) T rfl rfl rfl rfl evf .nil Try.func17 rfl rfl ?_
    refine Calls.mono (trembling_any _) ?_
    clear T
    rintro e wc ⟨rfl, hb⟩
    intro ac T
    replace M := M.call hb; clear hb
    refine sh_out hK _ _ ?_; clear hK K
    refine l_q T rfl rfl rfl rfl (rn_assign rfl (T.ev 0 rfl)) ?_; clear T ac; intro ac T
    refine wpList_nil ?_
    replace T := T.pick [0] rfl
    replace M := M.mask [false] rfl
    refine nm_then ?_
    refine wp_ret ?_
    refine rt_1 T rfl (T.ev 0 rfl) ?_
    exact ⟨rfl, M.below⟩

end Go.Proofs.Ytlahdenlmmlplaa

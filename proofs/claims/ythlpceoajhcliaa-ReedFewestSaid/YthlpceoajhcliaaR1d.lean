/-
  ref1: tongues after strokes.
-/
import Derived.Test.YthlpceoajhcliaaR1c
namespace Go.Proofs.Ythlpceoajhcliaa
set_option linter.unusedSimpArgs false
set_option linter.unusedVariables false
open Go.RowKit

def St.zero : St := ⟨0, 0, 0, 0, 0, 0, 0, 0, 0, 0, 0, 0, 0, 0, 0⟩
def afT (j : Jb) (l : List Int) : St := if checkStrokesJ j l = 0 then j.st.after l else St.zero
theorem after_up {j : Jb} (hs : j.st.upTo 1000) : ∀ (l : List Int), (j.st.after l).upTo (1000 + 100 * (l.length : Int)) := by
  have key : ∀ (l : List Int) (s : St) (m : Int), s.upTo m → (s.after l).upTo (m + 100 * (l.length : Int)) := by
    intro l
    induction l with
    | nil => intro s m h; simpa [St.after] using h
    | cons k l ih =>
      intro s m h
      have := ih (s.filed k) (m + 100) (h.filed k)
      rw [show m + 100 * ((k :: l).length : Int) = m + 100 + 100 * (l.length : Int) by simp only [List.length_cons]; omega]
      exact this
  exact fun l => key l _ _ hs
def rspoil (s : St) : Int := s.spoiled
def rfineJ (j : Jb) (l : List Int) : Int :=
  if rpass j (j.st.after l).p0 (j.st.after l).p1 = 1 ∧ (j.st.after l).spoiled = 2 then 1
  else if rpass j (j.st.after l).p0 (j.st.after l).p1 = 2 ∨ (j.st.after l).spoiled = 1 then 2 else 3
def rworstF (p0 p1 : Int) (sh : List (Int × Int)) (n : Int) : Int := sh.foldl (fun out s => max (max out (p1 + s.2)) (-(p0 + s.1))) n
def rworstT (j : Jb) (l : List Int) : Int × Int := if checkStrokesJ j l = 0 then (rworstF (j.st.after l).p0 (j.st.after l).p1 (shx j.sh) 0, 0) else (0, checkStrokesJ j l)
def rfineT (j : Jb) (l : List Int) : Int × Int := if checkStrokesJ j l = 0 then (rfineJ j l, 0) else (0, checkStrokesJ j l)


set_option maxRecDepth 100000 in
set_option maxHeartbeats 1000000 in
theorem rAfter_any (j : Jb) (A : Option Addr) (c : Nat) (D : Option Addr) (d n : Nat) (l : List Int) (w : World) (hr : Rd w w.heap.size 2 A j.sh.length (rc j.sh)) (hn : j.sh.length ≤ 9223372036854775807) (hl : Rd w w.heap.size 1 D n (ic l)) (hm : n ≤ 9223372036854775807) :
    Calls Try.prog 54 #[jobV j A c, .slice D n d] w fun e w' => e = .returned (.tuple #[.agg #[.int .i64 ((afT j l).p0), .int .i64 ((afT j l).p1), .int .i64 ((afT j l).t0), .int .i64 ((afT j l).t1), .int .i64 ((afT j l).r0), .int .i64 ((afT j l).r1)], .int .i64 (checkStrokesJ j l)]) ∧ Below w.heap.size w w' := by
  obtain ⟨bJ, oJ, SJ⟩ := Sp.old hr
  have hll := hl.len1
  obtain ⟨bI, oI, SI⟩ := Sp.old hl
  refine px_enter noEx Try.func54 rfl 17 rfl [.agg #[.int .i64 j.p0, .int .i64 j.p1, .int .i64 j.t0, .int .i64 j.t1, .int .i64 j.r0, .int .i64 j.r1, .int .i64 j.u0, .int .i64 j.u1, .int .i64 j.d0, .int .i64 j.d1, .int .i64 j.a0, .int .i64 j.a1, .int .i64 j.b0, .int .i64 j.b1, .int .i64 j.le, .slice A j.sh.length c, .int .i64 j.wi, .int .i64 j.me], .slice D n d] rfl rfl (Mem.init w _) ?_
  intro ac wc T M
  refine wp_seq ?_
  refine wp_region_lit ?_
  refine l_w rfl ?_; intro K hK
  refine ow_bx M T rfl rfl rfl rfl (T.ev 0 rfl) rfl ?_; clear M T; intro g1 wc ac M T
  refine sh_out hK _ _ ?_; clear hK K
  refine l_w rfl ?_; intro K hK
  refine ow_al M T rfl rfl rfl rfl ?_; clear M T; intro g2 wc ac M T
  refine sh_out hK _ _ ?_; clear hK K
  refine l_q T rfl rfl rfl rfl (rn_assign rfl evc) ?_; clear T ac; intro ac T
  refine wpList_nil ?_
  replace T := T.pick [1, 2, 4] rfl
  refine nm_then ?_
  refine wp_seq ?_
  refine wp_seq ?_
  refine wp_region_lit ?_
  refine l_q T rfl rfl rfl rfl (rn_rowO (Mem.nth M 1 rfl) rfl (T.ev 1 rfl) rfl) ?_; clear T ac; intro ac T
  refine l_q T rfl rfl rfl rfl (rn_move rfl (T.ev 3 rfl)) ?_; clear T ac; intro ac T
  refine l_w rfl ?_; intro K hK
  refine ow_call (first := []) (cap := []) T rfl rfl rfl rfl evf (.cons (T.ev 1 rfl) (.cons (T.ev 0 rfl) .nil)) Try.func97 rfl rfl ?_
  refine Calls.mono (rcheckStrokes_any j _ _ _ _ _ l _ (SJ.rd M (List.nil_sublist _)) (by omega) (SI.rd M (List.nil_sublist _)) (by omega)) ?_
  clear T
  rintro e wc ⟨rfl, hb⟩
  intro ac T
  replace M := M.call hb; clear hb
  refine sh_out hK _ _ ?_; clear hK K
  refine l_q T rfl rfl rfl rfl (rn_assign rfl (T.ev 0 rfl)) ?_; clear T ac; intro ac T
  refine wpList_nil ?_
  replace T := T.pick [0, 4, 5, 6] rfl
  refine nm_then ?_
  refine wp_seq ?_
  refine wp_region_lit ?_
  refine l_q T rfl rfl rfl rfl (rn_move rfl (T.ev 0 rfl)) ?_; clear T ac; intro ac T
  refine l_q T rfl rfl rfl rfl (rn_neq rfl (T.ev 0 rfl) evc) ?_; clear T ac; intro ac T
  refine wpList_nil ?_
  replace T := T.pick [0, 2, 3, 4, 5] rfl
  refine nm_then ?_
  refine wp_ifn (T.ev 0 rfl) ?_ ?_
  · intro h1
    refine wp_seq ?_
    refine wp_region_lit ?_
    refine l_q (v := (.agg #[.int .i64 0, .int .i64 0, .int .i64 0, .int .i64 0, .int .i64 0, .int .i64 0])) T rfl rfl rfl rfl (rn_build rfl .nil (fun _ => by kernel_rfl)) ?_; clear T ac; intro ac T
    refine l_q T rfl rfl rfl rfl (rn_move rfl (T.ev 2 rfl)) ?_; clear T ac; intro ac T
    refine l_w rfl ?_; intro K hK
    refine ow_stO M T rfl rfl (T.ev 4 rfl) (T.ev 1 rfl) rfl .head rfl (by simp) rfl (by kernel_rfl) ?_; clear M T; intro wc ac M T
    refine sh_out hK _ _ ?_; clear hK K
    refine l_q T rfl rfl rfl rfl (rn_assign rfl (T.ev 0 rfl)) ?_; clear T ac; intro ac T
    refine wpList_nil ?_
    replace T := T.pick [0, 5] rfl
    replace M := M.mask [true, false] rfl
    refine nm_then ?_
    refine wp_ret ?_
    refine rt_then ?_
    refine rt_ct M T rfl (T.ev 1 rfl) (T.ev 0 rfl) (nthE_mem (i := 0) rfl) rfl ?_
    refine ⟨?_, M.below⟩
    unfold afT
    first | rw [if_pos h1, h1] | rw [if_neg h1]
    try rfl
  · intro h1
    obtain ⟨hc, h6, hk⟩ := strokes_of h1
    have hj := good_of hc
    have hst := hj.st
    have hup := after_up hst l
    have hp0 := hup.p0
    have hp1 := hup.p1
    refine wp_skip ?_
    refine nm_then ?_
    refine wp_seq ?_
    refine wp_region_lit ?_
    refine l_q T rfl rfl rfl rfl (rn_rowO (Mem.nth M 1 rfl) rfl (T.ev 3 rfl) rfl) ?_; clear T ac; intro ac T
    refine l_q T rfl rfl rfl rfl (rn_move rfl (T.ev 5 rfl)) ?_; clear T ac; intro ac T
    refine l_w rfl ?_; intro K hK
    refine ow_call (first := []) (cap := []) T rfl rfl rfl rfl evf (.cons (T.ev 1 rfl) (.cons (T.ev 0 rfl) .nil)) Try.func98 rfl rfl ?_
    refine Calls.mono (rafter_any j _ _ _ _ _ l _ (SI.rd M (List.nil_sublist _)) (by omega) hst) ?_
    clear T
    rintro e wc ⟨rfl, hb⟩
    intro ac T
    replace M := M.call hb; clear hb
    refine sh_out hK _ _ ?_; clear hK K
    refine l_w rfl ?_; intro K hK
    refine ow_stO M T rfl rfl (T.ev 5 rfl) (T.ev 0 rfl) rfl .head rfl (by simp) rfl (by kernel_rfl) ?_; clear M T; intro wc ac M T
    refine sh_out hK _ _ ?_; clear hK K
    refine l_q T rfl rfl rfl rfl (rn_assign rfl evc) ?_; clear T ac; intro ac T
    refine wpList_nil ?_
    replace T := T.pick [0, 6] rfl
    replace M := M.mask [true, false] rfl
    refine nm_then ?_
    refine wp_ret ?_
    refine rt_ct M T rfl (T.ev 1 rfl) (T.ev 0 rfl) (nthE_mem (i := 0) rfl) rfl ?_
    refine ⟨?_, M.below⟩
    unfold afT
    first | rw [if_pos h1, h1] | rw [if_neg h1]
    try rfl

set_option maxRecDepth 100000 in
set_option maxHeartbeats 1000000 in
theorem rspoiled_any (s : St) (w : World)  :
    Calls Try.prog 100 #[.agg #[.int .i64 s.u0, .int .i64 s.u1, .int .i64 s.d0, .int .i64 s.d1, .int .i64 s.a0, .int .i64 s.a1, .int .i64 s.b0, .int .i64 s.b1, .int .i64 s.le], .agg #[.int .i64 s.p0, .int .i64 s.p1, .int .i64 s.t0, .int .i64 s.t1, .int .i64 s.r0, .int .i64 s.r1]] w fun e w' => e = .returned (.int .i64 s.spoiled) ∧ Below w.heap.size w w' := by
  refine px_enter noEx Try.func100 rfl 35 rfl [.agg #[.int .i64 s.u0, .int .i64 s.u1, .int .i64 s.d0, .int .i64 s.d1, .int .i64 s.a0, .int .i64 s.a1, .int .i64 s.b0, .int .i64 s.b1, .int .i64 s.le], .agg #[.int .i64 s.p0, .int .i64 s.p1, .int .i64 s.t0, .int .i64 s.t1, .int .i64 s.r0, .int .i64 s.r1]] rfl rfl (Mem.init w _) ?_
  intro ac wc T M
  refine wp_seq ?_
  refine wp_region_lit ?_
  refine l_w rfl ?_; intro K hK
  refine ow_bx M T rfl rfl rfl rfl (T.ev 0 rfl) rfl ?_; clear M T; intro g1 wc ac M T
  refine sh_out hK _ _ ?_; clear hK K
  refine l_w rfl ?_; intro K hK
  refine ow_bx M T rfl rfl rfl rfl (T.ev 2 rfl) rfl ?_; clear M T; intro g2 wc ac M T
  refine sh_out hK _ _ ?_; clear hK K
  refine l_q T rfl rfl rfl rfl (rn_assign rfl evc) ?_; clear T ac; intro ac T
  refine wpList_nil ?_
  replace T := T.pick [1, 2] rfl
  refine nm_then ?_
  refine wp_seq ?_
  refine wp_block ?_
  refine cut_seq (fun ac wc => Tm ac 35 [(2, .pointer (some ⟨g1, 0, none⟩)), (3, .pointer (some ⟨g2, 0, none⟩)), (5, .bool ((decide (s.t1 < s.le)) || (decide (s.r1 < s.le))))] ∧ Mem w noEx wc [(g2, .cells [.int .i64 s.p0, .int .i64 s.p1, .int .i64 s.t0, .int .i64 s.t1, .int .i64 s.r0, .int .i64 s.r1]), (g1, .cells [.int .i64 s.u0, .int .i64 s.u1, .int .i64 s.d0, .int .i64 s.d1, .int .i64 s.a0, .int .i64 s.a1, .int .i64 s.b0, .int .i64 s.b1, .int .i64 s.le])]) ?_ ?_
  · refine wp_region_lit ?_
    refine l_q (v := (.pointer (some ⟨g2, 2, none⟩))) T rfl rfl rfl rfl (rn_fieldAddr (off := 2) rfl (T.ev 0 rfl) (fun _ _ _ => by kernel_rfl)) ?_; clear T ac; intro ac T
    refine l_q (v := (.pointer (some ⟨g2, 3, none⟩))) T rfl rfl rfl rfl (rn_fieldAddr (off := 1) rfl (T.ev 0 rfl) (fun _ _ _ => by kernel_rfl)) ?_; clear T ac; intro ac T
    refine l_q T rfl rfl rfl rfl (rn_one (Mem.nth M 0 rfl) rfl (T.ev 0 rfl) rfl) ?_; clear T ac; intro ac T
    refine l_q (v := (.pointer (some ⟨g1, 8, none⟩))) T rfl rfl rfl rfl (rn_fieldAddr (off := 8) rfl (T.ev 4 rfl) (fun _ _ _ => by kernel_rfl)) ?_; clear T ac; intro ac T
    refine l_q T rfl rfl rfl rfl (rn_one (Mem.nth M 1 rfl) rfl (T.ev 0 rfl) rfl) ?_; clear T ac; intro ac T
    refine l_q T rfl rfl rfl rfl (rn_lss rfl (T.ev 2 rfl) (T.ev 0 rfl)) ?_; clear T ac; intro ac T
    refine l_q T rfl rfl rfl rfl (rn_move rfl (T.ev 0 rfl)) ?_; clear T ac; intro ac T
    rcases Bool.eq_false_or_eq_true (decide (s.t1 < s.le)) with h1 | h1
    · replace h1 := of_decide_eq_true h1
      refine l_pass T (wanted_no rfl rfl (T.ev 0 rfl) (decide_eq_true h1)) rfl rfl rfl ?_; clear T ac; intro ac T
      refine l_pass T (wanted_no rfl rfl (T.ev 1 rfl) (decide_eq_true h1)) rfl rfl rfl ?_; clear T ac; intro ac T
      refine l_pass T (wanted_no rfl rfl (T.ev 2 rfl) (decide_eq_true h1)) rfl rfl rfl ?_; clear T ac; intro ac T
      refine l_pass T (wanted_no rfl rfl (T.ev 3 rfl) (decide_eq_true h1)) rfl rfl rfl ?_; clear T ac; intro ac T
      refine l_pass T (wanted_no rfl rfl (T.ev 4 rfl) (decide_eq_true h1)) rfl rfl rfl ?_; clear T ac; intro ac T
      refine l_pass T (wanted_no rfl rfl (T.ev 5 rfl) (decide_eq_true h1)) rfl rfl rfl ?_; clear T ac; intro ac T
      refine l_q T rfl rfl rfl rfl (rn_pick1 rfl (T.ev 6 rfl) (decide_eq_true h1) evc) ?_; clear T ac; intro ac T
      refine l_q T rfl rfl rfl rfl (rn_assign rfl (T.ev 0 rfl)) ?_; clear T ac; intro ac T
      refine wpList_nil ?_
      replace T := T.pick [0, 15, 16] rfl
      exact ⟨(T.pick (E' := [(2, .pointer (some ⟨g1, 0, none⟩)), (3, .pointer (some ⟨g2, 0, none⟩)), (5, .bool true)]) [2, 1, 0] rfl).as (by (try rw [show (decide (s.t1 < s.le)) = true from (decide_eq_true h1)]); rfl), M.mask [true, true] rfl⟩
    · replace h1 := of_decide_eq_false h1
      refine l_q (v := (.pointer (some ⟨g2, 4, none⟩))) T (wanted_yes rfl rfl (T.ev 0 rfl) (decide_eq_false h1)) rfl rfl rfl (rn_fieldAddr (off := 4) rfl (T.ev 7 rfl) (fun _ _ _ => by kernel_rfl)) ?_; clear T ac; intro ac T
      refine l_q (v := (.pointer (some ⟨g2, 5, none⟩))) T (wanted_yes rfl rfl (T.ev 1 rfl) (decide_eq_false h1)) rfl rfl rfl (rn_fieldAddr (off := 1) rfl (T.ev 0 rfl) (fun _ _ _ => by kernel_rfl)) ?_; clear T ac; intro ac T
      refine l_q T (wanted_yes rfl rfl (T.ev 2 rfl) (decide_eq_false h1)) rfl rfl rfl (rn_one (Mem.nth M 0 rfl) rfl (T.ev 0 rfl) rfl) ?_; clear T ac; intro ac T
      refine l_q (v := (.pointer (some ⟨g1, 8, none⟩))) T (wanted_yes rfl rfl (T.ev 3 rfl) (decide_eq_false h1)) rfl rfl rfl (rn_fieldAddr (off := 8) rfl (T.ev 11 rfl) (fun _ _ _ => by kernel_rfl)) ?_; clear T ac; intro ac T
      refine l_q T (wanted_yes rfl rfl (T.ev 4 rfl) (decide_eq_false h1)) rfl rfl rfl (rn_one (Mem.nth M 1 rfl) rfl (T.ev 0 rfl) rfl) ?_; clear T ac; intro ac T
      refine l_q T (wanted_yes rfl rfl (T.ev 5 rfl) (decide_eq_false h1)) rfl rfl rfl (rn_lss rfl (T.ev 2 rfl) (T.ev 0 rfl)) ?_; clear T ac; intro ac T
      refine l_q T rfl rfl rfl rfl (rn_pick0 rfl (T.ev 6 rfl) (decide_eq_false h1) (T.ev 0 rfl)) ?_; clear T ac; intro ac T
      refine l_q T rfl rfl rfl rfl (rn_assign rfl (T.ev 0 rfl)) ?_; clear T ac; intro ac T
      refine wpList_nil ?_
      replace T := T.pick [0, 15, 16] rfl
      exact ⟨(T.pick (E' := [(2, .pointer (some ⟨g1, 0, none⟩)), (3, .pointer (some ⟨g2, 0, none⟩)), (5, .bool (decide (s.r1 < s.le)))]) [2, 1, 0] rfl).as (by (try rw [show (decide (s.t1 < s.le)) = false from (decide_eq_false h1)]); rfl), M.mask [true, true] rfl⟩
  · clear T M
    rintro ac wc ⟨T, M⟩
    refine wp_cond_split (T.ev 2 rfl) ?_ ?_
    · intro h2
      (try have h2' := h2; try simp only [Bool.and_eq_true, Bool.or_eq_true, Bool.not_eq_true', Bool.and_eq_false_imp, Bool.or_eq_false_iff, decide_eq_true_eq, decide_eq_false_iff_not] at h2')
      refine wp_seq ?_
      refine wp_region_lit ?_
      refine l_q T rfl rfl rfl rfl (rn_assign rfl evc) ?_; clear T ac; intro ac T
      refine wpList_nil ?_
      replace T := T.pick [0] rfl
      replace M := M.mask [false, false] rfl
      refine nm_then ?_
      refine wp_ret ?_
      refine rt_blk ?_
      refine rt_then ?_
      refine rt_1 T rfl (T.ev 0 rfl) ?_
      refine ⟨ret_int ?_, M.below⟩
      unfold St.spoiled
      (repeat' split) <;> first | rfl | omega | contradiction | (simp_all; done) | (simp_all; omega)
    · intro h2
      (try have h2' := h2; try simp only [Bool.and_eq_true, Bool.or_eq_true, Bool.not_eq_true', Bool.and_eq_false_imp, Bool.or_eq_false_iff, decide_eq_true_eq, decide_eq_false_iff_not] at h2')
      refine cut_seq (fun ac wc => Tm ac 35 [(20, .bool ((decide (s.le ≤ s.t0)) && (decide (s.le ≤ s.r0))))] ∧ Mem w noEx wc []) ?_ ?_
      · refine wp_region_lit ?_
        refine l_q (v := (.pointer (some ⟨g2, 2, none⟩))) T rfl rfl rfl rfl (rn_fieldAddr (off := 2) rfl (T.ev 1 rfl) (fun _ _ _ => by kernel_rfl)) ?_; clear T ac; intro ac T
        refine l_q (v := (.pointer (some ⟨g2, 2, none⟩))) T rfl rfl rfl rfl (rn_fieldAddr (off := 0) rfl (T.ev 0 rfl) (fun _ _ _ => by kernel_rfl)) ?_; clear T ac; intro ac T
        refine l_q T rfl rfl rfl rfl (rn_one (Mem.nth M 0 rfl) rfl (T.ev 0 rfl) rfl) ?_; clear T ac; intro ac T
        refine l_q (v := (.pointer (some ⟨g1, 8, none⟩))) T rfl rfl rfl rfl (rn_fieldAddr (off := 8) rfl (T.ev 3 rfl) (fun _ _ _ => by kernel_rfl)) ?_; clear T ac; intro ac T
        refine l_q T rfl rfl rfl rfl (rn_one (Mem.nth M 1 rfl) rfl (T.ev 0 rfl) rfl) ?_; clear T ac; intro ac T
        refine l_q T rfl rfl rfl rfl (rn_geq rfl (T.ev 2 rfl) (T.ev 0 rfl)) ?_; clear T ac; intro ac T
        refine l_q T rfl rfl rfl rfl (rn_move rfl (T.ev 0 rfl)) ?_; clear T ac; intro ac T
        rcases Bool.eq_false_or_eq_true (decide (s.le ≤ s.t0)) with h3 | h3
        · replace h3 := of_decide_eq_true h3
          refine l_q (v := (.pointer (some ⟨g2, 4, none⟩))) T (wanted_yes rfl rfl (T.ev 0 rfl) (decide_eq_true h3)) rfl rfl rfl (rn_fieldAddr (off := 4) rfl (T.ev 8 rfl) (fun _ _ _ => by kernel_rfl)) ?_; clear T ac; intro ac T
          refine l_q (v := (.pointer (some ⟨g2, 4, none⟩))) T (wanted_yes rfl rfl (T.ev 1 rfl) (decide_eq_true h3)) rfl rfl rfl (rn_fieldAddr (off := 0) rfl (T.ev 0 rfl) (fun _ _ _ => by kernel_rfl)) ?_; clear T ac; intro ac T
          refine l_q T (wanted_yes rfl rfl (T.ev 2 rfl) (decide_eq_true h3)) rfl rfl rfl (rn_one (Mem.nth M 0 rfl) rfl (T.ev 0 rfl) rfl) ?_; clear T ac; intro ac T
          refine l_q (v := (.pointer (some ⟨g1, 8, none⟩))) T (wanted_yes rfl rfl (T.ev 3 rfl) (decide_eq_true h3)) rfl rfl rfl (rn_fieldAddr (off := 8) rfl (T.ev 10 rfl) (fun _ _ _ => by kernel_rfl)) ?_; clear T ac; intro ac T
          refine l_q T (wanted_yes rfl rfl (T.ev 4 rfl) (decide_eq_true h3)) rfl rfl rfl (rn_one (Mem.nth M 1 rfl) rfl (T.ev 0 rfl) rfl) ?_; clear T ac; intro ac T
          refine l_q T (wanted_yes rfl rfl (T.ev 5 rfl) (decide_eq_true h3)) rfl rfl rfl (rn_geq rfl (T.ev 2 rfl) (T.ev 0 rfl)) ?_; clear T ac; intro ac T
          refine l_q T rfl rfl rfl rfl (rn_pick1 rfl (T.ev 6 rfl) (decide_eq_true h3) (T.ev 0 rfl)) ?_; clear T ac; intro ac T
          refine l_q T rfl rfl rfl rfl (rn_assign rfl (T.ev 0 rfl)) ?_; clear T ac; intro ac T
          refine wpList_nil ?_
          replace T := T.pick [0] rfl
          replace M := M.mask [false, false] rfl
          exact ⟨(T.pick (E' := [(20, .bool (decide (s.le ≤ s.r0)))]) [0] rfl).as (by (try rw [show (decide (s.le ≤ s.t0)) = true from (decide_eq_true h3)]); rfl), M.mask [] rfl⟩
        · replace h3 := of_decide_eq_false h3
          refine l_pass T (wanted_no rfl rfl (T.ev 0 rfl) (decide_eq_false h3)) rfl rfl rfl ?_; clear T ac; intro ac T
          refine l_pass T (wanted_no rfl rfl (T.ev 1 rfl) (decide_eq_false h3)) rfl rfl rfl ?_; clear T ac; intro ac T
          refine l_pass T (wanted_no rfl rfl (T.ev 2 rfl) (decide_eq_false h3)) rfl rfl rfl ?_; clear T ac; intro ac T
          refine l_pass T (wanted_no rfl rfl (T.ev 3 rfl) (decide_eq_false h3)) rfl rfl rfl ?_; clear T ac; intro ac T
          refine l_pass T (wanted_no rfl rfl (T.ev 4 rfl) (decide_eq_false h3)) rfl rfl rfl ?_; clear T ac; intro ac T
          refine l_pass T (wanted_no rfl rfl (T.ev 5 rfl) (decide_eq_false h3)) rfl rfl rfl ?_; clear T ac; intro ac T
          refine l_q T rfl rfl rfl rfl (rn_pick0 rfl (T.ev 6 rfl) (decide_eq_false h3) evc) ?_; clear T ac; intro ac T
          refine l_q T rfl rfl rfl rfl (rn_assign rfl (T.ev 0 rfl)) ?_; clear T ac; intro ac T
          refine wpList_nil ?_
          replace T := T.pick [0] rfl
          replace M := M.mask [false, false] rfl
          exact ⟨(T.pick (E' := [(20, .bool false)]) [0] rfl).as (by (try rw [show (decide (s.le ≤ s.t0)) = false from (decide_eq_false h3)]); rfl), M.mask [] rfl⟩
      · clear T M
        rintro ac wc ⟨T, M⟩
        refine wp_cond_split (T.ev 0 rfl) ?_ ?_
        · intro h4
          (try have h4' := h4; try simp only [Bool.and_eq_true, Bool.or_eq_true, Bool.not_eq_true', Bool.and_eq_false_imp, Bool.or_eq_false_iff, decide_eq_true_eq, decide_eq_false_iff_not] at h4')
          refine wp_seq ?_
          refine wp_region_lit ?_
          refine l_q T rfl rfl rfl rfl (rn_assign rfl evc) ?_; clear T ac; intro ac T
          refine wpList_nil ?_
          replace T := T.pick [0] rfl
          refine nm_then ?_
          refine wp_ret ?_
          refine rt_blk ?_
          refine rt_then ?_
          refine rt_1 T rfl (T.ev 0 rfl) ?_
          refine ⟨ret_int ?_, M.below⟩
          unfold St.spoiled
          (repeat' split) <;> first | rfl | omega | contradiction | (simp_all; done) | (simp_all; omega)
        · intro h4
          (try have h4' := h4; try simp only [Bool.and_eq_true, Bool.or_eq_true, Bool.not_eq_true', Bool.and_eq_false_imp, Bool.or_eq_false_iff, decide_eq_true_eq, decide_eq_false_iff_not] at h4')
          refine wp_skip ?_
          refine nm_blk ?_
          refine nm_then ?_
          refine wp_seq ?_
          refine wp_region_lit ?_
          refine l_q T rfl rfl rfl rfl (rn_assign rfl evc) ?_; clear T ac; intro ac T
          refine wpList_nil ?_
          replace T := T.pick [0] rfl
          refine nm_then ?_
          refine wp_ret ?_
          refine rt_1 T rfl (T.ev 0 rfl) ?_
          refine ⟨ret_int ?_, M.below⟩
          unfold St.spoiled
          (repeat' split) <;> first | rfl | omega | contradiction | (simp_all; done) | (simp_all; omega)

theorem rspoiled_of {s : St} {j : Jb} (h : FileOf s j) (w : World) : Calls Try.prog 100 #[.agg #[.int .i64 j.u0, .int .i64 j.u1, .int .i64 j.d0, .int .i64 j.d1, .int .i64 j.a0, .int .i64 j.a1, .int .i64 j.b0, .int .i64 j.b1, .int .i64 j.le], .agg #[.int .i64 s.p0, .int .i64 s.p1, .int .i64 s.t0, .int .i64 s.t1, .int .i64 s.r0, .int .i64 s.r1]] w fun e w' => e = .returned (.int .i64 s.spoiled) ∧ Below w.heap.size w w' := by
  have := rspoiled_any s w
  rw [← file_eq h] at this
  exact this

set_option maxRecDepth 100000 in
set_option maxHeartbeats 1000000 in
theorem rSpoiled_any (j : Jb) (A : Option Addr) (c : Nat) (D : Option Addr) (d n : Nat) (l : List Int) (w : World) (hr : Rd w w.heap.size 2 A j.sh.length (rc j.sh)) (hn : j.sh.length ≤ 9223372036854775807) (hl : Rd w w.heap.size 1 D n (ic l)) (hm : n ≤ 9223372036854775807) :
    Calls Try.prog 56 #[jobV j A c, .slice D n d] w fun e w' => e = .returned (.tuple #[.int .i64 ((spoiledT j l).1), .int .i64 ((spoiledT j l).2)]) ∧ Below w.heap.size w w' := by
  obtain ⟨bJ, oJ, SJ⟩ := Sp.old hr
  have hll := hl.len1
  obtain ⟨bI, oI, SI⟩ := Sp.old hl
  refine px_enter noEx Try.func56 rfl 19 rfl [.agg #[.int .i64 j.p0, .int .i64 j.p1, .int .i64 j.t0, .int .i64 j.t1, .int .i64 j.r0, .int .i64 j.r1, .int .i64 j.u0, .int .i64 j.u1, .int .i64 j.d0, .int .i64 j.d1, .int .i64 j.a0, .int .i64 j.a1, .int .i64 j.b0, .int .i64 j.b1, .int .i64 j.le, .slice A j.sh.length c, .int .i64 j.wi, .int .i64 j.me], .slice D n d] rfl rfl (Mem.init w _) ?_
  intro ac wc T M
  refine wp_seq ?_
  refine wp_region_lit ?_
  refine l_w rfl ?_; intro K hK
  refine ow_bx M T rfl rfl rfl rfl (T.ev 0 rfl) rfl ?_; clear M T; intro g1 wc ac M T
  refine sh_out hK _ _ ?_; clear hK K
  refine l_q T rfl rfl rfl rfl (rn_assign rfl evc) ?_; clear T ac; intro ac T
  refine l_q T rfl rfl rfl rfl (rn_assign rfl evc) ?_; clear T ac; intro ac T
  refine wpList_nil ?_
  replace T := T.pick [2, 4] rfl
  refine nm_then ?_
  refine wp_seq ?_
  refine wp_seq ?_
  refine wp_region_lit ?_
  refine l_q T rfl rfl rfl rfl (rn_rowO (Mem.nth M 0 rfl) rfl (T.ev 0 rfl) rfl) ?_; clear T ac; intro ac T
  refine l_q T rfl rfl rfl rfl (rn_move rfl (T.ev 2 rfl)) ?_; clear T ac; intro ac T
  refine l_w rfl ?_; intro K hK
  refine ow_call (first := []) (cap := []) T rfl rfl rfl rfl evf (.cons (T.ev 1 rfl) (.cons (T.ev 0 rfl) .nil)) Try.func97 rfl rfl ?_
  refine Calls.mono (rcheckStrokes_any j _ _ _ _ _ l _ (SJ.rd M (List.nil_sublist _)) (by omega) (SI.rd M (List.nil_sublist _)) (by omega)) ?_
  clear T
  rintro e wc ⟨rfl, hb⟩
  intro ac T
  replace M := M.call hb; clear hb
  refine sh_out hK _ _ ?_; clear hK K
  refine l_q T rfl rfl rfl rfl (rn_assign rfl (T.ev 0 rfl)) ?_; clear T ac; intro ac T
  refine wpList_nil ?_
  replace T := T.pick [0, 4, 5] rfl
  refine nm_then ?_
  refine wp_seq ?_
  refine wp_region_lit ?_
  refine l_q T rfl rfl rfl rfl (rn_move rfl (T.ev 0 rfl)) ?_; clear T ac; intro ac T
  refine l_q T rfl rfl rfl rfl (rn_neq rfl (T.ev 0 rfl) evc) ?_; clear T ac; intro ac T
  refine wpList_nil ?_
  replace T := T.pick [0, 2, 3, 4] rfl
  refine nm_then ?_
  refine wp_ifn (T.ev 0 rfl) ?_ ?_
  · intro h1
    refine wp_seq ?_
    refine wp_region_lit ?_
    refine l_q T rfl rfl rfl rfl (rn_move rfl (T.ev 1 rfl)) ?_; clear T ac; intro ac T
    refine l_q T rfl rfl rfl rfl (rn_assign rfl evc) ?_; clear T ac; intro ac T
    refine l_q T rfl rfl rfl rfl (rn_assign rfl (T.ev 1 rfl)) ?_; clear T ac; intro ac T
    refine wpList_nil ?_
    replace T := T.pick [0, 1] rfl
    replace M := M.mask [false] rfl
    refine nm_then ?_
    refine wp_ret ?_
    refine rt_then ?_
    refine rt_2 T rfl (T.ev 1 rfl) (T.ev 0 rfl) ?_
    refine ⟨?_, M.below⟩
    unfold spoiledT
    first | rw [if_pos h1] | rw [if_neg h1]
    try rw [h1]
    try rfl
  · intro h1
    obtain ⟨hc, h6, hk⟩ := strokes_of h1
    have hj := good_of hc
    have hst := hj.st
    have hup := after_up hst l
    have hp0 := hup.p0
    have hp1 := hup.p1
    refine wp_skip ?_
    refine nm_then ?_
    refine wp_seq ?_
    refine g_start2 M (M.mask [true] rfl) 8 (by kernel_rfl) rfl (by kernel_rfl) ?_
    clear M; intro wc M
    refine g_q (v := (.pointer (some ⟨g1, 6, none⟩))) (T := T) (i := 0) rfl (by kernel_rfl) (by kernel_rfl : (pbits 8 0).setIfInBounds 0 true = pbits 8 1) si_U (fun _ _ _ h => h) rfl rfl rfl rfl (fun _ _ _ _ _ => (rn_fieldAddr (off := 6) rfl (T.ev 2 rfl) (fun _ _ _ => by kernel_rfl))) ?_; clear T ac; intro ac T
    refine g_q (T := T) (i := 1) rfl (by kernel_rfl) (by kernel_rfl : (pbits 8 1).setIfInBounds 1 true = pbits 8 3) si_U (fun _ _ _ h => h) rfl rfl rfl rfl (fun B w' hD hl hS => (rn_rowO (Mem.nth (show Mem w noEx w' _ from hS) 0 rfl) rfl (T.ev 0 rfl) rfl)) ?_; clear T ac; intro ac T
    refine g_q (T := T) (i := 2) rfl (by kernel_rfl) (by kernel_rfl : (pbits 8 3).setIfInBounds 2 true = pbits 8 7) si_U (fun _ _ _ h => h) rfl rfl rfl rfl (fun B w' hD hl hS => (rn_rowO (Mem.nth (show Mem w noEx w' _ from hS) 0 rfl) rfl (T.ev 4 rfl) rfl)) ?_; clear T ac; intro ac T
    refine g_q (T := T) (i := 3) rfl (by kernel_rfl) (by kernel_rfl : (pbits 8 7).setIfInBounds 3 true = pbits 8 15) si_U (fun _ _ _ h => h) rfl rfl rfl rfl (fun _ _ _ _ _ => (rn_move rfl (T.ev 6 rfl))) ?_; clear T ac; intro ac T
    refine g_w (i := 4) (by kernel_rfl) rfl (by kernel_rfl : (pbits 8 15).setIfInBounds 4 true = pbits 8 31) rfl ?_; intro K hK
    refine ow_call (first := []) (cap := []) T rfl rfl rfl rfl evf (.cons (T.ev 1 rfl) (.cons (T.ev 0 rfl) .nil)) Try.func98 rfl rfl ?_
    refine Calls.mono (rafter_any j _ _ _ _ _ l _ (SI.rd M (List.nil_sublist _)) (by omega) hst) ?_
    clear T
    rintro e wc ⟨rfl, hb⟩
    intro ac T
    replace M := M.call hb; clear hb
    refine sh_out hK _ _ (M.mask [true] rfl) ?_; clear hK K
    refine g_w (i := 5) (by kernel_rfl) rfl (by kernel_rfl : (pbits 8 31).setIfInBounds 5 true = pbits 8 63) rfl ?_; intro K hK
    refine ow_call (first := []) (cap := []) T rfl rfl rfl rfl evf (.cons (T.ev 3 rfl) (.cons (T.ev 0 rfl) .nil)) Try.func100 rfl rfl ?_
    refine Calls.mono (rspoiled_of (s := j.st.after l) (j := j) (FileOf.after l (FileOf.of j)) _) ?_
    clear T
    rintro e wc ⟨rfl, hb⟩
    intro ac T
    replace M := M.call hb; clear hb
    refine sh_out hK _ _ (M.mask [true] rfl) ?_; clear hK K
    refine g_q (T := T) (i := 6) rfl (by kernel_rfl) (by kernel_rfl : (pbits 8 63).setIfInBounds 6 true = pbits 8 127) si_U (fun _ _ _ h => h) rfl rfl rfl rfl (fun _ _ _ _ _ => (rn_assign rfl (T.ev 0 rfl))) ?_; clear T ac; intro ac T
    refine g_q (T := T) (i := 7) rfl (by kernel_rfl) (by kernel_rfl : (pbits 8 127).setIfInBounds 7 true = pbits 8 255) si_U (fun _ _ _ h => h) rfl rfl rfl rfl (fun _ _ _ _ _ => (rn_assign rfl evc)) ?_; clear T ac; intro ac T
    refine g_done (by kernel_rfl) ?_
    replace T := T.pick [0, 1] rfl
    replace M := M.mask [false] rfl
    refine nm_then ?_
    refine wp_ret ?_
    refine rt_2 T rfl (T.ev 1 rfl) (T.ev 0 rfl) ?_
    refine ⟨?_, M.below⟩
    unfold spoiledT
    first | rw [if_pos h1] | rw [if_neg h1]
    try rw [h1]
    try rfl

set_option maxRecDepth 100000 in
set_option maxHeartbeats 1000000 in
theorem rfine_any (j : Jb) (A : Option Addr) (c : Nat) (D : Option Addr) (d n : Nat) (l : List Int) (w : World) (hj : j.good) (hr : Rd w w.heap.size 2 A j.sh.length (rc j.sh)) (hl : Rd w w.heap.size 1 D n (ic l)) (hm : n ≤ 20) :
    Calls Try.prog 70 #[jobV j A c, .slice D n d] w fun e w' => e = .returned (.int .i64 (rfineJ j l)) ∧ Below w.heap.size w w' := by
  obtain ⟨bJ, oJ, SJ⟩ := Sp.old hr
  have hll := hl.len1
  obtain ⟨bI, oI, SI⟩ := Sp.old hl
  have hst := hj.st
  have hup := after_up hst l
  have hp0 := hup.p0
  have hp1 := hup.p1
  refine px_enter noEx Try.func70 rfl 33 rfl [.agg #[.int .i64 j.p0, .int .i64 j.p1, .int .i64 j.t0, .int .i64 j.t1, .int .i64 j.r0, .int .i64 j.r1, .int .i64 j.u0, .int .i64 j.u1, .int .i64 j.d0, .int .i64 j.d1, .int .i64 j.a0, .int .i64 j.a1, .int .i64 j.b0, .int .i64 j.b1, .int .i64 j.le, .slice A j.sh.length c, .int .i64 j.wi, .int .i64 j.me], .slice D n d] rfl rfl (Mem.init w _) ?_
  intro ac wc T M
  refine wp_seq ?_
  refine wp_region_lit ?_
  refine l_w rfl ?_; intro K hK
  refine ow_bx M T rfl rfl rfl rfl (T.ev 0 rfl) rfl ?_; clear M T; intro g1 wc ac M T
  refine sh_out hK _ _ ?_; clear hK K
  refine l_q T rfl rfl rfl rfl (rn_assign rfl evc) ?_; clear T ac; intro ac T
  refine wpList_nil ?_
  replace T := T.pick [1, 3] rfl
  refine nm_then ?_
  refine wp_seq ?_
  refine wp_region_lit ?_
  refine l_q T rfl rfl rfl rfl (rn_rowO (Mem.nth M 0 rfl) rfl (T.ev 0 rfl) rfl) ?_; clear T ac; intro ac T
  refine l_q T rfl rfl rfl rfl (rn_move rfl (T.ev 2 rfl)) ?_; clear T ac; intro ac T
  refine l_w rfl ?_; intro K hK
  refine ow_call (first := []) (cap := []) T rfl rfl rfl rfl evf (.cons (T.ev 1 rfl) (.cons (T.ev 0 rfl) .nil)) Try.func98 rfl rfl ?_
  refine Calls.mono (rafter_any j _ _ _ _ _ l _ (SI.rd M (List.nil_sublist _)) (by omega) hst) ?_
  clear T
  rintro e wc ⟨rfl, hb⟩
  intro ac T
  replace M := M.call hb; clear hb
  refine sh_out hK _ _ ?_; clear hK K
  refine l_w rfl ?_; intro K hK
  refine ow_al M T rfl rfl rfl rfl ?_; clear M T; intro g2 wc ac M T
  refine sh_out hK _ _ ?_; clear hK K
  refine l_w rfl ?_; intro K hK
  refine ow_stO M T rfl rfl (T.ev 0 rfl) (T.ev 1 rfl) rfl .head rfl (by simp) rfl (by kernel_rfl) ?_; clear M T; intro wc ac M T
  refine sh_out hK _ _ ?_; clear hK K
  refine wpList_nil ?_
  replace T := T.pick [0, 4] rfl
  refine nm_then ?_
  refine wp_seq ?_
  refine g_start2 M (M.mask [true, true] rfl) 10 (by kernel_rfl) rfl (by kernel_rfl) ?_
  clear M; intro wc M
  refine g_q (T := T) (i := 0) rfl (by kernel_rfl) (by kernel_rfl : (pbits 10 0).setIfInBounds 0 true = pbits 10 1) si_U (fun _ _ _ h => h) rfl rfl rfl rfl (fun B w' hD hl hS => (rn_rowO (Mem.nth (show Mem w noEx w' _ from hS) 1 rfl) rfl (T.ev 1 rfl) rfl)) ?_; clear T ac; intro ac T
  refine g_q (v := (.pointer (some ⟨g2, 0, none⟩))) (T := T) (i := 1) rfl (by kernel_rfl) (by kernel_rfl : (pbits 10 1).setIfInBounds 1 true = pbits 10 3) si_U (fun _ _ _ h => h) rfl rfl rfl rfl (fun _ _ _ _ _ => (rn_fieldAddr (off := 0) rfl (T.ev 1 rfl) (fun _ _ _ => by kernel_rfl))) ?_; clear T ac; intro ac T
  refine g_q (T := T) (i := 2) rfl (by kernel_rfl) (by kernel_rfl : (pbits 10 3).setIfInBounds 2 true = pbits 10 7) si_U (fun _ _ _ h => h) rfl rfl rfl rfl (fun B w' hD hl hS => (rn_rowO (Mem.nth (show Mem w noEx w' _ from hS) 0 rfl) rfl (T.ev 0 rfl) rfl)) ?_; clear T ac; intro ac T
  refine g_q (v := (.pointer (some ⟨g1, 6, none⟩))) (T := T) (i := 4) rfl (by kernel_rfl) (by kernel_rfl : (pbits 10 7).setIfInBounds 4 true = pbits 10 23) si_U (fun _ _ _ h => h) rfl rfl rfl rfl (fun _ _ _ _ _ => (rn_fieldAddr (off := 6) rfl (T.ev 4 rfl) (fun _ _ _ => by kernel_rfl))) ?_; clear T ac; intro ac T
  refine g_q (T := T) (i := 5) rfl (by kernel_rfl) (by kernel_rfl : (pbits 10 23).setIfInBounds 5 true = pbits 10 55) si_U (fun _ _ _ h => h) rfl rfl rfl rfl (fun B w' hD hl hS => (rn_rowO (Mem.nth (show Mem w noEx w' _ from hS) 1 rfl) rfl (T.ev 0 rfl) rfl)) ?_; clear T ac; intro ac T
  refine g_q (T := T) (i := 6) rfl (by kernel_rfl) (by kernel_rfl : (pbits 10 55).setIfInBounds 6 true = pbits 10 119) si_U (fun _ _ _ h => h) rfl rfl rfl rfl (fun B w' hD hl hS => (rn_rowO (Mem.nth (show Mem w noEx w' _ from hS) 0 rfl) rfl (T.ev 5 rfl) rfl)) ?_; clear T ac; intro ac T
  refine g_w (i := 3) (by kernel_rfl) rfl (by kernel_rfl : (pbits 10 119).setIfInBounds 3 true = pbits 10 127) rfl ?_; intro K hK
  refine ow_call (first := []) (cap := []) T rfl rfl rfl rfl evf (.cons (T.ev 5 rfl) (.cons (T.ev 3 rfl) .nil)) Try.func89 rfl rfl ?_
  refine Calls.mono (rpasses_any j _ _ ((j.st.after l).p0) ((j.st.after l).p1) _ (by assumption) (SJ.rd M (List.nil_sublist _)) (by omega) (by omega)) ?_
  clear T
  rintro e wc ⟨rfl, hb⟩
  intro ac T
  replace M := M.call hb; clear hb
  refine sh_out hK _ _ (M.mask [true, true] rfl) ?_; clear hK K
  refine g_w (i := 7) (by kernel_rfl) rfl (by kernel_rfl : (pbits 10 127).setIfInBounds 7 true = pbits 10 255) rfl ?_; intro K hK
  refine ow_call (first := []) (cap := []) T rfl rfl rfl rfl evf (.cons (T.ev 2 rfl) (.cons (T.ev 1 rfl) .nil)) Try.func100 rfl rfl ?_
  refine Calls.mono (rspoiled_of (s := j.st.after l) (j := j) (FileOf.after l (FileOf.of j)) _) ?_
  clear T
  rintro e wc ⟨rfl, hb⟩
  intro ac T
  replace M := M.call hb; clear hb
  refine sh_out hK _ _ (M.mask [true, true] rfl) ?_; clear hK K
  refine g_q (T := T) (i := 8) rfl (by kernel_rfl) (by kernel_rfl : (pbits 10 255).setIfInBounds 8 true = pbits 10 511) si_U (fun _ _ _ h => h) rfl rfl rfl rfl (fun _ _ _ _ _ => (rn_assign rfl (T.ev 1 rfl))) ?_; clear T ac; intro ac T
  refine g_q (T := T) (i := 9) rfl (by kernel_rfl) (by kernel_rfl : (pbits 10 511).setIfInBounds 9 true = pbits 10 1023) si_U (fun _ _ _ h => h) rfl rfl rfl rfl (fun _ _ _ _ _ => (rn_assign rfl (T.ev 1 rfl))) ?_; clear T ac; intro ac T
  refine g_done (by kernel_rfl) ?_
  replace T := T.pick [0, 1] rfl
  replace M := M.mask [false, false] rfl
  refine nm_then ?_
  refine wp_seq ?_
  refine wp_block ?_
  refine cut_seq (fun ac wc => Tm ac 33 [(6, .int .i64 (rpass j ((j.st.after l).p0) ((j.st.after l).p1))), (7, .int .i64 ((j.st.after l).spoiled)), (19, .bool ((decide ((rpass j ((j.st.after l).p0) ((j.st.after l).p1)) = 1)) && (decide (((j.st.after l).spoiled) = 2))))] ∧ Mem w noEx wc []) ?_ ?_
  · refine wp_region_lit ?_
    refine l_q T rfl rfl rfl rfl (rn_move rfl (T.ev 1 rfl)) ?_; clear T ac; intro ac T
    refine l_q T rfl rfl rfl rfl (rn_eql rfl (T.ev 0 rfl) evc) ?_; clear T ac; intro ac T
    refine l_q T rfl rfl rfl rfl (rn_move rfl (T.ev 0 rfl)) ?_; clear T ac; intro ac T
    rcases Bool.eq_false_or_eq_true (decide ((rpass j ((j.st.after l).p0) ((j.st.after l).p1)) = 1)) with h1 | h1
    · replace h1 := of_decide_eq_true h1
      refine l_q T (wanted_yes rfl rfl (T.ev 0 rfl) (decide_eq_true h1)) rfl rfl rfl (rn_move rfl (T.ev 3 rfl)) ?_; clear T ac; intro ac T
      refine l_q T (wanted_yes rfl rfl (T.ev 1 rfl) (decide_eq_true h1)) rfl rfl rfl (rn_eql rfl (T.ev 0 rfl) evc) ?_; clear T ac; intro ac T
      refine l_q T rfl rfl rfl rfl (rn_pick1 rfl (T.ev 2 rfl) (decide_eq_true h1) (T.ev 0 rfl)) ?_; clear T ac; intro ac T
      refine l_q T rfl rfl rfl rfl (rn_assign rfl (T.ev 0 rfl)) ?_; clear T ac; intro ac T
      refine wpList_nil ?_
      replace T := T.pick [0, 7, 8] rfl
      exact ⟨(T.pick (E' := [(6, .int .i64 (rpass j ((j.st.after l).p0) ((j.st.after l).p1))), (7, .int .i64 ((j.st.after l).spoiled)), (19, .bool (decide (((j.st.after l).spoiled) = 2)))]) [2, 1, 0] rfl).as (by (try rw [show (decide ((rpass j ((j.st.after l).p0) ((j.st.after l).p1)) = 1)) = true from (decide_eq_true h1)]); rfl), M.mask [] rfl⟩
    · replace h1 := of_decide_eq_false h1
      refine l_pass T (wanted_no rfl rfl (T.ev 0 rfl) (decide_eq_false h1)) rfl rfl rfl ?_; clear T ac; intro ac T
      refine l_pass T (wanted_no rfl rfl (T.ev 1 rfl) (decide_eq_false h1)) rfl rfl rfl ?_; clear T ac; intro ac T
      refine l_q T rfl rfl rfl rfl (rn_pick0 rfl (T.ev 2 rfl) (decide_eq_false h1) evc) ?_; clear T ac; intro ac T
      refine l_q T rfl rfl rfl rfl (rn_assign rfl (T.ev 0 rfl)) ?_; clear T ac; intro ac T
      refine wpList_nil ?_
      replace T := T.pick [0, 7, 8] rfl
      exact ⟨(T.pick (E' := [(6, .int .i64 (rpass j ((j.st.after l).p0) ((j.st.after l).p1))), (7, .int .i64 ((j.st.after l).spoiled)), (19, .bool false)]) [2, 1, 0] rfl).as (by (try rw [show (decide ((rpass j ((j.st.after l).p0) ((j.st.after l).p1)) = 1)) = false from (decide_eq_false h1)]); rfl), M.mask [] rfl⟩
  · clear T M
    rintro ac wc ⟨T, M⟩
    refine wp_cond_split (T.ev 2 rfl) ?_ ?_
    · intro h2
      (try have h2' := h2; try simp only [Bool.and_eq_true, Bool.or_eq_true, Bool.not_eq_true', Bool.and_eq_false_imp, Bool.or_eq_false_iff, decide_eq_true_eq, decide_eq_false_iff_not] at h2')
      refine wp_seq ?_
      refine wp_region_lit ?_
      refine l_q T rfl rfl rfl rfl (rn_assign rfl evc) ?_; clear T ac; intro ac T
      refine wpList_nil ?_
      replace T := T.pick [0] rfl
      refine nm_then ?_
      refine wp_ret ?_
      refine rt_blk ?_
      refine rt_then ?_
      refine rt_1 T rfl (T.ev 0 rfl) ?_
      refine ⟨ret_int ?_, M.below⟩
      unfold rfineJ
      (repeat' split) <;> first | rfl | omega | contradiction | (simp_all; done) | (simp_all; omega)
    · intro h2
      (try have h2' := h2; try simp only [Bool.and_eq_true, Bool.or_eq_true, Bool.not_eq_true', Bool.and_eq_false_imp, Bool.or_eq_false_iff, decide_eq_true_eq, decide_eq_false_iff_not] at h2')
      refine cut_seq (fun ac wc => Tm ac 33 [(26, .bool ((decide ((rpass j ((j.st.after l).p0) ((j.st.after l).p1)) = 2)) || (decide (((j.st.after l).spoiled) = 1))))] ∧ Mem w noEx wc []) ?_ ?_
      · refine wp_region_lit ?_
        refine l_q T rfl rfl rfl rfl (rn_move rfl (T.ev 0 rfl)) ?_; clear T ac; intro ac T
        refine l_q T rfl rfl rfl rfl (rn_eql rfl (T.ev 0 rfl) evc) ?_; clear T ac; intro ac T
        refine l_q T rfl rfl rfl rfl (rn_move rfl (T.ev 0 rfl)) ?_; clear T ac; intro ac T
        rcases Bool.eq_false_or_eq_true (decide ((rpass j ((j.st.after l).p0) ((j.st.after l).p1)) = 2)) with h3 | h3
        · replace h3 := of_decide_eq_true h3
          refine l_pass T (wanted_no rfl rfl (T.ev 0 rfl) (decide_eq_true h3)) rfl rfl rfl ?_; clear T ac; intro ac T
          refine l_pass T (wanted_no rfl rfl (T.ev 1 rfl) (decide_eq_true h3)) rfl rfl rfl ?_; clear T ac; intro ac T
          refine l_q T rfl rfl rfl rfl (rn_pick1 rfl (T.ev 2 rfl) (decide_eq_true h3) evc) ?_; clear T ac; intro ac T
          refine l_q T rfl rfl rfl rfl (rn_assign rfl (T.ev 0 rfl)) ?_; clear T ac; intro ac T
          refine wpList_nil ?_
          replace T := T.pick [0] rfl
          exact ⟨(T.pick (E' := [(26, .bool true)]) [0] rfl).as (by (try rw [show (decide ((rpass j ((j.st.after l).p0) ((j.st.after l).p1)) = 2)) = true from (decide_eq_true h3)]); rfl), M.mask [] rfl⟩
        · replace h3 := of_decide_eq_false h3
          refine l_q T (wanted_yes rfl rfl (T.ev 0 rfl) (decide_eq_false h3)) rfl rfl rfl (rn_move rfl (T.ev 4 rfl)) ?_; clear T ac; intro ac T
          refine l_q T (wanted_yes rfl rfl (T.ev 1 rfl) (decide_eq_false h3)) rfl rfl rfl (rn_eql rfl (T.ev 0 rfl) evc) ?_; clear T ac; intro ac T
          refine l_q T rfl rfl rfl rfl (rn_pick0 rfl (T.ev 2 rfl) (decide_eq_false h3) (T.ev 0 rfl)) ?_; clear T ac; intro ac T
          refine l_q T rfl rfl rfl rfl (rn_assign rfl (T.ev 0 rfl)) ?_; clear T ac; intro ac T
          refine wpList_nil ?_
          replace T := T.pick [0] rfl
          exact ⟨(T.pick (E' := [(26, .bool (decide (((j.st.after l).spoiled) = 1)))]) [0] rfl).as (by (try rw [show (decide ((rpass j ((j.st.after l).p0) ((j.st.after l).p1)) = 2)) = false from (decide_eq_false h3)]); rfl), M.mask [] rfl⟩
      · clear T M
        rintro ac wc ⟨T, M⟩
        refine wp_cond_split (T.ev 0 rfl) ?_ ?_
        · intro h4
          (try have h4' := h4; try simp only [Bool.and_eq_true, Bool.or_eq_true, Bool.not_eq_true', Bool.and_eq_false_imp, Bool.or_eq_false_iff, decide_eq_true_eq, decide_eq_false_iff_not] at h4')
          refine wp_seq ?_
          refine wp_region_lit ?_
          refine l_q T rfl rfl rfl rfl (rn_assign rfl evc) ?_; clear T ac; intro ac T
          refine wpList_nil ?_
          replace T := T.pick [0] rfl
          refine nm_then ?_
          refine wp_ret ?_
          refine rt_blk ?_
          refine rt_then ?_
          refine rt_1 T rfl (T.ev 0 rfl) ?_
          refine ⟨ret_int ?_, M.below⟩
          unfold rfineJ
          (repeat' split) <;> first | rfl | omega | contradiction | (simp_all; done) | (simp_all; omega)
        · intro h4
          (try have h4' := h4; try simp only [Bool.and_eq_true, Bool.or_eq_true, Bool.not_eq_true', Bool.and_eq_false_imp, Bool.or_eq_false_iff, decide_eq_true_eq, decide_eq_false_iff_not] at h4')
          refine wp_skip ?_
          refine nm_blk ?_
          refine nm_then ?_
          refine wp_seq ?_
          refine wp_region_lit ?_
          refine l_q T rfl rfl rfl rfl (rn_assign rfl evc) ?_; clear T ac; intro ac T
          refine wpList_nil ?_
          replace T := T.pick [0] rfl
          refine nm_then ?_
          refine wp_ret ?_
          refine rt_1 T rfl (T.ev 0 rfl) ?_
          refine ⟨ret_int ?_, M.below⟩
          unfold rfineJ
          (repeat' split) <;> first | rfl | omega | contradiction | (simp_all; done) | (simp_all; omega)

set_option maxRecDepth 100000 in
set_option maxHeartbeats 1000000 in
theorem rFine_any (j : Jb) (A : Option Addr) (c : Nat) (D : Option Addr) (d n : Nat) (l : List Int) (w : World) (hr : Rd w w.heap.size 2 A j.sh.length (rc j.sh)) (hn : j.sh.length ≤ 9223372036854775807) (hl : Rd w w.heap.size 1 D n (ic l)) (hm : n ≤ 9223372036854775807) :
    Calls Try.prog 57 #[jobV j A c, .slice D n d] w fun e w' => e = .returned (.tuple #[.int .i64 ((rfineT j l).1), .int .i64 ((rfineT j l).2)]) ∧ Below w.heap.size w w' := by
  obtain ⟨bJ, oJ, SJ⟩ := Sp.old hr
  have hll := hl.len1
  obtain ⟨bI, oI, SI⟩ := Sp.old hl
  refine px_enter noEx Try.func57 rfl 16 rfl [.agg #[.int .i64 j.p0, .int .i64 j.p1, .int .i64 j.t0, .int .i64 j.t1, .int .i64 j.r0, .int .i64 j.r1, .int .i64 j.u0, .int .i64 j.u1, .int .i64 j.d0, .int .i64 j.d1, .int .i64 j.a0, .int .i64 j.a1, .int .i64 j.b0, .int .i64 j.b1, .int .i64 j.le, .slice A j.sh.length c, .int .i64 j.wi, .int .i64 j.me], .slice D n d] rfl rfl (Mem.init w _) ?_
  intro ac wc T M
  refine wp_seq ?_
  refine wp_region_lit ?_
  refine l_w rfl ?_; intro K hK
  refine ow_bx M T rfl rfl rfl rfl (T.ev 0 rfl) rfl ?_; clear M T; intro g1 wc ac M T
  refine sh_out hK _ _ ?_; clear hK K
  refine l_q T rfl rfl rfl rfl (rn_assign rfl evc) ?_; clear T ac; intro ac T
  refine l_q T rfl rfl rfl rfl (rn_assign rfl evc) ?_; clear T ac; intro ac T
  refine wpList_nil ?_
  replace T := T.pick [2, 4] rfl
  refine nm_then ?_
  refine wp_seq ?_
  refine wp_seq ?_
  refine wp_region_lit ?_
  refine l_q T rfl rfl rfl rfl (rn_rowO (Mem.nth M 0 rfl) rfl (T.ev 0 rfl) rfl) ?_; clear T ac; intro ac T
  refine l_q T rfl rfl rfl rfl (rn_move rfl (T.ev 2 rfl)) ?_; clear T ac; intro ac T
  refine l_w rfl ?_; intro K hK
  refine ow_call (first := []) (cap := []) T rfl rfl rfl rfl evf (.cons (T.ev 1 rfl) (.cons (T.ev 0 rfl) .nil)) Try.func97 rfl rfl ?_
  refine Calls.mono (rcheckStrokes_any j _ _ _ _ _ l _ (SJ.rd M (List.nil_sublist _)) (by omega) (SI.rd M (List.nil_sublist _)) (by omega)) ?_
  clear T
  rintro e wc ⟨rfl, hb⟩
  intro ac T
  replace M := M.call hb; clear hb
  refine sh_out hK _ _ ?_; clear hK K
  refine l_q T rfl rfl rfl rfl (rn_assign rfl (T.ev 0 rfl)) ?_; clear T ac; intro ac T
  refine wpList_nil ?_
  replace T := T.pick [0, 4, 5] rfl
  refine nm_then ?_
  refine wp_seq ?_
  refine wp_region_lit ?_
  refine l_q T rfl rfl rfl rfl (rn_move rfl (T.ev 0 rfl)) ?_; clear T ac; intro ac T
  refine l_q T rfl rfl rfl rfl (rn_neq rfl (T.ev 0 rfl) evc) ?_; clear T ac; intro ac T
  refine wpList_nil ?_
  replace T := T.pick [0, 2, 3, 4] rfl
  refine nm_then ?_
  refine wp_ifn (T.ev 0 rfl) ?_ ?_
  · intro h1
    refine wp_seq ?_
    refine wp_region_lit ?_
    refine l_q T rfl rfl rfl rfl (rn_move rfl (T.ev 1 rfl)) ?_; clear T ac; intro ac T
    refine l_q T rfl rfl rfl rfl (rn_assign rfl evc) ?_; clear T ac; intro ac T
    refine l_q T rfl rfl rfl rfl (rn_assign rfl (T.ev 1 rfl)) ?_; clear T ac; intro ac T
    refine wpList_nil ?_
    replace T := T.pick [0, 1] rfl
    replace M := M.mask [false] rfl
    refine nm_then ?_
    refine wp_ret ?_
    refine rt_then ?_
    refine rt_2 T rfl (T.ev 1 rfl) (T.ev 0 rfl) ?_
    refine ⟨?_, M.below⟩
    unfold rfineT
    first | rw [if_pos h1] | rw [if_neg h1]
    try rw [h1]
    try rfl
  · intro h1
    obtain ⟨hc, h6, hk⟩ := strokes_of h1
    have hj := good_of hc
    have hst := hj.st
    have hup := after_up hst l
    have hp0 := hup.p0
    have hp1 := hup.p1
    refine wp_skip ?_
    refine nm_then ?_
    refine wp_seq ?_
    refine wp_region_lit ?_
    refine l_q T rfl rfl rfl rfl (rn_rowO (Mem.nth M 0 rfl) rfl (T.ev 2 rfl) rfl) ?_; clear T ac; intro ac T
    refine l_q T rfl rfl rfl rfl (rn_move rfl (T.ev 4 rfl)) ?_; clear T ac; intro ac T
    refine l_w rfl ?_; intro K hK
    refine ow_call (first := []) (cap := []) T rfl rfl rfl rfl evf (.cons (T.ev 1 rfl) (.cons (T.ev 0 rfl) .nil)) Try.func70 rfl rfl ?_
    refine Calls.mono (rfine_any j _ _ _ _ _ l _ hj (SJ.rd M (List.nil_sublist _)) (SI.rd M (List.nil_sublist _)) (by omega)) ?_
    clear T
    rintro e wc ⟨rfl, hb⟩
    intro ac T
    replace M := M.call hb; clear hb
    refine sh_out hK _ _ ?_; clear hK K
    refine l_q T rfl rfl rfl rfl (rn_assign rfl (T.ev 0 rfl)) ?_; clear T ac; intro ac T
    refine l_q T rfl rfl rfl rfl (rn_assign rfl evc) ?_; clear T ac; intro ac T
    refine wpList_nil ?_
    replace T := T.pick [0, 1] rfl
    replace M := M.mask [false] rfl
    refine nm_then ?_
    refine wp_ret ?_
    refine rt_2 T rfl (T.ev 1 rfl) (T.ev 0 rfl) ?_
    refine ⟨?_, M.below⟩
    unfold rfineT
    first | rw [if_pos h1] | rw [if_neg h1]
    try rw [h1]
    try rfl

set_option maxRecDepth 100000 in
set_option maxHeartbeats 1000000 in
theorem rWorst_any (j : Jb) (A : Option Addr) (c : Nat) (D : Option Addr) (d n : Nat) (l : List Int) (w : World) (hr : Rd w w.heap.size 2 A j.sh.length (rc j.sh)) (hn : j.sh.length ≤ 9223372036854775807) (hl : Rd w w.heap.size 1 D n (ic l)) (hm : n ≤ 9223372036854775807) :
    Calls Try.prog 55 #[jobV j A c, .slice D n d] w fun e w' => e = .returned (.tuple #[.int .i64 ((rworstT j l).1), .int .i64 ((rworstT j l).2)]) ∧ Below w.heap.size w w' := by
  obtain ⟨bJ, oJ, SJ⟩ := Sp.old hr
  have hll := hl.len1
  obtain ⟨bI, oI, SI⟩ := Sp.old hl
  refine px_enter noEx Try.func55 rfl 50 rfl [.agg #[.int .i64 j.p0, .int .i64 j.p1, .int .i64 j.t0, .int .i64 j.t1, .int .i64 j.r0, .int .i64 j.r1, .int .i64 j.u0, .int .i64 j.u1, .int .i64 j.d0, .int .i64 j.d1, .int .i64 j.a0, .int .i64 j.a1, .int .i64 j.b0, .int .i64 j.b1, .int .i64 j.le, .slice A j.sh.length c, .int .i64 j.wi, .int .i64 j.me], .slice D n d] rfl rfl (Mem.init w _) ?_
  intro ac wc T M
  refine wp_seq ?_
  refine wp_region_lit ?_
  refine l_w rfl ?_; intro K hK
  refine ow_bx M T rfl rfl rfl rfl (T.ev 0 rfl) rfl ?_; clear M T; intro g1 wc ac M T
  refine sh_out hK _ _ ?_; clear hK K
  refine l_q T rfl rfl rfl rfl (rn_assign rfl evc) ?_; clear T ac; intro ac T
  refine l_q T rfl rfl rfl rfl (rn_assign rfl evc) ?_; clear T ac; intro ac T
  refine wpList_nil ?_
  replace T := T.pick [2, 4] rfl
  refine nm_then ?_
  refine wp_seq ?_
  refine wp_seq ?_
  refine wp_region_lit ?_
  refine l_q T rfl rfl rfl rfl (rn_rowO (Mem.nth M 0 rfl) rfl (T.ev 0 rfl) rfl) ?_; clear T ac; intro ac T
  refine l_q T rfl rfl rfl rfl (rn_move rfl (T.ev 2 rfl)) ?_; clear T ac; intro ac T
  refine l_w rfl ?_; intro K hK
  refine ow_call (first := []) (cap := []) T rfl rfl rfl rfl evf (.cons (T.ev 1 rfl) (.cons (T.ev 0 rfl) .nil)) Try.func97 rfl rfl ?_
  refine Calls.mono (rcheckStrokes_any j _ _ _ _ _ l _ (SJ.rd M (List.nil_sublist _)) (by omega) (SI.rd M (List.nil_sublist _)) (by omega)) ?_
  clear T
  rintro e wc ⟨rfl, hb⟩
  intro ac T
  replace M := M.call hb; clear hb
  refine sh_out hK _ _ ?_; clear hK K
  refine l_q T rfl rfl rfl rfl (rn_assign rfl (T.ev 0 rfl)) ?_; clear T ac; intro ac T
  refine wpList_nil ?_
  replace T := T.pick [0, 4, 5] rfl
  refine nm_then ?_
  refine wp_seq ?_
  refine wp_region_lit ?_
  refine l_q T rfl rfl rfl rfl (rn_move rfl (T.ev 0 rfl)) ?_; clear T ac; intro ac T
  refine l_q T rfl rfl rfl rfl (rn_neq rfl (T.ev 0 rfl) evc) ?_; clear T ac; intro ac T
  refine wpList_nil ?_
  replace T := T.pick [0, 2, 3, 4] rfl
  refine nm_then ?_
  refine wp_ifn (T.ev 0 rfl) ?_ ?_
  · intro h1
    refine wp_seq ?_
    refine wp_region_lit ?_
    refine l_q T rfl rfl rfl rfl (rn_move rfl (T.ev 1 rfl)) ?_; clear T ac; intro ac T
    refine l_q T rfl rfl rfl rfl (rn_assign rfl evc) ?_; clear T ac; intro ac T
    refine l_q T rfl rfl rfl rfl (rn_assign rfl (T.ev 1 rfl)) ?_; clear T ac; intro ac T
    refine wpList_nil ?_
    replace T := T.pick [0, 1] rfl
    replace M := M.mask [false] rfl
    refine nm_then ?_
    refine wp_ret ?_
    refine rt_then ?_
    refine rt_2 T rfl (T.ev 1 rfl) (T.ev 0 rfl) ?_
    refine ⟨?_, M.below⟩
    unfold rworstT
    rw [if_neg h1]
  · intro h1
    obtain ⟨hc, h6, hk⟩ := strokes_of h1
    have hj := good_of hc
    have hst := hj.st
    have hup := after_up hst l
    have hp0 := hup.p0
    have hp1 := hup.p1
    refine wp_skip ?_
    refine nm_then ?_
    refine wp_seq ?_
    refine g_start2 M (M.mask [true] rfl) 9 (by kernel_rfl) rfl (by kernel_rfl) ?_
    clear M; intro wc M
    refine g_q (T := T) (i := 0) rfl (by kernel_rfl) (by kernel_rfl : (pbits 9 0).setIfInBounds 0 true = pbits 9 1) si_U (fun _ _ _ h => h) rfl rfl rfl rfl (fun B w' hD hl hS => (rn_rowO (Mem.nth (show Mem w noEx w' _ from hS) 0 rfl) rfl (T.ev 2 rfl) rfl)) ?_; clear T ac; intro ac T
    refine g_q (T := T) (i := 1) rfl (by kernel_rfl) (by kernel_rfl : (pbits 9 1).setIfInBounds 1 true = pbits 9 3) si_U (fun _ _ _ h => h) rfl rfl rfl rfl (fun _ _ _ _ _ => (rn_move rfl (T.ev 4 rfl))) ?_; clear T ac; intro ac T
    refine g_q (T := T) (i := 3) rfl (by kernel_rfl) (by kernel_rfl : (pbits 9 3).setIfInBounds 3 true = pbits 9 11) si_U (fun _ _ _ h => h) rfl rfl rfl rfl (fun B w' hD hl hS => (rn_rowO (Mem.nth (show Mem w noEx w' _ from hS) 0 rfl) rfl (T.ev 4 rfl) rfl)) ?_; clear T ac; intro ac T
    refine g_m2 (i := 2) (j := 5) (by kernel_rfl) ?_ ?_
    · refine g_i rfl (by kernel_rfl : (pbits 9 11).setIfInBounds 2 true = pbits 9 15) rfl ?_; intro K hK
      refine ow_call (first := []) (cap := []) T rfl rfl rfl rfl evf (.cons (T.ev 2 rfl) (.cons (T.ev 1 rfl) .nil)) Try.func98 rfl rfl ?_
      refine Calls.mono (rafter_any j _ _ _ _ _ l _ (SI.rd M (List.nil_sublist _)) (by omega) hst) ?_
      clear T
      rintro e wc ⟨rfl, hb⟩
      intro ac T
      replace M := M.call hb; clear hb
      refine sh_out hK _ _ (M.mask [true] rfl) ?_; clear hK K
      refine g_m2 (i := 4) (j := 5) (by kernel_rfl) ?_ ?_
      · refine g_i rfl (by kernel_rfl : (pbits 9 15).setIfInBounds 4 true = pbits 9 31) rfl ?_; intro K hK
        refine ow_call (first := []) (cap := []) T rfl rfl rfl rfl evf (.cons (T.ev 1 rfl) .nil) Try.func99 rfl rfl ?_
        refine Calls.mono (shifts_any j _ _ _ hj) ?_
        clear T
        rintro e wc ⟨Aur4_4, cur4_4, Iur4_4, rfl, hdur4_4, N⟩
        intro ac T
        obtain ⟨bur4_4, our4_4, Sur4_4⟩ := SJ.shx hdur4_4
        have hlur4_4 := shx_pos j.sh
        have hfur4_4 := shx_few hj
        replace M := (M.join N).swapI
        replace M := M.mask [true] rfl
        refine sh_out hK _ _ (M.perm [0] rfl rfl) ?_; clear hK K
        refine g_w (i := 5) (by kernel_rfl) rfl (by kernel_rfl : (pbits 9 31).setIfInBounds 5 true = pbits 9 63) rfl ?_; intro K hK
        refine ow_al M T rfl rfl rfl rfl ?_; clear M T; intro gr4_5 wc ac M T
        refine sh_out hK _ _ (M.perm [1] rfl rfl) ?_; clear hK K
        refine g_w (i := 6) (by kernel_rfl) rfl (by kernel_rfl : (pbits 9 63).setIfInBounds 6 true = pbits 9 127) rfl ?_; intro K hK
        refine ow_stO M T rfl rfl (T.ev 0 rfl) (T.ev 2 rfl) rfl .head rfl (by simp) rfl (by kernel_rfl) ?_; clear M T; intro wc ac M T
        refine sh_out hK _ _ (M.perm [1] rfl rfl) ?_; clear hK K
        refine g_q (T := T) (i := 7) rfl (by kernel_rfl) (by kernel_rfl : (pbits 9 127).setIfInBounds 7 true = pbits 9 255) si_U (fun _ _ _ h => h) rfl rfl rfl rfl (fun _ _ _ _ _ => (rn_assign rfl (T.ev 1 rfl))) ?_; clear T ac; intro ac T
        refine g_q (T := T) (i := 8) rfl (by kernel_rfl) (by kernel_rfl : (pbits 9 255).setIfInBounds 8 true = pbits 9 511) si_U (fun _ _ _ h => h) rfl rfl rfl rfl (fun _ _ _ _ _ => (rn_assign rfl evc)) ?_; clear T ac; intro ac T
        refine g_done (by kernel_rfl) ?_
        replace T := T.pick [0, 1, 2] rfl
        replace M := M.mask [true, false] rfl
        refine nm_then ?_
        refine wp_seq ?_
        refine wp_seq ?_
        refine wp_region_lit ?_
        refine l_q T rfl rfl rfl rfl (rn_assign rfl evc) ?_; clear T ac; intro ac T
        refine wpList_nil ?_
        refine nm_then ?_
        refine wp_block ?_
        refine wp_loop_n (fun mz ac wc => ∃ (k : Nat) (y : Int), mz = (shx j.sh).length - k ∧ (k ≤ (shx j.sh).length) ∧ (rworstF (j.st.after l).p0 (j.st.after l).p1 (shx j.sh) 0 = rworstF (j.st.after l).p0 (j.st.after l).p1 ((shx j.sh).drop k) y) ∧ Tm ac 50 [(7, .pointer (some ⟨gr4_5, 0, none⟩)), (8, .slice Aur4_4 ((shx j.sh).length) cur4_4), (9, .int .i64 y), (10, .int .i64 (k : Int))] ∧ Mem w noEx wc ((gr4_5, .cells [.int .i64 ((j.st.after l).p0), .int .i64 ((j.st.after l).p1), .int .i64 ((j.st.after l).t0), .int .i64 ((j.st.after l).t1), .int .i64 ((j.st.after l).r0), .int .i64 ((j.st.after l).r1)]) :: Iur4_4)) ?_ ?_
        · exact ⟨_, 0, 0, rfl, (by omega), rfl, T.pick [3, 2, 1, 0] rfl, M.mask [true] rfl⟩
        · clear T M
          rintro mz ac wc ⟨k, y, hmm1, hkk, H, T, M⟩
          refine wp_seq ?_
          refine wp_seq ?_
          refine wp_region_lit ?_
          refine l_q T rfl rfl rfl rfl (rn_move rfl (T.ev 3 rfl)) ?_; clear T ac; intro ac T
          refine l_q T rfl rfl rfl rfl (rn_move rfl (T.ev 2 rfl)) ?_; clear T ac; intro ac T
          refine l_q T rfl rfl rfl rfl (rn_lenS rfl Try.underlying28 (T.ev 0 rfl)) ?_; clear T ac; intro ac T
          refine l_q T rfl rfl rfl rfl (rn_lss rfl (T.ev 2 rfl) (T.ev 0 rfl)) ?_; clear T ac; intro ac T
          refine wpList_nil ?_
          replace T := T.pick [0, 4, 5, 6, 7] rfl
          refine nm_then ?_
          refine wp_if (T.ev 0 rfl) ?_ ?_
          · intro h2
            obtain ⟨x0, x1, hk1, hd⟩ := rc_next (l := shx j.sh) (k := k) (by omega)
            have hb1 := shx_bd hj hk1
            rw [hd] at H
            refine wp_skip ?_
            refine nm_then ?_
            refine wp_seq ?_
            refine wp_block ?_
            refine g_start2 M (M.mask [true] rfl) 22 (by kernel_rfl) rfl (by kernel_rfl) ?_
            clear M; intro wc M
            refine g_q (T := T) (i := 0) rfl (by kernel_rfl) (by kernel_rfl : (pbits 22 0).setIfInBounds 0 true = pbits 22 1) si_U (fun _ _ _ h => h) rfl rfl rfl rfl (fun _ _ _ _ _ => (rn_move rfl (T.ev 3 rfl))) ?_; clear T ac; intro ac T
            refine g_q (v := (.pointer (some ⟨gr4_5, 0, none⟩))) (T := T) (i := 1) rfl (by kernel_rfl) (by kernel_rfl : (pbits 22 1).setIfInBounds 1 true = pbits 22 3) si_U (fun _ _ _ h => h) rfl rfl rfl rfl (fun _ _ _ _ _ => (rn_fieldAddr (off := 0) rfl (T.ev 2 rfl) (fun _ _ _ => by kernel_rfl))) ?_; clear T ac; intro ac T
            refine g_q (v := (.pointer (some ⟨gr4_5, 1, none⟩))) (T := T) (i := 2) rfl (by kernel_rfl) (by kernel_rfl : (pbits 22 3).setIfInBounds 2 true = pbits 22 7) si_U (fun _ _ _ h => h) rfl rfl rfl rfl (fun _ _ _ _ _ => (rn_fieldAddr (off := 1) rfl (T.ev 0 rfl) (fun _ _ _ => by kernel_rfl))) ?_; clear T ac; intro ac T
            refine g_q (T := T) (i := 3) rfl (by kernel_rfl) (by kernel_rfl : (pbits 22 7).setIfInBounds 3 true = pbits 22 15) si_U (fun _ _ _ h => h) rfl rfl rfl rfl (fun B w' hD hl hS => (rn_one (Mem.nth (show Mem w noEx w' _ from hS) 0 rfl) rfl (T.ev 0 rfl) rfl)) ?_; clear T ac; intro ac T
            refine g_q (T := T) (i := 4) rfl (by kernel_rfl) (by kernel_rfl : (pbits 22 15).setIfInBounds 4 true = pbits 22 31) si_U (fun _ _ _ h => h) rfl rfl rfl rfl (fun _ _ _ _ _ => (rn_move rfl (T.ev 6 rfl))) ?_; clear T ac; intro ac T
            refine g_q (T := T) (i := 5) rfl (by kernel_rfl) (by kernel_rfl : (pbits 22 31).setIfInBounds 5 true = pbits 22 63) si_U (fun _ _ _ h => h) rfl rfl rfl rfl (fun _ _ _ _ _ => (rn_move rfl (T.ev 9 rfl))) ?_; clear T ac; intro ac T
            refine g_q (T := T) (i := 6) rfl (by kernel_rfl) (by kernel_rfl : (pbits 22 63).setIfInBounds 6 true = pbits 22 127) si_U (fun _ _ _ h => h) rfl rfl rfl rfl (fun _ _ _ _ _ => (rn_indexAddr (size := 2) k rfl (T.ev 1 rfl) (T.ev 0 rfl) ⟨_, Try.underlying28, by kernel_rfl⟩ rfl (by omega) (Sur4_4.at0 (by omega)))) ?_; clear T ac; intro ac T
            refine g_q (T := T) (i := 7) rfl (by kernel_rfl) (by kernel_rfl : (pbits 22 127).setIfInBounds 7 true = pbits 22 255) si_U (fun _ _ _ h => h) rfl rfl rfl rfl (fun _ _ _ _ _ => (rn_fieldAddr (off := 1) rfl (T.ev 0 rfl) (fun _ _ _ => by kernel_rfl))) ?_; clear T ac; intro ac T
            refine g_q (T := T) (i := 8) rfl (by kernel_rfl) (by kernel_rfl : (pbits 22 255).setIfInBounds 8 true = pbits 22 511) si_U (fun _ _ _ h => h) rfl rfl rfl rfl (fun B w' hD hl hS => (rn_cell (Sp.rc1 Sur4_4 (show Mem w noEx w' _ from hS) (.cons _ (List.Sublist.refl _)) hk1) rfl (T.ev 0 rfl))) ?_; clear T ac; intro ac T
            refine g_q (T := T) (i := 9) rfl (by kernel_rfl) (by kernel_rfl : (pbits 22 511).setIfInBounds 9 true = pbits 22 1023) si_U (fun _ _ _ h => h) rfl rfl rfl rfl (fun _ _ _ _ _ => (rn_add rfl (T.ev 5 rfl) (T.ev 0 rfl) (by omega))) ?_; clear T ac; intro ac T
            refine g_q (v := (.pointer (some ⟨gr4_5, 0, none⟩))) (T := T) (i := 10) rfl (by kernel_rfl) (by kernel_rfl : (pbits 22 1023).setIfInBounds 10 true = pbits 22 2047) si_U (fun _ _ _ h => h) rfl rfl rfl rfl (fun _ _ _ _ _ => (rn_fieldAddr (off := 0) rfl (T.ev 11 rfl) (fun _ _ _ => by kernel_rfl))) ?_; clear T ac; intro ac T
            refine g_q (v := (.pointer (some ⟨gr4_5, 0, none⟩))) (T := T) (i := 11) rfl (by kernel_rfl) (by kernel_rfl : (pbits 22 2047).setIfInBounds 11 true = pbits 22 4095) si_U (fun _ _ _ h => h) rfl rfl rfl rfl (fun _ _ _ _ _ => (rn_fieldAddr (off := 0) rfl (T.ev 0 rfl) (fun _ _ _ => by kernel_rfl))) ?_; clear T ac; intro ac T
            refine g_q (T := T) (i := 12) rfl (by kernel_rfl) (by kernel_rfl : (pbits 22 4095).setIfInBounds 12 true = pbits 22 8191) si_U (fun _ _ _ h => h) rfl rfl rfl rfl (fun B w' hD hl hS => (rn_one (Mem.nth (show Mem w noEx w' _ from hS) 0 rfl) rfl (T.ev 0 rfl) rfl)) ?_; clear T ac; intro ac T
            refine g_q (T := T) (i := 13) rfl (by kernel_rfl) (by kernel_rfl : (pbits 22 8191).setIfInBounds 13 true = pbits 22 16383) si_U (fun _ _ _ h => h) rfl rfl rfl rfl (fun _ _ _ _ _ => (rn_move rfl (T.ev 15 rfl))) ?_; clear T ac; intro ac T
            refine g_q (T := T) (i := 14) rfl (by kernel_rfl) (by kernel_rfl : (pbits 22 16383).setIfInBounds 14 true = pbits 22 32767) si_U (fun _ _ _ h => h) rfl rfl rfl rfl (fun _ _ _ _ _ => (rn_move rfl (T.ev 18 rfl))) ?_; clear T ac; intro ac T
            refine g_q (T := T) (i := 15) rfl (by kernel_rfl) (by kernel_rfl : (pbits 22 32767).setIfInBounds 15 true = pbits 22 65535) si_U (fun _ _ _ h => h) rfl rfl rfl rfl (fun _ _ _ _ _ => (rn_indexAddr (size := 2) k rfl (T.ev 1 rfl) (T.ev 0 rfl) ⟨_, Try.underlying28, by kernel_rfl⟩ rfl (by omega) (Sur4_4.at0 (by omega)))) ?_; clear T ac; intro ac T
            refine g_q (T := T) (i := 16) rfl (by kernel_rfl) (by kernel_rfl : (pbits 22 65535).setIfInBounds 16 true = pbits 22 131071) si_U (fun _ _ _ h => h) rfl rfl rfl rfl (fun _ _ _ _ _ => (rn_fieldAddr (off := 0) rfl (T.ev 0 rfl) (fun _ _ _ => by kernel_rfl))) ?_; clear T ac; intro ac T
            refine g_q (T := T) (i := 17) rfl (by kernel_rfl) (by kernel_rfl : (pbits 22 131071).setIfInBounds 17 true = pbits 22 262143) si_U (fun _ _ _ h => h) rfl rfl rfl rfl (fun B w' hD hl hS => (rn_cell (Sp.rc0 Sur4_4 (show Mem w noEx w' _ from hS) (.cons _ (List.Sublist.refl _)) hk1) rfl (T.ev 0 rfl))) ?_; clear T ac; intro ac T
            refine g_q (T := T) (i := 18) rfl (by kernel_rfl) (by kernel_rfl : (pbits 22 262143).setIfInBounds 18 true = pbits 22 524287) si_U (fun _ _ _ h => h) rfl rfl rfl rfl (fun _ _ _ _ _ => (rn_add rfl (T.ev 5 rfl) (T.ev 0 rfl) (by omega))) ?_; clear T ac; intro ac T
            refine g_q (T := T) (i := 19) rfl (by kernel_rfl) (by kernel_rfl : (pbits 22 524287).setIfInBounds 19 true = pbits 22 1048575) si_U (fun _ _ _ h => h) rfl rfl rfl rfl (fun _ _ _ _ _ => (rn_neg rfl (T.ev 0 rfl) (by omega))) ?_; clear T ac; intro ac T
            refine g_q (T := T) (i := 20) rfl (by kernel_rfl) (by kernel_rfl : (pbits 22 1048575).setIfInBounds 20 true = pbits 22 2097151) si_U (fun _ _ _ h => h) rfl rfl rfl rfl (fun _ _ _ _ _ => (rn_max3 rfl (T.ev 19 rfl) (T.ev 10 rfl) (T.ev 0 rfl))) ?_; clear T ac; intro ac T
            refine g_q (v := (.int .i64 (max (max y (((j.st.after l).p1) + x1)) (-(((j.st.after l).p0) + x0))))) (T := T.pick [0, 1, 2, 3, 4, 5, 6, 7, 8, 9, 10, 11, 12, 13, 14, 15, 16, 17, 18, 19, 20, 21, 22, 23, 25] rfl) (i := 21) rfl (by kernel_rfl) (by kernel_rfl : (pbits 22 2097151).setIfInBounds 21 true = pbits 22 4194303) si_U (fun _ _ _ h => h) rfl rfl rfl rfl (fun _ _ _ _ _ => (rn_assign rfl (T.ev 0 rfl))) ?_; clear T ac; intro ac T
            refine g_done (by kernel_rfl) ?_
            replace T := T.pick [0, 23, 24, 25] rfl
            refine nm_blk ?_
            refine nm_then ?_
            refine wp_region_lit ?_
            refine l_q T rfl rfl rfl rfl (rn_move rfl (T.ev 3 rfl)) ?_; clear T ac; intro ac T
            refine l_q T rfl rfl rfl rfl (rn_add rfl (T.ev 0 rfl) evc (by omega)) ?_; clear T ac; intro ac T
            refine l_q (v := (.int .i64 ((k : Int) + 1))) (T.pick [0, 1, 2, 3, 4] rfl) rfl rfl rfl rfl (rn_assign rfl (T.ev 0 rfl)) ?_; clear T ac; intro ac T
            refine wpList_nil ?_
            replace T := T.pick [0, 3, 4, 5] rfl
            refine nm_then ?_
            exact ⟨_, by omega, k + 1, _, rfl, (by omega), H, T.pick [2, 3, 1, 0] rfl, M.mask [true] rfl⟩
          · intro h2
            rw [List.drop_of_length_le (by omega)] at H
            refine wp_exit ?_
            refine ex_then ?_
            refine ex_then ?_
            refine ex_hit ?_
            refine nm_then ?_
            refine wp_seq ?_
            refine wp_region_lit ?_
            refine l_q T rfl rfl rfl rfl (rn_move rfl (T.ev 3 rfl)) ?_; clear T ac; intro ac T
            refine l_q T rfl rfl rfl rfl (rn_assign rfl (T.ev 0 rfl)) ?_; clear T ac; intro ac T
            refine l_q T rfl rfl rfl rfl (rn_assign rfl evc) ?_; clear T ac; intro ac T
            refine wpList_nil ?_
            replace T := T.pick [0, 1] rfl
            replace M := M.mask [false] rfl
            refine nm_then ?_
            refine wp_ret ?_
            refine rt_2 T rfl (T.ev 1 rfl) (T.ev 0 rfl) ?_
            refine ⟨?_, M.below⟩
            unfold rworstT
            rw [if_pos h1, H]
            rfl
      · refine g_i rfl (by kernel_rfl : (pbits 9 15).setIfInBounds 5 true = pbits 9 47) rfl ?_; intro K hK
        refine ow_al M T rfl rfl rfl rfl ?_; clear M T; intro gr4_5 wc ac M T
        refine sh_out hK _ _ (M.mask [false, true] rfl) ?_; clear hK K
        refine g_w (i := 4) (by kernel_rfl) rfl (by kernel_rfl : (pbits 9 47).setIfInBounds 4 true = pbits 9 63) rfl ?_; intro K hK
        refine ow_call (first := []) (cap := []) T rfl rfl rfl rfl evf (.cons (T.ev 2 rfl) .nil) Try.func99 rfl rfl ?_
        refine Calls.mono (shifts_any j _ _ _ hj) ?_
        clear T
        rintro e wc ⟨Aur4_4, cur4_4, Iur4_4, rfl, hdur4_4, N⟩
        intro ac T
        obtain ⟨bur4_4, our4_4, Sur4_4⟩ := SJ.shx hdur4_4
        have hlur4_4 := shx_pos j.sh
        have hfur4_4 := shx_few hj
        replace M := (M.join N).swapI
        replace M := M.mask [true, true] rfl
        refine sh_out hK _ _ (M.perm [1] rfl rfl) ?_; clear hK K
        refine g_w (i := 6) (by kernel_rfl) rfl (by kernel_rfl : (pbits 9 63).setIfInBounds 6 true = pbits 9 127) rfl ?_; intro K hK
        refine ow_stO M T rfl rfl (T.ev 1 rfl) (T.ev 2 rfl) rfl .head rfl (by simp) rfl (by kernel_rfl) ?_; clear M T; intro wc ac M T
        refine sh_out hK _ _ (M.perm [1] rfl rfl) ?_; clear hK K
        refine g_q (T := T) (i := 7) rfl (by kernel_rfl) (by kernel_rfl : (pbits 9 127).setIfInBounds 7 true = pbits 9 255) si_U (fun _ _ _ h => h) rfl rfl rfl rfl (fun _ _ _ _ _ => (rn_assign rfl (T.ev 0 rfl))) ?_; clear T ac; intro ac T
        refine g_q (T := T) (i := 8) rfl (by kernel_rfl) (by kernel_rfl : (pbits 9 255).setIfInBounds 8 true = pbits 9 511) si_U (fun _ _ _ h => h) rfl rfl rfl rfl (fun _ _ _ _ _ => (rn_assign rfl evc)) ?_; clear T ac; intro ac T
        refine g_done (by kernel_rfl) ?_
        replace T := T.pick [0, 1, 3] rfl
        replace M := M.mask [true, false] rfl
        refine nm_then ?_
        refine wp_seq ?_
        refine wp_seq ?_
        refine wp_region_lit ?_
        refine l_q T rfl rfl rfl rfl (rn_assign rfl evc) ?_; clear T ac; intro ac T
        refine wpList_nil ?_
        refine nm_then ?_
        refine wp_block ?_
        refine wp_loop_n (fun mz ac wc => ∃ (k : Nat) (y : Int), mz = (shx j.sh).length - k ∧ (k ≤ (shx j.sh).length) ∧ (rworstF (j.st.after l).p0 (j.st.after l).p1 (shx j.sh) 0 = rworstF (j.st.after l).p0 (j.st.after l).p1 ((shx j.sh).drop k) y) ∧ Tm ac 50 [(7, .pointer (some ⟨gr4_5, 0, none⟩)), (8, .slice Aur4_4 ((shx j.sh).length) cur4_4), (9, .int .i64 y), (10, .int .i64 (k : Int))] ∧ Mem w noEx wc ((gr4_5, .cells [.int .i64 ((j.st.after l).p0), .int .i64 ((j.st.after l).p1), .int .i64 ((j.st.after l).t0), .int .i64 ((j.st.after l).t1), .int .i64 ((j.st.after l).r0), .int .i64 ((j.st.after l).r1)]) :: Iur4_4)) ?_ ?_
        · exact ⟨_, 0, 0, rfl, (by omega), rfl, T.pick [3, 2, 1, 0] rfl, M.mask [true] rfl⟩
        · clear T M
          rintro mz ac wc ⟨k, y, hmm1, hkk, H, T, M⟩
          refine wp_seq ?_
          refine wp_seq ?_
          refine wp_region_lit ?_
          refine l_q T rfl rfl rfl rfl (rn_move rfl (T.ev 3 rfl)) ?_; clear T ac; intro ac T
          refine l_q T rfl rfl rfl rfl (rn_move rfl (T.ev 2 rfl)) ?_; clear T ac; intro ac T
          refine l_q T rfl rfl rfl rfl (rn_lenS rfl Try.underlying28 (T.ev 0 rfl)) ?_; clear T ac; intro ac T
          refine l_q T rfl rfl rfl rfl (rn_lss rfl (T.ev 2 rfl) (T.ev 0 rfl)) ?_; clear T ac; intro ac T
          refine wpList_nil ?_
          replace T := T.pick [0, 4, 5, 6, 7] rfl
          refine nm_then ?_
          refine wp_if (T.ev 0 rfl) ?_ ?_
          · intro h3
            obtain ⟨x0, x1, hk1, hd⟩ := rc_next (l := shx j.sh) (k := k) (by omega)
            have hb1 := shx_bd hj hk1
            rw [hd] at H
            refine wp_skip ?_
            refine nm_then ?_
            refine wp_seq ?_
            refine wp_block ?_
            refine g_start2 M (M.mask [true] rfl) 22 (by kernel_rfl) rfl (by kernel_rfl) ?_
            clear M; intro wc M
            refine g_q (T := T) (i := 0) rfl (by kernel_rfl) (by kernel_rfl : (pbits 22 0).setIfInBounds 0 true = pbits 22 1) si_U (fun _ _ _ h => h) rfl rfl rfl rfl (fun _ _ _ _ _ => (rn_move rfl (T.ev 3 rfl))) ?_; clear T ac; intro ac T
            refine g_q (v := (.pointer (some ⟨gr4_5, 0, none⟩))) (T := T) (i := 1) rfl (by kernel_rfl) (by kernel_rfl : (pbits 22 1).setIfInBounds 1 true = pbits 22 3) si_U (fun _ _ _ h => h) rfl rfl rfl rfl (fun _ _ _ _ _ => (rn_fieldAddr (off := 0) rfl (T.ev 2 rfl) (fun _ _ _ => by kernel_rfl))) ?_; clear T ac; intro ac T
            refine g_q (v := (.pointer (some ⟨gr4_5, 1, none⟩))) (T := T) (i := 2) rfl (by kernel_rfl) (by kernel_rfl : (pbits 22 3).setIfInBounds 2 true = pbits 22 7) si_U (fun _ _ _ h => h) rfl rfl rfl rfl (fun _ _ _ _ _ => (rn_fieldAddr (off := 1) rfl (T.ev 0 rfl) (fun _ _ _ => by kernel_rfl))) ?_; clear T ac; intro ac T
            refine g_q (T := T) (i := 3) rfl (by kernel_rfl) (by kernel_rfl : (pbits 22 7).setIfInBounds 3 true = pbits 22 15) si_U (fun _ _ _ h => h) rfl rfl rfl rfl (fun B w' hD hl hS => (rn_one (Mem.nth (show Mem w noEx w' _ from hS) 0 rfl) rfl (T.ev 0 rfl) rfl)) ?_; clear T ac; intro ac T
            refine g_q (T := T) (i := 4) rfl (by kernel_rfl) (by kernel_rfl : (pbits 22 15).setIfInBounds 4 true = pbits 22 31) si_U (fun _ _ _ h => h) rfl rfl rfl rfl (fun _ _ _ _ _ => (rn_move rfl (T.ev 6 rfl))) ?_; clear T ac; intro ac T
            refine g_q (T := T) (i := 5) rfl (by kernel_rfl) (by kernel_rfl : (pbits 22 31).setIfInBounds 5 true = pbits 22 63) si_U (fun _ _ _ h => h) rfl rfl rfl rfl (fun _ _ _ _ _ => (rn_move rfl (T.ev 9 rfl))) ?_; clear T ac; intro ac T
            refine g_q (T := T) (i := 6) rfl (by kernel_rfl) (by kernel_rfl : (pbits 22 63).setIfInBounds 6 true = pbits 22 127) si_U (fun _ _ _ h => h) rfl rfl rfl rfl (fun _ _ _ _ _ => (rn_indexAddr (size := 2) k rfl (T.ev 1 rfl) (T.ev 0 rfl) ⟨_, Try.underlying28, by kernel_rfl⟩ rfl (by omega) (Sur4_4.at0 (by omega)))) ?_; clear T ac; intro ac T
            refine g_q (T := T) (i := 7) rfl (by kernel_rfl) (by kernel_rfl : (pbits 22 127).setIfInBounds 7 true = pbits 22 255) si_U (fun _ _ _ h => h) rfl rfl rfl rfl (fun _ _ _ _ _ => (rn_fieldAddr (off := 1) rfl (T.ev 0 rfl) (fun _ _ _ => by kernel_rfl))) ?_; clear T ac; intro ac T
            refine g_q (T := T) (i := 8) rfl (by kernel_rfl) (by kernel_rfl : (pbits 22 255).setIfInBounds 8 true = pbits 22 511) si_U (fun _ _ _ h => h) rfl rfl rfl rfl (fun B w' hD hl hS => (rn_cell (Sp.rc1 Sur4_4 (show Mem w noEx w' _ from hS) (.cons _ (List.Sublist.refl _)) hk1) rfl (T.ev 0 rfl))) ?_; clear T ac; intro ac T
            refine g_q (T := T) (i := 9) rfl (by kernel_rfl) (by kernel_rfl : (pbits 22 511).setIfInBounds 9 true = pbits 22 1023) si_U (fun _ _ _ h => h) rfl rfl rfl rfl (fun _ _ _ _ _ => (rn_add rfl (T.ev 5 rfl) (T.ev 0 rfl) (by omega))) ?_; clear T ac; intro ac T
            refine g_q (v := (.pointer (some ⟨gr4_5, 0, none⟩))) (T := T) (i := 10) rfl (by kernel_rfl) (by kernel_rfl : (pbits 22 1023).setIfInBounds 10 true = pbits 22 2047) si_U (fun _ _ _ h => h) rfl rfl rfl rfl (fun _ _ _ _ _ => (rn_fieldAddr (off := 0) rfl (T.ev 11 rfl) (fun _ _ _ => by kernel_rfl))) ?_; clear T ac; intro ac T
            refine g_q (v := (.pointer (some ⟨gr4_5, 0, none⟩))) (T := T) (i := 11) rfl (by kernel_rfl) (by kernel_rfl : (pbits 22 2047).setIfInBounds 11 true = pbits 22 4095) si_U (fun _ _ _ h => h) rfl rfl rfl rfl (fun _ _ _ _ _ => (rn_fieldAddr (off := 0) rfl (T.ev 0 rfl) (fun _ _ _ => by kernel_rfl))) ?_; clear T ac; intro ac T
            refine g_q (T := T) (i := 12) rfl (by kernel_rfl) (by kernel_rfl : (pbits 22 4095).setIfInBounds 12 true = pbits 22 8191) si_U (fun _ _ _ h => h) rfl rfl rfl rfl (fun B w' hD hl hS => (rn_one (Mem.nth (show Mem w noEx w' _ from hS) 0 rfl) rfl (T.ev 0 rfl) rfl)) ?_; clear T ac; intro ac T
            refine g_q (T := T) (i := 13) rfl (by kernel_rfl) (by kernel_rfl : (pbits 22 8191).setIfInBounds 13 true = pbits 22 16383) si_U (fun _ _ _ h => h) rfl rfl rfl rfl (fun _ _ _ _ _ => (rn_move rfl (T.ev 15 rfl))) ?_; clear T ac; intro ac T
            refine g_q (T := T) (i := 14) rfl (by kernel_rfl) (by kernel_rfl : (pbits 22 16383).setIfInBounds 14 true = pbits 22 32767) si_U (fun _ _ _ h => h) rfl rfl rfl rfl (fun _ _ _ _ _ => (rn_move rfl (T.ev 18 rfl))) ?_; clear T ac; intro ac T
            refine g_q (T := T) (i := 15) rfl (by kernel_rfl) (by kernel_rfl : (pbits 22 32767).setIfInBounds 15 true = pbits 22 65535) si_U (fun _ _ _ h => h) rfl rfl rfl rfl (fun _ _ _ _ _ => (rn_indexAddr (size := 2) k rfl (T.ev 1 rfl) (T.ev 0 rfl) ⟨_, Try.underlying28, by kernel_rfl⟩ rfl (by omega) (Sur4_4.at0 (by omega)))) ?_; clear T ac; intro ac T
            refine g_q (T := T) (i := 16) rfl (by kernel_rfl) (by kernel_rfl : (pbits 22 65535).setIfInBounds 16 true = pbits 22 131071) si_U (fun _ _ _ h => h) rfl rfl rfl rfl (fun _ _ _ _ _ => (rn_fieldAddr (off := 0) rfl (T.ev 0 rfl) (fun _ _ _ => by kernel_rfl))) ?_; clear T ac; intro ac T
            refine g_q (T := T) (i := 17) rfl (by kernel_rfl) (by kernel_rfl : (pbits 22 131071).setIfInBounds 17 true = pbits 22 262143) si_U (fun _ _ _ h => h) rfl rfl rfl rfl (fun B w' hD hl hS => (rn_cell (Sp.rc0 Sur4_4 (show Mem w noEx w' _ from hS) (.cons _ (List.Sublist.refl _)) hk1) rfl (T.ev 0 rfl))) ?_; clear T ac; intro ac T
            refine g_q (T := T) (i := 18) rfl (by kernel_rfl) (by kernel_rfl : (pbits 22 262143).setIfInBounds 18 true = pbits 22 524287) si_U (fun _ _ _ h => h) rfl rfl rfl rfl (fun _ _ _ _ _ => (rn_add rfl (T.ev 5 rfl) (T.ev 0 rfl) (by omega))) ?_; clear T ac; intro ac T
            refine g_q (T := T) (i := 19) rfl (by kernel_rfl) (by kernel_rfl : (pbits 22 524287).setIfInBounds 19 true = pbits 22 1048575) si_U (fun _ _ _ h => h) rfl rfl rfl rfl (fun _ _ _ _ _ => (rn_neg rfl (T.ev 0 rfl) (by omega))) ?_; clear T ac; intro ac T
            refine g_q (T := T) (i := 20) rfl (by kernel_rfl) (by kernel_rfl : (pbits 22 1048575).setIfInBounds 20 true = pbits 22 2097151) si_U (fun _ _ _ h => h) rfl rfl rfl rfl (fun _ _ _ _ _ => (rn_max3 rfl (T.ev 19 rfl) (T.ev 10 rfl) (T.ev 0 rfl))) ?_; clear T ac; intro ac T
            refine g_q (v := (.int .i64 (max (max y (((j.st.after l).p1) + x1)) (-(((j.st.after l).p0) + x0))))) (T := T.pick [0, 1, 2, 3, 4, 5, 6, 7, 8, 9, 10, 11, 12, 13, 14, 15, 16, 17, 18, 19, 20, 21, 22, 23, 25] rfl) (i := 21) rfl (by kernel_rfl) (by kernel_rfl : (pbits 22 2097151).setIfInBounds 21 true = pbits 22 4194303) si_U (fun _ _ _ h => h) rfl rfl rfl rfl (fun _ _ _ _ _ => (rn_assign rfl (T.ev 0 rfl))) ?_; clear T ac; intro ac T
            refine g_done (by kernel_rfl) ?_
            replace T := T.pick [0, 23, 24, 25] rfl
            refine nm_blk ?_
            refine nm_then ?_
            refine wp_region_lit ?_
            refine l_q T rfl rfl rfl rfl (rn_move rfl (T.ev 3 rfl)) ?_; clear T ac; intro ac T
            refine l_q T rfl rfl rfl rfl (rn_add rfl (T.ev 0 rfl) evc (by omega)) ?_; clear T ac; intro ac T
            refine l_q (v := (.int .i64 ((k : Int) + 1))) (T.pick [0, 1, 2, 3, 4] rfl) rfl rfl rfl rfl (rn_assign rfl (T.ev 0 rfl)) ?_; clear T ac; intro ac T
            refine wpList_nil ?_
            replace T := T.pick [0, 3, 4, 5] rfl
            refine nm_then ?_
            exact ⟨_, by omega, k + 1, _, rfl, (by omega), H, T.pick [2, 3, 1, 0] rfl, M.mask [true] rfl⟩
          · intro h3
            rw [List.drop_of_length_le (by omega)] at H
            refine wp_exit ?_
            refine ex_then ?_
            refine ex_then ?_
            refine ex_hit ?_
            refine nm_then ?_
            refine wp_seq ?_
            refine wp_region_lit ?_
            refine l_q T rfl rfl rfl rfl (rn_move rfl (T.ev 3 rfl)) ?_; clear T ac; intro ac T
            refine l_q T rfl rfl rfl rfl (rn_assign rfl (T.ev 0 rfl)) ?_; clear T ac; intro ac T
            refine l_q T rfl rfl rfl rfl (rn_assign rfl evc) ?_; clear T ac; intro ac T
            refine wpList_nil ?_
            replace T := T.pick [0, 1] rfl
            replace M := M.mask [false] rfl
            refine nm_then ?_
            refine wp_ret ?_
            refine rt_2 T rfl (T.ev 1 rfl) (T.ev 0 rfl) ?_
            refine ⟨?_, M.below⟩
            unfold rworstT
            rw [if_pos h1, H]
            rfl
    · refine g_i rfl (by kernel_rfl : (pbits 9 11).setIfInBounds 5 true = pbits 9 43) rfl ?_; intro K hK
      refine ow_al M T rfl rfl rfl rfl ?_; clear M T; intro gr4_5 wc ac M T
      refine sh_out hK _ _ (M.mask [false, true] rfl) ?_; clear hK K
      refine g_w (i := 2) (by kernel_rfl) rfl (by kernel_rfl : (pbits 9 43).setIfInBounds 2 true = pbits 9 47) rfl ?_; intro K hK
      refine ow_call (first := []) (cap := []) T rfl rfl rfl rfl evf (.cons (T.ev 3 rfl) (.cons (T.ev 2 rfl) .nil)) Try.func98 rfl rfl ?_
      refine Calls.mono (rafter_any j _ _ _ _ _ l _ (SI.rd M (List.nil_sublist _)) (by omega) hst) ?_
      clear T
      rintro e wc ⟨rfl, hb⟩
      intro ac T
      replace M := M.call hb; clear hb
      refine sh_out hK _ _ (M.mask [false, true] rfl) ?_; clear hK K
      refine g_w (i := 4) (by kernel_rfl) rfl (by kernel_rfl : (pbits 9 47).setIfInBounds 4 true = pbits 9 63) rfl ?_; intro K hK
      refine ow_call (first := []) (cap := []) T rfl rfl rfl rfl evf (.cons (T.ev 2 rfl) .nil) Try.func99 rfl rfl ?_
      refine Calls.mono (shifts_any j _ _ _ hj) ?_
      clear T
      rintro e wc ⟨Aur4_4, cur4_4, Iur4_4, rfl, hdur4_4, N⟩
      intro ac T
      obtain ⟨bur4_4, our4_4, Sur4_4⟩ := SJ.shx hdur4_4
      have hlur4_4 := shx_pos j.sh
      have hfur4_4 := shx_few hj
      replace M := (M.join N).swapI
      replace M := M.mask [true, true] rfl
      refine sh_out hK _ _ (M.perm [1] rfl rfl) ?_; clear hK K
      refine g_w (i := 6) (by kernel_rfl) rfl (by kernel_rfl : (pbits 9 63).setIfInBounds 6 true = pbits 9 127) rfl ?_; intro K hK
      refine ow_stO M T rfl rfl (T.ev 2 rfl) (T.ev 1 rfl) rfl .head rfl (by simp) rfl (by kernel_rfl) ?_; clear M T; intro wc ac M T
      refine sh_out hK _ _ (M.perm [1] rfl rfl) ?_; clear hK K
      refine g_q (T := T) (i := 7) rfl (by kernel_rfl) (by kernel_rfl : (pbits 9 127).setIfInBounds 7 true = pbits 9 255) si_U (fun _ _ _ h => h) rfl rfl rfl rfl (fun _ _ _ _ _ => (rn_assign rfl (T.ev 0 rfl))) ?_; clear T ac; intro ac T
      refine g_q (T := T) (i := 8) rfl (by kernel_rfl) (by kernel_rfl : (pbits 9 255).setIfInBounds 8 true = pbits 9 511) si_U (fun _ _ _ h => h) rfl rfl rfl rfl (fun _ _ _ _ _ => (rn_assign rfl evc)) ?_; clear T ac; intro ac T
      refine g_done (by kernel_rfl) ?_
      replace T := T.pick [0, 1, 4] rfl
      replace M := M.mask [true, false] rfl
      refine nm_then ?_
      refine wp_seq ?_
      refine wp_seq ?_
      refine wp_region_lit ?_
      refine l_q T rfl rfl rfl rfl (rn_assign rfl evc) ?_; clear T ac; intro ac T
      refine wpList_nil ?_
      refine nm_then ?_
      refine wp_block ?_
      refine wp_loop_n (fun mz ac wc => ∃ (k : Nat) (y : Int), mz = (shx j.sh).length - k ∧ (k ≤ (shx j.sh).length) ∧ (rworstF (j.st.after l).p0 (j.st.after l).p1 (shx j.sh) 0 = rworstF (j.st.after l).p0 (j.st.after l).p1 ((shx j.sh).drop k) y) ∧ Tm ac 50 [(7, .pointer (some ⟨gr4_5, 0, none⟩)), (8, .slice Aur4_4 ((shx j.sh).length) cur4_4), (9, .int .i64 y), (10, .int .i64 (k : Int))] ∧ Mem w noEx wc ((gr4_5, .cells [.int .i64 ((j.st.after l).p0), .int .i64 ((j.st.after l).p1), .int .i64 ((j.st.after l).t0), .int .i64 ((j.st.after l).t1), .int .i64 ((j.st.after l).r0), .int .i64 ((j.st.after l).r1)]) :: Iur4_4)) ?_ ?_
      · exact ⟨_, 0, 0, rfl, (by omega), rfl, T.pick [3, 2, 1, 0] rfl, M.mask [true] rfl⟩
      · clear T M
        rintro mz ac wc ⟨k, y, hmm1, hkk, H, T, M⟩
        refine wp_seq ?_
        refine wp_seq ?_
        refine wp_region_lit ?_
        refine l_q T rfl rfl rfl rfl (rn_move rfl (T.ev 3 rfl)) ?_; clear T ac; intro ac T
        refine l_q T rfl rfl rfl rfl (rn_move rfl (T.ev 2 rfl)) ?_; clear T ac; intro ac T
        refine l_q T rfl rfl rfl rfl (rn_lenS rfl Try.underlying28 (T.ev 0 rfl)) ?_; clear T ac; intro ac T
        refine l_q T rfl rfl rfl rfl (rn_lss rfl (T.ev 2 rfl) (T.ev 0 rfl)) ?_; clear T ac; intro ac T
        refine wpList_nil ?_
        replace T := T.pick [0, 4, 5, 6, 7] rfl
        refine nm_then ?_
        refine wp_if (T.ev 0 rfl) ?_ ?_
        · intro h4
          obtain ⟨x0, x1, hk1, hd⟩ := rc_next (l := shx j.sh) (k := k) (by omega)
          have hb1 := shx_bd hj hk1
          rw [hd] at H
          refine wp_skip ?_
          refine nm_then ?_
          refine wp_seq ?_
          refine wp_block ?_
          refine g_start2 M (M.mask [true] rfl) 22 (by kernel_rfl) rfl (by kernel_rfl) ?_
          clear M; intro wc M
          refine g_q (T := T) (i := 0) rfl (by kernel_rfl) (by kernel_rfl : (pbits 22 0).setIfInBounds 0 true = pbits 22 1) si_U (fun _ _ _ h => h) rfl rfl rfl rfl (fun _ _ _ _ _ => (rn_move rfl (T.ev 3 rfl))) ?_; clear T ac; intro ac T
          refine g_q (v := (.pointer (some ⟨gr4_5, 0, none⟩))) (T := T) (i := 1) rfl (by kernel_rfl) (by kernel_rfl : (pbits 22 1).setIfInBounds 1 true = pbits 22 3) si_U (fun _ _ _ h => h) rfl rfl rfl rfl (fun _ _ _ _ _ => (rn_fieldAddr (off := 0) rfl (T.ev 2 rfl) (fun _ _ _ => by kernel_rfl))) ?_; clear T ac; intro ac T
          refine g_q (v := (.pointer (some ⟨gr4_5, 1, none⟩))) (T := T) (i := 2) rfl (by kernel_rfl) (by kernel_rfl : (pbits 22 3).setIfInBounds 2 true = pbits 22 7) si_U (fun _ _ _ h => h) rfl rfl rfl rfl (fun _ _ _ _ _ => (rn_fieldAddr (off := 1) rfl (T.ev 0 rfl) (fun _ _ _ => by kernel_rfl))) ?_; clear T ac; intro ac T
          refine g_q (T := T) (i := 3) rfl (by kernel_rfl) (by kernel_rfl : (pbits 22 7).setIfInBounds 3 true = pbits 22 15) si_U (fun _ _ _ h => h) rfl rfl rfl rfl (fun B w' hD hl hS => (rn_one (Mem.nth (show Mem w noEx w' _ from hS) 0 rfl) rfl (T.ev 0 rfl) rfl)) ?_; clear T ac; intro ac T
          refine g_q (T := T) (i := 4) rfl (by kernel_rfl) (by kernel_rfl : (pbits 22 15).setIfInBounds 4 true = pbits 22 31) si_U (fun _ _ _ h => h) rfl rfl rfl rfl (fun _ _ _ _ _ => (rn_move rfl (T.ev 6 rfl))) ?_; clear T ac; intro ac T
          refine g_q (T := T) (i := 5) rfl (by kernel_rfl) (by kernel_rfl : (pbits 22 31).setIfInBounds 5 true = pbits 22 63) si_U (fun _ _ _ h => h) rfl rfl rfl rfl (fun _ _ _ _ _ => (rn_move rfl (T.ev 9 rfl))) ?_; clear T ac; intro ac T
          refine g_q (T := T) (i := 6) rfl (by kernel_rfl) (by kernel_rfl : (pbits 22 63).setIfInBounds 6 true = pbits 22 127) si_U (fun _ _ _ h => h) rfl rfl rfl rfl (fun _ _ _ _ _ => (rn_indexAddr (size := 2) k rfl (T.ev 1 rfl) (T.ev 0 rfl) ⟨_, Try.underlying28, by kernel_rfl⟩ rfl (by omega) (Sur4_4.at0 (by omega)))) ?_; clear T ac; intro ac T
          refine g_q (T := T) (i := 7) rfl (by kernel_rfl) (by kernel_rfl : (pbits 22 127).setIfInBounds 7 true = pbits 22 255) si_U (fun _ _ _ h => h) rfl rfl rfl rfl (fun _ _ _ _ _ => (rn_fieldAddr (off := 1) rfl (T.ev 0 rfl) (fun _ _ _ => by kernel_rfl))) ?_; clear T ac; intro ac T
          refine g_q (T := T) (i := 8) rfl (by kernel_rfl) (by kernel_rfl : (pbits 22 255).setIfInBounds 8 true = pbits 22 511) si_U (fun _ _ _ h => h) rfl rfl rfl rfl (fun B w' hD hl hS => (rn_cell (Sp.rc1 Sur4_4 (show Mem w noEx w' _ from hS) (.cons _ (List.Sublist.refl _)) hk1) rfl (T.ev 0 rfl))) ?_; clear T ac; intro ac T
          refine g_q (T := T) (i := 9) rfl (by kernel_rfl) (by kernel_rfl : (pbits 22 511).setIfInBounds 9 true = pbits 22 1023) si_U (fun _ _ _ h => h) rfl rfl rfl rfl (fun _ _ _ _ _ => (rn_add rfl (T.ev 5 rfl) (T.ev 0 rfl) (by omega))) ?_; clear T ac; intro ac T
          refine g_q (v := (.pointer (some ⟨gr4_5, 0, none⟩))) (T := T) (i := 10) rfl (by kernel_rfl) (by kernel_rfl : (pbits 22 1023).setIfInBounds 10 true = pbits 22 2047) si_U (fun _ _ _ h => h) rfl rfl rfl rfl (fun _ _ _ _ _ => (rn_fieldAddr (off := 0) rfl (T.ev 11 rfl) (fun _ _ _ => by kernel_rfl))) ?_; clear T ac; intro ac T
          refine g_q (v := (.pointer (some ⟨gr4_5, 0, none⟩))) (T := T) (i := 11) rfl (by kernel_rfl) (by kernel_rfl : (pbits 22 2047).setIfInBounds 11 true = pbits 22 4095) si_U (fun _ _ _ h => h) rfl rfl rfl rfl (fun _ _ _ _ _ => (rn_fieldAddr (off := 0) rfl (T.ev 0 rfl) (fun _ _ _ => by kernel_rfl))) ?_; clear T ac; intro ac T
          refine g_q (T := T) (i := 12) rfl (by kernel_rfl) (by kernel_rfl : (pbits 22 4095).setIfInBounds 12 true = pbits 22 8191) si_U (fun _ _ _ h => h) rfl rfl rfl rfl (fun B w' hD hl hS => (rn_one (Mem.nth (show Mem w noEx w' _ from hS) 0 rfl) rfl (T.ev 0 rfl) rfl)) ?_; clear T ac; intro ac T
          refine g_q (T := T) (i := 13) rfl (by kernel_rfl) (by kernel_rfl : (pbits 22 8191).setIfInBounds 13 true = pbits 22 16383) si_U (fun _ _ _ h => h) rfl rfl rfl rfl (fun _ _ _ _ _ => (rn_move rfl (T.ev 15 rfl))) ?_; clear T ac; intro ac T
          refine g_q (T := T) (i := 14) rfl (by kernel_rfl) (by kernel_rfl : (pbits 22 16383).setIfInBounds 14 true = pbits 22 32767) si_U (fun _ _ _ h => h) rfl rfl rfl rfl (fun _ _ _ _ _ => (rn_move rfl (T.ev 18 rfl))) ?_; clear T ac; intro ac T
          refine g_q (T := T) (i := 15) rfl (by kernel_rfl) (by kernel_rfl : (pbits 22 32767).setIfInBounds 15 true = pbits 22 65535) si_U (fun _ _ _ h => h) rfl rfl rfl rfl (fun _ _ _ _ _ => (rn_indexAddr (size := 2) k rfl (T.ev 1 rfl) (T.ev 0 rfl) ⟨_, Try.underlying28, by kernel_rfl⟩ rfl (by omega) (Sur4_4.at0 (by omega)))) ?_; clear T ac; intro ac T
          refine g_q (T := T) (i := 16) rfl (by kernel_rfl) (by kernel_rfl : (pbits 22 65535).setIfInBounds 16 true = pbits 22 131071) si_U (fun _ _ _ h => h) rfl rfl rfl rfl (fun _ _ _ _ _ => (rn_fieldAddr (off := 0) rfl (T.ev 0 rfl) (fun _ _ _ => by kernel_rfl))) ?_; clear T ac; intro ac T
          refine g_q (T := T) (i := 17) rfl (by kernel_rfl) (by kernel_rfl : (pbits 22 131071).setIfInBounds 17 true = pbits 22 262143) si_U (fun _ _ _ h => h) rfl rfl rfl rfl (fun B w' hD hl hS => (rn_cell (Sp.rc0 Sur4_4 (show Mem w noEx w' _ from hS) (.cons _ (List.Sublist.refl _)) hk1) rfl (T.ev 0 rfl))) ?_; clear T ac; intro ac T
          refine g_q (T := T) (i := 18) rfl (by kernel_rfl) (by kernel_rfl : (pbits 22 262143).setIfInBounds 18 true = pbits 22 524287) si_U (fun _ _ _ h => h) rfl rfl rfl rfl (fun _ _ _ _ _ => (rn_add rfl (T.ev 5 rfl) (T.ev 0 rfl) (by omega))) ?_; clear T ac; intro ac T
          refine g_q (T := T) (i := 19) rfl (by kernel_rfl) (by kernel_rfl : (pbits 22 524287).setIfInBounds 19 true = pbits 22 1048575) si_U (fun _ _ _ h => h) rfl rfl rfl rfl (fun _ _ _ _ _ => (rn_neg rfl (T.ev 0 rfl) (by omega))) ?_; clear T ac; intro ac T
          refine g_q (T := T) (i := 20) rfl (by kernel_rfl) (by kernel_rfl : (pbits 22 1048575).setIfInBounds 20 true = pbits 22 2097151) si_U (fun _ _ _ h => h) rfl rfl rfl rfl (fun _ _ _ _ _ => (rn_max3 rfl (T.ev 19 rfl) (T.ev 10 rfl) (T.ev 0 rfl))) ?_; clear T ac; intro ac T
          refine g_q (v := (.int .i64 (max (max y (((j.st.after l).p1) + x1)) (-(((j.st.after l).p0) + x0))))) (T := T.pick [0, 1, 2, 3, 4, 5, 6, 7, 8, 9, 10, 11, 12, 13, 14, 15, 16, 17, 18, 19, 20, 21, 22, 23, 25] rfl) (i := 21) rfl (by kernel_rfl) (by kernel_rfl : (pbits 22 2097151).setIfInBounds 21 true = pbits 22 4194303) si_U (fun _ _ _ h => h) rfl rfl rfl rfl (fun _ _ _ _ _ => (rn_assign rfl (T.ev 0 rfl))) ?_; clear T ac; intro ac T
          refine g_done (by kernel_rfl) ?_
          replace T := T.pick [0, 23, 24, 25] rfl
          refine nm_blk ?_
          refine nm_then ?_
          refine wp_region_lit ?_
          refine l_q T rfl rfl rfl rfl (rn_move rfl (T.ev 3 rfl)) ?_; clear T ac; intro ac T
          refine l_q T rfl rfl rfl rfl (rn_add rfl (T.ev 0 rfl) evc (by omega)) ?_; clear T ac; intro ac T
          refine l_q (v := (.int .i64 ((k : Int) + 1))) (T.pick [0, 1, 2, 3, 4] rfl) rfl rfl rfl rfl (rn_assign rfl (T.ev 0 rfl)) ?_; clear T ac; intro ac T
          refine wpList_nil ?_
          replace T := T.pick [0, 3, 4, 5] rfl
          refine nm_then ?_
          exact ⟨_, by omega, k + 1, _, rfl, (by omega), H, T.pick [2, 3, 1, 0] rfl, M.mask [true] rfl⟩
        · intro h4
          rw [List.drop_of_length_le (by omega)] at H
          refine wp_exit ?_
          refine ex_then ?_
          refine ex_then ?_
          refine ex_hit ?_
          refine nm_then ?_
          refine wp_seq ?_
          refine wp_region_lit ?_
          refine l_q T rfl rfl rfl rfl (rn_move rfl (T.ev 3 rfl)) ?_; clear T ac; intro ac T
          refine l_q T rfl rfl rfl rfl (rn_assign rfl (T.ev 0 rfl)) ?_; clear T ac; intro ac T
          refine l_q T rfl rfl rfl rfl (rn_assign rfl evc) ?_; clear T ac; intro ac T
          refine wpList_nil ?_
          replace T := T.pick [0, 1] rfl
          replace M := M.mask [false] rfl
          refine nm_then ?_
          refine wp_ret ?_
          refine rt_2 T rfl (T.ev 1 rfl) (T.ev 0 rfl) ?_
          refine ⟨?_, M.below⟩
          unfold rworstT
          rw [if_pos h1, H]
          rfl

end Go.Proofs.Ythlpceoajhcliaa
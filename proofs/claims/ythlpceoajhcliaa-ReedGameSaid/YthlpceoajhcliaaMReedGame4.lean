/-
  Walks of functions, and plain laws (texts put together). No condition.
-/
import Derived.Test.YthlpceoajhcliaaMReedGame1
import Derived.Test.YthlpceoajhcliaaMReedGame2
import Derived.Test.YthlpceoajhcliaaMReedGame3

section
/-
  ref1: tongues after strokes.
-/
namespace Go.Proofs.Ythlpceoajhcliaa
set_option linter.unusedSimpArgs false
set_option linter.unusedVariables false
open Go.RowKit

def St.zero : St := ⟨0, 0, 0, 0, 0, 0, 0, 0, 0, 0, 0, 0, 0, 0, 0⟩
def afT (j : Jb) (l : List Int) : St := if checkStrokesJ j l = 0 then j.st.after l else St.zero
theorem after_up {j : Jb} (hs : j.st.upTo 1000) : ∀ (l : List Int), (j.st.after l).upTo (1000 + 100 * (l.length : Int)) := by
  have key : ∀ (l : List Int) (s : St) (m : Int), s.upTo m → (s.after l).upTo (m + 100 * (l.length : Int)) := by
    intro l
    induction l with
    | nil => intro s m h; simpa [St.after] using h
    | cons k l ih =>
      intro s m h
      have := ih (s.filed k) (m + 100) (h.filed k)
      rw [show m + 100 * ((k :: l).length : Int) = m + 100 + 100 * (l.length : Int) by simp only [List.length_cons]; omega]
      exact this
  exact fun l => key l _ _ hs
def rspoil (s : St) : Int := s.spoiled
def rfineJ (j : Jb) (l : List Int) : Int :=
  if rpass j (j.st.after l).p0 (j.st.after l).p1 = 1 ∧ (j.st.after l).spoiled = 2 then 1
  else if rpass j (j.st.after l).p0 (j.st.after l).p1 = 2 ∨ (j.st.after l).spoiled = 1 then 2 else 3
def rworstF (p0 p1 : Int) (sh : List (Int × Int)) (n : Int) : Int := sh.foldl (fun out s => max (max out (p1 + s.2)) (-(p0 + s.1))) n
def rworstT (j : Jb) (l : List Int) : Int × Int := if checkStrokesJ j l = 0 then (rworstF (j.st.after l).p0 (j.st.after l).p1 (shx j.sh) 0, 0) else (0, checkStrokesJ j l)
def rfineT (j : Jb) (l : List Int) : Int × Int := if checkStrokesJ j l = 0 then (rfineJ j l, 0) else (0, checkStrokesJ j l)


set_option maxRecDepth 100000 in
set_option maxHeartbeats 1000000 in
theorem rAfter_any (j : Jb) (A : Option Addr) (c : Nat) (D : Option Addr) (d n : Nat) (l : List Int) (w : World) (hr : Rd w w.heap.size 2 A j.sh.length (rc j.sh)) (hn : j.sh.length ≤ 9223372036854775807) (hl : Rd w w.heap.size 1 D n (ic l)) (hm : n ≤ 9223372036854775807) :
    Calls Try.prog 54 #[jobV j A c, .slice D n d] w fun e w' => e = .returned (.tuple #[.agg #[.int .i64 ((afT j l).p0), .int .i64 ((afT j l).p1), .int .i64 ((afT j l).t0), .int .i64 ((afT j l).t1), .int .i64 ((afT j l).r0), .int .i64 ((afT j l).r1)], .int .i64 (checkStrokesJ j l)]) ∧ Below w.heap.size w w' := by
  obtain ⟨bJ, oJ, SJ⟩ := Sp.old hr
  have hll := hl.len1
  obtain ⟨bI, oI, SI⟩ := Sp.old hl
  refine px_enter noEx Try.func54 rfl 17 rfl [.agg #[.int .i64 j.p0, .int .i64 j.p1, .int .i64 j.t0, .int .i64 j.t1, .int .i64 j.r0, .int .i64 j.r1, .int .i64 j.u0, .int .i64 j.u1, .int .i64 j.d0, .int .i64 j.d1, .int .i64 j.a0, .int .i64 j.a1, .int .i64 j.b0, .int .i64 j.b1, .int .i64 j.le, .slice A j.sh.length c, .int .i64 j.wi, .int .i64 j.me], .slice D n d] rfl rfl (Mem.init w _) ?_
  intro ac wc T M
  refine wp_seq ?_
  refine wp_region_lit ?_
  refine l_w rfl ?_; intro K hK
  refine ow_bx M T rfl rfl rfl rfl (T.ev 0 rfl) rfl ?_; clear M T; intro g1 wc ac M T
  refine sh_out hK _ _ ?_; clear hK K
  refine l_w rfl ?_; intro K hK
  refine ow_al M T rfl rfl rfl rfl ?_; clear M T; intro g2 wc ac M T
  refine sh_out hK _ _ ?_; clear hK K
  refine l_q T rfl rfl rfl rfl (rn_assign rfl evc) ?_; clear T ac; intro ac T
  refine wpList_nil ?_
  replace T := T.pick [1, 2, 4] rfl
  refine nm_then ?_
  refine wp_seq ?_
  refine wp_seq ?_
  refine wp_region_lit ?_
  refine l_q T rfl rfl rfl rfl (rn_rowO (Mem.nth M 1 rfl) rfl (T.ev 1 rfl) rfl) ?_; clear T ac; intro ac T
  refine l_q T rfl rfl rfl rfl (rn_move rfl (T.ev 3 rfl)) ?_; clear T ac; intro ac T
  refine l_w rfl ?_; intro K hK
  refine ow_call (first := []) (cap := []) T rfl rfl rfl rfl evf (.cons (T.ev 1 rfl) (.cons (T.ev 0 rfl) .nil)) Try.func97 rfl rfl ?_
  refine Calls.mono (rcheckStrokes_any j _ _ _ _ _ l _ (SJ.rd M (List.nil_sublist _)) (by omega) (SI.rd M (List.nil_sublist _)) (by omega)) ?_
  clear T
  rintro e wc ⟨rfl, hb⟩
  intro ac T
  replace M := M.call hb; clear hb
  refine sh_out hK _ _ ?_; clear hK K
  refine l_q T rfl rfl rfl rfl (rn_assign rfl (T.ev 0 rfl)) ?_; clear T ac; intro ac T
  refine wpList_nil ?_
  replace T := T.pick [0, 4, 5, 6] rfl
  refine nm_then ?_
  refine wp_seq ?_
  refine wp_region_lit ?_
  refine l_q T rfl rfl rfl rfl (rn_move rfl (T.ev 0 rfl)) ?_; clear T ac; intro ac T
  refine l_q T rfl rfl rfl rfl (rn_neq rfl (T.ev 0 rfl) evc) ?_; clear T ac; intro ac T
  refine wpList_nil ?_
  replace T := T.pick [0, 2, 3, 4, 5] rfl
  refine nm_then ?_
  refine wp_ifn (T.ev 0 rfl) ?_ ?_
  · intro h1
    refine wp_seq ?_
    refine wp_region_lit ?_
    refine l_q (v := (.agg #[.int .i64 0, .int .i64 0, .int .i64 0, .int .i64 0, .int .i64 0, .int .i64 0])) T rfl rfl rfl rfl (rn_build rfl .nil (fun _ => by kernel_rfl)) ?_; clear T ac; intro ac T
    refine l_q T rfl rfl rfl rfl (rn_move rfl (T.ev 2 rfl)) ?_; clear T ac; intro ac T
    refine l_w rfl ?_; intro K hK
    refine ow_stO M T rfl rfl (T.ev 4 rfl) (T.ev 1 rfl) rfl .head rfl (by simp) rfl (by kernel_rfl) ?_; clear M T; intro wc ac M T
    refine sh_out hK _ _ ?_; clear hK K
    refine l_q T rfl rfl rfl rfl (rn_assign rfl (T.ev 0 rfl)) ?_; clear T ac; intro ac T
    refine wpList_nil ?_
    replace T := T.pick [0, 5] rfl
    replace M := M.mask [true, false] rfl
    refine nm_then ?_
    refine wp_ret ?_
    refine rt_then ?_
    refine rt_ct M T rfl (T.ev 1 rfl) (T.ev 0 rfl) (nthE_mem (i := 0) rfl) rfl ?_
    refine ⟨?_, M.below⟩
    unfold afT
    first | rw [if_pos h1, h1] | rw [if_neg h1]
    try rfl
  · intro h1
    obtain ⟨hc, h6, hk⟩ := strokes_of h1
    have hj := good_of hc
    have hst := hj.st
    have hup := after_up hst l
    have hp0 := hup.p0
    have hp1 := hup.p1
    refine wp_skip ?_
    refine nm_then ?_
    refine wp_seq ?_
    refine wp_region_lit ?_
    refine l_q T rfl rfl rfl rfl (rn_rowO (Mem.nth M 1 rfl) rfl (T.ev 3 rfl) rfl) ?_; clear T ac; intro ac T
    refine l_q T rfl rfl rfl rfl (rn_move rfl (T.ev 5 rfl)) ?_; clear T ac; intro ac T
    refine l_w rfl ?_; intro K hK
    refine ow_call (first := []) (cap := []) T rfl rfl rfl rfl evf (.cons (T.ev 1 rfl) (.cons (T.ev 0 rfl) .nil)) Try.func98 rfl rfl ?_
    refine Calls.mono (rafter_any j _ _ _ _ _ l _ (SI.rd M (List.nil_sublist _)) (by omega) hst) ?_
    clear T
    rintro e wc ⟨rfl, hb⟩
    intro ac T
    replace M := M.call hb; clear hb
    refine sh_out hK _ _ ?_; clear hK K
    refine l_w rfl ?_; intro K hK
    refine ow_stO M T rfl rfl (T.ev 5 rfl) (T.ev 0 rfl) rfl .head rfl (by simp) rfl (by kernel_rfl) ?_; clear M T; intro wc ac M T
    refine sh_out hK _ _ ?_; clear hK K
    refine l_q T rfl rfl rfl rfl (rn_assign rfl evc) ?_; clear T ac; intro ac T
    refine wpList_nil ?_
    replace T := T.pick [0, 6] rfl
    replace M := M.mask [true, false] rfl
    refine nm_then ?_
    refine wp_ret ?_
    refine rt_ct M T rfl (T.ev 1 rfl) (T.ev 0 rfl) (nthE_mem (i := 0) rfl) rfl ?_
    refine ⟨?_, M.below⟩
    unfold afT
    first | rw [if_pos h1, h1] | rw [if_neg h1]
    try rfl

set_option maxRecDepth 100000 in
set_option maxHeartbeats 1000000 in
theorem rspoiled_any (s : St) (w : World)  :
    Calls Try.prog 100 #[.agg #[.int .i64 s.u0, .int .i64 s.u1, .int .i64 s.d0, .int .i64 s.d1, .int .i64 s.a0, .int .i64 s.a1, .int .i64 s.b0, .int .i64 s.b1, .int .i64 s.le], .agg #[.int .i64 s.p0, .int .i64 s.p1, .int .i64 s.t0, .int .i64 s.t1, .int .i64 s.r0, .int .i64 s.r1]] w fun e w' => e = .returned (.int .i64 s.spoiled) ∧ Below w.heap.size w w' := by
  refine px_enter noEx Try.func100 rfl 35 rfl [.agg #[.int .i64 s.u0, .int .i64 s.u1, .int .i64 s.d0, .int .i64 s.d1, .int .i64 s.a0, .int .i64 s.a1, .int .i64 s.b0, .int .i64 s.b1, .int .i64 s.le], .agg #[.int .i64 s.p0, .int .i64 s.p1, .int .i64 s.t0, .int .i64 s.t1, .int .i64 s.r0, .int .i64 s.r1]] rfl rfl (Mem.init w _) ?_
  intro ac wc T M
  refine wp_seq ?_
  refine wp_region_lit ?_
  refine l_w rfl ?_; intro K hK
  refine ow_bx M T rfl rfl rfl rfl (T.ev 0 rfl) rfl ?_; clear M T; intro g1 wc ac M T
  refine sh_out hK _ _ ?_; clear hK K
  refine l_w rfl ?_; intro K hK
  refine ow_bx M T rfl rfl rfl rfl (T.ev 2 rfl) rfl ?_; clear M T; intro g2 wc ac M T
  refine sh_out hK _ _ ?_; clear hK K
  refine l_q T rfl rfl rfl rfl (rn_assign rfl evc) ?_; clear T ac; intro ac T
  refine wpList_nil ?_
  replace T := T.pick [1, 2] rfl
  refine nm_then ?_
  refine wp_seq ?_
  refine wp_block ?_
  refine cut_seq (fun ac wc => Tm ac 35 [(2, .pointer (some ⟨g1, 0, none⟩)), (3, .pointer (some ⟨g2, 0, none⟩)), (5, .bool ((decide (s.t1 < s.le)) || (decide (s.r1 < s.le))))] ∧ Mem w noEx wc [(g2, .cells [.int .i64 s.p0, .int .i64 s.p1, .int .i64 s.t0, .int .i64 s.t1, .int .i64 s.r0, .int .i64 s.r1]), (g1, .cells [.int .i64 s.u0, .int .i64 s.u1, .int .i64 s.d0, .int .i64 s.d1, .int .i64 s.a0, .int .i64 s.a1, .int .i64 s.b0, .int .i64 s.b1, .int .i64 s.le])]) ?_ ?_
  · refine wp_region_lit ?_
    refine l_q (v := (.pointer (some ⟨g2, 2, none⟩))) T rfl rfl rfl rfl (rn_fieldAddr (off := 2) rfl (T.ev 0 rfl) (fun _ _ _ => by kernel_rfl)) ?_; clear T ac; intro ac T
    refine l_q (v := (.pointer (some ⟨g2, 3, none⟩))) T rfl rfl rfl rfl (rn_fieldAddr (off := 1) rfl (T.ev 0 rfl) (fun _ _ _ => by kernel_rfl)) ?_; clear T ac; intro ac T
    refine l_q T rfl rfl rfl rfl (rn_one (Mem.nth M 0 rfl) rfl (T.ev 0 rfl) rfl) ?_; clear T ac; intro ac T
    refine l_q (v := (.pointer (some ⟨g1, 8, none⟩))) T rfl rfl rfl rfl (rn_fieldAddr (off := 8) rfl (T.ev 4 rfl) (fun _ _ _ => by kernel_rfl)) ?_; clear T ac; intro ac T
    refine l_q T rfl rfl rfl rfl (rn_one (Mem.nth M 1 rfl) rfl (T.ev 0 rfl) rfl) ?_; clear T ac; intro ac T
    refine l_q T rfl rfl rfl rfl (rn_lss rfl (T.ev 2 rfl) (T.ev 0 rfl)) ?_; clear T ac; intro ac T
    refine l_q T rfl rfl rfl rfl (rn_move rfl (T.ev 0 rfl)) ?_; clear T ac; intro ac T
    rcases Bool.eq_false_or_eq_true (decide (s.t1 < s.le)) with h1 | h1
    · replace h1 := of_decide_eq_true h1
      refine l_pass T (wanted_no rfl rfl (T.ev 0 rfl) (decide_eq_true h1)) rfl rfl rfl ?_; clear T ac; intro ac T
      refine l_pass T (wanted_no rfl rfl (T.ev 1 rfl) (decide_eq_true h1)) rfl rfl rfl ?_; clear T ac; intro ac T
      refine l_pass T (wanted_no rfl rfl (T.ev 2 rfl) (decide_eq_true h1)) rfl rfl rfl ?_; clear T ac; intro ac T
      refine l_pass T (wanted_no rfl rfl (T.ev 3 rfl) (decide_eq_true h1)) rfl rfl rfl ?_; clear T ac; intro ac T
      refine l_pass T (wanted_no rfl rfl (T.ev 4 rfl) (decide_eq_true h1)) rfl rfl rfl ?_; clear T ac; intro ac T
      refine l_pass T (wanted_no rfl rfl (T.ev 5 rfl) (decide_eq_true h1)) rfl rfl rfl ?_; clear T ac; intro ac T
      refine l_q T rfl rfl rfl rfl (rn_pick1 rfl (T.ev 6 rfl) (decide_eq_true h1) evc) ?_; clear T ac; intro ac T
      refine l_q T rfl rfl rfl rfl (rn_assign rfl (T.ev 0 rfl)) ?_; clear T ac; intro ac T
      refine wpList_nil ?_
      replace T := T.pick [0, 15, 16] rfl
      exact ⟨(T.pick (E' := [(2, .pointer (some ⟨g1, 0, none⟩)), (3, .pointer (some ⟨g2, 0, none⟩)), (5, .bool true)]) [2, 1, 0] rfl).as (by (try rw [show (decide (s.t1 < s.le)) = true from (decide_eq_true h1)]); rfl), M.mask [true, true] rfl⟩
    · replace h1 := of_decide_eq_false h1
      refine l_q (v := (.pointer (some ⟨g2, 4, none⟩))) T (wanted_yes rfl rfl (T.ev 0 rfl) (decide_eq_false h1)) rfl rfl rfl (rn_fieldAddr (off := 4) rfl (T.ev 7 rfl) (fun _ _ _ => by kernel_rfl)) ?_; clear T ac; intro ac T
      refine l_q (v := (.pointer (some ⟨g2, 5, none⟩))) T (wanted_yes rfl rfl (T.ev 1 rfl) (decide_eq_false h1)) rfl rfl rfl (rn_fieldAddr (off := 1) rfl (T.ev 0 rfl) (fun _ _ _ => by kernel_rfl)) ?_; clear T ac; intro ac T
      refine l_q T (wanted_yes rfl rfl (T.ev 2 rfl) (decide_eq_false h1)) rfl rfl rfl (rn_one (Mem.nth M 0 rfl) rfl (T.ev 0 rfl) rfl) ?_; clear T ac; intro ac T
      refine l_q (v := (.pointer (some ⟨g1, 8, none⟩))) T (wanted_yes rfl rfl (T.ev 3 rfl) (decide_eq_false h1)) rfl rfl rfl (rn_fieldAddr (off := 8) rfl (T.ev 11 rfl) (fun _ _ _ => by kernel_rfl)) ?_; clear T ac; intro ac T
      refine l_q T (wanted_yes rfl rfl (T.ev 4 rfl) (decide_eq_false h1)) rfl rfl rfl (rn_one (Mem.nth M 1 rfl) rfl (T.ev 0 rfl) rfl) ?_; clear T ac; intro ac T
      refine l_q T (wanted_yes rfl rfl (T.ev 5 rfl) (decide_eq_false h1)) rfl rfl rfl (rn_lss rfl (T.ev 2 rfl) (T.ev 0 rfl)) ?_; clear T ac; intro ac T
      refine l_q T rfl rfl rfl rfl (rn_pick0 rfl (T.ev 6 rfl) (decide_eq_false h1) (T.ev 0 rfl)) ?_; clear T ac; intro ac T
      refine l_q T rfl rfl rfl rfl (rn_assign rfl (T.ev 0 rfl)) ?_; clear T ac; intro ac T
      refine wpList_nil ?_
      replace T := T.pick [0, 15, 16] rfl
      exact ⟨(T.pick (E' := [(2, .pointer (some ⟨g1, 0, none⟩)), (3, .pointer (some ⟨g2, 0, none⟩)), (5, .bool (decide (s.r1 < s.le)))]) [2, 1, 0] rfl).as (by (try rw [show (decide (s.t1 < s.le)) = false from (decide_eq_false h1)]); rfl), M.mask [true, true] rfl⟩
  · clear T M
    rintro ac wc ⟨T, M⟩
    refine wp_cond_split (T.ev 2 rfl) ?_ ?_
    · intro h2
      (try have h2' := h2; try simp only [Bool.and_eq_true, Bool.or_eq_true, Bool.not_eq_true', Bool.and_eq_false_imp, Bool.or_eq_false_iff, decide_eq_true_eq, decide_eq_false_iff_not] at h2')
      refine wp_seq ?_
      refine wp_region_lit ?_
      refine l_q T rfl rfl rfl rfl (rn_assign rfl evc) ?_; clear T ac; intro ac T
      refine wpList_nil ?_
      replace T := T.pick [0] rfl
      replace M := M.mask [false, false] rfl
      refine nm_then ?_
      refine wp_ret ?_
      refine rt_blk ?_
      refine rt_then ?_
      refine rt_1 T rfl (T.ev 0 rfl) ?_
      refine ⟨ret_int ?_, M.below⟩
      unfold St.spoiled
      (repeat' split) <;> first | rfl | omega | contradiction | (simp_all; done) | (simp_all; omega)
    · intro h2
      (try have h2' := h2; try simp only [Bool.and_eq_true, Bool.or_eq_true, Bool.not_eq_true', Bool.and_eq_false_imp, Bool.or_eq_false_iff, decide_eq_true_eq, decide_eq_false_iff_not] at h2')
      refine cut_seq (fun ac wc => Tm ac 35 [(20, .bool ((decide (s.le ≤ s.t0)) && (decide (s.le ≤ s.r0))))] ∧ Mem w noEx wc []) ?_ ?_
      · refine wp_region_lit ?_
        refine l_q (v := (.pointer (some ⟨g2, 2, none⟩))) T rfl rfl rfl rfl (rn_fieldAddr (off := 2) rfl (T.ev 1 rfl) (fun _ _ _ => by kernel_rfl)) ?_; clear T ac; intro ac T
        refine l_q (v := (.pointer (some ⟨g2, 2, none⟩))) T rfl rfl rfl rfl (rn_fieldAddr (off := 0) rfl (T.ev 0 rfl) (fun _ _ _ => by kernel_rfl)) ?_; clear T ac; intro ac T
        refine l_q T rfl rfl rfl rfl (rn_one (Mem.nth M 0 rfl) rfl (T.ev 0 rfl) rfl) ?_; clear T ac; intro ac T
        refine l_q (v := (.pointer (some ⟨g1, 8, none⟩))) T rfl rfl rfl rfl (rn_fieldAddr (off := 8) rfl (T.ev 3 rfl) (fun _ _ _ => by kernel_rfl)) ?_; clear T ac; intro ac T
        refine l_q T rfl rfl rfl rfl (rn_one (Mem.nth M 1 rfl) rfl (T.ev 0 rfl) rfl) ?_; clear T ac; intro ac T
        refine l_q T rfl rfl rfl rfl (rn_geq rfl (T.ev 2 rfl) (T.ev 0 rfl)) ?_; clear T ac; intro ac T
        refine l_q T rfl rfl rfl rfl (rn_move rfl (T.ev 0 rfl)) ?_; clear T ac; intro ac T
        rcases Bool.eq_false_or_eq_true (decide (s.le ≤ s.t0)) with h3 | h3
        · replace h3 := of_decide_eq_true h3
          refine l_q (v := (.pointer (some ⟨g2, 4, none⟩))) T (wanted_yes rfl rfl (T.ev 0 rfl) (decide_eq_true h3)) rfl rfl rfl (rn_fieldAddr (off := 4) rfl (T.ev 8 rfl) (fun _ _ _ => by kernel_rfl)) ?_; clear T ac; intro ac T
          refine l_q (v := (.pointer (some ⟨g2, 4, none⟩))) T (wanted_yes rfl rfl (T.ev 1 rfl) (decide_eq_true h3)) rfl rfl rfl (rn_fieldAddr (off := 0) rfl (T.ev 0 rfl) (fun _ _ _ => by kernel_rfl)) ?_; clear T ac; intro ac T
          refine l_q T (wanted_yes rfl rfl (T.ev 2 rfl) (decide_eq_true h3)) rfl rfl rfl (rn_one (Mem.nth M 0 rfl) rfl (T.ev 0 rfl) rfl) ?_; clear T ac; intro ac T
          refine l_q (v := (.pointer (some ⟨g1, 8, none⟩))) T (wanted_yes rfl rfl (T.ev 3 rfl) (decide_eq_true h3)) rfl rfl rfl (rn_fieldAddr (off := 8) rfl (T.ev 10 rfl) (fun _ _ _ => by kernel_rfl)) ?_; clear T ac; intro ac T
          refine l_q T (wanted_yes rfl rfl (T.ev 4 rfl) (decide_eq_true h3)) rfl rfl rfl (rn_one (Mem.nth M 1 rfl) rfl (T.ev 0 rfl) rfl) ?_; clear T ac; intro ac T
          refine l_q T (wanted_yes rfl rfl (T.ev 5 rfl) (decide_eq_true h3)) rfl rfl rfl (rn_geq rfl (T.ev 2 rfl) (T.ev 0 rfl)) ?_; clear T ac; intro ac T
          refine l_q T rfl rfl rfl rfl (rn_pick1 rfl (T.ev 6 rfl) (decide_eq_true h3) (T.ev 0 rfl)) ?_; clear T ac; intro ac T
          refine l_q T rfl rfl rfl rfl (rn_assign rfl (T.ev 0 rfl)) ?_; clear T ac; intro ac T
          refine wpList_nil ?_
          replace T := T.pick [0] rfl
          replace M := M.mask [false, false] rfl
          exact ⟨(T.pick (E' := [(20, .bool (decide (s.le ≤ s.r0)))]) [0] rfl).as (by (try rw [show (decide (s.le ≤ s.t0)) = true from (decide_eq_true h3)]); rfl), M.mask [] rfl⟩
        · replace h3 := of_decide_eq_false h3
          refine l_pass T (wanted_no rfl rfl (T.ev 0 rfl) (decide_eq_false h3)) rfl rfl rfl ?_; clear T ac; intro ac T
          refine l_pass T (wanted_no rfl rfl (T.ev 1 rfl) (decide_eq_false h3)) rfl rfl rfl ?_; clear T ac; intro ac T
          refine l_pass T (wanted_no rfl rfl (T.ev 2 rfl) (decide_eq_false h3)) rfl rfl rfl ?_; clear T ac; intro ac T
          refine l_pass T (wanted_no rfl rfl (T.ev 3 rfl) (decide_eq_false h3)) rfl rfl rfl ?_; clear T ac; intro ac T
          refine l_pass T (wanted_no rfl rfl (T.ev 4 rfl) (decide_eq_false h3)) rfl rfl rfl ?_; clear T ac; intro ac T
          refine l_pass T (wanted_no rfl rfl (T.ev 5 rfl) (decide_eq_false h3)) rfl rfl rfl ?_; clear T ac; intro ac T
          refine l_q T rfl rfl rfl rfl (rn_pick0 rfl (T.ev 6 rfl) (decide_eq_false h3) evc) ?_; clear T ac; intro ac T
          refine l_q T rfl rfl rfl rfl (rn_assign rfl (T.ev 0 rfl)) ?_; clear T ac; intro ac T
          refine wpList_nil ?_
          replace T := T.pick [0] rfl
          replace M := M.mask [false, false] rfl
          exact ⟨(T.pick (E' := [(20, .bool false)]) [0] rfl).as (by (try rw [show (decide (s.le ≤ s.t0)) = false from (decide_eq_false h3)]); rfl), M.mask [] rfl⟩
      · clear T M
        rintro ac wc ⟨T, M⟩
        refine wp_cond_split (T.ev 0 rfl) ?_ ?_
        · intro h4
          (try have h4' := h4; try simp only [Bool.and_eq_true, Bool.or_eq_true, Bool.not_eq_true', Bool.and_eq_false_imp, Bool.or_eq_false_iff, decide_eq_true_eq, decide_eq_false_iff_not] at h4')
          refine wp_seq ?_
          refine wp_region_lit ?_
          refine l_q T rfl rfl rfl rfl (rn_assign rfl evc) ?_; clear T ac; intro ac T
          refine wpList_nil ?_
          replace T := T.pick [0] rfl
          refine nm_then ?_
          refine wp_ret ?_
          refine rt_blk ?_
          refine rt_then ?_
          refine rt_1 T rfl (T.ev 0 rfl) ?_
          refine ⟨ret_int ?_, M.below⟩
          unfold St.spoiled
          (repeat' split) <;> first | rfl | omega | contradiction | (simp_all; done) | (simp_all; omega)
        · intro h4
          (try have h4' := h4; try simp only [Bool.and_eq_true, Bool.or_eq_true, Bool.not_eq_true', Bool.and_eq_false_imp, Bool.or_eq_false_iff, decide_eq_true_eq, decide_eq_false_iff_not] at h4')
          refine wp_skip ?_
          refine nm_blk ?_
          refine nm_then ?_
          refine wp_seq ?_
          refine wp_region_lit ?_
          refine l_q T rfl rfl rfl rfl (rn_assign rfl evc) ?_; clear T ac; intro ac T
          refine wpList_nil ?_
          replace T := T.pick [0] rfl
          refine nm_then ?_
          refine wp_ret ?_
          refine rt_1 T rfl (T.ev 0 rfl) ?_
          refine ⟨ret_int ?_, M.below⟩
          unfold St.spoiled
          (repeat' split) <;> first | rfl | omega | contradiction | (simp_all; done) | (simp_all; omega)

theorem rspoiled_of {s : St} {j : Jb} (h : FileOf s j) (w : World) : Calls Try.prog 100 #[.agg #[.int .i64 j.u0, .int .i64 j.u1, .int .i64 j.d0, .int .i64 j.d1, .int .i64 j.a0, .int .i64 j.a1, .int .i64 j.b0, .int .i64 j.b1, .int .i64 j.le], .agg #[.int .i64 s.p0, .int .i64 s.p1, .int .i64 s.t0, .int .i64 s.t1, .int .i64 s.r0, .int .i64 s.r1]] w fun e w' => e = .returned (.int .i64 s.spoiled) ∧ Below w.heap.size w w' := by
  have := rspoiled_any s w
  rw [← file_eq h] at this
  exact this

set_option maxRecDepth 100000 in
set_option maxHeartbeats 1000000 in
theorem rSpoiled_any (j : Jb) (A : Option Addr) (c : Nat) (D : Option Addr) (d n : Nat) (l : List Int) (w : World) (hr : Rd w w.heap.size 2 A j.sh.length (rc j.sh)) (hn : j.sh.length ≤ 9223372036854775807) (hl : Rd w w.heap.size 1 D n (ic l)) (hm : n ≤ 9223372036854775807) :
    Calls Try.prog 56 #[jobV j A c, .slice D n d] w fun e w' => e = .returned (.tuple #[.int .i64 ((spoiledT j l).1), .int .i64 ((spoiledT j l).2)]) ∧ Below w.heap.size w w' := by
  obtain ⟨bJ, oJ, SJ⟩ := Sp.old hr
  have hll := hl.len1
  obtain ⟨bI, oI, SI⟩ := Sp.old hl
  refine px_enter noEx Try.func56 rfl 19 rfl [.agg #[.int .i64 j.p0, .int .i64 j.p1, .int .i64 j.t0, .int .i64 j.t1, .int .i64 j.r0, .int .i64 j.r1, .int .i64 j.u0, .int .i64 j.u1, .int .i64 j.d0, .int .i64 j.d1, .int .i64 j.a0, .int .i64 j.a1, .int .i64 j.b0, .int .i64 j.b1, .int .i64 j.le, .slice A j.sh.length c, .int .i64 j.wi, .int .i64 j.me], .slice D n d] rfl rfl (Mem.init w _) ?_
  intro ac wc T M
  refine wp_seq ?_
  refine wp_region_lit ?_
  refine l_w rfl ?_; intro K hK
  refine ow_bx M T rfl rfl rfl rfl (T.ev 0 rfl) rfl ?_; clear M T; intro g1 wc ac M T
  refine sh_out hK _ _ ?_; clear hK K
  refine l_q T rfl rfl rfl rfl (rn_assign rfl evc) ?_; clear T ac; intro ac T
  refine l_q T rfl rfl rfl rfl (rn_assign rfl evc) ?_; clear T ac; intro ac T
  refine wpList_nil ?_
  replace T := T.pick [2, 4] rfl
  refine nm_then ?_
  refine wp_seq ?_
  refine wp_seq ?_
  refine wp_region_lit ?_
  refine l_q T rfl rfl rfl rfl (rn_rowO (Mem.nth M 0 rfl) rfl (T.ev 0 rfl) rfl) ?_; clear T ac; intro ac T
  refine l_q T rfl rfl rfl rfl (rn_move rfl (T.ev 2 rfl)) ?_; clear T ac; intro ac T
  refine l_w rfl ?_; intro K hK
  refine ow_call (first := []) (cap := []) T rfl rfl rfl rfl evf (.cons (T.ev 1 rfl) (.cons (T.ev 0 rfl) .nil)) Try.func97 rfl rfl ?_
  refine Calls.mono (rcheckStrokes_any j _ _ _ _ _ l _ (SJ.rd M (List.nil_sublist _)) (by omega) (SI.rd M (List.nil_sublist _)) (by omega)) ?_
  clear T
  rintro e wc ⟨rfl, hb⟩
  intro ac T
  replace M := M.call hb; clear hb
  refine sh_out hK _ _ ?_; clear hK K
  refine l_q T rfl rfl rfl rfl (rn_assign rfl (T.ev 0 rfl)) ?_; clear T ac; intro ac T
  refine wpList_nil ?_
  replace T := T.pick [0, 4, 5] rfl
  refine nm_then ?_
  refine wp_seq ?_
  refine wp_region_lit ?_
  refine l_q T rfl rfl rfl rfl (rn_move rfl (T.ev 0 rfl)) ?_; clear T ac; intro ac T
  refine l_q T rfl rfl rfl rfl (rn_neq rfl (T.ev 0 rfl) evc) ?_; clear T ac; intro ac T
  refine wpList_nil ?_
  replace T := T.pick [0, 2, 3, 4] rfl
  refine nm_then ?_
  refine wp_ifn (T.ev 0 rfl) ?_ ?_
  · intro h1
    refine wp_seq ?_
    refine wp_region_lit ?_
    refine l_q T rfl rfl rfl rfl (rn_move rfl (T.ev 1 rfl)) ?_; clear T ac; intro ac T
    refine l_q T rfl rfl rfl rfl (rn_assign rfl evc) ?_; clear T ac; intro ac T
    refine l_q T rfl rfl rfl rfl (rn_assign rfl (T.ev 1 rfl)) ?_; clear T ac; intro ac T
    refine wpList_nil ?_
    replace T := T.pick [0, 1] rfl
    replace M := M.mask [false] rfl
    refine nm_then ?_
    refine wp_ret ?_
    refine rt_then ?_
    refine rt_2 T rfl (T.ev 1 rfl) (T.ev 0 rfl) ?_
    refine ⟨?_, M.below⟩
    unfold spoiledT
    first | rw [if_pos h1] | rw [if_neg h1]
    try rw [h1]
    try rfl
  · intro h1
    obtain ⟨hc, h6, hk⟩ := strokes_of h1
    have hj := good_of hc
    have hst := hj.st
    have hup := after_up hst l
    have hp0 := hup.p0
    have hp1 := hup.p1
    refine wp_skip ?_
    refine nm_then ?_
    refine wp_seq ?_
    refine g_start2 M (M.mask [true] rfl) 8 (by kernel_rfl) rfl (by kernel_rfl) ?_
    clear M; intro wc M
    refine g_q (v := (.pointer (some ⟨g1, 6, none⟩))) (T := T) (i := 0) rfl (by kernel_rfl) (by kernel_rfl : (pbits 8 0).setIfInBounds 0 true = pbits 8 1) si_U (fun _ _ _ h => h) rfl rfl rfl rfl (fun _ _ _ _ _ => (rn_fieldAddr (off := 6) rfl (T.ev 2 rfl) (fun _ _ _ => by kernel_rfl))) ?_; clear T ac; intro ac T
    refine g_q (T := T) (i := 1) rfl (by kernel_rfl) (by kernel_rfl : (pbits 8 1).setIfInBounds 1 true = pbits 8 3) si_U (fun _ _ _ h => h) rfl rfl rfl rfl (fun B w' hD hl hS => (rn_rowO (Mem.nth (show Mem w noEx w' _ from hS) 0 rfl) rfl (T.ev 0 rfl) rfl)) ?_; clear T ac; intro ac T
    refine g_q (T := T) (i := 2) rfl (by kernel_rfl) (by kernel_rfl : (pbits 8 3).setIfInBounds 2 true = pbits 8 7) si_U (fun _ _ _ h => h) rfl rfl rfl rfl (fun B w' hD hl hS => (rn_rowO (Mem.nth (show Mem w noEx w' _ from hS) 0 rfl) rfl (T.ev 4 rfl) rfl)) ?_; clear T ac; intro ac T
    refine g_q (T := T) (i := 3) rfl (by kernel_rfl) (by kernel_rfl : (pbits 8 7).setIfInBounds 3 true = pbits 8 15) si_U (fun _ _ _ h => h) rfl rfl rfl rfl (fun _ _ _ _ _ => (rn_move rfl (T.ev 6 rfl))) ?_; clear T ac; intro ac T
    refine g_w (i := 4) (by kernel_rfl) rfl (by kernel_rfl : (pbits 8 15).setIfInBounds 4 true = pbits 8 31) rfl ?_; intro K hK
    refine ow_call (first := []) (cap := []) T rfl rfl rfl rfl evf (.cons (T.ev 1 rfl) (.cons (T.ev 0 rfl) .nil)) Try.func98 rfl rfl ?_
    refine Calls.mono (rafter_any j _ _ _ _ _ l _ (SI.rd M (List.nil_sublist _)) (by omega) hst) ?_
    clear T
    rintro e wc ⟨rfl, hb⟩
    intro ac T
    replace M := M.call hb; clear hb
    refine sh_out hK _ _ (M.mask [true] rfl) ?_; clear hK K
    refine g_w (i := 5) (by kernel_rfl) rfl (by kernel_rfl : (pbits 8 31).setIfInBounds 5 true = pbits 8 63) rfl ?_; intro K hK
    refine ow_call (first := []) (cap := []) T rfl rfl rfl rfl evf (.cons (T.ev 3 rfl) (.cons (T.ev 0 rfl) .nil)) Try.func100 rfl rfl ?_
    refine Calls.mono (rspoiled_of (s := j.st.after l) (j := j) (FileOf.after l (FileOf.of j)) _) ?_
    clear T
    rintro e wc ⟨rfl, hb⟩
    intro ac T
    replace M := M.call hb; clear hb
    refine sh_out hK _ _ (M.mask [true] rfl) ?_; clear hK K
    refine g_q (T := T) (i := 6) rfl (by kernel_rfl) (by kernel_rfl : (pbits 8 63).setIfInBounds 6 true = pbits 8 127) si_U (fun _ _ _ h => h) rfl rfl rfl rfl (fun _ _ _ _ _ => (rn_assign rfl (T.ev 0 rfl))) ?_; clear T ac; intro ac T
    refine g_q (T := T) (i := 7) rfl (by kernel_rfl) (by kernel_rfl : (pbits 8 127).setIfInBounds 7 true = pbits 8 255) si_U (fun _ _ _ h => h) rfl rfl rfl rfl (fun _ _ _ _ _ => (rn_assign rfl evc)) ?_; clear T ac; intro ac T
    refine g_done (by kernel_rfl) ?_
    replace T := T.pick [0, 1] rfl
    replace M := M.mask [false] rfl
    refine nm_then ?_
    refine wp_ret ?_
    refine rt_2 T rfl (T.ev 1 rfl) (T.ev 0 rfl) ?_
    refine ⟨?_, M.below⟩
    unfold spoiledT
    first | rw [if_pos h1] | rw [if_neg h1]
    try rw [h1]
    try rfl

set_option maxRecDepth 100000 in
set_option maxHeartbeats 1000000 in
theorem rfine_any (j : Jb) (A : Option Addr) (c : Nat) (D : Option Addr) (d n : Nat) (l : List Int) (w : World) (hj : j.good) (hr : Rd w w.heap.size 2 A j.sh.length (rc j.sh)) (hl : Rd w w.heap.size 1 D n (ic l)) (hm : n ≤ 20) :
    Calls Try.prog 70 #[jobV j A c, .slice D n d] w fun e w' => e = .returned (.int .i64 (rfineJ j l)) ∧ Below w.heap.size w w' := by
  obtain ⟨bJ, oJ, SJ⟩ := Sp.old hr
  have hll := hl.len1
  obtain ⟨bI, oI, SI⟩ := Sp.old hl
  have hst := hj.st
  have hup := after_up hst l
  have hp0 := hup.p0
  have hp1 := hup.p1
  refine px_enter noEx Try.func70 rfl 33 rfl [.agg #[.int .i64 j.p0, .int .i64 j.p1, .int .i64 j.t0, .int .i64 j.t1, .int .i64 j.r0, .int .i64 j.r1, .int .i64 j.u0, .int .i64 j.u1, .int .i64 j.d0, .int .i64 j.d1, .int .i64 j.a0, .int .i64 j.a1, .int .i64 j.b0, .int .i64 j.b1, .int .i64 j.le, .slice A j.sh.length c, .int .i64 j.wi, .int .i64 j.me], .slice D n d] rfl rfl (Mem.init w _) ?_
  intro ac wc T M
  refine wp_seq ?_
  refine wp_region_lit ?_
  refine l_w rfl ?_; intro K hK
  refine ow_bx M T rfl rfl rfl rfl (T.ev 0 rfl) rfl ?_; clear M T; intro g1 wc ac M T
  refine sh_out hK _ _ ?_; clear hK K
  refine l_q T rfl rfl rfl rfl (rn_assign rfl evc) ?_; clear T ac; intro ac T
  refine wpList_nil ?_
  replace T := T.pick [1, 3] rfl
  refine nm_then ?_
  refine wp_seq ?_
  refine wp_region_lit ?_
  refine l_q T rfl rfl rfl rfl (rn_rowO (Mem.nth M 0 rfl) rfl (T.ev 0 rfl) rfl) ?_; clear T ac; intro ac T
  refine l_q T rfl rfl rfl rfl (rn_move rfl (T.ev 2 rfl)) ?_; clear T ac; intro ac T
  refine l_w rfl ?_; intro K hK
  refine ow_call (first := []) (cap := []) T rfl rfl rfl rfl evf (.cons (T.ev 1 rfl) (.cons (T.ev 0 rfl) .nil)) Try.func98 rfl rfl ?_
  refine Calls.mono (rafter_any j _ _ _ _ _ l _ (SI.rd M (List.nil_sublist _)) (by omega) hst) ?_
  clear T
  rintro e wc ⟨rfl, hb⟩
  intro ac T
  replace M := M.call hb; clear hb
  refine sh_out hK _ _ ?_; clear hK K
  refine l_w rfl ?_; intro K hK
  refine ow_al M T rfl rfl rfl rfl ?_; clear M T; intro g2 wc ac M T
  refine sh_out hK _ _ ?_; clear hK K
  refine l_w rfl ?_; intro K hK
  refine ow_stO M T rfl rfl (T.ev 0 rfl) (T.ev 1 rfl) rfl .head rfl (by simp) rfl (by kernel_rfl) ?_; clear M T; intro wc ac M T
  refine sh_out hK _ _ ?_; clear hK K
  refine wpList_nil ?_
  replace T := T.pick [0, 4] rfl
  refine nm_then ?_
  refine wp_seq ?_
  refine g_start2 M (M.mask [true, true] rfl) 10 (by kernel_rfl) rfl (by kernel_rfl) ?_
  clear M; intro wc M
  refine g_q (T := T) (i := 0) rfl (by kernel_rfl) (by kernel_rfl : (pbits 10 0).setIfInBounds 0 true = pbits 10 1) si_U (fun _ _ _ h => h) rfl rfl rfl rfl (fun B w' hD hl hS => (rn_rowO (Mem.nth (show Mem w noEx w' _ from hS) 1 rfl) rfl (T.ev 1 rfl) rfl)) ?_; clear T ac; intro ac T
  refine g_q (v := (.pointer (some ⟨g2, 0, none⟩))) (T := T) (i := 1) rfl (by kernel_rfl) (by kernel_rfl : (pbits 10 1).setIfInBounds 1 true = pbits 10 3) si_U (fun _ _ _ h => h) rfl rfl rfl rfl (fun _ _ _ _ _ => (rn_fieldAddr (off := 0) rfl (T.ev 1 rfl) (fun _ _ _ => by kernel_rfl))) ?_; clear T ac; intro ac T
  refine g_q (T := T) (i := 2) rfl (by kernel_rfl) (by kernel_rfl : (pbits 10 3).setIfInBounds 2 true = pbits 10 7) si_U (fun _ _ _ h => h) rfl rfl rfl rfl (fun B w' hD hl hS => (rn_rowO (Mem.nth (show Mem w noEx w' _ from hS) 0 rfl) rfl (T.ev 0 rfl) rfl)) ?_; clear T ac; intro ac T
  refine g_q (v := (.pointer (some ⟨g1, 6, none⟩))) (T := T) (i := 4) rfl (by kernel_rfl) (by kernel_rfl : (pbits 10 7).setIfInBounds 4 true = pbits 10 23) si_U (fun _ _ _ h => h) rfl rfl rfl rfl (fun _ _ _ _ _ => (rn_fieldAddr (off := 6) rfl (T.ev 4 rfl) (fun _ _ _ => by kernel_rfl))) ?_; clear T ac; intro ac T
  refine g_q (T := T) (i := 5) rfl (by kernel_rfl) (by kernel_rfl : (pbits 10 23).setIfInBounds 5 true = pbits 10 55) si_U (fun _ _ _ h => h) rfl rfl rfl rfl (fun B w' hD hl hS => (rn_rowO (Mem.nth (show Mem w noEx w' _ from hS) 1 rfl) rfl (T.ev 0 rfl) rfl)) ?_; clear T ac; intro ac T
  refine g_q (T := T) (i := 6) rfl (by kernel_rfl) (by kernel_rfl : (pbits 10 55).setIfInBounds 6 true = pbits 10 119) si_U (fun _ _ _ h => h) rfl rfl rfl rfl (fun B w' hD hl hS => (rn_rowO (Mem.nth (show Mem w noEx w' _ from hS) 0 rfl) rfl (T.ev 5 rfl) rfl)) ?_; clear T ac; intro ac T
  refine g_w (i := 3) (by kernel_rfl) rfl (by kernel_rfl : (pbits 10 119).setIfInBounds 3 true = pbits 10 127) rfl ?_; intro K hK
  refine ow_call (first := []) (cap := []) T rfl rfl rfl rfl evf (.cons (T.ev 5 rfl) (.cons (T.ev 3 rfl) .nil)) Try.func89 rfl rfl ?_
  refine Calls.mono (rpasses_any j _ _ ((j.st.after l).p0) ((j.st.after l).p1) _ (by assumption) (SJ.rd M (List.nil_sublist _)) (by omega) (by omega)) ?_
  clear T
  rintro e wc ⟨rfl, hb⟩
  intro ac T
  replace M := M.call hb; clear hb
  refine sh_out hK _ _ (M.mask [true, true] rfl) ?_; clear hK K
  refine g_w (i := 7) (by kernel_rfl) rfl (by kernel_rfl : (pbits 10 127).setIfInBounds 7 true = pbits 10 255) rfl ?_; intro K hK
  refine ow_call (first := []) (cap := []) T rfl rfl rfl rfl evf (.cons (T.ev 2 rfl) (.cons (T.ev 1 rfl) .nil)) Try.func100 rfl rfl ?_
  refine Calls.mono (rspoiled_of (s := j.st.after l) (j := j) (FileOf.after l (FileOf.of j)) _) ?_
  clear T
  rintro e wc ⟨rfl, hb⟩
  intro ac T
  replace M := M.call hb; clear hb
  refine sh_out hK _ _ (M.mask [true, true] rfl) ?_; clear hK K
  refine g_q (T := T) (i := 8) rfl (by kernel_rfl) (by kernel_rfl : (pbits 10 255).setIfInBounds 8 true = pbits 10 511) si_U (fun _ _ _ h => h) rfl rfl rfl rfl (fun _ _ _ _ _ => (rn_assign rfl (T.ev 1 rfl))) ?_; clear T ac; intro ac T
  refine g_q (T := T) (i := 9) rfl (by kernel_rfl) (by kernel_rfl : (pbits 10 511).setIfInBounds 9 true = pbits 10 1023) si_U (fun _ _ _ h => h) rfl rfl rfl rfl (fun _ _ _ _ _ => (rn_assign rfl (T.ev 1 rfl))) ?_; clear T ac; intro ac T
  refine g_done (by kernel_rfl) ?_
  replace T := T.pick [0, 1] rfl
  replace M := M.mask [false, false] rfl
  refine nm_then ?_
  refine wp_seq ?_
  refine wp_block ?_
  refine cut_seq (fun ac wc => Tm ac 33 [(6, .int .i64 (rpass j ((j.st.after l).p0) ((j.st.after l).p1))), (7, .int .i64 ((j.st.after l).spoiled)), (19, .bool ((decide ((rpass j ((j.st.after l).p0) ((j.st.after l).p1)) = 1)) && (decide (((j.st.after l).spoiled) = 2))))] ∧ Mem w noEx wc []) ?_ ?_
  · refine wp_region_lit ?_
    refine l_q T rfl rfl rfl rfl (rn_move rfl (T.ev 1 rfl)) ?_; clear T ac; intro ac T
    refine l_q T rfl rfl rfl rfl (rn_eql rfl (T.ev 0 rfl) evc) ?_; clear T ac; intro ac T
    refine l_q T rfl rfl rfl rfl (rn_move rfl (T.ev 0 rfl)) ?_; clear T ac; intro ac T
    rcases Bool.eq_false_or_eq_true (decide ((rpass j ((j.st.after l).p0) ((j.st.after l).p1)) = 1)) with h1 | h1
    · replace h1 := of_decide_eq_true h1
      refine l_q T (wanted_yes rfl rfl (T.ev 0 rfl) (decide_eq_true h1)) rfl rfl rfl (rn_move rfl (T.ev 3 rfl)) ?_; clear T ac; intro ac T
      refine l_q T (wanted_yes rfl rfl (T.ev 1 rfl) (decide_eq_true h1)) rfl rfl rfl (rn_eql rfl (T.ev 0 rfl) evc) ?_; clear T ac; intro ac T
      refine l_q T rfl rfl rfl rfl (rn_pick1 rfl (T.ev 2 rfl) (decide_eq_true h1) (T.ev 0 rfl)) ?_; clear T ac; intro ac T
      refine l_q T rfl rfl rfl rfl (rn_assign rfl (T.ev 0 rfl)) ?_; clear T ac; intro ac T
      refine wpList_nil ?_
      replace T := T.pick [0, 7, 8] rfl
      exact ⟨(T.pick (E' := [(6, .int .i64 (rpass j ((j.st.after l).p0) ((j.st.after l).p1))), (7, .int .i64 ((j.st.after l).spoiled)), (19, .bool (decide (((j.st.after l).spoiled) = 2)))]) [2, 1, 0] rfl).as (by (try rw [show (decide ((rpass j ((j.st.after l).p0) ((j.st.after l).p1)) = 1)) = true from (decide_eq_true h1)]); rfl), M.mask [] rfl⟩
    · replace h1 := of_decide_eq_false h1
      refine l_pass T (wanted_no rfl rfl (T.ev 0 rfl) (decide_eq_false h1)) rfl rfl rfl ?_; clear T ac; intro ac T
      refine l_pass T (wanted_no rfl rfl (T.ev 1 rfl) (decide_eq_false h1)) rfl rfl rfl ?_; clear T ac; intro ac T
      refine l_q T rfl rfl rfl rfl (rn_pick0 rfl (T.ev 2 rfl) (decide_eq_false h1) evc) ?_; clear T ac; intro ac T
      refine l_q T rfl rfl rfl rfl (rn_assign rfl (T.ev 0 rfl)) ?_; clear T ac; intro ac T
      refine wpList_nil ?_
      replace T := T.pick [0, 7, 8] rfl
      exact ⟨(T.pick (E' := [(6, .int .i64 (rpass j ((j.st.after l).p0) ((j.st.after l).p1))), (7, .int .i64 ((j.st.after l).spoiled)), (19, .bool false)]) [2, 1, 0] rfl).as (by (try rw [show (decide ((rpass j ((j.st.after l).p0) ((j.st.after l).p1)) = 1)) = false from (decide_eq_false h1)]); rfl), M.mask [] rfl⟩
  · clear T M
    rintro ac wc ⟨T, M⟩
    refine wp_cond_split (T.ev 2 rfl) ?_ ?_
    · intro h2
      (try have h2' := h2; try simp only [Bool.and_eq_true, Bool.or_eq_true, Bool.not_eq_true', Bool.and_eq_false_imp, Bool.or_eq_false_iff, decide_eq_true_eq, decide_eq_false_iff_not] at h2')
      refine wp_seq ?_
      refine wp_region_lit ?_
      refine l_q T rfl rfl rfl rfl (rn_assign rfl evc) ?_; clear T ac; intro ac T
      refine wpList_nil ?_
      replace T := T.pick [0] rfl
      refine nm_then ?_
      refine wp_ret ?_
      refine rt_blk ?_
      refine rt_then ?_
      refine rt_1 T rfl (T.ev 0 rfl) ?_
      refine ⟨ret_int ?_, M.below⟩
      unfold rfineJ
      (repeat' split) <;> first | rfl | omega | contradiction | (simp_all; done) | (simp_all; omega)
    · intro h2
      (try have h2' := h2; try simp only [Bool.and_eq_true, Bool.or_eq_true, Bool.not_eq_true', Bool.and_eq_false_imp, Bool.or_eq_false_iff, decide_eq_true_eq, decide_eq_false_iff_not] at h2')
      refine cut_seq (fun ac wc => Tm ac 33 [(26, .bool ((decide ((rpass j ((j.st.after l).p0) ((j.st.after l).p1)) = 2)) || (decide (((j.st.after l).spoiled) = 1))))] ∧ Mem w noEx wc []) ?_ ?_
      · refine wp_region_lit ?_
        refine l_q T rfl rfl rfl rfl (rn_move rfl (T.ev 0 rfl)) ?_; clear T ac; intro ac T
        refine l_q T rfl rfl rfl rfl (rn_eql rfl (T.ev 0 rfl) evc) ?_; clear T ac; intro ac T
        refine l_q T rfl rfl rfl rfl (rn_move rfl (T.ev 0 rfl)) ?_; clear T ac; intro ac T
        rcases Bool.eq_false_or_eq_true (decide ((rpass j ((j.st.after l).p0) ((j.st.after l).p1)) = 2)) with h3 | h3
        · replace h3 := of_decide_eq_true h3
          refine l_pass T (wanted_no rfl rfl (T.ev 0 rfl) (decide_eq_true h3)) rfl rfl rfl ?_; clear T ac; intro ac T
          refine l_pass T (wanted_no rfl rfl (T.ev 1 rfl) (decide_eq_true h3)) rfl rfl rfl ?_; clear T ac; intro ac T
          refine l_q T rfl rfl rfl rfl (rn_pick1 rfl (T.ev 2 rfl) (decide_eq_true h3) evc) ?_; clear T ac; intro ac T
          refine l_q T rfl rfl rfl rfl (rn_assign rfl (T.ev 0 rfl)) ?_; clear T ac; intro ac T
          refine wpList_nil ?_
          replace T := T.pick [0] rfl
          exact ⟨(T.pick (E' := [(26, .bool true)]) [0] rfl).as (by (try rw [show (decide ((rpass j ((j.st.after l).p0) ((j.st.after l).p1)) = 2)) = true from (decide_eq_true h3)]); rfl), M.mask [] rfl⟩
        · replace h3 := of_decide_eq_false h3
          refine l_q T (wanted_yes rfl rfl (T.ev 0 rfl) (decide_eq_false h3)) rfl rfl rfl (rn_move rfl (T.ev 4 rfl)) ?_; clear T ac; intro ac T
          refine l_q T (wanted_yes rfl rfl (T.ev 1 rfl) (decide_eq_false h3)) rfl rfl rfl (rn_eql rfl (T.ev 0 rfl) evc) ?_; clear T ac; intro ac T
          refine l_q T rfl rfl rfl rfl (rn_pick0 rfl (T.ev 2 rfl) (decide_eq_false h3) (T.ev 0 rfl)) ?_; clear T ac; intro ac T
          refine l_q T rfl rfl rfl rfl (rn_assign rfl (T.ev 0 rfl)) ?_; clear T ac; intro ac T
          refine wpList_nil ?_
          replace T := T.pick [0] rfl
          exact ⟨(T.pick (E' := [(26, .bool (decide (((j.st.after l).spoiled) = 1)))]) [0] rfl).as (by (try rw [show (decide ((rpass j ((j.st.after l).p0) ((j.st.after l).p1)) = 2)) = false from (decide_eq_false h3)]); rfl), M.mask [] rfl⟩
      · clear T M
        rintro ac wc ⟨T, M⟩
        refine wp_cond_split (T.ev 0 rfl) ?_ ?_
        · intro h4
          (try have h4' := h4; try simp only [Bool.and_eq_true, Bool.or_eq_true, Bool.not_eq_true', Bool.and_eq_false_imp, Bool.or_eq_false_iff, decide_eq_true_eq, decide_eq_false_iff_not] at h4')
          refine wp_seq ?_
          refine wp_region_lit ?_
          refine l_q T rfl rfl rfl rfl (rn_assign rfl evc) ?_; clear T ac; intro ac T
          refine wpList_nil ?_
          replace T := T.pick [0] rfl
          refine nm_then ?_
          refine wp_ret ?_
          refine rt_blk ?_
          refine rt_then ?_
          refine rt_1 T rfl (T.ev 0 rfl) ?_
          refine ⟨ret_int ?_, M.below⟩
          unfold rfineJ
          (repeat' split) <;> first | rfl | omega | contradiction | (simp_all; done) | (simp_all; omega)
        · intro h4
          (try have h4' := h4; try simp only [Bool.and_eq_true, Bool.or_eq_true, Bool.not_eq_true', Bool.and_eq_false_imp, Bool.or_eq_false_iff, decide_eq_true_eq, decide_eq_false_iff_not] at h4')
          refine wp_skip ?_
          refine nm_blk ?_
          refine nm_then ?_
          refine wp_seq ?_
          refine wp_region_lit ?_
          refine l_q T rfl rfl rfl rfl (rn_assign rfl evc) ?_; clear T ac; intro ac T
          refine wpList_nil ?_
          replace T := T.pick [0] rfl
          refine nm_then ?_
          refine wp_ret ?_
          refine rt_1 T rfl (T.ev 0 rfl) ?_
          refine ⟨ret_int ?_, M.below⟩
          unfold rfineJ
          (repeat' split) <;> first | rfl | omega | contradiction | (simp_all; done) | (simp_all; omega)

set_option maxRecDepth 100000 in
set_option maxHeartbeats 1000000 in
theorem rFine_any (j : Jb) (A : Option Addr) (c : Nat) (D : Option Addr) (d n : Nat) (l : List Int) (w : World) (hr : Rd w w.heap.size 2 A j.sh.length (rc j.sh)) (hn : j.sh.length ≤ 9223372036854775807) (hl : Rd w w.heap.size 1 D n (ic l)) (hm : n ≤ 9223372036854775807) :
    Calls Try.prog 57 #[jobV j A c, .slice D n d] w fun e w' => e = .returned (.tuple #[.int .i64 ((rfineT j l).1), .int .i64 ((rfineT j l).2)]) ∧ Below w.heap.size w w' := by
  obtain ⟨bJ, oJ, SJ⟩ := Sp.old hr
  have hll := hl.len1
  obtain ⟨bI, oI, SI⟩ := Sp.old hl
  refine px_enter noEx Try.func57 rfl 16 rfl [.agg #[.int .i64 j.p0, .int .i64 j.p1, .int .i64 j.t0, .int .i64 j.t1, .int .i64 j.r0, .int .i64 j.r1, .int .i64 j.u0, .int .i64 j.u1, .int .i64 j.d0, .int .i64 j.d1, .int .i64 j.a0, .int .i64 j.a1, .int .i64 j.b0, .int .i64 j.b1, .int .i64 j.le, .slice A j.sh.length c, .int .i64 j.wi, .int .i64 j.me], .slice D n d] rfl rfl (Mem.init w _) ?_
  intro ac wc T M
  refine wp_seq ?_
  refine wp_region_lit ?_
  refine l_w rfl ?_; intro K hK
  refine ow_bx M T rfl rfl rfl rfl (T.ev 0 rfl) rfl ?_; clear M T; intro g1 wc ac M T
  refine sh_out hK _ _ ?_; clear hK K
  refine l_q T rfl rfl rfl rfl (rn_assign rfl evc) ?_; clear T ac; intro ac T
  refine l_q T rfl rfl rfl rfl (rn_assign rfl evc) ?_; clear T ac; intro ac T
  refine wpList_nil ?_
  replace T := T.pick [2, 4] rfl
  refine nm_then ?_
  refine wp_seq ?_
  refine wp_seq ?_
  refine wp_region_lit ?_
  refine l_q T rfl rfl rfl rfl (rn_rowO (Mem.nth M 0 rfl) rfl (T.ev 0 rfl) rfl) ?_; clear T ac; intro ac T
  refine l_q T rfl rfl rfl rfl (rn_move rfl (T.ev 2 rfl)) ?_; clear T ac; intro ac T
  refine l_w rfl ?_; intro K hK
  refine ow_call (first := []) (cap := []) T rfl rfl rfl rfl evf (.cons (T.ev 1 rfl) (.cons (T.ev 0 rfl) .nil)) Try.func97 rfl rfl ?_
  refine Calls.mono (rcheckStrokes_any j _ _ _ _ _ l _ (SJ.rd M (List.nil_sublist _)) (by omega) (SI.rd M (List.nil_sublist _)) (by omega)) ?_
  clear T
  rintro e wc ⟨rfl, hb⟩
  intro ac T
  replace M := M.call hb; clear hb
  refine sh_out hK _ _ ?_; clear hK K
  refine l_q T rfl rfl rfl rfl (rn_assign rfl (T.ev 0 rfl)) ?_; clear T ac; intro ac T
  refine wpList_nil ?_
  replace T := T.pick [0, 4, 5] rfl
  refine nm_then ?_
  refine wp_seq ?_
  refine wp_region_lit ?_
  refine l_q T rfl rfl rfl rfl (rn_move rfl (T.ev 0 rfl)) ?_; clear T ac; intro ac T
  refine l_q T rfl rfl rfl rfl (rn_neq rfl (T.ev 0 rfl) evc) ?_; clear T ac; intro ac T
  refine wpList_nil ?_
  replace T := T.pick [0, 2, 3, 4] rfl
  refine nm_then ?_
  refine wp_ifn (T.ev 0 rfl) ?_ ?_
  · intro h1
    refine wp_seq ?_
    refine wp_region_lit ?_
    refine l_q T rfl rfl rfl rfl (rn_move rfl (T.ev 1 rfl)) ?_; clear T ac; intro ac T
    refine l_q T rfl rfl rfl rfl (rn_assign rfl evc) ?_; clear T ac; intro ac T
    refine l_q T rfl rfl rfl rfl (rn_assign rfl (T.ev 1 rfl)) ?_; clear T ac; intro ac T
    refine wpList_nil ?_
    replace T := T.pick [0, 1] rfl
    replace M := M.mask [false] rfl
    refine nm_then ?_
    refine wp_ret ?_
    refine rt_then ?_
    refine rt_2 T rfl (T.ev 1 rfl) (T.ev 0 rfl) ?_
    refine ⟨?_, M.below⟩
    unfold rfineT
    first | rw [if_pos h1] | rw [if_neg h1]
    try rw [h1]
    try rfl
  · intro h1
    obtain ⟨hc, h6, hk⟩ := strokes_of h1
    have hj := good_of hc
    have hst := hj.st
    have hup := after_up hst l
    have hp0 := hup.p0
    have hp1 := hup.p1
    refine wp_skip ?_
    refine nm_then ?_
    refine wp_seq ?_
    refine wp_region_lit ?_
    refine l_q T rfl rfl rfl rfl (rn_rowO (Mem.nth M 0 rfl) rfl (T.ev 2 rfl) rfl) ?_; clear T ac; intro ac T
    refine l_q T rfl rfl rfl rfl (rn_move rfl (T.ev 4 rfl)) ?_; clear T ac; intro ac T
    refine l_w rfl ?_; intro K hK
    refine ow_call (first := []) (cap := []) T rfl rfl rfl rfl evf (.cons (T.ev 1 rfl) (.cons (T.ev 0 rfl) .nil)) Try.func70 rfl rfl ?_
    refine Calls.mono (rfine_any j _ _ _ _ _ l _ hj (SJ.rd M (List.nil_sublist _)) (SI.rd M (List.nil_sublist _)) (by omega)) ?_
    clear T
    rintro e wc ⟨rfl, hb⟩
    intro ac T
    replace M := M.call hb; clear hb
    refine sh_out hK _ _ ?_; clear hK K
    refine l_q T rfl rfl rfl rfl (rn_assign rfl (T.ev 0 rfl)) ?_; clear T ac; intro ac T
    refine l_q T rfl rfl rfl rfl (rn_assign rfl evc) ?_; clear T ac; intro ac T
    refine wpList_nil ?_
    replace T := T.pick [0, 1] rfl
    replace M := M.mask [false] rfl
    refine nm_then ?_
    refine wp_ret ?_
    refine rt_2 T rfl (T.ev 1 rfl) (T.ev 0 rfl) ?_
    refine ⟨?_, M.below⟩
    unfold rfineT
    first | rw [if_pos h1] | rw [if_neg h1]
    try rw [h1]
    try rfl

set_option maxRecDepth 100000 in
set_option maxHeartbeats 1000000 in
theorem rWorst_any (j : Jb) (A : Option Addr) (c : Nat) (D : Option Addr) (d n : Nat) (l : List Int) (w : World) (hr : Rd w w.heap.size 2 A j.sh.length (rc j.sh)) (hn : j.sh.length ≤ 9223372036854775807) (hl : Rd w w.heap.size 1 D n (ic l)) (hm : n ≤ 9223372036854775807) :
    Calls Try.prog 55 #[jobV j A c, .slice D n d] w fun e w' => e = .returned (.tuple #[.int .i64 ((rworstT j l).1), .int .i64 ((rworstT j l).2)]) ∧ Below w.heap.size w w' := by
  obtain ⟨bJ, oJ, SJ⟩ := Sp.old hr
  have hll := hl.len1
  obtain ⟨bI, oI, SI⟩ := Sp.old hl
  refine px_enter noEx Try.func55 rfl 50 rfl [.agg #[.int .i64 j.p0, .int .i64 j.p1, .int .i64 j.t0, .int .i64 j.t1, .int .i64 j.r0, .int .i64 j.r1, .int .i64 j.u0, .int .i64 j.u1, .int .i64 j.d0, .int .i64 j.d1, .int .i64 j.a0, .int .i64 j.a1, .int .i64 j.b0, .int .i64 j.b1, .int .i64 j.le, .slice A j.sh.length c, .int .i64 j.wi, .int .i64 j.me], .slice D n d] rfl rfl (Mem.init w _) ?_
  intro ac wc T M
  refine wp_seq ?_
  refine wp_region_lit ?_
  refine l_w rfl ?_; intro K hK
  refine ow_bx M T rfl rfl rfl rfl (T.ev 0 rfl) rfl ?_; clear M T; intro g1 wc ac M T
  refine sh_out hK _ _ ?_; clear hK K
  refine l_q T rfl rfl rfl rfl (rn_assign rfl evc) ?_; clear T ac; intro ac T
  refine l_q T rfl rfl rfl rfl (rn_assign rfl evc) ?_; clear T ac; intro ac T
  refine wpList_nil ?_
  replace T := T.pick [2, 4] rfl
  refine nm_then ?_
  refine wp_seq ?_
  refine wp_seq ?_
  refine wp_region_lit ?_
  refine l_q T rfl rfl rfl rfl (rn_rowO (Mem.nth M 0 rfl) rfl (T.ev 0 rfl) rfl) ?_; clear T ac; intro ac T
  refine l_q T rfl rfl rfl rfl (rn_move rfl (T.ev 2 rfl)) ?_; clear T ac; intro ac T
  refine l_w rfl ?_; intro K hK
  refine ow_call (first := []) (cap := []) T rfl rfl rfl rfl evf (.cons (T.ev 1 rfl) (.cons (T.ev 0 rfl) .nil)) Try.func97 rfl rfl ?_
  refine Calls.mono (rcheckStrokes_any j _ _ _ _ _ l _ (SJ.rd M (List.nil_sublist _)) (by omega) (SI.rd M (List.nil_sublist _)) (by omega)) ?_
  clear T
  rintro e wc ⟨rfl, hb⟩
  intro ac T
  replace M := M.call hb; clear hb
  refine sh_out hK _ _ ?_; clear hK K
  refine l_q T rfl rfl rfl rfl (rn_assign rfl (T.ev 0 rfl)) ?_; clear T ac; intro ac T
  refine wpList_nil ?_
  replace T := T.pick [0, 4, 5] rfl
  refine nm_then ?_
  refine wp_seq ?_
  refine wp_region_lit ?_
  refine l_q T rfl rfl rfl rfl (rn_move rfl (T.ev 0 rfl)) ?_; clear T ac; intro ac T
  refine l_q T rfl rfl rfl rfl (rn_neq rfl (T.ev 0 rfl) evc) ?_; clear T ac; intro ac T
  refine wpList_nil ?_
  replace T := T.pick [0, 2, 3, 4] rfl
  refine nm_then ?_
  refine wp_ifn (T.ev 0 rfl) ?_ ?_
  · intro h1
    refine wp_seq ?_
    refine wp_region_lit ?_
    refine l_q T rfl rfl rfl rfl (rn_move rfl (T.ev 1 rfl)) ?_; clear T ac; intro ac T
    refine l_q T rfl rfl rfl rfl (rn_assign rfl evc) ?_; clear T ac; intro ac T
    refine l_q T rfl rfl rfl rfl (rn_assign rfl (T.ev 1 rfl)) ?_; clear T ac; intro ac T
    refine wpList_nil ?_
    replace T := T.pick [0, 1] rfl
    replace M := M.mask [false] rfl
    refine nm_then ?_
    refine wp_ret ?_
    refine rt_then ?_
    refine rt_2 T rfl (T.ev 1 rfl) (T.ev 0 rfl) ?_
    refine ⟨?_, M.below⟩
    unfold rworstT
    rw [if_neg h1]
  · intro h1
    obtain ⟨hc, h6, hk⟩ := strokes_of h1
    have hj := good_of hc
    have hst := hj.st
    have hup := after_up hst l
    have hp0 := hup.p0
    have hp1 := hup.p1
    refine wp_skip ?_
    refine nm_then ?_
    refine wp_seq ?_
    refine g_start2 M (M.mask [true] rfl) 9 (by kernel_rfl) rfl (by kernel_rfl) ?_
    clear M; intro wc M
    refine g_q (T := T) (i := 0) rfl (by kernel_rfl) (by kernel_rfl : (pbits 9 0).setIfInBounds 0 true = pbits 9 1) si_U (fun _ _ _ h => h) rfl rfl rfl rfl (fun B w' hD hl hS => (rn_rowO (Mem.nth (show Mem w noEx w' _ from hS) 0 rfl) rfl (T.ev 2 rfl) rfl)) ?_; clear T ac; intro ac T
    refine g_q (T := T) (i := 1) rfl (by kernel_rfl) (by kernel_rfl : (pbits 9 1).setIfInBounds 1 true = pbits 9 3) si_U (fun _ _ _ h => h) rfl rfl rfl rfl (fun _ _ _ _ _ => (rn_move rfl (T.ev 4 rfl))) ?_; clear T ac; intro ac T
    refine g_q (T := T) (i := 3) rfl (by kernel_rfl) (by kernel_rfl : (pbits 9 3).setIfInBounds 3 true = pbits 9 11) si_U (fun _ _ _ h => h) rfl rfl rfl rfl (fun B w' hD hl hS => (rn_rowO (Mem.nth (show Mem w noEx w' _ from hS) 0 rfl) rfl (T.ev 4 rfl) rfl)) ?_; clear T ac; intro ac T
    refine g_m2 (i := 2) (j := 5) (by kernel_rfl) ?_ ?_
    · refine g_i rfl (by kernel_rfl : (pbits 9 11).setIfInBounds 2 true = pbits 9 15) rfl ?_; intro K hK
      refine ow_call (first := []) (cap := []) T rfl rfl rfl rfl evf (.cons (T.ev 2 rfl) (.cons (T.ev 1 rfl) .nil)) Try.func98 rfl rfl ?_
      refine Calls.mono (rafter_any j _ _ _ _ _ l _ (SI.rd M (List.nil_sublist _)) (by omega) hst) ?_
      clear T
      rintro e wc ⟨rfl, hb⟩
      intro ac T
      replace M := M.call hb; clear hb
      refine sh_out hK _ _ (M.mask [true] rfl) ?_; clear hK K
      refine g_m2 (i := 4) (j := 5) (by kernel_rfl) ?_ ?_
      · refine g_i rfl (by kernel_rfl : (pbits 9 15).setIfInBounds 4 true = pbits 9 31) rfl ?_; intro K hK
        refine ow_call (first := []) (cap := []) T rfl rfl rfl rfl evf (.cons (T.ev 1 rfl) .nil) Try.func99 rfl rfl ?_
        refine Calls.mono (shifts_any j _ _ _ hj) ?_
        clear T
        rintro e wc ⟨Aur4_4, cur4_4, Iur4_4, rfl, hdur4_4, N⟩
        intro ac T
        obtain ⟨bur4_4, our4_4, Sur4_4⟩ := SJ.shx hdur4_4
        have hlur4_4 := shx_pos j.sh
        have hfur4_4 := shx_few hj
        replace M := (M.join N).swapI
        replace M := M.mask [true] rfl
        refine sh_out hK _ _ (M.perm [0] rfl rfl) ?_; clear hK K
        refine g_w (i := 5) (by kernel_rfl) rfl (by kernel_rfl : (pbits 9 31).setIfInBounds 5 true = pbits 9 63) rfl ?_; intro K hK
        refine ow_al M T rfl rfl rfl rfl ?_; clear M T; intro gr4_5 wc ac M T
        refine sh_out hK _ _ (M.perm [1] rfl rfl) ?_; clear hK K
        refine g_w (i := 6) (by kernel_rfl) rfl (by kernel_rfl : (pbits 9 63).setIfInBounds 6 true = pbits 9 127) rfl ?_; intro K hK
        refine ow_stO M T rfl rfl (T.ev 0 rfl) (T.ev 2 rfl) rfl .head rfl (by simp) rfl (by kernel_rfl) ?_; clear M T; intro wc ac M T
        refine sh_out hK _ _ (M.perm [1] rfl rfl) ?_; clear hK K
        refine g_q (T := T) (i := 7) rfl (by kernel_rfl) (by kernel_rfl : (pbits 9 127).setIfInBounds 7 true = pbits 9 255) si_U (fun _ _ _ h => h) rfl rfl rfl rfl (fun _ _ _ _ _ => (rn_assign rfl (T.ev 1 rfl))) ?_; clear T ac; intro ac T
        refine g_q (T := T) (i := 8) rfl (by kernel_rfl) (by kernel_rfl : (pbits 9 255).setIfInBounds 8 true = pbits 9 511) si_U (fun _ _ _ h => h) rfl rfl rfl rfl (fun _ _ _ _ _ => (rn_assign rfl evc)) ?_; clear T ac; intro ac T
        refine g_done (by kernel_rfl) ?_
        replace T := T.pick [0, 1, 2] rfl
        replace M := M.mask [true, false] rfl
        refine nm_then ?_
        refine wp_seq ?_
        refine wp_seq ?_
        refine wp_region_lit ?_
        refine l_q T rfl rfl rfl rfl (rn_assign rfl evc) ?_; clear T ac; intro ac T
        refine wpList_nil ?_
        refine nm_then ?_
        refine wp_block ?_
        refine wp_loop_n (fun mz ac wc => ∃ (k : Nat) (y : Int), mz = (shx j.sh).length - k ∧ (k ≤ (shx j.sh).length) ∧ (rworstF (j.st.after l).p0 (j.st.after l).p1 (shx j.sh) 0 = rworstF (j.st.after l).p0 (j.st.after l).p1 ((shx j.sh).drop k) y) ∧ Tm ac 50 [(7, .pointer (some ⟨gr4_5, 0, none⟩)), (8, .slice Aur4_4 ((shx j.sh).length) cur4_4), (9, .int .i64 y), (10, .int .i64 (k : Int))] ∧ Mem w noEx wc ((gr4_5, .cells [.int .i64 ((j.st.after l).p0), .int .i64 ((j.st.after l).p1), .int .i64 ((j.st.after l).t0), .int .i64 ((j.st.after l).t1), .int .i64 ((j.st.after l).r0), .int .i64 ((j.st.after l).r1)]) :: Iur4_4)) ?_ ?_
        · exact ⟨_, 0, 0, rfl, (by omega), rfl, T.pick [3, 2, 1, 0] rfl, M.mask [true] rfl⟩
        · clear T M
          rintro mz ac wc ⟨k, y, hmm1, hkk, H, T, M⟩
          refine wp_seq ?_
          refine wp_seq ?_
          refine wp_region_lit ?_
          refine l_q T rfl rfl rfl rfl (rn_move rfl (T.ev 3 rfl)) ?_; clear T ac; intro ac T
          refine l_q T rfl rfl rfl rfl (rn_move rfl (T.ev 2 rfl)) ?_; clear T ac; intro ac T
          refine l_q T rfl rfl rfl rfl (rn_lenS rfl Try.underlying28 (T.ev 0 rfl)) ?_; clear T ac; intro ac T
          refine l_q T rfl rfl rfl rfl (rn_lss rfl (T.ev 2 rfl) (T.ev 0 rfl)) ?_; clear T ac; intro ac T
          refine wpList_nil ?_
          replace T := T.pick [0, 4, 5, 6, 7] rfl
          refine nm_then ?_
          refine wp_if (T.ev 0 rfl) ?_ ?_
          · intro h2
            obtain ⟨x0, x1, hk1, hd⟩ := rc_next (l := shx j.sh) (k := k) (by omega)
            have hb1 := shx_bd hj hk1
            rw [hd] at H
            refine wp_skip ?_
            refine nm_then ?_
            refine wp_seq ?_
            refine wp_block ?_
            refine g_start2 M (M.mask [true] rfl) 22 (by kernel_rfl) rfl (by kernel_rfl) ?_
            clear M; intro wc M
            refine g_q (T := T) (i := 0) rfl (by kernel_rfl) (by kernel_rfl : (pbits 22 0).setIfInBounds 0 true = pbits 22 1) si_U (fun _ _ _ h => h) rfl rfl rfl rfl (fun _ _ _ _ _ => (rn_move rfl (T.ev 3 rfl))) ?_; clear T ac; intro ac T
            refine g_q (v := (.pointer (some ⟨gr4_5, 0, none⟩))) (T := T) (i := 1) rfl (by kernel_rfl) (by kernel_rfl : (pbits 22 1).setIfInBounds 1 true = pbits 22 3) si_U (fun _ _ _ h => h) rfl rfl rfl rfl (fun _ _ _ _ _ => (rn_fieldAddr (off := 0) rfl (T.ev 2 rfl) (fun _ _ _ => by kernel_rfl))) ?_; clear T ac; intro ac T
            refine g_q (v := (.pointer (some ⟨gr4_5, 1, none⟩))) (T := T) (i := 2) rfl (by kernel_rfl) (by kernel_rfl : (pbits 22 3).setIfInBounds 2 true = pbits 22 7) si_U (fun _ _ _ h => h) rfl rfl rfl rfl (fun _ _ _ _ _ => (rn_fieldAddr (off := 1) rfl (T.ev 0 rfl) (fun _ _ _ => by kernel_rfl))) ?_; clear T ac; intro ac T
            refine g_q (T := T) (i := 3) rfl (by kernel_rfl) (by kernel_rfl : (pbits 22 7).setIfInBounds 3 true = pbits 22 15) si_U (fun _ _ _ h => h) rfl rfl rfl rfl (fun B w' hD hl hS => (rn_one (Mem.nth (show Mem w noEx w' _ from hS) 0 rfl) rfl (T.ev 0 rfl) rfl)) ?_; clear T ac; intro ac T
            refine g_q (T := T) (i := 4) rfl (by kernel_rfl) (by kernel_rfl : (pbits 22 15).setIfInBounds 4 true = pbits 22 31) si_U (fun _ _ _ h => h) rfl rfl rfl rfl (fun _ _ _ _ _ => (rn_move rfl (T.ev 6 rfl))) ?_; clear T ac; intro ac T
            refine g_q (T := T) (i := 5) rfl (by kernel_rfl) (by kernel_rfl : (pbits 22 31).setIfInBounds 5 true = pbits 22 63) si_U (fun _ _ _ h => h) rfl rfl rfl rfl (fun _ _ _ _ _ => (rn_move rfl (T.ev 9 rfl))) ?_; clear T ac; intro ac T
            refine g_q (T := T) (i := 6) rfl (by kernel_rfl) (by kernel_rfl : (pbits 22 63).setIfInBounds 6 true = pbits 22 127) si_U (fun _ _ _ h => h) rfl rfl rfl rfl (fun _ _ _ _ _ => (rn_indexAddr (size := 2) k rfl (T.ev 1 rfl) (T.ev 0 rfl) ⟨_, Try.underlying28, by kernel_rfl⟩ rfl (by omega) (Sur4_4.at0 (by omega)))) ?_; clear T ac; intro ac T
            refine g_q (T := T) (i := 7) rfl (by kernel_rfl) (by kernel_rfl : (pbits 22 127).setIfInBounds 7 true = pbits 22 255) si_U (fun _ _ _ h => h) rfl rfl rfl rfl (fun _ _ _ _ _ => (rn_fieldAddr (off := 1) rfl (T.ev 0 rfl) (fun _ _ _ => by kernel_rfl))) ?_; clear T ac; intro ac T
            refine g_q (T := T) (i := 8) rfl (by kernel_rfl) (by kernel_rfl : (pbits 22 255).setIfInBounds 8 true = pbits 22 511) si_U (fun _ _ _ h => h) rfl rfl rfl rfl (fun B w' hD hl hS => (rn_cell (Sp.rc1 Sur4_4 (show Mem w noEx w' _ from hS) (.cons _ (List.Sublist.refl _)) hk1) rfl (T.ev 0 rfl))) ?_; clear T ac; intro ac T
            refine g_q (T := T) (i := 9) rfl (by kernel_rfl) (by kernel_rfl : (pbits 22 511).setIfInBounds 9 true = pbits 22 1023) si_U (fun _ _ _ h => h) rfl rfl rfl rfl (fun _ _ _ _ _ => (rn_add rfl (T.ev 5 rfl) (T.ev 0 rfl) (by omega))) ?_; clear T ac; intro ac T
            refine g_q (v := (.pointer (some ⟨gr4_5, 0, none⟩))) (T := T) (i := 10) rfl (by kernel_rfl) (by kernel_rfl : (pbits 22 1023).setIfInBounds 10 true = pbits 22 2047) si_U (fun _ _ _ h => h) rfl rfl rfl rfl (fun _ _ _ _ _ => (rn_fieldAddr (off := 0) rfl (T.ev 11 rfl) (fun _ _ _ => by kernel_rfl))) ?_; clear T ac; intro ac T
            refine g_q (v := (.pointer (some ⟨gr4_5, 0, none⟩))) (T := T) (i := 11) rfl (by kernel_rfl) (by kernel_rfl : (pbits 22 2047).setIfInBounds 11 true = pbits 22 4095) si_U (fun _ _ _ h => h) rfl rfl rfl rfl (fun _ _ _ _ _ => (rn_fieldAddr (off := 0) rfl (T.ev 0 rfl) (fun _ _ _ => by kernel_rfl))) ?_; clear T ac; intro ac T
            refine g_q (T := T) (i := 12) rfl (by kernel_rfl) (by kernel_rfl : (pbits 22 4095).setIfInBounds 12 true = pbits 22 8191) si_U (fun _ _ _ h => h) rfl rfl rfl rfl (fun B w' hD hl hS => (rn_one (Mem.nth (show Mem w noEx w' _ from hS) 0 rfl) rfl (T.ev 0 rfl) rfl)) ?_; clear T ac; intro ac T
            refine g_q (T := T) (i := 13) rfl (by kernel_rfl) (by kernel_rfl : (pbits 22 8191).setIfInBounds 13 true = pbits 22 16383) si_U (fun _ _ _ h => h) rfl rfl rfl rfl (fun _ _ _ _ _ => (rn_move rfl (T.ev 15 rfl))) ?_; clear T ac; intro ac T
            refine g_q (T := T) (i := 14) rfl (by kernel_rfl) (by kernel_rfl : (pbits 22 16383).setIfInBounds 14 true = pbits 22 32767) si_U (fun _ _ _ h => h) rfl rfl rfl rfl (fun _ _ _ _ _ => (rn_move rfl (T.ev 18 rfl))) ?_; clear T ac; intro ac T
            refine g_q (T := T) (i := 15) rfl (by kernel_rfl) (by kernel_rfl : (pbits 22 32767).setIfInBounds 15 true = pbits 22 65535) si_U (fun _ _ _ h => h) rfl rfl rfl rfl (fun _ _ _ _ _ => (rn_indexAddr (size := 2) k rfl (T.ev 1 rfl) (T.ev 0 rfl) ⟨_, Try.underlying28, by kernel_rfl⟩ rfl (by omega) (Sur4_4.at0 (by omega)))) ?_; clear T ac; intro ac T
            refine g_q (T := T) (i := 16) rfl (by kernel_rfl) (by kernel_rfl : (pbits 22 65535).setIfInBounds 16 true = pbits 22 131071) si_U (fun _ _ _ h => h) rfl rfl rfl rfl (fun _ _ _ _ _ => (rn_fieldAddr (off := 0) rfl (T.ev 0 rfl) (fun _ _ _ => by kernel_rfl))) ?_; clear T ac; intro ac T
            refine g_q (T := T) (i := 17) rfl (by kernel_rfl) (by kernel_rfl : (pbits 22 131071).setIfInBounds 17 true = pbits 22 262143) si_U (fun _ _ _ h => h) rfl rfl rfl rfl (fun B w' hD hl hS => (rn_cell (Sp.rc0 Sur4_4 (show Mem w noEx w' _ from hS) (.cons _ (List.Sublist.refl _)) hk1) rfl (T.ev 0 rfl))) ?_; clear T ac; intro ac T
            refine g_q (T := T) (i := 18) rfl (by kernel_rfl) (by kernel_rfl : (pbits 22 262143).setIfInBounds 18 true = pbits 22 524287) si_U (fun _ _ _ h => h) rfl rfl rfl rfl (fun _ _ _ _ _ => (rn_add rfl (T.ev 5 rfl) (T.ev 0 rfl) (by omega))) ?_; clear T ac; intro ac T
            refine g_q (T := T) (i := 19) rfl (by kernel_rfl) (by kernel_rfl : (pbits 22 524287).setIfInBounds 19 true = pbits 22 1048575) si_U (fun _ _ _ h => h) rfl rfl rfl rfl (fun _ _ _ _ _ => (rn_neg rfl (T.ev 0 rfl) (by omega))) ?_; clear T ac; intro ac T
            refine g_q (T := T) (i := 20) rfl (by kernel_rfl) (by kernel_rfl : (pbits 22 1048575).setIfInBounds 20 true = pbits 22 2097151) si_U (fun _ _ _ h => h) rfl rfl rfl rfl (fun _ _ _ _ _ => (rn_max3 rfl (T.ev 19 rfl) (T.ev 10 rfl) (T.ev 0 rfl))) ?_; clear T ac; intro ac T
            refine g_q (v := (.int .i64 (max (max y (((j.st.after l).p1) + x1)) (-(((j.st.after l).p0) + x0))))) (T := T.pick [0, 1, 2, 3, 4, 5, 6, 7, 8, 9, 10, 11, 12, 13, 14, 15, 16, 17, 18, 19, 20, 21, 22, 23, 25] rfl) (i := 21) rfl (by kernel_rfl) (by kernel_rfl : (pbits 22 2097151).setIfInBounds 21 true = pbits 22 4194303) si_U (fun _ _ _ h => h) rfl rfl rfl rfl (fun _ _ _ _ _ => (rn_assign rfl (T.ev 0 rfl))) ?_; clear T ac; intro ac T
            refine g_done (by kernel_rfl) ?_
            replace T := T.pick [0, 23, 24, 25] rfl
            refine nm_blk ?_
            refine nm_then ?_
            refine wp_region_lit ?_
            refine l_q T rfl rfl rfl rfl (rn_move rfl (T.ev 3 rfl)) ?_; clear T ac; intro ac T
            refine l_q T rfl rfl rfl rfl (rn_add rfl (T.ev 0 rfl) evc (by omega)) ?_; clear T ac; intro ac T
            refine l_q (v := (.int .i64 ((k : Int) + 1))) (T.pick [0, 1, 2, 3, 4] rfl) rfl rfl rfl rfl (rn_assign rfl (T.ev 0 rfl)) ?_; clear T ac; intro ac T
            refine wpList_nil ?_
            replace T := T.pick [0, 3, 4, 5] rfl
            refine nm_then ?_
            exact ⟨_, by omega, k + 1, _, rfl, (by omega), H, T.pick [2, 3, 1, 0] rfl, M.mask [true] rfl⟩
          · intro h2
            rw [List.drop_of_length_le (by omega)] at H
            refine wp_exit ?_
            refine ex_then ?_
            refine ex_then ?_
            refine ex_hit ?_
            refine nm_then ?_
            refine wp_seq ?_
            refine wp_region_lit ?_
            refine l_q T rfl rfl rfl rfl (rn_move rfl (T.ev 3 rfl)) ?_; clear T ac; intro ac T
            refine l_q T rfl rfl rfl rfl (rn_assign rfl (T.ev 0 rfl)) ?_; clear T ac; intro ac T
            refine l_q T rfl rfl rfl rfl (rn_assign rfl evc) ?_; clear T ac; intro ac T
            refine wpList_nil ?_
            replace T := T.pick [0, 1] rfl
            replace M := M.mask [false] rfl
            refine nm_then ?_
            refine wp_ret ?_
            refine rt_2 T rfl (T.ev 1 rfl) (T.ev 0 rfl) ?_
            refine ⟨?_, M.below⟩
            unfold rworstT
            rw [if_pos h1, H]
            rfl
      · refine g_i rfl (by kernel_rfl : (pbits 9 15).setIfInBounds 5 true = pbits 9 47) rfl ?_; intro K hK
        refine ow_al M T rfl rfl rfl rfl ?_; clear M T; intro gr4_5 wc ac M T
        refine sh_out hK _ _ (M.mask [false, true] rfl) ?_; clear hK K
        refine g_w (i := 4) (by kernel_rfl) rfl (by kernel_rfl : (pbits 9 47).setIfInBounds 4 true = pbits 9 63) rfl ?_; intro K hK
        refine ow_call (first := []) (cap := []) T rfl rfl rfl rfl evf (.cons (T.ev 2 rfl) .nil) Try.func99 rfl rfl ?_
        refine Calls.mono (shifts_any j _ _ _ hj) ?_
        clear T
        rintro e wc ⟨Aur4_4, cur4_4, Iur4_4, rfl, hdur4_4, N⟩
        intro ac T
        obtain ⟨bur4_4, our4_4, Sur4_4⟩ := SJ.shx hdur4_4
        have hlur4_4 := shx_pos j.sh
        have hfur4_4 := shx_few hj
        replace M := (M.join N).swapI
        replace M := M.mask [true, true] rfl
        refine sh_out hK _ _ (M.perm [1] rfl rfl) ?_; clear hK K
        refine g_w (i := 6) (by kernel_rfl) rfl (by kernel_rfl : (pbits 9 63).setIfInBounds 6 true = pbits 9 127) rfl ?_; intro K hK
        refine ow_stO M T rfl rfl (T.ev 1 rfl) (T.ev 2 rfl) rfl .head rfl (by simp) rfl (by kernel_rfl) ?_; clear M T; intro wc ac M T
        refine sh_out hK _ _ (M.perm [1] rfl rfl) ?_; clear hK K
        refine g_q (T := T) (i := 7) rfl (by kernel_rfl) (by kernel_rfl : (pbits 9 127).setIfInBounds 7 true = pbits 9 255) si_U (fun _ _ _ h => h) rfl rfl rfl rfl (fun _ _ _ _ _ => (rn_assign rfl (T.ev 0 rfl))) ?_; clear T ac; intro ac T
        refine g_q (T := T) (i := 8) rfl (by kernel_rfl) (by kernel_rfl : (pbits 9 255).setIfInBounds 8 true = pbits 9 511) si_U (fun _ _ _ h => h) rfl rfl rfl rfl (fun _ _ _ _ _ => (rn_assign rfl evc)) ?_; clear T ac; intro ac T
        refine g_done (by kernel_rfl) ?_
        replace T := T.pick [0, 1, 3] rfl
        replace M := M.mask [true, false] rfl
        refine nm_then ?_
        refine wp_seq ?_
        refine wp_seq ?_
        refine wp_region_lit ?_
        refine l_q T rfl rfl rfl rfl (rn_assign rfl evc) ?_; clear T ac; intro ac T
        refine wpList_nil ?_
        refine nm_then ?_
        refine wp_block ?_
        refine wp_loop_n (fun mz ac wc => ∃ (k : Nat) (y : Int), mz = (shx j.sh).length - k ∧ (k ≤ (shx j.sh).length) ∧ (rworstF (j.st.after l).p0 (j.st.after l).p1 (shx j.sh) 0 = rworstF (j.st.after l).p0 (j.st.after l).p1 ((shx j.sh).drop k) y) ∧ Tm ac 50 [(7, .pointer (some ⟨gr4_5, 0, none⟩)), (8, .slice Aur4_4 ((shx j.sh).length) cur4_4), (9, .int .i64 y), (10, .int .i64 (k : Int))] ∧ Mem w noEx wc ((gr4_5, .cells [.int .i64 ((j.st.after l).p0), .int .i64 ((j.st.after l).p1), .int .i64 ((j.st.after l).t0), .int .i64 ((j.st.after l).t1), .int .i64 ((j.st.after l).r0), .int .i64 ((j.st.after l).r1)]) :: Iur4_4)) ?_ ?_
        · exact ⟨_, 0, 0, rfl, (by omega), rfl, T.pick [3, 2, 1, 0] rfl, M.mask [true] rfl⟩
        · clear T M
          rintro mz ac wc ⟨k, y, hmm1, hkk, H, T, M⟩
          refine wp_seq ?_
          refine wp_seq ?_
          refine wp_region_lit ?_
          refine l_q T rfl rfl rfl rfl (rn_move rfl (T.ev 3 rfl)) ?_; clear T ac; intro ac T
          refine l_q T rfl rfl rfl rfl (rn_move rfl (T.ev 2 rfl)) ?_; clear T ac; intro ac T
          refine l_q T rfl rfl rfl rfl (rn_lenS rfl Try.underlying28 (T.ev 0 rfl)) ?_; clear T ac; intro ac T
          refine l_q T rfl rfl rfl rfl (rn_lss rfl (T.ev 2 rfl) (T.ev 0 rfl)) ?_; clear T ac; intro ac T
          refine wpList_nil ?_
          replace T := T.pick [0, 4, 5, 6, 7] rfl
          refine nm_then ?_
          refine wp_if (T.ev 0 rfl) ?_ ?_
          · intro h3
            obtain ⟨x0, x1, hk1, hd⟩ := rc_next (l := shx j.sh) (k := k) (by omega)
            have hb1 := shx_bd hj hk1
            rw [hd] at H
            refine wp_skip ?_
            refine nm_then ?_
            refine wp_seq ?_
            refine wp_block ?_
            refine g_start2 M (M.mask [true] rfl) 22 (by kernel_rfl) rfl (by kernel_rfl) ?_
            clear M; intro wc M
            refine g_q (T := T) (i := 0) rfl (by kernel_rfl) (by kernel_rfl : (pbits 22 0).setIfInBounds 0 true = pbits 22 1) si_U (fun _ _ _ h => h) rfl rfl rfl rfl (fun _ _ _ _ _ => (rn_move rfl (T.ev 3 rfl))) ?_; clear T ac; intro ac T
            refine g_q (v := (.pointer (some ⟨gr4_5, 0, none⟩))) (T := T) (i := 1) rfl (by kernel_rfl) (by kernel_rfl : (pbits 22 1).setIfInBounds 1 true = pbits 22 3) si_U (fun _ _ _ h => h) rfl rfl rfl rfl (fun _ _ _ _ _ => (rn_fieldAddr (off := 0) rfl (T.ev 2 rfl) (fun _ _ _ => by kernel_rfl))) ?_; clear T ac; intro ac T
            refine g_q (v := (.pointer (some ⟨gr4_5, 1, none⟩))) (T := T) (i := 2) rfl (by kernel_rfl) (by kernel_rfl : (pbits 22 3).setIfInBounds 2 true = pbits 22 7) si_U (fun _ _ _ h => h) rfl rfl rfl rfl (fun _ _ _ _ _ => (rn_fieldAddr (off := 1) rfl (T.ev 0 rfl) (fun _ _ _ => by kernel_rfl))) ?_; clear T ac; intro ac T
            refine g_q (T := T) (i := 3) rfl (by kernel_rfl) (by kernel_rfl : (pbits 22 7).setIfInBounds 3 true = pbits 22 15) si_U (fun _ _ _ h => h) rfl rfl rfl rfl (fun B w' hD hl hS => (rn_one (Mem.nth (show Mem w noEx w' _ from hS) 0 rfl) rfl (T.ev 0 rfl) rfl)) ?_; clear T ac; intro ac T
            refine g_q (T := T) (i := 4) rfl (by kernel_rfl) (by kernel_rfl : (pbits 22 15).setIfInBounds 4 true = pbits 22 31) si_U (fun _ _ _ h => h) rfl rfl rfl rfl (fun _ _ _ _ _ => (rn_move rfl (T.ev 6 rfl))) ?_; clear T ac; intro ac T
            refine g_q (T := T) (i := 5) rfl (by kernel_rfl) (by kernel_rfl : (pbits 22 31).setIfInBounds 5 true = pbits 22 63) si_U (fun _ _ _ h => h) rfl rfl rfl rfl (fun _ _ _ _ _ => (rn_move rfl (T.ev 9 rfl))) ?_; clear T ac; intro ac T
            refine g_q (T := T) (i := 6) rfl (by kernel_rfl) (by kernel_rfl : (pbits 22 63).setIfInBounds 6 true = pbits 22 127) si_U (fun _ _ _ h => h) rfl rfl rfl rfl (fun _ _ _ _ _ => (rn_indexAddr (size := 2) k rfl (T.ev 1 rfl) (T.ev 0 rfl) ⟨_, Try.underlying28, by kernel_rfl⟩ rfl (by omega) (Sur4_4.at0 (by omega)))) ?_; clear T ac; intro ac T
            refine g_q (T := T) (i := 7) rfl (by kernel_rfl) (by kernel_rfl : (pbits 22 127).setIfInBounds 7 true = pbits 22 255) si_U (fun _ _ _ h => h) rfl rfl rfl rfl (fun _ _ _ _ _ => (rn_fieldAddr (off := 1) rfl (T.ev 0 rfl) (fun _ _ _ => by kernel_rfl))) ?_; clear T ac; intro ac T
            refine g_q (T := T) (i := 8) rfl (by kernel_rfl) (by kernel_rfl : (pbits 22 255).setIfInBounds 8 true = pbits 22 511) si_U (fun _ _ _ h => h) rfl rfl rfl rfl (fun B w' hD hl hS => (rn_cell (Sp.rc1 Sur4_4 (show Mem w noEx w' _ from hS) (.cons _ (List.Sublist.refl _)) hk1) rfl (T.ev 0 rfl))) ?_; clear T ac; intro ac T
            refine g_q (T := T) (i := 9) rfl (by kernel_rfl) (by kernel_rfl : (pbits 22 511).setIfInBounds 9 true = pbits 22 1023) si_U (fun _ _ _ h => h) rfl rfl rfl rfl (fun _ _ _ _ _ => (rn_add rfl (T.ev 5 rfl) (T.ev 0 rfl) (by omega))) ?_; clear T ac; intro ac T
            refine g_q (v := (.pointer (some ⟨gr4_5, 0, none⟩))) (T := T) (i := 10) rfl (by kernel_rfl) (by kernel_rfl : (pbits 22 1023).setIfInBounds 10 true = pbits 22 2047) si_U (fun _ _ _ h => h) rfl rfl rfl rfl (fun _ _ _ _ _ => (rn_fieldAddr (off := 0) rfl (T.ev 11 rfl) (fun _ _ _ => by kernel_rfl))) ?_; clear T ac; intro ac T
            refine g_q (v := (.pointer (some ⟨gr4_5, 0, none⟩))) (T := T) (i := 11) rfl (by kernel_rfl) (by kernel_rfl : (pbits 22 2047).setIfInBounds 11 true = pbits 22 4095) si_U (fun _ _ _ h => h) rfl rfl rfl rfl (fun _ _ _ _ _ => (rn_fieldAddr (off := 0) rfl (T.ev 0 rfl) (fun _ _ _ => by kernel_rfl))) ?_; clear T ac; intro ac T
            refine g_q (T := T) (i := 12) rfl (by kernel_rfl) (by kernel_rfl : (pbits 22 4095).setIfInBounds 12 true = pbits 22 8191) si_U (fun _ _ _ h => h) rfl rfl rfl rfl (fun B w' hD hl hS => (rn_one (Mem.nth (show Mem w noEx w' _ from hS) 0 rfl) rfl (T.ev 0 rfl) rfl)) ?_; clear T ac; intro ac T
            refine g_q (T := T) (i := 13) rfl (by kernel_rfl) (by kernel_rfl : (pbits 22 8191).setIfInBounds 13 true = pbits 22 16383) si_U (fun _ _ _ h => h) rfl rfl rfl rfl (fun _ _ _ _ _ => (rn_move rfl (T.ev 15 rfl))) ?_; clear T ac; intro ac T
            refine g_q (T := T) (i := 14) rfl (by kernel_rfl) (by kernel_rfl : (pbits 22 16383).setIfInBounds 14 true = pbits 22 32767) si_U (fun _ _ _ h => h) rfl rfl rfl rfl (fun _ _ _ _ _ => (rn_move rfl (T.ev 18 rfl))) ?_; clear T ac; intro ac T
            refine g_q (T := T) (i := 15) rfl (by kernel_rfl) (by kernel_rfl : (pbits 22 32767).setIfInBounds 15 true = pbits 22 65535) si_U (fun _ _ _ h => h) rfl rfl rfl rfl (fun _ _ _ _ _ => (rn_indexAddr (size := 2) k rfl (T.ev 1 rfl) (T.ev 0 rfl) ⟨_, Try.underlying28, by kernel_rfl⟩ rfl (by omega) (Sur4_4.at0 (by omega)))) ?_; clear T ac; intro ac T
            refine g_q (T := T) (i := 16) rfl (by kernel_rfl) (by kernel_rfl : (pbits 22 65535).setIfInBounds 16 true = pbits 22 131071) si_U (fun _ _ _ h => h) rfl rfl rfl rfl (fun _ _ _ _ _ => (rn_fieldAddr (off := 0) rfl (T.ev 0 rfl) (fun _ _ _ => by kernel_rfl))) ?_; clear T ac; intro ac T
            refine g_q (T := T) (i := 17) rfl (by kernel_rfl) (by kernel_rfl : (pbits 22 131071).setIfInBounds 17 true = pbits 22 262143) si_U (fun _ _ _ h => h) rfl rfl rfl rfl (fun B w' hD hl hS => (rn_cell (Sp.rc0 Sur4_4 (show Mem w noEx w' _ from hS) (.cons _ (List.Sublist.refl _)) hk1) rfl (T.ev 0 rfl))) ?_; clear T ac; intro ac T
            refine g_q (T := T) (i := 18) rfl (by kernel_rfl) (by kernel_rfl : (pbits 22 262143).setIfInBounds 18 true = pbits 22 524287) si_U (fun _ _ _ h => h) rfl rfl rfl rfl (fun _ _ _ _ _ => (rn_add rfl (T.ev 5 rfl) (T.ev 0 rfl) (by omega))) ?_; clear T ac; intro ac T
            refine g_q (T := T) (i := 19) rfl (by kernel_rfl) (by kernel_rfl : (pbits 22 524287).setIfInBounds 19 true = pbits 22 1048575) si_U (fun _ _ _ h => h) rfl rfl rfl rfl (fun _ _ _ _ _ => (rn_neg rfl (T.ev 0 rfl) (by omega))) ?_; clear T ac; intro ac T
            refine g_q (T := T) (i := 20) rfl (by kernel_rfl) (by kernel_rfl : (pbits 22 1048575).setIfInBounds 20 true = pbits 22 2097151) si_U (fun _ _ _ h => h) rfl rfl rfl rfl (fun _ _ _ _ _ => (rn_max3 rfl (T.ev 19 rfl) (T.ev 10 rfl) (T.ev 0 rfl))) ?_; clear T ac; intro ac T
            refine g_q (v := (.int .i64 (max (max y (((j.st.after l).p1) + x1)) (-(((j.st.after l).p0) + x0))))) (T := T.pick [0, 1, 2, 3, 4, 5, 6, 7, 8, 9, 10, 11, 12, 13, 14, 15, 16, 17, 18, 19, 20, 21, 22, 23, 25] rfl) (i := 21) rfl (by kernel_rfl) (by kernel_rfl : (pbits 22 2097151).setIfInBounds 21 true = pbits 22 4194303) si_U (fun _ _ _ h => h) rfl rfl rfl rfl (fun _ _ _ _ _ => (rn_assign rfl (T.ev 0 rfl))) ?_; clear T ac; intro ac T
            refine g_done (by kernel_rfl) ?_
            replace T := T.pick [0, 23, 24, 25] rfl
            refine nm_blk ?_
            refine nm_then ?_
            refine wp_region_lit ?_
            refine l_q T rfl rfl rfl rfl (rn_move rfl (T.ev 3 rfl)) ?_; clear T ac; intro ac T
            refine l_q T rfl rfl rfl rfl (rn_add rfl (T.ev 0 rfl) evc (by omega)) ?_; clear T ac; intro ac T
            refine l_q (v := (.int .i64 ((k : Int) + 1))) (T.pick [0, 1, 2, 3, 4] rfl) rfl rfl rfl rfl (rn_assign rfl (T.ev 0 rfl)) ?_; clear T ac; intro ac T
            refine wpList_nil ?_
            replace T := T.pick [0, 3, 4, 5] rfl
            refine nm_then ?_
            exact ⟨_, by omega, k + 1, _, rfl, (by omega), H, T.pick [2, 3, 1, 0] rfl, M.mask [true] rfl⟩
          · intro h3
            rw [List.drop_of_length_le (by omega)] at H
            refine wp_exit ?_
            refine ex_then ?_
            refine ex_then ?_
            refine ex_hit ?_
            refine nm_then ?_
            refine wp_seq ?_
            refine wp_region_lit ?_
            refine l_q T rfl rfl rfl rfl (rn_move rfl (T.ev 3 rfl)) ?_; clear T ac; intro ac T
            refine l_q T rfl rfl rfl rfl (rn_assign rfl (T.ev 0 rfl)) ?_; clear T ac; intro ac T
            refine l_q T rfl rfl rfl rfl (rn_assign rfl evc) ?_; clear T ac; intro ac T
            refine wpList_nil ?_
            replace T := T.pick [0, 1] rfl
            replace M := M.mask [false] rfl
            refine nm_then ?_
            refine wp_ret ?_
            refine rt_2 T rfl (T.ev 1 rfl) (T.ev 0 rfl) ?_
            refine ⟨?_, M.below⟩
            unfold rworstT
            rw [if_pos h1, H]
            rfl
    · refine g_i rfl (by kernel_rfl : (pbits 9 11).setIfInBounds 5 true = pbits 9 43) rfl ?_; intro K hK
      refine ow_al M T rfl rfl rfl rfl ?_; clear M T; intro gr4_5 wc ac M T
      refine sh_out hK _ _ (M.mask [false, true] rfl) ?_; clear hK K
      refine g_w (i := 2) (by kernel_rfl) rfl (by kernel_rfl : (pbits 9 43).setIfInBounds 2 true = pbits 9 47) rfl ?_; intro K hK
      refine ow_call (first := []) (cap := []) T rfl rfl rfl rfl evf (.cons (T.ev 3 rfl) (.cons (T.ev 2 rfl) .nil)) Try.func98 rfl rfl ?_
      refine Calls.mono (rafter_any j _ _ _ _ _ l _ (SI.rd M (List.nil_sublist _)) (by omega) hst) ?_
      clear T
      rintro e wc ⟨rfl, hb⟩
      intro ac T
      replace M := M.call hb; clear hb
      refine sh_out hK _ _ (M.mask [false, true] rfl) ?_; clear hK K
      refine g_w (i := 4) (by kernel_rfl) rfl (by kernel_rfl : (pbits 9 47).setIfInBounds 4 true = pbits 9 63) rfl ?_; intro K hK
      refine ow_call (first := []) (cap := []) T rfl rfl rfl rfl evf (.cons (T.ev 2 rfl) .nil) Try.func99 rfl rfl ?_
      refine Calls.mono (shifts_any j _ _ _ hj) ?_
      clear T
      rintro e wc ⟨Aur4_4, cur4_4, Iur4_4, rfl, hdur4_4, N⟩
      intro ac T
      obtain ⟨bur4_4, our4_4, Sur4_4⟩ := SJ.shx hdur4_4
      have hlur4_4 := shx_pos j.sh
      have hfur4_4 := shx_few hj
      replace M := (M.join N).swapI
      replace M := M.mask [true, true] rfl
      refine sh_out hK _ _ (M.perm [1] rfl rfl) ?_; clear hK K
      refine g_w (i := 6) (by kernel_rfl) rfl (by kernel_rfl : (pbits 9 63).setIfInBounds 6 true = pbits 9 127) rfl ?_; intro K hK
      refine ow_stO M T rfl rfl (T.ev 2 rfl) (T.ev 1 rfl) rfl .head rfl (by simp) rfl (by kernel_rfl) ?_; clear M T; intro wc ac M T
      refine sh_out hK _ _ (M.perm [1] rfl rfl) ?_; clear hK K
      refine g_q (T := T) (i := 7) rfl (by kernel_rfl) (by kernel_rfl : (pbits 9 127).setIfInBounds 7 true = pbits 9 255) si_U (fun _ _ _ h => h) rfl rfl rfl rfl (fun _ _ _ _ _ => (rn_assign rfl (T.ev 0 rfl))) ?_; clear T ac; intro ac T
      refine g_q (T := T) (i := 8) rfl (by kernel_rfl) (by kernel_rfl : (pbits 9 255).setIfInBounds 8 true = pbits 9 511) si_U (fun _ _ _ h => h) rfl rfl rfl rfl (fun _ _ _ _ _ => (rn_assign rfl evc)) ?_; clear T ac; intro ac T
      refine g_done (by kernel_rfl) ?_
      replace T := T.pick [0, 1, 4] rfl
      replace M := M.mask [true, false] rfl
      refine nm_then ?_
      refine wp_seq ?_
      refine wp_seq ?_
      refine wp_region_lit ?_
      refine l_q T rfl rfl rfl rfl (rn_assign rfl evc) ?_; clear T ac; intro ac T
      refine wpList_nil ?_
      refine nm_then ?_
      refine wp_block ?_
      refine wp_loop_n (fun mz ac wc => ∃ (k : Nat) (y : Int), mz = (shx j.sh).length - k ∧ (k ≤ (shx j.sh).length) ∧ (rworstF (j.st.after l).p0 (j.st.after l).p1 (shx j.sh) 0 = rworstF (j.st.after l).p0 (j.st.after l).p1 ((shx j.sh).drop k) y) ∧ Tm ac 50 [(7, .pointer (some ⟨gr4_5, 0, none⟩)), (8, .slice Aur4_4 ((shx j.sh).length) cur4_4), (9, .int .i64 y), (10, .int .i64 (k : Int))] ∧ Mem w noEx wc ((gr4_5, .cells [.int .i64 ((j.st.after l).p0), .int .i64 ((j.st.after l).p1), .int .i64 ((j.st.after l).t0), .int .i64 ((j.st.after l).t1), .int .i64 ((j.st.after l).r0), .int .i64 ((j.st.after l).r1)]) :: Iur4_4)) ?_ ?_
      · exact ⟨_, 0, 0, rfl, (by omega), rfl, T.pick [3, 2, 1, 0] rfl, M.mask [true] rfl⟩
      · clear T M
        rintro mz ac wc ⟨k, y, hmm1, hkk, H, T, M⟩
        refine wp_seq ?_
        refine wp_seq ?_
        refine wp_region_lit ?_
        refine l_q T rfl rfl rfl rfl (rn_move rfl (T.ev 3 rfl)) ?_; clear T ac; intro ac T
        refine l_q T rfl rfl rfl rfl (rn_move rfl (T.ev 2 rfl)) ?_; clear T ac; intro ac T
        refine l_q T rfl rfl rfl rfl (rn_lenS rfl Try.underlying28 (T.ev 0 rfl)) ?_; clear T ac; intro ac T
        refine l_q T rfl rfl rfl rfl (rn_lss rfl (T.ev 2 rfl) (T.ev 0 rfl)) ?_; clear T ac; intro ac T
        refine wpList_nil ?_
        replace T := T.pick [0, 4, 5, 6, 7] rfl
        refine nm_then ?_
        refine wp_if (T.ev 0 rfl) ?_ ?_
        · intro h4
          obtain ⟨x0, x1, hk1, hd⟩ := rc_next (l := shx j.sh) (k := k) (by omega)
          have hb1 := shx_bd hj hk1
          rw [hd] at H
          refine wp_skip ?_
          refine nm_then ?_
          refine wp_seq ?_
          refine wp_block ?_
          refine g_start2 M (M.mask [true] rfl) 22 (by kernel_rfl) rfl (by kernel_rfl) ?_
          clear M; intro wc M
          refine g_q (T := T) (i := 0) rfl (by kernel_rfl) (by kernel_rfl : (pbits 22 0).setIfInBounds 0 true = pbits 22 1) si_U (fun _ _ _ h => h) rfl rfl rfl rfl (fun _ _ _ _ _ => (rn_move rfl (T.ev 3 rfl))) ?_; clear T ac; intro ac T
          refine g_q (v := (.pointer (some ⟨gr4_5, 0, none⟩))) (T := T) (i := 1) rfl (by kernel_rfl) (by kernel_rfl : (pbits 22 1).setIfInBounds 1 true = pbits 22 3) si_U (fun _ _ _ h => h) rfl rfl rfl rfl (fun _ _ _ _ _ => (rn_fieldAddr (off := 0) rfl (T.ev 2 rfl) (fun _ _ _ => by kernel_rfl))) ?_; clear T ac; intro ac T
          refine g_q (v := (.pointer (some ⟨gr4_5, 1, none⟩))) (T := T) (i := 2) rfl (by kernel_rfl) (by kernel_rfl : (pbits 22 3).setIfInBounds 2 true = pbits 22 7) si_U (fun _ _ _ h => h) rfl rfl rfl rfl (fun _ _ _ _ _ => (rn_fieldAddr (off := 1) rfl (T.ev 0 rfl) (fun _ _ _ => by kernel_rfl))) ?_; clear T ac; intro ac T
          refine g_q (T := T) (i := 3) rfl (by kernel_rfl) (by kernel_rfl : (pbits 22 7).setIfInBounds 3 true = pbits 22 15) si_U (fun _ _ _ h => h) rfl rfl rfl rfl (fun B w' hD hl hS => (rn_one (Mem.nth (show Mem w noEx w' _ from hS) 0 rfl) rfl (T.ev 0 rfl) rfl)) ?_; clear T ac; intro ac T
          refine g_q (T := T) (i := 4) rfl (by kernel_rfl) (by kernel_rfl : (pbits 22 15).setIfInBounds 4 true = pbits 22 31) si_U (fun _ _ _ h => h) rfl rfl rfl rfl (fun _ _ _ _ _ => (rn_move rfl (T.ev 6 rfl))) ?_; clear T ac; intro ac T
          refine g_q (T := T) (i := 5) rfl (by kernel_rfl) (by kernel_rfl : (pbits 22 31).setIfInBounds 5 true = pbits 22 63) si_U (fun _ _ _ h => h) rfl rfl rfl rfl (fun _ _ _ _ _ => (rn_move rfl (T.ev 9 rfl))) ?_; clear T ac; intro ac T
          refine g_q (T := T) (i := 6) rfl (by kernel_rfl) (by kernel_rfl : (pbits 22 63).setIfInBounds 6 true = pbits 22 127) si_U (fun _ _ _ h => h) rfl rfl rfl rfl (fun _ _ _ _ _ => (rn_indexAddr (size := 2) k rfl (T.ev 1 rfl) (T.ev 0 rfl) ⟨_, Try.underlying28, by kernel_rfl⟩ rfl (by omega) (Sur4_4.at0 (by omega)))) ?_; clear T ac; intro ac T
          refine g_q (T := T) (i := 7) rfl (by kernel_rfl) (by kernel_rfl : (pbits 22 127).setIfInBounds 7 true = pbits 22 255) si_U (fun _ _ _ h => h) rfl rfl rfl rfl (fun _ _ _ _ _ => (rn_fieldAddr (off := 1) rfl (T.ev 0 rfl) (fun _ _ _ => by kernel_rfl))) ?_; clear T ac; intro ac T
          refine g_q (T := T) (i := 8) rfl (by kernel_rfl) (by kernel_rfl : (pbits 22 255).setIfInBounds 8 true = pbits 22 511) si_U (fun _ _ _ h => h) rfl rfl rfl rfl (fun B w' hD hl hS => (rn_cell (Sp.rc1 Sur4_4 (show Mem w noEx w' _ from hS) (.cons _ (List.Sublist.refl _)) hk1) rfl (T.ev 0 rfl))) ?_; clear T ac; intro ac T
          refine g_q (T := T) (i := 9) rfl (by kernel_rfl) (by kernel_rfl : (pbits 22 511).setIfInBounds 9 true = pbits 22 1023) si_U (fun _ _ _ h => h) rfl rfl rfl rfl (fun _ _ _ _ _ => (rn_add rfl (T.ev 5 rfl) (T.ev 0 rfl) (by omega))) ?_; clear T ac; intro ac T
          refine g_q (v := (.pointer (some ⟨gr4_5, 0, none⟩))) (T := T) (i := 10) rfl (by kernel_rfl) (by kernel_rfl : (pbits 22 1023).setIfInBounds 10 true = pbits 22 2047) si_U (fun _ _ _ h => h) rfl rfl rfl rfl (fun _ _ _ _ _ => (rn_fieldAddr (off := 0) rfl (T.ev 11 rfl) (fun _ _ _ => by kernel_rfl))) ?_; clear T ac; intro ac T
          refine g_q (v := (.pointer (some ⟨gr4_5, 0, none⟩))) (T := T) (i := 11) rfl (by kernel_rfl) (by kernel_rfl : (pbits 22 2047).setIfInBounds 11 true = pbits 22 4095) si_U (fun _ _ _ h => h) rfl rfl rfl rfl (fun _ _ _ _ _ => (rn_fieldAddr (off := 0) rfl (T.ev 0 rfl) (fun _ _ _ => by kernel_rfl))) ?_; clear T ac; intro ac T
          refine g_q (T := T) (i := 12) rfl (by kernel_rfl) (by kernel_rfl : (pbits 22 4095).setIfInBounds 12 true = pbits 22 8191) si_U (fun _ _ _ h => h) rfl rfl rfl rfl (fun B w' hD hl hS => (rn_one (Mem.nth (show Mem w noEx w' _ from hS) 0 rfl) rfl (T.ev 0 rfl) rfl)) ?_; clear T ac; intro ac T
          refine g_q (T := T) (i := 13) rfl (by kernel_rfl) (by kernel_rfl : (pbits 22 8191).setIfInBounds 13 true = pbits 22 16383) si_U (fun _ _ _ h => h) rfl rfl rfl rfl (fun _ _ _ _ _ => (rn_move rfl (T.ev 15 rfl))) ?_; clear T ac; intro ac T
          refine g_q (T := T) (i := 14) rfl (by kernel_rfl) (by kernel_rfl : (pbits 22 16383).setIfInBounds 14 true = pbits 22 32767) si_U (fun _ _ _ h => h) rfl rfl rfl rfl (fun _ _ _ _ _ => (rn_move rfl (T.ev 18 rfl))) ?_; clear T ac; intro ac T
          refine g_q (T := T) (i := 15) rfl (by kernel_rfl) (by kernel_rfl : (pbits 22 32767).setIfInBounds 15 true = pbits 22 65535) si_U (fun _ _ _ h => h) rfl rfl rfl rfl (fun _ _ _ _ _ => (rn_indexAddr (size := 2) k rfl (T.ev 1 rfl) (T.ev 0 rfl) ⟨_, Try.underlying28, by kernel_rfl⟩ rfl (by omega) (Sur4_4.at0 (by omega)))) ?_; clear T ac; intro ac T
          refine g_q (T := T) (i := 16) rfl (by kernel_rfl) (by kernel_rfl : (pbits 22 65535).setIfInBounds 16 true = pbits 22 131071) si_U (fun _ _ _ h => h) rfl rfl rfl rfl (fun _ _ _ _ _ => (rn_fieldAddr (off := 0) rfl (T.ev 0 rfl) (fun _ _ _ => by kernel_rfl))) ?_; clear T ac; intro ac T
          refine g_q (T := T) (i := 17) rfl (by kernel_rfl) (by kernel_rfl : (pbits 22 131071).setIfInBounds 17 true = pbits 22 262143) si_U (fun _ _ _ h => h) rfl rfl rfl rfl (fun B w' hD hl hS => (rn_cell (Sp.rc0 Sur4_4 (show Mem w noEx w' _ from hS) (.cons _ (List.Sublist.refl _)) hk1) rfl (T.ev 0 rfl))) ?_; clear T ac; intro ac T
          refine g_q (T := T) (i := 18) rfl (by kernel_rfl) (by kernel_rfl : (pbits 22 262143).setIfInBounds 18 true = pbits 22 524287) si_U (fun _ _ _ h => h) rfl rfl rfl rfl (fun _ _ _ _ _ => (rn_add rfl (T.ev 5 rfl) (T.ev 0 rfl) (by omega))) ?_; clear T ac; intro ac T
          refine g_q (T := T) (i := 19) rfl (by kernel_rfl) (by kernel_rfl : (pbits 22 524287).setIfInBounds 19 true = pbits 22 1048575) si_U (fun _ _ _ h => h) rfl rfl rfl rfl (fun _ _ _ _ _ => (rn_neg rfl (T.ev 0 rfl) (by omega))) ?_; clear T ac; intro ac T
          refine g_q (T := T) (i := 20) rfl (by kernel_rfl) (by kernel_rfl : (pbits 22 1048575).setIfInBounds 20 true = pbits 22 2097151) si_U (fun _ _ _ h => h) rfl rfl rfl rfl (fun _ _ _ _ _ => (rn_max3 rfl (T.ev 19 rfl) (T.ev 10 rfl) (T.ev 0 rfl))) ?_; clear T ac; intro ac T
          refine g_q (v := (.int .i64 (max (max y (((j.st.after l).p1) + x1)) (-(((j.st.after l).p0) + x0))))) (T := T.pick [0, 1, 2, 3, 4, 5, 6, 7, 8, 9, 10, 11, 12, 13, 14, 15, 16, 17, 18, 19, 20, 21, 22, 23, 25] rfl) (i := 21) rfl (by kernel_rfl) (by kernel_rfl : (pbits 22 2097151).setIfInBounds 21 true = pbits 22 4194303) si_U (fun _ _ _ h => h) rfl rfl rfl rfl (fun _ _ _ _ _ => (rn_assign rfl (T.ev 0 rfl))) ?_; clear T ac; intro ac T
          refine g_done (by kernel_rfl) ?_
          replace T := T.pick [0, 23, 24, 25] rfl
          refine nm_blk ?_
          refine nm_then ?_
          refine wp_region_lit ?_
          refine l_q T rfl rfl rfl rfl (rn_move rfl (T.ev 3 rfl)) ?_; clear T ac; intro ac T
          refine l_q T rfl rfl rfl rfl (rn_add rfl (T.ev 0 rfl) evc (by omega)) ?_; clear T ac; intro ac T
          refine l_q (v := (.int .i64 ((k : Int) + 1))) (T.pick [0, 1, 2, 3, 4] rfl) rfl rfl rfl rfl (rn_assign rfl (T.ev 0 rfl)) ?_; clear T ac; intro ac T
          refine wpList_nil ?_
          replace T := T.pick [0, 3, 4, 5] rfl
          refine nm_then ?_
          exact ⟨_, by omega, k + 1, _, rfl, (by omega), H, T.pick [2, 3, 1, 0] rfl, M.mask [true] rfl⟩
        · intro h4
          rw [List.drop_of_length_le (by omega)] at H
          refine wp_exit ?_
          refine ex_then ?_
          refine ex_then ?_
          refine ex_hit ?_
          refine nm_then ?_
          refine wp_seq ?_
          refine wp_region_lit ?_
          refine l_q T rfl rfl rfl rfl (rn_move rfl (T.ev 3 rfl)) ?_; clear T ac; intro ac T
          refine l_q T rfl rfl rfl rfl (rn_assign rfl (T.ev 0 rfl)) ?_; clear T ac; intro ac T
          refine l_q T rfl rfl rfl rfl (rn_assign rfl evc) ?_; clear T ac; intro ac T
          refine wpList_nil ?_
          replace T := T.pick [0, 1] rfl
          replace M := M.mask [false] rfl
          refine nm_then ?_
          refine wp_ret ?_
          refine rt_2 T rfl (T.ev 1 rfl) (T.ev 0 rfl) ?_
          refine ⟨?_, M.below⟩
          unfold rworstT
          rw [if_pos h1, H]
          rfl

end Go.Proofs.Ythlpceoajhcliaa
end

section
/-
  Plain laws: what ref1 says is what the program computes.
-/
namespace Go.Proofs.Ythlpceoajhcliaa
set_option linter.unusedSimpArgs false
set_option linter.unusedVariables false

theorem winL_lo (j : Jb) (n : Int) : (winL j).1 ≤ n ↔ ∀ s ∈ shx j.sh, -j.wi - s.2 ≤ n := by
  unfold winL looseL shx
  cases h : j.sh with
  | nil => simp [winOf]
  | cons q r =>
    simp only [List.map_cons, winOf, meet_lo, List.mem_map, forall_exists_index, and_imp, forall_apply_eq_imp_iff₂, reduceCtorEq, if_false, List.mem_cons, forall_eq_or_imp]
theorem winL_hi (j : Jb) (n : Int) : n ≤ (winL j).2 ↔ ∀ s ∈ shx j.sh, n ≤ j.wi - s.1 := by
  unfold winL looseL shx
  cases h : j.sh with
  | nil => simp [winOf]
  | cons q r =>
    simp only [List.map_cons, winOf, meet_hi, List.mem_map, forall_exists_index, and_imp, forall_apply_eq_imp_iff₂, reduceCtorEq, if_false, List.mem_cons, forall_eq_or_imp]
theorem canAt_iff (j : Jb) (p : Int) : canAt j p = true ↔ (winL j).1 ≤ p ∧ p ≤ (winL j).2 := by
  rw [winL_lo, winL_hi]
  unfold canAt
  rw [List.all_eq_true]
  simp only [Bool.and_eq_true, decide_eq_true_eq]
  constructor
  · exact fun h => ⟨fun s hs => by have := h s hs; omega, fun s hs => by have := h s hs; omega⟩
  · exact fun h s hs => by have a := h.1 s hs; have b := h.2 s hs; omega
theorem anyN_iff (f : Int → Bool) : ∀ (n : Nat) (p : Int), anyN f n p = true ↔ ∃ q, p ≤ q ∧ q < p + n ∧ f q = true
  | 0, p => by simp [anyN]; intro x h1 h2; omega
  | n + 1, p => by
    rw [anyN, Bool.or_eq_true, anyN_iff f n (p + 1)]
    constructor
    · rintro (h | ⟨q, h1, h2, h3⟩)
      · exact ⟨p, by omega, by omega, h⟩
      · exact ⟨q, by omega, by omega, h3⟩
    · rintro ⟨q, h1, h2, h3⟩
      by_cases e : q = p
      · subst e; exact .inl h3
      · exact .inr ⟨q, by omega, by omega, h3⟩
theorem rpass_eq (j : Jb) {p0 p1 : Int} (h : p0 ≤ p1) : rpass j p0 p1 = passesJ j p0 p1 := by
  unfold rpass passesJ
  rw [rwin_eq]
  by_cases h1 : hasB (winS j).1 (winS j).2 p0 p1 = true
  · rw [if_pos h1, if_pos h1]
  · rw [if_neg h1, if_neg h1]
    have e : (meetL (winL j) [(p0, p1)]) = mstep (winL j) (p0, p1) := rfl
    rw [e]
    have hc : anyN (canAt j) (p1 + 1 - p0).toNat p0 = true ↔ ¬ (mstep (winL j) (p0, p1)).2 < (mstep (winL j) (p0, p1)).1 := by
      rw [anyN_iff]
      simp only [canAt_iff, mstep]
      constructor
      · rintro ⟨q, h2, h3, h4, h5⟩
        (repeat' split) <;> omega
      · intro h2
        refine ⟨if (winL j).1 < p0 then p0 else (winL j).1, ?_⟩
        revert h2
        (repeat' split) <;> intro h2 <;> refine ⟨?_, ?_, ?_, ?_⟩ <;> omega
    by_cases h2 : anyN (canAt j) (p1 + 1 - p0).toNat p0 = true
    · rw [if_pos h2, if_neg (hc.1 h2)]
    · rw [if_neg h2, if_pos (by by_cases h3 : (mstep (winL j) (p0, p1)).2 < (mstep (winL j) (p0, p1)).1; exact h3; exact absurd (hc.2 h3) h2)]
theorem rpassT_eq (j : Jb) : rpassT j = passesT j := by
  unfold rpassT passesT
  by_cases h : checkJ j = 0
  · rw [if_pos h, if_pos h, rpass_eq j (good_of h).p.2.1]
  · rw [if_neg h, if_neg h]
/-- What files leave in order. -/
structure St.ord (s : St) : Prop where
  p : s.p0 ≤ s.p1
  u : s.u0 ≤ s.u1
  d : s.d0 ≤ s.d1
theorem St.ord.filed {s : St} (h : s.ord) (k : Int) : (s.filed k).ord := by
  obtain ⟨h1, h2, h3⟩ := h
  unfold St.filed
  split
  · exact ⟨by simp only [St.tip]; omega, h2, h3⟩
  · exact ⟨by simp only [St.root]; omega, h2, h3⟩
theorem St.ord.after : ∀ (l : List Int) {s : St}, s.ord → (s.after l).ord
  | [], _, h => h
  | k :: l, _, h => St.ord.after l (h.filed k)
theorem good_ord {j : Jb} (h : j.good) : j.st.ord := ⟨h.p.2.1, h.u.2.1, h.d.2.1⟩
theorem rfineJ_eq {j : Jb} (h : j.good) (l : List Int) : rfineJ j l = fineJ j (j.st.after l) := by
  unfold rfineJ fineJ
  rw [rpass_eq j ((good_ord h).after l).p]
theorem rfineT_eq (j : Jb) (l : List Int) : rfineT j l = fineT j l := by
  unfold rfineT fineT
  by_cases h : checkStrokesJ j l = 0
  · rw [if_pos h, if_pos h, rfineJ_eq (good_of (strokes_of h).1)]
  · rw [if_neg h, if_neg h]
theorem rworst_eq (p0 p1 : Int) : ∀ (l : List (Int × Int)) (n : Int), rworstF p0 p1 l n = l.foldl (wstep p0 p1) n
  | [], n => rfl
  | s :: l, n => by
    have e : rworstF p0 p1 (s :: l) n = rworstF p0 p1 l (max (max n (p1 + s.2)) (-(p0 + s.1))) := rfl
    rw [e, rworst_eq p0 p1 l, List.foldl_cons]
    have : max (max n (p1 + s.2)) (-(p0 + s.1)) = wstep p0 p1 n s := by
      unfold wstep
      (repeat' split) <;> omega
    rw [this]
theorem rworstT_eq (j : Jb) (l : List Int) : rworstT j l = worstT j l := by
  unfold rworstT worstT
  by_cases h : checkStrokesJ j l = 0
  · rw [if_pos h, if_pos h, rworst_eq]; rfl
  · rw [if_neg h, if_neg h]

end Go.Proofs.Ythlpceoajhcliaa
end

section
/-
  kit: ranges that are made, lists of numbers that are equal.
-/
namespace Go.Proofs.Ythlpceoajhcliaa
set_option linter.unusedSimpArgs false
set_option linter.unusedVariables false
open Go.RowKit

set_option maxHeartbeats 400000 in
theorem to_any (a b : Int) (w : World) :
    Calls Try.prog 31 #[.int .i64 a, .int .i64 b] w fun e w' => e = .returned (R2 a b) ∧ Below w.heap.size w w' := by
  go_enter Try.func31, Try.ntmps31
  go_wp2
  go_returns; refine ⟨rfl, ?_⟩; (repeat' (first | (with_reducible exact Below.refl _ _) | (with_reducible refine Below.alloc ?_ ?_ _) | (with_reducible refine Below.setCell ?_ ?_ _) | (with_reducible refine Below.drew ?_) | ((with_reducible refine Below.trans ?_ (Below.mono (by assumption) ?_))) | go_size))

theorem wp_store_blk {P : Program} {op : Oper} {a : Act} {w : World} {K : Act → World → Prop} {Q : Exit → Act → World → Prop} (ty : TypeId) (x y : Operand) (ho : op.op = .store ty x y)
    (g : Nat) (ds cs : Array Value) (hx : a.eval x = .pointer (some ⟨g, 0, none⟩)) (hy : a.eval y = .agg ds) (hB : Bk w g cs) (hs : ds.size = cs.size)
    (hi : (P.info? ty).map (·.size) = some ds.size) (h1 : ds.all (·.oneCell') = true)
    (h : ∀ w', Bk w' g ds → Oth w w' g → K (a.put op.dst undef) w') : op.wp P a w K Q :=
  wp_store_mid ty x y ho g 0 ds hx hy (by rw [hs]; exact hB.there) hi h1 (h _ (hB.setCells ds hs) (Oth.setCells g _ _ _))

theorem take_eq_succ {k l : List Int} {p : Nat} {x y : Int} (h1 : k.drop p = x :: k.drop (p + 1)) (h2 : l.drop p = y :: l.drop (p + 1)) : decide (k.take (p + 1) = l.take (p + 1)) = (decide (k.take p = l.take p) && decide (x = y)) := by
  have a : ∀ {m : List Int} {z : Int}, m.drop p = z :: m.drop (p + 1) → m.take (p + 1) = m.take p ++ [z] := by
    intro m z h
    have hk : p < m.length := by
      rcases Nat.lt_or_ge p m.length with h' | h'
      · exact h'
      · rw [List.drop_of_length_le h'] at h; cases h
    rw [List.drop_eq_getElem_cons hk] at h
    injection h with h _
    rw [List.take_succ_eq_append_getElem hk, h]
  rw [a h1, a h2]
  rw [Bool.eq_iff_iff]
  simp only [Bool.and_eq_true, decide_eq_true_eq]
  constructor
  · intro h
    have := List.append_inj' h rfl
    exact ⟨this.1, by simpa using this.2⟩
  · rintro ⟨h, rfl⟩; rw [h]

set_option maxRecDepth 100000 in
set_option maxHeartbeats 1000000 in
theorem sameInts_any (A B : Option Addr) (n m c d : Nat) (k l : List Int) (w : World) (ha : Rd w w.heap.size 1 A n (ic k)) (hb : Rd w w.heap.size 1 B m (ic l)) (hn : n ≤ 9223372036854775807) (hm : m ≤ 9223372036854775807) :
    Calls Try.prog 21 #[.slice A n c, .slice B m d] w fun e w' => e = .returned (.bool (decide (k = l))) ∧ Below w.heap.size w w' := by
  have HA := Lib.hid ha
  have HB := Lib.hid hb
  have HK := Lib.hid ha.len1
  have HL := Lib.hid hb.len1
  clear ha hb
  by_cases hnm : n = m
  · subst hnm
    have e0 : ((n : Int) == (n : Int)) = true := by simp
    have e1 : (n == n) = true := by simp
    go_enter Try.func21, Try.ntmps21
    go_wp2
    go_loopw [5, 6] (fun s i wr => ∃ (p : Nat) (b : Bool), p ≤ n ∧ i = .int .i64 p ∧ s = .bool b ∧ Hid (b = decide (k.take p = l.take p)) ∧ Below w.heap.size w wr) (fun _ i _ => n - (intOf i).toNat)
    case atStart => exact ⟨0, true, by omega, rfl, rfl, by show _ = _; simp, Below.refl _ _⟩
    case round =>
      obtain ⟨p, b, hp, rfl, rfl, he, hbw⟩ := hrel
      cases b with
      | false =>
        go_wp2
        go_ret
        have h := he.out
        exact ⟨ret_bool (by symm; simp; rintro rfl; simp at h), hbw⟩
      | true =>
        by_cases hlt : p < n
        · obtain ⟨b1, o1, x, rfl, hb1, hd1, d1⟩ := (HA.out.below hbw).at1 hlt
          obtain ⟨b2, o2, y, rfl, hb2, hd2, d2⟩ := (HB.out.below hbw).at1 hlt
          have HD1 := Lib.hid hd1
          have HD2 := Lib.hid hd2
          clear hd1 hd2
          have i0 : (0 : Int) ≤ (p : Int) := by omega
          have i1 : (p : Int) < (n : Int) := by omega
          go_wp2
          refine wp_region_G (fun _ W => W.cell? ⟨b1, o1 + p, none⟩ = some (.int .i64 x) ∧ W.cell? ⟨b2, o2 + p, none⟩ = some (.int .i64 y) ∧ Below w.heap.size w W) 10 (by kernel_rfl) (by kernel_rfl) ?s0 ?r0
          case s0 => (exact ⟨d1, d2, hbw.drew⟩)
          intro W0
          refine wpG_take (i := 0) (v := ?v1) rfl (by kernel_rfl) (by exact fun _ _ => Iff.rfl) (fun _ _ _ h => h) (Or.inl ⟨by rfl, ?y1⟩) ?r1
          case y1 => (intro w' hy; obtain ⟨L, hD, hl, hS⟩ := hy; clear hD hl hS; go_simp; (try with_reducible rfl))
          (try simp only [Act.put, List.getElem_toArray, List.getElem_cons_succ, List.getElem_cons_zero, List.setIfInBounds_toArray, List.set_cons_zero, List.set_cons_succ])
          refine wpG_take (i := 1) (v := ?v2) rfl (by kernel_rfl) (by exact fun _ _ => Iff.rfl) (fun _ _ _ h => h) (Or.inl ⟨by rfl, ?y2⟩) ?r2
          case y2 => (intro w' hy; obtain ⟨L, hD, hl, hS⟩ := hy; clear hD hl hS; go_simp; (try with_reducible rfl))
          (try simp only [Act.put, List.getElem_toArray, List.getElem_cons_succ, List.getElem_cons_zero, List.setIfInBounds_toArray, List.set_cons_zero, List.set_cons_succ])
          refine wpG_take (i := 2) (v := ?v3) rfl (by kernel_rfl) (by exact fun _ _ => Iff.rfl) (fun _ _ _ h => h) (Or.inl ⟨by rfl, ?y3⟩) ?r3
          case y3 => (intro w' hy; obtain ⟨L, hD, hl, hS⟩ := hy; clear hD hl hS; go_simp; (try with_reducible rfl))
          (try simp only [Act.put, List.getElem_toArray, List.getElem_cons_succ, List.getElem_cons_zero, List.setIfInBounds_toArray, List.set_cons_zero, List.set_cons_succ])
          refine wpG_take (i := 3) (v := ?v4) rfl (by kernel_rfl) (by exact fun _ _ => Iff.rfl) (fun _ _ _ h => h) (Or.inl ⟨by rfl, ?y4⟩) ?r4
          case y4 => (intro w' hy; obtain ⟨L, hD, hl, hS⟩ := hy; obtain ⟨s1, s2, _⟩ := hS; clear hD hl; go_simp; (try with_reducible rfl))
          (try simp only [Act.put, List.getElem_toArray, List.getElem_cons_succ, List.getElem_cons_zero, List.setIfInBounds_toArray, List.set_cons_zero, List.set_cons_succ])
          refine wpG_take (i := 4) (v := ?v5) rfl (by kernel_rfl) (by exact fun _ _ => Iff.rfl) (fun _ _ _ h => h) (Or.inl ⟨by rfl, ?y5⟩) ?r5
          case y5 => (intro w' hy; obtain ⟨L, hD, hl, hS⟩ := hy; clear hD hl hS; go_simp; (try with_reducible rfl))
          (try simp only [Act.put, List.getElem_toArray, List.getElem_cons_succ, List.getElem_cons_zero, List.setIfInBounds_toArray, List.set_cons_zero, List.set_cons_succ])
          refine wpG_take (i := 5) (v := ?v6) rfl (by kernel_rfl) (by exact fun _ _ => Iff.rfl) (fun _ _ _ h => h) (Or.inl ⟨by rfl, ?y6⟩) ?r6
          case y6 => (intro w' hy; obtain ⟨L, hD, hl, hS⟩ := hy; clear hD hl hS; go_simp; (try with_reducible rfl))
          (try simp only [Act.put, List.getElem_toArray, List.getElem_cons_succ, List.getElem_cons_zero, List.setIfInBounds_toArray, List.set_cons_zero, List.set_cons_succ])
          refine wpG_take (i := 6) (v := ?v7) rfl (by kernel_rfl) (by exact fun _ _ => Iff.rfl) (fun _ _ _ h => h) (Or.inl ⟨by rfl, ?y7⟩) ?r7
          case y7 => (intro w' hy; obtain ⟨L, hD, hl, hS⟩ := hy; clear hD hl hS; go_simp; (try with_reducible rfl))
          (try simp only [Act.put, List.getElem_toArray, List.getElem_cons_succ, List.getElem_cons_zero, List.setIfInBounds_toArray, List.set_cons_zero, List.set_cons_succ])
          refine wpG_take (i := 7) (v := ?v8) rfl (by kernel_rfl) (by exact fun _ _ => Iff.rfl) (fun _ _ _ h => h) (Or.inl ⟨by rfl, ?y8⟩) ?r8
          case y8 => (intro w' hy; obtain ⟨L, hD, hl, hS⟩ := hy; obtain ⟨s1, s2, _⟩ := hS; clear hD hl; go_simp; (try with_reducible rfl))
          (try simp only [Act.put, List.getElem_toArray, List.getElem_cons_succ, List.getElem_cons_zero, List.setIfInBounds_toArray, List.set_cons_zero, List.set_cons_succ])
          refine wpG_take (i := 8) (v := ?v9) rfl (by kernel_rfl) (by exact fun _ _ => Iff.rfl) (fun _ _ _ h => h) (Or.inl ⟨by rfl, ?y9⟩) ?r9
          case y9 => (intro w' hy; obtain ⟨L, hD, hl, hS⟩ := hy; clear hD hl hS; go_simp; (try with_reducible rfl))
          (try simp only [Act.put, List.getElem_toArray, List.getElem_cons_succ, List.getElem_cons_zero, List.setIfInBounds_toArray, List.set_cons_zero, List.set_cons_succ])
          refine wpG_take (i := 9) (v := ?v10) rfl (by kernel_rfl) (by exact fun _ _ => Iff.rfl) (fun _ _ _ h => h) (Or.inl ⟨by rfl, ?y10⟩) ?r10
          case y10 => (intro w' hy; obtain ⟨L, hD, hl, hS⟩ := hy; clear hD hl hS; go_simp; (try with_reducible rfl))
          (try simp only [Act.put, List.getElem_toArray, List.getElem_cons_succ, List.getElem_cons_zero, List.setIfInBounds_toArray, List.set_cons_zero, List.set_cons_succ])
          refine wpG_end (by kernel_rfl) ?_
          intro W
           hS
          have hbz := hS.2.2
          clear hS
          go_wp2
          go_roundw
          case rel => exact ⟨p + 1, (x == y), by omega, by go_num, rfl, by (show _ = _; rw [take_eq_succ HD1.out HD2.out, ← he.out]; rw [Bool.eq_iff_iff]; simp), hbz⟩
          case measure => simp [intOf]; omega
        · go_wp2
          go_ret
          have e1 : k.take p = k := List.take_of_length_le (by have := HK.out; omega)
          have e2 : l.take p = l := List.take_of_length_le (by have := HL.out; omega)
          have h := he.out
          rw [e1, e2] at h
          exact ⟨ret_bool h, hbw⟩
  · have e0 : ((n : Int) == (m : Int)) = false := by simp; omega
    have e1 : (n == m) = false := by simp; omega
    have HE : Hid (decide (k = l) = false) := by show _ = _; simp; intro h; have h1 := HK.out; have h2 := HL.out; rw [h] at h1; omega
    generalize decide (k = l) = dk at *
    go_enter Try.func21, Try.ntmps21
    go_wp2
    go_loopw [5, 6] (fun s i wr => s = .bool false ∧ Below w.heap.size w wr) (fun _ _ _ => 0)
    case atStart => exact ⟨rfl, Below.refl _ _⟩
    case round =>
      obtain ⟨rfl, hbw⟩ := hrel
      go_wp2
      go_ret
      exact ⟨ret_bool HE.out.symm, hbw⟩

end Go.Proofs.Ythlpceoajhcliaa
end

section
/-
  kit: whether ranges and jobs are the same; reed.Hear.
-/
namespace Go.Proofs.Ythlpceoajhcliaa
set_option linter.unusedSimpArgs false
set_option linter.unusedVariables false
open Go.RowKit



theorem eqT23 {x y : Operand} {a0 a1 b0 b1 : Int} {w : World} : (do eqGuard .eql 23 x y (.agg #[.int .i64 a0, .int .i64 a1]) (.agg #[.int .i64 b0, .int .i64 b1]); binOp .eql 23 (.agg #[.int .i64 a0, .int .i64 a1]) (.agg #[.int .i64 b0, .int .i64 b1]) : Sem Value).run Try.prog w = .ok (.bool ((decide (a0 = b0) && decide (a1 = b1)))) w := by
  go_simp
  (repeat' split) <;> simp_all
theorem neT23 {x y : Operand} {a0 a1 b0 b1 : Int} {w : World} : (do eqGuard .neq 23 x y (.agg #[.int .i64 a0, .int .i64 a1]) (.agg #[.int .i64 b0, .int .i64 b1]); binOp .neq 23 (.agg #[.int .i64 a0, .int .i64 a1]) (.agg #[.int .i64 b0, .int .i64 b1]) : Sem Value).run Try.prog w = .ok (.bool (!(decide (a0 = b0) && decide (a1 = b1)))) w := by
  go_simp
  (repeat' split) <;> simp_all


theorem eqT25 {x y : Operand} {a0 a1 a2 a3 a4 a5 b0 b1 b2 b3 b4 b5 : Int} {w : World} : (do eqGuard .eql 25 x y (.agg #[.int .i64 a0, .int .i64 a1, .int .i64 a2, .int .i64 a3, .int .i64 a4, .int .i64 a5]) (.agg #[.int .i64 b0, .int .i64 b1, .int .i64 b2, .int .i64 b3, .int .i64 b4, .int .i64 b5]); binOp .eql 25 (.agg #[.int .i64 a0, .int .i64 a1, .int .i64 a2, .int .i64 a3, .int .i64 a4, .int .i64 a5]) (.agg #[.int .i64 b0, .int .i64 b1, .int .i64 b2, .int .i64 b3, .int .i64 b4, .int .i64 b5]) : Sem Value).run Try.prog w = .ok (.bool ((decide (a0 = b0) && (decide (a1 = b1) && (decide (a2 = b2) && (decide (a3 = b3) && (decide (a4 = b4) && decide (a5 = b5)))))))) w := by
  go_simp
  (repeat' split) <;> simp_all
theorem neT25 {x y : Operand} {a0 a1 a2 a3 a4 a5 b0 b1 b2 b3 b4 b5 : Int} {w : World} : (do eqGuard .neq 25 x y (.agg #[.int .i64 a0, .int .i64 a1, .int .i64 a2, .int .i64 a3, .int .i64 a4, .int .i64 a5]) (.agg #[.int .i64 b0, .int .i64 b1, .int .i64 b2, .int .i64 b3, .int .i64 b4, .int .i64 b5]); binOp .neq 25 (.agg #[.int .i64 a0, .int .i64 a1, .int .i64 a2, .int .i64 a3, .int .i64 a4, .int .i64 a5]) (.agg #[.int .i64 b0, .int .i64 b1, .int .i64 b2, .int .i64 b3, .int .i64 b4, .int .i64 b5]) : Sem Value).run Try.prog w = .ok (.bool (!(decide (a0 = b0) && (decide (a1 = b1) && (decide (a2 = b2) && (decide (a3 = b3) && (decide (a4 = b4) && decide (a5 = b5)))))))) w := by
  go_simp
  (repeat' split) <;> simp_all


theorem eqT27 {x y : Operand} {a0 a1 a2 a3 a4 a5 a6 a7 a8 b0 b1 b2 b3 b4 b5 b6 b7 b8 : Int} {w : World} : (do eqGuard .eql 27 x y (.agg #[.int .i64 a0, .int .i64 a1, .int .i64 a2, .int .i64 a3, .int .i64 a4, .int .i64 a5, .int .i64 a6, .int .i64 a7, .int .i64 a8]) (.agg #[.int .i64 b0, .int .i64 b1, .int .i64 b2, .int .i64 b3, .int .i64 b4, .int .i64 b5, .int .i64 b6, .int .i64 b7, .int .i64 b8]); binOp .eql 27 (.agg #[.int .i64 a0, .int .i64 a1, .int .i64 a2, .int .i64 a3, .int .i64 a4, .int .i64 a5, .int .i64 a6, .int .i64 a7, .int .i64 a8]) (.agg #[.int .i64 b0, .int .i64 b1, .int .i64 b2, .int .i64 b3, .int .i64 b4, .int .i64 b5, .int .i64 b6, .int .i64 b7, .int .i64 b8]) : Sem Value).run Try.prog w = .ok (.bool ((decide (a0 = b0) && (decide (a1 = b1) && (decide (a2 = b2) && (decide (a3 = b3) && (decide (a4 = b4) && (decide (a5 = b5) && (decide (a6 = b6) && (decide (a7 = b7) && decide (a8 = b8))))))))))) w := by
  go_simp
  (repeat' split) <;> simp_all
theorem neT27 {x y : Operand} {a0 a1 a2 a3 a4 a5 a6 a7 a8 b0 b1 b2 b3 b4 b5 b6 b7 b8 : Int} {w : World} : (do eqGuard .neq 27 x y (.agg #[.int .i64 a0, .int .i64 a1, .int .i64 a2, .int .i64 a3, .int .i64 a4, .int .i64 a5, .int .i64 a6, .int .i64 a7, .int .i64 a8]) (.agg #[.int .i64 b0, .int .i64 b1, .int .i64 b2, .int .i64 b3, .int .i64 b4, .int .i64 b5, .int .i64 b6, .int .i64 b7, .int .i64 b8]); binOp .neq 27 (.agg #[.int .i64 a0, .int .i64 a1, .int .i64 a2, .int .i64 a3, .int .i64 a4, .int .i64 a5, .int .i64 a6, .int .i64 a7, .int .i64 a8]) (.agg #[.int .i64 b0, .int .i64 b1, .int .i64 b2, .int .i64 b3, .int .i64 b4, .int .i64 b5, .int .i64 b6, .int .i64 b7, .int .i64 b8]) : Sem Value).run Try.prog w = .ok (.bool (!(decide (a0 = b0) && (decide (a1 = b1) && (decide (a2 = b2) && (decide (a3 = b3) && (decide (a4 = b4) && (decide (a5 = b5) && (decide (a6 = b6) && (decide (a7 = b7) && decide (a8 = b8))))))))))) w := by
  go_simp
  (repeat' split) <;> simp_all


theorem same_start {α : Type} [DecidableEq α] (l r : List α) : decide (l = r) = (decide ((l.length : Int) = (r.length : Int)) && decide (l.drop 0 = r.drop 0)) := by
  by_cases h : l = r
  · subst h; simp
  · simp [h]
theorem same_next {x y x' y' : Int} {l r : List (Int × Int)} : decide ((x, y) :: l = (x', y') :: r) = ((decide (x = x') && decide (y = y')) && decide (l = r)) := by
  by_cases h1 : x = x' <;> by_cases h2 : y = y' <;> simp [h1, h2]


set_option maxRecDepth 100000 in
set_option maxHeartbeats 1000000 in
theorem sameRanges_any (A D : Option Addr) (n m c d : Nat) (l r : List (Int × Int)) (w : World) (hr : Rd w w.heap.size 2 A n (rc l)) (hs : Rd w w.heap.size 2 D m (rc r)) (hn : n ≤ 9223372036854775807) (hm : m ≤ 9223372036854775807) :
    Calls Try.prog 71 #[.slice A n c, .slice D m d] w fun e w' => e = .returned (.bool (decide (l = r))) ∧ Below w.heap.size w w' := by
  have hl := hr.len2
  have hl2 := hs.len2
  obtain ⟨bJ, oJ, SJ⟩ := Sp.old hr
  obtain ⟨bI, oI, SI⟩ := Sp.old hs
  refine px_enter noEx Try.func71 rfl 31 rfl [.slice A n c, .slice D m d] rfl rfl (Mem.init w _) ?_
  intro ac wc T M
  refine wp_seq ?_
  refine wp_region_lit ?_
  refine l_q T rfl rfl rfl rfl (rn_assign rfl evc) ?_; clear T ac; intro ac T
  refine wpList_nil ?_
  replace T := T.pick [1, 2] rfl
  refine nm_then ?_
  refine wp_seq ?_
  refine wp_region_lit ?_
  refine l_q T rfl rfl rfl rfl (rn_move rfl (T.ev 0 rfl)) ?_; clear T ac; intro ac T
  refine l_q T rfl rfl rfl rfl (rn_lenS rfl Try.underlying28 (T.ev 0 rfl)) ?_; clear T ac; intro ac T
  refine l_q T rfl rfl rfl rfl (rn_move rfl (T.ev 3 rfl)) ?_; clear T ac; intro ac T
  refine l_q T rfl rfl rfl rfl (rn_lenS rfl Try.underlying28 (T.ev 0 rfl)) ?_; clear T ac; intro ac T
  refine l_q T rfl rfl rfl rfl (rn_eql rfl (T.ev 2 rfl) (T.ev 0 rfl)) ?_; clear T ac; intro ac T
  refine l_q T rfl rfl rfl rfl (rn_assign rfl (T.ev 0 rfl)) ?_; clear T ac; intro ac T
  refine wpList_nil ?_
  replace T := T.pick [0, 6, 7] rfl
  refine nm_then ?_
  refine wp_seq ?_
  refine wp_seq ?_
  refine wp_region_lit ?_
  refine l_q T rfl rfl rfl rfl (rn_assign rfl evc) ?_; clear T ac; intro ac T
  refine wpList_nil ?_
  refine nm_then ?_
  refine wp_block ?_
  refine wp_loop_n (fun mz ac wc => ∃ (k : Nat) (b : Bool), mz = n - k ∧ (k ≤ n) ∧ (b = true → n = m) ∧ (decide (l = r) = (b && decide (l.drop k = r.drop k))) ∧ Tm ac 31 [(0, .slice A n c), (1, .slice D m d), (5, .bool b), (6, .int .i64 (k : Int))] ∧ Mem w noEx wc []) ?_ ?_
  · exact ⟨_, 0, _, rfl, (by omega), (fun h => by have := of_decide_eq_true h; omega), (by rw [same_start l r, hl, hl2]), T.pick [2, 3, 1, 0] rfl, M.mask [] rfl⟩
  · clear T M
    rintro mz ac wc ⟨k, b, hmm1, hk, hb, H, T, M⟩
    refine wp_seq ?_
    refine cut_seq (fun ac wc => Tm ac 31 [(0, .slice A n c), (1, .slice D m d), (5, .bool b), (6, .int .i64 (k : Int)), (18, .bool (b && (decide ((k : Int) < ((n : Nat) : Int)))))] ∧ Mem w noEx wc []) ?_ ?_
    · refine wp_region_lit ?_
      refine l_q T rfl rfl rfl rfl (rn_move rfl (T.ev 2 rfl)) ?_; clear T ac; intro ac T
      refine l_q T rfl rfl rfl rfl (rn_move rfl (T.ev 0 rfl)) ?_; clear T ac; intro ac T
      rcases Bool.eq_false_or_eq_true b with h1 | h1
      · refine l_q T (wanted_yes rfl rfl (T.ev 0 rfl) h1) rfl rfl rfl (rn_move rfl (T.ev 5 rfl)) ?_; clear T ac; intro ac T
        refine l_q T (wanted_yes rfl rfl (T.ev 1 rfl) h1) rfl rfl rfl (rn_move rfl (T.ev 3 rfl)) ?_; clear T ac; intro ac T
        refine l_q T (wanted_yes rfl rfl (T.ev 2 rfl) h1) rfl rfl rfl (rn_lenS rfl Try.underlying28 (T.ev 0 rfl)) ?_; clear T ac; intro ac T
        refine l_q T (wanted_yes rfl rfl (T.ev 3 rfl) h1) rfl rfl rfl (rn_lss rfl (T.ev 2 rfl) (T.ev 0 rfl)) ?_; clear T ac; intro ac T
        refine l_q T rfl rfl rfl rfl (rn_pick1 rfl (T.ev 4 rfl) h1 (T.ev 0 rfl)) ?_; clear T ac; intro ac T
        refine wpList_nil ?_
        replace T := T.pick [0, 1, 2, 3, 4, 7, 8, 9, 10] rfl
        exact ⟨(T.pick (E' := [(0, .slice A n c), (1, .slice D m d), (5, .bool b), (6, .int .i64 (k : Int)), (18, .bool (decide ((k : Int) < ((n : Nat) : Int))))]) [5, 6, 7, 8, 0] rfl).as (by (try rw [show b = true from h1]); rfl), M.mask [] rfl⟩
      · refine l_pass T (wanted_no rfl rfl (T.ev 0 rfl) h1) rfl rfl rfl ?_; clear T ac; intro ac T
        refine l_pass T (wanted_no rfl rfl (T.ev 1 rfl) h1) rfl rfl rfl ?_; clear T ac; intro ac T
        refine l_pass T (wanted_no rfl rfl (T.ev 2 rfl) h1) rfl rfl rfl ?_; clear T ac; intro ac T
        refine l_pass T (wanted_no rfl rfl (T.ev 3 rfl) h1) rfl rfl rfl ?_; clear T ac; intro ac T
        refine l_q T rfl rfl rfl rfl (rn_pick0 rfl (T.ev 4 rfl) h1 evc) ?_; clear T ac; intro ac T
        refine wpList_nil ?_
        replace T := T.pick [0, 1, 2, 3, 4, 7, 8, 9, 10] rfl
        exact ⟨(T.pick (E' := [(0, .slice A n c), (1, .slice D m d), (5, .bool b), (6, .int .i64 (k : Int)), (18, .bool false)]) [5, 6, 7, 8, 0] rfl).as (by (try rw [show b = false from h1]); rfl), M.mask [] rfl⟩
    · clear T M
      rintro ac wc ⟨T, M⟩
      refine wp_cond_split (T.ev 4 rfl) ?_ ?_
      · intro h2
        (try have h2' := h2; try simp only [Bool.and_eq_true, Bool.or_eq_true, Bool.not_eq_true', Bool.and_eq_false_imp, Bool.or_eq_false_iff, decide_eq_true_eq, decide_eq_false_iff_not] at h2')
        have h1 : b = true ∧ (k : Int) < (n : Int) := by simpa using h2
        have hnm := hb h1.1
        obtain ⟨x0, x1, hk1, hd⟩ := rc_next (l := l) (k := k) (by omega)
        obtain ⟨y0, y1, hk2, hd2⟩ := rc_next (l := r) (k := k) (by omega)
        rw [hd, hd2, h1.1, Bool.true_and, same_next] at H
        refine wp_skip ?_
        refine nm_then ?_
        refine wp_seq ?_
        refine wp_block ?_
        refine g_start2 M (M.mask [] rfl) 10 (by kernel_rfl) rfl (by kernel_rfl) ?_
        clear M; intro wc M
        refine g_q (T := T) (i := 0) rfl (by kernel_rfl) (by kernel_rfl : (pbits 10 0).setIfInBounds 0 true = pbits 10 1) si_U (fun _ _ _ h => h) rfl rfl rfl rfl (fun _ _ _ _ _ => (rn_move rfl (T.ev 0 rfl))) ?_; clear T ac; intro ac T
        refine g_q (T := T) (i := 1) rfl (by kernel_rfl) (by kernel_rfl : (pbits 10 1).setIfInBounds 1 true = pbits 10 3) si_U (fun _ _ _ h => h) rfl rfl rfl rfl (fun _ _ _ _ _ => (rn_move rfl (T.ev 4 rfl))) ?_; clear T ac; intro ac T
        refine g_q (T := T) (i := 2) rfl (by kernel_rfl) (by kernel_rfl : (pbits 10 3).setIfInBounds 2 true = pbits 10 7) si_U (fun _ _ _ h => h) rfl rfl rfl rfl (fun _ _ _ _ _ => (rn_indexAddr (size := 2) k rfl (T.ev 1 rfl) (T.ev 0 rfl) ⟨_, Try.underlying28, by kernel_rfl⟩ rfl (by omega) (SJ.at0 (by omega)))) ?_; clear T ac; intro ac T
        refine g_q (v := (.agg #[.int .i64 x0, .int .i64 x1])) (T := T) (i := 3) rfl (by kernel_rfl) (by kernel_rfl : (pbits 10 7).setIfInBounds 3 true = pbits 10 15) si_U (fun _ _ _ h => h) rfl rfl rfl rfl (fun B w' hD hl hS => (rn_rowat (Sp.rcR SJ (show Mem w noEx w' _ from hS) (List.nil_sublist _) hk1) rfl (T.ev 0 rfl) rfl)) ?_; clear T ac; intro ac T
        refine g_q (T := T) (i := 4) rfl (by kernel_rfl) (by kernel_rfl : (pbits 10 15).setIfInBounds 4 true = pbits 10 31) si_U (fun _ _ _ h => h) rfl rfl rfl rfl (fun _ _ _ _ _ => (rn_move rfl (T.ev 5 rfl))) ?_; clear T ac; intro ac T
        refine g_q (T := T) (i := 5) rfl (by kernel_rfl) (by kernel_rfl : (pbits 10 31).setIfInBounds 5 true = pbits 10 63) si_U (fun _ _ _ h => h) rfl rfl rfl rfl (fun _ _ _ _ _ => (rn_move rfl (T.ev 8 rfl))) ?_; clear T ac; intro ac T
        refine g_q (T := T) (i := 6) rfl (by kernel_rfl) (by kernel_rfl : (pbits 10 63).setIfInBounds 6 true = pbits 10 127) si_U (fun _ _ _ h => h) rfl rfl rfl rfl (fun _ _ _ _ _ => (rn_indexAddr (size := 2) k rfl (T.ev 1 rfl) (T.ev 0 rfl) ⟨_, Try.underlying28, by kernel_rfl⟩ rfl (by omega) (SI.at0 (by omega)))) ?_; clear T ac; intro ac T
        refine g_q (v := (.agg #[.int .i64 y0, .int .i64 y1])) (T := T) (i := 7) rfl (by kernel_rfl) (by kernel_rfl : (pbits 10 127).setIfInBounds 7 true = pbits 10 255) si_U (fun _ _ _ h => h) rfl rfl rfl rfl (fun B w' hD hl hS => (rn_rowat (Sp.rcR SI (show Mem w noEx w' _ from hS) (List.nil_sublist _) hk2) rfl (T.ev 0 rfl) rfl)) ?_; clear T ac; intro ac T
        refine g_q (v := (.bool ((decide (x0 = y0)) && (decide (x1 = y1))))) (T := T) (i := 8) rfl (by kernel_rfl) (by kernel_rfl : (pbits 10 255).setIfInBounds 8 true = pbits 10 511) si_U (fun _ _ _ h => h) rfl rfl rfl rfl (fun _ _ _ _ _ => (rn_bin rfl (T.ev 4 rfl) (T.ev 0 rfl) eqT23)) ?_; clear T ac; intro ac T
        refine g_q (v := (.bool ((decide (x0 = y0)) && (decide (x1 = y1))))) (T := T.pick [0, 1, 2, 3, 4, 5, 6, 7, 8, 9, 10, 12, 13] rfl) (i := 9) rfl (by kernel_rfl) (by kernel_rfl : (pbits 10 511).setIfInBounds 9 true = pbits 10 1023) si_U (fun _ _ _ h => h) rfl rfl rfl rfl (fun _ _ _ _ _ => (rn_assign rfl (T.ev 0 rfl))) ?_; clear T ac; intro ac T
        refine g_done (by kernel_rfl) ?_
        replace T := T.pick [0, 10, 11, 12] rfl
        refine nm_blk ?_
        refine nm_then ?_
        refine wp_region_lit ?_
        refine l_q T rfl rfl rfl rfl (rn_move rfl (T.ev 3 rfl)) ?_; clear T ac; intro ac T
        refine l_q T rfl rfl rfl rfl (rn_add rfl (T.ev 0 rfl) evc (by omega)) ?_; clear T ac; intro ac T
        refine l_q (v := (.int .i64 ((k : Int) + 1))) (T.pick [0, 1, 2, 3, 4] rfl) rfl rfl rfl rfl (rn_assign rfl (T.ev 0 rfl)) ?_; clear T ac; intro ac T
        refine wpList_nil ?_
        replace T := T.pick [0, 3, 4, 5] rfl
        refine nm_then ?_
        exact ⟨_, by omega, k + 1, _, rfl, (by omega), (fun _ => hnm), H, T.pick [2, 3, 1, 0] rfl, M.mask [] rfl⟩
      · intro h2
        (try have h2' := h2; try simp only [Bool.and_eq_true, Bool.or_eq_true, Bool.not_eq_true', Bool.and_eq_false_imp, Bool.or_eq_false_iff, decide_eq_true_eq, decide_eq_false_iff_not] at h2')
        refine wp_exit ?_
        refine ex_then ?_
        refine ex_then ?_
        refine ex_hit ?_
        refine nm_then ?_
        refine wp_seq ?_
        refine wp_region_lit ?_
        refine l_q T rfl rfl rfl rfl (rn_move rfl (T.ev 2 rfl)) ?_; clear T ac; intro ac T
        refine l_q T rfl rfl rfl rfl (rn_assign rfl (T.ev 0 rfl)) ?_; clear T ac; intro ac T
        refine wpList_nil ?_
        replace T := T.pick [0] rfl
        refine nm_then ?_
        refine wp_ret ?_
        refine rt_1 T rfl (T.ev 0 rfl) ?_
        refine ⟨ret_bool ?_, M.below⟩
        rw [H]
        rcases Bool.eq_false_or_eq_true b with hb1 | hb1
        · have hnm := hb hb1
          have : ¬ ((k : Int) < (n : Int)) := by intro hc; simp [hb1, hc] at h2
          rw [List.drop_of_length_le (by omega), List.drop_of_length_le (by omega)]
          simp [hb1]
        · simp [hb1]

theorem sameRanges_same (A D : Option Addr) (n m c d : Nat) (l : List (Int × Int)) (w : World) (hr : Rd w w.heap.size 2 A n (rc l)) (hs : Rd w w.heap.size 2 D m (rc l)) (hn : n ≤ 9223372036854775807) (hm : m ≤ 9223372036854775807) :
    Calls Try.prog 71 #[.slice A n c, .slice D m d] w fun e w' => e = .returned (.bool true) ∧ Below w.heap.size w w' := by
  have := sameRanges_any A D n m c d l l w hr hs hn hm
  simpa using this
def hearT (j : Jb) (r : Int) : (Int × Int) × Int := if checkJ j = 0 then (if withinB r (j.p0 - j.me) (j.p1 + j.me) = true then (meetL (j.p0, j.p1) [(r - j.me, r + j.me)], 0) else ((0, 0), 9)) else ((0, 0), checkJ j)


set_option maxRecDepth 100000 in
set_option maxHeartbeats 1000000 in
theorem sameJobs_same (j : Jb) (A D : Option Addr) (c d : Nat) (w : World) (hr : Rd w w.heap.size 2 A j.sh.length (rc j.sh)) (hs : Rd w w.heap.size 2 D j.sh.length (rc j.sh)) (hn : j.sh.length ≤ 9223372036854775807) :
    Calls Try.prog 22 #[jobV j A c, jobV j D d] w fun e w' => e = .returned (.bool true) ∧ Below w.heap.size w w' := by
  obtain ⟨bJ, oJ, SJ⟩ := Sp.old hr
  obtain ⟨bI, oI, SI⟩ := Sp.old hs
  refine px_enter noEx Try.func22 rfl 38 rfl [.agg #[.int .i64 j.p0, .int .i64 j.p1, .int .i64 j.t0, .int .i64 j.t1, .int .i64 j.r0, .int .i64 j.r1, .int .i64 j.u0, .int .i64 j.u1, .int .i64 j.d0, .int .i64 j.d1, .int .i64 j.a0, .int .i64 j.a1, .int .i64 j.b0, .int .i64 j.b1, .int .i64 j.le, .slice A j.sh.length c, .int .i64 j.wi, .int .i64 j.me], .agg #[.int .i64 j.p0, .int .i64 j.p1, .int .i64 j.t0, .int .i64 j.t1, .int .i64 j.r0, .int .i64 j.r1, .int .i64 j.u0, .int .i64 j.u1, .int .i64 j.d0, .int .i64 j.d1, .int .i64 j.a0, .int .i64 j.a1, .int .i64 j.b0, .int .i64 j.b1, .int .i64 j.le, .slice D j.sh.length d, .int .i64 j.wi, .int .i64 j.me]] rfl rfl (Mem.init w _) ?_
  intro ac wc T M
  refine wp_seq ?_
  refine wp_region_lit ?_
  refine l_w rfl ?_; intro K hK
  refine ow_bx M T rfl rfl rfl rfl (T.ev 0 rfl) rfl ?_; clear M T; intro g1 wc ac M T
  refine sh_out hK _ _ ?_; clear hK K
  refine l_w rfl ?_; intro K hK
  refine ow_bx M T rfl rfl rfl rfl (T.ev 2 rfl) rfl ?_; clear M T; intro g2 wc ac M T
  refine sh_out hK _ _ ?_; clear hK K
  refine l_q T rfl rfl rfl rfl (rn_assign rfl evc) ?_; clear T ac; intro ac T
  refine wpList_nil ?_
  replace T := T.pick [1, 2] rfl
  refine nm_then ?_
  refine wp_seq ?_
  refine wp_region_lit ?_
  refine l_q (v := (.pointer (some ⟨g1, 0, none⟩))) T rfl rfl rfl rfl (rn_fieldAddr (off := 0) rfl (T.ev 1 rfl) (fun _ _ _ => by kernel_rfl)) ?_; clear T ac; intro ac T
  refine l_q T rfl rfl rfl rfl (rn_rowO (Mem.nth M 1 rfl) rfl (T.ev 0 rfl) rfl) ?_; clear T ac; intro ac T
  refine l_q (v := (.pointer (some ⟨g2, 0, none⟩))) T rfl rfl rfl rfl (rn_fieldAddr (off := 0) rfl (T.ev 2 rfl) (fun _ _ _ => by kernel_rfl)) ?_; clear T ac; intro ac T
  refine l_q T rfl rfl rfl rfl (rn_rowO (Mem.nth M 0 rfl) rfl (T.ev 0 rfl) rfl) ?_; clear T ac; intro ac T
  refine l_q (v := (.bool true)) T rfl rfl rfl rfl (rn_neqof (rn_bin rfl (T.ev 2 rfl) (T.ev 0 rfl) eqT25) (by simp)) ?_; clear T ac; intro ac T
  refine l_q T rfl rfl rfl rfl (rn_move rfl (T.ev 0 rfl)) ?_; clear T ac; intro ac T
  refine l_q (v := (.pointer (some ⟨g1, 6, none⟩))) T (wanted_yes rfl rfl (T.ev 0 rfl) rfl) rfl rfl rfl (rn_fieldAddr (off := 6) rfl (T.ev 7 rfl) (fun _ _ _ => by kernel_rfl)) ?_; clear T ac; intro ac T
  refine l_q T (wanted_yes rfl rfl (T.ev 1 rfl) rfl) rfl rfl rfl (rn_rowO (Mem.nth M 1 rfl) rfl (T.ev 0 rfl) rfl) ?_; clear T ac; intro ac T
  refine l_q (v := (.pointer (some ⟨g2, 6, none⟩))) T (wanted_yes rfl rfl (T.ev 2 rfl) rfl) rfl rfl rfl (rn_fieldAddr (off := 6) rfl (T.ev 8 rfl) (fun _ _ _ => by kernel_rfl)) ?_; clear T ac; intro ac T
  refine l_q T (wanted_yes rfl rfl (T.ev 3 rfl) rfl) rfl rfl rfl (rn_rowO (Mem.nth M 0 rfl) rfl (T.ev 0 rfl) rfl) ?_; clear T ac; intro ac T
  refine l_q (v := (.bool true)) T (wanted_yes rfl rfl (T.ev 4 rfl) rfl) rfl rfl rfl (rn_neqof (rn_bin rfl (T.ev 2 rfl) (T.ev 0 rfl) eqT27) (by simp)) ?_; clear T ac; intro ac T
  refine l_q T rfl rfl rfl rfl (rn_pick1 rfl (T.ev 5 rfl) rfl (T.ev 0 rfl)) ?_; clear T ac; intro ac T
  refine l_q T rfl rfl rfl rfl (rn_move rfl (T.ev 0 rfl)) ?_; clear T ac; intro ac T
  refine l_q (v := (.pointer (some ⟨g1, 16, none⟩))) T (wanted_yes rfl rfl (T.ev 0 rfl) rfl) rfl rfl rfl (rn_fieldAddr (off := 16) rfl (T.ev 14 rfl) (fun _ _ _ => by kernel_rfl)) ?_; clear T ac; intro ac T
  refine l_q T (wanted_yes rfl rfl (T.ev 1 rfl) rfl) rfl rfl rfl (rn_one (Mem.nth M 1 rfl) rfl (T.ev 0 rfl) rfl) ?_; clear T ac; intro ac T
  refine l_q (v := (.pointer (some ⟨g2, 16, none⟩))) T (wanted_yes rfl rfl (T.ev 2 rfl) rfl) rfl rfl rfl (rn_fieldAddr (off := 16) rfl (T.ev 15 rfl) (fun _ _ _ => by kernel_rfl)) ?_; clear T ac; intro ac T
  refine l_q T (wanted_yes rfl rfl (T.ev 3 rfl) rfl) rfl rfl rfl (rn_one (Mem.nth M 0 rfl) rfl (T.ev 0 rfl) rfl) ?_; clear T ac; intro ac T
  refine l_q (v := (.bool true)) T (wanted_yes rfl rfl (T.ev 4 rfl) rfl) rfl rfl rfl (rn_neqof (rn_eql rfl (T.ev 2 rfl) (T.ev 0 rfl)) (by simp)) ?_; clear T ac; intro ac T
  refine l_q T rfl rfl rfl rfl (rn_pick1 rfl (T.ev 5 rfl) rfl (T.ev 0 rfl)) ?_; clear T ac; intro ac T
  refine l_q T rfl rfl rfl rfl (rn_move rfl (T.ev 0 rfl)) ?_; clear T ac; intro ac T
  refine l_q (v := (.pointer (some ⟨g1, 17, none⟩))) T (wanted_yes rfl rfl (T.ev 0 rfl) rfl) rfl rfl rfl (rn_fieldAddr (off := 17) rfl (T.ev 21 rfl) (fun _ _ _ => by kernel_rfl)) ?_; clear T ac; intro ac T
  refine l_q T (wanted_yes rfl rfl (T.ev 1 rfl) rfl) rfl rfl rfl (rn_one (Mem.nth M 1 rfl) rfl (T.ev 0 rfl) rfl) ?_; clear T ac; intro ac T
  refine l_q (v := (.pointer (some ⟨g2, 17, none⟩))) T (wanted_yes rfl rfl (T.ev 2 rfl) rfl) rfl rfl rfl (rn_fieldAddr (off := 17) rfl (T.ev 22 rfl) (fun _ _ _ => by kernel_rfl)) ?_; clear T ac; intro ac T
  refine l_q T (wanted_yes rfl rfl (T.ev 3 rfl) rfl) rfl rfl rfl (rn_one (Mem.nth M 0 rfl) rfl (T.ev 0 rfl) rfl) ?_; clear T ac; intro ac T
  refine l_q (v := (.bool true)) T (wanted_yes rfl rfl (T.ev 4 rfl) rfl) rfl rfl rfl (rn_neqof (rn_eql rfl (T.ev 2 rfl) (T.ev 0 rfl)) (by simp)) ?_; clear T ac; intro ac T
  refine l_q T rfl rfl rfl rfl (rn_pick1 rfl (T.ev 5 rfl) rfl (T.ev 0 rfl)) ?_; clear T ac; intro ac T
  refine l_q T rfl rfl rfl rfl (rn_move rfl (T.ev 0 rfl)) ?_; clear T ac; intro ac T
  refine l_q (v := (.pointer (some ⟨g1, 15, none⟩))) T (wanted_yes rfl rfl (T.ev 0 rfl) rfl) rfl rfl rfl (rn_fieldAddr (off := 15) rfl (T.ev 28 rfl) (fun _ _ _ => by kernel_rfl)) ?_; clear T ac; intro ac T
  refine l_q T (wanted_yes rfl rfl (T.ev 1 rfl) rfl) rfl rfl rfl (rn_one (Mem.nth M 1 rfl) rfl (T.ev 0 rfl) rfl) ?_; clear T ac; intro ac T
  refine l_q (v := (.pointer (some ⟨g2, 15, none⟩))) T (wanted_yes rfl rfl (T.ev 2 rfl) rfl) rfl rfl rfl (rn_fieldAddr (off := 15) rfl (T.ev 29 rfl) (fun _ _ _ => by kernel_rfl)) ?_; clear T ac; intro ac T
  refine l_q T (wanted_yes rfl rfl (T.ev 3 rfl) rfl) rfl rfl rfl (rn_one (Mem.nth M 0 rfl) rfl (T.ev 0 rfl) rfl) ?_; clear T ac; intro ac T
  refine l_w (wanted_yes rfl rfl (T.ev 4 rfl) rfl) ?_; intro K hK
  refine ow_call (first := []) (cap := []) T rfl rfl rfl rfl evf (.cons (T.ev 2 rfl) (.cons (T.ev 0 rfl) .nil)) Try.func71 rfl rfl ?_
  refine Calls.mono (sameRanges_same _ _ _ _ _ _ j.sh _ (SJ.rd M (List.nil_sublist _)) (SI.rd M (List.nil_sublist _)) (by omega) (by omega)) ?_
  clear T
  rintro e wc ⟨rfl, hb⟩
  intro ac T
  replace M := M.call hb; clear hb
  refine sh_out hK _ _ ?_; clear hK K
  refine l_q T rfl rfl rfl rfl (rn_pick1 rfl (T.ev 5 rfl) rfl (T.ev 0 rfl)) ?_; clear T ac; intro ac T
  refine l_q T rfl rfl rfl rfl (rn_assign rfl (T.ev 0 rfl)) ?_; clear T ac; intro ac T
  refine wpList_nil ?_
  replace T := T.pick [0] rfl
  replace M := M.mask [false, false] rfl
  refine nm_then ?_
  refine wp_ret ?_
  refine rt_1 T rfl (T.ev 0 rfl) ?_
  exact ⟨rfl, M.below⟩

set_option maxRecDepth 100000 in
set_option maxHeartbeats 1000000 in
theorem wider_any (x0 x1 y0 y1 : Int) (w : World)  :
    Calls Try.prog 40 #[.agg #[.int .i64 x0, .int .i64 x1], .agg #[.int .i64 y0, .int .i64 y1]] w fun e w' => e = .returned (.bool (hasB x0 x1 y0 y1)) ∧ Below w.heap.size w w' := by
  refine px_enter noEx Try.func40 rfl 17 rfl [.agg #[.int .i64 x0, .int .i64 x1], .agg #[.int .i64 y0, .int .i64 y1]] rfl rfl (Mem.init w _) ?_
  intro ac wc T M
  refine wp_seq ?_
  refine wp_region_lit ?_
  refine l_w rfl ?_; intro K hK
  refine ow_bx M T rfl rfl rfl rfl (T.ev 0 rfl) rfl ?_; clear M T; intro g1 wc ac M T
  refine sh_out hK _ _ ?_; clear hK K
  refine l_w rfl ?_; intro K hK
  refine ow_bx M T rfl rfl rfl rfl (T.ev 2 rfl) rfl ?_; clear M T; intro g2 wc ac M T
  refine sh_out hK _ _ ?_; clear hK K
  refine l_q T rfl rfl rfl rfl (rn_assign rfl evc) ?_; clear T ac; intro ac T
  refine wpList_nil ?_
  replace T := T.pick [1, 2] rfl
  refine nm_then ?_
  refine cut_seq (fun ac wc => Tm ac 17 [(4, .bool ((decide (x0 ≤ y0)) && (decide (y1 ≤ x1))))] ∧ Mem w noEx wc []) ?_ ?_
  · refine wp_region_lit ?_
    refine l_q (v := (.pointer (some ⟨g1, 0, none⟩))) T rfl rfl rfl rfl (rn_fieldAddr (off := 0) rfl (T.ev 1 rfl) (fun _ _ _ => by kernel_rfl)) ?_; clear T ac; intro ac T
    refine l_q T rfl rfl rfl rfl (rn_one (Mem.nth M 1 rfl) rfl (T.ev 0 rfl) rfl) ?_; clear T ac; intro ac T
    refine l_q (v := (.pointer (some ⟨g2, 0, none⟩))) T rfl rfl rfl rfl (rn_fieldAddr (off := 0) rfl (T.ev 2 rfl) (fun _ _ _ => by kernel_rfl)) ?_; clear T ac; intro ac T
    refine l_q T rfl rfl rfl rfl (rn_one (Mem.nth M 0 rfl) rfl (T.ev 0 rfl) rfl) ?_; clear T ac; intro ac T
    refine l_q T rfl rfl rfl rfl (rn_leq rfl (T.ev 2 rfl) (T.ev 0 rfl)) ?_; clear T ac; intro ac T
    refine l_q T rfl rfl rfl rfl (rn_move rfl (T.ev 0 rfl)) ?_; clear T ac; intro ac T
    rcases Bool.eq_false_or_eq_true (decide (x0 ≤ y0)) with h1 | h1
    · replace h1 := of_decide_eq_true h1
      refine l_q (v := (.pointer (some ⟨g2, 1, none⟩))) T (wanted_yes rfl rfl (T.ev 0 rfl) (decide_eq_true h1)) rfl rfl rfl (rn_fieldAddr (off := 1) rfl (T.ev 6 rfl) (fun _ _ _ => by kernel_rfl)) ?_; clear T ac; intro ac T
      refine l_q T (wanted_yes rfl rfl (T.ev 1 rfl) (decide_eq_true h1)) rfl rfl rfl (rn_one (Mem.nth M 0 rfl) rfl (T.ev 0 rfl) rfl) ?_; clear T ac; intro ac T
      refine l_q (v := (.pointer (some ⟨g1, 1, none⟩))) T (wanted_yes rfl rfl (T.ev 2 rfl) (decide_eq_true h1)) rfl rfl rfl (rn_fieldAddr (off := 1) rfl (T.ev 9 rfl) (fun _ _ _ => by kernel_rfl)) ?_; clear T ac; intro ac T
      refine l_q T (wanted_yes rfl rfl (T.ev 3 rfl) (decide_eq_true h1)) rfl rfl rfl (rn_one (Mem.nth M 1 rfl) rfl (T.ev 0 rfl) rfl) ?_; clear T ac; intro ac T
      refine l_q T (wanted_yes rfl rfl (T.ev 4 rfl) (decide_eq_true h1)) rfl rfl rfl (rn_leq rfl (T.ev 2 rfl) (T.ev 0 rfl)) ?_; clear T ac; intro ac T
      refine l_q T rfl rfl rfl rfl (rn_pick1 rfl (T.ev 5 rfl) (decide_eq_true h1) (T.ev 0 rfl)) ?_; clear T ac; intro ac T
      refine l_q T rfl rfl rfl rfl (rn_assign rfl (T.ev 0 rfl)) ?_; clear T ac; intro ac T
      refine wpList_nil ?_
      replace T := T.pick [0] rfl
      replace M := M.mask [false, false] rfl
      exact ⟨(T.pick (E' := [(4, .bool (decide (y1 ≤ x1)))]) [0] rfl).as (by (try rw [show (decide (x0 ≤ y0)) = true from (decide_eq_true h1)]); rfl), M.mask [] rfl⟩
    · replace h1 := of_decide_eq_false h1
      refine l_pass T (wanted_no rfl rfl (T.ev 0 rfl) (decide_eq_false h1)) rfl rfl rfl ?_; clear T ac; intro ac T
      refine l_pass T (wanted_no rfl rfl (T.ev 1 rfl) (decide_eq_false h1)) rfl rfl rfl ?_; clear T ac; intro ac T
      refine l_pass T (wanted_no rfl rfl (T.ev 2 rfl) (decide_eq_false h1)) rfl rfl rfl ?_; clear T ac; intro ac T
      refine l_pass T (wanted_no rfl rfl (T.ev 3 rfl) (decide_eq_false h1)) rfl rfl rfl ?_; clear T ac; intro ac T
      refine l_pass T (wanted_no rfl rfl (T.ev 4 rfl) (decide_eq_false h1)) rfl rfl rfl ?_; clear T ac; intro ac T
      refine l_q T rfl rfl rfl rfl (rn_pick0 rfl (T.ev 5 rfl) (decide_eq_false h1) evc) ?_; clear T ac; intro ac T
      refine l_q T rfl rfl rfl rfl (rn_assign rfl (T.ev 0 rfl)) ?_; clear T ac; intro ac T
      refine wpList_nil ?_
      replace T := T.pick [0] rfl
      replace M := M.mask [false, false] rfl
      exact ⟨(T.pick (E' := [(4, .bool false)]) [0] rfl).as (by (try rw [show (decide (x0 ≤ y0)) = false from (decide_eq_false h1)]); rfl), M.mask [] rfl⟩
  · clear T M
    rintro ac wc ⟨T, M⟩
    refine wp_ret ?_
    refine rt_1 T rfl (T.ev 0 rfl) ?_
    exact ⟨ret_bool (by unfold hasB; simp), M.below⟩

set_option maxRecDepth 100000 in
set_option maxHeartbeats 1000000 in
theorem Hear_any (j : Jb) (A : Option Addr) (c : Nat) (r : Int) (w : World) (hr : Rd w w.heap.size 2 A j.sh.length (rc j.sh)) (hn : j.sh.length ≤ 9223372036854775807) :
    Calls Try.prog 37 #[jobV j A c, .int .i64 r] w fun e w' => e = .returned (.tuple #[.agg #[.int .i64 ((hearT j r).1.1), .int .i64 ((hearT j r).1.2)], .int .i64 ((hearT j r).2)]) ∧ Below w.heap.size w w' := by
  obtain ⟨bJ, oJ, SJ⟩ := Sp.old hr
  refine px_enter noEx Try.func37 rfl 45 rfl [.agg #[.int .i64 j.p0, .int .i64 j.p1, .int .i64 j.t0, .int .i64 j.t1, .int .i64 j.r0, .int .i64 j.r1, .int .i64 j.u0, .int .i64 j.u1, .int .i64 j.d0, .int .i64 j.d1, .int .i64 j.a0, .int .i64 j.a1, .int .i64 j.b0, .int .i64 j.b1, .int .i64 j.le, .slice A j.sh.length c, .int .i64 j.wi, .int .i64 j.me], .int .i64 r] rfl rfl (Mem.init w _) ?_
  intro ac wc T M
  refine wp_seq ?_
  refine wp_region_lit ?_
  refine l_w rfl ?_; intro K hK
  refine ow_bx M T rfl rfl rfl rfl (T.ev 0 rfl) rfl ?_; clear M T; intro g1 wc ac M T
  refine sh_out hK _ _ ?_; clear hK K
  refine l_w rfl ?_; intro K hK
  refine ow_al M T rfl rfl rfl rfl ?_; clear M T; intro g2 wc ac M T
  refine sh_out hK _ _ ?_; clear hK K
  refine l_q T rfl rfl rfl rfl (rn_assign rfl evc) ?_; clear T ac; intro ac T
  refine wpList_nil ?_
  replace T := T.pick [1, 2, 4] rfl
  refine nm_then ?_
  refine wp_seq ?_
  refine wp_seq ?_
  refine wp_region_lit ?_
  refine l_q T rfl rfl rfl rfl (rn_rowO (Mem.nth M 1 rfl) rfl (T.ev 1 rfl) rfl) ?_; clear T ac; intro ac T
  refine l_w rfl ?_; intro K hK
  refine ow_call (first := []) (cap := []) T rfl rfl rfl rfl evf (.cons (T.ev 0 rfl) .nil) Try.func49 rfl rfl ?_
  refine Calls.mono (check_any j _ _ _ (SJ.rd M (List.nil_sublist _)) (by omega)) ?_
  clear T
  rintro e wc ⟨rfl, hb⟩
  intro ac T
  replace M := M.call hb; clear hb
  refine sh_out hK _ _ ?_; clear hK K
  refine l_q T rfl rfl rfl rfl (rn_assign rfl (T.ev 0 rfl)) ?_; clear T ac; intro ac T
  refine wpList_nil ?_
  replace T := T.pick [0, 3, 4, 5] rfl
  refine nm_then ?_
  refine wp_seq ?_
  refine wp_region_lit ?_
  refine l_q T rfl rfl rfl rfl (rn_move rfl (T.ev 0 rfl)) ?_; clear T ac; intro ac T
  refine l_q T rfl rfl rfl rfl (rn_neq rfl (T.ev 0 rfl) evc) ?_; clear T ac; intro ac T
  refine wpList_nil ?_
  replace T := T.pick [0, 2, 3, 4, 5] rfl
  refine nm_then ?_
  refine wp_ifn (T.ev 0 rfl) ?_ ?_
  · intro h1
    refine wp_seq ?_
    refine wp_region_lit ?_
    refine l_q (v := (.agg #[.int .i64 0, .int .i64 0])) T rfl rfl rfl rfl (rn_build rfl .nil (fun _ => by kernel_rfl)) ?_; clear T ac; intro ac T
    refine l_q T rfl rfl rfl rfl (rn_move rfl (T.ev 2 rfl)) ?_; clear T ac; intro ac T
    refine l_w rfl ?_; intro K hK
    refine ow_stO M T rfl rfl (T.ev 4 rfl) (T.ev 1 rfl) rfl .head rfl (by simp) rfl (by kernel_rfl) ?_; clear M T; intro wc ac M T
    refine sh_out hK _ _ ?_; clear hK K
    refine l_q T rfl rfl rfl rfl (rn_assign rfl (T.ev 0 rfl)) ?_; clear T ac; intro ac T
    refine wpList_nil ?_
    replace T := T.pick [0, 5] rfl
    replace M := M.mask [true, false] rfl
    refine nm_then ?_
    refine wp_ret ?_
    refine rt_then ?_
    refine rt_ct M T rfl (T.ev 1 rfl) (T.ev 0 rfl) (nthE_mem (i := 0) rfl) rfl ?_
    refine ⟨?_, M.below⟩
    unfold hearT
    (repeat' split) <;> first | rfl | omega | contradiction | (simp_all; done) | (simp_all; omega)
  · intro h1
    have hj := good_of h1
    have hp := hj.p
    have hme := hj.me
    refine wp_skip ?_
    refine nm_then ?_
    refine wp_seq ?_
    refine wp_seq ?_
    refine wp_region_lit ?_
    refine l_q T rfl rfl rfl rfl (rn_move rfl (T.ev 4 rfl)) ?_; clear T ac; intro ac T
    refine l_q (v := (.pointer (some ⟨g1, 0, none⟩))) T rfl rfl rfl rfl (rn_fieldAddr (off := 0) rfl (T.ev 4 rfl) (fun _ _ _ => by kernel_rfl)) ?_; clear T ac; intro ac T
    refine l_q (v := (.pointer (some ⟨g1, 0, none⟩))) T rfl rfl rfl rfl (rn_fieldAddr (off := 0) rfl (T.ev 0 rfl) (fun _ _ _ => by kernel_rfl)) ?_; clear T ac; intro ac T
    refine l_q (v := (.pointer (some ⟨g1, 0, none⟩))) T rfl rfl rfl rfl (rn_fieldAddr (off := 0) rfl (T.ev 0 rfl) (fun _ _ _ => by kernel_rfl)) ?_; clear T ac; intro ac T
    refine l_q T rfl rfl rfl rfl (rn_one (Mem.nth M 1 rfl) rfl (T.ev 0 rfl) rfl) ?_; clear T ac; intro ac T
    refine l_q (v := (.pointer (some ⟨g1, 17, none⟩))) T rfl rfl rfl rfl (rn_fieldAddr (off := 17) rfl (T.ev 8 rfl) (fun _ _ _ => by kernel_rfl)) ?_; clear T ac; intro ac T
    refine l_q T rfl rfl rfl rfl (rn_one (Mem.nth M 1 rfl) rfl (T.ev 0 rfl) rfl) ?_; clear T ac; intro ac T
    refine l_q T rfl rfl rfl rfl (rn_sub rfl (T.ev 2 rfl) (T.ev 0 rfl) (by omega)) ?_; clear T ac; intro ac T
    refine l_q (v := (.pointer (some ⟨g1, 0, none⟩))) T rfl rfl rfl rfl (rn_fieldAddr (off := 0) rfl (T.ev 11 rfl) (fun _ _ _ => by kernel_rfl)) ?_; clear T ac; intro ac T
    refine l_q (v := (.pointer (some ⟨g1, 0, none⟩))) T rfl rfl rfl rfl (rn_fieldAddr (off := 0) rfl (T.ev 0 rfl) (fun _ _ _ => by kernel_rfl)) ?_; clear T ac; intro ac T
    refine l_q (v := (.pointer (some ⟨g1, 1, none⟩))) T rfl rfl rfl rfl (rn_fieldAddr (off := 1) rfl (T.ev 0 rfl) (fun _ _ _ => by kernel_rfl)) ?_; clear T ac; intro ac T
    refine l_q T rfl rfl rfl rfl (rn_one (Mem.nth M 1 rfl) rfl (T.ev 0 rfl) rfl) ?_; clear T ac; intro ac T
    refine l_q (v := (.pointer (some ⟨g1, 17, none⟩))) T rfl rfl rfl rfl (rn_fieldAddr (off := 17) rfl (T.ev 15 rfl) (fun _ _ _ => by kernel_rfl)) ?_; clear T ac; intro ac T
    refine l_q T rfl rfl rfl rfl (rn_one (Mem.nth M 1 rfl) rfl (T.ev 0 rfl) rfl) ?_; clear T ac; intro ac T
    refine l_q T rfl rfl rfl rfl (rn_add rfl (T.ev 2 rfl) (T.ev 0 rfl) (by omega)) ?_; clear T ac; intro ac T
    refine l_w rfl ?_; intro K hK
    refine ow_call (first := []) (cap := []) T rfl rfl rfl rfl evf (.cons (T.ev 14 rfl) (.cons (T.ev 7 rfl) (.cons (T.ev 0 rfl) .nil))) Try.func85 rfl rfl ?_
    refine Calls.mono (within_any r (j.p0 - j.me) (j.p1 + j.me) _) ?_
    clear T
    rintro e wc ⟨rfl, rfl⟩
    intro ac T
    refine sh_out hK _ _ ?_; clear hK K
    refine l_q T rfl rfl rfl rfl (rn_not rfl (T.ev 0 rfl)) ?_; clear T ac; intro ac T
    refine wpList_nil ?_
    replace T := T.pick [0, 19, 20, 21] rfl
    refine nm_then ?_
    refine wp_cond_split (T.ev 0 rfl) ?_ ?_
    · intro h2
      (try have h2' := h2; try simp only [Bool.and_eq_true, Bool.or_eq_true, Bool.not_eq_true', Bool.and_eq_false_imp, Bool.or_eq_false_iff, decide_eq_true_eq, decide_eq_false_iff_not] at h2')
      refine wp_seq ?_
      refine wp_region_lit ?_
      refine l_q (v := (.agg #[.int .i64 0, .int .i64 0])) T rfl rfl rfl rfl (rn_build rfl .nil (fun _ => by kernel_rfl)) ?_; clear T ac; intro ac T
      refine l_w rfl ?_; intro K hK
      refine ow_stO M T rfl rfl (T.ev 2 rfl) (T.ev 0 rfl) rfl .head rfl (by simp) rfl (by kernel_rfl) ?_; clear M T; intro wc ac M T
      refine sh_out hK _ _ ?_; clear hK K
      refine l_q T rfl rfl rfl rfl (rn_assign rfl evc) ?_; clear T ac; intro ac T
      refine wpList_nil ?_
      replace T := T.pick [0, 3] rfl
      replace M := M.mask [true, false] rfl
      refine nm_then ?_
      refine wp_ret ?_
      refine rt_then ?_
      refine rt_ct M T rfl (T.ev 1 rfl) (T.ev 0 rfl) (nthE_mem (i := 0) rfl) rfl ?_
      refine ⟨?_, M.below⟩
      unfold hearT
      (repeat' split) <;> first | rfl | omega | contradiction | (simp_all; done) | (simp_all; omega)
    · intro h2
      (try have h2' := h2; try simp only [Bool.and_eq_true, Bool.or_eq_true, Bool.not_eq_true', Bool.and_eq_false_imp, Bool.or_eq_false_iff, decide_eq_true_eq, decide_eq_false_iff_not] at h2')
      have hw : j.p0 - j.me ≤ r ∧ r ≤ j.p1 + j.me := by simpa [withinB] using h2
      refine wp_skip ?_
      refine nm_then ?_
      refine wp_seq ?_
      refine wp_region_lit ?_
      refine l_q (v := (.pointer (some ⟨g1, 0, none⟩))) T rfl rfl rfl rfl (rn_fieldAddr (off := 0) rfl (T.ev 2 rfl) (fun _ _ _ => by kernel_rfl)) ?_; clear T ac; intro ac T
      refine l_q (v := (.pointer (some ⟨g1, 0, none⟩))) T rfl rfl rfl rfl (rn_fieldAddr (off := 0) rfl (T.ev 0 rfl) (fun _ _ _ => by kernel_rfl)) ?_; clear T ac; intro ac T
      refine l_q T rfl rfl rfl rfl (rn_rowO (Mem.nth M 1 rfl) rfl (T.ev 0 rfl) rfl) ?_; clear T ac; intro ac T
      refine l_q T rfl rfl rfl rfl (rn_move rfl (T.ev 6 rfl)) ?_; clear T ac; intro ac T
      refine l_q (v := (.pointer (some ⟨g1, 17, none⟩))) T rfl rfl rfl rfl (rn_fieldAddr (off := 17) rfl (T.ev 6 rfl) (fun _ _ _ => by kernel_rfl)) ?_; clear T ac; intro ac T
      refine l_q T rfl rfl rfl rfl (rn_one (Mem.nth M 1 rfl) rfl (T.ev 0 rfl) rfl) ?_; clear T ac; intro ac T
      refine l_q T rfl rfl rfl rfl (rn_sub rfl (T.ev 2 rfl) (T.ev 0 rfl) (by omega)) ?_; clear T ac; intro ac T
      refine l_q T rfl rfl rfl rfl (rn_move rfl (T.ev 10 rfl)) ?_; clear T ac; intro ac T
      refine l_q (v := (.pointer (some ⟨g1, 17, none⟩))) T rfl rfl rfl rfl (rn_fieldAddr (off := 17) rfl (T.ev 10 rfl) (fun _ _ _ => by kernel_rfl)) ?_; clear T ac; intro ac T
      refine l_q T rfl rfl rfl rfl (rn_one (Mem.nth M 1 rfl) rfl (T.ev 0 rfl) rfl) ?_; clear T ac; intro ac T
      refine l_q T rfl rfl rfl rfl (rn_add rfl (T.ev 2 rfl) (T.ev 0 rfl) (by omega)) ?_; clear T ac; intro ac T
      refine l_q (v := (.agg #[.int .i64 (r - j.me), .int .i64 (r + j.me)])) T rfl rfl rfl rfl (rn_build rfl (.cons (T.ev 4 rfl) (.cons (T.ev 0 rfl) .nil)) (fun _ => by kernel_rfl)) ?_; clear T ac; intro ac T
      refine l_w rfl ?_; intro K hK
      refine ow_bs (e := 23) [.int .i64 (r - j.me), .int .i64 (r + j.me)] M T rfl rfl rfl rfl (.cons (T.ev 0 rfl) .nil) (fun _ => by kernel_rfl) ?_; clear M T; intro g3 wc ac M T
      refine sh_out hK _ _ ?_; clear hK K
      refine l_w rfl ?_; intro K hK
      refine ow_call (first := []) (cap := []) T rfl rfl rfl rfl evf (.cons (T.ev 10 rfl) (.cons (T.ev 0 rfl) .nil)) Try.func86 rfl rfl ?_
      refine Calls.mono (meet_any j.p0 j.p1 _ _ _ [((r - j.me), (r + j.me))] _ (M.rdOwn (nthE_mem (i := 0) rfl) rfl rfl) (by omega)) ?_
      clear T
      rintro e wc ⟨rfl, hb⟩
      intro ac T
      replace M := M.call hb; clear hb
      refine sh_out hK _ _ ?_; clear hK K
      refine l_w rfl ?_; intro K hK
      refine ow_stO M T rfl rfl (T.ev 15 rfl) (T.ev 0 rfl) rfl (.tail .head) rfl (by simp) rfl (by kernel_rfl) ?_; clear M T; intro wc ac M T
      refine sh_out hK _ _ ?_; clear hK K
      refine l_q T rfl rfl rfl rfl (rn_assign rfl evc) ?_; clear T ac; intro ac T
      refine wpList_nil ?_
      replace T := T.pick [0, 16] rfl
      replace M := M.mask [false, true, false] rfl
      refine nm_then ?_
      refine wp_ret ?_
      refine rt_ct M T rfl (T.ev 1 rfl) (T.ev 0 rfl) (nthE_mem (i := 0) rfl) rfl ?_
      refine ⟨?_, M.below⟩
      unfold hearT
      (repeat' split) <;> first | rfl | omega | contradiction | (simp_all; done) | (simp_all; omega)

end Go.Proofs.Ythlpceoajhcliaa
end

section
/-
  Slices that are appended to, in a list of blocks.
-/
namespace Go.Proofs.Ythlpceoajhcliaa
set_option linter.unusedSimpArgs false
set_option linter.unusedVariables false
open Go.RowKit

/-- A slice of the call's own: nil, or a row. -/
def Sl (e size : Nat) (v : Value) (n : Nat) (xs : List Value) (I : List (Nat × BA)) : Prop :=
  (v = .slice none 0 0 ∧ n = 0 ∧ xs = [] ∧ I = []) ∨ ∃ g cap, v = .slice (some ⟨g, 0, none⟩) n cap ∧ I = [(g, .row e size n xs cap)]
theorem Sl.nil (e size : Nat) : Sl e size (.slice none 0 0) 0 [] [] := .inl ⟨rfl, rfl, rfl, rfl⟩

section
variable {w0 w w' : World} {ex : Nat → Prop} {L I : List (Nat × BA)} {e size n : Nat} {v : Value} {xs : List Value}

theorem own_rebase {base g cap : Nat} (h : w.ownsRow base e size (.slice (some ⟨g, 0, none⟩) n cap) n xs) (hn : 0 < n) : BA.holds w g (.row e size n xs cap) := by
  refine ⟨⟨h.1, ?_⟩, hn⟩
  rcases h.2 with ⟨h2, _⟩ | ⟨g', c', cur, h2, _, hg, hr⟩
  · cases h2
  · injection h2 with h2 _ hc
    injection h2 with h2
    injection h2 with h2 _ _
    subst h2
    exact .inr ⟨g, c', cur, by rw [hc], Nat.le_refl _, hg, hr⟩
theorem Sl.rd (h : Sl e size v n xs I) (M : Mem w0 ex w (I ++ L)) : ∃ A cap, v = .slice A n cap ∧ Rd w w.heap.size size A n xs := by
  rcases h with ⟨rfl, rfl, rfl, rfl⟩ | ⟨g, cap, rfl, rfl⟩
  · exact ⟨none, 0, rfl, Rd.empty⟩
  · exact ⟨_, cap, rfl, M.rdRow (g := g) (e := e) (cap := cap) (by simp)⟩
theorem Sl.row (e size g n : Nat) (xs : List Value) (cap : Nat) : Sl e size (.slice (some ⟨g, 0, none⟩) n cap) n xs [(g, .row e size n xs cap)] := .inr ⟨g, cap, rfl, rfl⟩
theorem Mem.swap {p q : Nat × BA} (M : Mem w0 ex w (p :: q :: L)) : Mem w0 ex w (q :: p :: L) :=
  ⟨M.os, M.tape, M.output, M.size, M.block, fun r hr => M.blk r (by simp only [List.mem_cons] at hr ⊢; rcases hr with h | h | h <;> simp [h]), by
    have h := M.nd
    simp only [List.map_cons, List.nodup_cons, List.mem_cons, not_or] at h ⊢
    exact ⟨⟨fun e => h.1.1 e.symm, h.2.1⟩, h.1.2, h.2.2⟩⟩
theorem Sl.form (h : Sl e size v n xs I) : ∃ A cap, v = .slice A n cap := by
  rcases h with ⟨rfl, rfl, rfl, rfl⟩ | ⟨g, cap, rfl, rfl⟩
  · exact ⟨none, 0, rfl⟩
  · exact ⟨_, cap, rfl⟩

theorem app_wp {P : Program} {o : Oper} {a : Act} {K : Act → World → Prop} {Q : Exit → Act → World → Prop} {s x : Operand} {t : TypeId} {z : Value} {bytes b c : Nat} {cs : List Value}
    (ht : P.underlying t = some (.slice e)) (hinfo : (P.info? e).map (fun i => (i.zero, i.size, i.bytes)) = some (some z, size, bytes)) (hzs : z.cells.size = size) (hsz : 0 < size) (hby : bytes ≤ 1000)
    (M : Mem w0 ex w (I ++ L)) (hS : Sl e size v n xs I) (hn : n ≤ 1000000)
    (ho : o.op = .call { callee := .builtin .append, args := #[s, x], argTypes := #[t, t] }) (hs : a.eval s = v) (hx : a.eval x = .slice (some ⟨b, 0, none⟩) 1 c) (hm : (b, BA.cells cs) ∈ L) (hl : cs.length = size) (h1 : cs.all (·.oneCell') = true)
    (h : ∀ g cap w', Mem w0 ex w' ((g, .row e size (n + 1) (xs ++ cs) cap) :: L) → K (a.put o.dst (.slice (some ⟨g, 0, none⟩) (n + 1) cap)) w') : o.wp P a w K Q := by
  obtain ⟨i, hi, hz0, hz1, hz2⟩ := info_parts hinfo
  have hb : Bk w b cs.toArray := M.get (List.mem_append_right _ hm)
  have hnews : ∀ j u, cs[j]? = some u → w.cell? ((⟨b, 0, none⟩ : Addr).add j) = some u := fun j u hu => by
    rw [Addr.add_mid, hb.cell, Nat.zero_add]; simpa using hu
  have h1' : ∀ u ∈ cs, u.oneCell' = true := fun u hu => List.all_eq_true.1 h1 u hu
  have hbb : (n + 1) * bytes ≤ 140737488355328 := by
    have : (n + 1) * bytes ≤ 1000001 * 1000 := Nat.mul_le_mul (by omega) hby
    omega
  rcases hS with ⟨rfl, rfl, rfl, rfl⟩ | ⟨g0, cap0, rfl, rfl⟩
  · refine wp_append_lies w s x t ho w.heap.size e i z size bytes ht hi hz0 hz1 hz2 hzs hsz (.slice none 0 0) 0 [] hs ⟨by simp, .inl ⟨rfl, rfl⟩⟩ ⟨b, 0, none⟩ 1 c cs hx (by omega) hnews h1' (by omega) (by unfold maxLen; omega) (by simpa using hbb) (Nat.le_refl _) w.heap.size rfl ?_
    intro g cap w' hown hgr hat hlt
    have hg : g = w.heap.size := by
      rcases hat with h | h
      · cases h
      · exact h
    have M1 : Mem w0 ex w' L := M.call ⟨hgr.os, hgr.tape, hgr.output, hgr.size, fun k hk => hgr.block k hk (fun e => by cases e)⟩
    exact h g cap w' (M1.add (by rw [hg]; exact M.size) (own_rebase hown (by omega)) (fun q hq e => by have := BA.lt (M.blk q hq).2; omega))
  · have hrow := (M.blk (g0, .row e size n xs cap0) (by simp)).2
    have hnp : 0 < n := hrow.2
    refine wp_append_lies w s x t ho g0 e i z size bytes ht hi hz0 hz1 hz2 hzs hsz _ n xs hs hrow.1 ⟨b, 0, none⟩ 1 c cs hx (by omega) hnews h1' (by omega) (by unfold maxLen; omega) hbb (Nat.le_of_lt (BA.lt hrow)) w.heap.size rfl ?_
    intro g cap w' hown hgr hat hlt
    have hgr : w.grownBy w' (some g0) := hgr
    rcases hat with h2 | h2
    · have h2 : some g0 = some g := h2
      injection h2 with h2
      subst h2
      exact h g0 cap w' (M.callW (L' := (g0, .row e size (n + 1) (xs ++ cs) cap) :: L) .head hgr (own_rebase hown (by omega)))
    · have M1 := M.callW (L' := (g0, .any (fun _ => True)) :: L) .head hgr (by
        have hl0 : g0 < w'.heap.size := Nat.lt_of_lt_of_le (BA.lt hrow) hgr.size
        exact ⟨w'.heap[g0], Array.getElem?_eq_getElem hl0, trivial⟩)
      exact h g cap w' (M1.forget.add (by rw [h2]; exact M.size) (own_rebase hown (by omega)) (fun q hq e => by have := BA.lt (M.blk q (List.mem_append_right _ hq)).2; omega))
theorem app {P : Program} {ops : Array Oper} {rest : List Oper} {o : Oper} {a : Act} {Q : Exit → Act → World → Prop} {s x : Operand} {t : TypeId} {z : Value} {bytes b c : Nat} {cs : List Value}
    (ht : P.underlying t = some (.slice e)) (hinfo : (P.info? e).map (fun i => (i.zero, i.size, i.bytes)) = some (some z, size, bytes)) (hzs : z.cells.size = size) (hsz : 0 < size) (hby : bytes ≤ 1000)
    (M : Mem w0 ex w (I ++ L)) (hS : Sl e size v n xs I) (hn : n ≤ 1000000) (hw : Region.wanted o (yielded ops a.tmps) = true)
    (ho : o.op = .call { callee := .builtin .append, args := #[s, x], argTypes := #[t, t] }) (hs : a.eval s = v) (hx : a.eval x = .slice (some ⟨b, 0, none⟩) 1 c) (hm : (b, BA.cells cs) ∈ L) (hl : cs.length = size) (h1 : cs.all (·.oneCell') = true)
    (h : ∀ g cap w', Mem w0 ex w' ((g, .row e size (n + 1) (xs ++ cs) cap) :: L) → wpList P ops Q rest (a.put o.dst (.slice (some ⟨g, 0, none⟩) (n + 1) cap)) w') : wpList P ops Q (o :: rest) a w :=
  wpList_wanted hw fun _ hK => app_wp ht hinfo hzs hsz hby M hS hn ho hs hx hm hl h1 fun g cap w' h1 => hK _ _ (h g cap w' h1)
end
theorem Try.infoRange : (Try.prog.info? 23).map (fun i => (i.zero, i.size, i.bytes)) = some (some (.agg #[.int .i64 0, .int .i64 0]), 2, 16) := by kernel_rfl
end Go.Proofs.Ythlpceoajhcliaa
end

section
/-
  kit: copies of ranges and of jobs.
-/
namespace Go.Proofs.Ythlpceoajhcliaa
set_option linter.unusedSimpArgs false
set_option linter.unusedVariables false
open Go.RowKit

/-- A slice of the call's own, of whatever form where it is empty. -/
def Sn (e size : Nat) (A : Option Addr) (n c : Nat) (xs : List Value) (I : List (Nat × BA)) : Prop := (n = 0 ∧ xs = [] ∧ I = []) ∨ ∃ g, A = some ⟨g, 0, none⟩ ∧ I = [(g, .row e size n xs c)]
theorem Sn.rd {e size n c : Nat} {A : Option Addr} {xs : List Value} {I L : List (Nat × BA)} {w0 w : World} {ex : Nat → Prop} (h : Sn e size A n c xs I) (M : Mem w0 ex w (I ++ L)) : Rd w w.heap.size size A n xs := by
  rcases h with ⟨rfl, rfl, rfl⟩ | ⟨g, rfl, rfl⟩
  · exact Rd.empty
  · exact M.rdRow (g := g) (e := e) (cap := c) (by simp)

def RangesPost (l : List (Int × Int)) (w : World) (e : Ending) (w' : World) : Prop := ∃ A c I, e = .returned (.slice A l.length c) ∧ Sn 23 2 A l.length c (rc l) I ∧ Mem w noEx w' I

theorem Try.append0 (A : Option Addr) (c g : Nat) (ty : TypeId) (w : World) : (Builtin.append_ #[28, 28] ty #[.slice (some ⟨g, 0, none⟩) 0 0, .slice A 0 c]).run Try.prog w = .ok (.slice (some ⟨g, 0, none⟩) 0 0) w := by
  cases A <;> kernel_rfl
theorem app0 {ops : Array Oper} {rest : List Oper} {o : Oper} {a : Act} {Q : Exit → Act → World → Prop} {w : World} {s x : Operand} {A : Option Addr} {c g : Nat} (hw : Region.wanted o (yielded ops a.tmps) = true)
    (ho : o.op = .call { callee := .builtin .append, args := #[s, x], argTypes := #[28, 28] }) (hs : a.eval s = .slice (some ⟨g, 0, none⟩) 0 0) (hx : a.eval x = .slice A 0 c)
    (h : wpList Try.prog ops Q rest (a.put o.dst (.slice (some ⟨g, 0, none⟩) 0 0)) w) : wpList Try.prog ops Q (o :: rest) a w :=
  wpList_wanted hw fun _ hK => by
    unfold Oper.wp execOp
    simp only [ho, resolve, invoke, builtin, Sem.run_bind, Sem.run_pure, Result.andThen_ok, List.map_toArray, List.map_cons, List.map_nil, hs, hx, Try.append0]
    exact hK _ _ h
/-- All of a slice behind an empty one. -/
theorem appN {P : Program} {ops : Array Oper} {rest : List Oper} {o : Oper} {a : Act} {Q : Exit → Act → World → Prop} {s x : Operand} {t e size : Nat} {z : Value} {bytes b off c n g : Nat} {cs : List Value} {w0 w : World} {ex : Nat → Prop} {L : List (Nat × BA)}
    (ht : P.underlying t = some (.slice e)) (hinfo : (P.info? e).map (fun i => (i.zero, i.size, i.bytes)) = some (some z, size, bytes)) (hzs : z.cells.size = size) (hsz : 0 < size) (hby : bytes ≤ 1000) (hn : 0 < n) (hn1 : n ≤ 1000000)
    (M : Mem w0 ex w ((g, .cells []) :: L)) (hw : Region.wanted o (yielded ops a.tmps) = true)
    (ho : o.op = .call { callee := .builtin .append, args := #[s, x], argTypes := #[t, t] }) (hs : a.eval s = .slice (some ⟨g, 0, none⟩) 0 0) (hx : a.eval x = .slice (some ⟨b, off, none⟩) n c) (hl : cs.length = n * size) (h1 : ∀ u ∈ cs, u.oneCell' = true) (hr : w.rangeAt b off cs)
    (hg : ∃ ty, w.heap[g]? = some (.cells #[] ty)) (hge : w.heap[g]? = some (.cells #[] e))
    (h : ∀ g' cap w', Mem w0 ex w' ((g', .row e size n cs cap) :: L) → wpList P ops Q rest (a.put o.dst (.slice (some ⟨g', 0, none⟩) n cap)) w') : wpList P ops Q (o :: rest) a w := by
  refine wpList_wanted hw fun K hK => ?_
  obtain ⟨i, hi, hz0, hz1, hz2⟩ := info_parts hinfo
  have hbb : (0 + n) * bytes ≤ 140737488355328 := by
    have : (0 + n) * bytes ≤ 1000000 * 1000 := Nat.mul_le_mul (by omega) hby
    omega
  refine wp_append_lies w s x t ho g e i z size bytes ht hi hz0 hz1 hz2 hzs hsz (.slice (some ⟨g, 0, none⟩) 0 0) 0 [] hs ⟨by simp, .inr ⟨g, 0, #[], rfl, Nat.le_refl _, hge, by omega, by unfold maxLen; omega, by simp, by simp⟩⟩ ⟨b, off, none⟩ n c cs hx hl (fun j u hu => by rw [Addr.add_mid]; exact hr j u hu) h1 hn (by unfold maxLen; omega) hbb (Nat.le_of_lt (BA.lt (M.blk _ List.mem_cons_self).2)) w.heap.size rfl ?_
  intro g' cap w' hown hgr hat hlt
  have hgr : w.grownBy w' (some g) := hgr
  simp only [Nat.zero_add, List.nil_append] at hown
  have hg0 : g < w'.heap.size := Nat.lt_of_lt_of_le (BA.lt (M.blk _ List.mem_cons_self).2) hgr.size
  have e0 : a.put o.dst (.slice (some ⟨g', 0, none⟩) (0 + n) cap) = a.put o.dst (.slice (some ⟨g', 0, none⟩) n cap) := by rw [Nat.zero_add]
  rw [e0]
  refine hK _ _ (h g' cap w' ?_)
  rcases hat with h2 | h2
  · have h2 : some g = some g' := h2
    injection h2 with h2
    subst h2
    exact M.callW (L' := (g, .row e size n cs cap) :: L) .head hgr (own_rebase hown hn)
  · have M1 := M.callW (L' := (g, .any (fun _ => True)) :: L) .head hgr ⟨w'.heap[g], Array.getElem?_eq_getElem hg0, trivial⟩
    exact M1.forget.add (by rw [h2]; exact M.size) (own_rebase hown hn) (fun q hq e => by have := BA.lt (M.blk q (List.mem_cons_of_mem _ hq)).2; omega)

set_option maxHeartbeats 1000000 in
theorem ranges_any (A : Option Addr) (c : Nat) (l : List (Int × Int)) (w : World) (hr : Rd w w.heap.size 2 A l.length (rc l)) (hn : l.length ≤ 1000) :
    Calls Try.prog 67 #[.slice A l.length c] w (RangesPost l w) := by
  rcases Nat.eq_zero_or_pos l.length with h0 | h0
  · obtain rfl : l = [] := List.eq_nil_of_length_eq_zero h0
    clear hr hn h0
    show Calls Try.prog 67 #[.slice A 0 c] w (RangesPost [] w)
    go_enter Try.func67, Try.ntmps67
    refine start noEx ?_
    intro wc M
    go_wp2_with (first | (refine m_ld1 M rfl rfl rfl (by (repeat' (first | exact List.mem_cons_self | refine List.mem_cons_of_mem _ ?_))) (by rfl) ?_) | (refine m_ldr M rfl rfl rfl (by (repeat' (first | exact List.mem_cons_self | refine List.mem_cons_of_mem _ ?_))) (by (try simp only [List.take_succ_cons, List.take_zero, List.take_nil, List.drop_succ_cons, List.drop_zero, List.drop_nil, List.cons_append, List.nil_append, List.append_nil, List.length_cons, List.length_nil, Nat.reduceAdd, Nat.zero_add, Nat.add_zero]); rfl) (by rfl) ?_) | (refine m_st M rfl rfl rfl (by first | exact (rfl : _ = Value.agg _) | exact (rfl : _ = Value.int _ _) | exact (rfl : _ = Value.bool _) | exact (rfl : _ = Value.slice _ _ _) | exact (rfl : _ = Value.pointer _) | exact (rfl : _ = Value.map _) | exact (rfl : _ = Value.func _ _ _) | exact (rfl : _ = Value.string _)) (by rfl) (by (repeat (first | exact Upd.head | apply Upd.tail))) (by (try simp only [List.take_succ_cons, List.take_zero, List.take_nil, List.drop_succ_cons, List.drop_zero, List.drop_nil, List.cons_append, List.nil_append, List.append_nil, List.length_cons, List.length_nil, Nat.reduceAdd, Nat.zero_add, Nat.add_zero]); rfl) (by simp) (by simp [Value.oneCell']) (by kernel_rfl) ?_; clear M; (try clear wc); intro wc M) | (refine m_al M rfl rfl ?_; clear M; (try clear wc); intro g wc M) | (refine m_bx M rfl rfl (by first | exact (rfl : _ = Value.agg _) | exact (rfl : _ = Value.int _ _) | exact (rfl : _ = Value.bool _) | exact (rfl : _ = Value.slice _ _ _) | exact (rfl : _ = Value.pointer _) | exact (rfl : _ = Value.map _) | exact (rfl : _ = Value.func _ _ _) | exact (rfl : _ = Value.string _)) (by rfl) ?_; clear M; (try clear wc); intro g wc M) | (refine absorb M ?_; intro M'; clear M; (obtain ⟨M, -⟩ : _ ∧ True := ⟨M', trivial⟩); clear M'; revert M; generalize World.alloc _ _ = wn; generalize wc.heap.size = g; (try clear wc); intro M; (obtain ⟨wc, rfl⟩ : ∃ x : World, x = wn := ⟨_, rfl⟩)) | (refine app0 rfl rfl rfl rfl ?_))
    go_ret
    exact ⟨_, _, [], rfl, .inl ⟨rfl, rfl, rfl⟩, M.forget⟩
  · obtain ⟨b, o, rfl, hb, hc⟩ := hr.cells h0
    have HC := Lib.hid hc
    have HL := Lib.hid hr.1
    clear hc hr
    have H1 : Hid (∀ u ∈ rc l, u.oneCell' = true) := by
      intro u hu
      obtain ⟨p, _, hp⟩ := List.mem_flatMap.1 hu
      simp only [List.mem_cons, List.not_mem_nil, or_false] at hp
      rcases hp with rfl | rfl <;> rfl
    go_enter Try.func67, Try.ntmps67
    have M := (Mem.init w noEx).new [] 23
    have hge : (w.alloc (.cells #[] 23)).heap[w.heap.size]? = some (.cells #[] 23) := heap_alloc_new w _
    have HGE := Lib.hid hge
    clear hge
    have HRA : Hid ((w.alloc (.cells #[] 23)).rangeAt b o (rc l)) := fun j v hv => (((Below.refl w.heap.size w).alloc (Nat.le_refl _) (.cells #[] 23)).cell (p := ⟨b, o + j, none⟩) hb).trans (HC.out j v hv)
    go_wp2_with (refine appN Try.underlying28 Try.infoRange rfl (by omega) (by omega) h0 (by omega) M rfl rfl rfl rfl HL.out H1.out HRA.out ⟨_, HGE.out⟩ HGE.out ?_; intro g' cap w' M')
    go_ret
    exact ⟨_, _, _, rfl, .inr ⟨g', rfl, rfl⟩, M'⟩

def CopyPost (j : Jb) (w : World) (e : Ending) (w' : World) : Prop := ∃ A c I, e = .returned (jobV j A c) ∧ Sn 23 2 A j.sh.length c (rc j.sh) I ∧ Mem w noEx w' I

set_option maxRecDepth 100000 in
set_option maxHeartbeats 1000000 in
theorem copyJob_any (j : Jb) (A : Option Addr) (c : Nat) (w : World) (hr : Rd w w.heap.size 2 A j.sh.length (rc j.sh)) (hn : j.sh.length ≤ 1000) :
    Calls Try.prog 18 #[jobV j A c] w (CopyPost j w) := by
  have HR := Lib.hid hr
  clear hr
  go_enter Try.func18, Try.ntmps18
  refine start noEx ?_
  intro wc M
  go_wp2_with (first | (refine m_ld1 M rfl rfl rfl (by (repeat' (first | exact List.mem_cons_self | refine List.mem_cons_of_mem _ ?_))) (by rfl) ?_) | (refine m_ldr M rfl rfl rfl (by (repeat' (first | exact List.mem_cons_self | refine List.mem_cons_of_mem _ ?_))) (by (try simp only [List.take_succ_cons, List.take_zero, List.take_nil, List.drop_succ_cons, List.drop_zero, List.drop_nil, List.cons_append, List.nil_append, List.append_nil, List.length_cons, List.length_nil, Nat.reduceAdd, Nat.zero_add, Nat.add_zero]); rfl) (by rfl) ?_) | (refine m_st M rfl rfl rfl (by first | exact (rfl : _ = Value.agg _) | exact (rfl : _ = Value.int _ _) | exact (rfl : _ = Value.bool _) | exact (rfl : _ = Value.slice _ _ _) | exact (rfl : _ = Value.pointer _) | exact (rfl : _ = Value.map _) | exact (rfl : _ = Value.func _ _ _) | exact (rfl : _ = Value.string _)) (by rfl) (by (repeat (first | exact Upd.head | apply Upd.tail))) (by (try simp only [List.take_succ_cons, List.take_zero, List.take_nil, List.drop_succ_cons, List.drop_zero, List.drop_nil, List.cons_append, List.nil_append, List.append_nil, List.length_cons, List.length_nil, Nat.reduceAdd, Nat.zero_add, Nat.add_zero]); rfl) (by simp) (by simp [Value.oneCell']) (by kernel_rfl) ?_; clear M; (try clear wc); intro wc M) | (refine m_al M rfl rfl ?_; clear M; (try clear wc); intro g wc M) | (refine m_bx M rfl rfl (by first | exact (rfl : _ = Value.agg _) | exact (rfl : _ = Value.int _ _) | exact (rfl : _ = Value.bool _) | exact (rfl : _ = Value.slice _ _ _) | exact (rfl : _ = Value.pointer _) | exact (rfl : _ = Value.map _) | exact (rfl : _ = Value.func _ _ _) | exact (rfl : _ = Value.string _)) (by rfl) ?_; clear M; (try clear wc); intro g wc M) | (go_at_call 67; refine (ranges_any _ _ j.sh _ (M.rd HR.out (Nat.le_refl _)) hn).mono ?_; rintro e wc ⟨A', c', I, rfl, hsn, N⟩; (rcases hsn with ⟨hn0, hx0, rfl⟩ | ⟨g', rfl, rfl⟩) <;> ((try (have HN0 := Lib.hid hn0; have HX0 := Lib.hid hx0; clear hn0 hx0)); replace M := M.join N; clear N; simp only [List.cons_append, List.nil_append] at M)))
  · refine ret_M (t := 2) (ty := 30) M (by rfl) (by rfl) (by rfl) (by (repeat' (first | exact List.mem_cons_self | refine List.mem_cons_of_mem _ ?_))) (by rfl) ?_
    exact ⟨A', c', [], rfl, .inl ⟨HN0.out, HX0.out, rfl⟩, M.sub (by (repeat (first | exact List.Sublist.slnil | apply List.Sublist.cons_cons | apply List.Sublist.cons)))⟩
  · refine ret_M (t := 2) (ty := 30) M (by rfl) (by rfl) (by rfl) (by (repeat' (first | exact List.mem_cons_self | refine List.mem_cons_of_mem _ ?_))) (by rfl) ?_
    exact ⟨some ⟨g', 0, none⟩, c', [(g', .row 23 2 j.sh.length (rc j.sh) c')], rfl, .inr ⟨g', rfl, rfl⟩, M.sub (by (repeat (first | exact List.Sublist.slnil | apply List.Sublist.cons_cons | apply List.Sublist.cons)))⟩

end Go.Proofs.Ythlpceoajhcliaa
end

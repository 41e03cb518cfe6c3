/-
  Walks of functions, and plain laws (texts put together). No condition.
-/
import Derived.Maps.OwnOps
import Derived.DeepKeys4
import Derived.RangeFuncNested
import Derived.RangeFuncBound
import Derived.RangeFuncCalls
import Derived.RangeFuncLeaves
import Derived.Shelf.Abstract
import Derived.Shelf.RegionOpen
import Derived.OwnWalkIn
import Derived.TacticsInMore
import Derived.LoopNIn
import Derived.LoopIn
import Derived.Test.YthlpceoajhcliaaMReedBlanks1
import Derived.Test.YthlpceoajhcliaaMReedBlanks2
import Derived.Test.YthlpceoajhcliaaMReedBlanks3
import Derived.Test.YthlpceoajhcliaaMReedBlanks4

section
/-
  ref1: tongues after strokes.
-/
namespace Go.Proofs.Ythlpceoajhcliaa
set_option linter.unusedSimpArgs false
set_option linter.unusedVariables false
open Go.RowKit

def St.zero : St := ⟨0, 0, 0, 0, 0, 0, 0, 0, 0, 0, 0, 0, 0, 0, 0⟩
def afT (j : Jb) (l : List Int) : St := if checkStrokesJ j l = 0 then j.st.after l else St.zero
theorem after_up {j : Jb} (hs : j.st.upTo 1000) : ∀ (l : List Int), (j.st.after l).upTo (1000 + 100 * (l.length : Int)) := by
  have key : ∀ (l : List Int) (s : St) (m : Int), s.upTo m → (s.after l).upTo (m + 100 * (l.length : Int)) := by
    intro l
    induction l with
    | nil => intro s m h; simpa [St.after] using h
    | cons k l ih =>
      intro s m h
      have := ih (s.filed k) (m + 100) (h.filed k)
      rw [show m + 100 * ((k :: l).length : Int) = m + 100 + 100 * (l.length : Int) by simp only [List.length_cons]; omega]
      exact this
  exact fun l => key l _ _ hs
def rspoil (s : St) : Int := s.spoiled
def rfineJ (j : Jb) (l : List Int) : Int :=
  if rpass j (j.st.after l).p0 (j.st.after l).p1 = 1 ∧ (j.st.after l).spoiled = 2 then 1
  else if rpass j (j.st.after l).p0 (j.st.after l).p1 = 2 ∨ (j.st.after l).spoiled = 1 then 2 else 3
def rworstF (p0 p1 : Int) (sh : List (Int × Int)) (n : Int) : Int := sh.foldl (fun out s => max (max out (p1 + s.2)) (-(p0 + s.1))) n
def rworstT (j : Jb) (l : List Int) : Int × Int := if checkStrokesJ j l = 0 then (rworstF (j.st.after l).p0 (j.st.after l).p1 (shx j.sh) 0, 0) else (0, checkStrokesJ j l)
def rfineT (j : Jb) (l : List Int) : Int × Int := if checkStrokesJ j l = 0 then (rfineJ j l, 0) else (0, checkStrokesJ j l)


set_option maxRecDepth 100000 in
set_option maxHeartbeats 1000000 in
theorem rAfter_any (j : Jb) (A : Option Addr) (c : Nat) (D : Option Addr) (d n : Nat) (l : List Int) (w : World) (hr : Rd w w.heap.size 2 A j.sh.length (rc j.sh)) (hn : j.sh.length ≤ 9223372036854775807) (hl : Rd w w.heap.size 1 D n (ic l)) (hm : n ≤ 9223372036854775807) :
    Calls Try.prog 54 #[jobV j A c, .slice D n d] w fun e w' => e = .returned (.tuple #[.agg #[.int .i64 ((afT j l).p0), .int .i64 ((afT j l).p1), .int .i64 ((afT j l).t0), .int .i64 ((afT j l).t1), .int .i64 ((afT j l).r0), .int .i64 ((afT j l).r1)], .int .i64 (checkStrokesJ j l)]) ∧ Below w.heap.size w w' := by
  obtain ⟨bJ, oJ, SJ⟩ := Sp.old hr
  have hll := hl.len1
  obtain ⟨bI, oI, SI⟩ := Sp.old hl
  refine px_enter noEx Try.func54 rfl 17 rfl [.agg #[.int .i64 j.p0, .int .i64 j.p1, .int .i64 j.t0, .int .i64 j.t1, .int .i64 j.r0, .int .i64 j.r1, .int .i64 j.u0, .int .i64 j.u1, .int .i64 j.d0, .int .i64 j.d1, .int .i64 j.a0, .int .i64 j.a1, .int .i64 j.b0, .int .i64 j.b1, .int .i64 j.le, .slice A j.sh.length c, .int .i64 j.wi, .int .i64 j.me], .slice D n d] rfl rfl (Mem.init w _) ?_
  intro ac wc T M
  refine wp_seq ?_
  refine wp_region_lit ?_
  refine l_w rfl ?_; intro K hK
  refine ow_bx M T rfl rfl rfl rfl (T.ev 0 rfl) rfl ?_; clear M T; intro g1 wc ac M T
  refine sh_out hK _ _ ?_; clear hK K
  refine l_w rfl ?_; intro K hK
  refine ow_al M T rfl rfl rfl rfl ?_; clear M T; intro g2 wc ac M T
  refine sh_out hK _ _ ?_; clear hK K
  refine l_q T rfl rfl rfl rfl (rn_assign rfl evc) ?_; clear T ac; intro ac T
  refine wpList_nil ?_
  replace T := T.pick [1, 2, 4] rfl
  refine nm_then ?_
  refine wp_seq ?_
  refine wp_seq ?_
  refine wp_region_lit ?_
  refine l_q T rfl rfl rfl rfl (rn_rowO (Mem.nth M 1 rfl) rfl (T.ev 1 rfl) rfl) ?_; clear T ac; intro ac T
  refine l_q T rfl rfl rfl rfl (rn_move rfl (T.ev 3 rfl)) ?_; clear T ac; intro ac T
  refine l_w rfl ?_; intro K hK
  refine ow_call (first := []) (cap := []) T rfl rfl rfl rfl evf (.cons (T.ev 1 rfl) (.cons (T.ev 0 rfl) .nil)) Try.func97 rfl rfl ?_
  refine Calls.mono (rcheckStrokes_any j _ _ _ _ _ l _ (SJ.rd M (List.nil_sublist _)) (by omega) (SI.rd M (List.nil_sublist _)) (by omega)) ?_
  clear T
  rintro e wc ⟨rfl, hb⟩
  intro ac T
  replace M := M.call hb; clear hb
  refine sh_out hK _ _ ?_; clear hK K
  refine l_q T rfl rfl rfl rfl (rn_assign rfl (T.ev 0 rfl)) ?_; clear T ac; intro ac T
  refine wpList_nil ?_
  replace T := T.pick [0, 4, 5, 6] rfl
  refine nm_then ?_
  refine wp_seq ?_
  refine wp_region_lit ?_
  refine l_q T rfl rfl rfl rfl (rn_move rfl (T.ev 0 rfl)) ?_; clear T ac; intro ac T
  refine l_q T rfl rfl rfl rfl (rn_neq rfl (T.ev 0 rfl) evc) ?_; clear T ac; intro ac T
  refine wpList_nil ?_
  replace T := T.pick [0, 2, 3, 4, 5] rfl
  refine nm_then ?_
  refine wp_ifn (T.ev 0 rfl) ?_ ?_
  · intro h1
    refine wp_seq ?_
    refine wp_region_lit ?_
    refine l_q (v := (.agg #[.int .i64 0, .int .i64 0, .int .i64 0, .int .i64 0, .int .i64 0, .int .i64 0])) T rfl rfl rfl rfl (rn_build rfl .nil (fun _ => by kernel_rfl)) ?_; clear T ac; intro ac T
    refine l_q T rfl rfl rfl rfl (rn_move rfl (T.ev 2 rfl)) ?_; clear T ac; intro ac T
    refine l_w rfl ?_; intro K hK
    refine ow_stO M T rfl rfl (T.ev 4 rfl) (T.ev 1 rfl) rfl .head rfl (by simp) rfl (by kernel_rfl) ?_; clear M T; intro wc ac M T
    refine sh_out hK _ _ ?_; clear hK K
    refine l_q T rfl rfl rfl rfl (rn_assign rfl (T.ev 0 rfl)) ?_; clear T ac; intro ac T
    refine wpList_nil ?_
    replace T := T.pick [0, 5] rfl
    replace M := M.mask [true, false] rfl
    refine nm_then ?_
    refine wp_ret ?_
    refine rt_then ?_
    refine rt_ct M T rfl (T.ev 1 rfl) (T.ev 0 rfl) (nthE_mem (i := 0) rfl) rfl ?_
    refine ⟨?_, M.below⟩
    unfold afT
    first | rw [if_pos h1, h1] | rw [if_neg h1]
    try rfl
  · intro h1
    obtain ⟨hc, h6, hk⟩ := strokes_of h1
    have hj := good_of hc
    have hst := hj.st
    have hup := after_up hst l
    have hp0 := hup.p0
    have hp1 := hup.p1
    refine wp_skip ?_
    refine nm_then ?_
    refine wp_seq ?_
    refine wp_region_lit ?_
    refine l_q T rfl rfl rfl rfl (rn_rowO (Mem.nth M 1 rfl) rfl (T.ev 3 rfl) rfl) ?_; clear T ac; intro ac T
    refine l_q T rfl rfl rfl rfl (rn_move rfl (T.ev 5 rfl)) ?_; clear T ac; intro ac T
    refine l_w rfl ?_; intro K hK
    refine ow_call (first := []) (cap := []) T rfl rfl rfl rfl evf (.cons (T.ev 1 rfl) (.cons (T.ev 0 rfl) .nil)) Try.func98 rfl rfl ?_
    refine Calls.mono (rafter_any j _ _ _ _ _ l _ (SI.rd M (List.nil_sublist _)) (by omega) hst) ?_
    clear T
    rintro e wc ⟨rfl, hb⟩
    intro ac T
    replace M := M.call hb; clear hb
    refine sh_out hK _ _ ?_; clear hK K
    refine l_w rfl ?_; intro K hK
    refine ow_stO M T rfl rfl (T.ev 5 rfl) (T.ev 0 rfl) rfl .head rfl (by simp) rfl (by kernel_rfl) ?_; clear M T; intro wc ac M T
    refine sh_out hK _ _ ?_; clear hK K
    refine l_q T rfl rfl rfl rfl (rn_assign rfl evc) ?_; clear T ac; intro ac T
    refine wpList_nil ?_
    replace T := T.pick [0, 6] rfl
    replace M := M.mask [true, false] rfl
    refine nm_then ?_
    refine wp_ret ?_
    refine rt_ct M T rfl (T.ev 1 rfl) (T.ev 0 rfl) (nthE_mem (i := 0) rfl) rfl ?_
    refine ⟨?_, M.below⟩
    unfold afT
    first | rw [if_pos h1, h1] | rw [if_neg h1]
    try rfl

set_option maxRecDepth 100000 in
set_option maxHeartbeats 1000000 in
theorem rspoiled_any (s : St) (w : World)  :
    Calls Try.prog 100 #[.agg #[.int .i64 s.u0, .int .i64 s.u1, .int .i64 s.d0, .int .i64 s.d1, .int .i64 s.a0, .int .i64 s.a1, .int .i64 s.b0, .int .i64 s.b1, .int .i64 s.le], .agg #[.int .i64 s.p0, .int .i64 s.p1, .int .i64 s.t0, .int .i64 s.t1, .int .i64 s.r0, .int .i64 s.r1]] w fun e w' => e = .returned (.int .i64 s.spoiled) ∧ Below w.heap.size w w' := by
  refine px_enter noEx Try.func100 rfl 35 rfl [.agg #[.int .i64 s.u0, .int .i64 s.u1, .int .i64 s.d0, .int .i64 s.d1, .int .i64 s.a0, .int .i64 s.a1, .int .i64 s.b0, .int .i64 s.b1, .int .i64 s.le], .agg #[.int .i64 s.p0, .int .i64 s.p1, .int .i64 s.t0, .int .i64 s.t1, .int .i64 s.r0, .int .i64 s.r1]] rfl rfl (Mem.init w _) ?_
  intro ac wc T M
  refine wp_seq ?_
  refine wp_region_lit ?_
  refine l_w rfl ?_; intro K hK
  refine ow_bx M T rfl rfl rfl rfl (T.ev 0 rfl) rfl ?_; clear M T; intro g1 wc ac M T
  refine sh_out hK _ _ ?_; clear hK K
  refine l_w rfl ?_; intro K hK
  refine ow_bx M T rfl rfl rfl rfl (T.ev 2 rfl) rfl ?_; clear M T; intro g2 wc ac M T
  refine sh_out hK _ _ ?_; clear hK K
  refine l_q T rfl rfl rfl rfl (rn_assign rfl evc) ?_; clear T ac; intro ac T
  refine wpList_nil ?_
  replace T := T.pick [1, 2] rfl
  refine nm_then ?_
  refine wp_seq ?_
  refine wp_block ?_
  refine cut_seq (fun ac wc => Tm ac 35 [(2, .pointer (some ⟨g1, 0, none⟩)), (3, .pointer (some ⟨g2, 0, none⟩)), (5, .bool ((decide (s.t1 < s.le)) || (decide (s.r1 < s.le))))] ∧ Mem w noEx wc [(g2, .cells [.int .i64 s.p0, .int .i64 s.p1, .int .i64 s.t0, .int .i64 s.t1, .int .i64 s.r0, .int .i64 s.r1]), (g1, .cells [.int .i64 s.u0, .int .i64 s.u1, .int .i64 s.d0, .int .i64 s.d1, .int .i64 s.a0, .int .i64 s.a1, .int .i64 s.b0, .int .i64 s.b1, .int .i64 s.le])]) ?_ ?_
  · refine wp_region_lit ?_
    refine l_q (v := (.pointer (some ⟨g2, 2, none⟩))) T rfl rfl rfl rfl (rn_fieldAddr (off := 2) rfl (T.ev 0 rfl) (fun _ _ _ => by kernel_rfl)) ?_; clear T ac; intro ac T
    refine l_q (v := (.pointer (some ⟨g2, 3, none⟩))) T rfl rfl rfl rfl (rn_fieldAddr (off := 1) rfl (T.ev 0 rfl) (fun _ _ _ => by kernel_rfl)) ?_; clear T ac; intro ac T
    refine l_q T rfl rfl rfl rfl (rn_one (Mem.nth M 0 rfl) rfl (T.ev 0 rfl) rfl) ?_; clear T ac; intro ac T
    refine l_q (v := (.pointer (some ⟨g1, 8, none⟩))) T rfl rfl rfl rfl (rn_fieldAddr (off := 8) rfl (T.ev 4 rfl) (fun _ _ _ => by kernel_rfl)) ?_; clear T ac; intro ac T
    refine l_q T rfl rfl rfl rfl (rn_one (Mem.nth M 1 rfl) rfl (T.ev 0 rfl) rfl) ?_; clear T ac; intro ac T
    refine l_q T rfl rfl rfl rfl (rn_lss rfl (T.ev 2 rfl) (T.ev 0 rfl)) ?_; clear T ac; intro ac T
    refine l_q T rfl rfl rfl rfl (rn_move rfl (T.ev 0 rfl)) ?_; clear T ac; intro ac T
    rcases Bool.eq_false_or_eq_true (decide (s.t1 < s.le)) with h1 | h1
    · replace h1 := of_decide_eq_true h1
      refine l_pass T (wanted_no rfl rfl (T.ev 0 rfl) (decide_eq_true h1)) rfl rfl rfl ?_; clear T ac; intro ac T
      refine l_pass T (wanted_no rfl rfl (T.ev 1 rfl) (decide_eq_true h1)) rfl rfl rfl ?_; clear T ac; intro ac T
      refine l_pass T (wanted_no rfl rfl (T.ev 2 rfl) (decide_eq_true h1)) rfl rfl rfl ?_; clear T ac; intro ac T
      refine l_pass T (wanted_no rfl rfl (T.ev 3 rfl) (decide_eq_true h1)) rfl rfl rfl ?_; clear T ac; intro ac T
      refine l_pass T (wanted_no rfl rfl (T.ev 4 rfl) (decide_eq_true h1)) rfl rfl rfl ?_; clear T ac; intro ac T
      refine l_pass T (wanted_no rfl rfl (T.ev 5 rfl) (decide_eq_true h1)) rfl rfl rfl ?_; clear T ac; intro ac T
      refine l_q T rfl rfl rfl rfl (rn_pick1 rfl (T.ev 6 rfl) (decide_eq_true h1) evc) ?_; clear T ac; intro ac T
      refine l_q T rfl rfl rfl rfl (rn_assign rfl (T.ev 0 rfl)) ?_; clear T ac; intro ac T
      refine wpList_nil ?_
      replace T := T.pick [0, 15, 16] rfl
      exact ⟨(T.pick (E' := [(2, .pointer (some ⟨g1, 0, none⟩)), (3, .pointer (some ⟨g2, 0, none⟩)), (5, .bool true)]) [2, 1, 0] rfl).as (by (try rw [show (decide (s.t1 < s.le)) = true from (decide_eq_true h1)]); rfl), M.mask [true, true] rfl⟩
    · replace h1 := of_decide_eq_false h1
      refine l_q (v := (.pointer (some ⟨g2, 4, none⟩))) T (wanted_yes rfl rfl (T.ev 0 rfl) (decide_eq_false h1)) rfl rfl rfl (rn_fieldAddr (off := 4) rfl (T.ev 7 rfl) (fun _ _ _ => by kernel_rfl)) ?_; clear T ac; intro ac T
      refine l_q (v := (.pointer (some ⟨g2, 5, none⟩))) T (wanted_yes rfl rfl (T.ev 1 rfl) (decide_eq_false h1)) rfl rfl rfl (rn_fieldAddr (off := 1) rfl (T.ev 0 rfl) (fun _ _ _ => by kernel_rfl)) ?_; clear T ac; intro ac T
      refine l_q T (wanted_yes rfl rfl (T.ev 2 rfl) (decide_eq_false h1)) rfl rfl rfl (rn_one (Mem.nth M 0 rfl) rfl (T.ev 0 rfl) rfl) ?_; clear T ac; intro ac T
      refine l_q (v := (.pointer (some ⟨g1, 8, none⟩))) T (wanted_yes rfl rfl (T.ev 3 rfl) (decide_eq_false h1)) rfl rfl rfl (rn_fieldAddr (off := 8) rfl (T.ev 11 rfl) (fun _ _ _ => by kernel_rfl)) ?_; clear T ac; intro ac T
      refine l_q T (wanted_yes rfl rfl (T.ev 4 rfl) (decide_eq_false h1)) rfl rfl rfl (rn_one (Mem.nth M 1 rfl) rfl (T.ev 0 rfl) rfl) ?_; clear T ac; intro ac T
      refine l_q T (wanted_yes rfl rfl (T.ev 5 rfl) (decide_eq_false h1)) rfl rfl rfl (rn_lss rfl (T.ev 2 rfl) (T.ev 0 rfl)) ?_; clear T ac; intro ac T
      refine l_q T rfl rfl rfl rfl (rn_pick0 rfl (T.ev 6 rfl) (decide_eq_false h1) (T.ev 0 rfl)) ?_; clear T ac; intro ac T
      refine l_q T rfl rfl rfl rfl (rn_assign rfl (T.ev 0 rfl)) ?_; clear T ac; intro ac T
      refine wpList_nil ?_
      replace T := T.pick [0, 15, 16] rfl
      exact ⟨(T.pick (E' := [(2, .pointer (some ⟨g1, 0, none⟩)), (3, .pointer (some ⟨g2, 0, none⟩)), (5, .bool (decide (s.r1 < s.le)))]) [2, 1, 0] rfl).as (by (try rw [show (decide (s.t1 < s.le)) = false from (decide_eq_false h1)]); rfl), M.mask [true, true] rfl⟩
  · clear T M
    rintro ac wc ⟨T, M⟩
    refine wp_cond_split (T.ev 2 rfl) ?_ ?_
    · intro h2
      (try have h2' := h2; try simp only [Bool.and_eq_true, Bool.or_eq_true, Bool.not_eq_true', Bool.and_eq_false_imp, Bool.or_eq_false_iff, decide_eq_true_eq, decide_eq_false_iff_not] at h2')
      refine wp_seq ?_
      refine wp_region_lit ?_
      refine l_q T rfl rfl rfl rfl (rn_assign rfl evc) ?_; clear T ac; intro ac T
      refine wpList_nil ?_
      replace T := T.pick [0] rfl
      replace M := M.mask [false, false] rfl
      refine nm_then ?_
      refine wp_ret ?_
      refine rt_blk ?_
      refine rt_then ?_
      refine rt_1 T rfl (T.ev 0 rfl) ?_
      refine ⟨ret_int ?_, M.below⟩
      unfold St.spoiled
      (repeat' split) <;> first | rfl | omega | contradiction | (simp_all; done) | (simp_all; omega)
    · intro h2
      (try have h2' := h2; try simp only [Bool.and_eq_true, Bool.or_eq_true, Bool.not_eq_true', Bool.and_eq_false_imp, Bool.or_eq_false_iff, decide_eq_true_eq, decide_eq_false_iff_not] at h2')
      refine cut_seq (fun ac wc => Tm ac 35 [(20, .bool ((decide (s.le ≤ s.t0)) && (decide (s.le ≤ s.r0))))] ∧ Mem w noEx wc []) ?_ ?_
      · refine wp_region_lit ?_
        refine l_q (v := (.pointer (some ⟨g2, 2, none⟩))) T rfl rfl rfl rfl (rn_fieldAddr (off := 2) rfl (T.ev 1 rfl) (fun _ _ _ => by kernel_rfl)) ?_; clear T ac; intro ac T
        refine l_q (v := (.pointer (some ⟨g2, 2, none⟩))) T rfl rfl rfl rfl (rn_fieldAddr (off := 0) rfl (T.ev 0 rfl) (fun _ _ _ => by kernel_rfl)) ?_; clear T ac; intro ac T
        refine l_q T rfl rfl rfl rfl (rn_one (Mem.nth M 0 rfl) rfl (T.ev 0 rfl) rfl) ?_; clear T ac; intro ac T
        refine l_q (v := (.pointer (some ⟨g1, 8, none⟩))) T rfl rfl rfl rfl (rn_fieldAddr (off := 8) rfl (T.ev 3 rfl) (fun _ _ _ => by kernel_rfl)) ?_; clear T ac; intro ac T
        refine l_q T rfl rfl rfl rfl (rn_one (Mem.nth M 1 rfl) rfl (T.ev 0 rfl) rfl) ?_; clear T ac; intro ac T
        refine l_q T rfl rfl rfl rfl (rn_geq rfl (T.ev 2 rfl) (T.ev 0 rfl)) ?_; clear T ac; intro ac T
        refine l_q T rfl rfl rfl rfl (rn_move rfl (T.ev 0 rfl)) ?_; clear T ac; intro ac T
        rcases Bool.eq_false_or_eq_true (decide (s.le ≤ s.t0)) with h3 | h3
        · replace h3 := of_decide_eq_true h3
          refine l_q (v := (.pointer (some ⟨g2, 4, none⟩))) T (wanted_yes rfl rfl (T.ev 0 rfl) (decide_eq_true h3)) rfl rfl rfl (rn_fieldAddr (off := 4) rfl (T.ev 8 rfl) (fun _ _ _ => by kernel_rfl)) ?_; clear T ac; intro ac T
          refine l_q (v := (.pointer (some ⟨g2, 4, none⟩))) T (wanted_yes rfl rfl (T.ev 1 rfl) (decide_eq_true h3)) rfl rfl rfl (rn_fieldAddr (off := 0) rfl (T.ev 0 rfl) (fun _ _ _ => by kernel_rfl)) ?_; clear T ac; intro ac T
          refine l_q T (wanted_yes rfl rfl (T.ev 2 rfl) (decide_eq_true h3)) rfl rfl rfl (rn_one (Mem.nth M 0 rfl) rfl (T.ev 0 rfl) rfl) ?_; clear T ac; intro ac T
          refine l_q (v := (.pointer (some ⟨g1, 8, none⟩))) T (wanted_yes rfl rfl (T.ev 3 rfl) (decide_eq_true h3)) rfl rfl rfl (rn_fieldAddr (off := 8) rfl (T.ev 10 rfl) (fun _ _ _ => by kernel_rfl)) ?_; clear T ac; intro ac T
          refine l_q T (wanted_yes rfl rfl (T.ev 4 rfl) (decide_eq_true h3)) rfl rfl rfl (rn_one (Mem.nth M 1 rfl) rfl (T.ev 0 rfl) rfl) ?_; clear T ac; intro ac T
          refine l_q T (wanted_yes rfl rfl (T.ev 5 rfl) (decide_eq_true h3)) rfl rfl rfl (rn_geq rfl (T.ev 2 rfl) (T.ev 0 rfl)) ?_; clear T ac; intro ac T
          refine l_q T rfl rfl rfl rfl (rn_pick1 rfl (T.ev 6 rfl) (decide_eq_true h3) (T.ev 0 rfl)) ?_; clear T ac; intro ac T
          refine l_q T rfl rfl rfl rfl (rn_assign rfl (T.ev 0 rfl)) ?_; clear T ac; intro ac T
          refine wpList_nil ?_
          replace T := T.pick [0] rfl
          replace M := M.mask [false, false] rfl
          exact ⟨(T.pick (E' := [(20, .bool (decide (s.le ≤ s.r0)))]) [0] rfl).as (by (try rw [show (decide (s.le ≤ s.t0)) = true from (decide_eq_true h3)]); rfl), M.mask [] rfl⟩
        · replace h3 := of_decide_eq_false h3
          refine l_pass T (wanted_no rfl rfl (T.ev 0 rfl) (decide_eq_false h3)) rfl rfl rfl ?_; clear T ac; intro ac T
          refine l_pass T (wanted_no rfl rfl (T.ev 1 rfl) (decide_eq_false h3)) rfl rfl rfl ?_; clear T ac; intro ac T
          refine l_pass T (wanted_no rfl rfl (T.ev 2 rfl) (decide_eq_false h3)) rfl rfl rfl ?_; clear T ac; intro ac T
          refine l_pass T (wanted_no rfl rfl (T.ev 3 rfl) (decide_eq_false h3)) rfl rfl rfl ?_; clear T ac; intro ac T
          refine l_pass T (wanted_no rfl rfl (T.ev 4 rfl) (decide_eq_false h3)) rfl rfl rfl ?_; clear T ac; intro ac T
          refine l_pass T (wanted_no rfl rfl (T.ev 5 rfl) (decide_eq_false h3)) rfl rfl rfl ?_; clear T ac; intro ac T
          refine l_q T rfl rfl rfl rfl (rn_pick0 rfl (T.ev 6 rfl) (decide_eq_false h3) evc) ?_; clear T ac; intro ac T
          refine l_q T rfl rfl rfl rfl (rn_assign rfl (T.ev 0 rfl)) ?_; clear T ac; intro ac T
          refine wpList_nil ?_
          replace T := T.pick [0] rfl
          replace M := M.mask [false, false] rfl
          exact ⟨(T.pick (E' := [(20, .bool false)]) [0] rfl).as (by (try rw [show (decide (s.le ≤ s.t0)) = false from (decide_eq_false h3)]); rfl), M.mask [] rfl⟩
      · clear T M
        rintro ac wc ⟨T, M⟩
        refine wp_cond_split (T.ev 0 rfl) ?_ ?_
        · intro h4
          (try have h4' := h4; try simp only [Bool.and_eq_true, Bool.or_eq_true, Bool.not_eq_true', Bool.and_eq_false_imp, Bool.or_eq_false_iff, decide_eq_true_eq, decide_eq_false_iff_not] at h4')
          refine wp_seq ?_
          refine wp_region_lit ?_
          refine l_q T rfl rfl rfl rfl (rn_assign rfl evc) ?_; clear T ac; intro ac T
          refine wpList_nil ?_
          replace T := T.pick [0] rfl
          refine nm_then ?_
          refine wp_ret ?_
          refine rt_blk ?_
          refine rt_then ?_
          refine rt_1 T rfl (T.ev 0 rfl) ?_
          refine ⟨ret_int ?_, M.below⟩
          unfold St.spoiled
          (repeat' split) <;> first | rfl | omega | contradiction | (simp_all; done) | (simp_all; omega)
        · intro h4
          (try have h4' := h4; try simp only [Bool.and_eq_true, Bool.or_eq_true, Bool.not_eq_true', Bool.and_eq_false_imp, Bool.or_eq_false_iff, decide_eq_true_eq, decide_eq_false_iff_not] at h4')
          refine wp_skip ?_
          refine nm_blk ?_
          refine nm_then ?_
          refine wp_seq ?_
          refine wp_region_lit ?_
          refine l_q T rfl rfl rfl rfl (rn_assign rfl evc) ?_; clear T ac; intro ac T
          refine wpList_nil ?_
          replace T := T.pick [0] rfl
          refine nm_then ?_
          refine wp_ret ?_
          refine rt_1 T rfl (T.ev 0 rfl) ?_
          refine ⟨ret_int ?_, M.below⟩
          unfold St.spoiled
          (repeat' split) <;> first | rfl | omega | contradiction | (simp_all; done) | (simp_all; omega)

theorem rspoiled_of {s : St} {j : Jb} (h : FileOf s j) (w : World) : Calls Try.prog 100 #[.agg #[.int .i64 j.u0, .int .i64 j.u1, .int .i64 j.d0, .int .i64 j.d1, .int .i64 j.a0, .int .i64 j.a1, .int .i64 j.b0, .int .i64 j.b1, .int .i64 j.le], .agg #[.int .i64 s.p0, .int .i64 s.p1, .int .i64 s.t0, .int .i64 s.t1, .int .i64 s.r0, .int .i64 s.r1]] w fun e w' => e = .returned (.int .i64 s.spoiled) ∧ Below w.heap.size w w' := by
  have := rspoiled_any s w
  rw [← file_eq h] at this
  exact this

set_option maxRecDepth 100000 in
set_option maxHeartbeats 1000000 in
theorem rSpoiled_any (j : Jb) (A : Option Addr) (c : Nat) (D : Option Addr) (d n : Nat) (l : List Int) (w : World) (hr : Rd w w.heap.size 2 A j.sh.length (rc j.sh)) (hn : j.sh.length ≤ 9223372036854775807) (hl : Rd w w.heap.size 1 D n (ic l)) (hm : n ≤ 9223372036854775807) :
    Calls Try.prog 56 #[jobV j A c, .slice D n d] w fun e w' => e = .returned (.tuple #[.int .i64 ((spoiledT j l).1), .int .i64 ((spoiledT j l).2)]) ∧ Below w.heap.size w w' := by
  obtain ⟨bJ, oJ, SJ⟩ := Sp.old hr
  have hll := hl.len1
  obtain ⟨bI, oI, SI⟩ := Sp.old hl
  refine px_enter noEx Try.func56 rfl 19 rfl [.agg #[.int .i64 j.p0, .int .i64 j.p1, .int .i64 j.t0, .int .i64 j.t1, .int .i64 j.r0, .int .i64 j.r1, .int .i64 j.u0, .int .i64 j.u1, .int .i64 j.d0, .int .i64 j.d1, .int .i64 j.a0, .int .i64 j.a1, .int .i64 j.b0, .int .i64 j.b1, .int .i64 j.le, .slice A j.sh.length c, .int .i64 j.wi, .int .i64 j.me], .slice D n d] rfl rfl (Mem.init w _) ?_
  intro ac wc T M
  refine wp_seq ?_
  refine wp_region_lit ?_
  refine l_w rfl ?_; intro K hK
  refine ow_bx M T rfl rfl rfl rfl (T.ev 0 rfl) rfl ?_; clear M T; intro g1 wc ac M T
  refine sh_out hK _ _ ?_; clear hK K
  refine l_q T rfl rfl rfl rfl (rn_assign rfl evc) ?_; clear T ac; intro ac T
  refine l_q T rfl rfl rfl rfl (rn_assign rfl evc) ?_; clear T ac; intro ac T
  refine wpList_nil ?_
  replace T := T.pick [2, 4] rfl
  refine nm_then ?_
  refine wp_seq ?_
  refine wp_seq ?_
  refine wp_region_lit ?_
  refine l_q T rfl rfl rfl rfl (rn_rowO (Mem.nth M 0 rfl) rfl (T.ev 0 rfl) rfl) ?_; clear T ac; intro ac T
  refine l_q T rfl rfl rfl rfl (rn_move rfl (T.ev 2 rfl)) ?_; clear T ac; intro ac T
  refine l_w rfl ?_; intro K hK
  refine ow_call (first := []) (cap := []) T rfl rfl rfl rfl evf (.cons (T.ev 1 rfl) (.cons (T.ev 0 rfl) .nil)) Try.func97 rfl rfl ?_
  refine Calls.mono (rcheckStrokes_any j _ _ _ _ _ l _ (SJ.rd M (List.nil_sublist _)) (by omega) (SI.rd M (List.nil_sublist _)) (by omega)) ?_
  clear T
  rintro e wc ⟨rfl, hb⟩
  intro ac T
  replace M := M.call hb; clear hb
  refine sh_out hK _ _ ?_; clear hK K
  refine l_q T rfl rfl rfl rfl (rn_assign rfl (T.ev 0 rfl)) ?_; clear T ac; intro ac T
  refine wpList_nil ?_
  replace T := T.pick [0, 4, 5] rfl
  refine nm_then ?_
  refine wp_seq ?_
  refine wp_region_lit ?_
  refine l_q T rfl rfl rfl rfl (rn_move rfl (T.ev 0 rfl)) ?_; clear T ac; intro ac T
  refine l_q T rfl rfl rfl rfl (rn_neq rfl (T.ev 0 rfl) evc) ?_; clear T ac; intro ac T
  refine wpList_nil ?_
  replace T := T.pick [0, 2, 3, 4] rfl
  refine nm_then ?_
  refine wp_ifn (T.ev 0 rfl) ?_ ?_
  · intro h1
    refine wp_seq ?_
    refine wp_region_lit ?_
    refine l_q T rfl rfl rfl rfl (rn_move rfl (T.ev 1 rfl)) ?_; clear T ac; intro ac T
    refine l_q T rfl rfl rfl rfl (rn_assign rfl evc) ?_; clear T ac; intro ac T
    refine l_q T rfl rfl rfl rfl (rn_assign rfl (T.ev 1 rfl)) ?_; clear T ac; intro ac T
    refine wpList_nil ?_
    replace T := T.pick [0, 1] rfl
    replace M := M.mask [false] rfl
    refine nm_then ?_
    refine wp_ret ?_
    refine rt_then ?_
    refine rt_2 T rfl (T.ev 1 rfl) (T.ev 0 rfl) ?_
    refine ⟨?_, M.below⟩
    unfold spoiledT
    first | rw [if_pos h1] | rw [if_neg h1]
    try rw [h1]
    try rfl
  · intro h1
    obtain ⟨hc, h6, hk⟩ := strokes_of h1
    have hj := good_of hc
    have hst := hj.st
    have hup := after_up hst l
    have hp0 := hup.p0
    have hp1 := hup.p1
    refine wp_skip ?_
    refine nm_then ?_
    refine wp_seq ?_
    refine g_start2 M (M.mask [true] rfl) 8 (by kernel_rfl) rfl (by kernel_rfl) ?_
    clear M; intro wc M
    refine g_q (v := (.pointer (some ⟨g1, 6, none⟩))) (T := T) (i := 0) rfl (by kernel_rfl) (by kernel_rfl : (pbits 8 0).setIfInBounds 0 true = pbits 8 1) si_U (fun _ _ _ h => h) rfl rfl rfl rfl (fun _ _ _ _ _ => (rn_fieldAddr (off := 6) rfl (T.ev 2 rfl) (fun _ _ _ => by kernel_rfl))) ?_; clear T ac; intro ac T
    refine g_q (T := T) (i := 1) rfl (by kernel_rfl) (by kernel_rfl : (pbits 8 1).setIfInBounds 1 true = pbits 8 3) si_U (fun _ _ _ h => h) rfl rfl rfl rfl (fun B w' hD hl hS => (rn_rowO (Mem.nth (show Mem w noEx w' _ from hS) 0 rfl) rfl (T.ev 0 rfl) rfl)) ?_; clear T ac; intro ac T
    refine g_q (T := T) (i := 2) rfl (by kernel_rfl) (by kernel_rfl : (pbits 8 3).setIfInBounds 2 true = pbits 8 7) si_U (fun _ _ _ h => h) rfl rfl rfl rfl (fun B w' hD hl hS => (rn_rowO (Mem.nth (show Mem w noEx w' _ from hS) 0 rfl) rfl (T.ev 4 rfl) rfl)) ?_; clear T ac; intro ac T
    refine g_q (T := T) (i := 3) rfl (by kernel_rfl) (by kernel_rfl : (pbits 8 7).setIfInBounds 3 true = pbits 8 15) si_U (fun _ _ _ h => h) rfl rfl rfl rfl (fun _ _ _ _ _ => (rn_move rfl (T.ev 6 rfl))) ?_; clear T ac; intro ac T
    refine g_w (i := 4) (by kernel_rfl) rfl (by kernel_rfl : (pbits 8 15).setIfInBounds 4 true = pbits 8 31) rfl ?_; intro K hK
    refine ow_call (first := []) (cap := []) T rfl rfl rfl rfl evf (.cons (T.ev 1 rfl) (.cons (T.ev 0 rfl) .nil)) Try.func98 rfl rfl ?_
    refine Calls.mono (rafter_any j _ _ _ _ _ l _ (SI.rd M (List.nil_sublist _)) (by omega) hst) ?_
    clear T
    rintro e wc ⟨rfl, hb⟩
    intro ac T
    replace M := M.call hb; clear hb
    refine sh_out hK _ _ (M.mask [true] rfl) ?_; clear hK K
    refine g_w (i := 5) (by kernel_rfl) rfl (by kernel_rfl : (pbits 8 31).setIfInBounds 5 true = pbits 8 63) rfl ?_; intro K hK
    refine ow_call (first := []) (cap := []) T rfl rfl rfl rfl evf (.cons (T.ev 3 rfl) (.cons (T.ev 0 rfl) .nil)) Try.func100 rfl rfl ?_
    refine Calls.mono (rspoiled_of (s := j.st.after l) (j := j) (FileOf.after l (FileOf.of j)) _) ?_
    clear T
    rintro e wc ⟨rfl, hb⟩
    intro ac T
    replace M := M.call hb; clear hb
    refine sh_out hK _ _ (M.mask [true] rfl) ?_; clear hK K
    refine g_q (T := T) (i := 6) rfl (by kernel_rfl) (by kernel_rfl : (pbits 8 63).setIfInBounds 6 true = pbits 8 127) si_U (fun _ _ _ h => h) rfl rfl rfl rfl (fun _ _ _ _ _ => (rn_assign rfl (T.ev 0 rfl))) ?_; clear T ac; intro ac T
    refine g_q (T := T) (i := 7) rfl (by kernel_rfl) (by kernel_rfl : (pbits 8 127).setIfInBounds 7 true = pbits 8 255) si_U (fun _ _ _ h => h) rfl rfl rfl rfl (fun _ _ _ _ _ => (rn_assign rfl evc)) ?_; clear T ac; intro ac T
    refine g_done (by kernel_rfl) ?_
    replace T := T.pick [0, 1] rfl
    replace M := M.mask [false] rfl
    refine nm_then ?_
    refine wp_ret ?_
    refine rt_2 T rfl (T.ev 1 rfl) (T.ev 0 rfl) ?_
    refine ⟨?_, M.below⟩
    unfold spoiledT
    first | rw [if_pos h1] | rw [if_neg h1]
    try rw [h1]
    try rfl

set_option maxRecDepth 100000 in
set_option maxHeartbeats 1000000 in
theorem rfine_any (j : Jb) (A : Option Addr) (c : Nat) (D : Option Addr) (d n : Nat) (l : List Int) (w : World) (hj : j.good) (hr : Rd w w.heap.size 2 A j.sh.length (rc j.sh)) (hl : Rd w w.heap.size 1 D n (ic l)) (hm : n ≤ 20) :
    Calls Try.prog 70 #[jobV j A c, .slice D n d] w fun e w' => e = .returned (.int .i64 (rfineJ j l)) ∧ Below w.heap.size w w' := by
  obtain ⟨bJ, oJ, SJ⟩ := Sp.old hr
  have hll := hl.len1
  obtain ⟨bI, oI, SI⟩ := Sp.old hl
  have hst := hj.st
  have hup := after_up hst l
  have hp0 := hup.p0
  have hp1 := hup.p1
  refine px_enter noEx Try.func70 rfl 33 rfl [.agg #[.int .i64 j.p0, .int .i64 j.p1, .int .i64 j.t0, .int .i64 j.t1, .int .i64 j.r0, .int .i64 j.r1, .int .i64 j.u0, .int .i64 j.u1, .int .i64 j.d0, .int .i64 j.d1, .int .i64 j.a0, .int .i64 j.a1, .int .i64 j.b0, .int .i64 j.b1, .int .i64 j.le, .slice A j.sh.length c, .int .i64 j.wi, .int .i64 j.me], .slice D n d] rfl rfl (Mem.init w _) ?_
  intro ac wc T M
  refine wp_seq ?_
  refine wp_region_lit ?_
  refine l_w rfl ?_; intro K hK
  refine ow_bx M T rfl rfl rfl rfl (T.ev 0 rfl) rfl ?_; clear M T; intro g1 wc ac M T
  refine sh_out hK _ _ ?_; clear hK K
  refine l_q T rfl rfl rfl rfl (rn_assign rfl evc) ?_; clear T ac; intro ac T
  refine wpList_nil ?_
  replace T := T.pick [1, 3] rfl
  refine nm_then ?_
  refine wp_seq ?_
  refine wp_region_lit ?_
  refine l_q T rfl rfl rfl rfl (rn_rowO (Mem.nth M 0 rfl) rfl (T.ev 0 rfl) rfl) ?_; clear T ac; intro ac T
  refine l_q T rfl rfl rfl rfl (rn_move rfl (T.ev 2 rfl)) ?_; clear T ac; intro ac T
  refine l_w rfl ?_; intro K hK
  refine ow_call (first := []) (cap := []) T rfl rfl rfl rfl evf (.cons (T.ev 1 rfl) (.cons (T.ev 0 rfl) .nil)) Try.func98 rfl rfl ?_
  refine Calls.mono (rafter_any j _ _ _ _ _ l _ (SI.rd M (List.nil_sublist _)) (by omega) hst) ?_
  clear T
  rintro e wc ⟨rfl, hb⟩
  intro ac T
  replace M := M.call hb; clear hb
  refine sh_out hK _ _ ?_; clear hK K
  refine l_w rfl ?_; intro K hK
  refine ow_al M T rfl rfl rfl rfl ?_; clear M T; intro g2 wc ac M T
  refine sh_out hK _ _ ?_; clear hK K
  refine l_w rfl ?_; intro K hK
  refine ow_stO M T rfl rfl (T.ev 0 rfl) (T.ev 1 rfl) rfl .head rfl (by simp) rfl (by kernel_rfl) ?_; clear M T; intro wc ac M T
  refine sh_out hK _ _ ?_; clear hK K
  refine wpList_nil ?_
  replace T := T.pick [0, 4] rfl
  refine nm_then ?_
  refine wp_seq ?_
  refine g_start2 M (M.mask [true, true] rfl) 10 (by kernel_rfl) rfl (by kernel_rfl) ?_
  clear M; intro wc M
  refine g_q (T := T) (i := 0) rfl (by kernel_rfl) (by kernel_rfl : (pbits 10 0).setIfInBounds 0 true = pbits 10 1) si_U (fun _ _ _ h => h) rfl rfl rfl rfl (fun B w' hD hl hS => (rn_rowO (Mem.nth (show Mem w noEx w' _ from hS) 1 rfl) rfl (T.ev 1 rfl) rfl)) ?_; clear T ac; intro ac T
  refine g_q (v := (.pointer (some ⟨g2, 0, none⟩))) (T := T) (i := 1) rfl (by kernel_rfl) (by kernel_rfl : (pbits 10 1).setIfInBounds 1 true = pbits 10 3) si_U (fun _ _ _ h => h) rfl rfl rfl rfl (fun _ _ _ _ _ => (rn_fieldAddr (off := 0) rfl (T.ev 1 rfl) (fun _ _ _ => by kernel_rfl))) ?_; clear T ac; intro ac T
  refine g_q (T := T) (i := 2) rfl (by kernel_rfl) (by kernel_rfl : (pbits 10 3).setIfInBounds 2 true = pbits 10 7) si_U (fun _ _ _ h => h) rfl rfl rfl rfl (fun B w' hD hl hS => (rn_rowO (Mem.nth (show Mem w noEx w' _ from hS) 0 rfl) rfl (T.ev 0 rfl) rfl)) ?_; clear T ac; intro ac T
  refine g_q (v := (.pointer (some ⟨g1, 6, none⟩))) (T := T) (i := 4) rfl (by kernel_rfl) (by kernel_rfl : (pbits 10 7).setIfInBounds 4 true = pbits 10 23) si_U (fun _ _ _ h => h) rfl rfl rfl rfl (fun _ _ _ _ _ => (rn_fieldAddr (off := 6) rfl (T.ev 4 rfl) (fun _ _ _ => by kernel_rfl))) ?_; clear T ac; intro ac T
  refine g_q (T := T) (i := 5) rfl (by kernel_rfl) (by kernel_rfl : (pbits 10 23).setIfInBounds 5 true = pbits 10 55) si_U (fun _ _ _ h => h) rfl rfl rfl rfl (fun B w' hD hl hS => (rn_rowO (Mem.nth (show Mem w noEx w' _ from hS) 1 rfl) rfl (T.ev 0 rfl) rfl)) ?_; clear T ac; intro ac T
  refine g_q (T := T) (i := 6) rfl (by kernel_rfl) (by kernel_rfl : (pbits 10 55).setIfInBounds 6 true = pbits 10 119) si_U (fun _ _ _ h => h) rfl rfl rfl rfl (fun B w' hD hl hS => (rn_rowO (Mem.nth (show Mem w noEx w' _ from hS) 0 rfl) rfl (T.ev 5 rfl) rfl)) ?_; clear T ac; intro ac T
  refine g_w (i := 3) (by kernel_rfl) rfl (by kernel_rfl : (pbits 10 119).setIfInBounds 3 true = pbits 10 127) rfl ?_; intro K hK
  refine ow_call (first := []) (cap := []) T rfl rfl rfl rfl evf (.cons (T.ev 5 rfl) (.cons (T.ev 3 rfl) .nil)) Try.func89 rfl rfl ?_
  refine Calls.mono (rpasses_any j _ _ ((j.st.after l).p0) ((j.st.after l).p1) _ (by assumption) (SJ.rd M (List.nil_sublist _)) (by omega) (by omega)) ?_
  clear T
  rintro e wc ⟨rfl, hb⟩
  intro ac T
  replace M := M.call hb; clear hb
  refine sh_out hK _ _ (M.mask [true, true] rfl) ?_; clear hK K
  refine g_w (i := 7) (by kernel_rfl) rfl (by kernel_rfl : (pbits 10 127).setIfInBounds 7 true = pbits 10 255) rfl ?_; intro K hK
  refine ow_call (first := []) (cap := []) T rfl rfl rfl rfl evf (.cons (T.ev 2 rfl) (.cons (T.ev 1 rfl) .nil)) Try.func100 rfl rfl ?_
  refine Calls.mono (rspoiled_of (s := j.st.after l) (j := j) (FileOf.after l (FileOf.of j)) _) ?_
  clear T
  rintro e wc ⟨rfl, hb⟩
  intro ac T
  replace M := M.call hb; clear hb
  refine sh_out hK _ _ (M.mask [true, true] rfl) ?_; clear hK K
  refine g_q (T := T) (i := 8) rfl (by kernel_rfl) (by kernel_rfl : (pbits 10 255).setIfInBounds 8 true = pbits 10 511) si_U (fun _ _ _ h => h) rfl rfl rfl rfl (fun _ _ _ _ _ => (rn_assign rfl (T.ev 1 rfl))) ?_; clear T ac; intro ac T
  refine g_q (T := T) (i := 9) rfl (by kernel_rfl) (by kernel_rfl : (pbits 10 511).setIfInBounds 9 true = pbits 10 1023) si_U (fun _ _ _ h => h) rfl rfl rfl rfl (fun _ _ _ _ _ => (rn_assign rfl (T.ev 1 rfl))) ?_; clear T ac; intro ac T
  refine g_done (by kernel_rfl) ?_
  replace T := T.pick [0, 1] rfl
  replace M := M.mask [false, false] rfl
  refine nm_then ?_
  refine wp_seq ?_
  refine wp_block ?_
  refine cut_seq (fun ac wc => Tm ac 33 [(6, .int .i64 (rpass j ((j.st.after l).p0) ((j.st.after l).p1))), (7, .int .i64 ((j.st.after l).spoiled)), (19, .bool ((decide ((rpass j ((j.st.after l).p0) ((j.st.after l).p1)) = 1)) && (decide (((j.st.after l).spoiled) = 2))))] ∧ Mem w noEx wc []) ?_ ?_
  · refine wp_region_lit ?_
    refine l_q T rfl rfl rfl rfl (rn_move rfl (T.ev 1 rfl)) ?_; clear T ac; intro ac T
    refine l_q T rfl rfl rfl rfl (rn_eql rfl (T.ev 0 rfl) evc) ?_; clear T ac; intro ac T
    refine l_q T rfl rfl rfl rfl (rn_move rfl (T.ev 0 rfl)) ?_; clear T ac; intro ac T
    rcases Bool.eq_false_or_eq_true (decide ((rpass j ((j.st.after l).p0) ((j.st.after l).p1)) = 1)) with h1 | h1
    · replace h1 := of_decide_eq_true h1
      refine l_q T (wanted_yes rfl rfl (T.ev 0 rfl) (decide_eq_true h1)) rfl rfl rfl (rn_move rfl (T.ev 3 rfl)) ?_; clear T ac; intro ac T
      refine l_q T (wanted_yes rfl rfl (T.ev 1 rfl) (decide_eq_true h1)) rfl rfl rfl (rn_eql rfl (T.ev 0 rfl) evc) ?_; clear T ac; intro ac T
      refine l_q T rfl rfl rfl rfl (rn_pick1 rfl (T.ev 2 rfl) (decide_eq_true h1) (T.ev 0 rfl)) ?_; clear T ac; intro ac T
      refine l_q T rfl rfl rfl rfl (rn_assign rfl (T.ev 0 rfl)) ?_; clear T ac; intro ac T
      refine wpList_nil ?_
      replace T := T.pick [0, 7, 8] rfl
      exact ⟨(T.pick (E' := [(6, .int .i64 (rpass j ((j.st.after l).p0) ((j.st.after l).p1))), (7, .int .i64 ((j.st.after l).spoiled)), (19, .bool (decide (((j.st.after l).spoiled) = 2)))]) [2, 1, 0] rfl).as (by (try rw [show (decide ((rpass j ((j.st.after l).p0) ((j.st.after l).p1)) = 1)) = true from (decide_eq_true h1)]); rfl), M.mask [] rfl⟩
    · replace h1 := of_decide_eq_false h1
      refine l_pass T (wanted_no rfl rfl (T.ev 0 rfl) (decide_eq_false h1)) rfl rfl rfl ?_; clear T ac; intro ac T
      refine l_pass T (wanted_no rfl rfl (T.ev 1 rfl) (decide_eq_false h1)) rfl rfl rfl ?_; clear T ac; intro ac T
      refine l_q T rfl rfl rfl rfl (rn_pick0 rfl (T.ev 2 rfl) (decide_eq_false h1) evc) ?_; clear T ac; intro ac T
      refine l_q T rfl rfl rfl rfl (rn_assign rfl (T.ev 0 rfl)) ?_; clear T ac; intro ac T
      refine wpList_nil ?_
      replace T := T.pick [0, 7, 8] rfl
      exact ⟨(T.pick (E' := [(6, .int .i64 (rpass j ((j.st.after l).p0) ((j.st.after l).p1))), (7, .int .i64 ((j.st.after l).spoiled)), (19, .bool false)]) [2, 1, 0] rfl).as (by (try rw [show (decide ((rpass j ((j.st.after l).p0) ((j.st.after l).p1)) = 1)) = false from (decide_eq_false h1)]); rfl), M.mask [] rfl⟩
  · clear T M
    rintro ac wc ⟨T, M⟩
    refine wp_cond_split (T.ev 2 rfl) ?_ ?_
    · intro h2
      (try have h2' := h2; try simp only [Bool.and_eq_true, Bool.or_eq_true, Bool.not_eq_true', Bool.and_eq_false_imp, Bool.or_eq_false_iff, decide_eq_true_eq, decide_eq_false_iff_not] at h2')
      refine wp_seq ?_
      refine wp_region_lit ?_
      refine l_q T rfl rfl rfl rfl (rn_assign rfl evc) ?_; clear T ac; intro ac T
      refine wpList_nil ?_
      replace T := T.pick [0] rfl
      refine nm_then ?_
      refine wp_ret ?_
      refine rt_blk ?_
      refine rt_then ?_
      refine rt_1 T rfl (T.ev 0 rfl) ?_
      refine ⟨ret_int ?_, M.below⟩
      unfold rfineJ
      (repeat' split) <;> first | rfl | omega | contradiction | (simp_all; done) | (simp_all; omega)
    · intro h2
      (try have h2' := h2; try simp only [Bool.and_eq_true, Bool.or_eq_true, Bool.not_eq_true', Bool.and_eq_false_imp, Bool.or_eq_false_iff, decide_eq_true_eq, decide_eq_false_iff_not] at h2')
      refine cut_seq (fun ac wc => Tm ac 33 [(26, .bool ((decide ((rpass j ((j.st.after l).p0) ((j.st.after l).p1)) = 2)) || (decide (((j.st.after l).spoiled) = 1))))] ∧ Mem w noEx wc []) ?_ ?_
      · refine wp_region_lit ?_
        refine l_q T rfl rfl rfl rfl (rn_move rfl (T.ev 0 rfl)) ?_; clear T ac; intro ac T
        refine l_q T rfl rfl rfl rfl (rn_eql rfl (T.ev 0 rfl) evc) ?_; clear T ac; intro ac T
        refine l_q T rfl rfl rfl rfl (rn_move rfl (T.ev 0 rfl)) ?_; clear T ac; intro ac T
        rcases Bool.eq_false_or_eq_true (decide ((rpass j ((j.st.after l).p0) ((j.st.after l).p1)) = 2)) with h3 | h3
        · replace h3 := of_decide_eq_true h3
          refine l_pass T (wanted_no rfl rfl (T.ev 0 rfl) (decide_eq_true h3)) rfl rfl rfl ?_; clear T ac; intro ac T
          refine l_pass T (wanted_no rfl rfl (T.ev 1 rfl) (decide_eq_true h3)) rfl rfl rfl ?_; clear T ac; intro ac T
          refine l_q T rfl rfl rfl rfl (rn_pick1 rfl (T.ev 2 rfl) (decide_eq_true h3) evc) ?_; clear T ac; intro ac T
          refine l_q T rfl rfl rfl rfl (rn_assign rfl (T.ev 0 rfl)) ?_; clear T ac; intro ac T
          refine wpList_nil ?_
          replace T := T.pick [0] rfl
          exact ⟨(T.pick (E' := [(26, .bool true)]) [0] rfl).as (by (try rw [show (decide ((rpass j ((j.st.after l).p0) ((j.st.after l).p1)) = 2)) = true from (decide_eq_true h3)]); rfl), M.mask [] rfl⟩
        · replace h3 := of_decide_eq_false h3
          refine l_q T (wanted_yes rfl rfl (T.ev 0 rfl) (decide_eq_false h3)) rfl rfl rfl (rn_move rfl (T.ev 4 rfl)) ?_; clear T ac; intro ac T
          refine l_q T (wanted_yes rfl rfl (T.ev 1 rfl) (decide_eq_false h3)) rfl rfl rfl (rn_eql rfl (T.ev 0 rfl) evc) ?_; clear T ac; intro ac T
          refine l_q T rfl rfl rfl rfl (rn_pick0 rfl (T.ev 2 rfl) (decide_eq_false h3) (T.ev 0 rfl)) ?_; clear T ac; intro ac T
          refine l_q T rfl rfl rfl rfl (rn_assign rfl (T.ev 0 rfl)) ?_; clear T ac; intro ac T
          refine wpList_nil ?_
          replace T := T.pick [0] rfl
          exact ⟨(T.pick (E' := [(26, .bool (decide (((j.st.after l).spoiled) = 1)))]) [0] rfl).as (by (try rw [show (decide ((rpass j ((j.st.after l).p0) ((j.st.after l).p1)) = 2)) = false from (decide_eq_false h3)]); rfl), M.mask [] rfl⟩
      · clear T M
        rintro ac wc ⟨T, M⟩
        refine wp_cond_split (T.ev 0 rfl) ?_ ?_
        · intro h4
          (try have h4' := h4; try simp only [Bool.and_eq_true, Bool.or_eq_true, Bool.not_eq_true', Bool.and_eq_false_imp, Bool.or_eq_false_iff, decide_eq_true_eq, decide_eq_false_iff_not] at h4')
          refine wp_seq ?_
          refine wp_region_lit ?_
          refine l_q T rfl rfl rfl rfl (rn_assign rfl evc) ?_; clear T ac; intro ac T
          refine wpList_nil ?_
          replace T := T.pick [0] rfl
          refine nm_then ?_
          refine wp_ret ?_
          refine rt_blk ?_
          refine rt_then ?_
          refine rt_1 T rfl (T.ev 0 rfl) ?_
          refine ⟨ret_int ?_, M.below⟩
          unfold rfineJ
          (repeat' split) <;> first | rfl | omega | contradiction | (simp_all; done) | (simp_all; omega)
        · intro h4
          (try have h4' := h4; try simp only [Bool.and_eq_true, Bool.or_eq_true, Bool.not_eq_true', Bool.and_eq_false_imp, Bool.or_eq_false_iff, decide_eq_true_eq, decide_eq_false_iff_not] at h4')
          refine wp_skip ?_
          refine nm_blk ?_
          refine nm_then ?_
          refine wp_seq ?_
          refine wp_region_lit ?_
          refine l_q T rfl rfl rfl rfl (rn_assign rfl evc) ?_; clear T ac; intro ac T
          refine wpList_nil ?_
          replace T := T.pick [0] rfl
          refine nm_then ?_
          refine wp_ret ?_
          refine rt_1 T rfl (T.ev 0 rfl) ?_
          refine ⟨ret_int ?_, M.below⟩
          unfold rfineJ
          (repeat' split) <;> first | rfl | omega | contradiction | (simp_all; done) | (simp_all; omega)

set_option maxRecDepth 100000 in
set_option maxHeartbeats 1000000 in
theorem rFine_any (j : Jb) (A : Option Addr) (c : Nat) (D : Option Addr) (d n : Nat) (l : List Int) (w : World) (hr : Rd w w.heap.size 2 A j.sh.length (rc j.sh)) (hn : j.sh.length ≤ 9223372036854775807) (hl : Rd w w.heap.size 1 D n (ic l)) (hm : n ≤ 9223372036854775807) :
    Calls Try.prog 57 #[jobV j A c, .slice D n d] w fun e w' => e = .returned (.tuple #[.int .i64 ((rfineT j l).1), .int .i64 ((rfineT j l).2)]) ∧ Below w.heap.size w w' := by
  obtain ⟨bJ, oJ, SJ⟩ := Sp.old hr
  have hll := hl.len1
  obtain ⟨bI, oI, SI⟩ := Sp.old hl
  refine px_enter noEx Try.func57 rfl 16 rfl [.agg #[.int .i64 j.p0, .int .i64 j.p1, .int .i64 j.t0, .int .i64 j.t1, .int .i64 j.r0, .int .i64 j.r1, .int .i64 j.u0, .int .i64 j.u1, .int .i64 j.d0, .int .i64 j.d1, .int .i64 j.a0, .int .i64 j.a1, .int .i64 j.b0, .int .i64 j.b1, .int .i64 j.le, .slice A j.sh.length c, .int .i64 j.wi, .int .i64 j.me], .slice D n d] rfl rfl (Mem.init w _) ?_
  intro ac wc T M
  refine wp_seq ?_
  refine wp_region_lit ?_
  refine l_w rfl ?_; intro K hK
  refine ow_bx M T rfl rfl rfl rfl (T.ev 0 rfl) rfl ?_; clear M T; intro g1 wc ac M T
  refine sh_out hK _ _ ?_; clear hK K
  refine l_q T rfl rfl rfl rfl (rn_assign rfl evc) ?_; clear T ac; intro ac T
  refine l_q T rfl rfl rfl rfl (rn_assign rfl evc) ?_; clear T ac; intro ac T
  refine wpList_nil ?_
  replace T := T.pick [2, 4] rfl
  refine nm_then ?_
  refine wp_seq ?_
  refine wp_seq ?_
  refine wp_region_lit ?_
  refine l_q T rfl rfl rfl rfl (rn_rowO (Mem.nth M 0 rfl) rfl (T.ev 0 rfl) rfl) ?_; clear T ac; intro ac T
  refine l_q T rfl rfl rfl rfl (rn_move rfl (T.ev 2 rfl)) ?_; clear T ac; intro ac T
  refine l_w rfl ?_; intro K hK
  refine ow_call (first := []) (cap := []) T rfl rfl rfl rfl evf (.cons (T.ev 1 rfl) (.cons (T.ev 0 rfl) .nil)) Try.func97 rfl rfl ?_
  refine Calls.mono (rcheckStrokes_any j _ _ _ _ _ l _ (SJ.rd M (List.nil_sublist _)) (by omega) (SI.rd M (List.nil_sublist _)) (by omega)) ?_
  clear T
  rintro e wc ⟨rfl, hb⟩
  intro ac T
  replace M := M.call hb; clear hb
  refine sh_out hK _ _ ?_; clear hK K
  refine l_q T rfl rfl rfl rfl (rn_assign rfl (T.ev 0 rfl)) ?_; clear T ac; intro ac T
  refine wpList_nil ?_
  replace T := T.pick [0, 4, 5] rfl
  refine nm_then ?_
  refine wp_seq ?_
  refine wp_region_lit ?_
  refine l_q T rfl rfl rfl rfl (rn_move rfl (T.ev 0 rfl)) ?_; clear T ac; intro ac T
  refine l_q T rfl rfl rfl rfl (rn_neq rfl (T.ev 0 rfl) evc) ?_; clear T ac; intro ac T
  refine wpList_nil ?_
  replace T := T.pick [0, 2, 3, 4] rfl
  refine nm_then ?_
  refine wp_ifn (T.ev 0 rfl) ?_ ?_
  · intro h1
    refine wp_seq ?_
    refine wp_region_lit ?_
    refine l_q T rfl rfl rfl rfl (rn_move rfl (T.ev 1 rfl)) ?_; clear T ac; intro ac T
    refine l_q T rfl rfl rfl rfl (rn_assign rfl evc) ?_; clear T ac; intro ac T
    refine l_q T rfl rfl rfl rfl (rn_assign rfl (T.ev 1 rfl)) ?_; clear T ac; intro ac T
    refine wpList_nil ?_
    replace T := T.pick [0, 1] rfl
    replace M := M.mask [false] rfl
    refine nm_then ?_
    refine wp_ret ?_
    refine rt_then ?_
    refine rt_2 T rfl (T.ev 1 rfl) (T.ev 0 rfl) ?_
    refine ⟨?_, M.below⟩
    unfold rfineT
    first | rw [if_pos h1] | rw [if_neg h1]
    try rw [h1]
    try rfl
  · intro h1
    obtain ⟨hc, h6, hk⟩ := strokes_of h1
    have hj := good_of hc
    have hst := hj.st
    have hup := after_up hst l
    have hp0 := hup.p0
    have hp1 := hup.p1
    refine wp_skip ?_
    refine nm_then ?_
    refine wp_seq ?_
    refine wp_region_lit ?_
    refine l_q T rfl rfl rfl rfl (rn_rowO (Mem.nth M 0 rfl) rfl (T.ev 2 rfl) rfl) ?_; clear T ac; intro ac T
    refine l_q T rfl rfl rfl rfl (rn_move rfl (T.ev 4 rfl)) ?_; clear T ac; intro ac T
    refine l_w rfl ?_; intro K hK
    refine ow_call (first := []) (cap := []) T rfl rfl rfl rfl evf (.cons (T.ev 1 rfl) (.cons (T.ev 0 rfl) .nil)) Try.func70 rfl rfl ?_
    refine Calls.mono (rfine_any j _ _ _ _ _ l _ hj (SJ.rd M (List.nil_sublist _)) (SI.rd M (List.nil_sublist _)) (by omega)) ?_
    clear T
    rintro e wc ⟨rfl, hb⟩
    intro ac T
    replace M := M.call hb; clear hb
    refine sh_out hK _ _ ?_; clear hK K
    refine l_q T rfl rfl rfl rfl (rn_assign rfl (T.ev 0 rfl)) ?_; clear T ac; intro ac T
    refine l_q T rfl rfl rfl rfl (rn_assign rfl evc) ?_; clear T ac; intro ac T
    refine wpList_nil ?_
    replace T := T.pick [0, 1] rfl
    replace M := M.mask [false] rfl
    refine nm_then ?_
    refine wp_ret ?_
    refine rt_2 T rfl (T.ev 1 rfl) (T.ev 0 rfl) ?_
    refine ⟨?_, M.below⟩
    unfold rfineT
    first | rw [if_pos h1] | rw [if_neg h1]
    try rw [h1]
    try rfl

set_option maxRecDepth 100000 in
set_option maxHeartbeats 1000000 in
theorem rWorst_any (j : Jb) (A : Option Addr) (c : Nat) (D : Option Addr) (d n : Nat) (l : List Int) (w : World) (hr : Rd w w.heap.size 2 A j.sh.length (rc j.sh)) (hn : j.sh.length ≤ 9223372036854775807) (hl : Rd w w.heap.size 1 D n (ic l)) (hm : n ≤ 9223372036854775807) :
    Calls Try.prog 55 #[jobV j A c, .slice D n d] w fun e w' => e = .returned (.tuple #[.int .i64 ((rworstT j l).1), .int .i64 ((rworstT j l).2)]) ∧ Below w.heap.size w w' := by
  obtain ⟨bJ, oJ, SJ⟩ := Sp.old hr
  have hll := hl.len1
  obtain ⟨bI, oI, SI⟩ := Sp.old hl
  refine px_enter noEx Try.func55 rfl 50 rfl [.agg #[.int .i64 j.p0, .int .i64 j.p1, .int .i64 j.t0, .int .i64 j.t1, .int .i64 j.r0, .int .i64 j.r1, .int .i64 j.u0, .int .i64 j.u1, .int .i64 j.d0, .int .i64 j.d1, .int .i64 j.a0, .int .i64 j.a1, .int .i64 j.b0, .int .i64 j.b1, .int .i64 j.le, .slice A j.sh.length c, .int .i64 j.wi, .int .i64 j.me], .slice D n d] rfl rfl (Mem.init w _) ?_
  intro ac wc T M
  refine wp_seq ?_
  refine wp_region_lit ?_
  refine l_w rfl ?_; intro K hK
  refine ow_bx M T rfl rfl rfl rfl (T.ev 0 rfl) rfl ?_; clear M T; intro g1 wc ac M T
  refine sh_out hK _ _ ?_; clear hK K
  refine l_q T rfl rfl rfl rfl (rn_assign rfl evc) ?_; clear T ac; intro ac T
  refine l_q T rfl rfl rfl rfl (rn_assign rfl evc) ?_; clear T ac; intro ac T
  refine wpList_nil ?_
  replace T := T.pick [2, 4] rfl
  refine nm_then ?_
  refine wp_seq ?_
  refine wp_seq ?_
  refine wp_region_lit ?_
  refine l_q T rfl rfl rfl rfl (rn_rowO (Mem.nth M 0 rfl) rfl (T.ev 0 rfl) rfl) ?_; clear T ac; intro ac T
  refine l_q T rfl rfl rfl rfl (rn_move rfl (T.ev 2 rfl)) ?_; clear T ac; intro ac T
  refine l_w rfl ?_; intro K hK
  refine ow_call (first := []) (cap := []) T rfl rfl rfl rfl evf (.cons (T.ev 1 rfl) (.cons (T.ev 0 rfl) .nil)) Try.func97 rfl rfl ?_
  refine Calls.mono (rcheckStrokes_any j _ _ _ _ _ l _ (SJ.rd M (List.nil_sublist _)) (by omega) (SI.rd M (List.nil_sublist _)) (by omega)) ?_
  clear T
  rintro e wc ⟨rfl, hb⟩
  intro ac T
  replace M := M.call hb; clear hb
  refine sh_out hK _ _ ?_; clear hK K
  refine l_q T rfl rfl rfl rfl (rn_assign rfl (T.ev 0 rfl)) ?_; clear T ac; intro ac T
  refine wpList_nil ?_
  replace T := T.pick [0, 4, 5] rfl
  refine nm_then ?_
  refine wp_seq ?_
  refine wp_region_lit ?_
  refine l_q T rfl rfl rfl rfl (rn_move rfl (T.ev 0 rfl)) ?_; clear T ac; intro ac T
  refine l_q T rfl rfl rfl rfl (rn_neq rfl (T.ev 0 rfl) evc) ?_; clear T ac; intro ac T
  refine wpList_nil ?_
  replace T := T.pick [0, 2, 3, 4] rfl
  refine nm_then ?_
  refine wp_ifn (T.ev 0 rfl) ?_ ?_
  · intro h1
    refine wp_seq ?_
    refine wp_region_lit ?_
    refine l_q T rfl rfl rfl rfl (rn_move rfl (T.ev 1 rfl)) ?_; clear T ac; intro ac T
    refine l_q T rfl rfl rfl rfl (rn_assign rfl evc) ?_; clear T ac; intro ac T
    refine l_q T rfl rfl rfl rfl (rn_assign rfl (T.ev 1 rfl)) ?_; clear T ac; intro ac T
    refine wpList_nil ?_
    replace T := T.pick [0, 1] rfl
    replace M := M.mask [false] rfl
    refine nm_then ?_
    refine wp_ret ?_
    refine rt_then ?_
    refine rt_2 T rfl (T.ev 1 rfl) (T.ev 0 rfl) ?_
    refine ⟨?_, M.below⟩
    unfold rworstT
    rw [if_neg h1]
  · intro h1
    obtain ⟨hc, h6, hk⟩ := strokes_of h1
    have hj := good_of hc
    have hst := hj.st
    have hup := after_up hst l
    have hp0 := hup.p0
    have hp1 := hup.p1
    refine wp_skip ?_
    refine nm_then ?_
    refine wp_seq ?_
    refine g_start2 M (M.mask [true] rfl) 9 (by kernel_rfl) rfl (by kernel_rfl) ?_
    clear M; intro wc M
    refine g_q (T := T) (i := 0) rfl (by kernel_rfl) (by kernel_rfl : (pbits 9 0).setIfInBounds 0 true = pbits 9 1) si_U (fun _ _ _ h => h) rfl rfl rfl rfl (fun B w' hD hl hS => (rn_rowO (Mem.nth (show Mem w noEx w' _ from hS) 0 rfl) rfl (T.ev 2 rfl) rfl)) ?_; clear T ac; intro ac T
    refine g_q (T := T) (i := 1) rfl (by kernel_rfl) (by kernel_rfl : (pbits 9 1).setIfInBounds 1 true = pbits 9 3) si_U (fun _ _ _ h => h) rfl rfl rfl rfl (fun _ _ _ _ _ => (rn_move rfl (T.ev 4 rfl))) ?_; clear T ac; intro ac T
    refine g_q (T := T) (i := 3) rfl (by kernel_rfl) (by kernel_rfl : (pbits 9 3).setIfInBounds 3 true = pbits 9 11) si_U (fun _ _ _ h => h) rfl rfl rfl rfl (fun B w' hD hl hS => (rn_rowO (Mem.nth (show Mem w noEx w' _ from hS) 0 rfl) rfl (T.ev 4 rfl) rfl)) ?_; clear T ac; intro ac T
    refine g_m2 (i := 2) (j := 5) (by kernel_rfl) ?_ ?_
    · refine g_i rfl (by kernel_rfl : (pbits 9 11).setIfInBounds 2 true = pbits 9 15) rfl ?_; intro K hK
      refine ow_call (first := []) (cap := []) T rfl rfl rfl rfl evf (.cons (T.ev 2 rfl) (.cons (T.ev 1 rfl) .nil)) Try.func98 rfl rfl ?_
      refine Calls.mono (rafter_any j _ _ _ _ _ l _ (SI.rd M (List.nil_sublist _)) (by omega) hst) ?_
      clear T
      rintro e wc ⟨rfl, hb⟩
      intro ac T
      replace M := M.call hb; clear hb
      refine sh_out hK _ _ (M.mask [true] rfl) ?_; clear hK K
      refine g_m2 (i := 4) (j := 5) (by kernel_rfl) ?_ ?_
      · refine g_i rfl (by kernel_rfl : (pbits 9 15).setIfInBounds 4 true = pbits 9 31) rfl ?_; intro K hK
        refine ow_call (first := []) (cap := []) T rfl rfl rfl rfl evf (.cons (T.ev 1 rfl) .nil) Try.func99 rfl rfl ?_
        refine Calls.mono (shifts_any j _ _ _ hj) ?_
        clear T
        rintro e wc ⟨Aur4_4, cur4_4, Iur4_4, rfl, hdur4_4, N⟩
        intro ac T
        obtain ⟨bur4_4, our4_4, Sur4_4⟩ := SJ.shx hdur4_4
        have hlur4_4 := shx_pos j.sh
        have hfur4_4 := shx_few hj
        replace M := (M.join N).swapI
        replace M := M.mask [true] rfl
        refine sh_out hK _ _ (M.perm [0] rfl rfl) ?_; clear hK K
        refine g_w (i := 5) (by kernel_rfl) rfl (by kernel_rfl : (pbits 9 31).setIfInBounds 5 true = pbits 9 63) rfl ?_; intro K hK
        refine ow_al M T rfl rfl rfl rfl ?_; clear M T; intro gr4_5 wc ac M T
        refine sh_out hK _ _ (M.perm [1] rfl rfl) ?_; clear hK K
        refine g_w (i := 6) (by kernel_rfl) rfl (by kernel_rfl : (pbits 9 63).setIfInBounds 6 true = pbits 9 127) rfl ?_; intro K hK
        refine ow_stO M T rfl rfl (T.ev 0 rfl) (T.ev 2 rfl) rfl .head rfl (by simp) rfl (by kernel_rfl) ?_; clear M T; intro wc ac M T
        refine sh_out hK _ _ (M.perm [1] rfl rfl) ?_; clear hK K
        refine g_q (T := T) (i := 7) rfl (by kernel_rfl) (by kernel_rfl : (pbits 9 127).setIfInBounds 7 true = pbits 9 255) si_U (fun _ _ _ h => h) rfl rfl rfl rfl (fun _ _ _ _ _ => (rn_assign rfl (T.ev 1 rfl))) ?_; clear T ac; intro ac T
        refine g_q (T := T) (i := 8) rfl (by kernel_rfl) (by kernel_rfl : (pbits 9 255).setIfInBounds 8 true = pbits 9 511) si_U (fun _ _ _ h => h) rfl rfl rfl rfl (fun _ _ _ _ _ => (rn_assign rfl evc)) ?_; clear T ac; intro ac T
        refine g_done (by kernel_rfl) ?_
        replace T := T.pick [0, 1, 2] rfl
        replace M := M.mask [true, false] rfl
        refine nm_then ?_
        refine wp_seq ?_
        refine wp_seq ?_
        refine wp_region_lit ?_
        refine l_q T rfl rfl rfl rfl (rn_assign rfl evc) ?_; clear T ac; intro ac T
        refine wpList_nil ?_
        refine nm_then ?_
        refine wp_block ?_
        refine wp_loop_n (fun mz ac wc => ∃ (k : Nat) (y : Int), mz = (shx j.sh).length - k ∧ (k ≤ (shx j.sh).length) ∧ (rworstF (j.st.after l).p0 (j.st.after l).p1 (shx j.sh) 0 = rworstF (j.st.after l).p0 (j.st.after l).p1 ((shx j.sh).drop k) y) ∧ Tm ac 50 [(7, .pointer (some ⟨gr4_5, 0, none⟩)), (8, .slice Aur4_4 ((shx j.sh).length) cur4_4), (9, .int .i64 y), (10, .int .i64 (k : Int))] ∧ Mem w noEx wc ((gr4_5, .cells [.int .i64 ((j.st.after l).p0), .int .i64 ((j.st.after l).p1), .int .i64 ((j.st.after l).t0), .int .i64 ((j.st.after l).t1), .int .i64 ((j.st.after l).r0), .int .i64 ((j.st.after l).r1)]) :: Iur4_4)) ?_ ?_
        · exact ⟨_, 0, 0, rfl, (by omega), rfl, T.pick [3, 2, 1, 0] rfl, M.mask [true] rfl⟩
        · clear T M
          rintro mz ac wc ⟨k, y, hmm1, hkk, H, T, M⟩
          refine wp_seq ?_
          refine wp_seq ?_
          refine wp_region_lit ?_
          refine l_q T rfl rfl rfl rfl (rn_move rfl (T.ev 3 rfl)) ?_; clear T ac; intro ac T
          refine l_q T rfl rfl rfl rfl (rn_move rfl (T.ev 2 rfl)) ?_; clear T ac; intro ac T
          refine l_q T rfl rfl rfl rfl (rn_lenS rfl Try.underlying28 (T.ev 0 rfl)) ?_; clear T ac; intro ac T
          refine l_q T rfl rfl rfl rfl (rn_lss rfl (T.ev 2 rfl) (T.ev 0 rfl)) ?_; clear T ac; intro ac T
          refine wpList_nil ?_
          replace T := T.pick [0, 4, 5, 6, 7] rfl
          refine nm_then ?_
          refine wp_if (T.ev 0 rfl) ?_ ?_
          · intro h2
            obtain ⟨x0, x1, hk1, hd⟩ := rc_next (l := shx j.sh) (k := k) (by omega)
            have hb1 := shx_bd hj hk1
            rw [hd] at H
            refine wp_skip ?_
            refine nm_then ?_
            refine wp_seq ?_
            refine wp_block ?_
            refine g_start2 M (M.mask [true] rfl) 22 (by kernel_rfl) rfl (by kernel_rfl) ?_
            clear M; intro wc M
            refine g_q (T := T) (i := 0) rfl (by kernel_rfl) (by kernel_rfl : (pbits 22 0).setIfInBounds 0 true = pbits 22 1) si_U (fun _ _ _ h => h) rfl rfl rfl rfl (fun _ _ _ _ _ => (rn_move rfl (T.ev 3 rfl))) ?_; clear T ac; intro ac T
            refine g_q (v := (.pointer (some ⟨gr4_5, 0, none⟩))) (T := T) (i := 1) rfl (by kernel_rfl) (by kernel_rfl : (pbits 22 1).setIfInBounds 1 true = pbits 22 3) si_U (fun _ _ _ h => h) rfl rfl rfl rfl (fun _ _ _ _ _ => (rn_fieldAddr (off := 0) rfl (T.ev 2 rfl) (fun _ _ _ => by kernel_rfl))) ?_; clear T ac; intro ac T
            refine g_q (v := (.pointer (some ⟨gr4_5, 1, none⟩))) (T := T) (i := 2) rfl (by kernel_rfl) (by kernel_rfl : (pbits 22 3).setIfInBounds 2 true = pbits 22 7) si_U (fun _ _ _ h => h) rfl rfl rfl rfl (fun _ _ _ _ _ => (rn_fieldAddr (off := 1) rfl (T.ev 0 rfl) (fun _ _ _ => by kernel_rfl))) ?_; clear T ac; intro ac T
            refine g_q (T := T) (i := 3) rfl (by kernel_rfl) (by kernel_rfl : (pbits 22 7).setIfInBounds 3 true = pbits 22 15) si_U (fun _ _ _ h => h) rfl rfl rfl rfl (fun B w' hD hl hS => (rn_one (Mem.nth (show Mem w noEx w' _ from hS) 0 rfl) rfl (T.ev 0 rfl) rfl)) ?_; clear T ac; intro ac T
            refine g_q (T := T) (i := 4) rfl (by kernel_rfl) (by kernel_rfl : (pbits 22 15).setIfInBounds 4 true = pbits 22 31) si_U (fun _ _ _ h => h) rfl rfl rfl rfl (fun _ _ _ _ _ => (rn_move rfl (T.ev 6 rfl))) ?_; clear T ac; intro ac T
            refine g_q (T := T) (i := 5) rfl (by kernel_rfl) (by kernel_rfl : (pbits 22 31).setIfInBounds 5 true = pbits 22 63) si_U (fun _ _ _ h => h) rfl rfl rfl rfl (fun _ _ _ _ _ => (rn_move rfl (T.ev 9 rfl))) ?_; clear T ac; intro ac T
            refine g_q (T := T) (i := 6) rfl (by kernel_rfl) (by kernel_rfl : (pbits 22 63).setIfInBounds 6 true = pbits 22 127) si_U (fun _ _ _ h => h) rfl rfl rfl rfl (fun _ _ _ _ _ => (rn_indexAddr (size := 2) k rfl (T.ev 1 rfl) (T.ev 0 rfl) ⟨_, Try.underlying28, by kernel_rfl⟩ rfl (by omega) (Sur4_4.at0 (by omega)))) ?_; clear T ac; intro ac T
            refine g_q (T := T) (i := 7) rfl (by kernel_rfl) (by kernel_rfl : (pbits 22 127).setIfInBounds 7 true = pbits 22 255) si_U (fun _ _ _ h => h) rfl rfl rfl rfl (fun _ _ _ _ _ => (rn_fieldAddr (off := 1) rfl (T.ev 0 rfl) (fun _ _ _ => by kernel_rfl))) ?_; clear T ac; intro ac T
            refine g_q (T := T) (i := 8) rfl (by kernel_rfl) (by kernel_rfl : (pbits 22 255).setIfInBounds 8 true = pbits 22 511) si_U (fun _ _ _ h => h) rfl rfl rfl rfl (fun B w' hD hl hS => (rn_cell (Sp.rc1 Sur4_4 (show Mem w noEx w' _ from hS) (.cons _ (List.Sublist.refl _)) hk1) rfl (T.ev 0 rfl))) ?_; clear T ac; intro ac T
            refine g_q (T := T) (i := 9) rfl (by kernel_rfl) (by kernel_rfl : (pbits 22 511).setIfInBounds 9 true = pbits 22 1023) si_U (fun _ _ _ h => h) rfl rfl rfl rfl (fun _ _ _ _ _ => (rn_add rfl (T.ev 5 rfl) (T.ev 0 rfl) (by omega))) ?_; clear T ac; intro ac T
            refine g_q (v := (.pointer (some ⟨gr4_5, 0, none⟩))) (T := T) (i := 10) rfl (by kernel_rfl) (by kernel_rfl : (pbits 22 1023).setIfInBounds 10 true = pbits 22 2047) si_U (fun _ _ _ h => h) rfl rfl rfl rfl (fun _ _ _ _ _ => (rn_fieldAddr (off := 0) rfl (T.ev 11 rfl) (fun _ _ _ => by kernel_rfl))) ?_; clear T ac; intro ac T
            refine g_q (v := (.pointer (some ⟨gr4_5, 0, none⟩))) (T := T) (i := 11) rfl (by kernel_rfl) (by kernel_rfl : (pbits 22 2047).setIfInBounds 11 true = pbits 22 4095) si_U (fun _ _ _ h => h) rfl rfl rfl rfl (fun _ _ _ _ _ => (rn_fieldAddr (off := 0) rfl (T.ev 0 rfl) (fun _ _ _ => by kernel_rfl))) ?_; clear T ac; intro ac T
            refine g_q (T := T) (i := 12) rfl (by kernel_rfl) (by kernel_rfl : (pbits 22 4095).setIfInBounds 12 true = pbits 22 8191) si_U (fun _ _ _ h => h) rfl rfl rfl rfl (fun B w' hD hl hS => (rn_one (Mem.nth (show Mem w noEx w' _ from hS) 0 rfl) rfl (T.ev 0 rfl) rfl)) ?_; clear T ac; intro ac T
            refine g_q (T := T) (i := 13) rfl (by kernel_rfl) (by kernel_rfl : (pbits 22 8191).setIfInBounds 13 true = pbits 22 16383) si_U (fun _ _ _ h => h) rfl rfl rfl rfl (fun _ _ _ _ _ => (rn_move rfl (T.ev 15 rfl))) ?_; clear T ac; intro ac T
            refine g_q (T := T) (i := 14) rfl (by kernel_rfl) (by kernel_rfl : (pbits 22 16383).setIfInBounds 14 true = pbits 22 32767) si_U (fun _ _ _ h => h) rfl rfl rfl rfl (fun _ _ _ _ _ => (rn_move rfl (T.ev 18 rfl))) ?_; clear T ac; intro ac T
            refine g_q (T := T) (i := 15) rfl (by kernel_rfl) (by kernel_rfl : (pbits 22 32767).setIfInBounds 15 true = pbits 22 65535) si_U (fun _ _ _ h => h) rfl rfl rfl rfl (fun _ _ _ _ _ => (rn_indexAddr (size := 2) k rfl (T.ev 1 rfl) (T.ev 0 rfl) ⟨_, Try.underlying28, by kernel_rfl⟩ rfl (by omega) (Sur4_4.at0 (by omega)))) ?_; clear T ac; intro ac T
            refine g_q (T := T) (i := 16) rfl (by kernel_rfl) (by kernel_rfl : (pbits 22 65535).setIfInBounds 16 true = pbits 22 131071) si_U (fun _ _ _ h => h) rfl rfl rfl rfl (fun _ _ _ _ _ => (rn_fieldAddr (off := 0) rfl (T.ev 0 rfl) (fun _ _ _ => by kernel_rfl))) ?_; clear T ac; intro ac T
            refine g_q (T := T) (i := 17) rfl (by kernel_rfl) (by kernel_rfl : (pbits 22 131071).setIfInBounds 17 true = pbits 22 262143) si_U (fun _ _ _ h => h) rfl rfl rfl rfl (fun B w' hD hl hS => (rn_cell (Sp.rc0 Sur4_4 (show Mem w noEx w' _ from hS) (.cons _ (List.Sublist.refl _)) hk1) rfl (T.ev 0 rfl))) ?_; clear T ac; intro ac T
            refine g_q (T := T) (i := 18) rfl (by kernel_rfl) (by kernel_rfl : (pbits 22 262143).setIfInBounds 18 true = pbits 22 524287) si_U (fun _ _ _ h => h) rfl rfl rfl rfl (fun _ _ _ _ _ => (rn_add rfl (T.ev 5 rfl) (T.ev 0 rfl) (by omega))) ?_; clear T ac; intro ac T
            refine g_q (T := T) (i := 19) rfl (by kernel_rfl) (by kernel_rfl : (pbits 22 524287).setIfInBounds 19 true = pbits 22 1048575) si_U (fun _ _ _ h => h) rfl rfl rfl rfl (fun _ _ _ _ _ => (rn_neg rfl (T.ev 0 rfl) (by omega))) ?_; clear T ac; intro ac T
            refine g_q (T := T) (i := 20) rfl (by kernel_rfl) (by kernel_rfl : (pbits 22 1048575).setIfInBounds 20 true = pbits 22 2097151) si_U (fun _ _ _ h => h) rfl rfl rfl rfl (fun _ _ _ _ _ => (rn_max3 rfl (T.ev 19 rfl) (T.ev 10 rfl) (T.ev 0 rfl))) ?_; clear T ac; intro ac T
            refine g_q (v := (.int .i64 (max (max y (((j.st.after l).p1) + x1)) (-(((j.st.after l).p0) + x0))))) (T := T.pick [0, 1, 2, 3, 4, 5, 6, 7, 8, 9, 10, 11, 12, 13, 14, 15, 16, 17, 18, 19, 20, 21, 22, 23, 25] rfl) (i := 21) rfl (by kernel_rfl) (by kernel_rfl : (pbits 22 2097151).setIfInBounds 21 true = pbits 22 4194303) si_U (fun _ _ _ h => h) rfl rfl rfl rfl (fun _ _ _ _ _ => (rn_assign rfl (T.ev 0 rfl))) ?_; clear T ac; intro ac T
            refine g_done (by kernel_rfl) ?_
            replace T := T.pick [0, 23, 24, 25] rfl
            refine nm_blk ?_
            refine nm_then ?_
            refine wp_region_lit ?_
            refine l_q T rfl rfl rfl rfl (rn_move rfl (T.ev 3 rfl)) ?_; clear T ac; intro ac T
            refine l_q T rfl rfl rfl rfl (rn_add rfl (T.ev 0 rfl) evc (by omega)) ?_; clear T ac; intro ac T
            refine l_q (v := (.int .i64 ((k : Int) + 1))) (T.pick [0, 1, 2, 3, 4] rfl) rfl rfl rfl rfl (rn_assign rfl (T.ev 0 rfl)) ?_; clear T ac; intro ac T
            refine wpList_nil ?_
            replace T := T.pick [0, 3, 4, 5] rfl
            refine nm_then ?_
            exact ⟨_, by omega, k + 1, _, rfl, (by omega), H, T.pick [2, 3, 1, 0] rfl, M.mask [true] rfl⟩
          · intro h2
            rw [List.drop_of_length_le (by omega)] at H
            refine wp_exit ?_
            refine ex_then ?_
            refine ex_then ?_
            refine ex_hit ?_
            refine nm_then ?_
            refine wp_seq ?_
            refine wp_region_lit ?_
            refine l_q T rfl rfl rfl rfl (rn_move rfl (T.ev 3 rfl)) ?_; clear T ac; intro ac T
            refine l_q T rfl rfl rfl rfl (rn_assign rfl (T.ev 0 rfl)) ?_; clear T ac; intro ac T
            refine l_q T rfl rfl rfl rfl (rn_assign rfl evc) ?_; clear T ac; intro ac T
            refine wpList_nil ?_
            replace T := T.pick [0, 1] rfl
            replace M := M.mask [false] rfl
            refine nm_then ?_
            refine wp_ret ?_
            refine rt_2 T rfl (T.ev 1 rfl) (T.ev 0 rfl) ?_
            refine ⟨?_, M.below⟩
            unfold rworstT
            rw [if_pos h1, H]
            rfl
      · refine g_i rfl (by kernel_rfl : (pbits 9 15).setIfInBounds 5 true = pbits 9 47) rfl ?_; intro K hK
        refine ow_al M T rfl rfl rfl rfl ?_; clear M T; intro gr4_5 wc ac M T
        refine sh_out hK _ _ (M.mask [false, true] rfl) ?_; clear hK K
        refine g_w (i := 4) (by kernel_rfl) rfl (by kernel_rfl : (pbits 9 47).setIfInBounds 4 true = pbits 9 63) rfl ?_; intro K hK
        refine ow_call (first := []) (cap := []) T rfl rfl rfl rfl evf (.cons (T.ev 2 rfl) .nil) Try.func99 rfl rfl ?_
        refine Calls.mono (shifts_any j _ _ _ hj) ?_
        clear T
        rintro e wc ⟨Aur4_4, cur4_4, Iur4_4, rfl, hdur4_4, N⟩
        intro ac T
        obtain ⟨bur4_4, our4_4, Sur4_4⟩ := SJ.shx hdur4_4
        have hlur4_4 := shx_pos j.sh
        have hfur4_4 := shx_few hj
        replace M := (M.join N).swapI
        replace M := M.mask [true, true] rfl
        refine sh_out hK _ _ (M.perm [1] rfl rfl) ?_; clear hK K
        refine g_w (i := 6) (by kernel_rfl) rfl (by kernel_rfl : (pbits 9 63).setIfInBounds 6 true = pbits 9 127) rfl ?_; intro K hK
        refine ow_stO M T rfl rfl (T.ev 1 rfl) (T.ev 2 rfl) rfl .head rfl (by simp) rfl (by kernel_rfl) ?_; clear M T; intro wc ac M T
        refine sh_out hK _ _ (M.perm [1] rfl rfl) ?_; clear hK K
        refine g_q (T := T) (i := 7) rfl (by kernel_rfl) (by kernel_rfl : (pbits 9 127).setIfInBounds 7 true = pbits 9 255) si_U (fun _ _ _ h => h) rfl rfl rfl rfl (fun _ _ _ _ _ => (rn_assign rfl (T.ev 0 rfl))) ?_; clear T ac; intro ac T
        refine g_q (T := T) (i := 8) rfl (by kernel_rfl) (by kernel_rfl : (pbits 9 255).setIfInBounds 8 true = pbits 9 511) si_U (fun _ _ _ h => h) rfl rfl rfl rfl (fun _ _ _ _ _ => (rn_assign rfl evc)) ?_; clear T ac; intro ac T
        refine g_done (by kernel_rfl) ?_
        replace T := T.pick [0, 1, 3] rfl
        replace M := M.mask [true, false] rfl
        refine nm_then ?_
        refine wp_seq ?_
        refine wp_seq ?_
        refine wp_region_lit ?_
        refine l_q T rfl rfl rfl rfl (rn_assign rfl evc) ?_; clear T ac; intro ac T
        refine wpList_nil ?_
        refine nm_then ?_
        refine wp_block ?_
        refine wp_loop_n (fun mz ac wc => ∃ (k : Nat) (y : Int), mz = (shx j.sh).length - k ∧ (k ≤ (shx j.sh).length) ∧ (rworstF (j.st.after l).p0 (j.st.after l).p1 (shx j.sh) 0 = rworstF (j.st.after l).p0 (j.st.after l).p1 ((shx j.sh).drop k) y) ∧ Tm ac 50 [(7, .pointer (some ⟨gr4_5, 0, none⟩)), (8, .slice Aur4_4 ((shx j.sh).length) cur4_4), (9, .int .i64 y), (10, .int .i64 (k : Int))] ∧ Mem w noEx wc ((gr4_5, .cells [.int .i64 ((j.st.after l).p0), .int .i64 ((j.st.after l).p1), .int .i64 ((j.st.after l).t0), .int .i64 ((j.st.after l).t1), .int .i64 ((j.st.after l).r0), .int .i64 ((j.st.after l).r1)]) :: Iur4_4)) ?_ ?_
        · exact ⟨_, 0, 0, rfl, (by omega), rfl, T.pick [3, 2, 1, 0] rfl, M.mask [true] rfl⟩
        · clear T M
          rintro mz ac wc ⟨k, y, hmm1, hkk, H, T, M⟩
          refine wp_seq ?_
          refine wp_seq ?_
          refine wp_region_lit ?_
          refine l_q T rfl rfl rfl rfl (rn_move rfl (T.ev 3 rfl)) ?_; clear T ac; intro ac T
          refine l_q T rfl rfl rfl rfl (rn_move rfl (T.ev 2 rfl)) ?_; clear T ac; intro ac T
          refine l_q T rfl rfl rfl rfl (rn_lenS rfl Try.underlying28 (T.ev 0 rfl)) ?_; clear T ac; intro ac T
          refine l_q T rfl rfl rfl rfl (rn_lss rfl (T.ev 2 rfl) (T.ev 0 rfl)) ?_; clear T ac; intro ac T
          refine wpList_nil ?_
          replace T := T.pick [0, 4, 5, 6, 7] rfl
          refine nm_then ?_
          refine wp_if (T.ev 0 rfl) ?_ ?_
          · intro h3
            obtain ⟨x0, x1, hk1, hd⟩ := rc_next (l := shx j.sh) (k := k) (by omega)
            have hb1 := shx_bd hj hk1
            rw [hd] at H
            refine wp_skip ?_
            refine nm_then ?_
            refine wp_seq ?_
            refine wp_block ?_
            refine g_start2 M (M.mask [true] rfl) 22 (by kernel_rfl) rfl (by kernel_rfl) ?_
            clear M; intro wc M
            refine g_q (T := T) (i := 0) rfl (by kernel_rfl) (by kernel_rfl : (pbits 22 0).setIfInBounds 0 true = pbits 22 1) si_U (fun _ _ _ h => h) rfl rfl rfl rfl (fun _ _ _ _ _ => (rn_move rfl (T.ev 3 rfl))) ?_; clear T ac; intro ac T
            refine g_q (v := (.pointer (some ⟨gr4_5, 0, none⟩))) (T := T) (i := 1) rfl (by kernel_rfl) (by kernel_rfl : (pbits 22 1).setIfInBounds 1 true = pbits 22 3) si_U (fun _ _ _ h => h) rfl rfl rfl rfl (fun _ _ _ _ _ => (rn_fieldAddr (off := 0) rfl (T.ev 2 rfl) (fun _ _ _ => by kernel_rfl))) ?_; clear T ac; intro ac T
            refine g_q (v := (.pointer (some ⟨gr4_5, 1, none⟩))) (T := T) (i := 2) rfl (by kernel_rfl) (by kernel_rfl : (pbits 22 3).setIfInBounds 2 true = pbits 22 7) si_U (fun _ _ _ h => h) rfl rfl rfl rfl (fun _ _ _ _ _ => (rn_fieldAddr (off := 1) rfl (T.ev 0 rfl) (fun _ _ _ => by kernel_rfl))) ?_; clear T ac; intro ac T
            refine g_q (T := T) (i := 3) rfl (by kernel_rfl) (by kernel_rfl : (pbits 22 7).setIfInBounds 3 true = pbits 22 15) si_U (fun _ _ _ h => h) rfl rfl rfl rfl (fun B w' hD hl hS => (rn_one (Mem.nth (show Mem w noEx w' _ from hS) 0 rfl) rfl (T.ev 0 rfl) rfl)) ?_; clear T ac; intro ac T
            refine g_q (T := T) (i := 4) rfl (by kernel_rfl) (by kernel_rfl : (pbits 22 15).setIfInBounds 4 true = pbits 22 31) si_U (fun _ _ _ h => h) rfl rfl rfl rfl (fun _ _ _ _ _ => (rn_move rfl (T.ev 6 rfl))) ?_; clear T ac; intro ac T
            refine g_q (T := T) (i := 5) rfl (by kernel_rfl) (by kernel_rfl : (pbits 22 31).setIfInBounds 5 true = pbits 22 63) si_U (fun _ _ _ h => h) rfl rfl rfl rfl (fun _ _ _ _ _ => (rn_move rfl (T.ev 9 rfl))) ?_; clear T ac; intro ac T
            refine g_q (T := T) (i := 6) rfl (by kernel_rfl) (by kernel_rfl : (pbits 22 63).setIfInBounds 6 true = pbits 22 127) si_U (fun _ _ _ h => h) rfl rfl rfl rfl (fun _ _ _ _ _ => (rn_indexAddr (size := 2) k rfl (T.ev 1 rfl) (T.ev 0 rfl) ⟨_, Try.underlying28, by kernel_rfl⟩ rfl (by omega) (Sur4_4.at0 (by omega)))) ?_; clear T ac; intro ac T
            refine g_q (T := T) (i := 7) rfl (by kernel_rfl) (by kernel_rfl : (pbits 22 127).setIfInBounds 7 true = pbits 22 255) si_U (fun _ _ _ h => h) rfl rfl rfl rfl (fun _ _ _ _ _ => (rn_fieldAddr (off := 1) rfl (T.ev 0 rfl) (fun _ _ _ => by kernel_rfl))) ?_; clear T ac; intro ac T
            refine g_q (T := T) (i := 8) rfl (by kernel_rfl) (by kernel_rfl : (pbits 22 255).setIfInBounds 8 true = pbits 22 511) si_U (fun _ _ _ h => h) rfl rfl rfl rfl (fun B w' hD hl hS => (rn_cell (Sp.rc1 Sur4_4 (show Mem w noEx w' _ from hS) (.cons _ (List.Sublist.refl _)) hk1) rfl (T.ev 0 rfl))) ?_; clear T ac; intro ac T
            refine g_q (T := T) (i := 9) rfl (by kernel_rfl) (by kernel_rfl : (pbits 22 511).setIfInBounds 9 true = pbits 22 1023) si_U (fun _ _ _ h => h) rfl rfl rfl rfl (fun _ _ _ _ _ => (rn_add rfl (T.ev 5 rfl) (T.ev 0 rfl) (by omega))) ?_; clear T ac; intro ac T
            refine g_q (v := (.pointer (some ⟨gr4_5, 0, none⟩))) (T := T) (i := 10) rfl (by kernel_rfl) (by kernel_rfl : (pbits 22 1023).setIfInBounds 10 true = pbits 22 2047) si_U (fun _ _ _ h => h) rfl rfl rfl rfl (fun _ _ _ _ _ => (rn_fieldAddr (off := 0) rfl (T.ev 11 rfl) (fun _ _ _ => by kernel_rfl))) ?_; clear T ac; intro ac T
            refine g_q (v := (.pointer (some ⟨gr4_5, 0, none⟩))) (T := T) (i := 11) rfl (by kernel_rfl) (by kernel_rfl : (pbits 22 2047).setIfInBounds 11 true = pbits 22 4095) si_U (fun _ _ _ h => h) rfl rfl rfl rfl (fun _ _ _ _ _ => (rn_fieldAddr (off := 0) rfl (T.ev 0 rfl) (fun _ _ _ => by kernel_rfl))) ?_; clear T ac; intro ac T
            refine g_q (T := T) (i := 12) rfl (by kernel_rfl) (by kernel_rfl : (pbits 22 4095).setIfInBounds 12 true = pbits 22 8191) si_U (fun _ _ _ h => h) rfl rfl rfl rfl (fun B w' hD hl hS => (rn_one (Mem.nth (show Mem w noEx w' _ from hS) 0 rfl) rfl (T.ev 0 rfl) rfl)) ?_; clear T ac; intro ac T
            refine g_q (T := T) (i := 13) rfl (by kernel_rfl) (by kernel_rfl : (pbits 22 8191).setIfInBounds 13 true = pbits 22 16383) si_U (fun _ _ _ h => h) rfl rfl rfl rfl (fun _ _ _ _ _ => (rn_move rfl (T.ev 15 rfl))) ?_; clear T ac; intro ac T
            refine g_q (T := T) (i := 14) rfl (by kernel_rfl) (by kernel_rfl : (pbits 22 16383).setIfInBounds 14 true = pbits 22 32767) si_U (fun _ _ _ h => h) rfl rfl rfl rfl (fun _ _ _ _ _ => (rn_move rfl (T.ev 18 rfl))) ?_; clear T ac; intro ac T
            refine g_q (T := T) (i := 15) rfl (by kernel_rfl) (by kernel_rfl : (pbits 22 32767).setIfInBounds 15 true = pbits 22 65535) si_U (fun _ _ _ h => h) rfl rfl rfl rfl (fun _ _ _ _ _ => (rn_indexAddr (size := 2) k rfl (T.ev 1 rfl) (T.ev 0 rfl) ⟨_, Try.underlying28, by kernel_rfl⟩ rfl (by omega) (Sur4_4.at0 (by omega)))) ?_; clear T ac; intro ac T
            refine g_q (T := T) (i := 16) rfl (by kernel_rfl) (by kernel_rfl : (pbits 22 65535).setIfInBounds 16 true = pbits 22 131071) si_U (fun _ _ _ h => h) rfl rfl rfl rfl (fun _ _ _ _ _ => (rn_fieldAddr (off := 0) rfl (T.ev 0 rfl) (fun _ _ _ => by kernel_rfl))) ?_; clear T ac; intro ac T
            refine g_q (T := T) (i := 17) rfl (by kernel_rfl) (by kernel_rfl : (pbits 22 131071).setIfInBounds 17 true = pbits 22 262143) si_U (fun _ _ _ h => h) rfl rfl rfl rfl (fun B w' hD hl hS => (rn_cell (Sp.rc0 Sur4_4 (show Mem w noEx w' _ from hS) (.cons _ (List.Sublist.refl _)) hk1) rfl (T.ev 0 rfl))) ?_; clear T ac; intro ac T
            refine g_q (T := T) (i := 18) rfl (by kernel_rfl) (by kernel_rfl : (pbits 22 262143).setIfInBounds 18 true = pbits 22 524287) si_U (fun _ _ _ h => h) rfl rfl rfl rfl (fun _ _ _ _ _ => (rn_add rfl (T.ev 5 rfl) (T.ev 0 rfl) (by omega))) ?_; clear T ac; intro ac T
            refine g_q (T := T) (i := 19) rfl (by kernel_rfl) (by kernel_rfl : (pbits 22 524287).setIfInBounds 19 true = pbits 22 1048575) si_U (fun _ _ _ h => h) rfl rfl rfl rfl (fun _ _ _ _ _ => (rn_neg rfl (T.ev 0 rfl) (by omega))) ?_; clear T ac; intro ac T
            refine g_q (T := T) (i := 20) rfl (by kernel_rfl) (by kernel_rfl : (pbits 22 1048575).setIfInBounds 20 true = pbits 22 2097151) si_U (fun _ _ _ h => h) rfl rfl rfl rfl (fun _ _ _ _ _ => (rn_max3 rfl (T.ev 19 rfl) (T.ev 10 rfl) (T.ev 0 rfl))) ?_; clear T ac; intro ac T
            refine g_q (v := (.int .i64 (max (max y (((j.st.after l).p1) + x1)) (-(((j.st.after l).p0) + x0))))) (T := T.pick [0, 1, 2, 3, 4, 5, 6, 7, 8, 9, 10, 11, 12, 13, 14, 15, 16, 17, 18, 19, 20, 21, 22, 23, 25] rfl) (i := 21) rfl (by kernel_rfl) (by kernel_rfl : (pbits 22 2097151).setIfInBounds 21 true = pbits 22 4194303) si_U (fun _ _ _ h => h) rfl rfl rfl rfl (fun _ _ _ _ _ => (rn_assign rfl (T.ev 0 rfl))) ?_; clear T ac; intro ac T
            refine g_done (by kernel_rfl) ?_
            replace T := T.pick [0, 23, 24, 25] rfl
            refine nm_blk ?_
            refine nm_then ?_
            refine wp_region_lit ?_
            refine l_q T rfl rfl rfl rfl (rn_move rfl (T.ev 3 rfl)) ?_; clear T ac; intro ac T
            refine l_q T rfl rfl rfl rfl (rn_add rfl (T.ev 0 rfl) evc (by omega)) ?_; clear T ac; intro ac T
            refine l_q (v := (.int .i64 ((k : Int) + 1))) (T.pick [0, 1, 2, 3, 4] rfl) rfl rfl rfl rfl (rn_assign rfl (T.ev 0 rfl)) ?_; clear T ac; intro ac T
            refine wpList_nil ?_
            replace T := T.pick [0, 3, 4, 5] rfl
            refine nm_then ?_
            exact ⟨_, by omega, k + 1, _, rfl, (by omega), H, T.pick [2, 3, 1, 0] rfl, M.mask [true] rfl⟩
          · intro h3
            rw [List.drop_of_length_le (by omega)] at H
            refine wp_exit ?_
            refine ex_then ?_
            refine ex_then ?_
            refine ex_hit ?_
            refine nm_then ?_
            refine wp_seq ?_
            refine wp_region_lit ?_
            refine l_q T rfl rfl rfl rfl (rn_move rfl (T.ev 3 rfl)) ?_; clear T ac; intro ac T
            refine l_q T rfl rfl rfl rfl (rn_assign rfl (T.ev 0 rfl)) ?_; clear T ac; intro ac T
            refine l_q T rfl rfl rfl rfl (rn_assign rfl evc) ?_; clear T ac; intro ac T
            refine wpList_nil ?_
            replace T := T.pick [0, 1] rfl
            replace M := M.mask [false] rfl
            refine nm_then ?_
            refine wp_ret ?_
            refine rt_2 T rfl (T.ev 1 rfl) (T.ev 0 rfl) ?_
            refine ⟨?_, M.below⟩
            unfold rworstT
            rw [if_pos h1, H]
            rfl
    · refine g_i rfl (by kernel_rfl : (pbits 9 11).setIfInBounds 5 true = pbits 9 43) rfl ?_; intro K hK
      refine ow_al M T rfl rfl rfl rfl ?_; clear M T; intro gr4_5 wc ac M T
      refine sh_out hK _ _ (M.mask [false, true] rfl) ?_; clear hK K
      refine g_w (i := 2) (by kernel_rfl) rfl (by kernel_rfl : (pbits 9 43).setIfInBounds 2 true = pbits 9 47) rfl ?_; intro K hK
      refine ow_call (first := []) (cap := []) T rfl rfl rfl rfl evf (.cons (T.ev 3 rfl) (.cons (T.ev 2 rfl) .nil)) Try.func98 rfl rfl ?_
      refine Calls.mono (rafter_any j _ _ _ _ _ l _ (SI.rd M (List.nil_sublist _)) (by omega) hst) ?_
      clear T
      rintro e wc ⟨rfl, hb⟩
      intro ac T
      replace M := M.call hb; clear hb
      refine sh_out hK _ _ (M.mask [false, true] rfl) ?_; clear hK K
      refine g_w (i := 4) (by kernel_rfl) rfl (by kernel_rfl : (pbits 9 47).setIfInBounds 4 true = pbits 9 63) rfl ?_; intro K hK
      refine ow_call (first := []) (cap := []) T rfl rfl rfl rfl evf (.cons (T.ev 2 rfl) .nil) Try.func99 rfl rfl ?_
      refine Calls.mono (shifts_any j _ _ _ hj) ?_
      clear T
      rintro e wc ⟨Aur4_4, cur4_4, Iur4_4, rfl, hdur4_4, N⟩
      intro ac T
      obtain ⟨bur4_4, our4_4, Sur4_4⟩ := SJ.shx hdur4_4
      have hlur4_4 := shx_pos j.sh
      have hfur4_4 := shx_few hj
      replace M := (M.join N).swapI
      replace M := M.mask [true, true] rfl
      refine sh_out hK _ _ (M.perm [1] rfl rfl) ?_; clear hK K
      refine g_w (i := 6) (by kernel_rfl) rfl (by kernel_rfl : (pbits 9 63).setIfInBounds 6 true = pbits 9 127) rfl ?_; intro K hK
      refine ow_stO M T rfl rfl (T.ev 2 rfl) (T.ev 1 rfl) rfl .head rfl (by simp) rfl (by kernel_rfl) ?_; clear M T; intro wc ac M T
      refine sh_out hK _ _ (M.perm [1] rfl rfl) ?_; clear hK K
      refine g_q (T := T) (i := 7) rfl (by kernel_rfl) (by kernel_rfl : (pbits 9 127).setIfInBounds 7 true = pbits 9 255) si_U (fun _ _ _ h => h) rfl rfl rfl rfl (fun _ _ _ _ _ => (rn_assign rfl (T.ev 0 rfl))) ?_; clear T ac; intro ac T
      refine g_q (T := T) (i := 8) rfl (by kernel_rfl) (by kernel_rfl : (pbits 9 255).setIfInBounds 8 true = pbits 9 511) si_U (fun _ _ _ h => h) rfl rfl rfl rfl (fun _ _ _ _ _ => (rn_assign rfl evc)) ?_; clear T ac; intro ac T
      refine g_done (by kernel_rfl) ?_
      replace T := T.pick [0, 1, 4] rfl
      replace M := M.mask [true, false] rfl
      refine nm_then ?_
      refine wp_seq ?_
      refine wp_seq ?_
      refine wp_region_lit ?_
      refine l_q T rfl rfl rfl rfl (rn_assign rfl evc) ?_; clear T ac; intro ac T
      refine wpList_nil ?_
      refine nm_then ?_
      refine wp_block ?_
      refine wp_loop_n (fun mz ac wc => ∃ (k : Nat) (y : Int), mz = (shx j.sh).length - k ∧ (k ≤ (shx j.sh).length) ∧ (rworstF (j.st.after l).p0 (j.st.after l).p1 (shx j.sh) 0 = rworstF (j.st.after l).p0 (j.st.after l).p1 ((shx j.sh).drop k) y) ∧ Tm ac 50 [(7, .pointer (some ⟨gr4_5, 0, none⟩)), (8, .slice Aur4_4 ((shx j.sh).length) cur4_4), (9, .int .i64 y), (10, .int .i64 (k : Int))] ∧ Mem w noEx wc ((gr4_5, .cells [.int .i64 ((j.st.after l).p0), .int .i64 ((j.st.after l).p1), .int .i64 ((j.st.after l).t0), .int .i64 ((j.st.after l).t1), .int .i64 ((j.st.after l).r0), .int .i64 ((j.st.after l).r1)]) :: Iur4_4)) ?_ ?_
      · exact ⟨_, 0, 0, rfl, (by omega), rfl, T.pick [3, 2, 1, 0] rfl, M.mask [true] rfl⟩
      · clear T M
        rintro mz ac wc ⟨k, y, hmm1, hkk, H, T, M⟩
        refine wp_seq ?_
        refine wp_seq ?_
        refine wp_region_lit ?_
        refine l_q T rfl rfl rfl rfl (rn_move rfl (T.ev 3 rfl)) ?_; clear T ac; intro ac T
        refine l_q T rfl rfl rfl rfl (rn_move rfl (T.ev 2 rfl)) ?_; clear T ac; intro ac T
        refine l_q T rfl rfl rfl rfl (rn_lenS rfl Try.underlying28 (T.ev 0 rfl)) ?_; clear T ac; intro ac T
        refine l_q T rfl rfl rfl rfl (rn_lss rfl (T.ev 2 rfl) (T.ev 0 rfl)) ?_; clear T ac; intro ac T
        refine wpList_nil ?_
        replace T := T.pick [0, 4, 5, 6, 7] rfl
        refine nm_then ?_
        refine wp_if (T.ev 0 rfl) ?_ ?_
        · intro h4
          obtain ⟨x0, x1, hk1, hd⟩ := rc_next (l := shx j.sh) (k := k) (by omega)
          have hb1 := shx_bd hj hk1
          rw [hd] at H
          refine wp_skip ?_
          refine nm_then ?_
          refine wp_seq ?_
          refine wp_block ?_
          refine g_start2 M (M.mask [true] rfl) 22 (by kernel_rfl) rfl (by kernel_rfl) ?_
          clear M; intro wc M
          refine g_q (T := T) (i := 0) rfl (by kernel_rfl) (by kernel_rfl : (pbits 22 0).setIfInBounds 0 true = pbits 22 1) si_U (fun _ _ _ h => h) rfl rfl rfl rfl (fun _ _ _ _ _ => (rn_move rfl (T.ev 3 rfl))) ?_; clear T ac; intro ac T
          refine g_q (v := (.pointer (some ⟨gr4_5, 0, none⟩))) (T := T) (i := 1) rfl (by kernel_rfl) (by kernel_rfl : (pbits 22 1).setIfInBounds 1 true = pbits 22 3) si_U (fun _ _ _ h => h) rfl rfl rfl rfl (fun _ _ _ _ _ => (rn_fieldAddr (off := 0) rfl (T.ev 2 rfl) (fun _ _ _ => by kernel_rfl))) ?_; clear T ac; intro ac T
          refine g_q (v := (.pointer (some ⟨gr4_5, 1, none⟩))) (T := T) (i := 2) rfl (by kernel_rfl) (by kernel_rfl : (pbits 22 3).setIfInBounds 2 true = pbits 22 7) si_U (fun _ _ _ h => h) rfl rfl rfl rfl (fun _ _ _ _ _ => (rn_fieldAddr (off := 1) rfl (T.ev 0 rfl) (fun _ _ _ => by kernel_rfl))) ?_; clear T ac; intro ac T
          refine g_q (T := T) (i := 3) rfl (by kernel_rfl) (by kernel_rfl : (pbits 22 7).setIfInBounds 3 true = pbits 22 15) si_U (fun _ _ _ h => h) rfl rfl rfl rfl (fun B w' hD hl hS => (rn_one (Mem.nth (show Mem w noEx w' _ from hS) 0 rfl) rfl (T.ev 0 rfl) rfl)) ?_; clear T ac; intro ac T
          refine g_q (T := T) (i := 4) rfl (by kernel_rfl) (by kernel_rfl : (pbits 22 15).setIfInBounds 4 true = pbits 22 31) si_U (fun _ _ _ h => h) rfl rfl rfl rfl (fun _ _ _ _ _ => (rn_move rfl (T.ev 6 rfl))) ?_; clear T ac; intro ac T
          refine g_q (T := T) (i := 5) rfl (by kernel_rfl) (by kernel_rfl : (pbits 22 31).setIfInBounds 5 true = pbits 22 63) si_U (fun _ _ _ h => h) rfl rfl rfl rfl (fun _ _ _ _ _ => (rn_move rfl (T.ev 9 rfl))) ?_; clear T ac; intro ac T
          refine g_q (T := T) (i := 6) rfl (by kernel_rfl) (by kernel_rfl : (pbits 22 63).setIfInBounds 6 true = pbits 22 127) si_U (fun _ _ _ h => h) rfl rfl rfl rfl (fun _ _ _ _ _ => (rn_indexAddr (size := 2) k rfl (T.ev 1 rfl) (T.ev 0 rfl) ⟨_, Try.underlying28, by kernel_rfl⟩ rfl (by omega) (Sur4_4.at0 (by omega)))) ?_; clear T ac; intro ac T
          refine g_q (T := T) (i := 7) rfl (by kernel_rfl) (by kernel_rfl : (pbits 22 127).setIfInBounds 7 true = pbits 22 255) si_U (fun _ _ _ h => h) rfl rfl rfl rfl (fun _ _ _ _ _ => (rn_fieldAddr (off := 1) rfl (T.ev 0 rfl) (fun _ _ _ => by kernel_rfl))) ?_; clear T ac; intro ac T
          refine g_q (T := T) (i := 8) rfl (by kernel_rfl) (by kernel_rfl : (pbits 22 255).setIfInBounds 8 true = pbits 22 511) si_U (fun _ _ _ h => h) rfl rfl rfl rfl (fun B w' hD hl hS => (rn_cell (Sp.rc1 Sur4_4 (show Mem w noEx w' _ from hS) (.cons _ (List.Sublist.refl _)) hk1) rfl (T.ev 0 rfl))) ?_; clear T ac; intro ac T
          refine g_q (T := T) (i := 9) rfl (by kernel_rfl) (by kernel_rfl : (pbits 22 511).setIfInBounds 9 true = pbits 22 1023) si_U (fun _ _ _ h => h) rfl rfl rfl rfl (fun _ _ _ _ _ => (rn_add rfl (T.ev 5 rfl) (T.ev 0 rfl) (by omega))) ?_; clear T ac; intro ac T
          refine g_q (v := (.pointer (some ⟨gr4_5, 0, none⟩))) (T := T) (i := 10) rfl (by kernel_rfl) (by kernel_rfl : (pbits 22 1023).setIfInBounds 10 true = pbits 22 2047) si_U (fun _ _ _ h => h) rfl rfl rfl rfl (fun _ _ _ _ _ => (rn_fieldAddr (off := 0) rfl (T.ev 11 rfl) (fun _ _ _ => by kernel_rfl))) ?_; clear T ac; intro ac T
          refine g_q (v := (.pointer (some ⟨gr4_5, 0, none⟩))) (T := T) (i := 11) rfl (by kernel_rfl) (by kernel_rfl : (pbits 22 2047).setIfInBounds 11 true = pbits 22 4095) si_U (fun _ _ _ h => h) rfl rfl rfl rfl (fun _ _ _ _ _ => (rn_fieldAddr (off := 0) rfl (T.ev 0 rfl) (fun _ _ _ => by kernel_rfl))) ?_; clear T ac; intro ac T
          refine g_q (T := T) (i := 12) rfl (by kernel_rfl) (by kernel_rfl : (pbits 22 4095).setIfInBounds 12 true = pbits 22 8191) si_U (fun _ _ _ h => h) rfl rfl rfl rfl (fun B w' hD hl hS => (rn_one (Mem.nth (show Mem w noEx w' _ from hS) 0 rfl) rfl (T.ev 0 rfl) rfl)) ?_; clear T ac; intro ac T
          refine g_q (T := T) (i := 13) rfl (by kernel_rfl) (by kernel_rfl : (pbits 22 8191).setIfInBounds 13 true = pbits 22 16383) si_U (fun _ _ _ h => h) rfl rfl rfl rfl (fun _ _ _ _ _ => (rn_move rfl (T.ev 15 rfl))) ?_; clear T ac; intro ac T
          refine g_q (T := T) (i := 14) rfl (by kernel_rfl) (by kernel_rfl : (pbits 22 16383).setIfInBounds 14 true = pbits 22 32767) si_U (fun _ _ _ h => h) rfl rfl rfl rfl (fun _ _ _ _ _ => (rn_move rfl (T.ev 18 rfl))) ?_; clear T ac; intro ac T
          refine g_q (T := T) (i := 15) rfl (by kernel_rfl) (by kernel_rfl : (pbits 22 32767).setIfInBounds 15 true = pbits 22 65535) si_U (fun _ _ _ h => h) rfl rfl rfl rfl (fun _ _ _ _ _ => (rn_indexAddr (size := 2) k rfl (T.ev 1 rfl) (T.ev 0 rfl) ⟨_, Try.underlying28, by kernel_rfl⟩ rfl (by omega) (Sur4_4.at0 (by omega)))) ?_; clear T ac; intro ac T
          refine g_q (T := T) (i := 16) rfl (by kernel_rfl) (by kernel_rfl : (pbits 22 65535).setIfInBounds 16 true = pbits 22 131071) si_U (fun _ _ _ h => h) rfl rfl rfl rfl (fun _ _ _ _ _ => (rn_fieldAddr (off := 0) rfl (T.ev 0 rfl) (fun _ _ _ => by kernel_rfl))) ?_; clear T ac; intro ac T
          refine g_q (T := T) (i := 17) rfl (by kernel_rfl) (by kernel_rfl : (pbits 22 131071).setIfInBounds 17 true = pbits 22 262143) si_U (fun _ _ _ h => h) rfl rfl rfl rfl (fun B w' hD hl hS => (rn_cell (Sp.rc0 Sur4_4 (show Mem w noEx w' _ from hS) (.cons _ (List.Sublist.refl _)) hk1) rfl (T.ev 0 rfl))) ?_; clear T ac; intro ac T
          refine g_q (T := T) (i := 18) rfl (by kernel_rfl) (by kernel_rfl : (pbits 22 262143).setIfInBounds 18 true = pbits 22 524287) si_U (fun _ _ _ h => h) rfl rfl rfl rfl (fun _ _ _ _ _ => (rn_add rfl (T.ev 5 rfl) (T.ev 0 rfl) (by omega))) ?_; clear T ac; intro ac T
          refine g_q (T := T) (i := 19) rfl (by kernel_rfl) (by kernel_rfl : (pbits 22 524287).setIfInBounds 19 true = pbits 22 1048575) si_U (fun _ _ _ h => h) rfl rfl rfl rfl (fun _ _ _ _ _ => (rn_neg rfl (T.ev 0 rfl) (by omega))) ?_; clear T ac; intro ac T
          refine g_q (T := T) (i := 20) rfl (by kernel_rfl) (by kernel_rfl : (pbits 22 1048575).setIfInBounds 20 true = pbits 22 2097151) si_U (fun _ _ _ h => h) rfl rfl rfl rfl (fun _ _ _ _ _ => (rn_max3 rfl (T.ev 19 rfl) (T.ev 10 rfl) (T.ev 0 rfl))) ?_; clear T ac; intro ac T
          refine g_q (v := (.int .i64 (max (max y (((j.st.after l).p1) + x1)) (-(((j.st.after l).p0) + x0))))) (T := T.pick [0, 1, 2, 3, 4, 5, 6, 7, 8, 9, 10, 11, 12, 13, 14, 15, 16, 17, 18, 19, 20, 21, 22, 23, 25] rfl) (i := 21) rfl (by kernel_rfl) (by kernel_rfl : (pbits 22 2097151).setIfInBounds 21 true = pbits 22 4194303) si_U (fun _ _ _ h => h) rfl rfl rfl rfl (fun _ _ _ _ _ => (rn_assign rfl (T.ev 0 rfl))) ?_; clear T ac; intro ac T
          refine g_done (by kernel_rfl) ?_
          replace T := T.pick [0, 23, 24, 25] rfl
          refine nm_blk ?_
          refine nm_then ?_
          refine wp_region_lit ?_
          refine l_q T rfl rfl rfl rfl (rn_move rfl (T.ev 3 rfl)) ?_; clear T ac; intro ac T
          refine l_q T rfl rfl rfl rfl (rn_add rfl (T.ev 0 rfl) evc (by omega)) ?_; clear T ac; intro ac T
          refine l_q (v := (.int .i64 ((k : Int) + 1))) (T.pick [0, 1, 2, 3, 4] rfl) rfl rfl rfl rfl (rn_assign rfl (T.ev 0 rfl)) ?_; clear T ac; intro ac T
          refine wpList_nil ?_
          replace T := T.pick [0, 3, 4, 5] rfl
          refine nm_then ?_
          exact ⟨_, by omega, k + 1, _, rfl, (by omega), H, T.pick [2, 3, 1, 0] rfl, M.mask [true] rfl⟩
        · intro h4
          rw [List.drop_of_length_le (by omega)] at H
          refine wp_exit ?_
          refine ex_then ?_
          refine ex_then ?_
          refine ex_hit ?_
          refine nm_then ?_
          refine wp_seq ?_
          refine wp_region_lit ?_
          refine l_q T rfl rfl rfl rfl (rn_move rfl (T.ev 3 rfl)) ?_; clear T ac; intro ac T
          refine l_q T rfl rfl rfl rfl (rn_assign rfl (T.ev 0 rfl)) ?_; clear T ac; intro ac T
          refine l_q T rfl rfl rfl rfl (rn_assign rfl evc) ?_; clear T ac; intro ac T
          refine wpList_nil ?_
          replace T := T.pick [0, 1] rfl
          replace M := M.mask [false] rfl
          refine nm_then ?_
          refine wp_ret ?_
          refine rt_2 T rfl (T.ev 1 rfl) (T.ev 0 rfl) ?_
          refine ⟨?_, M.below⟩
          unfold rworstT
          rw [if_pos h1, H]
          rfl

end Go.Proofs.Ythlpceoajhcliaa
end

section
/-
  Plain laws: what ref1 says is what the program computes.
-/
namespace Go.Proofs.Ythlpceoajhcliaa
set_option linter.unusedSimpArgs false
set_option linter.unusedVariables false

theorem winL_lo (j : Jb) (n : Int) : (winL j).1 ≤ n ↔ ∀ s ∈ shx j.sh, -j.wi - s.2 ≤ n := by
  unfold winL looseL shx
  cases h : j.sh with
  | nil => simp [winOf]
  | cons q r =>
    simp only [List.map_cons, winOf, meet_lo, List.mem_map, forall_exists_index, and_imp, forall_apply_eq_imp_iff₂, reduceCtorEq, if_false, List.mem_cons, forall_eq_or_imp]
theorem winL_hi (j : Jb) (n : Int) : n ≤ (winL j).2 ↔ ∀ s ∈ shx j.sh, n ≤ j.wi - s.1 := by
  unfold winL looseL shx
  cases h : j.sh with
  | nil => simp [winOf]
  | cons q r =>
    simp only [List.map_cons, winOf, meet_hi, List.mem_map, forall_exists_index, and_imp, forall_apply_eq_imp_iff₂, reduceCtorEq, if_false, List.mem_cons, forall_eq_or_imp]
theorem canAt_iff (j : Jb) (p : Int) : canAt j p = true ↔ (winL j).1 ≤ p ∧ p ≤ (winL j).2 := by
  rw [winL_lo, winL_hi]
  unfold canAt
  rw [List.all_eq_true]
  simp only [Bool.and_eq_true, decide_eq_true_eq]
  constructor
  · exact fun h => ⟨fun s hs => by have := h s hs; omega, fun s hs => by have := h s hs; omega⟩
  · exact fun h s hs => by have a := h.1 s hs; have b := h.2 s hs; omega
theorem anyN_iff (f : Int → Bool) : ∀ (n : Nat) (p : Int), anyN f n p = true ↔ ∃ q, p ≤ q ∧ q < p + n ∧ f q = true
  | 0, p => by simp [anyN]; intro x h1 h2; omega
  | n + 1, p => by
    rw [anyN, Bool.or_eq_true, anyN_iff f n (p + 1)]
    constructor
    · rintro (h | ⟨q, h1, h2, h3⟩)
      · exact ⟨p, by omega, by omega, h⟩
      · exact ⟨q, by omega, by omega, h3⟩
    · rintro ⟨q, h1, h2, h3⟩
      by_cases e : q = p
      · subst e; exact .inl h3
      · exact .inr ⟨q, by omega, by omega, h3⟩
theorem rpass_eq (j : Jb) {p0 p1 : Int} (h : p0 ≤ p1) : rpass j p0 p1 = passesJ j p0 p1 := by
  unfold rpass passesJ
  rw [rwin_eq]
  by_cases h1 : hasB (winS j).1 (winS j).2 p0 p1 = true
  · rw [if_pos h1, if_pos h1]
  · rw [if_neg h1, if_neg h1]
    have e : (meetL (winL j) [(p0, p1)]) = mstep (winL j) (p0, p1) := rfl
    rw [e]
    have hc : anyN (canAt j) (p1 + 1 - p0).toNat p0 = true ↔ ¬ (mstep (winL j) (p0, p1)).2 < (mstep (winL j) (p0, p1)).1 := by
      rw [anyN_iff]
      simp only [canAt_iff, mstep]
      constructor
      · rintro ⟨q, h2, h3, h4, h5⟩
        (repeat' split) <;> omega
      · intro h2
        refine ⟨if (winL j).1 < p0 then p0 else (winL j).1, ?_⟩
        revert h2
        (repeat' split) <;> intro h2 <;> refine ⟨?_, ?_, ?_, ?_⟩ <;> omega
    by_cases h2 : anyN (canAt j) (p1 + 1 - p0).toNat p0 = true
    · rw [if_pos h2, if_neg (hc.1 h2)]
    · rw [if_neg h2, if_pos (by by_cases h3 : (mstep (winL j) (p0, p1)).2 < (mstep (winL j) (p0, p1)).1; exact h3; exact absurd (hc.2 h3) h2)]
theorem rpassT_eq (j : Jb) : rpassT j = passesT j := by
  unfold rpassT passesT
  by_cases h : checkJ j = 0
  · rw [if_pos h, if_pos h, rpass_eq j (good_of h).p.2.1]
  · rw [if_neg h, if_neg h]
/-- What files leave in order. -/
structure St.ord (s : St) : Prop where
  p : s.p0 ≤ s.p1
  u : s.u0 ≤ s.u1
  d : s.d0 ≤ s.d1
theorem St.ord.filed {s : St} (h : s.ord) (k : Int) : (s.filed k).ord := by
  obtain ⟨h1, h2, h3⟩ := h
  unfold St.filed
  split
  · exact ⟨by simp only [St.tip]; omega, h2, h3⟩
  · exact ⟨by simp only [St.root]; omega, h2, h3⟩
theorem St.ord.after : ∀ (l : List Int) {s : St}, s.ord → (s.after l).ord
  | [], _, h => h
  | k :: l, _, h => St.ord.after l (h.filed k)
theorem good_ord {j : Jb} (h : j.good) : j.st.ord := ⟨h.p.2.1, h.u.2.1, h.d.2.1⟩
theorem rfineJ_eq {j : Jb} (h : j.good) (l : List Int) : rfineJ j l = fineJ j (j.st.after l) := by
  unfold rfineJ fineJ
  rw [rpass_eq j ((good_ord h).after l).p]
theorem rfineT_eq (j : Jb) (l : List Int) : rfineT j l = fineT j l := by
  unfold rfineT fineT
  by_cases h : checkStrokesJ j l = 0
  · rw [if_pos h, if_pos h, rfineJ_eq (good_of (strokes_of h).1)]
  · rw [if_neg h, if_neg h]
theorem rworst_eq (p0 p1 : Int) : ∀ (l : List (Int × Int)) (n : Int), rworstF p0 p1 l n = l.foldl (wstep p0 p1) n
  | [], n => rfl
  | s :: l, n => by
    have e : rworstF p0 p1 (s :: l) n = rworstF p0 p1 l (max (max n (p1 + s.2)) (-(p0 + s.1))) := rfl
    rw [e, rworst_eq p0 p1 l, List.foldl_cons]
    have : max (max n (p1 + s.2)) (-(p0 + s.1)) = wstep p0 p1 n s := by
      unfold wstep
      (repeat' split) <;> omega
    rw [this]
theorem rworstT_eq (j : Jb) (l : List Int) : rworstT j l = worstT j l := by
  unfold rworstT worstT
  by_cases h : checkStrokesJ j l = 0
  · rw [if_pos h, if_pos h, rworst_eq]; rfl
  · rw [if_neg h, if_neg h]

end Go.Proofs.Ythlpceoajhcliaa
end

section
/-
  kit: whether ranges and jobs are the same; reed.Hear.
-/
namespace Go.Proofs.Ythlpceoajhcliaa
set_option linter.unusedSimpArgs false
set_option linter.unusedVariables false
open Go.RowKit



theorem eqT23 {x y : Operand} {a0 a1 b0 b1 : Int} {w : World} : (do eqGuard .eql 23 x y (.agg #[.int .i64 a0, .int .i64 a1]) (.agg #[.int .i64 b0, .int .i64 b1]); binOp .eql 23 (.agg #[.int .i64 a0, .int .i64 a1]) (.agg #[.int .i64 b0, .int .i64 b1]) : Sem Value).run Try.prog w = .ok (.bool ((decide (a0 = b0) && decide (a1 = b1)))) w := by
  go_simp
  (repeat' split) <;> simp_all
theorem neT23 {x y : Operand} {a0 a1 b0 b1 : Int} {w : World} : (do eqGuard .neq 23 x y (.agg #[.int .i64 a0, .int .i64 a1]) (.agg #[.int .i64 b0, .int .i64 b1]); binOp .neq 23 (.agg #[.int .i64 a0, .int .i64 a1]) (.agg #[.int .i64 b0, .int .i64 b1]) : Sem Value).run Try.prog w = .ok (.bool (!(decide (a0 = b0) && decide (a1 = b1)))) w := by
  go_simp
  (repeat' split) <;> simp_all


theorem eqT25 {x y : Operand} {a0 a1 a2 a3 a4 a5 b0 b1 b2 b3 b4 b5 : Int} {w : World} : (do eqGuard .eql 25 x y (.agg #[.int .i64 a0, .int .i64 a1, .int .i64 a2, .int .i64 a3, .int .i64 a4, .int .i64 a5]) (.agg #[.int .i64 b0, .int .i64 b1, .int .i64 b2, .int .i64 b3, .int .i64 b4, .int .i64 b5]); binOp .eql 25 (.agg #[.int .i64 a0, .int .i64 a1, .int .i64 a2, .int .i64 a3, .int .i64 a4, .int .i64 a5]) (.agg #[.int .i64 b0, .int .i64 b1, .int .i64 b2, .int .i64 b3, .int .i64 b4, .int .i64 b5]) : Sem Value).run Try.prog w = .ok (.bool ((decide (a0 = b0) && (decide (a1 = b1) && (decide (a2 = b2) && (decide (a3 = b3) && (decide (a4 = b4) && decide (a5 = b5)))))))) w := by
  go_simp
  (repeat' split) <;> simp_all
theorem neT25 {x y : Operand} {a0 a1 a2 a3 a4 a5 b0 b1 b2 b3 b4 b5 : Int} {w : World} : (do eqGuard .neq 25 x y (.agg #[.int .i64 a0, .int .i64 a1, .int .i64 a2, .int .i64 a3, .int .i64 a4, .int .i64 a5]) (.agg #[.int .i64 b0, .int .i64 b1, .int .i64 b2, .int .i64 b3, .int .i64 b4, .int .i64 b5]); binOp .neq 25 (.agg #[.int .i64 a0, .int .i64 a1, .int .i64 a2, .int .i64 a3, .int .i64 a4, .int .i64 a5]) (.agg #[.int .i64 b0, .int .i64 b1, .int .i64 b2, .int .i64 b3, .int .i64 b4, .int .i64 b5]) : Sem Value).run Try.prog w = .ok (.bool (!(decide (a0 = b0) && (decide (a1 = b1) && (decide (a2 = b2) && (decide (a3 = b3) && (decide (a4 = b4) && decide (a5 = b5)))))))) w := by
  go_simp
  (repeat' split) <;> simp_all


theorem eqT27 {x y : Operand} {a0 a1 a2 a3 a4 a5 a6 a7 a8 b0 b1 b2 b3 b4 b5 b6 b7 b8 : Int} {w : World} : (do eqGuard .eql 27 x y (.agg #[.int .i64 a0, .int .i64 a1, .int .i64 a2, .int .i64 a3, .int .i64 a4, .int .i64 a5, .int .i64 a6, .int .i64 a7, .int .i64 a8]) (.agg #[.int .i64 b0, .int .i64 b1, .int .i64 b2, .int .i64 b3, .int .i64 b4, .int .i64 b5, .int .i64 b6, .int .i64 b7, .int .i64 b8]); binOp .eql 27 (.agg #[.int .i64 a0, .int .i64 a1, .int .i64 a2, .int .i64 a3, .int .i64 a4, .int .i64 a5, .int .i64 a6, .int .i64 a7, .int .i64 a8]) (.agg #[.int .i64 b0, .int .i64 b1, .int .i64 b2, .int .i64 b3, .int .i64 b4, .int .i64 b5, .int .i64 b6, .int .i64 b7, .int .i64 b8]) : Sem Value).run Try.prog w = .ok (.bool ((decide (a0 = b0) && (decide (a1 = b1) && (decide (a2 = b2) && (decide (a3 = b3) && (decide (a4 = b4) && (decide (a5 = b5) && (decide (a6 = b6) && (decide (a7 = b7) && decide (a8 = b8))))))))))) w := by
  go_simp
  (repeat' split) <;> simp_all
theorem neT27 {x y : Operand} {a0 a1 a2 a3 a4 a5 a6 a7 a8 b0 b1 b2 b3 b4 b5 b6 b7 b8 : Int} {w : World} : (do eqGuard .neq 27 x y (.agg #[.int .i64 a0, .int .i64 a1, .int .i64 a2, .int .i64 a3, .int .i64 a4, .int .i64 a5, .int .i64 a6, .int .i64 a7, .int .i64 a8]) (.agg #[.int .i64 b0, .int .i64 b1, .int .i64 b2, .int .i64 b3, .int .i64 b4, .int .i64 b5, .int .i64 b6, .int .i64 b7, .int .i64 b8]); binOp .neq 27 (.agg #[.int .i64 a0, .int .i64 a1, .int .i64 a2, .int .i64 a3, .int .i64 a4, .int .i64 a5, .int .i64 a6, .int .i64 a7, .int .i64 a8]) (.agg #[.int .i64 b0, .int .i64 b1, .int .i64 b2, .int .i64 b3, .int .i64 b4, .int .i64 b5, .int .i64 b6, .int .i64 b7, .int .i64 b8]) : Sem Value).run Try.prog w = .ok (.bool (!(decide (a0 = b0) && (decide (a1 = b1) && (decide (a2 = b2) && (decide (a3 = b3) && (decide (a4 = b4) && (decide (a5 = b5) && (decide (a6 = b6) && (decide (a7 = b7) && decide (a8 = b8))))))))))) w := by
  go_simp
  (repeat' split) <;> simp_all


theorem same_start {α : Type} [DecidableEq α] (l r : List α) : decide (l = r) = (decide ((l.length : Int) = (r.length : Int)) && decide (l.drop 0 = r.drop 0)) := by
  by_cases h : l = r
  · subst h; simp
  · simp [h]
theorem same_next {x y x' y' : Int} {l r : List (Int × Int)} : decide ((x, y) :: l = (x', y') :: r) = ((decide (x = x') && decide (y = y')) && decide (l = r)) := by
  by_cases h1 : x = x' <;> by_cases h2 : y = y' <;> simp [h1, h2]


set_option maxRecDepth 100000 in
set_option maxHeartbeats 1000000 in
theorem sameRanges_any (A D : Option Addr) (n m c d : Nat) (l r : List (Int × Int)) (w : World) (hr : Rd w w.heap.size 2 A n (rc l)) (hs : Rd w w.heap.size 2 D m (rc r)) (hn : n ≤ 9223372036854775807) (hm : m ≤ 9223372036854775807) :
    Calls Try.prog 71 #[.slice A n c, .slice D m d] w fun e w' => e = .returned (.bool (decide (l = r))) ∧ Below w.heap.size w w' := by
  have hl := hr.len2
  have hl2 := hs.len2
  obtain ⟨bJ, oJ, SJ⟩ := Sp.old hr
  obtain ⟨bI, oI, SI⟩ := Sp.old hs
  refine px_enter noEx Try.func71 rfl 31 rfl [.slice A n c, .slice D m d] rfl rfl (Mem.init w _) ?_
  intro ac wc T M
  refine wp_seq ?_
  refine wp_region_lit ?_
  refine l_q T rfl rfl rfl rfl (rn_assign rfl evc) ?_; clear T ac; intro ac T
  refine wpList_nil ?_
  replace T := T.pick [1, 2] rfl
  refine nm_then ?_
  refine wp_seq ?_
  refine wp_region_lit ?_
  refine l_q T rfl rfl rfl rfl (rn_move rfl (T.ev 0 rfl)) ?_; clear T ac; intro ac T
  refine l_q T rfl rfl rfl rfl (rn_lenS rfl Try.underlying28 (T.ev 0 rfl)) ?_; clear T ac; intro ac T
  refine l_q T rfl rfl rfl rfl (rn_move rfl (T.ev 3 rfl)) ?_; clear T ac; intro ac T
  refine l_q T rfl rfl rfl rfl (rn_lenS rfl Try.underlying28 (T.ev 0 rfl)) ?_; clear T ac; intro ac T
  refine l_q T rfl rfl rfl rfl (rn_eql rfl (T.ev 2 rfl) (T.ev 0 rfl)) ?_; clear T ac; intro ac T
  refine l_q T rfl rfl rfl rfl (rn_assign rfl (T.ev 0 rfl)) ?_; clear T ac; intro ac T
  refine wpList_nil ?_
  replace T := T.pick [0, 6, 7] rfl
  refine nm_then ?_
  refine wp_seq ?_
  refine wp_seq ?_
  refine wp_region_lit ?_
  refine l_q T rfl rfl rfl rfl (rn_assign rfl evc) ?_; clear T ac; intro ac T
  refine wpList_nil ?_
  refine nm_then ?_
  refine wp_block ?_
  refine wp_loop_n (fun mz ac wc => ∃ (k : Nat) (b : Bool), mz = n - k ∧ (k ≤ n) ∧ (b = true → n = m) ∧ (decide (l = r) = (b && decide (l.drop k = r.drop k))) ∧ Tm ac 31 [(0, .slice A n c), (1, .slice D m d), (5, .bool b), (6, .int .i64 (k : Int))] ∧ Mem w noEx wc []) ?_ ?_
  · exact ⟨_, 0, _, rfl, (by omega), (fun h => by have := of_decide_eq_true h; omega), (by rw [same_start l r, hl, hl2]), T.pick [2, 3, 1, 0] rfl, M.mask [] rfl⟩
  · clear T M
    rintro mz ac wc ⟨k, b, hmm1, hk, hb, H, T, M⟩
    refine wp_seq ?_
    refine cut_seq (fun ac wc => Tm ac 31 [(0, .slice A n c), (1, .slice D m d), (5, .bool b), (6, .int .i64 (k : Int)), (18, .bool (b && (decide ((k : Int) < ((n : Nat) : Int)))))] ∧ Mem w noEx wc []) ?_ ?_
    · refine wp_region_lit ?_
      refine l_q T rfl rfl rfl rfl (rn_move rfl (T.ev 2 rfl)) ?_; clear T ac; intro ac T
      refine l_q T rfl rfl rfl rfl (rn_move rfl (T.ev 0 rfl)) ?_; clear T ac; intro ac T
      rcases Bool.eq_false_or_eq_true b with h1 | h1
      · refine l_q T (wanted_yes rfl rfl (T.ev 0 rfl) h1) rfl rfl rfl (rn_move rfl (T.ev 5 rfl)) ?_; clear T ac; intro ac T
        refine l_q T (wanted_yes rfl rfl (T.ev 1 rfl) h1) rfl rfl rfl (rn_move rfl (T.ev 3 rfl)) ?_; clear T ac; intro ac T
        refine l_q T (wanted_yes rfl rfl (T.ev 2 rfl) h1) rfl rfl rfl (rn_lenS rfl Try.underlying28 (T.ev 0 rfl)) ?_; clear T ac; intro ac T
        refine l_q T (wanted_yes rfl rfl (T.ev 3 rfl) h1) rfl rfl rfl (rn_lss rfl (T.ev 2 rfl) (T.ev 0 rfl)) ?_; clear T ac; intro ac T
        refine l_q T rfl rfl rfl rfl (rn_pick1 rfl (T.ev 4 rfl) h1 (T.ev 0 rfl)) ?_; clear T ac; intro ac T
        refine wpList_nil ?_
        replace T := T.pick [0, 1, 2, 3, 4, 7, 8, 9, 10] rfl
        exact ⟨(T.pick (E' := [(0, .slice A n c), (1, .slice D m d), (5, .bool b), (6, .int .i64 (k : Int)), (18, .bool (decide ((k : Int) < ((n : Nat) : Int))))]) [5, 6, 7, 8, 0] rfl).as (by (try rw [show b = true from h1]); rfl), M.mask [] rfl⟩
      · refine l_pass T (wanted_no rfl rfl (T.ev 0 rfl) h1) rfl rfl rfl ?_; clear T ac; intro ac T
        refine l_pass T (wanted_no rfl rfl (T.ev 1 rfl) h1) rfl rfl rfl ?_; clear T ac; intro ac T
        refine l_pass T (wanted_no rfl rfl (T.ev 2 rfl) h1) rfl rfl rfl ?_; clear T ac; intro ac T
        refine l_pass T (wanted_no rfl rfl (T.ev 3 rfl) h1) rfl rfl rfl ?_; clear T ac; intro ac T
        refine l_q T rfl rfl rfl rfl (rn_pick0 rfl (T.ev 4 rfl) h1 evc) ?_; clear T ac; intro ac T
        refine wpList_nil ?_
        replace T := T.pick [0, 1, 2, 3, 4, 7, 8, 9, 10] rfl
        exact ⟨(T.pick (E' := [(0, .slice A n c), (1, .slice D m d), (5, .bool b), (6, .int .i64 (k : Int)), (18, .bool false)]) [5, 6, 7, 8, 0] rfl).as (by (try rw [show b = false from h1]); rfl), M.mask [] rfl⟩
    · clear T M
      rintro ac wc ⟨T, M⟩
      refine wp_cond_split (T.ev 4 rfl) ?_ ?_
      · intro h2
        (try have h2' := h2; try simp only [Bool.and_eq_true, Bool.or_eq_true, Bool.not_eq_true', Bool.and_eq_false_imp, Bool.or_eq_false_iff, decide_eq_true_eq, decide_eq_false_iff_not] at h2')
        have h1 : b = true ∧ (k : Int) < (n : Int) := by simpa using h2
        have hnm := hb h1.1
        obtain ⟨x0, x1, hk1, hd⟩ := rc_next (l := l) (k := k) (by omega)
        obtain ⟨y0, y1, hk2, hd2⟩ := rc_next (l := r) (k := k) (by omega)
        rw [hd, hd2, h1.1, Bool.true_and, same_next] at H
        refine wp_skip ?_
        refine nm_then ?_
        refine wp_seq ?_
        refine wp_block ?_
        refine g_start2 M (M.mask [] rfl) 10 (by kernel_rfl) rfl (by kernel_rfl) ?_
        clear M; intro wc M
        refine g_q (T := T) (i := 0) rfl (by kernel_rfl) (by kernel_rfl : (pbits 10 0).setIfInBounds 0 true = pbits 10 1) si_U (fun _ _ _ h => h) rfl rfl rfl rfl (fun _ _ _ _ _ => (rn_move rfl (T.ev 0 rfl))) ?_; clear T ac; intro ac T
        refine g_q (T := T) (i := 1) rfl (by kernel_rfl) (by kernel_rfl : (pbits 10 1).setIfInBounds 1 true = pbits 10 3) si_U (fun _ _ _ h => h) rfl rfl rfl rfl (fun _ _ _ _ _ => (rn_move rfl (T.ev 4 rfl))) ?_; clear T ac; intro ac T
        refine g_q (T := T) (i := 2) rfl (by kernel_rfl) (by kernel_rfl : (pbits 10 3).setIfInBounds 2 true = pbits 10 7) si_U (fun _ _ _ h => h) rfl rfl rfl rfl (fun _ _ _ _ _ => (rn_indexAddr (size := 2) k rfl (T.ev 1 rfl) (T.ev 0 rfl) ⟨_, Try.underlying28, by kernel_rfl⟩ rfl (by omega) (SJ.at0 (by omega)))) ?_; clear T ac; intro ac T
        refine g_q (v := (.agg #[.int .i64 x0, .int .i64 x1])) (T := T) (i := 3) rfl (by kernel_rfl) (by kernel_rfl : (pbits 10 7).setIfInBounds 3 true = pbits 10 15) si_U (fun _ _ _ h => h) rfl rfl rfl rfl (fun B w' hD hl hS => (rn_rowat (Sp.rcR SJ (show Mem w noEx w' _ from hS) (List.nil_sublist _) hk1) rfl (T.ev 0 rfl) rfl)) ?_; clear T ac; intro ac T
        refine g_q (T := T) (i := 4) rfl (by kernel_rfl) (by kernel_rfl : (pbits 10 15).setIfInBounds 4 true = pbits 10 31) si_U (fun _ _ _ h => h) rfl rfl rfl rfl (fun _ _ _ _ _ => (rn_move rfl (T.ev 5 rfl))) ?_; clear T ac; intro ac T
        refine g_q (T := T) (i := 5) rfl (by kernel_rfl) (by kernel_rfl : (pbits 10 31).setIfInBounds 5 true = pbits 10 63) si_U (fun _ _ _ h => h) rfl rfl rfl rfl (fun _ _ _ _ _ => (rn_move rfl (T.ev 8 rfl))) ?_; clear T ac; intro ac T
        refine g_q (T := T) (i := 6) rfl (by kernel_rfl) (by kernel_rfl : (pbits 10 63).setIfInBounds 6 true = pbits 10 127) si_U (fun _ _ _ h => h) rfl rfl rfl rfl (fun _ _ _ _ _ => (rn_indexAddr (size := 2) k rfl (T.ev 1 rfl) (T.ev 0 rfl) ⟨_, Try.underlying28, by kernel_rfl⟩ rfl (by omega) (SI.at0 (by omega)))) ?_; clear T ac; intro ac T
        refine g_q (v := (.agg #[.int .i64 y0, .int .i64 y1])) (T := T) (i := 7) rfl (by kernel_rfl) (by kernel_rfl : (pbits 10 127).setIfInBounds 7 true = pbits 10 255) si_U (fun _ _ _ h => h) rfl rfl rfl rfl (fun B w' hD hl hS => (rn_rowat (Sp.rcR SI (show Mem w noEx w' _ from hS) (List.nil_sublist _) hk2) rfl (T.ev 0 rfl) rfl)) ?_; clear T ac; intro ac T
        refine g_q (v := (.bool ((decide (x0 = y0)) && (decide (x1 = y1))))) (T := T) (i := 8) rfl (by kernel_rfl) (by kernel_rfl : (pbits 10 255).setIfInBounds 8 true = pbits 10 511) si_U (fun _ _ _ h => h) rfl rfl rfl rfl (fun _ _ _ _ _ => (rn_bin rfl (T.ev 4 rfl) (T.ev 0 rfl) eqT23)) ?_; clear T ac; intro ac T
        refine g_q (v := (.bool ((decide (x0 = y0)) && (decide (x1 = y1))))) (T := T.pick [0, 1, 2, 3, 4, 5, 6, 7, 8, 9, 10, 12, 13] rfl) (i := 9) rfl (by kernel_rfl) (by kernel_rfl : (pbits 10 511).setIfInBounds 9 true = pbits 10 1023) si_U (fun _ _ _ h => h) rfl rfl rfl rfl (fun _ _ _ _ _ => (rn_assign rfl (T.ev 0 rfl))) ?_; clear T ac; intro ac T
        refine g_done (by kernel_rfl) ?_
        replace T := T.pick [0, 10, 11, 12] rfl
        refine nm_blk ?_
        refine nm_then ?_
        refine wp_region_lit ?_
        refine l_q T rfl rfl rfl rfl (rn_move rfl (T.ev 3 rfl)) ?_; clear T ac; intro ac T
        refine l_q T rfl rfl rfl rfl (rn_add rfl (T.ev 0 rfl) evc (by omega)) ?_; clear T ac; intro ac T
        refine l_q (v := (.int .i64 ((k : Int) + 1))) (T.pick [0, 1, 2, 3, 4] rfl) rfl rfl rfl rfl (rn_assign rfl (T.ev 0 rfl)) ?_; clear T ac; intro ac T
        refine wpList_nil ?_
        replace T := T.pick [0, 3, 4, 5] rfl
        refine nm_then ?_
        exact ⟨_, by omega, k + 1, _, rfl, (by omega), (fun _ => hnm), H, T.pick [2, 3, 1, 0] rfl, M.mask [] rfl⟩
      · intro h2
        (try have h2' := h2; try simp only [Bool.and_eq_true, Bool.or_eq_true, Bool.not_eq_true', Bool.and_eq_false_imp, Bool.or_eq_false_iff, decide_eq_true_eq, decide_eq_false_iff_not] at h2')
        refine wp_exit ?_
        refine ex_then ?_
        refine ex_then ?_
        refine ex_hit ?_
        refine nm_then ?_
        refine wp_seq ?_
        refine wp_region_lit ?_
        refine l_q T rfl rfl rfl rfl (rn_move rfl (T.ev 2 rfl)) ?_; clear T ac; intro ac T
        refine l_q T rfl rfl rfl rfl (rn_assign rfl (T.ev 0 rfl)) ?_; clear T ac; intro ac T
        refine wpList_nil ?_
        replace T := T.pick [0] rfl
        refine nm_then ?_
        refine wp_ret ?_
        refine rt_1 T rfl (T.ev 0 rfl) ?_
        refine ⟨ret_bool ?_, M.below⟩
        rw [H]
        rcases Bool.eq_false_or_eq_true b with hb1 | hb1
        · have hnm := hb hb1
          have : ¬ ((k : Int) < (n : Int)) := by intro hc; simp [hb1, hc] at h2
          rw [List.drop_of_length_le (by omega), List.drop_of_length_le (by omega)]
          simp [hb1]
        · simp [hb1]

theorem sameRanges_same (A D : Option Addr) (n m c d : Nat) (l : List (Int × Int)) (w : World) (hr : Rd w w.heap.size 2 A n (rc l)) (hs : Rd w w.heap.size 2 D m (rc l)) (hn : n ≤ 9223372036854775807) (hm : m ≤ 9223372036854775807) :
    Calls Try.prog 71 #[.slice A n c, .slice D m d] w fun e w' => e = .returned (.bool true) ∧ Below w.heap.size w w' := by
  have := sameRanges_any A D n m c d l l w hr hs hn hm
  simpa using this
def hearT (j : Jb) (r : Int) : (Int × Int) × Int := if checkJ j = 0 then (if withinB r (j.p0 - j.me) (j.p1 + j.me) = true then (meetL (j.p0, j.p1) [(r - j.me, r + j.me)], 0) else ((0, 0), 9)) else ((0, 0), checkJ j)


set_option maxRecDepth 100000 in
set_option maxHeartbeats 1000000 in
theorem sameJobs_same (j : Jb) (A D : Option Addr) (c d : Nat) (w : World) (hr : Rd w w.heap.size 2 A j.sh.length (rc j.sh)) (hs : Rd w w.heap.size 2 D j.sh.length (rc j.sh)) (hn : j.sh.length ≤ 9223372036854775807) :
    Calls Try.prog 22 #[jobV j A c, jobV j D d] w fun e w' => e = .returned (.bool true) ∧ Below w.heap.size w w' := by
  obtain ⟨bJ, oJ, SJ⟩ := Sp.old hr
  obtain ⟨bI, oI, SI⟩ := Sp.old hs
  refine px_enter noEx Try.func22 rfl 38 rfl [.agg #[.int .i64 j.p0, .int .i64 j.p1, .int .i64 j.t0, .int .i64 j.t1, .int .i64 j.r0, .int .i64 j.r1, .int .i64 j.u0, .int .i64 j.u1, .int .i64 j.d0, .int .i64 j.d1, .int .i64 j.a0, .int .i64 j.a1, .int .i64 j.b0, .int .i64 j.b1, .int .i64 j.le, .slice A j.sh.length c, .int .i64 j.wi, .int .i64 j.me], .agg #[.int .i64 j.p0, .int .i64 j.p1, .int .i64 j.t0, .int .i64 j.t1, .int .i64 j.r0, .int .i64 j.r1, .int .i64 j.u0, .int .i64 j.u1, .int .i64 j.d0, .int .i64 j.d1, .int .i64 j.a0, .int .i64 j.a1, .int .i64 j.b0, .int .i64 j.b1, .int .i64 j.le, .slice D j.sh.length d, .int .i64 j.wi, .int .i64 j.me]] rfl rfl (Mem.init w _) ?_
  intro ac wc T M
  refine wp_seq ?_
  refine wp_region_lit ?_
  refine l_w rfl ?_; intro K hK
  refine ow_bx M T rfl rfl rfl rfl (T.ev 0 rfl) rfl ?_; clear M T; intro g1 wc ac M T
  refine sh_out hK _ _ ?_; clear hK K
  refine l_w rfl ?_; intro K hK
  refine ow_bx M T rfl rfl rfl rfl (T.ev 2 rfl) rfl ?_; clear M T; intro g2 wc ac M T
  refine sh_out hK _ _ ?_; clear hK K
  refine l_q T rfl rfl rfl rfl (rn_assign rfl evc) ?_; clear T ac; intro ac T
  refine wpList_nil ?_
  replace T := T.pick [1, 2] rfl
  refine nm_then ?_
  refine wp_seq ?_
  refine wp_region_lit ?_
  refine l_q (v := (.pointer (some ⟨g1, 0, none⟩))) T rfl rfl rfl rfl (rn_fieldAddr (off := 0) rfl (T.ev 1 rfl) (fun _ _ _ => by kernel_rfl)) ?_; clear T ac; intro ac T
  refine l_q T rfl rfl rfl rfl (rn_rowO (Mem.nth M 1 rfl) rfl (T.ev 0 rfl) rfl) ?_; clear T ac; intro ac T
  refine l_q (v := (.pointer (some ⟨g2, 0, none⟩))) T rfl rfl rfl rfl (rn_fieldAddr (off := 0) rfl (T.ev 2 rfl) (fun _ _ _ => by kernel_rfl)) ?_; clear T ac; intro ac T
  refine l_q T rfl rfl rfl rfl (rn_rowO (Mem.nth M 0 rfl) rfl (T.ev 0 rfl) rfl) ?_; clear T ac; intro ac T
  refine l_q (v := (.bool true)) T rfl rfl rfl rfl (rn_neqof (rn_bin rfl (T.ev 2 rfl) (T.ev 0 rfl) eqT25) (by simp)) ?_; clear T ac; intro ac T
  refine l_q T rfl rfl rfl rfl (rn_move rfl (T.ev 0 rfl)) ?_; clear T ac; intro ac T
  refine l_q (v := (.pointer (some ⟨g1, 6, none⟩))) T (wanted_yes rfl rfl (T.ev 0 rfl) rfl) rfl rfl rfl (rn_fieldAddr (off := 6) rfl (T.ev 7 rfl) (fun _ _ _ => by kernel_rfl)) ?_; clear T ac; intro ac T
  refine l_q T (wanted_yes rfl rfl (T.ev 1 rfl) rfl) rfl rfl rfl (rn_rowO (Mem.nth M 1 rfl) rfl (T.ev 0 rfl) rfl) ?_; clear T ac; intro ac T
  refine l_q (v := (.pointer (some ⟨g2, 6, none⟩))) T (wanted_yes rfl rfl (T.ev 2 rfl) rfl) rfl rfl rfl (rn_fieldAddr (off := 6) rfl (T.ev 8 rfl) (fun _ _ _ => by kernel_rfl)) ?_; clear T ac; intro ac T
  refine l_q T (wanted_yes rfl rfl (T.ev 3 rfl) rfl) rfl rfl rfl (rn_rowO (Mem.nth M 0 rfl) rfl (T.ev 0 rfl) rfl) ?_; clear T ac; intro ac T
  refine l_q (v := (.bool true)) T (wanted_yes rfl rfl (T.ev 4 rfl) rfl) rfl rfl rfl (rn_neqof (rn_bin rfl (T.ev 2 rfl) (T.ev 0 rfl) eqT27) (by simp)) ?_; clear T ac; intro ac T
  refine l_q T rfl rfl rfl rfl (rn_pick1 rfl (T.ev 5 rfl) rfl (T.ev 0 rfl)) ?_; clear T ac; intro ac T
  refine l_q T rfl rfl rfl rfl (rn_move rfl (T.ev 0 rfl)) ?_; clear T ac; intro ac T
  refine l_q (v := (.pointer (some ⟨g1, 16, none⟩))) T (wanted_yes rfl rfl (T.ev 0 rfl) rfl) rfl rfl rfl (rn_fieldAddr (off := 16) rfl (T.ev 14 rfl) (fun _ _ _ => by kernel_rfl)) ?_; clear T ac; intro ac T
  refine l_q T (wanted_yes rfl rfl (T.ev 1 rfl) rfl) rfl rfl rfl (rn_one (Mem.nth M 1 rfl) rfl (T.ev 0 rfl) rfl) ?_; clear T ac; intro ac T
  refine l_q (v := (.pointer (some ⟨g2, 16, none⟩))) T (wanted_yes rfl rfl (T.ev 2 rfl) rfl) rfl rfl rfl (rn_fieldAddr (off := 16) rfl (T.ev 15 rfl) (fun _ _ _ => by kernel_rfl)) ?_; clear T ac; intro ac T
  refine l_q T (wanted_yes rfl rfl (T.ev 3 rfl) rfl) rfl rfl rfl (rn_one (Mem.nth M 0 rfl) rfl (T.ev 0 rfl) rfl) ?_; clear T ac; intro ac T
  refine l_q (v := (.bool true)) T (wanted_yes rfl rfl (T.ev 4 rfl) rfl) rfl rfl rfl (rn_neqof (rn_eql rfl (T.ev 2 rfl) (T.ev 0 rfl)) (by simp)) ?_; clear T ac; intro ac T
  refine l_q T rfl rfl rfl rfl (rn_pick1 rfl (T.ev 5 rfl) rfl (T.ev 0 rfl)) ?_; clear T ac; intro ac T
  refine l_q T rfl rfl rfl rfl (rn_move rfl (T.ev 0 rfl)) ?_; clear T ac; intro ac T
  refine l_q (v := (.pointer (some ⟨g1, 17, none⟩))) T (wanted_yes rfl rfl (T.ev 0 rfl) rfl) rfl rfl rfl (rn_fieldAddr (off := 17) rfl (T.ev 21 rfl) (fun _ _ _ => by kernel_rfl)) ?_; clear T ac; intro ac T
  refine l_q T (wanted_yes rfl rfl (T.ev 1 rfl) rfl) rfl rfl rfl (rn_one (Mem.nth M 1 rfl) rfl (T.ev 0 rfl) rfl) ?_; clear T ac; intro ac T
  refine l_q (v := (.pointer (some ⟨g2, 17, none⟩))) T (wanted_yes rfl rfl (T.ev 2 rfl) rfl) rfl rfl rfl (rn_fieldAddr (off := 17) rfl (T.ev 22 rfl) (fun _ _ _ => by kernel_rfl)) ?_; clear T ac; intro ac T
  refine l_q T (wanted_yes rfl rfl (T.ev 3 rfl) rfl) rfl rfl rfl (rn_one (Mem.nth M 0 rfl) rfl (T.ev 0 rfl) rfl) ?_; clear T ac; intro ac T
  refine l_q (v := (.bool true)) T (wanted_yes rfl rfl (T.ev 4 rfl) rfl) rfl rfl rfl (rn_neqof (rn_eql rfl (T.ev 2 rfl) (T.ev 0 rfl)) (by simp)) ?_; clear T ac; intro ac T
  refine l_q T rfl rfl rfl rfl (rn_pick1 rfl (T.ev 5 rfl) rfl (T.ev 0 rfl)) ?_; clear T ac; intro ac T
  refine l_q T rfl rfl rfl rfl (rn_move rfl (T.ev 0 rfl)) ?_; clear T ac; intro ac T
  refine l_q (v := (.pointer (some ⟨g1, 15, none⟩))) T (wanted_yes rfl rfl (T.ev 0 rfl) rfl) rfl rfl rfl (rn_fieldAddr (off := 15) rfl (T.ev 28 rfl) (fun _ _ _ => by kernel_rfl)) ?_; clear T ac; intro ac T
  refine l_q T (wanted_yes rfl rfl (T.ev 1 rfl) rfl) rfl rfl rfl (rn_one (Mem.nth M 1 rfl) rfl (T.ev 0 rfl) rfl) ?_; clear T ac; intro ac T
  refine l_q (v := (.pointer (some ⟨g2, 15, none⟩))) T (wanted_yes rfl rfl (T.ev 2 rfl) rfl) rfl rfl rfl (rn_fieldAddr (off := 15) rfl (T.ev 29 rfl) (fun _ _ _ => by kernel_rfl)) ?_; clear T ac; intro ac T
  refine l_q T (wanted_yes rfl rfl (T.ev 3 rfl) rfl) rfl rfl rfl (rn_one (Mem.nth M 0 rfl) rfl (T.ev 0 rfl) rfl) ?_; clear T ac; intro ac T
  refine l_w (wanted_yes rfl rfl (T.ev 4 rfl) rfl) ?_; intro K hK
  refine ow_call (first := []) (cap := []) T rfl rfl rfl rfl evf (.cons (T.ev 2 rfl) (.cons (T.ev 0 rfl) .nil)) Try.func71 rfl rfl ?_
  refine Calls.mono (sameRanges_same _ _ _ _ _ _ j.sh _ (SJ.rd M (List.nil_sublist _)) (SI.rd M (List.nil_sublist _)) (by omega) (by omega)) ?_
  clear T
  rintro e wc ⟨rfl, hb⟩
  intro ac T
  replace M := M.call hb; clear hb
  refine sh_out hK _ _ ?_; clear hK K
  refine l_q T rfl rfl rfl rfl (rn_pick1 rfl (T.ev 5 rfl) rfl (T.ev 0 rfl)) ?_; clear T ac; intro ac T
  refine l_q T rfl rfl rfl rfl (rn_assign rfl (T.ev 0 rfl)) ?_; clear T ac; intro ac T
  refine wpList_nil ?_
  replace T := T.pick [0] rfl
  replace M := M.mask [false, false] rfl
  refine nm_then ?_
  refine wp_ret ?_
  refine rt_1 T rfl (T.ev 0 rfl) ?_
  exact ⟨rfl, M.below⟩

set_option maxRecDepth 100000 in
set_option maxHeartbeats 1000000 in
theorem wider_any (x0 x1 y0 y1 : Int) (w : World)  :
    Calls Try.prog 40 #[.agg #[.int .i64 x0, .int .i64 x1], .agg #[.int .i64 y0, .int .i64 y1]] w fun e w' => e = .returned (.bool (hasB x0 x1 y0 y1)) ∧ Below w.heap.size w w' := by
  refine px_enter noEx Try.func40 rfl 17 rfl [.agg #[.int .i64 x0, .int .i64 x1], .agg #[.int .i64 y0, .int .i64 y1]] rfl rfl (Mem.init w _) ?_
  intro ac wc T M
  refine wp_seq ?_
  refine wp_region_lit ?_
  refine l_w rfl ?_; intro K hK
  refine ow_bx M T rfl rfl rfl rfl (T.ev 0 rfl) rfl ?_; clear M T; intro g1 wc ac M T
  refine sh_out hK _ _ ?_; clear hK K
  refine l_w rfl ?_; intro K hK
  refine ow_bx M T rfl rfl rfl rfl (T.ev 2 rfl) rfl ?_; clear M T; intro g2 wc ac M T
  refine sh_out hK _ _ ?_; clear hK K
  refine l_q T rfl rfl rfl rfl (rn_assign rfl evc) ?_; clear T ac; intro ac T
  refine wpList_nil ?_
  replace T := T.pick [1, 2] rfl
  refine nm_then ?_
  refine cut_seq (fun ac wc => Tm ac 17 [(4, .bool ((decide (x0 ≤ y0)) && (decide (y1 ≤ x1))))] ∧ Mem w noEx wc []) ?_ ?_
  · refine wp_region_lit ?_
    refine l_q (v := (.pointer (some ⟨g1, 0, none⟩))) T rfl rfl rfl rfl (rn_fieldAddr (off := 0) rfl (T.ev 1 rfl) (fun _ _ _ => by kernel_rfl)) ?_; clear T ac; intro ac T
    refine l_q T rfl rfl rfl rfl (rn_one (Mem.nth M 1 rfl) rfl (T.ev 0 rfl) rfl) ?_; clear T ac; intro ac T
    refine l_q (v := (.pointer (some ⟨g2, 0, none⟩))) T rfl rfl rfl rfl (rn_fieldAddr (off := 0) rfl (T.ev 2 rfl) (fun _ _ _ => by kernel_rfl)) ?_; clear T ac; intro ac T
    refine l_q T rfl rfl rfl rfl (rn_one (Mem.nth M 0 rfl) rfl (T.ev 0 rfl) rfl) ?_; clear T ac; intro ac T
    refine l_q T rfl rfl rfl rfl (rn_leq rfl (T.ev 2 rfl) (T.ev 0 rfl)) ?_; clear T ac; intro ac T
    refine l_q T rfl rfl rfl rfl (rn_move rfl (T.ev 0 rfl)) ?_; clear T ac; intro ac T
    rcases Bool.eq_false_or_eq_true (decide (x0 ≤ y0)) with h1 | h1
    · replace h1 := of_decide_eq_true h1
      refine l_q (v := (.pointer (some ⟨g2, 1, none⟩))) T (wanted_yes rfl rfl (T.ev 0 rfl) (decide_eq_true h1)) rfl rfl rfl (rn_fieldAddr (off := 1) rfl (T.ev 6 rfl) (fun _ _ _ => by kernel_rfl)) ?_; clear T ac; intro ac T
      refine l_q T (wanted_yes rfl rfl (T.ev 1 rfl) (decide_eq_true h1)) rfl rfl rfl (rn_one (Mem.nth M 0 rfl) rfl (T.ev 0 rfl) rfl) ?_; clear T ac; intro ac T
      refine l_q (v := (.pointer (some ⟨g1, 1, none⟩))) T (wanted_yes rfl rfl (T.ev 2 rfl) (decide_eq_true h1)) rfl rfl rfl (rn_fieldAddr (off := 1) rfl (T.ev 9 rfl) (fun _ _ _ => by kernel_rfl)) ?_; clear T ac; intro ac T
      refine l_q T (wanted_yes rfl rfl (T.ev 3 rfl) (decide_eq_true h1)) rfl rfl rfl (rn_one (Mem.nth M 1 rfl) rfl (T.ev 0 rfl) rfl) ?_; clear T ac; intro ac T
      refine l_q T (wanted_yes rfl rfl (T.ev 4 rfl) (decide_eq_true h1)) rfl rfl rfl (rn_leq rfl (T.ev 2 rfl) (T.ev 0 rfl)) ?_; clear T ac; intro ac T
      refine l_q T rfl rfl rfl rfl (rn_pick1 rfl (T.ev 5 rfl) (decide_eq_true h1) (T.ev 0 rfl)) ?_; clear T ac; intro ac T
      refine l_q T rfl rfl rfl rfl (rn_assign rfl (T.ev 0 rfl)) ?_; clear T ac; intro ac T
      refine wpList_nil ?_
      replace T := T.pick [0] rfl
      replace M := M.mask [false, false] rfl
      exact ⟨(T.pick (E' := [(4, .bool (decide (y1 ≤ x1)))]) [0] rfl).as (by (try rw [show (decide (x0 ≤ y0)) = true from (decide_eq_true h1)]); rfl), M.mask [] rfl⟩
    · replace h1 := of_decide_eq_false h1
      refine l_pass T (wanted_no rfl rfl (T.ev 0 rfl) (decide_eq_false h1)) rfl rfl rfl ?_; clear T ac; intro ac T
      refine l_pass T (wanted_no rfl rfl (T.ev 1 rfl) (decide_eq_false h1)) rfl rfl rfl ?_; clear T ac; intro ac T
      refine l_pass T (wanted_no rfl rfl (T.ev 2 rfl) (decide_eq_false h1)) rfl rfl rfl ?_; clear T ac; intro ac T
      refine l_pass T (wanted_no rfl rfl (T.ev 3 rfl) (decide_eq_false h1)) rfl rfl rfl ?_; clear T ac; intro ac T
      refine l_pass T (wanted_no rfl rfl (T.ev 4 rfl) (decide_eq_false h1)) rfl rfl rfl ?_; clear T ac; intro ac T
      refine l_q T rfl rfl rfl rfl (rn_pick0 rfl (T.ev 5 rfl) (decide_eq_false h1) evc) ?_; clear T ac; intro ac T
      refine l_q T rfl rfl rfl rfl (rn_assign rfl (T.ev 0 rfl)) ?_; clear T ac; intro ac T
      refine wpList_nil ?_
      replace T := T.pick [0] rfl
      replace M := M.mask [false, false] rfl
      exact ⟨(T.pick (E' := [(4, .bool false)]) [0] rfl).as (by (try rw [show (decide (x0 ≤ y0)) = false from (decide_eq_false h1)]); rfl), M.mask [] rfl⟩
  · clear T M
    rintro ac wc ⟨T, M⟩
    refine wp_ret ?_
    refine rt_1 T rfl (T.ev 0 rfl) ?_
    exact ⟨ret_bool (by unfold hasB; simp), M.below⟩

set_option maxRecDepth 100000 in
set_option maxHeartbeats 1000000 in
theorem Hear_any (j : Jb) (A : Option Addr) (c : Nat) (r : Int) (w : World) (hr : Rd w w.heap.size 2 A j.sh.length (rc j.sh)) (hn : j.sh.length ≤ 9223372036854775807) :
    Calls Try.prog 37 #[jobV j A c, .int .i64 r] w fun e w' => e = .returned (.tuple #[.agg #[.int .i64 ((hearT j r).1.1), .int .i64 ((hearT j r).1.2)], .int .i64 ((hearT j r).2)]) ∧ Below w.heap.size w w' := by
  obtain ⟨bJ, oJ, SJ⟩ := Sp.old hr
  refine px_enter noEx Try.func37 rfl 45 rfl [.agg #[.int .i64 j.p0, .int .i64 j.p1, .int .i64 j.t0, .int .i64 j.t1, .int .i64 j.r0, .int .i64 j.r1, .int .i64 j.u0, .int .i64 j.u1, .int .i64 j.d0, .int .i64 j.d1, .int .i64 j.a0, .int .i64 j.a1, .int .i64 j.b0, .int .i64 j.b1, .int .i64 j.le, .slice A j.sh.length c, .int .i64 j.wi, .int .i64 j.me], .int .i64 r] rfl rfl (Mem.init w _) ?_
  intro ac wc T M
  refine wp_seq ?_
  refine wp_region_lit ?_
  refine l_w rfl ?_; intro K hK
  refine ow_bx M T rfl rfl rfl rfl (T.ev 0 rfl) rfl ?_; clear M T; intro g1 wc ac M T
  refine sh_out hK _ _ ?_; clear hK K
  refine l_w rfl ?_; intro K hK
  refine ow_al M T rfl rfl rfl rfl ?_; clear M T; intro g2 wc ac M T
  refine sh_out hK _ _ ?_; clear hK K
  refine l_q T rfl rfl rfl rfl (rn_assign rfl evc) ?_; clear T ac; intro ac T
  refine wpList_nil ?_
  replace T := T.pick [1, 2, 4] rfl
  refine nm_then ?_
  refine wp_seq ?_
  refine wp_seq ?_
  refine wp_region_lit ?_
  refine l_q T rfl rfl rfl rfl (rn_rowO (Mem.nth M 1 rfl) rfl (T.ev 1 rfl) rfl) ?_; clear T ac; intro ac T
  refine l_w rfl ?_; intro K hK
  refine ow_call (first := []) (cap := []) T rfl rfl rfl rfl evf (.cons (T.ev 0 rfl) .nil) Try.func49 rfl rfl ?_
  refine Calls.mono (check_any j _ _ _ (SJ.rd M (List.nil_sublist _)) (by omega)) ?_
  clear T
  rintro e wc ⟨rfl, hb⟩
  intro ac T
  replace M := M.call hb; clear hb
  refine sh_out hK _ _ ?_; clear hK K
  refine l_q T rfl rfl rfl rfl (rn_assign rfl (T.ev 0 rfl)) ?_; clear T ac; intro ac T
  refine wpList_nil ?_
  replace T := T.pick [0, 3, 4, 5] rfl
  refine nm_then ?_
  refine wp_seq ?_
  refine wp_region_lit ?_
  refine l_q T rfl rfl rfl rfl (rn_move rfl (T.ev 0 rfl)) ?_; clear T ac; intro ac T
  refine l_q T rfl rfl rfl rfl (rn_neq rfl (T.ev 0 rfl) evc) ?_; clear T ac; intro ac T
  refine wpList_nil ?_
  replace T := T.pick [0, 2, 3, 4, 5] rfl
  refine nm_then ?_
  refine wp_ifn (T.ev 0 rfl) ?_ ?_
  · intro h1
    refine wp_seq ?_
    refine wp_region_lit ?_
    refine l_q (v := (.agg #[.int .i64 0, .int .i64 0])) T rfl rfl rfl rfl (rn_build rfl .nil (fun _ => by kernel_rfl)) ?_; clear T ac; intro ac T
    refine l_q T rfl rfl rfl rfl (rn_move rfl (T.ev 2 rfl)) ?_; clear T ac; intro ac T
    refine l_w rfl ?_; intro K hK
    refine ow_stO M T rfl rfl (T.ev 4 rfl) (T.ev 1 rfl) rfl .head rfl (by simp) rfl (by kernel_rfl) ?_; clear M T; intro wc ac M T
    refine sh_out hK _ _ ?_; clear hK K
    refine l_q T rfl rfl rfl rfl (rn_assign rfl (T.ev 0 rfl)) ?_; clear T ac; intro ac T
    refine wpList_nil ?_
    replace T := T.pick [0, 5] rfl
    replace M := M.mask [true, false] rfl
    refine nm_then ?_
    refine wp_ret ?_
    refine rt_then ?_
    refine rt_ct M T rfl (T.ev 1 rfl) (T.ev 0 rfl) (nthE_mem (i := 0) rfl) rfl ?_
    refine ⟨?_, M.below⟩
    unfold hearT
    (repeat' split) <;> first | rfl | omega | contradiction | (simp_all; done) | (simp_all; omega)
  · intro h1
    have hj := good_of h1
    have hp := hj.p
    have hme := hj.me
    refine wp_skip ?_
    refine nm_then ?_
    refine wp_seq ?_
    refine wp_seq ?_
    refine wp_region_lit ?_
    refine l_q T rfl rfl rfl rfl (rn_move rfl (T.ev 4 rfl)) ?_; clear T ac; intro ac T
    refine l_q (v := (.pointer (some ⟨g1, 0, none⟩))) T rfl rfl rfl rfl (rn_fieldAddr (off := 0) rfl (T.ev 4 rfl) (fun _ _ _ => by kernel_rfl)) ?_; clear T ac; intro ac T
    refine l_q (v := (.pointer (some ⟨g1, 0, none⟩))) T rfl rfl rfl rfl (rn_fieldAddr (off := 0) rfl (T.ev 0 rfl) (fun _ _ _ => by kernel_rfl)) ?_; clear T ac; intro ac T
    refine l_q (v := (.pointer (some ⟨g1, 0, none⟩))) T rfl rfl rfl rfl (rn_fieldAddr (off := 0) rfl (T.ev 0 rfl) (fun _ _ _ => by kernel_rfl)) ?_; clear T ac; intro ac T
    refine l_q T rfl rfl rfl rfl (rn_one (Mem.nth M 1 rfl) rfl (T.ev 0 rfl) rfl) ?_; clear T ac; intro ac T
    refine l_q (v := (.pointer (some ⟨g1, 17, none⟩))) T rfl rfl rfl rfl (rn_fieldAddr (off := 17) rfl (T.ev 8 rfl) (fun _ _ _ => by kernel_rfl)) ?_; clear T ac; intro ac T
    refine l_q T rfl rfl rfl rfl (rn_one (Mem.nth M 1 rfl) rfl (T.ev 0 rfl) rfl) ?_; clear T ac; intro ac T
    refine l_q T rfl rfl rfl rfl (rn_sub rfl (T.ev 2 rfl) (T.ev 0 rfl) (by omega)) ?_; clear T ac; intro ac T
    refine l_q (v := (.pointer (some ⟨g1, 0, none⟩))) T rfl rfl rfl rfl (rn_fieldAddr (off := 0) rfl (T.ev 11 rfl) (fun _ _ _ => by kernel_rfl)) ?_; clear T ac; intro ac T
    refine l_q (v := (.pointer (some ⟨g1, 0, none⟩))) T rfl rfl rfl rfl (rn_fieldAddr (off := 0) rfl (T.ev 0 rfl) (fun _ _ _ => by kernel_rfl)) ?_; clear T ac; intro ac T
    refine l_q (v := (.pointer (some ⟨g1, 1, none⟩))) T rfl rfl rfl rfl (rn_fieldAddr (off := 1) rfl (T.ev 0 rfl) (fun _ _ _ => by kernel_rfl)) ?_; clear T ac; intro ac T
    refine l_q T rfl rfl rfl rfl (rn_one (Mem.nth M 1 rfl) rfl (T.ev 0 rfl) rfl) ?_; clear T ac; intro ac T
    refine l_q (v := (.pointer (some ⟨g1, 17, none⟩))) T rfl rfl rfl rfl (rn_fieldAddr (off := 17) rfl (T.ev 15 rfl) (fun _ _ _ => by kernel_rfl)) ?_; clear T ac; intro ac T
    refine l_q T rfl rfl rfl rfl (rn_one (Mem.nth M 1 rfl) rfl (T.ev 0 rfl) rfl) ?_; clear T ac; intro ac T
    refine l_q T rfl rfl rfl rfl (rn_add rfl (T.ev 2 rfl) (T.ev 0 rfl) (by omega)) ?_; clear T ac; intro ac T
    refine l_w rfl ?_; intro K hK
    refine ow_call (first := []) (cap := []) T rfl rfl rfl rfl evf (.cons (T.ev 14 rfl) (.cons (T.ev 7 rfl) (.cons (T.ev 0 rfl) .nil))) Try.func85 rfl rfl ?_
    refine Calls.mono (within_any r (j.p0 - j.me) (j.p1 + j.me) _) ?_
    clear T
    rintro e wc ⟨rfl, rfl⟩
    intro ac T
    refine sh_out hK _ _ ?_; clear hK K
    refine l_q T rfl rfl rfl rfl (rn_not rfl (T.ev 0 rfl)) ?_; clear T ac; intro ac T
    refine wpList_nil ?_
    replace T := T.pick [0, 19, 20, 21] rfl
    refine nm_then ?_
    refine wp_cond_split (T.ev 0 rfl) ?_ ?_
    · intro h2
      (try have h2' := h2; try simp only [Bool.and_eq_true, Bool.or_eq_true, Bool.not_eq_true', Bool.and_eq_false_imp, Bool.or_eq_false_iff, decide_eq_true_eq, decide_eq_false_iff_not] at h2')
      refine wp_seq ?_
      refine wp_region_lit ?_
      refine l_q (v := (.agg #[.int .i64 0, .int .i64 0])) T rfl rfl rfl rfl (rn_build rfl .nil (fun _ => by kernel_rfl)) ?_; clear T ac; intro ac T
      refine l_w rfl ?_; intro K hK
      refine ow_stO M T rfl rfl (T.ev 2 rfl) (T.ev 0 rfl) rfl .head rfl (by simp) rfl (by kernel_rfl) ?_; clear M T; intro wc ac M T
      refine sh_out hK _ _ ?_; clear hK K
      refine l_q T rfl rfl rfl rfl (rn_assign rfl evc) ?_; clear T ac; intro ac T
      refine wpList_nil ?_
      replace T := T.pick [0, 3] rfl
      replace M := M.mask [true, false] rfl
      refine nm_then ?_
      refine wp_ret ?_
      refine rt_then ?_
      refine rt_ct M T rfl (T.ev 1 rfl) (T.ev 0 rfl) (nthE_mem (i := 0) rfl) rfl ?_
      refine ⟨?_, M.below⟩
      unfold hearT
      (repeat' split) <;> first | rfl | omega | contradiction | (simp_all; done) | (simp_all; omega)
    · intro h2
      (try have h2' := h2; try simp only [Bool.and_eq_true, Bool.or_eq_true, Bool.not_eq_true', Bool.and_eq_false_imp, Bool.or_eq_false_iff, decide_eq_true_eq, decide_eq_false_iff_not] at h2')
      have hw : j.p0 - j.me ≤ r ∧ r ≤ j.p1 + j.me := by simpa [withinB] using h2
      refine wp_skip ?_
      refine nm_then ?_
      refine wp_seq ?_
      refine wp_region_lit ?_
      refine l_q (v := (.pointer (some ⟨g1, 0, none⟩))) T rfl rfl rfl rfl (rn_fieldAddr (off := 0) rfl (T.ev 2 rfl) (fun _ _ _ => by kernel_rfl)) ?_; clear T ac; intro ac T
      refine l_q (v := (.pointer (some ⟨g1, 0, none⟩))) T rfl rfl rfl rfl (rn_fieldAddr (off := 0) rfl (T.ev 0 rfl) (fun _ _ _ => by kernel_rfl)) ?_; clear T ac; intro ac T
      refine l_q T rfl rfl rfl rfl (rn_rowO (Mem.nth M 1 rfl) rfl (T.ev 0 rfl) rfl) ?_; clear T ac; intro ac T
      refine l_q T rfl rfl rfl rfl (rn_move rfl (T.ev 6 rfl)) ?_; clear T ac; intro ac T
      refine l_q (v := (.pointer (some ⟨g1, 17, none⟩))) T rfl rfl rfl rfl (rn_fieldAddr (off := 17) rfl (T.ev 6 rfl) (fun _ _ _ => by kernel_rfl)) ?_; clear T ac; intro ac T
      refine l_q T rfl rfl rfl rfl (rn_one (Mem.nth M 1 rfl) rfl (T.ev 0 rfl) rfl) ?_; clear T ac; intro ac T
      refine l_q T rfl rfl rfl rfl (rn_sub rfl (T.ev 2 rfl) (T.ev 0 rfl) (by omega)) ?_; clear T ac; intro ac T
      refine l_q T rfl rfl rfl rfl (rn_move rfl (T.ev 10 rfl)) ?_; clear T ac; intro ac T
      refine l_q (v := (.pointer (some ⟨g1, 17, none⟩))) T rfl rfl rfl rfl (rn_fieldAddr (off := 17) rfl (T.ev 10 rfl) (fun _ _ _ => by kernel_rfl)) ?_; clear T ac; intro ac T
      refine l_q T rfl rfl rfl rfl (rn_one (Mem.nth M 1 rfl) rfl (T.ev 0 rfl) rfl) ?_; clear T ac; intro ac T
      refine l_q T rfl rfl rfl rfl (rn_add rfl (T.ev 2 rfl) (T.ev 0 rfl) (by omega)) ?_; clear T ac; intro ac T
      refine l_q (v := (.agg #[.int .i64 (r - j.me), .int .i64 (r + j.me)])) T rfl rfl rfl rfl (rn_build rfl (.cons (T.ev 4 rfl) (.cons (T.ev 0 rfl) .nil)) (fun _ => by kernel_rfl)) ?_; clear T ac; intro ac T
      refine l_w rfl ?_; intro K hK
      refine ow_bs (e := 23) [.int .i64 (r - j.me), .int .i64 (r + j.me)] M T rfl rfl rfl rfl (.cons (T.ev 0 rfl) .nil) (fun _ => by kernel_rfl) ?_; clear M T; intro g3 wc ac M T
      refine sh_out hK _ _ ?_; clear hK K
      refine l_w rfl ?_; intro K hK
      refine ow_call (first := []) (cap := []) T rfl rfl rfl rfl evf (.cons (T.ev 10 rfl) (.cons (T.ev 0 rfl) .nil)) Try.func86 rfl rfl ?_
      refine Calls.mono (meet_any j.p0 j.p1 _ _ _ [((r - j.me), (r + j.me))] _ (M.rdOwn (nthE_mem (i := 0) rfl) rfl rfl) (by omega)) ?_
      clear T
      rintro e wc ⟨rfl, hb⟩
      intro ac T
      replace M := M.call hb; clear hb
      refine sh_out hK _ _ ?_; clear hK K
      refine l_w rfl ?_; intro K hK
      refine ow_stO M T rfl rfl (T.ev 15 rfl) (T.ev 0 rfl) rfl (.tail .head) rfl (by simp) rfl (by kernel_rfl) ?_; clear M T; intro wc ac M T
      refine sh_out hK _ _ ?_; clear hK K
      refine l_q T rfl rfl rfl rfl (rn_assign rfl evc) ?_; clear T ac; intro ac T
      refine wpList_nil ?_
      replace T := T.pick [0, 16] rfl
      replace M := M.mask [false, true, false] rfl
      refine nm_then ?_
      refine wp_ret ?_
      refine rt_ct M T rfl (T.ev 1 rfl) (T.ev 0 rfl) (nthE_mem (i := 0) rfl) rfl ?_
      refine ⟨?_, M.below⟩
      unfold hearT
      (repeat' split) <;> first | rfl | omega | contradiction | (simp_all; done) | (simp_all; omega)

end Go.Proofs.Ythlpceoajhcliaa
end

section
/-
  reed: Shortest.
-/
namespace Go.Proofs.Ythlpceoajhcliaa
set_option linter.unusedSimpArgs false
set_option linter.unusedVariables false
open Go.RowKit

def plan (n r : Nat) : List Int := List.replicate (n - r) 1 ++ List.replicate r 2
theorem plan_length {n r : Nat} (h : r ≤ n) : (plan n r).length = n := by simp [plan]; omega
theorem plan_ok (n r : Nat) : ∀ k ∈ plan n r, okS k = true := by
  intro k hk
  rcases List.mem_append.1 hk with h | h
  · rw [(List.mem_replicate.1 h).2]; rfl
  · rw [(List.mem_replicate.1 h).2]; rfl
theorem plan_at {n r i : Nat} (hr : r ≤ n) (hi : i < n) : (plan n r)[i]? = some (if i < n - r then 1 else 2) := by
  unfold plan
  rw [List.getElem?_append]
  split
  · rename_i h; simp only [List.length_replicate] at h; rw [if_pos h]; simp [h]
  · rename_i h; simp only [List.length_replicate] at h; rw [if_neg h]; simp only [List.length_replicate, List.getElem?_replicate]; rw [if_pos (by omega)]
theorem plan_take {n r i : Nat} (hr : r ≤ n) (hi : i < n) (x : Int) (hx : x = if i < n - r then 1 else 2) : ic ((plan n r).take (i + 1)) = ic ((plan n r).take i) ++ [.int .i64 x] := by
  have hl : i < (plan n r).length := by rw [plan_length hr]; exact hi
  have h := plan_at hr hi
  rw [List.getElem?_eq_getElem hl] at h
  rw [List.take_succ_eq_append_getElem hl, ic_append, hx]
  injection h with h
  rw [h]
  rfl
def isFine (j : Jb) (l : List Int) : Bool := fineJ j (j.st.after l) == 1
/-- The first plan of n strokes that is fine, from r roots on (k: how many are left to look at). -/
def rootsFrom (j : Jb) (n : Nat) : Nat → Nat → Option (List Int)
  | 0, _ => none
  | k + 1, r => if isFine j (plan n r) then some (plan n r) else rootsFrom j n k (r + 1)
def plansFrom (j : Jb) : Nat → Nat → Option (List Int)
  | 0, _ => none
  | k + 1, n => match rootsFrom j n (n + 1) 0 with | some l => some l | none => plansFrom j k (n + 1)
theorem roots_hit {j : Jb} {n r : Nat} (hr : r < n + 1) (h : isFine j (plan n r) = true) : rootsFrom j n (n + 1 - r) r = some (plan n r) := by
  obtain ⟨k, hk⟩ : ∃ k, n + 1 - r = k + 1 := ⟨n - r, by omega⟩
  rw [hk, rootsFrom, if_pos h]
theorem roots_miss {j : Jb} {n r : Nat} (hr : r < n + 1) (h : isFine j (plan n r) = false) : rootsFrom j n (n + 1 - r) r = rootsFrom j n (n + 1 - (r + 1)) (r + 1) := by
  obtain ⟨k, hk⟩ : ∃ k, n + 1 - r = k + 1 := ⟨n - r, by omega⟩
  have hk2 : n + 1 - (r + 1) = k := by omega
  rw [hk, rootsFrom, if_neg (by rw [h]; simp), hk2]
theorem plans_hit {j : Jb} {n : Nat} {l : List Int} (hn : n < 7) (h : rootsFrom j n (n + 1) 0 = some l) : plansFrom j (7 - n) n = some l := by
  obtain ⟨k, hk⟩ : ∃ k, 7 - n = k + 1 := ⟨6 - n, by omega⟩
  rw [hk, plansFrom, h]
theorem plans_miss {j : Jb} {n : Nat} (hn : n < 7) (h : rootsFrom j n (n + 1) 0 = none) : plansFrom j (7 - n) n = plansFrom j (7 - (n + 1)) (n + 1) := by
  obtain ⟨k, hk⟩ : ∃ k, 7 - n = k + 1 := ⟨6 - n, by omega⟩
  have hk2 : 7 - (n + 1) = k := by omega
  rw [hk, plansFrom, h, hk2]
theorem roots_end {j : Jb} {n r : Nat} (hr : n + 1 ≤ r) : rootsFrom j n (n + 1 - r) r = none := by
  have : n + 1 - r = 0 := by omega
  rw [this]; rfl
theorem plans_end {j : Jb} {n : Nat} (hn : 7 ≤ n) : plansFrom j (7 - n) n = none := by
  have : 7 - n = 0 := by omega
  rw [this]; rfl
def shortL (j : Jb) : List Int := if checkJ j = 0 then (plansFrom j 7 0).getD [] else []
def shortE (j : Jb) : Int := if checkJ j = 0 then (if (plansFrom j 7 0).isSome then 0 else 11) else checkJ j

def ShortPost (l : List Int) (err : Int) (w : World) (e : Ending) (w' : World) : Prop :=
  ∃ (A : Option Addr) (c : Nat), e = .returned (.tuple #[.slice A l.length c, .int .i64 err]) ∧ Rd w' w'.heap.size 1 A l.length (ic l) ∧ Below w.heap.size w w'

theorem own_slice {w : World} {base e n : Nat} {v : Value} {xs : List Value} (h : w.ownsRow base e 1 v n xs) : ∃ A cap, v = .slice A n cap ∧ Rd w w.heap.size 1 A n xs := by
  rcases Nat.eq_zero_or_pos n with h0 | h0
  · subst h0
    have hx : xs = [] := by have := h.1; simpa using this
    subst hx
    rcases h.2 with ⟨rfl, _⟩ | ⟨g, cap, cur, rfl, _⟩
    · exact ⟨none, 0, rfl, Rd.empty⟩
    · exact ⟨_, _, rfl, Rd.empty⟩
  · obtain ⟨g, cap, rfl, _, _, _, hl, hr⟩ := own_form h h0
    exact ⟨_, _, rfl, ⟨h.1, fun _ => ⟨g, 0, rfl, hl, fun j u hu => hr j u hu⟩⟩⟩

theorem Try.infoInt : (Try.prog.info? 3).map (fun i => (i.zero, i.size, i.bytes)) = some (some (.int .i64 0), 1, 8) := by kernel_rfl

set_option maxRecDepth 100000 in
set_option maxHeartbeats 2000000 in
theorem Shortest_any (j : Jb) (A : Option Addr) (c : Nat) (w : World) (hr : Rd w w.heap.size 2 A j.sh.length (rc j.sh)) (hn : j.sh.length ≤ 9223372036854775807) :
    Calls Try.prog 19 #[jobV j A c] w (ShortPost (shortL j) (shortE j) w) := by
  have HR := Lib.hid hr
  clear hr
  have q0 := Bk.new w 30 #[.int .i64 j.p0, .int .i64 j.p1, .int .i64 j.t0, .int .i64 j.t1, .int .i64 j.r0, .int .i64 j.r1, .int .i64 j.u0, .int .i64 j.u1, .int .i64 j.d0, .int .i64 j.d1, .int .i64 j.a0, .int .i64 j.a1, .int .i64 j.b0, .int .i64 j.b1, .int .i64 j.le, .slice A j.sh.length c, .int .i64 j.wi, .int .i64 j.me]
  by_cases h0 : checkJ j = 0
  · have g := good_of h0
    have HO := Lib.hid g.ok
    have HU := Lib.hid g.st
    have HSL : Hid (shortL j = (plansFrom j 7 0).getD []) := by show _ = _; unfold shortL; rw [if_pos h0]
    have HSE : Hid (shortE j = if (plansFrom j 7 0).isSome then 0 else 11) := by show _ = _; unfold shortE; rw [if_pos h0]
    have H0 := Lib.hid h0
    clear g h0
    generalize shortL j = sl at *
    generalize shortE j = se at *
    obtain ⟨i0, hi, hz0, hz1, hz2⟩ := info_parts Try.infoInt
    have HI := Lib.hid hi
    have HZ0 := Lib.hid hz0
    have HZ1 := Lib.hid hz1
    have HZ2 := Lib.hid hz2
    clear hi hz0 hz1 hz2
    go_enter Try.func19, Try.ntmps19
    go_wp2_with (first
      | (refine wpList_load_blk (by rfl) 30 (.tmp 1) (by rfl) _ (by rfl) _ q0 _ Try.underlying30 (by rfl) (by kernel_rfl) ?_)
      | (go_at_call 49; ((with_reducible refine (check_any j _ _ _ ?_ ?_).mono ?_); (exact (HR.out.below (by (repeat' (first | (with_reducible exact Below.refl _ _) | (with_reducible refine Below.alloc ?_ ?_ _) | (with_reducible refine Below.setCell ?_ ?_ _) | (with_reducible refine Below.drew ?_) | ((with_reducible refine Below.trans ?_ (Below.mono (by assumption) ?_))) | go_size)))).more (by go_size)); (exact hn); rintro e w1 ⟨rfl, hb1⟩; have hz1 := hb1.size; (try simp only [World.size_alloc] at hz1); rw [H0.out]; have hbw1 : Below w.heap.size w w1 := (by (repeat' (first | (with_reducible exact Below.refl _ _) | (with_reducible refine Below.alloc ?_ ?_ _) | (with_reducible refine Below.setCell ?_ ?_ _) | (with_reducible refine Below.drew ?_) | ((with_reducible refine Below.trans ?_ (Below.mono (by assumption) ?_))) | go_size))); have q1 := q0.below hb1)))
    clear hb1 hz1
    go_loopw [14] (fun i wr => ∃ n : Nat, n ≤ 7 ∧ i = .int .i64 n ∧ Hid (plansFrom j 7 0 = plansFrom j (7 - n) n) ∧ Bk wr w.heap.size #[.int .i64 j.p0, .int .i64 j.p1, .int .i64 j.t0, .int .i64 j.t1, .int .i64 j.r0, .int .i64 j.r1, .int .i64 j.u0, .int .i64 j.u1, .int .i64 j.d0, .int .i64 j.d1, .int .i64 j.a0, .int .i64 j.a1, .int .i64 j.b0, .int .i64 j.b1, .int .i64 j.le, .slice A j.sh.length c, .int .i64 j.wi, .int .i64 j.me] ∧ Below w.heap.size w wr) (fun i _ => 7 - (intOf i).toNat)
    case atStart => exact ⟨0, by omega, rfl, rfl, q1, hbw1⟩
    case round =>
      clear q0 q1 hbw1
      obtain ⟨n, hn7, rfl, hp, q, hb⟩ := hrel
      obtain ⟨wo, rfl⟩ : ∃ wo : World, wo = wr := ⟨_, rfl⟩
      by_cases hlt : n < 7
      · have e7 : decide ((n : Int) < 7) = true := by simp; omega
        go_wp2
        go_loopw [19] (fun i wr => ∃ r : Nat, r ≤ n + 1 ∧ i = .int .i64 r ∧ Hid (rootsFrom j n (n + 1) 0 = rootsFrom j n (n + 1 - r) r) ∧ Bk wr w.heap.size #[.int .i64 j.p0, .int .i64 j.p1, .int .i64 j.t0, .int .i64 j.t1, .int .i64 j.r0, .int .i64 j.r1, .int .i64 j.u0, .int .i64 j.u1, .int .i64 j.d0, .int .i64 j.d1, .int .i64 j.a0, .int .i64 j.a1, .int .i64 j.b0, .int .i64 j.b1, .int .i64 j.le, .slice A j.sh.length c, .int .i64 j.wi, .int .i64 j.me] ∧ Below w.heap.size w wr) (fun i _ => n + 1 - (intOf i).toNat)
        case atStart => exact ⟨0, by omega, rfl, rfl, q, hb⟩
        case round =>
          clear q hb
          obtain ⟨r, hr1, rfl, hp2, q, hb⟩ := hrel
          obtain ⟨wp, rfl⟩ : ∃ wp : World, wp = wr := ⟨_, rfl⟩
          by_cases hlt2 : r < n + 1
          · have e8 : decide ((r : Int) < (n : Int) + 1) = true := by simp; omega
            go_wp2
            go_loopw [7, 23] (fun v i wr => ∃ k : Nat, k ≤ n ∧ i = .int .i64 k ∧ wr.ownsRow (w.heap.size + 1) 3 1 v k (ic ((plan n r).take k)) ∧ Bk wr w.heap.size #[.int .i64 j.p0, .int .i64 j.p1, .int .i64 j.t0, .int .i64 j.t1, .int .i64 j.r0, .int .i64 j.r1, .int .i64 j.u0, .int .i64 j.u1, .int .i64 j.d0, .int .i64 j.d1, .int .i64 j.a0, .int .i64 j.a1, .int .i64 j.b0, .int .i64 j.b1, .int .i64 j.le, .slice A j.sh.length c, .int .i64 j.wi, .int .i64 j.me] ∧ Below w.heap.size w wr) (fun _ i _ => n - (intOf i).toNat)
            case atStart => exact ⟨0, by omega, rfl, ⟨rfl, .inl ⟨rfl, rfl⟩⟩, q, hb⟩
            case round =>
              clear q hb
              obtain ⟨k, hk, rfl, own, q, hb⟩ := hrel
              have hz := q.lt
              by_cases hlt3 : k < n
              · by_cases hlt4 : k < n - r
                · have e9 : decide ((k : Int) < (n : Int) - (r : Int)) = true := by simp; omega
                  go_wp2_with (at_builtin; (refine wpList_app1 (by rfl) (.tmp 31) (.tmp 32) 31 (by rfl) (w.heap.size + 1) 3 i0 _ 8 Try.underlying31 HI.out HZ0.out #[.int .i64 1] HZ1.out HZ2.out (by rfl) (by simp) _ _ _ (by rfl) (own.alloc _) _ _ (by rfl) (Bk.new _ _ _) (by simp [Value.oneCell']) (by omega) (by omega) (by simp; omega) ?_; intro g cap w5 p5 gr5 at5 lt5))
                  go_roundw
                  case rel => exact ⟨k + 1, by omega, by go_num, by rw [plan_take (by omega) hlt3 1 (by rw [if_pos hlt4])]; exact p5, (q.alloc _).grown gr5 (fun e => by have := (own.lt _ e.symm).1; omega), Below.grown (hb.alloc (by omega) _) gr5 (by simp; omega) (fun x hx => by have := (own.lt x hx).1; omega)⟩
                  case measure => simp [intOf]; omega
                · have e9 : decide ((k : Int) < (n : Int) - (r : Int)) = false := by simp; omega
                  go_wp2_with (at_builtin; (refine wpList_app1 (by rfl) (.tmp 34) (.tmp 35) 31 (by rfl) (w.heap.size + 1) 3 i0 _ 8 Try.underlying31 HI.out HZ0.out #[.int .i64 2] HZ1.out HZ2.out (by rfl) (by simp) _ _ _ (by rfl) (own.alloc _) _ _ (by rfl) (Bk.new _ _ _) (by simp [Value.oneCell']) (by omega) (by omega) (by simp; omega) ?_; intro g cap w5 p5 gr5 at5 lt5))
                  go_roundw
                  case rel => exact ⟨k + 1, by omega, by go_num, by rw [plan_take (by omega) hlt3 2 (by rw [if_neg hlt4])]; exact p5, (q.alloc _).grown gr5 (fun e => by have := (own.lt _ e.symm).1; omega), Below.grown (hb.alloc (by omega) _) gr5 (by simp; omega) (fun x hx => by have := (own.lt x hx).1; omega)⟩
                  case measure => simp [intOf]; omega
              · have ek : k = n := by omega
                subst ek
                rw [List.take_of_length_le (by rw [plan_length (by omega)]; exact Nat.le_refl _)] at own
                obtain ⟨L, cap, rfl, rd⟩ := own_slice own
                have RD := Lib.hid rd
                clear rd own
                generalize hfv : fineJ j (j.st.after (plan k r)) = fv at *
                have HFV := Lib.hid hfv
                clear hfv
                have hfe : (fv == 1) = true ∨ (fv == 1) = false := by cases (fv == 1) <;> simp
                have HF : Hid (isFine j (plan k r) = (fv == 1)) := by show _ = _; unfold isFine; rw [HFV.out]
                go_wp2
                refine wp_region_G (fun _ W => Bk W w.heap.size #[.int .i64 j.p0, .int .i64 j.p1, .int .i64 j.t0, .int .i64 j.t1, .int .i64 j.r0, .int .i64 j.r1, .int .i64 j.u0, .int .i64 j.u1, .int .i64 j.d0, .int .i64 j.d1, .int .i64 j.a0, .int .i64 j.a1, .int .i64 j.b0, .int .i64 j.b1, .int .i64 j.le, .slice A j.sh.length c, .int .i64 j.wi, .int .i64 j.me] ∧ Below wr.heap.size wr W ∧ Below w.heap.size w W) 6 (by kernel_rfl) (by kernel_rfl) ?s0 ?r0
                case s0 => (exact ⟨q.drew, (Below.refl _ _).drew, hb.drew⟩)
                intro W0
                refine wpG_take (i := 0) (v := ?v1) rfl (by kernel_rfl) (by exact fun _ _ => Iff.rfl) (fun _ _ _ h => h) (Or.inl ⟨by rfl, ?y1⟩) ?r1
                case y1 => (intro w' hy; obtain ⟨L, hD, hl, hS⟩ := hy; ((refine run_load_blk 30 (.tmp 1) ?_ _ ?_ _ hS.1 _ Try.underlying30 ?_ ?_) <;> first | rfl | kernel_rfl); (try with_reducible rfl))
                (try simp only [Act.put, List.getElem_toArray, List.getElem_cons_succ, List.getElem_cons_zero, List.setIfInBounds_toArray, List.set_cons_zero, List.set_cons_succ])
                refine wpG_take (i := 1) (v := ?v2) rfl (by kernel_rfl) (by exact fun _ _ => Iff.rfl) (fun _ _ _ h => h) (Or.inl ⟨by rfl, ?y2⟩) ?r2
                case y2 => (intro w' hy; obtain ⟨L, hD, hl, hS⟩ := hy; ((refine run_load_blk 30 (.tmp 1) ?_ _ ?_ _ hS.1 _ Try.underlying30 ?_ ?_) <;> first | rfl | kernel_rfl); (try with_reducible rfl))
                (try simp only [Act.put, List.getElem_toArray, List.getElem_cons_succ, List.getElem_cons_zero, List.setIfInBounds_toArray, List.set_cons_zero, List.set_cons_succ])
                refine wpG_take (i := 2) (v := ?v3) rfl (by kernel_rfl) (by exact fun _ _ => Iff.rfl) (fun _ _ _ h => h) (Or.inl ⟨by rfl, ?y3⟩) ?r3
                case y3 => (intro w' hy; obtain ⟨L, hD, hl, hS⟩ := hy; clear hD hl hS; go_simp; (try with_reducible rfl))
                (try simp only [Act.put, List.getElem_toArray, List.getElem_cons_succ, List.getElem_cons_zero, List.setIfInBounds_toArray, List.set_cons_zero, List.set_cons_succ])
                refine wpG_step (i := 3) (by kernel_rfl) rfl (by rfl) ?r4
                intro hS K hK
                (obtain ⟨h1, h2, hb3⟩ := hS; go_simp; refine (after_any j _ _ _ _ _ (plan k r) _ ((RD.out.below h2).more h2.size) (by omega) HU.out (plan_ok _ _)).mono ?_; rintro e V1 ⟨rfl, hb1⟩; refine hK.out _ _ ⟨h1.below hb1, bl_trans h2 hb1 h2.size, bl_trans hb3 hb1 hb3.size⟩ ?_; clear h1 h2 hb3 hb1)
                clear hK K; intro W4
                (try simp only [Act.put, List.getElem_toArray, List.getElem_cons_succ, List.getElem_cons_zero, List.setIfInBounds_toArray, List.set_cons_zero, List.set_cons_succ])
                refine wpG_step (i := 4) (by kernel_rfl) rfl (by rfl) ?r5
                intro hS K hK
                (obtain ⟨h1, h2, hb3⟩ := hS; go_simp; refine (fine_any j _ _ _ _ HO.out ((HR.out.below hb3).more hb3.size)).mono ?_; rintro e V2 ⟨rfl, hb1⟩; rw [HFV.out]; refine hK.out _ _ ⟨h1.below hb1, bl_trans h2 hb1 h2.size, bl_trans hb3 hb1 hb3.size⟩ ?_; clear h1 h2 hb3 hb1)
                clear hK K; intro W5
                (try simp only [Act.put, List.getElem_toArray, List.getElem_cons_succ, List.getElem_cons_zero, List.setIfInBounds_toArray, List.set_cons_zero, List.set_cons_succ])
                refine wpG_take (i := 5) (v := ?v6) rfl (by kernel_rfl) (by exact fun _ _ => Iff.rfl) (fun _ _ _ h => h) (Or.inl ⟨by rfl, ?y6⟩) ?r6
                case y6 => (intro w' hy; obtain ⟨L, hD, hl, hS⟩ := hy; clear hD hl hS; go_simp; (try with_reducible rfl))
                (try simp only [Act.put, List.getElem_toArray, List.getElem_cons_succ, List.getElem_cons_zero, List.setIfInBounds_toArray, List.set_cons_zero, List.set_cons_succ])
                refine wpG_end (by kernel_rfl) ?_
                intro W
                 hS
                obtain ⟨h1, h2, hb3⟩ := hS
                rcases hfe with hfe | hfe
                · have HFE := Lib.hid hfe
                  go_wp2
                  go_ret2
                  have e1 := roots_hit (by omega) (HF.out.trans HFE.out)
                  have e2 := plans_hit hlt (hp2.out.trans e1)
                  have e3 := hp.out.trans e2
                  have e4 : sl = plan k r := by rw [HSL.out, e3]; rfl
                  have e5 : se = 0 := by rw [HSE.out, e3]; rfl
                  subst e4 e5
                  have hl : (plan k r).length = k := plan_length (by omega)
                  unfold ShortPost
                  rw [hl]
                  exact ⟨L, cap, rfl, (RD.out.below h2).more h2.size, hb3⟩
                · have HFE := Lib.hid hfe
                  go_wp2
                  go_roundw
                  case rel => exact ⟨r + 1, by omega, by go_num, by (show _ = _; rw [hp2.out, roots_miss (by omega) (HF.out.trans HFE.out)]), h1, hb3⟩
                  case measure => simp [intOf]; omega
          · have e8 : decide ((r : Int) < (n : Int) + 1) = false := by simp; omega
            go_wp2
            go_roundw
            case rel => exact ⟨n + 1, by omega, by go_num, by (show _ = _; rw [hp.out, plans_miss hlt (hp2.out.trans (roots_end (by omega)))]), q, hb⟩
            case measure => simp [intOf]; omega
      · have e7 : decide ((n : Int) < 7) = false := by simp; omega
        go_wp2
        go_ret2
        have e3 : plansFrom j 7 0 = none := hp.out.trans (plans_end (by omega))
        have e4 : sl = [] := by rw [HSL.out, e3]; rfl
        have e5 : se = 11 := by rw [HSE.out, e3]; rfl
        subst e4 e5
        exact ⟨none, 0, rfl, Rd.empty, hb⟩
  · have h1 : (checkJ j != 0) = true := by simpa using h0
    have HSL : Hid (shortL j = []) := by show _ = _; unfold shortL; rw [if_neg h0]
    have HSE : Hid (shortE j = checkJ j) := by show _ = _; unfold shortE; rw [if_neg h0]
    clear h0
    generalize shortL j = sl at *
    generalize shortE j = se at *
    go_enter Try.func19, Try.ntmps19
    go_wp2_with (first
      | (refine wpList_load_blk (by rfl) 30 (.tmp 1) (by rfl) _ (by rfl) _ q0 _ Try.underlying30 (by rfl) (by kernel_rfl) ?_)
      | (go_at_call 49; ((with_reducible refine (check_any j _ _ _ ?_ ?_).mono ?_); (exact (HR.out.below (by (repeat' (first | (with_reducible exact Below.refl _ _) | (with_reducible refine Below.alloc ?_ ?_ _) | (with_reducible refine Below.setCell ?_ ?_ _) | (with_reducible refine Below.drew ?_) | ((with_reducible refine Below.trans ?_ (Below.mono (by assumption) ?_))) | go_size)))).more (by go_size)); (exact hn); rintro e w1 ⟨rfl, hb1⟩; have hz1 := hb1.size; (try simp only [World.size_alloc] at hz1); have hbw1 : Below w.heap.size w w1 := (by (repeat' (first | (with_reducible exact Below.refl _ _) | (with_reducible refine Below.alloc ?_ ?_ _) | (with_reducible refine Below.setCell ?_ ?_ _) | (with_reducible refine Below.drew ?_) | ((with_reducible refine Below.trans ?_ (Below.mono (by assumption) ?_))) | go_size))))))
    go_ret2
    rw [HSL.out, HSE.out]
    exact ⟨none, 0, rfl, Rd.empty, hbw1⟩

end Go.Proofs.Ythlpceoajhcliaa
end

section
/-
  reed: Shortest, whose list is the call's own.
-/
namespace Go.Proofs.Ythlpceoajhcliaa
set_option linter.unusedSimpArgs false
set_option linter.unusedVariables false
open Go.RowKit

theorem Sl.sp {w : World} {ex : Nat → Prop} {e size n c : Nat} {A : Option Addr} {xs : List Value} {I : List (Nat × BA)} (h : Sl e size (.slice A n c) n xs I) (hl : xs.length = n * size) : ∃ b o, Sp w ex I A n size b o xs := by
  rcases h with ⟨h1, rfl, rfl, rfl⟩ | ⟨g, cap, h1, rfl⟩
  · exact ⟨0, 0, Sp.nil⟩
  · injection h1 with h1 _ h2
    subst h1
    exact ⟨g, 0, Sp.row hl⟩
theorem Sn.sp {w : World} {ex : Nat → Prop} {e size n c : Nat} {A : Option Addr} {xs : List Value} {I : List (Nat × BA)} (h : Sn e size A n c xs I) (hl : xs.length = n * size) : ∃ b o, Sp w ex I A n size b o xs := by
  rcases h with ⟨rfl, rfl, rfl⟩ | ⟨g, rfl, rfl⟩
  · exact ⟨0, 0, Sp.nil⟩
  · exact ⟨g, 0, Sp.row hl⟩
theorem Sl.sn {e size n c : Nat} {A : Option Addr} {xs : List Value} {I : List (Nat × BA)} (h : Sl e size (.slice A n c) n xs I) : Sn e size A n c xs I := by
  rcases h with ⟨h1, rfl, rfl, rfl⟩ | ⟨g, cap, h1, rfl⟩
  · exact .inl ⟨rfl, rfl, rfl⟩
  · injection h1 with h1 _ h2
    subst h1
    subst h2
    exact .inr ⟨g, rfl, rfl⟩
def ShortPost2 (l : List Int) (err : Int) (w : World) (e : Ending) (w' : World) : Prop := ∃ A c I, e = .returned (.tuple #[.slice A l.length c, .int .i64 err]) ∧ Sn 3 1 A l.length c (ic l) I ∧ Mem w noEx w' I
theorem plan_pre {n r i : Nat} (hr : r ≤ n) (hi : n ≤ i) : (plan n r).take i = plan n r := List.take_of_length_le (by rw [plan_length hr]; omega)


set_option maxRecDepth 100000 in
set_option maxHeartbeats 1000000 in
theorem Shortest_own (j : Jb) (A : Option Addr) (c : Nat) (w : World) (hr : Rd w w.heap.size 2 A j.sh.length (rc j.sh)) (hn : j.sh.length ≤ 9223372036854775807) :
    Calls Try.prog 19 #[jobV j A c] w (ShortPost2 (shortL j) (shortE j) w) := by
  obtain ⟨bJ, oJ, SJ⟩ := Sp.old hr
  refine px_enter noEx Try.func19 rfl 47 rfl [.agg #[.int .i64 j.p0, .int .i64 j.p1, .int .i64 j.t0, .int .i64 j.t1, .int .i64 j.r0, .int .i64 j.r1, .int .i64 j.u0, .int .i64 j.u1, .int .i64 j.d0, .int .i64 j.d1, .int .i64 j.a0, .int .i64 j.a1, .int .i64 j.b0, .int .i64 j.b1, .int .i64 j.le, .slice A j.sh.length c, .int .i64 j.wi, .int .i64 j.me]] rfl rfl (Mem.init w _) ?_
  intro ac wc T M
  refine wp_seq ?_
  refine wp_region_lit ?_
  refine l_w rfl ?_; intro K hK
  refine ow_bx M T rfl rfl rfl rfl (T.ev 0 rfl) rfl ?_; clear M T; intro g1 wc ac M T
  refine sh_out hK _ _ ?_; clear hK K
  refine l_q T rfl rfl rfl rfl (rn_assign rfl evc) ?_; clear T ac; intro ac T
  refine l_q T rfl rfl rfl rfl (rn_assign rfl evc) ?_; clear T ac; intro ac T
  refine wpList_nil ?_
  replace T := T.pick [2] rfl
  refine nm_then ?_
  refine wp_seq ?_
  refine wp_seq ?_
  refine wp_region_lit ?_
  refine l_q T rfl rfl rfl rfl (rn_rowO (Mem.nth M 0 rfl) rfl (T.ev 0 rfl) rfl) ?_; clear T ac; intro ac T
  refine l_w rfl ?_; intro K hK
  refine ow_call (first := []) (cap := []) T rfl rfl rfl rfl evf (.cons (T.ev 0 rfl) .nil) Try.func49 rfl rfl ?_
  refine Calls.mono (check_any j _ _ _ (SJ.rd M (List.nil_sublist _)) (by omega)) ?_
  clear T
  rintro e wc ⟨rfl, hb⟩
  intro ac T
  replace M := M.call hb; clear hb
  refine sh_out hK _ _ ?_; clear hK K
  refine l_q T rfl rfl rfl rfl (rn_assign rfl (T.ev 0 rfl)) ?_; clear T ac; intro ac T
  refine wpList_nil ?_
  replace T := T.pick [0, 3] rfl
  refine nm_then ?_
  refine wp_seq ?_
  refine wp_region_lit ?_
  refine l_q T rfl rfl rfl rfl (rn_move rfl (T.ev 0 rfl)) ?_; clear T ac; intro ac T
  refine l_q T rfl rfl rfl rfl (rn_neq rfl (T.ev 0 rfl) evc) ?_; clear T ac; intro ac T
  refine wpList_nil ?_
  replace T := T.pick [0, 2, 3] rfl
  refine nm_then ?_
  refine wp_ifn (T.ev 0 rfl) ?_ ?_
  · intro h1
    refine wp_seq ?_
    refine wp_region_lit ?_
    refine l_q T rfl rfl rfl rfl (rn_move rfl (T.ev 1 rfl)) ?_; clear T ac; intro ac T
    refine l_q T rfl rfl rfl rfl (rn_assign rfl evc) ?_; clear T ac; intro ac T
    refine l_q T rfl rfl rfl rfl (rn_assign rfl (T.ev 1 rfl)) ?_; clear T ac; intro ac T
    refine wpList_nil ?_
    replace T := T.pick [0, 1] rfl
    replace M := M.mask [false] rfl
    refine nm_then ?_
    refine wp_ret ?_
    refine rt_then ?_
    refine rt_2 T rfl (T.ev 1 rfl) (T.ev 0 rfl) ?_
    have e1 : shortL j = [] := by unfold shortL; rw [if_neg h1]
    have e2 : shortE j = checkJ j := by unfold shortE; rw [if_neg h1]
    exact ⟨_, _, [], by rw [e1, e2]; rfl, by rw [e1]; exact .inl ⟨rfl, rfl, rfl⟩, M.mask [] rfl⟩
  · intro h1
    have hj := good_of h1
    have hst := hj.st
    refine wp_skip ?_
    refine nm_then ?_
    refine wp_seq ?_
    refine wp_seq ?_
    refine wp_region_lit ?_
    refine l_q T rfl rfl rfl rfl (rn_move rfl evc) ?_; clear T ac; intro ac T
    refine wpList_nil ?_
    replace T := T.pick [0, 3] rfl
    refine nm_then ?_
    refine wp_block ?_
    refine wp_loop_n (fun mz ac wc => ∃ (a : Nat), mz = 7 - a ∧ (a ≤ 7) ∧ (plansFrom j 7 0 = plansFrom j (7 - a) a) ∧ Tm ac 47 [(1, .pointer (some ⟨g1, 0, none⟩)), (14, .int .i64 (a : Int))] ∧ Mem w noEx wc [(g1, .cells (jobL j A c))]) ?_ ?_
    · exact ⟨_, 0, rfl, (by omega), rfl, T.pick [1, 0] rfl, M.mask [true] rfl⟩
    · clear T M
      rintro mz ac wc ⟨a, hmm1, ha, H, T, M⟩
      refine wp_seq ?_
      refine wp_region_lit ?_
      refine l_q T rfl rfl rfl rfl (rn_lss rfl (T.ev 1 rfl) evc) ?_; clear T ac; intro ac T
      refine wpList_nil ?_
      refine nm_then ?_
      refine wp_seq ?_
      refine wp_if (T.ev 0 rfl) ?_ ?_
      · intro h2
        refine wp_skip ?_
        refine nm_then ?_
        refine wp_seq ?_
        refine wp_block ?_
        refine wp_seq ?_
        refine wp_region_lit ?_
        refine l_q T rfl rfl rfl rfl (rn_move rfl (T.ev 2 rfl)) ?_; clear T ac; intro ac T
        refine l_q T rfl rfl rfl rfl (rn_assign rfl (T.ev 0 rfl)) ?_; clear T ac; intro ac T
        refine wpList_nil ?_
        replace T := T.pick [0, 3, 4] rfl
        refine nm_then ?_
        refine wp_seq ?_
        refine wp_region_lit ?_
        refine l_q T rfl rfl rfl rfl (rn_move rfl (T.ev 0 rfl)) ?_; clear T ac; intro ac T
        refine l_q T rfl rfl rfl rfl (rn_add rfl (T.ev 0 rfl) evc (by omega)) ?_; clear T ac; intro ac T
        refine l_q T rfl rfl rfl rfl (rn_move rfl evc) ?_; clear T ac; intro ac T
        refine wpList_nil ?_
        replace T := T.pick [0, 1, 3, 4, 5] rfl
        refine nm_then ?_
        refine wp_block ?_
        refine wp_loop_n (fun mz ac wc => ∃ (b : Nat), mz = a + 1 - b ∧ (b ≤ a + 1) ∧ (rootsFrom j a (a + 1) 0 = rootsFrom j a (a + 1 - b) b) ∧ Tm ac 47 [(1, .pointer (some ⟨g1, 0, none⟩)), (5, .int .i64 (a : Int)), (14, .int .i64 (a : Int)), (18, .int .i64 ((a : Int) + 1)), (19, .int .i64 (b : Int))] ∧ Mem w noEx wc [(g1, .cells (jobL j A c))]) ?_ ?_
        · exact ⟨_, 0, rfl, (by omega), rfl, T.pick [3, 2, 4, 1, 0] rfl, M.mask [true] rfl⟩
        · clear T M
          rintro mz ac wc ⟨b, hmm2, hb, H2, T, M⟩
          refine wp_seq ?_
          refine wp_region_lit ?_
          refine l_q T rfl rfl rfl rfl (rn_lss rfl (T.ev 4 rfl) (T.ev 3 rfl)) ?_; clear T ac; intro ac T
          refine wpList_nil ?_
          refine nm_then ?_
          refine wp_seq ?_
          refine wp_if (T.ev 0 rfl) ?_ ?_
          · intro h3
            refine wp_skip ?_
            refine nm_then ?_
            refine wp_seq ?_
            refine wp_block ?_
            refine wp_seq ?_
            refine wp_region_lit ?_
            refine l_q T rfl rfl rfl rfl (rn_move rfl (T.ev 5 rfl)) ?_; clear T ac; intro ac T
            refine l_q T rfl rfl rfl rfl (rn_assign rfl (T.ev 0 rfl)) ?_; clear T ac; intro ac T
            refine wpList_nil ?_
            replace T := T.pick [0, 3, 4, 5, 6, 7] rfl
            refine nm_then ?_
            refine wp_seq ?_
            refine wp_region_lit ?_
            refine l_q T rfl rfl rfl rfl (rn_assign rfl evc) ?_; clear T ac; intro ac T
            refine wpList_nil ?_
            refine nm_then ?_
            refine wp_seq ?_
            refine wp_seq ?_
            refine wp_region_lit ?_
            refine l_q T rfl rfl rfl rfl (rn_move rfl (T.ev 3 rfl)) ?_; clear T ac; intro ac T
            refine l_q T rfl rfl rfl rfl (rn_move rfl evc) ?_; clear T ac; intro ac T
            refine wpList_nil ?_
            refine nm_then ?_
            refine wp_block ?_
            refine wp_loop_n (fun mz ac wc => ∃ (k : Nat) (A7 : Option Addr) (c7 : Nat) (I : List (Nat × BA)), mz = a - k ∧ (k ≤ a) ∧ (Sl 3 1 (.slice A7 k c7) k (ic ((plan a b).take k)) I) ∧ Tm ac 47 [(1, .pointer (some ⟨g1, 0, none⟩)), (5, .int .i64 (a : Int)), (6, .int .i64 (b : Int)), (7, .slice A7 k c7), (14, .int .i64 (a : Int)), (18, .int .i64 ((a : Int) + 1)), (19, .int .i64 (b : Int)), (22, .int .i64 (a : Int)), (23, .int .i64 (k : Int))] ∧ Mem w noEx wc ((g1, .cells (jobL j A c)) :: I)) ?_ ?_
            · exact ⟨_, 0, none, 0, [], rfl, (by omega), (Sl.nil _ _), T.pick [4, 5, 3, 2, 6, 7, 8, 1, 0] rfl, M.mask [true] rfl⟩
            · clear T M
              rintro mz ac wc ⟨k, A7, c7, I, hmm3, hk, hsl, T, M⟩
              refine wp_seq ?_
              refine wp_region_lit ?_
              refine l_q T rfl rfl rfl rfl (rn_lss rfl (T.ev 8 rfl) (T.ev 7 rfl)) ?_; clear T ac; intro ac T
              refine wpList_nil ?_
              refine nm_then ?_
              refine wp_seq ?_
              refine wp_if (T.ev 0 rfl) ?_ ?_
              · intro h4
                refine wp_skip ?_
                refine nm_then ?_
                refine wp_seq ?_
                refine wp_block ?_
                refine wp_seq ?_
                refine wp_region_lit ?_
                refine l_q T rfl rfl rfl rfl (rn_move rfl (T.ev 9 rfl)) ?_; clear T ac; intro ac T
                refine l_q T rfl rfl rfl rfl (rn_assign rfl (T.ev 0 rfl)) ?_; clear T ac; intro ac T
                refine wpList_nil ?_
                replace T := T.pick [0, 3, 4, 5, 6, 7, 8, 9, 10, 11] rfl
                refine nm_then ?_
                refine wp_seq ?_
                refine wp_region_lit ?_
                refine l_q T rfl rfl rfl rfl (rn_move rfl (T.ev 0 rfl)) ?_; clear T ac; intro ac T
                refine l_q T rfl rfl rfl rfl (rn_move rfl (T.ev 3 rfl)) ?_; clear T ac; intro ac T
                refine l_q T rfl rfl rfl rfl (rn_move rfl (T.ev 5 rfl)) ?_; clear T ac; intro ac T
                refine l_q T rfl rfl rfl rfl (rn_sub rfl (T.ev 1 rfl) (T.ev 0 rfl) (by omega)) ?_; clear T ac; intro ac T
                refine l_q T rfl rfl rfl rfl (rn_lss rfl (T.ev 3 rfl) (T.ev 0 rfl)) ?_; clear T ac; intro ac T
                refine wpList_nil ?_
                replace T := T.pick [0, 6, 7, 8, 9, 10, 11, 12, 13, 14] rfl
                refine nm_then ?_
                refine wp_if (T.ev 0 rfl) ?_ ?_
                · intro h5
                  refine wp_region_lit ?_
                  refine l_q T rfl rfl rfl rfl (rn_move rfl (T.ev 4 rfl)) ?_; clear T ac; intro ac T
                  refine l_w rfl ?_; intro K hK
                  refine ow_bs (e := 3) [.int .i64 1] M T rfl rfl rfl rfl (.cons evc .nil) (fun _ => by kernel_rfl) ?_; clear M T; intro g2 wc ac M T
                  refine sh_out hK _ _ ?_; clear hK K
                  refine l_w rfl ?_; intro K hK
                  refine ow_app ([(g2, .cells [.int .i64 1]), (g1, .cells (jobL j A c))]) Try.info3 hsl M (by first | rfl | simp) T rfl rfl rfl rfl Try.underlying31 rfl rfl rfl (by omega) (T.ev 1 rfl) (T.ev 0 rfl) (nthE_mem (i := 0) rfl) rfl rfl ?_; clear M T; intro ga1 cga1 wc ac M T
                  refine sh_out hK _ _ ?_; clear hK K
                  refine l_q (v := (.slice (some ⟨ga1, 0, none⟩) (k + 1) cga1)) (T.pick [0, 1, 2, 3, 4, 5, 6, 8, 9, 10, 11, 12] rfl) rfl rfl rfl rfl (rn_assign rfl (T.ev 0 rfl)) ?_; clear T ac; intro ac T
                  refine wpList_nil ?_
                  replace T := T.pick [0, 5, 6, 7, 8, 9, 10, 11, 12] rfl
                  replace M := M.mask [true, false, true] rfl
                  refine nm_blk ?_
                  refine nm_then ?_
                  refine wp_region_lit ?_
                  refine l_q T rfl rfl rfl rfl (rn_add rfl (T.ev 8 rfl) evc (by omega)) ?_; clear T ac; intro ac T
                  refine l_q (v := (.int .i64 ((k : Int) + 1))) (T.pick [0, 1, 2, 3, 4, 5, 6, 7, 8] rfl) rfl rfl rfl rfl (rn_move rfl (T.ev 0 rfl)) ?_; clear T ac; intro ac T
                  refine wpList_nil ?_
                  replace T := T.pick [0, 2, 3, 4, 5, 6, 7, 8, 9] rfl
                  refine nm_then ?_
                  exact ⟨_, by omega, (k + 1), _, cga1, [(ga1, .row 3 1 (k + 1) ((ic ((plan a b).take k)) ++ [.int .i64 1]) cga1)], rfl, (by omega), (by rw [plan_take (by omega) (by omega) _ (by first | rw [if_pos (by omega)] | rw [if_neg (by omega)])]; exact Sl.row _ _ _ _ _ _), T.pick [2, 3, 4, 1, 5, 6, 7, 8, 0] rfl, M.perm [1, 0] rfl rfl⟩
                · intro h5
                  refine wp_region_lit ?_
                  refine l_q T rfl rfl rfl rfl (rn_move rfl (T.ev 4 rfl)) ?_; clear T ac; intro ac T
                  refine l_w rfl ?_; intro K hK
                  refine ow_bs (e := 3) [.int .i64 2] M T rfl rfl rfl rfl (.cons evc .nil) (fun _ => by kernel_rfl) ?_; clear M T; intro g3 wc ac M T
                  refine sh_out hK _ _ ?_; clear hK K
                  refine l_w rfl ?_; intro K hK
                  refine ow_app ([(g3, .cells [.int .i64 2]), (g1, .cells (jobL j A c))]) Try.info3 hsl M (by first | rfl | simp) T rfl rfl rfl rfl Try.underlying31 rfl rfl rfl (by omega) (T.ev 1 rfl) (T.ev 0 rfl) (nthE_mem (i := 0) rfl) rfl rfl ?_; clear M T; intro ga2 cga2 wc ac M T
                  refine sh_out hK _ _ ?_; clear hK K
                  refine l_q (v := (.slice (some ⟨ga2, 0, none⟩) (k + 1) cga2)) (T.pick [0, 1, 2, 3, 4, 5, 6, 8, 9, 10, 11, 12] rfl) rfl rfl rfl rfl (rn_assign rfl (T.ev 0 rfl)) ?_; clear T ac; intro ac T
                  refine wpList_nil ?_
                  replace T := T.pick [0, 5, 6, 7, 8, 9, 10, 11, 12] rfl
                  replace M := M.mask [true, false, true] rfl
                  refine nm_blk ?_
                  refine nm_then ?_
                  refine wp_region_lit ?_
                  refine l_q T rfl rfl rfl rfl (rn_add rfl (T.ev 8 rfl) evc (by omega)) ?_; clear T ac; intro ac T
                  refine l_q (v := (.int .i64 ((k : Int) + 1))) (T.pick [0, 1, 2, 3, 4, 5, 6, 7, 8] rfl) rfl rfl rfl rfl (rn_move rfl (T.ev 0 rfl)) ?_; clear T ac; intro ac T
                  refine wpList_nil ?_
                  replace T := T.pick [0, 2, 3, 4, 5, 6, 7, 8, 9] rfl
                  refine nm_then ?_
                  exact ⟨_, by omega, (k + 1), _, cga2, [(ga2, .row 3 1 (k + 1) ((ic ((plan a b).take k)) ++ [.int .i64 2]) cga2)], rfl, (by omega), (by rw [plan_take (by omega) (by omega) _ (by first | rw [if_pos (by omega)] | rw [if_neg (by omega)])]; exact Sl.row _ _ _ _ _ _), T.pick [2, 3, 4, 1, 5, 6, 7, 8, 0] rfl, M.perm [1, 0] rfl rfl⟩
              · intro h4
                obtain ⟨b7, o7, S7⟩ := hsl.sp (w := w) (ex := noEx) (by rw [ic_length, plan_pre (by omega) (by omega), plan_length (by omega)]; omega)
                have hok : ∀ x ∈ (plan a b).take k, okS x = true := fun x hx => plan_ok a b x (List.mem_of_mem_take hx)
                have hpp := plan_pre (n := a) (r := b) (i := k) (by omega) (by omega)
                refine wp_exit ?_
                refine ex_then ?_
                refine ex_then ?_
                refine ex_hit ?_
                refine nm_then ?_
                refine wp_seq ?_
                refine g_start2 M (M.mask [true] rfl) 6 (by kernel_rfl) rfl (by kernel_rfl) ?_
                clear M; intro wc M
                refine g_q (T := T) (i := 0) rfl (by kernel_rfl) (by kernel_rfl : (pbits 6 0).setIfInBounds 0 true = pbits 6 1) si_U (fun _ _ _ h => h) rfl rfl rfl rfl (fun B w' hD hl hS => (rn_rowO (Mem.nth (show Mem w noEx w' _ from hS) 0 rfl) rfl (T.ev 1 rfl) rfl)) ?_; clear T ac; intro ac T
                refine g_q (T := T) (i := 1) rfl (by kernel_rfl) (by kernel_rfl : (pbits 6 1).setIfInBounds 1 true = pbits 6 3) si_U (fun _ _ _ h => h) rfl rfl rfl rfl (fun B w' hD hl hS => (rn_rowO (Mem.nth (show Mem w noEx w' _ from hS) 0 rfl) rfl (T.ev 2 rfl) rfl)) ?_; clear T ac; intro ac T
                refine g_q (T := T) (i := 2) rfl (by kernel_rfl) (by kernel_rfl : (pbits 6 3).setIfInBounds 2 true = pbits 6 7) si_U (fun _ _ _ h => h) rfl rfl rfl rfl (fun _ _ _ _ _ => (rn_move rfl (T.ev 6 rfl))) ?_; clear T ac; intro ac T
                refine g_w (i := 3) (by kernel_rfl) rfl (by kernel_rfl : (pbits 6 7).setIfInBounds 3 true = pbits 6 15) rfl ?_; intro K hK
                refine ow_call (first := []) (cap := []) T rfl rfl rfl rfl evf (.cons (T.ev 1 rfl) (.cons (T.ev 0 rfl) .nil)) Try.func69 rfl rfl ?_
                refine Calls.mono (after_any j _ _ _ _ _ ((plan a b).take k) _ (S7.rd M (.cons _ (List.Sublist.refl _))) (by omega) hst hok) ?_
                clear T
                rintro e wc ⟨rfl, hb⟩
                intro ac T
                replace M := M.call hb; clear hb
                refine sh_out hK _ _ (M.mask [true] rfl) ?_; clear hK K
                refine g_w (i := 4) (by kernel_rfl) rfl (by kernel_rfl : (pbits 6 15).setIfInBounds 4 true = pbits 6 31) rfl ?_; intro K hK
                refine ow_call (first := []) (cap := []) T rfl rfl rfl rfl evf (.cons (T.ev 3 rfl) (.cons (T.ev 0 rfl) .nil)) Try.func68 rfl rfl ?_
                refine Calls.mono (fine_any j _ _ (j.st.after ((plan a b).take k)) _ hj.ok (SJ.rd M (List.nil_sublist _))) ?_
                clear T
                rintro e wc ⟨rfl, hb⟩
                intro ac T
                replace M := M.call hb; clear hb
                refine sh_out hK _ _ (M.mask [true] rfl) ?_; clear hK K
                refine g_q (T := T) (i := 5) rfl (by kernel_rfl) (by kernel_rfl : (pbits 6 31).setIfInBounds 5 true = pbits 6 63) si_U (fun _ _ _ h => h) rfl rfl rfl rfl (fun _ _ _ _ _ => (rn_eql rfl (T.ev 0 rfl) evc)) ?_; clear T ac; intro ac T
                refine g_done (by kernel_rfl) ?_
                replace T := T.pick [0, 7, 8, 10, 11, 12, 13] rfl
                refine nm_then ?_
                refine wp_if (T.ev 0 rfl) ?_ ?_
                · intro h6
                  refine wp_seq ?_
                  refine wp_region_lit ?_
                  refine l_q T rfl rfl rfl rfl (rn_move rfl (T.ev 3 rfl)) ?_; clear T ac; intro ac T
                  refine l_q T rfl rfl rfl rfl (rn_assign rfl (T.ev 0 rfl)) ?_; clear T ac; intro ac T
                  refine l_q T rfl rfl rfl rfl (rn_assign rfl evc) ?_; clear T ac; intro ac T
                  refine wpList_nil ?_
                  replace T := T.pick [0, 1] rfl
                  replace M := M.mask [false] rfl
                  refine nm_then ?_
                  refine wp_ret ?_
                  refine rt_blk ?_
                  refine rt_then ?_
                  refine rt_then ?_
                  refine rt_blk ?_
                  refine rt_blk ?_
                  refine rt_then ?_
                  refine rt_then ?_
                  refine rt_blk ?_
                  refine rt_then ?_
                  refine rt_2 T rfl (T.ev 1 rfl) (T.ev 0 rfl) ?_
                  have hf : isFine j (plan a b) = true := by unfold isFine; rw [← hpp, h6]; rfl
                  rw [roots_hit (by omega) hf] at H2
                  rw [plans_hit (by omega) H2] at H
                  have e1 : shortL j = plan a b := by unfold shortL; rw [if_pos h1, H]; rfl
                  have e2 : shortE j = 0 := by unfold shortE; rw [if_pos h1, H]; rfl
                  have hka : k = a := by omega
                  refine ⟨A7, c7, I, ?_, ?_, M.mask [] rfl⟩
                  · rw [e1, e2, plan_length (by omega), hka]
                  · rw [hpp, hka] at hsl
                    rw [e1, plan_length (by omega)]
                    exact hsl.sn
                · intro h6
                  refine wp_skip ?_
                  refine nm_blk ?_
                  refine nm_then ?_
                  refine wp_region_lit ?_
                  refine l_q T rfl rfl rfl rfl (rn_add rfl (T.ev 6 rfl) evc (by omega)) ?_; clear T ac; intro ac T
                  refine l_q (v := (.int .i64 ((b : Int) + 1))) (T.pick [0, 1, 2, 3, 4, 5, 6] rfl) rfl rfl rfl rfl (rn_move rfl (T.ev 0 rfl)) ?_; clear T ac; intro ac T
                  refine wpList_nil ?_
                  replace T := T.pick [0, 3, 4, 6, 7] rfl
                  refine nm_then ?_
                  have hf : isFine j (plan a b) = false := by unfold isFine; rw [← hpp]; simpa using h6
                  rw [roots_miss (by omega) hf] at H2
                  exact ⟨_, by omega, (b + 1), rfl, (by omega), H2, T.pick [1, 2, 3, 4, 0] rfl, M.perm [0] rfl rfl⟩
          · intro h3
            refine wp_exit ?_
            refine ex_then ?_
            refine ex_then ?_
            refine ex_hit ?_
            refine nm_blk ?_
            refine nm_then ?_
            refine wp_region_lit ?_
            refine l_q T rfl rfl rfl rfl (rn_add rfl (T.ev 3 rfl) evc (by omega)) ?_; clear T ac; intro ac T
            refine l_q (v := (.int .i64 ((a : Int) + 1))) (T.pick [0, 1, 2, 3, 5, 6] rfl) rfl rfl rfl rfl (rn_move rfl (T.ev 0 rfl)) ?_; clear T ac; intro ac T
            refine wpList_nil ?_
            replace T := T.pick [0, 3] rfl
            refine nm_then ?_
            rw [roots_end (by omega)] at H2
            rw [plans_miss (by omega) H2] at H
            exact ⟨_, by omega, (a + 1), rfl, (by omega), H, T.pick [1, 0] rfl, M.mask [true] rfl⟩
      · intro h2
        refine wp_exit ?_
        refine ex_then ?_
        refine ex_then ?_
        refine ex_hit ?_
        refine nm_then ?_
        refine wp_seq ?_
        refine wp_region_lit ?_
        refine l_q T rfl rfl rfl rfl (rn_assign rfl evc) ?_; clear T ac; intro ac T
        refine l_q T rfl rfl rfl rfl (rn_assign rfl evc) ?_; clear T ac; intro ac T
        refine wpList_nil ?_
        replace T := T.pick [0, 1] rfl
        replace M := M.mask [false] rfl
        refine nm_then ?_
        refine wp_ret ?_
        refine rt_2 T rfl (T.ev 1 rfl) (T.ev 0 rfl) ?_
        rw [plans_end (by omega)] at H
        have e1 : shortL j = [] := by unfold shortL; rw [if_pos h1, H]; rfl
        have e2 : shortE j = 11 := by unfold shortE; rw [if_pos h1, H]; rfl
        exact ⟨_, _, [], by rw [e1, e2]; rfl, by rw [e1]; exact .inl ⟨rfl, rfl, rfl⟩, M.mask [] rfl⟩

end Go.Proofs.Ythlpceoajhcliaa
end

section
/-
  A map that a call keeps to remember answers: whatever is read from it is right, and it stays so.
-/
namespace Go.Proofs.Ythlpceoajhcliaa
set_option linter.unusedSimpArgs false
set_option linter.unusedVariables false
open Go.RowKit
open Go.Maps (Keyed)

section
variable {P : Program} {k : TypeId} {ok : Value → Value → Prop} {w w' : World} {b : Nat}

/-- Block b is a map; each of its entries is right. -/
def Memo (P : Program) (k : TypeId) (ok : Value → Value → Prop) (w : World) (b : Nat) : Prop :=
  ∃ es clock, w.heap[b]? = some (.map es clock) ∧ ∀ e ∈ es.toList, (∃ l, keyOf P k e.key = some l) ∧ ok e.key e.val

def memoQ (P : Program) (k : TypeId) (ok : Value → Value → Prop) (o : Obj) : Prop := ∃ es clock, o = .map es clock ∧ ∀ e ∈ es.toList, (∃ l, keyOf P k e.key = some l) ∧ ok e.key e.val
theorem Memo.iff : Memo P k ok w b ↔ BA.holds w b (.any (memoQ P k ok)) := by
  constructor
  · rintro ⟨es, c, h1, h2⟩; exact ⟨_, h1, es, c, rfl, h2⟩
  · rintro ⟨o, h1, es, c, rfl, h2⟩; exact ⟨es, c, h1, h2⟩
theorem Memo.lt (h : Memo P k ok w b) : b < w.heap.size := by
  obtain ⟨es, c, hb, _⟩ := h
  exact (Array.getElem?_eq_some_iff.1 hb).1
theorem Memo.same (h : Memo P k ok w b) (hb : w'.heap[b]? = w.heap[b]?) : Memo P k ok w' b := by
  obtain ⟨es, c, h1, h2⟩ := h
  exact ⟨es, c, hb.trans h1, h2⟩
theorem Memo.below {B : Nat} (h : Memo P k ok w b) (hb : Below B w w') (hB : b < B) : Memo P k ok w' b := h.same (hb.block b hB)
theorem Memo.new (w : World) (P : Program) (k : TypeId) (ok : Value → Value → Prop) : Memo P k ok (w.alloc (.map #[] 0)) w.heap.size :=
  ⟨#[], 0, (MapKept.heap_alloc w _).1, fun e he => by simp at he⟩

theorem Memo.lookup (h : Memo P k ok w b) (K : Keyed P k) {t e : TypeId} (ht : P.underlying t = some (.map k e)) {z : Value} (hz : (zeroValue e).run P w = .ok z w) {key : Value} {kl : Lit} (hkey : keyOf P k key = some kl) :
    (∃ v, (Instr.lookup t (.map (some b)) key true).run P w = .ok (.tuple #[v, .bool true]) w ∧ ok key v) ∨ (Instr.lookup t (.map (some b)) key true).run P w = .ok (.tuple #[z, .bool false]) w := by
  obtain ⟨es, clock, hb, hes⟩ := h
  have hc := K.check w es.isEmpty hkey
  rcases K.find w hkey es.toList (fun e he => (hes e he).1) with ⟨hf, _⟩ | ⟨j, e0, hf, hj, rfl⟩
  · refine .inr ?_
    unfold Instr.lookup
    simp [run_underlying ht, MapKept.run_getObj_map hb, hc, hf, hz, Result.andThen]
  · refine .inl ⟨e0.val, ?_, (hes e0 (List.mem_of_getElem? hj)).2⟩
    unfold Instr.lookup
    simp [run_underlying ht, MapKept.run_getObj_map hb, hc, hf, Result.andThen]

theorem Memo.update (h : Memo P k ok w b) (K : Keyed P k) {t e : TypeId} (ht : P.underlying t = some (.map k e)) {key val : Value} {kl : Lit} (hkey : keyOf P k key = some kl) (hok : ok key val) :
    ∃ w', (Instr.mapUpdate t (.map (some b)) key val).run P w = .ok () w' ∧ Memo P k ok w' b ∧ w.grownBy w' (some b) := by
  obtain ⟨es, clock, hb, hes⟩ := h
  have hlt := (Array.getElem?_eq_some_iff.1 hb).1
  have hc := K.check w false hkey
  have fin : ∀ es' clock', (∀ e ∈ es'.toList, (∃ l, keyOf P k e.key = some l) ∧ ok e.key e.val) →
      Memo P k ok (ChangeMaps.setBlock w b (.map es' clock')) b ∧ w.grownBy (ChangeMaps.setBlock w b (.map es' clock')) (some b) := fun es' clock' he =>
    ⟨⟨es', clock', ChangeMaps.heap_setBlock_same hb _, he⟩, ⟨rfl, rfl, rfl, by simp [ChangeMaps.setBlock], fun i _ hi => ChangeMaps.heap_setBlock_other hb _ (fun e => hi (by rw [e]))⟩⟩
  rcases K.find w hkey es.toList (fun e he => (hes e he).1) with ⟨hf, _⟩ | ⟨j, e0, hf, hj, rfl⟩
  · refine ⟨ChangeMaps.setBlock w b (.map (es.push { key, val, born := clock }) (clock + 1)), ?_, fin _ _ (fun e he => ?_)⟩
    · unfold Instr.mapUpdate
      simp [run_underlying ht, MapKept.run_getObj_map hb, hc, hf, Result.andThen, MapKept.run_setObj_map _ hb, ChangeMaps.setBlock]
    · simp only [Array.toList_push, List.mem_append, List.mem_singleton] at he
      rcases he with he | rfl
      · exact hes e he
      · exact ⟨⟨_, hkey⟩, hok⟩
  · refine ⟨ChangeMaps.setBlock w b (.map (es.modify j fun e => { e with key := e0.key, val := val }) clock), ?_, fin _ _ (fun e he => ?_)⟩
    · unfold Instr.mapUpdate
      have hs := K.stays w hkey
      have hj' : es[j]? = some e0 := by simpa using hj
      simp [run_underlying ht, MapKept.run_getObj_map hb, hc, hf, Result.andThen, MapKept.run_setObj_map _ hb, ChangeMaps.setBlock, hj', hs]
    · obtain ⟨i, hi⟩ := List.getElem?_of_mem he
      rw [Array.getElem?_toList, Array.getElem?_modify] at hi
      split at hi
      · obtain ⟨e1, _, rfl⟩ := Option.map_eq_some_iff.1 hi
        exact ⟨⟨_, hkey⟩, hok⟩
      · exact hes e (by rw [← Array.getElem?_toList] at hi; exact List.mem_of_getElem? hi)

end

section
variable {P : Program} {ops : Array Oper} {rest : List Oper} {op : Oper} {a : Act} {Q : Exit → Act → World → Prop} {w0 w : World} {ex : Nat → Prop} {L L' : List (Nat × BA)} {k e t : TypeId} {ok : Value → Value → Prop}
theorem mm (ok : Value → Value → Prop) (ht : P.underlying t = some (.map k e)) (M : Mem w0 ex w L) (hgd : op.guard = none) (ho : op.op = .makeMap t none)
    (h : ∀ g w', Mem w0 ex w' ((g, .any (memoQ P k ok)) :: L) → wpList P ops Q rest (a.put op.dst (.map (some g))) w') : wpList P ops Q (op :: rest) a w :=
  wpList_plain hgd fun _ hK => by
    unfold Oper.wp execOp
    simp only [ho, Option.map_none, run_makeMap, Sem.run_bind, Result.andThen_ok, Sem.run_pure]
    exact hK _ _ (h _ _ (M.newAny _ _ ⟨#[], 0, rfl, fun e he => by simp at he⟩))
theorem lk {x y : Operand} {g : Nat} {key z : Value} {kl : Lit} (K : Keyed P k) (ht : P.underlying t = some (.map k e)) (hz : ∀ w, (zeroValue e).run P w = .ok z w) (M : Mem w0 ex w L) (hgd : op.guard = none) (ho : op.op = .lookup t x y true) (hx : a.eval x = .map (some g)) (hy : a.eval y = key) (hm : (g, BA.any (memoQ P k ok)) ∈ L)
    (hkey : keyOf P k key = some kl)
    (h1 : ∀ v, ok key v → wpList P ops Q rest (a.put op.dst (.tuple #[v, .bool true])) w) (h2 : wpList P ops Q rest (a.put op.dst (.tuple #[z, .bool false])) w) : wpList P ops Q (op :: rest) a w :=
  wpList_plain hgd fun _ hK => by
    have hM : Memo P k ok w g := Memo.iff.2 (M.at hm)
    unfold Oper.wp execOp
    rcases hM.lookup K ht (hz w) hkey with ⟨v, hr, hv⟩ | hr
    · simp only [ho, hx, hy, hr, Sem.run_bind, Result.andThen_ok, Sem.run_pure]
      exact hK _ _ (h1 v hv)
    · simp only [ho, hx, hy, hr, Sem.run_bind, Result.andThen_ok, Sem.run_pure]
      exact hK _ _ h2
theorem mu {x y z : Operand} {g : Nat} {key val : Value} {kl : Lit} (K : Keyed P k) (ht : P.underlying t = some (.map k e)) (M : Mem w0 ex w L) (hgd : op.guard = none) (ho : op.op = .mapUpdate t x y z) (hx : a.eval x = .map (some g)) (hy : a.eval y = key) (hz : a.eval z = val) (hu : Upd L g (.any (memoQ P k ok)) (.any (memoQ P k ok)) L')
    (hkey : keyOf P k key = some kl) (hok : ok key val) (h : ∀ w', Mem w0 ex w' L' → wpList P ops Q rest (a.put op.dst undef) w') : wpList P ops Q (op :: rest) a w :=
  wpList_plain hgd fun _ hK => by
    have hM : Memo P k ok w g := Memo.iff.2 (M.at hu.mem)
    obtain ⟨w', hr, hm', hg⟩ := hM.update K ht hkey hok
    unfold Oper.wp execOp
    simp only [ho, hx, hy, hz, hr, Sem.run_bind, Result.andThen_ok, Sem.run_pure]
    exact hK _ _ (h _ (M.callW hu hg (Memo.iff.1 hm')))
end

/-- What is known, as a value. -/
structure Kn where
  p0 : Int
  p1 : Int
  tips : Int
  roots : Int
  left : Int
abbrev knC (x : Kn) : Array Value := #[.int .i64 x.p0, .int .i64 x.p1, .int .i64 x.tips, .int .i64 x.roots, .int .i64 x.left]
abbrev knV (x : Kn) : Value := .agg (knC x)
theorem knV_inj {x y : Kn} (h : knV x = knV y) : x = y := by
  cases x; cases y
  simp at h
  simp [h]
structure Kn.ok (x : Kn) : Prop where
  p0 : -100000 ≤ x.p0 ∧ x.p0 ≤ 100000
  p1 : -100000 ≤ x.p1 ∧ x.p1 ≤ 100000
  tips : 0 ≤ x.tips ∧ x.tips ≤ 1000
  roots : 0 ≤ x.roots ∧ x.roots ≤ 1000
  left : 0 ≤ x.left ∧ x.left ≤ 1000

theorem wf64 {a : Int} (h : -100000 ≤ a ∧ a ≤ 100000) : (Lit.int .i64 a).wf = true := by
  have h1 := h.1
  have h2 := h.2
  simp [Lit.wf, IntKind.min, IntKind.max, IntKind.bits, IntKind.signed]
  omega
theorem kn_key_of {P : Program} {k r i : TypeId} {f0 f1 f2 f3 g0 g1 : Field} (hk : P.underlying k = some (.struct #[f0, f1, f2, f3])) (hr : P.underlying r = some (.struct #[g0, g1])) (hi : P.underlying i = some (.int .i64))
    (hkt : P.keyType k = true) (ck : P.cellsOf k = 5) (cr : P.cellsOf r = 2) (ci : P.cellsOf i = 1) (n : Nat) (hn : P.types.size = n + 1 + 1)
    (t0 : f0.type = r) (t1 : f1.type = i) (t2 : f2.type = i) (t3 : f3.type = i) (u0 : g0.type = i) (u1 : g1.type = i)
    (o0 : f0.offset = 0) (o1 : f1.offset = 2) (o2 : f2.offset = 3) (o3 : f3.offset = 4) (v0 : g0.offset = 0) (v1 : g1.offset = 1)
    (n0 : (f0.name != "_") = true) (n1 : (f1.name != "_") = true) (n2 : (f2.name != "_") = true) (n3 : (f3.name != "_") = true) (m0 : (g0.name != "_") = true) (m1 : (g1.name != "_") = true)
    (x : Kn) (h : x.ok) : ∃ l, keyOf P k (knV x) = some l := by
  unfold keyOf
  have h0 := wf64 h.p0
  have h1 := wf64 h.p1
  have h2 := wf64 (a := x.tips) (by have := h.tips; omega)
  have h3 := wf64 (a := x.roots) (by have := h.roots; omega)
  have h4 := wf64 (a := x.left) (by have := h.left; omega)
  simp only [bne_iff_ne, ne_eq] at n0 n1 n2 n3 m0 m1
  simp [hk, hkt, Value.formed, ck, hn, Program.keyLits, Value.cells, hr, hi, cr, ci, h0, h1, h2, h3, h4, t0, t1, t2, t3, u0, u1, o0, o1, o2, o3, v0, v1, n0, n1, n2, n3, m0, m1]
  rw [if_pos (by intro i hi; match i, hi with | 0, _ => exact m0 | 1, _ => exact m1)]
  simp

theorem Try.laidOut : laidOutB Try.prog = true := by kernel_rfl
theorem Try.rowKn : (103 : TypeId) < Try.prog.types.size := of_decide_eq_true (by kernel_rfl)
theorem Try.wideKn : (match Try.prog.underlying 103 with | some (.array _ _) | some (.struct _) => true | _ => false) = true := by rw [Try.underlying103]
theorem Try.atKn : Try.prog.keyTypeAt 4 103 = true := by kernel_rfl
set_option maxRecDepth 100000 in
theorem Try.keyed : Keyed Try.prog 103 := by
  refine Keyed.of_law (deep_law_laid Try.laidOut (m := 4) ?_ ?_ Try.atKn ?_)
  · omega
  · exact Try.rowKn
  · exact Try.wideKn
theorem Try.zeroBool (w : World) : (zeroValue 4).run Try.prog w = .ok (.bool false) w := by kernel_rfl
theorem Try.keyTypeKn : Try.prog.keyType 103 = true := by kernel_rfl
theorem Try.cellsKn : Try.prog.cellsOf 103 = 5 := by kernel_rfl
theorem Try.cellsRg : Try.prog.cellsOf 23 = 2 := by kernel_rfl
theorem Try.cellsInt : Try.prog.cellsOf 3 = 1 := by kernel_rfl
theorem Try.typesLe : (2 : Nat) ≤ Try.prog.types.size := of_decide_eq_true (by kernel_rfl)
theorem Try.typesSome : Try.prog.types.size = (Try.prog.types.size - 2) + 1 + 1 := by have := Try.typesLe; omega
theorem Try.kn_key (x : Kn) (h : x.ok) : ∃ l, keyOf Try.prog 103 (knV x) = some l :=
  kn_key_of Try.underlying103 Try.underlying23 Try.underlying3 Try.keyTypeKn Try.cellsKn Try.cellsRg Try.cellsInt _ Try.typesSome rfl rfl rfl rfl rfl rfl rfl rfl rfl rfl rfl rfl (by decide) (by decide) (by decide) (by decide) (by decide) (by decide) x h

end Go.Proofs.Ythlpceoajhcliaa
end

section
/-
  reed: a game begins.
-/
namespace Go.Proofs.Ythlpceoajhcliaa
set_option linter.unusedSimpArgs false
set_option linter.unusedVariables false
open Go.RowKit

abbrev gmA (j : Jb) (A : Option Addr) (c : Nat) (s0 s1 : Int) (bg bx : Nat) : List Value := [.int .i64 j.p0, .int .i64 j.p1, .int .i64 j.t0, .int .i64 j.t1, .int .i64 j.r0, .int .i64 j.r1, .int .i64 j.u0, .int .i64 j.u1, .int .i64 j.d0, .int .i64 j.d1, .int .i64 j.a0, .int .i64 j.a1, .int .i64 j.b0, .int .i64 j.b1, .int .i64 j.le, .slice A j.sh.length c, .int .i64 j.wi, .int .i64 j.me, .int .i64 s0, .int .i64 s1, .func (.func 105) #[] #[.pointer (some ⟨bg, 0, none⟩), .pointer (some ⟨bx, 0, none⟩)]]

def PlayPost (j : Jb) (A : Option Addr) (c : Nat) (s0 s1 : Int) (ok : Value → Value → Prop) (w : World) (e : Ending) (w' : World) : Prop :=
  ∃ bg bx bm, e = .returned (.agg (gmA j A c s0 s1 bg bx).toArray) ∧ Mem w noEx w' [(bx, .cells [.map (some bm)]), (bm, .any (memoQ Try.prog 103 ok)), (bg, .cells (gmA j A c s0 s1 bg bx))]

set_option maxRecDepth 100000 in
set_option maxHeartbeats 1000000 in
theorem play_any (ok : Value → Value → Prop) (j : Jb) (A : Option Addr) (c : Nat) (w : World) (hj : j.ok) (hr : Rd w w.heap.size 2 A j.sh.length (rc j.sh)) :
    Calls Try.prog 72 #[jobV j A c] w (PlayPost j A c (winS j).1 (winS j).2 ok w) := by
  have HR := Lib.hid hr
  have HJ := Lib.hid hj
  clear hr hj
  go_enter Try.func72, Try.ntmps72
  refine start noEx ?_
  intro wc M
  go_wp2_with (first | (refine m_ld1 M rfl rfl rfl (by (repeat' (first | exact List.mem_cons_self | refine List.mem_cons_of_mem _ ?_))) (by rfl) ?_) | (refine m_ldr M rfl rfl rfl (by (repeat' (first | exact List.mem_cons_self | refine List.mem_cons_of_mem _ ?_))) (by (try simp only [List.take_succ_cons, List.take_zero, List.take_nil, List.drop_succ_cons, List.drop_zero, List.drop_nil, List.cons_append, List.nil_append, List.append_nil, List.length_cons, List.length_nil, Nat.reduceAdd, Nat.zero_add, Nat.add_zero]); rfl) (by rfl) ?_) | (refine m_st M rfl rfl rfl (by first | exact (rfl : _ = Value.agg _) | exact (rfl : _ = Value.int _ _) | exact (rfl : _ = Value.bool _) | exact (rfl : _ = Value.slice _ _ _) | exact (rfl : _ = Value.pointer _) | exact (rfl : _ = Value.map _) | exact (rfl : _ = Value.func _ _ _) | exact (rfl : _ = Value.string _)) (by rfl) (by (repeat (first | exact Upd.head | apply Upd.tail))) (by (try simp only [List.take_succ_cons, List.take_zero, List.take_nil, List.drop_succ_cons, List.drop_zero, List.drop_nil, List.cons_append, List.nil_append, List.append_nil, List.length_cons, List.length_nil, Nat.reduceAdd, Nat.zero_add, Nat.add_zero]); rfl) (by simp) (by simp [Value.oneCell']) (by kernel_rfl) ?_; clear M; (try clear wc); intro wc M) | (refine m_al M rfl rfl ?_; clear M; (try clear wc); intro g wc M) | (refine m_bx M rfl rfl (by first | exact (rfl : _ = Value.agg _) | exact (rfl : _ = Value.int _ _) | exact (rfl : _ = Value.bool _) | exact (rfl : _ = Value.slice _ _ _) | exact (rfl : _ = Value.pointer _) | exact (rfl : _ = Value.map _) | exact (rfl : _ = Value.func _ _ _) | exact (rfl : _ = Value.string _)) (by rfl) ?_; clear M; (try clear wc); intro g wc M) | (go_at_call 84; ((with_reducible refine (windows_any j _ _ _ HJ.out ?_).mono ?_); (exact M.rd HR.out (Nat.le_refl _)); rintro e wc ⟨rfl, hb⟩; replace M := M.call hb; clear hb)) | (refine mm ok Try.underlying131 M rfl rfl ?_; clear M; (try clear wc); intro g wc M))
  refine ret_M (t := 2) (ty := 98) M rfl rfl rfl (by (repeat' (first | exact List.mem_cons_self | refine List.mem_cons_of_mem _ ?_))) (by rfl) ?_
  rename_i g5 g4 wq g3 g2 g1 g0
  exact ⟨g1, g, g0, rfl, M.sub (by (repeat (first | exact List.Sublist.slnil | apply List.Sublist.cons_cons | apply List.Sublist.cons)))⟩

end Go.Proofs.Ythlpceoajhcliaa
end

section
/-
  reed: what can be known when a meter has been read, one after the other.
-/
namespace Go.Proofs.Ythlpceoajhcliaa
set_option linter.unusedSimpArgs false
set_option linter.unusedVariables false
open Go.RowKit Go.Shelf
attribute [local go_sem] Oper.semAt_some

/-- A reading; all readings. -/
def rdg (p0 p1 m : Int) (k : Nat) : Int × Int := mstep (p0, p1) (p0 - m + k - m, p0 - m + k + m)
def rdN (p0 p1 m : Int) : Nat := (p1 + m - (p0 - m) + 1).toNat
def rdgs (p0 p1 m : Int) : List (Int × Int) := (List.range (rdN p0 p1 m)).map (rdg p0 p1 m)
theorem rdgs_length (p0 p1 m : Int) : (rdgs p0 p1 m).length = rdN p0 p1 m := by simp [rdgs]
theorem rdgs_take (p0 p1 m : Int) (k : Nat) (h : k < rdN p0 p1 m) : (rdgs p0 p1 m).take (k + 1) = (rdgs p0 p1 m).take k ++ [rdg p0 p1 m k] := by
  rw [List.take_succ_eq_append_getElem (by rw [rdgs_length]; exact h)]
  simp [rdgs]
theorem rdg_bd {p0 p1 m B : Int} {k : Nat} (h : k < rdN p0 p1 m) (h0 : -B ≤ p0 ∧ p0 ≤ B) (h1 : -B ≤ p1 ∧ p1 ≤ B) (hm : 0 ≤ m) : (-B ≤ (rdg p0 p1 m k).1 ∧ (rdg p0 p1 m k).1 ≤ B) ∧ (-B ≤ (rdg p0 p1 m k).2 ∧ (rdg p0 p1 m k).2 ≤ B) := by
  unfold rdN at h
  unfold rdg mstep
  refine ⟨?_, ?_⟩
  · dsimp only; split <;> omega
  · dsimp only; split <;> omega
abbrev Rg (B : Int) := { x : Int × Int // (-B ≤ x.1 ∧ x.1 ≤ B) ∧ (-B ≤ x.2 ∧ x.2 ≤ B) }

/-- What a round keeps: all blocks that were there, but for one. -/
def Kp (n0 bm : Nat) (W W' : World) : Prop := W.heap.size ≤ W'.heap.size ∧ ∀ b, b < n0 → b ≠ bm → W'.heap[b]? = W.heap[b]?
theorem Kp.t {n0 bm : Nat} {A B C : World} (h : Kp n0 bm A B) (k : Kp n0 bm B C) : Kp n0 bm A C := ⟨Nat.le_trans h.1 k.1, fun b hb hx => (k.2 b hb hx).trans (h.2 b hb hx)⟩
theorem Kp.bk {n0 bm g : Nat} {W W' : World} {cs : Array Value} (h : Kp n0 bm W W') (hB : Bk W g cs) (hg : g < n0) (hx : g ≠ bm) : Bk W' g cs :=
  ⟨Nat.lt_of_lt_of_le hB.lt h.1, fun o => (World.cell?_of_block (w := W) (a := ⟨g, o, none⟩) (h.2 g hg hx)).trans (hB.cell o), fun o => (World.frozen?_of_block (w := W) (a := ⟨g, o, none⟩) (h.2 g hg hx)).trans (hB.frozen o)⟩
theorem grown_of_below {w w' : World} (h : Below w.heap.size w w') : w.grownBy w' none := ⟨h.os, h.tape, h.output, h.size, fun k hk _ => h.block k hk⟩

theorem meet_one (p0 p1 m : Int) (k c g : Nat) (w : World) (hr : Rd w w.heap.size 2 (some ⟨g, 0, none⟩) 1 (rc [(p0 - m + (k : Int) - m, p0 - m + (k : Int) + m)])) :
    Calls Try.prog 86 #[R2 p0 p1, .slice (some ⟨g, 0, none⟩) 1 c] w fun e w' => e = .returned (R2 (rdg p0 p1 m k).1 (rdg p0 p1 m k).2) ∧ Below w.heap.size w w' :=
  meet_any p0 p1 _ 1 c [(p0 - m + (k : Int) - m, p0 - m + (k : Int) + m)] w hr (by omega)

set_option maxRecDepth 100000 in
set_option maxHeartbeats 1000000 in
theorem readings1_in (n : Nat) (hn : 2 ≤ n) (l b1 b2 n0 bm : Nat) (p0 p1 m B : Int) (hB0 : 0 ≤ B) (hB1 : B ≤ 100000) (h0 : -B ≤ p0 ∧ p0 ≤ B) (h1 : -B ≤ p1 ∧ p1 ≤ B) (hm0 : 0 ≤ m) (hm1 : m ≤ 100) (hb1 : b1 < n0) (hb2 : b2 < n0) (hx1 : b1 ≠ bm) (hx2 : b2 ≠ bm)
    (J Jx : List (Rg B) → World → Prop) (W : World) (hJ : AbidesFrom W.heap.size J)
    (hY : ∀ pre x W1, J pre W1 → pre.length < rdN p0 p1 m → YieldAt Fence.wide (n - 1) Try.prog l #[R2 x.1.1 x.1.2] W1 fun e W' =>
      (e = .returned (.bool true) ∧ J (pre ++ [x]) W' ∧ Kp n0 bm W1 W') ∨ (e = .returned (.bool false) ∧ Jx (pre ++ [x]) W'))
    (q1 : Bk W b1 #[.int .i64 p0, .int .i64 p1]) (q2 : Bk W b2 #[.int .i64 m]) (hJ0 : J [] W) :
    CallsIn Fence.wide n Try.prog 113 #[.func (.yield l) #[] #[], .pointer (some ⟨b1, 0, none⟩), .pointer (some ⟨b2, 0, none⟩)] W fun e W' => (∃ v, e = .returned v) ∧
      ((∃ xs : List (Rg B), xs.map (·.1) = rdgs p0 p1 m ∧ J xs W') ∨ (∃ pre : List (Rg B), pre.map (·.1) <+: rdgs p0 p1 m ∧ Jx pre W')) := by
  refine callsIn_of_wp Try.func113 rfl trivial ?_ rfl
  simp only [Try.ntmps113, List.size_toArray, List.length_cons, List.length_nil, Nat.reduceAdd, Nat.reduceSub, Array.replicate_succ, Array.replicate_zero, List.push_toArray, List.append_toArray, List.nil_append, List.cons_append]
  have c1 := q1.cell
  have c2 := q2.cell
  have hn1 : 1 ≤ n := by omega
  gi_wp2
  gi_loopw [4] (fun v wr => ∃ (k : Nat) (pre : List (Rg B)), k ≤ rdN p0 p1 m ∧ v = .int .i64 (p0 - m + (k : Int)) ∧ Hid (pre.map (·.1) = (rdgs p0 p1 m).take k) ∧ Bk wr b1 #[.int .i64 p0, .int .i64 p1] ∧ Bk wr b2 #[.int .i64 m] ∧ W.heap.size ≤ wr.heap.size ∧ J pre wr) (fun v _ => (p1 + m + 1 - intOf v).toNat)
  case atStart => exact ⟨0, [], Nat.zero_le _, by simp, by (show _ = _; simp), q1, q2, Nat.le_refl _, hJ0⟩
  case round =>
    clear c1 c2
    obtain ⟨k, pre, hk, rfl, hpre, r1, r2, hz, hj⟩ := hrel
    have c1 := r1.cell
    have c2 := r2.cell
    have z1 := r1.lt
    have z2 := r2.lt
    by_cases hlt : k < rdN p0 p1 m
    · have hle : p0 - m + (k : Int) ≤ p1 + m := by unfold rdN at hlt; omega
      have HX := Lib.hid (rdg_bd hlt h0 h1 hm0)
      have HT := Lib.hid (rdgs_take p0 p1 m k hlt)
      have hm2 := Lib.hid hlt
      clear hlt
      have hlen : pre.length < rdN p0 p1 m := by
        have h2 := congrArg List.length hpre.out
        rw [List.length_map, List.length_take, rdgs_length] at h2
        have h3 := hm2.out
        omega
      gi_wp2_with (first | (refine ⟨trivial, ?_⟩; gi_at_call 86; refine (callsIn_wide.2 (meet_one p0 p1 m k _ _ _ ?_)).mono ?_; (exact Rd.new _ _ _ _ _ _ rfl (by simp [rc])); rintro e w1 ⟨rfl, hb⟩; have r3 := (r1.alloc _).below hb; have r4 := (r2.alloc _).below hb; have hz3 : W.heap.size ≤ w1.heap.size := (by have := hb.size; simp at this; omega); have j3 := hJ _ _ _ none (hJ _ _ _ none hj (World.grownBy_alloc wr _ none) (fun r e => by cases e)) (grown_of_below hb) (fun r e => by cases e); clear hb; obtain ⟨fn, tmps, assign, body, hy, hR⟩ := hY pre ⟨rdg p0 p1 m k, HX.out⟩ w1 j3 hlen; dsimp only at hy))
      refine hR.mono ?_
      have HS : Hid ((pre ++ [(⟨rdg p0 p1 m k, HX.out⟩ : Rg B)]).map (·.1) = (rdgs p0 p1 m).take (k + 1)) := by (show _ = _; rw [List.map_append, hpre.out, HT.out]; rfl)
      rintro e W3 (⟨rfl, hJ3, hk3⟩ | ⟨rfl, hJx3⟩)
      · have r5 := hk3.bk r3 hb1 hx1
        have r6 := hk3.bk r4 hb2 hx2
        have hz5 : W.heap.size ≤ W3.heap.size := Nat.le_trans hz3 hk3.1
        clear hY hy hR
        gi_wp2
        go_roundw
        case rel => exact ⟨k + 1, _, hm2.out, by go_num, HS, r5, r6, hz5, hJ3⟩
        case measure => simp [intOf]; omega
      · clear hY hy hR
        gi_wp2
        refine bodyPost_ret (results_none rfl _ _ _) rfl ?_
        exact ⟨⟨_, rfl⟩, .inr ⟨_, by rw [HS.out]; exact List.take_prefix _ _, hJx3⟩⟩
    · have hle : ¬ p0 - m + (k : Int) ≤ p1 + m := by unfold rdN at hlt; omega
      gi_wp2
      go_end0
      exact ⟨⟨_, rfl⟩, .inl ⟨pre, by rw [hpre.out, List.take_of_length_le (by rw [rdgs_length]; omega)], hj⟩⟩

theorem readings_stops (n : Nat) (hn : 2 ≤ n) (b1 b2 n0 bm : Nat) (p0 p1 m B : Int) (hB0 : 0 ≤ B) (hB1 : B ≤ 100000) (h0 : -B ≤ p0 ∧ p0 ≤ B) (h1 : -B ≤ p1 ∧ p1 ≤ B) (hm0 : 0 ≤ m) (hm1 : m ≤ 100) (hb1 : b1 < n0) (hb2 : b2 < n0) (hx1 : b1 ≠ bm) (hx2 : b2 ≠ bm) (w : World)
    (q1 : Bk w b1 #[.int .i64 p0, .int .i64 p1]) (q2 : Bk w b2 #[.int .i64 m]) :
    SeqStopsK (α := Rg B) Fence.wide n Try.prog 113 #[.pointer (some ⟨b1, 0, none⟩), .pointer (some ⟨b2, 0, none⟩)] (fun x => #[R2 x.1.1 x.1.2]) (Kp n0 bm) (fun xs => xs.map (·.1) = rdgs p0 p1 m) (fun pre => pre.map (·.1) <+: rdgs p0 p1 m) (rdN p0 p1 m) w :=
  fun l J Jx W hW hJ _ hY hJ0 => readings1_in n hn l b1 b2 n0 bm p0 p1 m B hB0 hB1 h0 h1 hm0 hm1 hb1 hb2 hx1 hx2 J Jx W hJ hY (q1.below hW) (q2.below hW) hJ0

set_option maxHeartbeats 400000 in
theorem readings_any (p0 p1 m : Int) (w : World) :
    Calls Try.prog 107 #[R2 p0 p1, .int .i64 m] w fun e w' => ∃ b1 b2, e = .returned (.func (.func 113) #[] #[.pointer (some ⟨b1, 0, none⟩), .pointer (some ⟨b2, 0, none⟩)]) ∧ Mem w noEx w' [(b2, .cells [.int .i64 m]), (b1, .cells [.int .i64 p0, .int .i64 p1])] := by
  go_enter Try.func107, Try.ntmps107
  refine start noEx ?_
  intro wc M
  go_wp2_with (first | (refine m_ld1 M rfl rfl rfl (by (repeat' (first | exact List.mem_cons_self | refine List.mem_cons_of_mem _ ?_))) (by rfl) ?_) | (refine m_ldr M rfl rfl rfl (by (repeat' (first | exact List.mem_cons_self | refine List.mem_cons_of_mem _ ?_))) (by (try simp only [List.take_succ_cons, List.take_zero, List.take_nil, List.drop_succ_cons, List.drop_zero, List.drop_nil, List.cons_append, List.nil_append, List.append_nil, List.length_cons, List.length_nil, Nat.reduceAdd, Nat.zero_add, Nat.add_zero]); rfl) (by rfl) ?_) | (refine m_st M rfl rfl rfl (by first | exact (rfl : _ = Value.agg _) | exact (rfl : _ = Value.int _ _) | exact (rfl : _ = Value.bool _) | exact (rfl : _ = Value.slice _ _ _) | exact (rfl : _ = Value.pointer _) | exact (rfl : _ = Value.map _) | exact (rfl : _ = Value.func _ _ _) | exact (rfl : _ = Value.string _)) (by rfl) (by (repeat (first | exact Upd.head | apply Upd.tail))) (by (try simp only [List.take_succ_cons, List.take_zero, List.take_nil, List.drop_succ_cons, List.drop_zero, List.drop_nil, List.cons_append, List.nil_append, List.append_nil, List.length_cons, List.length_nil, Nat.reduceAdd, Nat.zero_add, Nat.add_zero]); rfl) (by simp) (by simp [Value.oneCell']) (by kernel_rfl) ?_; clear M; (try clear wc); intro wc M) | (refine m_al M rfl rfl ?_; clear M; (try clear wc); intro g wc M) | (refine m_bx M rfl rfl (by first | exact (rfl : _ = Value.agg _) | exact (rfl : _ = Value.int _ _) | exact (rfl : _ = Value.bool _) | exact (rfl : _ = Value.slice _ _ _) | exact (rfl : _ = Value.pointer _) | exact (rfl : _ = Value.map _) | exact (rfl : _ = Value.func _ _ _) | exact (rfl : _ = Value.string _)) (by rfl) ?_; clear M; (try clear wc); intro g wc M))
  go_ret
  exact ⟨_, _, rfl, M⟩

end Go.Proofs.Ythlpceoajhcliaa
end

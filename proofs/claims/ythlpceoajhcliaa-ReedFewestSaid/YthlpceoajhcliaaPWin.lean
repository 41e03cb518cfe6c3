/-
  Plain laws: windows, deviations, and verdicts.
-/
import Derived.Test.YthlpceoajhcliaaRTop
import Derived.Test.YthlpceoajhcliaaRWindow
namespace Go.Proofs.Ythlpceoajhcliaa
set_option linter.unusedSimpArgs false
set_option linter.unusedVariables false

theorem within_mk {n lo hi : Int} (h : lo ≤ n ∧ n ≤ hi) : withinB n lo hi = true := by unfold withinB; simpa using h
theorem chkR_mk {x0 x1 lo hi : Int} (h : lo ≤ x0 ∧ x0 ≤ x1 ∧ x1 ≤ hi) : chkR x0 x1 lo hi = 0 := by
  unfold chkR
  rw [if_pos ⟨within_mk (by omega), within_mk (by omega)⟩, if_neg (by omega)]
theorem chkAll_mk {lo hi : Int} : ∀ {l : List (Int × Int)}, (∀ p ∈ l, lo ≤ p.1 ∧ p.1 ≤ p.2 ∧ p.2 ≤ hi) → chkAll lo hi l = 0 := by
  intro l
  induction l with
  | nil => intro _; rfl
  | cons q r ih =>
    intro h
    have h0 := chkR_mk (h q (by simp))
    unfold chkAll
    rw [if_neg (by rw [h0]; simp)]
    exact ih fun p hp => h p (List.mem_cons_of_mem _ hp)
theorem check_of_good {j : Jb} (h : j.good) : checkJ j = 0 := by
  have e1 := chkR_mk h.p
  have e2 : chkAll 0 100 [(j.t0, j.t1), (j.r0, j.r1)] = 0 := chkAll_mk (by
    intro p hp
    simp only [List.mem_cons, List.not_mem_nil, or_false] at hp
    rcases hp with rfl | rfl
    · exact h.t
    · exact h.r)
  have e3 : chkAll 0 12 [(j.u0, j.u1), (j.d0, j.d1), (j.a0, j.a1), (j.b0, j.b1)] = 0 := chkAll_mk (by
    intro p hp
    simp only [List.mem_cons, List.not_mem_nil, or_false] at hp
    rcases hp with rfl | rfl | rfl | rfl
    · exact h.u
    · exact h.d
    · exact h.a
    · exact h.b)
  have e4 := within_mk h.le
  have e6 := chkAll_mk h.sh
  have e7 := within_mk h.wi
  have e8 := within_mk h.me
  have e5 := h.few
  unfold checkJ
  rw [if_neg (by rw [e1]; simp), if_neg (by rw [e2]; simp), if_neg (by rw [e3]; simp), if_neg (by rw [e4]; simp), if_neg (by omega), if_neg (by rw [e6]; simp), if_neg (by rw [e7, e8]; simp)]
theorem strokes_nil {j : Jb} (h : j.good) : checkStrokesJ j [] = 0 := by
  unfold checkStrokesJ
  rw [if_neg (by rw [check_of_good h]; simp)]
  rfl

theorem meet_lo (n : Int) : ∀ (l : List (Int × Int)) (f : Int × Int), (meetL f l).1 ≤ n ↔ f.1 ≤ n ∧ ∀ s ∈ l, s.1 ≤ n
  | [], f => by simp [meetL]
  | q :: r, f => by
    have h := meet_lo n r (mstep f q)
    have e : meetL f (q :: r) = meetL (mstep f q) r := rfl
    rw [e, h]
    simp only [mstep, List.mem_cons, forall_eq_or_imp]
    constructor
    · rintro ⟨h1, h2⟩
      split at h1
      · exact ⟨by omega, h1, h2⟩
      · exact ⟨h1, by omega, h2⟩
    · rintro ⟨h1, h2, h3⟩
      refine ⟨?_, h3⟩
      split <;> assumption
theorem meet_hi (n : Int) : ∀ (l : List (Int × Int)) (f : Int × Int), n ≤ (meetL f l).2 ↔ n ≤ f.2 ∧ ∀ s ∈ l, n ≤ s.2
  | [], f => by simp [meetL]
  | q :: r, f => by
    have h := meet_hi n r (mstep f q)
    have e : meetL f (q :: r) = meetL (mstep f q) r := rfl
    rw [e, h]
    simp only [mstep, List.mem_cons, forall_eq_or_imp]
    constructor
    · rintro ⟨h1, h2⟩
      split at h1
      · exact ⟨by omega, h1, h2⟩
      · exact ⟨h1, by omega, h2⟩
    · rintro ⟨h1, h2, h3⟩
      refine ⟨?_, h3⟩
      split <;> assumption
/-- The shifts under all conditions. -/
def shx (sh : List (Int × Int)) : List (Int × Int) := if sh = [] then [(0, 0)] else sh
theorem winS_lo (j : Jb) (n : Int) : (winS j).1 ≤ n ↔ ∀ s ∈ shx j.sh, -j.wi - s.1 ≤ n := by
  unfold winS strictL shx
  cases h : j.sh with
  | nil => simp [winOf]
  | cons q r =>
    simp only [List.map_cons, winOf, meet_lo, List.mem_map, forall_exists_index, and_imp, forall_apply_eq_imp_iff₂, reduceCtorEq, if_false, List.mem_cons, forall_eq_or_imp]
theorem winS_hi (j : Jb) (n : Int) : n ≤ (winS j).2 ↔ ∀ s ∈ shx j.sh, n ≤ j.wi - s.2 := by
  unfold winS strictL shx
  cases h : j.sh with
  | nil => simp [winOf]
  | cons q r =>
    simp only [List.map_cons, winOf, meet_hi, List.mem_map, forall_exists_index, and_imp, forall_apply_eq_imp_iff₂, reduceCtorEq, if_false, List.mem_cons, forall_eq_or_imp]
theorem wfold_le (p0 p1 wi : Int) : ∀ (l : List (Int × Int)) (out : Int), l.foldl (wstep p0 p1) out ≤ wi ↔ out ≤ wi ∧ ∀ s ∈ l, -(p0 + s.1) ≤ wi ∧ p1 + s.2 ≤ wi
  | [], out => by simp
  | q :: r, out => by
    rw [List.foldl_cons, wfold_le p0 p1 wi r]
    simp only [List.mem_cons, forall_eq_or_imp]
    have : wstep p0 p1 out q ≤ wi ↔ out ≤ wi ∧ -(p0 + q.1) ≤ wi ∧ p1 + q.2 ≤ wi := by
      unfold wstep
      (repeat' split) <;> omega
    rw [this]
    constructor
    · rintro ⟨⟨h1, h2⟩, h3⟩; exact ⟨h1, h2, h3⟩
    · rintro ⟨h1, h2, h3⟩; exact ⟨⟨h1, h2⟩, h3⟩
theorem worst_le (p0 p1 wi : Int) (hw : 0 ≤ wi) (sh : List (Int × Int)) : worstF p0 p1 sh ≤ wi ↔ ∀ s ∈ shx sh, -(p0 + s.1) ≤ wi ∧ p1 + s.2 ≤ wi := by
  show (shx sh).foldl (wstep p0 p1) 0 ≤ wi ↔ _
  rw [wfold_le]
  constructor
  · exact fun h => h.2
  · exact fun h => ⟨hw, h⟩
theorem has_iff (j : Jb) (n : Int) : hasB (winS j).1 (winS j).2 n n = decide (worstF n n j.sh ≤ j.wi) ∨ j.wi < 0 := by
  by_cases hw : 0 ≤ j.wi
  · refine .inl ?_
    unfold hasB
    rw [decide_eq_decide, worst_le n n j.wi hw, winS_lo, winS_hi]
    constructor
    · rintro ⟨h1, h2⟩ s hs
      have a := h1 s hs
      have b := h2 s hs
      omega
    · intro h
      exact ⟨fun s hs => by have := h s hs; omega, fun s hs => by have := h s hs; omega⟩
  · exact .inr (by omega)
theorem passes_1 (j : Jb) (p0 p1 : Int) : (passesJ j p0 p1 == 1) = hasB (winS j).1 (winS j).2 p0 p1 := by
  unfold passesJ
  cases hasB (winS j).1 (winS j).2 p0 p1
  · simp only [Bool.false_eq_true, if_false]
    split <;> rfl
  · rfl
theorem passes_13 (j : Jb) (p0 p1 : Int) : 1 ≤ passesJ j p0 p1 ∧ passesJ j p0 p1 ≤ 3 := by
  unfold passesJ
  (repeat' split) <;> omega

end Go.Proofs.Ythlpceoajhcliaa

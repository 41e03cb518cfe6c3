/-
  reed: jobs that are valid, in plain words.
-/
import Derived.Test.YthlpceoajhcliaaRFine
namespace Go.Proofs.Ythlpceoajhcliaa
set_option linter.unusedSimpArgs false
set_option linter.unusedVariables false
open Go.RowKit

theorem within_of {n lo hi : Int} (h : withinB n lo hi = true) : lo ≤ n ∧ n ≤ hi := by unfold withinB at h; simpa using h
theorem chkR_of {x0 x1 lo hi : Int} (h : chkR x0 x1 lo hi = 0) : lo ≤ x0 ∧ x0 ≤ x1 ∧ x1 ≤ hi := by
  unfold chkR at h
  split at h
  · rename_i h1
    have a := within_of h1.1
    have b := within_of h1.2
    split at h
    · omega
    · omega
  · omega
theorem chkAll_of {lo hi : Int} : ∀ {l : List (Int × Int)}, chkAll lo hi l = 0 → ∀ p ∈ l, lo ≤ p.1 ∧ p.1 ≤ p.2 ∧ p.2 ≤ hi := by
  intro l
  induction l with
  | nil => intro _ p hp; cases hp
  | cons q r ih =>
    intro h p hp
    unfold chkAll at h
    split at h
    · rename_i h1; rw [h] at h1; simp at h1
    · rename_i h1
      have h0 : chkR q.1 q.2 lo hi = 0 := by simpa using h1
      rcases List.mem_cons.1 hp with rfl | hp
      · exact chkR_of h0
      · exact ih h p hp

/-- A valid job. -/
structure Jb.good (j : Jb) : Prop where
  p : -60 ≤ j.p0 ∧ j.p0 ≤ j.p1 ∧ j.p1 ≤ 60
  t : 0 ≤ j.t0 ∧ j.t0 ≤ j.t1 ∧ j.t1 ≤ 100
  r : 0 ≤ j.r0 ∧ j.r0 ≤ j.r1 ∧ j.r1 ≤ 100
  u : 0 ≤ j.u0 ∧ j.u0 ≤ j.u1 ∧ j.u1 ≤ 12
  d : 0 ≤ j.d0 ∧ j.d0 ≤ j.d1 ∧ j.d1 ≤ 12
  a : 0 ≤ j.a0 ∧ j.a0 ≤ j.a1 ∧ j.a1 ≤ 12
  b : 0 ≤ j.b0 ∧ j.b0 ≤ j.b1 ∧ j.b1 ≤ 12
  le : 0 ≤ j.le ∧ j.le ≤ 100
  few : j.sh.length ≤ 4
  sh : ∀ p ∈ j.sh, -60 ≤ p.1 ∧ p.1 ≤ p.2 ∧ p.2 ≤ 60
  wi : 0 ≤ j.wi ∧ j.wi ≤ 60
  me : 0 ≤ j.me ∧ j.me ≤ 6
theorem bne_no {n : Int} (h : ¬ (n != 0) = true) : n = 0 := by simpa using h
theorem good_of {j : Jb} (h : checkJ j = 0) : j.good := by
  unfold checkJ at h
  split at h
  · rename_i h1; rw [h] at h1; simp at h1
  rename_i h1
  split at h
  · rename_i h2; rw [h] at h2; simp at h2
  rename_i h2
  split at h
  · rename_i h3; rw [h] at h3; simp at h3
  rename_i h3
  split at h
  · omega
  rename_i h4
  split at h
  · omega
  rename_i h5
  split at h
  · rename_i h6; rw [h] at h6; simp at h6
  rename_i h6
  split at h
  · omega
  rename_i h7
  have e1 := chkR_of (bne_no h1)
  have e2 := chkAll_of (bne_no h2)
  have e3 := chkAll_of (bne_no h3)
  have e6 := chkAll_of (bne_no h6)
  have e4 := within_of (by simpa using h4 : withinB j.le 0 100 = true)
  simp only [not_or, Bool.not_eq_true', Bool.not_eq_false] at h7
  have e7 := within_of h7.1
  have e8 := within_of h7.2
  exact ⟨e1, e2 (j.t0, j.t1) (by simp), e2 (j.r0, j.r1) (by simp), e3 (j.u0, j.u1) (by simp), e3 (j.d0, j.d1) (by simp), e3 (j.a0, j.a1) (by simp), e3 (j.b0, j.b1) (by simp), e4, by omega, e6, e7, e8⟩
theorem Jb.good.ok {j : Jb} (h : j.good) : j.ok := by
  have := h.wi
  exact ⟨by omega, fun p hp => by have := h.sh p hp; omega, h.few⟩
theorem Jb.good.st {j : Jb} (h : j.good) : j.st.upTo 1000 := by
  obtain ⟨h1, h2, h3, h4, h5, h6, h7, h8, h9, h10, h11, h12⟩ := h
  constructor <;> simp only [Jb.st] <;> omega
theorem chkS_of : ∀ {l : List Int}, chkS l = 0 → ∀ k ∈ l, okS k = true := by
  intro l
  induction l with
  | nil => intro _ k hk; cases hk
  | cons q r ih =>
    intro h k hk
    unfold chkS at h
    split at h
    · rename_i h1
      rcases List.mem_cons.1 hk with rfl | hk
      · exact h1
      · exact ih h k hk
    · omega

end Go.Proofs.Ythlpceoajhcliaa

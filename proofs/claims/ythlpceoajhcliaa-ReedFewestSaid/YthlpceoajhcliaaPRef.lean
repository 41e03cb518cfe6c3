/-
  Plain laws: what ref1 says is what the program computes.
-/
import Derived.Test.YthlpceoajhcliaaR1d
namespace Go.Proofs.Ythlpceoajhcliaa
set_option linter.unusedSimpArgs false
set_option linter.unusedVariables false

theorem winL_lo (j : Jb) (n : Int) : (winL j).1 ≤ n ↔ ∀ s ∈ shx j.sh, -j.wi - s.2 ≤ n := by
  unfold winL looseL shx
  cases h : j.sh with
  | nil => simp [winOf]
  | cons q r =>
    simp only [List.map_cons, winOf, meet_lo, List.mem_map, forall_exists_index, and_imp, forall_apply_eq_imp_iff₂, reduceCtorEq, if_false, List.mem_cons, forall_eq_or_imp]
theorem winL_hi (j : Jb) (n : Int) : n ≤ (winL j).2 ↔ ∀ s ∈ shx j.sh, n ≤ j.wi - s.1 := by
  unfold winL looseL shx
  cases h : j.sh with
  | nil => simp [winOf]
  | cons q r =>
    simp only [List.map_cons, winOf, meet_hi, List.mem_map, forall_exists_index, and_imp, forall_apply_eq_imp_iff₂, reduceCtorEq, if_false, List.mem_cons, forall_eq_or_imp]
theorem canAt_iff (j : Jb) (p : Int) : canAt j p = true ↔ (winL j).1 ≤ p ∧ p ≤ (winL j).2 := by
  rw [winL_lo, winL_hi]
  unfold canAt
  rw [List.all_eq_true]
  simp only [Bool.and_eq_true, decide_eq_true_eq]
  constructor
  · exact fun h => ⟨fun s hs => by have := h s hs; omega, fun s hs => by have := h s hs; omega⟩
  · exact fun h s hs => by have a := h.1 s hs; have b := h.2 s hs; omega
theorem anyN_iff (f : Int → Bool) : ∀ (n : Nat) (p : Int), anyN f n p = true ↔ ∃ q, p ≤ q ∧ q < p + n ∧ f q = true
  | 0, p => by simp [anyN]; intro x h1 h2; omega
  | n + 1, p => by
    rw [anyN, Bool.or_eq_true, anyN_iff f n (p + 1)]
    constructor
    · rintro (h | ⟨q, h1, h2, h3⟩)
      · exact ⟨p, by omega, by omega, h⟩
      · exact ⟨q, by omega, by omega, h3⟩
    · rintro ⟨q, h1, h2, h3⟩
      by_cases e : q = p
      · subst e; exact .inl h3
      · exact .inr ⟨q, by omega, by omega, h3⟩
theorem rpass_eq (j : Jb) {p0 p1 : Int} (h : p0 ≤ p1) : rpass j p0 p1 = passesJ j p0 p1 := by
  unfold rpass passesJ
  rw [rwin_eq]
  by_cases h1 : hasB (winS j).1 (winS j).2 p0 p1 = true
  · rw [if_pos h1, if_pos h1]
  · rw [if_neg h1, if_neg h1]
    have e : (meetL (winL j) [(p0, p1)]) = mstep (winL j) (p0, p1) := rfl
    rw [e]
    have hc : anyN (canAt j) (p1 + 1 - p0).toNat p0 = true ↔ ¬ (mstep (winL j) (p0, p1)).2 < (mstep (winL j) (p0, p1)).1 := by
      rw [anyN_iff]
      simp only [canAt_iff, mstep]
      constructor
      · rintro ⟨q, h2, h3, h4, h5⟩
        (repeat' split) <;> omega
      · intro h2
        refine ⟨if (winL j).1 < p0 then p0 else (winL j).1, ?_⟩
        revert h2
        (repeat' split) <;> intro h2 <;> refine ⟨?_, ?_, ?_, ?_⟩ <;> omega
    by_cases h2 : anyN (canAt j) (p1 + 1 - p0).toNat p0 = true
    · rw [if_pos h2, if_neg (hc.1 h2)]
    · rw [if_neg h2, if_pos (by by_cases h3 : (mstep (winL j) (p0, p1)).2 < (mstep (winL j) (p0, p1)).1; exact h3; exact absurd (hc.2 h3) h2)]
theorem rpassT_eq (j : Jb) : rpassT j = passesT j := by
  unfold rpassT passesT
  by_cases h : checkJ j = 0
  · rw [if_pos h, if_pos h, rpass_eq j (good_of h).p.2.1]
  · rw [if_neg h, if_neg h]
/-- What files leave in order. -/
structure St.ord (s : St) : Prop where
  p : s.p0 ≤ s.p1
  u : s.u0 ≤ s.u1
  d : s.d0 ≤ s.d1
theorem St.ord.filed {s : St} (h : s.ord) (k : Int) : (s.filed k).ord := by
  obtain ⟨h1, h2, h3⟩ := h
  unfold St.filed
  split
  · exact ⟨by simp only [St.tip]; omega, h2, h3⟩
  · exact ⟨by simp only [St.root]; omega, h2, h3⟩
theorem St.ord.after : ∀ (l : List Int) {s : St}, s.ord → (s.after l).ord
  | [], _, h => h
  | k :: l, _, h => St.ord.after l (h.filed k)
theorem good_ord {j : Jb} (h : j.good) : j.st.ord := ⟨h.p.2.1, h.u.2.1, h.d.2.1⟩
theorem rfineJ_eq {j : Jb} (h : j.good) (l : List Int) : rfineJ j l = fineJ j (j.st.after l) := by
  unfold rfineJ fineJ
  rw [rpass_eq j ((good_ord h).after l).p]
theorem rfineT_eq (j : Jb) (l : List Int) : rfineT j l = fineT j l := by
  unfold rfineT fineT
  by_cases h : checkStrokesJ j l = 0
  · rw [if_pos h, if_pos h, rfineJ_eq (good_of (strokes_of h).1)]
  · rw [if_neg h, if_neg h]
theorem rworst_eq (p0 p1 : Int) : ∀ (l : List (Int × Int)) (n : Int), rworstF p0 p1 l n = l.foldl (wstep p0 p1) n
  | [], n => rfl
  | s :: l, n => by
    have e : rworstF p0 p1 (s :: l) n = rworstF p0 p1 l (max (max n (p1 + s.2)) (-(p0 + s.1))) := rfl
    rw [e, rworst_eq p0 p1 l, List.foldl_cons]
    have : max (max n (p1 + s.2)) (-(p0 + s.1)) = wstep p0 p1 n s := by
      unfold wstep
      (repeat' split) <;> omega
    rw [this]
theorem rworstT_eq (j : Jb) (l : List Int) : rworstT j l = worstT j l := by
  unfold rworstT worstT
  by_cases h : checkStrokesJ j l = 0
  · rw [if_pos h, if_pos h, rworst_eq]; rfl
  · rw [if_neg h, if_neg h]

end Go.Proofs.Ythlpceoajhcliaa

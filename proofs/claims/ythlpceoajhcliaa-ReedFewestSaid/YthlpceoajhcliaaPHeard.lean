/-
  Plain laws: whoever reads a meter needs no more strokes than whoever does not.
-/
import Derived.Test.YthlpceoajhcliaaGGuided
import Derived.Test.YthlpceoajhcliaaRShort
import Derived.Test.YthlpceoajhcliaaPWin
namespace Go.Proofs.Ythlpceoajhcliaa
set_option linter.unusedSimpArgs false
set_option linter.unusedVariables false

/-- What a plan of k strokes at the tip and m at the root does. -/
theorem after_tips (s : St) : ∀ k : Nat, s.after (List.replicate k 1) = { s with p0 := s.p0 + k * s.u0, p1 := s.p1 + k * s.u1, t0 := s.t0 - k * s.a1, t1 := s.t1 - k * s.a0 } := by
  intro k
  induction k generalizing s with
  | zero => simp [St.after]
  | succ k ih =>
    rw [List.replicate_succ]
    show (s.filed 1).after (List.replicate k 1) = _
    rw [ih]
    simp only [St.filed, if_true, St.tip, St.mk.injEq, true_and, and_true]
    simp only [Int.natCast_succ, Int.add_mul, Int.one_mul]
    omega
theorem after_roots (s : St) : ∀ k : Nat, s.after (List.replicate k 2) = { s with p0 := s.p0 - k * s.d1, p1 := s.p1 - k * s.d0, r0 := s.r0 - k * s.b1, r1 := s.r1 - k * s.b0 } := by
  intro k
  induction k generalizing s with
  | zero => simp [St.after]
  | succ k ih =>
    rw [List.replicate_succ]
    show (s.filed 2).after (List.replicate k 2) = _
    rw [ih]
    simp only [St.filed, show ¬ ((2 : Int) = 1) from by decide, if_false, St.root, St.mk.injEq, true_and, and_true]
    simp only [Int.natCast_succ, Int.add_mul, Int.one_mul]
    omega
theorem after_plan (s : St) (n r : Nat) : s.after (plan n r) = { s with p0 := s.p0 + (n - r : Nat) * s.u0 - r * s.d1, p1 := s.p1 + (n - r : Nat) * s.u1 - r * s.d0, t0 := s.t0 - (n - r : Nat) * s.a1, t1 := s.t1 - (n - r : Nat) * s.a0, r0 := s.r0 - r * s.b1, r1 := s.r1 - r * s.b0 } := by
  unfold plan St.after
  rw [List.foldl_append]
  have h := after_tips s (n - r)
  unfold St.after at h
  rw [h]
  exact after_roots _ r

/-- Thick enough behind so many strokes. -/
def thick (j : Jb) (t r : Int) : Prop := j.le ≤ j.t0 - t * j.a1 ∧ j.le ≤ j.r0 - r * j.b1
theorem spoiled_2 (s : St) (ht : s.t0 ≤ s.t1) (hr : s.r0 ≤ s.r1) : s.spoiled = 2 ↔ s.le ≤ s.t0 ∧ s.le ≤ s.r0 := by
  unfold St.spoiled
  split
  · constructor
    · intro h; omega
    · intro h; omega
  · split
    · exact ⟨fun _ => by assumption, fun _ => rfl⟩
    · exact ⟨fun h => by omega, fun h => by contradiction⟩
theorem mul_le {a b x : Int} (hx : 0 ≤ x) (h : a ≤ b) : a * x ≤ b * x := Int.mul_le_mul_of_nonneg_right h hx
theorem mul_le' {a x y : Int} (ha : 0 ≤ a) (h : x ≤ y) : a * x ≤ a * y := Int.mul_le_mul_of_nonneg_left h ha
theorem okT_iff {j : Jb} (hj : j.good) {t r : Int} (ht : 0 ≤ t) (hr : 0 ≤ r) : okT j t r = true ↔ thick j t r := by
  unfold okT
  rw [beq_iff_eq]
  have h1 := mul_le' ht hj.a.2.1
  have h2 := mul_le' hr hj.b.2.1
  have h3 := hj.t
  have h4 := hj.r
  exact spoiled_2 (thinJ j 0 0 t r) (by simp only [thinJ]; omega) (by simp only [thinJ]; omega)
theorem fine_1 (j : Jb) (s : St) : (fineJ j s == 1) = (hasB (winS j).1 (winS j).2 s.p0 s.p1 && (s.spoiled == 2)) := by
  have h := passes_1 j s.p0 s.p1
  have h13 := passes_13 j s.p0 s.p1
  unfold fineJ
  rw [← h]
  generalize passesJ j s.p0 s.p1 = pv at *
  generalize s.spoiled = sv
  by_cases h1 : pv = 1 <;> by_cases h2 : sv = 2 <;> simp [h1, h2]
  · split <;> simp <;> omega
  · split <;> simp <;> omega
  · split <;> simp <;> omega
theorem isFine_iff {j : Jb} (hj : j.good) (n r : Nat) (hr : r ≤ n) : isFine j (plan n r) = true ↔
    hasB (winS j).1 (winS j).2 (j.p0 + (n - r : Nat) * j.u0 - r * j.d1) (j.p1 + (n - r : Nat) * j.u1 - r * j.d0) = true ∧ thick j (n - r : Nat) r := by
  unfold isFine
  rw [fine_1, after_plan]
  simp only [Bool.and_eq_true, beq_iff_eq]
  have h1 := mul_le' (Int.natCast_nonneg (n - r)) hj.a.2.1
  have h2 := mul_le' (Int.natCast_nonneg r) hj.b.2.1
  have h3 := hj.t
  have h4 := hj.r
  rw [spoiled_2 _ (by simp only [Jb.st]; omega) (by simp only [Jb.st]; omega)]
  rfl

theorem has_sub {a b c d e f : Int} (h : hasB a b c d = true) (h1 : c ≤ e) (h2 : f ≤ d) : hasB a b e f = true := by
  unfold hasB at *
  simp only [decide_eq_true_eq] at *
  omega
theorem rdg_sub (p0 p1 m : Int) (k : Nat) : p0 ≤ (rdg p0 p1 m k).1 ∧ (rdg p0 p1 m k).2 ≤ p1 := by
  unfold rdg mstep
  refine ⟨?_, ?_⟩
  · dsimp only; split <;> omega
  · dsimp only; split <;> omega
theorem mem_rdgs {p0 p1 m : Int} {x : Int × Int} (h : x ∈ rdgs p0 p1 m) : p0 ≤ x.1 ∧ x.2 ≤ p1 := by
  unfold rdgs at h
  obtain ⟨k, _, rfl⟩ := List.mem_map.1 h
  exact rdg_sub p0 p1 m k

/-- If k strokes at the tip and m at the root end well, whatever is read, a tuner at work can be sure to stop with as many. -/
theorem stops_plan {j : Jb} (hj : j.good) : ∀ (n k m : Nat), k + m = n → ∀ (p0 p1 t r x0 x1 : Int), 0 ≤ t → 0 ≤ r → p0 ≤ x0 → x1 ≤ p1 →
    hasB (winS j).1 (winS j).2 (p0 + k * j.u0 - m * j.d1) (p1 + k * j.u1 - m * j.d0) = true → thick j (t + k) (r + m) → stopsP j (winS j).1 (winS j).2 n x0 x1 t r = true := by
  intro n
  induction n with
  | zero =>
    intro k m hkm p0 p1 t r x0 x1 ht hr h0 h1 hw _
    obtain rfl : k = 0 := by omega
    obtain rfl : m = 0 := by omega
    simp only [stopsP]
    exact has_sub hw (by simpa using h0) (by simpa using h1)
  | succ n ih =>
    intro k m hkm p0 p1 t r x0 x1 ht hr h0 h1 hw hth
    have ha := hj.a
    have hb := hj.b
    unfold stopsP
    simp only [Bool.or_eq_true, Bool.and_eq_true, List.all_eq_true]
    refine .inr ?_
    rcases Nat.eq_zero_or_pos k with rfl | hk
    · obtain ⟨m, rfl⟩ : ∃ m', m = m' + 1 := ⟨m - 1, by omega⟩
      refine .inr ⟨(okT_iff hj ht (by omega)).2 ?_, fun x hx => ?_⟩
      · unfold thick at hth ⊢
        have e1 := mul_le (x := j.b1) (by omega) (show r + 1 ≤ r + ((m + 1 : Nat) : Int) from by omega)
        simp only [Int.natCast_zero, Int.add_zero] at hth
        omega
      · have hs := mem_rdgs hx
        refine ih 0 m (by omega) (p0 - j.d1) (p1 - j.d0) t (r + 1) x.1 x.2 ht (by omega) (by omega) (by omega) ?_ ?_
        · have e1 : p0 - j.d1 + ((0 : Nat) : Int) * j.u0 - (m : Int) * j.d1 = p0 + ((0 : Nat) : Int) * j.u0 - ((m + 1 : Nat) : Int) * j.d1 := by rw [Int.natCast_succ, Int.add_mul, Int.one_mul]; omega
          have e2 : p1 - j.d0 + ((0 : Nat) : Int) * j.u1 - (m : Int) * j.d0 = p1 + ((0 : Nat) : Int) * j.u1 - ((m + 1 : Nat) : Int) * j.d0 := by rw [Int.natCast_succ, Int.add_mul, Int.one_mul]; omega
          rw [e1, e2]; exact hw
        · have e3 : r + 1 + (m : Int) = r + ((m + 1 : Nat) : Int) := by omega
          rw [e3]; exact hth
    · obtain ⟨k, rfl⟩ : ∃ k', k = k' + 1 := ⟨k - 1, by omega⟩
      refine .inl ⟨(okT_iff hj (by omega) hr).2 ?_, fun x hx => ?_⟩
      · unfold thick at hth ⊢
        have e1 := mul_le (x := j.a1) (by omega) (show t + 1 ≤ t + ((k + 1 : Nat) : Int) from by omega)
        have e2 := mul_le (x := j.b1) (by omega) (show r ≤ r + (m : Int) from by omega)
        omega
      · have hs := mem_rdgs hx
        refine ih k m (by omega) (p0 + j.u0) (p1 + j.u1) (t + 1) r x.1 x.2 (by omega) hr (by omega) (by omega) ?_ ?_
        · have e1 : p0 + j.u0 + (k : Int) * j.u0 - (m : Int) * j.d1 = p0 + ((k + 1 : Nat) : Int) * j.u0 - (m : Int) * j.d1 := by rw [Int.natCast_succ, Int.add_mul, Int.one_mul]; omega
          have e2 : p1 + j.u1 + (k : Int) * j.u1 - (m : Int) * j.d0 = p1 + ((k + 1 : Nat) : Int) * j.u1 - (m : Int) * j.d0 := by rw [Int.natCast_succ, Int.add_mul, Int.one_mul]; omega
          rw [e1, e2]; exact hw
        · have e3 : t + 1 + (k : Int) = t + ((k + 1 : Nat) : Int) := by omega
          rw [e3]; exact hth

theorem roots_some {j : Jb} {n : Nat} {l : List Int} : ∀ (k r : Nat), rootsFrom j n k r = some l → ∃ r', r ≤ r' ∧ r' < r + k ∧ l = plan n r' ∧ isFine j (plan n r') = true
  | 0, _, h => by cases h
  | k + 1, r, h => by
    unfold rootsFrom at h
    split at h
    · rename_i hf
      injection h with h
      exact ⟨r, by omega, by omega, h.symm, hf⟩
    · obtain ⟨r', h1, h2, h3⟩ := roots_some k (r + 1) h
      exact ⟨r', by omega, by omega, h3⟩
theorem roots_none {j : Jb} {n : Nat} : ∀ (k r : Nat), rootsFrom j n k r = none → ∀ r', r ≤ r' → r' < r + k → isFine j (plan n r') = false
  | 0, _, _ => fun r' _ _ => by omega
  | k + 1, r, h => by
    intro r' h1 h2
    unfold rootsFrom at h
    split at h
    · cases h
    · rename_i hf
      by_cases e : r' = r
      · subst e; exact Bool.eq_false_iff.2 hf
      · exact roots_none k (r + 1) h r' (by omega) (by omega)
theorem plans_some {j : Jb} {l : List Int} : ∀ (k n : Nat), plansFrom j k n = some l → ∃ n' r', n ≤ n' ∧ n' < n + k ∧ r' ≤ n' ∧ l = plan n' r' ∧ isFine j (plan n' r') = true ∧ ∀ m s, n ≤ m → m < n' → s ≤ m → isFine j (plan m s) = false
  | 0, _, h => by cases h
  | k + 1, n, h => by
    unfold plansFrom at h
    split at h
    · rename_i l' hl
      injection h with h
      subst h
      obtain ⟨r', h1, h2, h3, h4⟩ := roots_some _ _ hl
      exact ⟨n, r', by omega, by omega, by omega, h3, h4, fun m s a b => by omega⟩
    · rename_i hl
      obtain ⟨n', r', h1, h2, h3, h4, h5, h6⟩ := plans_some k (n + 1) h
      refine ⟨n', r', by omega, by omega, h3, h4, h5, fun m s a b c => ?_⟩
      by_cases e : m = n
      · subst e; exact roots_none _ _ hl s (by omega) (by omega)
      · exact h6 m s (by omega) b c
theorem plans_none {j : Jb} : ∀ (k n : Nat), plansFrom j k n = none → ∀ m s, n ≤ m → m < n + k → s ≤ m → isFine j (plan m s) = false
  | 0, _, _ => fun m s _ _ _ => by omega
  | k + 1, n, h => by
    intro m s a b c
    unfold plansFrom at h
    split at h
    · cases h
    · rename_i hl
      by_cases e : m = n
      · subst e; exact roots_none _ _ hl s (by omega) (by omega)
      · exact plans_none k (n + 1) h m s (by omega) (by omega) c
theorem first_some {b : Nat → Bool} {m : Nat} : ∀ (k n : Nat), firstB b k n = some m → b m = true ∧ n ≤ m ∧ m < n + k ∧ ∀ i, n ≤ i → i < m → b i = false
  | 0, _, h => by cases h
  | k + 1, n, h => by
    unfold firstB at h
    split at h
    · rename_i hb
      injection h with h
      subst h
      exact ⟨hb, by omega, by omega, fun i a b => by omega⟩
    · rename_i hb
      obtain ⟨h1, h2, h3, h4⟩ := first_some k (n + 1) h
      refine ⟨h1, by omega, by omega, fun i a b => ?_⟩
      by_cases e : i = n
      · subst e; exact Bool.eq_false_iff.2 hb
      · exact h4 i (by omega) b
theorem first_none {b : Nat → Bool} : ∀ (k n : Nat), firstB b k n = none → ∀ i, n ≤ i → i < n + k → b i = false
  | 0, _, _ => fun i _ _ => by omega
  | k + 1, n, h => by
    intro i a c
    unfold firstB at h
    split at h
    · cases h
    · rename_i hb
      by_cases e : i = n
      · subst e; exact Bool.eq_false_iff.2 hb
      · exact first_none k (n + 1) h i (by omega) (by omega)

theorem reads_plan {j : Jb} (hj : j.good) {n r : Nat} (hr : r ≤ n) (hf : isFine j (plan n r) = true) : readsP j (winS j).1 (winS j).2 n j.p0 j.p1 0 0 = true := by
  obtain ⟨h1, h2⟩ := (isFine_iff hj n r hr).1 hf
  unfold readsP
  rw [List.all_eq_true]
  intro x hx
  have hs := mem_rdgs hx
  exact stops_plan hj n (n - r) r (by omega) j.p0 j.p1 0 0 x.1 x.2 (by omega) (by omega) hs.1 hs.2 h1 (by simpa using h2)
/-- With a meter no more strokes are needed. -/
theorem guided_le {j : Jb} (hj : j.good) {n r : Nat} (hr : r ≤ n) (hn : n ≤ 4) (hf : isFine j (plan n r) = true) : ∃ m, guidedF j = some m ∧ m ≤ n := by
  have h := reads_plan hj hr hf
  unfold guidedF
  cases hg : firstB (fun n => readsP j (winS j).1 (winS j).2 n j.p0 j.p1 0 0) 5 0 with
  | none => have := first_none _ _ hg n (by omega) (by omega); rw [h] at this; cases this
  | some m =>
    obtain ⟨_, _, _, h4⟩ := first_some _ _ hg
    refine ⟨m, rfl, ?_⟩
    rcases Nat.lt_or_ge n m with hlt | hge
    · have := h4 n (by omega) hlt; rw [h] at this; cases this
    · exact hge
theorem heard1 {j : Jb} (hj : j.good) (he : shortE j = 0) (hl : (shortL j).length ≤ 4) : (guidedJ j).2 = 0 ∧ (guidedJ j).1 ≤ (shortL j).length := by
  have hc := check_of_good hj
  unfold shortE at he
  unfold shortL at hl ⊢
  unfold guidedJ
  rw [if_pos hc] at he hl ⊢
  rw [if_pos hc]
  cases hp : plansFrom j 7 0 with
  | none => rw [hp] at he; simp at he
  | some l =>
    rw [hp] at hl
    obtain ⟨n, r, _, h2, h3, rfl, h5, _⟩ := plans_some _ _ hp
    have hlen : (plan n r).length = n := plan_length h3
    simp only [Option.getD_some, hlen] at hl ⊢
    obtain ⟨m, hm, hle⟩ := guided_le hj h3 hl h5
    rw [hm]
    exact ⟨rfl, by dsimp only; omega⟩

/-- A job whose numbers are known. -/
structure Jb.sg (j : Jb) : Prop where
  g : j.good
  p : j.p1 = j.p0
  u : j.u1 = j.u0
  d : j.d1 = j.d0
  t : j.le ≤ j.t0
  r : j.le ≤ j.r0
theorem rdgs_one {p m : Int} {x : Int × Int} (h : x ∈ rdgs p p m) : x = (p, p) := by
  unfold rdgs rdN at h
  obtain ⟨k, hk, rfl⟩ := List.mem_map.1 h
  have hk := List.mem_range.1 hk
  unfold rdg mstep
  dsimp only
  rw [if_neg (by omega), if_neg (by omega)]
theorem rdgs_has {p m : Int} (hm : 0 ≤ m) : (p, p) ∈ rdgs p p m := by
  have h : 0 < (rdgs p p m).length := by rw [rdgs_length]; unfold rdN; omega
  have h2 := List.getElem_mem h
  rw [rdgs_one h2] at h2
  exact h2
theorem reads_one {j : Jb} (hj : j.good) (s0 s1 : Int) (n : Nat) (p t r : Int) : readsP j s0 s1 n p p t r = stopsP j s0 s1 n p p t r := by
  unfold readsP
  rw [Bool.eq_iff_iff, List.all_eq_true]
  constructor
  · intro h; exact h (p, p) (rdgs_has hj.me.1)
  · intro h x hx; rw [rdgs_one hx]; exact h
theorem stops_one {j : Jb} (hj : j.sg) : ∀ (n : Nat) (p t r : Int), 0 ≤ t → 0 ≤ r → stopsP j (winS j).1 (winS j).2 n p p t r = true →
    ∃ k m : Nat, k + m ≤ n ∧ hasB (winS j).1 (winS j).2 (p + k * j.u0 - m * j.d0) (p + k * j.u0 - m * j.d0) = true ∧ (k + m = 0 ∨ thick j (t + k) (r + m)) := by
  intro n
  induction n with
  | zero =>
    intro p t r _ _ h
    exact ⟨0, 0, by omega, by simpa [stopsP] using h, .inl rfl⟩
  | succ n ih =>
    intro p t r ht hr h
    unfold stopsP at h
    rw [hj.u, hj.d] at h
    rw [show ((rdgs (p + j.u0) (p + j.u0) j.me).all fun x => stopsP j (winS j).1 (winS j).2 n x.1 x.2 (t + 1) r) = stopsP j (winS j).1 (winS j).2 n (p + j.u0) (p + j.u0) (t + 1) r from reads_one hj.g _ _ n _ _ _,
      show ((rdgs (p - j.d0) (p - j.d0) j.me).all fun x => stopsP j (winS j).1 (winS j).2 n x.1 x.2 t (r + 1)) = stopsP j (winS j).1 (winS j).2 n (p - j.d0) (p - j.d0) t (r + 1) from reads_one hj.g _ _ n _ _ _] at h
    simp only [Bool.or_eq_true, Bool.and_eq_true] at h
    rcases h with h | ⟨h1, h2⟩ | ⟨h1, h2⟩
    · exact ⟨0, 0, by omega, by simpa using h, .inl rfl⟩
    · obtain ⟨k, m, a, b, c⟩ := ih _ _ _ (by omega) hr h2
      refine ⟨k + 1, m, by omega, ?_, .inr ?_⟩
      · have e : p + j.u0 + (k : Int) * j.u0 - (m : Int) * j.d0 = p + ((k + 1 : Nat) : Int) * j.u0 - (m : Int) * j.d0 := by rw [Int.natCast_succ, Int.add_mul, Int.one_mul]; omega
        rw [← e]; exact b
      · have e3 : t + 1 + (k : Int) = t + ((k + 1 : Nat) : Int) := by omega
        rw [← e3]
        rcases c with c | c
        · obtain rfl : k = 0 := by omega
          obtain rfl : m = 0 := by omega
          simpa using (okT_iff hj.g (by omega) hr).1 h1
        · exact c
    · obtain ⟨k, m, a, b, c⟩ := ih _ _ _ ht (by omega) h2
      refine ⟨k, m + 1, by omega, ?_, .inr ?_⟩
      · have e : p - j.d0 + (k : Int) * j.u0 - (m : Int) * j.d0 = p + (k : Int) * j.u0 - ((m + 1 : Nat) : Int) * j.d0 := by rw [Int.natCast_succ, Int.add_mul, Int.one_mul]; omega
        rw [← e]; exact b
      · have e3 : r + 1 + (m : Int) = r + ((m + 1 : Nat) : Int) := by omega
        rw [← e3]
        rcases c with c | c
        · obtain rfl : k = 0 := by omega
          obtain rfl : m = 0 := by omega
          simpa using (okT_iff hj.g ht (by omega)).1 h1
        · exact c
/-- Who knows all needs no meter. -/
theorem heard2 {j : Jb} (hj : j.sg) : ((guidedJ j).2 = 0 ∧ shortE j = 0 ∧ (guidedJ j).1 = (shortL j).length) ∨ ((guidedJ j).2 = 11 ∧ (shortE j = 11 ∨ (shortE j = 0 ∧ 4 < (shortL j).length))) := by
  have hc := check_of_good hj.g
  unfold shortE shortL guidedJ
  rw [if_pos hc, if_pos hc, if_pos hc]
  cases hg : guidedF j with
  | some m =>
    refine .inl ?_
    obtain ⟨h1, _, h3, _⟩ := first_some _ _ hg
    rw [hj.p, reads_one hj.g] at h1
    obtain ⟨k, i, a, b, c⟩ := stops_one hj m j.p0 0 0 (by omega) (by omega) h1
    have hf : isFine j (plan (k + i) i) = true := by
      rw [isFine_iff hj.g _ _ (by omega)]
      have e : k + i - i = k := by omega
      rw [e, hj.p, hj.u, hj.d]
      refine ⟨b, ?_⟩
      rcases c with c | c
      · obtain rfl : k = 0 := by omega
        obtain rfl : i = 0 := by omega
        unfold thick
        have := hj.t
        have := hj.r
        simp
        omega
      · simpa using c
    cases hp : plansFrom j 7 0 with
    | none => have := plans_none _ _ hp (k + i) i (by omega) (by omega) (by omega); rw [hf] at this; cases this
    | some l =>
      obtain ⟨n, r, _, h2, h4, rfl, h5, h6⟩ := plans_some _ _ hp
      have hlen : (plan n r).length = n := plan_length h4
      have hnk : n ≤ k + i := by
        rcases Nat.lt_or_ge (k + i) n with hlt | hge
        · have := h6 (k + i) i (by omega) hlt (by omega); rw [hf] at this; cases this
        · exact hge
      obtain ⟨m', hm', hle⟩ := guided_le hj.g h4 (by omega) h5
      rw [hg] at hm'
      injection hm' with hm'
      simp only [Option.isSome_some, if_true, Option.getD_some, hlen, true_and]
      omega
  | none =>
    refine .inr ⟨rfl, ?_⟩
    cases hp : plansFrom j 7 0 with
    | none => exact .inl rfl
    | some l =>
      obtain ⟨n, r, _, h2, h4, rfl, h5, h6⟩ := plans_some _ _ hp
      have hlen : (plan n r).length = n := plan_length h4
      refine .inr ⟨rfl, ?_⟩
      simp only [Option.getD_some, hlen]
      rcases Nat.lt_or_ge 4 n with h | h
      · exact h
      · obtain ⟨m', hm', _⟩ := guided_le hj.g h4 h h5
        rw [hg] at hm'; cases hm'

end Go.Proofs.Ythlpceoajhcliaa

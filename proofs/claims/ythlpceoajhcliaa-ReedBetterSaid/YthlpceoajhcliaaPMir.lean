/-
  Plain laws: a job and its mirror.
-/
import Derived.Test.YthlpceoajhcliaaPHeard
import Derived.Test.YthlpceoajhcliaaRTop2
namespace Go.Proofs.Ythlpceoajhcliaa
set_option linter.unusedSimpArgs false
set_option linter.unusedVariables false

def m2 (x : Int × Int) : Int × Int := (-x.2, -x.1)
def mirJ (j : Jb) : Jb := ⟨-j.p1, -j.p0, j.r0, j.r1, j.t0, j.t1, j.d0, j.d1, j.u0, j.u1, j.b0, j.b1, j.a0, j.a1, j.le, j.sh.map m2, j.wi, j.me⟩
def mirS (s : St) : St := ⟨-s.p1, -s.p0, s.r0, s.r1, s.t0, s.t1, s.d0, s.d1, s.u0, s.u1, s.b0, s.b1, s.a0, s.a1, s.le⟩

theorem mstep_m (a x : Int × Int) : mstep (m2 a) (m2 x) = m2 (mstep a x) := by
  unfold mstep m2
  refine Prod.ext ?_ ?_
  · dsimp only; (repeat' split) <;> omega
  · dsimp only; (repeat' split) <;> omega
theorem meetL_m : ∀ (l : List (Int × Int)) (f : Int × Int), meetL (m2 f) (l.map m2) = m2 (meetL f l)
  | [], _ => rfl
  | x :: l, f => by
    show meetL (mstep (m2 f) (m2 x)) (l.map m2) = m2 (meetL (mstep f x) l)
    rw [mstep_m]
    exact meetL_m l _
theorem winOf_m (wi : Int) (l : List (Int × Int)) : winOf wi (l.map m2) = m2 (winOf wi l) := by
  cases l with
  | nil => simp [winOf, m2]
  | cons x l => exact meetL_m l x
theorem strict_m (wi : Int) (l : List (Int × Int)) : strictL wi (l.map m2) = (strictL wi l).map m2 := by
  unfold strictL
  rw [List.map_map, List.map_map]
  refine List.map_congr_left fun s _ => ?_
  simp only [Function.comp, m2]
  refine Prod.ext ?_ ?_ <;> dsimp only <;> omega
theorem loose_m (wi : Int) (l : List (Int × Int)) : looseL wi (l.map m2) = (looseL wi l).map m2 := by
  unfold looseL
  rw [List.map_map, List.map_map]
  refine List.map_congr_left fun s _ => ?_
  simp only [Function.comp, m2]
  refine Prod.ext ?_ ?_ <;> dsimp only <;> omega
theorem winS_m (j : Jb) : winS (mirJ j) = m2 (winS j) := by
  show winOf j.wi (strictL j.wi (j.sh.map m2)) = _
  rw [strict_m, winOf_m]; rfl
theorem winL_m (j : Jb) : winL (mirJ j) = m2 (winL j) := by
  show winOf j.wi (looseL j.wi (j.sh.map m2)) = _
  rw [loose_m, winOf_m]; rfl
theorem hasB_m (a b c d : Int) : hasB (-b) (-a) (-d) (-c) = hasB a b c d := by
  unfold hasB
  rw [Bool.eq_iff_iff, decide_eq_true_eq, decide_eq_true_eq]
  omega
theorem passes_m (j : Jb) (p0 p1 : Int) : passesJ (mirJ j) (-p1) (-p0) = passesJ j p0 p1 := by
  unfold passesJ
  rw [winS_m, winL_m, show hasB (m2 (winS j)).1 (m2 (winS j)).2 (-p1) (-p0) = hasB (winS j).1 (winS j).2 p0 p1 from hasB_m _ _ _ _, show meetL (m2 (winL j)) [(-p1, -p0)] = m2 (meetL (winL j) [(p0, p1)]) from meetL_m [(p0, p1)] _]
  unfold m2
  by_cases h : hasB (winS j).1 (winS j).2 p0 p1 = true
  · rw [if_pos h, if_pos h]
  · rw [if_neg h, if_neg h]
    by_cases h2 : (meetL (winL j) [(p0, p1)]).2 < (meetL (winL j) [(p0, p1)]).1
    · rw [if_pos h2, if_pos (by dsimp only; omega)]
    · rw [if_neg h2, if_neg (by dsimp only; omega)]
theorem spoiled_m (s : St) : (mirS s).spoiled = s.spoiled := by
  unfold St.spoiled mirS
  dsimp only
  by_cases h : s.t1 < s.le ∨ s.r1 < s.le
  · rw [if_pos h, if_pos h.symm]
  · rw [if_neg h, if_neg (fun h' => h h'.symm)]
    by_cases h2 : s.le ≤ s.t0 ∧ s.le ≤ s.r0
    · rw [if_pos h2, if_pos h2.symm]
    · rw [if_neg h2, if_neg (fun h' => h2 h'.symm)]
theorem filed_m (s : St) {k : Int} (h : k = 1 ∨ k = 2) : (mirS s).filed (3 - k) = mirS (s.filed k) := by
  rcases h with rfl | rfl
  · simp only [St.filed, mirS, St.tip, St.root, show ¬ ((3 : Int) - 1 = 1) from by decide, if_false, if_true, St.mk.injEq, and_true, true_and]
    omega
  · simp only [St.filed, mirS, St.tip, St.root, show ((3 : Int) - 2 = 1) from by decide, show ¬ ((2 : Int) = 1) from by decide, if_false, if_true, St.mk.injEq, and_true, true_and]
    omega
theorem after_m : ∀ (l : List Int) (s : St), (∀ k ∈ l, k = 1 ∨ k = 2) → (mirS s).after (l.map (3 - ·)) = mirS (s.after l)
  | [], _, _ => rfl
  | k :: l, s, h => by
    show ((mirS s).filed (3 - k)).after (l.map (3 - ·)) = mirS ((s.filed k).after l)
    rw [filed_m s (h k List.mem_cons_self)]
    exact after_m l _ fun q hq => h q (List.mem_cons_of_mem _ hq)
theorem st_m (j : Jb) : (mirJ j).st = mirS j.st := rfl
theorem fine_m (j : Jb) (s : St) : fineJ (mirJ j) (mirS s) = fineJ j s := by
  unfold fineJ
  rw [spoiled_m, show passesJ (mirJ j) (mirS s).p0 (mirS s).p1 = passesJ j s.p0 s.p1 from passes_m j _ _]
theorem good_m {j : Jb} (h : j.good) : (mirJ j).good := by
  obtain ⟨h1, h2, h3, h4, h5, h6, h7, h8, h9, h10, h11, h12⟩ := h
  refine ⟨?_, h3, h2, h5, h4, h7, h6, h8, ?_, ?_, h11, h12⟩
  · show -60 ≤ -j.p1 ∧ -j.p1 ≤ -j.p0 ∧ -j.p0 ≤ 60
    omega
  · show (j.sh.map m2).length ≤ 4
    rw [List.length_map]; exact h9
  · intro q hq
    obtain ⟨p, hp, rfl⟩ := List.mem_map.1 hq
    have := h10 p hp
    show -60 ≤ -p.2 ∧ -p.2 ≤ -p.1 ∧ -p.1 ≤ 60
    omega
theorem window_m {j : Jb} (h : j.good) : windowJ (mirJ j) = (if (windowJ j).2 = 0 then (m2 (windowJ j).1, 0) else windowJ j) ∧ ((windowJ j).2 = 0 ∨ (windowJ j).2 = 11) := by
  unfold windowJ
  rw [if_pos (check_of_good h), if_pos (check_of_good (good_m h)), winS_m]
  by_cases hw : (winS j).2 < (winS j).1
  · rw [if_pos hw, if_pos (by unfold m2; dsimp only; omega)]
    exact ⟨rfl, .inr rfl⟩
  · rw [if_neg hw, if_neg (by unfold m2; dsimp only; omega)]
    exact ⟨rfl, .inl rfl⟩
theorem shx_ex {j : Jb} (h : j.good) : (∃ s, s ∈ shx j.sh) ∧ ∀ s ∈ shx j.sh, -60 ≤ s.1 ∧ s.1 ≤ s.2 ∧ s.2 ≤ 60 := by
  have hs := h.sh
  unfold shx
  split
  · exact ⟨⟨_, List.mem_cons_self⟩, fun s hs => by simp only [List.mem_cons, List.not_mem_nil, or_false] at hs; subst hs; decide⟩
  · rename_i hne
    obtain ⟨x, l, e⟩ := List.exists_cons_of_ne_nil hne
    exact ⟨⟨x, by rw [e]; exact List.mem_cons_self⟩, hs⟩
theorem win_bd {j : Jb} (h : j.good) : (-1000 ≤ (winS j).1 ∧ (winS j).1 ≤ 1000) ∧ -1000 ≤ (winS j).2 ∧ (winS j).2 ≤ 1000 := by
  obtain ⟨⟨s, hs⟩, hb⟩ := shx_ex h
  have hw := h.wi
  have b := hb s hs
  have l1 := (winS_lo j (winS j).1).1 (Int.le_refl _) s hs
  have l2 := (winS_lo j 1000).2 fun q hq => by have := hb q hq; omega
  have l3 := (winS_hi j (winS j).2).1 (Int.le_refl _) s hs
  have l4 := (winS_hi j (-1000)).2 fun q hq => by have := hb q hq; omega
  omega
theorem window_bd {j : Jb} (h : j.good) : (-1000 ≤ (windowJ j).1.1 ∧ (windowJ j).1.1 ≤ 1000) ∧ -1000 ≤ (windowJ j).1.2 ∧ (windowJ j).1.2 ≤ 1000 := by
  have b := win_bd h
  unfold windowJ
  rw [if_pos (check_of_good h)]
  split
  · exact ⟨by decide, by decide⟩
  · exact b
theorem chkS_ok : ∀ (l : List Int), (∀ k ∈ l, k = 1 ∨ k = 2) → chkS l = 0
  | [], _ => rfl
  | k :: l, h => by
    have := chkS_ok l fun q hq => h q (List.mem_cons_of_mem _ hq)
    rcases h k List.mem_cons_self with rfl | rfl <;> simpa [chkS, okS] using this
theorem strokes_ok {j : Jb} (h : j.good) {l : List Int} (hl : l.length ≤ 6) (hk : ∀ k ∈ l, k = 1 ∨ k = 2) : checkStrokesJ j l = 0 := by
  unfold checkStrokesJ
  rw [if_neg (by rw [check_of_good h]; decide), if_neg (by omega)]
  exact chkS_ok l hk

theorem plan_m {j : Jb} {n r : Nat} (hr : r ≤ n) : isFine (mirJ j) (plan n (n - r)) = isFine j (plan n r) := by
  unfold isFine
  have e : (mirJ j).st.after (plan n (n - r)) = mirS (j.st.after (plan n r)) := by
    rw [after_plan, after_plan, show n - (n - r) = r by omega]
    simp only [st_m, mirS, St.mk.injEq, and_true, true_and]
    generalize ((n - r : Nat) : Int) * j.st.u1 = a
    generalize ((n - r : Nat) : Int) * j.st.u0 = b
    generalize (r : Int) * j.st.d0 = c
    generalize (r : Int) * j.st.d1 = d
    omega
  rw [e, fine_m]
theorem short_m {j : Jb} (h : j.good) : shortE (mirJ j) = shortE j ∧ (shortL (mirJ j)).length = (shortL j).length := by
  unfold shortE shortL
  rw [if_pos (check_of_good h), if_pos (check_of_good (good_m h)), if_pos (check_of_good h), if_pos (check_of_good (good_m h))]
  cases h1 : plansFrom j 7 0 with
  | none =>
    cases h2 : plansFrom (mirJ j) 7 0 with
    | none => exact ⟨rfl, rfl⟩
    | some l =>
      obtain ⟨n, r, _, a, b, _, c, _⟩ := plans_some _ _ h2
      have := plans_none _ _ h1 n (n - r) (by omega) (by omega) (by omega)
      rw [← plan_m (by omega), show n - (n - r) = r by omega, c] at this
      cases this
  | some l =>
    obtain ⟨n, r, _, a, b, rfl, c, d⟩ := plans_some _ _ h1
    cases h2 : plansFrom (mirJ j) 7 0 with
    | none =>
      have := plans_none _ _ h2 n (n - r) (by omega) (by omega) (by omega)
      rw [plan_m b, c] at this
      cases this
    | some l =>
      obtain ⟨n', r', _, a', b', rfl, c', d'⟩ := plans_some _ _ h2
      refine ⟨rfl, ?_⟩
      simp only [Option.getD_some, plan_length b, plan_length b']
      rcases Nat.lt_trichotomy n' n with hlt | he | hlt
      · have := d n' (n' - r') (by omega) hlt (by omega)
        rw [← plan_m (by omega), show n' - (n' - r') = r' by omega, c'] at this
        cases this
      · exact he
      · have := d' n (n - r) (by omega) hlt (by omega)
        rw [plan_m b, c] at this
        cases this

theorem rdg_m {p0 p1 m : Int} {k : Nat} (h : k < rdN p0 p1 m) : rdg (-p1) (-p0) m k = m2 (rdg p0 p1 m (rdN p0 p1 m - 1 - k)) := by
  unfold rdg
  rw [← mstep_m]
  unfold rdN at h ⊢
  have e : (((p1 + m - (p0 - m) + 1).toNat - 1 - k : Nat) : Int) = p1 + m - (p0 - m) - k := by omega
  rw [e]
  unfold m2
  congr 1
  refine Prod.ext ?_ ?_ <;> dsimp only <;> omega
theorem rdgs_m (p0 p1 m : Int) (f : Int × Int → Bool) : (rdgs (-p1) (-p0) m).all f = (rdgs p0 p1 m).all fun x => f (m2 x) := by
  have eN : rdN (-p1) (-p0) m = rdN p0 p1 m := by unfold rdN; congr 1; omega
  rw [Bool.eq_iff_iff, List.all_eq_true, List.all_eq_true]
  unfold rdgs
  rw [eN]
  constructor
  · intro h x hx
    obtain ⟨k, hk, rfl⟩ := List.mem_map.1 hx
    have hk := List.mem_range.1 hk
    have := h _ (List.mem_map.2 ⟨rdN p0 p1 m - 1 - k, List.mem_range.2 (by omega), rfl⟩)
    rw [rdg_m (by omega), show rdN p0 p1 m - 1 - (rdN p0 p1 m - 1 - k) = k by omega] at this
    exact this
  · intro h x hx
    obtain ⟨k, hk, rfl⟩ := List.mem_map.1 hx
    have hk := List.mem_range.1 hk
    rw [rdg_m hk]
    exact h _ (List.mem_map.2 ⟨rdN p0 p1 m - 1 - k, List.mem_range.2 (by omega), rfl⟩)
theorem okT_m (j : Jb) (t r : Int) : okT (mirJ j) r t = okT j t r := by
  unfold okT
  rw [show thinJ (mirJ j) 0 0 r t = mirS (thinJ j 0 0 t r) from rfl, spoiled_m]
theorem stops_m (j : Jb) (s0 s1 : Int) : ∀ (n : Nat) (p0 p1 t r : Int), stopsP (mirJ j) (-s1) (-s0) n (-p1) (-p0) r t = stopsP j s0 s1 n p0 p1 t r := by
  intro n
  induction n with
  | zero => intro p0 p1 t r; exact hasB_m _ _ _ _
  | succ n ih =>
    intro p0 p1 t r
    unfold stopsP
    rw [hasB_m, okT_m, okT_m, show -p1 + (mirJ j).u0 = -(p1 - j.d0) from by show -p1 + j.d0 = _; omega, show -p0 + (mirJ j).u1 = -(p0 - j.d1) from by show -p0 + j.d1 = _; omega,
      show -p1 - (mirJ j).d1 = -(p1 + j.u1) from by show -p1 - j.u1 = _; omega, show -p0 - (mirJ j).d0 = -(p0 + j.u0) from by show -p0 - j.u0 = _; omega]
    show (_ || ((_ && (rdgs _ _ j.me).all _) || (_ && (rdgs _ _ j.me).all _))) = _
    rw [rdgs_m, rdgs_m, Bool.or_comm (okT j t (r + 1) && _)]
    congr 2
    · congr 1
      congr 1
      funext x
      exact ih x.1 x.2 (t + 1) r
    · congr 1
      congr 1
      funext x
      exact ih x.1 x.2 t (r + 1)
theorem reads_m (j : Jb) (s0 s1 : Int) (n : Nat) (p0 p1 t r : Int) : readsP (mirJ j) (-s1) (-s0) n (-p1) (-p0) r t = readsP j s0 s1 n p0 p1 t r := by
  unfold readsP
  show (rdgs _ _ j.me).all _ = _
  rw [rdgs_m]
  congr 1
  funext x
  exact stops_m j s0 s1 n x.1 x.2 t r
theorem guided_m {j : Jb} (h : j.good) : guidedJ (mirJ j) = guidedJ j := by
  have e : guidedF (mirJ j) = guidedF j := by
    unfold guidedF
    rw [winS_m]
    congr 1
    funext n
    exact reads_m j _ _ n j.p0 j.p1 0 0
  unfold guidedJ
  rw [if_pos (check_of_good h), if_pos (check_of_good (good_m h)), e]
theorem next_m {j : Jb} (h : j.good) : (nextJ (mirJ j)).2 = (nextJ j).2 := by
  have e : nextF (mirJ j) = nextF j := by
    unfold nextF
    rw [winS_m]
    congr 1
    funext n
    exact stops_m j _ _ n j.p0 j.p1 0 0
  unfold nextJ
  rw [if_pos (check_of_good h), if_pos (check_of_good (good_m h)), e]
  cases nextF j with
  | none => rfl
  | some n => dsimp only; split <;> rfl

/-- x is j, known better. -/
structure Nar (x j : Jb) : Prop where
  p : j.p0 ≤ x.p0 ∧ x.p1 ≤ j.p1
  t : j.t0 ≤ x.t0 ∧ x.t1 ≤ j.t1
  r : j.r0 ≤ x.r0 ∧ x.r1 ≤ j.r1
  u : j.u0 ≤ x.u0 ∧ x.u1 ≤ j.u1
  d : j.d0 ≤ x.d0 ∧ x.d1 ≤ j.d1
  a : j.a0 ≤ x.a0 ∧ x.a1 ≤ j.a1
  b : j.b0 ≤ x.b0 ∧ x.b1 ≤ j.b1
  le : x.le = j.le
  wi : x.wi = j.wi
  me : x.me ≤ j.me
  len : x.sh.length = j.sh.length
  sh : ∀ (i : Nat) (y : Int × Int), x.sh[i]? = some y → ∃ s, j.sh[i]? = some s ∧ s.1 ≤ y.1 ∧ y.2 ≤ s.2
structure NarS (x s : St) : Prop where
  p : s.p0 ≤ x.p0 ∧ x.p1 ≤ s.p1
  t : s.t0 ≤ x.t0 ∧ x.t1 ≤ s.t1
  r : s.r0 ≤ x.r0 ∧ x.r1 ≤ s.r1
  u : s.u0 ≤ x.u0 ∧ x.u1 ≤ s.u1
  d : s.d0 ≤ x.d0 ∧ x.d1 ≤ s.d1
  a : s.a0 ≤ x.a0 ∧ x.a1 ≤ s.a1
  b : s.b0 ≤ x.b0 ∧ x.b1 ≤ s.b1
  le : x.le = s.le
/-- All ranges are in order. -/
structure OrdS (s : St) : Prop where
  p : s.p0 ≤ s.p1
  t : s.t0 ≤ s.t1
  r : s.r0 ≤ s.r1
  u : s.u0 ≤ s.u1
  d : s.d0 ≤ s.d1
  a : s.a0 ≤ s.a1
  b : s.b0 ≤ s.b1
theorem Nar.st {x j : Jb} (h : Nar x j) : NarS x.st j.st := ⟨h.p, h.t, h.r, h.u, h.d, h.a, h.b, h.le⟩
theorem OrdS.of {j : Jb} (h : j.good) : OrdS j.st := ⟨h.p.2.1, h.t.2.1, h.r.2.1, h.u.2.1, h.d.2.1, h.a.2.1, h.b.2.1⟩
theorem NarS.filed {x s : St} (h : NarS x s) (k : Int) : NarS (x.filed k) (s.filed k) := by
  obtain ⟨h1, h2, h3, h4, h5, h6, h7, h8⟩ := h
  unfold St.filed
  split
  · exact ⟨by simp only [St.tip]; omega, by simp only [St.tip]; omega, h3, h4, h5, h6, h7, h8⟩
  · exact ⟨by simp only [St.root]; omega, h2, by simp only [St.root]; omega, h4, h5, h6, h7, h8⟩
theorem OrdS.filed {s : St} (h : OrdS s) (k : Int) : OrdS (s.filed k) := by
  obtain ⟨h1, h2, h3, h4, h5, h6, h7⟩ := h
  unfold St.filed
  split
  · exact ⟨by simp only [St.tip]; omega, by simp only [St.tip]; omega, h3, h4, h5, h6, h7⟩
  · exact ⟨by simp only [St.root]; omega, h2, by simp only [St.root]; omega, h4, h5, h6, h7⟩
theorem NarS.after : ∀ (l : List Int) {x s : St}, NarS x s → NarS (x.after l) (s.after l)
  | [], _, _, h => h
  | k :: l, _, _, h => NarS.after l (h.filed k)
theorem OrdS.after : ∀ (l : List Int) {s : St}, OrdS s → OrdS (s.after l)
  | [], _, h => h
  | k :: l, _, h => OrdS.after l (h.filed k)
theorem shx_nar {x j : Jb} (h : Nar x j) (hj : j.good) : (∀ y ∈ shx x.sh, ∃ s ∈ shx j.sh, s.1 ≤ y.1 ∧ y.2 ≤ s.2) ∧ ∀ s ∈ shx j.sh, ∃ y ∈ shx x.sh, s.1 ≤ y.1 ∧ y.2 ≤ s.2 := by
  have hl := h.len
  unfold shx
  by_cases e : j.sh = []
  · have ex : x.sh = [] := List.eq_nil_of_length_eq_zero (by rw [hl, e]; rfl)
    rw [if_pos e, if_pos ex]
    exact ⟨fun y hy => ⟨y, hy, Int.le_refl _, Int.le_refl _⟩, fun y hy => ⟨y, hy, Int.le_refl _, Int.le_refl _⟩⟩
  · have ex : ¬ x.sh = [] := fun e' => e (List.eq_nil_of_length_eq_zero (by rw [← hl, e']; rfl))
    rw [if_neg e, if_neg ex]
    constructor
    · intro y hy
      obtain ⟨i, hi⟩ := List.getElem?_of_mem hy
      obtain ⟨s, hs, h1⟩ := h.sh i y hi
      exact ⟨s, List.mem_of_getElem? hs, h1⟩
    · intro s hs
      obtain ⟨i, hi⟩ := List.getElem?_of_mem hs
      have hlt := (List.getElem?_eq_some_iff.1 hi).1
      have hx : x.sh[i]? = some x.sh[i] := List.getElem?_eq_getElem (by omega)
      obtain ⟨s', hs', h1⟩ := h.sh i _ hx
      rw [hi] at hs'
      injection hs' with hs'
      subst hs'
      exact ⟨_, List.mem_of_getElem? hx, h1⟩
theorem winS_nar {x j : Jb} (h : Nar x j) (hj : j.good) : (winS x).1 ≤ (winS j).1 ∧ (winS j).2 ≤ (winS x).2 := by
  obtain ⟨h1, h2⟩ := shx_nar h hj
  have hw := h.wi
  refine ⟨(winS_lo x _).2 fun y hy => ?_, (winS_hi x _).2 fun y hy => ?_⟩
  · obtain ⟨s, hs, a, b⟩ := h1 y hy
    have := (winS_lo j _).1 (Int.le_refl _) s hs
    omega
  · obtain ⟨s, hs, a, b⟩ := h1 y hy
    have := (winS_hi j _).1 (Int.le_refl _) s hs
    omega
theorem winL_lo' (j : Jb) (n : Int) : (winL j).1 ≤ n ↔ ∀ s ∈ shx j.sh, -j.wi - s.2 ≤ n := by
  unfold winL looseL shx
  cases h : j.sh with
  | nil => simp [winOf]
  | cons q r =>
    simp only [List.map_cons, winOf, meet_lo, List.mem_map, forall_exists_index, and_imp, forall_apply_eq_imp_iff₂, reduceCtorEq, if_false, List.mem_cons, forall_eq_or_imp]
theorem winL_hi' (j : Jb) (n : Int) : n ≤ (winL j).2 ↔ ∀ s ∈ shx j.sh, n ≤ j.wi - s.1 := by
  unfold winL looseL shx
  cases h : j.sh with
  | nil => simp [winOf]
  | cons q r =>
    simp only [List.map_cons, winOf, meet_hi, List.mem_map, forall_exists_index, and_imp, forall_apply_eq_imp_iff₂, reduceCtorEq, if_false, List.mem_cons, forall_eq_or_imp]
theorem winL_nar {x j : Jb} (h : Nar x j) (hj : j.good) : (winL j).1 ≤ (winL x).1 ∧ (winL x).2 ≤ (winL j).2 := by
  obtain ⟨h1, h2⟩ := shx_nar h hj
  have hw := h.wi
  refine ⟨(winL_lo' j _).2 fun s hs => ?_, (winL_hi' j _).2 fun s hs => ?_⟩
  · obtain ⟨y, hy, a, b⟩ := h2 s hs
    have := (winL_lo' x _).1 (Int.le_refl _) y hy
    omega
  · obtain ⟨y, hy, a, b⟩ := h2 s hs
    have := (winL_hi' x _).1 (Int.le_refl _) y hy
    omega
theorem winSL {j : Jb} (hj : j.good) : (winL j).1 ≤ (winS j).1 ∧ (winS j).2 ≤ (winL j).2 := by
  obtain ⟨_, hb⟩ := shx_ex hj
  refine ⟨(winL_lo' j _).2 fun s hs => ?_, (winL_hi' j _).2 fun s hs => ?_⟩
  · have := (winS_lo j _).1 (Int.le_refl _) s hs
    have := hb s hs
    omega
  · have := (winS_hi j _).1 (Int.le_refl _) s hs
    have := hb s hs
    omega
theorem has_iff2 (a b c d : Int) : hasB a b c d = true ↔ a ≤ c ∧ d ≤ b := by unfold hasB; rw [decide_eq_true_eq]
/-- What is always so stays so, and what never is. -/
theorem passes_nar {x j : Jb} (h : Nar x j) (hj : j.good) (hx : x.good) {p0 p1 q0 q1 : Int} (h0 : p0 ≤ q0) (h1 : q1 ≤ p1) (hq : q0 ≤ q1) : passesJ j p0 p1 = 3 ∨ passesJ x q0 q1 = passesJ j p0 p1 := by
  have w1 := winS_nar h hj
  have w2 := winL_nar h hj
  have w3 := winSL hx
  have e : ∀ (f : Int × Int) (a b : Int), meetL f [(a, b)] = mstep f (a, b) := fun _ _ _ => rfl
  unfold passesJ
  rw [e, e]
  by_cases c1 : hasB (winS j).1 (winS j).2 p0 p1 = true
  · have c1' := (has_iff2 _ _ _ _).1 c1
    rw [if_pos c1, if_pos ((has_iff2 _ _ _ _).2 (by omega))]
    exact .inr rfl
  · rw [if_neg c1]
    by_cases c2 : (mstep (winL j) (p0, p1)).2 < (mstep (winL j) (p0, p1)).1
    · refine .inr ?_
      rw [if_pos c2]
      have c3 : (mstep (winL x) (q0, q1)).2 < (mstep (winL x) (q0, q1)).1 := by
        revert c2
        unfold mstep
        dsimp only
        (repeat' split) <;> omega
      rw [if_neg (fun c4 => by
        have c4 := (has_iff2 _ _ _ _).1 c4
        revert c3
        unfold mstep
        dsimp only
        (repeat' split) <;> omega), if_pos c3]
    · rw [if_neg c2]
      exact .inl rfl
theorem spoiled_nar {x s : St} (h : NarS x s) (ho : OrdS x) : s.spoiled = 3 ∨ x.spoiled = s.spoiled := by
  obtain ⟨_, h2, h3, _, _, _, _, h8⟩ := h
  obtain ⟨_, o2, o3, _, _, _, _⟩ := ho
  unfold St.spoiled
  by_cases c1 : s.t1 < s.le ∨ s.r1 < s.le
  · rw [if_pos c1, if_pos (by omega)]; exact .inr rfl
  · rw [if_neg c1]
    by_cases c2 : s.le ≤ s.t0 ∧ s.le ≤ s.r0
    · rw [if_pos c2, if_neg (by omega), if_pos (by omega)]; exact .inr rfl
    · rw [if_neg c2]; exact .inl rfl
theorem fine_nar {x j : Jb} (h : Nar x j) (hj : j.good) (hx : x.good) {y s : St} (hn : NarS y s) (ho : OrdS y) : fineJ j s = 3 ∨ fineJ x y = fineJ j s := by
  have a := passes_nar h hj hx hn.p.1 hn.p.2 ho.p
  have b := spoiled_nar hn ho
  unfold fineJ
  generalize passesJ j s.p0 s.p1 = pj at *
  generalize passesJ x y.p0 y.p1 = px at *
  generalize s.spoiled = sj at *
  generalize y.spoiled = sx at *
  by_cases c1 : pj = 1 ∧ sj = 2
  · rw [if_pos c1, if_pos (by omega)]; exact .inr rfl
  · rw [if_neg c1]
    by_cases c2 : pj = 2 ∨ sj = 1
    · rw [if_pos c2, if_neg (by omega), if_pos (by omega)]; exact .inr rfl
    · rw [if_neg c2]; exact .inl rfl
theorem plan_nar {x j : Jb} (h : Nar x j) (hj : j.good) (hx : x.good) {l : List Int} (hf : isFine j l = true) : isFine x l = true := by
  unfold isFine at *
  rw [beq_iff_eq] at *
  have := fine_nar h hj hx (NarS.after l h.st) (OrdS.after l (OrdS.of hx))
  omega
theorem better {x j : Jb} (h : Nar x j) (hj : j.good) (hx : x.good) {l : List Int} (hl : l.length ≤ 6) (hk : ∀ k ∈ l, k = 1 ∨ k = 2) :
    ((fineT j l).2 = 0 ∧ (fineT x l).2 = 0 ∧ (spoiledT j l).2 = 0 ∧ (spoiledT x l).2 = 0) ∧ ((fineT j l).1 = 3 ∨ (fineT x l).1 = (fineT j l).1) ∧ ((spoiledT j l).1 = 3 ∨ (spoiledT x l).1 = (spoiledT j l).1) := by
  have e1 := strokes_ok hj hl hk
  have e2 := strokes_ok hx hl hk
  have hn := NarS.after l h.st
  have ho := OrdS.after l (OrdS.of hx)
  unfold fineT spoiledT
  rw [if_pos e1, if_pos e2, if_pos e1, if_pos e2]
  exact ⟨⟨rfl, rfl, rfl, rfl⟩, fine_nar h hj hx hn ho, spoiled_nar hn ho⟩
theorem short_nar {x j : Jb} (h : Nar x j) (hj : j.good) (hx : x.good) : (shortE j = 0 → shortE x = 0 ∧ (shortL x).length ≤ (shortL j).length) ∧ (shortE x = 0 ∨ shortE x = 11) := by
  unfold shortE shortL
  rw [if_pos (check_of_good hj), if_pos (check_of_good hx), if_pos (check_of_good hj), if_pos (check_of_good hx)]
  refine ⟨fun he => ?_, by split; exact .inl rfl; exact .inr rfl⟩
  cases h1 : plansFrom j 7 0 with
  | none => rw [h1] at he; simp at he
  | some l =>
    obtain ⟨n, r, _, a, b, rfl, c, _⟩ := plans_some _ _ h1
    have c' := plan_nar h hj hx c
    cases h2 : plansFrom x 7 0 with
    | none =>
      have := plans_none _ _ h2 n r (by omega) (by omega) b
      rw [c'] at this
      cases this
    | some l =>
      obtain ⟨n', r', _, a', b', rfl, _, d'⟩ := plans_some _ _ h2
      refine ⟨rfl, ?_⟩
      simp only [Option.getD_some, plan_length b, plan_length b']
      rcases Nat.lt_or_ge n n' with hlt | hge
      · have := d' n r (by omega) hlt b
        rw [c'] at this
        cases this
      · exact hge
theorem rdgs_nar {p0 p1 q0 q1 m m' : Int} (h0 : p0 ≤ q0) (h1 : q1 ≤ p1) (hm : m' ≤ m) {y : Int × Int} (hy : y ∈ rdgs q0 q1 m') : ∃ z ∈ rdgs p0 p1 m, z.1 ≤ y.1 ∧ y.2 ≤ z.2 := by
  unfold rdgs at *
  obtain ⟨k, hk, rfl⟩ := List.mem_map.1 hy
  have hk := List.mem_range.1 hk
  unfold rdN at *
  obtain ⟨k2, hk2⟩ : ∃ k2 : Nat, (k2 : Int) = q0 - m' + k - (p0 - m) := ⟨(q0 - m' + k - (p0 - m)).toNat, by omega⟩
  refine ⟨_, List.mem_map.2 ⟨k2, List.mem_range.2 (by omega), rfl⟩, ?_⟩
  unfold rdg mstep
  dsimp only
  constructor
  · (repeat' split) <;> omega
  · (repeat' split) <;> omega
theorem okT_nar {x j : Jb} (h : Nar x j) (hj : j.good) (hx : x.good) {t r : Int} (ht : 0 ≤ t) (hr : 0 ≤ r) (hk : okT j t r = true) : okT x t r = true := by
  obtain ⟨a, b⟩ := (okT_iff hj ht hr).1 hk
  refine (okT_iff hx ht hr).2 ⟨?_, ?_⟩
  · have := mul_le' ht h.a.2
    have := h.t.1
    have := h.le
    omega
  · have := mul_le' hr h.b.2
    have := h.r.1
    have := h.le
    omega
theorem stops_nar {x j : Jb} (h : Nar x j) (hj : j.good) (hx : x.good) : ∀ (n : Nat) (p0 p1 q0 q1 t r : Int), 0 ≤ t → 0 ≤ r → p0 ≤ q0 → q1 ≤ p1 → stopsP j (winS j).1 (winS j).2 n p0 p1 t r = true → stopsP x (winS x).1 (winS x).2 n q0 q1 t r = true := by
  have hw := winS_nar h hj
  have key : ∀ {p0 p1 q0 q1 : Int}, p0 ≤ q0 → q1 ≤ p1 → hasB (winS j).1 (winS j).2 p0 p1 = true → hasB (winS x).1 (winS x).2 q0 q1 = true := by
    intro p0 p1 q0 q1 h0 h1 hh
    have := (has_iff2 _ _ _ _).1 hh
    exact (has_iff2 _ _ _ _).2 (by omega)
  intro n
  induction n with
  | zero => intro p0 p1 q0 q1 t r _ _ h0 h1 hs; exact key h0 h1 hs
  | succ n ih =>
    intro p0 p1 q0 q1 t r ht hr h0 h1 hs
    unfold stopsP at hs ⊢
    simp only [Bool.or_eq_true, Bool.and_eq_true, List.all_eq_true] at hs ⊢
    have hu := h.u
    have hd := h.d
    rcases hs with hs | ⟨hs, ha⟩ | ⟨hs, ha⟩
    · exact .inl (key h0 h1 hs)
    · refine .inr (.inl ⟨okT_nar h hj hx (by omega) hr hs, fun y hy => ?_⟩)
      obtain ⟨z, hz, a, b⟩ := rdgs_nar (p0 := p0 + j.u0) (p1 := p1 + j.u1) (by omega) (by omega) h.me hy
      exact ih _ _ _ _ _ _ (by omega) hr a b (ha z hz)
    · refine .inr (.inr ⟨okT_nar h hj hx ht (by omega) hs, fun y hy => ?_⟩)
      obtain ⟨z, hz, a, b⟩ := rdgs_nar (p0 := p0 - j.d1) (p1 := p1 - j.d0) (by omega) (by omega) h.me hy
      exact ih _ _ _ _ _ _ ht (by omega) a b (ha z hz)
theorem guided_nar {x j : Jb} (h : Nar x j) (hj : j.good) (hx : x.good) : ((guidedJ j).2 = 0 → (guidedJ x).2 = 0 ∧ (guidedJ x).1 ≤ (guidedJ j).1) ∧ ((guidedJ x).2 = 0 ∨ (guidedJ x).2 = 11) := by
  unfold guidedJ
  rw [if_pos (check_of_good hj), if_pos (check_of_good hx)]
  have hp := h.p
  have reads : ∀ n, readsP j (winS j).1 (winS j).2 n j.p0 j.p1 0 0 = true → readsP x (winS x).1 (winS x).2 n x.p0 x.p1 0 0 = true := by
    intro n hr
    unfold readsP at *
    rw [List.all_eq_true] at *
    intro y hy
    obtain ⟨z, hz, a, b⟩ := rdgs_nar hp.1 hp.2 h.me hy
    exact stops_nar h hj hx n _ _ _ _ 0 0 (by omega) (by omega) a b (hr z hz)
  cases h1 : guidedF j with
  | none =>
    refine ⟨fun h => by simp at h, ?_⟩
    cases guidedF x with
    | none => exact .inr rfl
    | some m => exact .inl rfl
  | some n =>
    obtain ⟨a, _, b, _⟩ := first_some _ _ h1
    have a' := reads n a
    cases h2 : guidedF x with
    | none =>
      have := first_none _ _ h2 n (by omega) (by omega)
      rw [a'] at this
      cases this
    | some m =>
      obtain ⟨_, _, _, d⟩ := first_some _ _ h2
      refine ⟨fun _ => ⟨rfl, ?_⟩, .inl rfl⟩
      dsimp only
      rcases Nat.lt_or_ge n m with hlt | hge
      · have := d n (by omega) hlt
        rw [a'] at this
        cases this
      · omega
end Go.Proofs.Ythlpceoajhcliaa

/-
  Walks of functions, and plain laws (texts put together). No condition.
-/
import Derived.Test.YtlahdenlmmlplaaMVoiceAll1
import Derived.Test.YtlahdenlmmlplaaMVoiceAll2
import Derived.Test.YtlahdenlmmlplaaMVoiceAll3
import Derived.Test.YtlahdenlmmlplaaMVoiceAll4
import Derived.Test.YtlahdenlmmlplaaMVoiceAll5

section
/-
  Plain law: Beat and Keeps are just what all truths say.
-/
namespace Go.Proofs.Ytlahdenlmmlplaa
set_option linter.unusedSimpArgs false
set_option linter.unusedVariables false
open Go.RowKit

abbrev Q4 := Int × Int × Int × Int
def inQ (x y : Snd) (q : Q4) : Prop := (x.t0 ≤ q.1 ∧ q.1 ≤ x.t1) ∧ (x.s0 ≤ q.2.1 ∧ q.2.1 ≤ x.s1) ∧ (y.t0 ≤ q.2.2.1 ∧ q.2.2.1 ≤ y.t1) ∧ (y.s0 ≤ q.2.2.2 ∧ q.2.2.2 ≤ y.s1)
/-- What was gone through before a truth. -/
def befQ (t s u r : Int) (q : Q4) : Prop := q.1 < t ∨ (q.1 = t ∧ (q.2.1 < s ∨ (q.2.1 = s ∧ (q.2.2.1 < u ∨ (q.2.2.1 = u ∧ q.2.2.2 < r)))))
def PQ (x y : Snd) (t s u r : Int) (P : List Q4) : Prop := ∀ q, q ∈ P ↔ inQ x y q ∧ befQ t s u r q
theorem PQ.start (x y : Snd) : PQ x y x.t0 x.s0 y.t0 y.s0 [] := fun q => by
  unfold inQ befQ
  simp only [List.not_mem_nil, false_iff]
  omega
theorem PQ.as {x y : Snd} {t s u r t' s' u' r' : Int} {P : List Q4} (h : PQ x y t s u r P) (he : ∀ q : Q4, inQ x y q → (befQ t s u r q ↔ befQ t' s' u' r' q)) : PQ x y t' s' u' r' P := fun q => by
  rw [h q]
  constructor
  · rintro ⟨a, b⟩; exact ⟨a, (he q a).1 b⟩
  · rintro ⟨a, b⟩; exact ⟨a, (he q a).2 b⟩
theorem PQ.next {x y : Snd} {t s u r : Int} {P : List Q4} (h : PQ x y t s u r P) (hq : inQ x y (t, s, u, r)) : PQ x y t s u (r + 1) (P ++ [(t, s, u, r)]) := fun q => by
  obtain ⟨a, b, c, d⟩ := q
  rw [List.mem_append, h, List.mem_singleton]
  unfold inQ befQ at *
  simp only [Prod.mk.injEq]
  dsimp only at *
  omega
theorem PQ.endR {x y : Snd} {t s u r : Int} {P : List Q4} (h : PQ x y t s u r P) (hr : y.s1 < r) : PQ x y t s (u + 1) y.s0 P := h.as fun q hq => by unfold inQ at hq; unfold befQ; omega
theorem PQ.endU {x y : Snd} {t s u : Int} {P : List Q4} (h : PQ x y t s u y.s0 P) (hu : y.t1 < u) : PQ x y t (s + 1) y.t0 y.s0 P := h.as fun q hq => by unfold inQ at hq; unfold befQ; omega
theorem PQ.endS {x y : Snd} {t s : Int} {P : List Q4} (h : PQ x y t s y.t0 y.s0 P) (hs : x.s1 < s) : PQ x y (t + 1) x.s0 y.t0 y.s0 P := h.as fun q hq => by unfold inQ at hq; unfold befQ; omega
theorem PQ.done {x y : Snd} {t : Int} {P : List Q4} (h : PQ x y t x.s0 y.t0 y.s0 P) (ht : x.t1 < t) : ∀ q, q ∈ P ↔ inQ x y q := fun q => by
  rw [h q]
  constructor
  · exact fun a => a.1
  · intro a
    refine ⟨a, ?_⟩
    unfold inQ at a
    unfold befQ
    omega
def kQ (l : Lw) (due : Int) (q : Q4) : Bool := agreeP l due (q.2.2.1 - q.1) (q.2.2.2 - q.2.1)
def bQ (q : Q4) (p : Int) : Int := beatT q.1 q.2.1 q.2.2.1 q.2.2.2 p
structure FQ (l : Lw) (due : Int) (P : List Q4) (kept all : Int) (bl : List (Int × Int)) : Prop where
  n : bl.length = (l.press + 1).toNat
  ka : 0 ≤ kept ∧ kept ≤ all ∧ all = P.length
  kall : kept = all ↔ ∀ q ∈ P, kQ l due q = true
  k0 : kept = 0 ↔ ∀ q ∈ P, kQ l due q = false
  bd : ∀ (k : Nat) (v : Int × Int), bl[k]? = some v → P ≠ [] → (∀ q ∈ P, v.1 ≤ bQ q k ∧ bQ q k ≤ v.2) ∧ (∃ q ∈ P, bQ q k = v.1) ∧ ∃ q ∈ P, bQ q k = v.2
theorem FQ.start {l : Lw} {due : Int} {bl : List (Int × Int)} (h : bl.length = (l.press + 1).toNat) : FQ l due [] 0 0 bl :=
  ⟨h, by simp, by simp, by simp, fun k v _ h => absurd rfl h⟩
def newV (all : Int) (v : Int × Int) (n : Int) : Int × Int := (min (if all = 0 then n else v.1) n, max (if all = 0 then n else v.2) n)
theorem FQ.step {l : Lw} {due : Int} {P : List Q4} {kept all kept' : Int} {bl bl' : List (Int × Int)} (h : FQ l due P kept all bl) (q : Q4) (hk : kept' = kept + if kQ l due q = true then 1 else 0) (hn : bl'.length = bl.length)
    (hb : ∀ (k : Nat) (v : Int × Int), bl[k]? = some v → bl'[k]? = some (newV all v (bQ q k))) : FQ l due (P ++ [q]) kept' (all + 1) bl' := by
  obtain ⟨h1, ⟨h2, h3, h4⟩, h5, h6, h7⟩ := h
  refine ⟨by rw [hn, h1], ⟨by split at hk <;> omega, by split at hk <;> omega, by rw [List.length_append]; simp; omega⟩, ?_, ?_, ?_⟩
  · simp only [List.mem_append, List.mem_singleton]
    constructor
    · intro e z hz
      split at hk
      · rename_i hq
        rcases hz with hz | rfl
        · exact h5.1 (by omega) z hz
        · exact hq
      · omega
    · intro e
      rw [hk, if_pos (e q (.inr rfl)), h5.2 fun z hz => e z (.inl hz)]
  · simp only [List.mem_append, List.mem_singleton]
    constructor
    · intro e z hz
      split at hk
      · omega
      · rename_i hq
        rcases hz with hz | rfl
        · exact h6.1 (by omega) z hz
        · simpa using hq
    · intro e
      rw [hk, if_neg (by rw [e q (.inr rfl)]; simp), h6.2 fun z hz => e z (.inl hz)]
      rfl
  · intro k v' hv' _
    obtain ⟨v, hv⟩ : ∃ v, bl[k]? = some v := ⟨_, List.getElem?_eq_getElem (by have := (List.getElem?_eq_some_iff.1 hv').1; omega)⟩
    have e := hb k v hv
    rw [hv'] at e
    injection e with e
    subst e
    simp only [List.mem_append, List.mem_singleton]
    by_cases hP : P = []
    · subst hP
      have h0 : all = 0 := by simpa using h4
      unfold newV
      rw [if_pos h0, if_pos h0]
      refine ⟨fun z hz => ?_, ⟨q, .inr rfl, by dsimp only; omega⟩, ⟨q, .inr rfl, by dsimp only; omega⟩⟩
      rcases hz with hz | rfl
      · cases hz
      · dsimp only; omega
    · have h0 : all ≠ 0 := by
        have := List.length_pos_iff.2 hP
        omega
      obtain ⟨g1, ⟨qa, qa1, qa2⟩, qb, qb1, qb2⟩ := h7 k v hv hP
      unfold newV
      rw [if_neg h0, if_neg h0]
      refine ⟨fun z hz => ?_, ?_, ?_⟩
      · rcases hz with hz | rfl
        · have := g1 z hz
          dsimp only
          omega
        · dsimp only
          omega
      · dsimp only
        by_cases hm : v.1 ≤ bQ q k
        · exact ⟨qa, .inl qa1, by omega⟩
        · exact ⟨q, .inr rfl, by omega⟩
      · dsimp only
        by_cases hm : bQ q k ≤ v.2
        · exact ⟨qb, .inl qb1, by omega⟩
        · exact ⟨q, .inr rfl, by omega⟩
/-- The list of beats while a truth's beats are put in. -/
structure NB (all : Int) (q : Q4) (bl b : List (Int × Int)) (k : Nat) : Prop where
  n : b.length = bl.length
  a : ∀ (i : Nat) (v : Int × Int), i < k → bl[i]? = some v → b[i]? = some (newV all v (bQ q i))
  b : ∀ i : Nat, k ≤ i → b[i]? = bl[i]?
theorem NB.start (all : Int) (q : Q4) (bl : List (Int × Int)) : NB all q bl bl 0 := ⟨rfl, fun _ _ h => absurd h (Nat.not_lt_zero _), fun _ _ => rfl⟩
theorem NB.step {all : Int} {q : Q4} {bl b b' : List (Int × Int)} {k : Nat} {v v' : Int × Int} (h : NB all q bl b k) (hk : k < b.length) (hv : b[k]? = some v) (hb : b' = b.set k v') (he : v' = newV all v (bQ q k)) : NB all q bl b' (k + 1) := by
  subst hb he
  refine ⟨by rw [List.length_set, h.n], fun i u hi hu => ?_, fun i hi => ?_⟩
  · rcases Nat.lt_or_ge i k with h1 | h1
    · rw [List.getElem?_set_ne (by omega)]
      exact h.a i u h1 hu
    · obtain rfl : i = k := by omega
      rw [List.getElem?_set_self hk]
      rw [h.b i (Nat.le_refl _), hu] at hv
      injection hv with hv
      rw [hv]
  · rw [List.getElem?_set_ne (by omega)]
    exact h.b i (by omega)
theorem NB.done {all : Int} {q : Q4} {bl b : List (Int × Int)} {k : Nat} (h : NB all q bl b k) (hk : bl.length ≤ k) : ∀ (i : Nat) (v : Int × Int), bl[i]? = some v → b[i]? = some (newV all v (bQ q i)) := fun i v hv =>
  h.a i v (by have := (List.getElem?_eq_some_iff.1 hv).1; omega) hv
theorem newV_zero {all v0 v1 n : Int} (h : all = 0) : (min n n, max n n) = newV all (v0, v1) n := by unfold newV; rw [if_pos h, if_pos h]
theorem newV_some {all v0 v1 n : Int} (h : ¬ all = 0) : (min v0 n, max v1 n) = newV all (v0, v1) n := by unfold newV; rw [if_neg h, if_neg h]
theorem bQ_in {x y : Snd} {q : Q4} (h : inQ x y q) {p : Int} (hp : 0 ≤ p) : (beatP x y p).1 ≤ bQ q p ∧ bQ q p ≤ (beatP x y p).2 := by
  obtain ⟨⟨a1, a2⟩, ⟨b1, b2⟩, ⟨c1, c2⟩, d1, d2⟩ := h
  have m1 : x.s0 * p ≤ q.2.1 * p := Int.mul_le_mul_of_nonneg_right b1 hp
  have m2 : q.2.1 * p ≤ x.s1 * p := Int.mul_le_mul_of_nonneg_right b2 hp
  have m3 : y.s0 * p ≤ q.2.2.2 * p := Int.mul_le_mul_of_nonneg_right d1 hp
  have m4 : q.2.2.2 * p ≤ y.s1 * p := Int.mul_le_mul_of_nonneg_right d2 hp
  unfold beatP riseP bQ beatT
  rw [Int.mul_comm p y.s0, Int.mul_comm p y.s1, Int.mul_comm p x.s0, Int.mul_comm p x.s1]
  dsimp only
  omega
theorem bQ_lo (x y : Snd) (p : Int) : bQ (x.t1, x.s1, y.t0, y.s0) p = (beatP x y p).1 := by
  unfold beatP riseP bQ beatT
  rw [Int.mul_comm p y.s0, Int.mul_comm p x.s1]
  dsimp only
  omega
theorem bQ_hi (x y : Snd) (p : Int) : bQ (x.t0, x.s0, y.t1, y.s1) p = (beatP x y p).2 := by
  unfold beatP riseP bQ beatT
  rw [Int.mul_comm p y.s1, Int.mul_comm p x.s0]
  dsimp only
  omega
theorem kQ_iff {l : Lw} {due : Int} {q : Q4} : kQ l due q = true ↔ ∀ p : Int, 0 ≤ p → p ≤ l.press → -l.span ≤ bQ q p - due ∧ bQ q p - due ≤ l.span := by
  unfold kQ agreeP
  rw [List.all_eq_true]
  constructor
  · intro h p h1 h2
    have h3 := h p.toNat (List.mem_range.2 (by omega))
    rw [show ((p.toNat : Nat) : Int) = p by omega, ← beatT_eq] at h3
    simpa [withinB, bQ] using h3
  · intro h k hk
    have h3 := h k (by omega) (by have := List.mem_range.1 hk; omega)
    rw [← beatT_eq]
    simpa [withinB, bQ] using h3
theorem offL_le (due b : Int) : ∀ (l : List (Int × Int)) (n : Int), offL due l n ≤ b ↔ n ≤ b ∧ ∀ x ∈ l, due - x.1 ≤ b ∧ x.2 - due ≤ b
  | [], n => by simp [offL]
  | x :: r, n => by
    unfold offL
    rw [offL_le due b r]
    constructor
    · rintro ⟨h1, h2⟩
      refine ⟨by omega, fun z hz => ?_⟩
      rcases List.mem_cons.1 hz with rfl | hz
      · omega
      · exact h2 z hz
    · rintro ⟨h1, h2⟩
      have := h2 x List.mem_cons_self
      exact ⟨by omega, fun z hz => h2 z (List.mem_cons_of_mem _ hz)⟩
theorem offP_le {l : Lw} {due b : Int} {x y : Snd} (hb : 0 ≤ b) : offP l due x y ≤ b ↔ ∀ p : Int, 0 ≤ p → p ≤ l.press → due - (beatP x y p).1 ≤ b ∧ (beatP x y p).2 - due ≤ b := by
  unfold offP
  rw [offL_le]
  constructor
  · rintro ⟨_, h⟩ p h1 h2
    exact h _ (beatsL_mem.2 ⟨p, h1, h2, rfl⟩)
  · intro h
    refine ⟨hb, fun z hz => ?_⟩
    obtain ⟨p, h1, h2, rfl⟩ := beatsL_mem.1 hz
    exact h p h1 h2
theorem inQ_lo {x y : Snd} (gx : x.good) (gy : y.good) : inQ x y (x.t1, x.s1, y.t0, y.s0) ∧ inQ x y (x.t0, x.s0, y.t1, y.s1) := by
  obtain ⟨a1, a2⟩ := gx
  obtain ⟨b1, b2⟩ := gy
  unfold inQ
  dsimp only
  omega
/-- All truths keep the law just if the beats cannot be further away than the span. -/
theorem sure_iff {l : Lw} {due : Int} {x y : Snd} (gx : x.good) (gy : y.good) (hs : 0 ≤ l.span) : offP l due x y ≤ l.span ↔ ∀ q, inQ x y q → kQ l due q = true := by
  rw [offP_le hs]
  constructor
  · intro h q hq
    rw [kQ_iff]
    intro p h1 h2
    have h3 := h p h1 h2
    have h4 := bQ_in hq h1
    omega
  · intro h p h1 h2
    obtain ⟨e1, e2⟩ := inQ_lo gx gy
    have h3 := kQ_iff.1 (h _ e1) p h1 h2
    have h4 := kQ_iff.1 (h _ e2) p h1 h2
    rw [bQ_lo] at h3
    rw [bQ_hi] at h4
    omega
theorem mem_allOf {x : Snd} {v : Int × Int} : v ∈ allOf x ↔ (x.t0 ≤ v.1 ∧ v.1 ≤ x.t1) ∧ x.s0 ≤ v.2 ∧ v.2 ≤ x.s1 := mem_allL
theorem never_iff {l : Lw} {due : Int} {x y : Snd} : (nowL l due [x, y]).isEmpty = true ↔ ∀ q, inQ x y q → kQ l due q = false := by
  show ((allOf y).filter fun v => (allOf x).any fun z => agreeP l due (v.1 - z.1) (v.2 - z.2)).isEmpty = true ↔ _
  rw [List.isEmpty_iff, List.filter_eq_nil_iff]
  constructor
  · intro h q hq
    obtain ⟨t, s, u, r⟩ := q
    unfold inQ at hq
    dsimp only at hq
    have h1 := h (u, r) (mem_allOf.2 ⟨hq.2.2.1, hq.2.2.2⟩)
    unfold kQ
    dsimp only
    rcases Bool.eq_false_or_eq_true (agreeP l due (u - t) (r - s)) with h2 | h2
    · exact absurd (List.any_eq_true.2 ⟨(t, s), mem_allOf.2 ⟨hq.1, hq.2.1⟩, h2⟩) h1
    · exact h2
  · intro h v hv hn
    obtain ⟨z, hz, ha⟩ := List.any_eq_true.1 hn
    have h1 := h (z.1, z.2, v.1, v.2) ⟨(mem_allOf.1 hz).1, (mem_allOf.1 hz).2, (mem_allOf.1 hv).1, (mem_allOf.1 hv).2⟩
    unfold kQ at h1
    dsimp only at h1
    rw [h1] at ha
    cases ha
theorem surelyL_two (l : Lw) (due : Int) (x y : Snd) : surelyL l due [x, y] = decide (offP l due x y ≤ l.span) := by simp [surelyL]
theorem keeps_always {l : Lw} {due : Int} {x y : Snd} (gx : x.good) (gy : y.good) (hs : 0 ≤ l.span) : keepsP l due [x, y] = 1 ↔ ∀ q, inQ x y q → kQ l due q = true := by
  rw [← sure_iff gx gy hs]
  unfold keepsP
  rw [surelyL_two]
  constructor
  · intro h
    split at h
    · rename_i h1; simpa using h1
    · split at h <;> omega
  · intro h
    rw [if_pos (by simpa using h)]
theorem keeps_never {l : Lw} {due : Int} {x y : Snd} (gx : x.good) (gy : y.good) (hs : 0 ≤ l.span) : keepsP l due [x, y] = 2 ↔ ∀ q, inQ x y q → kQ l due q = false := by
  have h0 := sure_iff (l := l) (due := due) gx gy hs
  rw [← never_iff]
  unfold keepsP
  rw [surelyL_two]
  constructor
  · intro h
    split at h
    · omega
    · split at h
      · rename_i h1; exact h1
      · omega
  · intro h
    rw [if_neg, if_pos h]
    simp only [decide_eq_true_eq]
    intro h1
    have h2 := h0.1 h1 _ (inQ_lo gx gy).1
    rw [never_iff.1 h _ (inQ_lo gx gy).1] at h2
    cases h2
theorem FQ.keeps {l : Lw} {due : Int} {x y : Snd} {P : List Q4} {kept all : Int} {bl : List (Int × Int)} (h : FQ l due P kept all bl) (hP : ∀ q, q ∈ P ↔ inQ x y q) (gx : x.good) (gy : y.good) (hs : 0 ≤ l.span) :
    (keepsP l due [x, y] = 1 ↔ kept = all) ∧ (keepsP l due [x, y] = 2 ↔ kept = 0) := by
  rw [keeps_always gx gy hs, keeps_never gx gy hs, h.kall, h.k0]
  simp only [hP]
  constructor <;> first | exact Iff.rfl | trivial
theorem FQ.beats {l : Lw} {due : Int} {x y : Snd} {P : List Q4} {kept all : Int} {bl : List (Int × Int)} (h : FQ l due P kept all bl) (hP : ∀ q, q ∈ P ↔ inQ x y q) (gx : x.good) (gy : y.good) : bl = beatsL l x y := by
  apply List.ext_getElem?
  intro k
  rcases Nat.lt_or_ge k (l.press + 1).toNat with hk | hk
  · obtain ⟨v, hv⟩ : ∃ v, bl[k]? = some v := ⟨_, List.getElem?_eq_getElem (by rw [h.n]; exact hk)⟩
    have e : (beatsL l x y)[k]? = some (beatP x y (k : Int)) := by
      unfold beatsL
      rw [List.getElem?_map, List.getElem?_range hk]
      rfl
    rw [hv, e]
    obtain ⟨e1, e2⟩ := inQ_lo gx gy
    have m1 := (hP _).2 e1
    have m2 := (hP _).2 e2
    obtain ⟨g1, ⟨qa, qa1, qa2⟩, qb, qb1, qb2⟩ := h.bd k v hv (List.ne_nil_of_mem m1)
    have b1 := (g1 _ m1).1
    have b2 := (g1 _ m2).2
    rw [bQ_lo] at b1
    rw [bQ_hi] at b2
    have b3 := bQ_in ((hP _).1 qa1) (p := (k : Int)) (by omega)
    have b4 := bQ_in ((hP _).1 qb1) (p := (k : Int)) (by omega)
    congr 1
    apply Prod.ext
    · show v.1 = (beatP x y k).1
      omega
    · show v.2 = (beatP x y k).2
      omega
  · rw [List.getElem?_eq_none (by rw [h.n]; exact hk), List.getElem?_eq_none (by rw [beatsL_length]; exact hk)]
end Go.Proofs.Ytlahdenlmmlplaa
end

section
/-
  law05: VoiceAll, walked.
-/
namespace Go.Proofs.Ytlahdenlmmlplaa
set_option linter.unusedSimpArgs false
set_option linter.unusedVariables false
open Go.RowKit

theorem madeCells_rc (m : Nat) : madeCells (Value.cells (.agg #[.int .i64 0, .int .i64 0])) (m * 2) = (rc (List.replicate m (0, 0)) ++ []).toArray := by
  have hr : ∀ u ∈ rc (List.replicate m (0, 0)), u = .int .i64 0 := by
    intro u hu
    obtain ⟨p, hp, hu⟩ := List.mem_flatMap.1 hu
    rw [List.eq_of_mem_replicate hp] at hu
    simpa using hu
  apply Array.ext
  · simp [madeCells, rc_length]
  · intro i h1 h2
    have e2 : (rc (List.replicate m (0, 0)) ++ []).toArray[i] = .int .i64 0 := by
      have := List.getElem_mem (l := rc (List.replicate m (0, 0))) (n := i) (by simpa using h2)
      simpa using hr _ this
    rw [e2]
    have e3 : i % 2 = 0 ∨ i % 2 = 1 := by omega
    simp only [madeCells, Array.getElem_map, Array.getElem_range, Value.cells]
    rcases e3 with e3 | e3 <;> simp [e3]
section
variable {P : Program} {op : Oper} {a : Act} {K : Act → World → Prop} {Q : Exit → Act → World → Prop} {w0 w : World} {ex : Nat → Prop} {L : List (Nat × BA)} {E : List (Nat × Value)} {df : List Deferred} {t n : Nat}
theorem ow_ms2 {ty e m : Nat} {x y : Operand} (M : Mem w0 ex w L) (T : TmD df a n E) (ho : op.op = .makeSlice ty x y) (hd : op.dst = some t) (hf : freshE E t = true) (hn : Nat.blt t n = true) (hx : a.eval x = .int .i64 (m : Int)) (hy : a.eval y = .int .i64 (m : Int))
    (ht : P.underlying ty = some (.slice e)) (hinfo : (P.info? e).map (fun i => (i.zero, i.size, i.bytes)) = some (some (.agg #[.int .i64 0, .int .i64 0]), 2, 16)) (hm : m ≤ 1000000)
    (h : ∀ g w' a', Mem w0 ex w' ((g, .cells (rc (List.replicate m (0, 0)) ++ [])) :: L) → TmD df a' n ((t, .slice (some ⟨g, 0, none⟩) m m) :: E) → K a' w') : op.wp P a w K Q := by
  obtain ⟨i, hi, hz, hs, hb⟩ := info_parts hinfo
  have hr := run_makeSlice (P := P) w ty e i _ ht hi hz .i64 .i64 (m : Int) (m : Int) (by omega) (Int.le_refl _) (by rw [hs]; omega) (by rw [hb]; omega) (by omega)
  rw [hs, Int.toNat_natCast, madeCells_rc] at hr
  unfold Oper.wp execOp
  simp only [ho, hx, hy, hr, Sem.run_bind, Result.andThen_ok, Sem.run_pure]
  rw [Oper.upon_value, hd]
  exact h _ _ _ (M.new _ _) (T.put hn hf _)
end
/-- A box with one tongue of each kind. -/
def allB (b : Bx) (x y : Snd) : Bx := { b with lows := [x], highs := [y] }
theorem allB_good {b : Bx} {x y : Snd} (h : b.good) (gx : x.good) (gy : y.good) : (allB b x y).good := ⟨h.law, h.note, h.due, ⟨by show 1 ≤ 4; omega, fun z hz => by simp [allB] at hz; rw [hz]; exact gx⟩, ⟨by show 1 ≤ 5; omega, fun z hz => by simp [allB] at hz; rw [hz]; exact gy⟩, h.job⟩
theorem allB_check {b : Bx} {x y : Snd} (h : b.good) (gx : x.good) (gy : y.good) : checkPB (allB b x y) 0 0 = 0 := by
  unfold checkPB
  rw [if_neg (by rw [checkB_good.2 (allB_good h gx gy)]; simp), if_neg (by simp [allB])]
theorem Beat_all (b : Bx) (x y : Snd) (A : Option Addr) (c : Nat) (B : Option Addr) (d : Nat) (w : World) (h : b.good) (gx : x.good) (gy : y.good) (hA : Rd w w.heap.size 4 A 1 (sc [x])) (hB : Rd w w.heap.size 4 B 1 (sc [y])) :
    Calls Try.prog 21 #[bxV (allB b x y) A c B d, .int .i64 0, .int .i64 0] w fun e w' => ∃ A' c' I, e = .returned (.tuple #[.slice A' (beatsL b.law x y).length c', .int .i64 0]) ∧ (∃ b1 o1, ∀ (w : World) (ex : Nat → Prop), Sp w ex I A' (beatsL b.law x y).length 2 b1 o1 (rc (beatsL b.law x y))) ∧ Mem w noEx w' I :=
  Calls.mono (Beat_any (allB b x y) A c B d 0 0 w hA hB (by show 1 ≤ 1000000; omega) (by show 1 ≤ 1000000; omega)) fun e w' h9 => by
    obtain ⟨A', c', I, rfl, h2, h3⟩ := h9
    have hc := allB_check h gx gy
    have hb : beatE (allB b x y) 0 0 = beatsL b.law x y := by unfold beatE; rw [if_pos hc]; rfl
    rw [hb] at h2
    rw [hb, hc]
    exact ⟨A', c', I, rfl, h2.spV (rc_length _), h3⟩
theorem Keeps_all (b : Bx) (x y : Snd) (A : Option Addr) (c : Nat) (B : Option Addr) (d : Nat) (w : World) (h : b.good) (gx : x.good) (gy : y.good) (hA : Rd w w.heap.size 4 A 1 (sc [x])) (hB : Rd w w.heap.size 4 B 1 (sc [y])) :
    Calls Try.prog 22 #[bxV (allB b x y) A c B d, .int .i64 0, .int .i64 0] w fun e w' => e = .returned (.tuple #[.int .i64 (keepsP b.law b.due [x, y]), .int .i64 0]) ∧ Below w.heap.size w w' := by
  have h9 := Keeps_any (allB b x y) A c B d 0 0 w hA hB (by show 1 ≤ 1000000; omega) (by show 1 ≤ 1000000; omega)
  have hc := allB_check h gx gy
  have hb : keepsE (allB b x y) 0 0 = keepsP b.law b.due [x, y] := by unfold keepsE; rw [if_pos hc]; rfl
  rw [hb, hc] at h9
  exact h9


set_option maxRecDepth 100000 in
set_option maxHeartbeats 4000000 in
theorem VoiceAll_any (D : Option Addr) (n d : Nat) (l : List Int) (w : World) (hl : Rd w w.heap.size 1 D n (ic l)) (hm : n ≤ 9223372036854775807) :
    Calls Try.prog 4 #[.slice D n d] w fun e w' => e = .returned (.bool true) ∧ Below w.heap.size w w' := by
  have hll := hl.len1
  obtain ⟨bI, oI, SI⟩ := Sp.old hl
  refine px_enter noEx Try.func4 rfl 213 rfl [.slice D n d] rfl rfl (Mem.init w _) ?_
  intro ac wc T M
  refine wp_seq ?_
  refine wp_region_lit ?_
  refine l_q T rfl rfl rfl rfl (rn_assign rfl evc) ?_; clear T ac; intro ac T
  refine wpList_nil ?_
  replace T := T.pick [1] rfl
  refine nm_then ?_
  refine wp_seq ?_
  refine wp_region_lit ?_
  refine l_q T rfl rfl rfl rfl (rn_move rfl (T.ev 0 rfl)) ?_; clear T ac; intro ac T
  refine l_w rfl ?_; intro K hK
  refine ow_call (first := []) (cap := []) T rfl rfl rfl rfl evf (.cons (T.ev 0 rfl) .nil) Try.func12 rfl rfl ?_
  refine Calls.mono (newPot_any _ _ _ l _ (SI.rd M (List.nil_sublist _)) (by omega)) ?_
  clear T
  rintro e wc ⟨bpu1, su1, hsu1, rfl, N⟩
  intro ac T
  replace M := M.join N; clear N
  replace M := M.mask [true] rfl
  refine sh_out hK _ _ ?_; clear hK K
  refine l_q T rfl rfl rfl rfl (rn_assign rfl (T.ev 0 rfl)) ?_; clear T ac; intro ac T
  refine wpList_nil ?_
  replace T := T.pick [0] rfl
  refine nm_then ?_
  refine wp_seq ?_
  refine wp_region_lit ?_
  refine l_q T rfl rfl rfl rfl (rn_move rfl (T.ev 0 rfl)) ?_; clear T ac; intro ac T
  refine l_w rfl ?_; intro K hK
  refine ow_call (first := []) (cap := []) T rfl rfl rfl rfl evf (.cons (T.ev 0 rfl) (.cons evc (.cons evc (.cons evc .nil)))) Try.func18 rfl rfl ?_
  refine Calls.mono (boxOf_any _ bpu1 0 0 0 _ (by omega) (by omega) (by omega) (M.nth 0 rfl) hsu1) ?_
  clear T
  rintro e wc ⟨bu2, Au2, cu2, Bu2, du2, su2, Iu2, rfl, hmu2, hsu2, SAu2, SBu2, N⟩
  intro ac T
  obtain ⟨b1u2, o1u2, SAu2⟩ := SAu2
  replace SAu2 := SAu2 w noEx
  obtain ⟨b2u2, o2u2, SBu2⟩ := SBu2
  replace SBu2 := SBu2 w noEx
  replace M := (M.joinW .head N).swapI
  clear N
  replace M : Mem w noEx wc ((bpu1, .cells [.int .u64 su2]) :: Iu2) := M
  have hgu2 := hmu2.good
  have hstu2 := step_bd (notes := 3) hmu2.law.step hmu2.note
  have hnou2 := hmu2.note
  have ⟨hfu2, hzu2, hpu2, hqu2⟩ := hmu2.law
  dsimp only at hstu2 hfu2 hpu2 hqu2
  refine sh_out hK _ _ ?_; clear hK K
  refine l_w rfl ?_; intro K hK
  refine ow_al M T rfl rfl rfl rfl ?_; clear M T; intro g1 wc ac M T
  refine sh_out hK _ _ ?_; clear hK K
  refine l_w rfl ?_; intro K hK
  refine ow_stO M T rfl rfl (T.ev 0 rfl) (T.ev 1 rfl) rfl .head rfl (by simp) rfl (by kernel_rfl) ?_; clear M T; intro wc ac M T
  refine sh_out hK _ _ ?_; clear hK K
  refine wpList_nil ?_
  replace T := T.pick [0, 3] rfl
  refine nm_then ?_
  refine wp_seq ?_
  refine wp_region_lit ?_
  refine l_q T rfl rfl rfl rfl (rn_move rfl (T.ev 1 rfl)) ?_; clear T ac; intro ac T
  refine l_w rfl ?_; intro K hK
  refine ow_call (first := []) (cap := []) T rfl rfl rfl rfl evf (.cons (T.ev 0 rfl) (.cons evc (.cons evc .nil))) Try.func19 rfl rfl ?_
  refine Calls.mono (within_pot _ bpu1 (-5) 5 _ (by omega) (by omega) (by omega) (M.nth 1 rfl) hsu2) ?_
  clear T
  rintro e wc ⟨xu3, su3, hxu3, hsu3, rfl, hgr, hbk⟩
  intro ac T
  replace M := M.callC (cs' := [.int .u64 su3]) (.tail .head) hgr hbk
  clear hgr hbk
  refine sh_out hK _ _ ?_; clear hK K
  refine l_q T rfl rfl rfl rfl (rn_assign rfl (T.ev 0 rfl)) ?_; clear T ac; intro ac T
  refine wpList_nil ?_
  replace T := T.pick [0, 3, 4] rfl
  refine nm_then ?_
  refine wp_seq ?_
  refine wp_region_lit ?_
  refine l_q (v := (.pointer (some ⟨g1, 0, none⟩))) T rfl rfl rfl rfl (rn_fieldAddr (off := 0) rfl (T.ev 1 rfl) (fun _ _ _ => by kernel_rfl)) ?_; clear T ac; intro ac T
  refine l_q (v := (.pointer (some ⟨g1, 0, none⟩))) T rfl rfl rfl rfl (rn_fieldAddr (off := 0) rfl (T.ev 0 rfl) (fun _ _ _ => by kernel_rfl)) ?_; clear T ac; intro ac T
  refine l_q T rfl rfl rfl rfl (rn_one (Mem.nth M 0 rfl) rfl (T.ev 0 rfl) rfl) ?_; clear T ac; intro ac T
  refine l_q (v := (.pointer (some ⟨g1, 0, none⟩))) T rfl rfl rfl rfl (rn_fieldAddr (off := 0) rfl (T.ev 4 rfl) (fun _ _ _ => by kernel_rfl)) ?_; clear T ac; intro ac T
  refine l_q (v := (.pointer (some ⟨g1, 1, none⟩))) T rfl rfl rfl rfl (rn_fieldAddr (off := 1) rfl (T.ev 0 rfl) (fun _ _ _ => by kernel_rfl)) ?_; clear T ac; intro ac T
  refine l_q T rfl rfl rfl rfl (rn_one (Mem.nth M 0 rfl) rfl (T.ev 0 rfl) rfl) ?_; clear T ac; intro ac T
  refine l_q (v := (.pointer (some ⟨g1, 4, none⟩))) T rfl rfl rfl rfl (rn_fieldAddr (off := 4) rfl (T.ev 7 rfl) (fun _ _ _ => by kernel_rfl)) ?_; clear T ac; intro ac T
  refine l_q T rfl rfl rfl rfl (rn_one (Mem.nth M 0 rfl) rfl (T.ev 0 rfl) rfl) ?_; clear T ac; intro ac T
  refine l_q T rfl rfl rfl rfl (rn_mul rfl (T.ev 2 rfl) (T.ev 0 rfl) (by omega)) ?_; clear T ac; intro ac T
  refine l_q T rfl rfl rfl rfl (rn_add rfl (T.ev 6 rfl) (T.ev 0 rfl) (by omega)) ?_; clear T ac; intro ac T
  refine l_q T rfl rfl rfl rfl (rn_assign rfl (T.ev 0 rfl)) ?_; clear T ac; intro ac T
  refine wpList_nil ?_
  replace T := T.pick [0, 11, 12, 13] rfl
  refine nm_then ?_
  refine wp_seq ?_
  refine wp_region_lit ?_
  refine l_q T rfl rfl rfl rfl (rn_move rfl (T.ev 3 rfl)) ?_; clear T ac; intro ac T
  refine l_q T rfl rfl rfl rfl (rn_move rfl (T.ev 2 rfl)) ?_; clear T ac; intro ac T
  refine l_w rfl ?_; intro K hK
  refine ow_call (first := []) (cap := []) T rfl rfl rfl rfl evf (.cons (T.ev 1 rfl) (.cons (T.ev 0 rfl) (.cons evc .nil))) Try.func20 rfl rfl ?_
  refine Calls.mono (soundOf_any _ bpu1 xu3 2 _ (by omega) (by omega) (M.nth 1 rfl) hsu3) ?_
  clear T
  rintro e wc ⟨xu4, su4, hxu4, hsu4, rfl, hgr, hbk⟩
  intro ac T
  replace M := M.callC (cs' := [.int .u64 su4]) (.tail .head) hgr hbk
  clear hgr hbk
  refine sh_out hK _ _ ?_; clear hK K
  refine l_w rfl ?_; intro K hK
  refine ow_bs (e := 48) [.int .i64 xu4.t0, .int .i64 xu4.t1, .int .i64 xu4.s0, .int .i64 xu4.s1] M T rfl rfl rfl rfl (.cons (T.ev 0 rfl) .nil) (fun _ => by kernel_rfl) ?_; clear M T; intro g2 wc ac M T
  refine sh_out hK _ _ ?_; clear hK K
  refine l_q (v := (.pointer (some ⟨g1, 5, none⟩))) T rfl rfl rfl rfl (rn_fieldAddr (off := 5) rfl (T.ev 6 rfl) (fun _ _ _ => by kernel_rfl)) ?_; clear T ac; intro ac T
  refine l_w rfl ?_; intro K hK
  refine ow_stO M T rfl rfl (T.ev 0 rfl) (T.ev 1 rfl) rfl (.tail .head) rfl (by simp) rfl (by kernel_rfl) ?_; clear M T; intro wc ac M T
  refine sh_out hK _ _ ?_; clear hK K
  refine wpList_nil ?_
  replace T := T.pick [5, 6, 7, 8] rfl
  refine nm_then ?_
  refine wp_seq ?_
  refine wp_region_lit ?_
  refine l_q T rfl rfl rfl rfl (rn_move rfl (T.ev 3 rfl)) ?_; clear T ac; intro ac T
  refine l_q T rfl rfl rfl rfl (rn_move rfl (T.ev 2 rfl)) ?_; clear T ac; intro ac T
  refine l_q T rfl rfl rfl rfl (rn_move rfl (T.ev 2 rfl)) ?_; clear T ac; intro ac T
  refine l_q T rfl rfl rfl rfl (rn_add rfl (T.ev 1 rfl) (T.ev 0 rfl) (by omega)) ?_; clear T ac; intro ac T
  refine l_q T rfl rfl rfl rfl (rn_move rfl (T.ev 7 rfl)) ?_; clear T ac; intro ac T
  refine l_q (v := (.pointer (some ⟨g1, 0, none⟩))) T rfl rfl rfl rfl (rn_fieldAddr (off := 0) rfl (T.ev 7 rfl) (fun _ _ _ => by kernel_rfl)) ?_; clear T ac; intro ac T
  refine l_q (v := (.pointer (some ⟨g1, 2, none⟩))) T rfl rfl rfl rfl (rn_fieldAddr (off := 2) rfl (T.ev 0 rfl) (fun _ _ _ => by kernel_rfl)) ?_; clear T ac; intro ac T
  refine l_q T rfl rfl rfl rfl (rn_one (Mem.nth M 1 rfl) rfl (T.ev 0 rfl) rfl) ?_; clear T ac; intro ac T
  refine l_q T rfl rfl rfl rfl (rn_neg rfl (T.ev 0 rfl) (by omega)) ?_; clear T ac; intro ac T
  refine l_q T rfl rfl rfl rfl (rn_sub rfl (T.ev 0 rfl) evc (by omega)) ?_; clear T ac; intro ac T
  refine l_q (v := (.pointer (some ⟨g1, 0, none⟩))) T rfl rfl rfl rfl (rn_fieldAddr (off := 0) rfl (T.ev 12 rfl) (fun _ _ _ => by kernel_rfl)) ?_; clear T ac; intro ac T
  refine l_q (v := (.pointer (some ⟨g1, 2, none⟩))) T rfl rfl rfl rfl (rn_fieldAddr (off := 2) rfl (T.ev 0 rfl) (fun _ _ _ => by kernel_rfl)) ?_; clear T ac; intro ac T
  refine l_q T rfl rfl rfl rfl (rn_one (Mem.nth M 1 rfl) rfl (T.ev 0 rfl) rfl) ?_; clear T ac; intro ac T
  refine l_q T rfl rfl rfl rfl (rn_add rfl (T.ev 0 rfl) evc (by omega)) ?_; clear T ac; intro ac T
  refine l_w rfl ?_; intro K hK
  refine ow_call (first := []) (cap := []) T rfl rfl rfl rfl evf (.cons (T.ev 9 rfl) (.cons (T.ev 4 rfl) (.cons (T.ev 0 rfl) .nil))) Try.func19 rfl rfl ?_
  refine Calls.mono (within_pot _ bpu1 ((-bu2.span) - 2) (bu2.span + 2) _ (by omega) (by omega) (by omega) (M.nth 2 rfl) hsu4) ?_
  clear T
  rintro e wc ⟨xu5, su5, hxu5, hsu5, rfl, hgr, hbk⟩
  intro ac T
  replace M := M.callC (cs' := [.int .u64 su5]) (.tail (.tail .head)) hgr hbk
  clear hgr hbk
  refine sh_out hK _ _ ?_; clear hK K
  refine l_q T rfl rfl rfl rfl (rn_add rfl (T.ev 11 rfl) (T.ev 0 rfl) (by omega)) ?_; clear T ac; intro ac T
  refine l_w rfl ?_; intro K hK
  refine ow_call (first := []) (cap := []) T rfl rfl rfl rfl evf (.cons (T.ev 15 rfl) (.cons (T.ev 0 rfl) (.cons evc .nil))) Try.func20 rfl rfl ?_
  refine Calls.mono (soundOf_any _ bpu1 ((xu3 + (bu2.first + (bu2.step * bu2.note))) + xu5) 2 _ (by omega) (by omega) (M.nth 2 rfl) hsu5) ?_
  clear T
  rintro e wc ⟨xu6, su6, hxu6, hsu6, rfl, hgr, hbk⟩
  intro ac T
  replace M := M.callC (cs' := [.int .u64 su6]) (.tail (.tail .head)) hgr hbk
  clear hgr hbk
  refine sh_out hK _ _ ?_; clear hK K
  refine l_w rfl ?_; intro K hK
  refine ow_bs (e := 48) [.int .i64 xu6.t0, .int .i64 xu6.t1, .int .i64 xu6.s0, .int .i64 xu6.s1] M T rfl rfl rfl rfl (.cons (T.ev 0 rfl) .nil) (fun _ => by kernel_rfl) ?_; clear M T; intro g3 wc ac M T
  refine sh_out hK _ _ ?_; clear hK K
  refine l_q (v := (.pointer (some ⟨g1, 6, none⟩))) T rfl rfl rfl rfl (rn_fieldAddr (off := 6) rfl (T.ev 20 rfl) (fun _ _ _ => by kernel_rfl)) ?_; clear T ac; intro ac T
  refine l_w rfl ?_; intro K hK
  refine ow_stO M T rfl rfl (T.ev 0 rfl) (T.ev 1 rfl) rfl (.tail (.tail .head)) rfl (by simp) rfl (by kernel_rfl) ?_; clear M T; intro wc ac M T
  refine sh_out hK _ _ ?_; clear hK K
  refine wpList_nil ?_
  replace T := T.pick [19, 21] rfl
  replace M := M.mask [true, true, true, false] rfl
  refine nm_then ?_
  refine wp_seq ?_
  refine wp_region_lit ?_
  refine l_q T rfl rfl rfl rfl (rn_rowO (Mem.nth M 2 rfl) rfl (T.ev 1 rfl) rfl) ?_; clear T ac; intro ac T
  refine l_w rfl ?_; intro K hK
  refine ow_call (first := []) (cap := []) T rfl rfl rfl rfl evf (.cons (T.ev 0 rfl) (.cons evc (.cons evc .nil))) Try.func21 rfl rfl ?_
  refine Calls.mono (Beat_all bu2 xu4 xu6 _ _ _ _ _ hgu2 hxu4 hxu6 (M.rdOwn (nthE_mem (i := 1) rfl) rfl rfl) (M.rdOwn (nthE_mem (i := 0) rfl) rfl rfl)) ?_
  clear T
  rintro e wc ⟨Au7, cu7, Iu7, rfl, Su7, N⟩
  intro ac T
  obtain ⟨lbu7, hlbu7⟩ : ∃ q, q = beatsL bu2.law xu4 xu6 := ⟨_, rfl⟩
  rw [← hlbu7] at Su7
  obtain ⟨bu7, ou7, Su7⟩ := Su7
  replace Su7 := Su7 w noEx
  have hldu7 : lbu7.length = (bu2.press + 1).toNat := by rw [hlbu7, beatsL_length]
  have hlcu7 : ((lbu7.length : Nat) : Int) = bu2.press + 1 := by omega
  replace M := (M.join N).swapI
  clear N
  replace M : Mem w noEx wc ((g3, .cells [.int .i64 xu6.t0, .int .i64 xu6.t1, .int .i64 xu6.s0, .int .i64 xu6.s1]) :: (g2, .cells [.int .i64 xu4.t0, .int .i64 xu4.t1, .int .i64 xu4.s0, .int .i64 xu4.s1]) :: (g1, .cells [.int .i64 bu2.first, .int .i64 bu2.step, .int .i64 bu2.span, .int .i64 bu2.press, .int .i64 bu2.note, .slice (some ⟨g2, 0, none⟩) 1 1, .slice (some ⟨g3, 0, none⟩) 1 1, .int .i64 bu2.t0, .int .i64 bu2.t1, .int .i64 bu2.r0, .int .i64 bu2.r1, .int .i64 bu2.u0, .int .i64 bu2.u1, .int .i64 bu2.d0, .int .i64 bu2.d1, .int .i64 bu2.a0, .int .i64 bu2.a1, .int .i64 bu2.b0, .int .i64 bu2.b1, .int .i64 bu2.le, .int .i64 bu2.me]) :: (Iu2 ++ Iu7)) := M
  rw [← hlbu7] at T
  refine sh_out hK _ _ ?_; clear hK K
  refine l_q T rfl rfl rfl rfl (rn_move rfl (T.ev 0 rfl)) ?_; clear T ac; intro ac T
  refine l_q T rfl rfl rfl rfl (rn_extract rfl (T.ev 0 rfl) rfl) ?_; clear T ac; intro ac T
  refine l_q T rfl rfl rfl rfl (rn_extract rfl (T.ev 1 rfl) rfl) ?_; clear T ac; intro ac T
  refine l_q T rfl rfl rfl rfl (rn_assign rfl (T.ev 1 rfl)) ?_; clear T ac; intro ac T
  refine l_q T rfl rfl rfl rfl (rn_assign rfl (T.ev 1 rfl)) ?_; clear T ac; intro ac T
  refine wpList_nil ?_
  replace T := T.pick [0, 1, 7, 8] rfl
  refine nm_then ?_
  refine wp_seq ?_
  refine wp_region_lit ?_
  refine l_q T rfl rfl rfl rfl (rn_rowO (Mem.nth M 2 rfl) rfl (T.ev 3 rfl) rfl) ?_; clear T ac; intro ac T
  refine l_w rfl ?_; intro K hK
  refine ow_call (first := []) (cap := []) T rfl rfl rfl rfl evf (.cons (T.ev 0 rfl) (.cons evc (.cons evc .nil))) Try.func22 rfl rfl ?_
  refine Calls.mono (Keeps_all bu2 xu4 xu6 _ _ _ _ _ hgu2 hxu4 hxu6 (M.rdOwn (nthE_mem (i := 1) rfl) rfl rfl) (M.rdOwn (nthE_mem (i := 0) rfl) rfl rfl)) ?_
  clear T
  rintro e wc ⟨rfl, hb⟩
  intro ac T
  replace M := M.call hb; clear hb
  obtain ⟨kpu8, hkpu8⟩ : ∃ q, q = keepsP bu2.law bu2.due [xu4, xu6] := ⟨_, rfl⟩
  rw [← hkpu8] at T
  have ⟨gaxu4, gbxu4⟩ := hxu4
  have ⟨gaxu6, gbxu6⟩ := hxu6
  refine sh_out hK _ _ ?_; clear hK K
  refine l_q T rfl rfl rfl rfl (rn_move rfl (T.ev 0 rfl)) ?_; clear T ac; intro ac T
  refine l_q T rfl rfl rfl rfl (rn_extract rfl (T.ev 0 rfl) rfl) ?_; clear T ac; intro ac T
  refine l_q T rfl rfl rfl rfl (rn_extract rfl (T.ev 1 rfl) rfl) ?_; clear T ac; intro ac T
  refine l_q T rfl rfl rfl rfl (rn_assign rfl (T.ev 1 rfl)) ?_; clear T ac; intro ac T
  refine l_q T rfl rfl rfl rfl (rn_assign rfl (T.ev 1 rfl)) ?_; clear T ac; intro ac T
  refine wpList_nil ?_
  replace T := T.pick [0, 1, 7, 8, 9, 10] rfl
  refine nm_then ?_
  refine wp_seq ?_
  refine wp_seq ?_
  refine wp_region_lit ?_
  refine l_q T rfl rfl rfl rfl (rn_move rfl (T.ev 2 rfl)) ?_; clear T ac; intro ac T
  refine l_q (v := (.bool false)) T rfl rfl rfl rfl (rn_neqof (rn_neq rfl (T.ev 0 rfl) evc) (by simp)) ?_; clear T ac; intro ac T
  refine l_q T rfl rfl rfl rfl (rn_move rfl (T.ev 0 rfl)) ?_; clear T ac; intro ac T
  refine l_q T (wanted_yes rfl rfl (T.ev 0 rfl) rfl) rfl rfl rfl (rn_move rfl (T.ev 3 rfl)) ?_; clear T ac; intro ac T
  refine l_q (v := (.bool false)) T (wanted_yes rfl rfl (T.ev 1 rfl) rfl) rfl rfl rfl (rn_neqof (rn_neq rfl (T.ev 0 rfl) evc) (by simp)) ?_; clear T ac; intro ac T
  refine l_q T rfl rfl rfl rfl (rn_pick0 rfl (T.ev 2 rfl) rfl (T.ev 0 rfl)) ?_; clear T ac; intro ac T
  refine l_q T rfl rfl rfl rfl (rn_move rfl (T.ev 0 rfl)) ?_; clear T ac; intro ac T
  refine l_q T (wanted_yes rfl rfl (T.ev 0 rfl) rfl) rfl rfl rfl (rn_move rfl (T.ev 10 rfl)) ?_; clear T ac; intro ac T
  refine l_q T (wanted_yes rfl rfl (T.ev 1 rfl) rfl) rfl rfl rfl (rn_lenS rfl Try.underlying50 (T.ev 0 rfl)) ?_; clear T ac; intro ac T
  refine l_q (v := (.pointer (some ⟨g1, 0, none⟩))) T (wanted_yes rfl rfl (T.ev 2 rfl) rfl) rfl rfl rfl (rn_fieldAddr (off := 0) rfl (T.ev 14 rfl) (fun _ _ _ => by kernel_rfl)) ?_; clear T ac; intro ac T
  refine l_q (v := (.pointer (some ⟨g1, 3, none⟩))) T (wanted_yes rfl rfl (T.ev 3 rfl) rfl) rfl rfl rfl (rn_fieldAddr (off := 3) rfl (T.ev 0 rfl) (fun _ _ _ => by kernel_rfl)) ?_; clear T ac; intro ac T
  refine l_q T (wanted_yes rfl rfl (T.ev 4 rfl) rfl) rfl rfl rfl (rn_one (Mem.nth M 2 rfl) rfl (T.ev 0 rfl) rfl) ?_; clear T ac; intro ac T
  refine l_q T (wanted_yes rfl rfl (T.ev 5 rfl) rfl) rfl rfl rfl (rn_add rfl (T.ev 0 rfl) evc (by omega)) ?_; clear T ac; intro ac T
  refine l_q T (wanted_yes rfl rfl (T.ev 6 rfl) rfl) rfl rfl rfl (rn_neq rfl (T.ev 4 rfl) (T.ev 0 rfl)) ?_; clear T ac; intro ac T
  refine l_q T rfl rfl rfl rfl (rn_pick0 rfl (T.ev 7 rfl) rfl (T.ev 0 rfl)) ?_; clear T ac; intro ac T
  refine wpList_nil ?_
  replace T := T.pick [0, 16, 18, 19, 20] rfl
  refine nm_then ?_
  refine wp_cond_false ((T.ev 0 rfl).trans (congrArg Value.bool (by rw [show (decide (((lbu7.length : Nat) : Int) = (bu2.press + 1))) = true from (decide_eq_true hlcu7)]; rfl))) ?_
  refine wp_skip ?_
  refine nm_then ?_
  refine wp_seq ?_
  refine wp_region_lit ?_
  refine l_q T rfl rfl rfl rfl (rn_move rfl (T.ev 2 rfl)) ?_; clear T ac; intro ac T
  refine l_q T rfl rfl rfl rfl (rn_lenS rfl Try.underlying50 (T.ev 0 rfl)) ?_; clear T ac; intro ac T
  refine l_w rfl ?_; intro K hK
  refine ow_ms2 (m := lbu7.length) M T rfl rfl rfl rfl (T.ev 0 rfl) (T.ev 0 rfl) Try.underlying50 Try.info40 (by omega) ?_; clear M T; intro g4 wc ac M T
  obtain ⟨lm1, hlm1⟩ : ∃ q : List (Int × Int), q = List.replicate lbu7.length (0, 0) := ⟨_, rfl⟩
  have llm1 : lm1.length = lbu7.length := by rw [hlm1, List.length_replicate]
  rw [← hlm1] at M
  have Ss1 := Sp.pre (w := w) (ex := noEx) (size := 2) (n := lm1.length) (g := g4) (xs := rc lm1) (ys := []) (by simp [rc_length])
  refine sh_out hK _ _ ?_; clear hK K
  refine l_q T rfl rfl rfl rfl (rn_assign rfl (T.ev 0 rfl)) ?_; clear T ac; intro ac T
  refine wpList_nil ?_
  replace T := T.pick [0, 5, 6, 7, 8] rfl
  refine nm_then ?_
  refine wp_seq ?_
  refine wp_region_lit ?_
  refine l_q T rfl rfl rfl rfl (rn_assign rfl evc) ?_; clear T ac; intro ac T
  refine l_q T rfl rfl rfl rfl (rn_assign rfl evc) ?_; clear T ac; intro ac T
  refine wpList_nil ?_
  refine nm_then ?_
  refine wp_seq ?_
  refine g_start2 M (M.mask [true, true, true, true] rfl) 12 (by kernel_rfl) rfl (by kernel_rfl) ?_
  clear M; intro wc M
  refine g_have (fun ac wc => ∃ (gr13_9 gr13_8 : Nat), Tm ac 213 [(15, .pointer (some ⟨gr13_9, 0, none⟩)), (14, .pointer (some ⟨gr13_8, 0, none⟩)), (99, .agg #[.int .i64 xu6.t0, .int .i64 xu6.t1, .int .i64 xu6.s0, .int .i64 xu6.s1]), (98, .pointer (some ⟨g3, 0, none⟩)), (97, .slice (some ⟨g3, 0, none⟩) 1 1), (96, .pointer (some ⟨g1, 6, none⟩)), (95, .agg #[.int .i64 xu4.t0, .int .i64 xu4.t1, .int .i64 xu4.s0, .int .i64 xu4.s1]), (94, .pointer (some ⟨g2, 0, none⟩)), (93, .slice (some ⟨g2, 0, none⟩) 1 1), (92, .pointer (some ⟨g1, 5, none⟩)), (13, .int .i64 0), (12, .int .i64 0), (11, .slice (some ⟨g4, 0, none⟩) lbu7.length lbu7.length), (9, .int .i64 kpu8), (7, .slice Au7 lbu7.length cu7), (6, .int .i64 (bu2.first + (bu2.step * bu2.note))), (4, .pointer (some ⟨g1, 0, none⟩))] ∧ Mem w noEx wc ((gr13_9, .cells [.int .i64 0, .int .i64 0, .int .i64 0, .int .i64 0]) :: (gr13_8, .cells [.int .i64 0, .int .i64 0, .int .i64 0, .int .i64 0]) :: (g4, .cells (rc lm1 ++ [])) :: (g3, .cells [.int .i64 xu6.t0, .int .i64 xu6.t1, .int .i64 xu6.s0, .int .i64 xu6.s1]) :: (g2, .cells [.int .i64 xu4.t0, .int .i64 xu4.t1, .int .i64 xu4.s0, .int .i64 xu4.s1]) :: (g1, .cells [.int .i64 bu2.first, .int .i64 bu2.step, .int .i64 bu2.span, .int .i64 bu2.press, .int .i64 bu2.note, .slice (some ⟨g2, 0, none⟩) 1 1, .slice (some ⟨g3, 0, none⟩) 1 1, .int .i64 bu2.t0, .int .i64 bu2.t1, .int .i64 bu2.r0, .int .i64 bu2.r1, .int .i64 bu2.u0, .int .i64 bu2.u1, .int .i64 bu2.d0, .int .i64 bu2.d1, .int .i64 bu2.a0, .int .i64 bu2.a1, .int .i64 bu2.b0, .int .i64 bu2.b1, .int .i64 bu2.le, .int .i64 bu2.me]) :: (Iu2 ++ Iu7))) (pbits 12 1023) 2 ?_ ?_
  ·clear T M
   rintro ac wc ⟨gr13_9, gr13_8, T, M⟩
   refine g_w (i := 10) (by kernel_rfl) rfl (by kernel_rfl : (pbits 12 1023).setIfInBounds 10 true = pbits 12 2047) rfl ?_; intro K hK
   refine ow_stO M T rfl rfl (T.ev 1 rfl) (T.ev 6 rfl) rfl (.tail .head) rfl (by simp) rfl (by kernel_rfl) ?_; clear M T; intro wc ac M T
   refine sh_out hK _ _ (M.mask [false, false, true, true, true, true] rfl) ?_; clear hK K
   refine g_w (i := 11) (by kernel_rfl) rfl (by kernel_rfl : (pbits 12 2047).setIfInBounds 11 true = pbits 12 4095) rfl ?_; intro K hK
   refine ow_stO M T rfl rfl (T.ev 0 rfl) (T.ev 2 rfl) rfl .head rfl (by simp) rfl (by kernel_rfl) ?_; clear M T; intro wc ac M T
   refine sh_out hK _ _ (M.mask [false, false, true, true, true, true] rfl) ?_; clear hK K
   refine g_done (by kernel_rfl) ?_
   replace T := T.pick [0, 1, 10, 11, 12, 13, 14, 15, 16] rfl
   refine nm_then ?_
   refine wp_seq ?_
   refine wp_seq ?_
   refine wp_region_lit ?_
   refine l_q (v := (.pointer (some ⟨gr13_8, 0, none⟩))) T rfl rfl rfl rfl (rn_fieldAddr (off := 0) rfl (T.ev 1 rfl) (fun _ _ _ => by kernel_rfl)) ?_; clear T ac; intro ac T
   refine l_q (v := (.pointer (some ⟨gr13_8, 0, none⟩))) T rfl rfl rfl rfl (rn_fieldAddr (off := 0) rfl (T.ev 0 rfl) (fun _ _ _ => by kernel_rfl)) ?_; clear T ac; intro ac T
   refine l_q T rfl rfl rfl rfl (rn_one (Mem.nth M 1 rfl) rfl (T.ev 0 rfl) rfl) ?_; clear T ac; intro ac T
   refine l_q T rfl rfl rfl rfl (rn_assign rfl (T.ev 0 rfl)) ?_; clear T ac; intro ac T
   refine wpList_nil ?_
   replace T := T.pick [0, 4, 5, 6, 7, 8, 9, 10, 11, 12] rfl
   refine nm_then ?_
   refine wp_block ?_
   refine wp_loop_n (fun mz ac wc => ∃ (t1 : Int) (P1 : List Q4) (ke1 al1 : Int) (bl1 : List (Int × Int)), mz = (xu4.t1 + 1 - t1).toNat ∧ (xu4.t0 ≤ t1 ∧ t1 ≤ xu4.t1 + 1) ∧ (PQ xu4 xu6 t1 xu4.s0 xu6.t0 xu6.s0 P1) ∧ (FQ bu2.law bu2.due P1 ke1 al1 bl1) ∧ (0 ≤ ke1 ∧ ke1 ≤ al1 ∧ al1 ≤ 2989 * (t1 - xu4.t0)) ∧ Tm ac 213 [(4, .pointer (some ⟨g1, 0, none⟩)), (6, .int .i64 (bu2.first + (bu2.step * bu2.note))), (7, .slice Au7 lbu7.length cu7), (9, .int .i64 kpu8), (11, .slice (some ⟨g4, 0, none⟩) lbu7.length lbu7.length), (12, .int .i64 ke1), (13, .int .i64 al1), (14, .pointer (some ⟨gr13_8, 0, none⟩)), (15, .pointer (some ⟨gr13_9, 0, none⟩)), (16, .int .i64 t1)] ∧ Mem w noEx wc ((gr13_9, .cells [.int .i64 xu6.t0, .int .i64 xu6.t1, .int .i64 xu6.s0, .int .i64 xu6.s1]) :: (gr13_8, .cells [.int .i64 xu4.t0, .int .i64 xu4.t1, .int .i64 xu4.s0, .int .i64 xu4.s1]) :: (g4, .cells (rc bl1 ++ [])) :: (g3, .cells [.int .i64 xu6.t0, .int .i64 xu6.t1, .int .i64 xu6.s0, .int .i64 xu6.s1]) :: (g2, .cells [.int .i64 xu4.t0, .int .i64 xu4.t1, .int .i64 xu4.s0, .int .i64 xu4.s1]) :: (g1, .cells [.int .i64 bu2.first, .int .i64 bu2.step, .int .i64 bu2.span, .int .i64 bu2.press, .int .i64 bu2.note, .slice (some ⟨g2, 0, none⟩) 1 1, .slice (some ⟨g3, 0, none⟩) 1 1, .int .i64 bu2.t0, .int .i64 bu2.t1, .int .i64 bu2.r0, .int .i64 bu2.r1, .int .i64 bu2.u0, .int .i64 bu2.u1, .int .i64 bu2.d0, .int .i64 bu2.d1, .int .i64 bu2.a0, .int .i64 bu2.a1, .int .i64 bu2.b0, .int .i64 bu2.b1, .int .i64 bu2.le, .int .i64 bu2.me]) :: (Iu2 ++ Iu7))) ?_ ?_
   ·exact ⟨_, xu4.t0, [], 0, 0, lm1, rfl, (by omega), (PQ.start _ _), (FQ.start (by show _ = (bu2.press + 1).toNat; omega)), (by omega), T.pick [9, 8, 7, 6, 5, 4, 3, 2, 1, 0] rfl, M.mask [true, true, true, true, true, true] rfl⟩
   ·clear T M
    rintro mz ac wc ⟨t1, P1, ke1, al1, bl1, hmm1, hv1, hP1, hF1, ha1, T, M⟩
    refine wp_seq ?_
    refine wp_seq ?_
    refine wp_region_lit ?_
    refine l_q T rfl rfl rfl rfl (rn_move rfl (T.ev 9 rfl)) ?_; clear T ac; intro ac T
    refine l_q (v := (.pointer (some ⟨gr13_8, 0, none⟩))) T rfl rfl rfl rfl (rn_fieldAddr (off := 0) rfl (T.ev 8 rfl) (fun _ _ _ => by kernel_rfl)) ?_; clear T ac; intro ac T
    refine l_q (v := (.pointer (some ⟨gr13_8, 1, none⟩))) T rfl rfl rfl rfl (rn_fieldAddr (off := 1) rfl (T.ev 0 rfl) (fun _ _ _ => by kernel_rfl)) ?_; clear T ac; intro ac T
    refine l_q T rfl rfl rfl rfl (rn_one (Mem.nth M 1 rfl) rfl (T.ev 0 rfl) rfl) ?_; clear T ac; intro ac T
    refine l_q T rfl rfl rfl rfl (rn_leq rfl (T.ev 3 rfl) (T.ev 0 rfl)) ?_; clear T ac; intro ac T
    refine wpList_nil ?_
    replace T := T.pick [0, 5, 6, 7, 8, 9, 10, 11, 12, 13, 14] rfl
    refine nm_then ?_
    refine wp_if (T.ev 0 rfl) ?_ ?_
    ·intro h1
     refine wp_skip ?_
     refine nm_then ?_
     refine wp_seq ?_
     refine wp_block ?_
     refine wp_seq ?_
     refine wp_region_lit ?_
     refine l_q (v := (.pointer (some ⟨gr13_8, 2, none⟩))) T rfl rfl rfl rfl (rn_fieldAddr (off := 2) rfl (T.ev 8 rfl) (fun _ _ _ => by kernel_rfl)) ?_; clear T ac; intro ac T
     refine l_q (v := (.pointer (some ⟨gr13_8, 2, none⟩))) T rfl rfl rfl rfl (rn_fieldAddr (off := 0) rfl (T.ev 0 rfl) (fun _ _ _ => by kernel_rfl)) ?_; clear T ac; intro ac T
     refine l_q T rfl rfl rfl rfl (rn_one (Mem.nth M 1 rfl) rfl (T.ev 0 rfl) rfl) ?_; clear T ac; intro ac T
     refine l_q T rfl rfl rfl rfl (rn_assign rfl (T.ev 0 rfl)) ?_; clear T ac; intro ac T
     refine wpList_nil ?_
     replace T := T.pick [0, 5, 6, 7, 8, 9, 10, 11, 12, 13, 14] rfl
     refine nm_then ?_
     refine wp_block ?_
     refine wp_loop_n (fun mz ac wc => ∃ (s2 : Int) (P2 : List Q4) (ke2 al2 : Int) (bl2 : List (Int × Int)), mz = (xu4.s1 + 1 - s2).toNat ∧ (xu4.s0 ≤ s2 ∧ s2 ≤ xu4.s1 + 1) ∧ (PQ xu4 xu6 t1 s2 xu6.t0 xu6.s0 P2) ∧ (FQ bu2.law bu2.due P2 ke2 al2 bl2) ∧ (0 ≤ ke2 ∧ ke2 ≤ al2 ∧ al2 ≤ 2989 * (t1 - xu4.t0) + 427 * (s2 - xu4.s0)) ∧ Tm ac 213 [(4, .pointer (some ⟨g1, 0, none⟩)), (6, .int .i64 (bu2.first + (bu2.step * bu2.note))), (7, .slice Au7 lbu7.length cu7), (9, .int .i64 kpu8), (11, .slice (some ⟨g4, 0, none⟩) lbu7.length lbu7.length), (12, .int .i64 ke2), (13, .int .i64 al2), (14, .pointer (some ⟨gr13_8, 0, none⟩)), (15, .pointer (some ⟨gr13_9, 0, none⟩)), (16, .int .i64 t1), (17, .int .i64 s2)] ∧ Mem w noEx wc ((gr13_9, .cells [.int .i64 xu6.t0, .int .i64 xu6.t1, .int .i64 xu6.s0, .int .i64 xu6.s1]) :: (gr13_8, .cells [.int .i64 xu4.t0, .int .i64 xu4.t1, .int .i64 xu4.s0, .int .i64 xu4.s1]) :: (g4, .cells (rc bl2 ++ [])) :: (g3, .cells [.int .i64 xu6.t0, .int .i64 xu6.t1, .int .i64 xu6.s0, .int .i64 xu6.s1]) :: (g2, .cells [.int .i64 xu4.t0, .int .i64 xu4.t1, .int .i64 xu4.s0, .int .i64 xu4.s1]) :: (g1, .cells [.int .i64 bu2.first, .int .i64 bu2.step, .int .i64 bu2.span, .int .i64 bu2.press, .int .i64 bu2.note, .slice (some ⟨g2, 0, none⟩) 1 1, .slice (some ⟨g3, 0, none⟩) 1 1, .int .i64 bu2.t0, .int .i64 bu2.t1, .int .i64 bu2.r0, .int .i64 bu2.r1, .int .i64 bu2.u0, .int .i64 bu2.u1, .int .i64 bu2.d0, .int .i64 bu2.d1, .int .i64 bu2.a0, .int .i64 bu2.a1, .int .i64 bu2.b0, .int .i64 bu2.b1, .int .i64 bu2.le, .int .i64 bu2.me]) :: (Iu2 ++ Iu7))) ?_ ?_
     ·exact ⟨_, xu4.s0, P1, ke1, al1, bl1, rfl, (by omega), hP1, hF1, (by omega), T.pick [1, 2, 3, 4, 5, 6, 7, 8, 9, 10, 0] rfl, M.mask [true, true, true, true, true, true] rfl⟩
     ·clear T M
      rintro mz ac wc ⟨s2, P2, ke2, al2, bl2, hmm2, hv2, hP2, hF2, ha2, T, M⟩
      refine wp_seq ?_
      refine wp_seq ?_
      refine wp_region_lit ?_
      refine l_q T rfl rfl rfl rfl (rn_move rfl (T.ev 10 rfl)) ?_; clear T ac; intro ac T
      refine l_q (v := (.pointer (some ⟨gr13_8, 2, none⟩))) T rfl rfl rfl rfl (rn_fieldAddr (off := 2) rfl (T.ev 8 rfl) (fun _ _ _ => by kernel_rfl)) ?_; clear T ac; intro ac T
      refine l_q (v := (.pointer (some ⟨gr13_8, 3, none⟩))) T rfl rfl rfl rfl (rn_fieldAddr (off := 1) rfl (T.ev 0 rfl) (fun _ _ _ => by kernel_rfl)) ?_; clear T ac; intro ac T
      refine l_q T rfl rfl rfl rfl (rn_one (Mem.nth M 1 rfl) rfl (T.ev 0 rfl) rfl) ?_; clear T ac; intro ac T
      refine l_q T rfl rfl rfl rfl (rn_leq rfl (T.ev 3 rfl) (T.ev 0 rfl)) ?_; clear T ac; intro ac T
      refine wpList_nil ?_
      replace T := T.pick [0, 5, 6, 7, 8, 9, 10, 11, 12, 13, 14, 15] rfl
      refine nm_then ?_
      refine wp_if (T.ev 0 rfl) ?_ ?_
      ·intro h2
       refine wp_skip ?_
       refine nm_then ?_
       refine wp_seq ?_
       refine wp_block ?_
       refine wp_seq ?_
       refine wp_region_lit ?_
       refine l_q (v := (.pointer (some ⟨gr13_9, 0, none⟩))) T rfl rfl rfl rfl (rn_fieldAddr (off := 0) rfl (T.ev 9 rfl) (fun _ _ _ => by kernel_rfl)) ?_; clear T ac; intro ac T
       refine l_q (v := (.pointer (some ⟨gr13_9, 0, none⟩))) T rfl rfl rfl rfl (rn_fieldAddr (off := 0) rfl (T.ev 0 rfl) (fun _ _ _ => by kernel_rfl)) ?_; clear T ac; intro ac T
       refine l_q T rfl rfl rfl rfl (rn_one (Mem.nth M 0 rfl) rfl (T.ev 0 rfl) rfl) ?_; clear T ac; intro ac T
       refine l_q T rfl rfl rfl rfl (rn_assign rfl (T.ev 0 rfl)) ?_; clear T ac; intro ac T
       refine wpList_nil ?_
       replace T := T.pick [0, 5, 6, 7, 8, 9, 10, 11, 12, 13, 14, 15] rfl
       refine nm_then ?_
       refine wp_block ?_
       refine wp_loop_n (fun mz ac wc => ∃ (u3 : Int) (P3 : List Q4) (ke3 al3 : Int) (bl3 : List (Int × Int)), mz = (xu6.t1 + 1 - u3).toNat ∧ (xu6.t0 ≤ u3 ∧ u3 ≤ xu6.t1 + 1) ∧ (PQ xu4 xu6 t1 s2 u3 xu6.s0 P3) ∧ (FQ bu2.law bu2.due P3 ke3 al3 bl3) ∧ (0 ≤ ke3 ∧ ke3 ≤ al3 ∧ al3 ≤ 2989 * (t1 - xu4.t0) + 427 * (s2 - xu4.s0) + 7 * (u3 - xu6.t0)) ∧ Tm ac 213 [(4, .pointer (some ⟨g1, 0, none⟩)), (6, .int .i64 (bu2.first + (bu2.step * bu2.note))), (7, .slice Au7 lbu7.length cu7), (9, .int .i64 kpu8), (11, .slice (some ⟨g4, 0, none⟩) lbu7.length lbu7.length), (12, .int .i64 ke3), (13, .int .i64 al3), (14, .pointer (some ⟨gr13_8, 0, none⟩)), (15, .pointer (some ⟨gr13_9, 0, none⟩)), (16, .int .i64 t1), (17, .int .i64 s2), (18, .int .i64 u3)] ∧ Mem w noEx wc ((gr13_9, .cells [.int .i64 xu6.t0, .int .i64 xu6.t1, .int .i64 xu6.s0, .int .i64 xu6.s1]) :: (gr13_8, .cells [.int .i64 xu4.t0, .int .i64 xu4.t1, .int .i64 xu4.s0, .int .i64 xu4.s1]) :: (g4, .cells (rc bl3 ++ [])) :: (g3, .cells [.int .i64 xu6.t0, .int .i64 xu6.t1, .int .i64 xu6.s0, .int .i64 xu6.s1]) :: (g2, .cells [.int .i64 xu4.t0, .int .i64 xu4.t1, .int .i64 xu4.s0, .int .i64 xu4.s1]) :: (g1, .cells [.int .i64 bu2.first, .int .i64 bu2.step, .int .i64 bu2.span, .int .i64 bu2.press, .int .i64 bu2.note, .slice (some ⟨g2, 0, none⟩) 1 1, .slice (some ⟨g3, 0, none⟩) 1 1, .int .i64 bu2.t0, .int .i64 bu2.t1, .int .i64 bu2.r0, .int .i64 bu2.r1, .int .i64 bu2.u0, .int .i64 bu2.u1, .int .i64 bu2.d0, .int .i64 bu2.d1, .int .i64 bu2.a0, .int .i64 bu2.a1, .int .i64 bu2.b0, .int .i64 bu2.b1, .int .i64 bu2.le, .int .i64 bu2.me]) :: (Iu2 ++ Iu7))) ?_ ?_
       ·exact ⟨_, xu6.t0, P2, ke2, al2, bl2, rfl, (by omega), hP2, hF2, (by omega), T.pick [1, 2, 3, 4, 5, 6, 7, 8, 9, 10, 11, 0] rfl, M.mask [true, true, true, true, true, true] rfl⟩
       ·clear T M
        rintro mz ac wc ⟨u3, P3, ke3, al3, bl3, hmm3, hv3, hP3, hF3, ha3, T, M⟩
        refine wp_seq ?_
        refine wp_seq ?_
        refine wp_region_lit ?_
        refine l_q T rfl rfl rfl rfl (rn_move rfl (T.ev 11 rfl)) ?_; clear T ac; intro ac T
        refine l_q (v := (.pointer (some ⟨gr13_9, 0, none⟩))) T rfl rfl rfl rfl (rn_fieldAddr (off := 0) rfl (T.ev 9 rfl) (fun _ _ _ => by kernel_rfl)) ?_; clear T ac; intro ac T
        refine l_q (v := (.pointer (some ⟨gr13_9, 1, none⟩))) T rfl rfl rfl rfl (rn_fieldAddr (off := 1) rfl (T.ev 0 rfl) (fun _ _ _ => by kernel_rfl)) ?_; clear T ac; intro ac T
        refine l_q T rfl rfl rfl rfl (rn_one (Mem.nth M 0 rfl) rfl (T.ev 0 rfl) rfl) ?_; clear T ac; intro ac T
        refine l_q T rfl rfl rfl rfl (rn_leq rfl (T.ev 3 rfl) (T.ev 0 rfl)) ?_; clear T ac; intro ac T
        refine wpList_nil ?_
        replace T := T.pick [0, 5, 6, 7, 8, 9, 10, 11, 12, 13, 14, 15, 16] rfl
        refine nm_then ?_
        refine wp_if (T.ev 0 rfl) ?_ ?_
        ·intro h3
         refine wp_skip ?_
         refine nm_then ?_
         refine wp_seq ?_
         refine wp_block ?_
         refine wp_seq ?_
         refine wp_region_lit ?_
         refine l_q (v := (.pointer (some ⟨gr13_9, 2, none⟩))) T rfl rfl rfl rfl (rn_fieldAddr (off := 2) rfl (T.ev 9 rfl) (fun _ _ _ => by kernel_rfl)) ?_; clear T ac; intro ac T
         refine l_q (v := (.pointer (some ⟨gr13_9, 2, none⟩))) T rfl rfl rfl rfl (rn_fieldAddr (off := 0) rfl (T.ev 0 rfl) (fun _ _ _ => by kernel_rfl)) ?_; clear T ac; intro ac T
         refine l_q T rfl rfl rfl rfl (rn_one (Mem.nth M 0 rfl) rfl (T.ev 0 rfl) rfl) ?_; clear T ac; intro ac T
         refine l_q T rfl rfl rfl rfl (rn_assign rfl (T.ev 0 rfl)) ?_; clear T ac; intro ac T
         refine wpList_nil ?_
         replace T := T.pick [0, 5, 6, 7, 8, 9, 10, 11, 12, 13, 14, 15, 16] rfl
         refine nm_then ?_
         refine wp_block ?_
         refine wp_loop_n (fun mz ac wc => ∃ (r4 : Int) (P4 : List Q4) (ke4 al4 : Int) (bl4 : List (Int × Int)), mz = (xu6.s1 + 1 - r4).toNat ∧ (xu6.s0 ≤ r4 ∧ r4 ≤ xu6.s1 + 1) ∧ (PQ xu4 xu6 t1 s2 u3 r4 P4) ∧ (FQ bu2.law bu2.due P4 ke4 al4 bl4) ∧ (0 ≤ ke4 ∧ ke4 ≤ al4 ∧ al4 ≤ 2989 * (t1 - xu4.t0) + 427 * (s2 - xu4.s0) + 7 * (u3 - xu6.t0) + 1 * (r4 - xu6.s0)) ∧ Tm ac 213 [(4, .pointer (some ⟨g1, 0, none⟩)), (6, .int .i64 (bu2.first + (bu2.step * bu2.note))), (7, .slice Au7 lbu7.length cu7), (9, .int .i64 kpu8), (11, .slice (some ⟨g4, 0, none⟩) lbu7.length lbu7.length), (12, .int .i64 ke4), (13, .int .i64 al4), (14, .pointer (some ⟨gr13_8, 0, none⟩)), (15, .pointer (some ⟨gr13_9, 0, none⟩)), (16, .int .i64 t1), (17, .int .i64 s2), (18, .int .i64 u3), (19, .int .i64 r4)] ∧ Mem w noEx wc ((gr13_9, .cells [.int .i64 xu6.t0, .int .i64 xu6.t1, .int .i64 xu6.s0, .int .i64 xu6.s1]) :: (gr13_8, .cells [.int .i64 xu4.t0, .int .i64 xu4.t1, .int .i64 xu4.s0, .int .i64 xu4.s1]) :: (g4, .cells (rc bl4 ++ [])) :: (g3, .cells [.int .i64 xu6.t0, .int .i64 xu6.t1, .int .i64 xu6.s0, .int .i64 xu6.s1]) :: (g2, .cells [.int .i64 xu4.t0, .int .i64 xu4.t1, .int .i64 xu4.s0, .int .i64 xu4.s1]) :: (g1, .cells [.int .i64 bu2.first, .int .i64 bu2.step, .int .i64 bu2.span, .int .i64 bu2.press, .int .i64 bu2.note, .slice (some ⟨g2, 0, none⟩) 1 1, .slice (some ⟨g3, 0, none⟩) 1 1, .int .i64 bu2.t0, .int .i64 bu2.t1, .int .i64 bu2.r0, .int .i64 bu2.r1, .int .i64 bu2.u0, .int .i64 bu2.u1, .int .i64 bu2.d0, .int .i64 bu2.d1, .int .i64 bu2.a0, .int .i64 bu2.a1, .int .i64 bu2.b0, .int .i64 bu2.b1, .int .i64 bu2.le, .int .i64 bu2.me]) :: (Iu2 ++ Iu7))) ?_ ?_
         ·exact ⟨_, xu6.s0, P3, ke3, al3, bl3, rfl, (by omega), hP3, hF3, (by omega), T.pick [1, 2, 3, 4, 5, 6, 7, 8, 9, 10, 11, 12, 0] rfl, M.mask [true, true, true, true, true, true] rfl⟩
         ·clear T M
          rintro mz ac wc ⟨r4, P4, ke4, al4, bl4, hmm4, hv4, hP4, hF4, ha4, T, M⟩
          refine wp_seq ?_
          refine wp_seq ?_
          refine wp_region_lit ?_
          refine l_q T rfl rfl rfl rfl (rn_move rfl (T.ev 12 rfl)) ?_; clear T ac; intro ac T
          refine l_q (v := (.pointer (some ⟨gr13_9, 2, none⟩))) T rfl rfl rfl rfl (rn_fieldAddr (off := 2) rfl (T.ev 9 rfl) (fun _ _ _ => by kernel_rfl)) ?_; clear T ac; intro ac T
          refine l_q (v := (.pointer (some ⟨gr13_9, 3, none⟩))) T rfl rfl rfl rfl (rn_fieldAddr (off := 1) rfl (T.ev 0 rfl) (fun _ _ _ => by kernel_rfl)) ?_; clear T ac; intro ac T
          refine l_q T rfl rfl rfl rfl (rn_one (Mem.nth M 0 rfl) rfl (T.ev 0 rfl) rfl) ?_; clear T ac; intro ac T
          refine l_q T rfl rfl rfl rfl (rn_leq rfl (T.ev 3 rfl) (T.ev 0 rfl)) ?_; clear T ac; intro ac T
          refine wpList_nil ?_
          replace T := T.pick [0, 5, 6, 7, 8, 9, 10, 11, 12, 13, 14, 15, 16, 17] rfl
          refine nm_then ?_
          refine wp_if (T.ev 0 rfl) ?_ ?_
          ·intro h4
           refine wp_skip ?_
           refine nm_then ?_
           refine wp_seq ?_
           refine wp_block ?_
           refine wp_seq ?_
           refine wp_region_lit ?_
           refine l_q T rfl rfl rfl rfl (rn_move rfl (T.ev 10 rfl)) ?_; clear T ac; intro ac T
           refine l_q T rfl rfl rfl rfl (rn_move rfl (T.ev 12 rfl)) ?_; clear T ac; intro ac T
           refine l_q (v := (.agg #[.int .i64 t1, .int .i64 s2])) T rfl rfl rfl rfl (rn_build rfl (.cons (T.ev 1 rfl) (.cons (T.ev 0 rfl) .nil)) (fun _ => by kernel_rfl)) ?_; clear T ac; intro ac T
           refine l_q T rfl rfl rfl rfl (rn_move rfl (T.ev 15 rfl)) ?_; clear T ac; intro ac T
           refine l_q T rfl rfl rfl rfl (rn_move rfl (T.ev 17 rfl)) ?_; clear T ac; intro ac T
           refine l_q (v := (.agg #[.int .i64 u3, .int .i64 r4])) T rfl rfl rfl rfl (rn_build rfl (.cons (T.ev 1 rfl) (.cons (T.ev 0 rfl) .nil)) (fun _ => by kernel_rfl)) ?_; clear T ac; intro ac T
           refine l_w rfl ?_; intro K hK
           refine ow_al M T rfl rfl rfl rfl ?_; clear M T; intro g5 wc ac M T
           refine sh_out hK _ _ ?_; clear hK K
           refine l_w rfl ?_; intro K hK
           refine ow_al M T rfl rfl rfl rfl ?_; clear M T; intro g6 wc ac M T
           refine sh_out hK _ _ ?_; clear hK K
           refine l_w rfl ?_; intro K hK
           refine ow_stO M T rfl rfl (T.ev 1 rfl) (T.ev 5 rfl) rfl (.tail .head) rfl (by simp) rfl (by kernel_rfl) ?_; clear M T; intro wc ac M T
           refine sh_out hK _ _ ?_; clear hK K
           refine l_w rfl ?_; intro K hK
           refine ow_stO M T rfl rfl (T.ev 0 rfl) (T.ev 2 rfl) rfl .head rfl (by simp) rfl (by kernel_rfl) ?_; clear M T; intro wc ac M T
           refine sh_out hK _ _ ?_; clear hK K
           refine wpList_nil ?_
           replace T := T.pick [0, 1, 9, 10, 11, 12, 13, 14, 15, 16, 17, 18, 19, 20, 21] rfl
           refine nm_then ?_
           refine wp_seq ?_
           refine wp_seq ?_
           refine wp_region_lit ?_
           refine l_q T rfl rfl rfl rfl (rn_assign rfl evc) ?_; clear T ac; intro ac T
           refine wpList_nil ?_
           refine nm_then ?_
           refine wp_block ?_
           have hn4 : bl4.length = (bu2.press + 1).toNat := hF4.n
           refine wp_loop_n (fun mz ac wc => ∃ (k : Nat) (bl5 : List (Int × Int)), mz = lbu7.length - k ∧ (k ≤ lbu7.length) ∧ (NB al4 (t1, s2, u3, r4) bl4 bl5 k) ∧ Tm ac 213 [(4, .pointer (some ⟨g1, 0, none⟩)), (6, .int .i64 (bu2.first + (bu2.step * bu2.note))), (7, .slice Au7 lbu7.length cu7), (9, .int .i64 kpu8), (11, .slice (some ⟨g4, 0, none⟩) lbu7.length lbu7.length), (12, .int .i64 ke4), (13, .int .i64 al4), (14, .pointer (some ⟨gr13_8, 0, none⟩)), (15, .pointer (some ⟨gr13_9, 0, none⟩)), (16, .int .i64 t1), (17, .int .i64 s2), (18, .int .i64 u3), (19, .int .i64 r4), (20, .pointer (some ⟨g5, 0, none⟩)), (21, .pointer (some ⟨g6, 0, none⟩)), (22, .int .i64 (k : Int))] ∧ Mem w noEx wc ((g6, .cells [.int .i64 u3, .int .i64 r4]) :: (g5, .cells [.int .i64 t1, .int .i64 s2]) :: (gr13_9, .cells [.int .i64 xu6.t0, .int .i64 xu6.t1, .int .i64 xu6.s0, .int .i64 xu6.s1]) :: (gr13_8, .cells [.int .i64 xu4.t0, .int .i64 xu4.t1, .int .i64 xu4.s0, .int .i64 xu4.s1]) :: (g4, .cells (rc bl5 ++ [])) :: (g3, .cells [.int .i64 xu6.t0, .int .i64 xu6.t1, .int .i64 xu6.s0, .int .i64 xu6.s1]) :: (g2, .cells [.int .i64 xu4.t0, .int .i64 xu4.t1, .int .i64 xu4.s0, .int .i64 xu4.s1]) :: (g1, .cells [.int .i64 bu2.first, .int .i64 bu2.step, .int .i64 bu2.span, .int .i64 bu2.press, .int .i64 bu2.note, .slice (some ⟨g2, 0, none⟩) 1 1, .slice (some ⟨g3, 0, none⟩) 1 1, .int .i64 bu2.t0, .int .i64 bu2.t1, .int .i64 bu2.r0, .int .i64 bu2.r1, .int .i64 bu2.u0, .int .i64 bu2.u1, .int .i64 bu2.d0, .int .i64 bu2.d1, .int .i64 bu2.a0, .int .i64 bu2.a1, .int .i64 bu2.b0, .int .i64 bu2.b1, .int .i64 bu2.le, .int .i64 bu2.me]) :: (Iu2 ++ Iu7))) ?_ ?_
           ·exact ⟨_, 0, bl4, rfl, (Nat.zero_le _), (NB.start _ _ _), T.pick [3, 4, 5, 6, 7, 8, 9, 10, 11, 12, 13, 14, 15, 2, 1, 0] rfl, M.mask [true, true, true, true, true, true, true, true] rfl⟩
           ·clear T M
            rintro mz ac wc ⟨k, bl5, hmm5, hk, hNB, T, M⟩
            refine wp_seq ?_
            refine wp_seq ?_
            refine wp_region_lit ?_
            refine l_q T rfl rfl rfl rfl (rn_move rfl (T.ev 15 rfl)) ?_; clear T ac; intro ac T
            refine l_q T rfl rfl rfl rfl (rn_move rfl (T.ev 3 rfl)) ?_; clear T ac; intro ac T
            refine l_q T rfl rfl rfl rfl (rn_lenS rfl Try.underlying50 (T.ev 0 rfl)) ?_; clear T ac; intro ac T
            refine l_q T rfl rfl rfl rfl (rn_lss rfl (T.ev 2 rfl) (T.ev 0 rfl)) ?_; clear T ac; intro ac T
            refine wpList_nil ?_
            replace T := T.pick [0, 4, 5, 6, 7, 8, 9, 10, 11, 12, 13, 14, 15, 16, 17, 18, 19] rfl
            refine nm_then ?_
            refine wp_if (T.ev 0 rfl) ?_ ?_
            ·intro h5
             have hn5 := hNB.n
             obtain ⟨v0, v1, hkv, -⟩ := rc_next (l := bl5) (k := k) (by omega)
             have Sb5 := Sp.pre (w := w) (ex := noEx) (size := 2) (n := bl5.length) (g := g4) (xs := rc bl5) (ys := []) (by simp [rc_length])
             have hkp3 : (k : Int) ≤ 3 := by omega
             refine wp_skip ?_
             refine nm_then ?_
             refine wp_seq ?_
             refine wp_block ?_
             refine wp_seq ?_
             refine wp_region_lit ?_
             refine l_q T rfl rfl rfl rfl (rn_rowO (Mem.nth M 1 rfl) rfl (T.ev 14 rfl) rfl) ?_; clear T ac; intro ac T
             refine l_q T rfl rfl rfl rfl (rn_rowO (Mem.nth M 0 rfl) rfl (T.ev 16 rfl) rfl) ?_; clear T ac; intro ac T
             refine l_q T rfl rfl rfl rfl (rn_move rfl (T.ev 18 rfl)) ?_; clear T ac; intro ac T
             refine l_w rfl ?_; intro K hK
             refine ow_call (first := []) (cap := []) T rfl rfl rfl rfl evf (.cons (T.ev 2 rfl) (.cons (T.ev 1 rfl) (.cons (T.ev 0 rfl) .nil))) Try.func23 rfl rfl ?_
             refine Calls.mono (kbeats_any t1 s2 u3 r4 (k : Int) _ (by (try dsimp only); omega) (by (try dsimp only); omega) (by (try dsimp only); omega) (by (try dsimp only); omega) (by (try dsimp only); omega)) ?_
             clear T
             rintro e wc ⟨rfl, hb⟩
             intro ac T
             replace M := M.call hb; clear hb
             refine sh_out hK _ _ ?_; clear hK K
             refine l_q T rfl rfl rfl rfl (rn_assign rfl (T.ev 0 rfl)) ?_; clear T ac; intro ac T
             refine wpList_nil ?_
             replace T := T.pick [0, 6, 7, 8, 9, 10, 11, 12, 13, 14, 15, 16, 17, 18, 19, 20, 21] rfl
             refine nm_then ?_
             refine wp_seq ?_
             refine wp_seq ?_
             refine wp_region_lit ?_
             refine l_q T rfl rfl rfl rfl (rn_move rfl (T.ev 7 rfl)) ?_; clear T ac; intro ac T
             refine l_q T rfl rfl rfl rfl (rn_eql rfl (T.ev 0 rfl) evc) ?_; clear T ac; intro ac T
             refine wpList_nil ?_
             replace T := T.pick [0, 2, 3, 4, 5, 6, 7, 8, 9, 10, 11, 12, 13, 14, 15, 16, 17, 18] rfl
             refine nm_then ?_
             refine wp_if (T.ev 0 rfl) ?_ ?_
             ·intro h6
              refine wp_region_lit ?_
              refine l_q T rfl rfl rfl rfl (rn_move rfl (T.ev 6 rfl)) ?_; clear T ac; intro ac T
              refine l_q T rfl rfl rfl rfl (rn_move rfl (T.ev 18 rfl)) ?_; clear T ac; intro ac T
              refine l_q T rfl rfl rfl rfl (rn_move rfl (T.ev 3 rfl)) ?_; clear T ac; intro ac T
              refine l_q T rfl rfl rfl rfl (rn_move rfl (T.ev 4 rfl)) ?_; clear T ac; intro ac T
              refine l_w rfl ?_; intro K hK
              refine ow_call (first := []) (cap := []) T rfl rfl rfl rfl evf (.cons (T.ev 1 rfl) (.cons (T.ev 0 rfl) .nil)) Try.func24 rfl rfl ?_
              refine Calls.mono (to5_any (beatT t1 s2 u3 r4 (k : Int)) (beatT t1 s2 u3 r4 (k : Int)) _) ?_
              clear T
              rintro e wc ⟨rfl, hb⟩
              intro ac T
              replace M := M.call hb; clear hb
              refine sh_out hK _ _ ?_; clear hK K
              refine l_q T rfl rfl rfl rfl (rn_indexAddr (size := 2) k rfl (T.ev 4 rfl) (T.ev 3 rfl) ⟨_, Try.underlying50, by kernel_rfl⟩ rfl (by omega) rfl) ?_; clear T ac; intro ac T
              refine l_w rfl ?_; intro K hK
              refine ow_stR M T rfl rfl (T.ev 0 rfl) (T.ev 1 rfl) (.tail (.tail (.tail (.tail .head)))) (by omega) rfl ?_; clear M T; intro wc ac M T
              obtain ⟨lo1, hlo1⟩ : ∃ q, q = bl5.set k ((beatT t1 s2 u3 r4 (k : Int)), (beatT t1 s2 u3 r4 (k : Int))) := ⟨_, rfl⟩
              have lhlo1 : bl5.length = lo1.length := by rw [hlo1, List.length_set]
              rw [← hlo1] at M; (try rw [lhlo1] at M); (try rw [lhlo1] at T)
              have Ss2 := Sp.pre (w := w) (ex := noEx) (size := 2) (n := lo1.length) (g := g4) (xs := rc lo1) (ys := []) (by simp [rc_length])
              have hello1 : lo1[k]? = some ((beatT t1 s2 u3 r4 (k : Int)), (beatT t1 s2 u3 r4 (k : Int))) := by rw [hlo1]; exact List.getElem?_set_self (by omega)
              refine sh_out hK _ _ ?_; clear hK K
              refine wpList_nil ?_
              replace T := T.pick [7, 8, 9, 10, 11, 12, 13, 14, 15, 16, 17, 18, 19, 20, 21, 22, 23] rfl
              refine nm_then ?_
              refine g_start2 M (M.mask [false, false, false, false, false, false, false, false] rfl) 19 (by kernel_rfl) rfl (by kernel_rfl) ?_
              clear M; intro wc M
              refine g_addG 18 M ?_
              refine g_q (T := T) (i := 0) rfl (by kernel_rfl) (by kernel_rfl : (pbits 19 0).setIfInBounds 0 true = pbits 19 1) (si_and (si_G rfl) si_U) (fun _ _ _ h => h) rfl rfl rfl rfl (fun _ _ _ _ _ => (rn_move rfl (T.ev 5 rfl))) ?_; clear T ac; intro ac T
              refine g_q (T := T) (i := 1) rfl (by kernel_rfl) (by kernel_rfl : (pbits 19 1).setIfInBounds 1 true = pbits 19 3) (si_and (si_G rfl) si_U) (fun _ _ _ h => h) rfl rfl rfl rfl (fun _ _ _ _ _ => (rn_move rfl (T.ev 17 rfl))) ?_; clear T ac; intro ac T
              refine g_q (T := T) (i := 2) rfl (by kernel_rfl) (by kernel_rfl : (pbits 19 3).setIfInBounds 2 true = pbits 19 7) (si_and (si_G rfl) si_U) (fun _ _ _ h => h) rfl rfl rfl rfl (fun _ _ _ _ _ => (rn_move rfl (T.ev 7 rfl))) ?_; clear T ac; intro ac T
              refine g_q (T := T) (i := 3) rfl (by kernel_rfl) (by kernel_rfl : (pbits 19 7).setIfInBounds 3 true = pbits 19 15) (si_and (si_G rfl) si_U) (fun _ _ _ h => h) rfl rfl rfl rfl (fun _ _ _ _ _ => (rn_move rfl (T.ev 19 rfl))) ?_; clear T ac; intro ac T
              refine g_q (T := T) (i := 4) rfl (by kernel_rfl) (by kernel_rfl : (pbits 19 15).setIfInBounds 4 true = pbits 19 31) (si_and (si_G rfl) si_U) (fun _ _ _ h => h) rfl rfl rfl rfl (fun _ _ _ _ _ => (rn_indexAddr (size := 2) k rfl (T.ev 1 rfl) (T.ev 0 rfl) ⟨_, Try.underlying50, by kernel_rfl⟩ rfl (by omega) rfl)) ?_; clear T ac; intro ac T
              refine g_q (T := T) (i := 5) rfl (by kernel_rfl) (by kernel_rfl : (pbits 19 31).setIfInBounds 5 true = pbits 19 63) (si_and (si_G rfl) si_U) (fun _ _ _ h => h) rfl rfl rfl rfl (fun _ _ _ _ _ => (rn_fieldAddr (off := 0) rfl (T.ev 0 rfl) (fun _ _ _ => by kernel_rfl))) ?_; clear T ac; intro ac T
              refine g_q (T := T) (i := 6) rfl (by kernel_rfl) (by kernel_rfl : (pbits 19 63).setIfInBounds 6 true = pbits 19 127) (si_and (si_G rfl) si_U) (fun _ _ _ h => h) rfl rfl rfl rfl (fun B w' hD hl hS => (rn_cell (Sp.rc0 Ss2 (show Mem w noEx w' _ from ((MA.lft hS) (hD.wait (i := 6) (m := 18) (by kernel_rfl) hl))) (.cons _ (.cons _ (.cons _ (.cons _ (List.Sublist.cons_cons _ (List.nil_sublist _)))))) hello1) rfl (T.ev 0 rfl))) ?_; clear T ac; intro ac T
              refine g_q (T := T) (i := 7) rfl (by kernel_rfl) (by kernel_rfl : (pbits 19 127).setIfInBounds 7 true = pbits 19 255) (si_and (si_G rfl) si_U) (fun _ _ _ h => h) rfl rfl rfl rfl (fun _ _ _ _ _ => (rn_move rfl (T.ev 7 rfl))) ?_; clear T ac; intro ac T
              refine g_q (T := T) (i := 8) rfl (by kernel_rfl) (by kernel_rfl : (pbits 19 255).setIfInBounds 8 true = pbits 19 511) (si_and (si_G rfl) si_U) (fun _ _ _ h => h) rfl rfl rfl rfl (fun _ _ _ _ _ => (rn_min2 rfl (T.ev 1 rfl) (T.ev 0 rfl))) ?_; clear T ac; intro ac T
              refine g_q (T := T) (i := 9) rfl (by kernel_rfl) (by kernel_rfl : (pbits 19 511).setIfInBounds 9 true = pbits 19 1023) (si_and (si_G rfl) si_U) (fun _ _ _ h => h) rfl rfl rfl rfl (fun _ _ _ _ _ => (rn_move rfl (T.ev 14 rfl))) ?_; clear T ac; intro ac T
              refine g_q (T := T) (i := 10) rfl (by kernel_rfl) (by kernel_rfl : (pbits 19 1023).setIfInBounds 10 true = pbits 19 2047) (si_and (si_G rfl) si_U) (fun _ _ _ h => h) rfl rfl rfl rfl (fun _ _ _ _ _ => (rn_move rfl (T.ev 26 rfl))) ?_; clear T ac; intro ac T
              refine g_q (T := T) (i := 11) rfl (by kernel_rfl) (by kernel_rfl : (pbits 19 2047).setIfInBounds 11 true = pbits 19 4095) (si_and (si_G rfl) si_U) (fun _ _ _ h => h) rfl rfl rfl rfl (fun _ _ _ _ _ => (rn_indexAddr (size := 2) k rfl (T.ev 1 rfl) (T.ev 0 rfl) ⟨_, Try.underlying50, by kernel_rfl⟩ rfl (by omega) rfl)) ?_; clear T ac; intro ac T
              refine g_q (T := T) (i := 12) rfl (by kernel_rfl) (by kernel_rfl : (pbits 19 4095).setIfInBounds 12 true = pbits 19 8191) (si_and (si_G rfl) si_U) (fun _ _ _ h => h) rfl rfl rfl rfl (fun _ _ _ _ _ => (rn_fieldAddr (off := 1) rfl (T.ev 0 rfl) (fun _ _ _ => by kernel_rfl))) ?_; clear T ac; intro ac T
              refine g_q (T := T) (i := 13) rfl (by kernel_rfl) (by kernel_rfl : (pbits 19 8191).setIfInBounds 13 true = pbits 19 16383) (si_and (si_G rfl) si_U) (fun _ _ _ h => h) rfl rfl rfl rfl (fun B w' hD hl hS => (rn_cell (Sp.rc1 Ss2 (show Mem w noEx w' _ from ((MA.lft hS) (hD.wait (i := 13) (m := 18) (by kernel_rfl) hl))) (.cons _ (.cons _ (.cons _ (.cons _ (List.Sublist.cons_cons _ (List.nil_sublist _)))))) hello1) rfl (T.ev 0 rfl))) ?_; clear T ac; intro ac T
              refine g_q (T := T) (i := 14) rfl (by kernel_rfl) (by kernel_rfl : (pbits 19 16383).setIfInBounds 14 true = pbits 19 32767) (si_and (si_G rfl) si_U) (fun _ _ _ h => h) rfl rfl rfl rfl (fun _ _ _ _ _ => (rn_move rfl (T.ev 14 rfl))) ?_; clear T ac; intro ac T
              refine g_q (T := T) (i := 15) rfl (by kernel_rfl) (by kernel_rfl : (pbits 19 32767).setIfInBounds 15 true = pbits 19 65535) (si_and (si_G rfl) si_U) (fun _ _ _ h => h) rfl rfl rfl rfl (fun _ _ _ _ _ => (rn_max2 rfl (T.ev 1 rfl) (T.ev 0 rfl))) ?_; clear T ac; intro ac T
              refine g_w (i := 16) (by kernel_rfl) rfl (by kernel_rfl : (pbits 19 65535).setIfInBounds 16 true = pbits 19 131071) rfl ?_; intro K hK
              refine ow_call (first := []) (cap := []) T rfl rfl rfl rfl evf (.cons (T.ev 7 rfl) (.cons (T.ev 0 rfl) .nil)) Try.func24 rfl rfl ?_
              refine Calls.mono (to5_any (min (beatT t1 s2 u3 r4 (k : Int)) (beatT t1 s2 u3 r4 (k : Int))) (max (beatT t1 s2 u3 r4 (k : Int)) (beatT t1 s2 u3 r4 (k : Int))) _) ?_
              clear T
              rintro e wc ⟨rfl, hb⟩
              intro ac T
              replace M := M.call hb; clear hb
              refine sh_out hK _ _ (MA.mk (fun _ => M.mask [true, true, true, true, true, true, true, true] rfl) (M.mask [false, false, false, false, false, false, false, false] rfl)) ?_; clear hK K
              refine g_q (T := T) (i := 17) rfl (by kernel_rfl) (by kernel_rfl : (pbits 19 131071).setIfInBounds 17 true = pbits 19 262143) (si_and (si_G rfl) si_U) (fun _ _ _ h => h) rfl rfl rfl rfl (fun _ _ _ _ _ => (rn_indexAddr (size := 2) k rfl (T.ev 16 rfl) (T.ev 15 rfl) ⟨_, Try.underlying50, by kernel_rfl⟩ rfl (by omega) rfl)) ?_; clear T ac; intro ac T
              refine g_w (i := 18) (by kernel_rfl) rfl (by kernel_rfl : (pbits 19 262143).setIfInBounds 18 true = pbits 19 524287) rfl ?_; intro K hK
              refine ow_stR M T rfl rfl (T.ev 0 rfl) (T.ev 1 rfl) (.tail (.tail (.tail (.tail .head)))) (by omega) rfl ?_; clear M T; intro wc ac M T
              obtain ⟨lo2, hlo2⟩ : ∃ q, q = lo1.set k ((min (beatT t1 s2 u3 r4 (k : Int)) (beatT t1 s2 u3 r4 (k : Int))), (max (beatT t1 s2 u3 r4 (k : Int)) (beatT t1 s2 u3 r4 (k : Int)))) := ⟨_, rfl⟩
              have lhlo2 : lo1.length = lo2.length := by rw [hlo2, List.length_set]
              rw [← hlo2] at M; (try rw [lhlo2] at M); (try rw [lhlo2] at T)
              have Ss3 := Sp.pre (w := w) (ex := noEx) (size := 2) (n := lo2.length) (g := g4) (xs := rc lo2) (ys := []) (by simp [rc_length])
              have hello2 : lo2[k]? = some ((min (beatT t1 s2 u3 r4 (k : Int)) (beatT t1 s2 u3 r4 (k : Int))), (max (beatT t1 s2 u3 r4 (k : Int)) (beatT t1 s2 u3 r4 (k : Int)))) := by rw [hlo2]; exact List.getElem?_set_self (by omega)
              refine sh_out hK _ _ (MA.mk (fun h => (no_of (by kernel_rfl) h).elim) (M.mask [false, false, false, false, false, false, false, false] rfl)) ?_; clear hK K
              refine g_done (by kernel_rfl) ?_
              replace T := T.pick [19, 20, 21, 22, 23, 24, 25, 26, 27, 28, 29, 30, 31, 32, 33, 34] rfl
              refine nm_blk ?_
              refine nm_then ?_
              refine wp_region_lit ?_
              refine l_q T rfl rfl rfl rfl (rn_move rfl (T.ev 15 rfl)) ?_; clear T ac; intro ac T
              refine l_q T rfl rfl rfl rfl (rn_add rfl (T.ev 0 rfl) evc (by omega)) ?_; clear T ac; intro ac T
              refine l_q (v := (.int .i64 ((k : Int) + 1))) (T.pick [0, 1, 2, 3, 4, 5, 6, 7, 8, 9, 10, 11, 12, 13, 14, 15, 16] rfl) rfl rfl rfl rfl (rn_assign rfl (T.ev 0 rfl)) ?_; clear T ac; intro ac T
              refine wpList_nil ?_
              replace T := T.pick [0, 3, 4, 5, 6, 7, 8, 9, 10, 11, 12, 13, 14, 15, 16, 17] rfl
              refine nm_then ?_
              exact ⟨_, by omega, k + 1, lo2, rfl, (by omega), (hNB.step (by omega) hkv (by rw [hlo2, hlo1, List.set_set]; rfl) (newV_zero h6)), T.pick [1, 2, 3, 4, 5, 6, 7, 8, 9, 10, 11, 12, 13, 14, 15, 0] rfl, M.mask [true, true, true, true, true, true, true, true] rfl⟩
             ·intro h6
              refine wp_skip ?_
              refine nm_then ?_
              refine g_start2 M (M.mask [false, false, false, false, false, false, false, false] rfl) 19 (by kernel_rfl) rfl (by kernel_rfl) ?_
              clear M; intro wc M
              refine g_addG 18 M ?_
              refine g_q (T := T) (i := 0) rfl (by kernel_rfl) (by kernel_rfl : (pbits 19 0).setIfInBounds 0 true = pbits 19 1) (si_and (si_G rfl) si_U) (fun _ _ _ h => h) rfl rfl rfl rfl (fun _ _ _ _ _ => (rn_move rfl (T.ev 6 rfl))) ?_; clear T ac; intro ac T
              refine g_q (T := T) (i := 1) rfl (by kernel_rfl) (by kernel_rfl : (pbits 19 1).setIfInBounds 1 true = pbits 19 3) (si_and (si_G rfl) si_U) (fun _ _ _ h => h) rfl rfl rfl rfl (fun _ _ _ _ _ => (rn_move rfl (T.ev 18 rfl))) ?_; clear T ac; intro ac T
              refine g_q (T := T) (i := 2) rfl (by kernel_rfl) (by kernel_rfl : (pbits 19 3).setIfInBounds 2 true = pbits 19 7) (si_and (si_G rfl) si_U) (fun _ _ _ h => h) rfl rfl rfl rfl (fun _ _ _ _ _ => (rn_move rfl (T.ev 8 rfl))) ?_; clear T ac; intro ac T
              refine g_q (T := T) (i := 3) rfl (by kernel_rfl) (by kernel_rfl : (pbits 19 7).setIfInBounds 3 true = pbits 19 15) (si_and (si_G rfl) si_U) (fun _ _ _ h => h) rfl rfl rfl rfl (fun _ _ _ _ _ => (rn_move rfl (T.ev 20 rfl))) ?_; clear T ac; intro ac T
              refine g_q (T := T) (i := 4) rfl (by kernel_rfl) (by kernel_rfl : (pbits 19 15).setIfInBounds 4 true = pbits 19 31) (si_and (si_G rfl) si_U) (fun _ _ _ h => h) rfl rfl rfl rfl (fun _ _ _ _ _ => (rn_indexAddr (size := 2) k rfl (T.ev 1 rfl) (T.ev 0 rfl) ⟨_, Try.underlying50, by kernel_rfl⟩ rfl (by omega) rfl)) ?_; clear T ac; intro ac T
              refine g_q (T := T) (i := 5) rfl (by kernel_rfl) (by kernel_rfl : (pbits 19 31).setIfInBounds 5 true = pbits 19 63) (si_and (si_G rfl) si_U) (fun _ _ _ h => h) rfl rfl rfl rfl (fun _ _ _ _ _ => (rn_fieldAddr (off := 0) rfl (T.ev 0 rfl) (fun _ _ _ => by kernel_rfl))) ?_; clear T ac; intro ac T
              refine g_q (T := T) (i := 6) rfl (by kernel_rfl) (by kernel_rfl : (pbits 19 63).setIfInBounds 6 true = pbits 19 127) (si_and (si_G rfl) si_U) (fun _ _ _ h => h) rfl rfl rfl rfl (fun B w' hD hl hS => (rn_cell (Sp.rc0 Sb5 (show Mem w noEx w' _ from ((MA.lft hS) (hD.wait (i := 6) (m := 18) (by kernel_rfl) hl))) (.cons _ (.cons _ (.cons _ (.cons _ (List.Sublist.cons_cons _ (List.nil_sublist _)))))) hkv) rfl (T.ev 0 rfl))) ?_; clear T ac; intro ac T
              refine g_q (T := T) (i := 7) rfl (by kernel_rfl) (by kernel_rfl : (pbits 19 127).setIfInBounds 7 true = pbits 19 255) (si_and (si_G rfl) si_U) (fun _ _ _ h => h) rfl rfl rfl rfl (fun _ _ _ _ _ => (rn_move rfl (T.ev 8 rfl))) ?_; clear T ac; intro ac T
              refine g_q (T := T) (i := 8) rfl (by kernel_rfl) (by kernel_rfl : (pbits 19 255).setIfInBounds 8 true = pbits 19 511) (si_and (si_G rfl) si_U) (fun _ _ _ h => h) rfl rfl rfl rfl (fun _ _ _ _ _ => (rn_min2 rfl (T.ev 1 rfl) (T.ev 0 rfl))) ?_; clear T ac; intro ac T
              refine g_q (T := T) (i := 9) rfl (by kernel_rfl) (by kernel_rfl : (pbits 19 511).setIfInBounds 9 true = pbits 19 1023) (si_and (si_G rfl) si_U) (fun _ _ _ h => h) rfl rfl rfl rfl (fun _ _ _ _ _ => (rn_move rfl (T.ev 15 rfl))) ?_; clear T ac; intro ac T
              refine g_q (T := T) (i := 10) rfl (by kernel_rfl) (by kernel_rfl : (pbits 19 1023).setIfInBounds 10 true = pbits 19 2047) (si_and (si_G rfl) si_U) (fun _ _ _ h => h) rfl rfl rfl rfl (fun _ _ _ _ _ => (rn_move rfl (T.ev 27 rfl))) ?_; clear T ac; intro ac T
              refine g_q (T := T) (i := 11) rfl (by kernel_rfl) (by kernel_rfl : (pbits 19 2047).setIfInBounds 11 true = pbits 19 4095) (si_and (si_G rfl) si_U) (fun _ _ _ h => h) rfl rfl rfl rfl (fun _ _ _ _ _ => (rn_indexAddr (size := 2) k rfl (T.ev 1 rfl) (T.ev 0 rfl) ⟨_, Try.underlying50, by kernel_rfl⟩ rfl (by omega) rfl)) ?_; clear T ac; intro ac T
              refine g_q (T := T) (i := 12) rfl (by kernel_rfl) (by kernel_rfl : (pbits 19 4095).setIfInBounds 12 true = pbits 19 8191) (si_and (si_G rfl) si_U) (fun _ _ _ h => h) rfl rfl rfl rfl (fun _ _ _ _ _ => (rn_fieldAddr (off := 1) rfl (T.ev 0 rfl) (fun _ _ _ => by kernel_rfl))) ?_; clear T ac; intro ac T
              refine g_q (T := T) (i := 13) rfl (by kernel_rfl) (by kernel_rfl : (pbits 19 8191).setIfInBounds 13 true = pbits 19 16383) (si_and (si_G rfl) si_U) (fun _ _ _ h => h) rfl rfl rfl rfl (fun B w' hD hl hS => (rn_cell (Sp.rc1 Sb5 (show Mem w noEx w' _ from ((MA.lft hS) (hD.wait (i := 13) (m := 18) (by kernel_rfl) hl))) (.cons _ (.cons _ (.cons _ (.cons _ (List.Sublist.cons_cons _ (List.nil_sublist _)))))) hkv) rfl (T.ev 0 rfl))) ?_; clear T ac; intro ac T
              refine g_q (T := T) (i := 14) rfl (by kernel_rfl) (by kernel_rfl : (pbits 19 16383).setIfInBounds 14 true = pbits 19 32767) (si_and (si_G rfl) si_U) (fun _ _ _ h => h) rfl rfl rfl rfl (fun _ _ _ _ _ => (rn_move rfl (T.ev 15 rfl))) ?_; clear T ac; intro ac T
              refine g_q (T := T) (i := 15) rfl (by kernel_rfl) (by kernel_rfl : (pbits 19 32767).setIfInBounds 15 true = pbits 19 65535) (si_and (si_G rfl) si_U) (fun _ _ _ h => h) rfl rfl rfl rfl (fun _ _ _ _ _ => (rn_max2 rfl (T.ev 1 rfl) (T.ev 0 rfl))) ?_; clear T ac; intro ac T
              refine g_w (i := 16) (by kernel_rfl) rfl (by kernel_rfl : (pbits 19 65535).setIfInBounds 16 true = pbits 19 131071) rfl ?_; intro K hK
              refine ow_call (first := []) (cap := []) T rfl rfl rfl rfl evf (.cons (T.ev 7 rfl) (.cons (T.ev 0 rfl) .nil)) Try.func24 rfl rfl ?_
              refine Calls.mono (to5_any (min v0 (beatT t1 s2 u3 r4 (k : Int))) (max v1 (beatT t1 s2 u3 r4 (k : Int))) _) ?_
              clear T
              rintro e wc ⟨rfl, hb⟩
              intro ac T
              replace M := M.call hb; clear hb
              refine sh_out hK _ _ (MA.mk (fun _ => M.mask [true, true, true, true, true, true, true, true] rfl) (M.mask [false, false, false, false, false, false, false, false] rfl)) ?_; clear hK K
              refine g_q (T := T) (i := 17) rfl (by kernel_rfl) (by kernel_rfl : (pbits 19 131071).setIfInBounds 17 true = pbits 19 262143) (si_and (si_G rfl) si_U) (fun _ _ _ h => h) rfl rfl rfl rfl (fun _ _ _ _ _ => (rn_indexAddr (size := 2) k rfl (T.ev 16 rfl) (T.ev 15 rfl) ⟨_, Try.underlying50, by kernel_rfl⟩ rfl (by omega) rfl)) ?_; clear T ac; intro ac T
              refine g_w (i := 18) (by kernel_rfl) rfl (by kernel_rfl : (pbits 19 262143).setIfInBounds 18 true = pbits 19 524287) rfl ?_; intro K hK
              refine ow_stR M T rfl rfl (T.ev 0 rfl) (T.ev 1 rfl) (.tail (.tail (.tail (.tail .head)))) (by omega) rfl ?_; clear M T; intro wc ac M T
              obtain ⟨lo3, hlo3⟩ : ∃ q, q = bl5.set k ((min v0 (beatT t1 s2 u3 r4 (k : Int))), (max v1 (beatT t1 s2 u3 r4 (k : Int)))) := ⟨_, rfl⟩
              have lhlo3 : bl5.length = lo3.length := by rw [hlo3, List.length_set]
              rw [← hlo3] at M; (try rw [lhlo3] at M); (try rw [lhlo3] at T)
              have Ss4 := Sp.pre (w := w) (ex := noEx) (size := 2) (n := lo3.length) (g := g4) (xs := rc lo3) (ys := []) (by simp [rc_length])
              have hello3 : lo3[k]? = some ((min v0 (beatT t1 s2 u3 r4 (k : Int))), (max v1 (beatT t1 s2 u3 r4 (k : Int)))) := by rw [hlo3]; exact List.getElem?_set_self (by omega)
              refine sh_out hK _ _ (MA.mk (fun h => (no_of (by kernel_rfl) h).elim) (M.mask [false, false, false, false, false, false, false, false] rfl)) ?_; clear hK K
              refine g_done (by kernel_rfl) ?_
              replace T := T.pick [20, 21, 22, 23, 24, 25, 26, 27, 28, 29, 30, 31, 32, 33, 34, 35] rfl
              refine nm_blk ?_
              refine nm_then ?_
              refine wp_region_lit ?_
              refine l_q T rfl rfl rfl rfl (rn_move rfl (T.ev 15 rfl)) ?_; clear T ac; intro ac T
              refine l_q T rfl rfl rfl rfl (rn_add rfl (T.ev 0 rfl) evc (by omega)) ?_; clear T ac; intro ac T
              refine l_q (v := (.int .i64 ((k : Int) + 1))) (T.pick [0, 1, 2, 3, 4, 5, 6, 7, 8, 9, 10, 11, 12, 13, 14, 15, 16] rfl) rfl rfl rfl rfl (rn_assign rfl (T.ev 0 rfl)) ?_; clear T ac; intro ac T
              refine wpList_nil ?_
              replace T := T.pick [0, 3, 4, 5, 6, 7, 8, 9, 10, 11, 12, 13, 14, 15, 16, 17] rfl
              refine nm_then ?_
              exact ⟨_, by omega, k + 1, lo3, rfl, (by omega), (hNB.step (by omega) hkv hlo3 (newV_some h6)), T.pick [1, 2, 3, 4, 5, 6, 7, 8, 9, 10, 11, 12, 13, 14, 15, 0] rfl, M.mask [true, true, true, true, true, true, true, true] rfl⟩
            ·intro h5
             have hn5 := hNB.n
             refine wp_exit ?_
             refine ex_then ?_
             refine ex_then ?_
             refine ex_hit ?_
             refine nm_then ?_
             refine wp_seq ?_
             refine wp_region_lit ?_
             refine l_q T rfl rfl rfl rfl (rn_move rfl (T.ev 7 rfl)) ?_; clear T ac; intro ac T
             refine l_q T rfl rfl rfl rfl (rn_add rfl (T.ev 0 rfl) evc (by omega)) ?_; clear T ac; intro ac T
             refine l_q (v := (.int .i64 (al4 + 1))) (T.pick [0, 1, 2, 3, 4, 5, 6, 7, 8, 10, 11, 12, 13, 14, 15, 16, 17, 18] rfl) rfl rfl rfl rfl (rn_assign rfl (T.ev 0 rfl)) ?_; clear T ac; intro ac T
             refine wpList_nil ?_
             replace T := T.pick [0, 4, 5, 6, 7, 8, 9, 10, 11, 12, 13, 14, 15, 16, 17] rfl
             refine nm_then ?_
             refine wp_seq ?_
             refine wp_region_lit ?_
             refine l_q (v := (.pointer (some ⟨g1, 0, none⟩))) T rfl rfl rfl rfl (rn_fieldAddr (off := 0) rfl (T.ev 1 rfl) (fun _ _ _ => by kernel_rfl)) ?_; clear T ac; intro ac T
             refine l_q T rfl rfl rfl rfl (rn_rowO (Mem.nth M 7 rfl) rfl (T.ev 0 rfl) rfl) ?_; clear T ac; intro ac T
             refine l_q T rfl rfl rfl rfl (rn_move rfl (T.ev 4 rfl)) ?_; clear T ac; intro ac T
             refine l_q T rfl rfl rfl rfl (rn_rowO (Mem.nth M 1 rfl) rfl (T.ev 16 rfl) rfl) ?_; clear T ac; intro ac T
             refine l_q T rfl rfl rfl rfl (rn_rowO (Mem.nth M 0 rfl) rfl (T.ev 18 rfl) rfl) ?_; clear T ac; intro ac T
             refine l_w rfl ?_; intro K hK
             refine ow_call (first := []) (cap := []) T rfl rfl rfl rfl evf (.cons (T.ev 3 rfl) (.cons (T.ev 2 rfl) (.cons (T.ev 1 rfl) (.cons (T.ev 0 rfl) .nil)))) Try.func25 rfl rfl ?_
             refine Calls.mono (kkeeps_any bu2.law (bu2.first + (bu2.step * bu2.note)) t1 s2 u3 r4 _ (by (try dsimp only); omega) (by (try dsimp only); omega) (by (try dsimp only); omega) (by (try dsimp only); omega) (by (try dsimp only); omega) (by (try dsimp only); omega) (by (try dsimp only); omega)) ?_
             clear T
             rintro e wc ⟨rfl, hb⟩
             intro ac T
             replace M := M.call hb; clear hb
             refine sh_out hK _ _ ?_; clear hK K
             refine wpList_nil ?_
             replace T := T.pick [0, 6, 7, 8, 9, 10, 11, 12, 13, 14, 15, 16, 17, 18] rfl
             replace M := M.mask [false, false, true, true, true, true, true, true] rfl
             refine nm_then ?_
             refine wp_cond_split (T.ev 0 rfl) ?_ ?_
             ·intro h7
              refine wp_region_lit ?_
              refine l_q T rfl rfl rfl rfl (rn_move rfl (T.ev 7 rfl)) ?_; clear T ac; intro ac T
              refine l_q T rfl rfl rfl rfl (rn_add rfl (T.ev 0 rfl) evc (by omega)) ?_; clear T ac; intro ac T
              refine l_q (v := (.int .i64 (ke4 + 1))) (T.pick [0, 1, 2, 3, 4, 5, 6, 7, 8, 10, 11, 12, 13, 14, 15] rfl) rfl rfl rfl rfl (rn_assign rfl (T.ev 0 rfl)) ?_; clear T ac; intro ac T
              refine wpList_nil ?_
              replace T := T.pick [0, 4, 5, 6, 7, 8, 9, 10, 11, 12, 13, 14, 15] rfl
              refine nm_blk ?_
              refine nm_then ?_
              refine wp_region_lit ?_
              refine l_q T rfl rfl rfl rfl (rn_move rfl (T.ev 12 rfl)) ?_; clear T ac; intro ac T
              refine l_q T rfl rfl rfl rfl (rn_add rfl (T.ev 0 rfl) evc (by omega)) ?_; clear T ac; intro ac T
              refine l_q (v := (.int .i64 (r4 + 1))) (T.pick [0, 1, 2, 3, 4, 5, 6, 7, 8, 9, 10, 11, 12, 13] rfl) rfl rfl rfl rfl (rn_assign rfl (T.ev 0 rfl)) ?_; clear T ac; intro ac T
              refine wpList_nil ?_
              replace T := T.pick [0, 3, 4, 5, 6, 7, 8, 9, 10, 11, 12, 13, 14] rfl
              refine nm_then ?_
              exact ⟨_, by omega, r4 + 1, (P4 ++ [(t1, s2, u3, r4)]), (ke4 + 1), (al4 + 1), bl5, rfl, (by omega), (hP4.next (by unfold inQ; dsimp only; omega)), (hF4.step (t1, s2, u3, r4) (by rw [if_pos (show kQ bu2.law bu2.due (t1, s2, u3, r4) = true from h7)]) hNB.n (hNB.done (by omega))), (by omega), T.pick [3, 4, 5, 6, 7, 1, 2, 8, 9, 10, 11, 12, 0] rfl, M.mask [true, true, true, true, true, true] rfl⟩
             ·intro h7
              refine wp_skip ?_
              refine nm_blk ?_
              refine nm_then ?_
              refine wp_region_lit ?_
              refine l_q T rfl rfl rfl rfl (rn_move rfl (T.ev 13 rfl)) ?_; clear T ac; intro ac T
              refine l_q T rfl rfl rfl rfl (rn_add rfl (T.ev 0 rfl) evc (by omega)) ?_; clear T ac; intro ac T
              refine l_q (v := (.int .i64 (r4 + 1))) (T.pick [0, 1, 2, 3, 4, 5, 6, 7, 8, 9, 10, 11, 12, 13, 14] rfl) rfl rfl rfl rfl (rn_assign rfl (T.ev 0 rfl)) ?_; clear T ac; intro ac T
              refine wpList_nil ?_
              replace T := T.pick [0, 4, 5, 6, 7, 8, 9, 10, 11, 12, 13, 14, 15] rfl
              refine nm_then ?_
              exact ⟨_, by omega, r4 + 1, (P4 ++ [(t1, s2, u3, r4)]), ke4, (al4 + 1), bl5, rfl, (by omega), (hP4.next (by unfold inQ; dsimp only; omega)), (hF4.step (t1, s2, u3, r4) (by rw [if_neg (show ¬ kQ bu2.law bu2.due (t1, s2, u3, r4) = true by show ¬ _ = true; rw [show kQ bu2.law bu2.due (t1, s2, u3, r4) = false from h7]; simp)]; omega) hNB.n (hNB.done (by omega))), (by omega), T.pick [2, 3, 4, 5, 6, 7, 1, 8, 9, 10, 11, 12, 0] rfl, M.mask [true, true, true, true, true, true] rfl⟩
          ·intro h4
           refine wp_exit ?_
           refine ex_then ?_
           refine ex_then ?_
           refine ex_hit ?_
           refine nm_blk ?_
           refine nm_then ?_
           refine wp_region_lit ?_
           refine l_q T rfl rfl rfl rfl (rn_move rfl (T.ev 12 rfl)) ?_; clear T ac; intro ac T
           refine l_q T rfl rfl rfl rfl (rn_add rfl (T.ev 0 rfl) evc (by omega)) ?_; clear T ac; intro ac T
           refine l_q (v := (.int .i64 (u3 + 1))) (T.pick [0, 1, 2, 3, 4, 5, 6, 7, 8, 9, 10, 11, 12, 13, 15] rfl) rfl rfl rfl rfl (rn_assign rfl (T.ev 0 rfl)) ?_; clear T ac; intro ac T
           refine wpList_nil ?_
           replace T := T.pick [0, 4, 5, 6, 7, 8, 9, 10, 11, 12, 13, 14] rfl
           refine nm_then ?_
           exact ⟨_, by omega, u3 + 1, P4, ke4, al4, bl4, rfl, (by omega), (hP4.endR (by omega)), hF4, (by omega), T.pick [1, 2, 3, 4, 5, 6, 7, 8, 9, 10, 11, 0] rfl, M.mask [true, true, true, true, true, true] rfl⟩
        ·intro h3
         refine wp_exit ?_
         refine ex_then ?_
         refine ex_then ?_
         refine ex_hit ?_
         refine nm_blk ?_
         refine nm_then ?_
         refine wp_region_lit ?_
         refine l_q T rfl rfl rfl rfl (rn_move rfl (T.ev 11 rfl)) ?_; clear T ac; intro ac T
         refine l_q T rfl rfl rfl rfl (rn_add rfl (T.ev 0 rfl) evc (by omega)) ?_; clear T ac; intro ac T
         refine l_q (v := (.int .i64 (s2 + 1))) (T.pick [0, 1, 2, 3, 4, 5, 6, 7, 8, 9, 10, 11, 12, 14] rfl) rfl rfl rfl rfl (rn_assign rfl (T.ev 0 rfl)) ?_; clear T ac; intro ac T
         refine wpList_nil ?_
         replace T := T.pick [0, 4, 5, 6, 7, 8, 9, 10, 11, 12, 13] rfl
         refine nm_then ?_
         exact ⟨_, by omega, s2 + 1, P3, ke3, al3, bl3, rfl, (by omega), (hP3.endU (by omega)), hF3, (by omega), T.pick [1, 2, 3, 4, 5, 6, 7, 8, 9, 10, 0] rfl, M.mask [true, true, true, true, true, true] rfl⟩
      ·intro h2
       refine wp_exit ?_
       refine ex_then ?_
       refine ex_then ?_
       refine ex_hit ?_
       refine nm_blk ?_
       refine nm_then ?_
       refine wp_region_lit ?_
       refine l_q T rfl rfl rfl rfl (rn_move rfl (T.ev 10 rfl)) ?_; clear T ac; intro ac T
       refine l_q T rfl rfl rfl rfl (rn_add rfl (T.ev 0 rfl) evc (by omega)) ?_; clear T ac; intro ac T
       refine l_q (v := (.int .i64 (t1 + 1))) (T.pick [0, 1, 2, 3, 4, 5, 6, 7, 8, 9, 10, 11, 13] rfl) rfl rfl rfl rfl (rn_assign rfl (T.ev 0 rfl)) ?_; clear T ac; intro ac T
       refine wpList_nil ?_
       replace T := T.pick [0, 4, 5, 6, 7, 8, 9, 10, 11, 12] rfl
       refine nm_then ?_
       exact ⟨_, by omega, t1 + 1, P2, ke2, al2, bl2, rfl, (by omega), (hP2.endS (by omega)), hF2, (by omega), T.pick [1, 2, 3, 4, 5, 6, 7, 8, 9, 0] rfl, M.mask [true, true, true, true, true, true] rfl⟩
    ·intro h1
     have hPd := hP1.done (by omega)
     have hkk := hF1.keeps hPd hxu4 hxu6 (by dsimp only; omega)
     have hbl : bl1 = lbu7 := (hF1.beats hPd hxu4 hxu6).trans hlbu7.symm
     have Sb1 := Sp.pre (w := w) (ex := noEx) (size := 2) (n := bl1.length) (g := g4) (xs := rc bl1) (ys := []) (by simp [rc_length])
     have hq1 : ((decide (kpu8 = 1)) == (decide (ke1 = al1))) = true := by rw [beq_iff_eq, decide_eq_decide, hkpu8]; exact hkk.1
     have hq2 : ((decide (kpu8 = 2)) == (decide (ke1 = 0))) = true := by rw [beq_iff_eq, decide_eq_decide, hkpu8]; exact hkk.2
     refine wp_exit ?_
     refine ex_then ?_
     refine ex_then ?_
     refine ex_hit ?_
     refine nm_then ?_
     refine wp_seq ?_
     refine wp_region_lit ?_
     refine l_q T rfl rfl rfl rfl (rn_move rfl (T.ev 3 rfl)) ?_; clear T ac; intro ac T
     refine l_q T rfl rfl rfl rfl (rn_move rfl (T.ev 6 rfl)) ?_; clear T ac; intro ac T
     refine l_w rfl ?_; intro K hK
     refine ow_call (first := []) (cap := []) T rfl rfl rfl rfl evf (.cons (T.ev 1 rfl) (.cons (T.ev 0 rfl) .nil)) Try.func26 rfl rfl ?_
     refine Calls.mono (sameRanges_same _ _ _ _ _ _ lbu7 _ (Su7.rd M (.cons _ (.cons _ (.cons _ (.cons _ (.cons _ (.cons _ (List.sublist_append_right _ _)))))))) (by have h9 := Sb1.rd M (.cons _ (.cons _ (List.Sublist.cons_cons _ (List.nil_sublist _)))); rw [hbl] at h9; exact h9) (by omega) (by omega)) ?_
     clear T
     rintro e wc ⟨rfl, hb⟩
     intro ac T
     replace M := M.call hb; clear hb
     refine sh_out hK _ _ ?_; clear hK K
     refine l_q T rfl rfl rfl rfl (rn_move rfl (T.ev 0 rfl)) ?_; clear T ac; intro ac T
     refine l_q T (wanted_yes rfl rfl (T.ev 0 rfl) rfl) rfl rfl rfl (rn_move rfl (T.ev 8 rfl)) ?_; clear T ac; intro ac T
     refine l_q T (wanted_yes rfl rfl (T.ev 1 rfl) rfl) rfl rfl rfl (rn_eql rfl (T.ev 0 rfl) evc) ?_; clear T ac; intro ac T
     refine l_q T (wanted_yes rfl rfl (T.ev 2 rfl) rfl) rfl rfl rfl (rn_move rfl (T.ev 12 rfl)) ?_; clear T ac; intro ac T
     refine l_q T (wanted_yes rfl rfl (T.ev 3 rfl) rfl) rfl rfl rfl (rn_move rfl (T.ev 14 rfl)) ?_; clear T ac; intro ac T
     refine l_q T (wanted_yes rfl rfl (T.ev 4 rfl) rfl) rfl rfl rfl (rn_eql rfl (T.ev 1 rfl) (T.ev 0 rfl)) ?_; clear T ac; intro ac T
     refine l_q (v := (.bool ((decide (kpu8 = 1)) == (decide (ke1 = al1))))) T (wanted_yes rfl rfl (T.ev 5 rfl) rfl) rfl rfl rfl (rn_bin rfl (T.ev 3 rfl) (T.ev 0 rfl) (by kernel_rfl)) ?_; clear T ac; intro ac T
     refine l_q T rfl rfl rfl rfl (rn_pick1 rfl (T.ev 6 rfl) rfl (T.ev 0 rfl)) ?_; clear T ac; intro ac T
     refine l_q T rfl rfl rfl rfl (rn_move rfl (T.ev 0 rfl)) ?_; clear T ac; intro ac T
     refine l_q T (wanted_yes rfl rfl (T.ev 0 rfl) hq1) rfl rfl rfl (rn_move rfl (T.ev 16 rfl)) ?_; clear T ac; intro ac T
     refine l_q T (wanted_yes rfl rfl (T.ev 1 rfl) hq1) rfl rfl rfl (rn_eql rfl (T.ev 0 rfl) evc) ?_; clear T ac; intro ac T
     refine l_q T (wanted_yes rfl rfl (T.ev 2 rfl) hq1) rfl rfl rfl (rn_move rfl (T.ev 20 rfl)) ?_; clear T ac; intro ac T
     refine l_q T (wanted_yes rfl rfl (T.ev 3 rfl) hq1) rfl rfl rfl (rn_eql rfl (T.ev 0 rfl) evc) ?_; clear T ac; intro ac T
     refine l_q (v := (.bool ((decide (kpu8 = 2)) == (decide (ke1 = 0))))) T (wanted_yes rfl rfl (T.ev 4 rfl) hq1) rfl rfl rfl (rn_bin rfl (T.ev 2 rfl) (T.ev 0 rfl) (by kernel_rfl)) ?_; clear T ac; intro ac T
     refine l_q T rfl rfl rfl rfl (rn_pick1 rfl (T.ev 5 rfl) hq1 (T.ev 0 rfl)) ?_; clear T ac; intro ac T
     refine l_q T rfl rfl rfl rfl (rn_move rfl (T.ev 0 rfl)) ?_; clear T ac; intro ac T
     refine l_w (wanted_yes rfl rfl (T.ev 0 rfl) hq2) ?_; intro K hK
     refine ow_call (first := []) (cap := []) T rfl rfl rfl rfl evf .nil Try.func17 rfl rfl ?_
     refine Calls.mono (trembling_any _) ?_
     clear T
     rintro e wc ⟨rfl, hb⟩
     intro ac T
     replace M := M.call hb; clear hb
     refine sh_out hK _ _ ?_; clear hK K
     refine l_q T rfl rfl rfl rfl (rn_pick1 rfl (T.ev 1 rfl) hq2 (T.ev 0 rfl)) ?_; clear T ac; intro ac T
     refine l_q T rfl rfl rfl rfl (rn_assign rfl (T.ev 0 rfl)) ?_; clear T ac; intro ac T
     refine wpList_nil ?_
     replace T := T.pick [0] rfl
     replace M := M.mask [false, false, true, false, false, false] rfl
     refine nm_then ?_
     refine wp_ret ?_
     refine rt_1 T rfl (T.ev 0 rfl) ?_
     exact ⟨rfl, M.below⟩
  intro H0
  refine g_q (v := (.pointer (some ⟨g1, 5, none⟩))) (T := T) (i := 0) rfl (by kernel_rfl) (by kernel_rfl : (pbits 12 0).setIfInBounds 0 true = pbits 12 1) si_U (fun _ _ _ h => h) rfl rfl rfl rfl (fun _ _ _ _ _ => (rn_fieldAddr (off := 5) rfl (T.ev 6 rfl) (fun _ _ _ => by kernel_rfl))) ?_; clear T ac; intro ac T
  refine g_q (T := T) (i := 1) rfl (by kernel_rfl) (by kernel_rfl : (pbits 12 1).setIfInBounds 1 true = pbits 12 3) si_U (fun _ _ _ h => h) rfl rfl rfl rfl (fun B w' hD hl hS => (rn_one (Mem.nth (show Mem w noEx w' _ from hS) 3 rfl) rfl (T.ev 0 rfl) rfl)) ?_; clear T ac; intro ac T
  refine g_q (v := (.pointer (some ⟨g2, 0, none⟩))) (T := T) (i := 2) rfl (by kernel_rfl) (by kernel_rfl : (pbits 12 3).setIfInBounds 2 true = pbits 12 7) si_U (fun _ _ _ h => h) rfl rfl rfl rfl (fun _ _ _ _ _ => (rn_indexAddr (size := 4) 0 rfl (T.ev 0 rfl) evc ⟨_, Try.underlying38, by kernel_rfl⟩ rfl (by decide) rfl)) ?_; clear T ac; intro ac T
  refine g_q (T := T) (i := 3) rfl (by kernel_rfl) (by kernel_rfl : (pbits 12 7).setIfInBounds 3 true = pbits 12 15) si_U (fun _ _ _ h => h) rfl rfl rfl rfl (fun B w' hD hl hS => (rn_rowO (Mem.nth (show Mem w noEx w' _ from hS) 2 rfl) rfl (T.ev 0 rfl) rfl)) ?_; clear T ac; intro ac T
  refine g_q (v := (.pointer (some ⟨g1, 6, none⟩))) (T := T) (i := 4) rfl (by kernel_rfl) (by kernel_rfl : (pbits 12 15).setIfInBounds 4 true = pbits 12 31) si_U (fun _ _ _ h => h) rfl rfl rfl rfl (fun _ _ _ _ _ => (rn_fieldAddr (off := 6) rfl (T.ev 10 rfl) (fun _ _ _ => by kernel_rfl))) ?_; clear T ac; intro ac T
  refine g_q (T := T) (i := 5) rfl (by kernel_rfl) (by kernel_rfl : (pbits 12 31).setIfInBounds 5 true = pbits 12 63) si_U (fun _ _ _ h => h) rfl rfl rfl rfl (fun B w' hD hl hS => (rn_one (Mem.nth (show Mem w noEx w' _ from hS) 3 rfl) rfl (T.ev 0 rfl) rfl)) ?_; clear T ac; intro ac T
  refine g_q (v := (.pointer (some ⟨g3, 0, none⟩))) (T := T) (i := 6) rfl (by kernel_rfl) (by kernel_rfl : (pbits 12 63).setIfInBounds 6 true = pbits 12 127) si_U (fun _ _ _ h => h) rfl rfl rfl rfl (fun _ _ _ _ _ => (rn_indexAddr (size := 4) 0 rfl (T.ev 0 rfl) evc ⟨_, Try.underlying38, by kernel_rfl⟩ rfl (by decide) rfl)) ?_; clear T ac; intro ac T
  refine g_q (T := T) (i := 7) rfl (by kernel_rfl) (by kernel_rfl : (pbits 12 127).setIfInBounds 7 true = pbits 12 255) si_U (fun _ _ _ h => h) rfl rfl rfl rfl (fun B w' hD hl hS => (rn_rowO (Mem.nth (show Mem w noEx w' _ from hS) 1 rfl) rfl (T.ev 0 rfl) rfl)) ?_; clear T ac; intro ac T
  refine g_m2 (i := 8) (j := 9) (by kernel_rfl) ?_ ?_
  ·refine g_i rfl (by kernel_rfl : (pbits 12 255).setIfInBounds 8 true = pbits 12 511) rfl ?_; intro K hK
   refine ow_al M T rfl rfl rfl rfl ?_; clear M T; intro gr13_8 wc ac M T
   refine sh_out hK _ _ (M.mask [false, true, true, true, true] rfl) ?_; clear hK K
   refine g_w (i := 9) (by kernel_rfl) rfl (by kernel_rfl : (pbits 12 511).setIfInBounds 9 true = pbits 12 1023) rfl ?_; intro K hK
   refine ow_al M T rfl rfl rfl rfl ?_; clear M T; intro gr13_9 wc ac M T
   refine sh_out hK _ _ (M.mask [false, false, true, true, true, true] rfl) ?_; clear hK K
   exact H0 _ _ ⟨gr13_9, gr13_8, T, M⟩
  ·refine g_i rfl (by kernel_rfl : (pbits 12 255).setIfInBounds 9 true = pbits 12 767) rfl ?_; intro K hK
   refine ow_al M T rfl rfl rfl rfl ?_; clear M T; intro gr13_9 wc ac M T
   refine sh_out hK _ _ (M.mask [false, true, true, true, true] rfl) ?_; clear hK K
   refine g_w (i := 8) (by kernel_rfl) rfl (by kernel_rfl : (pbits 12 767).setIfInBounds 8 true = pbits 12 1023) rfl ?_; intro K hK
   refine ow_al M T rfl rfl rfl rfl ?_; clear M T; intro gr13_8 wc ac M T
   refine sh_out hK _ _ (M.mask [false, false, true, true, true, true] rfl) ?_; clear hK K
   exact H0 _ _ ⟨gr13_9, gr13_8, T.pick [1, 0, 2, 3, 4, 5, 6, 7, 8, 9, 10, 11, 12, 13, 14, 15, 16] rfl, M.permT [1, 0, 2, 3, 4, 5] 6 rfl rfl rfl rfl⟩

end Go.Proofs.Ytlahdenlmmlplaa
end

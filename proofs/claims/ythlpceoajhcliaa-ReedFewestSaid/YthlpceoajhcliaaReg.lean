/-
  A region whose order is drawn, walked once: what only reads is taken first, under a condition S on the world that may say which stores have come up; the rest comes up one at a time.
-/
import Derived.Test.YthlpceoajhcliaaBase
import Derived.Deep.RegionHeld3
import Derived.Deep.DrawnRows
namespace Go.Proofs.Ythlpceoajhcliaa
set_option linter.unusedSimpArgs false
set_option linter.unusedVariables false
open Go.RowKit
section
variable {P : Program} {ops : Array Oper} {Q : Exit → Act → World → Prop} {S : Array Bool → World → Prop}

/-- Whoever has come up has come up behind all that it waits for. -/
def DC (ops : Array Oper) (L : Array Bool) : Prop :=
  L.size = ops.size ∧ ∀ (j : Nat) (o : Oper), ops[j]? = some o → L.getD j true = true → ∀ e ∈ o.after, Region.binds .any e = true → L.getD e.on false = true

theorem DC.start : DC ops (Array.replicate ops.size false) := by
  refine ⟨by simp, fun j o hj hl => ?_⟩
  have hlt : j < ops.size := (Array.getElem?_eq_some_iff.1 hj).1
  simp [hlt] at hl

theorem DC.step {L : Array Bool} {i : Nat} (h : DC ops L) (hi : i ∈ Region.ready .any ops L) : DC ops (L.setIfInBounds i true) := by
  obtain ⟨h0, oi, hoi, hall⟩ := mem_ready.1 hi
  refine ⟨by simpa using h.1, fun j o hj hl e he hb => ?_⟩
  by_cases hji : i = j
  · subst hji
    rw [hoi] at hj
    injection hj with hj
    subst hj
    exact getD_set_true (hall e he hb)
  · rw [getD_set_ne true hji] at hl
    exact getD_set_true (h.2 j o hj hl e he hb)

/-- Number m waits for number i. -/
def waitsFor (ops : Array Oper) (m i : Nat) : Bool := match ops[m]? with | some om => om.after.any fun e => Region.binds .any e && e.on == i | none => false

theorem DC.wait {L : Array Bool} {i m : Nat} (h : DC ops L) (hw : waitsFor ops m i = true) (hi : L.getD i true = false) : L.getD m true = false := by
  cases hm : L.getD m true with
  | false => rfl
  | true =>
    unfold waitsFor at hw
    cases ho : ops[m]? with
    | none => rw [ho] at hw; cases hw
    | some om =>
      rw [ho] at hw
      obtain ⟨e, he, hb⟩ := Array.any_eq_true'.1 hw
      simp only [Bool.and_eq_true, beq_iff_eq] at hb
      have h1 := h.2 m om ho hm e he hb.1
      rw [hb.2] at h1
      rcases Nat.lt_or_ge i L.size with h' | h'
      · simp [h'] at hi h1; rw [hi] at h1; cases h1
      · simp [Array.getElem?_eq_none h'] at h1

/-- Whatever order is picked from here on; S holds behind every operation. -/
def wpAnyS (P : Program) (ops : Array Oper) (Q : Exit → Act → World → Prop) (S : Array Bool → World → Prop) : Nat → Array Bool → Act → World → Prop
  | 0, listed, a, w => Region.ready .any ops listed = [] ∧ Q .normal a w
  | fuel + 1, listed, a, w =>
    (Region.ready .any ops listed = [] → Q .normal a w) ∧
    ∀ i ∈ Region.ready .any ops listed, wpOp P ops Q i (fun a' w' => S (listed.setIfInBounds i true) w' ∧ wpAnyS P ops Q S fuel (listed.setIfInBounds i true) a' w') a w

theorem wpAny_of_S : ∀ (fuel : Nat) (listed : Array Bool) (a : Act) (w : World), wpAnyS P ops Q S fuel listed a w → wpAny P .any ops Q fuel listed a w
  | 0, _, _, _, h => h
  | fuel + 1, _, _, _, h => ⟨h.1, fun i hi => wpOp_mono (fun a' w' h' => wpAny_of_S fuel _ a' w' h'.2) (h.2 i hi)⟩

theorem wpAnyS_first {i : Nat} {oi : Oper} {v : Value} (hi : ops[i]? = some oi)
    (hsel : ∀ (j : Nat) (o : Oper) cs b, ops[j]? = some o → o.op ≠ .select cs b)
    (hQ : ∀ c a w, Q (.panic c) (a.put oi.dst v) w → Q (.panic c) a w) (hSi : ∀ L w, S (L.setIfInBounds i true) w ↔ S L w) :
    ∀ (fuel : Nat) (listed : Array Bool) (a : Act) (w : World),
      (∀ j oj, ops[j]? = some oj → j ≠ i → listed.getD j true = false → (∀ e ∈ oj.after, Region.binds .any e = true → e.on ≠ i) → oi.apart ops oj = true) →
      i ∈ Region.ready .any ops listed → YieldsIf P ops (fun w' => ∃ L, DC ops L ∧ L.getD i true = false ∧ S L w') oi v a → DC ops listed → S listed w →
      wpAnyS P ops Q S fuel (listed.setIfInBounds i true) (a.put oi.dst v) w → wpAnyS P ops Q S (fuel + 1) listed a w := by
  intro fuel
  induction fuel with
  | zero =>
    intro listed a w _ hr hy hD hS H
    refine ⟨fun h => (by rw [h] at hr; cases hr), fun j hj => ?_⟩
    by_cases hji : j = i
    · subst hji; exact hy.wpOp hi ⟨listed, hD, (mem_ready.1 hr).1, hS⟩ ⟨(hSi _ _).2 hS, H⟩
    · have := ready_mono hj hji
      rw [H.1] at this
      cases this
  | succ fuel ih =>
    intro listed a w hfree hr hy hD hS H
    refine ⟨fun h => (by rw [h] at hr; cases hr), fun j hj => ?_⟩
    by_cases hji : j = i
    · subst hji; exact hy.wpOp hi ⟨listed, hD, (mem_ready.1 hr).1, hS⟩ ⟨(hSi _ _).2 hS, H⟩
    · have h1 := H.2 j (ready_mono hj hji)
      obtain ⟨hjun, oj, hoj, hall⟩ := mem_ready.1 hj
      have hnot : ∀ e ∈ oj.after, Region.binds .any e = true → e.on ≠ i := fun e he hb heq => by
        have h1 := hall e he hb
        have h0 := (mem_ready.1 hr).1
        rw [heq] at h1
        rcases Nat.lt_or_ge i listed.size with h' | h'
        · simp [h'] at h0 h1; rw [h0] at h1; cases h1
        · simp [Array.getElem?_eq_none h'] at h1
      have h2 := wpOp_putIf hoj (hfree j oj hoj hji hjun hnot) (fun cs b => hsel i oi cs b hi) (fun cs b => hsel j oj cs b hoj) hQ hy h1
      have hfree' : ∀ k ok, ops[k]? = some ok → k ≠ i → (listed.setIfInBounds j true).getD k true = false →
          (∀ e ∈ ok.after, Region.binds .any e = true → e.on ≠ i) → oi.apart ops ok = true := fun k ok hk hki hun hno => by
        refine hfree k ok hk hki ?_ hno
        by_cases hjk : j = k
        · subst hjk; exact hjun
        · rw [getD_set_ne true hjk] at hun; exact hun
      refine wpOp_mono (fun a' w' h3 => ?_) h2
      have hS' : S (listed.setIfInBounds j true) w' := by
        have := h3.2.1
        rw [Array.setIfInBounds_comm _ _ (Ne.symm hji)] at this
        exact (hSi _ _).1 this
      refine ⟨hS', ih (listed.setIfInBounds j true) a' w' hfree' (ready_mono hr (Ne.symm hji)) h3.1 (hD.step hj) hS' ?_⟩
      rw [Array.setIfInBounds_comm _ _ hji]
      exact h3.2.2

/-- .. from a state that is so. -/
def wpG (P : Program) (ops : Array Oper) (Q : Exit → Act → World → Prop) (S : Array Bool → World → Prop) (fuel : Nat) (listed : Array Bool) (a : Act) (w : World) : Prop :=
  DC ops listed → S listed w → wpAnyS P ops Q S fuel listed a w

theorem wpG_take {i : Nat} {oi : Oper} {v : Value} {fuel : Nat} {listed : Array Bool} {a : Act} {w : World} (hi : ops[i]? = some oi)
    (hs : (Region.noSelect ops && Region.free .any ops listed i && (Region.ready .any ops listed).contains i) = true)
    (hSi : ∀ L w, S (L.setIfInBounds i true) w ↔ S L w)
    (hQ : ∀ c a w, Q (.panic c) (a.put oi.dst v) w → Q (.panic c) a w) (hy : YieldsIf P ops (fun w' => ∃ L, DC ops L ∧ L.getD i true = false ∧ S L w') oi v a)
    (h : wpG P ops Q S fuel (listed.setIfInBounds i true) (a.put oi.dst v) w) : wpG P ops Q S (fuel + 1) listed a w := by
  intro hD hS
  simp only [Bool.and_eq_true] at hs
  obtain ⟨⟨h1, h2⟩, h3⟩ := hs
  have hr : i ∈ Region.ready .any ops listed := by simpa using h3
  exact wpAnyS_first hi (Region.noSelect_spec h1) hQ hSi fuel listed a w (Region.free_spec hi h2) hr hy hD hS (h (hD.step hr) ((hSi _ _).2 hS))

/-- What is not wanted yields nothing. -/
theorem wpG_pass {i : Nat} {oi : Oper} {fuel : Nat} {listed : Array Bool} {a : Act} {w : World} (hi : ops[i]? = some oi)
    (hs : (Region.noSelect ops && Region.free .any ops listed i && (Region.ready .any ops listed).contains i) = true)
    (hSi : ∀ L w, S (L.setIfInBounds i true) w ↔ S L w)
    (hQ : ∀ c a w, Q (.panic c) (a.put oi.dst undef) w → Q (.panic c) a w) (hw : Region.wanted oi (yielded ops a.tmps) = false)
    (h : wpG P ops Q S fuel (listed.setIfInBounds i true) (a.put oi.dst undef) w) : wpG P ops Q S (fuel + 1) listed a w :=
  wpG_take hi hs hSi hQ (.inr ⟨hw, rfl⟩) h

/-- The one operation that may come up: it is carried out; S is shown anew. -/
theorem wpG_one {i : Nat} {o : Oper} {fuel : Nat} {listed : Array Bool} {a : Act} {w : World} (hr : Region.ready .any ops listed = [i]) (ho : ops[i]? = some o)
    (hw : Region.wanted o (yielded ops a.tmps) = true)
    (h : S listed w → ∀ K' : Act → World → Prop, Shut (∀ a w, S (listed.setIfInBounds i true) w → wpG P ops Q S fuel (listed.setIfInBounds i true) a w → K' a w) → Oper.wp P o a w K' Q) : wpG P ops Q S (fuel + 1) listed a w := by
  intro hD hS
  refine ⟨fun h0 => (by rw [hr] at h0; cases h0), fun j hj => ?_⟩
  have hD' := hD.step hj
  rw [hr] at hj
  obtain rfl : j = i := by simpa using hj
  refine wpOp_step ho (fun K' hK => ?_)
  rw [if_pos hw]
  exact h hS K' (fun a w hS' hW => hK a w ⟨hS', hW hD' hS'⟩)

/-- .. and the world behind it is known by S alone. -/
theorem wpG_step {i : Nat} {o : Oper} {fuel : Nat} {listed : Array Bool} {a : Act} {w : World} (hr : Region.ready .any ops listed = [i]) (ho : ops[i]? = some o)
    (hw : Region.wanted o (yielded ops a.tmps) = true)
    (h : S listed w → ∀ K' : Act → World → Prop, Shut (∀ a w, S (listed.setIfInBounds i true) w → (∀ W, wpG P ops Q S fuel (listed.setIfInBounds i true) a W) → K' a w) → Oper.wp P o a w K' Q) : wpG P ops Q S (fuel + 1) listed a w :=
  wpG_one hr ho hw fun hS K' hK => h hS K' fun a w hS' hW => hK a w hS' (hW w)

theorem wpG_done {listed : Array Bool} {a : Act} {w : World} {fuel : Nat} (hr : Region.ready .any ops listed = []) (h : S listed w → Q .normal a w) : wpG P ops Q S fuel listed a w := by
  intro _ hS
  cases fuel with
  | zero => exact ⟨hr, h hS⟩
  | succ fuel => exact ⟨fun _ => h hS, by rw [hr]; simp⟩

theorem wpG_end {listed : Array Bool} {a : Act} {w : World} {fuel : Nat} (hr : Region.ready .any ops listed = []) (h : ∀ W, S listed W → Q .normal a W) : wpG P ops Q S fuel listed a w := wpG_done hr (h w)

theorem wp_region_G (S : Array Bool → World → Prop) (n : Nat) {id : Nat} {a : Act} {w : World} (hm : P.follows .mixedOrders = true) (hn : ops.size = n) (hS : S (Array.replicate n false) w.drew)
    (h : ∀ W, wpG P ops Q S n (Array.replicate n false) a W) : (Code.region id ops true).wp P Q a w := by
  subst hn
  exact wp_region_any hm (wpAny_of_S _ _ _ _ (h _ DC.start hS))

theorem no_of {b : Bool} (h : b = true) (h' : b = false) : False := by rw [h] at h'; cases h'
end
end Go.Proofs.Ythlpceoajhcliaa

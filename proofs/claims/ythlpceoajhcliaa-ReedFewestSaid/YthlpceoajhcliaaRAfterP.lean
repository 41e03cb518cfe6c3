/-
  reed: a tongue after some strokes, in plain words.
-/
import Derived.Test.YthlpceoajhcliaaRSpoiled
import Derived.Test.YthlpceoajhcliaaRChkS
namespace Go.Proofs.Ythlpceoajhcliaa
set_option linter.unusedSimpArgs false
set_option linter.unusedVariables false
open Go.RowKit

def Jb.st (j : Jb) : St := ⟨j.p0, j.p1, j.t0, j.t1, j.r0, j.r1, j.u0, j.u1, j.d0, j.d1, j.a0, j.a1, j.b0, j.b1, j.le⟩
def St.filed (s : St) (k : Int) : St := if k = 1 then s.tip else s.root
def St.after (s : St) (l : List Int) : St := l.foldl St.filed s
/-- All numbers of a tongue are within m. -/
structure St.upTo (s : St) (m : Int) : Prop where
  p0 : -m ≤ s.p0 ∧ s.p0 ≤ m
  p1 : -m ≤ s.p1 ∧ s.p1 ≤ m
  t0 : -m ≤ s.t0 ∧ s.t0 ≤ m
  t1 : -m ≤ s.t1 ∧ s.t1 ≤ m
  r0 : -m ≤ s.r0 ∧ s.r0 ≤ m
  r1 : -m ≤ s.r1 ∧ s.r1 ≤ m
  u0 : -100 ≤ s.u0 ∧ s.u0 ≤ 100
  u1 : -100 ≤ s.u1 ∧ s.u1 ≤ 100
  d0 : -100 ≤ s.d0 ∧ s.d0 ≤ 100
  d1 : -100 ≤ s.d1 ∧ s.d1 ≤ 100
  a0 : -100 ≤ s.a0 ∧ s.a0 ≤ 100
  a1 : -100 ≤ s.a1 ∧ s.a1 ≤ 100
  b0 : -100 ≤ s.b0 ∧ s.b0 ≤ 100
  b1 : -100 ≤ s.b1 ∧ s.b1 ≤ 100
theorem St.upTo.ok {s : St} {m : Int} (h : s.upTo m) (hm : m ≤ 1000000) : s.ok := by
  obtain ⟨h1, h2, h3, h4, h5, h6, h7, h8, h9, h10, h11, h12, h13, h14⟩ := h
  constructor <;> omega
theorem St.upTo.filed {s : St} {m : Int} (h : s.upTo m) (k : Int) : (s.filed k).upTo (m + 100) := by
  obtain ⟨h1, h2, h3, h4, h5, h6, h7, h8, h9, h10, h11, h12, h13, h14⟩ := h
  unfold St.filed
  split
  · constructor <;> simp only [St.tip] <;> omega
  · constructor <;> simp only [St.root] <;> omega
theorem filed_any (s : St) (k : Int) (w : World) (h : s.ok) (hk : okS k = true) :
    Calls Try.prog 104 #[stV s, .int .i64 k] w fun e w' => e = .returned (stV (s.filed k)) ∧ Below w.heap.size w w' := by
  unfold St.filed
  by_cases e : k = 1
  · subst e; rw [if_pos rfl]; exact filed_tip s w h
  · have e2 : k = 2 := by unfold okS at hk; simpa [e] using hk
    subst e2; rw [if_neg (by decide)]; exact filed_root s w h
theorem mem_of_drop {α : Type} {l : List α} {k : Nat} {x : α} (h : l.drop k = x :: l.drop (k + 1)) : x ∈ l := List.mem_of_mem_drop (by rw [h]; simp : x ∈ l.drop k)
theorem after_snoc (s : St) (l : List Int) (k : Nat) (x : Int) (h : l.drop k = x :: l.drop (k + 1)) : s.after (l.take (k + 1)) = (s.after (l.take k)).filed x := by
  have hk : k < l.length := by
    rcases Nat.lt_or_ge k l.length with h' | h'
    · exact h'
    · rw [List.drop_of_length_le h'] at h; cases h
  rw [List.drop_eq_getElem_cons hk] at h
  injection h with h _
  rw [List.take_succ_eq_append_getElem hk, St.after, List.foldl_append, h]
  rfl
theorem after_upTo {s : St} {m : Int} (h : s.upTo m) : ∀ (l : List Int), (s.after l).upTo (m + 100 * l.length) := by
  intro l
  induction l generalizing s m with
  | nil => simpa [St.after] using h
  | cons k r ih =>
    have := ih (h.filed k)
    have e : m + 100 + 100 * (r.length : Int) = m + 100 * ((k :: r).length : Int) := by simp only [List.length_cons]; omega
    rw [e] at this
    exact this

end Go.Proofs.Ythlpceoajhcliaa

/-
  Tongues after strokes, by the program and by ref1: contracts for the laws.
-/
import Derived.Test.YthlpceoajhcliaaK4
import Derived.Test.YthlpceoajhcliaaK5
import Derived.Test.YthlpceoajhcliaaPRef
import Derived.Test.YthlpceoajhcliaaRTop2
namespace Go.Proofs.Ythlpceoajhcliaa
set_option linter.unusedSimpArgs false
set_option linter.unusedVariables false
open Go.RowKit

theorem afterC_eq (j : Jb) (l : List Int) : Value.agg (afterC j l) = (.agg #[.int .i64 ((afT j l).p0), .int .i64 ((afT j l).p1), .int .i64 ((afT j l).t0), .int .i64 ((afT j l).t1), .int .i64 ((afT j l).r0), .int .i64 ((afT j l).r1)]) := by
  unfold afterC afT
  by_cases h : checkStrokesJ j l = 0
  · rw [if_pos h, if_pos h]; rfl
  · rw [if_neg h, if_neg h]; rfl


theorem After_T (j : Jb) (A : Option Addr) (c : Nat) (B : Option Addr) (d n : Nat) (l : List Int) (w : World) (hr : Rd w w.heap.size 2 A j.sh.length (rc j.sh)) (hn : j.sh.length ≤ 9223372036854775807) (hl : Rd w w.heap.size 1 B n (ic l)) (hm : n ≤ 9223372036854775807) :
    Calls Try.prog 34 #[jobV j A c, .slice B n d] w fun e w' => e = .returned (.tuple #[.agg #[.int .i64 ((afT j l).p0), .int .i64 ((afT j l).p1), .int .i64 ((afT j l).t0), .int .i64 ((afT j l).t1), .int .i64 ((afT j l).r0), .int .i64 ((afT j l).r1)], .int .i64 (checkStrokesJ j l)]) ∧ Below w.heap.size w w' := by
  have h := After_any j A c B d n l w hr hn hl hm
  rw [afterC_eq] at h
  exact h

theorem rWorst_T (j : Jb) (A : Option Addr) (c : Nat) (B : Option Addr) (d n : Nat) (l : List Int) (w : World) (hr : Rd w w.heap.size 2 A j.sh.length (rc j.sh)) (hn : j.sh.length ≤ 9223372036854775807) (hl : Rd w w.heap.size 1 B n (ic l)) (hm : n ≤ 9223372036854775807) :
    Calls Try.prog 55 #[jobV j A c, .slice B n d] w fun e w' => e = .returned (.tuple #[.int .i64 ((worstT j l).1), .int .i64 ((worstT j l).2)]) ∧ Below w.heap.size w w' := by
  have h := rWorst_any j A c B d n l w hr hn hl hm
  rw [rworstT_eq] at h
  exact h

theorem rFine_T (j : Jb) (A : Option Addr) (c : Nat) (B : Option Addr) (d n : Nat) (l : List Int) (w : World) (hr : Rd w w.heap.size 2 A j.sh.length (rc j.sh)) (hn : j.sh.length ≤ 9223372036854775807) (hl : Rd w w.heap.size 1 B n (ic l)) (hm : n ≤ 9223372036854775807) :
    Calls Try.prog 57 #[jobV j A c, .slice B n d] w fun e w' => e = .returned (.tuple #[.int .i64 ((fineT j l).1), .int .i64 ((fineT j l).2)]) ∧ Below w.heap.size w w' := by
  have h := rFine_any j A c B d n l w hr hn hl hm
  rw [rfineT_eq] at h
  exact h

end Go.Proofs.Ythlpceoajhcliaa
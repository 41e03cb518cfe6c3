/-
  reed: what ranges have in common.
-/
import Derived.Test.YthlpceoajhcliaaReedB
namespace Go.Proofs.Ythlpceoajhcliaa
set_option linter.unusedSimpArgs false
set_option linter.unusedVariables false
open Go.RowKit

/-- What ranges have in common. -/
def mstep (a x : Int × Int) : Int × Int := (if a.1 < x.1 then x.1 else a.1, if x.2 < a.2 then x.2 else a.2)
def meetL (f : Int × Int) (l : List (Int × Int)) : Int × Int := l.foldl mstep f
theorem meetL_snoc (f : Int × Int) (l : List (Int × Int)) (k : Nat) (x0 x1 : Int) (h : l.drop k = (x0, x1) :: l.drop (k + 1)) : meetL f (l.take (k + 1)) = mstep (meetL f (l.take k)) (x0, x1) := by
  have hk : k < l.length := by
    rcases Nat.lt_or_ge k l.length with h' | h'
    · exact h'
    · rw [List.drop_of_length_le h'] at h; cases h
  rw [List.drop_eq_getElem_cons hk] at h
  injection h with h _
  rw [List.take_succ_eq_append_getElem hk, meetL, List.foldl_append, h]
  rfl

set_option maxHeartbeats 1000000 in
theorem meet_any (f0 f1 : Int) (A : Option Addr) (n c : Nat) (l : List (Int × Int)) (w : World) (hr : Rd w w.heap.size 2 A n (rc l)) (hn : n ≤ 9223372036854775807) :
    Calls Try.prog 86 #[R2 f0 f1, .slice A n c] w fun e w' => e = .returned (R2 (meetL (f0, f1) l).1 (meetL (f0, f1) l).2) ∧ Below w.heap.size w w' := by
  have HL := Lib.hid hr.len2
  have HR := Lib.hid hr
  clear hr
  have q0 : Bk ((w.alloc (.cells #[.int .i64 f0, .int .i64 f1] 23)).alloc (.cells #[.int .i64 0, .int .i64 0] 23)) w.heap.size #[.int .i64 f0, .int .i64 f1] := (Bk.new w _ _).alloc _
  have q1 : Bk ((w.alloc (.cells #[.int .i64 f0, .int .i64 f1] 23)).alloc (.cells #[.int .i64 0, .int .i64 0] 23)) (w.heap.size + 1) #[.int .i64 0, .int .i64 0] := by simpa using Bk.new (w.alloc (.cells #[.int .i64 f0, .int .i64 f1] 23)) 23 #[.int .i64 0, .int .i64 0]
  go_enter Try.func86, Try.ntmps86
  go_wp2
  go_loopw [9] (fun i wr => ∃ (k : Nat) (m0 m1 : Int), k ≤ n ∧ i = .int .i64 k ∧ Hid (meetL (f0, f1) (l.take k) = (m0, m1)) ∧ Bk wr w.heap.size #[.int .i64 m0, .int .i64 m1] ∧ Bk wr (w.heap.size + 1) #[.int .i64 0, .int .i64 0] ∧ Below w.heap.size w wr) (fun i _ => n - (intOf i).toNat)
  case atStart => exact ⟨0, f0, f1, Nat.zero_le _, rfl, rfl, q0, q1, by (repeat' (first | (with_reducible exact Below.refl _ _) | (with_reducible refine Below.alloc ?_ ?_ _) | (with_reducible refine Below.setCell ?_ ?_ _) | (with_reducible refine Below.drew ?_) | ((with_reducible refine Below.trans ?_ (Below.mono (by assumption) ?_))) | go_size))⟩
  case round =>
    clear q0 q1
    obtain ⟨k, m0, m1, hk, rfl, he, q0, q1, hb⟩ := hrel
    have hz := q0.lt
    have hz1 := q1.lt
    have c0 := q0.cell
    have c1 := q1.cell
    have g0 := q0.frozen
    have g1 := q1.frozen
    by_cases hlt : k < n
    · obtain ⟨b, o, x0, x1, rfl, hbb, hd, d0, d1⟩ := (HR.out.below hb).at2 hlt
      have HD := Lib.hid hd
      clear hd
      have hb1 : b < wr.heap.size := by omega
      go_wp2
      go_roundw
      case rel => exact ⟨k + 1, _, _, by omega, by go_num, by (show meetL _ _ = _; rw [meetL_snoc _ _ _ _ _ HD.out, he.out]; try rfl), by first | exact q0.put2.alloc _ | exact (q0.alloc _).put2, by first | exact ((q1.far (by simp) _).far (by simp) _).alloc _ | exact ((q1.alloc _).far (by simp) _).far (by simp) _, by (repeat' (first | (with_reducible exact Below.refl _ _) | (with_reducible refine Below.alloc ?_ ?_ _) | (with_reducible refine Below.setCell ?_ ?_ _) | (with_reducible refine Below.drew ?_) | ((with_reducible refine Below.trans ?_ (Below.mono (by assumption) ?_))) | go_size))⟩
      case measure => simp [intOf]; omega
    · go_wp2
      refine ret_blk 4 23 (by rfl) (by rfl) _ (by rfl) _ q1.put2 _ Try.underlying23 (by rfl) (by kernel_rfl) ?_
      have e : l.take k = l := List.take_of_length_le (by have := HL.out; omega)
      have he := he.out
      rw [e] at he
      rw [he]
      exact ⟨rfl, by (repeat' (first | (with_reducible exact Below.refl _ _) | (with_reducible refine Below.alloc ?_ ?_ _) | (with_reducible refine Below.setCell ?_ ?_ _) | (with_reducible refine Below.drew ?_) | ((with_reducible refine Below.trans ?_ (Below.mono (by assumption) ?_))) | go_size))⟩

end Go.Proofs.Ythlpceoajhcliaa

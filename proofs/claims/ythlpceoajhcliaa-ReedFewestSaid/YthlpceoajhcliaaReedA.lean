/-
  reed: checks of ranges and jobs.
-/
import Derived.Test.YthlpceoajhcliaaBase
namespace Go.Proofs.Ythlpceoajhcliaa
set_option linter.unusedSimpArgs false
set_option linter.unusedVariables false
open Go.RowKit

abbrev R2 (a b : Int) : Value := .agg #[.int .i64 a, .int .i64 b]

def withinB (n lo hi : Int) : Bool := decide (lo ≤ n ∧ n ≤ hi)
theorem withinB_lo {n lo hi : Int} (h : ¬ lo ≤ n) : withinB n lo hi = false := by unfold withinB; simp; intro; omega
theorem withinB_hi {n lo hi : Int} (h : lo ≤ n) : withinB n lo hi = decide (n ≤ hi) := by unfold withinB; simp [h]

set_option maxHeartbeats 400000 in
theorem within_any (n lo hi : Int) (w : World) :
    Calls Try.prog 85 #[.int .i64 n, .int .i64 lo, .int .i64 hi] w fun e w' => e = .returned (.bool (withinB n lo hi)) ∧ w = w' := by
  by_cases h1 : lo ≤ n
  · rw [withinB_hi h1]
    go_enter Try.func85, Try.ntmps85
    go_wp2
    go_ret
    exact ⟨rfl, rfl⟩
  · have h2 : decide (lo ≤ n) = false := by simpa using h1
    rw [withinB_lo h1]
    go_enter Try.func85, Try.ntmps85
    go_wp2
    go_ret
    exact ⟨rfl, rfl⟩

def chkR (x0 x1 lo hi : Int) : Int := if withinB x0 lo hi = true ∧ withinB x1 lo hi = true then (if x1 < x0 then 5 else 0) else 1

set_option maxHeartbeats 400000 in
theorem checkRange_any (x0 x1 lo hi : Int) (w : World) :
    Calls Try.prog 92 #[R2 x0 x1, .int .i64 lo, .int .i64 hi] w fun e w' => e = .returned (.int .i64 (chkR x0 x1 lo hi)) ∧ Below w.heap.size w w' := by
  go_enter Try.func92, Try.ntmps92
  go_wp2_with (go_at_call 85; ((with_reducible refine (within_any _ _ _ _).mono ?_); rintro e w' ⟨rfl, rfl⟩))
  all_goals
    go_ret
    refine ⟨?_, by (repeat' (first | (with_reducible exact Below.refl _ _) | (with_reducible refine Below.alloc ?_ ?_ _) | (with_reducible refine Below.setCell ?_ ?_ _) | (with_reducible refine Below.drew ?_) | ((with_reducible refine Below.trans ?_ (Below.mono (by assumption) ?_))) | go_size))⟩
    simp_all [chkR]

def chkAll (lo hi : Int) : List (Int × Int) → Int
  | [] => 0
  | p :: r => if (chkR p.1 p.2 lo hi != 0) = true then chkR p.1 p.2 lo hi else chkAll lo hi r

set_option maxHeartbeats 400000 in
theorem checkAll_any (lo hi : Int) (A : Option Addr) (n c : Nat) (l : List (Int × Int)) (w : World) (hr : Rd w w.heap.size 2 A n (rc l)) (hn : n ≤ 9223372036854775807) :
    Calls Try.prog 93 #[.int .i64 lo, .int .i64 hi, .slice A n c] w fun e w' => e = .returned (.int .i64 (chkAll lo hi l)) ∧ Below w.heap.size w w' := by
  have HL := Lib.hid hr.len2
  have HR := Lib.hid hr
  clear hr
  go_enter Try.func93, Try.ntmps93
  go_wp2
  go_loopw [12] (fun i wr => ∃ k : Nat, k ≤ n ∧ i = .int .i64 k ∧ Hid (chkAll lo hi l = chkAll lo hi (l.drop k)) ∧ Below w.heap.size w wr) (fun i _ => n - (intOf i).toNat)
  case atStart => exact ⟨0, Nat.zero_le _, rfl, rfl, Below.refl _ _⟩
  case round =>
    obtain ⟨k, hk, rfl, he, hb⟩ := hrel
    by_cases hlt : k < n
    · obtain ⟨b, o, x0, x1, rfl, hbb, hd, c0, c1⟩ := (HR.out.below hb).at2 hlt
      have HD := Lib.hid hd
      clear hd
      have hz := hb.size
      go_wp2_with (go_at_call 92; ((with_reducible refine (checkRange_any _ _ _ _ _).mono ?_); rintro e w1 ⟨rfl, hb1⟩; have hz1 := hb1.size; (try simp only [World.size_alloc] at hz1)))
      · go_ret
        exact ⟨ret_int (by rw [he.out, HD.out, chkAll, if_pos ‹_›]), by (repeat' (first | (with_reducible exact Below.refl _ _) | (with_reducible refine Below.alloc ?_ ?_ _) | (with_reducible refine Below.setCell ?_ ?_ _) | (with_reducible refine Below.drew ?_) | ((with_reducible refine Below.trans ?_ (Below.mono (by assumption) ?_))) | go_size))⟩
      · go_roundw
        case rel => exact ⟨k + 1, by omega, by go_num, by rw [he.out, HD.out, chkAll, if_neg (by simp_all)]; rfl, by (repeat' (first | (with_reducible exact Below.refl _ _) | (with_reducible refine Below.alloc ?_ ?_ _) | (with_reducible refine Below.setCell ?_ ?_ _) | (with_reducible refine Below.drew ?_) | ((with_reducible refine Below.trans ?_ (Below.mono (by assumption) ?_))) | go_size))⟩
        case measure => simp [intOf]; omega
    · go_wp2
      go_ret
      exact ⟨ret_int (by rw [he.out, List.drop_of_length_le (by have := HL.out; omega)]; rfl), hb⟩

/-- A job, as data. -/
structure Jb where
  p0 : Int
  p1 : Int
  t0 : Int
  t1 : Int
  r0 : Int
  r1 : Int
  u0 : Int
  u1 : Int
  d0 : Int
  d1 : Int
  a0 : Int
  a1 : Int
  b0 : Int
  b1 : Int
  le : Int
  sh : List (Int × Int)
  wi : Int
  me : Int

abbrev jobV (j : Jb) (A : Option Addr) (c : Nat) : Value :=
  .agg #[.int .i64 j.p0, .int .i64 j.p1, .int .i64 j.t0, .int .i64 j.t1, .int .i64 j.r0, .int .i64 j.r1, .int .i64 j.u0, .int .i64 j.u1, .int .i64 j.d0, .int .i64 j.d1,
    .int .i64 j.a0, .int .i64 j.a1, .int .i64 j.b0, .int .i64 j.b1, .int .i64 j.le, .slice A j.sh.length c, .int .i64 j.wi, .int .i64 j.me]

/-- The first error of a job. -/
def checkJ (j : Jb) : Int :=
  if (chkR j.p0 j.p1 (-60) 60 != 0) = true then chkR j.p0 j.p1 (-60) 60 else
  if (chkAll 0 100 [(j.t0, j.t1), (j.r0, j.r1)] != 0) = true then chkAll 0 100 [(j.t0, j.t1), (j.r0, j.r1)] else
  if (chkAll 0 12 [(j.u0, j.u1), (j.d0, j.d1), (j.a0, j.a1), (j.b0, j.b1)] != 0) = true then chkAll 0 12 [(j.u0, j.u1), (j.d0, j.d1), (j.a0, j.a1), (j.b0, j.b1)] else
  if (!withinB j.le 0 100) = true then 1 else
  if (4 : Int) < j.sh.length then 6 else
  if (chkAll (-60) 60 j.sh != 0) = true then chkAll (-60) 60 j.sh else
  if (!withinB j.wi 0 60) = true ∨ (!withinB j.me 0 6) = true then 1 else 0

set_option maxHeartbeats 1000000 in
theorem check_any (j : Jb) (A : Option Addr) (c : Nat) (w : World) (hr : Rd w w.heap.size 2 A j.sh.length (rc j.sh)) (hn : j.sh.length ≤ 9223372036854775807) :
    Calls Try.prog 49 #[jobV j A c] w fun e w' => e = .returned (.int .i64 (checkJ j)) ∧ Below w.heap.size w w' := by
  have HR := Lib.hid hr
  clear hr
  have q0 := Bk.new w 30 #[.int .i64 j.p0, .int .i64 j.p1, .int .i64 j.t0, .int .i64 j.t1, .int .i64 j.r0, .int .i64 j.r1, .int .i64 j.u0, .int .i64 j.u1, .int .i64 j.d0, .int .i64 j.d1, .int .i64 j.a0, .int .i64 j.a1, .int .i64 j.b0, .int .i64 j.b1, .int .i64 j.le, .slice A j.sh.length c, .int .i64 j.wi, .int .i64 j.me]
  go_enter Try.func49, Try.ntmps49
  go_wp2_with (first
    | (go_at_call 85; ((with_reducible refine (within_any _ _ _ _).mono ?_); rintro e w' ⟨rfl, rfl⟩))
    | (go_at_call 92; ((with_reducible refine (checkRange_any _ _ _ _ _).mono ?_); rintro e w1 ⟨rfl, hb1⟩; have hz1 := hb1.size; (try simp only [World.size_alloc] at hz1); have q1 : Bk w1 w.heap.size #[.int .i64 j.p0, .int .i64 j.p1, .int .i64 j.t0, .int .i64 j.t1, .int .i64 j.r0, .int .i64 j.r1, .int .i64 j.u0, .int .i64 j.u1, .int .i64 j.d0, .int .i64 j.d1, .int .i64 j.a0, .int .i64 j.a1, .int .i64 j.b0, .int .i64 j.b1, .int .i64 j.le, .slice A j.sh.length c, .int .i64 j.wi, .int .i64 j.me] := Bk.below (by (repeat' (first | assumption | (with_reducible refine Bk.alloc ?_ _) | (with_reducible refine Bk.drew ?_) | (with_reducible refine Bk.far ?_ ?_ _) | (simp; omega)))) hb1; have qc1 := q1.cell; have qf1 := q1.frozen))
    | (go_at_call 93; ((with_reducible refine (checkAll_any _ _ _ _ _ [(j.t0, j.t1), (j.r0, j.r1)] _ ?_ ?_).mono ?_); (exact Rd.new _ _ _ _ _ _ rfl rfl); (omega); rintro e w2 ⟨rfl, hb2⟩; have hz2 := hb2.size; (try simp only [World.size_alloc] at hz2); have q2 : Bk w2 w.heap.size #[.int .i64 j.p0, .int .i64 j.p1, .int .i64 j.t0, .int .i64 j.t1, .int .i64 j.r0, .int .i64 j.r1, .int .i64 j.u0, .int .i64 j.u1, .int .i64 j.d0, .int .i64 j.d1, .int .i64 j.a0, .int .i64 j.a1, .int .i64 j.b0, .int .i64 j.b1, .int .i64 j.le, .slice A j.sh.length c, .int .i64 j.wi, .int .i64 j.me] := Bk.below (by (repeat' (first | assumption | (with_reducible refine Bk.alloc ?_ _) | (with_reducible refine Bk.drew ?_) | (with_reducible refine Bk.far ?_ ?_ _) | (simp; omega)))) hb2; have qc2 := q2.cell; have qf2 := q2.frozen))
    | (go_at_call 93; ((with_reducible refine (checkAll_any _ _ _ _ _ [(j.u0, j.u1), (j.d0, j.d1), (j.a0, j.a1), (j.b0, j.b1)] _ ?_ ?_).mono ?_); (exact Rd.new _ _ _ _ _ _ rfl rfl); (omega); rintro e w3 ⟨rfl, hb3⟩; have hz3 := hb3.size; (try simp only [World.size_alloc] at hz3); have q3 : Bk w3 w.heap.size #[.int .i64 j.p0, .int .i64 j.p1, .int .i64 j.t0, .int .i64 j.t1, .int .i64 j.r0, .int .i64 j.r1, .int .i64 j.u0, .int .i64 j.u1, .int .i64 j.d0, .int .i64 j.d1, .int .i64 j.a0, .int .i64 j.a1, .int .i64 j.b0, .int .i64 j.b1, .int .i64 j.le, .slice A j.sh.length c, .int .i64 j.wi, .int .i64 j.me] := Bk.below (by (repeat' (first | assumption | (with_reducible refine Bk.alloc ?_ _) | (with_reducible refine Bk.drew ?_) | (with_reducible refine Bk.far ?_ ?_ _) | (simp; omega)))) hb3; have qc3 := q3.cell; have qf3 := q3.frozen))
    | (go_at_call 93; ((with_reducible refine (checkAll_any _ _ _ _ _ j.sh _ ?_ ?_).mono ?_); (exact (HR.out.below (by (repeat' (first | (with_reducible exact Below.refl _ _) | (with_reducible refine Below.alloc ?_ ?_ _) | (with_reducible refine Below.setCell ?_ ?_ _) | (with_reducible refine Below.drew ?_) | ((with_reducible refine Below.trans ?_ (Below.mono (by assumption) ?_))) | go_size)))).more (by go_size)); (exact hn); rintro e w4 ⟨rfl, hb4⟩; have hz4 := hb4.size; (try simp only [World.size_alloc] at hz4); have q4 : Bk w4 w.heap.size #[.int .i64 j.p0, .int .i64 j.p1, .int .i64 j.t0, .int .i64 j.t1, .int .i64 j.r0, .int .i64 j.r1, .int .i64 j.u0, .int .i64 j.u1, .int .i64 j.d0, .int .i64 j.d1, .int .i64 j.a0, .int .i64 j.a1, .int .i64 j.b0, .int .i64 j.b1, .int .i64 j.le, .slice A j.sh.length c, .int .i64 j.wi, .int .i64 j.me] := Bk.below (by (repeat' (first | assumption | (with_reducible refine Bk.alloc ?_ _) | (with_reducible refine Bk.drew ?_) | (with_reducible refine Bk.far ?_ ?_ _) | (simp; omega)))) hb4; have qc4 := q4.cell; have qf4 := q4.frozen)))
  all_goals
    go_ret
    refine ⟨ret_int ?_, by (repeat' (first | (with_reducible exact Below.refl _ _) | (with_reducible refine Below.alloc ?_ ?_ _) | (with_reducible refine Below.setCell ?_ ?_ _) | (with_reducible refine Below.drew ?_) | ((with_reducible refine Below.trans ?_ (Below.mono (by assumption) ?_))) | go_size))⟩
    unfold checkJ
    (repeat' split)
    all_goals first | rfl | contradiction | omega | (simp_all; done)

end Go.Proofs.Ythlpceoajhcliaa

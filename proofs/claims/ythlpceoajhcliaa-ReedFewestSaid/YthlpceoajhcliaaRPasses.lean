/-
  reed: the verdict on pitches.
-/
import Derived.Test.YthlpceoajhcliaaRWindows
namespace Go.Proofs.Ythlpceoajhcliaa
set_option linter.unusedSimpArgs false
set_option linter.unusedVariables false
open Go.RowKit

def passesJ (j : Jb) (p0 p1 : Int) : Int :=
  if hasB (winS j).1 (winS j).2 p0 p1 = true then 1 else if (meetL (winL j) [(p0, p1)]).2 < (meetL (winL j) [(p0, p1)]).1 then 2 else 3

set_option maxRecDepth 100000 in
set_option maxHeartbeats 1000000 in
theorem passes_any (j : Jb) (A : Option Addr) (c : Nat) (p0 p1 : Int) (w : World) (hj : j.ok) (hr : Rd w w.heap.size 2 A j.sh.length (rc j.sh)) :
    Calls Try.prog 88 #[jobV j A c, R2 p0 p1] w fun e w' => e = .returned (.int .i64 (passesJ j p0 p1)) ∧ Below w.heap.size w w' := by
  have HR := Lib.hid hr
  have HJ := Lib.hid hj
  clear hr hj
  have q0 := (Bk.new w 30 #[.int .i64 j.p0, .int .i64 j.p1, .int .i64 j.t0, .int .i64 j.t1, .int .i64 j.r0, .int .i64 j.r1, .int .i64 j.u0, .int .i64 j.u1, .int .i64 j.d0, .int .i64 j.d1, .int .i64 j.a0, .int .i64 j.a1, .int .i64 j.b0, .int .i64 j.b1, .int .i64 j.le, .slice A j.sh.length c, .int .i64 j.wi, .int .i64 j.me]).alloc (.cells #[.int .i64 p0, .int .i64 p1] 23)
  have h1 : hasB (winS j).1 (winS j).2 p0 p1 = true ∨ hasB (winS j).1 (winS j).2 p0 p1 = false := by cases hasB (winS j).1 (winS j).2 p0 p1 <;> simp
  have h2 : (meetL (winL j) [(p0, p1)]).2 < (meetL (winL j) [(p0, p1)]).1 ∨ ¬ (meetL (winL j) [(p0, p1)]).2 < (meetL (winL j) [(p0, p1)]).1 := Decidable.em _
  have HP : Hid (passesJ j p0 p1 = if hasB (winS j).1 (winS j).2 p0 p1 = true then 1 else if (meetL (winL j) [(p0, p1)]).2 < (meetL (winL j) [(p0, p1)]).1 then 2 else 3) := rfl
  generalize passesJ j p0 p1 = pj at *
  generalize hws : winS j = ws at *
  have HWS := Lib.hid hws
  generalize hwl : winL j = wl at *
  have HWL := Lib.hid hwl
  clear hws hwl
  obtain ⟨s0, s1⟩ := ws
  obtain ⟨l0, l1⟩ := wl
  rcases h1 with h1 | h1 <;> rcases h2 with h2 | h2
  all_goals
    have H1 := Lib.hid h1
    have H2 := Lib.hid h2
    go_enter Try.func88, Try.ntmps88
    go_wp2_with (first
      | (refine wpList_load_blk (by rfl) 30 (.tmp 2) (by rfl) _ (by rfl) _ q0 _ Try.underlying30 (by rfl) (by kernel_rfl) ?_)
      | (go_at_call 84; ((with_reducible refine (windows_any j _ _ _ HJ.out ?_).mono ?_); (exact (HR.out.below (by (repeat' (first | (with_reducible exact Below.refl _ _) | (with_reducible refine Below.alloc ?_ ?_ _) | (with_reducible refine Below.setCell ?_ ?_ _) | (with_reducible refine Below.drew ?_) | ((with_reducible refine Below.trans ?_ (Below.mono (by assumption) ?_))) | go_size)))).more (by go_size)); rintro e w1 ⟨rfl, hb1⟩; have hz1 := hb1.size; (try simp only [World.size_alloc] at hz1); rw [HWS.out, HWL.out]; have q1 := (Bk.newAt (w.alloc (.cells #[.int .i64 j.p0, .int .i64 j.p1, .int .i64 j.t0, .int .i64 j.t1, .int .i64 j.r0, .int .i64 j.r1, .int .i64 j.u0, .int .i64 j.u1, .int .i64 j.d0, .int .i64 j.d1, .int .i64 j.a0, .int .i64 j.a1, .int .i64 j.b0, .int .i64 j.b1, .int .i64 j.le, .slice A j.sh.length c, .int .i64 j.wi, .int .i64 j.me] 30)) 23 #[.int .i64 p0, .int .i64 p1] (w.heap.size + 1) (by simp)).below hb1; have c1 := q1.cell; have y1 := q1.lt; have y0 : w.heap.size < w1.heap.size := (by omega)))
      | (go_at_call 86; ((with_reducible refine (meet_any _ _ _ _ _ [(p0, p1)] _ ?_ ?_).mono ?_); (exact Rd.newAt _ _ _ _ _ _ _ _ (by simp) (by simp) rfl rfl); (omega); rintro e w2 ⟨rfl, hb2⟩; have hz2 := hb2.size; (try simp only [World.size_alloc] at hz2); have q5 : Bk w2 w1.heap.size #[.int .i64 s0, .int .i64 s1] := Bk.below (by (repeat' (first | (with_reducible refine Bk.drew ?_) | ((with_reducible refine Bk.newAt _ _ _ _ ?_); (simp; done)) | (with_reducible refine Bk.alloc ?_ _)))) hb2; have q3 : Bk w2 (w.heap.size + 1) #[.int .i64 p0, .int .i64 p1] := Bk.below (((q1.alloc _).alloc _).alloc _) hb2; clear c1; have c5 := q5.cell; have c3 := q3.cell; have l5 := q5.lt; have l3 := q3.lt; have l4 : w.heap.size < w2.heap.size := (by omega)))
      | (go_at_call 106; ((with_reducible refine (has_any _ _ _ _ _).mono ?_); rintro e w3 ⟨rfl, hb3⟩; have hz3 := hb3.size; (try simp only [World.size_alloc] at hz3); have hbw : Below w.heap.size w w3 := (by (repeat' (first | (with_reducible exact Below.refl _ _) | (with_reducible refine Below.alloc ?_ ?_ _) | (with_reducible refine Below.setCell ?_ ?_ _) | (with_reducible refine Below.drew ?_) | ((with_reducible refine Below.trans ?_ (Below.mono (by assumption) ?_))) | go_size))); have q7 := (Bk.new w2 23 #[.int .i64 (meetL (l0, l1) [(p0, p1)]).1, .int .i64 (meetL (l0, l1) [(p0, p1)]).2]).below hb3; have c7 := q7.cell)))
    go_ret
    refine ⟨ret_int ?_, hbw⟩
    have h1 := H1.out
    have h2 := H2.out
    rw [HP.out]
    (repeat' split)
    all_goals first | rfl | omega | (exfalso; simp_all; done)

end Go.Proofs.Ythlpceoajhcliaa

/-
  reed: Window.
-/
import Derived.Test.YthlpceoajhcliaaRGood
namespace Go.Proofs.Ythlpceoajhcliaa
set_option linter.unusedSimpArgs false
set_option linter.unusedVariables false
open Go.RowKit

def windowJ (j : Jb) : (Int × Int) × Int := if checkJ j = 0 then (if (winS j).2 < (winS j).1 then ((0, 0), 11) else (winS j, 0)) else ((0, 0), checkJ j)

set_option maxRecDepth 100000 in
set_option maxHeartbeats 1000000 in
theorem Window_any (j : Jb) (A : Option Addr) (c : Nat) (w : World) (hr : Rd w w.heap.size 2 A j.sh.length (rc j.sh)) (hn : j.sh.length ≤ 9223372036854775807) :
    Calls Try.prog 33 #[jobV j A c] w fun e w' => e = .returned (.tuple #[R2 (windowJ j).1.1 (windowJ j).1.2, .int .i64 (windowJ j).2]) ∧ Below w.heap.size w w' := by
  have HR := Lib.hid hr
  clear hr
  have q0 := (Bk.new w 30 #[.int .i64 j.p0, .int .i64 j.p1, .int .i64 j.t0, .int .i64 j.t1, .int .i64 j.r0, .int .i64 j.r1, .int .i64 j.u0, .int .i64 j.u1, .int .i64 j.d0, .int .i64 j.d1, .int .i64 j.a0, .int .i64 j.a1, .int .i64 j.b0, .int .i64 j.b1, .int .i64 j.le, .slice A j.sh.length c, .int .i64 j.wi, .int .i64 j.me]).alloc (.cells #[.int .i64 0, .int .i64 0] 23)
  have z0 : Bk ((w.alloc (.cells #[.int .i64 j.p0, .int .i64 j.p1, .int .i64 j.t0, .int .i64 j.t1, .int .i64 j.r0, .int .i64 j.r1, .int .i64 j.u0, .int .i64 j.u1, .int .i64 j.d0, .int .i64 j.d1, .int .i64 j.a0, .int .i64 j.a1, .int .i64 j.b0, .int .i64 j.b1, .int .i64 j.le, .slice A j.sh.length c, .int .i64 j.wi, .int .i64 j.me] 30)).alloc (.cells #[.int .i64 0, .int .i64 0] 23)) (w.heap.size + 1) #[.int .i64 0, .int .i64 0] := by (repeat' (first | (with_reducible refine Bk.drew ?_) | ((with_reducible refine Bk.newAt _ _ _ _ ?_); (simp; done)) | (with_reducible refine Bk.alloc ?_ _)))
  by_cases h0 : checkJ j = 0
  · have g := good_of h0
    have HO := Lib.hid g.ok
    have HW : Hid (windowJ j = if (winS j).2 < (winS j).1 then ((0, 0), 11) else (winS j, 0)) := by show _ = _; unfold windowJ; rw [if_pos h0]
    have H0 := Lib.hid h0
    clear g h0
    have h2 : (winS j).2 < (winS j).1 ∨ ¬ (winS j).2 < (winS j).1 := Decidable.em _
    generalize windowJ j = wj at *
    generalize hws : winS j = ws at *
    have HWS := Lib.hid hws
    clear hws
    obtain ⟨s0, s1⟩ := ws
    rcases h2 with h2 | h2
    all_goals
      have H2 := Lib.hid h2
      go_enter Try.func33, Try.ntmps33
      go_wp2_with (first
        | (refine wpList_load_blk (by rfl) 30 (.tmp 1) (by rfl) _ (by rfl) _ q0 _ Try.underlying30 (by rfl) (by kernel_rfl) ?_)
        | (go_at_call 49; ((with_reducible refine (check_any j _ _ _ ?_ ?_).mono ?_); (exact (HR.out.below (by (repeat' (first | (with_reducible exact Below.refl _ _) | (with_reducible refine Below.alloc ?_ ?_ _) | (with_reducible refine Below.setCell ?_ ?_ _) | (with_reducible refine Below.drew ?_) | ((with_reducible refine Below.trans ?_ (Below.mono (by assumption) ?_))) | go_size)))).more (by go_size)); (exact hn); rintro e w1 ⟨rfl, hb1⟩; have hz1 := hb1.size; (try simp only [World.size_alloc] at hz1); rw [H0.out]; have hbw1 : Below w.heap.size w w1 := (by (repeat' (first | (with_reducible exact Below.refl _ _) | (with_reducible refine Below.alloc ?_ ?_ _) | (with_reducible refine Below.setCell ?_ ?_ _) | (with_reducible refine Below.drew ?_) | ((with_reducible refine Below.trans ?_ (Below.mono (by assumption) ?_))) | go_size))); have q1 := q0.below hb1; have z1 := z0.below hb1))
        | (refine wpList_load_blk (by rfl) 30 (.tmp 1) (by rfl) _ (by rfl) _ q1 _ Try.underlying30 (by rfl) (by kernel_rfl) ?_)
        | (go_at_call 84; ((with_reducible refine (windows_any j _ _ _ HO.out ?_).mono ?_); (exact (HR.out.below hbw1).more hbw1.size); rintro e w2 ⟨rfl, hb2⟩; have hz2 := hb2.size; (try simp only [World.size_alloc] at hz2); rw [HWS.out]; have hbw2 : Below w.heap.size w w2 := bl_trans hbw1 hb2 hbw1.size; have z2 := z1.below hb2; have c2 := z2.cell; have f2 := z2.frozen; have l2 := z2.lt; have m2 : w.heap.size < w2.heap.size := (by omega))))
      refine ret_blk1 2 3 23 (by rfl) (by rfl) _ _ (by rfl) (by rfl) _ (by first | exact z2.put2 | exact (z2.put2.alloc _).alloc _ | exact ((z2.alloc _).alloc _).put2) _ Try.underlying23 (by rfl) (by kernel_rfl) ?_
      rw [HW.out]
      first | rw [if_pos (by have := H2.out; omega)] | rw [if_neg (by have := H2.out; omega)]
      exact ⟨rfl, by first | exact bl_set2 hbw2 (by omega) | exact ((bl_set2 hbw2 (by omega)).alloc (by simp; omega) _).alloc (by simp; omega) _ | exact bl_set2 ((hbw2.alloc (by omega) _).alloc (by simp; omega) _) (by omega)⟩
  · have h1 : (checkJ j != 0) = true := by simpa using h0
    have HW : Hid (windowJ j = ((0, 0), checkJ j)) := by show _ = _; unfold windowJ; rw [if_neg h0]
    clear h0
    generalize windowJ j = wj at *
    go_enter Try.func33, Try.ntmps33
    go_wp2_with (first
      | (refine wpList_load_blk (by rfl) 30 (.tmp 1) (by rfl) _ (by rfl) _ q0 _ Try.underlying30 (by rfl) (by kernel_rfl) ?_)
      | (go_at_call 49; ((with_reducible refine (check_any j _ _ _ ?_ ?_).mono ?_); (exact (HR.out.below (by (repeat' (first | (with_reducible exact Below.refl _ _) | (with_reducible refine Below.alloc ?_ ?_ _) | (with_reducible refine Below.setCell ?_ ?_ _) | (with_reducible refine Below.drew ?_) | ((with_reducible refine Below.trans ?_ (Below.mono (by assumption) ?_))) | go_size)))).more (by go_size)); (exact hn); rintro e w1 ⟨rfl, hb1⟩; have hz1 := hb1.size; (try simp only [World.size_alloc] at hz1); have hbw1 : Below w.heap.size w w1 := (by (repeat' (first | (with_reducible exact Below.refl _ _) | (with_reducible refine Below.alloc ?_ ?_ _) | (with_reducible refine Below.setCell ?_ ?_ _) | (with_reducible refine Below.drew ?_) | ((with_reducible refine Below.trans ?_ (Below.mono (by assumption) ?_))) | go_size))); have z1 := z0.below hb1; have c1 := z1.cell; have f1 := z1.frozen; have l1 := z1.lt)))
    refine ret_blk1 2 3 23 (by rfl) (by rfl) _ _ (by rfl) (by rfl) _ z1.put2 _ Try.underlying23 (by rfl) (by kernel_rfl) ?_
    rw [HW.out]
    exact ⟨rfl, bl_set2 hbw1 (by omega)⟩

end Go.Proofs.Ythlpceoajhcliaa

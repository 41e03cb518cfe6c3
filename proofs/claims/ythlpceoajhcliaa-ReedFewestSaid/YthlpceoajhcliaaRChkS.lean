/-
  reed: strokes that may be.
-/
import Derived.Test.YthlpceoajhcliaaReedA
namespace Go.Proofs.Ythlpceoajhcliaa
set_option linter.unusedSimpArgs false
set_option linter.unusedVariables false
open Go.RowKit

def okS (k : Int) : Bool := k == 1 || k == 2
def chkS : List Int → Int
  | [] => 0
  | k :: r => if okS k then chkS r else 8
def checkStrokesJ (j : Jb) (l : List Int) : Int := if (checkJ j != 0) = true then checkJ j else if 6 < l.length then 6 else chkS l

set_option maxHeartbeats 1000000 in
theorem checkStrokes_any (j : Jb) (A : Option Addr) (c : Nat) (B : Option Addr) (d n : Nat) (l : List Int) (w : World) (hr : Rd w w.heap.size 2 A j.sh.length (rc j.sh)) (hn : j.sh.length ≤ 9223372036854775807) (hl : Rd w w.heap.size 1 B n (ic l)) (hm : n ≤ 9223372036854775807) :
    Calls Try.prog 83 #[jobV j A c, .slice B n d] w fun e w' => e = .returned (.int .i64 (checkStrokesJ j l)) ∧ Below w.heap.size w w' := by
  have HR := Lib.hid hr
  have HL := Lib.hid hl
  have HN := Lib.hid hl.len1
  clear hr hl
  have q0 := Bk.new w 30 #[.int .i64 j.p0, .int .i64 j.p1, .int .i64 j.t0, .int .i64 j.t1, .int .i64 j.r0, .int .i64 j.r1, .int .i64 j.u0, .int .i64 j.u1, .int .i64 j.d0, .int .i64 j.d1, .int .i64 j.a0, .int .i64 j.a1, .int .i64 j.b0, .int .i64 j.b1, .int .i64 j.le, .slice A j.sh.length c, .int .i64 j.wi, .int .i64 j.me]
  by_cases h0 : (checkJ j != 0) = true
  · go_enter Try.func83, Try.ntmps83
    go_wp2_with (first | (refine wpList_load_blk (by rfl) 30 (.tmp 2) (by rfl) _ (by rfl) _ q0 _ Try.underlying30 (by rfl) (by kernel_rfl) ?_) | (go_at_call 49; ((with_reducible refine (check_any j _ _ _ ?_ ?_).mono ?_); (exact (HR.out.below (by (repeat' (first | (with_reducible exact Below.refl _ _) | (with_reducible refine Below.alloc ?_ ?_ _) | (with_reducible refine Below.setCell ?_ ?_ _) | (with_reducible refine Below.drew ?_) | ((with_reducible refine Below.trans ?_ (Below.mono (by assumption) ?_))) | go_size)))).more (by go_size)); (exact hn); rintro e w1 ⟨rfl, hb1⟩; have hz1 := hb1.size; (try simp only [World.size_alloc] at hz1))))
    go_ret
    exact ⟨ret_int (by unfold checkStrokesJ; rw [if_pos h0]), by (repeat' (first | (with_reducible exact Below.refl _ _) | (with_reducible refine Below.alloc ?_ ?_ _) | (with_reducible refine Below.setCell ?_ ?_ _) | (with_reducible refine Below.drew ?_) | ((with_reducible refine Below.trans ?_ (Below.mono (by assumption) ?_))) | go_size))⟩
  have h0 : (checkJ j != 0) = false := by simpa using h0
  by_cases h6 : 6 < n
  · go_enter Try.func83, Try.ntmps83
    go_wp2_with (first | (refine wpList_load_blk (by rfl) 30 (.tmp 2) (by rfl) _ (by rfl) _ q0 _ Try.underlying30 (by rfl) (by kernel_rfl) ?_) | (go_at_call 49; ((with_reducible refine (check_any j _ _ _ ?_ ?_).mono ?_); (exact (HR.out.below (by (repeat' (first | (with_reducible exact Below.refl _ _) | (with_reducible refine Below.alloc ?_ ?_ _) | (with_reducible refine Below.setCell ?_ ?_ _) | (with_reducible refine Below.drew ?_) | ((with_reducible refine Below.trans ?_ (Below.mono (by assumption) ?_))) | go_size)))).more (by go_size)); (exact hn); rintro e w1 ⟨rfl, hb1⟩; have hz1 := hb1.size; (try simp only [World.size_alloc] at hz1))))
    go_ret
    exact ⟨ret_int (by unfold checkStrokesJ; rw [if_neg (by rw [h0]; simp), if_pos (by have := HN.out; omega)]), by (repeat' (first | (with_reducible exact Below.refl _ _) | (with_reducible refine Below.alloc ?_ ?_ _) | (with_reducible refine Below.setCell ?_ ?_ _) | (with_reducible refine Below.drew ?_) | ((with_reducible refine Below.trans ?_ (Below.mono (by assumption) ?_))) | go_size))⟩
  have h6' : n ≤ 6 := by omega
  have HE : Hid (checkStrokesJ j l = chkS l) := by show _ = _; unfold checkStrokesJ; rw [if_neg (by rw [h0]; simp), if_neg (by have := HN.out; omega)]
  clear h6
  go_enter Try.func83, Try.ntmps83
  go_wp2_with (first | (refine wpList_load_blk (by rfl) 30 (.tmp 2) (by rfl) _ (by rfl) _ q0 _ Try.underlying30 (by rfl) (by kernel_rfl) ?_) | (go_at_call 49; ((with_reducible refine (check_any j _ _ _ ?_ ?_).mono ?_); (exact (HR.out.below (by (repeat' (first | (with_reducible exact Below.refl _ _) | (with_reducible refine Below.alloc ?_ ?_ _) | (with_reducible refine Below.setCell ?_ ?_ _) | (with_reducible refine Below.drew ?_) | ((with_reducible refine Below.trans ?_ (Below.mono (by assumption) ?_))) | go_size)))).more (by go_size)); (exact hn); rintro e w1 ⟨rfl, hb1⟩; have hz1 := hb1.size; (try simp only [World.size_alloc] at hz1))))
  have hbw : Below w.heap.size w w1 := by (repeat' (first | (with_reducible exact Below.refl _ _) | (with_reducible refine Below.alloc ?_ ?_ _) | (with_reducible refine Below.setCell ?_ ?_ _) | (with_reducible refine Below.drew ?_) | ((with_reducible refine Below.trans ?_ (Below.mono (by assumption) ?_))) | go_size))
  clear hb1
  go_loopw [18] (fun i wr => ∃ k : Nat, k ≤ n ∧ i = .int .i64 k ∧ Hid (chkS l = chkS (l.drop k)) ∧ Below w.heap.size w wr) (fun i _ => n - (intOf i).toNat)
  case atStart => exact ⟨0, Nat.zero_le _, rfl, rfl, hbw⟩
  case round =>
    obtain ⟨k, hk, rfl, he, hb⟩ := hrel
    by_cases hlt : k < n
    · obtain ⟨b, o, x, rfl, hbb, hd, d0⟩ := (HL.out.below hb).at1 hlt
      have HD := Lib.hid hd
      clear hd
      have hz := hb.size
      by_cases h1 : x = 1
      · subst h1
        go_wp2
        go_roundw
        case rel => exact ⟨k + 1, by omega, by go_num, by (show _ = _; rw [he.out, HD.out]; rfl), hb⟩
        case measure => simp [intOf]; omega
      · have e1 : (x != 1) = true := by simpa using h1
        by_cases h2 : x = 2
        · subst h2
          go_wp2
          go_roundw
          case rel => exact ⟨k + 1, by omega, by go_num, by (show _ = _; rw [he.out, HD.out]; rfl), hb⟩
          case measure => simp [intOf]; omega
        · have e2 : (x != 2) = true := by simpa using h2
          go_wp2
          go_ret
          exact ⟨ret_int (by rw [HE.out, he.out, HD.out, chkS, if_neg (by unfold okS; simp [h1, h2])]), hb⟩
    · go_wp2
      go_ret
      exact ⟨ret_int (by rw [HE.out, he.out, List.drop_of_length_le (by have := HN.out; omega)]; rfl), hb⟩

end Go.Proofs.Ythlpceoajhcliaa

/-
  reed: After.
-/
import Derived.Test.YthlpceoajhcliaaRGood
namespace Go.Proofs.Ythlpceoajhcliaa
set_option linter.unusedSimpArgs false
set_option linter.unusedVariables false
open Go.RowKit

def St.tongue (s : St) : Array Value := #[.int .i64 s.p0, .int .i64 s.p1, .int .i64 s.t0, .int .i64 s.t1, .int .i64 s.r0, .int .i64 s.r1]
def tongue0 : Array Value := #[.int .i64 0, .int .i64 0, .int .i64 0, .int .i64 0, .int .i64 0, .int .i64 0]
def afterC (j : Jb) (l : List Int) : Array Value := if checkStrokesJ j l = 0 then (j.st.after l).tongue else tongue0

theorem Try.fieldTongue (w : World) (a b c d e f g h i j k l m n o : Value) : (Instr.field 92 (.agg #[a, b, c, d, e, f, g, h, i, j, k, l, m, n, o]) 0).run Try.prog w = .ok (.agg #[a, b, c, d, e, f]) w := by kernel_rfl

theorem strokes_of {j : Jb} {l : List Int} (h : checkStrokesJ j l = 0) : checkJ j = 0 ∧ l.length ≤ 6 ∧ ∀ k ∈ l, okS k = true := by
  unfold checkStrokesJ at h
  split at h
  · rename_i h1; rw [h] at h1; simp at h1
  rename_i h1
  split at h
  · omega
  · exact ⟨bne_no h1, by omega, chkS_of h⟩

set_option maxRecDepth 100000 in
set_option maxHeartbeats 1000000 in
theorem After_any (j : Jb) (A : Option Addr) (c : Nat) (B : Option Addr) (d n : Nat) (l : List Int) (w : World) (hr : Rd w w.heap.size 2 A j.sh.length (rc j.sh)) (hn : j.sh.length ≤ 9223372036854775807) (hl : Rd w w.heap.size 1 B n (ic l)) (hm : n ≤ 9223372036854775807) :
    Calls Try.prog 34 #[jobV j A c, .slice B n d] w fun e w' => e = .returned (.tuple #[.agg (afterC j l), .int .i64 (checkStrokesJ j l)]) ∧ Below w.heap.size w w' := by
  have HR := Lib.hid hr
  have HL := Lib.hid hl
  have HN := Lib.hid hl.len1
  clear hr hl
  have q0 := (Bk.new w 30 #[.int .i64 j.p0, .int .i64 j.p1, .int .i64 j.t0, .int .i64 j.t1, .int .i64 j.r0, .int .i64 j.r1, .int .i64 j.u0, .int .i64 j.u1, .int .i64 j.d0, .int .i64 j.d1, .int .i64 j.a0, .int .i64 j.a1, .int .i64 j.b0, .int .i64 j.b1, .int .i64 j.le, .slice A j.sh.length c, .int .i64 j.wi, .int .i64 j.me]).alloc (.cells #[.int .i64 0, .int .i64 0, .int .i64 0, .int .i64 0, .int .i64 0, .int .i64 0] 25)
  have z0 : Bk ((w.alloc (.cells #[.int .i64 j.p0, .int .i64 j.p1, .int .i64 j.t0, .int .i64 j.t1, .int .i64 j.r0, .int .i64 j.r1, .int .i64 j.u0, .int .i64 j.u1, .int .i64 j.d0, .int .i64 j.d1, .int .i64 j.a0, .int .i64 j.a1, .int .i64 j.b0, .int .i64 j.b1, .int .i64 j.le, .slice A j.sh.length c, .int .i64 j.wi, .int .i64 j.me] 30)).alloc (.cells #[.int .i64 0, .int .i64 0, .int .i64 0, .int .i64 0, .int .i64 0, .int .i64 0] 25)) (w.heap.size + 1) #[.int .i64 0, .int .i64 0, .int .i64 0, .int .i64 0, .int .i64 0, .int .i64 0] := by (repeat' (first | (with_reducible refine Bk.drew ?_) | ((with_reducible refine Bk.newAt _ _ _ _ ?_); (simp; done)) | (with_reducible refine Bk.alloc ?_ _)))
  by_cases h0 : checkStrokesJ j l = 0
  · obtain ⟨hc, h6, hk⟩ := strokes_of h0
    have HU := Lib.hid (good_of hc).st
    have HK := Lib.hid hk
    have h6' : n ≤ 6 := by have := HN.out; omega
    have HA : Hid (afterC j l = (j.st.after l).tongue) := by show _ = _; unfold afterC; rw [if_pos h0]
    have H0 := Lib.hid h0
    clear hc h6 hk h0
    generalize afterC j l = ac at *
    generalize hcs : checkStrokesJ j l = cs at *
    have HCS := Lib.hid hcs
    clear hcs
    have hfld := Try.fieldTongue
    go_enter Try.func34, Try.ntmps34
    go_wp2_with (first
      | (refine wpList_load_blk (by rfl) 30 (.tmp 2) (by rfl) _ (by rfl) _ q0 _ Try.underlying30 (by rfl) (by kernel_rfl) ?_)
      | (go_at_call 83; ((with_reducible refine (checkStrokes_any j _ _ _ _ _ l _ ?_ hn ?_ hm).mono ?_); (exact (HR.out.below (by (repeat' (first | (with_reducible exact Below.refl _ _) | (with_reducible refine Below.alloc ?_ ?_ _) | (with_reducible refine Below.setCell ?_ ?_ _) | (with_reducible refine Below.drew ?_) | ((with_reducible refine Below.trans ?_ (Below.mono (by assumption) ?_))) | go_size)))).more (by go_size)); (exact (HL.out.below (by (repeat' (first | (with_reducible exact Below.refl _ _) | (with_reducible refine Below.alloc ?_ ?_ _) | (with_reducible refine Below.setCell ?_ ?_ _) | (with_reducible refine Below.drew ?_) | ((with_reducible refine Below.trans ?_ (Below.mono (by assumption) ?_))) | go_size)))).more (by go_size)); rintro e w1 ⟨rfl, hb1⟩; have hz1 := hb1.size; (try simp only [World.size_alloc] at hz1); rw [HCS.out, H0.out]; have hbw1 : Below w.heap.size w w1 := (by (repeat' (first | (with_reducible exact Below.refl _ _) | (with_reducible refine Below.alloc ?_ ?_ _) | (with_reducible refine Below.setCell ?_ ?_ _) | (with_reducible refine Below.drew ?_) | ((with_reducible refine Below.trans ?_ (Below.mono (by assumption) ?_))) | go_size))); have q1 := q0.below hb1; have z1 := z0.below hb1))
      | (refine wpList_load_blk (by rfl) 30 (.tmp 2) (by rfl) _ (by rfl) _ q1 _ Try.underlying30 (by rfl) (by kernel_rfl) ?_)
      | (go_at_call 69; ((with_reducible refine (after_any j _ _ _ _ _ l _ ?_ (by omega) HU.out HK.out).mono ?_); (exact (HL.out.below hbw1).more hbw1.size); rintro e w2 ⟨rfl, hb2⟩; have hz2 := hb2.size; (try simp only [World.size_alloc] at hz2); have hbw2 : Below w.heap.size w w2 := bl_trans hbw1 hb2 hbw1.size; have z2 := z1.below hb2))
      | (refine wpList_store_blk (by rfl) 25 (.tmp 4) (.tmp 17) (by rfl) _ _ _ (by rfl) (by rfl) z2 (by rfl) (by kernel_rfl) (by simp [Value.oneCell']) ?_; intro w3 z3 ho3))
    refine ret_blk1 4 5 25 (by rfl) (by rfl) _ _ (by rfl) (by rfl) _ z3 _ Try.underlying25 (by rfl) (by kernel_rfl) ?_
    rw [HA.out, H0.out]
    exact ⟨rfl, bl_oth hbw2 ho3 (by omega)⟩
  · have h1 : (checkStrokesJ j l != 0) = true := by simpa using h0
    have HA : Hid (afterC j l = tongue0) := by show _ = _; unfold afterC; rw [if_neg h0]
    clear h0
    generalize afterC j l = ac at *
    go_enter Try.func34, Try.ntmps34
    go_wp2_with (first
      | (refine wpList_load_blk (by rfl) 30 (.tmp 2) (by rfl) _ (by rfl) _ q0 _ Try.underlying30 (by rfl) (by kernel_rfl) ?_)
      | (go_at_call 83; ((with_reducible refine (checkStrokes_any j _ _ _ _ _ l _ ?_ hn ?_ hm).mono ?_); (exact (HR.out.below (by (repeat' (first | (with_reducible exact Below.refl _ _) | (with_reducible refine Below.alloc ?_ ?_ _) | (with_reducible refine Below.setCell ?_ ?_ _) | (with_reducible refine Below.drew ?_) | ((with_reducible refine Below.trans ?_ (Below.mono (by assumption) ?_))) | go_size)))).more (by go_size)); (exact (HL.out.below (by (repeat' (first | (with_reducible exact Below.refl _ _) | (with_reducible refine Below.alloc ?_ ?_ _) | (with_reducible refine Below.setCell ?_ ?_ _) | (with_reducible refine Below.drew ?_) | ((with_reducible refine Below.trans ?_ (Below.mono (by assumption) ?_))) | go_size)))).more (by go_size)); rintro e w1 ⟨rfl, hb1⟩; have hz1 := hb1.size; (try simp only [World.size_alloc] at hz1); have hbw1 : Below w.heap.size w w1 := (by (repeat' (first | (with_reducible exact Below.refl _ _) | (with_reducible refine Below.alloc ?_ ?_ _) | (with_reducible refine Below.setCell ?_ ?_ _) | (with_reducible refine Below.drew ?_) | ((with_reducible refine Below.trans ?_ (Below.mono (by assumption) ?_))) | go_size))); have z1 := z0.below hb1))
      | (refine wpList_store_blk (by rfl) 25 (.tmp 4) (.tmp 12) (by rfl) _ _ _ (by rfl) (by rfl) z1 (by rfl) (by kernel_rfl) (by simp [Value.oneCell']) ?_; intro w3 z3 ho3))
    refine ret_blk1 4 5 25 (by rfl) (by rfl) _ _ (by rfl) (by rfl) _ z3 _ Try.underlying25 (by rfl) (by kernel_rfl) ?_
    rw [HA.out]
    exact ⟨rfl, bl_oth hbw1 ho3 (by omega)⟩

end Go.Proofs.Ythlpceoajhcliaa

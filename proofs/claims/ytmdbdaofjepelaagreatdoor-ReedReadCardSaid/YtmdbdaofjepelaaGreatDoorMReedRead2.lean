/-
  Walks of functions, and plain laws (texts put together). No condition.
-/
import Derived.Deep.DeepMust
import Derived.Deep.DeepFit
import Derived.RangeFuncNested
import Derived.RangeFuncBound
import Derived.RangeFuncCalls
import Derived.RangeFuncLeaves
import Derived.Shelf.Abstract
import Derived.Shelf.RegionOpen
import Derived.OwnWalkIn
import Derived.TacticsInMore
import Derived.LoopNIn
import Derived.LoopIn
import Derived.Scope
import Derived.WalkMore
import Derived.Test.YtmdbdaofjepelaaGreatDoorMReedRead1
set_option maxRecDepth 100000
set_option maxHeartbeats 1000000
set_option linter.unusedSimpArgs false
set_option linter.unusedVariables false
namespace Go.Proofs.YtmdbdaofjepelaaGreatDoor
open Go.RowKit
def strictL (wi : Int) (l : List (Int × Int)) : List (Int × Int) := l.map fun s => (-wi - s.1, wi - s.2)
def looseL (wi : Int) (l : List (Int × Int)) : List (Int × Int) := l.map fun s => (-wi - s.2, wi - s.1)
def winOf (wi : Int) : List (Int × Int) → Int × Int
 | [] => (-wi, wi)
 | f :: r => meetL f r
def winS (j : Jb) : Int × Int := winOf j.wi (strictL j.wi j.sh)
def winL (j : Jb) : Int × Int := winOf j.wi (looseL j.wi j.sh)
structure Jb.ok (j : Jb) : Prop where
 wi : -1000 ≤ j.wi ∧ j.wi ≤ 1000
 sh : ∀ p ∈ j.sh, -1000 ≤ p.1 ∧ p.1 ≤ 1000 ∧ -1000 ≤ p.2 ∧ p.2 ≤ 1000
 few : j.sh.length ≤ 4
theorem windows_nil (j : Jb) (A : Option Addr) (c : Nat) (w : World) (hj : j.ok) (hs : j.sh = []) :
   Calls Tryz.prog 104 #[jobV j A c] w fun e w' => e = .returned (.tuple #[R2 (winS j).1 (winS j).2, R2 (winL j).1 (winL j).2]) ∧ Below w.heap.size w w' := by
 obtain ⟨p0, p1, t0, t1, r0, r1, u0, u1, d0, d1, a0, a1, b0, b1, le, sh, wi, me⟩ := j
 simp only at hs
 subst hs
 have hw := hj.wi
 simp only at hw
 clear hj
 go_enter Tryz.func104, Tryz.ntmps104
 go_wp2
 refine wp_region_G (fun L W => Bk W (w.heap.size + 3) #[.int .i64 (-wi), .int .i64 wi] ∧ (L.getD 2 true = false → Bk W (w.heap.size + 1) #[.int .i64 0, .int .i64 0]) ∧ (L.getD 2 true = true → Bk W (w.heap.size + 1) #[.int .i64 (-wi), .int .i64 wi]) ∧ (L.getD 3 true = false → Bk W (w.heap.size + 2) #[.int .i64 0, .int .i64 0]) ∧ (L.getD 3 true = true → Bk W (w.heap.size + 2) #[.int .i64 (-wi), .int .i64 wi]) ∧ Below w.heap.size w W) 4 (by kernel_rfl) (by kernel_rfl) ?s0 ?r0
 case s0 => (exact ⟨by (repeat' (first | (with_reducible refine Bk.drew ?_) | ((with_reducible refine Bk.newAt _ _ _ _ ?_); (simp; done)) | (with_reducible refine Bk.alloc ?_ _))), fun _ => by (repeat' (first | (with_reducible refine Bk.drew ?_) | ((with_reducible refine Bk.newAt _ _ _ _ ?_); (simp; done)) | (with_reducible refine Bk.alloc ?_ _))), fun h => (no_of h (by kernel_rfl)).elim, fun _ => by (repeat' (first | (with_reducible refine Bk.drew ?_) | ((with_reducible refine Bk.newAt _ _ _ _ ?_); (simp; done)) | (with_reducible refine Bk.alloc ?_ _))), fun h => (no_of h (by kernel_rfl)).elim, by (repeat' (first | (with_reducible exact Below.refl _ _) | (with_reducible refine Below.alloc ?_ ?_ _) | (with_reducible refine Below.setCell ?_ ?_ _) | (with_reducible refine Below.drew ?_) | ((with_reducible refine Below.trans ?_ (Below.mono (by assumption) ?_))) | go_size))⟩)
 intro W0
 refine wpG_take (i := 0) (v := ?v1) rfl (by kernel_rfl) (by intro L w; simp only [getD_set_ne true (show (0 : Nat) ≠ 2 from by decide), getD_set_ne true (show (0 : Nat) ≠ 3 from by decide)]) (fun _ _ _ h => h) (Or.inl ⟨by rfl, ?y1⟩) ?r1
 case y1 => (intro w' hy; obtain ⟨L, hD, hl, hS⟩ := hy; have qc := hS.1.cell; clear hS hD hl; go_simp; (try with_reducible rfl))
 (try simp only [Act.put, Zz3, Zz4, Zz5, Zz6, Zz7, Zz8])
 refine wpG_take (i := 1) (v := ?v2) rfl (by kernel_rfl) (by intro L w; simp only [getD_set_ne true (show (1 : Nat) ≠ 2 from by decide), getD_set_ne true (show (1 : Nat) ≠ 3 from by decide)]) (fun _ _ _ h => h) (Or.inl ⟨by rfl, ?y2⟩) ?r2
 case y2 => (intro w' hy; obtain ⟨L, hD, hl, hS⟩ := hy; have qc := hS.1.cell; clear hS hD hl; go_simp; (try with_reducible rfl))
 (try simp only [Act.put, Zz3, Zz4, Zz5, Zz6, Zz7, Zz8])
 refine wpG_step (i := 2) (by kernel_rfl) rfl (by rfl) ?r3
 intro hS K hK
 (have h4 := hS.1; have h1 := hS.2.1 (by kernel_rfl); have h2 := hS.2.2.2.1 (by kernel_rfl); have hb := hS.2.2.2.2.2; clear hS; have qc := h1.cell; have qf := h1.frozen; go_simp; refine hK.out _ _ ⟨h4.far2 (by omega), fun h => (no_of (by kernel_rfl) h).elim, fun _ => h1.put2, fun _ => h2.far2 (by omega), fun h => (no_of h (by kernel_rfl)).elim, bl_set2 hb (by omega)⟩ ?_; clear h4 h1 h2 hb qc qf)
 clear hK K; intro W3
 (try simp only [Act.put, Zz3, Zz4, Zz5, Zz6, Zz7, Zz8])
 refine wpG_step (i := 3) (by kernel_rfl) rfl (by rfl) ?r4
 intro hS K hK
 (have h4 := hS.1; have h1 := hS.2.2.1 (by kernel_rfl); have h2 := hS.2.2.2.1 (by kernel_rfl); have hb := hS.2.2.2.2.2; clear hS; have qc := h2.cell; have qf := h2.frozen; go_simp; refine hK.out _ _ ⟨h4.far2 (by omega), fun h => (no_of (by kernel_rfl) h).elim, fun _ => h1.far2 (by omega), fun h => (no_of (by kernel_rfl) h).elim, fun _ => h2.put2, bl_set2 hb (by omega)⟩ ?_; clear h4 h1 h2 hb qc qf)
 clear hK K; intro W4
 (try simp only [Act.put, Zz3, Zz4, Zz5, Zz6, Zz7, Zz8])
 refine wpG_end (by kernel_rfl) ?_
 intro W
  hS
 go_wp2
 refine ret_blk2 2 3 23 23 (by rfl) (by rfl) _ _ (by rfl) (by rfl) _ _ (hS.2.2.1 (by kernel_rfl)) (hS.2.2.2.2.1 (by kernel_rfl)) _ _ Tryz.underlying23 (by rfl) (by kernel_rfl) Tryz.underlying23 (by rfl) (by kernel_rfl) ?_
 exact ⟨rfl, hS.2.2.2.2.2⟩
theorem Tryz.infoRangeW : (Tryz.prog.info? 23).map (fun i => (i.zero, i.size, i.bytes)) = some (some (.agg #[.int .i64 0, .int .i64 0]), 2, 16) := by kernel_rfl
theorem rc_take_succ (l : List (Int × Int)) (k : Nat) (x0 x1 : Int) (h : l.drop k = (x0, x1) :: l.drop (k + 1)) : rc (l.take (k + 1)) = rc (l.take k) ++ [.int .i64 x0, .int .i64 x1] := by
 have hk : k < l.length := by
  rcases Nat.lt_or_ge k l.length with h' | h'
  ·exact h'
  ·rw [List.drop_of_length_le h'] at h; cases h
 rw [List.drop_eq_getElem_cons hk] at h
 injection h with h _
 rw [List.take_succ_eq_append_getElem hk, rc_append, h]
 rfl
theorem map_drop_cons {f : Int × Int → Int × Int} {l : List (Int × Int)} {k : Nat} {x : Int × Int} (h : l.drop k = x :: l.drop (k + 1)) : (l.map f).drop k = f x :: (l.map f).drop (k + 1) := by
 rw [← List.map_drop, h, List.map_cons, List.map_drop]
def WRel (j : Jb) (A : Option Addr) (c : Nat) (w : World) (v5 v6 i : Value) (wr : World) : Prop :=
 ∃ k : Nat, k ≤ j.sh.length ∧ i = .int .i64 k ∧ wr.ownsRow (w.heap.size + 4) 23 2 v5 k (rc ((strictL j.wi j.sh).take k)) ∧ wr.ownsRow (w.heap.size + 4) 23 2 v6 k (rc ((looseL j.wi j.sh).take k)) ∧
  (v5.ownBlock = none ∨ v5.ownBlock ≠ v6.ownBlock) ∧ (v6.ownBlock = none ∨ v6.ownBlock ≠ v5.ownBlock) ∧
  Bk wr (w.heap.size + 1) #[.int .i64 0, .int .i64 0] ∧ Bk wr (w.heap.size + 2) #[.int .i64 0, .int .i64 0] ∧ Bk wr (w.heap.size + 3) #[.int .i64 (-j.wi), .int .i64 j.wi] ∧ Below w.heap.size w wr
section
variable {w wr w5 w6 : World} {T k m : Nat} {v5 v6 : Value} {xs ys : List Value} {z m3 cx : Array Value} {H : Nat} {Y Z : Obj}
theorem own_ne {g : Nat} (o5 : wr.ownsRow (H + 4) T 2 v5 k xs) (hg : g < H + 4) : some g ≠ v5.ownBlock := fun e => by have := (o5.lt g e.symm).1; omega
theorem own_ne' {g : Nat} (o5 : wr.ownsRow (H + 4) T 2 v5 k xs) (hg : wr.heap.size ≤ g) : some g ≠ v5.ownBlock := fun e => by have := (o5.lt g e.symm).2; omega
theorem wmid (o5 : wr.ownsRow (H + 4) T 2 v5 k xs) (o6 : wr.ownsRow (H + 4) T 2 v6 k ys) (n6 : v6.ownBlock = none ∨ v6.ownBlock ≠ v5.ownBlock)
  (b1 : Bk wr (H + 1) z) (b2 : Bk wr (H + 2) z) (b3 : Bk wr (H + 3) m3) (hb : Below H w wr) (gr : ((wr.alloc (.cells cx T)).alloc Y).grownBy w5 v5.ownBlock) :
  w5.ownsRow (H + 4) T 2 v6 k ys ∧ Bk w5 (H + 1) z ∧ Bk w5 (H + 2) z ∧ Bk w5 (H + 3) m3 ∧ Bk w5 wr.heap.size cx ∧ Below H w w5 ∧ wr.heap.size + 2 ≤ w5.heap.size := by
 have hl := b3.lt
 have hs := gr.size
 simp only [World.size_alloc] at hs
 refine ⟨((o6.alloc _).alloc _).kept gr n6, ((b1.alloc _).alloc _).grown gr (own_ne o5 (by omega)), ((b2.alloc _).alloc _).grown gr (own_ne o5 (by omega)), ((b3.alloc _).alloc _).grown gr (own_ne o5 (by omega)),
  ((Bk.new wr T cx).alloc _).grown gr (own_ne' o5 (Nat.le_refl _)), ?_, hs⟩
 exact Below.grown ((hb.alloc (by omega) _).alloc (by simp; omega) _) gr (by simp; omega) (fun g hg => by have := (o5.lt g hg).1; omega)
theorem wend (o5 : wr.ownsRow (H + 4) T 2 v5 k xs) (o6' : wr.ownsRow (H + 4) T 2 v6 k ys) (n6 : v6.ownBlock = none ∨ v6.ownBlock ≠ v5.ownBlock) (o6 : w5.ownsRow (H + 4) T 2 v6 k ys) {g5 c5 : Nat} {xs' : List Value}
  (p5 : w5.ownsRow (H + 4) T 2 (.slice (some ⟨g5, 0, none⟩) (k + 1) c5) (k + 1) xs') (at5 : v5.ownBlock = some g5 ∨ g5 = wr.heap.size + 2)
  (b1 : Bk w5 (H + 1) z) (b2 : Bk w5 (H + 2) z) (b3 : Bk w5 (H + 3) m3) (hb : Below H w w5) (gr : (w5.alloc Z).grownBy w6 v6.ownBlock) {g6 : Nat} (at6 : v6.ownBlock = some g6 ∨ g6 = w5.heap.size + 1) :
  w6.ownsRow (H + 4) T 2 (.slice (some ⟨g5, 0, none⟩) (k + 1) c5) (k + 1) xs' ∧ g5 ≠ g6 ∧ Bk w6 (H + 1) z ∧ Bk w6 (H + 2) z ∧ Bk w6 (H + 3) m3 ∧ Below H w w6 := by
 have hl := b3.lt
 have hlt := (p5.lt g5 rfl).2
 have hne : some g5 ≠ v6.ownBlock := fun e => by
  rcases at5 with h | h
  ·rcases n6 with h' | h'
   ·rw [h'] at e; cases e
   ·exact h' (by rw [h, e])
  ·have := (o6'.lt g5 e.symm).2; omega
 refine ⟨(p5.alloc _).kept gr (.inr hne), ?_, (b1.alloc _).grown gr (own_ne o6 (by omega)), (b2.alloc _).grown gr (own_ne o6 (by omega)), (b3.alloc _).grown gr (own_ne o6 (by omega)), ?_⟩
 ·rintro rfl
  rcases at6 with h | h
  ·exact hne h.symm
  ·omega
 ·exact Below.grown (hb.alloc (by omega) _) gr (by simp; omega) (fun g hg => by have := (o6.lt g hg).1; omega)
end
set_option maxHeartbeats 2000000 in
theorem windows_cons (j : Jb) (A : Option Addr) (c : Nat) (w : World) (hj : j.ok) (hs : j.sh ≠ []) (hr : Rd w w.heap.size 2 A j.sh.length (rc j.sh)) :
   Calls Tryz.prog 104 #[jobV j A c] w fun e w' => e = .returned (.tuple #[R2 (winS j).1 (winS j).2, R2 (winL j).1 (winL j).2]) ∧ Below w.heap.size w w' := by
 have hw := hj.wi
 have hfew := hj.few
 have HJ := Lib.hid hj
 have HR := Lib.hid hr
 have hpos : 0 < j.sh.length := List.length_pos_iff.2 hs
 have e0 : (((j.sh.length : Int)) == 0) = false := by simpa using hs
 have e1 : ((j.sh.length) == 0) = false := by simpa using hs
 obtain ⟨s0, s1, sr, l0, l1, lr, hS, hL⟩ : ∃ s0 s1 sr l0 l1 lr, strictL j.wi j.sh = (s0, s1) :: sr ∧ looseL j.wi j.sh = (l0, l1) :: lr := by
   cases hq : j.sh with
   | nil => exact absurd hq hs
   | cons p r => exact ⟨_, _, _, _, _, _, rfl, rfl⟩
 have HS := Lib.hid hS
 have HL := Lib.hid hL
 clear hj hr hs hS hL
 obtain ⟨i0, hi, hz0, hz1, hz2⟩ := info_parts Tryz.infoRangeW
 have HI := Lib.hid hi
 have HZ0 := Lib.hid hz0
 have HZ1 := Lib.hid hz1
 have HZ2 := Lib.hid hz2
 clear hi hz0 hz1 hz2
 go_enter Tryz.func104, Tryz.ntmps104
 go_wp2
 go_loopw [5, 6, 24] (fun v5 v6 i wr => WRel j A c w v5 v6 i wr) (fun _ _ i _ => j.sh.length - (intOf i).toNat)
 case atStart => exact ⟨0, Nat.zero_le _, rfl, ⟨rfl, .inl ⟨rfl, rfl⟩⟩, ⟨rfl, .inl ⟨rfl, rfl⟩⟩, .inl rfl, .inl rfl, by (repeat' (first | (with_reducible refine Bk.drew ?_) | ((with_reducible refine Bk.newAt _ _ _ _ ?_); (simp; done)) | (with_reducible refine Bk.alloc ?_ _))), by (repeat' (first | (with_reducible refine Bk.drew ?_) | ((with_reducible refine Bk.newAt _ _ _ _ ?_); (simp; done)) | (with_reducible refine Bk.alloc ?_ _))), by (repeat' (first | (with_reducible refine Bk.drew ?_) | ((with_reducible refine Bk.newAt _ _ _ _ ?_); (simp; done)) | (with_reducible refine Bk.alloc ?_ _))), by (repeat' (first | (with_reducible exact Below.refl _ _) | (with_reducible refine Below.alloc ?_ ?_ _) | (with_reducible refine Below.setCell ?_ ?_ _) | (with_reducible refine Below.drew ?_) | ((with_reducible refine Below.trans ?_ (Below.mono (by assumption) ?_))) | go_size))⟩
 case round =>
   obtain ⟨k, hk, rfl, o5, o6, n5, n6, b1, b2, b3, hb⟩ := hrel
   have hz := b3.lt
   have c3 := b3.cell
   by_cases hlt : k < j.sh.length
   · obtain ⟨b, o, x0, x1, rfl, hbb, hd, d0, d1⟩ := (HR.out.below hb).at2 hlt
     have HD := Lib.hid hd
     have hx := HJ.out.sh (x0, x1) (by have : (x0, x1) ∈ j.sh.drop k := by rw [hd]; simp
                                       exact List.mem_of_mem_drop this)
     simp only at hx
     clear hd
     have hb1 : b < wr.heap.size := by omega
     have b4 : Bk (wr.alloc (.cells #[.int .i64 x0, .int .i64 x1] 23)) wr.heap.size #[.int .i64 x0, .int .i64 x1] := Bk.new _ _ _
     have n1 := Bk.new1 wr (.cells #[.int .i64 x0, .int .i64 x1] 23) 23 #[.int .i64 (-j.wi - x0), .int .i64 (j.wi - x1)]
     go_wp2_with (at_builtin; first
       | ((refine wpList_app1 (by rfl) (.tmp 28) (.tmp 40) 28 (by rfl) (w.heap.size + 4) 23 i0 _ 16 Tryz.underlying28 HI.out HZ0.out #[.int .i64 (-j.wi - x0), .int .i64 (j.wi - x1)] HZ1.out HZ2.out (by rfl) (by simp) _ _ _ (by rfl) ((o5.alloc _).alloc _) _ _ (by rfl) n1 (by simp [Value.oneCell']) (by omega) (by omega) (by simp; omega) ?_); intro g5 cap5 w5 p5 gr5 at5 lt5; obtain ⟨o6', b1', b2', b3', b4', hb', hz'⟩ := wmid o5 o6 n6 b1 b2 b3 hb gr5; clear d0 d1 c3; have c3 := b3'.cell; have c4 := b4'.cell; have l3 := b3'.lt)
       | ((refine wpList_app1 (by rfl) (.tmp 42) (.tmp 54) 28 (by rfl) (w.heap.size + 4) 23 i0 _ 16 Tryz.underlying28 HI.out HZ0.out #[.int .i64 (-j.wi - x1), .int .i64 (j.wi - x0)] HZ1.out HZ2.out (by rfl) (by simp) _ _ _ (by rfl) (o6'.alloc _) _ _ (by rfl) (Bk.new _ _ _) (by simp [Value.oneCell']) (by omega) (by omega) (by simp; omega) ?_); intro g6 cap6 w6 p6 gr6 at6 lt6))
     simp only [World.size_alloc] at at5 at6
     obtain ⟨q5, hne, q1, q2, q3, hb6⟩ := wend o5 o6 n6 o6' p5 at5 b1' b2' b3' hb' gr6 at6
     go_roundw
     case rel => exact ⟨k + 1, by omega, by go_num, by rw [rc_take_succ _ _ _ _ (map_drop_cons HD.out)]; exact q5, by rw [rc_take_succ _ _ _ _ (map_drop_cons HD.out)]; exact p6, .inr (by simpa [Value.ownBlock] using hne), .inr (by simpa [Value.ownBlock] using (Ne.symm hne)), q1, q2, q3, hb6⟩
     case measure => simp [intOf]; omega
   · obtain rfl : k = j.sh.length := by omega
     rw [List.take_of_length_le (by simp [strictL])] at o5
     rw [List.take_of_length_le (by simp [looseL])] at o6
     obtain ⟨g5, c5, rfl, hc5, hm5, hg5, hl5, hr5⟩ := own_form o5 hpos
     obtain ⟨g6, c6, rfl, hc6, hm6, hg6, hl6, hr6⟩ := own_form o6 hpos
     go_wp2
     have hu5 : wr.cell? ⟨g5, 0, none⟩ = some (.int .i64 s0) := hr5 0 _ (by rw [HS.out]; rfl)
     have hv5 : wr.cell? ⟨g5, 1, none⟩ = some (.int .i64 s1) := hr5 1 _ (by rw [HS.out]; rfl)
     have hu6 : wr.cell? ⟨g6, 0, none⟩ = some (.int .i64 l0) := hr6 0 _ (by rw [HL.out]; rfl)
     have hv6 : wr.cell? ⟨g6, 1, none⟩ = some (.int .i64 l1) := hr6 1 _ (by rw [HL.out]; rfl)
     have hn1 : (1 : Int) ≤ (j.sh.length : Int) := by omega
     have hc51 : (j.sh.length : Int) ≤ (c5 : Int) := by omega
     have hc61 : (j.sh.length : Int) ≤ (c6 : Int) := by omega
     refine wp_region_G (fun L W => Ex wr W (fun b => b ≠ w.heap.size + 1 ∧ b ≠ w.heap.size + 2) ∧ (L.getD 12 true = false → Bk W (w.heap.size + 1) #[.int .i64 0, .int .i64 0]) ∧ (L.getD 12 true = true → Bk W (w.heap.size + 1) #[.int .i64 (meetL (s0, s1) sr).1, .int .i64 (meetL (s0, s1) sr).2]) ∧ (L.getD 13 true = false → Bk W (w.heap.size + 2) #[.int .i64 0, .int .i64 0]) ∧ (L.getD 13 true = true → Bk W (w.heap.size + 2) #[.int .i64 (meetL (l0, l1) lr).1, .int .i64 (meetL (l0, l1) lr).2]) ∧ Below w.heap.size w W) 14 (by kernel_rfl) (by kernel_rfl) ?s0 ?r0
     case s0 => (exact ⟨(Ex.refl _ _).drew, fun _ => b1.drew, fun h => (no_of h (by kernel_rfl)).elim, fun _ => b2.drew, fun h => (no_of h (by kernel_rfl)).elim, hb.drew⟩)
     intro W0
     refine wpG_take (i := 0) (v := ?v1) rfl (by kernel_rfl) (by intro L w; simp only [getD_set_ne true (show (0 : Nat) ≠ 12 from by decide), getD_set_ne true (show (0 : Nat) ≠ 13 from by decide)]) (fun _ _ _ h => h) (Or.inl ⟨by rfl, ?y1⟩) ?r1
     case y1 => (intro w' hy; obtain ⟨L, hD, hl, hS⟩ := hy; clear hD hl hS; go_simp; (try with_reducible rfl))
     (try simp only [Act.put, Zz3, Zz4, Zz5, Zz6, Zz7, Zz8])
     refine wpG_take (i := 1) (v := ?v2) rfl (by kernel_rfl) (by intro L w; simp only [getD_set_ne true (show (1 : Nat) ≠ 12 from by decide), getD_set_ne true (show (1 : Nat) ≠ 13 from by decide)]) (fun _ _ _ h => h) (Or.inl ⟨by rfl, ?y2⟩) ?r2
     case y2 => (intro w' hy; obtain ⟨L, hD, hl, hS⟩ := hy; clear hD hl hS; go_simp; (try with_reducible rfl))
     (try simp only [Act.put, Zz3, Zz4, Zz5, Zz6, Zz7, Zz8])
     refine wpG_take (i := 2) (v := ?v3) rfl (by kernel_rfl) (by intro L w; simp only [getD_set_ne true (show (2 : Nat) ≠ 12 from by decide), getD_set_ne true (show (2 : Nat) ≠ 13 from by decide)]) (fun _ _ _ h => h) (Or.inl ⟨by rfl, ?y3⟩) ?r3
     case y3 => (intro w' hy; obtain ⟨L, hD, hl, hS⟩ := hy; have x5 := hS.1.cell (g := g5) hl5 ⟨by omega, by omega⟩; have x6 := hS.1.cell (g := g6) hl6 ⟨by omega, by omega⟩; clear hS hD hl; go_simp; (try with_reducible rfl))
     (try simp only [Act.put, Zz3, Zz4, Zz5, Zz6, Zz7, Zz8])
     refine wpG_take (i := 3) (v := ?v4) rfl (by kernel_rfl) (by intro L w; simp only [getD_set_ne true (show (3 : Nat) ≠ 12 from by decide), getD_set_ne true (show (3 : Nat) ≠ 13 from by decide)]) (fun _ _ _ h => h) (Or.inl ⟨by rfl, ?y4⟩) ?r4
     case y4 => (intro w' hy; obtain ⟨L, hD, hl, hS⟩ := hy; clear hD hl hS; go_simp; (try with_reducible rfl))
     (try simp only [Act.put, Zz3, Zz4, Zz5, Zz6, Zz7, Zz8])
     refine wpG_take (i := 4) (v := ?v5) rfl (by kernel_rfl) (by intro L w; simp only [getD_set_ne true (show (4 : Nat) ≠ 12 from by decide), getD_set_ne true (show (4 : Nat) ≠ 13 from by decide)]) (fun _ _ _ h => h) (Or.inl ⟨by rfl, ?y5⟩) ?r5
     case y5 => (intro w' hy; obtain ⟨L, hD, hl, hS⟩ := hy; clear hD hl hS; go_simp; (try with_reducible rfl))
     (try simp only [Act.put, Zz3, Zz4, Zz5, Zz6, Zz7, Zz8])
     refine wpG_take (i := 6) (v := ?v6) rfl (by kernel_rfl) (by intro L w; simp only [getD_set_ne true (show (6 : Nat) ≠ 12 from by decide), getD_set_ne true (show (6 : Nat) ≠ 13 from by decide)]) (fun _ _ _ h => h) (Or.inl ⟨by rfl, ?y6⟩) ?r6
     case y6 => (intro w' hy; obtain ⟨L, hD, hl, hS⟩ := hy; clear hD hl hS; go_simp; (try with_reducible rfl))
     (try simp only [Act.put, Zz3, Zz4, Zz5, Zz6, Zz7, Zz8])
     refine wpG_take (i := 7) (v := ?v7) rfl (by kernel_rfl) (by intro L w; simp only [getD_set_ne true (show (7 : Nat) ≠ 12 from by decide), getD_set_ne true (show (7 : Nat) ≠ 13 from by decide)]) (fun _ _ _ h => h) (Or.inl ⟨by rfl, ?y7⟩) ?r7
     case y7 => (intro w' hy; obtain ⟨L, hD, hl, hS⟩ := hy; clear hD hl hS; go_simp; (try with_reducible rfl))
     (try simp only [Act.put, Zz3, Zz4, Zz5, Zz6, Zz7, Zz8])
     refine wpG_take (i := 8) (v := ?v8) rfl (by kernel_rfl) (by intro L w; simp only [getD_set_ne true (show (8 : Nat) ≠ 12 from by decide), getD_set_ne true (show (8 : Nat) ≠ 13 from by decide)]) (fun _ _ _ h => h) (Or.inl ⟨by rfl, ?y8⟩) ?r8
     case y8 => (intro w' hy; obtain ⟨L, hD, hl, hS⟩ := hy; have x5 := hS.1.cell (g := g5) hl5 ⟨by omega, by omega⟩; have x6 := hS.1.cell (g := g6) hl6 ⟨by omega, by omega⟩; clear hS hD hl; go_simp; (try with_reducible rfl))
     (try simp only [Act.put, Zz3, Zz4, Zz5, Zz6, Zz7, Zz8])
     refine wpG_take (i := 9) (v := ?v9) rfl (by kernel_rfl) (by intro L w; simp only [getD_set_ne true (show (9 : Nat) ≠ 12 from by decide), getD_set_ne true (show (9 : Nat) ≠ 13 from by decide)]) (fun _ _ _ h => h) (Or.inl ⟨by rfl, ?y9⟩) ?r9
     case y9 => (intro w' hy; obtain ⟨L, hD, hl, hS⟩ := hy; clear hD hl hS; go_simp; (try with_reducible rfl))
     (try simp only [Act.put, Zz3, Zz4, Zz5, Zz6, Zz7, Zz8])
     refine wpG_take (i := 10) (v := ?v10) rfl (by kernel_rfl) (by intro L w; simp only [getD_set_ne true (show (10 : Nat) ≠ 12 from by decide), getD_set_ne true (show (10 : Nat) ≠ 13 from by decide)]) (fun _ _ _ h => h) (Or.inl ⟨by rfl, ?y10⟩) ?r10
     case y10 => (intro w' hy; obtain ⟨L, hD, hl, hS⟩ := hy; clear hD hl hS; go_simp; (try with_reducible rfl))
     (try simp only [Act.put, Zz3, Zz4, Zz5, Zz6, Zz7, Zz8])
     refine wpG_step (i := 5) (by kernel_rfl) rfl (by rfl) ?r11
     intro hS K hK
     (have hx := hS.1; have h1 := hS.2.1 (by kernel_rfl); have h2 := hS.2.2.2.1 (by kernel_rfl); have hbb := hS.2.2.2.2.2; clear hS; go_simp; refine (meet_any s0 s1 _ _ _ sr _ (rd_cut (p := (s0, s1)) (by rw [← HS.out]; exact hx.range hr5 hl5 ⟨by omega, by omega⟩) (Nat.lt_of_lt_of_le hl5 hx.size) (by have := congrArg List.length HS.out; simpa [strictL] using this) hc5) (by omega)).mono ?_; rintro e V5 ⟨rfl, hb1⟩; refine hK.out _ _ ⟨hx.below hb1, fun _ => h1.below hb1, fun h => (no_of h (by kernel_rfl)).elim, fun _ => h2.below hb1, fun h => (no_of h (by kernel_rfl)).elim, bl_trans hbb hb1 hbb.size⟩ ?_; clear hx h1 h2 hbb hb1)
     clear hK K; intro W11
     (try simp only [Act.put, Zz3, Zz4, Zz5, Zz6, Zz7, Zz8])
     refine wpG_step (i := 11) (by kernel_rfl) rfl (by rfl) ?r12
     intro hS K hK
     (have hx := hS.1; have h1 := hS.2.1 (by kernel_rfl); have h2 := hS.2.2.2.1 (by kernel_rfl); have hbb := hS.2.2.2.2.2; clear hS; go_simp; refine (meet_any l0 l1 _ _ _ lr _ (rd_cut (p := (l0, l1)) (by rw [← HL.out]; exact hx.range hr6 hl6 ⟨by omega, by omega⟩) (Nat.lt_of_lt_of_le hl6 hx.size) (by have := congrArg List.length HL.out; simpa [looseL] using this) hc6) (by omega)).mono ?_; rintro e V6 ⟨rfl, hb1⟩; refine hK.out _ _ ⟨hx.below hb1, fun _ => h1.below hb1, fun h => (no_of h (by kernel_rfl)).elim, fun _ => h2.below hb1, fun h => (no_of h (by kernel_rfl)).elim, bl_trans hbb hb1 hbb.size⟩ ?_; clear hx h1 h2 hbb hb1)
     clear hK K; intro W12
     (try simp only [Act.put, Zz3, Zz4, Zz5, Zz6, Zz7, Zz8])
     refine wpG_step (i := 12) (by kernel_rfl) rfl (by rfl) ?r13
     intro hS K hK
     (have hx := hS.1; have h1 := hS.2.1 (by kernel_rfl); have h2 := hS.2.2.2.1 (by kernel_rfl); have hbb := hS.2.2.2.2.2; clear hS; have qc := h1.cell; have qf := h1.frozen; go_simp; refine hK.out _ _ ⟨hx.set2 (by omega), fun h => (no_of (by kernel_rfl) h).elim, fun _ => h1.put2, fun _ => h2.far2 (by omega), fun h => (no_of h (by kernel_rfl)).elim, bl_set2 hbb (by omega)⟩ ?_; clear hx h1 h2 hbb qc qf)
     clear hK K; intro W13
     (try simp only [Act.put, Zz3, Zz4, Zz5, Zz6, Zz7, Zz8])
     refine wpG_step (i := 13) (by kernel_rfl) rfl (by rfl) ?r14
     intro hS K hK
     (have hx := hS.1; have h1 := hS.2.2.1 (by kernel_rfl); have h2 := hS.2.2.2.1 (by kernel_rfl); have hbb := hS.2.2.2.2.2; clear hS; have qc := h2.cell; have qf := h2.frozen; go_simp; refine hK.out _ _ ⟨hx.set2 (by omega), fun h => (no_of (by kernel_rfl) h).elim, fun _ => h1.far2 (by omega), fun h => (no_of (by kernel_rfl) h).elim, fun _ => h2.put2, bl_set2 hbb (by omega)⟩ ?_; clear hx h1 h2 hbb qc qf)
     clear hK K; intro W14
     (try simp only [Act.put, Zz3, Zz4, Zz5, Zz6, Zz7, Zz8])
     refine wpG_end (by kernel_rfl) ?_
     intro W
      hS
     go_wp2
     all_goals
       refine ret_blk2 2 3 23 23 (by rfl) (by rfl) _ _ (by rfl) (by rfl) _ _ (hS.2.2.1 (by kernel_rfl)) (hS.2.2.2.2.1 (by kernel_rfl)) _ _ Tryz.underlying23 (by rfl) (by kernel_rfl) Tryz.underlying23 (by rfl) (by kernel_rfl) ?_
       refine ⟨?_, hS.2.2.2.2.2⟩
       unfold winS winL
       rw [HS.out, HL.out]
       rfl
theorem windows_any (j : Jb) (A : Option Addr) (c : Nat) (w : World) (hj : j.ok) (hr : Rd w w.heap.size 2 A j.sh.length (rc j.sh)) :
  Calls Tryz.prog 104 #[jobV j A c] w fun e w' => e = .returned (.tuple #[R2 (winS j).1 (winS j).2, R2 (winL j).1 (winL j).2]) ∧ Below w.heap.size w w' := by
 by_cases hs : j.sh = []
 ·exact windows_nil j A c w hj hs
 ·exact windows_cons j A c w hj hs hr
def passesJ (j : Jb) (p0 p1 : Int) : Int :=
 if hasB (winS j).1 (winS j).2 p0 p1 = true then 1 else if (meetL (winL j) [(p0, p1)]).2 < (meetL (winL j) [(p0, p1)]).1 then 2 else 3
theorem passes_any (j : Jb) (A : Option Addr) (c : Nat) (p0 p1 : Int) (w : World) (hj : j.ok) (hr : Rd w w.heap.size 2 A j.sh.length (rc j.sh)) :
  Calls Tryz.prog 198 #[jobV j A c, R2 p0 p1] w fun e w' => e = .returned (.int .i64 (passesJ j p0 p1)) ∧ Below w.heap.size w w' := by
 have HR := Lib.hid hr
 have HJ := Lib.hid hj
 clear hr hj
 have q0 := (Bk.new w 30 #[.int .i64 j.p0, .int .i64 j.p1, .int .i64 j.t0, .int .i64 j.t1, .int .i64 j.r0, .int .i64 j.r1, .int .i64 j.u0, .int .i64 j.u1, .int .i64 j.d0, .int .i64 j.d1, .int .i64 j.a0, .int .i64 j.a1, .int .i64 j.b0, .int .i64 j.b1, .int .i64 j.le, .slice A j.sh.length c, .int .i64 j.wi, .int .i64 j.me]).alloc (.cells #[.int .i64 p0, .int .i64 p1] 23)
 have h1 : hasB (winS j).1 (winS j).2 p0 p1 = true ∨ hasB (winS j).1 (winS j).2 p0 p1 = false := by cases hasB (winS j).1 (winS j).2 p0 p1 <;> simp
 have h2 : (meetL (winL j) [(p0, p1)]).2 < (meetL (winL j) [(p0, p1)]).1 ∨ ¬ (meetL (winL j) [(p0, p1)]).2 < (meetL (winL j) [(p0, p1)]).1 := Decidable.em _
 have HP : Hid (passesJ j p0 p1 = if hasB (winS j).1 (winS j).2 p0 p1 = true then 1 else if (meetL (winL j) [(p0, p1)]).2 < (meetL (winL j) [(p0, p1)]).1 then 2 else 3) := rfl
 generalize passesJ j p0 p1 = pj at *
 generalize hws : winS j = ws at *
 have HWS := Lib.hid hws
 generalize hwl : winL j = wl at *
 have HWL := Lib.hid hwl
 clear hws hwl
 obtain ⟨s0, s1⟩ := ws
 obtain ⟨l0, l1⟩ := wl
 rcases h1 with h1 | h1 <;> rcases h2 with h2 | h2
 all_goals
  have H1 := Lib.hid h1
  have H2 := Lib.hid h2
  go_enter Tryz.func198, Tryz.ntmps198
  go_wp2_with (first
   | (refine wpList_load_blk (by rfl) 30 (.tmp 2) (by rfl) _ (by rfl) _ q0 _ Tryz.underlying30 (by rfl) (by kernel_rfl) ?_)
   | (go_at_call 104; ((with_reducible refine (windows_any j _ _ _ HJ.out ?_).mono ?_); (exact (HR.out.below (by (repeat' (first | (with_reducible exact Below.refl _ _) | (with_reducible refine Below.alloc ?_ ?_ _) | (with_reducible refine Below.setCell ?_ ?_ _) | (with_reducible refine Below.drew ?_) | ((with_reducible refine Below.trans ?_ (Below.mono (by assumption) ?_))) | go_size)))).more (by go_size)); rintro e w1 ⟨rfl, hb1⟩; have hz1 := hb1.size; (try simp only [World.size_alloc] at hz1); rw [HWS.out, HWL.out]; have q1 := (Bk.newAt (w.alloc (.cells #[.int .i64 j.p0, .int .i64 j.p1, .int .i64 j.t0, .int .i64 j.t1, .int .i64 j.r0, .int .i64 j.r1, .int .i64 j.u0, .int .i64 j.u1, .int .i64 j.d0, .int .i64 j.d1, .int .i64 j.a0, .int .i64 j.a1, .int .i64 j.b0, .int .i64 j.b1, .int .i64 j.le, .slice A j.sh.length c, .int .i64 j.wi, .int .i64 j.me] 30)) 23 #[.int .i64 p0, .int .i64 p1] (w.heap.size + 1) (by simp)).below hb1; have c1 := q1.cell; have y1 := q1.lt; have y0 : w.heap.size < w1.heap.size := (by omega)))
   | (go_at_call 196; ((with_reducible refine (meet_any _ _ _ _ _ [(p0, p1)] _ ?_ ?_).mono ?_); (exact Rd.newAt _ _ _ _ _ _ _ _ (by simp) (by simp) rfl rfl); (omega); rintro e w2 ⟨rfl, hb2⟩; have hz2 := hb2.size; (try simp only [World.size_alloc] at hz2); have q5 : Bk w2 w1.heap.size #[.int .i64 s0, .int .i64 s1] := Bk.below (by (repeat' (first | (with_reducible refine Bk.drew ?_) | ((with_reducible refine Bk.newAt _ _ _ _ ?_); (simp; done)) | (with_reducible refine Bk.alloc ?_ _)))) hb2; have q3 : Bk w2 (w.heap.size + 1) #[.int .i64 p0, .int .i64 p1] := Bk.below (((q1.alloc _).alloc _).alloc _) hb2; clear c1; have c5 := q5.cell; have c3 := q3.cell; have l5 := q5.lt; have l3 := q3.lt; have l4 : w.heap.size < w2.heap.size := (by omega)))
   | (go_at_call 201; ((with_reducible refine (has_any _ _ _ _ _).mono ?_); rintro e w3 ⟨rfl, hb3⟩; have hz3 := hb3.size; (try simp only [World.size_alloc] at hz3); have hbw : Below w.heap.size w w3 := (by (repeat' (first | (with_reducible exact Below.refl _ _) | (with_reducible refine Below.alloc ?_ ?_ _) | (with_reducible refine Below.setCell ?_ ?_ _) | (with_reducible refine Below.drew ?_) | ((with_reducible refine Below.trans ?_ (Below.mono (by assumption) ?_))) | go_size))); have q7 := (Bk.new w2 23 #[.int .i64 (meetL (l0, l1) [(p0, p1)]).1, .int .i64 (meetL (l0, l1) [(p0, p1)]).2]).below hb3; have c7 := q7.cell)))
  go_ret
  refine ⟨ret_int ?_, hbw⟩
  have h1 := H1.out
  have h2 := H2.out
  rw [HP.out]
  (repeat' split)
  all_goals first | rfl | omega | (exfalso; simp_all; done)
def fineJ (j : Jb) (s : St) : Int :=
 if passesJ j s.p0 s.p1 = 1 ∧ s.spoiled = 2 then 1 else if passesJ j s.p0 s.p1 = 2 ∨ s.spoiled = 1 then 2 else 3
theorem fine_any (j : Jb) (A : Option Addr) (c : Nat) (s : St) (w : World) (hj : j.ok) (hr : Rd w w.heap.size 2 A j.sh.length (rc j.sh)) :
   Calls Tryz.prog 107 #[jobV j A c, stV s] w fun e w' => e = .returned (.int .i64 (fineJ j s)) ∧ Below w.heap.size w w' := by
 have HR := Lib.hid hr
 have HJ := Lib.hid hj
 clear hr hj
 have HF : Hid (fineJ j s = if passesJ j s.p0 s.p1 = 1 ∧ s.spoiled = 2 then 1 else if passesJ j s.p0 s.p1 = 2 ∨ s.spoiled = 1 then 2 else 3) := rfl
 generalize fineJ j s = fj at *
 generalize hpj : passesJ j s.p0 s.p1 = pj at *
 have HP := Lib.hid hpj
 generalize hsp : s.spoiled = sp at *
 have HSP := Lib.hid hsp
 clear hpj hsp
 go_enter Tryz.func107, Tryz.ntmps107
 go_wp2
 refine wp_region_G (fun _ W => Bk W w.heap.size #[.int .i64 j.p0, .int .i64 j.p1, .int .i64 j.t0, .int .i64 j.t1, .int .i64 j.r0, .int .i64 j.r1, .int .i64 j.u0, .int .i64 j.u1, .int .i64 j.d0, .int .i64 j.d1, .int .i64 j.a0, .int .i64 j.a1, .int .i64 j.b0, .int .i64 j.b1, .int .i64 j.le, .slice A j.sh.length c, .int .i64 j.wi, .int .i64 j.me] ∧ Bk W (w.heap.size + 1) (stA s) ∧ Below w.heap.size w W) 9 (by kernel_rfl) (by kernel_rfl) ?s0 ?r0
 case s0 => (exact ⟨by (repeat' (first | (with_reducible refine Bk.drew ?_) | ((with_reducible refine Bk.newAt _ _ _ _ ?_); (simp; done)) | (with_reducible refine Bk.alloc ?_ _))), by (repeat' (first | (with_reducible refine Bk.drew ?_) | ((with_reducible refine Bk.newAt _ _ _ _ ?_); (simp; done)) | (with_reducible refine Bk.alloc ?_ _))), by (repeat' (first | (with_reducible exact Below.refl _ _) | (with_reducible refine Below.alloc ?_ ?_ _) | (with_reducible refine Below.setCell ?_ ?_ _) | (with_reducible refine Below.drew ?_) | ((with_reducible refine Below.trans ?_ (Below.mono (by assumption) ?_))) | go_size))⟩)
 intro W0
 refine wpG_take (i := 0) (v := ?v1) rfl (by kernel_rfl) (by exact fun _ _ => Iff.rfl) (fun _ _ _ h => h) (Or.inl ⟨by rfl, ?y1⟩) ?r1
 case y1 => (intro w' hy; obtain ⟨L, hD, hl, hS⟩ := hy; ((refine run_load_blk 30 (.tmp 2) ?_ _ ?_ _ hS.1 _ Tryz.underlying30 ?_ ?_) <;> first | rfl | kernel_rfl); (try with_reducible rfl))
 (try simp only [Act.put, Zz3, Zz4, Zz5, Zz6, Zz7, Zz8])
 refine wpG_take (i := 1) (v := ?v2) rfl (by kernel_rfl) (by exact fun _ _ => Iff.rfl) (fun _ _ _ h => h) (Or.inl ⟨by rfl, ?y2⟩) ?r2
 case y2 => (intro w' hy; obtain ⟨L, hD, hl, hS⟩ := hy; clear hD hl hS; go_simp; (try with_reducible rfl))
 (try simp only [Act.put, Zz3, Zz4, Zz5, Zz6, Zz7, Zz8])
 refine wpG_take (i := 2) (v := ?v3) rfl (by kernel_rfl) (by exact fun _ _ => Iff.rfl) (fun _ _ _ h => h) (Or.inl ⟨by rfl, ?y3⟩) ?r3
 case y3 => (intro w' hy; obtain ⟨L, hD, hl, hS⟩ := hy; clear hD hl hS; go_simp; (try with_reducible rfl))
 (try simp only [Act.put, Zz3, Zz4, Zz5, Zz6, Zz7, Zz8])
 refine wpG_take (i := 3) (v := ?v4) rfl (by kernel_rfl) (by exact fun _ _ => Iff.rfl) (fun _ _ _ h => h) (Or.inl ⟨by rfl, ?y4⟩) ?r4
 case y4 => (intro w' hy; obtain ⟨L, hD, hl, hS⟩ := hy; have qc := hS.2.1.cell; clear hS hD hl; go_simp; (try with_reducible rfl))
 (try simp only [Act.put, Zz3, Zz4, Zz5, Zz6, Zz7, Zz8])
 refine wpG_take (i := 5) (v := ?v5) rfl (by kernel_rfl) (by exact fun _ _ => Iff.rfl) (fun _ _ _ h => h) (Or.inl ⟨by rfl, ?y5⟩) ?r5
 case y5 => (intro w' hy; obtain ⟨L, hD, hl, hS⟩ := hy; ((refine run_load_blk 173 (.tmp 3) ?_ _ ?_ _ hS.2.1 _ Tryz.underlying173 ?_ ?_) <;> first | rfl | kernel_rfl); (try with_reducible rfl))
 (try simp only [Act.put, Zz3, Zz4, Zz5, Zz6, Zz7, Zz8])
 refine wpG_step (i := 4) (by kernel_rfl) rfl (by rfl) ?r6
 intro hS K hK
 (obtain ⟨h1, h2, hb⟩ := hS; go_simp; refine (passes_any j _ _ _ _ _ HJ.out ((HR.out.below hb).more hb.size)).mono ?_; rintro e V1 ⟨rfl, hb1⟩; rw [HP.out]; refine hK.out _ _ ⟨h1.below hb1, h2.below hb1, bl_trans hb hb1 hb.size⟩ ?_; clear h1 h2 hb hb1)
 clear hK K; intro W6
 (try simp only [Act.put, Zz3, Zz4, Zz5, Zz6, Zz7, Zz8])
 refine wpG_step (i := 6) (by kernel_rfl) rfl (by rfl) ?r7
 intro hS K hK
 (obtain ⟨h1, h2, hb⟩ := hS; go_simp; refine (spoiled_any s _).mono ?_; rintro e V2 ⟨rfl, hb1⟩; rw [HSP.out]; refine hK.out _ _ ⟨h1.below hb1, h2.below hb1, bl_trans hb hb1 hb.size⟩ ?_; clear h1 h2 hb hb1)
 clear hK K; intro W7
 (try simp only [Act.put, Zz3, Zz4, Zz5, Zz6, Zz7, Zz8])
 refine wpG_take (i := 7) (v := ?v8) rfl (by kernel_rfl) (by exact fun _ _ => Iff.rfl) (fun _ _ _ h => h) (Or.inl ⟨by rfl, ?y8⟩) ?r8
 case y8 => (intro w' hy; obtain ⟨L, hD, hl, hS⟩ := hy; clear hD hl hS; go_simp; (try with_reducible rfl))
 (try simp only [Act.put, Zz3, Zz4, Zz5, Zz6, Zz7, Zz8])
 refine wpG_take (i := 8) (v := ?v9) rfl (by kernel_rfl) (by exact fun _ _ => Iff.rfl) (fun _ _ _ h => h) (Or.inl ⟨by rfl, ?y9⟩) ?r9
 case y9 => (intro w' hy; obtain ⟨L, hD, hl, hS⟩ := hy; clear hD hl hS; go_simp; (try with_reducible rfl))
 (try simp only [Act.put, Zz3, Zz4, Zz5, Zz6, Zz7, Zz8])
 refine wpG_end (by kernel_rfl) ?_
 intro W
  hS
 have hb := hS.2.2
 clear hS
 go_wp2
 all_goals
   go_ret
   refine ⟨ret_int ?_, hb⟩
   rw [HF.out]
   (repeat' split)
   all_goals first | rfl | (exfalso; simp_all; done)
theorem within_of {n lo hi : Int} (h : withinB n lo hi = true) : lo ≤ n ∧ n ≤ hi := by unfold withinB at h; simpa using h
theorem chkR_of {x0 x1 lo hi : Int} (h : chkR x0 x1 lo hi = 0) : lo ≤ x0 ∧ x0 ≤ x1 ∧ x1 ≤ hi := by
 unfold chkR at h
 split at h
 ·rename_i h1
  have a := within_of h1.1
  have b := within_of h1.2
  split at h
  ·omega
  ·omega
 ·omega
theorem chkAll_of {lo hi : Int} : ∀ {l : List (Int × Int)}, chkAll lo hi l = 0 → ∀ p ∈ l, lo ≤ p.1 ∧ p.1 ≤ p.2 ∧ p.2 ≤ hi := by
 intro l
 induction l with
 | nil => intro _ p hp; cases hp
 | cons q r ih =>
  intro h p hp
  unfold chkAll at h
  split at h
  ·rename_i h1; rw [h] at h1; simp at h1
  ·rename_i h1
   have h0 : chkR q.1 q.2 lo hi = 0 := by simpa using h1
   rcases List.mem_cons.1 hp with rfl | hp
   ·exact chkR_of h0
   ·exact ih h p hp
structure Jb.good (j : Jb) : Prop where
 p : -60 ≤ j.p0 ∧ j.p0 ≤ j.p1 ∧ j.p1 ≤ 60
 t : 0 ≤ j.t0 ∧ j.t0 ≤ j.t1 ∧ j.t1 ≤ 100
 r : 0 ≤ j.r0 ∧ j.r0 ≤ j.r1 ∧ j.r1 ≤ 100
 u : 0 ≤ j.u0 ∧ j.u0 ≤ j.u1 ∧ j.u1 ≤ 12
 d : 0 ≤ j.d0 ∧ j.d0 ≤ j.d1 ∧ j.d1 ≤ 12
 a : 0 ≤ j.a0 ∧ j.a0 ≤ j.a1 ∧ j.a1 ≤ 12
 b : 0 ≤ j.b0 ∧ j.b0 ≤ j.b1 ∧ j.b1 ≤ 12
 le : 0 ≤ j.le ∧ j.le ≤ 100
 few : j.sh.length ≤ 4
 sh : ∀ p ∈ j.sh, -60 ≤ p.1 ∧ p.1 ≤ p.2 ∧ p.2 ≤ 60
 wi : 0 ≤ j.wi ∧ j.wi ≤ 60
 me : 0 ≤ j.me ∧ j.me ≤ 6
theorem bne_no {n : Int} (h : ¬ (n != 0) = true) : n = 0 := by simpa using h
theorem good_of {j : Jb} (h : checkJ j = 0) : j.good := by
 unfold checkJ at h
 split at h
 · rename_i h1; rw [h] at h1; simp at h1
 rename_i h1
 split at h
 · rename_i h2; rw [h] at h2; simp at h2
 rename_i h2
 split at h
 · rename_i h3; rw [h] at h3; simp at h3
 rename_i h3
 split at h
 · omega
 rename_i h4
 split at h
 · omega
 rename_i h5
 split at h
 · rename_i h6; rw [h] at h6; simp at h6
 rename_i h6
 split at h
 · omega
 rename_i h7
 have e1 := chkR_of (bne_no h1)
 have e2 := chkAll_of (bne_no h2)
 have e3 := chkAll_of (bne_no h3)
 have e6 := chkAll_of (bne_no h6)
 have e4 := within_of (by simpa using h4 : withinB j.le 0 100 = true)
 simp only [not_or, Bool.not_eq_true', Bool.not_eq_false] at h7
 have e7 := within_of h7.1
 have e8 := within_of h7.2
 exact ⟨e1, e2 (j.t0, j.t1) (by simp), e2 (j.r0, j.r1) (by simp), e3 (j.u0, j.u1) (by simp), e3 (j.d0, j.d1) (by simp), e3 (j.a0, j.a1) (by simp), e3 (j.b0, j.b1) (by simp), e4, by omega, e6, e7, e8⟩
theorem Jb.good.ok {j : Jb} (h : j.good) : j.ok := by
 have := h.wi
 exact ⟨by omega, fun p hp => by have := h.sh p hp; omega, h.few⟩
theorem Jb.good.st {j : Jb} (h : j.good) : j.st.upTo 1000 := by
 obtain ⟨h1, h2, h3, h4, h5, h6, h7, h8, h9, h10, h11, h12⟩ := h
 constructor <;> simp only [Jb.st] <;> omega
theorem chkS_of : ∀ {l : List Int}, chkS l = 0 → ∀ k ∈ l, okS k = true := by
 intro l
 induction l with
 | nil => intro _ k hk; cases hk
 | cons q r ih =>
  intro h k hk
  unfold chkS at h
  split at h
  ·rename_i h1
   rcases List.mem_cons.1 hk with rfl | hk
   ·exact h1
   ·exact ih h k hk
  ·omega
theorem Mem.nee {w0 w : World} {ex : Nat → Prop} {L : List (Nat × BA)} {g g' : Nat} {p p' : BA} (M : Mem w0 ex w L) (i j : Nat) (h1 : nthE L i = some (g, p)) (h2 : nthE L j = some (g', p')) (hij : Nat.beq i j = false) : ∀ b o, (some ⟨g, 0, none⟩ : Option Addr) = some ⟨b, o, none⟩ → b ≠ g' := by
 intro b o e hb
 injection e with e
 injection e with e _ _
 subst e
 subst hb
 have b1 : (L.map (·.1))[i]? = some g := by rw [List.getElem?_map, nthE_get h1]; rfl
 have b2 : (L.map (·.1))[j]? = some g := by rw [List.getElem?_map, nthE_get h2]; rfl
 have := (List.getElem?_inj (List.getElem?_eq_some_iff.1 b1).1 M.nd).1 (b1.trans b2.symm)
 subst this
 simp at hij
theorem Sp.oldEx {w : World} {size n bp : Nat} {A : Option Addr} {xs : List Value} (h : Rd w w.heap.size size A n xs) (hne : ∀ b o, A = some ⟨b, o, none⟩ → b ≠ bp) : ∃ b o, Sp w (fun b => b = bp) [] A n size b o xs := by
 rcases Nat.eq_zero_or_pos n with rfl | hn
 ·refine ⟨0, 0, by omega, h.1, fun _ _ _ _ h => absurd h (by omega), fun _ _ _ _ j u hu => ?_⟩
  have : xs = [] := List.eq_nil_of_length_eq_zero (by have := h.1; omega)
  simp [this] at hu
 ·obtain ⟨b, o, h1, h2, h3⟩ := h.2 hn
  exact ⟨b, o, fun _ => h1, h.1, fun w' L M _ _ => Nat.lt_of_lt_of_le h2 M.size, fun w' L M _ j u hu => (World.cell?_of_block (w := w) (a := ⟨b, o + j, none⟩) (M.block b h2 (hne b o h1))).trans (h3 j u hu)⟩
theorem ow_app {P : Program} {op : Oper} {a : Act} {K : Act → World → Prop} {Q : Exit → Act → World → Prop} {s x : Operand} {ty e size bytes b c m nn t' : Nat} {z : Value} {cs xs : List Value} {v : Value} {w0 w : World} {ex : Nat → Prop} {L0 I : List (Nat × BA)} {E : List (Nat × Value)} (L1 : List (Nat × BA))
   (hinfo : (P.info? e).map (fun i => (i.zero, i.size, i.bytes)) = some (some z, size, bytes)) (hS : Sl e size v m xs I) (M : Mem w0 ex w L0) (hsp : L0 = L1 ++ I) (T : Tm a nn E)
   (ho : op.op = .call { callee := .builtin .append, args := #[s, x], argTypes := #[ty, ty] }) (hd : op.dst = some t') (hf : freshE E t' = true) (hnn : Nat.blt t' nn = true)
   (ht : P.underlying ty = some (.slice e)) (hzs : z.cells.size = size) (hsz : Nat.blt 0 size = true) (hby : Nat.ble bytes 1000 = true) (hm : m ≤ 1000000)
   (hs : a.eval s = v) (hx : a.eval x = .slice (some ⟨b, 0, none⟩) 1 c) (hmem : (b, BA.cells cs) ∈ L1) (hl : cs.length = size) (h1 : cs.all (·.oneCell') = true)
   (h : ∀ g cap w' a', Mem w0 ex w' ((g, .row e size (m + 1) (xs ++ cs) cap) :: L1) → Tm a' nn ((t', .slice (some ⟨g, 0, none⟩) (m + 1) cap) :: E) → K a' w') : op.wp P a w K Q := by
 subst hsp
 exact app_wp ht hinfo hzs (Nat.le_of_ble_eq_true hsz) (Nat.le_of_ble_eq_true hby) (Mem.swapI (I := L1) (L := I) M) hS hm ho hs hx hmem hl h1 fun g cap w' M' => h g cap w' _ M' (by rw [hd]; exact T.put hnn hf _)
theorem of_any (s : Int) (bp : Nat) (A : Option Addr) (n c : Nat) (l : List Int) (w : World) (hl : Rd w w.heap.size 1 A n (ic l)) (hne : ∀ b o, A = some ⟨b, o, none⟩ → b ≠ bp) (hn0 : 0 < n) (hn : n ≤ 1000) (hp : Bk w bp #[.int .u64 s]) (hs : u64ok s) :
   Calls Tryz.prog 43 #[.pointer (some ⟨bp, 0, none⟩), .slice A n c] w (PotPost bp (fun x => x ∈ l) .i64 w) := by
 have hll := hl.len1
 obtain ⟨bI, oI, SI⟩ := Sp.oldEx hl hne
 refine Zpx (fun b => b = bp) Tryz.func43 rfl 16 rfl [.pointer (some ⟨bp, 0, none⟩), .slice A n c] rfl rfl (Mem.initEx (p := .cells [.int .u64 s]) hp) ?_
 intro ac wc T M
 refine Zsr ?_
 refine lq T (Zra rfl evc) ?_; clear T ac; intro ac T
 replace T := T.pick [1, 2] rfl
 refine Zln ?_
 refine wp_seq ?_
 refine Zsr ?_
 refine Zg3 T (Zq (Zrm rfl (T.e 1 rfl))) rfl (Zl Tryz.underlying31 0 rfl rfl) rfl (fun _ T => Zq (rn_eql rfl (T.e 0 rfl) evc)) rfl ?_; clear T ac; intro ac T
 replace T := T.pick [0, 3, 4] rfl
 refine Zln ?_
 refine wp_if (T.e 0 rfl) ?_ ?_
 ·intro h1
  refine Zsr ?_
  refine lq T (Zra rfl evc) ?_; clear T ac; intro ac T
  replace T := T.pick [0] rfl
  refine Zln ?_
  refine wp_ret ?_
  refine Zrt ?_
  refine rt_1 T rfl (T.e 0 rfl) ?_
  exfalso
  omega
 intro h1
 refine Zsk ?_
 refine Zsr ?_
 refine Zg5 T (Zq (Zrm rfl (T.e 2 rfl))) rfl (Zm 2 rfl rfl) rfl (Zm 4 rfl rfl) rfl (Zl Tryz.underlying31 0 rfl rfl) rfl (fun _ T => Zq (rn_sub rfl (T.e 0 rfl) evc (by omega))) rfl ?_; clear T ac; intro ac T
 refine Zl2 ?_
 refine Zoc (first := []) (cap := []) T rfl rfl rfl rfl evf (.cons (T.e 3 rfl) (.cons (T.e 0 rfl) .nil)) Tryz.func44 rfl rfl ?_
 refine Calls.mono (upto_any _ bp (((n : Nat) : Int) - 1) _ (by omega) (by omega) (M.nth 0 rfl) hs) ?_
 clear T; rintro e wc ⟨xu1, su1, hxu1, hsu1, rfl, hgr, hbk⟩ ac T
 replace M := M.callC (cs' := [.int .u64 su1]) .head hgr hbk
 clear hgr hbk
 obtain ⟨ku1, hku1⟩ : ∃ k : Nat, xu1 = (k : Int) := ⟨xu1.toNat, by omega⟩
 obtain ⟨y, hk1, -⟩ := ic_next (l := l) (k := ku1) (by omega)
 refine Zg3 T (Zq (Zri (size := 1) ku1 rfl (T.e 5 rfl) (T.e 0 rfl) ⟨_, Tryz.underlying31, by kernel_rfl⟩ hku1 (by omega) (SI.at0 (by omega)))) rfl (fun _ T => Zq (rn_cell (Sp.ic0 SI M (Zz9 _) hk1) rfl (T.e 0 rfl))) rfl (Za 0 rfl rfl) rfl ?_; clear T ac; intro ac T
 replace T := T.pick [0] rfl
 refine Zln ?_
 refine wp_ret ?_
 refine rt_1 T rfl (T.e 0 rfl) ?_
 exact ⟨_, _, List.mem_of_getElem? hk1, hsu1, rfl, M.grown, M.nth 0 rfl⟩
theorem Tryz.info23 : (Tryz.prog.info? 23).map (fun i => (i.zero, i.size, i.bytes)) = some (some (.agg #[.int .i64 0, .int .i64 0]), 2, 16) := by kernel_rfl
theorem Tryz.info3 : (Tryz.prog.info? 3).map (fun i => (i.zero, i.size, i.bytes)) = some (some (.int .i64 0), 1, 8) := by kernel_rfl
structure Jb.made (j : Jb) (wd ls : Int) : Prop where
 p : -60 ≤ j.p0 ∧ -16 - wd ≤ j.p0 ∧ j.p0 ≤ j.p1 ∧ j.p1 ≤ 16 + wd ∧ j.p1 ≤ 60 ∧ j.p1 - j.p0 ≤ 2 * wd
 t : 18 ≤ j.t0 ∧ j.t0 ≤ j.t1 ∧ j.t1 ≤ 42
 r : 18 ≤ j.r0 ∧ j.r0 ≤ j.r1 ∧ j.r1 ≤ 42
 u : 0 ≤ j.u0 ∧ j.u0 ≤ j.u1 ∧ j.u1 ≤ 12 ∧ j.u1 ≤ 6 + ls ∧ j.u1 - j.u0 ≤ 2 * ls
 d : 0 ≤ j.d0 ∧ j.d0 ≤ j.d1 ∧ j.d1 ≤ 12 ∧ j.d1 ≤ 6 + ls ∧ j.d1 - j.d0 ≤ 2 * ls
 a : 0 ≤ j.a0 ∧ j.a0 ≤ j.a1 ∧ j.a1 ≤ 5
 b : 0 ≤ j.b0 ∧ j.b0 ≤ j.b1 ∧ j.b1 ≤ 5
 le : 10 ≤ j.le ∧ j.le ≤ 30
 few : j.sh.length ≤ 3
 sh : ∀ q ∈ j.sh, -5 ≤ q.1 ∧ q.1 ≤ q.2 ∧ q.2 ≤ 5
 wi : 1 ≤ j.wi ∧ j.wi ≤ 6
 me : 0 ≤ j.me ∧ j.me ≤ 3
theorem Jb.made.good {j : Jb} {wd ls : Int} (h : j.made wd ls) : j.good := by
 obtain ⟨h1, h2, h3, h4, h5, h6, h7, h8, h9, h10, h11, h12⟩ := h
 exact ⟨by omega, by omega, by omega, by omega, by omega, by omega, by omega, by omega, by omega, fun p hp => by have := h10 p hp; omega, by omega, by omega⟩
def JobOfPost (bp : Nat) (wd ls : Int) (w : World) (e : Ending) (w' : World) : Prop :=
 ∃ (j : Jb) (A : Option Addr) (c : Nat) (s : Int) (I : List (Nat × BA)), e = .returned (jobV j A c) ∧ j.made wd ls ∧ u64ok s ∧ Sl 23 2 (.slice A j.sh.length c) j.sh.length (rc j.sh) I ∧ Mem w (fun b => b = bp) w' (I ++ [(bp, .cells [.int .u64 s])])
theorem rc_snoc (l : List (Int × Int)) (x y : Int) : rc l ++ [.int .i64 x, .int .i64 y] = rc (l ++ [(x, y)]) := by rw [rc_append]; rfl
theorem jobOf_any (s : Int) (bp : Nat) (wd ls : Int) (w : World) (hw0 : 0 ≤ wd) (hw1 : wd ≤ 40) (hl0 : 0 ≤ ls) (hl1 : ls ≤ 40) (hp : Bk w bp #[.int .u64 s]) (hs : u64ok s) :
   Calls Tryz.prog 10 #[.pointer (some ⟨bp, 0, none⟩), .int .i64 wd, .int .i64 ls] w (JobOfPost bp wd ls w) := by
 refine Zpx (fun b => b = bp) Tryz.func10 rfl 84 rfl [.pointer (some ⟨bp, 0, none⟩), .int .i64 wd, .int .i64 ls] rfl rfl (Mem.initEx (p := .cells [.int .u64 s]) hp) ?_
 intro ac wc T M
 refine Zsr ?_
 refine Zl2 ?_
 refine Zoa M T rfl rfl rfl rfl ?_; clear M T; intro g1 wc ac M T
 refine Zln ?_
 refine Zsr ?_
 refine lq T (Zrm rfl (T.e 1 rfl)) ?_; clear T ac; intro ac T
 refine Zl2 ?_
 refine Zoc (first := []) (cap := []) T rfl rfl rfl rfl evf (.cons (T.e 0 rfl) (.cons evc (.cons evc .nil))) Tryz.func42 rfl rfl ?_
 refine Calls.mono (within_pot _ bp 1 6 _ (by omega) (by omega) (by omega) (M.nth 1 rfl) hs) ?_
 clear T; rintro e wc ⟨xu1, su1, hxu1, hsu1, rfl, hgr, hbk⟩ ac T
 replace M := M.callC (cs' := [.int .u64 su1]) (.tail .head) hgr hbk
 clear hgr hbk
 refine Zg2 T (Zq (Zrm rfl (T.e 3 rfl))) rfl (Zm 4 rfl rfl) rfl ?_; clear T ac; intro ac T
 refine Zl2 ?_
 refine Zoc (first := []) (cap := []) T rfl rfl rfl rfl evf (.cons (T.e 0 rfl) (.cons evc .nil)) Tryz.func44 rfl rfl ?_
 refine Calls.mono (upto_any _ bp 3 _ (by omega) (by omega) (M.nth 1 rfl) hsu1) ?_
 clear T; rintro e wc ⟨xu2, su2, hxu2, hsu2, rfl, hgr, hbk⟩ ac T
 replace M := M.callC (cs' := [.int .u64 su2]) (.tail .head) hgr hbk
 clear hgr hbk
 refine Zl2 ?_
 refine ow_bs (e := 3) [.int .i64 0, .int .i64 1, .int .i64 xu2] M T rfl rfl rfl rfl (.cons evc (.cons evc (.cons (T.e 0 rfl) .nil))) (fun _ => by kernel_rfl) ?_; clear M T; intro g2 wc ac M T
 refine Zl2 ?_
 refine Zoc (first := []) (cap := []) T rfl rfl rfl rfl evf (.cons (T.e 3 rfl) (.cons (T.e 0 rfl) .nil)) Tryz.func43 rfl rfl ?_
 refine Calls.mono (of_any _ bp _ 3 3 [0, 1, xu2] _ (M.rdOwn (Zne (i := 0) rfl) rfl rfl) (M.nee 0 2 rfl rfl rfl) (by decide) (by decide) (M.nth 2 rfl) hsu2) ?_
 clear T; rintro e wc ⟨xu3, su3, hxu3, hsu3, rfl, hgr, hbk⟩ ac T
 replace M := M.callC (cs' := [.int .u64 su3]) (.tail (.tail .head)) hgr hbk
 clear hgr hbk
 simp only [List.mem_cons, List.not_mem_nil, or_false] at hxu3
 refine lq (v := (.agg #[.int .i64 0, .int .i64 0, .int .i64 0, .int .i64 0, .int .i64 0, .int .i64 0, .int .i64 0, .int .i64 0, .int .i64 0, .int .i64 0, .int .i64 0, .int .i64 0, .int .i64 0, .int .i64 0, .int .i64 0, .slice none 0 0, .int .i64 xu1, .int .i64 xu3])) T (rn_build rfl (.cons (T.e 5 rfl) (.cons (T.e 0 rfl) .nil)) (fun _ => by kernel_rfl)) ?_; clear T ac; intro ac T
 refine Zl2 ?_
 refine Zoa M T rfl rfl rfl rfl ?_; clear M T; intro g3 wc ac M T
 refine Zl2 ?_
 refine Zos M T rfl rfl (T.e 0 rfl) (T.e 1 rfl) rfl .head rfl (by simp) rfl (by kernel_rfl) ?_; clear M T; intro wc ac M T
 refine wpList_nil ?_
 replace T := T.pick [0, 9, 10, 11, 12] rfl
 replace M := M.mask [true, false, true, true] rfl
 refine nm_then ?_
 refine Zsr ?_
 refine lq T (Zrm rfl (T.e 2 rfl)) ?_; clear T ac; intro ac T
 refine Zl2 ?_
 refine Zoc (first := []) (cap := []) T rfl rfl rfl rfl evf (.cons (T.e 0 rfl) (.cons evc (.cons evc .nil))) Tryz.func42 rfl rfl ?_
 refine Calls.mono (within_pot _ bp (-16) 16 _ (by omega) (by omega) (by omega) (M.nth 2 rfl) hsu3) ?_
 clear T; rintro e wc ⟨xu4, su4, hxu4, hsu4, rfl, hgr, hbk⟩ ac T
 replace M := M.callC (cs' := [.int .u64 su4]) (.tail (.tail .head)) hgr hbk
 clear hgr hbk
 refine lq T (Zra rfl (T.e 0 rfl)) ?_; clear T ac; intro ac T
 replace T := T.pick [0, 3, 4, 5, 6, 7] rfl
 refine Zln ?_
 refine Zsr ?_
 refine Zg3 T (Zq (Zrm rfl (T.e 3 rfl))) rfl (Zm 1 rfl rfl) rfl (Zm 6 rfl rfl) rfl ?_; clear T ac; intro ac T
 refine Zl2 ?_
 refine Zoc (first := []) (cap := []) T rfl rfl rfl rfl evf (.cons (T.e 2 rfl) (.cons (T.e 1 rfl) (.cons evc (.cons evc (.cons (T.e 0 rfl) .nil))))) Tryz.func45 rfl rfl ?_
 refine Calls.mono (near_pot _ bp xu4 (-60) 60 wd _ (by omega) (by omega) (by omega) (by omega) (by omega) (by omega) (M.nth 2 rfl) hsu4) ?_
 clear T; rintro e wc ⟨xu5, yu5, su5, hxu5, hsu5, rfl, hgr, hbk⟩ ac T
 replace M := M.callC (cs' := [.int .u64 su5]) (.tail (.tail .head)) hgr hbk
 clear hgr hbk
 refine Zg2 (v1 := (.pointer (some ⟨g3, 0, none⟩))) (v2 := (.pointer (some ⟨g3, 0, none⟩))) T (Zq (Zrf (off := 0) rfl (T.e 5 rfl) (fun _ _ _ => by kernel_rfl))) rfl (Zf 0 0 rfl rfl) rfl ?_; clear T ac; intro ac T
 refine Zl2 ?_
 refine Zos M T rfl rfl (T.e 0 rfl) (T.e 2 rfl) rfl .head rfl (by simp) rfl (by kernel_rfl) ?_; clear M T; intro wc ac M T
 replace T := T.pick [7, 8, 9, 11] rfl
 refine Zln ?_
 refine Zsr ?_
 refine Zg2 T (Zq (Zrm rfl (T.e 2 rfl))) rfl (Zm 3 rfl rfl) rfl ?_; clear T ac; intro ac T
 refine Zl2 ?_
 refine Zoc (first := []) (cap := []) T rfl rfl rfl rfl evf (.cons (T.e 0 rfl) (.cons evc (.cons evc .nil))) Tryz.func42 rfl rfl ?_
 refine Calls.mono (within_pot _ bp 20 40 _ (by omega) (by omega) (by omega) (M.nth 2 rfl) hsu5) ?_
 clear T; rintro e wc ⟨xu6, su6, hxu6, hsu6, rfl, hgr, hbk⟩ ac T
 replace M := M.callC (cs' := [.int .u64 su6]) (.tail (.tail .head)) hgr hbk
 clear hgr hbk
 refine Zl2 ?_
 refine Zoc (first := []) (cap := []) T rfl rfl rfl rfl evf (.cons (T.e 2 rfl) (.cons (T.e 0 rfl) (.cons evc (.cons evc (.cons evc .nil))))) Tryz.func45 rfl rfl ?_
 refine Calls.mono (near_pot _ bp xu6 0 100 2 _ (by omega) (by omega) (by omega) (by omega) (by omega) (by omega) (M.nth 2 rfl) hsu6) ?_
 clear T; rintro e wc ⟨xu7, yu7, su7, hxu7, hsu7, rfl, hgr, hbk⟩ ac T
 replace M := M.callC (cs' := [.int .u64 su7]) (.tail (.tail .head)) hgr hbk
 clear hgr hbk
 refine Zg2 T (Zq (Zrm rfl (T.e 6 rfl))) rfl (Zm 7 rfl rfl) rfl ?_; clear T ac; intro ac T
 refine Zl2 ?_
 refine Zoc (first := []) (cap := []) T rfl rfl rfl rfl evf (.cons (T.e 0 rfl) (.cons evc (.cons evc .nil))) Tryz.func42 rfl rfl ?_
 refine Calls.mono (within_pot _ bp 20 40 _ (by omega) (by omega) (by omega) (M.nth 2 rfl) hsu7) ?_
 clear T; rintro e wc ⟨xu8, su8, hxu8, hsu8, rfl, hgr, hbk⟩ ac T
 replace M := M.callC (cs' := [.int .u64 su8]) (.tail (.tail .head)) hgr hbk
 clear hgr hbk
 refine Zl2 ?_
 refine Zoc (first := []) (cap := []) T rfl rfl rfl rfl evf (.cons (T.e 2 rfl) (.cons (T.e 0 rfl) (.cons evc (.cons evc (.cons evc .nil))))) Tryz.func45 rfl rfl ?_
 refine Calls.mono (near_pot _ bp xu8 0 100 2 _ (by omega) (by omega) (by omega) (by omega) (by omega) (by omega) (M.nth 2 rfl) hsu8) ?_
 clear T; rintro e wc ⟨xu9, yu9, su9, hxu9, hsu9, rfl, hgr, hbk⟩ ac T
 replace M := M.callC (cs' := [.int .u64 su9]) (.tail (.tail .head)) hgr hbk
 clear hgr hbk
 refine Zg2 (v1 := (.pointer (some ⟨g3, 0, none⟩))) (v2 := (.pointer (some ⟨g3, 2, none⟩))) T (Zq (Zrf (off := 0) rfl (T.e 8 rfl) (fun _ _ _ => by kernel_rfl))) rfl (Zf 2 0 rfl rfl) rfl ?_; clear T ac; intro ac T
 refine Zl2 ?_
 refine Zos M T rfl rfl (T.e 0 rfl) (T.e 6 rfl) rfl .head rfl (by simp) rfl (by kernel_rfl) ?_; clear M T; intro wc ac M T
 refine Zg2 (v1 := (.pointer (some ⟨g3, 0, none⟩))) (v2 := (.pointer (some ⟨g3, 4, none⟩))) T (Zq (Zrf (off := 0) rfl (T.e 10 rfl) (fun _ _ _ => by kernel_rfl))) rfl (Zf 4 0 rfl rfl) rfl ?_; clear T ac; intro ac T
 refine Zl2 ?_
 refine Zos M T rfl rfl (T.e 0 rfl) (T.e 4 rfl) rfl .head rfl (by simp) rfl (by kernel_rfl) ?_; clear M T; intro wc ac M T
 replace T := T.pick [12, 13, 14, 15] rfl
 refine Zln ?_
 refine Zsr ?_
 refine Zg2 T (Zq (Zrm rfl (T.e 2 rfl))) rfl (Zm 3 rfl rfl) rfl ?_; clear T ac; intro ac T
 refine Zl2 ?_
 refine Zoc (first := []) (cap := []) T rfl rfl rfl rfl evf (.cons (T.e 0 rfl) (.cons evc (.cons evc .nil))) Tryz.func42 rfl rfl ?_
 refine Calls.mono (within_pot _ bp 1 6 _ (by omega) (by omega) (by omega) (M.nth 2 rfl) hsu9) ?_
 clear T; rintro e wc ⟨xu10, su10, hxu10, hsu10, rfl, hgr, hbk⟩ ac T
 replace M := M.callC (cs' := [.int .u64 su10]) (.tail (.tail .head)) hgr hbk
 clear hgr hbk
 refine lq T (Zrm rfl (T.e 6 rfl)) ?_; clear T ac; intro ac T
 refine Zl2 ?_
 refine Zoc (first := []) (cap := []) T rfl rfl rfl rfl evf (.cons (T.e 3 rfl) (.cons (T.e 1 rfl) (.cons evc (.cons evc (.cons (T.e 0 rfl) .nil))))) Tryz.func45 rfl rfl ?_
 refine Calls.mono (near_pot _ bp xu10 0 12 ls _ (by omega) (by omega) (by omega) (by omega) (by omega) (by omega) (M.nth 2 rfl) hsu10) ?_
 clear T; rintro e wc ⟨xu11, yu11, su11, hxu11, hsu11, rfl, hgr, hbk⟩ ac T
 replace M := M.callC (cs' := [.int .u64 su11]) (.tail (.tail .head)) hgr hbk
 clear hgr hbk
 refine Zg2 T (Zq (Zrm rfl (T.e 7 rfl))) rfl (Zm 8 rfl rfl) rfl ?_; clear T ac; intro ac T
 refine Zl2 ?_
 refine Zoc (first := []) (cap := []) T rfl rfl rfl rfl evf (.cons (T.e 0 rfl) (.cons evc (.cons evc .nil))) Tryz.func42 rfl rfl ?_
 refine Calls.mono (within_pot _ bp 1 6 _ (by omega) (by omega) (by omega) (M.nth 2 rfl) hsu11) ?_
 clear T; rintro e wc ⟨xu12, su12, hxu12, hsu12, rfl, hgr, hbk⟩ ac T
 replace M := M.callC (cs' := [.int .u64 su12]) (.tail (.tail .head)) hgr hbk
 clear hgr hbk
 refine lq T (Zrm rfl (T.e 11 rfl)) ?_; clear T ac; intro ac T
 refine Zl2 ?_
 refine Zoc (first := []) (cap := []) T rfl rfl rfl rfl evf (.cons (T.e 3 rfl) (.cons (T.e 1 rfl) (.cons evc (.cons evc (.cons (T.e 0 rfl) .nil))))) Tryz.func45 rfl rfl ?_
 refine Calls.mono (near_pot _ bp xu12 0 12 ls _ (by omega) (by omega) (by omega) (by omega) (by omega) (by omega) (M.nth 2 rfl) hsu12) ?_
 clear T; rintro e wc ⟨xu13, yu13, su13, hxu13, hsu13, rfl, hgr, hbk⟩ ac T
 replace M := M.callC (cs' := [.int .u64 su13]) (.tail (.tail .head)) hgr hbk
 clear hgr hbk
 refine Zg2 (v1 := (.pointer (some ⟨g3, 6, none⟩))) (v2 := (.pointer (some ⟨g3, 6, none⟩))) T (Zq (Zrf (off := 6) rfl (T.e 10 rfl) (fun _ _ _ => by kernel_rfl))) rfl (Zf 0 0 rfl rfl) rfl ?_; clear T ac; intro ac T
 refine Zl2 ?_
 refine Zos M T rfl rfl (T.e 0 rfl) (T.e 7 rfl) rfl .head rfl (by simp) rfl (by kernel_rfl) ?_; clear M T; intro wc ac M T
 refine Zg2 (v1 := (.pointer (some ⟨g3, 6, none⟩))) (v2 := (.pointer (some ⟨g3, 8, none⟩))) T (Zq (Zrf (off := 6) rfl (T.e 12 rfl) (fun _ _ _ => by kernel_rfl))) rfl (Zf 2 0 rfl rfl) rfl ?_; clear T ac; intro ac T
 refine Zl2 ?_
 refine Zos M T rfl rfl (T.e 0 rfl) (T.e 4 rfl) rfl .head rfl (by simp) rfl (by kernel_rfl) ?_; clear M T; intro wc ac M T
 replace T := T.pick [14, 15, 16] rfl
 refine Zln ?_
 refine Zsr ?_
 refine Zg2 T (Zq (Zrm rfl (T.e 2 rfl))) rfl (Zm 3 rfl rfl) rfl ?_; clear T ac; intro ac T
 refine Zl2 ?_
 refine Zoc (first := []) (cap := []) T rfl rfl rfl rfl evf (.cons (T.e 0 rfl) (.cons evc .nil)) Tryz.func44 rfl rfl ?_
 refine Calls.mono (upto_any _ bp 4 _ (by omega) (by omega) (M.nth 2 rfl) hsu13) ?_
 clear T; rintro e wc ⟨xu14, su14, hxu14, hsu14, rfl, hgr, hbk⟩ ac T
 replace M := M.callC (cs' := [.int .u64 su14]) (.tail (.tail .head)) hgr hbk
 clear hgr hbk
 refine Zl2 ?_
 refine Zoc (first := []) (cap := []) T rfl rfl rfl rfl evf (.cons (T.e 2 rfl) (.cons (T.e 0 rfl) (.cons evc (.cons evc (.cons evc .nil))))) Tryz.func45 rfl rfl ?_
 refine Calls.mono (near_pot _ bp xu14 0 12 1 _ (by omega) (by omega) (by omega) (by omega) (by omega) (by omega) (M.nth 2 rfl) hsu14) ?_
 clear T; rintro e wc ⟨xu15, yu15, su15, hxu15, hsu15, rfl, hgr, hbk⟩ ac T
 replace M := M.callC (cs' := [.int .u64 su15]) (.tail (.tail .head)) hgr hbk
 clear hgr hbk
 refine Zg2 T (Zq (Zrm rfl (T.e 6 rfl))) rfl (Zm 7 rfl rfl) rfl ?_; clear T ac; intro ac T
 refine Zl2 ?_
 refine Zoc (first := []) (cap := []) T rfl rfl rfl rfl evf (.cons (T.e 0 rfl) (.cons evc .nil)) Tryz.func44 rfl rfl ?_
 refine Calls.mono (upto_any _ bp 4 _ (by omega) (by omega) (M.nth 2 rfl) hsu15) ?_
 clear T; rintro e wc ⟨xu16, su16, hxu16, hsu16, rfl, hgr, hbk⟩ ac T
 replace M := M.callC (cs' := [.int .u64 su16]) (.tail (.tail .head)) hgr hbk
 clear hgr hbk
 refine Zl2 ?_
 refine Zoc (first := []) (cap := []) T rfl rfl rfl rfl evf (.cons (T.e 2 rfl) (.cons (T.e 0 rfl) (.cons evc (.cons evc (.cons evc .nil))))) Tryz.func45 rfl rfl ?_
 refine Calls.mono (near_pot _ bp xu16 0 12 1 _ (by omega) (by omega) (by omega) (by omega) (by omega) (by omega) (M.nth 2 rfl) hsu16) ?_
 clear T; rintro e wc ⟨xu17, yu17, su17, hxu17, hsu17, rfl, hgr, hbk⟩ ac T
 replace M := M.callC (cs' := [.int .u64 su17]) (.tail (.tail .head)) hgr hbk
 clear hgr hbk
 refine Zg2 (v1 := (.pointer (some ⟨g3, 6, none⟩))) (v2 := (.pointer (some ⟨g3, 10, none⟩))) T (Zq (Zrf (off := 6) rfl (T.e 8 rfl) (fun _ _ _ => by kernel_rfl))) rfl (Zf 4 0 rfl rfl) rfl ?_; clear T ac; intro ac T
 refine Zl2 ?_
 refine Zos M T rfl rfl (T.e 0 rfl) (T.e 6 rfl) rfl .head rfl (by simp) rfl (by kernel_rfl) ?_; clear M T; intro wc ac M T
 refine Zg2 (v1 := (.pointer (some ⟨g3, 6, none⟩))) (v2 := (.pointer (some ⟨g3, 12, none⟩))) T (Zq (Zrf (off := 6) rfl (T.e 10 rfl) (fun _ _ _ => by kernel_rfl))) rfl (Zf 6 0 rfl rfl) rfl ?_; clear T ac; intro ac T
 refine Zl2 ?_
 refine Zos M T rfl rfl (T.e 0 rfl) (T.e 4 rfl) rfl .head rfl (by simp) rfl (by kernel_rfl) ?_; clear M T; intro wc ac M T
 replace T := T.pick [12, 13, 14] rfl
 refine Zln ?_
 refine Zsr ?_
 refine lq T (Zrm rfl (T.e 2 rfl)) ?_; clear T ac; intro ac T
 refine Zl2 ?_
 refine Zoc (first := []) (cap := []) T rfl rfl rfl rfl evf (.cons (T.e 0 rfl) (.cons evc (.cons evc .nil))) Tryz.func42 rfl rfl ?_
 refine Calls.mono (within_pot _ bp 10 30 _ (by omega) (by omega) (by omega) (M.nth 2 rfl) hsu17) ?_
 clear T; rintro e wc ⟨xu18, su18, hxu18, hsu18, rfl, hgr, hbk⟩ ac T
 replace M := M.callC (cs' := [.int .u64 su18]) (.tail (.tail .head)) hgr hbk
 clear hgr hbk
 refine Zg2 (v1 := (.pointer (some ⟨g3, 6, none⟩))) (v2 := (.pointer (some ⟨g3, 14, none⟩))) T (Zq (Zrf (off := 6) rfl (T.e 2 rfl) (fun _ _ _ => by kernel_rfl))) rfl (Zf 8 0 rfl rfl) rfl ?_; clear T ac; intro ac T
 refine Zl2 ?_
 refine Zos M T rfl rfl (T.e 0 rfl) (T.e 2 rfl) rfl .head rfl (by simp) rfl (by kernel_rfl) ?_; clear M T; intro wc ac M T
 replace T := T.pick [4, 5, 6] rfl
 refine Zln ?_
 refine wp_seq ?_
 refine Zsr ?_
 refine lq T (Zrm rfl (T.e 2 rfl)) ?_; clear T ac; intro ac T
 refine Zl2 ?_
 refine Zoc (first := []) (cap := []) T rfl rfl rfl rfl evf (.cons (T.e 0 rfl) (.cons evc .nil)) Tryz.func44 rfl rfl ?_
 refine Calls.mono (upto_any _ bp 3 _ (by omega) (by omega) (M.nth 2 rfl) hsu18) ?_
 clear T; rintro e wc ⟨xu19, su19, hxu19, hsu19, rfl, hgr, hbk⟩ ac T
 replace M := M.callC (cs' := [.int .u64 su19]) (.tail (.tail .head)) hgr hbk
 clear hgr hbk
 refine lq T (Zra rfl (T.e 0 rfl)) ?_; clear T ac; intro ac T
 replace T := T.pick [0, 3, 4, 5] rfl
 refine Zln ?_
 refine wp_block ?_
 obtain ⟨j, M, hsh, hj⟩ : ∃ j : Jb, Mem w (fun b => b = bp) wc [(g3, .cells [.int .i64 j.p0, .int .i64 j.p1, .int .i64 j.t0, .int .i64 j.t1, .int .i64 j.r0, .int .i64 j.r1, .int .i64 j.u0, .int .i64 j.u1, .int .i64 j.d0, .int .i64 j.d1, .int .i64 j.a0, .int .i64 j.a1, .int .i64 j.b0, .int .i64 j.b1, .int .i64 j.le, .slice none 0 0, .int .i64 j.wi, .int .i64 j.me]), (g1, .cells [.int .i64 0, .int .i64 0, .int .i64 0, .int .i64 0, .int .i64 0, .int .i64 0, .int .i64 0, .int .i64 0, .int .i64 0, .int .i64 0, .int .i64 0, .int .i64 0, .int .i64 0, .int .i64 0, .int .i64 0, .slice none 0 0, .int .i64 0, .int .i64 0]), (bp, .cells [.int .u64 su19])] ∧ j.sh = [] ∧ j.made wd ls :=
   ⟨⟨xu5, yu5, xu7, yu7, xu9, yu9, xu11, yu11, xu13, yu13, xu15, yu15, xu17, yu17, xu18, [], xu1, xu3⟩, M.perm [0, 1, 2] rfl rfl, rfl, ⟨by dsimp only; omega, by dsimp only; omega, by dsimp only; omega, by dsimp only; omega, by dsimp only; omega, by dsimp only; omega, by dsimp only; omega, by dsimp only; omega, by simp, by simp, by dsimp only; omega, by dsimp only; omega⟩⟩
 refine wp_loop_n (fun mz ac wc => ∃ (i : Int) (sh : List (Int × Int)) (A : Option Addr) (c : Nat) (s : Int) (I : List (Nat × BA)), mz = i.toNat ∧ (0 ≤ i) ∧ ((sh.length : Int) + i ≤ 3) ∧ (∀ q ∈ sh, -5 ≤ q.1 ∧ q.1 ≤ q.2 ∧ q.2 ≤ 5) ∧ (u64ok s) ∧ (Sl 23 2 (.slice A sh.length c) sh.length (rc sh) I) ∧ Tm ac 84 [(0, .pointer (some ⟨bp, 0, none⟩)), (6, .pointer (some ⟨g1, 0, none⟩)), (7, .pointer (some ⟨g3, 0, none⟩)), (9, .int .i64 i)] ∧ Mem w (fun b => b = bp) wc ((g3, .cells [.int .i64 j.p0, .int .i64 j.p1, .int .i64 j.t0, .int .i64 j.t1, .int .i64 j.r0, .int .i64 j.r1, .int .i64 j.u0, .int .i64 j.u1, .int .i64 j.d0, .int .i64 j.d1, .int .i64 j.a0, .int .i64 j.a1, .int .i64 j.b0, .int .i64 j.b1, .int .i64 j.le, .slice A sh.length c, .int .i64 j.wi, .int .i64 j.me]) :: (g1, .cells [.int .i64 0, .int .i64 0, .int .i64 0, .int .i64 0, .int .i64 0, .int .i64 0, .int .i64 0, .int .i64 0, .int .i64 0, .int .i64 0, .int .i64 0, .int .i64 0, .int .i64 0, .int .i64 0, .int .i64 0, .slice none 0 0, .int .i64 0, .int .i64 0]) :: (bp, .cells [.int .u64 s]) :: I)) ?_ ?_
 ·exact ⟨_, _, [], none, 0, _, [], rfl, (by omega), (by simp; omega), (fun q hq => by cases hq), hsu19, (Sl.nil _ _), T.pick [3, 2, 1, 0] rfl, M.mask [true, true, true] rfl⟩
 clear T M
 rintro mz ac wc ⟨i, sh, A, c, s, I, hmm1, hi, hlen, hq, hs, hsl, T, M⟩
 refine wp_seq ?_
 refine Zsr ?_
 refine Zg2 T (Zq (Zrm rfl (T.e 3 rfl))) rfl (fun _ T => Zq (rn_gtr rfl (T.e 0 rfl) evc)) rfl ?_; clear T ac; intro ac T
 replace T := T.pick [0, 2, 3, 4, 5] rfl
 refine Zln ?_
 refine wp_if (T.e 0 rfl) ?_ ?_
 ·intro h1
  refine Zsk ?_
  refine wp_seq ?_
  refine wp_block ?_
  refine Zgs M (M.perm [1] rfl rfl) 10 (by kernel_rfl) rfl (by kernel_rfl) ?_
  clear M; intro wc M
  refine g_addG 4 M ?_
  refine g_addG 9 (M.perm [0, 1] rfl rfl) ?_
  refine gq (v := (.pointer (some ⟨g3, 15, none⟩))) T 0 1 rfl (fun _ _ _ _ _ => (Zrf (off := 15) rfl (T.e 3 rfl) (fun _ _ _ => by kernel_rfl))) ?_; clear T ac; intro ac T
  refine gq T 1 3 rfl (fun B w' hD hl hS => (Zro (Mem.nth (show Mem w (fun b => b = bp) w' _ from ((MA.lft hS) (hD.wait (i := 1) (m := 9) (by kernel_rfl) hl))) 0 rfl) rfl (T.e 0 rfl) rfl)) ?_; clear T ac; intro ac T
  refine gq T 2 7 rfl (fun _ _ _ _ _ => (Zrm rfl (T.e 3 rfl))) ?_; clear T ac; intro ac T
  refine gq T 3 15 rfl (fun _ _ _ _ _ => (Zrm rfl (T.e 4 rfl))) ?_; clear T ac; intro ac T
  refine gw 4 31 ?_; intro K hK
  refine Zoc (first := []) (cap := []) T rfl rfl rfl rfl evf (.cons (T.e 0 rfl) (.cons evc (.cons evc .nil))) Tryz.func42 rfl rfl ?_
  refine Calls.mono (within_pot _ bp (-3) 3 _ (by omega) (by omega) (by omega) (M.nth 2 rfl) hs) ?_
  clear T; rintro e wc ⟨xu20, su20, hxu20, hsu20, rfl, hgr, hbk⟩ ac T
  replace M := M.callC (cs' := [.int .u64 su20]) (.tail (.tail .head)) hgr hbk
  clear hgr hbk
  refine Zso hK _ _ (MA.mk (fun _ => M.perm [0, 1] rfl rfl) (MA.mk (fun h => (no_of (by kernel_rfl) h).elim) (M.perm [1] rfl rfl))) ?_; clear hK K
  refine gw 5 63 ?_; intro K hK
  refine Zoc (first := []) (cap := []) T rfl rfl rfl rfl evf (.cons (T.e 2 rfl) (.cons (T.e 0 rfl) (.cons evc (.cons evc (.cons evc .nil))))) Tryz.func45 rfl rfl ?_
  refine Calls.mono (near_pot _ bp xu20 (-60) 60 2 _ (by omega) (by omega) (by omega) (by omega) (by omega) (by omega) (M.nth 2 rfl) hsu20) ?_
  clear T; rintro e wc ⟨xu21, yu21, su21, hxu21, hsu21, rfl, hgr, hbk⟩ ac T
  replace M := M.callC (cs' := [.int .u64 su21]) (.tail (.tail .head)) hgr hbk
  clear hgr hbk
  refine Zso hK _ _ (MA.mk (fun _ => M.perm [0, 1] rfl rfl) (MA.mk (fun h => (no_of (by kernel_rfl) h).elim) (M.perm [1] rfl rfl))) ?_; clear hK K
  refine gw 6 127 ?_; intro K hK
  refine ow_bs (e := 23) [.int .i64 xu21, .int .i64 yu21] M T rfl rfl rfl rfl (.cons (T.e 0 rfl) .nil) (fun _ => by kernel_rfl) ?_; clear M T; intro g4 wc ac M T
  refine Zso hK _ _ (MA.mk (fun _ => M.perm [1, 2] rfl rfl) (MA.mk (fun h => (no_of (by kernel_rfl) h).elim) (M.perm [2] rfl rfl))) ?_; clear hK K
  refine gw 7 255 ?_; intro K hK
  refine ow_app ([(g4, .cells [.int .i64 xu21, .int .i64 yu21]), (g3, .cells [.int .i64 j.p0, .int .i64 j.p1, .int .i64 j.t0, .int .i64 j.t1, .int .i64 j.r0, .int .i64 j.r1, .int .i64 j.u0, .int .i64 j.u1, .int .i64 j.d0, .int .i64 j.d1, .int .i64 j.a0, .int .i64 j.a1, .int .i64 j.b0, .int .i64 j.b1, .int .i64 j.le, .slice A sh.length c, .int .i64 j.wi, .int .i64 j.me]), (g1, .cells [.int .i64 0, .int .i64 0, .int .i64 0, .int .i64 0, .int .i64 0, .int .i64 0, .int .i64 0, .int .i64 0, .int .i64 0, .int .i64 0, .int .i64 0, .int .i64 0, .int .i64 0, .int .i64 0, .int .i64 0, .slice none 0 0, .int .i64 0, .int .i64 0]), (bp, .cells [.int .u64 su21])]) Tryz.info23 hsl M (by first | rfl | simp) T rfl rfl rfl rfl Tryz.underlying28 rfl rfl rfl (by omega) (T.e 5 rfl) (T.e 0 rfl) (Zne (i := 0) rfl) rfl rfl ?_; clear M T; intro ga1 cga1 wc ac M T
  refine Zso hK _ _ (MA.mk (fun _ => M.mask [false, false, true, true, false] rfl) (MA.mk (fun h => (no_of (by kernel_rfl) h).elim) (M.mask [false, false, false, true, false] rfl))) ?_; clear hK K
  refine gq (v := (.pointer (some ⟨g3, 15, none⟩))) T 8 511 rfl (fun _ _ _ _ _ => (Zrf (off := 15) rfl (T.e 11 rfl) (fun _ _ _ => by kernel_rfl))) ?_; clear T ac; intro ac T
  refine gw 9 1023 ?_; intro K hK
  refine Zos M T rfl rfl (T.e 0 rfl) (T.e 1 rfl) rfl (.tail (.tail .head)) rfl (by simp) rfl (by kernel_rfl) ?_; clear M T; intro wc ac M T
  refine Zso hK _ _ (MA.mk (fun h => (no_of (by kernel_rfl) h).elim) (MA.mk (fun h => (no_of (by kernel_rfl) h).elim) (M.mask [false, false, false, true, false] rfl))) ?_; clear hK K
  refine Zgd (by kernel_rfl) ?_
  replace T := T.pick [10, 11, 12, 13] rfl
  replace M := M.mask [true, false, true, true, true] rfl
  refine Znb ?_
  refine nm_then ?_
  refine wp_region_lit ?_
  refine Zg2 T (Zq (Zrm rfl (T.e 3 rfl))) rfl (fun _ T => Zq (rn_sub rfl (T.e 0 rfl) evc (by omega))) rfl ?_; clear T ac; intro ac T
  refine l_q (v := (.int .i64 (i - 1))) (T.pick [0, 1, 2, 3, 4] rfl) rfl rfl rfl rfl (Zra rfl (T.e 0 rfl)) ?_; clear T ac; intro ac T
  replace T := T.pick [0, 3, 4, 5] rfl
  refine Zln ?_
  exact ⟨_, by omega, (i - 1), (sh ++ [(xu21, yu21)]), some ⟨ga1, 0, none⟩, cga1, su21, [(ga1, .row 23 2 (sh.length + 1) ((rc sh) ++ [.int .i64 xu21, .int .i64 yu21]) cga1)], rfl, (by omega), (by simp only [List.length_append, List.length_cons, List.length_nil]; omega), (fun q hq' => by rcases List.mem_append.1 hq' with h9 | h9; exact hq q h9; simp only [List.mem_cons, List.not_mem_nil, or_false] at h9; subst h9; dsimp only; omega), hsu21, (by rw [← rc_snoc, List.length_append]; exact Sl.row _ _ _ _ _ _), T.pick [1, 2, 3, 0] rfl, (by rw [List.length_append]; exact M.perm [1, 2, 3, 0] rfl rfl)⟩
 intro h1
 refine wp_exit ?_
 refine Zet ?_
 refine Zet ?_
 refine ex_hit ?_
 refine nm_then ?_
 refine Zsr ?_
 refine lq T (Zrr (Mem.nth M 0 rfl) rfl (T.e 3 rfl) rfl) ?_; clear T ac; intro ac T
 refine Zl2 ?_
 refine Zos M T rfl rfl (T.e 3 rfl) (T.e 0 rfl) rfl (.tail .head) rfl (by simp) rfl (by kernel_rfl) ?_; clear M T; intro wc ac M T
 refine wpList_nil ?_
 replace T := T.pick [3] rfl
 replace M := M.mask [false, true, true] rfl
 refine Znr ?_
 refine rt_c M T rfl (T.e 0 rfl) (Zne (i := 0) rfl) rfl ?_
 exact ⟨{ j with sh := sh }, A, c, _, I, rfl, ⟨hj.p, hj.t, hj.r, hj.u, hj.d, hj.a, hj.b, hj.le, by dsimp only; omega, hq, hj.wi, hj.me⟩, hs, hsl, Mem.swapI (I := [(bp, .cells [.int .u64 s])]) (L := I) (M.mask [false, true] rfl)⟩
open Go.RowKit
abbrev jobL (j : Jb) (A : Option Addr) (c : Nat) : List Value := [.int .i64 j.p0, .int .i64 j.p1, .int .i64 j.t0, .int .i64 j.t1, .int .i64 j.r0, .int .i64 j.r1, .int .i64 j.u0, .int .i64 j.u1, .int .i64 j.d0, .int .i64 j.d1, .int .i64 j.a0, .int .i64 j.a1, .int .i64 j.b0, .int .i64 j.b1, .int .i64 j.le, .slice A j.sh.length c, .int .i64 j.wi, .int .i64 j.me]
theorem Sp.pre {w : World} {ex : Nat → Prop} {size n g : Nat} {xs ys : List Value} (hl : xs.length = n * size) : Sp w ex [(g, .cells (xs ++ ys))] (some ⟨g, 0, none⟩) n size g 0 xs :=
 ⟨fun _ => rfl, hl, fun w' L M hI _ => BA.lt (M.blk _ (hI.subset Zz2)).2, fun w' L M hI j u hu => by
  have hb := M.get (hI.subset Zz2)
  rw [hb.cell, Nat.zero_add, List.getElem?_toArray, List.getElem?_append_left (List.getElem?_eq_some_iff.1 hu).1]
  exact hu⟩
abbrev JE := Jb × Option Addr × Nat
abbrev LE := List Int × Option Addr × Nat
section
variable {w w' : World} {ex : Nat → Prop} {I L : List (Nat × BA)} {n b o k : Nat} {A : Option Addr} {l : List JE} {r : List LE}
end
section
variable {P : Program} {op : Oper} {a : Act} {K : Act → World → Prop} {Q : Exit → Act → World → Prop} {w0 w : World} {ex : Nat → Prop} {L0 L : List (Nat × BA)} {E : List (Nat × Value)} {t n : Nat}
end
theorem ic_snoc (l : List Int) (x : Int) : ic l ++ [.int .i64 x] = ic (l ++ [x]) := by simp [ic]
section
variable {P : Program} {op : Oper} {a : Act} {K : Act → World → Prop} {Q : Exit → Act → World → Prop} {w0 w : World} {ex : Nat → Prop} {L0 L : List (Nat × BA)} {E : List (Nat × Value)} {t n : Nat}
end
def St.tongue (s : St) : Array Value := #[.int .i64 s.p0, .int .i64 s.p1, .int .i64 s.t0, .int .i64 s.t1, .int .i64 s.r0, .int .i64 s.r1]
def tongue0 : Array Value := #[.int .i64 0, .int .i64 0, .int .i64 0, .int .i64 0, .int .i64 0, .int .i64 0]
def afterC (j : Jb) (l : List Int) : Array Value := if checkStrokesJ j l = 0 then (j.st.after l).tongue else tongue0
theorem Tryz.fieldTongue (w : World) (a b c d e f g h i j k l m n o : Value) : (Instr.field 173 (.agg #[a, b, c, d, e, f, g, h, i, j, k, l, m, n, o]) 0).run Tryz.prog w = .ok (.agg #[a, b, c, d, e, f]) w := by kernel_rfl
theorem strokes_of {j : Jb} {l : List Int} (h : checkStrokesJ j l = 0) : checkJ j = 0 ∧ l.length ≤ 6 ∧ ∀ k ∈ l, okS k = true := by
 unfold checkStrokesJ at h
 split at h
 · rename_i h1; rw [h] at h1; simp at h1
 rename_i h1
 split at h
 · omega
 · exact ⟨bne_no h1, by omega, chkS_of h⟩
theorem After_any (j : Jb) (A : Option Addr) (c : Nat) (B : Option Addr) (d n : Nat) (l : List Int) (w : World) (hr : Rd w w.heap.size 2 A j.sh.length (rc j.sh)) (hn : j.sh.length ≤ 9223372036854775807) (hl : Rd w w.heap.size 1 B n (ic l)) (hm : n ≤ 9223372036854775807) :
  Calls Tryz.prog 34 #[jobV j A c, .slice B n d] w fun e w' => e = .returned (.tuple #[.agg (afterC j l), .int .i64 (checkStrokesJ j l)]) ∧ Below w.heap.size w w' := by
 have HR := Lib.hid hr
 have HL := Lib.hid hl
 have HN := Lib.hid hl.len1
 clear hr hl
 have q0 := (Bk.new w 30 #[.int .i64 j.p0, .int .i64 j.p1, .int .i64 j.t0, .int .i64 j.t1, .int .i64 j.r0, .int .i64 j.r1, .int .i64 j.u0, .int .i64 j.u1, .int .i64 j.d0, .int .i64 j.d1, .int .i64 j.a0, .int .i64 j.a1, .int .i64 j.b0, .int .i64 j.b1, .int .i64 j.le, .slice A j.sh.length c, .int .i64 j.wi, .int .i64 j.me]).alloc (.cells #[.int .i64 0, .int .i64 0, .int .i64 0, .int .i64 0, .int .i64 0, .int .i64 0] 25)
 have z0 : Bk ((w.alloc (.cells #[.int .i64 j.p0, .int .i64 j.p1, .int .i64 j.t0, .int .i64 j.t1, .int .i64 j.r0, .int .i64 j.r1, .int .i64 j.u0, .int .i64 j.u1, .int .i64 j.d0, .int .i64 j.d1, .int .i64 j.a0, .int .i64 j.a1, .int .i64 j.b0, .int .i64 j.b1, .int .i64 j.le, .slice A j.sh.length c, .int .i64 j.wi, .int .i64 j.me] 30)).alloc (.cells #[.int .i64 0, .int .i64 0, .int .i64 0, .int .i64 0, .int .i64 0, .int .i64 0] 25)) (w.heap.size + 1) #[.int .i64 0, .int .i64 0, .int .i64 0, .int .i64 0, .int .i64 0, .int .i64 0] := by (repeat' (first | (with_reducible refine Bk.drew ?_) | ((with_reducible refine Bk.newAt _ _ _ _ ?_); (simp; done)) | (with_reducible refine Bk.alloc ?_ _)))
 by_cases h0 : checkStrokesJ j l = 0
 ·obtain ⟨hc, h6, hk⟩ := strokes_of h0
  have HU := Lib.hid (good_of hc).st
  have HK := Lib.hid hk
  have h6' : n ≤ 6 := by have := HN.out; omega
  have HA : Hid (afterC j l = (j.st.after l).tongue) := by show _ = _; unfold afterC; rw [if_pos h0]
  have H0 := Lib.hid h0
  clear hc h6 hk h0
  generalize afterC j l = ac at *
  generalize hcs : checkStrokesJ j l = cs at *
  have HCS := Lib.hid hcs
  clear hcs
  have hfld := Tryz.fieldTongue
  go_enter Tryz.func34, Tryz.ntmps34
  go_wp2_with (first
   | (refine wpList_load_blk (by rfl) 30 (.tmp 2) (by rfl) _ (by rfl) _ q0 _ Tryz.underlying30 (by rfl) (by kernel_rfl) ?_)
   | (go_at_call 105; ((with_reducible refine (checkStrokes_any j _ _ _ _ _ l _ ?_ hn ?_ hm).mono ?_); (exact (HR.out.below (by (repeat' (first | (with_reducible exact Below.refl _ _) | (with_reducible refine Below.alloc ?_ ?_ _) | (with_reducible refine Below.setCell ?_ ?_ _) | (with_reducible refine Below.drew ?_) | ((with_reducible refine Below.trans ?_ (Below.mono (by assumption) ?_))) | go_size)))).more (by go_size)); (exact (HL.out.below (by (repeat' (first | (with_reducible exact Below.refl _ _) | (with_reducible refine Below.alloc ?_ ?_ _) | (with_reducible refine Below.setCell ?_ ?_ _) | (with_reducible refine Below.drew ?_) | ((with_reducible refine Below.trans ?_ (Below.mono (by assumption) ?_))) | go_size)))).more (by go_size)); rintro e w1 ⟨rfl, hb1⟩; have hz1 := hb1.size; (try simp only [World.size_alloc] at hz1); rw [HCS.out, H0.out]; have hbw1 : Below w.heap.size w w1 := (by (repeat' (first | (with_reducible exact Below.refl _ _) | (with_reducible refine Below.alloc ?_ ?_ _) | (with_reducible refine Below.setCell ?_ ?_ _) | (with_reducible refine Below.drew ?_) | ((with_reducible refine Below.trans ?_ (Below.mono (by assumption) ?_))) | go_size))); have q1 := q0.below hb1; have z1 := z0.below hb1))
   | (refine wpList_load_blk (by rfl) 30 (.tmp 2) (by rfl) _ (by rfl) _ q1 _ Tryz.underlying30 (by rfl) (by kernel_rfl) ?_)
   | (go_at_call 106; ((with_reducible refine (after_any j _ _ _ _ _ l _ ?_ (by omega) HU.out HK.out).mono ?_); (exact (HL.out.below hbw1).more hbw1.size); rintro e w2 ⟨rfl, hb2⟩; have hz2 := hb2.size; (try simp only [World.size_alloc] at hz2); have hbw2 : Below w.heap.size w w2 := bl_trans hbw1 hb2 hbw1.size; have z2 := z1.below hb2))
   | (refine wpList_store_blk (by rfl) 25 (.tmp 4) (.tmp 17) (by rfl) _ _ _ (by rfl) (by rfl) z2 (by rfl) (by kernel_rfl) (by simp [Value.oneCell']) ?_; intro w3 z3 ho3))
  refine ret_blk1 4 5 25 (by rfl) (by rfl) _ _ (by rfl) (by rfl) _ z3 _ Tryz.underlying25 (by rfl) (by kernel_rfl) ?_
  rw [HA.out, H0.out]
  exact ⟨rfl, bl_oth hbw2 ho3 (by omega)⟩
 ·have h1 : (checkStrokesJ j l != 0) = true := by simpa using h0
  have HA : Hid (afterC j l = tongue0) := by show _ = _; unfold afterC; rw [if_neg h0]
  clear h0
  generalize afterC j l = ac at *
  go_enter Tryz.func34, Tryz.ntmps34
  go_wp2_with (first
   | (refine wpList_load_blk (by rfl) 30 (.tmp 2) (by rfl) _ (by rfl) _ q0 _ Tryz.underlying30 (by rfl) (by kernel_rfl) ?_)
   | (go_at_call 105; ((with_reducible refine (checkStrokes_any j _ _ _ _ _ l _ ?_ hn ?_ hm).mono ?_); (exact (HR.out.below (by (repeat' (first | (with_reducible exact Below.refl _ _) | (with_reducible refine Below.alloc ?_ ?_ _) | (with_reducible refine Below.setCell ?_ ?_ _) | (with_reducible refine Below.drew ?_) | ((with_reducible refine Below.trans ?_ (Below.mono (by assumption) ?_))) | go_size)))).more (by go_size)); (exact (HL.out.below (by (repeat' (first | (with_reducible exact Below.refl _ _) | (with_reducible refine Below.alloc ?_ ?_ _) | (with_reducible refine Below.setCell ?_ ?_ _) | (with_reducible refine Below.drew ?_) | ((with_reducible refine Below.trans ?_ (Below.mono (by assumption) ?_))) | go_size)))).more (by go_size)); rintro e w1 ⟨rfl, hb1⟩; have hz1 := hb1.size; (try simp only [World.size_alloc] at hz1); have hbw1 : Below w.heap.size w w1 := (by (repeat' (first | (with_reducible exact Below.refl _ _) | (with_reducible refine Below.alloc ?_ ?_ _) | (with_reducible refine Below.setCell ?_ ?_ _) | (with_reducible refine Below.drew ?_) | ((with_reducible refine Below.trans ?_ (Below.mono (by assumption) ?_))) | go_size))); have z1 := z0.below hb1))
   | (refine wpList_store_blk (by rfl) 25 (.tmp 4) (.tmp 12) (by rfl) _ _ _ (by rfl) (by rfl) z1 (by rfl) (by kernel_rfl) (by simp [Value.oneCell']) ?_; intro w3 z3 ho3))
  refine ret_blk1 4 5 25 (by rfl) (by rfl) _ _ (by rfl) (by rfl) _ z3 _ Tryz.underlying25 (by rfl) (by kernel_rfl) ?_
  rw [HA.out]
  exact ⟨rfl, bl_oth hbw1 ho3 (by omega)⟩
open Go.RowKit
def windowJ (j : Jb) : (Int × Int) × Int := if checkJ j = 0 then (if (winS j).2 < (winS j).1 then ((0, 0), 11) else (winS j, 0)) else ((0, 0), checkJ j)
theorem Window_any (j : Jb) (A : Option Addr) (c : Nat) (w : World) (hr : Rd w w.heap.size 2 A j.sh.length (rc j.sh)) (hn : j.sh.length ≤ 9223372036854775807) :
  Calls Tryz.prog 32 #[jobV j A c] w fun e w' => e = .returned (.tuple #[R2 (windowJ j).1.1 (windowJ j).1.2, .int .i64 (windowJ j).2]) ∧ Below w.heap.size w w' := by
 have HR := Lib.hid hr
 clear hr
 have q0 := (Bk.new w 30 #[.int .i64 j.p0, .int .i64 j.p1, .int .i64 j.t0, .int .i64 j.t1, .int .i64 j.r0, .int .i64 j.r1, .int .i64 j.u0, .int .i64 j.u1, .int .i64 j.d0, .int .i64 j.d1, .int .i64 j.a0, .int .i64 j.a1, .int .i64 j.b0, .int .i64 j.b1, .int .i64 j.le, .slice A j.sh.length c, .int .i64 j.wi, .int .i64 j.me]).alloc (.cells #[.int .i64 0, .int .i64 0] 23)
 have z0 : Bk ((w.alloc (.cells #[.int .i64 j.p0, .int .i64 j.p1, .int .i64 j.t0, .int .i64 j.t1, .int .i64 j.r0, .int .i64 j.r1, .int .i64 j.u0, .int .i64 j.u1, .int .i64 j.d0, .int .i64 j.d1, .int .i64 j.a0, .int .i64 j.a1, .int .i64 j.b0, .int .i64 j.b1, .int .i64 j.le, .slice A j.sh.length c, .int .i64 j.wi, .int .i64 j.me] 30)).alloc (.cells #[.int .i64 0, .int .i64 0] 23)) (w.heap.size + 1) #[.int .i64 0, .int .i64 0] := by (repeat' (first | (with_reducible refine Bk.drew ?_) | ((with_reducible refine Bk.newAt _ _ _ _ ?_); (simp; done)) | (with_reducible refine Bk.alloc ?_ _)))
 by_cases h0 : checkJ j = 0
 ·have g := good_of h0
  have HO := Lib.hid g.ok
  have HW : Hid (windowJ j = if (winS j).2 < (winS j).1 then ((0, 0), 11) else (winS j, 0)) := by show _ = _; unfold windowJ; rw [if_pos h0]
  have H0 := Lib.hid h0
  clear g h0
  have h2 : (winS j).2 < (winS j).1 ∨ ¬ (winS j).2 < (winS j).1 := Decidable.em _
  generalize windowJ j = wj at *
  generalize hws : winS j = ws at *
  have HWS := Lib.hid hws
  clear hws
  obtain ⟨s0, s1⟩ := ws
  rcases h2 with h2 | h2
  all_goals
   have H2 := Lib.hid h2
   go_enter Tryz.func32, Tryz.ntmps32
   go_wp2_with (first
    | (refine wpList_load_blk (by rfl) 30 (.tmp 1) (by rfl) _ (by rfl) _ q0 _ Tryz.underlying30 (by rfl) (by kernel_rfl) ?_)
    | (go_at_call 46; ((with_reducible refine (check_any j _ _ _ ?_ ?_).mono ?_); (exact (HR.out.below (by (repeat' (first | (with_reducible exact Below.refl _ _) | (with_reducible refine Below.alloc ?_ ?_ _) | (with_reducible refine Below.setCell ?_ ?_ _) | (with_reducible refine Below.drew ?_) | ((with_reducible refine Below.trans ?_ (Below.mono (by assumption) ?_))) | go_size)))).more (by go_size)); (exact hn); rintro e w1 ⟨rfl, hb1⟩; have hz1 := hb1.size; (try simp only [World.size_alloc] at hz1); rw [H0.out]; have hbw1 : Below w.heap.size w w1 := (by (repeat' (first | (with_reducible exact Below.refl _ _) | (with_reducible refine Below.alloc ?_ ?_ _) | (with_reducible refine Below.setCell ?_ ?_ _) | (with_reducible refine Below.drew ?_) | ((with_reducible refine Below.trans ?_ (Below.mono (by assumption) ?_))) | go_size))); have q1 := q0.below hb1; have z1 := z0.below hb1))
    | (refine wpList_load_blk (by rfl) 30 (.tmp 1) (by rfl) _ (by rfl) _ q1 _ Tryz.underlying30 (by rfl) (by kernel_rfl) ?_)
    | (go_at_call 104; ((with_reducible refine (windows_any j _ _ _ HO.out ?_).mono ?_); (exact (HR.out.below hbw1).more hbw1.size); rintro e w2 ⟨rfl, hb2⟩; have hz2 := hb2.size; (try simp only [World.size_alloc] at hz2); rw [HWS.out]; have hbw2 : Below w.heap.size w w2 := bl_trans hbw1 hb2 hbw1.size; have z2 := z1.below hb2; have c2 := z2.cell; have f2 := z2.frozen; have l2 := z2.lt; have m2 : w.heap.size < w2.heap.size := (by omega))))
   refine ret_blk1 2 3 23 (by rfl) (by rfl) _ _ (by rfl) (by rfl) _ (by first | exact z2.put2 | exact (z2.put2.alloc _).alloc _ | exact ((z2.alloc _).alloc _).put2) _ Tryz.underlying23 (by rfl) (by kernel_rfl) ?_
   rw [HW.out]
   first | rw [if_pos (by have := H2.out; omega)] | rw [if_neg (by have := H2.out; omega)]
   exact ⟨rfl, by first | exact bl_set2 hbw2 (by omega) | exact ((bl_set2 hbw2 (by omega)).alloc (by simp; omega) _).alloc (by simp; omega) _ | exact bl_set2 ((hbw2.alloc (by omega) _).alloc (by simp; omega) _) (by omega)⟩
 ·have h1 : (checkJ j != 0) = true := by simpa using h0
  have HW : Hid (windowJ j = ((0, 0), checkJ j)) := by show _ = _; unfold windowJ; rw [if_neg h0]
  clear h0
  generalize windowJ j = wj at *
  go_enter Tryz.func32, Tryz.ntmps32
  go_wp2_with (first
   | (refine wpList_load_blk (by rfl) 30 (.tmp 1) (by rfl) _ (by rfl) _ q0 _ Tryz.underlying30 (by rfl) (by kernel_rfl) ?_)
   | (go_at_call 46; ((with_reducible refine (check_any j _ _ _ ?_ ?_).mono ?_); (exact (HR.out.below (by (repeat' (first | (with_reducible exact Below.refl _ _) | (with_reducible refine Below.alloc ?_ ?_ _) | (with_reducible refine Below.setCell ?_ ?_ _) | (with_reducible refine Below.drew ?_) | ((with_reducible refine Below.trans ?_ (Below.mono (by assumption) ?_))) | go_size)))).more (by go_size)); (exact hn); rintro e w1 ⟨rfl, hb1⟩; have hz1 := hb1.size; (try simp only [World.size_alloc] at hz1); have hbw1 : Below w.heap.size w w1 := (by (repeat' (first | (with_reducible exact Below.refl _ _) | (with_reducible refine Below.alloc ?_ ?_ _) | (with_reducible refine Below.setCell ?_ ?_ _) | (with_reducible refine Below.drew ?_) | ((with_reducible refine Below.trans ?_ (Below.mono (by assumption) ?_))) | go_size))); have z1 := z0.below hb1; have c1 := z1.cell; have f1 := z1.frozen; have l1 := z1.lt)))
  refine ret_blk1 2 3 23 (by rfl) (by rfl) _ _ (by rfl) (by rfl) _ z1.put2 _ Tryz.underlying23 (by rfl) (by kernel_rfl) ?_
  rw [HW.out]
  exact ⟨rfl, bl_set2 hbw1 (by omega)⟩
open Go.RowKit
theorem eqT23 {x y : Operand} {a0 a1 b0 b1 : Int} {w : World} : (do eqGuard .eql 23 x y (.agg #[.int .i64 a0, .int .i64 a1]) (.agg #[.int .i64 b0, .int .i64 b1]); binOp .eql 23 (.agg #[.int .i64 a0, .int .i64 a1]) (.agg #[.int .i64 b0, .int .i64 b1]) : Sem Value).run Tryz.prog w = .ok (.bool ((decide (a0 = b0) && decide (a1 = b1)))) w := by
 go_simp
 (repeat' split) <;> simp_all
theorem eqT25 {x y : Operand} {a0 a1 a2 a3 a4 a5 b0 b1 b2 b3 b4 b5 : Int} {w : World} : (do eqGuard .eql 25 x y (.agg #[.int .i64 a0, .int .i64 a1, .int .i64 a2, .int .i64 a3, .int .i64 a4, .int .i64 a5]) (.agg #[.int .i64 b0, .int .i64 b1, .int .i64 b2, .int .i64 b3, .int .i64 b4, .int .i64 b5]); binOp .eql 25 (.agg #[.int .i64 a0, .int .i64 a1, .int .i64 a2, .int .i64 a3, .int .i64 a4, .int .i64 a5]) (.agg #[.int .i64 b0, .int .i64 b1, .int .i64 b2, .int .i64 b3, .int .i64 b4, .int .i64 b5]) : Sem Value).run Tryz.prog w = .ok (.bool ((decide (a0 = b0) && (decide (a1 = b1) && (decide (a2 = b2) && (decide (a3 = b3) && (decide (a4 = b4) && decide (a5 = b5)))))))) w := by
 go_simp
 (repeat' split) <;> simp_all
theorem eqT27 {x y : Operand} {a0 a1 a2 a3 a4 a5 a6 a7 a8 b0 b1 b2 b3 b4 b5 b6 b7 b8 : Int} {w : World} : (do eqGuard .eql 27 x y (.agg #[.int .i64 a0, .int .i64 a1, .int .i64 a2, .int .i64 a3, .int .i64 a4, .int .i64 a5, .int .i64 a6, .int .i64 a7, .int .i64 a8]) (.agg #[.int .i64 b0, .int .i64 b1, .int .i64 b2, .int .i64 b3, .int .i64 b4, .int .i64 b5, .int .i64 b6, .int .i64 b7, .int .i64 b8]); binOp .eql 27 (.agg #[.int .i64 a0, .int .i64 a1, .int .i64 a2, .int .i64 a3, .int .i64 a4, .int .i64 a5, .int .i64 a6, .int .i64 a7, .int .i64 a8]) (.agg #[.int .i64 b0, .int .i64 b1, .int .i64 b2, .int .i64 b3, .int .i64 b4, .int .i64 b5, .int .i64 b6, .int .i64 b7, .int .i64 b8]) : Sem Value).run Tryz.prog w = .ok (.bool ((decide (a0 = b0) && (decide (a1 = b1) && (decide (a2 = b2) && (decide (a3 = b3) && (decide (a4 = b4) && (decide (a5 = b5) && (decide (a6 = b6) && (decide (a7 = b7) && decide (a8 = b8))))))))))) w := by
 go_simp
 (repeat' split) <;> simp_all
theorem same_start {α : Type} [DecidableEq α] (l r : List α) : decide (l = r) = (decide ((l.length : Int) = (r.length : Int)) && decide (l.drop 0 = r.drop 0)) := by
 by_cases h : l = r
 · subst h; simp
 · simp [h]
theorem same_next {x y x' y' : Int} {l r : List (Int × Int)} : decide ((x, y) :: l = (x', y') :: r) = ((decide (x = x') && decide (y = y')) && decide (l = r)) := by
 by_cases h1 : x = x' <;> by_cases h2 : y = y' <;> simp [h1, h2]
theorem sameRanges_any (A D : Option Addr) (n m c d : Nat) (l r : List (Int × Int)) (w : World) (hr : Rd w w.heap.size 2 A n (rc l)) (hs : Rd w w.heap.size 2 D m (rc r)) (hn : n ≤ 9223372036854775807) (hm : m ≤ 9223372036854775807) :
   Calls Tryz.prog 59 #[.slice A n c, .slice D m d] w fun e w' => e = .returned (.bool (decide (l = r))) ∧ Below w.heap.size w w' := by
 have hl := hr.len2
 have hl2 := hs.len2
 obtain ⟨bJ, oJ, SJ⟩ := Sp.old hr
 obtain ⟨bI, oI, SI⟩ := Sp.old hs
 refine Zpx noEx Tryz.func59 rfl 31 rfl [.slice A n c, .slice D m d] rfl rfl (Mem.init w _) ?_
 intro ac wc T M
 refine Zsr ?_
 refine lq T (Zra rfl evc) ?_; clear T ac; intro ac T
 replace T := T.pick [1, 2] rfl
 refine Zln ?_
 refine Zsr ?_
 refine Zg6 T (Zq (Zrm rfl (T.e 0 rfl))) rfl (Zl Tryz.underlying28 0 rfl rfl) rfl (Zm 3 rfl rfl) rfl (Zl Tryz.underlying28 0 rfl rfl) rfl (fun _ T => Zq (rn_eql rfl (T.e 2 rfl) (T.e 0 rfl))) rfl (Za 0 rfl rfl) rfl ?_; clear T ac; intro ac T
 replace T := T.pick [0, 6, 7] rfl
 refine Zln ?_
 refine wp_seq ?_
 refine Zsr ?_
 refine lq T (Zra rfl evc) ?_; clear T ac; intro ac T
 refine Zln ?_
 refine wp_block ?_
 refine wp_loop_n (fun mz ac wc => ∃ (k : Nat) (b : Bool), mz = n - k ∧ (k ≤ n) ∧ (b = true → n = m) ∧ (decide (l = r) = (b && decide (l.drop k = r.drop k))) ∧ Tm ac 31 [(0, .slice A n c), (1, .slice D m d), (5, .bool b), (6, .int .i64 (k : Int))] ∧ Mem w noEx wc []) ?_ ?_
 ·exact ⟨_, 0, _, rfl, (by omega), (fun h => by have := of_decide_eq_true h; omega), (by rw [same_start l r, hl, hl2]), T.pick [2, 3, 1, 0] rfl, M.mask [] rfl⟩
 clear T M
 rintro mz ac wc ⟨k, b, hmm1, hk, hb, H, T, M⟩
 refine wp_seq ?_
 refine cut_seq (fun ac wc => Tm ac 31 [(0, .slice A n c), (1, .slice D m d), (5, .bool b), (6, .int .i64 (k : Int)), (18, .bool (b && (decide ((k : Int) < ((n : Nat) : Int)))))] ∧ Mem w noEx wc []) ?_ ?_
 ·refine wp_region_lit ?_
  refine Zg2 T (Zq (Zrm rfl (T.e 2 rfl))) rfl (Zm 0 rfl rfl) rfl ?_; clear T ac; intro ac T
  rcases Bool.eq_false_or_eq_true b with h1 | h1
  ·refine Zg5 T (Zw (Zwy rfl rfl (T.e 0 rfl) h1) (Zrm rfl (T.e 5 rfl))) rfl (fun _ T => Zw (Zwy rfl rfl (T.e 1 rfl) h1) (Zrm rfl (T.e 3 rfl))) rfl (fun _ T => Zw (Zwy rfl rfl (T.e 2 rfl) h1) (Zrl rfl Tryz.underlying28 (T.e 0 rfl))) rfl (fun _ T => Zw (Zwy rfl rfl (T.e 3 rfl) h1) (rn_lss rfl (T.e 2 rfl) (T.e 0 rfl))) rfl (fun _ T => Zq (Zr1 rfl (T.e 4 rfl) h1 (T.e 0 rfl))) rfl ?_; clear T ac; intro ac T
   refine wpList_nil ?_
   replace T := T.pick [0, 1, 2, 3, 4, 7, 8, 9, 10] rfl
   exact ⟨(T.pick (E' := [(0, .slice A n c), (1, .slice D m d), (5, .bool b), (6, .int .i64 (k : Int)), (18, .bool (decide ((k : Int) < ((n : Nat) : Int))))]) [5, 6, 7, 8, 0] rfl).as (by (try rw [show b = true from h1]); (try rfl)), M.mask [] rfl⟩
  refine Zg5 T (Zp (Zwn rfl rfl (T.e 0 rfl) h1)) rfl (fun _ T => Zp (Zwn rfl rfl (T.e 1 rfl) h1)) rfl (fun _ T => Zp (Zwn rfl rfl (T.e 2 rfl) h1)) rfl (fun _ T => Zp (Zwn rfl rfl (T.e 3 rfl) h1)) rfl (fun _ T => Zq (Zr0 rfl (T.e 4 rfl) h1 evc)) rfl ?_; clear T ac; intro ac T
  refine wpList_nil ?_
  replace T := T.pick [0, 1, 2, 3, 4, 7, 8, 9, 10] rfl
  exact ⟨(T.pick (E' := [(0, .slice A n c), (1, .slice D m d), (5, .bool b), (6, .int .i64 (k : Int)), (18, .bool false)]) [5, 6, 7, 8, 0] rfl).as (by (try rw [show b = false from h1]); (try rfl)), M.mask [] rfl⟩
 clear T M
 rintro ac wc ⟨T, M⟩
 refine wp_cond_split (T.e 4 rfl) ?_ ?_
 ·intro h2
  (have h2' := h2; try simp only [Zb1, Zb2, Zb3, Zb4, Zb5, Zb6, Zb7] at h2')
  have h1 : b = true ∧ (k : Int) < (n : Int) := by simpa using h2
  have hnm := hb h1.1
  obtain ⟨x0, x1, hk1, hd⟩ := rc_next (l := l) (k := k) (by omega)
  obtain ⟨y0, y1, hk2, hd2⟩ := rc_next (l := r) (k := k) (by omega)
  rw [hd, hd2, h1.1, Bool.true_and, same_next] at H
  refine Zsk ?_
  refine wp_seq ?_
  refine wp_block ?_
  refine Zgs M (M.mask [] rfl) 10 (by kernel_rfl) rfl (by kernel_rfl) ?_
  clear M; intro wc M
  refine gq T 0 1 rfl (fun _ _ _ _ _ => (Zrm rfl (T.e 0 rfl))) ?_; clear T ac; intro ac T
  refine gq T 1 3 rfl (fun _ _ _ _ _ => (Zrm rfl (T.e 4 rfl))) ?_; clear T ac; intro ac T
  refine gq T 2 7 rfl (fun _ _ _ _ _ => (Zri (size := 2) k rfl (T.e 1 rfl) (T.e 0 rfl) ⟨_, Tryz.underlying28, by kernel_rfl⟩ rfl (by omega) (SJ.at0 (by omega)))) ?_; clear T ac; intro ac T
  refine gq (v := (.agg #[.int .i64 x0, .int .i64 x1])) T 3 15 rfl (fun B w' hD hl hS => (rn_rowat (Sp.rcR SJ (show Mem w noEx w' _ from hS) (Zz9 _) hk1) rfl (T.e 0 rfl) rfl)) ?_; clear T ac; intro ac T
  refine gq T 4 31 rfl (fun _ _ _ _ _ => (Zrm rfl (T.e 5 rfl))) ?_; clear T ac; intro ac T
  refine gq T 5 63 rfl (fun _ _ _ _ _ => (Zrm rfl (T.e 8 rfl))) ?_; clear T ac; intro ac T
  refine gq T 6 127 rfl (fun _ _ _ _ _ => (Zri (size := 2) k rfl (T.e 1 rfl) (T.e 0 rfl) ⟨_, Tryz.underlying28, by kernel_rfl⟩ rfl (by omega) (SI.at0 (by omega)))) ?_; clear T ac; intro ac T
  refine gq (v := (.agg #[.int .i64 y0, .int .i64 y1])) T 7 255 rfl (fun B w' hD hl hS => (rn_rowat (Sp.rcR SI (show Mem w noEx w' _ from hS) (Zz9 _) hk2) rfl (T.e 0 rfl) rfl)) ?_; clear T ac; intro ac T
  refine gq (v := (.bool ((decide (x0 = y0)) && (decide (x1 = y1))))) T 8 511 rfl (fun _ _ _ _ _ => (rn_bin rfl (T.e 4 rfl) (T.e 0 rfl) eqT23)) ?_; clear T ac; intro ac T
  refine g_q (v := (.bool ((decide (x0 = y0)) && (decide (x1 = y1))))) (T := T.pick [0, 1, 2, 3, 4, 5, 6, 7, 8, 9, 10, 12, 13] rfl) (i := 9) rfl (by kernel_rfl) (by kernel_rfl : (Zpb 10 511).setIfInBounds 9 true = Zpb 10 1023) si_U (fun _ _ _ h => h) rfl rfl rfl rfl (fun _ _ _ _ _ => (Zra rfl (T.e 0 rfl))) ?_; clear T ac; intro ac T
  refine Zgd (by kernel_rfl) ?_
  replace T := T.pick [0, 10, 11, 12] rfl
  refine Znb ?_
  refine nm_then ?_
  refine wp_region_lit ?_
  refine Zg2 T (Zq (Zrm rfl (T.e 3 rfl))) rfl (fun _ T => Zq (rn_add rfl (T.e 0 rfl) evc (by omega))) rfl ?_; clear T ac; intro ac T
  refine l_q (v := (.int .i64 ((k : Int) + 1))) (T.pick [0, 1, 2, 3, 4] rfl) rfl rfl rfl rfl (Zra rfl (T.e 0 rfl)) ?_; clear T ac; intro ac T
  replace T := T.pick [0, 3, 4, 5] rfl
  refine Zln ?_
  exact ⟨_, by omega, k + 1, _, rfl, (by omega), (fun _ => hnm), H, T.pick [2, 3, 1, 0] rfl, M.mask [] rfl⟩
 intro h2
 (have h2' := h2; try simp only [Zb1, Zb2, Zb3, Zb4, Zb5, Zb6, Zb7] at h2')
 refine wp_exit ?_
 refine Zet ?_
 refine Zet ?_
 refine ex_hit ?_
 refine nm_then ?_
 refine Zsr ?_
 refine Zg2 T (Zq (Zrm rfl (T.e 2 rfl))) rfl (Za 0 rfl rfl) rfl ?_; clear T ac; intro ac T
 replace T := T.pick [0] rfl
 refine Zln ?_
 refine wp_ret ?_
 refine rt_1 T rfl (T.e 0 rfl) ?_
 refine ⟨ret_bool ?_, M.below⟩
 rw [H]
 rcases Bool.eq_false_or_eq_true b with hb1 | hb1
 · have hnm := hb hb1
   have : ¬ ((k : Int) < (n : Int)) := by intro hc; simp [hb1, hc] at h2
   rw [List.drop_of_length_le (by omega), List.drop_of_length_le (by omega)]
   simp [hb1]
 · simp [hb1]
theorem sameRanges_same (A D : Option Addr) (n m c d : Nat) (l : List (Int × Int)) (w : World) (hr : Rd w w.heap.size 2 A n (rc l)) (hs : Rd w w.heap.size 2 D m (rc l)) (hn : n ≤ 9223372036854775807) (hm : m ≤ 9223372036854775807) :
  Calls Tryz.prog 59 #[.slice A n c, .slice D m d] w fun e w' => e = .returned (.bool true) ∧ Below w.heap.size w w' := by
 have := sameRanges_any A D n m c d l l w hr hs hn hm
 simpa using this
theorem sameJobs_same (j : Jb) (A D : Option Addr) (c d : Nat) (w : World) (hr : Rd w w.heap.size 2 A j.sh.length (rc j.sh)) (hs : Rd w w.heap.size 2 D j.sh.length (rc j.sh)) (hn : j.sh.length ≤ 9223372036854775807) :
  Calls Tryz.prog 17 #[jobV j A c, jobV j D d] w fun e w' => e = .returned (.bool true) ∧ Below w.heap.size w w' := by
 obtain ⟨bJ, oJ, SJ⟩ := Sp.old hr
 obtain ⟨bI, oI, SI⟩ := Sp.old hs
 refine Zpx noEx Tryz.func17 rfl 38 rfl [.agg #[.int .i64 j.p0, .int .i64 j.p1, .int .i64 j.t0, .int .i64 j.t1, .int .i64 j.r0, .int .i64 j.r1, .int .i64 j.u0, .int .i64 j.u1, .int .i64 j.d0, .int .i64 j.d1, .int .i64 j.a0, .int .i64 j.a1, .int .i64 j.b0, .int .i64 j.b1, .int .i64 j.le, .slice A j.sh.length c, .int .i64 j.wi, .int .i64 j.me], .agg #[.int .i64 j.p0, .int .i64 j.p1, .int .i64 j.t0, .int .i64 j.t1, .int .i64 j.r0, .int .i64 j.r1, .int .i64 j.u0, .int .i64 j.u1, .int .i64 j.d0, .int .i64 j.d1, .int .i64 j.a0, .int .i64 j.a1, .int .i64 j.b0, .int .i64 j.b1, .int .i64 j.le, .slice D j.sh.length d, .int .i64 j.wi, .int .i64 j.me]] rfl rfl (Mem.init w _) ?_
 intro ac wc T M
 refine Zsr ?_
 refine Zl2 ?_
 refine Zob M T rfl rfl rfl rfl (T.e 0 rfl) rfl ?_; clear M T; intro g1 wc ac M T
 refine Zl2 ?_
 refine Zob M T rfl rfl rfl rfl (T.e 2 rfl) rfl ?_; clear M T; intro g2 wc ac M T
 refine lq T (Zra rfl evc) ?_; clear T ac; intro ac T
 replace T := T.pick [1, 2] rfl
 refine Zln ?_
 refine Zsr ?_
 refine Zg8 (v1 := (.pointer (some ⟨g1, 0, none⟩))) (v3 := (.pointer (some ⟨g2, 0, none⟩))) (v5 := (.bool true)) (v7 := (.pointer (some ⟨g1, 6, none⟩))) T (Zq (Zrf (off := 0) rfl (T.e 1 rfl) (fun _ _ _ => by kernel_rfl))) rfl (Zr M 1 0 rfl rfl rfl rfl) rfl (Zf 0 2 rfl rfl) rfl (Zr M 0 0 rfl rfl rfl rfl) rfl (fun _ T => Zq (Zrq (rn_bin rfl (T.e 2 rfl) (T.e 0 rfl) eqT25) (by simp))) rfl (Zm 0 rfl rfl) rfl (fun _ T => Zw (Zwy rfl rfl (T.e 0 rfl) rfl) (Zrf (off := 6) rfl (T.e 7 rfl) (fun _ _ _ => by kernel_rfl))) rfl (fun _ T => Zw (Zwy rfl rfl (T.e 1 rfl) rfl) (Zrr (Mem.nth M 1 rfl) rfl (T.e 0 rfl) rfl)) rfl ?_; clear T ac; intro ac T
 refine Zg8 (v1 := (.pointer (some ⟨g2, 6, none⟩))) (v3 := (.bool true)) (v6 := (.pointer (some ⟨g1, 16, none⟩))) (v8 := (.pointer (some ⟨g2, 16, none⟩))) T (Zw (Zwy rfl rfl (T.e 2 rfl) rfl) (Zrf (off := 6) rfl (T.e 8 rfl) (fun _ _ _ => by kernel_rfl))) rfl (fun _ T => Zw (Zwy rfl rfl (T.e 3 rfl) rfl) (Zrr (Mem.nth M 0 rfl) rfl (T.e 0 rfl) rfl)) rfl (fun _ T => Zw (Zwy rfl rfl (T.e 4 rfl) rfl) (Zrq (rn_bin rfl (T.e 2 rfl) (T.e 0 rfl) eqT27) (by simp))) rfl (fun _ T => Zq (Zr1 rfl (T.e 5 rfl) rfl (T.e 0 rfl))) rfl (Zm 0 rfl rfl) rfl (fun _ T => Zw (Zwy rfl rfl (T.e 0 rfl) rfl) (Zrf (off := 16) rfl (T.e 14 rfl) (fun _ _ _ => by kernel_rfl))) rfl (fun _ T => Zw (Zwy rfl rfl (T.e 1 rfl) rfl) (Zro (Mem.nth M 1 rfl) rfl (T.e 0 rfl) rfl)) rfl (fun _ T => Zw (Zwy rfl rfl (T.e 2 rfl) rfl) (Zrf (off := 16) rfl (T.e 15 rfl) (fun _ _ _ => by kernel_rfl))) rfl ?_; clear T ac; intro ac T
 refine Zg8 (v2 := (.bool true)) (v5 := (.pointer (some ⟨g1, 17, none⟩))) (v7 := (.pointer (some ⟨g2, 17, none⟩))) T (Zw (Zwy rfl rfl (T.e 3 rfl) rfl) (Zro (Mem.nth M 0 rfl) rfl (T.e 0 rfl) rfl)) rfl (fun _ T => Zw (Zwy rfl rfl (T.e 4 rfl) rfl) (Zrq (rn_eql rfl (T.e 2 rfl) (T.e 0 rfl)) (by simp))) rfl (fun _ T => Zq (Zr1 rfl (T.e 5 rfl) rfl (T.e 0 rfl))) rfl (Zm 0 rfl rfl) rfl (fun _ T => Zw (Zwy rfl rfl (T.e 0 rfl) rfl) (Zrf (off := 17) rfl (T.e 21 rfl) (fun _ _ _ => by kernel_rfl))) rfl (fun _ T => Zw (Zwy rfl rfl (T.e 1 rfl) rfl) (Zro (Mem.nth M 1 rfl) rfl (T.e 0 rfl) rfl)) rfl (fun _ T => Zw (Zwy rfl rfl (T.e 2 rfl) rfl) (Zrf (off := 17) rfl (T.e 22 rfl) (fun _ _ _ => by kernel_rfl))) rfl (fun _ T => Zw (Zwy rfl rfl (T.e 3 rfl) rfl) (Zro (Mem.nth M 0 rfl) rfl (T.e 0 rfl) rfl)) rfl ?_; clear T ac; intro ac T
 refine Zg7 (v1 := (.bool true)) (v4 := (.pointer (some ⟨g1, 15, none⟩))) (v6 := (.pointer (some ⟨g2, 15, none⟩))) T (Zw (Zwy rfl rfl (T.e 4 rfl) rfl) (Zrq (rn_eql rfl (T.e 2 rfl) (T.e 0 rfl)) (by simp))) rfl (fun _ T => Zq (Zr1 rfl (T.e 5 rfl) rfl (T.e 0 rfl))) rfl (Zm 0 rfl rfl) rfl (fun _ T => Zw (Zwy rfl rfl (T.e 0 rfl) rfl) (Zrf (off := 15) rfl (T.e 28 rfl) (fun _ _ _ => by kernel_rfl))) rfl (fun _ T => Zw (Zwy rfl rfl (T.e 1 rfl) rfl) (Zro (Mem.nth M 1 rfl) rfl (T.e 0 rfl) rfl)) rfl (fun _ T => Zw (Zwy rfl rfl (T.e 2 rfl) rfl) (Zrf (off := 15) rfl (T.e 29 rfl) (fun _ _ _ => by kernel_rfl))) rfl (fun _ T => Zw (Zwy rfl rfl (T.e 3 rfl) rfl) (Zro (Mem.nth M 0 rfl) rfl (T.e 0 rfl) rfl)) rfl ?_; clear T ac; intro ac T
 refine l_w (Zwy rfl rfl (T.e 4 rfl) rfl) ?_; intro K hK
 refine Zoc (first := []) (cap := []) T rfl rfl rfl rfl evf (.cons (T.e 2 rfl) (.cons (T.e 0 rfl) .nil)) Tryz.func59 rfl rfl ?_
 refine Calls.mono (sameRanges_same _ _ _ _ _ _ j.sh _ (SJ.rd M (Zz9 _)) (SI.rd M (Zz9 _)) (by omega) (by omega)) ?_
 clear T; rintro e wc ⟨rfl, hb⟩ ac T
 replace M := M.call hb; clear hb
 refine Zso hK _ _ ?_; clear hK K
 refine Zg2 T (Zq (Zr1 rfl (T.e 5 rfl) rfl (T.e 0 rfl))) rfl (Za 0 rfl rfl) rfl ?_; clear T ac; intro ac T
 refine wpList_nil ?_
 replace T := T.pick [0] rfl
 replace M := M.mask [false, false] rfl
 refine Znr ?_
 refine rt_1 T rfl (T.e 0 rfl) ?_
 exact ⟨rfl, M.below⟩
theorem Mem.joinX {w0 w w' : World} {ex ex' : Nat → Prop} {X X' F : List (Nat × BA)} (M : Mem w0 ex w (X ++ F)) (N : Mem w ex' w' X') (hx : ∀ b, ex' b → inL X b) : Mem w0 ex w' (X' ++ F) := by
 have hX : ∀ b, ex' b → w0.heap.size ≤ b ∨ ex b := fun b hb => by
  obtain ⟨q, hq, rfl⟩ := List.mem_map.1 (hx b hb)
  exact (M.blk q (List.mem_append_left _ hq)).1
 have hnd := M.nd
 rw [List.map_append] at hnd
 obtain ⟨n1, n2, n3⟩ := List.nodup_append.1 hnd
 refine ⟨N.os.trans M.os, N.tape.trans M.tape, N.output.trans M.output, Nat.le_trans M.size N.size, fun b hb hxb => ?_, fun q hq => ?_, ?_⟩
 ·refine (N.block b (Nat.lt_of_lt_of_le hb M.size) fun e => ?_).trans (M.block b hb hxb)
  rcases hX b e with h | h
  ·omega
  ·exact hxb h
 ·rcases List.mem_append.1 hq with hq | hq
  ·have h := N.blk q hq
   refine ⟨?_, h.2⟩
   rcases h.1 with h | h
   ·exact .inl (Nat.le_trans M.size h)
   ·exact hX _ h
  ·have h := M.blk q (List.mem_append_right _ hq)
   exact ⟨h.1, BA.same h.2 N.size (N.block _ (BA.lt h.2) fun e => by
    obtain ⟨r, hr, e2⟩ := List.mem_map.1 (hx _ e)
    exact n3 r.1 (List.mem_map.2 ⟨r, hr, rfl⟩) q.1 (List.mem_map.2 ⟨q, hq, rfl⟩) e2)⟩
 ·rw [List.map_append]
  refine List.nodup_append.2 ⟨N.nd, n2, fun a ha b hb e => ?_⟩
  obtain ⟨q, hq, rfl⟩ := List.mem_map.1 ha
  obtain ⟨r, hr, rfl⟩ := List.mem_map.1 hb
  have h2 := BA.lt (M.blk r (List.mem_append_right _ hr)).2
  rcases (N.blk q hq).1 with h1 | h1
  ·omega
  ·obtain ⟨s, hs, e2⟩ := List.mem_map.1 (hx _ h1)
   exact n3 s.1 (List.mem_map.2 ⟨s, hs, rfl⟩) r.1 (List.mem_map.2 ⟨r, hr, rfl⟩) (e2.trans e)
theorem Sp.of {w0 w : World} {ex ex' : Nat → Prop} {L X I : List (Nat × BA)} {A : Option Addr} {n size b o : Nat} {xs : List Value} (M : Mem w0 ex w (X ++ L)) (hx : ∀ b, ex' b → inL X b) (S : Sp w0 ex I A n size b o xs) (hI : I.Sublist L) : Sp w ex' [] A n size b o xs :=
 ⟨S.at0, S.len, fun w' L' M' _ hn => S.lt w' _ (Mem.joinX M M' hx) (hI.trans (Zsq _ _)) hn, fun w' L' M' _ j v hv => S.cell w' _ (Mem.joinX M M' hx) (hI.trans (Zsq _ _)) j v hv⟩
open Go.RowKit
open Go.RowKit
open Go.RowKit
def plan (n r : Nat) : List Int := List.replicate (n - r) 1 ++ List.replicate r 2
theorem plan_length {n r : Nat} (h : r ≤ n) : (plan n r).length = n := by simp [plan]; omega
theorem plan_ok (n r : Nat) : ∀ k ∈ plan n r, okS k = true := by
 intro k hk
 rcases List.mem_append.1 hk with h | h
 · rw [(List.mem_replicate.1 h).2]; rfl
 · rw [(List.mem_replicate.1 h).2]; rfl
theorem plan_at {n r i : Nat} (hr : r ≤ n) (hi : i < n) : (plan n r)[i]? = some (if i < n - r then 1 else 2) := by
 unfold plan
 rw [List.getElem?_append]
 split
 · rename_i h; simp only [List.length_replicate] at h; rw [if_pos h]; simp [h]
 · rename_i h; simp only [List.length_replicate] at h; rw [if_neg h]; simp only [List.length_replicate, List.getElem?_replicate]; rw [if_pos (by omega)]
theorem plan_take {n r i : Nat} (hr : r ≤ n) (hi : i < n) (x : Int) (hx : x = if i < n - r then 1 else 2) : ic ((plan n r).take (i + 1)) = ic ((plan n r).take i) ++ [.int .i64 x] := by
 have hl : i < (plan n r).length := by rw [plan_length hr]; exact hi
 have h := plan_at hr hi
 rw [List.getElem?_eq_getElem hl] at h
 rw [List.take_succ_eq_append_getElem hl, ic_append, hx]
 injection h with h
 rw [h]
 rfl
def isFine (j : Jb) (l : List Int) : Bool := fineJ j (j.st.after l) == 1
def rootsFrom (j : Jb) (n : Nat) : Nat → Nat → Option (List Int)
 | 0, _ => none
 | k + 1, r => if isFine j (plan n r) then some (plan n r) else rootsFrom j n k (r + 1)
def plansFrom (j : Jb) : Nat → Nat → Option (List Int)
 | 0, _ => none
 | k + 1, n => match rootsFrom j n (n + 1) 0 with | some l => some l | none => plansFrom j k (n + 1)
theorem roots_hit {j : Jb} {n r : Nat} (hr : r < n + 1) (h : isFine j (plan n r) = true) : rootsFrom j n (n + 1 - r) r = some (plan n r) := by
 obtain ⟨k, hk⟩ : ∃ k, n + 1 - r = k + 1 := ⟨n - r, by omega⟩
 rw [hk, rootsFrom, if_pos h]
theorem roots_miss {j : Jb} {n r : Nat} (hr : r < n + 1) (h : isFine j (plan n r) = false) : rootsFrom j n (n + 1 - r) r = rootsFrom j n (n + 1 - (r + 1)) (r + 1) := by
 obtain ⟨k, hk⟩ : ∃ k, n + 1 - r = k + 1 := ⟨n - r, by omega⟩
 have hk2 : n + 1 - (r + 1) = k := by omega
 rw [hk, rootsFrom, if_neg (by rw [h]; simp), hk2]
theorem plans_hit {j : Jb} {n : Nat} {l : List Int} (hn : n < 7) (h : rootsFrom j n (n + 1) 0 = some l) : plansFrom j (7 - n) n = some l := by
 obtain ⟨k, hk⟩ : ∃ k, 7 - n = k + 1 := ⟨6 - n, by omega⟩
 rw [hk, plansFrom, h]
theorem plans_miss {j : Jb} {n : Nat} (hn : n < 7) (h : rootsFrom j n (n + 1) 0 = none) : plansFrom j (7 - n) n = plansFrom j (7 - (n + 1)) (n + 1) := by
 obtain ⟨k, hk⟩ : ∃ k, 7 - n = k + 1 := ⟨6 - n, by omega⟩
 have hk2 : 7 - (n + 1) = k := by omega
 rw [hk, plansFrom, h, hk2]
theorem roots_end {j : Jb} {n r : Nat} (hr : n + 1 ≤ r) : rootsFrom j n (n + 1 - r) r = none := by
 have : n + 1 - r = 0 := by omega
 rw [this]; rfl
theorem plans_end {j : Jb} {n : Nat} (hn : 7 ≤ n) : plansFrom j (7 - n) n = none := by
 have : 7 - n = 0 := by omega
 rw [this]; rfl
def shortL (j : Jb) : List Int := if checkJ j = 0 then (plansFrom j 7 0).getD [] else []
def shortJE (j : Jb) : Int := if checkJ j = 0 then (if (plansFrom j 7 0).isSome then 0 else 11) else checkJ j
theorem Sl.sp {w : World} {ex : Nat → Prop} {e size n c : Nat} {A : Option Addr} {xs : List Value} {I : List (Nat × BA)} (h : Sl e size (.slice A n c) n xs I) (hl : xs.length = n * size) : ∃ b o, Sp w ex I A n size b o xs := by
 rcases h with ⟨h1, rfl, rfl, rfl⟩ | ⟨g, cap, h1, rfl⟩
 ·exact ⟨0, 0, Sp.nil⟩
 ·injection h1 with h1 _ h2
  subst h1
  exact ⟨g, 0, Sp.row hl⟩
theorem Sn.sp {w : World} {ex : Nat → Prop} {e size n c : Nat} {A : Option Addr} {xs : List Value} {I : List (Nat × BA)} (h : Sn e size A n c xs I) (hl : xs.length = n * size) : ∃ b o, Sp w ex I A n size b o xs := by
 rcases h with ⟨rfl, rfl, rfl⟩ | ⟨g, rfl, rfl⟩
 · exact ⟨0, 0, Sp.nil⟩
 · exact ⟨g, 0, Sp.row hl⟩
theorem Sl.sn {e size n c : Nat} {A : Option Addr} {xs : List Value} {I : List (Nat × BA)} (h : Sl e size (.slice A n c) n xs I) : Sn e size A n c xs I := by
 rcases h with ⟨h1, rfl, rfl, rfl⟩ | ⟨g, cap, h1, rfl⟩
 ·exact .inl ⟨rfl, rfl, rfl⟩
 ·injection h1 with h1 _ h2
  subst h1
  subst h2
  exact .inr ⟨g, rfl, rfl⟩
def ShortPost2 (l : List Int) (err : Int) (w : World) (e : Ending) (w' : World) : Prop := ∃ A c I, e = .returned (.tuple #[.slice A l.length c, .int .i64 err]) ∧ Sn 3 1 A l.length c (ic l) I ∧ Mem w noEx w' I
theorem plan_pre {n r i : Nat} (hr : r ≤ n) (hi : n ≤ i) : (plan n r).take i = plan n r := List.take_of_length_le (by rw [plan_length hr]; omega)
theorem Shortest_own (j : Jb) (A : Option Addr) (c : Nat) (w : World) (hr : Rd w w.heap.size 2 A j.sh.length (rc j.sh)) (hn : j.sh.length ≤ 9223372036854775807) :
   Calls Tryz.prog 35 #[jobV j A c] w (ShortPost2 (shortL j) (shortJE j) w) := by
 obtain ⟨bJ, oJ, SJ⟩ := Sp.old hr
 refine Zpx noEx Tryz.func35 rfl 47 rfl [.agg #[.int .i64 j.p0, .int .i64 j.p1, .int .i64 j.t0, .int .i64 j.t1, .int .i64 j.r0, .int .i64 j.r1, .int .i64 j.u0, .int .i64 j.u1, .int .i64 j.d0, .int .i64 j.d1, .int .i64 j.a0, .int .i64 j.a1, .int .i64 j.b0, .int .i64 j.b1, .int .i64 j.le, .slice A j.sh.length c, .int .i64 j.wi, .int .i64 j.me]] rfl rfl (Mem.init w _) ?_
 intro ac wc T M
 refine Zsr ?_
 refine Zl2 ?_
 refine Zob M T rfl rfl rfl rfl (T.e 0 rfl) rfl ?_; clear M T; intro g1 wc ac M T
 refine Zg2 T (Zq (Zra rfl evc)) rfl (Zc rfl) rfl ?_; clear T ac; intro ac T
 replace T := T.pick [2] rfl
 refine Zln ?_
 refine wp_seq ?_
 refine Zsr ?_
 refine lq T (Zrr (Mem.nth M 0 rfl) rfl (T.e 0 rfl) rfl) ?_; clear T ac; intro ac T
 refine Zl2 ?_
 refine Zoc (first := []) (cap := []) T rfl rfl rfl rfl evf (.cons (T.e 0 rfl) .nil) Tryz.func46 rfl rfl ?_
 refine Calls.mono (check_any j _ _ _ (SJ.rd M (Zz9 _)) (by omega)) ?_
 clear T; rintro e wc ⟨rfl, hb⟩ ac T
 replace M := M.call hb; clear hb
 refine lq T (Zra rfl (T.e 0 rfl)) ?_; clear T ac; intro ac T
 replace T := T.pick [0, 3] rfl
 refine Zln ?_
 refine Zsr ?_
 refine Zg2 T (Zq (Zrm rfl (T.e 0 rfl))) rfl (fun _ T => Zq (rn_neq rfl (T.e 0 rfl) evc)) rfl ?_; clear T ac; intro ac T
 replace T := T.pick [0, 2, 3] rfl
 refine Zln ?_
 refine wp_ifn (T.e 0 rfl) ?_ ?_
 ·intro h1
  refine Zsr ?_
  refine Zg3 T (Zq (Zrm rfl (T.e 1 rfl))) rfl (Zc rfl) rfl (Za 1 rfl rfl) rfl ?_; clear T ac; intro ac T
  refine wpList_nil ?_
  replace T := T.pick [0, 1] rfl
  replace M := M.mask [false] rfl
  refine Znr ?_
  refine Zrt ?_
  refine rt_2 T rfl (T.e 1 rfl) (T.e 0 rfl) ?_
  have e1 : shortL j = [] := by unfold shortL; rw [if_neg h1]
  have e2 : shortJE j = checkJ j := by unfold shortJE; rw [if_neg h1]
  exact ⟨_, _, [], by rw [e1, e2]; rfl, by rw [e1]; exact .inl ⟨rfl, rfl, rfl⟩, M.mask [] rfl⟩
 intro h1
 have hj := good_of h1
 have hst := hj.st
 refine Zsk ?_
 refine wp_seq ?_
 refine Zsr ?_
 refine lq T (Zrm rfl evc) ?_; clear T ac; intro ac T
 replace T := T.pick [0, 3] rfl
 refine Zln ?_
 refine wp_block ?_
 refine wp_loop_n (fun mz ac wc => ∃ (a : Nat), mz = 7 - a ∧ (a ≤ 7) ∧ (plansFrom j 7 0 = plansFrom j (7 - a) a) ∧ Tm ac 47 [(1, .pointer (some ⟨g1, 0, none⟩)), (14, .int .i64 (a : Int))] ∧ Mem w noEx wc [(g1, .cells (jobL j A c))]) ?_ ?_
 ·exact ⟨_, 0, rfl, (by omega), rfl, T.pick [1, 0] rfl, M.mask [true] rfl⟩
 clear T M
 rintro mz ac wc ⟨a, hmm1, ha, H, T, M⟩
 refine Zsr ?_
 refine lq T (rn_lss rfl (T.e 1 rfl) evc) ?_; clear T ac; intro ac T
 refine Zln ?_
 refine wp_seq ?_
 refine wp_if (T.e 0 rfl) ?_ ?_
 ·intro h2
  refine Zsk ?_
  refine wp_seq ?_
  refine wp_block ?_
  refine Zsr ?_
  refine Zg2 T (Zq (Zrm rfl (T.e 2 rfl))) rfl (Za 0 rfl rfl) rfl ?_; clear T ac; intro ac T
  replace T := T.pick [0, 3, 4] rfl
  refine Zln ?_
  refine Zsr ?_
  refine Zg3 T (Zq (Zrm rfl (T.e 0 rfl))) rfl (fun _ T => Zq (rn_add rfl (T.e 0 rfl) evc (by omega))) rfl (fun _ T => Zq (Zrm rfl evc)) rfl ?_; clear T ac; intro ac T
  replace T := T.pick [0, 1, 3, 4, 5] rfl
  refine Zln ?_
  refine wp_block ?_
  refine wp_loop_n (fun mz ac wc => ∃ (b : Nat), mz = a + 1 - b ∧ (b ≤ a + 1) ∧ (rootsFrom j a (a + 1) 0 = rootsFrom j a (a + 1 - b) b) ∧ Tm ac 47 [(1, .pointer (some ⟨g1, 0, none⟩)), (5, .int .i64 (a : Int)), (14, .int .i64 (a : Int)), (18, .int .i64 ((a : Int) + 1)), (19, .int .i64 (b : Int))] ∧ Mem w noEx wc [(g1, .cells (jobL j A c))]) ?_ ?_
  ·exact ⟨_, 0, rfl, (by omega), rfl, T.pick [3, 2, 4, 1, 0] rfl, M.mask [true] rfl⟩
  clear T M
  rintro mz ac wc ⟨b, hmm2, hb, H2, T, M⟩
  refine Zsr ?_
  refine lq T (rn_lss rfl (T.e 4 rfl) (T.e 3 rfl)) ?_; clear T ac; intro ac T
  refine Zln ?_
  refine wp_seq ?_
  refine wp_if (T.e 0 rfl) ?_ ?_
  ·intro h3
   refine Zsk ?_
   refine wp_seq ?_
   refine wp_block ?_
   refine Zsr ?_
   refine Zg2 T (Zq (Zrm rfl (T.e 5 rfl))) rfl (Za 0 rfl rfl) rfl ?_; clear T ac; intro ac T
   replace T := T.pick [0, 3, 4, 5, 6, 7] rfl
   refine Zln ?_
   refine Zsr ?_
   refine lq T (Zra rfl evc) ?_; clear T ac; intro ac T
   refine Zln ?_
   refine wp_seq ?_
   refine Zsr ?_
   refine Zg2 T (Zq (Zrm rfl (T.e 3 rfl))) rfl (fun _ T => Zq (Zrm rfl evc)) rfl ?_; clear T ac; intro ac T
   refine Zln ?_
   refine wp_block ?_
   refine wp_loop_n (fun mz ac wc => ∃ (k : Nat) (A7 : Option Addr) (c7 : Nat) (I : List (Nat × BA)), mz = a - k ∧ (k ≤ a) ∧ (Sl 3 1 (.slice A7 k c7) k (ic ((plan a b).take k)) I) ∧ Tm ac 47 [(1, .pointer (some ⟨g1, 0, none⟩)), (5, .int .i64 (a : Int)), (6, .int .i64 (b : Int)), (7, .slice A7 k c7), (14, .int .i64 (a : Int)), (18, .int .i64 ((a : Int) + 1)), (19, .int .i64 (b : Int)), (22, .int .i64 (a : Int)), (23, .int .i64 (k : Int))] ∧ Mem w noEx wc ((g1, .cells (jobL j A c)) :: I)) ?_ ?_
   ·exact ⟨_, 0, none, 0, [], rfl, (by omega), (Sl.nil _ _), T.pick [4, 5, 3, 2, 6, 7, 8, 1, 0] rfl, M.mask [true] rfl⟩
   clear T M
   rintro mz ac wc ⟨k, A7, c7, I, hmm3, hk, hsl, T, M⟩
   refine Zsr ?_
   refine lq T (rn_lss rfl (T.e 8 rfl) (T.e 7 rfl)) ?_; clear T ac; intro ac T
   refine Zln ?_
   refine wp_seq ?_
   refine wp_if (T.e 0 rfl) ?_ ?_
   ·intro h4
    refine Zsk ?_
    refine wp_seq ?_
    refine wp_block ?_
    refine Zsr ?_
    refine Zg2 T (Zq (Zrm rfl (T.e 9 rfl))) rfl (Za 0 rfl rfl) rfl ?_; clear T ac; intro ac T
    replace T := T.pick [0, 3, 4, 5, 6, 7, 8, 9, 10, 11] rfl
    refine Zln ?_
    refine Zsr ?_
    refine Zg5 T (Zq (Zrm rfl (T.e 0 rfl))) rfl (Zm 3 rfl rfl) rfl (Zm 5 rfl rfl) rfl (fun _ T => Zq (rn_sub rfl (T.e 1 rfl) (T.e 0 rfl) (by omega))) rfl (fun _ T => Zq (rn_lss rfl (T.e 3 rfl) (T.e 0 rfl))) rfl ?_; clear T ac; intro ac T
    replace T := T.pick [0, 6, 7, 8, 9, 10, 11, 12, 13, 14] rfl
    refine Zln ?_
    refine wp_if (T.e 0 rfl) ?_ ?_
    ·intro h5
     refine wp_region_lit ?_
     refine lq T (Zrm rfl (T.e 4 rfl)) ?_; clear T ac; intro ac T
     refine Zl2 ?_
     refine ow_bs (e := 3) [.int .i64 1] M T rfl rfl rfl rfl (.cons evc .nil) (fun _ => by kernel_rfl) ?_; clear M T; intro g2 wc ac M T
     refine Zl2 ?_
     refine ow_app ([(g2, .cells [.int .i64 1]), (g1, .cells (jobL j A c))]) Tryz.info3 hsl M (by first | rfl | simp) T rfl rfl rfl rfl Tryz.underlying31 rfl rfl rfl (by omega) (T.e 1 rfl) (T.e 0 rfl) (Zne (i := 0) rfl) rfl rfl ?_; clear M T; intro ga1 cga1 wc ac M T
     refine l_q (v := (.slice (some ⟨ga1, 0, none⟩) (k + 1) cga1)) (T.pick [0, 1, 2, 3, 4, 5, 6, 8, 9, 10, 11, 12] rfl) rfl rfl rfl rfl (Zra rfl (T.e 0 rfl)) ?_; clear T ac; intro ac T
     refine wpList_nil ?_
     replace T := T.pick [0, 5, 6, 7, 8, 9, 10, 11, 12] rfl
     replace M := M.mask [true, false, true] rfl
     refine Znb ?_
     refine nm_then ?_
     refine wp_region_lit ?_
     refine lq T (rn_add rfl (T.e 8 rfl) evc (by omega)) ?_; clear T ac; intro ac T
     refine l_q (v := (.int .i64 ((k : Int) + 1))) (T.pick [0, 1, 2, 3, 4, 5, 6, 7, 8] rfl) rfl rfl rfl rfl (Zrm rfl (T.e 0 rfl)) ?_; clear T ac; intro ac T
     replace T := T.pick [0, 2, 3, 4, 5, 6, 7, 8, 9] rfl
     refine Zln ?_
     exact ⟨_, by omega, (k + 1), _, cga1, [(ga1, .row 3 1 (k + 1) ((ic ((plan a b).take k)) ++ [.int .i64 1]) cga1)], rfl, (by omega), (by rw [plan_take (by omega) (by omega) _ (by first | rw [if_pos (by omega)] | rw [if_neg (by omega)])]; exact Sl.row _ _ _ _ _ _), T.pick [2, 3, 4, 1, 5, 6, 7, 8, 0] rfl, M.perm [1, 0] rfl rfl⟩
    intro h5
    refine wp_region_lit ?_
    refine lq T (Zrm rfl (T.e 4 rfl)) ?_; clear T ac; intro ac T
    refine Zl2 ?_
    refine ow_bs (e := 3) [.int .i64 2] M T rfl rfl rfl rfl (.cons evc .nil) (fun _ => by kernel_rfl) ?_; clear M T; intro g3 wc ac M T
    refine Zl2 ?_
    refine ow_app ([(g3, .cells [.int .i64 2]), (g1, .cells (jobL j A c))]) Tryz.info3 hsl M (by first | rfl | simp) T rfl rfl rfl rfl Tryz.underlying31 rfl rfl rfl (by omega) (T.e 1 rfl) (T.e 0 rfl) (Zne (i := 0) rfl) rfl rfl ?_; clear M T; intro ga2 cga2 wc ac M T
    refine l_q (v := (.slice (some ⟨ga2, 0, none⟩) (k + 1) cga2)) (T.pick [0, 1, 2, 3, 4, 5, 6, 8, 9, 10, 11, 12] rfl) rfl rfl rfl rfl (Zra rfl (T.e 0 rfl)) ?_; clear T ac; intro ac T
    refine wpList_nil ?_
    replace T := T.pick [0, 5, 6, 7, 8, 9, 10, 11, 12] rfl
    replace M := M.mask [true, false, true] rfl
    refine Znb ?_
    refine nm_then ?_
    refine wp_region_lit ?_
    refine lq T (rn_add rfl (T.e 8 rfl) evc (by omega)) ?_; clear T ac; intro ac T
    refine l_q (v := (.int .i64 ((k : Int) + 1))) (T.pick [0, 1, 2, 3, 4, 5, 6, 7, 8] rfl) rfl rfl rfl rfl (Zrm rfl (T.e 0 rfl)) ?_; clear T ac; intro ac T
    replace T := T.pick [0, 2, 3, 4, 5, 6, 7, 8, 9] rfl
    refine Zln ?_
    exact ⟨_, by omega, (k + 1), _, cga2, [(ga2, .row 3 1 (k + 1) ((ic ((plan a b).take k)) ++ [.int .i64 2]) cga2)], rfl, (by omega), (by rw [plan_take (by omega) (by omega) _ (by first | rw [if_pos (by omega)] | rw [if_neg (by omega)])]; exact Sl.row _ _ _ _ _ _), T.pick [2, 3, 4, 1, 5, 6, 7, 8, 0] rfl, M.perm [1, 0] rfl rfl⟩
   intro h4
   obtain ⟨b7, o7, S7⟩ := hsl.sp (w := w) (ex := noEx) (by rw [ic_length, plan_pre (by omega) (by omega), plan_length (by omega)]; omega)
   have hok : ∀ x ∈ (plan a b).take k, okS x = true := fun x hx => plan_ok a b x (List.mem_of_mem_take hx)
   have hpp := plan_pre (n := a) (r := b) (i := k) (by omega) (by omega)
   refine wp_exit ?_
   refine Zet ?_
   refine Zet ?_
   refine ex_hit ?_
   refine Zns ?_
   refine Zgs M (M.mask [true] rfl) 6 (by kernel_rfl) rfl (by kernel_rfl) ?_
   clear M; intro wc M
   refine gq T 0 1 rfl (fun B w' hD hl hS => (Zrr (Mem.nth (show Mem w noEx w' _ from hS) 0 rfl) rfl (T.e 1 rfl) rfl)) ?_; clear T ac; intro ac T
   refine gq T 1 3 rfl (fun B w' hD hl hS => (Zrr (Mem.nth (show Mem w noEx w' _ from hS) 0 rfl) rfl (T.e 2 rfl) rfl)) ?_; clear T ac; intro ac T
   refine gq T 2 7 rfl (fun _ _ _ _ _ => (Zrm rfl (T.e 6 rfl))) ?_; clear T ac; intro ac T
   refine gw 3 15 ?_; intro K hK
   refine Zoc (first := []) (cap := []) T rfl rfl rfl rfl evf (.cons (T.e 1 rfl) (.cons (T.e 0 rfl) .nil)) Tryz.func106 rfl rfl ?_
   refine Calls.mono (after_any j _ _ _ _ _ ((plan a b).take k) _ (S7.rd M (.cons _ (List.Sublist.refl _))) (by omega) hst hok) ?_
   clear T; rintro e wc ⟨rfl, hb⟩ ac T
   replace M := M.call hb; clear hb
   refine Zso hK _ _ (M.mask [true] rfl) ?_; clear hK K
   refine gw 4 31 ?_; intro K hK
   refine Zoc (first := []) (cap := []) T rfl rfl rfl rfl evf (.cons (T.e 3 rfl) (.cons (T.e 0 rfl) .nil)) Tryz.func107 rfl rfl ?_
   refine Calls.mono (fine_any j _ _ (j.st.after ((plan a b).take k)) _ hj.ok (SJ.rd M (Zz9 _))) ?_
   clear T; rintro e wc ⟨rfl, hb⟩ ac T
   replace M := M.call hb; clear hb
   refine Zso hK _ _ (M.mask [true] rfl) ?_; clear hK K
   refine gq T 5 63 rfl (fun _ _ _ _ _ => (rn_eql rfl (T.e 0 rfl) evc)) ?_; clear T ac; intro ac T
   refine Zgd (by kernel_rfl) ?_
   replace T := T.pick [0, 7, 8, 10, 11, 12, 13] rfl
   refine nm_then ?_
   refine wp_if (T.e 0 rfl) ?_ ?_
   ·intro h6
    refine Zsr ?_
    refine Zg3 T (Zq (Zrm rfl (T.e 3 rfl))) rfl (Za 0 rfl rfl) rfl (Zc rfl) rfl ?_; clear T ac; intro ac T
    refine wpList_nil ?_
    replace T := T.pick [0, 1] rfl
    replace M := M.mask [false] rfl
    refine Znr ?_
    refine Zrb ?_
    refine Zrt ?_
    refine Zrt ?_
    refine Zrb ?_
    refine Zrb ?_
    refine Zrt ?_
    refine Zrt ?_
    refine Zrb ?_
    refine Zrt ?_
    refine rt_2 T rfl (T.e 1 rfl) (T.e 0 rfl) ?_
    have hf : isFine j (plan a b) = true := by unfold isFine; rw [← hpp, h6]; rfl
    rw [roots_hit (by omega) hf] at H2
    rw [plans_hit (by omega) H2] at H
    have e1 : shortL j = plan a b := by unfold shortL; rw [if_pos h1, H]; rfl
    have e2 : shortJE j = 0 := by unfold shortJE; rw [if_pos h1, H]; rfl
    have hka : k = a := by omega
    refine ⟨A7, c7, I, ?_, ?_, M.mask [] rfl⟩
    · rw [e1, e2, plan_length (by omega), hka]
    · rw [hpp, hka] at hsl
      rw [e1, plan_length (by omega)]
      exact hsl.sn
   intro h6
   refine wp_skip ?_
   refine Znb ?_
   refine nm_then ?_
   refine wp_region_lit ?_
   refine lq T (rn_add rfl (T.e 6 rfl) evc (by omega)) ?_; clear T ac; intro ac T
   refine l_q (v := (.int .i64 ((b : Int) + 1))) (T.pick [0, 1, 2, 3, 4, 5, 6] rfl) rfl rfl rfl rfl (Zrm rfl (T.e 0 rfl)) ?_; clear T ac; intro ac T
   replace T := T.pick [0, 3, 4, 6, 7] rfl
   refine Zln ?_
   have hf : isFine j (plan a b) = false := by unfold isFine; rw [← hpp]; simpa using h6
   rw [roots_miss (by omega) hf] at H2
   exact ⟨_, by omega, (b + 1), rfl, (by omega), H2, T.pick [1, 2, 3, 4, 0] rfl, M.perm [0] rfl rfl⟩
  intro h3
  refine wp_exit ?_
  refine Zet ?_
  refine Zet ?_
  refine ex_hit ?_
  refine Znb ?_
  refine nm_then ?_
  refine wp_region_lit ?_
  refine lq T (rn_add rfl (T.e 3 rfl) evc (by omega)) ?_; clear T ac; intro ac T
  refine l_q (v := (.int .i64 ((a : Int) + 1))) (T.pick [0, 1, 2, 3, 5, 6] rfl) rfl rfl rfl rfl (Zrm rfl (T.e 0 rfl)) ?_; clear T ac; intro ac T
  replace T := T.pick [0, 3] rfl
  refine Zln ?_
  rw [roots_end (by omega)] at H2
  rw [plans_miss (by omega) H2] at H
  exact ⟨_, by omega, (a + 1), rfl, (by omega), H, T.pick [1, 0] rfl, M.mask [true] rfl⟩
 intro h2
 refine wp_exit ?_
 refine Zet ?_
 refine Zet ?_
 refine ex_hit ?_
 refine nm_then ?_
 refine Zsr ?_
 refine Zg2 T (Zq (Zra rfl evc)) rfl (Zc rfl) rfl ?_; clear T ac; intro ac T
 refine wpList_nil ?_
 replace T := T.pick [0, 1] rfl
 replace M := M.mask [false] rfl
 refine Znr ?_
 refine rt_2 T rfl (T.e 1 rfl) (T.e 0 rfl) ?_
 rw [plans_end (by omega)] at H
 have e1 : shortL j = [] := by unfold shortL; rw [if_pos h1, H]; rfl
 have e2 : shortJE j = 11 := by unfold shortJE; rw [if_pos h1, H]; rfl
 exact ⟨_, _, [], by rw [e1, e2]; rfl, by rw [e1]; exact .inl ⟨rfl, rfl, rfl⟩, M.mask [] rfl⟩
abbrev gmA (j : Jb) (A : Option Addr) (c : Nat) (s0 s1 : Int) (bg bx : Nat) : List Value := [.int .i64 j.p0, .int .i64 j.p1, .int .i64 j.t0, .int .i64 j.t1, .int .i64 j.r0, .int .i64 j.r1, .int .i64 j.u0, .int .i64 j.u1, .int .i64 j.d0, .int .i64 j.d1, .int .i64 j.a0, .int .i64 j.a1, .int .i64 j.b0, .int .i64 j.b1, .int .i64 j.le, .slice A j.sh.length c, .int .i64 j.wi, .int .i64 j.me, .int .i64 s0, .int .i64 s1, .func (.func 200) #[] #[.pointer (some ⟨bg, 0, none⟩), .pointer (some ⟨bx, 0, none⟩)]]
def PlayPost (j : Jb) (A : Option Addr) (c : Nat) (s0 s1 : Int) (ok : Value → Value → Prop) (w : World) (e : Ending) (w' : World) : Prop :=
 ∃ bg bx bm, e = .returned (.agg (gmA j A c s0 s1 bg bx).toArray) ∧ Mem w noEx w' [(bx, .cells [.map (some bm)]), (bm, .any (memoQ Tryz.prog 183 ok)), (bg, .cells (gmA j A c s0 s1 bg bx))]
theorem play_any (ok : Value → Value → Prop) (j : Jb) (A : Option Addr) (c : Nat) (w : World) (hj : j.ok) (hr : Rd w w.heap.size 2 A j.sh.length (rc j.sh)) :
  Calls Tryz.prog 108 #[jobV j A c] w (PlayPost j A c (winS j).1 (winS j).2 ok w) := by
 have HR := Lib.hid hr
 have HJ := Lib.hid hj
 clear hr hj
 go_enter Tryz.func108, Tryz.ntmps108
 refine start noEx ?_
 intro wc M
 go_wp2_with (first | (refine m_ld1 M rfl rfl rfl (by (repeat' (first | exact Zz2 | refine Zz1 ?_))) (by rfl) ?_) | (refine m_ldr M rfl rfl rfl (by (repeat' (first | exact Zz2 | refine Zz1 ?_))) (by (try simp only [Zy2, List.take_zero, List.take_nil, Zy1, List.drop_zero, List.drop_nil, List.cons_append, List.nil_append, List.append_nil, List.length_cons, List.length_nil, Nat.reduceAdd, Nat.zero_add, Nat.add_zero]); rfl) (by rfl) ?_) | (refine m_st M rfl rfl rfl (by first | exact (rfl : _ = Value.agg _) | exact (rfl : _ = Value.int _ _) | exact (rfl : _ = Value.bool _) | exact (rfl : _ = Value.slice _ _ _) | exact (rfl : _ = Value.pointer _) | exact (rfl : _ = Value.map _) | exact (rfl : _ = Value.func _ _ _) | exact (rfl : _ = Value.string _)) (by rfl) (by (repeat (first | exact Upd.head | apply Upd.tail))) (by (try simp only [Zy2, List.take_zero, List.take_nil, Zy1, List.drop_zero, List.drop_nil, List.cons_append, List.nil_append, List.append_nil, List.length_cons, List.length_nil, Nat.reduceAdd, Nat.zero_add, Nat.add_zero]); rfl) (by simp) (by simp [Value.oneCell']) (by kernel_rfl) ?_; clear M; (try clear wc); intro wc M) | (refine m_al M rfl rfl ?_; clear M; (try clear wc); intro g wc M) | (refine m_bx M rfl rfl (by first | exact (rfl : _ = Value.agg _) | exact (rfl : _ = Value.int _ _) | exact (rfl : _ = Value.bool _) | exact (rfl : _ = Value.slice _ _ _) | exact (rfl : _ = Value.pointer _) | exact (rfl : _ = Value.map _) | exact (rfl : _ = Value.func _ _ _) | exact (rfl : _ = Value.string _)) (by rfl) ?_; clear M; (try clear wc); intro g wc M) | (go_at_call 104; ((with_reducible refine (windows_any j _ _ _ HJ.out ?_).mono ?_); (exact M.rd HR.out (Nat.le_refl _)); rintro e wc ⟨rfl, hb⟩; replace M := M.call hb; clear hb)) | (refine mm ok Tryz.underlying278 M rfl rfl ?_; clear M; (try clear wc); intro g wc M))
 refine ret_M (t := 2) (ty := 178) M rfl rfl rfl (by (repeat' (first | exact Zz2 | refine Zz1 ?_))) (by rfl) ?_
 rename_i g5 g4 wq g3 g2 g1 g0
 exact ⟨g1, g, g0, rfl, M.sub (by (repeat (first | exact List.Sublist.slnil | apply List.Sublist.cons_cons | apply List.Sublist.cons)))⟩
section
open Go.RowKit Go.Shelf
attribute [local go_sem] Oper.semAt_some
def rdg (p0 p1 m : Int) (k : Nat) : Int × Int := mstep (p0, p1) (p0 - m + k - m, p0 - m + k + m)
def rdN (p0 p1 m : Int) : Nat := (p1 + m - (p0 - m) + 1).toNat
def rdgs (p0 p1 m : Int) : List (Int × Int) := (List.range (rdN p0 p1 m)).map (rdg p0 p1 m)
theorem rdgs_length (p0 p1 m : Int) : (rdgs p0 p1 m).length = rdN p0 p1 m := by simp [rdgs]
theorem rdgs_take (p0 p1 m : Int) (k : Nat) (h : k < rdN p0 p1 m) : (rdgs p0 p1 m).take (k + 1) = (rdgs p0 p1 m).take k ++ [rdg p0 p1 m k] := by
 rw [List.take_succ_eq_append_getElem (by rw [rdgs_length]; exact h)]
 simp [rdgs]
theorem rdg_bd {p0 p1 m B : Int} {k : Nat} (h : k < rdN p0 p1 m) (h0 : -B ≤ p0 ∧ p0 ≤ B) (h1 : -B ≤ p1 ∧ p1 ≤ B) (hm : 0 ≤ m) : (-B ≤ (rdg p0 p1 m k).1 ∧ (rdg p0 p1 m k).1 ≤ B) ∧ (-B ≤ (rdg p0 p1 m k).2 ∧ (rdg p0 p1 m k).2 ≤ B) := by
 unfold rdN at h
 unfold rdg mstep
 refine ⟨?_, ?_⟩
 · dsimp only; split <;> omega
 · dsimp only; split <;> omega
abbrev Rg (B : Int) := { x : Int × Int // (-B ≤ x.1 ∧ x.1 ≤ B) ∧ (-B ≤ x.2 ∧ x.2 ≤ B) }
def Kp (n0 bm : Nat) (W W' : World) : Prop := W.heap.size ≤ W'.heap.size ∧ ∀ b, b < n0 → b ≠ bm → W'.heap[b]? = W.heap[b]?
theorem Kp.t {n0 bm : Nat} {A B C : World} (h : Kp n0 bm A B) (k : Kp n0 bm B C) : Kp n0 bm A C := ⟨Nat.le_trans h.1 k.1, fun b hb hx => (k.2 b hb hx).trans (h.2 b hb hx)⟩
theorem Kp.bk {n0 bm g : Nat} {W W' : World} {cs : Array Value} (h : Kp n0 bm W W') (hB : Bk W g cs) (hg : g < n0) (hx : g ≠ bm) : Bk W' g cs :=
 ⟨Nat.lt_of_lt_of_le hB.lt h.1, fun o => (World.cell?_of_block (w := W) (a := ⟨g, o, none⟩) (h.2 g hg hx)).trans (hB.cell o), fun o => (World.frozen?_of_block (w := W) (a := ⟨g, o, none⟩) (h.2 g hg hx)).trans (hB.frozen o)⟩
theorem grown_of_below {w w' : World} (h : Below w.heap.size w w') : w.grownBy w' none := ⟨h.os, h.tape, h.output, h.size, fun k hk _ => h.block k hk⟩
theorem meet_one (p0 p1 m : Int) (k c g : Nat) (w : World) (hr : Rd w w.heap.size 2 (some ⟨g, 0, none⟩) 1 (rc [(p0 - m + (k : Int) - m, p0 - m + (k : Int) + m)])) :
  Calls Tryz.prog 196 #[R2 p0 p1, .slice (some ⟨g, 0, none⟩) 1 c] w fun e w' => e = .returned (R2 (rdg p0 p1 m k).1 (rdg p0 p1 m k).2) ∧ Below w.heap.size w w' :=
 meet_any p0 p1 _ 1 c [(p0 - m + (k : Int) - m, p0 - m + (k : Int) + m)] w hr (by omega)
theorem readings1_in (n : Nat) (hn : 2 ≤ n) (l b1 b2 n0 bm : Nat) (p0 p1 m B : Int) (hB0 : 0 ≤ B) (hB1 : B ≤ 100000) (h0 : -B ≤ p0 ∧ p0 ≤ B) (h1 : -B ≤ p1 ∧ p1 ≤ B) (hm0 : 0 ≤ m) (hm1 : m ≤ 100) (hb1 : b1 < n0) (hb2 : b2 < n0) (hx1 : b1 ≠ bm) (hx2 : b2 ≠ bm)
   (J Jx : List (Rg B) → World → Prop) (W : World) (hJ : AbidesFrom W.heap.size J)
   (hY : ∀ pre x W1, J pre W1 → pre.length < rdN p0 p1 m → YieldAt Fence.wide (n - 1) Tryz.prog l #[R2 x.1.1 x.1.2] W1 fun e W' =>
     (e = .returned (.bool true) ∧ J (pre ++ [x]) W' ∧ Kp n0 bm W1 W') ∨ (e = .returned (.bool false) ∧ Jx (pre ++ [x]) W'))
   (q1 : Bk W b1 #[.int .i64 p0, .int .i64 p1]) (q2 : Bk W b2 #[.int .i64 m]) (hJ0 : J [] W) :
   CallsIn Fence.wide n Tryz.prog 247 #[.func (.yield l) #[] #[], .pointer (some ⟨b1, 0, none⟩), .pointer (some ⟨b2, 0, none⟩)] W fun e W' => (∃ v, e = .returned v) ∧
     ((∃ xs : List (Rg B), xs.map (·.1) = rdgs p0 p1 m ∧ J xs W') ∨ (∃ pre : List (Rg B), pre.map (·.1) <+: rdgs p0 p1 m ∧ Jx pre W')) := by
 refine callsIn_of_wp Tryz.func247 rfl trivial ?_ rfl
 simp only [Tryz.ntmps247, List.size_toArray, List.length_cons, List.length_nil, Nat.reduceAdd, Nat.reduceSub, Array.replicate_succ, Array.replicate_zero, List.push_toArray, List.append_toArray, List.nil_append, List.cons_append]
 have c1 := q1.cell
 have c2 := q2.cell
 have hn1 : 1 ≤ n := by omega
 gi_wp2
 gi_loopw [4] (fun v wr => ∃ (k : Nat) (pre : List (Rg B)), k ≤ rdN p0 p1 m ∧ v = .int .i64 (p0 - m + (k : Int)) ∧ Hid (pre.map (·.1) = (rdgs p0 p1 m).take k) ∧ Bk wr b1 #[.int .i64 p0, .int .i64 p1] ∧ Bk wr b2 #[.int .i64 m] ∧ W.heap.size ≤ wr.heap.size ∧ J pre wr) (fun v _ => (p1 + m + 1 - intOf v).toNat)
 case atStart => exact ⟨0, [], Nat.zero_le _, by simp, by (show _ = _; simp), q1, q2, Nat.le_refl _, hJ0⟩
 case round =>
   clear c1 c2
   obtain ⟨k, pre, hk, rfl, hpre, r1, r2, hz, hj⟩ := hrel
   have c1 := r1.cell
   have c2 := r2.cell
   have z1 := r1.lt
   have z2 := r2.lt
   by_cases hlt : k < rdN p0 p1 m
   · have hle : p0 - m + (k : Int) ≤ p1 + m := by unfold rdN at hlt; omega
     have HX := Lib.hid (rdg_bd hlt h0 h1 hm0)
     have HT := Lib.hid (rdgs_take p0 p1 m k hlt)
     have hm2 := Lib.hid hlt
     clear hlt
     have hlen : pre.length < rdN p0 p1 m := by
       have h2 := congrArg List.length hpre.out
       rw [List.length_map, List.length_take, rdgs_length] at h2
       have h3 := hm2.out
       omega
     gi_wp2_with (first | (refine ⟨trivial, ?_⟩; gi_at_call 196; refine (callsIn_wide.2 (meet_one p0 p1 m k _ _ _ ?_)).mono ?_; (exact Rd.new _ _ _ _ _ _ rfl (by simp [rc])); rintro e w1 ⟨rfl, hb⟩; have r3 := (r1.alloc _).below hb; have r4 := (r2.alloc _).below hb; have hz3 : W.heap.size ≤ w1.heap.size := (by have := hb.size; simp at this; omega); have j3 := hJ _ _ _ none (hJ _ _ _ none hj (World.grownBy_alloc wr _ none) (fun r e => by cases e)) (grown_of_below hb) (fun r e => by cases e); clear hb; obtain ⟨fn, tmps, assign, body, hy, hR⟩ := hY pre ⟨rdg p0 p1 m k, HX.out⟩ w1 j3 hlen; dsimp only at hy))
     refine hR.mono ?_
     have HS : Hid ((pre ++ [(⟨rdg p0 p1 m k, HX.out⟩ : Rg B)]).map (·.1) = (rdgs p0 p1 m).take (k + 1)) := by (show _ = _; rw [List.map_append, hpre.out, HT.out]; rfl)
     rintro e W3 (⟨rfl, hJ3, hk3⟩ | ⟨rfl, hJx3⟩)
     · have r5 := hk3.bk r3 hb1 hx1
       have r6 := hk3.bk r4 hb2 hx2
       have hz5 : W.heap.size ≤ W3.heap.size := Nat.le_trans hz3 hk3.1
       clear hY hy hR
       gi_wp2
       go_roundw
       case rel => exact ⟨k + 1, _, hm2.out, by go_num, HS, r5, r6, hz5, hJ3⟩
       case measure => simp [intOf]; omega
     · clear hY hy hR
       gi_wp2
       refine bodyPost_ret (results_none rfl _ _ _) rfl ?_
       exact ⟨⟨_, rfl⟩, .inr ⟨_, by rw [HS.out]; exact List.take_prefix _ _, hJx3⟩⟩
   · have hle : ¬ p0 - m + (k : Int) ≤ p1 + m := by unfold rdN at hlt; omega
     gi_wp2
     go_end0
     exact ⟨⟨_, rfl⟩, .inl ⟨pre, by rw [hpre.out, List.take_of_length_le (by rw [rdgs_length]; omega)], hj⟩⟩
theorem readings_stops (n : Nat) (hn : 2 ≤ n) (b1 b2 n0 bm : Nat) (p0 p1 m B : Int) (hB0 : 0 ≤ B) (hB1 : B ≤ 100000) (h0 : -B ≤ p0 ∧ p0 ≤ B) (h1 : -B ≤ p1 ∧ p1 ≤ B) (hm0 : 0 ≤ m) (hm1 : m ≤ 100) (hb1 : b1 < n0) (hb2 : b2 < n0) (hx1 : b1 ≠ bm) (hx2 : b2 ≠ bm) (w : World)
   (q1 : Bk w b1 #[.int .i64 p0, .int .i64 p1]) (q2 : Bk w b2 #[.int .i64 m]) :
   SeqStopsK (α := Rg B) Fence.wide n Tryz.prog 247 #[.pointer (some ⟨b1, 0, none⟩), .pointer (some ⟨b2, 0, none⟩)] (fun x => #[R2 x.1.1 x.1.2]) (Kp n0 bm) (fun xs => xs.map (·.1) = rdgs p0 p1 m) (fun pre => pre.map (·.1) <+: rdgs p0 p1 m) (rdN p0 p1 m) w :=
 fun l J Jx W hW hJ _ hY hJ0 => readings1_in n hn l b1 b2 n0 bm p0 p1 m B hB0 hB1 h0 h1 hm0 hm1 hb1 hb2 hx1 hx2 J Jx W hJ hY (q1.below hW) (q2.below hW) hJ0
set_option maxHeartbeats 400000 in
theorem readings_any (p0 p1 m : Int) (w : World) :
  Calls Tryz.prog 202 #[R2 p0 p1, .int .i64 m] w fun e w' => ∃ b1 b2, e = .returned (.func (.func 247) #[] #[.pointer (some ⟨b1, 0, none⟩), .pointer (some ⟨b2, 0, none⟩)]) ∧ Mem w noEx w' [(b2, .cells [.int .i64 m]), (b1, .cells [.int .i64 p0, .int .i64 p1])] := by
 go_enter Tryz.func202, Tryz.ntmps202
 refine start noEx ?_
 intro wc M
 go_wp2_with (first | (refine m_ld1 M rfl rfl rfl (by (repeat' (first | exact Zz2 | refine Zz1 ?_))) (by rfl) ?_) | (refine m_ldr M rfl rfl rfl (by (repeat' (first | exact Zz2 | refine Zz1 ?_))) (by (try simp only [Zy2, List.take_zero, List.take_nil, Zy1, List.drop_zero, List.drop_nil, List.cons_append, List.nil_append, List.append_nil, List.length_cons, List.length_nil, Nat.reduceAdd, Nat.zero_add, Nat.add_zero]); rfl) (by rfl) ?_) | (refine m_st M rfl rfl rfl (by first | exact (rfl : _ = Value.agg _) | exact (rfl : _ = Value.int _ _) | exact (rfl : _ = Value.bool _) | exact (rfl : _ = Value.slice _ _ _) | exact (rfl : _ = Value.pointer _) | exact (rfl : _ = Value.map _) | exact (rfl : _ = Value.func _ _ _) | exact (rfl : _ = Value.string _)) (by rfl) (by (repeat (first | exact Upd.head | apply Upd.tail))) (by (try simp only [Zy2, List.take_zero, List.take_nil, Zy1, List.drop_zero, List.drop_nil, List.cons_append, List.nil_append, List.append_nil, List.length_cons, List.length_nil, Nat.reduceAdd, Nat.zero_add, Nat.add_zero]); rfl) (by simp) (by simp [Value.oneCell']) (by kernel_rfl) ?_; clear M; (try clear wc); intro wc M) | (refine m_al M rfl rfl ?_; clear M; (try clear wc); intro g wc M) | (refine m_bx M rfl rfl (by first | exact (rfl : _ = Value.agg _) | exact (rfl : _ = Value.int _ _) | exact (rfl : _ = Value.bool _) | exact (rfl : _ = Value.slice _ _ _) | exact (rfl : _ = Value.pointer _) | exact (rfl : _ = Value.map _) | exact (rfl : _ = Value.func _ _ _) | exact (rfl : _ = Value.string _)) (by rfl) ?_; clear M; (try clear wc); intro g wc M))
 go_ret
 exact ⟨_, _, rfl, M⟩
end
def thinJ (j : Jb) (p0 p1 t r : Int) : St := ⟨p0, p1, j.t0 - t * j.a1, j.t1 - t * j.a0, j.r0 - r * j.b1, j.r1 - r * j.b0, j.u0, j.u1, j.d0, j.d1, j.a0, j.a1, j.b0, j.b1, j.le⟩
def okT (j : Jb) (t r : Int) : Bool := (thinJ j 0 0 t r).spoiled == 2
abbrev kn5 (p0 p1 t r lf : Int) : Value := .agg #[.int .i64 p0, .int .i64 p1, .int .i64 t, .int .i64 r, .int .i64 lf]
theorem mul_bd {i a : Int} (h0 : 0 ≤ i) (h1 : i ≤ 2000) (h2 : 0 ≤ a) (h3 : a ≤ 12) : 0 ≤ i * a ∧ i * a ≤ 24000 := by
 refine ⟨Int.mul_nonneg h0 h2, ?_⟩
 have := Int.mul_le_mul h1 h3 h2 (by omega : (0 : Int) ≤ 2000)
 omega
theorem mul_suc (i a : Int) : (i + 1) * a = i * a + a := by rw [Int.add_mul]; omega
theorem filed_tip_x (p0 p1 t0 t1 r0 r1 u0 u1 d0 d1 a0 a1 b0 b1 le : Int) (w : World) (h : St.ok ⟨p0, p1, t0, t1, r0, r1, u0, u1, d0, d1, a0, a1, b0, b1, le⟩) :
  Calls Tryz.prog 197 #[.agg #[.int .i64 p0, .int .i64 p1, .int .i64 t0, .int .i64 t1, .int .i64 r0, .int .i64 r1, .int .i64 u0, .int .i64 u1, .int .i64 d0, .int .i64 d1, .int .i64 a0, .int .i64 a1, .int .i64 b0, .int .i64 b1, .int .i64 le], .int .i64 1] w fun e w' => e = .returned (.agg #[.int .i64 (p0 + u0), .int .i64 (p1 + u1), .int .i64 (t0 - a1), .int .i64 (t1 - a0), .int .i64 r0, .int .i64 r1, .int .i64 u0, .int .i64 u1, .int .i64 d0, .int .i64 d1, .int .i64 a0, .int .i64 a1, .int .i64 b0, .int .i64 b1, .int .i64 le]) ∧ Below w.heap.size w w' := filed_tip ⟨p0, p1, t0, t1, r0, r1, u0, u1, d0, d1, a0, a1, b0, b1, le⟩ w h
theorem filed_root_x (p0 p1 t0 t1 r0 r1 u0 u1 d0 d1 a0 a1 b0 b1 le : Int) (w : World) (h : St.ok ⟨p0, p1, t0, t1, r0, r1, u0, u1, d0, d1, a0, a1, b0, b1, le⟩) :
  Calls Tryz.prog 197 #[.agg #[.int .i64 p0, .int .i64 p1, .int .i64 t0, .int .i64 t1, .int .i64 r0, .int .i64 r1, .int .i64 u0, .int .i64 u1, .int .i64 d0, .int .i64 d1, .int .i64 a0, .int .i64 a1, .int .i64 b0, .int .i64 b1, .int .i64 le], .int .i64 2] w fun e w' => e = .returned (.agg #[.int .i64 (p0 - d1), .int .i64 (p1 - d0), .int .i64 t0, .int .i64 t1, .int .i64 (r0 - b1), .int .i64 (r1 - b0), .int .i64 u0, .int .i64 u1, .int .i64 d0, .int .i64 d1, .int .i64 a0, .int .i64 a1, .int .i64 b0, .int .i64 b1, .int .i64 le]) ∧ Below w.heap.size w w' := filed_root ⟨p0, p1, t0, t1, r0, r1, u0, u1, d0, d1, a0, a1, b0, b1, le⟩ w h
set_option maxHeartbeats 2000000 in
theorem moved_tip (j : Jb) (A : Option Addr) (c : Nat) (s0 s1 : Int) (bg bx : Nat) (p0 p1 t r lf : Int) (w : World) (hg : j.good) (hp0 : -100000 ≤ p0 ∧ p0 ≤ 100000) (hp1 : -100000 ≤ p1 ∧ p1 ≤ 100000) (ht : 0 ≤ t ∧ t ≤ 1000) (hr : 0 ≤ r ∧ r ≤ 1000) (hl : 1 ≤ lf ∧ lf ≤ 1000) :
   Calls Tryz.prog 203 #[.agg (gmA j A c s0 s1 bg bx).toArray, kn5 p0 p1 t r lf, .int .i64 1] w fun e w' => e = .returned (.tuple #[kn5 (p0 + j.u0) (p1 + j.u1) (t + 1) r (lf - 1), .bool (okT j (t + 1) (r))]) ∧ Below w.heap.size w w' := by
 obtain ⟨g1, g2, g3, g4, g5, g6, g7, g8, -, -, -, -⟩ := hg
 go_enter Tryz.func203, Tryz.ntmps203
 refine start noEx ?_
 intro wc M
 go_wp2_with (first | (refine m_ld1 M rfl rfl rfl (by (repeat' (first | exact Zz2 | refine Zz1 ?_))) (by rfl) ?_) | (refine m_ldr M rfl rfl rfl (by (repeat' (first | exact Zz2 | refine Zz1 ?_))) (by (try simp only [Zy2, List.take_zero, List.take_nil, Zy1, List.drop_zero, List.drop_nil, List.cons_append, List.nil_append, List.append_nil, List.length_cons, List.length_nil, Nat.reduceAdd, Nat.zero_add, Nat.add_zero]); rfl) (by rfl) ?_) | (refine m_st M rfl rfl rfl (by first | exact (rfl : _ = Value.agg _) | exact (rfl : _ = Value.int _ _) | exact (rfl : _ = Value.bool _) | exact (rfl : _ = Value.slice _ _ _) | exact (rfl : _ = Value.pointer _) | exact (rfl : _ = Value.map _) | exact (rfl : _ = Value.func _ _ _) | exact (rfl : _ = Value.string _)) (by rfl) (by (repeat (first | exact Upd.head | apply Upd.tail))) (by (try simp only [Zy2, List.take_zero, List.take_nil, Zy1, List.drop_zero, List.drop_nil, List.cons_append, List.nil_append, List.append_nil, List.length_cons, List.length_nil, Nat.reduceAdd, Nat.zero_add, Nat.add_zero]); rfl) (by simp) (by simp [Value.oneCell']) (by kernel_rfl) ?_; clear M; (try clear wc); intro wc M) | (refine m_al M rfl rfl ?_; clear M; (try clear wc); intro g wc M) | (refine m_bx M rfl rfl (by first | exact (rfl : _ = Value.agg _) | exact (rfl : _ = Value.int _ _) | exact (rfl : _ = Value.bool _) | exact (rfl : _ = Value.slice _ _ _) | exact (rfl : _ = Value.pointer _) | exact (rfl : _ = Value.map _) | exact (rfl : _ = Value.func _ _ _) | exact (rfl : _ = Value.string _)) (by rfl) ?_; clear M; (try clear wc); intro g wc M) | (go_at_call 197; ((with_reducible refine (filed_tip_x p0 p1 j.t0 j.t1 j.r0 j.r1 j.u0 j.u1 j.d0 j.d1 j.a0 j.a1 j.b0 j.b1 j.le _ ?_).mono ?_); (constructor <;> dsimp only <;> omega); rintro e wc ⟨rfl, hb⟩; replace M := M.call hb; clear hb)))
 rename_i gG gK gR gS wq K0 hK0
 go_loopw [44] (fun v wr => ∃ i : Int, 0 ≤ i ∧ i ≤ t + 1 ∧ v = .int .i64 i ∧ Mem w noEx wr [(gS, .cells [.int .i64 p0, .int .i64 p1, .int .i64 (j.t0 - i * j.a1), .int .i64 (j.t1 - i * j.a0), .int .i64 (j.r0 - 0 * j.b1), .int .i64 (j.r1 - 0 * j.b0), .int .i64 j.u0, .int .i64 j.u1, .int .i64 j.d0, .int .i64 j.d1, .int .i64 j.a0, .int .i64 j.a1, .int .i64 j.b0, .int .i64 j.b1, .int .i64 j.le]), (gR, .cells [.int .i64 0, .int .i64 0, .int .i64 0, .int .i64 0, .int .i64 0]), (gK, .cells [.int .i64 (p0 + j.u0), .int .i64 (p1 + j.u1), .int .i64 (t + 1), .int .i64 (r), .int .i64 (lf - 1)])]) (fun v _ => (t + 1 - intOf v).toNat)
 case atStart => exact ⟨0, by omega, by omega, rfl, by simp only [Int.zero_mul, Int.sub_zero]; exact M.sub (by (repeat (first | exact List.Sublist.slnil | apply List.Sublist.cons_cons | apply List.Sublist.cons)))⟩
 case round =>
   clear M wc
   obtain ⟨i, hi0, hi1, rfl, M⟩ := hrel
   obtain ⟨wc, rfl⟩ : ∃ x : World, x = wr := ⟨_, rfl⟩
   have m1 := mul_bd hi0 (by omega) (by omega : 0 ≤ j.a1) (by omega)
   have m2 := mul_bd hi0 (by omega) (by omega : 0 ≤ j.a0) (by omega)
   by_cases hlt : i < t + 1
   · have e1 := mul_suc i j.a1
     have e2 := mul_suc i j.a0
     have E : Hid (Value.int .i64 (j.t0 - i * j.a1 - j.a1) = .int .i64 (j.t0 - (i + 1) * j.a1) ∧ Value.int .i64 (j.t1 - i * j.a0 - j.a0) = .int .i64 (j.t1 - (i + 1) * j.a0)) := ⟨by rw [e1]; congr 1; omega, by rw [e2]; congr 1; omega⟩
     clear e1 e2
     go_wp2_with (first | (refine m_ld1 M rfl rfl rfl (by (repeat' (first | exact Zz2 | refine Zz1 ?_))) (by rfl) ?_) | (refine m_ldr M rfl rfl rfl (by (repeat' (first | exact Zz2 | refine Zz1 ?_))) (by (try simp only [Zy2, List.take_zero, List.take_nil, Zy1, List.drop_zero, List.drop_nil, List.cons_append, List.nil_append, List.append_nil, List.length_cons, List.length_nil, Nat.reduceAdd, Nat.zero_add, Nat.add_zero]); rfl) (by rfl) ?_) | (refine m_st M rfl rfl rfl (by first | exact (rfl : _ = Value.agg _) | exact (rfl : _ = Value.int _ _) | exact (rfl : _ = Value.bool _) | exact (rfl : _ = Value.slice _ _ _) | exact (rfl : _ = Value.pointer _) | exact (rfl : _ = Value.map _) | exact (rfl : _ = Value.func _ _ _) | exact (rfl : _ = Value.string _)) (by rfl) (by (repeat (first | exact Upd.head | apply Upd.tail))) (by (try simp only [Zy2, List.take_zero, List.take_nil, Zy1, List.drop_zero, List.drop_nil, List.cons_append, List.nil_append, List.append_nil, List.length_cons, List.length_nil, Nat.reduceAdd, Nat.zero_add, Nat.add_zero]); rfl) (by simp) (by simp [Value.oneCell']) (by kernel_rfl) ?_; clear M; (try clear wc); intro wc M) | (refine m_al M rfl rfl ?_; clear M; (try clear wc); intro g wc M) | (refine m_bx M rfl rfl (by first | exact (rfl : _ = Value.agg _) | exact (rfl : _ = Value.int _ _) | exact (rfl : _ = Value.bool _) | exact (rfl : _ = Value.slice _ _ _) | exact (rfl : _ = Value.pointer _) | exact (rfl : _ = Value.map _) | exact (rfl : _ = Value.func _ _ _) | exact (rfl : _ = Value.string _)) (by rfl) ?_; clear M; (try clear wc); intro g wc M) | (go_at_call 246; ((with_reducible refine (less_any _ _ _ _ _ (by omega) (by omega) (by omega) (by omega)).mono ?_); skip; rintro e wc ⟨rfl, hb⟩; replace M := M.call hb; clear hb)))
     go_roundw
     case rel => exact ⟨i + 1, by omega, by omega, rfl, by rw [E.out.1, E.out.2] at M; exact M⟩
     case measure => simp [intOf]; omega
   · have ei : t + 1 = i := (by omega); subst ei
     go_wp2_with (first | (refine m_ld1 M rfl rfl rfl (by (repeat' (first | exact Zz2 | refine Zz1 ?_))) (by rfl) ?_) | (refine m_ldr M rfl rfl rfl (by (repeat' (first | exact Zz2 | refine Zz1 ?_))) (by (try simp only [Zy2, List.take_zero, List.take_nil, Zy1, List.drop_zero, List.drop_nil, List.cons_append, List.nil_append, List.append_nil, List.length_cons, List.length_nil, Nat.reduceAdd, Nat.zero_add, Nat.add_zero]); rfl) (by rfl) ?_) | (refine m_st M rfl rfl rfl (by first | exact (rfl : _ = Value.agg _) | exact (rfl : _ = Value.int _ _) | exact (rfl : _ = Value.bool _) | exact (rfl : _ = Value.slice _ _ _) | exact (rfl : _ = Value.pointer _) | exact (rfl : _ = Value.map _) | exact (rfl : _ = Value.func _ _ _) | exact (rfl : _ = Value.string _)) (by rfl) (by (repeat (first | exact Upd.head | apply Upd.tail))) (by (try simp only [Zy2, List.take_zero, List.take_nil, Zy1, List.drop_zero, List.drop_nil, List.cons_append, List.nil_append, List.append_nil, List.length_cons, List.length_nil, Nat.reduceAdd, Nat.zero_add, Nat.add_zero]); rfl) (by simp) (by simp [Value.oneCell']) (by kernel_rfl) ?_; clear M; (try clear wc); intro wc M) | (refine m_al M rfl rfl ?_; clear M; (try clear wc); intro g wc M) | (refine m_bx M rfl rfl (by first | exact (rfl : _ = Value.agg _) | exact (rfl : _ = Value.int _ _) | exact (rfl : _ = Value.bool _) | exact (rfl : _ = Value.slice _ _ _) | exact (rfl : _ = Value.pointer _) | exact (rfl : _ = Value.map _) | exact (rfl : _ = Value.func _ _ _) | exact (rfl : _ = Value.string _)) (by rfl) ?_; clear M; (try clear wc); intro g wc M))
     go_loopw [58] (fun v wr => ∃ i : Int, 0 ≤ i ∧ i ≤ r ∧ v = .int .i64 i ∧ Mem w noEx wr [(gS, .cells [.int .i64 p0, .int .i64 p1, .int .i64 (j.t0 - (t + 1) * j.a1), .int .i64 (j.t1 - (t + 1) * j.a0), .int .i64 (j.r0 - i * j.b1), .int .i64 (j.r1 - i * j.b0), .int .i64 j.u0, .int .i64 j.u1, .int .i64 j.d0, .int .i64 j.d1, .int .i64 j.a0, .int .i64 j.a1, .int .i64 j.b0, .int .i64 j.b1, .int .i64 j.le]), (gR, .cells [.int .i64 0, .int .i64 0, .int .i64 0, .int .i64 0, .int .i64 0]), (gK, .cells [.int .i64 (p0 + j.u0), .int .i64 (p1 + j.u1), .int .i64 (t + 1), .int .i64 (r), .int .i64 (lf - 1)])]) (fun v _ => (r - intOf v).toNat)
     case atStart => exact ⟨0, by omega, by omega, rfl, by simp only [Int.zero_mul, Int.sub_zero] at M ⊢; exact M⟩
     case round =>
       clear M wc
       obtain ⟨i, hi0, hi1, rfl, M⟩ := hrel
       obtain ⟨wc, rfl⟩ : ∃ x : World, x = wr := ⟨_, rfl⟩
       have m3 := mul_bd hi0 (by omega) (by omega : 0 ≤ j.b1) (by omega)
       have m4 := mul_bd hi0 (by omega) (by omega : 0 ≤ j.b0) (by omega)
       by_cases hlt : i < r
       · have e1 := mul_suc i j.b1
         have e2 := mul_suc i j.b0
         have E : Hid (Value.int .i64 (j.r0 - i * j.b1 - j.b1) = .int .i64 (j.r0 - (i + 1) * j.b1) ∧ Value.int .i64 (j.r1 - i * j.b0 - j.b0) = .int .i64 (j.r1 - (i + 1) * j.b0)) := ⟨by rw [e1]; congr 1; omega, by rw [e2]; congr 1; omega⟩
         clear e1 e2
         go_wp2_with (first | (refine m_ld1 M rfl rfl rfl (by (repeat' (first | exact Zz2 | refine Zz1 ?_))) (by rfl) ?_) | (refine m_ldr M rfl rfl rfl (by (repeat' (first | exact Zz2 | refine Zz1 ?_))) (by (try simp only [Zy2, List.take_zero, List.take_nil, Zy1, List.drop_zero, List.drop_nil, List.cons_append, List.nil_append, List.append_nil, List.length_cons, List.length_nil, Nat.reduceAdd, Nat.zero_add, Nat.add_zero]); rfl) (by rfl) ?_) | (refine m_st M rfl rfl rfl (by first | exact (rfl : _ = Value.agg _) | exact (rfl : _ = Value.int _ _) | exact (rfl : _ = Value.bool _) | exact (rfl : _ = Value.slice _ _ _) | exact (rfl : _ = Value.pointer _) | exact (rfl : _ = Value.map _) | exact (rfl : _ = Value.func _ _ _) | exact (rfl : _ = Value.string _)) (by rfl) (by (repeat (first | exact Upd.head | apply Upd.tail))) (by (try simp only [Zy2, List.take_zero, List.take_nil, Zy1, List.drop_zero, List.drop_nil, List.cons_append, List.nil_append, List.append_nil, List.length_cons, List.length_nil, Nat.reduceAdd, Nat.zero_add, Nat.add_zero]); rfl) (by simp) (by simp [Value.oneCell']) (by kernel_rfl) ?_; clear M; (try clear wc); intro wc M) | (refine m_al M rfl rfl ?_; clear M; (try clear wc); intro g wc M) | (refine m_bx M rfl rfl (by first | exact (rfl : _ = Value.agg _) | exact (rfl : _ = Value.int _ _) | exact (rfl : _ = Value.bool _) | exact (rfl : _ = Value.slice _ _ _) | exact (rfl : _ = Value.pointer _) | exact (rfl : _ = Value.map _) | exact (rfl : _ = Value.func _ _ _) | exact (rfl : _ = Value.string _)) (by rfl) ?_; clear M; (try clear wc); intro g wc M) | (go_at_call 246; ((with_reducible refine (less_any _ _ _ _ _ (by omega) (by omega) (by omega) (by omega)).mono ?_); skip; rintro e wc ⟨rfl, hb⟩; replace M := M.call hb; clear hb)))
         go_roundw
         case rel => exact ⟨i + 1, by omega, by omega, rfl, by rw [E.out.1, E.out.2] at M; exact M⟩
         case measure => simp [intOf]; omega
       · have ei : r = i := (by omega); subst ei
         go_wp2_with (first | (refine m_ld1 M rfl rfl rfl (by (repeat' (first | exact Zz2 | refine Zz1 ?_))) (by rfl) ?_) | (refine m_ldr M rfl rfl rfl (by (repeat' (first | exact Zz2 | refine Zz1 ?_))) (by (try simp only [Zy2, List.take_zero, List.take_nil, Zy1, List.drop_zero, List.drop_nil, List.cons_append, List.nil_append, List.append_nil, List.length_cons, List.length_nil, Nat.reduceAdd, Nat.zero_add, Nat.add_zero]); rfl) (by rfl) ?_) | (refine m_st M rfl rfl rfl (by first | exact (rfl : _ = Value.agg _) | exact (rfl : _ = Value.int _ _) | exact (rfl : _ = Value.bool _) | exact (rfl : _ = Value.slice _ _ _) | exact (rfl : _ = Value.pointer _) | exact (rfl : _ = Value.map _) | exact (rfl : _ = Value.func _ _ _) | exact (rfl : _ = Value.string _)) (by rfl) (by (repeat (first | exact Upd.head | apply Upd.tail))) (by (try simp only [Zy2, List.take_zero, List.take_nil, Zy1, List.drop_zero, List.drop_nil, List.cons_append, List.nil_append, List.append_nil, List.length_cons, List.length_nil, Nat.reduceAdd, Nat.zero_add, Nat.add_zero]); rfl) (by simp) (by simp [Value.oneCell']) (by kernel_rfl) ?_; clear M; (try clear wc); intro wc M) | (refine m_al M rfl rfl ?_; clear M; (try clear wc); intro g wc M) | (refine m_bx M rfl rfl (by first | exact (rfl : _ = Value.agg _) | exact (rfl : _ = Value.int _ _) | exact (rfl : _ = Value.bool _) | exact (rfl : _ = Value.slice _ _ _) | exact (rfl : _ = Value.pointer _) | exact (rfl : _ = Value.map _) | exact (rfl : _ = Value.func _ _ _) | exact (rfl : _ = Value.string _)) (by rfl) ?_; clear M; (try clear wc); intro g wc M))
         refine wp_region_G (fun L W => (L.getD 4 true = false → Mem w noEx W [(gS, .cells [.int .i64 p0, .int .i64 p1, .int .i64 (j.t0 - (t + 1) * j.a1), .int .i64 (j.t1 - (t + 1) * j.a0), .int .i64 (j.r0 - r * j.b1), .int .i64 (j.r1 - r * j.b0), .int .i64 j.u0, .int .i64 j.u1, .int .i64 j.d0, .int .i64 j.d1, .int .i64 j.a0, .int .i64 j.a1, .int .i64 j.b0, .int .i64 j.b1, .int .i64 j.le]), (gR, .cells [.int .i64 0, .int .i64 0, .int .i64 0, .int .i64 0, .int .i64 0]), (gK, .cells [.int .i64 (p0 + j.u0), .int .i64 (p1 + j.u1), .int .i64 (t + 1), .int .i64 (r), .int .i64 (lf - 1)])]) ∧ (L.getD 4 true = true → Mem w noEx W [(gS, .cells [.int .i64 p0, .int .i64 p1, .int .i64 (j.t0 - (t + 1) * j.a1), .int .i64 (j.t1 - (t + 1) * j.a0), .int .i64 (j.r0 - r * j.b1), .int .i64 (j.r1 - r * j.b0), .int .i64 j.u0, .int .i64 j.u1, .int .i64 j.d0, .int .i64 j.d1, .int .i64 j.a0, .int .i64 j.a1, .int .i64 j.b0, .int .i64 j.b1, .int .i64 j.le]), (gR, .cells [.int .i64 (p0 + j.u0), .int .i64 (p1 + j.u1), .int .i64 (t + 1), .int .i64 (r), .int .i64 (lf - 1)]), (gK, .cells [.int .i64 (p0 + j.u0), .int .i64 (p1 + j.u1), .int .i64 (t + 1), .int .i64 (r), .int .i64 (lf - 1)])])) 6 (by kernel_rfl) (by kernel_rfl) ?s0 ?r0
         case s0 => (exact ⟨fun _ => M.drew, fun h => (no_of h (by kernel_rfl)).elim⟩)
         intro W0
         refine wpG_take (i := 0) (v := ?v1) rfl (by kernel_rfl) (by intro L w; simp only [getD_set_ne true (show (0 : Nat) ≠ 4 from by decide)]) (fun _ _ _ h => h) (Or.inl ⟨by rfl, ?y1⟩) ?r1
         case y1 => (intro w' hy; obtain ⟨L, hD, hl, hS⟩ := hy; have M0 := hS.1 (hD.wait (i := 0) (by kernel_rfl) hl); clear hS; first | (refine Eq.trans (Zro (Mem.get M0 (by (repeat' (first | exact Zz2 | refine Zz1 ?_)))) rfl rfl (by rfl)) ?_; with_reducible rfl) | (refine Eq.trans (rn_row (Mem.get M0 (by (repeat' (first | exact Zz2 | refine Zz1 ?_)))) rfl rfl (by (try simp only [Zy2, List.take_zero, List.take_nil, Zy1, List.drop_zero, List.drop_nil, List.cons_append, List.nil_append, List.append_nil, List.length_cons, List.length_nil, Nat.reduceAdd, Nat.zero_add, Nat.add_zero]); rfl) (by rfl)) ?_; with_reducible rfl); (try with_reducible rfl))
         (try simp only [Act.put, Zz3, Zz4, Zz5, Zz6, Zz7, Zz8])
         refine wpG_take (i := 1) (v := ?v2) rfl (by kernel_rfl) (by intro L w; simp only [getD_set_ne true (show (1 : Nat) ≠ 4 from by decide)]) (fun _ _ _ h => h) (Or.inl ⟨by rfl, ?y2⟩) ?r2
         case y2 => (intro w' hy; obtain ⟨L, hD, hl, hS⟩ := hy; have M0 := hS.1 (hD.wait (i := 2) (by kernel_rfl) (hD.wait (m := 2) (i := 1) (by kernel_rfl) hl)); clear hS; first | (refine Eq.trans (Zro (Mem.get M0 (by (repeat' (first | exact Zz2 | refine Zz1 ?_)))) rfl rfl (by rfl)) ?_; with_reducible rfl) | (refine Eq.trans (rn_row (Mem.get M0 (by (repeat' (first | exact Zz2 | refine Zz1 ?_)))) rfl rfl (by (try simp only [Zy2, List.take_zero, List.take_nil, Zy1, List.drop_zero, List.drop_nil, List.cons_append, List.nil_append, List.append_nil, List.length_cons, List.length_nil, Nat.reduceAdd, Nat.zero_add, Nat.add_zero]); rfl) (by rfl)) ?_; with_reducible rfl); (try with_reducible rfl))
         (try simp only [Act.put, Zz3, Zz4, Zz5, Zz6, Zz7, Zz8])
         refine wpG_step (i := 2) (by kernel_rfl) rfl (by rfl) ?r3
         intro hS K hK
         (have M0 := hS.1 (by kernel_rfl); clear hS; go_simp; refine (spoiled_any (thinJ j p0 p1 (t + 1) (r)) _).mono ?_; rintro e V1 ⟨rfl, hb1⟩; refine hK.out _ _ ⟨fun _ => M0.call hb1, fun h => (no_of h (by kernel_rfl)).elim⟩ ?_; clear M0 hb1)
         clear hK K; intro W3
         (try simp only [Act.put, Zz3, Zz4, Zz5, Zz6, Zz7, Zz8])
         refine wpG_take (i := 3) (v := ?v4) rfl (by kernel_rfl) (by intro L w; simp only [getD_set_ne true (show (3 : Nat) ≠ 4 from by decide)]) (fun _ _ _ h => h) (Or.inl ⟨by rfl, ?y4⟩) ?r4
         case y4 => (intro w' hy; obtain ⟨L, hD, hl, hS⟩ := hy; clear hD hl hS; go_simp; (try with_reducible rfl))
         (try simp only [Act.put, Zz3, Zz4, Zz5, Zz6, Zz7, Zz8])
         refine wpG_step (i := 4) (by kernel_rfl) rfl (by rfl) ?r5
         intro hS K hK
         (have M0 := hS.1 (by kernel_rfl); clear hS; refine m_stw M0 rfl rfl (by first | exact (rfl : _ = Value.agg _) | exact (rfl : _ = Value.int _ _) | exact (rfl : _ = Value.bool _) | exact (rfl : _ = Value.slice _ _ _) | exact (rfl : _ = Value.pointer _) | exact (rfl : _ = Value.map _) | exact (rfl : _ = Value.func _ _ _) | exact (rfl : _ = Value.string _)) (by rfl) (by (repeat (first | exact Upd.head | apply Upd.tail))) (by (try simp only [Zy2, List.take_zero, List.take_nil, Zy1, List.drop_zero, List.drop_nil, List.cons_append, List.nil_append, List.append_nil, List.length_cons, List.length_nil, Nat.reduceAdd, Nat.zero_add, Nat.add_zero]); rfl) (by simp) (by simp [Value.oneCell']) (by kernel_rfl) ?_; intro V2 M2; refine hK.out _ _ ⟨fun h => (no_of (by kernel_rfl) h).elim, fun _ => M2⟩ ?_; clear M0 M2)
         clear hK K; intro W5
         (try simp only [Act.put, Zz3, Zz4, Zz5, Zz6, Zz7, Zz8])
         refine wpG_take (i := 5) (v := ?v6) rfl (by kernel_rfl) (by intro L w; simp only [getD_set_ne true (show (5 : Nat) ≠ 4 from by decide)]) (fun _ _ _ h => h) (Or.inl ⟨by rfl, ?y6⟩) ?r6
         case y6 => (intro w' hy; obtain ⟨L, hD, hl, hS⟩ := hy; clear hD hl hS; go_simp; (try with_reducible rfl))
         (try simp only [Act.put, Zz3, Zz4, Zz5, Zz6, Zz7, Zz8])
         refine wpG_end (by kernel_rfl) ?_
         intro W
          hS
         have M1 := hS.2 (by kernel_rfl)
         clear hS
         go_wp2
         refine ret_M1 (t := 6) (t' := 7) (ty := 183) M1 (by rfl) (by rfl) (by rfl) (by rfl) (by (repeat' (first | exact Zz2 | refine Zz1 ?_))) (by rfl) ?_
         exact ⟨rfl, M1.below⟩
set_option maxHeartbeats 2000000 in
theorem moved_root (j : Jb) (A : Option Addr) (c : Nat) (s0 s1 : Int) (bg bx : Nat) (p0 p1 t r lf : Int) (w : World) (hg : j.good) (hp0 : -100000 ≤ p0 ∧ p0 ≤ 100000) (hp1 : -100000 ≤ p1 ∧ p1 ≤ 100000) (ht : 0 ≤ t ∧ t ≤ 1000) (hr : 0 ≤ r ∧ r ≤ 1000) (hl : 1 ≤ lf ∧ lf ≤ 1000) :
   Calls Tryz.prog 203 #[.agg (gmA j A c s0 s1 bg bx).toArray, kn5 p0 p1 t r lf, .int .i64 2] w fun e w' => e = .returned (.tuple #[kn5 (p0 - j.d1) (p1 - j.d0) t (r + 1) (lf - 1), .bool (okT j (t) (r + 1))]) ∧ Below w.heap.size w w' := by
 obtain ⟨g1, g2, g3, g4, g5, g6, g7, g8, -, -, -, -⟩ := hg
 go_enter Tryz.func203, Tryz.ntmps203
 refine start noEx ?_
 intro wc M
 go_wp2_with (first | (refine m_ld1 M rfl rfl rfl (by (repeat' (first | exact Zz2 | refine Zz1 ?_))) (by rfl) ?_) | (refine m_ldr M rfl rfl rfl (by (repeat' (first | exact Zz2 | refine Zz1 ?_))) (by (try simp only [Zy2, List.take_zero, List.take_nil, Zy1, List.drop_zero, List.drop_nil, List.cons_append, List.nil_append, List.append_nil, List.length_cons, List.length_nil, Nat.reduceAdd, Nat.zero_add, Nat.add_zero]); rfl) (by rfl) ?_) | (refine m_st M rfl rfl rfl (by first | exact (rfl : _ = Value.agg _) | exact (rfl : _ = Value.int _ _) | exact (rfl : _ = Value.bool _) | exact (rfl : _ = Value.slice _ _ _) | exact (rfl : _ = Value.pointer _) | exact (rfl : _ = Value.map _) | exact (rfl : _ = Value.func _ _ _) | exact (rfl : _ = Value.string _)) (by rfl) (by (repeat (first | exact Upd.head | apply Upd.tail))) (by (try simp only [Zy2, List.take_zero, List.take_nil, Zy1, List.drop_zero, List.drop_nil, List.cons_append, List.nil_append, List.append_nil, List.length_cons, List.length_nil, Nat.reduceAdd, Nat.zero_add, Nat.add_zero]); rfl) (by simp) (by simp [Value.oneCell']) (by kernel_rfl) ?_; clear M; (try clear wc); intro wc M) | (refine m_al M rfl rfl ?_; clear M; (try clear wc); intro g wc M) | (refine m_bx M rfl rfl (by first | exact (rfl : _ = Value.agg _) | exact (rfl : _ = Value.int _ _) | exact (rfl : _ = Value.bool _) | exact (rfl : _ = Value.slice _ _ _) | exact (rfl : _ = Value.pointer _) | exact (rfl : _ = Value.map _) | exact (rfl : _ = Value.func _ _ _) | exact (rfl : _ = Value.string _)) (by rfl) ?_; clear M; (try clear wc); intro g wc M) | (go_at_call 197; ((with_reducible refine (filed_root_x p0 p1 j.t0 j.t1 j.r0 j.r1 j.u0 j.u1 j.d0 j.d1 j.a0 j.a1 j.b0 j.b1 j.le _ ?_).mono ?_); (constructor <;> dsimp only <;> omega); rintro e wc ⟨rfl, hb⟩; replace M := M.call hb; clear hb)))
 rename_i gG gK gR gS wq K0 hK0
 go_loopw [44] (fun v wr => ∃ i : Int, 0 ≤ i ∧ i ≤ t ∧ v = .int .i64 i ∧ Mem w noEx wr [(gS, .cells [.int .i64 p0, .int .i64 p1, .int .i64 (j.t0 - i * j.a1), .int .i64 (j.t1 - i * j.a0), .int .i64 (j.r0 - 0 * j.b1), .int .i64 (j.r1 - 0 * j.b0), .int .i64 j.u0, .int .i64 j.u1, .int .i64 j.d0, .int .i64 j.d1, .int .i64 j.a0, .int .i64 j.a1, .int .i64 j.b0, .int .i64 j.b1, .int .i64 j.le]), (gR, .cells [.int .i64 0, .int .i64 0, .int .i64 0, .int .i64 0, .int .i64 0]), (gK, .cells [.int .i64 (p0 - j.d1), .int .i64 (p1 - j.d0), .int .i64 (t), .int .i64 (r + 1), .int .i64 (lf - 1)])]) (fun v _ => (t - intOf v).toNat)
 case atStart => exact ⟨0, by omega, by omega, rfl, by simp only [Int.zero_mul, Int.sub_zero]; exact M.sub (by (repeat (first | exact List.Sublist.slnil | apply List.Sublist.cons_cons | apply List.Sublist.cons)))⟩
 case round =>
   clear M wc
   obtain ⟨i, hi0, hi1, rfl, M⟩ := hrel
   obtain ⟨wc, rfl⟩ : ∃ x : World, x = wr := ⟨_, rfl⟩
   have m1 := mul_bd hi0 (by omega) (by omega : 0 ≤ j.a1) (by omega)
   have m2 := mul_bd hi0 (by omega) (by omega : 0 ≤ j.a0) (by omega)
   by_cases hlt : i < t
   · have e1 := mul_suc i j.a1
     have e2 := mul_suc i j.a0
     have E : Hid (Value.int .i64 (j.t0 - i * j.a1 - j.a1) = .int .i64 (j.t0 - (i + 1) * j.a1) ∧ Value.int .i64 (j.t1 - i * j.a0 - j.a0) = .int .i64 (j.t1 - (i + 1) * j.a0)) := ⟨by rw [e1]; congr 1; omega, by rw [e2]; congr 1; omega⟩
     clear e1 e2
     go_wp2_with (first | (refine m_ld1 M rfl rfl rfl (by (repeat' (first | exact Zz2 | refine Zz1 ?_))) (by rfl) ?_) | (refine m_ldr M rfl rfl rfl (by (repeat' (first | exact Zz2 | refine Zz1 ?_))) (by (try simp only [Zy2, List.take_zero, List.take_nil, Zy1, List.drop_zero, List.drop_nil, List.cons_append, List.nil_append, List.append_nil, List.length_cons, List.length_nil, Nat.reduceAdd, Nat.zero_add, Nat.add_zero]); rfl) (by rfl) ?_) | (refine m_st M rfl rfl rfl (by first | exact (rfl : _ = Value.agg _) | exact (rfl : _ = Value.int _ _) | exact (rfl : _ = Value.bool _) | exact (rfl : _ = Value.slice _ _ _) | exact (rfl : _ = Value.pointer _) | exact (rfl : _ = Value.map _) | exact (rfl : _ = Value.func _ _ _) | exact (rfl : _ = Value.string _)) (by rfl) (by (repeat (first | exact Upd.head | apply Upd.tail))) (by (try simp only [Zy2, List.take_zero, List.take_nil, Zy1, List.drop_zero, List.drop_nil, List.cons_append, List.nil_append, List.append_nil, List.length_cons, List.length_nil, Nat.reduceAdd, Nat.zero_add, Nat.add_zero]); rfl) (by simp) (by simp [Value.oneCell']) (by kernel_rfl) ?_; clear M; (try clear wc); intro wc M) | (refine m_al M rfl rfl ?_; clear M; (try clear wc); intro g wc M) | (refine m_bx M rfl rfl (by first | exact (rfl : _ = Value.agg _) | exact (rfl : _ = Value.int _ _) | exact (rfl : _ = Value.bool _) | exact (rfl : _ = Value.slice _ _ _) | exact (rfl : _ = Value.pointer _) | exact (rfl : _ = Value.map _) | exact (rfl : _ = Value.func _ _ _) | exact (rfl : _ = Value.string _)) (by rfl) ?_; clear M; (try clear wc); intro g wc M) | (go_at_call 246; ((with_reducible refine (less_any _ _ _ _ _ (by omega) (by omega) (by omega) (by omega)).mono ?_); skip; rintro e wc ⟨rfl, hb⟩; replace M := M.call hb; clear hb)))
     go_roundw
     case rel => exact ⟨i + 1, by omega, by omega, rfl, by rw [E.out.1, E.out.2] at M; exact M⟩
     case measure => simp [intOf]; omega
   · have ei : t = i := (by omega); subst ei
     go_wp2_with (first | (refine m_ld1 M rfl rfl rfl (by (repeat' (first | exact Zz2 | refine Zz1 ?_))) (by rfl) ?_) | (refine m_ldr M rfl rfl rfl (by (repeat' (first | exact Zz2 | refine Zz1 ?_))) (by (try simp only [Zy2, List.take_zero, List.take_nil, Zy1, List.drop_zero, List.drop_nil, List.cons_append, List.nil_append, List.append_nil, List.length_cons, List.length_nil, Nat.reduceAdd, Nat.zero_add, Nat.add_zero]); rfl) (by rfl) ?_) | (refine m_st M rfl rfl rfl (by first | exact (rfl : _ = Value.agg _) | exact (rfl : _ = Value.int _ _) | exact (rfl : _ = Value.bool _) | exact (rfl : _ = Value.slice _ _ _) | exact (rfl : _ = Value.pointer _) | exact (rfl : _ = Value.map _) | exact (rfl : _ = Value.func _ _ _) | exact (rfl : _ = Value.string _)) (by rfl) (by (repeat (first | exact Upd.head | apply Upd.tail))) (by (try simp only [Zy2, List.take_zero, List.take_nil, Zy1, List.drop_zero, List.drop_nil, List.cons_append, List.nil_append, List.append_nil, List.length_cons, List.length_nil, Nat.reduceAdd, Nat.zero_add, Nat.add_zero]); rfl) (by simp) (by simp [Value.oneCell']) (by kernel_rfl) ?_; clear M; (try clear wc); intro wc M) | (refine m_al M rfl rfl ?_; clear M; (try clear wc); intro g wc M) | (refine m_bx M rfl rfl (by first | exact (rfl : _ = Value.agg _) | exact (rfl : _ = Value.int _ _) | exact (rfl : _ = Value.bool _) | exact (rfl : _ = Value.slice _ _ _) | exact (rfl : _ = Value.pointer _) | exact (rfl : _ = Value.map _) | exact (rfl : _ = Value.func _ _ _) | exact (rfl : _ = Value.string _)) (by rfl) ?_; clear M; (try clear wc); intro g wc M))
     go_loopw [58] (fun v wr => ∃ i : Int, 0 ≤ i ∧ i ≤ r + 1 ∧ v = .int .i64 i ∧ Mem w noEx wr [(gS, .cells [.int .i64 p0, .int .i64 p1, .int .i64 (j.t0 - t * j.a1), .int .i64 (j.t1 - t * j.a0), .int .i64 (j.r0 - i * j.b1), .int .i64 (j.r1 - i * j.b0), .int .i64 j.u0, .int .i64 j.u1, .int .i64 j.d0, .int .i64 j.d1, .int .i64 j.a0, .int .i64 j.a1, .int .i64 j.b0, .int .i64 j.b1, .int .i64 j.le]), (gR, .cells [.int .i64 0, .int .i64 0, .int .i64 0, .int .i64 0, .int .i64 0]), (gK, .cells [.int .i64 (p0 - j.d1), .int .i64 (p1 - j.d0), .int .i64 (t), .int .i64 (r + 1), .int .i64 (lf - 1)])]) (fun v _ => (r + 1 - intOf v).toNat)
     case atStart => exact ⟨0, by omega, by omega, rfl, by simp only [Int.zero_mul, Int.sub_zero] at M ⊢; exact M⟩
     case round =>
       clear M wc
       obtain ⟨i, hi0, hi1, rfl, M⟩ := hrel
       obtain ⟨wc, rfl⟩ : ∃ x : World, x = wr := ⟨_, rfl⟩
       have m3 := mul_bd hi0 (by omega) (by omega : 0 ≤ j.b1) (by omega)
       have m4 := mul_bd hi0 (by omega) (by omega : 0 ≤ j.b0) (by omega)
       by_cases hlt : i < r + 1
       · have e1 := mul_suc i j.b1
         have e2 := mul_suc i j.b0
         have E : Hid (Value.int .i64 (j.r0 - i * j.b1 - j.b1) = .int .i64 (j.r0 - (i + 1) * j.b1) ∧ Value.int .i64 (j.r1 - i * j.b0 - j.b0) = .int .i64 (j.r1 - (i + 1) * j.b0)) := ⟨by rw [e1]; congr 1; omega, by rw [e2]; congr 1; omega⟩
         clear e1 e2
         go_wp2_with (first | (refine m_ld1 M rfl rfl rfl (by (repeat' (first | exact Zz2 | refine Zz1 ?_))) (by rfl) ?_) | (refine m_ldr M rfl rfl rfl (by (repeat' (first | exact Zz2 | refine Zz1 ?_))) (by (try simp only [Zy2, List.take_zero, List.take_nil, Zy1, List.drop_zero, List.drop_nil, List.cons_append, List.nil_append, List.append_nil, List.length_cons, List.length_nil, Nat.reduceAdd, Nat.zero_add, Nat.add_zero]); rfl) (by rfl) ?_) | (refine m_st M rfl rfl rfl (by first | exact (rfl : _ = Value.agg _) | exact (rfl : _ = Value.int _ _) | exact (rfl : _ = Value.bool _) | exact (rfl : _ = Value.slice _ _ _) | exact (rfl : _ = Value.pointer _) | exact (rfl : _ = Value.map _) | exact (rfl : _ = Value.func _ _ _) | exact (rfl : _ = Value.string _)) (by rfl) (by (repeat (first | exact Upd.head | apply Upd.tail))) (by (try simp only [Zy2, List.take_zero, List.take_nil, Zy1, List.drop_zero, List.drop_nil, List.cons_append, List.nil_append, List.append_nil, List.length_cons, List.length_nil, Nat.reduceAdd, Nat.zero_add, Nat.add_zero]); rfl) (by simp) (by simp [Value.oneCell']) (by kernel_rfl) ?_; clear M; (try clear wc); intro wc M) | (refine m_al M rfl rfl ?_; clear M; (try clear wc); intro g wc M) | (refine m_bx M rfl rfl (by first | exact (rfl : _ = Value.agg _) | exact (rfl : _ = Value.int _ _) | exact (rfl : _ = Value.bool _) | exact (rfl : _ = Value.slice _ _ _) | exact (rfl : _ = Value.pointer _) | exact (rfl : _ = Value.map _) | exact (rfl : _ = Value.func _ _ _) | exact (rfl : _ = Value.string _)) (by rfl) ?_; clear M; (try clear wc); intro g wc M) | (go_at_call 246; ((with_reducible refine (less_any _ _ _ _ _ (by omega) (by omega) (by omega) (by omega)).mono ?_); skip; rintro e wc ⟨rfl, hb⟩; replace M := M.call hb; clear hb)))
         go_roundw
         case rel => exact ⟨i + 1, by omega, by omega, rfl, by rw [E.out.1, E.out.2] at M; exact M⟩
         case measure => simp [intOf]; omega
       · have ei : r + 1 = i := (by omega); subst ei
         go_wp2_with (first | (refine m_ld1 M rfl rfl rfl (by (repeat' (first | exact Zz2 | refine Zz1 ?_))) (by rfl) ?_) | (refine m_ldr M rfl rfl rfl (by (repeat' (first | exact Zz2 | refine Zz1 ?_))) (by (try simp only [Zy2, List.take_zero, List.take_nil, Zy1, List.drop_zero, List.drop_nil, List.cons_append, List.nil_append, List.append_nil, List.length_cons, List.length_nil, Nat.reduceAdd, Nat.zero_add, Nat.add_zero]); rfl) (by rfl) ?_) | (refine m_st M rfl rfl rfl (by first | exact (rfl : _ = Value.agg _) | exact (rfl : _ = Value.int _ _) | exact (rfl : _ = Value.bool _) | exact (rfl : _ = Value.slice _ _ _) | exact (rfl : _ = Value.pointer _) | exact (rfl : _ = Value.map _) | exact (rfl : _ = Value.func _ _ _) | exact (rfl : _ = Value.string _)) (by rfl) (by (repeat (first | exact Upd.head | apply Upd.tail))) (by (try simp only [Zy2, List.take_zero, List.take_nil, Zy1, List.drop_zero, List.drop_nil, List.cons_append, List.nil_append, List.append_nil, List.length_cons, List.length_nil, Nat.reduceAdd, Nat.zero_add, Nat.add_zero]); rfl) (by simp) (by simp [Value.oneCell']) (by kernel_rfl) ?_; clear M; (try clear wc); intro wc M) | (refine m_al M rfl rfl ?_; clear M; (try clear wc); intro g wc M) | (refine m_bx M rfl rfl (by first | exact (rfl : _ = Value.agg _) | exact (rfl : _ = Value.int _ _) | exact (rfl : _ = Value.bool _) | exact (rfl : _ = Value.slice _ _ _) | exact (rfl : _ = Value.pointer _) | exact (rfl : _ = Value.map _) | exact (rfl : _ = Value.func _ _ _) | exact (rfl : _ = Value.string _)) (by rfl) ?_; clear M; (try clear wc); intro g wc M))
         refine wp_region_G (fun L W => (L.getD 4 true = false → Mem w noEx W [(gS, .cells [.int .i64 p0, .int .i64 p1, .int .i64 (j.t0 - t * j.a1), .int .i64 (j.t1 - t * j.a0), .int .i64 (j.r0 - (r + 1) * j.b1), .int .i64 (j.r1 - (r + 1) * j.b0), .int .i64 j.u0, .int .i64 j.u1, .int .i64 j.d0, .int .i64 j.d1, .int .i64 j.a0, .int .i64 j.a1, .int .i64 j.b0, .int .i64 j.b1, .int .i64 j.le]), (gR, .cells [.int .i64 0, .int .i64 0, .int .i64 0, .int .i64 0, .int .i64 0]), (gK, .cells [.int .i64 (p0 - j.d1), .int .i64 (p1 - j.d0), .int .i64 (t), .int .i64 (r + 1), .int .i64 (lf - 1)])]) ∧ (L.getD 4 true = true → Mem w noEx W [(gS, .cells [.int .i64 p0, .int .i64 p1, .int .i64 (j.t0 - t * j.a1), .int .i64 (j.t1 - t * j.a0), .int .i64 (j.r0 - (r + 1) * j.b1), .int .i64 (j.r1 - (r + 1) * j.b0), .int .i64 j.u0, .int .i64 j.u1, .int .i64 j.d0, .int .i64 j.d1, .int .i64 j.a0, .int .i64 j.a1, .int .i64 j.b0, .int .i64 j.b1, .int .i64 j.le]), (gR, .cells [.int .i64 (p0 - j.d1), .int .i64 (p1 - j.d0), .int .i64 (t), .int .i64 (r + 1), .int .i64 (lf - 1)]), (gK, .cells [.int .i64 (p0 - j.d1), .int .i64 (p1 - j.d0), .int .i64 (t), .int .i64 (r + 1), .int .i64 (lf - 1)])])) 6 (by kernel_rfl) (by kernel_rfl) ?s0 ?r0
         case s0 => (exact ⟨fun _ => M.drew, fun h => (no_of h (by kernel_rfl)).elim⟩)
         intro W0
         refine wpG_take (i := 0) (v := ?v1) rfl (by kernel_rfl) (by intro L w; simp only [getD_set_ne true (show (0 : Nat) ≠ 4 from by decide)]) (fun _ _ _ h => h) (Or.inl ⟨by rfl, ?y1⟩) ?r1
         case y1 => (intro w' hy; obtain ⟨L, hD, hl, hS⟩ := hy; have M0 := hS.1 (hD.wait (i := 0) (by kernel_rfl) hl); clear hS; first | (refine Eq.trans (Zro (Mem.get M0 (by (repeat' (first | exact Zz2 | refine Zz1 ?_)))) rfl rfl (by rfl)) ?_; with_reducible rfl) | (refine Eq.trans (rn_row (Mem.get M0 (by (repeat' (first | exact Zz2 | refine Zz1 ?_)))) rfl rfl (by (try simp only [Zy2, List.take_zero, List.take_nil, Zy1, List.drop_zero, List.drop_nil, List.cons_append, List.nil_append, List.append_nil, List.length_cons, List.length_nil, Nat.reduceAdd, Nat.zero_add, Nat.add_zero]); rfl) (by rfl)) ?_; with_reducible rfl); (try with_reducible rfl))
         (try simp only [Act.put, Zz3, Zz4, Zz5, Zz6, Zz7, Zz8])
         refine wpG_take (i := 1) (v := ?v2) rfl (by kernel_rfl) (by intro L w; simp only [getD_set_ne true (show (1 : Nat) ≠ 4 from by decide)]) (fun _ _ _ h => h) (Or.inl ⟨by rfl, ?y2⟩) ?r2
         case y2 => (intro w' hy; obtain ⟨L, hD, hl, hS⟩ := hy; have M0 := hS.1 (hD.wait (i := 2) (by kernel_rfl) (hD.wait (m := 2) (i := 1) (by kernel_rfl) hl)); clear hS; first | (refine Eq.trans (Zro (Mem.get M0 (by (repeat' (first | exact Zz2 | refine Zz1 ?_)))) rfl rfl (by rfl)) ?_; with_reducible rfl) | (refine Eq.trans (rn_row (Mem.get M0 (by (repeat' (first | exact Zz2 | refine Zz1 ?_)))) rfl rfl (by (try simp only [Zy2, List.take_zero, List.take_nil, Zy1, List.drop_zero, List.drop_nil, List.cons_append, List.nil_append, List.append_nil, List.length_cons, List.length_nil, Nat.reduceAdd, Nat.zero_add, Nat.add_zero]); rfl) (by rfl)) ?_; with_reducible rfl); (try with_reducible rfl))
         (try simp only [Act.put, Zz3, Zz4, Zz5, Zz6, Zz7, Zz8])
         refine wpG_step (i := 2) (by kernel_rfl) rfl (by rfl) ?r3
         intro hS K hK
         (have M0 := hS.1 (by kernel_rfl); clear hS; go_simp; refine (spoiled_any (thinJ j p0 p1 (t) (r + 1)) _).mono ?_; rintro e V1 ⟨rfl, hb1⟩; refine hK.out _ _ ⟨fun _ => M0.call hb1, fun h => (no_of h (by kernel_rfl)).elim⟩ ?_; clear M0 hb1)
         clear hK K; intro W3
         (try simp only [Act.put, Zz3, Zz4, Zz5, Zz6, Zz7, Zz8])
         refine wpG_take (i := 3) (v := ?v4) rfl (by kernel_rfl) (by intro L w; simp only [getD_set_ne true (show (3 : Nat) ≠ 4 from by decide)]) (fun _ _ _ h => h) (Or.inl ⟨by rfl, ?y4⟩) ?r4
         case y4 => (intro w' hy; obtain ⟨L, hD, hl, hS⟩ := hy; clear hD hl hS; go_simp; (try with_reducible rfl))
         (try simp only [Act.put, Zz3, Zz4, Zz5, Zz6, Zz7, Zz8])
         refine wpG_step (i := 4) (by kernel_rfl) rfl (by rfl) ?r5
         intro hS K hK
         (have M0 := hS.1 (by kernel_rfl); clear hS; refine m_stw M0 rfl rfl (by first | exact (rfl : _ = Value.agg _) | exact (rfl : _ = Value.int _ _) | exact (rfl : _ = Value.bool _) | exact (rfl : _ = Value.slice _ _ _) | exact (rfl : _ = Value.pointer _) | exact (rfl : _ = Value.map _) | exact (rfl : _ = Value.func _ _ _) | exact (rfl : _ = Value.string _)) (by rfl) (by (repeat (first | exact Upd.head | apply Upd.tail))) (by (try simp only [Zy2, List.take_zero, List.take_nil, Zy1, List.drop_zero, List.drop_nil, List.cons_append, List.nil_append, List.append_nil, List.length_cons, List.length_nil, Nat.reduceAdd, Nat.zero_add, Nat.add_zero]); rfl) (by simp) (by simp [Value.oneCell']) (by kernel_rfl) ?_; intro V2 M2; refine hK.out _ _ ⟨fun h => (no_of (by kernel_rfl) h).elim, fun _ => M2⟩ ?_; clear M0 M2)
         clear hK K; intro W5
         (try simp only [Act.put, Zz3, Zz4, Zz5, Zz6, Zz7, Zz8])
         refine wpG_take (i := 5) (v := ?v6) rfl (by kernel_rfl) (by intro L w; simp only [getD_set_ne true (show (5 : Nat) ≠ 4 from by decide)]) (fun _ _ _ h => h) (Or.inl ⟨by rfl, ?y6⟩) ?r6
         case y6 => (intro w' hy; obtain ⟨L, hD, hl, hS⟩ := hy; clear hD hl hS; go_simp; (try with_reducible rfl))
         (try simp only [Act.put, Zz3, Zz4, Zz5, Zz6, Zz7, Zz8])
         refine wpG_end (by kernel_rfl) ?_
         intro W
          hS
         have M1 := hS.2 (by kernel_rfl)
         clear hS
         go_wp2
         refine ret_M1 (t := 6) (t' := 7) (ty := 183) M1 (by rfl) (by rfl) (by rfl) (by rfl) (by (repeat' (first | exact Zz2 | refine Zz1 ?_))) (by rfl) ?_
         exact ⟨rfl, M1.below⟩
section
open Go.RowKit Go.Shelf
attribute [local go_sem] Oper.semAt_some
def stopsP (j : Jb) (s0 s1 : Int) : Nat → Int → Int → Int → Int → Bool
 | 0, p0, p1, _, _ => hasB s0 s1 p0 p1
 | n + 1, p0, p1, t, r => hasB s0 s1 p0 p1 || ((okT j (t + 1) r && (rdgs (p0 + j.u0) (p1 + j.u1) j.me).all fun x => stopsP j s0 s1 n x.1 x.2 (t + 1) r) || (okT j t (r + 1) && (rdgs (p0 - j.d1) (p1 - j.d0) j.me).all fun x => stopsP j s0 s1 n x.1 x.2 t (r + 1)))
def readsP (j : Jb) (s0 s1 : Int) (n : Nat) (p0 p1 t r : Int) : Bool := (rdgs p0 p1 j.me).all fun x => stopsP j s0 s1 n x.1 x.2 t r
def strokeP (j : Jb) (s0 s1 : Int) : Nat → Int → Int → Int → Int → Int
 | 0, _, _, _, _ => 0
 | n + 1, p0, p1, t, r => if (okT j (t + 1) r && readsP j s0 s1 n (p0 + j.u0) (p1 + j.u1) (t + 1) r) = true then 1 else if (okT j t (r + 1) && readsP j s0 s1 n (p0 - j.d1) (p1 - j.d0) t (r + 1)) = true then 2 else 0
theorem stopsP_eq (j : Jb) (s0 s1 : Int) (n : Nat) (p0 p1 t r : Int) : stopsP j s0 s1 n p0 p1 t r = (hasB s0 s1 p0 p1 || decide (0 < strokeP j s0 s1 n p0 p1 t r)) := by
 cases n with
 | zero => simp [stopsP, strokeP]
 | succ n =>
  show (hasB s0 s1 p0 p1 || ((okT j (t + 1) r && readsP j s0 s1 n (p0 + j.u0) (p1 + j.u1) (t + 1) r) || (okT j t (r + 1) && readsP j s0 s1 n (p0 - j.d1) (p1 - j.d0) t (r + 1)))) = (hasB s0 s1 p0 p1 || decide (0 < (if (okT j (t + 1) r && readsP j s0 s1 n (p0 + j.u0) (p1 + j.u1) (t + 1) r) = true then (1 : Int) else if (okT j t (r + 1) && readsP j s0 s1 n (p0 - j.d1) (p1 - j.d0) t (r + 1)) = true then 2 else 0)))
  generalize (okT j (t + 1) r && readsP j s0 s1 n (p0 + j.u0) (p1 + j.u1) (t + 1) r) = x
  generalize (okT j t (r + 1) && readsP j s0 s1 n (p0 - j.d1) (p1 - j.d0) t (r + 1)) = y
  cases x <;> cases y <;> rfl
def okG (j : Jb) (s0 s1 : Int) (key v : Value) : Prop := ∀ (p0 p1 t r : Int) (n : Nat), key = kn5 p0 p1 t r n → v = .bool (stopsP j s0 s1 n p0 p1 t r)
def memG (j : Jb) (s0 s1 : Int) : BA := .any (memoQ Tryz.prog 183 (okG j s0 s1))
structure Bnd (n : Nat) (p0 p1 t r : Int) : Prop where
 lv : n ≤ 10
 p0 : -(100000 - 100 * (n : Int)) ≤ p0 ∧ p0 ≤ 100000 - 100 * (n : Int)
 p1 : -(100000 - 100 * (n : Int)) ≤ p1 ∧ p1 ≤ 100000 - 100 * (n : Int)
 t : 0 ≤ t ∧ t ≤ 900 - (n : Int)
 r : 0 ≤ r ∧ r ≤ 900 - (n : Int)
structure Gm (j : Jb) (A : Option Addr) (c : Nat) (s0 s1 : Int) (bg bx bm : Nat) (w : World) : Prop where
 g : Bk w bg (gmA j A c s0 s1 bg bx).toArray
 x : Bk w bx #[.map (some bm)]
 m : (memG j s0 s1).holds w bm
 ng : bg ≠ bm
 nx : bx ≠ bm
def GPost (j : Jb) (s0 s1 : Int) (bm : Nat) (v : Value) (w : World) (e : Ending) (w' : World) : Prop := e = .returned v ∧ w.grownBy w' (some bm) ∧ (memG j s0 s1).holds w' bm
def StopsC (j : Jb) (A : Option Addr) (c : Nat) (s0 s1 : Int) (bg bx bm : Nat) (n : Nat) : Prop :=
 ∀ (p0 p1 t r : Int) (w : World), Bnd n p0 p1 t r → Gm j A c s0 s1 bg bx bm w →
  Calls Tryz.prog 200 #[kn5 p0 p1 t r n, .pointer (some ⟨bg, 0, none⟩), .pointer (some ⟨bx, 0, none⟩)] w (GPost j s0 s1 bm (.bool (stopsP j s0 s1 n p0 p1 t r)) w)
section
variable {j : Jb} {A : Option Addr} {c : Nat} {s0 s1 : Int} {bg bx bm : Nat} {w w' : World}
theorem Gm.kept (h : Gm j A c s0 s1 bg bx bm w) (hg : w.grownBy w' (some bm)) (hm : (memG j s0 s1).holds w' bm) : Gm j A c s0 s1 bg bx bm w' :=
 ⟨h.g.grown hg (fun e => h.ng (by injection e)), h.x.grown hg (fun e => h.nx (by injection e)), hm, h.ng, h.nx⟩
end
def allS (j : Jb) (s0 s1 : Int) (n : Nat) (t r : Int) {B : Int} (pre : List (Rg B)) : Bool := (pre.map Subtype.val).all fun x => stopsP j s0 s1 n x.1 x.2 t r
theorem allS_snoc (j : Jb) (s0 s1 : Int) (n : Nat) (t r : Int) {B : Int} (pre : List (Rg B)) (x : Rg B) : allS j s0 s1 n t r (pre ++ [x]) = (allS j s0 s1 n t r pre && stopsP j s0 s1 n x.1.1 x.1.2 t r) := by simp [allS]
theorem reads_any (j : Jb) (A : Option Addr) (c : Nat) (s0 s1 : Int) (bg bx bm : Nat) (n : Nat) (hj : j.good) (hS : StopsC j A c s0 s1 bg bx bm n) (p0 p1 t r : Int) (w : World) (hb : Bnd n p0 p1 t r) (hg : Gm j A c s0 s1 bg bx bm w) :
  Calls Tryz.prog 111 #[.agg (gmA j A c s0 s1 bg bx).toArray, kn5 p0 p1 t r n] w (GPost j s0 s1 bm (.bool (readsP j s0 s1 n p0 p1 t r)) w) := by
 have HS := Lib.hid hS
 have HG := Lib.hid hg
 have HB := Lib.hid hb
 have M := Mem.initEx hg.m
 clear hS hg hb
 refine (callsIn_wide (n := 8)).1 (callsIn_of_wp_marks Tryz.func111 rfl trivial (wpIn_wide.2 ?_) rfl)
 simp only [Tryz.ntmps111, List.size_toArray, List.length_cons, List.length_nil, Nat.reduceAdd, Nat.reduceSub, Array.replicate_succ, Array.replicate_zero, List.push_toArray, List.append_toArray, List.nil_append, List.cons_append]
 refine m_start M ?_
 clear M
 intro wc M
 go_wp2_with (first | (refine m_ld1 M rfl rfl rfl (by (repeat' (first | exact Zz2 | refine Zz1 ?_))) (by rfl) ?_) | (refine m_ldr M rfl rfl rfl (by (repeat' (first | exact Zz2 | refine Zz1 ?_))) (by (try simp only [Zy2, List.take_zero, List.take_nil, Zy1, List.drop_zero, List.drop_nil, List.cons_append, List.nil_append, List.append_nil, List.length_cons, List.length_nil, Nat.reduceAdd, Nat.zero_add, Nat.add_zero]); rfl) (by rfl) ?_) | (refine m_st M rfl rfl rfl (by first | exact (rfl : _ = Value.agg _) | exact (rfl : _ = Value.int _ _) | exact (rfl : _ = Value.bool _) | exact (rfl : _ = Value.slice _ _ _) | exact (rfl : _ = Value.pointer _) | exact (rfl : _ = Value.map _) | exact (rfl : _ = Value.func _ _ _) | exact (rfl : _ = Value.string _)) (by rfl) (by (repeat (first | exact Upd.head | apply Upd.tail))) (by (try simp only [Zy2, List.take_zero, List.take_nil, Zy1, List.drop_zero, List.drop_nil, List.cons_append, List.nil_append, List.append_nil, List.length_cons, List.length_nil, Nat.reduceAdd, Nat.zero_add, Nat.add_zero]); rfl) (by simp) (by simp [Value.oneCell']) (by kernel_rfl) ?_; clear M; (try clear wc); intro wc M) | (refine m_al M rfl rfl ?_; clear M; (try clear wc); intro g wc M) | (refine m_bx M rfl rfl (by first | exact (rfl : _ = Value.agg _) | exact (rfl : _ = Value.int _ _) | exact (rfl : _ = Value.bool _) | exact (rfl : _ = Value.slice _ _ _) | exact (rfl : _ = Value.pointer _) | exact (rfl : _ = Value.map _) | exact (rfl : _ = Value.func _ _ _) | exact (rfl : _ = Value.string _)) (by rfl) ?_; clear M; (try clear wc); intro g wc M))
 apply wp_scope_straight
 go_wp2_with (first | (refine m_ld1 M rfl rfl rfl (by (repeat' (first | exact Zz2 | refine Zz1 ?_))) (by rfl) ?_) | (refine m_ldr M rfl rfl rfl (by (repeat' (first | exact Zz2 | refine Zz1 ?_))) (by (try simp only [Zy2, List.take_zero, List.take_nil, Zy1, List.drop_zero, List.drop_nil, List.cons_append, List.nil_append, List.append_nil, List.length_cons, List.length_nil, Nat.reduceAdd, Nat.zero_add, Nat.add_zero]); rfl) (by rfl) ?_) | (refine m_st M rfl rfl rfl (by first | exact (rfl : _ = Value.agg _) | exact (rfl : _ = Value.int _ _) | exact (rfl : _ = Value.bool _) | exact (rfl : _ = Value.slice _ _ _) | exact (rfl : _ = Value.pointer _) | exact (rfl : _ = Value.map _) | exact (rfl : _ = Value.func _ _ _) | exact (rfl : _ = Value.string _)) (by rfl) (by (repeat (first | exact Upd.head | apply Upd.tail))) (by (try simp only [Zy2, List.take_zero, List.take_nil, Zy1, List.drop_zero, List.drop_nil, List.cons_append, List.nil_append, List.append_nil, List.length_cons, List.length_nil, Nat.reduceAdd, Nat.zero_add, Nat.add_zero]); rfl) (by simp) (by simp [Value.oneCell']) (by kernel_rfl) ?_; clear M; (try clear wc); intro wc M) | (refine m_al M rfl rfl ?_; clear M; (try clear wc); intro g wc M) | (refine m_bx M rfl rfl (by first | exact (rfl : _ = Value.agg _) | exact (rfl : _ = Value.int _ _) | exact (rfl : _ = Value.bool _) | exact (rfl : _ = Value.slice _ _ _) | exact (rfl : _ = Value.pointer _) | exact (rfl : _ = Value.map _) | exact (rfl : _ = Value.func _ _ _) | exact (rfl : _ = Value.string _)) (by rfl) ?_; clear M; (try clear wc); intro g wc M))
 apply wp_label
 go_wp2_with (first | (refine m_ld1 M rfl rfl rfl (by (repeat' (first | exact Zz2 | refine Zz1 ?_))) (by rfl) ?_) | (refine m_ldr M rfl rfl rfl (by (repeat' (first | exact Zz2 | refine Zz1 ?_))) (by (try simp only [Zy2, List.take_zero, List.take_nil, Zy1, List.drop_zero, List.drop_nil, List.cons_append, List.nil_append, List.append_nil, List.length_cons, List.length_nil, Nat.reduceAdd, Nat.zero_add, Nat.add_zero]); rfl) (by rfl) ?_) | (refine m_st M rfl rfl rfl (by first | exact (rfl : _ = Value.agg _) | exact (rfl : _ = Value.int _ _) | exact (rfl : _ = Value.bool _) | exact (rfl : _ = Value.slice _ _ _) | exact (rfl : _ = Value.pointer _) | exact (rfl : _ = Value.map _) | exact (rfl : _ = Value.func _ _ _) | exact (rfl : _ = Value.string _)) (by rfl) (by (repeat (first | exact Upd.head | apply Upd.tail))) (by (try simp only [Zy2, List.take_zero, List.take_nil, Zy1, List.drop_zero, List.drop_nil, List.cons_append, List.nil_append, List.append_nil, List.length_cons, List.length_nil, Nat.reduceAdd, Nat.zero_add, Nat.add_zero]); rfl) (by simp) (by simp [Value.oneCell']) (by kernel_rfl) ?_; clear M; (try clear wc); intro wc M) | (refine m_al M rfl rfl ?_; clear M; (try clear wc); intro g wc M) | (refine m_bx M rfl rfl (by first | exact (rfl : _ = Value.agg _) | exact (rfl : _ = Value.int _ _) | exact (rfl : _ = Value.bool _) | exact (rfl : _ = Value.slice _ _ _) | exact (rfl : _ = Value.pointer _) | exact (rfl : _ = Value.map _) | exact (rfl : _ = Value.func _ _ _) | exact (rfl : _ = Value.string _)) (by rfl) ?_; clear M; (try clear wc); intro g wc M) | (go_at_call 202; refine (readings_any _ _ _ _).mono ?_; rintro e wc ⟨b1, b2, rfl, N⟩; replace M := M.join N; clear N; simp only [List.cons_append, List.nil_append] at M))
 rename_i gG gK wq K0 hK0
 have hnd := M.nd
 simp only [List.map_cons, List.map_nil, List.nodup_cons, List.mem_cons, not_or, List.not_mem_nil, not_false_eq_true, List.nodup_nil, and_true] at hnd
 obtain ⟨⟨-, -, -, -, nx2⟩, ⟨-, -, -, nx1⟩, ⟨-, -, nxA⟩, -⟩ := hnd
 have hz0 := M.size
 have q1 := M.get (g := b1) (by (repeat' (first | exact Zz2 | refine Zz1 ?_)))
 have q2 := M.get (g := b2) (by (repeat' (first | exact Zz2 | refine Zz1 ?_)))
 replace M := M.forget.forget
 have hL : ∀ p ∈ [(g, BA.cells [.bool true]), (gK, .cells [.int .i64 p0, .int .i64 p1, .int .i64 t, .int .i64 r, .int .i64 n]), (gG, .cells (gmA j A c s0 s1 bg bx)), (bm, memG j s0 s1)], p.1 < wc.heap.size := fun p hp => BA.lt (M.blk p hp).2
 have hL' : ∀ p ∈ [(g, BA.cells [.bool false]), (gK, .cells [.int .i64 p0, .int .i64 p1, .int .i64 t, .int .i64 r, .int .i64 n]), (gG, .cells (gmA j A c s0 s1 bg bx)), (bm, memG j s0 s1)], p.1 < wc.heap.size := by
  intro p hp
  rcases List.mem_cons.1 hp with rfl | hp
  ·exact hL (g, BA.cells [.bool true]) Zz2
  ·exact hL p (Zz1 hp)
 have hlm : bm < wc.heap.size := hL (bm, memG j s0 s1) (by (repeat' (first | exact Zz2 | refine Zz1 ?_)))
 have hlg : g < wc.heap.size := hL (g, BA.cells [.bool true]) (by (repeat' (first | exact Zz2 | refine Zz1 ?_)))
 obtain ⟨hlv, hb0, hb1, hbt, hbr⟩ := HB.out
 have hme := hj.me
 refine (wpIn_wide (n := 8)).1 (wpIn_rangeFunc_ownH (α := Rg (100000 - 100 * (n : Int))) rfl (by omega) (gf := 247) (lb := #[.pointer (some ⟨b1, 0, none⟩), .pointer (some ⟨b2, 0, none⟩)]) rfl trivial (enters_of Tryz.func247 (by kernel_rfl) rfl)
  (readings_stops 7 (by omega) b1 b2 wc.heap.size bm p0 p1 j.me _ (by omega) (by omega) hb0 hb1 (by omega) (by omega) q1.lt q2.lt nx1 nx2 wc q1 q2)
  (fun h k => Kp.t h k) (fun W l o o' hl h _ _ => ⟨by simp, fun b hb _ => World.putObj_heap_other (by omega)⟩) (Below.refl _ _) (fun _ => rfl)
  (fun pre W => Mem w (fun b => b = bm) W [(g, BA.cells [.bool true]), (gK, .cells [.int .i64 p0, .int .i64 p1, .int .i64 t, .int .i64 r, .int .i64 n]), (gG, .cells (gmA j A c s0 s1 bg bx)), (bm, memG j s0 s1)] ∧ Hid (allS j s0 s1 n t r pre = true) ∧ wc.heap.size ≤ W.heap.size)
  (fun cd pre W => cd = .exit 0 ∧ Mem w (fun b => b = bm) W [(g, BA.cells [.bool false]), (gK, .cells [.int .i64 p0, .int .i64 p1, .int .i64 t, .int .i64 r, .int .i64 n]), (gG, .cells (gmA j A c s0 s1 bg bx)), (bm, memG j s0 s1)] ∧ Hid (allS j s0 s1 n t r pre = false) ∧ wc.heap.size ≤ W.heap.size)
  (fun s W W' row hs hg hr => ⟨hs.1.far hg (fun r e => (hr r e).1) hz0 hL, hs.2.1, Nat.le_trans hs.2.2 hg.size⟩)
  (fun cd s W W' row hs hg hr => ⟨hs.1, hs.2.1.far hg (fun r e => (hr r e).1) hz0 hL', hs.2.2.1, Nat.le_trans hs.2.2.2 hg.size⟩)
  ⟨M, rfl, Nat.le_refl _⟩
  (fun x a' W => ∃ gx, Bk W gx #[.int .i64 x.1.1, .int .i64 x.1.2] ∧ a' = { tmps := #[.agg (gmA j A c s0 s1 bg bx).toArray, kn5 p0 p1 t r n, .pointer (some ⟨gG, 0, none⟩), .pointer (some ⟨gK, 0, none⟩), .bool false, .pointer (some ⟨g, 0, none⟩), .pointer (some ⟨gx, 0, none⟩), .pointer (some ⟨gK, 0, none⟩), R2 p0 p1, .pointer (some ⟨gG, 0, none⟩), .pointer (some ⟨gG, 17, none⟩), .int .i64 j.me, .func (.func 247) #[] #[.pointer (some ⟨b1, 0, none⟩), .pointer (some ⟨b2, 0, none⟩)], R2 x.1.1 x.1.2, undef, undef, undef, undef, undef, undef, undef, undef, undef, undef, undef, undef, undef], defers := [] })
  (fun x a' _ W W' row hs hg hr => by
   obtain ⟨gx, bX, rfl⟩ := hs
   refine ⟨gx, bX.grown hg (fun e => ?_), rfl⟩
   obtain ⟨_, o, ho, hc⟩ := hr gx e.symm
   have h1 := bX.cell 0
   simp only [World.cell?, ho] at h1
   cases o <;> simp [Obj.isCells] at hc h1)
  ?assign ?body ?done ?stop)
 case assign =>
  rintro l pre x W K ⟨M1, hp, hz⟩ hK
  gi_wp2
  exact hK _ _ ((KeepsOthers.alloc _ _).from _) ⟨by simp, fun b hb _ => (MapKept.heap_alloc W _).2 b (by omega)⟩ ⟨M1.alloc _, hp, by simp; omega⟩ ⟨W.heap.size, Bk.new W _ _, rfl⟩
 case body =>
  rintro l pre x a' W hl - ⟨M, hp, hz⟩ ⟨gx, bX, rfl⟩ hlt
  have C := HS.out x.1.1 x.1.2 t r W ⟨hlv, x.2.1, x.2.2, hbt, hbr⟩ (HG.out.kept M.grown (M.at (q := (bm, memG j s0 s1)) (by (repeat' (first | exact Zz2 | refine Zz1 ?_)))))
  have HP : Hid (allS j s0 s1 n t r (pre ++ [x]) = stopsP j s0 s1 n x.1.1 x.1.2 t r) := by (show _ = _; rw [allS_snoc, hp.out]; simp)
  cases hv : stopsP j s0 s1 n x.1.1 x.1.2 t r with
  | true =>
   rw [hv] at C HP
   clear hv
   gi_wp2_with (first | (refine i_ld1 M rfl rfl rfl (by (repeat' (first | exact Zz2 | refine Zz1 ?_))) (by rfl) ?_) | (refine i_ldr M rfl rfl rfl (by (repeat' (first | exact Zz2 | refine Zz1 ?_))) (by (try simp only [Zy2, List.take_zero, List.take_nil, Zy1, List.drop_zero, List.drop_nil, List.cons_append, List.nil_append, List.append_nil, List.length_cons, List.length_nil, Nat.reduceAdd, Nat.zero_add, Nat.add_zero]); rfl) (by rfl) ?_) | (refine i_al M rfl rfl ?_; clear M; (try clear wc); intro g wc M) | (refine i_bx M rfl rfl (by first | exact (rfl : _ = Value.agg _) | exact (rfl : _ = Value.int _ _) | exact (rfl : _ = Value.bool _) | exact (rfl : _ = Value.slice _ _ _) | exact (rfl : _ = Value.pointer _) | exact (rfl : _ = Value.map _) | exact (rfl : _ = Value.func _ _ _) | exact (rfl : _ = Value.string _)) (by rfl) ?_; clear M; (try clear wc); intro g wc M) | (refine i_st M rfl rfl rfl (by first | exact (rfl : _ = Value.agg _) | exact (rfl : _ = Value.int _ _) | exact (rfl : _ = Value.bool _) | exact (rfl : _ = Value.slice _ _ _) | exact (rfl : _ = Value.pointer _) | exact (rfl : _ = Value.map _) | exact (rfl : _ = Value.func _ _ _) | exact (rfl : _ = Value.string _)) (by rfl) (by (repeat (first | exact Upd.head | apply Upd.tail))) (by (try simp only [Zy2, List.take_zero, List.take_nil, Zy1, List.drop_zero, List.drop_nil, List.cons_append, List.nil_append, List.append_nil, List.length_cons, List.length_nil, Nat.reduceAdd, Nat.zero_add, Nat.add_zero]); rfl) (by simp) (by simp [Value.oneCell']) (by kernel_rfl) ?_; clear M; (try clear wc); intro wc M oth; clear oth) | (refine i_lor bX rfl rfl rfl (by (try simp only [Zy2, List.take_zero, List.take_nil, Zy1, List.drop_zero, List.drop_nil, List.cons_append, List.nil_append, List.append_nil, List.length_cons, List.length_nil, Nat.reduceAdd, Nat.zero_add, Nat.add_zero]); rfl) (by rfl) ?_) | (refine ⟨trivial, ?_⟩; gi_at_call 200; refine (CallsIn.inRound l (callsIn_wide.2 C)).mono ?_; rintro e W2 ⟨rfl, hgr, hm⟩; replace M := M.callW (L' := [(g, BA.cells [.bool true]), (gK, .cells [.int .i64 p0, .int .i64 p1, .int .i64 t, .int .i64 r, .int .i64 n]), (gG, .cells (gmA j A c s0 s1 bg bx)), (bm, memG j s0 s1)]) (by (repeat (first | exact Upd.head | apply Upd.tail))) hgr hm))
   exact ⟨KeepsFrom.of_grownBy hgr (fun i e => by cases e; exact hlm), ⟨hgr.size, fun b hb hx => hgr.block b (by omega) (fun e => hx (by injection e))⟩, M, HP, Nat.le_trans hz hgr.size⟩
  | false =>
   rw [hv] at C HP
   clear hv
   gi_wp2_with (first | (refine i_st M rfl rfl rfl (by first | exact (rfl : _ = Value.agg _) | exact (rfl : _ = Value.int _ _) | exact (rfl : _ = Value.bool _) | exact (rfl : _ = Value.slice _ _ _) | exact (rfl : _ = Value.pointer _) | exact (rfl : _ = Value.map _) | exact (rfl : _ = Value.func _ _ _) | exact (rfl : _ = Value.string _)) (by rfl) (by (repeat (first | exact Upd.head | apply Upd.tail))) (by (try simp only [Zy2, List.take_zero, List.take_nil, Zy1, List.drop_zero, List.drop_nil, List.cons_append, List.nil_append, List.append_nil, List.length_cons, List.length_nil, Nat.reduceAdd, Nat.zero_add, Nat.add_zero]); rfl) (by simp) (by simp [Value.oneCell']) (by kernel_rfl) ?_; clear M; intro W3 M oth) | (refine i_ld1 M rfl rfl rfl (by (repeat' (first | exact Zz2 | refine Zz1 ?_))) (by rfl) ?_) | (refine i_ldr M rfl rfl rfl (by (repeat' (first | exact Zz2 | refine Zz1 ?_))) (by (try simp only [Zy2, List.take_zero, List.take_nil, Zy1, List.drop_zero, List.drop_nil, List.cons_append, List.nil_append, List.append_nil, List.length_cons, List.length_nil, Nat.reduceAdd, Nat.zero_add, Nat.add_zero]); rfl) (by rfl) ?_) | (refine i_al M rfl rfl ?_; clear M; (try clear wc); intro g wc M) | (refine i_bx M rfl rfl (by first | exact (rfl : _ = Value.agg _) | exact (rfl : _ = Value.int _ _) | exact (rfl : _ = Value.bool _) | exact (rfl : _ = Value.slice _ _ _) | exact (rfl : _ = Value.pointer _) | exact (rfl : _ = Value.map _) | exact (rfl : _ = Value.func _ _ _) | exact (rfl : _ = Value.string _)) (by rfl) ?_; clear M; (try clear wc); intro g wc M) | (refine i_st M rfl rfl rfl (by first | exact (rfl : _ = Value.agg _) | exact (rfl : _ = Value.int _ _) | exact (rfl : _ = Value.bool _) | exact (rfl : _ = Value.slice _ _ _) | exact (rfl : _ = Value.pointer _) | exact (rfl : _ = Value.map _) | exact (rfl : _ = Value.func _ _ _) | exact (rfl : _ = Value.string _)) (by rfl) (by (repeat (first | exact Upd.head | apply Upd.tail))) (by (try simp only [Zy2, List.take_zero, List.take_nil, Zy1, List.drop_zero, List.drop_nil, List.cons_append, List.nil_append, List.append_nil, List.length_cons, List.length_nil, Nat.reduceAdd, Nat.zero_add, Nat.add_zero]); rfl) (by simp) (by simp [Value.oneCell']) (by kernel_rfl) ?_; clear M; (try clear wc); intro wc M oth; clear oth) | (refine i_lor bX rfl rfl rfl (by (try simp only [Zy2, List.take_zero, List.take_nil, Zy1, List.drop_zero, List.drop_nil, List.cons_append, List.nil_append, List.append_nil, List.length_cons, List.length_nil, Nat.reduceAdd, Nat.zero_add, Nat.add_zero]); rfl) (by rfl) ?_) | (refine ⟨trivial, ?_⟩; gi_at_call 200; refine (CallsIn.inRound l (callsIn_wide.2 C)).mono ?_; rintro e W2 ⟨rfl, hgr, hm⟩; replace M := M.callW (L' := [(g, BA.cells [.bool true]), (gK, .cells [.int .i64 p0, .int .i64 p1, .int .i64 t, .int .i64 r, .int .i64 n]), (gG, .cells (gmA j A c s0 s1 bg bx)), (bm, memG j s0 s1)]) (by (repeat (first | exact Upd.head | apply Upd.tail))) hgr hm))
   have hk3 : KeepsFrom wc.heap.size W2 W3 := ⟨by rw [oth.size]; exact Nat.le_refl _, fun k o hk h _ => (oth.block k (by omega)).trans h⟩
   exact ⟨(KeepsFrom.of_grownBy hgr (fun i e => by cases e; exact hlm)).trans hk3, rfl, M, HP, by rw [oth.size]; exact Nat.le_trans hz hgr.size⟩
 case done =>
  rintro D ys W hD hS ⟨M, hp, -⟩ hK
  go_wp2_with (first | (refine m_ld1 M rfl rfl rfl (by (repeat' (first | exact Zz2 | refine Zz1 ?_))) (by rfl) ?_) | (refine m_ldr M rfl rfl rfl (by (repeat' (first | exact Zz2 | refine Zz1 ?_))) (by (try simp only [Zy2, List.take_zero, List.take_nil, Zy1, List.drop_zero, List.drop_nil, List.cons_append, List.nil_append, List.append_nil, List.length_cons, List.length_nil, Nat.reduceAdd, Nat.zero_add, Nat.add_zero]); rfl) (by rfl) ?_) | (refine m_st M rfl rfl rfl (by first | exact (rfl : _ = Value.agg _) | exact (rfl : _ = Value.int _ _) | exact (rfl : _ = Value.bool _) | exact (rfl : _ = Value.slice _ _ _) | exact (rfl : _ = Value.pointer _) | exact (rfl : _ = Value.map _) | exact (rfl : _ = Value.func _ _ _) | exact (rfl : _ = Value.string _)) (by rfl) (by (repeat (first | exact Upd.head | apply Upd.tail))) (by (try simp only [Zy2, List.take_zero, List.take_nil, Zy1, List.drop_zero, List.drop_nil, List.cons_append, List.nil_append, List.append_nil, List.length_cons, List.length_nil, Nat.reduceAdd, Nat.zero_add, Nat.add_zero]); rfl) (by simp) (by simp [Value.oneCell']) (by kernel_rfl) ?_; clear M; (try clear wc); intro wc M) | (refine m_al M rfl rfl ?_; clear M; (try clear wc); intro g wc M) | (refine m_bx M rfl rfl (by first | exact (rfl : _ = Value.agg _) | exact (rfl : _ = Value.int _ _) | exact (rfl : _ = Value.bool _) | exact (rfl : _ = Value.slice _ _ _) | exact (rfl : _ = Value.pointer _) | exact (rfl : _ = Value.map _) | exact (rfl : _ = Value.func _ _ _) | exact (rfl : _ = Value.string _)) (by rfl) ?_; clear M; (try clear wc); intro g wc M))
  rw [Exit.noGoto_ret]
  have M2 := M.far (grownBy_putObj' W D (.deferred none)) (n0 := wc.heap.size) (fun r e => by cases e; exact hD) hz0 hL
  have hv : readsP j s0 s1 n p0 p1 t r = true := by rw [← hp.out]; unfold readsP allS; rw [← hS]
  refine ⟨by simp, .inl ⟨_, _, rfl, run_takeDeferred hK, _, results_tmp rfl _ _ _, ?_⟩⟩
  rw [hv]
  exact ⟨rfl, M2.grown, M2.at (q := (bm, memG j s0 s1)) (by (repeat' (first | exact Zz2 | refine Zz1 ?_)))⟩
 case stop =>
  rintro D cd pre W hD hSp ⟨rfl, M, hp, -⟩ hK
  refine wpIn_wide.2 ?_
  go_wp2_with (first | (refine m_ld1 M rfl rfl rfl (by (repeat' (first | exact Zz2 | refine Zz1 ?_))) (by rfl) ?_) | (refine m_ldr M rfl rfl rfl (by (repeat' (first | exact Zz2 | refine Zz1 ?_))) (by (try simp only [Zy2, List.take_zero, List.take_nil, Zy1, List.drop_zero, List.drop_nil, List.cons_append, List.nil_append, List.append_nil, List.length_cons, List.length_nil, Nat.reduceAdd, Nat.zero_add, Nat.add_zero]); rfl) (by rfl) ?_) | (refine m_st M rfl rfl rfl (by first | exact (rfl : _ = Value.agg _) | exact (rfl : _ = Value.int _ _) | exact (rfl : _ = Value.bool _) | exact (rfl : _ = Value.slice _ _ _) | exact (rfl : _ = Value.pointer _) | exact (rfl : _ = Value.map _) | exact (rfl : _ = Value.func _ _ _) | exact (rfl : _ = Value.string _)) (by rfl) (by (repeat (first | exact Upd.head | apply Upd.tail))) (by (try simp only [Zy2, List.take_zero, List.take_nil, Zy1, List.drop_zero, List.drop_nil, List.cons_append, List.nil_append, List.append_nil, List.length_cons, List.length_nil, Nat.reduceAdd, Nat.zero_add, Nat.add_zero]); rfl) (by simp) (by simp [Value.oneCell']) (by kernel_rfl) ?_; clear M; (try clear wc); intro wc M) | (refine m_al M rfl rfl ?_; clear M; (try clear wc); intro g wc M) | (refine m_bx M rfl rfl (by first | exact (rfl : _ = Value.agg _) | exact (rfl : _ = Value.int _ _) | exact (rfl : _ = Value.bool _) | exact (rfl : _ = Value.slice _ _ _) | exact (rfl : _ = Value.pointer _) | exact (rfl : _ = Value.map _) | exact (rfl : _ = Value.func _ _ _) | exact (rfl : _ = Value.string _)) (by rfl) ?_; clear M; (try clear wc); intro g wc M))
  rw [Exit.noGoto_ret]
  have M2 := M.far (grownBy_putObj' W D (.deferred none)) (n0 := wc.heap.size) (fun r e => by cases e; exact hD) hz0 hL'
  have hv : readsP j s0 s1 n p0 p1 t r = false := by
   obtain ⟨s, hs⟩ := hSp
   have h2 := hp.out
   unfold allS at h2
   unfold readsP
   rw [← hs, List.all_append]
   rw [show (pre.map (fun x => x.1)) = pre.map Subtype.val from rfl, h2]
   rfl
  refine ⟨by simp, .inl ⟨_, _, rfl, run_takeDeferred hK, _, results_tmp rfl _ _ _, ?_⟩⟩
  rw [hv]
  exact ⟨rfl, M2.grown, M2.at (q := (bm, memG j s0 s1)) (by (repeat' (first | exact Zz2 | refine Zz1 ?_)))⟩
end
theorem movedT (j : Jb) (A : Option Addr) (c : Nat) (s0 s1 : Int) (bg bx : Nat) (p0 p1 t r : Int) (n : Nat) (w : World) (hg : j.good) (hb : Bnd (n + 1) p0 p1 t r) :
  Calls Tryz.prog 203 #[.agg (gmA j A c s0 s1 bg bx).toArray, kn5 p0 p1 t r ((n : Int) + 1), .int .i64 1] w fun e w' => e = .returned (.tuple #[kn5 (p0 + j.u0) (p1 + j.u1) (t + 1) r n, .bool (okT j (t + 1) r)]) ∧ Below w.heap.size w w' := by
 obtain ⟨h1, h2, h3, h4, h5⟩ := hb
 have h := moved_tip j A c s0 s1 bg bx p0 p1 t r ((n : Int) + 1) w hg (by omega) (by omega) (by omega) (by omega) (by omega)
 rw [show (n : Int) + 1 - 1 = n from by omega] at h
 exact h
theorem movedR (j : Jb) (A : Option Addr) (c : Nat) (s0 s1 : Int) (bg bx : Nat) (p0 p1 t r : Int) (n : Nat) (w : World) (hg : j.good) (hb : Bnd (n + 1) p0 p1 t r) :
  Calls Tryz.prog 203 #[.agg (gmA j A c s0 s1 bg bx).toArray, kn5 p0 p1 t r ((n : Int) + 1), .int .i64 2] w fun e w' => e = .returned (.tuple #[kn5 (p0 - j.d1) (p1 - j.d0) t (r + 1) n, .bool (okT j t (r + 1))]) ∧ Below w.heap.size w w' := by
 obtain ⟨h1, h2, h3, h4, h5⟩ := hb
 have h := moved_root j A c s0 s1 bg bx p0 p1 t r ((n : Int) + 1) w hg (by omega) (by omega) (by omega) (by omega) (by omega)
 rw [show (n : Int) + 1 - 1 = n from by omega] at h
 exact h
theorem bnd_tip {j : Jb} {n : Nat} {p0 p1 t r : Int} (hj : j.good) (h : Bnd (n + 1) p0 p1 t r) : Bnd n (p0 + j.u0) (p1 + j.u1) (t + 1) r := by
 obtain ⟨h1, h2, h3, h4, h5⟩ := h
 have := hj.u
 exact ⟨by omega, by omega, by omega, by omega, by omega⟩
theorem bnd_root {j : Jb} {n : Nat} {p0 p1 t r : Int} (hj : j.good) (h : Bnd (n + 1) p0 p1 t r) : Bnd n (p0 - j.d1) (p1 - j.d0) t (r + 1) := by
 obtain ⟨h1, h2, h3, h4, h5⟩ := h
 have := hj.d
 exact ⟨by omega, by omega, by omega, by omega, by omega⟩
theorem stroke_0 (j : Jb) (A : Option Addr) (c : Nat) (s0 s1 : Int) (bg bx bm : Nat) (p0 p1 t r : Int) (w : World) (hg : Gm j A c s0 s1 bg bx bm w) :
  Calls Tryz.prog 113 #[.agg (gmA j A c s0 s1 bg bx).toArray, kn5 p0 p1 t r 0] w (GPost j s0 s1 bm (.int .i64 0) w) := by
 have M := Mem.initEx hg.m
 clear hg
 go_enter Tryz.func113, Tryz.ntmps113
 refine m_start M ?_
 clear M
 intro wc M
 go_wp2_with (first | (refine m_ld1 M rfl rfl rfl (by (repeat' (first | exact Zz2 | refine Zz1 ?_))) (by rfl) ?_) | (refine m_ldr M rfl rfl rfl (by (repeat' (first | exact Zz2 | refine Zz1 ?_))) (by (try simp only [Zy2, List.take_zero, List.take_nil, Zy1, List.drop_zero, List.drop_nil, List.cons_append, List.nil_append, List.append_nil, List.length_cons, List.length_nil, Nat.reduceAdd, Nat.zero_add, Nat.add_zero]); rfl) (by rfl) ?_) | (refine m_st M rfl rfl rfl (by first | exact (rfl : _ = Value.agg _) | exact (rfl : _ = Value.int _ _) | exact (rfl : _ = Value.bool _) | exact (rfl : _ = Value.slice _ _ _) | exact (rfl : _ = Value.pointer _) | exact (rfl : _ = Value.map _) | exact (rfl : _ = Value.func _ _ _) | exact (rfl : _ = Value.string _)) (by rfl) (by (repeat (first | exact Upd.head | apply Upd.tail))) (by (try simp only [Zy2, List.take_zero, List.take_nil, Zy1, List.drop_zero, List.drop_nil, List.cons_append, List.nil_append, List.append_nil, List.length_cons, List.length_nil, Nat.reduceAdd, Nat.zero_add, Nat.add_zero]); rfl) (by simp) (by simp [Value.oneCell']) (by kernel_rfl) ?_; clear M; (try clear wc); intro wc M) | (refine m_al M rfl rfl ?_; clear M; (try clear wc); intro g wc M) | (refine m_bx M rfl rfl (by first | exact (rfl : _ = Value.agg _) | exact (rfl : _ = Value.int _ _) | exact (rfl : _ = Value.bool _) | exact (rfl : _ = Value.slice _ _ _) | exact (rfl : _ = Value.pointer _) | exact (rfl : _ = Value.map _) | exact (rfl : _ = Value.func _ _ _) | exact (rfl : _ = Value.string _)) (by rfl) ?_; clear M; (try clear wc); intro g wc M))
 rename_i gG K0 hK0
 go_loopw [5] (fun v wr => v = .int .i64 1 ∧ Mem w (fun b => b = bm) wr [(g, .cells [.int .i64 p0, .int .i64 p1, .int .i64 t, .int .i64 r, .int .i64 0]), (gG, .cells (gmA j A c s0 s1 bg bx)), (bm, memG j s0 s1)]) (fun _ _ => 0)
 case atStart => exact ⟨rfl, M⟩
 case round =>
  clear M wc
  obtain ⟨rfl, M⟩ := hrel
  obtain ⟨wc, rfl⟩ : ∃ x : World, x = wr := ⟨_, rfl⟩
  go_wp2_with (first | (refine m_ld1 M rfl rfl rfl (by (repeat' (first | exact Zz2 | refine Zz1 ?_))) (by rfl) ?_) | (refine m_ldr M rfl rfl rfl (by (repeat' (first | exact Zz2 | refine Zz1 ?_))) (by (try simp only [Zy2, List.take_zero, List.take_nil, Zy1, List.drop_zero, List.drop_nil, List.cons_append, List.nil_append, List.append_nil, List.length_cons, List.length_nil, Nat.reduceAdd, Nat.zero_add, Nat.add_zero]); rfl) (by rfl) ?_) | (refine m_st M rfl rfl rfl (by first | exact (rfl : _ = Value.agg _) | exact (rfl : _ = Value.int _ _) | exact (rfl : _ = Value.bool _) | exact (rfl : _ = Value.slice _ _ _) | exact (rfl : _ = Value.pointer _) | exact (rfl : _ = Value.map _) | exact (rfl : _ = Value.func _ _ _) | exact (rfl : _ = Value.string _)) (by rfl) (by (repeat (first | exact Upd.head | apply Upd.tail))) (by (try simp only [Zy2, List.take_zero, List.take_nil, Zy1, List.drop_zero, List.drop_nil, List.cons_append, List.nil_append, List.append_nil, List.length_cons, List.length_nil, Nat.reduceAdd, Nat.zero_add, Nat.add_zero]); rfl) (by simp) (by simp [Value.oneCell']) (by kernel_rfl) ?_; clear M; (try clear wc); intro wc M) | (refine m_al M rfl rfl ?_; clear M; (try clear wc); intro g wc M) | (refine m_bx M rfl rfl (by first | exact (rfl : _ = Value.agg _) | exact (rfl : _ = Value.int _ _) | exact (rfl : _ = Value.bool _) | exact (rfl : _ = Value.slice _ _ _) | exact (rfl : _ = Value.pointer _) | exact (rfl : _ = Value.map _) | exact (rfl : _ = Value.func _ _ _) | exact (rfl : _ = Value.string _)) (by rfl) ?_; clear M; (try clear wc); intro g wc M))
  go_ret
  exact ⟨rfl, M.grown, (M.at (q := (bm, memG j s0 s1)) (by (repeat' (first | exact Zz2 | refine Zz1 ?_))))⟩
set_option maxHeartbeats 2000000 in
theorem stroke_s (j : Jb) (A : Option Addr) (c : Nat) (s0 s1 : Int) (bg bx bm : Nat) (n : Nat) (hj : j.good) (hS : StopsC j A c s0 s1 bg bx bm n) (p0 p1 t r : Int) (w : World) (hb : Bnd (n + 1) p0 p1 t r) (hg : Gm j A c s0 s1 bg bx bm w) :
  Calls Tryz.prog 113 #[.agg (gmA j A c s0 s1 bg bx).toArray, kn5 p0 p1 t r ((n : Int) + 1)] w (GPost j s0 s1 bm (.int .i64 (strokeP j s0 s1 (n + 1) p0 p1 t r)) w) := by
 have M := Mem.initEx hg.m
 have HS := Lib.hid hS
 have HG := Lib.hid hg
 have HB := Lib.hid hb
 have HJ := Lib.hid hj
 have HV : Hid (strokeP j s0 s1 (n + 1) p0 p1 t r = if (okT j (t + 1) r && readsP j s0 s1 n (p0 + j.u0) (p1 + j.u1) (t + 1) r) = true then 1 else if (okT j t (r + 1) && readsP j s0 s1 n (p0 - j.d1) (p1 - j.d0) t (r + 1)) = true then 2 else 0) := rfl
 generalize strokeP j s0 s1 (n + 1) p0 p1 t r = sv at *
 have hln : (0 : Int) < (n : Int) + 1 := by omega
 generalize ho1 : okT j (t + 1) r = o1 at *
 generalize ho2 : okT j t (r + 1) = o2 at *
 generalize hr1 : readsP j s0 s1 n (p0 + j.u0) (p1 + j.u1) (t + 1) r = v1 at *
 generalize hr2 : readsP j s0 s1 n (p0 - j.d1) (p1 - j.d0) t (r + 1) = v2 at *
 have HO1 := Lib.hid ho1
 have HO2 := Lib.hid ho2
 have HR1 := Lib.hid hr1
 have HR2 := Lib.hid hr2
 clear hS hg hb hj ho1 ho2 hr1 hr2
 go_enter Tryz.func113, Tryz.ntmps113
 refine m_start M ?_
 clear M
 intro wc M
 go_wp2_with (first | (refine m_ld1 M rfl rfl rfl (by (repeat' (first | exact Zz2 | refine Zz1 ?_))) (by rfl) ?_) | (refine m_ldr M rfl rfl rfl (by (repeat' (first | exact Zz2 | refine Zz1 ?_))) (by (try simp only [Zy2, List.take_zero, List.take_nil, Zy1, List.drop_zero, List.drop_nil, List.cons_append, List.nil_append, List.append_nil, List.length_cons, List.length_nil, Nat.reduceAdd, Nat.zero_add, Nat.add_zero]); rfl) (by rfl) ?_) | (refine m_st M rfl rfl rfl (by first | exact (rfl : _ = Value.agg _) | exact (rfl : _ = Value.int _ _) | exact (rfl : _ = Value.bool _) | exact (rfl : _ = Value.slice _ _ _) | exact (rfl : _ = Value.pointer _) | exact (rfl : _ = Value.map _) | exact (rfl : _ = Value.func _ _ _) | exact (rfl : _ = Value.string _)) (by rfl) (by (repeat (first | exact Upd.head | apply Upd.tail))) (by (try simp only [Zy2, List.take_zero, List.take_nil, Zy1, List.drop_zero, List.drop_nil, List.cons_append, List.nil_append, List.append_nil, List.length_cons, List.length_nil, Nat.reduceAdd, Nat.zero_add, Nat.add_zero]); rfl) (by simp) (by simp [Value.oneCell']) (by kernel_rfl) ?_; clear M; (try clear wc); intro wc M) | (refine m_al M rfl rfl ?_; clear M; (try clear wc); intro g wc M) | (refine m_bx M rfl rfl (by first | exact (rfl : _ = Value.agg _) | exact (rfl : _ = Value.int _ _) | exact (rfl : _ = Value.bool _) | exact (rfl : _ = Value.slice _ _ _) | exact (rfl : _ = Value.pointer _) | exact (rfl : _ = Value.map _) | exact (rfl : _ = Value.func _ _ _) | exact (rfl : _ = Value.string _)) (by rfl) ?_; clear M; (try clear wc); intro g wc M))
 rename_i gG K0 hK0
 go_loopw [5] (fun v wr => ∃ s : Int, v = .int .i64 s ∧ (s = 1 ∨ s = 2 ∨ s = 3) ∧ Hid (s = 1 ∨ (o1 && v1) = false) ∧ Hid (s = 3 → (o2 && v2) = false) ∧ Mem w (fun b => b = bm) wr [(g, .cells [.int .i64 p0, .int .i64 p1, .int .i64 t, .int .i64 r, .int .i64 ((n : Int) + 1)]), (gG, .cells (gmA j A c s0 s1 bg bx)), (bm, memG j s0 s1)]) (fun v _ => (3 - intOf v).toNat)
 case atStart => exact ⟨1, rfl, .inl rfl, .inl rfl, fun h => by omega, M⟩
 case round =>
  clear M wc
  obtain ⟨s, rfl, hs, h1, h2, M⟩ := hrel
  obtain ⟨wc, rfl⟩ : ∃ x : World, x = wr := ⟨_, rfl⟩
  rcases hs with rfl | rfl | rfl
  ·cases o1 with
   | false =>
    go_wp2_with (first | (refine m_ld1 M rfl rfl rfl (by (repeat' (first | exact Zz2 | refine Zz1 ?_))) (by rfl) ?_) | (refine m_ldr M rfl rfl rfl (by (repeat' (first | exact Zz2 | refine Zz1 ?_))) (by (try simp only [Zy2, List.take_zero, List.take_nil, Zy1, List.drop_zero, List.drop_nil, List.cons_append, List.nil_append, List.append_nil, List.length_cons, List.length_nil, Nat.reduceAdd, Nat.zero_add, Nat.add_zero]); rfl) (by rfl) ?_) | (refine m_st M rfl rfl rfl (by first | exact (rfl : _ = Value.agg _) | exact (rfl : _ = Value.int _ _) | exact (rfl : _ = Value.bool _) | exact (rfl : _ = Value.slice _ _ _) | exact (rfl : _ = Value.pointer _) | exact (rfl : _ = Value.map _) | exact (rfl : _ = Value.func _ _ _) | exact (rfl : _ = Value.string _)) (by rfl) (by (repeat (first | exact Upd.head | apply Upd.tail))) (by (try simp only [Zy2, List.take_zero, List.take_nil, Zy1, List.drop_zero, List.drop_nil, List.cons_append, List.nil_append, List.append_nil, List.length_cons, List.length_nil, Nat.reduceAdd, Nat.zero_add, Nat.add_zero]); rfl) (by simp) (by simp [Value.oneCell']) (by kernel_rfl) ?_; clear M; (try clear wc); intro wc M) | (refine m_al M rfl rfl ?_; clear M; (try clear wc); intro g wc M) | (refine m_bx M rfl rfl (by first | exact (rfl : _ = Value.agg _) | exact (rfl : _ = Value.int _ _) | exact (rfl : _ = Value.bool _) | exact (rfl : _ = Value.slice _ _ _) | exact (rfl : _ = Value.pointer _) | exact (rfl : _ = Value.map _) | exact (rfl : _ = Value.func _ _ _) | exact (rfl : _ = Value.string _)) (by rfl) ?_; clear M; (try clear wc); intro g wc M) | (go_at_call 203; ((with_reducible refine (movedT j A c s0 s1 bg bx p0 p1 t r n _ HJ.out HB.out).mono ?_); (rw [HO1.out]); rintro e wc ⟨rfl, hb⟩; replace M := M.call hb; clear hb)))
    go_roundw
    case rel => exact ⟨2, rfl, by simp, .inr rfl, (fun h => by omega), M.sub (by (repeat (first | exact List.Sublist.slnil | apply List.Sublist.cons_cons | apply List.Sublist.cons)))⟩
    case measure => decide
   | true =>
    cases v1 with
    | false =>
     go_wp2_with (first | (refine m_ld1 M rfl rfl rfl (by (repeat' (first | exact Zz2 | refine Zz1 ?_))) (by rfl) ?_) | (refine m_ldr M rfl rfl rfl (by (repeat' (first | exact Zz2 | refine Zz1 ?_))) (by (try simp only [Zy2, List.take_zero, List.take_nil, Zy1, List.drop_zero, List.drop_nil, List.cons_append, List.nil_append, List.append_nil, List.length_cons, List.length_nil, Nat.reduceAdd, Nat.zero_add, Nat.add_zero]); rfl) (by rfl) ?_) | (refine m_st M rfl rfl rfl (by first | exact (rfl : _ = Value.agg _) | exact (rfl : _ = Value.int _ _) | exact (rfl : _ = Value.bool _) | exact (rfl : _ = Value.slice _ _ _) | exact (rfl : _ = Value.pointer _) | exact (rfl : _ = Value.map _) | exact (rfl : _ = Value.func _ _ _) | exact (rfl : _ = Value.string _)) (by rfl) (by (repeat (first | exact Upd.head | apply Upd.tail))) (by (try simp only [Zy2, List.take_zero, List.take_nil, Zy1, List.drop_zero, List.drop_nil, List.cons_append, List.nil_append, List.append_nil, List.length_cons, List.length_nil, Nat.reduceAdd, Nat.zero_add, Nat.add_zero]); rfl) (by simp) (by simp [Value.oneCell']) (by kernel_rfl) ?_; clear M; (try clear wc); intro wc M) | (refine m_al M rfl rfl ?_; clear M; (try clear wc); intro g wc M) | (refine m_bx M rfl rfl (by first | exact (rfl : _ = Value.agg _) | exact (rfl : _ = Value.int _ _) | exact (rfl : _ = Value.bool _) | exact (rfl : _ = Value.slice _ _ _) | exact (rfl : _ = Value.pointer _) | exact (rfl : _ = Value.map _) | exact (rfl : _ = Value.func _ _ _) | exact (rfl : _ = Value.string _)) (by rfl) ?_; clear M; (try clear wc); intro g wc M) | (go_at_call 203; ((with_reducible refine (movedT j A c s0 s1 bg bx p0 p1 t r n _ HJ.out HB.out).mono ?_); (rw [HO1.out]); rintro e wc ⟨rfl, hb⟩; replace M := M.call hb; clear hb)) | (go_at_call 111; ((with_reducible refine (reads_any j A c s0 s1 bg bx bm n HJ.out HS.out (p0 + j.u0) (p1 + j.u1) (t + 1) r _ (bnd_tip HJ.out HB.out) (HG.out.kept M.grown (M.at (q := (bm, memG j s0 s1)) (by (repeat' (first | exact Zz2 | refine Zz1 ?_)))))).mono ?_); rintro e wc ⟨rfl, hgr, hm⟩; (rw [HR1.out]); replace M := M.callW (by (repeat (first | exact Upd.head | apply Upd.tail))) hgr hm; clear hgr hm)))
     go_roundw
     case rel => exact ⟨2, rfl, by simp, .inr rfl, (fun h => by omega), M.sub (by (repeat (first | exact List.Sublist.slnil | apply List.Sublist.cons_cons | apply List.Sublist.cons)))⟩
     case measure => decide
    | true =>
     go_wp2_with (first | (refine m_ld1 M rfl rfl rfl (by (repeat' (first | exact Zz2 | refine Zz1 ?_))) (by rfl) ?_) | (refine m_ldr M rfl rfl rfl (by (repeat' (first | exact Zz2 | refine Zz1 ?_))) (by (try simp only [Zy2, List.take_zero, List.take_nil, Zy1, List.drop_zero, List.drop_nil, List.cons_append, List.nil_append, List.append_nil, List.length_cons, List.length_nil, Nat.reduceAdd, Nat.zero_add, Nat.add_zero]); rfl) (by rfl) ?_) | (refine m_st M rfl rfl rfl (by first | exact (rfl : _ = Value.agg _) | exact (rfl : _ = Value.int _ _) | exact (rfl : _ = Value.bool _) | exact (rfl : _ = Value.slice _ _ _) | exact (rfl : _ = Value.pointer _) | exact (rfl : _ = Value.map _) | exact (rfl : _ = Value.func _ _ _) | exact (rfl : _ = Value.string _)) (by rfl) (by (repeat (first | exact Upd.head | apply Upd.tail))) (by (try simp only [Zy2, List.take_zero, List.take_nil, Zy1, List.drop_zero, List.drop_nil, List.cons_append, List.nil_append, List.append_nil, List.length_cons, List.length_nil, Nat.reduceAdd, Nat.zero_add, Nat.add_zero]); rfl) (by simp) (by simp [Value.oneCell']) (by kernel_rfl) ?_; clear M; (try clear wc); intro wc M) | (refine m_al M rfl rfl ?_; clear M; (try clear wc); intro g wc M) | (refine m_bx M rfl rfl (by first | exact (rfl : _ = Value.agg _) | exact (rfl : _ = Value.int _ _) | exact (rfl : _ = Value.bool _) | exact (rfl : _ = Value.slice _ _ _) | exact (rfl : _ = Value.pointer _) | exact (rfl : _ = Value.map _) | exact (rfl : _ = Value.func _ _ _) | exact (rfl : _ = Value.string _)) (by rfl) ?_; clear M; (try clear wc); intro g wc M) | (go_at_call 203; ((with_reducible refine (movedT j A c s0 s1 bg bx p0 p1 t r n _ HJ.out HB.out).mono ?_); (rw [HO1.out]); rintro e wc ⟨rfl, hb⟩; replace M := M.call hb; clear hb)) | (go_at_call 111; ((with_reducible refine (reads_any j A c s0 s1 bg bx bm n HJ.out HS.out (p0 + j.u0) (p1 + j.u1) (t + 1) r _ (bnd_tip HJ.out HB.out) (HG.out.kept M.grown (M.at (q := (bm, memG j s0 s1)) (by (repeat' (first | exact Zz2 | refine Zz1 ?_)))))).mono ?_); rintro e wc ⟨rfl, hgr, hm⟩; (rw [HR1.out]); replace M := M.callW (by (repeat (first | exact Upd.head | apply Upd.tail))) hgr hm; clear hgr hm)))
     go_ret
     exact ⟨ret_int (show sv = 1 from by rw [HV.out]; rfl).symm, M.grown, (M.at (q := (bm, memG j s0 s1)) (by (repeat' (first | exact Zz2 | refine Zz1 ?_))))⟩
  ·have h1' : Hid ((3 : Int) = 1 ∨ (o1 && v1) = false) := .inr (by have := h1.out; simpa using this)
   cases o2 with
   | false =>
    go_wp2_with (first | (refine m_ld1 M rfl rfl rfl (by (repeat' (first | exact Zz2 | refine Zz1 ?_))) (by rfl) ?_) | (refine m_ldr M rfl rfl rfl (by (repeat' (first | exact Zz2 | refine Zz1 ?_))) (by (try simp only [Zy2, List.take_zero, List.take_nil, Zy1, List.drop_zero, List.drop_nil, List.cons_append, List.nil_append, List.append_nil, List.length_cons, List.length_nil, Nat.reduceAdd, Nat.zero_add, Nat.add_zero]); rfl) (by rfl) ?_) | (refine m_st M rfl rfl rfl (by first | exact (rfl : _ = Value.agg _) | exact (rfl : _ = Value.int _ _) | exact (rfl : _ = Value.bool _) | exact (rfl : _ = Value.slice _ _ _) | exact (rfl : _ = Value.pointer _) | exact (rfl : _ = Value.map _) | exact (rfl : _ = Value.func _ _ _) | exact (rfl : _ = Value.string _)) (by rfl) (by (repeat (first | exact Upd.head | apply Upd.tail))) (by (try simp only [Zy2, List.take_zero, List.take_nil, Zy1, List.drop_zero, List.drop_nil, List.cons_append, List.nil_append, List.append_nil, List.length_cons, List.length_nil, Nat.reduceAdd, Nat.zero_add, Nat.add_zero]); rfl) (by simp) (by simp [Value.oneCell']) (by kernel_rfl) ?_; clear M; (try clear wc); intro wc M) | (refine m_al M rfl rfl ?_; clear M; (try clear wc); intro g wc M) | (refine m_bx M rfl rfl (by first | exact (rfl : _ = Value.agg _) | exact (rfl : _ = Value.int _ _) | exact (rfl : _ = Value.bool _) | exact (rfl : _ = Value.slice _ _ _) | exact (rfl : _ = Value.pointer _) | exact (rfl : _ = Value.map _) | exact (rfl : _ = Value.func _ _ _) | exact (rfl : _ = Value.string _)) (by rfl) ?_; clear M; (try clear wc); intro g wc M) | (go_at_call 203; ((with_reducible refine (movedR j A c s0 s1 bg bx p0 p1 t r n _ HJ.out HB.out).mono ?_); (rw [HO2.out]); rintro e wc ⟨rfl, hb⟩; replace M := M.call hb; clear hb)))
    go_roundw
    case rel => exact ⟨3, rfl, by simp, h1' , (fun _ => rfl), M.sub (by (repeat (first | exact List.Sublist.slnil | apply List.Sublist.cons_cons | apply List.Sublist.cons)))⟩
    case measure => decide
   | true =>
    cases v2 with
    | false =>
     go_wp2_with (first | (refine m_ld1 M rfl rfl rfl (by (repeat' (first | exact Zz2 | refine Zz1 ?_))) (by rfl) ?_) | (refine m_ldr M rfl rfl rfl (by (repeat' (first | exact Zz2 | refine Zz1 ?_))) (by (try simp only [Zy2, List.take_zero, List.take_nil, Zy1, List.drop_zero, List.drop_nil, List.cons_append, List.nil_append, List.append_nil, List.length_cons, List.length_nil, Nat.reduceAdd, Nat.zero_add, Nat.add_zero]); rfl) (by rfl) ?_) | (refine m_st M rfl rfl rfl (by first | exact (rfl : _ = Value.agg _) | exact (rfl : _ = Value.int _ _) | exact (rfl : _ = Value.bool _) | exact (rfl : _ = Value.slice _ _ _) | exact (rfl : _ = Value.pointer _) | exact (rfl : _ = Value.map _) | exact (rfl : _ = Value.func _ _ _) | exact (rfl : _ = Value.string _)) (by rfl) (by (repeat (first | exact Upd.head | apply Upd.tail))) (by (try simp only [Zy2, List.take_zero, List.take_nil, Zy1, List.drop_zero, List.drop_nil, List.cons_append, List.nil_append, List.append_nil, List.length_cons, List.length_nil, Nat.reduceAdd, Nat.zero_add, Nat.add_zero]); rfl) (by simp) (by simp [Value.oneCell']) (by kernel_rfl) ?_; clear M; (try clear wc); intro wc M) | (refine m_al M rfl rfl ?_; clear M; (try clear wc); intro g wc M) | (refine m_bx M rfl rfl (by first | exact (rfl : _ = Value.agg _) | exact (rfl : _ = Value.int _ _) | exact (rfl : _ = Value.bool _) | exact (rfl : _ = Value.slice _ _ _) | exact (rfl : _ = Value.pointer _) | exact (rfl : _ = Value.map _) | exact (rfl : _ = Value.func _ _ _) | exact (rfl : _ = Value.string _)) (by rfl) ?_; clear M; (try clear wc); intro g wc M) | (go_at_call 203; ((with_reducible refine (movedR j A c s0 s1 bg bx p0 p1 t r n _ HJ.out HB.out).mono ?_); (rw [HO2.out]); rintro e wc ⟨rfl, hb⟩; replace M := M.call hb; clear hb)) | (go_at_call 111; ((with_reducible refine (reads_any j A c s0 s1 bg bx bm n HJ.out HS.out (p0 - j.d1) (p1 - j.d0) t (r + 1) _ (bnd_root HJ.out HB.out) (HG.out.kept M.grown (M.at (q := (bm, memG j s0 s1)) (by (repeat' (first | exact Zz2 | refine Zz1 ?_)))))).mono ?_); rintro e wc ⟨rfl, hgr, hm⟩; (rw [HR2.out]); replace M := M.callW (by (repeat (first | exact Upd.head | apply Upd.tail))) hgr hm; clear hgr hm)))
     go_roundw
     case rel => exact ⟨3, rfl, by simp, h1' , (fun _ => rfl), M.sub (by (repeat (first | exact List.Sublist.slnil | apply List.Sublist.cons_cons | apply List.Sublist.cons)))⟩
     case measure => decide
    | true =>
     go_wp2_with (first | (refine m_ld1 M rfl rfl rfl (by (repeat' (first | exact Zz2 | refine Zz1 ?_))) (by rfl) ?_) | (refine m_ldr M rfl rfl rfl (by (repeat' (first | exact Zz2 | refine Zz1 ?_))) (by (try simp only [Zy2, List.take_zero, List.take_nil, Zy1, List.drop_zero, List.drop_nil, List.cons_append, List.nil_append, List.append_nil, List.length_cons, List.length_nil, Nat.reduceAdd, Nat.zero_add, Nat.add_zero]); rfl) (by rfl) ?_) | (refine m_st M rfl rfl rfl (by first | exact (rfl : _ = Value.agg _) | exact (rfl : _ = Value.int _ _) | exact (rfl : _ = Value.bool _) | exact (rfl : _ = Value.slice _ _ _) | exact (rfl : _ = Value.pointer _) | exact (rfl : _ = Value.map _) | exact (rfl : _ = Value.func _ _ _) | exact (rfl : _ = Value.string _)) (by rfl) (by (repeat (first | exact Upd.head | apply Upd.tail))) (by (try simp only [Zy2, List.take_zero, List.take_nil, Zy1, List.drop_zero, List.drop_nil, List.cons_append, List.nil_append, List.append_nil, List.length_cons, List.length_nil, Nat.reduceAdd, Nat.zero_add, Nat.add_zero]); rfl) (by simp) (by simp [Value.oneCell']) (by kernel_rfl) ?_; clear M; (try clear wc); intro wc M) | (refine m_al M rfl rfl ?_; clear M; (try clear wc); intro g wc M) | (refine m_bx M rfl rfl (by first | exact (rfl : _ = Value.agg _) | exact (rfl : _ = Value.int _ _) | exact (rfl : _ = Value.bool _) | exact (rfl : _ = Value.slice _ _ _) | exact (rfl : _ = Value.pointer _) | exact (rfl : _ = Value.map _) | exact (rfl : _ = Value.func _ _ _) | exact (rfl : _ = Value.string _)) (by rfl) ?_; clear M; (try clear wc); intro g wc M) | (go_at_call 203; ((with_reducible refine (movedR j A c s0 s1 bg bx p0 p1 t r n _ HJ.out HB.out).mono ?_); (rw [HO2.out]); rintro e wc ⟨rfl, hb⟩; replace M := M.call hb; clear hb)) | (go_at_call 111; ((with_reducible refine (reads_any j A c s0 s1 bg bx bm n HJ.out HS.out (p0 - j.d1) (p1 - j.d0) t (r + 1) _ (bnd_root HJ.out HB.out) (HG.out.kept M.grown (M.at (q := (bm, memG j s0 s1)) (by (repeat' (first | exact Zz2 | refine Zz1 ?_)))))).mono ?_); rintro e wc ⟨rfl, hgr, hm⟩; (rw [HR2.out]); replace M := M.callW (by (repeat (first | exact Upd.head | apply Upd.tail))) hgr hm; clear hgr hm)))
     go_ret
     exact ⟨ret_int (show sv = 2 from by (have h := h1'.out; rw [HV.out, if_neg (by simpa using h)]; rfl)).symm, M.grown, (M.at (q := (bm, memG j s0 s1)) (by (repeat' (first | exact Zz2 | refine Zz1 ?_))))⟩
  ·go_wp2_with (first | (refine m_ld1 M rfl rfl rfl (by (repeat' (first | exact Zz2 | refine Zz1 ?_))) (by rfl) ?_) | (refine m_ldr M rfl rfl rfl (by (repeat' (first | exact Zz2 | refine Zz1 ?_))) (by (try simp only [Zy2, List.take_zero, List.take_nil, Zy1, List.drop_zero, List.drop_nil, List.cons_append, List.nil_append, List.append_nil, List.length_cons, List.length_nil, Nat.reduceAdd, Nat.zero_add, Nat.add_zero]); rfl) (by rfl) ?_) | (refine m_st M rfl rfl rfl (by first | exact (rfl : _ = Value.agg _) | exact (rfl : _ = Value.int _ _) | exact (rfl : _ = Value.bool _) | exact (rfl : _ = Value.slice _ _ _) | exact (rfl : _ = Value.pointer _) | exact (rfl : _ = Value.map _) | exact (rfl : _ = Value.func _ _ _) | exact (rfl : _ = Value.string _)) (by rfl) (by (repeat (first | exact Upd.head | apply Upd.tail))) (by (try simp only [Zy2, List.take_zero, List.take_nil, Zy1, List.drop_zero, List.drop_nil, List.cons_append, List.nil_append, List.append_nil, List.length_cons, List.length_nil, Nat.reduceAdd, Nat.zero_add, Nat.add_zero]); rfl) (by simp) (by simp [Value.oneCell']) (by kernel_rfl) ?_; clear M; (try clear wc); intro wc M) | (refine m_al M rfl rfl ?_; clear M; (try clear wc); intro g wc M) | (refine m_bx M rfl rfl (by first | exact (rfl : _ = Value.agg _) | exact (rfl : _ = Value.int _ _) | exact (rfl : _ = Value.bool _) | exact (rfl : _ = Value.slice _ _ _) | exact (rfl : _ = Value.pointer _) | exact (rfl : _ = Value.map _) | exact (rfl : _ = Value.func _ _ _) | exact (rfl : _ = Value.string _)) (by rfl) ?_; clear M; (try clear wc); intro g wc M))
   go_ret
   have e : sv = 0 := by
    have h := h1.out
    have h' : (o2 && v2) = false := by first | exact h2.out rfl | exact h2.out | (have := h2.out; simpa using this)
    rw [HV.out, if_neg (by simpa using h), if_neg (by rw [h']; simp)]
   exact ⟨ret_int e.symm, M.grown, (M.at (q := (bm, memG j s0 s1)) (by (repeat' (first | exact Zz2 | refine Zz1 ?_))))⟩
theorem kn5_inj {p0 p1 t r a b c d : Int} {n m : Nat} (h : kn5 p0 p1 t r n = kn5 a b c d m) : p0 = a ∧ p1 = b ∧ t = c ∧ r = d ∧ n = m := by
 simp at h
 exact ⟨h.1, h.2.1, h.2.2.1, h.2.2.2.1, by have := h.2.2.2.2; omega⟩
theorem stops_of (j : Jb) (A : Option Addr) (c : Nat) (s0 s1 : Int) (bg bx bm : Nat) (n : Nat) (p0 p1 t r : Int) (w : World) (hb : Bnd n p0 p1 t r) (hg : Gm j A c s0 s1 bg bx bm w)
  (hs : ∀ w', Gm j A c s0 s1 bg bx bm w' → Calls Tryz.prog 113 #[.agg (gmA j A c s0 s1 bg bx).toArray, kn5 p0 p1 t r n] w' (GPost j s0 s1 bm (.int .i64 (strokeP j s0 s1 n p0 p1 t r)) w')) :
  Calls Tryz.prog 200 #[kn5 p0 p1 t r n, .pointer (some ⟨bg, 0, none⟩), .pointer (some ⟨bx, 0, none⟩)] w (GPost j s0 s1 bm (.bool (stopsP j s0 s1 n p0 p1 t r)) w) := by
 have M := Mem.initEx hg.m
 have HG := Lib.hid hg
 have HS := Lib.hid hs
 have HE := Lib.hid (stopsP_eq j s0 s1 n p0 p1 t r)
 obtain ⟨kl, hkl⟩ := Tryz.kn_key ⟨p0, p1, t, r, n⟩ (by obtain ⟨h1, h2, h3, h4, h5⟩ := hb; exact ⟨by dsimp only; omega, by dsimp only; omega, by dsimp only; omega, by dsimp only; omega, by dsimp only; omega⟩)
 have HK := Lib.hid hkl
 have HO : Hid (∀ v, okG j s0 s1 (kn5 p0 p1 t r n) v ↔ v = .bool (stopsP j s0 s1 n p0 p1 t r)) := by
  intro v
  refine ⟨fun h => h p0 p1 t r n rfl, fun h a b c d m e => ?_⟩
  obtain ⟨rfl, rfl, rfl, rfl, rfl⟩ := kn5_inj e
  exact h
 clear hg hs hkl hb
 generalize hst : stopsP j s0 s1 n p0 p1 t r = sv at *
 generalize hsk : strokeP j s0 s1 n p0 p1 t r = kv at *
 clear hst hsk
 cases hh : hasB s0 s1 p0 p1 with
 | true =>
  have HH := Lib.hid hh
  have HV : Hid (sv = true) := by show _ = _; rw [HE.out, hh]; rfl
  clear hh
  go_enter Tryz.func200, Tryz.ntmps200
  refine m_start M ?_
  clear M
  intro wc M
  go_wp2_with (first | (refine m_ld1 M rfl rfl rfl (by (repeat' (first | exact Zz2 | refine Zz1 ?_))) (by rfl) ?_) | (refine m_ldr M rfl rfl rfl (by (repeat' (first | exact Zz2 | refine Zz1 ?_))) (by (try simp only [Zy2, List.take_zero, List.take_nil, Zy1, List.drop_zero, List.drop_nil, List.cons_append, List.nil_append, List.append_nil, List.length_cons, List.length_nil, Nat.reduceAdd, Nat.zero_add, Nat.add_zero]); rfl) (by rfl) ?_) | (refine m_st M rfl rfl rfl (by first | exact (rfl : _ = Value.agg _) | exact (rfl : _ = Value.int _ _) | exact (rfl : _ = Value.bool _) | exact (rfl : _ = Value.slice _ _ _) | exact (rfl : _ = Value.pointer _) | exact (rfl : _ = Value.map _) | exact (rfl : _ = Value.func _ _ _) | exact (rfl : _ = Value.string _)) (by rfl) (by (repeat (first | exact Upd.head | apply Upd.tail))) (by (try simp only [Zy2, List.take_zero, List.take_nil, Zy1, List.drop_zero, List.drop_nil, List.cons_append, List.nil_append, List.append_nil, List.length_cons, List.length_nil, Nat.reduceAdd, Nat.zero_add, Nat.add_zero]); rfl) (by simp) (by simp [Value.oneCell']) (by kernel_rfl) ?_; clear M; (try clear wc); intro wc M) | (refine m_al M rfl rfl ?_; clear M; (try clear wc); intro g wc M) | (refine m_bx M rfl rfl (by first | exact (rfl : _ = Value.agg _) | exact (rfl : _ = Value.int _ _) | exact (rfl : _ = Value.bool _) | exact (rfl : _ = Value.slice _ _ _) | exact (rfl : _ = Value.pointer _) | exact (rfl : _ = Value.map _) | exact (rfl : _ = Value.func _ _ _) | exact (rfl : _ = Value.string _)) (by rfl) ?_; clear M; (try clear wc); intro g wc M) | (refine lo_row (M.old HG.out.g HG.out.ng) rfl rfl rfl (by (try simp only [Zy2, List.take_zero, List.take_nil, Zy1, List.drop_zero, List.drop_nil, List.cons_append, List.nil_append, List.append_nil, List.length_cons, List.length_nil, Nat.reduceAdd, Nat.zero_add, Nat.add_zero]); rfl) (by rfl) ?_) | (go_at_call 201; ((with_reducible refine (has_any _ _ _ _ _).mono ?_); (rw [HH.out]); rintro e wc ⟨rfl, hb⟩; replace M := M.call hb; clear hb)))
  go_ret
  rw [HV.out]
  exact ⟨rfl, M.grown, (M.at (q := (bm, memG j s0 s1)) (by (repeat' (first | exact Zz2 | refine Zz1 ?_))))⟩
 | false =>
  have HH := Lib.hid hh
  have HV : Hid (sv = decide (0 < kv)) := by show _ = _; rw [HE.out, hh]; rfl
  clear hh
  go_enter Tryz.func200, Tryz.ntmps200
  refine m_start M ?_
  clear M
  intro wc M
  go_wp2_with (first | (refine m_ld1 M rfl rfl rfl (by (repeat' (first | exact Zz2 | refine Zz1 ?_))) (by rfl) ?_) | (refine m_ldr M rfl rfl rfl (by (repeat' (first | exact Zz2 | refine Zz1 ?_))) (by (try simp only [Zy2, List.take_zero, List.take_nil, Zy1, List.drop_zero, List.drop_nil, List.cons_append, List.nil_append, List.append_nil, List.length_cons, List.length_nil, Nat.reduceAdd, Nat.zero_add, Nat.add_zero]); rfl) (by rfl) ?_) | (refine m_st M rfl rfl rfl (by first | exact (rfl : _ = Value.agg _) | exact (rfl : _ = Value.int _ _) | exact (rfl : _ = Value.bool _) | exact (rfl : _ = Value.slice _ _ _) | exact (rfl : _ = Value.pointer _) | exact (rfl : _ = Value.map _) | exact (rfl : _ = Value.func _ _ _) | exact (rfl : _ = Value.string _)) (by rfl) (by (repeat (first | exact Upd.head | apply Upd.tail))) (by (try simp only [Zy2, List.take_zero, List.take_nil, Zy1, List.drop_zero, List.drop_nil, List.cons_append, List.nil_append, List.append_nil, List.length_cons, List.length_nil, Nat.reduceAdd, Nat.zero_add, Nat.add_zero]); rfl) (by simp) (by simp [Value.oneCell']) (by kernel_rfl) ?_; clear M; (try clear wc); intro wc M) | (refine m_al M rfl rfl ?_; clear M; (try clear wc); intro g wc M) | (refine m_bx M rfl rfl (by first | exact (rfl : _ = Value.agg _) | exact (rfl : _ = Value.int _ _) | exact (rfl : _ = Value.bool _) | exact (rfl : _ = Value.slice _ _ _) | exact (rfl : _ = Value.pointer _) | exact (rfl : _ = Value.map _) | exact (rfl : _ = Value.func _ _ _) | exact (rfl : _ = Value.string _)) (by rfl) ?_; clear M; (try clear wc); intro g wc M) | (refine lo_row (M.old HG.out.g HG.out.ng) rfl rfl rfl (by (try simp only [Zy2, List.take_zero, List.take_nil, Zy1, List.drop_zero, List.drop_nil, List.cons_append, List.nil_append, List.append_nil, List.length_cons, List.length_nil, Nat.reduceAdd, Nat.zero_add, Nat.add_zero]); rfl) (by rfl) ?_) | (refine lo_one (cs := [.map (some bm)]) (M.old HG.out.x HG.out.nx) rfl rfl rfl (by rfl) ?_) | (go_at_call 201; ((with_reducible refine (has_any _ _ _ _ _).mono ?_); (rw [HH.out]); rintro e wc ⟨rfl, hb⟩; replace M := M.call hb; clear hb)) | ((refine lk (ok := okG j s0 s1) Tryz.keyed Tryz.underlying278 Tryz.zeroBool M rfl rfl rfl rfl (by (repeat' (first | exact Zz2 | refine Zz1 ?_))) HK.out ?_ ?_); (intro v hv; have hv := (HO.out v).1 hv; subst hv)) | (go_at_call 113; ((with_reducible refine (HS.out _ (HG.out.kept M.grown (M.at (q := (bm, memG j s0 s1)) (by (repeat' (first | exact Zz2 | refine Zz1 ?_)))))).mono ?_); rintro e wc ⟨rfl, hgr, hm⟩; skip; replace M := M.callW (by (repeat (first | exact Upd.head | apply Upd.tail))) hgr hm; clear hgr hm)) | (refine mu (ok := okG j s0 s1) Tryz.keyed Tryz.underlying278 M rfl rfl rfl rfl rfl (by (repeat (first | exact Upd.head | apply Upd.tail))) HK.out ((HO.out _).2 (by rw [HV.out]; rfl)) ?_; clear M; (try clear wc); intro wc M))
  ·go_ret
   exact ⟨rfl, M.grown, (M.at (q := (bm, memG j s0 s1)) (by (repeat' (first | exact Zz2 | refine Zz1 ?_))))⟩
  ·go_ret
   rw [HV.out]
   exact ⟨rfl, M.grown, (M.at (q := (bm, memG j s0 s1)) (by (repeat' (first | exact Zz2 | refine Zz1 ?_))))⟩
theorem stops_any (j : Jb) (A : Option Addr) (c : Nat) (s0 s1 : Int) (bg bx bm : Nat) (hj : j.good) : ∀ n, StopsC j A c s0 s1 bg bx bm n
 | 0 => fun p0 p1 t r w hb hg => stops_of j A c s0 s1 bg bx bm 0 p0 p1 t r w hb hg fun w' hg' => stroke_0 j A c s0 s1 bg bx bm p0 p1 t r w' hg'
 | n + 1 => fun p0 p1 t r w hb hg => stops_of j A c s0 s1 bg bx bm (n + 1) p0 p1 t r w hb hg fun w' hg' => stroke_s j A c s0 s1 bg bx bm n hj (stops_any j A c s0 s1 bg bx bm hj n) p0 p1 t r w' hb hg'
theorem stopsC (j : Jb) (A : Option Addr) (c : Nat) (s0 s1 : Int) (bg bx bm : Nat) (hj : j.good) (n : Nat) (p0 p1 t r : Int) (w : World) (hb : Bnd n p0 p1 t r) (hg : Gm j A c s0 s1 bg bx bm w) :
  Calls Tryz.prog 200 #[kn5 p0 p1 t r n, .pointer (some ⟨bg, 0, none⟩), .pointer (some ⟨bx, 0, none⟩)] w (GPost j s0 s1 bm (.bool (stopsP j s0 s1 n p0 p1 t r)) w) := stops_any j A c s0 s1 bg bx bm hj n p0 p1 t r w hb hg
theorem strokeC (j : Jb) (A : Option Addr) (c : Nat) (s0 s1 : Int) (bg bx bm : Nat) (hj : j.good) (n : Nat) (p0 p1 t r : Int) (w : World) (hb : Bnd n p0 p1 t r) (hg : Gm j A c s0 s1 bg bx bm w) :
  Calls Tryz.prog 113 #[.agg (gmA j A c s0 s1 bg bx).toArray, kn5 p0 p1 t r n] w (GPost j s0 s1 bm (.int .i64 (strokeP j s0 s1 n p0 p1 t r)) w) := by
 cases n with
 | zero => exact stroke_0 j A c s0 s1 bg bx bm p0 p1 t r w hg
 | succ n => exact stroke_s j A c s0 s1 bg bx bm n hj (stops_any j A c s0 s1 bg bx bm hj n) p0 p1 t r w hb hg
theorem readsC (j : Jb) (A : Option Addr) (c : Nat) (s0 s1 : Int) (bg bx bm : Nat) (hj : j.good) (n : Nat) (p0 p1 t r : Int) (w : World) (hb : Bnd n p0 p1 t r) (hg : Gm j A c s0 s1 bg bx bm w) :
  Calls Tryz.prog 111 #[.agg (gmA j A c s0 s1 bg bx).toArray, kn5 p0 p1 t r n] w (GPost j s0 s1 bm (.bool (readsP j s0 s1 n p0 p1 t r)) w) := reads_any j A c s0 s1 bg bx bm n hj (stops_any j A c s0 s1 bg bx bm hj n) p0 p1 t r w hb hg
def firstB (b : Nat → Bool) : Nat → Nat → Option Nat
 | 0, _ => none
 | k + 1, n => if b n = true then some n else firstB b k (n + 1)
theorem first_hit {b : Nat → Bool} {n : Nat} (hn : n < 5) (h : b n = true) : firstB b (5 - n) n = some n := by
 obtain ⟨k, hk⟩ : ∃ k, 5 - n = k + 1 := ⟨4 - n, by omega⟩
 rw [hk, firstB, if_pos h]
theorem first_miss {b : Nat → Bool} {n : Nat} (hn : n < 5) (h : b n = false) : firstB b (5 - n) n = firstB b (5 - (n + 1)) (n + 1) := by
 obtain ⟨k, hk⟩ : ∃ k, 5 - n = k + 1 := ⟨4 - n, by omega⟩
 have hk2 : 5 - (n + 1) = k := by omega
 rw [hk, firstB, if_neg (by rw [h]; simp), hk2]
theorem first_end {b : Nat → Bool} {n : Nat} (hn : 5 ≤ n) : firstB b (5 - n) n = none := by
 have : 5 - n = 0 := by omega
 rw [this]; rfl
theorem first_lt {b : Nat → Bool} : ∀ {k n m : Nat}, firstB b k n = some m → m < n + k
 | 0, _, _, h => by cases h
 | k + 1, n, m, h => by
  unfold firstB at h
  split at h
  ·injection h with h; omega
  ·have := first_lt h; omega
def fewV (o : Option Nat) : Value := match o with | some n => .tuple #[.int .i64 n, .bool true] | none => .tuple #[.int .i64 0, .bool false]
theorem fewest_Guided (j : Jb) (s0 s1 : Int) (bm gG gJ : Nat) (b : Nat → Bool) (Inv : World → Prop) (hI : ∀ W W', Inv W → W.grownBy W' (some bm) → (memG j s0 s1).holds W' bm → Inv W')
  (hf : ∀ (n : Nat) W, n < 5 → Inv W → Calls Tryz.prog 110 #[.int .i64 n, .pointer (some ⟨gG, 0, none⟩), .pointer (some ⟨gJ, 0, none⟩)] W (GPost j s0 s1 bm (.bool (b n)) W)) (w : World) (h0 : Inv w) (hm : (memG j s0 s1).holds w bm) :
  Calls Tryz.prog 109 #[.func (.func 110) #[] #[.pointer (some ⟨gG, 0, none⟩), .pointer (some ⟨gJ, 0, none⟩)]] w (GPost j s0 s1 bm (fewV (firstB b 5 0)) w) := by
 have HI := Lib.hid hI
 have HF := Lib.hid hf
 have H0 := Lib.hid h0
 have M := Mem.initEx hm
 clear hI hf h0 hm
 generalize hv : firstB b 5 0 = fv at *
 have HV := Lib.hid hv
 clear hv
 go_enter Tryz.func109, Tryz.ntmps109
 refine m_start M ?_
 clear M
 intro wc M
 go_wp2_with (first | (refine m_ld1 M rfl rfl rfl (by (repeat' (first | exact Zz2 | refine Zz1 ?_))) (by rfl) ?_) | (refine m_ldr M rfl rfl rfl (by (repeat' (first | exact Zz2 | refine Zz1 ?_))) (by (try simp only [Zy2, List.take_zero, List.take_nil, Zy1, List.drop_zero, List.drop_nil, List.cons_append, List.nil_append, List.append_nil, List.length_cons, List.length_nil, Nat.reduceAdd, Nat.zero_add, Nat.add_zero]); rfl) (by rfl) ?_) | (refine m_st M rfl rfl rfl (by first | exact (rfl : _ = Value.agg _) | exact (rfl : _ = Value.int _ _) | exact (rfl : _ = Value.bool _) | exact (rfl : _ = Value.slice _ _ _) | exact (rfl : _ = Value.pointer _) | exact (rfl : _ = Value.map _) | exact (rfl : _ = Value.func _ _ _) | exact (rfl : _ = Value.string _)) (by rfl) (by (repeat (first | exact Upd.head | apply Upd.tail))) (by (try simp only [Zy2, List.take_zero, List.take_nil, Zy1, List.drop_zero, List.drop_nil, List.cons_append, List.nil_append, List.append_nil, List.length_cons, List.length_nil, Nat.reduceAdd, Nat.zero_add, Nat.add_zero]); rfl) (by simp) (by simp [Value.oneCell']) (by kernel_rfl) ?_; clear M; (try clear wc); intro wc M) | (refine m_al M rfl rfl ?_; clear M; (try clear wc); intro g wc M) | (refine m_bx M rfl rfl (by first | exact (rfl : _ = Value.agg _) | exact (rfl : _ = Value.int _ _) | exact (rfl : _ = Value.bool _) | exact (rfl : _ = Value.slice _ _ _) | exact (rfl : _ = Value.pointer _) | exact (rfl : _ = Value.map _) | exact (rfl : _ = Value.func _ _ _) | exact (rfl : _ = Value.string _)) (by rfl) ?_; clear M; (try clear wc); intro g wc M))
 go_loopw [5] (fun v wr => ∃ n : Nat, v = .int .i64 n ∧ n ≤ 5 ∧ Hid (firstB b 5 0 = firstB b (5 - n) n) ∧ Mem w (fun b => b = bm) wr [(bm, memG j s0 s1)]) (fun v _ => (5 - intOf v).toNat)
 case atStart => exact ⟨0, rfl, by omega, rfl, M⟩
 case round =>
  clear M wc
  obtain ⟨n, rfl, hn, he, M⟩ := hrel
  obtain ⟨wc, rfl⟩ : ∃ x : World, x = wr := ⟨_, rfl⟩
  by_cases hlt : n < 5
  ·have e1 : decide ((n : Int) < 5) = true := by simp; omega
   have HL := Lib.hid hlt
   have CI := Lib.hid (HI.out w wc H0.out M.grown (M.at (q := (bm, memG j s0 s1)) (by (repeat' (first | exact Zz2 | refine Zz1 ?_)))))
   cases hb : b n with
   | true =>
    have HB := Lib.hid hb
    clear hb
    go_wp2_with (first | (refine m_ld1 M rfl rfl rfl (by (repeat' (first | exact Zz2 | refine Zz1 ?_))) (by rfl) ?_) | (refine m_ldr M rfl rfl rfl (by (repeat' (first | exact Zz2 | refine Zz1 ?_))) (by (try simp only [Zy2, List.take_zero, List.take_nil, Zy1, List.drop_zero, List.drop_nil, List.cons_append, List.nil_append, List.append_nil, List.length_cons, List.length_nil, Nat.reduceAdd, Nat.zero_add, Nat.add_zero]); rfl) (by rfl) ?_) | (refine m_st M rfl rfl rfl (by first | exact (rfl : _ = Value.agg _) | exact (rfl : _ = Value.int _ _) | exact (rfl : _ = Value.bool _) | exact (rfl : _ = Value.slice _ _ _) | exact (rfl : _ = Value.pointer _) | exact (rfl : _ = Value.map _) | exact (rfl : _ = Value.func _ _ _) | exact (rfl : _ = Value.string _)) (by rfl) (by (repeat (first | exact Upd.head | apply Upd.tail))) (by (try simp only [Zy2, List.take_zero, List.take_nil, Zy1, List.drop_zero, List.drop_nil, List.cons_append, List.nil_append, List.append_nil, List.length_cons, List.length_nil, Nat.reduceAdd, Nat.zero_add, Nat.add_zero]); rfl) (by simp) (by simp [Value.oneCell']) (by kernel_rfl) ?_; clear M; (try clear wc); intro wc M) | (refine m_al M rfl rfl ?_; clear M; (try clear wc); intro g wc M) | (refine m_bx M rfl rfl (by first | exact (rfl : _ = Value.agg _) | exact (rfl : _ = Value.int _ _) | exact (rfl : _ = Value.bool _) | exact (rfl : _ = Value.slice _ _ _) | exact (rfl : _ = Value.pointer _) | exact (rfl : _ = Value.map _) | exact (rfl : _ = Value.func _ _ _) | exact (rfl : _ = Value.string _)) (by rfl) ?_; clear M; (try clear wc); intro g wc M) | (go_at_call 110; ((with_reducible refine (HF.out n _ HL.out CI.out).mono ?_); rintro e wc ⟨rfl, hgr, hm⟩; (rw [HB.out]); replace M := M.callW (by (repeat (first | exact Upd.head | apply Upd.tail))) hgr hm; clear hgr hm)))
    go_ret2
    have e : fv = some n := by rw [← HV.out, he.out, first_hit HL.out HB.out]
    rw [e]
    exact ⟨rfl, M.grown, (M.at (q := (bm, memG j s0 s1)) (by (repeat' (first | exact Zz2 | refine Zz1 ?_))))⟩
   | false =>
    have HB := Lib.hid hb
    clear hb
    go_wp2_with (first | (refine m_ld1 M rfl rfl rfl (by (repeat' (first | exact Zz2 | refine Zz1 ?_))) (by rfl) ?_) | (refine m_ldr M rfl rfl rfl (by (repeat' (first | exact Zz2 | refine Zz1 ?_))) (by (try simp only [Zy2, List.take_zero, List.take_nil, Zy1, List.drop_zero, List.drop_nil, List.cons_append, List.nil_append, List.append_nil, List.length_cons, List.length_nil, Nat.reduceAdd, Nat.zero_add, Nat.add_zero]); rfl) (by rfl) ?_) | (refine m_st M rfl rfl rfl (by first | exact (rfl : _ = Value.agg _) | exact (rfl : _ = Value.int _ _) | exact (rfl : _ = Value.bool _) | exact (rfl : _ = Value.slice _ _ _) | exact (rfl : _ = Value.pointer _) | exact (rfl : _ = Value.map _) | exact (rfl : _ = Value.func _ _ _) | exact (rfl : _ = Value.string _)) (by rfl) (by (repeat (first | exact Upd.head | apply Upd.tail))) (by (try simp only [Zy2, List.take_zero, List.take_nil, Zy1, List.drop_zero, List.drop_nil, List.cons_append, List.nil_append, List.append_nil, List.length_cons, List.length_nil, Nat.reduceAdd, Nat.zero_add, Nat.add_zero]); rfl) (by simp) (by simp [Value.oneCell']) (by kernel_rfl) ?_; clear M; (try clear wc); intro wc M) | (refine m_al M rfl rfl ?_; clear M; (try clear wc); intro g wc M) | (refine m_bx M rfl rfl (by first | exact (rfl : _ = Value.agg _) | exact (rfl : _ = Value.int _ _) | exact (rfl : _ = Value.bool _) | exact (rfl : _ = Value.slice _ _ _) | exact (rfl : _ = Value.pointer _) | exact (rfl : _ = Value.map _) | exact (rfl : _ = Value.func _ _ _) | exact (rfl : _ = Value.string _)) (by rfl) ?_; clear M; (try clear wc); intro g wc M) | (go_at_call 110; ((with_reducible refine (HF.out n _ HL.out CI.out).mono ?_); rintro e wc ⟨rfl, hgr, hm⟩; (rw [HB.out]); replace M := M.callW (by (repeat (first | exact Upd.head | apply Upd.tail))) hgr hm; clear hgr hm)))
    go_roundw
    case rel => exact ⟨n + 1, by go_num, by omega, by (show _ = _; rw [he.out, first_miss HL.out HB.out]), M⟩
    case measure => simp [intOf]; omega
  ·have e1 : decide ((n : Int) < 5) = false := by simp; omega
   go_wp2_with (first | (refine m_ld1 M rfl rfl rfl (by (repeat' (first | exact Zz2 | refine Zz1 ?_))) (by rfl) ?_) | (refine m_ldr M rfl rfl rfl (by (repeat' (first | exact Zz2 | refine Zz1 ?_))) (by (try simp only [Zy2, List.take_zero, List.take_nil, Zy1, List.drop_zero, List.drop_nil, List.cons_append, List.nil_append, List.append_nil, List.length_cons, List.length_nil, Nat.reduceAdd, Nat.zero_add, Nat.add_zero]); rfl) (by rfl) ?_) | (refine m_st M rfl rfl rfl (by first | exact (rfl : _ = Value.agg _) | exact (rfl : _ = Value.int _ _) | exact (rfl : _ = Value.bool _) | exact (rfl : _ = Value.slice _ _ _) | exact (rfl : _ = Value.pointer _) | exact (rfl : _ = Value.map _) | exact (rfl : _ = Value.func _ _ _) | exact (rfl : _ = Value.string _)) (by rfl) (by (repeat (first | exact Upd.head | apply Upd.tail))) (by (try simp only [Zy2, List.take_zero, List.take_nil, Zy1, List.drop_zero, List.drop_nil, List.cons_append, List.nil_append, List.append_nil, List.length_cons, List.length_nil, Nat.reduceAdd, Nat.zero_add, Nat.add_zero]); rfl) (by simp) (by simp [Value.oneCell']) (by kernel_rfl) ?_; clear M; (try clear wc); intro wc M) | (refine m_al M rfl rfl ?_; clear M; (try clear wc); intro g wc M) | (refine m_bx M rfl rfl (by first | exact (rfl : _ = Value.agg _) | exact (rfl : _ = Value.int _ _) | exact (rfl : _ = Value.bool _) | exact (rfl : _ = Value.slice _ _ _) | exact (rfl : _ = Value.pointer _) | exact (rfl : _ = Value.map _) | exact (rfl : _ = Value.func _ _ _) | exact (rfl : _ = Value.string _)) (by rfl) ?_; clear M; (try clear wc); intro g wc M))
   go_ret2
   have e : fv = none := by rw [← HV.out, he.out, first_end (by omega)]
   rw [e]
   exact ⟨rfl, M.grown, (M.at (q := (bm, memG j s0 s1)) (by (repeat' (first | exact Zz2 | refine Zz1 ?_))))⟩
theorem fewest_Next (j : Jb) (s0 s1 : Int) (bm gG gJ : Nat) (b : Nat → Bool) (Inv : World → Prop) (hI : ∀ W W', Inv W → W.grownBy W' (some bm) → (memG j s0 s1).holds W' bm → Inv W')
  (hf : ∀ (n : Nat) W, n < 5 → Inv W → Calls Tryz.prog 112 #[.int .i64 n, .pointer (some ⟨gG, 0, none⟩), .pointer (some ⟨gJ, 0, none⟩)] W (GPost j s0 s1 bm (.bool (b n)) W)) (w : World) (h0 : Inv w) (hm : (memG j s0 s1).holds w bm) :
  Calls Tryz.prog 109 #[.func (.func 112) #[] #[.pointer (some ⟨gG, 0, none⟩), .pointer (some ⟨gJ, 0, none⟩)]] w (GPost j s0 s1 bm (fewV (firstB b 5 0)) w) := by
 have HI := Lib.hid hI
 have HF := Lib.hid hf
 have H0 := Lib.hid h0
 have M := Mem.initEx hm
 clear hI hf h0 hm
 generalize hv : firstB b 5 0 = fv at *
 have HV := Lib.hid hv
 clear hv
 go_enter Tryz.func109, Tryz.ntmps109
 refine m_start M ?_
 clear M
 intro wc M
 go_wp2_with (first | (refine m_ld1 M rfl rfl rfl (by (repeat' (first | exact Zz2 | refine Zz1 ?_))) (by rfl) ?_) | (refine m_ldr M rfl rfl rfl (by (repeat' (first | exact Zz2 | refine Zz1 ?_))) (by (try simp only [Zy2, List.take_zero, List.take_nil, Zy1, List.drop_zero, List.drop_nil, List.cons_append, List.nil_append, List.append_nil, List.length_cons, List.length_nil, Nat.reduceAdd, Nat.zero_add, Nat.add_zero]); rfl) (by rfl) ?_) | (refine m_st M rfl rfl rfl (by first | exact (rfl : _ = Value.agg _) | exact (rfl : _ = Value.int _ _) | exact (rfl : _ = Value.bool _) | exact (rfl : _ = Value.slice _ _ _) | exact (rfl : _ = Value.pointer _) | exact (rfl : _ = Value.map _) | exact (rfl : _ = Value.func _ _ _) | exact (rfl : _ = Value.string _)) (by rfl) (by (repeat (first | exact Upd.head | apply Upd.tail))) (by (try simp only [Zy2, List.take_zero, List.take_nil, Zy1, List.drop_zero, List.drop_nil, List.cons_append, List.nil_append, List.append_nil, List.length_cons, List.length_nil, Nat.reduceAdd, Nat.zero_add, Nat.add_zero]); rfl) (by simp) (by simp [Value.oneCell']) (by kernel_rfl) ?_; clear M; (try clear wc); intro wc M) | (refine m_al M rfl rfl ?_; clear M; (try clear wc); intro g wc M) | (refine m_bx M rfl rfl (by first | exact (rfl : _ = Value.agg _) | exact (rfl : _ = Value.int _ _) | exact (rfl : _ = Value.bool _) | exact (rfl : _ = Value.slice _ _ _) | exact (rfl : _ = Value.pointer _) | exact (rfl : _ = Value.map _) | exact (rfl : _ = Value.func _ _ _) | exact (rfl : _ = Value.string _)) (by rfl) ?_; clear M; (try clear wc); intro g wc M))
 go_loopw [5] (fun v wr => ∃ n : Nat, v = .int .i64 n ∧ n ≤ 5 ∧ Hid (firstB b 5 0 = firstB b (5 - n) n) ∧ Mem w (fun b => b = bm) wr [(bm, memG j s0 s1)]) (fun v _ => (5 - intOf v).toNat)
 case atStart => exact ⟨0, rfl, by omega, rfl, M⟩
 case round =>
  clear M wc
  obtain ⟨n, rfl, hn, he, M⟩ := hrel
  obtain ⟨wc, rfl⟩ : ∃ x : World, x = wr := ⟨_, rfl⟩
  by_cases hlt : n < 5
  ·have e1 : decide ((n : Int) < 5) = true := by simp; omega
   have HL := Lib.hid hlt
   have CI := Lib.hid (HI.out w wc H0.out M.grown (M.at (q := (bm, memG j s0 s1)) (by (repeat' (first | exact Zz2 | refine Zz1 ?_)))))
   cases hb : b n with
   | true =>
    have HB := Lib.hid hb
    clear hb
    go_wp2_with (first | (refine m_ld1 M rfl rfl rfl (by (repeat' (first | exact Zz2 | refine Zz1 ?_))) (by rfl) ?_) | (refine m_ldr M rfl rfl rfl (by (repeat' (first | exact Zz2 | refine Zz1 ?_))) (by (try simp only [Zy2, List.take_zero, List.take_nil, Zy1, List.drop_zero, List.drop_nil, List.cons_append, List.nil_append, List.append_nil, List.length_cons, List.length_nil, Nat.reduceAdd, Nat.zero_add, Nat.add_zero]); rfl) (by rfl) ?_) | (refine m_st M rfl rfl rfl (by first | exact (rfl : _ = Value.agg _) | exact (rfl : _ = Value.int _ _) | exact (rfl : _ = Value.bool _) | exact (rfl : _ = Value.slice _ _ _) | exact (rfl : _ = Value.pointer _) | exact (rfl : _ = Value.map _) | exact (rfl : _ = Value.func _ _ _) | exact (rfl : _ = Value.string _)) (by rfl) (by (repeat (first | exact Upd.head | apply Upd.tail))) (by (try simp only [Zy2, List.take_zero, List.take_nil, Zy1, List.drop_zero, List.drop_nil, List.cons_append, List.nil_append, List.append_nil, List.length_cons, List.length_nil, Nat.reduceAdd, Nat.zero_add, Nat.add_zero]); rfl) (by simp) (by simp [Value.oneCell']) (by kernel_rfl) ?_; clear M; (try clear wc); intro wc M) | (refine m_al M rfl rfl ?_; clear M; (try clear wc); intro g wc M) | (refine m_bx M rfl rfl (by first | exact (rfl : _ = Value.agg _) | exact (rfl : _ = Value.int _ _) | exact (rfl : _ = Value.bool _) | exact (rfl : _ = Value.slice _ _ _) | exact (rfl : _ = Value.pointer _) | exact (rfl : _ = Value.map _) | exact (rfl : _ = Value.func _ _ _) | exact (rfl : _ = Value.string _)) (by rfl) ?_; clear M; (try clear wc); intro g wc M) | (go_at_call 112; ((with_reducible refine (HF.out n _ HL.out CI.out).mono ?_); rintro e wc ⟨rfl, hgr, hm⟩; (rw [HB.out]); replace M := M.callW (by (repeat (first | exact Upd.head | apply Upd.tail))) hgr hm; clear hgr hm)))
    go_ret2
    have e : fv = some n := by rw [← HV.out, he.out, first_hit HL.out HB.out]
    rw [e]
    exact ⟨rfl, M.grown, (M.at (q := (bm, memG j s0 s1)) (by (repeat' (first | exact Zz2 | refine Zz1 ?_))))⟩
   | false =>
    have HB := Lib.hid hb
    clear hb
    go_wp2_with (first | (refine m_ld1 M rfl rfl rfl (by (repeat' (first | exact Zz2 | refine Zz1 ?_))) (by rfl) ?_) | (refine m_ldr M rfl rfl rfl (by (repeat' (first | exact Zz2 | refine Zz1 ?_))) (by (try simp only [Zy2, List.take_zero, List.take_nil, Zy1, List.drop_zero, List.drop_nil, List.cons_append, List.nil_append, List.append_nil, List.length_cons, List.length_nil, Nat.reduceAdd, Nat.zero_add, Nat.add_zero]); rfl) (by rfl) ?_) | (refine m_st M rfl rfl rfl (by first | exact (rfl : _ = Value.agg _) | exact (rfl : _ = Value.int _ _) | exact (rfl : _ = Value.bool _) | exact (rfl : _ = Value.slice _ _ _) | exact (rfl : _ = Value.pointer _) | exact (rfl : _ = Value.map _) | exact (rfl : _ = Value.func _ _ _) | exact (rfl : _ = Value.string _)) (by rfl) (by (repeat (first | exact Upd.head | apply Upd.tail))) (by (try simp only [Zy2, List.take_zero, List.take_nil, Zy1, List.drop_zero, List.drop_nil, List.cons_append, List.nil_append, List.append_nil, List.length_cons, List.length_nil, Nat.reduceAdd, Nat.zero_add, Nat.add_zero]); rfl) (by simp) (by simp [Value.oneCell']) (by kernel_rfl) ?_; clear M; (try clear wc); intro wc M) | (refine m_al M rfl rfl ?_; clear M; (try clear wc); intro g wc M) | (refine m_bx M rfl rfl (by first | exact (rfl : _ = Value.agg _) | exact (rfl : _ = Value.int _ _) | exact (rfl : _ = Value.bool _) | exact (rfl : _ = Value.slice _ _ _) | exact (rfl : _ = Value.pointer _) | exact (rfl : _ = Value.map _) | exact (rfl : _ = Value.func _ _ _) | exact (rfl : _ = Value.string _)) (by rfl) ?_; clear M; (try clear wc); intro g wc M) | (go_at_call 112; ((with_reducible refine (HF.out n _ HL.out CI.out).mono ?_); rintro e wc ⟨rfl, hgr, hm⟩; (rw [HB.out]); replace M := M.callW (by (repeat (first | exact Upd.head | apply Upd.tail))) hgr hm; clear hgr hm)))
    go_roundw
    case rel => exact ⟨n + 1, by go_num, by omega, by (show _ = _; rw [he.out, first_miss HL.out HB.out]), M⟩
    case measure => simp [intOf]; omega
  ·have e1 : decide ((n : Int) < 5) = false := by simp; omega
   go_wp2_with (first | (refine m_ld1 M rfl rfl rfl (by (repeat' (first | exact Zz2 | refine Zz1 ?_))) (by rfl) ?_) | (refine m_ldr M rfl rfl rfl (by (repeat' (first | exact Zz2 | refine Zz1 ?_))) (by (try simp only [Zy2, List.take_zero, List.take_nil, Zy1, List.drop_zero, List.drop_nil, List.cons_append, List.nil_append, List.append_nil, List.length_cons, List.length_nil, Nat.reduceAdd, Nat.zero_add, Nat.add_zero]); rfl) (by rfl) ?_) | (refine m_st M rfl rfl rfl (by first | exact (rfl : _ = Value.agg _) | exact (rfl : _ = Value.int _ _) | exact (rfl : _ = Value.bool _) | exact (rfl : _ = Value.slice _ _ _) | exact (rfl : _ = Value.pointer _) | exact (rfl : _ = Value.map _) | exact (rfl : _ = Value.func _ _ _) | exact (rfl : _ = Value.string _)) (by rfl) (by (repeat (first | exact Upd.head | apply Upd.tail))) (by (try simp only [Zy2, List.take_zero, List.take_nil, Zy1, List.drop_zero, List.drop_nil, List.cons_append, List.nil_append, List.append_nil, List.length_cons, List.length_nil, Nat.reduceAdd, Nat.zero_add, Nat.add_zero]); rfl) (by simp) (by simp [Value.oneCell']) (by kernel_rfl) ?_; clear M; (try clear wc); intro wc M) | (refine m_al M rfl rfl ?_; clear M; (try clear wc); intro g wc M) | (refine m_bx M rfl rfl (by first | exact (rfl : _ = Value.agg _) | exact (rfl : _ = Value.int _ _) | exact (rfl : _ = Value.bool _) | exact (rfl : _ = Value.slice _ _ _) | exact (rfl : _ = Value.pointer _) | exact (rfl : _ = Value.map _) | exact (rfl : _ = Value.func _ _ _) | exact (rfl : _ = Value.string _)) (by rfl) ?_; clear M; (try clear wc); intro g wc M))
   go_ret2
   have e : fv = none := by rw [← HV.out, he.out, first_end (by omega)]
   rw [e]
   exact ⟨rfl, M.grown, (M.at (q := (bm, memG j s0 s1)) (by (repeat' (first | exact Zz2 | refine Zz1 ?_))))⟩
structure Gn (j : Jb) (A : Option Addr) (c : Nat) (s0 s1 : Int) (bg bx bm gG gJ : Nat) (w : World) : Prop where
 g : Gm j A c s0 s1 bg bx bm w
 b : Bk w gG (gmA j A c s0 s1 bg bx).toArray
 j : Bk w gJ #[.int .i64 j.p0, .int .i64 j.p1, .int .i64 j.t0, .int .i64 j.t1, .int .i64 j.r0, .int .i64 j.r1, .int .i64 j.u0, .int .i64 j.u1, .int .i64 j.d0, .int .i64 j.d1, .int .i64 j.a0, .int .i64 j.a1, .int .i64 j.b0, .int .i64 j.b1, .int .i64 j.le, .slice A j.sh.length c, .int .i64 j.wi, .int .i64 j.me]
 nb : gG ≠ bm
 nj : gJ ≠ bm
theorem Gn.kept {j : Jb} {A : Option Addr} {c : Nat} {s0 s1 : Int} {bg bx bm gG gJ : Nat} {w w' : World} (h : Gn j A c s0 s1 bg bx bm gG gJ w) (hg : w.grownBy w' (some bm)) (hm : (memG j s0 s1).holds w' bm) : Gn j A c s0 s1 bg bx bm gG gJ w' :=
 ⟨h.g.kept hg hm, h.b.grown hg (fun e => h.nb (by injection e)), h.j.grown hg (fun e => h.nj (by injection e)), h.nb, h.nj⟩
theorem bnd_0 {j : Jb} (hj : j.good) {n : Nat} (hn : n < 5) : Bnd n j.p0 j.p1 0 0 := by
 have := hj.p
 exact ⟨by omega, by omega, by omega, by omega, by omega⟩
theorem Guided1_any (j : Jb) (A : Option Addr) (c : Nat) (s0 s1 : Int) (bg bx bm gG gJ : Nat) (hj : j.good) (n : Nat) (hn : n < 5) (w : World) (hg : Gn j A c s0 s1 bg bx bm gG gJ w) :
  Calls Tryz.prog 110 #[.int .i64 n, .pointer (some ⟨gG, 0, none⟩), .pointer (some ⟨gJ, 0, none⟩)] w (GPost j s0 s1 bm (.bool (readsP j s0 s1 n j.p0 j.p1 0 0)) w) := by
 have M := Mem.initEx hg.g.m
 have HG := Lib.hid hg
 have HJ := Lib.hid hj
 clear hg hj
 go_enter Tryz.func110, Tryz.ntmps110
 refine m_start M ?_
 clear M
 intro wc M
 go_wp2_with (first | (refine m_ld1 M rfl rfl rfl (by (repeat' (first | exact Zz2 | refine Zz1 ?_))) (by rfl) ?_) | (refine m_ldr M rfl rfl rfl (by (repeat' (first | exact Zz2 | refine Zz1 ?_))) (by (try simp only [Zy2, List.take_zero, List.take_nil, Zy1, List.drop_zero, List.drop_nil, List.cons_append, List.nil_append, List.append_nil, List.length_cons, List.length_nil, Nat.reduceAdd, Nat.zero_add, Nat.add_zero]); rfl) (by rfl) ?_) | (refine m_st M rfl rfl rfl (by first | exact (rfl : _ = Value.agg _) | exact (rfl : _ = Value.int _ _) | exact (rfl : _ = Value.bool _) | exact (rfl : _ = Value.slice _ _ _) | exact (rfl : _ = Value.pointer _) | exact (rfl : _ = Value.map _) | exact (rfl : _ = Value.func _ _ _) | exact (rfl : _ = Value.string _)) (by rfl) (by (repeat (first | exact Upd.head | apply Upd.tail))) (by (try simp only [Zy2, List.take_zero, List.take_nil, Zy1, List.drop_zero, List.drop_nil, List.cons_append, List.nil_append, List.append_nil, List.length_cons, List.length_nil, Nat.reduceAdd, Nat.zero_add, Nat.add_zero]); rfl) (by simp) (by simp [Value.oneCell']) (by kernel_rfl) ?_; clear M; (try clear wc); intro wc M) | (refine m_al M rfl rfl ?_; clear M; (try clear wc); intro g wc M) | (refine m_bx M rfl rfl (by first | exact (rfl : _ = Value.agg _) | exact (rfl : _ = Value.int _ _) | exact (rfl : _ = Value.bool _) | exact (rfl : _ = Value.slice _ _ _) | exact (rfl : _ = Value.pointer _) | exact (rfl : _ = Value.map _) | exact (rfl : _ = Value.func _ _ _) | exact (rfl : _ = Value.string _)) (by rfl) ?_; clear M; (try clear wc); intro g wc M) | (refine lo_row (M.old HG.out.b HG.out.nb) rfl rfl rfl (by (try simp only [Zy2, List.take_zero, List.take_nil, Zy1, List.drop_zero, List.drop_nil, List.cons_append, List.nil_append, List.append_nil, List.length_cons, List.length_nil, Nat.reduceAdd, Nat.zero_add, Nat.add_zero]); rfl) (by rfl) ?_) | (refine lo_row (M.old HG.out.j HG.out.nj) rfl rfl rfl (by (try simp only [Zy2, List.take_zero, List.take_nil, Zy1, List.drop_zero, List.drop_nil, List.cons_append, List.nil_append, List.append_nil, List.length_cons, List.length_nil, Nat.reduceAdd, Nat.zero_add, Nat.add_zero]); rfl) (by rfl) ?_) | (go_at_call 111; ((with_reducible refine (readsC j A c s0 s1 bg bx bm HJ.out n j.p0 j.p1 0 0 _ (bnd_0 HJ.out hn) (HG.out.kept M.grown (M.at (q := (bm, memG j s0 s1)) (by (repeat' (first | exact Zz2 | refine Zz1 ?_))))).g).mono ?_); rintro e wc ⟨rfl, hgr, hm⟩; skip; replace M := M.callW (by (repeat (first | exact Upd.head | apply Upd.tail))) hgr hm; clear hgr hm)))
 go_ret
 exact ⟨rfl, M.grown, (M.at (q := (bm, memG j s0 s1)) (by (repeat' (first | exact Zz2 | refine Zz1 ?_))))⟩
theorem Next1_any (j : Jb) (A : Option Addr) (c : Nat) (s0 s1 : Int) (bg bx bm gG gJ : Nat) (hj : j.good) (n : Nat) (hn : n < 5) (w : World) (hg : Gn j A c s0 s1 bg bx bm gG gJ w) :
  Calls Tryz.prog 112 #[.int .i64 n, .pointer (some ⟨gG, 0, none⟩), .pointer (some ⟨gJ, 0, none⟩)] w (GPost j s0 s1 bm (.bool (stopsP j s0 s1 n j.p0 j.p1 0 0)) w) := by
 have M := Mem.initEx hg.g.m
 have HG := Lib.hid hg
 have HJ := Lib.hid hj
 clear hg hj
 go_enter Tryz.func112, Tryz.ntmps112
 refine m_start M ?_
 clear M
 intro wc M
 go_wp2_with (first | (refine m_ld1 M rfl rfl rfl (by (repeat' (first | exact Zz2 | refine Zz1 ?_))) (by rfl) ?_) | (refine m_ldr M rfl rfl rfl (by (repeat' (first | exact Zz2 | refine Zz1 ?_))) (by (try simp only [Zy2, List.take_zero, List.take_nil, Zy1, List.drop_zero, List.drop_nil, List.cons_append, List.nil_append, List.append_nil, List.length_cons, List.length_nil, Nat.reduceAdd, Nat.zero_add, Nat.add_zero]); rfl) (by rfl) ?_) | (refine m_st M rfl rfl rfl (by first | exact (rfl : _ = Value.agg _) | exact (rfl : _ = Value.int _ _) | exact (rfl : _ = Value.bool _) | exact (rfl : _ = Value.slice _ _ _) | exact (rfl : _ = Value.pointer _) | exact (rfl : _ = Value.map _) | exact (rfl : _ = Value.func _ _ _) | exact (rfl : _ = Value.string _)) (by rfl) (by (repeat (first | exact Upd.head | apply Upd.tail))) (by (try simp only [Zy2, List.take_zero, List.take_nil, Zy1, List.drop_zero, List.drop_nil, List.cons_append, List.nil_append, List.append_nil, List.length_cons, List.length_nil, Nat.reduceAdd, Nat.zero_add, Nat.add_zero]); rfl) (by simp) (by simp [Value.oneCell']) (by kernel_rfl) ?_; clear M; (try clear wc); intro wc M) | (refine m_al M rfl rfl ?_; clear M; (try clear wc); intro g wc M) | (refine m_bx M rfl rfl (by first | exact (rfl : _ = Value.agg _) | exact (rfl : _ = Value.int _ _) | exact (rfl : _ = Value.bool _) | exact (rfl : _ = Value.slice _ _ _) | exact (rfl : _ = Value.pointer _) | exact (rfl : _ = Value.map _) | exact (rfl : _ = Value.func _ _ _) | exact (rfl : _ = Value.string _)) (by rfl) ?_; clear M; (try clear wc); intro g wc M) | (refine lo_one (M.old HG.out.b HG.out.nb) rfl rfl rfl (by rfl) ?_) | (refine lo_row (M.old HG.out.j HG.out.nj) rfl rfl rfl (by (try simp only [Zy2, List.take_zero, List.take_nil, Zy1, List.drop_zero, List.drop_nil, List.cons_append, List.nil_append, List.append_nil, List.length_cons, List.length_nil, Nat.reduceAdd, Nat.zero_add, Nat.add_zero]); rfl) (by rfl) ?_) | (go_at_call 200; ((with_reducible refine (stopsC j A c s0 s1 bg bx bm HJ.out n j.p0 j.p1 0 0 _ (bnd_0 HJ.out hn) (HG.out.kept M.grown (M.at (q := (bm, memG j s0 s1)) (by (repeat' (first | exact Zz2 | refine Zz1 ?_))))).g).mono ?_); rintro e wc ⟨rfl, hgr, hm⟩; skip; replace M := M.callW (by (repeat (first | exact Upd.head | apply Upd.tail))) hgr hm; clear hgr hm)))
 go_ret
 exact ⟨rfl, M.grown, (M.at (q := (bm, memG j s0 s1)) (by (repeat' (first | exact Zz2 | refine Zz1 ?_))))⟩
end Go.Proofs.YtmdbdaofjepelaaGreatDoor


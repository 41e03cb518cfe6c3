/-
  reed: the pitches that surely pass, and those that may pass.
-/
import Derived.Test.YthlpceoajhcliaaRMeet
import Derived.Test.YthlpceoajhcliaaBase2
import Derived.Deep.DeepMust
import Derived.Deep.DeepFit
namespace Go.Proofs.Ythlpceoajhcliaa
set_option linter.unusedSimpArgs false
set_option linter.unusedVariables false
open Go.RowKit

def strictL (wi : Int) (l : List (Int × Int)) : List (Int × Int) := l.map fun s => (-wi - s.1, wi - s.2)
def looseL (wi : Int) (l : List (Int × Int)) : List (Int × Int) := l.map fun s => (-wi - s.2, wi - s.1)
def winOf (wi : Int) : List (Int × Int) → Int × Int
  | [] => (-wi, wi)
  | f :: r => meetL f r
def winS (j : Jb) : Int × Int := winOf j.wi (strictL j.wi j.sh)
def winL (j : Jb) : Int × Int := winOf j.wi (looseL j.wi j.sh)

/-- Numbers of a job that do not run over. -/
structure Jb.ok (j : Jb) : Prop where
  wi : -1000 ≤ j.wi ∧ j.wi ≤ 1000
  sh : ∀ p ∈ j.sh, -1000 ≤ p.1 ∧ p.1 ≤ 1000 ∧ -1000 ≤ p.2 ∧ p.2 ≤ 1000
  few : j.sh.length ≤ 4

set_option maxHeartbeats 1000000 in
theorem windows_nil (j : Jb) (A : Option Addr) (c : Nat) (w : World) (hj : j.ok) (hs : j.sh = []) :
    Calls Try.prog 84 #[jobV j A c] w fun e w' => e = .returned (.tuple #[R2 (winS j).1 (winS j).2, R2 (winL j).1 (winL j).2]) ∧ Below w.heap.size w w' := by
  obtain ⟨p0, p1, t0, t1, r0, r1, u0, u1, d0, d1, a0, a1, b0, b1, le, sh, wi, me⟩ := j
  simp only at hs
  subst hs
  have hw := hj.wi
  simp only at hw
  clear hj
  go_enter Try.func84, Try.ntmps84
  go_wp2
  refine wp_region_G (fun L W => Bk W (w.heap.size + 3) #[.int .i64 (-wi), .int .i64 wi] ∧ (L.getD 2 true = false → Bk W (w.heap.size + 1) #[.int .i64 0, .int .i64 0]) ∧ (L.getD 2 true = true → Bk W (w.heap.size + 1) #[.int .i64 (-wi), .int .i64 wi]) ∧ (L.getD 3 true = false → Bk W (w.heap.size + 2) #[.int .i64 0, .int .i64 0]) ∧ (L.getD 3 true = true → Bk W (w.heap.size + 2) #[.int .i64 (-wi), .int .i64 wi]) ∧ Below w.heap.size w W) 4 (by kernel_rfl) (by kernel_rfl) ?s0 ?r0
  case s0 => (exact ⟨by (repeat' (first | (with_reducible refine Bk.drew ?_) | ((with_reducible refine Bk.newAt _ _ _ _ ?_); (simp; done)) | (with_reducible refine Bk.alloc ?_ _))), fun _ => by (repeat' (first | (with_reducible refine Bk.drew ?_) | ((with_reducible refine Bk.newAt _ _ _ _ ?_); (simp; done)) | (with_reducible refine Bk.alloc ?_ _))), fun h => (no_of h (by kernel_rfl)).elim, fun _ => by (repeat' (first | (with_reducible refine Bk.drew ?_) | ((with_reducible refine Bk.newAt _ _ _ _ ?_); (simp; done)) | (with_reducible refine Bk.alloc ?_ _))), fun h => (no_of h (by kernel_rfl)).elim, by (repeat' (first | (with_reducible exact Below.refl _ _) | (with_reducible refine Below.alloc ?_ ?_ _) | (with_reducible refine Below.setCell ?_ ?_ _) | (with_reducible refine Below.drew ?_) | ((with_reducible refine Below.trans ?_ (Below.mono (by assumption) ?_))) | go_size))⟩)
  intro W0
  refine wpG_take (i := 0) (v := ?v1) rfl (by kernel_rfl) (by intro L w; simp only [getD_set_ne true (show (0 : Nat) ≠ 2 from by decide), getD_set_ne true (show (0 : Nat) ≠ 3 from by decide)]) (fun _ _ _ h => h) (Or.inl ⟨by rfl, ?y1⟩) ?r1
  case y1 => (intro w' hy; obtain ⟨L, hD, hl, hS⟩ := hy; have qc := hS.1.cell; clear hS hD hl; go_simp; (try with_reducible rfl))
  (try simp only [Act.put, List.getElem_toArray, List.getElem_cons_succ, List.getElem_cons_zero, List.setIfInBounds_toArray, List.set_cons_zero, List.set_cons_succ])
  refine wpG_take (i := 1) (v := ?v2) rfl (by kernel_rfl) (by intro L w; simp only [getD_set_ne true (show (1 : Nat) ≠ 2 from by decide), getD_set_ne true (show (1 : Nat) ≠ 3 from by decide)]) (fun _ _ _ h => h) (Or.inl ⟨by rfl, ?y2⟩) ?r2
  case y2 => (intro w' hy; obtain ⟨L, hD, hl, hS⟩ := hy; have qc := hS.1.cell; clear hS hD hl; go_simp; (try with_reducible rfl))
  (try simp only [Act.put, List.getElem_toArray, List.getElem_cons_succ, List.getElem_cons_zero, List.setIfInBounds_toArray, List.set_cons_zero, List.set_cons_succ])
  refine wpG_step (i := 2) (by kernel_rfl) rfl (by rfl) ?r3
  intro hS K hK
  (have h4 := hS.1; have h1 := hS.2.1 (by kernel_rfl); have h2 := hS.2.2.2.1 (by kernel_rfl); have hb := hS.2.2.2.2.2; clear hS; have qc := h1.cell; have qf := h1.frozen; go_simp; refine hK.out _ _ ⟨h4.far2 (by omega), fun h => (no_of (by kernel_rfl) h).elim, fun _ => h1.put2, fun _ => h2.far2 (by omega), fun h => (no_of h (by kernel_rfl)).elim, bl_set2 hb (by omega)⟩ ?_; clear h4 h1 h2 hb qc qf)
  clear hK K; intro W3
  (try simp only [Act.put, List.getElem_toArray, List.getElem_cons_succ, List.getElem_cons_zero, List.setIfInBounds_toArray, List.set_cons_zero, List.set_cons_succ])
  refine wpG_step (i := 3) (by kernel_rfl) rfl (by rfl) ?r4
  intro hS K hK
  (have h4 := hS.1; have h1 := hS.2.2.1 (by kernel_rfl); have h2 := hS.2.2.2.1 (by kernel_rfl); have hb := hS.2.2.2.2.2; clear hS; have qc := h2.cell; have qf := h2.frozen; go_simp; refine hK.out _ _ ⟨h4.far2 (by omega), fun h => (no_of (by kernel_rfl) h).elim, fun _ => h1.far2 (by omega), fun h => (no_of (by kernel_rfl) h).elim, fun _ => h2.put2, bl_set2 hb (by omega)⟩ ?_; clear h4 h1 h2 hb qc qf)
  clear hK K; intro W4
  (try simp only [Act.put, List.getElem_toArray, List.getElem_cons_succ, List.getElem_cons_zero, List.setIfInBounds_toArray, List.set_cons_zero, List.set_cons_succ])
  refine wpG_end (by kernel_rfl) ?_
  intro W
   hS
  go_wp2
  refine ret_blk2 2 3 23 23 (by rfl) (by rfl) _ _ (by rfl) (by rfl) _ _ (hS.2.2.1 (by kernel_rfl)) (hS.2.2.2.2.1 (by kernel_rfl)) _ _ Try.underlying23 (by rfl) (by kernel_rfl) Try.underlying23 (by rfl) (by kernel_rfl) ?_
  exact ⟨rfl, hS.2.2.2.2.2⟩

theorem Try.infoRange : (Try.prog.info? 23).map (fun i => (i.zero, i.size, i.bytes)) = some (some (.agg #[.int .i64 0, .int .i64 0]), 2, 16) := by kernel_rfl

theorem rc_take_succ (l : List (Int × Int)) (k : Nat) (x0 x1 : Int) (h : l.drop k = (x0, x1) :: l.drop (k + 1)) : rc (l.take (k + 1)) = rc (l.take k) ++ [.int .i64 x0, .int .i64 x1] := by
  have hk : k < l.length := by
    rcases Nat.lt_or_ge k l.length with h' | h'
    · exact h'
    · rw [List.drop_of_length_le h'] at h; cases h
  rw [List.drop_eq_getElem_cons hk] at h
  injection h with h _
  rw [List.take_succ_eq_append_getElem hk, rc_append, h]
  rfl
theorem map_drop_cons {f : Int × Int → Int × Int} {l : List (Int × Int)} {k : Nat} {x : Int × Int} (h : l.drop k = x :: l.drop (k + 1)) : (l.map f).drop k = f x :: (l.map f).drop (k + 1) := by
  rw [← List.map_drop, h, List.map_cons, List.map_drop]

/-- What stands at the head of a round. -/
def WRel (j : Jb) (A : Option Addr) (c : Nat) (w : World) (v5 v6 i : Value) (wr : World) : Prop :=
  ∃ k : Nat, k ≤ j.sh.length ∧ i = .int .i64 k ∧ wr.ownsRow (w.heap.size + 4) 23 2 v5 k (rc ((strictL j.wi j.sh).take k)) ∧ wr.ownsRow (w.heap.size + 4) 23 2 v6 k (rc ((looseL j.wi j.sh).take k)) ∧
    (v5.ownBlock = none ∨ v5.ownBlock ≠ v6.ownBlock) ∧ (v6.ownBlock = none ∨ v6.ownBlock ≠ v5.ownBlock) ∧
    Bk wr (w.heap.size + 1) #[.int .i64 0, .int .i64 0] ∧ Bk wr (w.heap.size + 2) #[.int .i64 0, .int .i64 0] ∧ Bk wr (w.heap.size + 3) #[.int .i64 (-j.wi), .int .i64 j.wi] ∧ Below w.heap.size w wr

section
variable {w wr w5 w6 : World} {T k m : Nat} {v5 v6 : Value} {xs ys : List Value} {z m3 cx : Array Value} {H : Nat} {Y Z : Obj}
theorem own_ne {g : Nat} (o5 : wr.ownsRow (H + 4) T 2 v5 k xs) (hg : g < H + 4) : some g ≠ v5.ownBlock := fun e => by have := (o5.lt g e.symm).1; omega
theorem own_ne' {g : Nat} (o5 : wr.ownsRow (H + 4) T 2 v5 k xs) (hg : wr.heap.size ≤ g) : some g ≠ v5.ownBlock := fun e => by have := (o5.lt g e.symm).2; omega
theorem wmid (o5 : wr.ownsRow (H + 4) T 2 v5 k xs) (o6 : wr.ownsRow (H + 4) T 2 v6 k ys) (n6 : v6.ownBlock = none ∨ v6.ownBlock ≠ v5.ownBlock)
    (b1 : Bk wr (H + 1) z) (b2 : Bk wr (H + 2) z) (b3 : Bk wr (H + 3) m3) (hb : Below H w wr) (gr : ((wr.alloc (.cells cx T)).alloc Y).grownBy w5 v5.ownBlock) :
    w5.ownsRow (H + 4) T 2 v6 k ys ∧ Bk w5 (H + 1) z ∧ Bk w5 (H + 2) z ∧ Bk w5 (H + 3) m3 ∧ Bk w5 wr.heap.size cx ∧ Below H w w5 ∧ wr.heap.size + 2 ≤ w5.heap.size := by
  have hl := b3.lt
  have hs := gr.size
  simp only [World.size_alloc] at hs
  refine ⟨((o6.alloc _).alloc _).kept gr n6, ((b1.alloc _).alloc _).grown gr (own_ne o5 (by omega)), ((b2.alloc _).alloc _).grown gr (own_ne o5 (by omega)), ((b3.alloc _).alloc _).grown gr (own_ne o5 (by omega)),
    ((Bk.new wr T cx).alloc _).grown gr (own_ne' o5 (Nat.le_refl _)), ?_, hs⟩
  exact Below.grown ((hb.alloc (by omega) _).alloc (by simp; omega) _) gr (by simp; omega) (fun g hg => by have := (o5.lt g hg).1; omega)
theorem wend (o5 : wr.ownsRow (H + 4) T 2 v5 k xs) (o6' : wr.ownsRow (H + 4) T 2 v6 k ys) (n6 : v6.ownBlock = none ∨ v6.ownBlock ≠ v5.ownBlock) (o6 : w5.ownsRow (H + 4) T 2 v6 k ys) {g5 c5 : Nat} {xs' : List Value}
    (p5 : w5.ownsRow (H + 4) T 2 (.slice (some ⟨g5, 0, none⟩) (k + 1) c5) (k + 1) xs') (at5 : v5.ownBlock = some g5 ∨ g5 = wr.heap.size + 2)
    (b1 : Bk w5 (H + 1) z) (b2 : Bk w5 (H + 2) z) (b3 : Bk w5 (H + 3) m3) (hb : Below H w w5) (gr : (w5.alloc Z).grownBy w6 v6.ownBlock) {g6 : Nat} (at6 : v6.ownBlock = some g6 ∨ g6 = w5.heap.size + 1) :
    w6.ownsRow (H + 4) T 2 (.slice (some ⟨g5, 0, none⟩) (k + 1) c5) (k + 1) xs' ∧ g5 ≠ g6 ∧ Bk w6 (H + 1) z ∧ Bk w6 (H + 2) z ∧ Bk w6 (H + 3) m3 ∧ Below H w w6 := by
  have hl := b3.lt
  have hlt := (p5.lt g5 rfl).2
  have hne : some g5 ≠ v6.ownBlock := fun e => by
    rcases at5 with h | h
    · rcases n6 with h' | h'
      · rw [h'] at e; cases e
      · exact h' (by rw [h, e])
    · have := (o6'.lt g5 e.symm).2; omega
  refine ⟨(p5.alloc _).kept gr (.inr hne), ?_, (b1.alloc _).grown gr (own_ne o6 (by omega)), (b2.alloc _).grown gr (own_ne o6 (by omega)), (b3.alloc _).grown gr (own_ne o6 (by omega)), ?_⟩
  · rintro rfl
    rcases at6 with h | h
    · exact hne h.symm
    · omega
  · exact Below.grown (hb.alloc (by omega) _) gr (by simp; omega) (fun g hg => by have := (o6.lt g hg).1; omega)
end

set_option maxRecDepth 100000 in
set_option maxHeartbeats 2000000 in
theorem windows_cons (j : Jb) (A : Option Addr) (c : Nat) (w : World) (hj : j.ok) (hs : j.sh ≠ []) (hr : Rd w w.heap.size 2 A j.sh.length (rc j.sh)) :
    Calls Try.prog 84 #[jobV j A c] w fun e w' => e = .returned (.tuple #[R2 (winS j).1 (winS j).2, R2 (winL j).1 (winL j).2]) ∧ Below w.heap.size w w' := by
  have hw := hj.wi
  have hfew := hj.few
  have HJ := Lib.hid hj
  have HR := Lib.hid hr
  have hpos : 0 < j.sh.length := List.length_pos_iff.2 hs
  have e0 : (((j.sh.length : Int)) == 0) = false := by simpa using hs
  have e1 : ((j.sh.length) == 0) = false := by simpa using hs
  obtain ⟨s0, s1, sr, l0, l1, lr, hS, hL⟩ : ∃ s0 s1 sr l0 l1 lr, strictL j.wi j.sh = (s0, s1) :: sr ∧ looseL j.wi j.sh = (l0, l1) :: lr := by
    cases hq : j.sh with
    | nil => exact absurd hq hs
    | cons p r => exact ⟨_, _, _, _, _, _, rfl, rfl⟩
  have HS := Lib.hid hS
  have HL := Lib.hid hL
  clear hj hr hs hS hL
  obtain ⟨i0, hi, hz0, hz1, hz2⟩ := info_parts Try.infoRange
  have HI := Lib.hid hi
  have HZ0 := Lib.hid hz0
  have HZ1 := Lib.hid hz1
  have HZ2 := Lib.hid hz2
  clear hi hz0 hz1 hz2
  go_enter Try.func84, Try.ntmps84
  go_wp2
  go_loopw [5, 6, 24] (fun v5 v6 i wr => WRel j A c w v5 v6 i wr) (fun _ _ i _ => j.sh.length - (intOf i).toNat)
  case atStart => exact ⟨0, Nat.zero_le _, rfl, ⟨rfl, .inl ⟨rfl, rfl⟩⟩, ⟨rfl, .inl ⟨rfl, rfl⟩⟩, .inl rfl, .inl rfl, by (repeat' (first | (with_reducible refine Bk.drew ?_) | ((with_reducible refine Bk.newAt _ _ _ _ ?_); (simp; done)) | (with_reducible refine Bk.alloc ?_ _))), by (repeat' (first | (with_reducible refine Bk.drew ?_) | ((with_reducible refine Bk.newAt _ _ _ _ ?_); (simp; done)) | (with_reducible refine Bk.alloc ?_ _))), by (repeat' (first | (with_reducible refine Bk.drew ?_) | ((with_reducible refine Bk.newAt _ _ _ _ ?_); (simp; done)) | (with_reducible refine Bk.alloc ?_ _))), by (repeat' (first | (with_reducible exact Below.refl _ _) | (with_reducible refine Below.alloc ?_ ?_ _) | (with_reducible refine Below.setCell ?_ ?_ _) | (with_reducible refine Below.drew ?_) | ((with_reducible refine Below.trans ?_ (Below.mono (by assumption) ?_))) | go_size))⟩
  case round =>
    obtain ⟨k, hk, rfl, o5, o6, n5, n6, b1, b2, b3, hb⟩ := hrel
    have hz := b3.lt
    have c3 := b3.cell
    by_cases hlt : k < j.sh.length
    · obtain ⟨b, o, x0, x1, rfl, hbb, hd, d0, d1⟩ := (HR.out.below hb).at2 hlt
      have HD := Lib.hid hd
      have hx := HJ.out.sh (x0, x1) (by have : (x0, x1) ∈ j.sh.drop k := by rw [hd]; simp
                                        exact List.mem_of_mem_drop this)
      simp only at hx
      clear hd
      have hb1 : b < wr.heap.size := by omega
      have b4 : Bk (wr.alloc (.cells #[.int .i64 x0, .int .i64 x1] 23)) wr.heap.size #[.int .i64 x0, .int .i64 x1] := Bk.new _ _ _
      have n1 := Bk.new1 wr (.cells #[.int .i64 x0, .int .i64 x1] 23) 23 #[.int .i64 (-j.wi - x0), .int .i64 (j.wi - x1)]
      go_wp2_with (at_builtin; first
        | ((refine wpList_app1 (by rfl) (.tmp 28) (.tmp 40) 28 (by rfl) (w.heap.size + 4) 23 i0 _ 16 Try.underlying28 HI.out HZ0.out #[.int .i64 (-j.wi - x0), .int .i64 (j.wi - x1)] HZ1.out HZ2.out (by rfl) (by simp) _ _ _ (by rfl) ((o5.alloc _).alloc _) _ _ (by rfl) n1 (by simp [Value.oneCell']) (by omega) (by omega) (by simp; omega) ?_); intro g5 cap5 w5 p5 gr5 at5 lt5; obtain ⟨o6', b1', b2', b3', b4', hb', hz'⟩ := wmid o5 o6 n6 b1 b2 b3 hb gr5; clear d0 d1 c3; have c3 := b3'.cell; have c4 := b4'.cell; have l3 := b3'.lt)
        | ((refine wpList_app1 (by rfl) (.tmp 42) (.tmp 54) 28 (by rfl) (w.heap.size + 4) 23 i0 _ 16 Try.underlying28 HI.out HZ0.out #[.int .i64 (-j.wi - x1), .int .i64 (j.wi - x0)] HZ1.out HZ2.out (by rfl) (by simp) _ _ _ (by rfl) (o6'.alloc _) _ _ (by rfl) (Bk.new _ _ _) (by simp [Value.oneCell']) (by omega) (by omega) (by simp; omega) ?_); intro g6 cap6 w6 p6 gr6 at6 lt6))
      simp only [World.size_alloc] at at5 at6
      obtain ⟨q5, hne, q1, q2, q3, hb6⟩ := wend o5 o6 n6 o6' p5 at5 b1' b2' b3' hb' gr6 at6
      go_roundw
      case rel => exact ⟨k + 1, by omega, by go_num, by rw [rc_take_succ _ _ _ _ (map_drop_cons HD.out)]; exact q5, by rw [rc_take_succ _ _ _ _ (map_drop_cons HD.out)]; exact p6, .inr (by simpa [Value.ownBlock] using hne), .inr (by simpa [Value.ownBlock] using (Ne.symm hne)), q1, q2, q3, hb6⟩
      case measure => simp [intOf]; omega
    · obtain rfl : k = j.sh.length := by omega
      rw [List.take_of_length_le (by simp [strictL])] at o5
      rw [List.take_of_length_le (by simp [looseL])] at o6
      obtain ⟨g5, c5, rfl, hc5, hm5, hg5, hl5, hr5⟩ := own_form o5 hpos
      obtain ⟨g6, c6, rfl, hc6, hm6, hg6, hl6, hr6⟩ := own_form o6 hpos
      go_wp2
      have hu5 : wr.cell? ⟨g5, 0, none⟩ = some (.int .i64 s0) := hr5 0 _ (by rw [HS.out]; rfl)
      have hv5 : wr.cell? ⟨g5, 1, none⟩ = some (.int .i64 s1) := hr5 1 _ (by rw [HS.out]; rfl)
      have hu6 : wr.cell? ⟨g6, 0, none⟩ = some (.int .i64 l0) := hr6 0 _ (by rw [HL.out]; rfl)
      have hv6 : wr.cell? ⟨g6, 1, none⟩ = some (.int .i64 l1) := hr6 1 _ (by rw [HL.out]; rfl)
      have hn1 : (1 : Int) ≤ (j.sh.length : Int) := by omega
      have hc51 : (j.sh.length : Int) ≤ (c5 : Int) := by omega
      have hc61 : (j.sh.length : Int) ≤ (c6 : Int) := by omega
      refine wp_region_G (fun L W => Ex wr W (fun b => b ≠ w.heap.size + 1 ∧ b ≠ w.heap.size + 2) ∧ (L.getD 12 true = false → Bk W (w.heap.size + 1) #[.int .i64 0, .int .i64 0]) ∧ (L.getD 12 true = true → Bk W (w.heap.size + 1) #[.int .i64 (meetL (s0, s1) sr).1, .int .i64 (meetL (s0, s1) sr).2]) ∧ (L.getD 13 true = false → Bk W (w.heap.size + 2) #[.int .i64 0, .int .i64 0]) ∧ (L.getD 13 true = true → Bk W (w.heap.size + 2) #[.int .i64 (meetL (l0, l1) lr).1, .int .i64 (meetL (l0, l1) lr).2]) ∧ Below w.heap.size w W) 14 (by kernel_rfl) (by kernel_rfl) ?s0 ?r0
      case s0 => (exact ⟨(Ex.refl _ _).drew, fun _ => b1.drew, fun h => (no_of h (by kernel_rfl)).elim, fun _ => b2.drew, fun h => (no_of h (by kernel_rfl)).elim, hb.drew⟩)
      intro W0
      refine wpG_take (i := 0) (v := ?v1) rfl (by kernel_rfl) (by intro L w; simp only [getD_set_ne true (show (0 : Nat) ≠ 12 from by decide), getD_set_ne true (show (0 : Nat) ≠ 13 from by decide)]) (fun _ _ _ h => h) (Or.inl ⟨by rfl, ?y1⟩) ?r1
      case y1 => (intro w' hy; obtain ⟨L, hD, hl, hS⟩ := hy; clear hD hl hS; go_simp; (try with_reducible rfl))
      (try simp only [Act.put, List.getElem_toArray, List.getElem_cons_succ, List.getElem_cons_zero, List.setIfInBounds_toArray, List.set_cons_zero, List.set_cons_succ])
      refine wpG_take (i := 1) (v := ?v2) rfl (by kernel_rfl) (by intro L w; simp only [getD_set_ne true (show (1 : Nat) ≠ 12 from by decide), getD_set_ne true (show (1 : Nat) ≠ 13 from by decide)]) (fun _ _ _ h => h) (Or.inl ⟨by rfl, ?y2⟩) ?r2
      case y2 => (intro w' hy; obtain ⟨L, hD, hl, hS⟩ := hy; clear hD hl hS; go_simp; (try with_reducible rfl))
      (try simp only [Act.put, List.getElem_toArray, List.getElem_cons_succ, List.getElem_cons_zero, List.setIfInBounds_toArray, List.set_cons_zero, List.set_cons_succ])
      refine wpG_take (i := 2) (v := ?v3) rfl (by kernel_rfl) (by intro L w; simp only [getD_set_ne true (show (2 : Nat) ≠ 12 from by decide), getD_set_ne true (show (2 : Nat) ≠ 13 from by decide)]) (fun _ _ _ h => h) (Or.inl ⟨by rfl, ?y3⟩) ?r3
      case y3 => (intro w' hy; obtain ⟨L, hD, hl, hS⟩ := hy; have x5 := hS.1.cell (g := g5) hl5 ⟨by omega, by omega⟩; have x6 := hS.1.cell (g := g6) hl6 ⟨by omega, by omega⟩; clear hS hD hl; go_simp; (try with_reducible rfl))
      (try simp only [Act.put, List.getElem_toArray, List.getElem_cons_succ, List.getElem_cons_zero, List.setIfInBounds_toArray, List.set_cons_zero, List.set_cons_succ])
      refine wpG_take (i := 3) (v := ?v4) rfl (by kernel_rfl) (by intro L w; simp only [getD_set_ne true (show (3 : Nat) ≠ 12 from by decide), getD_set_ne true (show (3 : Nat) ≠ 13 from by decide)]) (fun _ _ _ h => h) (Or.inl ⟨by rfl, ?y4⟩) ?r4
      case y4 => (intro w' hy; obtain ⟨L, hD, hl, hS⟩ := hy; clear hD hl hS; go_simp; (try with_reducible rfl))
      (try simp only [Act.put, List.getElem_toArray, List.getElem_cons_succ, List.getElem_cons_zero, List.setIfInBounds_toArray, List.set_cons_zero, List.set_cons_succ])
      refine wpG_take (i := 4) (v := ?v5) rfl (by kernel_rfl) (by intro L w; simp only [getD_set_ne true (show (4 : Nat) ≠ 12 from by decide), getD_set_ne true (show (4 : Nat) ≠ 13 from by decide)]) (fun _ _ _ h => h) (Or.inl ⟨by rfl, ?y5⟩) ?r5
      case y5 => (intro w' hy; obtain ⟨L, hD, hl, hS⟩ := hy; clear hD hl hS; go_simp; (try with_reducible rfl))
      (try simp only [Act.put, List.getElem_toArray, List.getElem_cons_succ, List.getElem_cons_zero, List.setIfInBounds_toArray, List.set_cons_zero, List.set_cons_succ])
      refine wpG_take (i := 6) (v := ?v6) rfl (by kernel_rfl) (by intro L w; simp only [getD_set_ne true (show (6 : Nat) ≠ 12 from by decide), getD_set_ne true (show (6 : Nat) ≠ 13 from by decide)]) (fun _ _ _ h => h) (Or.inl ⟨by rfl, ?y6⟩) ?r6
      case y6 => (intro w' hy; obtain ⟨L, hD, hl, hS⟩ := hy; clear hD hl hS; go_simp; (try with_reducible rfl))
      (try simp only [Act.put, List.getElem_toArray, List.getElem_cons_succ, List.getElem_cons_zero, List.setIfInBounds_toArray, List.set_cons_zero, List.set_cons_succ])
      refine wpG_take (i := 7) (v := ?v7) rfl (by kernel_rfl) (by intro L w; simp only [getD_set_ne true (show (7 : Nat) ≠ 12 from by decide), getD_set_ne true (show (7 : Nat) ≠ 13 from by decide)]) (fun _ _ _ h => h) (Or.inl ⟨by rfl, ?y7⟩) ?r7
      case y7 => (intro w' hy; obtain ⟨L, hD, hl, hS⟩ := hy; clear hD hl hS; go_simp; (try with_reducible rfl))
      (try simp only [Act.put, List.getElem_toArray, List.getElem_cons_succ, List.getElem_cons_zero, List.setIfInBounds_toArray, List.set_cons_zero, List.set_cons_succ])
      refine wpG_take (i := 8) (v := ?v8) rfl (by kernel_rfl) (by intro L w; simp only [getD_set_ne true (show (8 : Nat) ≠ 12 from by decide), getD_set_ne true (show (8 : Nat) ≠ 13 from by decide)]) (fun _ _ _ h => h) (Or.inl ⟨by rfl, ?y8⟩) ?r8
      case y8 => (intro w' hy; obtain ⟨L, hD, hl, hS⟩ := hy; have x5 := hS.1.cell (g := g5) hl5 ⟨by omega, by omega⟩; have x6 := hS.1.cell (g := g6) hl6 ⟨by omega, by omega⟩; clear hS hD hl; go_simp; (try with_reducible rfl))
      (try simp only [Act.put, List.getElem_toArray, List.getElem_cons_succ, List.getElem_cons_zero, List.setIfInBounds_toArray, List.set_cons_zero, List.set_cons_succ])
      refine wpG_take (i := 9) (v := ?v9) rfl (by kernel_rfl) (by intro L w; simp only [getD_set_ne true (show (9 : Nat) ≠ 12 from by decide), getD_set_ne true (show (9 : Nat) ≠ 13 from by decide)]) (fun _ _ _ h => h) (Or.inl ⟨by rfl, ?y9⟩) ?r9
      case y9 => (intro w' hy; obtain ⟨L, hD, hl, hS⟩ := hy; clear hD hl hS; go_simp; (try with_reducible rfl))
      (try simp only [Act.put, List.getElem_toArray, List.getElem_cons_succ, List.getElem_cons_zero, List.setIfInBounds_toArray, List.set_cons_zero, List.set_cons_succ])
      refine wpG_take (i := 10) (v := ?v10) rfl (by kernel_rfl) (by intro L w; simp only [getD_set_ne true (show (10 : Nat) ≠ 12 from by decide), getD_set_ne true (show (10 : Nat) ≠ 13 from by decide)]) (fun _ _ _ h => h) (Or.inl ⟨by rfl, ?y10⟩) ?r10
      case y10 => (intro w' hy; obtain ⟨L, hD, hl, hS⟩ := hy; clear hD hl hS; go_simp; (try with_reducible rfl))
      (try simp only [Act.put, List.getElem_toArray, List.getElem_cons_succ, List.getElem_cons_zero, List.setIfInBounds_toArray, List.set_cons_zero, List.set_cons_succ])
      refine wpG_step (i := 5) (by kernel_rfl) rfl (by rfl) ?r11
      intro hS K hK
      (have hx := hS.1; have h1 := hS.2.1 (by kernel_rfl); have h2 := hS.2.2.2.1 (by kernel_rfl); have hbb := hS.2.2.2.2.2; clear hS; go_simp; refine (meet_any s0 s1 _ _ _ sr _ (rd_cut (p := (s0, s1)) (by rw [← HS.out]; exact hx.range hr5 hl5 ⟨by omega, by omega⟩) (Nat.lt_of_lt_of_le hl5 hx.size) (by have := congrArg List.length HS.out; simpa [strictL] using this) hc5) (by omega)).mono ?_; rintro e V5 ⟨rfl, hb1⟩; refine hK.out _ _ ⟨hx.below hb1, fun _ => h1.below hb1, fun h => (no_of h (by kernel_rfl)).elim, fun _ => h2.below hb1, fun h => (no_of h (by kernel_rfl)).elim, bl_trans hbb hb1 hbb.size⟩ ?_; clear hx h1 h2 hbb hb1)
      clear hK K; intro W11
      (try simp only [Act.put, List.getElem_toArray, List.getElem_cons_succ, List.getElem_cons_zero, List.setIfInBounds_toArray, List.set_cons_zero, List.set_cons_succ])
      refine wpG_step (i := 11) (by kernel_rfl) rfl (by rfl) ?r12
      intro hS K hK
      (have hx := hS.1; have h1 := hS.2.1 (by kernel_rfl); have h2 := hS.2.2.2.1 (by kernel_rfl); have hbb := hS.2.2.2.2.2; clear hS; go_simp; refine (meet_any l0 l1 _ _ _ lr _ (rd_cut (p := (l0, l1)) (by rw [← HL.out]; exact hx.range hr6 hl6 ⟨by omega, by omega⟩) (Nat.lt_of_lt_of_le hl6 hx.size) (by have := congrArg List.length HL.out; simpa [looseL] using this) hc6) (by omega)).mono ?_; rintro e V6 ⟨rfl, hb1⟩; refine hK.out _ _ ⟨hx.below hb1, fun _ => h1.below hb1, fun h => (no_of h (by kernel_rfl)).elim, fun _ => h2.below hb1, fun h => (no_of h (by kernel_rfl)).elim, bl_trans hbb hb1 hbb.size⟩ ?_; clear hx h1 h2 hbb hb1)
      clear hK K; intro W12
      (try simp only [Act.put, List.getElem_toArray, List.getElem_cons_succ, List.getElem_cons_zero, List.setIfInBounds_toArray, List.set_cons_zero, List.set_cons_succ])
      refine wpG_step (i := 12) (by kernel_rfl) rfl (by rfl) ?r13
      intro hS K hK
      (have hx := hS.1; have h1 := hS.2.1 (by kernel_rfl); have h2 := hS.2.2.2.1 (by kernel_rfl); have hbb := hS.2.2.2.2.2; clear hS; have qc := h1.cell; have qf := h1.frozen; go_simp; refine hK.out _ _ ⟨hx.set2 (by omega), fun h => (no_of (by kernel_rfl) h).elim, fun _ => h1.put2, fun _ => h2.far2 (by omega), fun h => (no_of h (by kernel_rfl)).elim, bl_set2 hbb (by omega)⟩ ?_; clear hx h1 h2 hbb qc qf)
      clear hK K; intro W13
      (try simp only [Act.put, List.getElem_toArray, List.getElem_cons_succ, List.getElem_cons_zero, List.setIfInBounds_toArray, List.set_cons_zero, List.set_cons_succ])
      refine wpG_step (i := 13) (by kernel_rfl) rfl (by rfl) ?r14
      intro hS K hK
      (have hx := hS.1; have h1 := hS.2.2.1 (by kernel_rfl); have h2 := hS.2.2.2.1 (by kernel_rfl); have hbb := hS.2.2.2.2.2; clear hS; have qc := h2.cell; have qf := h2.frozen; go_simp; refine hK.out _ _ ⟨hx.set2 (by omega), fun h => (no_of (by kernel_rfl) h).elim, fun _ => h1.far2 (by omega), fun h => (no_of (by kernel_rfl) h).elim, fun _ => h2.put2, bl_set2 hbb (by omega)⟩ ?_; clear hx h1 h2 hbb qc qf)
      clear hK K; intro W14
      (try simp only [Act.put, List.getElem_toArray, List.getElem_cons_succ, List.getElem_cons_zero, List.setIfInBounds_toArray, List.set_cons_zero, List.set_cons_succ])
      refine wpG_end (by kernel_rfl) ?_
      intro W
       hS
      go_wp2
      all_goals
        refine ret_blk2 2 3 23 23 (by rfl) (by rfl) _ _ (by rfl) (by rfl) _ _ (hS.2.2.1 (by kernel_rfl)) (hS.2.2.2.2.1 (by kernel_rfl)) _ _ Try.underlying23 (by rfl) (by kernel_rfl) Try.underlying23 (by rfl) (by kernel_rfl) ?_
        refine ⟨?_, hS.2.2.2.2.2⟩
        unfold winS winL
        rw [HS.out, HL.out]
        rfl

theorem windows_any (j : Jb) (A : Option Addr) (c : Nat) (w : World) (hj : j.ok) (hr : Rd w w.heap.size 2 A j.sh.length (rc j.sh)) :
    Calls Try.prog 84 #[jobV j A c] w fun e w' => e = .returned (.tuple #[R2 (winS j).1 (winS j).2, R2 (winL j).1 (winL j).2]) ∧ Below w.heap.size w w' := by
  by_cases hs : j.sh = []
  · exact windows_nil j A c w hj hs
  · exact windows_cons j A c w hj hs hr

end Go.Proofs.Ythlpceoajhcliaa

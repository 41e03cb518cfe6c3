/-
  Walks of functions, and plain laws (texts put together). No condition.
-/
import Derived.Deep.DeepMust
import Derived.Deep.DeepFit
import Derived.Test.YthlpceoajhcliaaMReedBlanks1

section
/-
  reed: ranges, and a tongue under a file.
-/
namespace Go.Proofs.Ythlpceoajhcliaa
set_option linter.unusedSimpArgs false
set_option linter.unusedVariables false
open Go.RowKit

set_option maxHeartbeats 400000 in
theorem plus_any (a b c d : Int) (w : World) (ha : -1000000 ≤ a ∧ a ≤ 1000000) (hb : -1000000 ≤ b ∧ b ≤ 1000000) (hc : -1000000 ≤ c ∧ c ≤ 1000000) (hd : -1000000 ≤ d ∧ d ≤ 1000000) :
    Calls Try.prog 96 #[R2 a b, R2 c d] w fun e w' => e = .returned (R2 (a + c) (b + d)) ∧ Below w.heap.size w w' := by
  go_enter Try.func96, Try.ntmps96
  go_wp2
  go_returns; refine ⟨rfl, ?_⟩; (repeat' (first | (with_reducible exact Below.refl _ _) | (with_reducible refine Below.alloc ?_ ?_ _) | (with_reducible refine Below.setCell ?_ ?_ _) | (with_reducible refine Below.drew ?_) | ((with_reducible refine Below.trans ?_ (Below.mono (by assumption) ?_))) | go_size))

set_option maxHeartbeats 400000 in
theorem less_any (a b c d : Int) (w : World) (ha : -1000000 ≤ a ∧ a ≤ 1000000) (hb : -1000000 ≤ b ∧ b ≤ 1000000) (hc : -1000000 ≤ c ∧ c ≤ 1000000) (hd : -1000000 ≤ d ∧ d ≤ 1000000) :
    Calls Try.prog 112 #[R2 a b, R2 c d] w fun e w' => e = .returned (R2 (a - d) (b - c)) ∧ Below w.heap.size w w' := by
  go_enter Try.func112, Try.ntmps112
  go_wp2
  go_returns; refine ⟨rfl, ?_⟩; (repeat' (first | (with_reducible exact Below.refl _ _) | (with_reducible refine Below.alloc ?_ ?_ _) | (with_reducible refine Below.setCell ?_ ?_ _) | (with_reducible refine Below.drew ?_) | ((with_reducible refine Below.trans ?_ (Below.mono (by assumption) ?_))) | go_size))

def hasB (a b c d : Int) : Bool := decide (a ≤ c ∧ d ≤ b)
theorem hasB_no {a b c d : Int} (h : ¬ a ≤ c) : hasB a b c d = false := by unfold hasB; simp; intro; omega
theorem hasB_yes {a b c d : Int} (h : a ≤ c) : hasB a b c d = decide (d ≤ b) := by unfold hasB; simp [h]

set_option maxHeartbeats 400000 in
theorem has_any (a b c d : Int) (w : World) :
    Calls Try.prog 106 #[R2 a b, R2 c d] w fun e w' => e = .returned (.bool (hasB a b c d)) ∧ Below w.heap.size w w' := by
  by_cases h1 : a ≤ c
  · rw [hasB_yes h1]
    go_enter Try.func106, Try.ntmps106
    go_wp2
    go_returns; refine ⟨rfl, ?_⟩; (repeat' (first | (with_reducible exact Below.refl _ _) | (with_reducible refine Below.alloc ?_ ?_ _) | (with_reducible refine Below.setCell ?_ ?_ _) | (with_reducible refine Below.drew ?_) | ((with_reducible refine Below.trans ?_ (Below.mono (by assumption) ?_))) | go_size))
  · have h2 : decide (a ≤ c) = false := by simpa using h1
    rw [hasB_no h1]
    go_enter Try.func106, Try.ntmps106
    go_wp2
    go_returns; refine ⟨rfl, ?_⟩; (repeat' (first | (with_reducible exact Below.refl _ _) | (with_reducible refine Below.alloc ?_ ?_ _) | (with_reducible refine Below.setCell ?_ ?_ _) | (with_reducible refine Below.drew ?_) | ((with_reducible refine Below.trans ?_ (Below.mono (by assumption) ?_))) | go_size))

/-- A tongue under a file, as data. -/
structure St where
  p0 : Int
  p1 : Int
  t0 : Int
  t1 : Int
  r0 : Int
  r1 : Int
  u0 : Int
  u1 : Int
  d0 : Int
  d1 : Int
  a0 : Int
  a1 : Int
  b0 : Int
  b1 : Int
  le : Int
abbrev stV (s : St) : Value := .agg #[.int .i64 s.p0, .int .i64 s.p1, .int .i64 s.t0, .int .i64 s.t1, .int .i64 s.r0, .int .i64 s.r1, .int .i64 s.u0, .int .i64 s.u1, .int .i64 s.d0, .int .i64 s.d1, .int .i64 s.a0, .int .i64 s.a1, .int .i64 s.b0, .int .i64 s.b1, .int .i64 s.le]
def bd (n : Int) : Prop := -1000000 ≤ n ∧ n ≤ 1000000
structure St.ok (s : St) : Prop where
  p0 : -1000000 ≤ s.p0 ∧ s.p0 ≤ 1000000
  p1 : -1000000 ≤ s.p1 ∧ s.p1 ≤ 1000000
  t0 : -1000000 ≤ s.t0 ∧ s.t0 ≤ 1000000
  t1 : -1000000 ≤ s.t1 ∧ s.t1 ≤ 1000000
  r0 : -1000000 ≤ s.r0 ∧ s.r0 ≤ 1000000
  r1 : -1000000 ≤ s.r1 ∧ s.r1 ≤ 1000000
  u0 : -1000000 ≤ s.u0 ∧ s.u0 ≤ 1000000
  u1 : -1000000 ≤ s.u1 ∧ s.u1 ≤ 1000000
  d0 : -1000000 ≤ s.d0 ∧ s.d0 ≤ 1000000
  d1 : -1000000 ≤ s.d1 ∧ s.d1 ≤ 1000000
  a0 : -1000000 ≤ s.a0 ∧ s.a0 ≤ 1000000
  a1 : -1000000 ≤ s.a1 ∧ s.a1 ≤ 1000000
  b0 : -1000000 ≤ s.b0 ∧ s.b0 ≤ 1000000
  b1 : -1000000 ≤ s.b1 ∧ s.b1 ≤ 1000000

def St.tip (s : St) : St := { s with p0 := s.p0 + s.u0, p1 := s.p1 + s.u1, t0 := s.t0 - s.a1, t1 := s.t1 - s.a0 }
def St.root (s : St) : St := { s with p0 := s.p0 - s.d1, p1 := s.p1 - s.d0, r0 := s.r0 - s.b1, r1 := s.r1 - s.b0 }


set_option maxHeartbeats 1000000 in
theorem filed_tip (s : St) (w : World) (h : s.ok) :
    Calls Try.prog 104 #[stV s, .int .i64 1] w fun e w' => e = .returned (stV s.tip) ∧ Below w.heap.size w w' := by
  obtain ⟨h1, h2, h3, h4, h5, h6, h7, h8, h9, h10, h11, h12, h13, h14⟩ := h
  have q0 := (Bk.new w 92 #[.int .i64 s.p0, .int .i64 s.p1, .int .i64 s.t0, .int .i64 s.t1, .int .i64 s.r0, .int .i64 s.r1, .int .i64 s.u0, .int .i64 s.u1, .int .i64 s.d0, .int .i64 s.d1, .int .i64 s.a0, .int .i64 s.a1, .int .i64 s.b0, .int .i64 s.b1, .int .i64 s.le]).alloc (.cells #[.int .i64 0, .int .i64 0, .int .i64 0, .int .i64 0, .int .i64 0, .int .i64 0, .int .i64 0, .int .i64 0, .int .i64 0, .int .i64 0, .int .i64 0, .int .i64 0, .int .i64 0, .int .i64 0, .int .i64 0] 92)
  have q1 := Bk.new (w.alloc (.cells #[.int .i64 s.p0, .int .i64 s.p1, .int .i64 s.t0, .int .i64 s.t1, .int .i64 s.r0, .int .i64 s.r1, .int .i64 s.u0, .int .i64 s.u1, .int .i64 s.d0, .int .i64 s.d1, .int .i64 s.a0, .int .i64 s.a1, .int .i64 s.b0, .int .i64 s.b1, .int .i64 s.le] 92)) 92 #[.int .i64 0, .int .i64 0, .int .i64 0, .int .i64 0, .int .i64 0, .int .i64 0, .int .i64 0, .int .i64 0, .int .i64 0, .int .i64 0, .int .i64 0, .int .i64 0, .int .i64 0, .int .i64 0, .int .i64 0]
  rw [World.size_alloc] at q1
  go_enter Try.func104, Try.ntmps104
  go_wp2
  refine wp_region_G (fun L W => (L.getD 16 true = false → Bk W w.heap.size #[.int .i64 s.p0, .int .i64 s.p1, .int .i64 s.t0, .int .i64 s.t1, .int .i64 s.r0, .int .i64 s.r1, .int .i64 s.u0, .int .i64 s.u1, .int .i64 s.d0, .int .i64 s.d1, .int .i64 s.a0, .int .i64 s.a1, .int .i64 s.b0, .int .i64 s.b1, .int .i64 s.le]) ∧ (L.getD 16 true = true → L.getD 19 true = false → Bk W w.heap.size #[.int .i64 (s.p0 + s.u0), .int .i64 (s.p1 + s.u1), .int .i64 s.t0, .int .i64 s.t1, .int .i64 s.r0, .int .i64 s.r1, .int .i64 s.u0, .int .i64 s.u1, .int .i64 s.d0, .int .i64 s.d1, .int .i64 s.a0, .int .i64 s.a1, .int .i64 s.b0, .int .i64 s.b1, .int .i64 s.le]) ∧ (L.getD 19 true = true → Bk W w.heap.size #[.int .i64 (s.p0 + s.u0), .int .i64 (s.p1 + s.u1), .int .i64 (s.t0 - s.a1), .int .i64 (s.t1 - s.a0), .int .i64 s.r0, .int .i64 s.r1, .int .i64 s.u0, .int .i64 s.u1, .int .i64 s.d0, .int .i64 s.d1, .int .i64 s.a0, .int .i64 s.a1, .int .i64 s.b0, .int .i64 s.b1, .int .i64 s.le]) ∧ Bk W (w.heap.size + 1) #[.int .i64 0, .int .i64 0, .int .i64 0, .int .i64 0, .int .i64 0, .int .i64 0, .int .i64 0, .int .i64 0, .int .i64 0, .int .i64 0, .int .i64 0, .int .i64 0, .int .i64 0, .int .i64 0, .int .i64 0] ∧ Below w.heap.size w W) 20 (by kernel_rfl) (by kernel_rfl) ?s0 ?r0
  case s0 => (exact ⟨fun _ => q0.drew, fun h => (no_of h (by kernel_rfl)).elim, fun h => (no_of h (by kernel_rfl)).elim, q1.drew, by (repeat' (first | (with_reducible exact Below.refl _ _) | (with_reducible refine Below.alloc ?_ ?_ _) | (with_reducible refine Below.setCell ?_ ?_ _) | (with_reducible refine Below.drew ?_) | ((with_reducible refine Below.trans ?_ (Below.mono (by assumption) ?_))) | go_size))⟩)
  intro W0
  refine wpG_take (i := 0) (v := ?v1) rfl (by kernel_rfl) (by intro L w; simp only [getD_set_ne true (show (0 : Nat) ≠ 16 from by decide), getD_set_ne true (show (0 : Nat) ≠ 19 from by decide)]) (fun _ _ _ h => h) (Or.inl ⟨by rfl, ?y1⟩) ?r1
  case y1 => (intro w' hy; obtain ⟨L, hD, hl, hS⟩ := hy; clear hD hl hS; go_simp; (try with_reducible rfl))
  (try simp only [Act.put, List.getElem_toArray, List.getElem_cons_succ, List.getElem_cons_zero, List.setIfInBounds_toArray, List.set_cons_zero, List.set_cons_succ])
  refine wpG_take (i := 1) (v := ?v2) rfl (by kernel_rfl) (by intro L w; simp only [getD_set_ne true (show (1 : Nat) ≠ 16 from by decide), getD_set_ne true (show (1 : Nat) ≠ 19 from by decide)]) (fun _ _ _ h => h) (Or.inl ⟨by rfl, ?y2⟩) ?r2
  case y2 => (intro w' hy; obtain ⟨L, hD, hl, hS⟩ := hy; clear hD hl hS; go_simp; (try with_reducible rfl))
  (try simp only [Act.put, List.getElem_toArray, List.getElem_cons_succ, List.getElem_cons_zero, List.setIfInBounds_toArray, List.set_cons_zero, List.set_cons_succ])
  refine wpG_take (i := 2) (v := ?v3) rfl (by kernel_rfl) (by intro L w; simp only [getD_set_ne true (show (2 : Nat) ≠ 16 from by decide), getD_set_ne true (show (2 : Nat) ≠ 19 from by decide)]) (fun _ _ _ h => h) (Or.inl ⟨by rfl, ?y3⟩) ?r3
  case y3 => (intro w' hy; obtain ⟨L, hD, hl, hS⟩ := hy; have qc := (hS.1 (hD.wait (by kernel_rfl) hl)).cell; clear hS hD hl; go_simp; (try with_reducible rfl))
  (try simp only [Act.put, List.getElem_toArray, List.getElem_cons_succ, List.getElem_cons_zero, List.setIfInBounds_toArray, List.set_cons_zero, List.set_cons_succ])
  refine wpG_take (i := 3) (v := ?v4) rfl (by kernel_rfl) (by intro L w; simp only [getD_set_ne true (show (3 : Nat) ≠ 16 from by decide), getD_set_ne true (show (3 : Nat) ≠ 19 from by decide)]) (fun _ _ _ h => h) (Or.inl ⟨by rfl, ?y4⟩) ?r4
  case y4 => (intro w' hy; obtain ⟨L, hD, hl, hS⟩ := hy; clear hD hl hS; go_simp; (try with_reducible rfl))
  (try simp only [Act.put, List.getElem_toArray, List.getElem_cons_succ, List.getElem_cons_zero, List.setIfInBounds_toArray, List.set_cons_zero, List.set_cons_succ])
  refine wpG_take (i := 4) (v := ?v5) rfl (by kernel_rfl) (by intro L w; simp only [getD_set_ne true (show (4 : Nat) ≠ 16 from by decide), getD_set_ne true (show (4 : Nat) ≠ 19 from by decide)]) (fun _ _ _ h => h) (Or.inl ⟨by rfl, ?y5⟩) ?r5
  case y5 => (intro w' hy; obtain ⟨L, hD, hl, hS⟩ := hy; clear hD hl hS; go_simp; (try with_reducible rfl))
  (try simp only [Act.put, List.getElem_toArray, List.getElem_cons_succ, List.getElem_cons_zero, List.setIfInBounds_toArray, List.set_cons_zero, List.set_cons_succ])
  refine wpG_take (i := 5) (v := ?v6) rfl (by kernel_rfl) (by intro L w; simp only [getD_set_ne true (show (5 : Nat) ≠ 16 from by decide), getD_set_ne true (show (5 : Nat) ≠ 19 from by decide)]) (fun _ _ _ h => h) (Or.inl ⟨by rfl, ?y6⟩) ?r6
  case y6 => (intro w' hy; obtain ⟨L, hD, hl, hS⟩ := hy; have qc := (hS.1 (hD.wait (by kernel_rfl) hl)).cell; clear hS hD hl; go_simp; (try with_reducible rfl))
  (try simp only [Act.put, List.getElem_toArray, List.getElem_cons_succ, List.getElem_cons_zero, List.setIfInBounds_toArray, List.set_cons_zero, List.set_cons_succ])
  refine wpG_take (i := 7) (v := ?v7) rfl (by kernel_rfl) (by intro L w; simp only [getD_set_ne true (show (7 : Nat) ≠ 16 from by decide), getD_set_ne true (show (7 : Nat) ≠ 19 from by decide)]) (fun _ _ _ h => h) (Or.inl ⟨by rfl, ?y7⟩) ?r7
  case y7 => (intro w' hy; obtain ⟨L, hD, hl, hS⟩ := hy; clear hD hl hS; go_simp; (try with_reducible rfl))
  (try simp only [Act.put, List.getElem_toArray, List.getElem_cons_succ, List.getElem_cons_zero, List.setIfInBounds_toArray, List.set_cons_zero, List.set_cons_succ])
  refine wpG_take (i := 8) (v := ?v8) rfl (by kernel_rfl) (by intro L w; simp only [getD_set_ne true (show (8 : Nat) ≠ 16 from by decide), getD_set_ne true (show (8 : Nat) ≠ 19 from by decide)]) (fun _ _ _ h => h) (Or.inl ⟨by rfl, ?y8⟩) ?r8
  case y8 => (intro w' hy; obtain ⟨L, hD, hl, hS⟩ := hy; clear hD hl hS; go_simp; (try with_reducible rfl))
  (try simp only [Act.put, List.getElem_toArray, List.getElem_cons_succ, List.getElem_cons_zero, List.setIfInBounds_toArray, List.set_cons_zero, List.set_cons_succ])
  refine wpG_take (i := 9) (v := ?v9) rfl (by kernel_rfl) (by intro L w; simp only [getD_set_ne true (show (9 : Nat) ≠ 16 from by decide), getD_set_ne true (show (9 : Nat) ≠ 19 from by decide)]) (fun _ _ _ h => h) (Or.inl ⟨by rfl, ?y9⟩) ?r9
  case y9 => (intro w' hy; obtain ⟨L, hD, hl, hS⟩ := hy; have qc := (hS.1 (hD.wait (by kernel_rfl) hl)).cell; clear hS hD hl; go_simp; (try with_reducible rfl))
  (try simp only [Act.put, List.getElem_toArray, List.getElem_cons_succ, List.getElem_cons_zero, List.setIfInBounds_toArray, List.set_cons_zero, List.set_cons_succ])
  refine wpG_take (i := 10) (v := ?v10) rfl (by kernel_rfl) (by intro L w; simp only [getD_set_ne true (show (10 : Nat) ≠ 16 from by decide), getD_set_ne true (show (10 : Nat) ≠ 19 from by decide)]) (fun _ _ _ h => h) (Or.inl ⟨by rfl, ?y10⟩) ?r10
  case y10 => (intro w' hy; obtain ⟨L, hD, hl, hS⟩ := hy; clear hD hl hS; go_simp; (try with_reducible rfl))
  (try simp only [Act.put, List.getElem_toArray, List.getElem_cons_succ, List.getElem_cons_zero, List.setIfInBounds_toArray, List.set_cons_zero, List.set_cons_succ])
  refine wpG_take (i := 11) (v := ?v11) rfl (by kernel_rfl) (by intro L w; simp only [getD_set_ne true (show (11 : Nat) ≠ 16 from by decide), getD_set_ne true (show (11 : Nat) ≠ 19 from by decide)]) (fun _ _ _ h => h) (Or.inl ⟨by rfl, ?y11⟩) ?r11
  case y11 => (intro w' hy; obtain ⟨L, hD, hl, hS⟩ := hy; clear hD hl hS; go_simp; (try with_reducible rfl))
  (try simp only [Act.put, List.getElem_toArray, List.getElem_cons_succ, List.getElem_cons_zero, List.setIfInBounds_toArray, List.set_cons_zero, List.set_cons_succ])
  refine wpG_take (i := 12) (v := ?v12) rfl (by kernel_rfl) (by intro L w; simp only [getD_set_ne true (show (12 : Nat) ≠ 16 from by decide), getD_set_ne true (show (12 : Nat) ≠ 19 from by decide)]) (fun _ _ _ h => h) (Or.inl ⟨by rfl, ?y12⟩) ?r12
  case y12 => (intro w' hy; obtain ⟨L, hD, hl, hS⟩ := hy; have qc := (hS.1 (hD.wait (by kernel_rfl) hl)).cell; clear hS hD hl; go_simp; (try with_reducible rfl))
  (try simp only [Act.put, List.getElem_toArray, List.getElem_cons_succ, List.getElem_cons_zero, List.setIfInBounds_toArray, List.set_cons_zero, List.set_cons_succ])
  refine wpG_step (i := 6) (by kernel_rfl) rfl (by rfl) ?r13
  intro hS K hK
  (have hq := hS.1 (by kernel_rfl); have hz := hS.2.2.2.1; have hb := hS.2.2.2.2; clear hS; go_simp; refine (plus_any _ _ _ _ _ h1 h2 h7 h8).mono ?_; rintro e w1 ⟨rfl, hb1⟩; refine hK.out _ _ ⟨fun _ => hq.below hb1, fun h => (no_of h (by kernel_rfl)).elim, fun h => (no_of h (by kernel_rfl)).elim, hz.below hb1, hb.trans (hb1.mono hb.size)⟩ ?_; clear hq hz hb hb1)
  clear hK K; intro W13
  (try simp only [Act.put, List.getElem_toArray, List.getElem_cons_succ, List.getElem_cons_zero, List.setIfInBounds_toArray, List.set_cons_zero, List.set_cons_succ])
  refine wpG_take (i := 14) (v := ?v14) rfl (by kernel_rfl) (by intro L w; simp only [getD_set_ne true (show (14 : Nat) ≠ 16 from by decide), getD_set_ne true (show (14 : Nat) ≠ 19 from by decide)]) (fun _ _ _ h => h) (Or.inl ⟨by rfl, ?y14⟩) ?r14
  case y14 => (intro w' hy; obtain ⟨L, hD, hl, hS⟩ := hy; clear hD hl hS; go_simp; (try with_reducible rfl))
  (try simp only [Act.put, List.getElem_toArray, List.getElem_cons_succ, List.getElem_cons_zero, List.setIfInBounds_toArray, List.set_cons_zero, List.set_cons_succ])
  refine wpG_take (i := 15) (v := ?v15) rfl (by kernel_rfl) (by intro L w; simp only [getD_set_ne true (show (15 : Nat) ≠ 16 from by decide), getD_set_ne true (show (15 : Nat) ≠ 19 from by decide)]) (fun _ _ _ h => h) (Or.inl ⟨by rfl, ?y15⟩) ?r15
  case y15 => (intro w' hy; obtain ⟨L, hD, hl, hS⟩ := hy; clear hD hl hS; go_simp; (try with_reducible rfl))
  (try simp only [Act.put, List.getElem_toArray, List.getElem_cons_succ, List.getElem_cons_zero, List.setIfInBounds_toArray, List.set_cons_zero, List.set_cons_succ])
  refine wpG_step (i := 13) (by kernel_rfl) rfl (by rfl) ?r16
  intro hS K hK
  (have hq := hS.1 (by kernel_rfl); have hz := hS.2.2.2.1; have hb := hS.2.2.2.2; clear hS; go_simp; refine (less_any _ _ _ _ _ h3 h4 h11 h12).mono ?_; rintro e w2 ⟨rfl, hb1⟩; refine hK.out _ _ ⟨fun _ => hq.below hb1, fun h => (no_of h (by kernel_rfl)).elim, fun h => (no_of h (by kernel_rfl)).elim, hz.below hb1, hb.trans (hb1.mono hb.size)⟩ ?_; clear hq hz hb hb1)
  clear hK K; intro W16
  (try simp only [Act.put, List.getElem_toArray, List.getElem_cons_succ, List.getElem_cons_zero, List.setIfInBounds_toArray, List.set_cons_zero, List.set_cons_succ])
  refine wpG_step (i := 16) (by kernel_rfl) rfl (by rfl) ?r17
  intro hS K hK
  (have hq := hS.1 (by kernel_rfl); have qc := hq.cell; have qf := hq.frozen; have hz := hS.2.2.2.1; have hb := hS.2.2.2.2; clear hS; go_simp; refine hK.out _ _ ⟨fun h => (no_of (by kernel_rfl) h).elim, fun _ _ => (hq.put 0 _ (by simp)).put 1 _ (by simp), fun h => (no_of h (by kernel_rfl)).elim, (hz.far (by simp) _).far (by simp) _, (hb.setCell (Nat.le_refl _) _).setCell (Nat.le_refl _) _⟩ ?_; clear qc qf hz hb hq)
  clear hK K; intro W17
  (try simp only [Act.put, List.getElem_toArray, List.getElem_cons_succ, List.getElem_cons_zero, List.setIfInBounds_toArray, List.set_cons_zero, List.set_cons_succ])
  refine wpG_take (i := 17) (v := ?v18) rfl (by kernel_rfl) (by intro L w; simp only [getD_set_ne true (show (17 : Nat) ≠ 16 from by decide), getD_set_ne true (show (17 : Nat) ≠ 19 from by decide)]) (fun _ _ _ h => h) (Or.inl ⟨by rfl, ?y18⟩) ?r18
  case y18 => (intro w' hy; obtain ⟨L, hD, hl, hS⟩ := hy; clear hD hl hS; go_simp; (try with_reducible rfl))
  (try simp only [Act.put, List.getElem_toArray, List.getElem_cons_succ, List.getElem_cons_zero, List.setIfInBounds_toArray, List.set_cons_zero, List.set_cons_succ])
  refine wpG_take (i := 18) (v := ?v19) rfl (by kernel_rfl) (by intro L w; simp only [getD_set_ne true (show (18 : Nat) ≠ 16 from by decide), getD_set_ne true (show (18 : Nat) ≠ 19 from by decide)]) (fun _ _ _ h => h) (Or.inl ⟨by rfl, ?y19⟩) ?r19
  case y19 => (intro w' hy; obtain ⟨L, hD, hl, hS⟩ := hy; clear hD hl hS; go_simp; (try with_reducible rfl))
  (try simp only [Act.put, List.getElem_toArray, List.getElem_cons_succ, List.getElem_cons_zero, List.setIfInBounds_toArray, List.set_cons_zero, List.set_cons_succ])
  refine wpG_step (i := 19) (by kernel_rfl) rfl (by rfl) ?r20
  intro hS K hK
  (have hq := hS.2.1 (by kernel_rfl) (by kernel_rfl); have qc := hq.cell; have qf := hq.frozen; have hz := hS.2.2.2.1; have hb := hS.2.2.2.2; clear hS; go_simp; refine hK.out _ _ ⟨fun h => (no_of (by kernel_rfl) h).elim, fun _ h => (no_of (by kernel_rfl) h).elim, fun _ => (hq.put 2 _ (by simp)).put 3 _ (by simp), (hz.far (by simp) _).far (by simp) _, (hb.setCell (Nat.le_refl _) _).setCell (Nat.le_refl _) _⟩ ?_; clear qc qf hz hb hq)
  clear hK K; intro W20
  (try simp only [Act.put, List.getElem_toArray, List.getElem_cons_succ, List.getElem_cons_zero, List.setIfInBounds_toArray, List.set_cons_zero, List.set_cons_succ])
  refine wpG_end (by kernel_rfl) ?_
  intro W
   hS
  have hq := hS.2.2.1 (by kernel_rfl)
  have hz := hS.2.2.2.1
  have hb := hS.2.2.2.2
  clear hS q0 q1
  go_wp2_with (first
    | (refine wpList_load_blk (by rfl) 92 (.tmp 2) (by rfl) _ (by rfl) _ hq _ Try.underlying92 (by rfl) (by kernel_rfl) ?_)
    | (refine wpList_store_blk (by rfl) 92 (.tmp 4) (.tmp 46) (by rfl) _ _ _ (by rfl) (by rfl) hz (by rfl) (by kernel_rfl) (by simp [Value.oneCell']) ?_; intro w3 hz3 ho3))
  refine ret_blk 4 92 (by rfl) (by rfl) _ (by rfl) _ hz3 _ Try.underlying92 (by rfl) (by kernel_rfl) ?_
  exact ⟨rfl, bl_oth hb ho3 (by omega)⟩

set_option maxHeartbeats 1000000 in
theorem filed_root (s : St) (w : World) (h : s.ok) :
    Calls Try.prog 104 #[stV s, .int .i64 2] w fun e w' => e = .returned (stV s.root) ∧ Below w.heap.size w w' := by
  obtain ⟨h1, h2, h3, h4, h5, h6, h7, h8, h9, h10, h11, h12, h13, h14⟩ := h
  have q0 := (Bk.new w 92 #[.int .i64 s.p0, .int .i64 s.p1, .int .i64 s.t0, .int .i64 s.t1, .int .i64 s.r0, .int .i64 s.r1, .int .i64 s.u0, .int .i64 s.u1, .int .i64 s.d0, .int .i64 s.d1, .int .i64 s.a0, .int .i64 s.a1, .int .i64 s.b0, .int .i64 s.b1, .int .i64 s.le]).alloc (.cells #[.int .i64 0, .int .i64 0, .int .i64 0, .int .i64 0, .int .i64 0, .int .i64 0, .int .i64 0, .int .i64 0, .int .i64 0, .int .i64 0, .int .i64 0, .int .i64 0, .int .i64 0, .int .i64 0, .int .i64 0] 92)
  have q1 := Bk.new (w.alloc (.cells #[.int .i64 s.p0, .int .i64 s.p1, .int .i64 s.t0, .int .i64 s.t1, .int .i64 s.r0, .int .i64 s.r1, .int .i64 s.u0, .int .i64 s.u1, .int .i64 s.d0, .int .i64 s.d1, .int .i64 s.a0, .int .i64 s.a1, .int .i64 s.b0, .int .i64 s.b1, .int .i64 s.le] 92)) 92 #[.int .i64 0, .int .i64 0, .int .i64 0, .int .i64 0, .int .i64 0, .int .i64 0, .int .i64 0, .int .i64 0, .int .i64 0, .int .i64 0, .int .i64 0, .int .i64 0, .int .i64 0, .int .i64 0, .int .i64 0]
  rw [World.size_alloc] at q1
  go_enter Try.func104, Try.ntmps104
  go_wp2
  refine wp_region_G (fun L W => (L.getD 16 true = false → Bk W w.heap.size #[.int .i64 s.p0, .int .i64 s.p1, .int .i64 s.t0, .int .i64 s.t1, .int .i64 s.r0, .int .i64 s.r1, .int .i64 s.u0, .int .i64 s.u1, .int .i64 s.d0, .int .i64 s.d1, .int .i64 s.a0, .int .i64 s.a1, .int .i64 s.b0, .int .i64 s.b1, .int .i64 s.le]) ∧ (L.getD 16 true = true → L.getD 19 true = false → Bk W w.heap.size #[.int .i64 (s.p0 - s.d1), .int .i64 (s.p1 - s.d0), .int .i64 s.t0, .int .i64 s.t1, .int .i64 s.r0, .int .i64 s.r1, .int .i64 s.u0, .int .i64 s.u1, .int .i64 s.d0, .int .i64 s.d1, .int .i64 s.a0, .int .i64 s.a1, .int .i64 s.b0, .int .i64 s.b1, .int .i64 s.le]) ∧ (L.getD 19 true = true → Bk W w.heap.size #[.int .i64 (s.p0 - s.d1), .int .i64 (s.p1 - s.d0), .int .i64 s.t0, .int .i64 s.t1, .int .i64 (s.r0 - s.b1), .int .i64 (s.r1 - s.b0), .int .i64 s.u0, .int .i64 s.u1, .int .i64 s.d0, .int .i64 s.d1, .int .i64 s.a0, .int .i64 s.a1, .int .i64 s.b0, .int .i64 s.b1, .int .i64 s.le]) ∧ Bk W (w.heap.size + 1) #[.int .i64 0, .int .i64 0, .int .i64 0, .int .i64 0, .int .i64 0, .int .i64 0, .int .i64 0, .int .i64 0, .int .i64 0, .int .i64 0, .int .i64 0, .int .i64 0, .int .i64 0, .int .i64 0, .int .i64 0] ∧ Below w.heap.size w W) 20 (by kernel_rfl) (by kernel_rfl) ?s0 ?r0
  case s0 => (exact ⟨fun _ => q0.drew, fun h => (no_of h (by kernel_rfl)).elim, fun h => (no_of h (by kernel_rfl)).elim, q1.drew, by (repeat' (first | (with_reducible exact Below.refl _ _) | (with_reducible refine Below.alloc ?_ ?_ _) | (with_reducible refine Below.setCell ?_ ?_ _) | (with_reducible refine Below.drew ?_) | ((with_reducible refine Below.trans ?_ (Below.mono (by assumption) ?_))) | go_size))⟩)
  intro W0
  refine wpG_take (i := 0) (v := ?v1) rfl (by kernel_rfl) (by intro L w; simp only [getD_set_ne true (show (0 : Nat) ≠ 16 from by decide), getD_set_ne true (show (0 : Nat) ≠ 19 from by decide)]) (fun _ _ _ h => h) (Or.inl ⟨by rfl, ?y1⟩) ?r1
  case y1 => (intro w' hy; obtain ⟨L, hD, hl, hS⟩ := hy; clear hD hl hS; go_simp; (try with_reducible rfl))
  (try simp only [Act.put, List.getElem_toArray, List.getElem_cons_succ, List.getElem_cons_zero, List.setIfInBounds_toArray, List.set_cons_zero, List.set_cons_succ])
  refine wpG_take (i := 1) (v := ?v2) rfl (by kernel_rfl) (by intro L w; simp only [getD_set_ne true (show (1 : Nat) ≠ 16 from by decide), getD_set_ne true (show (1 : Nat) ≠ 19 from by decide)]) (fun _ _ _ h => h) (Or.inl ⟨by rfl, ?y2⟩) ?r2
  case y2 => (intro w' hy; obtain ⟨L, hD, hl, hS⟩ := hy; clear hD hl hS; go_simp; (try with_reducible rfl))
  (try simp only [Act.put, List.getElem_toArray, List.getElem_cons_succ, List.getElem_cons_zero, List.setIfInBounds_toArray, List.set_cons_zero, List.set_cons_succ])
  refine wpG_take (i := 2) (v := ?v3) rfl (by kernel_rfl) (by intro L w; simp only [getD_set_ne true (show (2 : Nat) ≠ 16 from by decide), getD_set_ne true (show (2 : Nat) ≠ 19 from by decide)]) (fun _ _ _ h => h) (Or.inl ⟨by rfl, ?y3⟩) ?r3
  case y3 => (intro w' hy; obtain ⟨L, hD, hl, hS⟩ := hy; have qc := (hS.1 (hD.wait (by kernel_rfl) hl)).cell; clear hS hD hl; go_simp; (try with_reducible rfl))
  (try simp only [Act.put, List.getElem_toArray, List.getElem_cons_succ, List.getElem_cons_zero, List.setIfInBounds_toArray, List.set_cons_zero, List.set_cons_succ])
  refine wpG_take (i := 3) (v := ?v4) rfl (by kernel_rfl) (by intro L w; simp only [getD_set_ne true (show (3 : Nat) ≠ 16 from by decide), getD_set_ne true (show (3 : Nat) ≠ 19 from by decide)]) (fun _ _ _ h => h) (Or.inl ⟨by rfl, ?y4⟩) ?r4
  case y4 => (intro w' hy; obtain ⟨L, hD, hl, hS⟩ := hy; clear hD hl hS; go_simp; (try with_reducible rfl))
  (try simp only [Act.put, List.getElem_toArray, List.getElem_cons_succ, List.getElem_cons_zero, List.setIfInBounds_toArray, List.set_cons_zero, List.set_cons_succ])
  refine wpG_take (i := 4) (v := ?v5) rfl (by kernel_rfl) (by intro L w; simp only [getD_set_ne true (show (4 : Nat) ≠ 16 from by decide), getD_set_ne true (show (4 : Nat) ≠ 19 from by decide)]) (fun _ _ _ h => h) (Or.inl ⟨by rfl, ?y5⟩) ?r5
  case y5 => (intro w' hy; obtain ⟨L, hD, hl, hS⟩ := hy; clear hD hl hS; go_simp; (try with_reducible rfl))
  (try simp only [Act.put, List.getElem_toArray, List.getElem_cons_succ, List.getElem_cons_zero, List.setIfInBounds_toArray, List.set_cons_zero, List.set_cons_succ])
  refine wpG_take (i := 5) (v := ?v6) rfl (by kernel_rfl) (by intro L w; simp only [getD_set_ne true (show (5 : Nat) ≠ 16 from by decide), getD_set_ne true (show (5 : Nat) ≠ 19 from by decide)]) (fun _ _ _ h => h) (Or.inl ⟨by rfl, ?y6⟩) ?r6
  case y6 => (intro w' hy; obtain ⟨L, hD, hl, hS⟩ := hy; have qc := (hS.1 (hD.wait (by kernel_rfl) hl)).cell; clear hS hD hl; go_simp; (try with_reducible rfl))
  (try simp only [Act.put, List.getElem_toArray, List.getElem_cons_succ, List.getElem_cons_zero, List.setIfInBounds_toArray, List.set_cons_zero, List.set_cons_succ])
  refine wpG_take (i := 7) (v := ?v7) rfl (by kernel_rfl) (by intro L w; simp only [getD_set_ne true (show (7 : Nat) ≠ 16 from by decide), getD_set_ne true (show (7 : Nat) ≠ 19 from by decide)]) (fun _ _ _ h => h) (Or.inl ⟨by rfl, ?y7⟩) ?r7
  case y7 => (intro w' hy; obtain ⟨L, hD, hl, hS⟩ := hy; clear hD hl hS; go_simp; (try with_reducible rfl))
  (try simp only [Act.put, List.getElem_toArray, List.getElem_cons_succ, List.getElem_cons_zero, List.setIfInBounds_toArray, List.set_cons_zero, List.set_cons_succ])
  refine wpG_take (i := 8) (v := ?v8) rfl (by kernel_rfl) (by intro L w; simp only [getD_set_ne true (show (8 : Nat) ≠ 16 from by decide), getD_set_ne true (show (8 : Nat) ≠ 19 from by decide)]) (fun _ _ _ h => h) (Or.inl ⟨by rfl, ?y8⟩) ?r8
  case y8 => (intro w' hy; obtain ⟨L, hD, hl, hS⟩ := hy; clear hD hl hS; go_simp; (try with_reducible rfl))
  (try simp only [Act.put, List.getElem_toArray, List.getElem_cons_succ, List.getElem_cons_zero, List.setIfInBounds_toArray, List.set_cons_zero, List.set_cons_succ])
  refine wpG_take (i := 9) (v := ?v9) rfl (by kernel_rfl) (by intro L w; simp only [getD_set_ne true (show (9 : Nat) ≠ 16 from by decide), getD_set_ne true (show (9 : Nat) ≠ 19 from by decide)]) (fun _ _ _ h => h) (Or.inl ⟨by rfl, ?y9⟩) ?r9
  case y9 => (intro w' hy; obtain ⟨L, hD, hl, hS⟩ := hy; have qc := (hS.1 (hD.wait (by kernel_rfl) hl)).cell; clear hS hD hl; go_simp; (try with_reducible rfl))
  (try simp only [Act.put, List.getElem_toArray, List.getElem_cons_succ, List.getElem_cons_zero, List.setIfInBounds_toArray, List.set_cons_zero, List.set_cons_succ])
  refine wpG_take (i := 10) (v := ?v10) rfl (by kernel_rfl) (by intro L w; simp only [getD_set_ne true (show (10 : Nat) ≠ 16 from by decide), getD_set_ne true (show (10 : Nat) ≠ 19 from by decide)]) (fun _ _ _ h => h) (Or.inl ⟨by rfl, ?y10⟩) ?r10
  case y10 => (intro w' hy; obtain ⟨L, hD, hl, hS⟩ := hy; clear hD hl hS; go_simp; (try with_reducible rfl))
  (try simp only [Act.put, List.getElem_toArray, List.getElem_cons_succ, List.getElem_cons_zero, List.setIfInBounds_toArray, List.set_cons_zero, List.set_cons_succ])
  refine wpG_take (i := 11) (v := ?v11) rfl (by kernel_rfl) (by intro L w; simp only [getD_set_ne true (show (11 : Nat) ≠ 16 from by decide), getD_set_ne true (show (11 : Nat) ≠ 19 from by decide)]) (fun _ _ _ h => h) (Or.inl ⟨by rfl, ?y11⟩) ?r11
  case y11 => (intro w' hy; obtain ⟨L, hD, hl, hS⟩ := hy; clear hD hl hS; go_simp; (try with_reducible rfl))
  (try simp only [Act.put, List.getElem_toArray, List.getElem_cons_succ, List.getElem_cons_zero, List.setIfInBounds_toArray, List.set_cons_zero, List.set_cons_succ])
  refine wpG_take (i := 12) (v := ?v12) rfl (by kernel_rfl) (by intro L w; simp only [getD_set_ne true (show (12 : Nat) ≠ 16 from by decide), getD_set_ne true (show (12 : Nat) ≠ 19 from by decide)]) (fun _ _ _ h => h) (Or.inl ⟨by rfl, ?y12⟩) ?r12
  case y12 => (intro w' hy; obtain ⟨L, hD, hl, hS⟩ := hy; have qc := (hS.1 (hD.wait (by kernel_rfl) hl)).cell; clear hS hD hl; go_simp; (try with_reducible rfl))
  (try simp only [Act.put, List.getElem_toArray, List.getElem_cons_succ, List.getElem_cons_zero, List.setIfInBounds_toArray, List.set_cons_zero, List.set_cons_succ])
  refine wpG_step (i := 6) (by kernel_rfl) rfl (by rfl) ?r13
  intro hS K hK
  (have hq := hS.1 (by kernel_rfl); have hz := hS.2.2.2.1; have hb := hS.2.2.2.2; clear hS; go_simp; refine (less_any _ _ _ _ _ h1 h2 h9 h10).mono ?_; rintro e w1 ⟨rfl, hb1⟩; refine hK.out _ _ ⟨fun _ => hq.below hb1, fun h => (no_of h (by kernel_rfl)).elim, fun h => (no_of h (by kernel_rfl)).elim, hz.below hb1, hb.trans (hb1.mono hb.size)⟩ ?_; clear hq hz hb hb1)
  clear hK K; intro W13
  (try simp only [Act.put, List.getElem_toArray, List.getElem_cons_succ, List.getElem_cons_zero, List.setIfInBounds_toArray, List.set_cons_zero, List.set_cons_succ])
  refine wpG_take (i := 14) (v := ?v14) rfl (by kernel_rfl) (by intro L w; simp only [getD_set_ne true (show (14 : Nat) ≠ 16 from by decide), getD_set_ne true (show (14 : Nat) ≠ 19 from by decide)]) (fun _ _ _ h => h) (Or.inl ⟨by rfl, ?y14⟩) ?r14
  case y14 => (intro w' hy; obtain ⟨L, hD, hl, hS⟩ := hy; clear hD hl hS; go_simp; (try with_reducible rfl))
  (try simp only [Act.put, List.getElem_toArray, List.getElem_cons_succ, List.getElem_cons_zero, List.setIfInBounds_toArray, List.set_cons_zero, List.set_cons_succ])
  refine wpG_take (i := 15) (v := ?v15) rfl (by kernel_rfl) (by intro L w; simp only [getD_set_ne true (show (15 : Nat) ≠ 16 from by decide), getD_set_ne true (show (15 : Nat) ≠ 19 from by decide)]) (fun _ _ _ h => h) (Or.inl ⟨by rfl, ?y15⟩) ?r15
  case y15 => (intro w' hy; obtain ⟨L, hD, hl, hS⟩ := hy; clear hD hl hS; go_simp; (try with_reducible rfl))
  (try simp only [Act.put, List.getElem_toArray, List.getElem_cons_succ, List.getElem_cons_zero, List.setIfInBounds_toArray, List.set_cons_zero, List.set_cons_succ])
  refine wpG_step (i := 13) (by kernel_rfl) rfl (by rfl) ?r16
  intro hS K hK
  (have hq := hS.1 (by kernel_rfl); have hz := hS.2.2.2.1; have hb := hS.2.2.2.2; clear hS; go_simp; refine (less_any _ _ _ _ _ h5 h6 h13 h14).mono ?_; rintro e w2 ⟨rfl, hb1⟩; refine hK.out _ _ ⟨fun _ => hq.below hb1, fun h => (no_of h (by kernel_rfl)).elim, fun h => (no_of h (by kernel_rfl)).elim, hz.below hb1, hb.trans (hb1.mono hb.size)⟩ ?_; clear hq hz hb hb1)
  clear hK K; intro W16
  (try simp only [Act.put, List.getElem_toArray, List.getElem_cons_succ, List.getElem_cons_zero, List.setIfInBounds_toArray, List.set_cons_zero, List.set_cons_succ])
  refine wpG_step (i := 16) (by kernel_rfl) rfl (by rfl) ?r17
  intro hS K hK
  (have hq := hS.1 (by kernel_rfl); have qc := hq.cell; have qf := hq.frozen; have hz := hS.2.2.2.1; have hb := hS.2.2.2.2; clear hS; go_simp; refine hK.out _ _ ⟨fun h => (no_of (by kernel_rfl) h).elim, fun _ _ => (hq.put 0 _ (by simp)).put 1 _ (by simp), fun h => (no_of h (by kernel_rfl)).elim, (hz.far (by simp) _).far (by simp) _, (hb.setCell (Nat.le_refl _) _).setCell (Nat.le_refl _) _⟩ ?_; clear qc qf hz hb hq)
  clear hK K; intro W17
  (try simp only [Act.put, List.getElem_toArray, List.getElem_cons_succ, List.getElem_cons_zero, List.setIfInBounds_toArray, List.set_cons_zero, List.set_cons_succ])
  refine wpG_take (i := 17) (v := ?v18) rfl (by kernel_rfl) (by intro L w; simp only [getD_set_ne true (show (17 : Nat) ≠ 16 from by decide), getD_set_ne true (show (17 : Nat) ≠ 19 from by decide)]) (fun _ _ _ h => h) (Or.inl ⟨by rfl, ?y18⟩) ?r18
  case y18 => (intro w' hy; obtain ⟨L, hD, hl, hS⟩ := hy; clear hD hl hS; go_simp; (try with_reducible rfl))
  (try simp only [Act.put, List.getElem_toArray, List.getElem_cons_succ, List.getElem_cons_zero, List.setIfInBounds_toArray, List.set_cons_zero, List.set_cons_succ])
  refine wpG_take (i := 18) (v := ?v19) rfl (by kernel_rfl) (by intro L w; simp only [getD_set_ne true (show (18 : Nat) ≠ 16 from by decide), getD_set_ne true (show (18 : Nat) ≠ 19 from by decide)]) (fun _ _ _ h => h) (Or.inl ⟨by rfl, ?y19⟩) ?r19
  case y19 => (intro w' hy; obtain ⟨L, hD, hl, hS⟩ := hy; clear hD hl hS; go_simp; (try with_reducible rfl))
  (try simp only [Act.put, List.getElem_toArray, List.getElem_cons_succ, List.getElem_cons_zero, List.setIfInBounds_toArray, List.set_cons_zero, List.set_cons_succ])
  refine wpG_step (i := 19) (by kernel_rfl) rfl (by rfl) ?r20
  intro hS K hK
  (have hq := hS.2.1 (by kernel_rfl) (by kernel_rfl); have qc := hq.cell; have qf := hq.frozen; have hz := hS.2.2.2.1; have hb := hS.2.2.2.2; clear hS; go_simp; refine hK.out _ _ ⟨fun h => (no_of (by kernel_rfl) h).elim, fun _ h => (no_of (by kernel_rfl) h).elim, fun _ => (hq.put 4 _ (by simp)).put 5 _ (by simp), (hz.far (by simp) _).far (by simp) _, (hb.setCell (Nat.le_refl _) _).setCell (Nat.le_refl _) _⟩ ?_; clear qc qf hz hb hq)
  clear hK K; intro W20
  (try simp only [Act.put, List.getElem_toArray, List.getElem_cons_succ, List.getElem_cons_zero, List.setIfInBounds_toArray, List.set_cons_zero, List.set_cons_succ])
  refine wpG_end (by kernel_rfl) ?_
  intro W
   hS
  have hq := hS.2.2.1 (by kernel_rfl)
  have hz := hS.2.2.2.1
  have hb := hS.2.2.2.2
  clear hS q0 q1
  go_wp2_with (first
    | (refine wpList_load_blk (by rfl) 92 (.tmp 2) (by rfl) _ (by rfl) _ hq _ Try.underlying92 (by rfl) (by kernel_rfl) ?_)
    | (refine wpList_store_blk (by rfl) 92 (.tmp 4) (.tmp 46) (by rfl) _ _ _ (by rfl) (by rfl) hz (by rfl) (by kernel_rfl) (by simp [Value.oneCell']) ?_; intro w3 hz3 ho3))
  refine ret_blk 4 92 (by rfl) (by rfl) _ (by rfl) _ hz3 _ Try.underlying92 (by rfl) (by kernel_rfl) ?_
  exact ⟨rfl, bl_oth hb ho3 (by omega)⟩

end Go.Proofs.Ythlpceoajhcliaa
end

section
/-
  kit: ranges that are made, lists of numbers that are equal.
-/
namespace Go.Proofs.Ythlpceoajhcliaa
set_option linter.unusedSimpArgs false
set_option linter.unusedVariables false
open Go.RowKit

set_option maxHeartbeats 400000 in
theorem to_any (a b : Int) (w : World) :
    Calls Try.prog 31 #[.int .i64 a, .int .i64 b] w fun e w' => e = .returned (R2 a b) ∧ Below w.heap.size w w' := by
  go_enter Try.func31, Try.ntmps31
  go_wp2
  go_returns; refine ⟨rfl, ?_⟩; (repeat' (first | (with_reducible exact Below.refl _ _) | (with_reducible refine Below.alloc ?_ ?_ _) | (with_reducible refine Below.setCell ?_ ?_ _) | (with_reducible refine Below.drew ?_) | ((with_reducible refine Below.trans ?_ (Below.mono (by assumption) ?_))) | go_size))

theorem wp_store_blk {P : Program} {op : Oper} {a : Act} {w : World} {K : Act → World → Prop} {Q : Exit → Act → World → Prop} (ty : TypeId) (x y : Operand) (ho : op.op = .store ty x y)
    (g : Nat) (ds cs : Array Value) (hx : a.eval x = .pointer (some ⟨g, 0, none⟩)) (hy : a.eval y = .agg ds) (hB : Bk w g cs) (hs : ds.size = cs.size)
    (hi : (P.info? ty).map (·.size) = some ds.size) (h1 : ds.all (·.oneCell') = true)
    (h : ∀ w', Bk w' g ds → Oth w w' g → K (a.put op.dst undef) w') : op.wp P a w K Q :=
  wp_store_mid ty x y ho g 0 ds hx hy (by rw [hs]; exact hB.there) hi h1 (h _ (hB.setCells ds hs) (Oth.setCells g _ _ _))

theorem take_eq_succ {k l : List Int} {p : Nat} {x y : Int} (h1 : k.drop p = x :: k.drop (p + 1)) (h2 : l.drop p = y :: l.drop (p + 1)) : decide (k.take (p + 1) = l.take (p + 1)) = (decide (k.take p = l.take p) && decide (x = y)) := by
  have a : ∀ {m : List Int} {z : Int}, m.drop p = z :: m.drop (p + 1) → m.take (p + 1) = m.take p ++ [z] := by
    intro m z h
    have hk : p < m.length := by
      rcases Nat.lt_or_ge p m.length with h' | h'
      · exact h'
      · rw [List.drop_of_length_le h'] at h; cases h
    rw [List.drop_eq_getElem_cons hk] at h
    injection h with h _
    rw [List.take_succ_eq_append_getElem hk, h]
  rw [a h1, a h2]
  rw [Bool.eq_iff_iff]
  simp only [Bool.and_eq_true, decide_eq_true_eq]
  constructor
  · intro h
    have := List.append_inj' h rfl
    exact ⟨this.1, by simpa using this.2⟩
  · rintro ⟨h, rfl⟩; rw [h]

set_option maxRecDepth 100000 in
set_option maxHeartbeats 1000000 in
theorem sameInts_any (A B : Option Addr) (n m c d : Nat) (k l : List Int) (w : World) (ha : Rd w w.heap.size 1 A n (ic k)) (hb : Rd w w.heap.size 1 B m (ic l)) (hn : n ≤ 9223372036854775807) (hm : m ≤ 9223372036854775807) :
    Calls Try.prog 21 #[.slice A n c, .slice B m d] w fun e w' => e = .returned (.bool (decide (k = l))) ∧ Below w.heap.size w w' := by
  have HA := Lib.hid ha
  have HB := Lib.hid hb
  have HK := Lib.hid ha.len1
  have HL := Lib.hid hb.len1
  clear ha hb
  by_cases hnm : n = m
  · subst hnm
    have e0 : ((n : Int) == (n : Int)) = true := by simp
    have e1 : (n == n) = true := by simp
    go_enter Try.func21, Try.ntmps21
    go_wp2
    go_loopw [5, 6] (fun s i wr => ∃ (p : Nat) (b : Bool), p ≤ n ∧ i = .int .i64 p ∧ s = .bool b ∧ Hid (b = decide (k.take p = l.take p)) ∧ Below w.heap.size w wr) (fun _ i _ => n - (intOf i).toNat)
    case atStart => exact ⟨0, true, by omega, rfl, rfl, by show _ = _; simp, Below.refl _ _⟩
    case round =>
      obtain ⟨p, b, hp, rfl, rfl, he, hbw⟩ := hrel
      cases b with
      | false =>
        go_wp2
        go_ret
        have h := he.out
        exact ⟨ret_bool (by symm; simp; rintro rfl; simp at h), hbw⟩
      | true =>
        by_cases hlt : p < n
        · obtain ⟨b1, o1, x, rfl, hb1, hd1, d1⟩ := (HA.out.below hbw).at1 hlt
          obtain ⟨b2, o2, y, rfl, hb2, hd2, d2⟩ := (HB.out.below hbw).at1 hlt
          have HD1 := Lib.hid hd1
          have HD2 := Lib.hid hd2
          clear hd1 hd2
          have i0 : (0 : Int) ≤ (p : Int) := by omega
          have i1 : (p : Int) < (n : Int) := by omega
          go_wp2
          refine wp_region_G (fun _ W => W.cell? ⟨b1, o1 + p, none⟩ = some (.int .i64 x) ∧ W.cell? ⟨b2, o2 + p, none⟩ = some (.int .i64 y) ∧ Below w.heap.size w W) 10 (by kernel_rfl) (by kernel_rfl) ?s0 ?r0
          case s0 => (exact ⟨d1, d2, hbw.drew⟩)
          intro W0
          refine wpG_take (i := 0) (v := ?v1) rfl (by kernel_rfl) (by exact fun _ _ => Iff.rfl) (fun _ _ _ h => h) (Or.inl ⟨by rfl, ?y1⟩) ?r1
          case y1 => (intro w' hy; obtain ⟨L, hD, hl, hS⟩ := hy; clear hD hl hS; go_simp; (try with_reducible rfl))
          (try simp only [Act.put, List.getElem_toArray, List.getElem_cons_succ, List.getElem_cons_zero, List.setIfInBounds_toArray, List.set_cons_zero, List.set_cons_succ])
          refine wpG_take (i := 1) (v := ?v2) rfl (by kernel_rfl) (by exact fun _ _ => Iff.rfl) (fun _ _ _ h => h) (Or.inl ⟨by rfl, ?y2⟩) ?r2
          case y2 => (intro w' hy; obtain ⟨L, hD, hl, hS⟩ := hy; clear hD hl hS; go_simp; (try with_reducible rfl))
          (try simp only [Act.put, List.getElem_toArray, List.getElem_cons_succ, List.getElem_cons_zero, List.setIfInBounds_toArray, List.set_cons_zero, List.set_cons_succ])
          refine wpG_take (i := 2) (v := ?v3) rfl (by kernel_rfl) (by exact fun _ _ => Iff.rfl) (fun _ _ _ h => h) (Or.inl ⟨by rfl, ?y3⟩) ?r3
          case y3 => (intro w' hy; obtain ⟨L, hD, hl, hS⟩ := hy; clear hD hl hS; go_simp; (try with_reducible rfl))
          (try simp only [Act.put, List.getElem_toArray, List.getElem_cons_succ, List.getElem_cons_zero, List.setIfInBounds_toArray, List.set_cons_zero, List.set_cons_succ])
          refine wpG_take (i := 3) (v := ?v4) rfl (by kernel_rfl) (by exact fun _ _ => Iff.rfl) (fun _ _ _ h => h) (Or.inl ⟨by rfl, ?y4⟩) ?r4
          case y4 => (intro w' hy; obtain ⟨L, hD, hl, hS⟩ := hy; obtain ⟨s1, s2, _⟩ := hS; clear hD hl; go_simp; (try with_reducible rfl))
          (try simp only [Act.put, List.getElem_toArray, List.getElem_cons_succ, List.getElem_cons_zero, List.setIfInBounds_toArray, List.set_cons_zero, List.set_cons_succ])
          refine wpG_take (i := 4) (v := ?v5) rfl (by kernel_rfl) (by exact fun _ _ => Iff.rfl) (fun _ _ _ h => h) (Or.inl ⟨by rfl, ?y5⟩) ?r5
          case y5 => (intro w' hy; obtain ⟨L, hD, hl, hS⟩ := hy; clear hD hl hS; go_simp; (try with_reducible rfl))
          (try simp only [Act.put, List.getElem_toArray, List.getElem_cons_succ, List.getElem_cons_zero, List.setIfInBounds_toArray, List.set_cons_zero, List.set_cons_succ])
          refine wpG_take (i := 5) (v := ?v6) rfl (by kernel_rfl) (by exact fun _ _ => Iff.rfl) (fun _ _ _ h => h) (Or.inl ⟨by rfl, ?y6⟩) ?r6
          case y6 => (intro w' hy; obtain ⟨L, hD, hl, hS⟩ := hy; clear hD hl hS; go_simp; (try with_reducible rfl))
          (try simp only [Act.put, List.getElem_toArray, List.getElem_cons_succ, List.getElem_cons_zero, List.setIfInBounds_toArray, List.set_cons_zero, List.set_cons_succ])
          refine wpG_take (i := 6) (v := ?v7) rfl (by kernel_rfl) (by exact fun _ _ => Iff.rfl) (fun _ _ _ h => h) (Or.inl ⟨by rfl, ?y7⟩) ?r7
          case y7 => (intro w' hy; obtain ⟨L, hD, hl, hS⟩ := hy; clear hD hl hS; go_simp; (try with_reducible rfl))
          (try simp only [Act.put, List.getElem_toArray, List.getElem_cons_succ, List.getElem_cons_zero, List.setIfInBounds_toArray, List.set_cons_zero, List.set_cons_succ])
          refine wpG_take (i := 7) (v := ?v8) rfl (by kernel_rfl) (by exact fun _ _ => Iff.rfl) (fun _ _ _ h => h) (Or.inl ⟨by rfl, ?y8⟩) ?r8
          case y8 => (intro w' hy; obtain ⟨L, hD, hl, hS⟩ := hy; obtain ⟨s1, s2, _⟩ := hS; clear hD hl; go_simp; (try with_reducible rfl))
          (try simp only [Act.put, List.getElem_toArray, List.getElem_cons_succ, List.getElem_cons_zero, List.setIfInBounds_toArray, List.set_cons_zero, List.set_cons_succ])
          refine wpG_take (i := 8) (v := ?v9) rfl (by kernel_rfl) (by exact fun _ _ => Iff.rfl) (fun _ _ _ h => h) (Or.inl ⟨by rfl, ?y9⟩) ?r9
          case y9 => (intro w' hy; obtain ⟨L, hD, hl, hS⟩ := hy; clear hD hl hS; go_simp; (try with_reducible rfl))
          (try simp only [Act.put, List.getElem_toArray, List.getElem_cons_succ, List.getElem_cons_zero, List.setIfInBounds_toArray, List.set_cons_zero, List.set_cons_succ])
          refine wpG_take (i := 9) (v := ?v10) rfl (by kernel_rfl) (by exact fun _ _ => Iff.rfl) (fun _ _ _ h => h) (Or.inl ⟨by rfl, ?y10⟩) ?r10
          case y10 => (intro w' hy; obtain ⟨L, hD, hl, hS⟩ := hy; clear hD hl hS; go_simp; (try with_reducible rfl))
          (try simp only [Act.put, List.getElem_toArray, List.getElem_cons_succ, List.getElem_cons_zero, List.setIfInBounds_toArray, List.set_cons_zero, List.set_cons_succ])
          refine wpG_end (by kernel_rfl) ?_
          intro W
           hS
          have hbz := hS.2.2
          clear hS
          go_wp2
          go_roundw
          case rel => exact ⟨p + 1, (x == y), by omega, by go_num, rfl, by (show _ = _; rw [take_eq_succ HD1.out HD2.out, ← he.out]; rw [Bool.eq_iff_iff]; simp), hbz⟩
          case measure => simp [intOf]; omega
        · go_wp2
          go_ret
          have e1 : k.take p = k := List.take_of_length_le (by have := HK.out; omega)
          have e2 : l.take p = l := List.take_of_length_le (by have := HL.out; omega)
          have h := he.out
          rw [e1, e2] at h
          exact ⟨ret_bool h, hbw⟩
  · have e0 : ((n : Int) == (m : Int)) = false := by simp; omega
    have e1 : (n == m) = false := by simp; omega
    have HE : Hid (decide (k = l) = false) := by show _ = _; simp; intro h; have h1 := HK.out; have h2 := HL.out; rw [h] at h1; omega
    generalize decide (k = l) = dk at *
    go_enter Try.func21, Try.ntmps21
    go_wp2
    go_loopw [5, 6] (fun s i wr => s = .bool false ∧ Below w.heap.size w wr) (fun _ _ _ => 0)
    case atStart => exact ⟨rfl, Below.refl _ _⟩
    case round =>
      obtain ⟨rfl, hbw⟩ := hrel
      go_wp2
      go_ret
      exact ⟨ret_bool HE.out.symm, hbw⟩

end Go.Proofs.Ythlpceoajhcliaa
end

section
/-
  kit: a pot that hands out numbers: which ones they are is not asked.
-/
namespace Go.Proofs.Ythlpceoajhcliaa
set_option linter.unusedSimpArgs false
set_option linter.unusedVariables false
open Go.RowKit

def u64ok (s : Int) : Prop := 0 ≤ s ∧ s < 18446744073709551616
theorem u64_wrap (n : Int) : u64ok (IntKind.u64.wrap n) := by
  unfold u64ok IntKind.wrap
  simp [IntKind.signed, IntKind.bits]
  omega
theorem u64_bits (a b : Int) : u64ok (bits .xor .u64 a b) := by unfold bits; exact u64_wrap _

theorem Mem.callC {w0 w w' : World} {ex : Nat → Prop} {L L' : List (Nat × BA)} {g : Nat} {cs cs' : List Value} (M : Mem w0 ex w L) (hu : Upd L g (.cells cs) (.cells cs') L') (h : w.grownBy w' (some g)) (hp : Bk w' g cs'.toArray) : Mem w0 ex w' L' := M.callW hu h hp

/-- A number of the pot: what is said of it; the pot goes on. -/
def PotPost (bp : Nat) (R : Int → Prop) (k : IntKind) (w : World) (e : Ending) (w' : World) : Prop :=
  ∃ n s : Int, R n ∧ u64ok s ∧ e = .returned (.int k n) ∧ w.grownBy w' (some bp) ∧ Bk w' bp #[.int .u64 s]

set_option maxRecDepth 100000 in
set_option maxHeartbeats 1000000 in
theorem step_any (s : Int) (bp : Nat) (w : World) (hp : Bk w bp #[.int .u64 s]) :
    Calls Try.prog 82 #[.pointer (some ⟨bp, 0, none⟩)] w (PotPost bp u64ok .u64 w) := by
  have M := Mem.initEx (p := .cells [.int .u64 s]) hp
  clear hp
  go_enter Try.func82, Try.ntmps82
  refine m_start M ?_
  clear M
  intro wc M
  go_wp2_with (first | (refine m_ld1 M rfl rfl rfl (by (repeat' (first | exact List.mem_cons_self | refine List.mem_cons_of_mem _ ?_))) (by rfl) ?_) | (refine m_ldr M rfl rfl rfl (by (repeat' (first | exact List.mem_cons_self | refine List.mem_cons_of_mem _ ?_))) (by (try simp only [List.take_succ_cons, List.take_zero, List.take_nil, List.drop_succ_cons, List.drop_zero, List.drop_nil, List.cons_append, List.nil_append, List.append_nil, List.length_cons, List.length_nil, Nat.reduceAdd, Nat.zero_add, Nat.add_zero]); rfl) (by rfl) ?_) | (refine m_st M rfl rfl rfl (by first | exact (rfl : _ = Value.agg _) | exact (rfl : _ = Value.int _ _) | exact (rfl : _ = Value.bool _) | exact (rfl : _ = Value.slice _ _ _) | exact (rfl : _ = Value.pointer _) | exact (rfl : _ = Value.map _) | exact (rfl : _ = Value.func _ _ _) | exact (rfl : _ = Value.string _)) (by rfl) (by (repeat (first | exact Upd.head | apply Upd.tail))) (by (try simp only [List.take_succ_cons, List.take_zero, List.take_nil, List.drop_succ_cons, List.drop_zero, List.drop_nil, List.cons_append, List.nil_append, List.append_nil, List.length_cons, List.length_nil, Nat.reduceAdd, Nat.zero_add, Nat.add_zero]); rfl) (by simp) (by simp [Value.oneCell']) (by kernel_rfl) ?_; clear M; (try clear wc); intro wc M) | (refine m_al M rfl rfl ?_; clear M; (try clear wc); intro g wc M) | (refine m_bx M rfl rfl (by first | exact (rfl : _ = Value.agg _) | exact (rfl : _ = Value.int _ _) | exact (rfl : _ = Value.bool _) | exact (rfl : _ = Value.slice _ _ _) | exact (rfl : _ = Value.pointer _) | exact (rfl : _ = Value.map _) | exact (rfl : _ = Value.func _ _ _) | exact (rfl : _ = Value.string _)) (by rfl) ?_; clear M; (try clear wc); intro g wc M))
  go_ret
  exact ⟨_, _, u64_bits _ _, u64_wrap _, rfl, M.grown, M.get (by (repeat' (first | exact List.mem_cons_self | refine List.mem_cons_of_mem _ ?_)))⟩

set_option maxRecDepth 100000 in
set_option maxHeartbeats 1000000 in
theorem upto_any (s : Int) (bp : Nat) (most : Int) (w : World) (hm : most ≤ 1000000) (hm0 : 0 ≤ most) (hp : Bk w bp #[.int .u64 s]) (hs : u64ok s) :
    Calls Try.prog 28 #[.pointer (some ⟨bp, 0, none⟩), .int .i64 most] w (PotPost bp (fun n => 0 ≤ n ∧ n ≤ most) .i64 w) := by
  have M := Mem.initEx (p := .cells [.int .u64 s]) hp
  have HS := Lib.hid hs
  clear hp hs
  by_cases h1 : most < 1
  · go_enter Try.func28, Try.ntmps28
    refine m_start M ?_
    clear M
    intro wc M
    go_wp2_with (first | (refine m_ld1 M rfl rfl rfl (by (repeat' (first | exact List.mem_cons_self | refine List.mem_cons_of_mem _ ?_))) (by rfl) ?_) | (refine m_ldr M rfl rfl rfl (by (repeat' (first | exact List.mem_cons_self | refine List.mem_cons_of_mem _ ?_))) (by (try simp only [List.take_succ_cons, List.take_zero, List.take_nil, List.drop_succ_cons, List.drop_zero, List.drop_nil, List.cons_append, List.nil_append, List.append_nil, List.length_cons, List.length_nil, Nat.reduceAdd, Nat.zero_add, Nat.add_zero]); rfl) (by rfl) ?_) | (refine m_st M rfl rfl rfl (by first | exact (rfl : _ = Value.agg _) | exact (rfl : _ = Value.int _ _) | exact (rfl : _ = Value.bool _) | exact (rfl : _ = Value.slice _ _ _) | exact (rfl : _ = Value.pointer _) | exact (rfl : _ = Value.map _) | exact (rfl : _ = Value.func _ _ _) | exact (rfl : _ = Value.string _)) (by rfl) (by (repeat (first | exact Upd.head | apply Upd.tail))) (by (try simp only [List.take_succ_cons, List.take_zero, List.take_nil, List.drop_succ_cons, List.drop_zero, List.drop_nil, List.cons_append, List.nil_append, List.append_nil, List.length_cons, List.length_nil, Nat.reduceAdd, Nat.zero_add, Nat.add_zero]); rfl) (by simp) (by simp [Value.oneCell']) (by kernel_rfl) ?_; clear M; (try clear wc); intro wc M) | (refine m_al M rfl rfl ?_; clear M; (try clear wc); intro g wc M) | (refine m_bx M rfl rfl (by first | exact (rfl : _ = Value.agg _) | exact (rfl : _ = Value.int _ _) | exact (rfl : _ = Value.bool _) | exact (rfl : _ = Value.slice _ _ _) | exact (rfl : _ = Value.pointer _) | exact (rfl : _ = Value.map _) | exact (rfl : _ = Value.func _ _ _) | exact (rfl : _ = Value.string _)) (by rfl) ?_; clear M; (try clear wc); intro g wc M))
    go_ret
    exact ⟨0, s, ⟨by omega, by omega⟩, HS.out, rfl, M.grown, M.get (by (repeat' (first | exact List.mem_cons_self | refine List.mem_cons_of_mem _ ?_)))⟩
  · go_enter Try.func28, Try.ntmps28
    refine m_start M ?_
    clear M
    intro wc M
    go_wp2_with (first | (refine m_ld1 M rfl rfl rfl (by (repeat' (first | exact List.mem_cons_self | refine List.mem_cons_of_mem _ ?_))) (by rfl) ?_) | (refine m_ldr M rfl rfl rfl (by (repeat' (first | exact List.mem_cons_self | refine List.mem_cons_of_mem _ ?_))) (by (try simp only [List.take_succ_cons, List.take_zero, List.take_nil, List.drop_succ_cons, List.drop_zero, List.drop_nil, List.cons_append, List.nil_append, List.append_nil, List.length_cons, List.length_nil, Nat.reduceAdd, Nat.zero_add, Nat.add_zero]); rfl) (by rfl) ?_) | (refine m_st M rfl rfl rfl (by first | exact (rfl : _ = Value.agg _) | exact (rfl : _ = Value.int _ _) | exact (rfl : _ = Value.bool _) | exact (rfl : _ = Value.slice _ _ _) | exact (rfl : _ = Value.pointer _) | exact (rfl : _ = Value.map _) | exact (rfl : _ = Value.func _ _ _) | exact (rfl : _ = Value.string _)) (by rfl) (by (repeat (first | exact Upd.head | apply Upd.tail))) (by (try simp only [List.take_succ_cons, List.take_zero, List.take_nil, List.drop_succ_cons, List.drop_zero, List.drop_nil, List.cons_append, List.nil_append, List.append_nil, List.length_cons, List.length_nil, Nat.reduceAdd, Nat.zero_add, Nat.add_zero]); rfl) (by simp) (by simp [Value.oneCell']) (by kernel_rfl) ?_; clear M; (try clear wc); intro wc M) | (refine m_al M rfl rfl ?_; clear M; (try clear wc); intro g wc M) | (refine m_bx M rfl rfl (by first | exact (rfl : _ = Value.agg _) | exact (rfl : _ = Value.int _ _) | exact (rfl : _ = Value.bool _) | exact (rfl : _ = Value.slice _ _ _) | exact (rfl : _ = Value.pointer _) | exact (rfl : _ = Value.map _) | exact (rfl : _ = Value.func _ _ _) | exact (rfl : _ = Value.string _)) (by rfl) ?_; clear M; (try clear wc); intro g wc M) | (go_at_call 82; refine (step_any s bp _ (M.get (by (repeat' (first | exact List.mem_cons_self | refine List.mem_cons_of_mem _ ?_))))).mono ?_; rintro e wc ⟨v, s', hv, hs', rfl, hgr, hb⟩; have HV := Lib.hid hv; have HS' := Lib.hid hs'; have v0 : 0 ≤ v := hv.1; clear hv hs'; replace M := M.callC (cs' := [.int .u64 s']) (by (repeat (first | exact Upd.head | apply Upd.tail))) hgr hb; clear hgr hb))
    go_ret
    have r0 : 0 ≤ v / 2048 % (most + 1) := Int.emod_nonneg _ (by omega)
    have r1 : v / 2048 % (most + 1) < most + 1 := Int.emod_lt_of_pos _ (by omega)
    generalize v / 2048 % (most + 1) = rr at *
    have e : wrap64 rr = rr := IntWalk.wrap64_in rr (by omega)
    rw [e]
    exact ⟨rr, s', ⟨r0, by omega⟩, HS'.out, rfl, M.grown, M.get (by (repeat' (first | exact List.mem_cons_self | refine List.mem_cons_of_mem _ ?_)))⟩

set_option maxRecDepth 100000 in
set_option maxHeartbeats 1000000 in
theorem within_pot (s : Int) (bp : Nat) (lo hi : Int) (w : World) (hl : -1000 ≤ lo) (hh : hi ≤ 1000) (hlh : lo ≤ hi) (hp : Bk w bp #[.int .u64 s]) (hs : u64ok s) :
    Calls Try.prog 38 #[.pointer (some ⟨bp, 0, none⟩), .int .i64 lo, .int .i64 hi] w (PotPost bp (fun n => lo ≤ n ∧ n ≤ hi) .i64 w) := by
  have M := Mem.initEx (p := .cells [.int .u64 s]) hp
  have HS := Lib.hid hs
  clear hp hs
  go_enter Try.func38, Try.ntmps38
  refine m_start M ?_
  clear M
  intro wc M
  go_wp2_with (first | (refine m_ld1 M rfl rfl rfl (by (repeat' (first | exact List.mem_cons_self | refine List.mem_cons_of_mem _ ?_))) (by rfl) ?_) | (refine m_ldr M rfl rfl rfl (by (repeat' (first | exact List.mem_cons_self | refine List.mem_cons_of_mem _ ?_))) (by (try simp only [List.take_succ_cons, List.take_zero, List.take_nil, List.drop_succ_cons, List.drop_zero, List.drop_nil, List.cons_append, List.nil_append, List.append_nil, List.length_cons, List.length_nil, Nat.reduceAdd, Nat.zero_add, Nat.add_zero]); rfl) (by rfl) ?_) | (refine m_st M rfl rfl rfl (by first | exact (rfl : _ = Value.agg _) | exact (rfl : _ = Value.int _ _) | exact (rfl : _ = Value.bool _) | exact (rfl : _ = Value.slice _ _ _) | exact (rfl : _ = Value.pointer _) | exact (rfl : _ = Value.map _) | exact (rfl : _ = Value.func _ _ _) | exact (rfl : _ = Value.string _)) (by rfl) (by (repeat (first | exact Upd.head | apply Upd.tail))) (by (try simp only [List.take_succ_cons, List.take_zero, List.take_nil, List.drop_succ_cons, List.drop_zero, List.drop_nil, List.cons_append, List.nil_append, List.append_nil, List.length_cons, List.length_nil, Nat.reduceAdd, Nat.zero_add, Nat.add_zero]); rfl) (by simp) (by simp [Value.oneCell']) (by kernel_rfl) ?_; clear M; (try clear wc); intro wc M) | (refine m_al M rfl rfl ?_; clear M; (try clear wc); intro g wc M) | (refine m_bx M rfl rfl (by first | exact (rfl : _ = Value.agg _) | exact (rfl : _ = Value.int _ _) | exact (rfl : _ = Value.bool _) | exact (rfl : _ = Value.slice _ _ _) | exact (rfl : _ = Value.pointer _) | exact (rfl : _ = Value.map _) | exact (rfl : _ = Value.func _ _ _) | exact (rfl : _ = Value.string _)) (by rfl) ?_; clear M; (try clear wc); intro g wc M) | (go_at_call 28; refine (upto_any s bp (hi - lo) _ (by omega) (by omega) (M.get (by (repeat' (first | exact List.mem_cons_self | refine List.mem_cons_of_mem _ ?_)))) HS.out).mono ?_; rintro e wc ⟨v, s, hv, hs, rfl, hgr, hb⟩; have HS := Lib.hid hs; clear hs; replace M := M.callC (cs' := [.int .u64 s]) (by (repeat (first | exact Upd.head | apply Upd.tail))) hgr hb; clear hgr hb; skip))
  go_ret
  exact ⟨_, _, ⟨by omega, by omega⟩, HS.out, rfl, M.grown, M.get (by (repeat' (first | exact List.mem_cons_self | refine List.mem_cons_of_mem _ ?_)))⟩

theorem three {v : Int} (h : 0 ≤ v ∧ v ≤ 2) : v = 0 ∨ v = 1 ∨ v = 2 := by omega

set_option maxRecDepth 100000 in
set_option maxHeartbeats 1000000 in
theorem of_pot (s : Int) (bp g : Nat) (a b c : Int) (w : World) (hg : g ≠ bp) (hl : Bk w g #[.int .i64 a, .int .i64 b, .int .i64 c]) (hp : Bk w bp #[.int .u64 s]) (hs : u64ok s) :
    Calls Try.prog 60 #[.pointer (some ⟨bp, 0, none⟩), .slice (some ⟨g, 0, none⟩) 3 3] w (PotPost bp (fun n => n = a ∨ n = b ∨ n = c) .i64 w) := by
  have M := Mem.initEx (p := .cells [.int .u64 s]) hp
  have HS := Lib.hid hs
  have HL := Lib.hid hl
  clear hp hs hl
  go_enter Try.func60, Try.ntmps60
  refine m_start M ?_
  clear M
  intro wc M
  go_wp2_with (first | (refine m_ld1 M rfl rfl rfl (by (repeat' (first | exact List.mem_cons_self | refine List.mem_cons_of_mem _ ?_))) (by rfl) ?_) | (refine m_ldr M rfl rfl rfl (by (repeat' (first | exact List.mem_cons_self | refine List.mem_cons_of_mem _ ?_))) (by (try simp only [List.take_succ_cons, List.take_zero, List.take_nil, List.drop_succ_cons, List.drop_zero, List.drop_nil, List.cons_append, List.nil_append, List.append_nil, List.length_cons, List.length_nil, Nat.reduceAdd, Nat.zero_add, Nat.add_zero]); rfl) (by rfl) ?_) | (refine m_st M rfl rfl rfl (by first | exact (rfl : _ = Value.agg _) | exact (rfl : _ = Value.int _ _) | exact (rfl : _ = Value.bool _) | exact (rfl : _ = Value.slice _ _ _) | exact (rfl : _ = Value.pointer _) | exact (rfl : _ = Value.map _) | exact (rfl : _ = Value.func _ _ _) | exact (rfl : _ = Value.string _)) (by rfl) (by (repeat (first | exact Upd.head | apply Upd.tail))) (by (try simp only [List.take_succ_cons, List.take_zero, List.take_nil, List.drop_succ_cons, List.drop_zero, List.drop_nil, List.cons_append, List.nil_append, List.append_nil, List.length_cons, List.length_nil, Nat.reduceAdd, Nat.zero_add, Nat.add_zero]); rfl) (by simp) (by simp [Value.oneCell']) (by kernel_rfl) ?_; clear M; (try clear wc); intro wc M) | (refine m_al M rfl rfl ?_; clear M; (try clear wc); intro g wc M) | (refine m_bx M rfl rfl (by first | exact (rfl : _ = Value.agg _) | exact (rfl : _ = Value.int _ _) | exact (rfl : _ = Value.bool _) | exact (rfl : _ = Value.slice _ _ _) | exact (rfl : _ = Value.pointer _) | exact (rfl : _ = Value.map _) | exact (rfl : _ = Value.func _ _ _) | exact (rfl : _ = Value.string _)) (by rfl) ?_; clear M; (try clear wc); intro g wc M) | (refine lo_one (M.old HL.out hg) rfl rfl rfl (by rfl) ?_) | (go_at_call 28; refine (upto_any s bp 2 _ (by omega) (by omega) (M.get (by (repeat' (first | exact List.mem_cons_self | refine List.mem_cons_of_mem _ ?_)))) HS.out).mono ?_; rintro e wc ⟨v, s, hv, hs, rfl, hgr, hb⟩; have HS := Lib.hid hs; clear hs; replace M := M.callC (cs' := [.int .u64 s]) (by (repeat (first | exact Upd.head | apply Upd.tail))) hgr hb; clear hgr hb; rcases three hv with rfl | rfl | rfl))
  all_goals
    go_ret
    exact ⟨_, _, by simp, HS.out, rfl, M.grown, M.get (by (repeat' (first | exact List.mem_cons_self | refine List.mem_cons_of_mem _ ?_)))⟩

def NearPost (bp : Nat) (n lo hi wd : Int) (w : World) (e : Ending) (w' : World) : Prop := ∃ x y s' : Int, (lo ≤ x ∧ n - wd ≤ x ∧ x ≤ n ∧ n ≤ y ∧ y ≤ n + wd ∧ y ≤ hi) ∧ u64ok s' ∧ e = .returned (R2 x y) ∧ w.grownBy w' (some bp) ∧ Bk w' bp #[.int .u64 s']

set_option maxRecDepth 100000 in
set_option maxHeartbeats 1000000 in
theorem near_pot (s : Int) (bp : Nat) (n lo hi wd : Int) (w : World) (hl : -1000 ≤ lo) (hh : hi ≤ 1000) (h1 : lo ≤ n) (h2 : n ≤ hi) (hw0 : 0 ≤ wd) (hw1 : wd ≤ 1000) (hp : Bk w bp #[.int .u64 s]) (hs : u64ok s) :
    Calls Try.prog 66 #[.pointer (some ⟨bp, 0, none⟩), .int .i64 n, .int .i64 lo, .int .i64 hi, .int .i64 wd] w (NearPost bp n lo hi wd w) := by
  have M := Mem.initEx (p := .cells [.int .u64 s]) hp
  have HS := Lib.hid hs
  clear hp hs
  go_enter Try.func66, Try.ntmps66
  refine m_start M ?_
  clear M
  intro wc M
  go_wp2_with (first | (refine m_ld1 M rfl rfl rfl (by (repeat' (first | exact List.mem_cons_self | refine List.mem_cons_of_mem _ ?_))) (by rfl) ?_) | (refine m_ldr M rfl rfl rfl (by (repeat' (first | exact List.mem_cons_self | refine List.mem_cons_of_mem _ ?_))) (by (try simp only [List.take_succ_cons, List.take_zero, List.take_nil, List.drop_succ_cons, List.drop_zero, List.drop_nil, List.cons_append, List.nil_append, List.append_nil, List.length_cons, List.length_nil, Nat.reduceAdd, Nat.zero_add, Nat.add_zero]); rfl) (by rfl) ?_) | (refine m_st M rfl rfl rfl (by first | exact (rfl : _ = Value.agg _) | exact (rfl : _ = Value.int _ _) | exact (rfl : _ = Value.bool _) | exact (rfl : _ = Value.slice _ _ _) | exact (rfl : _ = Value.pointer _) | exact (rfl : _ = Value.map _) | exact (rfl : _ = Value.func _ _ _) | exact (rfl : _ = Value.string _)) (by rfl) (by (repeat (first | exact Upd.head | apply Upd.tail))) (by (try simp only [List.take_succ_cons, List.take_zero, List.take_nil, List.drop_succ_cons, List.drop_zero, List.drop_nil, List.cons_append, List.nil_append, List.append_nil, List.length_cons, List.length_nil, Nat.reduceAdd, Nat.zero_add, Nat.add_zero]); rfl) (by simp) (by simp [Value.oneCell']) (by kernel_rfl) ?_; clear M; (try clear wc); intro wc M) | (refine m_al M rfl rfl ?_; clear M; (try clear wc); intro g wc M) | (refine m_bx M rfl rfl (by first | exact (rfl : _ = Value.agg _) | exact (rfl : _ = Value.int _ _) | exact (rfl : _ = Value.bool _) | exact (rfl : _ = Value.slice _ _ _) | exact (rfl : _ = Value.pointer _) | exact (rfl : _ = Value.map _) | exact (rfl : _ = Value.func _ _ _) | exact (rfl : _ = Value.string _)) (by rfl) ?_; clear M; (try clear wc); intro g wc M) | (refine absorb M ?_; intro M'; clear M; (obtain ⟨M, -⟩ : _ ∧ True := ⟨M', trivial⟩); clear M'; revert M; generalize World.alloc _ _ = wn; generalize wc.heap.size = g; (try clear wc); intro M; (obtain ⟨wc, rfl⟩ : ∃ x : World, x = wn := ⟨_, rfl⟩)) | (go_at_call 28; refine (upto_any _ bp _ _ (by omega) (by omega) (M.get (by (repeat' (first | exact List.mem_cons_self | refine List.mem_cons_of_mem _ ?_)))) HS.out).mono ?_; rintro e wc ⟨v, s, hv, hs, rfl, hgr, hb⟩; have HS := Lib.hid hs; clear hs; replace M := M.callC (cs' := [.int .u64 s]) (by (repeat (first | exact Upd.head | apply Upd.tail))) hgr hb; clear hgr hb; skip) | (go_at_call 38; refine (within_pot _ bp _ _ _ (by omega) (by omega) (by omega) (M.get (by (repeat' (first | exact List.mem_cons_self | refine List.mem_cons_of_mem _ ?_)))) HS.out).mono ?_; rintro e wc ⟨v, s, hv, hs, rfl, hgr, hb⟩; have HS := Lib.hid hs; clear hs; replace M := M.callC (cs' := [.int .u64 s]) (by (repeat (first | exact Upd.head | apply Upd.tail))) hgr hb; clear hgr hb; skip) | (go_at_call 60; refine (of_pot _ bp _ _ _ _ _ (by have hnd := M.nd; simp only [List.map_cons, List.map_nil, List.nodup_cons, List.mem_cons, not_or] at hnd; omega) (M.get (by (repeat' (first | exact List.mem_cons_self | refine List.mem_cons_of_mem _ ?_)))) (M.get (by (repeat' (first | exact List.mem_cons_self | refine List.mem_cons_of_mem _ ?_)))) HS.out).mono ?_; rintro e wc ⟨v, s, hv, hs, rfl, hgr, hb⟩; have HS := Lib.hid hs; clear hs; replace M := M.callC (cs' := [.int .u64 s]) (by (repeat (first | exact Upd.head | apply Upd.tail))) hgr hb; clear hgr hb; skip))
  all_goals
    refine ret_M (t := 10) (ty := 23) M (by rfl) (by rfl) (by rfl) (by (repeat' (first | exact List.mem_cons_self | refine List.mem_cons_of_mem _ ?_))) (by rfl) ?_
    refine ⟨_, _, s, ⟨?_, ?_, ?_, ?_, ?_, ?_⟩, HS.out, rfl, M.grown, M.get (by (repeat' (first | exact List.mem_cons_self | refine List.mem_cons_of_mem _ ?_)))⟩ <;> (split <;> omega)

set_option maxRecDepth 100000 in
set_option maxHeartbeats 1000000 in
theorem newPot_any (A : Option Addr) (n c : Nat) (l : List Int) (w : World) (hr : Rd w w.heap.size 1 A n (ic l)) (hn : n ≤ 9223372036854775807) :
    Calls Try.prog 16 #[.slice A n c] w fun e w' => ∃ (bp : Nat) (s : Int), u64ok s ∧ e = .returned (.pointer (some ⟨bp, 0, none⟩)) ∧ Mem w noEx w' [(bp, .cells [.int .u64 s])] := by
  have HR := Lib.hid hr
  clear hr
  go_enter Try.func16, Try.ntmps16
  refine start noEx ?_
  intro wc M
  go_wp2_with (first | (refine m_ld1 M rfl rfl rfl (by (repeat' (first | exact List.mem_cons_self | refine List.mem_cons_of_mem _ ?_))) (by rfl) ?_) | (refine m_ldr M rfl rfl rfl (by (repeat' (first | exact List.mem_cons_self | refine List.mem_cons_of_mem _ ?_))) (by (try simp only [List.take_succ_cons, List.take_zero, List.take_nil, List.drop_succ_cons, List.drop_zero, List.drop_nil, List.cons_append, List.nil_append, List.append_nil, List.length_cons, List.length_nil, Nat.reduceAdd, Nat.zero_add, Nat.add_zero]); rfl) (by rfl) ?_) | (refine m_st M rfl rfl rfl (by first | exact (rfl : _ = Value.agg _) | exact (rfl : _ = Value.int _ _) | exact (rfl : _ = Value.bool _) | exact (rfl : _ = Value.slice _ _ _) | exact (rfl : _ = Value.pointer _) | exact (rfl : _ = Value.map _) | exact (rfl : _ = Value.func _ _ _) | exact (rfl : _ = Value.string _)) (by rfl) (by (repeat (first | exact Upd.head | apply Upd.tail))) (by (try simp only [List.take_succ_cons, List.take_zero, List.take_nil, List.drop_succ_cons, List.drop_zero, List.drop_nil, List.cons_append, List.nil_append, List.append_nil, List.length_cons, List.length_nil, Nat.reduceAdd, Nat.zero_add, Nat.add_zero]); rfl) (by simp) (by simp [Value.oneCell']) (by kernel_rfl) ?_; clear M; (try clear wc); intro wc M) | (refine m_al M rfl rfl ?_; clear M; (try clear wc); intro g wc M) | (refine m_bx M rfl rfl (by first | exact (rfl : _ = Value.agg _) | exact (rfl : _ = Value.int _ _) | exact (rfl : _ = Value.bool _) | exact (rfl : _ = Value.slice _ _ _) | exact (rfl : _ = Value.pointer _) | exact (rfl : _ = Value.map _) | exact (rfl : _ = Value.func _ _ _) | exact (rfl : _ = Value.string _)) (by rfl) ?_; clear M; (try clear wc); intro g wc M))
  rename_i K0 hK0
  go_loopw [4] (fun v wr => ∃ (k : Nat) (s : Int), k ≤ n ∧ v = .int .i64 k ∧ Hid (u64ok s) ∧ Mem w noEx wr [(g, .cells [.int .u64 s])]) (fun v _ => n - (intOf v).toNat)
  case atStart => exact ⟨0, _, by omega, rfl, by (show u64ok _; unfold u64ok; decide), M⟩
  case round =>
    clear M wc
    obtain ⟨k, s, hk, rfl, hs, M⟩ := hrel
    obtain ⟨wc, rfl⟩ : ∃ x : World, x = wr := ⟨_, rfl⟩
    by_cases hlt : k < n
    · obtain ⟨b, o, x, rfl, hbb, hd, d0⟩ := HR.out.at1 hlt
      clear hd
      have D0 := Lib.hid d0
      clear d0
      have i0 : (0 : Int) ≤ (k : Int) := by omega
      have i1 : (k : Int) < (n : Int) := by omega
      go_wp2
      refine wp_region_G (fun L W => (L.getD 14 true = false → Mem w noEx W [(g, .cells [.int .u64 s])]) ∧ (L.getD 14 true = true → ∃ s1, u64ok s1 ∧ Mem w noEx W [(g, .cells [.int .u64 s1])])) 15 (by kernel_rfl) (by kernel_rfl) ?s0 ?r0
      case s0 => (exact ⟨fun _ => M.drew, fun h => (no_of h (by kernel_rfl)).elim⟩)
      intro W0
      refine wpG_take (i := 0) (v := ?v1) rfl (by kernel_rfl) (by intro L w; simp only [getD_set_ne true (show (0 : Nat) ≠ 14 from by decide)]) (fun _ _ _ h => h) (Or.inl ⟨by rfl, ?y1⟩) ?r1
      case y1 => (intro w' hy; obtain ⟨L, hD, hl, hS⟩ := hy; clear hD hl hS; go_simp; (try with_reducible rfl))
      (try simp only [Act.put, List.getElem_toArray, List.getElem_cons_succ, List.getElem_cons_zero, List.setIfInBounds_toArray, List.set_cons_zero, List.set_cons_succ])
      refine wpG_take (i := 1) (v := ?v2) rfl (by kernel_rfl) (by intro L w; simp only [getD_set_ne true (show (1 : Nat) ≠ 14 from by decide)]) (fun _ _ _ h => h) (Or.inl ⟨by rfl, ?y2⟩) ?r2
      case y2 => (intro w' hy; obtain ⟨L, hD, hl, hS⟩ := hy; clear hD hl hS; go_simp; (try with_reducible rfl))
      (try simp only [Act.put, List.getElem_toArray, List.getElem_cons_succ, List.getElem_cons_zero, List.setIfInBounds_toArray, List.set_cons_zero, List.set_cons_succ])
      refine wpG_take (i := 2) (v := ?v3) rfl (by kernel_rfl) (by intro L w; simp only [getD_set_ne true (show (2 : Nat) ≠ 14 from by decide)]) (fun _ _ _ h => h) (Or.inl ⟨by rfl, ?y3⟩) ?r3
      case y3 => (intro w' hy; obtain ⟨L, hD, hl, hS⟩ := hy; clear hD hl hS; go_simp; (try with_reducible rfl))
      (try simp only [Act.put, List.getElem_toArray, List.getElem_cons_succ, List.getElem_cons_zero, List.setIfInBounds_toArray, List.set_cons_zero, List.set_cons_succ])
      refine wpG_take (i := 3) (v := ?v4) rfl (by kernel_rfl) (by intro L w; simp only [getD_set_ne true (show (3 : Nat) ≠ 14 from by decide)]) (fun _ _ _ h => h) (Or.inl ⟨by rfl, ?y4⟩) ?r4
      case y4 => (intro w' hy; obtain ⟨L, hD, hl, hS⟩ := hy; clear hD hl hS; go_simp; (try with_reducible rfl))
      (try simp only [Act.put, List.getElem_toArray, List.getElem_cons_succ, List.getElem_cons_zero, List.setIfInBounds_toArray, List.set_cons_zero, List.set_cons_succ])
      refine wpG_take (i := 4) (v := ?v5) rfl (by kernel_rfl) (by intro L w; simp only [getD_set_ne true (show (4 : Nat) ≠ 14 from by decide)]) (fun _ _ _ h => h) (Or.inl ⟨by rfl, ?y5⟩) ?r5
      case y5 => (intro w' hy; obtain ⟨L, hD, hl, hS⟩ := hy; have M0 := hS.1 (hD.wait (by kernel_rfl) hl); clear hS; first | (refine Eq.trans (rn_one (Mem.get M0 (by (repeat' (first | exact List.mem_cons_self | refine List.mem_cons_of_mem _ ?_)))) rfl rfl (by rfl)) ?_; with_reducible rfl) | (refine Eq.trans (rn_row (Mem.get M0 (by (repeat' (first | exact List.mem_cons_self | refine List.mem_cons_of_mem _ ?_)))) rfl rfl (by (try simp only [List.take_succ_cons, List.take_zero, List.take_nil, List.drop_succ_cons, List.drop_zero, List.drop_nil, List.cons_append, List.nil_append, List.append_nil, List.length_cons, List.length_nil, Nat.reduceAdd, Nat.zero_add, Nat.add_zero]); rfl) (by rfl)) ?_; with_reducible rfl); (try with_reducible rfl))
      (try simp only [Act.put, List.getElem_toArray, List.getElem_cons_succ, List.getElem_cons_zero, List.setIfInBounds_toArray, List.set_cons_zero, List.set_cons_succ])
      refine wpG_take (i := 5) (v := ?v6) rfl (by kernel_rfl) (by intro L w; simp only [getD_set_ne true (show (5 : Nat) ≠ 14 from by decide)]) (fun _ _ _ h => h) (Or.inl ⟨by rfl, ?y6⟩) ?r6
      case y6 => (intro w' hy; obtain ⟨L, hD, hl, hS⟩ := hy; clear hD hl hS; go_simp; (try with_reducible rfl))
      (try simp only [Act.put, List.getElem_toArray, List.getElem_cons_succ, List.getElem_cons_zero, List.setIfInBounds_toArray, List.set_cons_zero, List.set_cons_succ])
      refine wpG_take (i := 6) (v := ?v7) rfl (by kernel_rfl) (by intro L w; simp only [getD_set_ne true (show (6 : Nat) ≠ 14 from by decide)]) (fun _ _ _ h => h) (Or.inl ⟨by rfl, ?y7⟩) ?r7
      case y7 => (intro w' hy; obtain ⟨L, hD, hl, hS⟩ := hy; clear hD hl hS; go_simp; (try with_reducible rfl))
      (try simp only [Act.put, List.getElem_toArray, List.getElem_cons_succ, List.getElem_cons_zero, List.setIfInBounds_toArray, List.set_cons_zero, List.set_cons_succ])
      refine wpG_take (i := 7) (v := ?v8) rfl (by kernel_rfl) (by intro L w; simp only [getD_set_ne true (show (7 : Nat) ≠ 14 from by decide)]) (fun _ _ _ h => h) (Or.inl ⟨by rfl, ?y8⟩) ?r8
      case y8 => (intro w' hy; obtain ⟨L, hD, hl, hS⟩ := hy; clear hD hl hS; go_simp; (try with_reducible rfl))
      (try simp only [Act.put, List.getElem_toArray, List.getElem_cons_succ, List.getElem_cons_zero, List.setIfInBounds_toArray, List.set_cons_zero, List.set_cons_succ])
      refine wpG_take (i := 8) (v := ?v9) rfl (by kernel_rfl) (by intro L w; simp only [getD_set_ne true (show (8 : Nat) ≠ 14 from by decide)]) (fun _ _ _ h => h) (Or.inl ⟨by rfl, ?y9⟩) ?r9
      case y9 => (intro w' hy; obtain ⟨L, hD, hl, hS⟩ := hy; have M0 := hS.1 (hD.wait (by kernel_rfl) hl); clear hS hD hl; have cc : w'.cell? ⟨b, o + k, none⟩ = some (.int .i64 x) := (World.cell?_of_block (w := w) (a := ⟨b, o + k, none⟩) (M0.block b hbb (fun h => h))).trans D0.out; clear M0; go_simp; (try with_reducible rfl))
      (try simp only [Act.put, List.getElem_toArray, List.getElem_cons_succ, List.getElem_cons_zero, List.setIfInBounds_toArray, List.set_cons_zero, List.set_cons_succ])
      refine wpG_take (i := 9) (v := ?v10) rfl (by kernel_rfl) (by intro L w; simp only [getD_set_ne true (show (9 : Nat) ≠ 14 from by decide)]) (fun _ _ _ h => h) (Or.inl ⟨by rfl, ?y10⟩) ?r10
      case y10 => (intro w' hy; obtain ⟨L, hD, hl, hS⟩ := hy; clear hD hl hS; go_simp; (try with_reducible rfl))
      (try simp only [Act.put, List.getElem_toArray, List.getElem_cons_succ, List.getElem_cons_zero, List.setIfInBounds_toArray, List.set_cons_zero, List.set_cons_succ])
      refine wpG_take (i := 10) (v := ?v11) rfl (by kernel_rfl) (by intro L w; simp only [getD_set_ne true (show (10 : Nat) ≠ 14 from by decide)]) (fun _ _ _ h => h) (Or.inl ⟨by rfl, ?y11⟩) ?r11
      case y11 => (intro w' hy; obtain ⟨L, hD, hl, hS⟩ := hy; clear hD hl hS; go_simp; (try with_reducible rfl))
      (try simp only [Act.put, List.getElem_toArray, List.getElem_cons_succ, List.getElem_cons_zero, List.setIfInBounds_toArray, List.set_cons_zero, List.set_cons_succ])
      refine wpG_take (i := 11) (v := ?v12) rfl (by kernel_rfl) (by intro L w; simp only [getD_set_ne true (show (11 : Nat) ≠ 14 from by decide)]) (fun _ _ _ h => h) (Or.inl ⟨by rfl, ?y12⟩) ?r12
      case y12 => (intro w' hy; obtain ⟨L, hD, hl, hS⟩ := hy; clear hD hl hS; go_simp; (try with_reducible rfl))
      (try simp only [Act.put, List.getElem_toArray, List.getElem_cons_succ, List.getElem_cons_zero, List.setIfInBounds_toArray, List.set_cons_zero, List.set_cons_succ])
      refine wpG_take (i := 12) (v := ?v13) rfl (by kernel_rfl) (by intro L w; simp only [getD_set_ne true (show (12 : Nat) ≠ 14 from by decide)]) (fun _ _ _ h => h) (Or.inl ⟨by rfl, ?y13⟩) ?r13
      case y13 => (intro w' hy; obtain ⟨L, hD, hl, hS⟩ := hy; clear hD hl hS; go_simp; (try with_reducible rfl))
      (try simp only [Act.put, List.getElem_toArray, List.getElem_cons_succ, List.getElem_cons_zero, List.setIfInBounds_toArray, List.set_cons_zero, List.set_cons_succ])
      refine wpG_take (i := 13) (v := ?v14) rfl (by kernel_rfl) (by intro L w; simp only [getD_set_ne true (show (13 : Nat) ≠ 14 from by decide)]) (fun _ _ _ h => h) (Or.inl ⟨by rfl, ?y14⟩) ?r14
      case y14 => (intro w' hy; obtain ⟨L, hD, hl, hS⟩ := hy; clear hD hl hS; go_simp; (try with_reducible rfl))
      (try simp only [Act.put, List.getElem_toArray, List.getElem_cons_succ, List.getElem_cons_zero, List.setIfInBounds_toArray, List.set_cons_zero, List.set_cons_succ])
      refine wpG_step (i := 14) (by kernel_rfl) rfl (by rfl) ?r15
      intro hS K hK
      (have M0 := hS.1 (by kernel_rfl); clear hS; refine m_stw M0 rfl rfl (by first | exact (rfl : _ = Value.agg _) | exact (rfl : _ = Value.int _ _) | exact (rfl : _ = Value.bool _) | exact (rfl : _ = Value.slice _ _ _) | exact (rfl : _ = Value.pointer _) | exact (rfl : _ = Value.map _) | exact (rfl : _ = Value.func _ _ _) | exact (rfl : _ = Value.string _)) (by rfl) (by (repeat (first | exact Upd.head | apply Upd.tail))) (by (try simp only [List.take_succ_cons, List.take_zero, List.take_nil, List.drop_succ_cons, List.drop_zero, List.drop_nil, List.cons_append, List.nil_append, List.append_nil, List.length_cons, List.length_nil, Nat.reduceAdd, Nat.zero_add, Nat.add_zero]); rfl) (by simp) (by simp [Value.oneCell']) (by kernel_rfl) ?_; intro V2 M2; refine hK.out _ _ ⟨fun h => (no_of (by kernel_rfl) h).elim, fun _ => ⟨_, u64_wrap _, M2⟩⟩ ?_; clear M0 M2)
      clear hK K; intro W15
      (try simp only [Act.put, List.getElem_toArray, List.getElem_cons_succ, List.getElem_cons_zero, List.setIfInBounds_toArray, List.set_cons_zero, List.set_cons_succ])
      refine wpG_end (by kernel_rfl) ?_
      intro W
       hS
      obtain ⟨s2, hs2, M⟩ := hS.2 (by kernel_rfl)
      have HS2 := Lib.hid hs2
      clear hS hs2
      obtain ⟨wc, rfl⟩ : ∃ x : World, x = W := ⟨_, rfl⟩
      go_wp2
      refine wp_region_G (fun L W => (L.getD 13 true = false → Mem w noEx W [(g, .cells [.int .u64 s2])]) ∧ (L.getD 13 true = true → ∃ s1, u64ok s1 ∧ Mem w noEx W [(g, .cells [.int .u64 s1])])) 14 (by kernel_rfl) (by kernel_rfl) ?s0b ?r0b
      case s0b => (exact ⟨fun _ => M.drew, fun h => (no_of h (by kernel_rfl)).elim⟩)
      intro W0
      refine wpG_take (i := 0) (v := ?v1b) rfl (by kernel_rfl) (by intro L w; simp only [getD_set_ne true (show (0 : Nat) ≠ 13 from by decide)]) (fun _ _ _ h => h) (Or.inl ⟨by rfl, ?y1b⟩) ?r1b
      case y1b => (intro w' hy; obtain ⟨L, hD, hl, hS⟩ := hy; clear hD hl hS; go_simp; (try with_reducible rfl))
      (try simp only [Act.put, List.getElem_toArray, List.getElem_cons_succ, List.getElem_cons_zero, List.setIfInBounds_toArray, List.set_cons_zero, List.set_cons_succ])
      refine wpG_take (i := 1) (v := ?v2b) rfl (by kernel_rfl) (by intro L w; simp only [getD_set_ne true (show (1 : Nat) ≠ 13 from by decide)]) (fun _ _ _ h => h) (Or.inl ⟨by rfl, ?y2b⟩) ?r2b
      case y2b => (intro w' hy; obtain ⟨L, hD, hl, hS⟩ := hy; clear hD hl hS; go_simp; (try with_reducible rfl))
      (try simp only [Act.put, List.getElem_toArray, List.getElem_cons_succ, List.getElem_cons_zero, List.setIfInBounds_toArray, List.set_cons_zero, List.set_cons_succ])
      refine wpG_take (i := 2) (v := ?v3b) rfl (by kernel_rfl) (by intro L w; simp only [getD_set_ne true (show (2 : Nat) ≠ 13 from by decide)]) (fun _ _ _ h => h) (Or.inl ⟨by rfl, ?y3b⟩) ?r3b
      case y3b => (intro w' hy; obtain ⟨L, hD, hl, hS⟩ := hy; clear hD hl hS; go_simp; (try with_reducible rfl))
      (try simp only [Act.put, List.getElem_toArray, List.getElem_cons_succ, List.getElem_cons_zero, List.setIfInBounds_toArray, List.set_cons_zero, List.set_cons_succ])
      refine wpG_take (i := 3) (v := ?v4b) rfl (by kernel_rfl) (by intro L w; simp only [getD_set_ne true (show (3 : Nat) ≠ 13 from by decide)]) (fun _ _ _ h => h) (Or.inl ⟨by rfl, ?y4b⟩) ?r4b
      case y4b => (intro w' hy; obtain ⟨L, hD, hl, hS⟩ := hy; clear hD hl hS; go_simp; (try with_reducible rfl))
      (try simp only [Act.put, List.getElem_toArray, List.getElem_cons_succ, List.getElem_cons_zero, List.setIfInBounds_toArray, List.set_cons_zero, List.set_cons_succ])
      refine wpG_take (i := 4) (v := ?v5b) rfl (by kernel_rfl) (by intro L w; simp only [getD_set_ne true (show (4 : Nat) ≠ 13 from by decide)]) (fun _ _ _ h => h) (Or.inl ⟨by rfl, ?y5b⟩) ?r5b
      case y5b => (intro w' hy; obtain ⟨L, hD, hl, hS⟩ := hy; have M0 := hS.1 (hD.wait (by kernel_rfl) hl); clear hS; first | (refine Eq.trans (rn_one (Mem.get M0 (by (repeat' (first | exact List.mem_cons_self | refine List.mem_cons_of_mem _ ?_)))) rfl rfl (by rfl)) ?_; with_reducible rfl) | (refine Eq.trans (rn_row (Mem.get M0 (by (repeat' (first | exact List.mem_cons_self | refine List.mem_cons_of_mem _ ?_)))) rfl rfl (by (try simp only [List.take_succ_cons, List.take_zero, List.take_nil, List.drop_succ_cons, List.drop_zero, List.drop_nil, List.cons_append, List.nil_append, List.append_nil, List.length_cons, List.length_nil, Nat.reduceAdd, Nat.zero_add, Nat.add_zero]); rfl) (by rfl)) ?_; with_reducible rfl); (try with_reducible rfl))
      (try simp only [Act.put, List.getElem_toArray, List.getElem_cons_succ, List.getElem_cons_zero, List.setIfInBounds_toArray, List.set_cons_zero, List.set_cons_succ])
      refine wpG_take (i := 5) (v := ?v6b) rfl (by kernel_rfl) (by intro L w; simp only [getD_set_ne true (show (5 : Nat) ≠ 13 from by decide)]) (fun _ _ _ h => h) (Or.inl ⟨by rfl, ?y6b⟩) ?r6b
      case y6b => (intro w' hy; obtain ⟨L, hD, hl, hS⟩ := hy; clear hD hl hS; go_simp; (try with_reducible rfl))
      (try simp only [Act.put, List.getElem_toArray, List.getElem_cons_succ, List.getElem_cons_zero, List.setIfInBounds_toArray, List.set_cons_zero, List.set_cons_succ])
      refine wpG_take (i := 6) (v := ?v7b) rfl (by kernel_rfl) (by intro L w; simp only [getD_set_ne true (show (6 : Nat) ≠ 13 from by decide)]) (fun _ _ _ h => h) (Or.inl ⟨by rfl, ?y7b⟩) ?r7b
      case y7b => (intro w' hy; obtain ⟨L, hD, hl, hS⟩ := hy; clear hD hl hS; go_simp; (try with_reducible rfl))
      (try simp only [Act.put, List.getElem_toArray, List.getElem_cons_succ, List.getElem_cons_zero, List.setIfInBounds_toArray, List.set_cons_zero, List.set_cons_succ])
      refine wpG_take (i := 7) (v := ?v8b) rfl (by kernel_rfl) (by intro L w; simp only [getD_set_ne true (show (7 : Nat) ≠ 13 from by decide)]) (fun _ _ _ h => h) (Or.inl ⟨by rfl, ?y8b⟩) ?r8b
      case y8b => (intro w' hy; obtain ⟨L, hD, hl, hS⟩ := hy; clear hD hl hS; go_simp; (try with_reducible rfl))
      (try simp only [Act.put, List.getElem_toArray, List.getElem_cons_succ, List.getElem_cons_zero, List.setIfInBounds_toArray, List.set_cons_zero, List.set_cons_succ])
      refine wpG_take (i := 8) (v := ?v9b) rfl (by kernel_rfl) (by intro L w; simp only [getD_set_ne true (show (8 : Nat) ≠ 13 from by decide)]) (fun _ _ _ h => h) (Or.inl ⟨by rfl, ?y9b⟩) ?r9b
      case y9b => (intro w' hy; obtain ⟨L, hD, hl, hS⟩ := hy; have M0 := hS.1 (hD.wait (by kernel_rfl) hl); clear hS; first | (refine Eq.trans (rn_one (Mem.get M0 (by (repeat' (first | exact List.mem_cons_self | refine List.mem_cons_of_mem _ ?_)))) rfl rfl (by rfl)) ?_; with_reducible rfl) | (refine Eq.trans (rn_row (Mem.get M0 (by (repeat' (first | exact List.mem_cons_self | refine List.mem_cons_of_mem _ ?_)))) rfl rfl (by (try simp only [List.take_succ_cons, List.take_zero, List.take_nil, List.drop_succ_cons, List.drop_zero, List.drop_nil, List.cons_append, List.nil_append, List.append_nil, List.length_cons, List.length_nil, Nat.reduceAdd, Nat.zero_add, Nat.add_zero]); rfl) (by rfl)) ?_; with_reducible rfl); (try with_reducible rfl))
      (try simp only [Act.put, List.getElem_toArray, List.getElem_cons_succ, List.getElem_cons_zero, List.setIfInBounds_toArray, List.set_cons_zero, List.set_cons_succ])
      refine wpG_take (i := 9) (v := ?v10b) rfl (by kernel_rfl) (by intro L w; simp only [getD_set_ne true (show (9 : Nat) ≠ 13 from by decide)]) (fun _ _ _ h => h) (Or.inl ⟨by rfl, ?y10b⟩) ?r10b
      case y10b => (intro w' hy; obtain ⟨L, hD, hl, hS⟩ := hy; clear hD hl hS; go_simp; (try with_reducible rfl))
      (try simp only [Act.put, List.getElem_toArray, List.getElem_cons_succ, List.getElem_cons_zero, List.setIfInBounds_toArray, List.set_cons_zero, List.set_cons_succ])
      refine wpG_take (i := 10) (v := ?v11b) rfl (by kernel_rfl) (by intro L w; simp only [getD_set_ne true (show (10 : Nat) ≠ 13 from by decide)]) (fun _ _ _ h => h) (Or.inl ⟨by rfl, ?y11b⟩) ?r11b
      case y11b => (intro w' hy; obtain ⟨L, hD, hl, hS⟩ := hy; clear hD hl hS; go_simp; (try with_reducible rfl))
      (try simp only [Act.put, List.getElem_toArray, List.getElem_cons_succ, List.getElem_cons_zero, List.setIfInBounds_toArray, List.set_cons_zero, List.set_cons_succ])
      refine wpG_take (i := 11) (v := ?v12b) rfl (by kernel_rfl) (by intro L w; simp only [getD_set_ne true (show (11 : Nat) ≠ 13 from by decide)]) (fun _ _ _ h => h) (Or.inl ⟨by rfl, ?y12b⟩) ?r12b
      case y12b => (intro w' hy; obtain ⟨L, hD, hl, hS⟩ := hy; clear hD hl hS; go_simp; (try with_reducible rfl))
      (try simp only [Act.put, List.getElem_toArray, List.getElem_cons_succ, List.getElem_cons_zero, List.setIfInBounds_toArray, List.set_cons_zero, List.set_cons_succ])
      refine wpG_take (i := 12) (v := ?v13b) rfl (by kernel_rfl) (by intro L w; simp only [getD_set_ne true (show (12 : Nat) ≠ 13 from by decide)]) (fun _ _ _ h => h) (Or.inl ⟨by rfl, ?y13b⟩) ?r13b
      case y13b => (intro w' hy; obtain ⟨L, hD, hl, hS⟩ := hy; clear hD hl hS; go_simp; (try with_reducible rfl))
      (try simp only [Act.put, List.getElem_toArray, List.getElem_cons_succ, List.getElem_cons_zero, List.setIfInBounds_toArray, List.set_cons_zero, List.set_cons_succ])
      refine wpG_step (i := 13) (by kernel_rfl) rfl (by rfl) ?r14b
      intro hS K hK
      (have M0 := hS.1 (by kernel_rfl); clear hS; refine m_stw M0 rfl rfl (by first | exact (rfl : _ = Value.agg _) | exact (rfl : _ = Value.int _ _) | exact (rfl : _ = Value.bool _) | exact (rfl : _ = Value.slice _ _ _) | exact (rfl : _ = Value.pointer _) | exact (rfl : _ = Value.map _) | exact (rfl : _ = Value.func _ _ _) | exact (rfl : _ = Value.string _)) (by rfl) (by (repeat (first | exact Upd.head | apply Upd.tail))) (by (try simp only [List.take_succ_cons, List.take_zero, List.take_nil, List.drop_succ_cons, List.drop_zero, List.drop_nil, List.cons_append, List.nil_append, List.append_nil, List.length_cons, List.length_nil, Nat.reduceAdd, Nat.zero_add, Nat.add_zero]); rfl) (by simp) (by simp [Value.oneCell']) (by kernel_rfl) ?_; intro V2 M2; refine hK.out _ _ ⟨fun h => (no_of (by kernel_rfl) h).elim, fun _ => ⟨_, u64_bits _ _, M2⟩⟩ ?_; clear M0 M2)
      clear hK K; intro W14
      (try simp only [Act.put, List.getElem_toArray, List.getElem_cons_succ, List.getElem_cons_zero, List.setIfInBounds_toArray, List.set_cons_zero, List.set_cons_succ])
      refine wpG_end (by kernel_rfl) ?_
      intro W
       hS
      obtain ⟨s3, hs3, M⟩ := hS.2 (by kernel_rfl)
      have HS3 := Lib.hid hs3
      clear hS hs3
      go_wp2
      go_roundw
      case rel => exact ⟨k + 1, s3, by omega, by go_num, HS3, M⟩
      case measure => simp [intOf]; omega
    · go_wp2_with (first | (refine m_ld1 M rfl rfl rfl (by (repeat' (first | exact List.mem_cons_self | refine List.mem_cons_of_mem _ ?_))) (by rfl) ?_) | (refine m_ldr M rfl rfl rfl (by (repeat' (first | exact List.mem_cons_self | refine List.mem_cons_of_mem _ ?_))) (by (try simp only [List.take_succ_cons, List.take_zero, List.take_nil, List.drop_succ_cons, List.drop_zero, List.drop_nil, List.cons_append, List.nil_append, List.append_nil, List.length_cons, List.length_nil, Nat.reduceAdd, Nat.zero_add, Nat.add_zero]); rfl) (by rfl) ?_) | (refine m_st M rfl rfl rfl (by first | exact (rfl : _ = Value.agg _) | exact (rfl : _ = Value.int _ _) | exact (rfl : _ = Value.bool _) | exact (rfl : _ = Value.slice _ _ _) | exact (rfl : _ = Value.pointer _) | exact (rfl : _ = Value.map _) | exact (rfl : _ = Value.func _ _ _) | exact (rfl : _ = Value.string _)) (by rfl) (by (repeat (first | exact Upd.head | apply Upd.tail))) (by (try simp only [List.take_succ_cons, List.take_zero, List.take_nil, List.drop_succ_cons, List.drop_zero, List.drop_nil, List.cons_append, List.nil_append, List.append_nil, List.length_cons, List.length_nil, Nat.reduceAdd, Nat.zero_add, Nat.add_zero]); rfl) (by simp) (by simp [Value.oneCell']) (by kernel_rfl) ?_; clear M; (try clear wc); intro wc M) | (refine m_al M rfl rfl ?_; clear M; (try clear wc); intro g wc M) | (refine m_bx M rfl rfl (by first | exact (rfl : _ = Value.agg _) | exact (rfl : _ = Value.int _ _) | exact (rfl : _ = Value.bool _) | exact (rfl : _ = Value.slice _ _ _) | exact (rfl : _ = Value.pointer _) | exact (rfl : _ = Value.map _) | exact (rfl : _ = Value.func _ _ _) | exact (rfl : _ = Value.string _)) (by rfl) ?_; clear M; (try clear wc); intro g wc M))
      go_ret
      exact ⟨g, s, hs.out, rfl, M⟩

end Go.Proofs.Ythlpceoajhcliaa
end

section
/-
  reed: how thin a tongue is.
-/
namespace Go.Proofs.Ythlpceoajhcliaa
set_option linter.unusedSimpArgs false
set_option linter.unusedVariables false
open Go.RowKit

def St.spoiled (s : St) : Int := if s.t1 < s.le ∨ s.r1 < s.le then 1 else if s.le ≤ s.t0 ∧ s.le ≤ s.r0 then 2 else 3

set_option maxHeartbeats 1000000 in
theorem spoiled_any (s : St) (w : World) :
    Calls Try.prog 87 #[stV s] w fun e w' => e = .returned (.int .i64 s.spoiled) ∧ Below w.heap.size w w' := by
  go_enter Try.func87, Try.ntmps87
  go_wp2
  all_goals
    go_ret
    refine ⟨ret_int ?_, by (repeat' (first | (with_reducible exact Below.refl _ _) | (with_reducible refine Below.alloc ?_ ?_ _) | (with_reducible refine Below.setCell ?_ ?_ _) | (with_reducible refine Below.drew ?_) | ((with_reducible refine Below.trans ?_ (Below.mono (by assumption) ?_))) | go_size))⟩
    unfold St.spoiled
    (repeat' split)
    all_goals first | rfl | contradiction | omega | (simp_all; done) | (simp_all; omega)

end Go.Proofs.Ythlpceoajhcliaa
end

section
/-
  reed: strokes that may be.
-/
namespace Go.Proofs.Ythlpceoajhcliaa
set_option linter.unusedSimpArgs false
set_option linter.unusedVariables false
open Go.RowKit

def okS (k : Int) : Bool := k == 1 || k == 2
def chkS : List Int → Int
  | [] => 0
  | k :: r => if okS k then chkS r else 8
def checkStrokesJ (j : Jb) (l : List Int) : Int := if (checkJ j != 0) = true then checkJ j else if 6 < l.length then 6 else chkS l

set_option maxHeartbeats 1000000 in
theorem checkStrokes_any (j : Jb) (A : Option Addr) (c : Nat) (B : Option Addr) (d n : Nat) (l : List Int) (w : World) (hr : Rd w w.heap.size 2 A j.sh.length (rc j.sh)) (hn : j.sh.length ≤ 9223372036854775807) (hl : Rd w w.heap.size 1 B n (ic l)) (hm : n ≤ 9223372036854775807) :
    Calls Try.prog 83 #[jobV j A c, .slice B n d] w fun e w' => e = .returned (.int .i64 (checkStrokesJ j l)) ∧ Below w.heap.size w w' := by
  have HR := Lib.hid hr
  have HL := Lib.hid hl
  have HN := Lib.hid hl.len1
  clear hr hl
  have q0 := Bk.new w 30 #[.int .i64 j.p0, .int .i64 j.p1, .int .i64 j.t0, .int .i64 j.t1, .int .i64 j.r0, .int .i64 j.r1, .int .i64 j.u0, .int .i64 j.u1, .int .i64 j.d0, .int .i64 j.d1, .int .i64 j.a0, .int .i64 j.a1, .int .i64 j.b0, .int .i64 j.b1, .int .i64 j.le, .slice A j.sh.length c, .int .i64 j.wi, .int .i64 j.me]
  by_cases h0 : (checkJ j != 0) = true
  · go_enter Try.func83, Try.ntmps83
    go_wp2_with (first | (refine wpList_load_blk (by rfl) 30 (.tmp 2) (by rfl) _ (by rfl) _ q0 _ Try.underlying30 (by rfl) (by kernel_rfl) ?_) | (go_at_call 49; ((with_reducible refine (check_any j _ _ _ ?_ ?_).mono ?_); (exact (HR.out.below (by (repeat' (first | (with_reducible exact Below.refl _ _) | (with_reducible refine Below.alloc ?_ ?_ _) | (with_reducible refine Below.setCell ?_ ?_ _) | (with_reducible refine Below.drew ?_) | ((with_reducible refine Below.trans ?_ (Below.mono (by assumption) ?_))) | go_size)))).more (by go_size)); (exact hn); rintro e w1 ⟨rfl, hb1⟩; have hz1 := hb1.size; (try simp only [World.size_alloc] at hz1))))
    go_ret
    exact ⟨ret_int (by unfold checkStrokesJ; rw [if_pos h0]), by (repeat' (first | (with_reducible exact Below.refl _ _) | (with_reducible refine Below.alloc ?_ ?_ _) | (with_reducible refine Below.setCell ?_ ?_ _) | (with_reducible refine Below.drew ?_) | ((with_reducible refine Below.trans ?_ (Below.mono (by assumption) ?_))) | go_size))⟩
  have h0 : (checkJ j != 0) = false := by simpa using h0
  by_cases h6 : 6 < n
  · go_enter Try.func83, Try.ntmps83
    go_wp2_with (first | (refine wpList_load_blk (by rfl) 30 (.tmp 2) (by rfl) _ (by rfl) _ q0 _ Try.underlying30 (by rfl) (by kernel_rfl) ?_) | (go_at_call 49; ((with_reducible refine (check_any j _ _ _ ?_ ?_).mono ?_); (exact (HR.out.below (by (repeat' (first | (with_reducible exact Below.refl _ _) | (with_reducible refine Below.alloc ?_ ?_ _) | (with_reducible refine Below.setCell ?_ ?_ _) | (with_reducible refine Below.drew ?_) | ((with_reducible refine Below.trans ?_ (Below.mono (by assumption) ?_))) | go_size)))).more (by go_size)); (exact hn); rintro e w1 ⟨rfl, hb1⟩; have hz1 := hb1.size; (try simp only [World.size_alloc] at hz1))))
    go_ret
    exact ⟨ret_int (by unfold checkStrokesJ; rw [if_neg (by rw [h0]; simp), if_pos (by have := HN.out; omega)]), by (repeat' (first | (with_reducible exact Below.refl _ _) | (with_reducible refine Below.alloc ?_ ?_ _) | (with_reducible refine Below.setCell ?_ ?_ _) | (with_reducible refine Below.drew ?_) | ((with_reducible refine Below.trans ?_ (Below.mono (by assumption) ?_))) | go_size))⟩
  have h6' : n ≤ 6 := by omega
  have HE : Hid (checkStrokesJ j l = chkS l) := by show _ = _; unfold checkStrokesJ; rw [if_neg (by rw [h0]; simp), if_neg (by have := HN.out; omega)]
  clear h6
  go_enter Try.func83, Try.ntmps83
  go_wp2_with (first | (refine wpList_load_blk (by rfl) 30 (.tmp 2) (by rfl) _ (by rfl) _ q0 _ Try.underlying30 (by rfl) (by kernel_rfl) ?_) | (go_at_call 49; ((with_reducible refine (check_any j _ _ _ ?_ ?_).mono ?_); (exact (HR.out.below (by (repeat' (first | (with_reducible exact Below.refl _ _) | (with_reducible refine Below.alloc ?_ ?_ _) | (with_reducible refine Below.setCell ?_ ?_ _) | (with_reducible refine Below.drew ?_) | ((with_reducible refine Below.trans ?_ (Below.mono (by assumption) ?_))) | go_size)))).more (by go_size)); (exact hn); rintro e w1 ⟨rfl, hb1⟩; have hz1 := hb1.size; (try simp only [World.size_alloc] at hz1))))
  have hbw : Below w.heap.size w w1 := by (repeat' (first | (with_reducible exact Below.refl _ _) | (with_reducible refine Below.alloc ?_ ?_ _) | (with_reducible refine Below.setCell ?_ ?_ _) | (with_reducible refine Below.drew ?_) | ((with_reducible refine Below.trans ?_ (Below.mono (by assumption) ?_))) | go_size))
  clear hb1
  go_loopw [18] (fun i wr => ∃ k : Nat, k ≤ n ∧ i = .int .i64 k ∧ Hid (chkS l = chkS (l.drop k)) ∧ Below w.heap.size w wr) (fun i _ => n - (intOf i).toNat)
  case atStart => exact ⟨0, Nat.zero_le _, rfl, rfl, hbw⟩
  case round =>
    obtain ⟨k, hk, rfl, he, hb⟩ := hrel
    by_cases hlt : k < n
    · obtain ⟨b, o, x, rfl, hbb, hd, d0⟩ := (HL.out.below hb).at1 hlt
      have HD := Lib.hid hd
      clear hd
      have hz := hb.size
      by_cases h1 : x = 1
      · subst h1
        go_wp2
        go_roundw
        case rel => exact ⟨k + 1, by omega, by go_num, by (show _ = _; rw [he.out, HD.out]; rfl), hb⟩
        case measure => simp [intOf]; omega
      · have e1 : (x != 1) = true := by simpa using h1
        by_cases h2 : x = 2
        · subst h2
          go_wp2
          go_roundw
          case rel => exact ⟨k + 1, by omega, by go_num, by (show _ = _; rw [he.out, HD.out]; rfl), hb⟩
          case measure => simp [intOf]; omega
        · have e2 : (x != 2) = true := by simpa using h2
          go_wp2
          go_ret
          exact ⟨ret_int (by rw [HE.out, he.out, HD.out, chkS, if_neg (by unfold okS; simp [h1, h2])]), hb⟩
    · go_wp2
      go_ret
      exact ⟨ret_int (by rw [HE.out, he.out, List.drop_of_length_le (by have := HN.out; omega)]; rfl), hb⟩

end Go.Proofs.Ythlpceoajhcliaa
end

section
/-
  reed: a tongue after some strokes, in plain words.
-/
namespace Go.Proofs.Ythlpceoajhcliaa
set_option linter.unusedSimpArgs false
set_option linter.unusedVariables false
open Go.RowKit

def Jb.st (j : Jb) : St := ⟨j.p0, j.p1, j.t0, j.t1, j.r0, j.r1, j.u0, j.u1, j.d0, j.d1, j.a0, j.a1, j.b0, j.b1, j.le⟩
def St.filed (s : St) (k : Int) : St := if k = 1 then s.tip else s.root
def St.after (s : St) (l : List Int) : St := l.foldl St.filed s
/-- All numbers of a tongue are within m. -/
structure St.upTo (s : St) (m : Int) : Prop where
  p0 : -m ≤ s.p0 ∧ s.p0 ≤ m
  p1 : -m ≤ s.p1 ∧ s.p1 ≤ m
  t0 : -m ≤ s.t0 ∧ s.t0 ≤ m
  t1 : -m ≤ s.t1 ∧ s.t1 ≤ m
  r0 : -m ≤ s.r0 ∧ s.r0 ≤ m
  r1 : -m ≤ s.r1 ∧ s.r1 ≤ m
  u0 : -100 ≤ s.u0 ∧ s.u0 ≤ 100
  u1 : -100 ≤ s.u1 ∧ s.u1 ≤ 100
  d0 : -100 ≤ s.d0 ∧ s.d0 ≤ 100
  d1 : -100 ≤ s.d1 ∧ s.d1 ≤ 100
  a0 : -100 ≤ s.a0 ∧ s.a0 ≤ 100
  a1 : -100 ≤ s.a1 ∧ s.a1 ≤ 100
  b0 : -100 ≤ s.b0 ∧ s.b0 ≤ 100
  b1 : -100 ≤ s.b1 ∧ s.b1 ≤ 100
theorem St.upTo.ok {s : St} {m : Int} (h : s.upTo m) (hm : m ≤ 1000000) : s.ok := by
  obtain ⟨h1, h2, h3, h4, h5, h6, h7, h8, h9, h10, h11, h12, h13, h14⟩ := h
  constructor <;> omega
theorem St.upTo.filed {s : St} {m : Int} (h : s.upTo m) (k : Int) : (s.filed k).upTo (m + 100) := by
  obtain ⟨h1, h2, h3, h4, h5, h6, h7, h8, h9, h10, h11, h12, h13, h14⟩ := h
  unfold St.filed
  split
  · constructor <;> simp only [St.tip] <;> omega
  · constructor <;> simp only [St.root] <;> omega
theorem filed_any (s : St) (k : Int) (w : World) (h : s.ok) (hk : okS k = true) :
    Calls Try.prog 104 #[stV s, .int .i64 k] w fun e w' => e = .returned (stV (s.filed k)) ∧ Below w.heap.size w w' := by
  unfold St.filed
  by_cases e : k = 1
  · subst e; rw [if_pos rfl]; exact filed_tip s w h
  · have e2 : k = 2 := by unfold okS at hk; simpa [e] using hk
    subst e2; rw [if_neg (by decide)]; exact filed_root s w h
theorem mem_of_drop {α : Type} {l : List α} {k : Nat} {x : α} (h : l.drop k = x :: l.drop (k + 1)) : x ∈ l := List.mem_of_mem_drop (by rw [h]; simp : x ∈ l.drop k)
theorem after_snoc (s : St) (l : List Int) (k : Nat) (x : Int) (h : l.drop k = x :: l.drop (k + 1)) : s.after (l.take (k + 1)) = (s.after (l.take k)).filed x := by
  have hk : k < l.length := by
    rcases Nat.lt_or_ge k l.length with h' | h'
    · exact h'
    · rw [List.drop_of_length_le h'] at h; cases h
  rw [List.drop_eq_getElem_cons hk] at h
  injection h with h _
  rw [List.take_succ_eq_append_getElem hk, St.after, List.foldl_append, h]
  rfl
theorem after_upTo {s : St} {m : Int} (h : s.upTo m) : ∀ (l : List Int), (s.after l).upTo (m + 100 * l.length) := by
  intro l
  induction l generalizing s m with
  | nil => simpa [St.after] using h
  | cons k r ih =>
    have := ih (h.filed k)
    have e : m + 100 + 100 * (r.length : Int) = m + 100 * ((k :: r).length : Int) := by simp only [List.length_cons]; omega
    rw [e] at this
    exact this

end Go.Proofs.Ythlpceoajhcliaa
end

section
/-
  reed: a tongue after some strokes.
-/
namespace Go.Proofs.Ythlpceoajhcliaa
set_option linter.unusedSimpArgs false
set_option linter.unusedVariables false
open Go.RowKit

abbrev stA (s : St) : Array Value := #[.int .i64 s.p0, .int .i64 s.p1, .int .i64 s.t0, .int .i64 s.t1, .int .i64 s.r0, .int .i64 s.r1, .int .i64 s.u0, .int .i64 s.u1, .int .i64 s.d0, .int .i64 s.d1, .int .i64 s.a0, .int .i64 s.a1, .int .i64 s.b0, .int .i64 s.b1, .int .i64 s.le]

set_option maxRecDepth 100000 in
set_option maxHeartbeats 1000000 in
theorem after_any (j : Jb) (A : Option Addr) (c : Nat) (B : Option Addr) (d n : Nat) (l : List Int) (w : World) (hl : Rd w w.heap.size 1 B n (ic l)) (hm : n ≤ 1000) (hs : j.st.upTo 1000) (hk : ∀ k ∈ l, okS k = true) :
    Calls Try.prog 69 #[jobV j A c, .slice B n d] w fun e w' => e = .returned (stV (j.st.after l)) ∧ Below w.heap.size w w' := by
  have HL := Lib.hid hl
  have HN := Lib.hid hl.len1
  have HS := Lib.hid hs
  have HK := Lib.hid hk
  clear hl hs hk
  go_enter Try.func69, Try.ntmps69
  go_wp2
  go_loopw [16] (fun i wr => ∃ (k : Nat) (s : St), k ≤ n ∧ i = .int .i64 k ∧ Hid (j.st.after (l.take k) = s) ∧ Bk wr (w.heap.size + 1) #[.int .i64 0, .int .i64 0, .int .i64 0, .int .i64 0, .int .i64 0, .int .i64 0, .int .i64 0, .int .i64 0, .int .i64 0, .int .i64 0, .int .i64 0, .int .i64 0, .int .i64 0, .int .i64 0, .int .i64 0] ∧ Bk wr (w.heap.size + 2) (stA s) ∧ Below w.heap.size w wr) (fun i _ => n - (intOf i).toNat)
  case atStart => exact ⟨0, j.st, Nat.zero_le _, rfl, rfl, by (repeat' (first | (with_reducible refine Bk.drew ?_) | ((with_reducible refine Bk.newAt _ _ _ _ ?_); (simp; done)) | (with_reducible refine Bk.alloc ?_ _))), Bk.newAt _ _ _ _ (by simp), by (repeat' (first | (with_reducible exact Below.refl _ _) | (with_reducible refine Below.alloc ?_ ?_ _) | (with_reducible refine Below.setCell ?_ ?_ _) | (with_reducible refine Below.drew ?_) | ((with_reducible refine Below.trans ?_ (Below.mono (by assumption) ?_))) | go_size))⟩
  case round =>
    obtain ⟨k, s, hk, rfl, he, b1, b2, hb⟩ := hrel
    have hz := b2.lt
    by_cases hlt : k < n
    · obtain ⟨b, o, x, rfl, hbb, hd, d0⟩ := (HL.out.below hb).at1 hlt
      have HD := Lib.hid hd
      have HO : Hid (okS x = true) := HK.out x (mem_of_drop hd)
      clear hd
      have hb1 : b < wr.heap.size := by omega
      have hu := after_upTo HS.out (l.take k)
      rw [he.out] at hu
      have HU : Hid s.ok := hu.ok (by have : (l.take k).length ≤ k := List.length_take_le _ _; omega)
      clear hu
      go_wp2_with (first
        | (refine wpList_load_blk (by rfl) 92 (.tmp 5) (by rfl) _ (by rfl) _ b2 _ Try.underlying92 (by rfl) (by kernel_rfl) ?_)
        | (go_at_call 104; ((with_reducible refine (filed_any s x _ HU.out HO.out).mono ?_); rintro e w1 ⟨rfl, hb1⟩; have hz1 := hb1.size; (try simp only [World.size_alloc] at hz1); have b1' := b1.below hb1; have b2' := b2.below hb1))
        | (refine wpList_store_blk (by rfl) 92 (.tmp 5) (.tmp 24) (by rfl) _ _ _ (by rfl) (by rfl) b2' (by rfl) (by kernel_rfl) (by simp [Value.oneCell']) ?_; intro w3 b3 ho3))
      go_roundw
      case rel => exact ⟨k + 1, s.filed x, by omega, by go_num, by (show _ = _; rw [after_snoc _ _ _ _ HD.out, he.out]), b1'.oth ho3 (by omega), b3, bl_oth (bl_trans hb hb1 (by omega)) ho3 (by omega)⟩
      case measure => simp [intOf]; omega
    · go_wp2_with (first
        | (refine wpList_load_blk (by rfl) 92 (.tmp 5) (by rfl) _ (by rfl) _ b2 _ Try.underlying92 (by rfl) (by kernel_rfl) ?_)
        | (refine wpList_store_blk (by rfl) 92 (.tmp 4) (.tmp 26) (by rfl) _ _ _ (by rfl) (by rfl) b1 (by rfl) (by kernel_rfl) (by simp [Value.oneCell']) ?_; intro w3 b3 ho3))
      refine ret_blk 4 92 (by rfl) (by rfl) _ (by rfl) _ b3 _ Try.underlying92 (by rfl) (by kernel_rfl) ?_
      have e : l.take k = l := List.take_of_length_le (by have := HN.out; omega)
      have he := he.out
      rw [e] at he
      rw [he]
      exact ⟨rfl, bl_oth hb ho3 (by omega)⟩

end Go.Proofs.Ythlpceoajhcliaa
end

section
/-
  reed: what ranges have in common.
-/
namespace Go.Proofs.Ythlpceoajhcliaa
set_option linter.unusedSimpArgs false
set_option linter.unusedVariables false
open Go.RowKit

/-- What ranges have in common. -/
def mstep (a x : Int × Int) : Int × Int := (if a.1 < x.1 then x.1 else a.1, if x.2 < a.2 then x.2 else a.2)
def meetL (f : Int × Int) (l : List (Int × Int)) : Int × Int := l.foldl mstep f
theorem meetL_snoc (f : Int × Int) (l : List (Int × Int)) (k : Nat) (x0 x1 : Int) (h : l.drop k = (x0, x1) :: l.drop (k + 1)) : meetL f (l.take (k + 1)) = mstep (meetL f (l.take k)) (x0, x1) := by
  have hk : k < l.length := by
    rcases Nat.lt_or_ge k l.length with h' | h'
    · exact h'
    · rw [List.drop_of_length_le h'] at h; cases h
  rw [List.drop_eq_getElem_cons hk] at h
  injection h with h _
  rw [List.take_succ_eq_append_getElem hk, meetL, List.foldl_append, h]
  rfl

set_option maxHeartbeats 1000000 in
theorem meet_any (f0 f1 : Int) (A : Option Addr) (n c : Nat) (l : List (Int × Int)) (w : World) (hr : Rd w w.heap.size 2 A n (rc l)) (hn : n ≤ 9223372036854775807) :
    Calls Try.prog 86 #[R2 f0 f1, .slice A n c] w fun e w' => e = .returned (R2 (meetL (f0, f1) l).1 (meetL (f0, f1) l).2) ∧ Below w.heap.size w w' := by
  have HL := Lib.hid hr.len2
  have HR := Lib.hid hr
  clear hr
  have q0 : Bk ((w.alloc (.cells #[.int .i64 f0, .int .i64 f1] 23)).alloc (.cells #[.int .i64 0, .int .i64 0] 23)) w.heap.size #[.int .i64 f0, .int .i64 f1] := (Bk.new w _ _).alloc _
  have q1 : Bk ((w.alloc (.cells #[.int .i64 f0, .int .i64 f1] 23)).alloc (.cells #[.int .i64 0, .int .i64 0] 23)) (w.heap.size + 1) #[.int .i64 0, .int .i64 0] := by simpa using Bk.new (w.alloc (.cells #[.int .i64 f0, .int .i64 f1] 23)) 23 #[.int .i64 0, .int .i64 0]
  go_enter Try.func86, Try.ntmps86
  go_wp2
  go_loopw [9] (fun i wr => ∃ (k : Nat) (m0 m1 : Int), k ≤ n ∧ i = .int .i64 k ∧ Hid (meetL (f0, f1) (l.take k) = (m0, m1)) ∧ Bk wr w.heap.size #[.int .i64 m0, .int .i64 m1] ∧ Bk wr (w.heap.size + 1) #[.int .i64 0, .int .i64 0] ∧ Below w.heap.size w wr) (fun i _ => n - (intOf i).toNat)
  case atStart => exact ⟨0, f0, f1, Nat.zero_le _, rfl, rfl, q0, q1, by (repeat' (first | (with_reducible exact Below.refl _ _) | (with_reducible refine Below.alloc ?_ ?_ _) | (with_reducible refine Below.setCell ?_ ?_ _) | (with_reducible refine Below.drew ?_) | ((with_reducible refine Below.trans ?_ (Below.mono (by assumption) ?_))) | go_size))⟩
  case round =>
    clear q0 q1
    obtain ⟨k, m0, m1, hk, rfl, he, q0, q1, hb⟩ := hrel
    have hz := q0.lt
    have hz1 := q1.lt
    have c0 := q0.cell
    have c1 := q1.cell
    have g0 := q0.frozen
    have g1 := q1.frozen
    by_cases hlt : k < n
    · obtain ⟨b, o, x0, x1, rfl, hbb, hd, d0, d1⟩ := (HR.out.below hb).at2 hlt
      have HD := Lib.hid hd
      clear hd
      have hb1 : b < wr.heap.size := by omega
      go_wp2
      go_roundw
      case rel => exact ⟨k + 1, _, _, by omega, by go_num, by (show meetL _ _ = _; rw [meetL_snoc _ _ _ _ _ HD.out, he.out]; try rfl), by first | exact q0.put2.alloc _ | exact (q0.alloc _).put2, by first | exact ((q1.far (by simp) _).far (by simp) _).alloc _ | exact ((q1.alloc _).far (by simp) _).far (by simp) _, by (repeat' (first | (with_reducible exact Below.refl _ _) | (with_reducible refine Below.alloc ?_ ?_ _) | (with_reducible refine Below.setCell ?_ ?_ _) | (with_reducible refine Below.drew ?_) | ((with_reducible refine Below.trans ?_ (Below.mono (by assumption) ?_))) | go_size))⟩
      case measure => simp [intOf]; omega
    · go_wp2
      refine ret_blk 4 23 (by rfl) (by rfl) _ (by rfl) _ q1.put2 _ Try.underlying23 (by rfl) (by kernel_rfl) ?_
      have e : l.take k = l := List.take_of_length_le (by have := HL.out; omega)
      have he := he.out
      rw [e] at he
      rw [he]
      exact ⟨rfl, by (repeat' (first | (with_reducible exact Below.refl _ _) | (with_reducible refine Below.alloc ?_ ?_ _) | (with_reducible refine Below.setCell ?_ ?_ _) | (with_reducible refine Below.drew ?_) | ((with_reducible refine Below.trans ?_ (Below.mono (by assumption) ?_))) | go_size))⟩

end Go.Proofs.Ythlpceoajhcliaa
end

section
/-
  reed: the pitches that surely pass, and those that may pass.
-/
namespace Go.Proofs.Ythlpceoajhcliaa
set_option linter.unusedSimpArgs false
set_option linter.unusedVariables false
open Go.RowKit

def strictL (wi : Int) (l : List (Int × Int)) : List (Int × Int) := l.map fun s => (-wi - s.1, wi - s.2)
def looseL (wi : Int) (l : List (Int × Int)) : List (Int × Int) := l.map fun s => (-wi - s.2, wi - s.1)
def winOf (wi : Int) : List (Int × Int) → Int × Int
  | [] => (-wi, wi)
  | f :: r => meetL f r
def winS (j : Jb) : Int × Int := winOf j.wi (strictL j.wi j.sh)
def winL (j : Jb) : Int × Int := winOf j.wi (looseL j.wi j.sh)

/-- Numbers of a job that do not run over. -/
structure Jb.ok (j : Jb) : Prop where
  wi : -1000 ≤ j.wi ∧ j.wi ≤ 1000
  sh : ∀ p ∈ j.sh, -1000 ≤ p.1 ∧ p.1 ≤ 1000 ∧ -1000 ≤ p.2 ∧ p.2 ≤ 1000
  few : j.sh.length ≤ 4

set_option maxHeartbeats 1000000 in
theorem windows_nil (j : Jb) (A : Option Addr) (c : Nat) (w : World) (hj : j.ok) (hs : j.sh = []) :
    Calls Try.prog 84 #[jobV j A c] w fun e w' => e = .returned (.tuple #[R2 (winS j).1 (winS j).2, R2 (winL j).1 (winL j).2]) ∧ Below w.heap.size w w' := by
  obtain ⟨p0, p1, t0, t1, r0, r1, u0, u1, d0, d1, a0, a1, b0, b1, le, sh, wi, me⟩ := j
  simp only at hs
  subst hs
  have hw := hj.wi
  simp only at hw
  clear hj
  go_enter Try.func84, Try.ntmps84
  go_wp2
  refine wp_region_G (fun L W => Bk W (w.heap.size + 3) #[.int .i64 (-wi), .int .i64 wi] ∧ (L.getD 2 true = false → Bk W (w.heap.size + 1) #[.int .i64 0, .int .i64 0]) ∧ (L.getD 2 true = true → Bk W (w.heap.size + 1) #[.int .i64 (-wi), .int .i64 wi]) ∧ (L.getD 3 true = false → Bk W (w.heap.size + 2) #[.int .i64 0, .int .i64 0]) ∧ (L.getD 3 true = true → Bk W (w.heap.size + 2) #[.int .i64 (-wi), .int .i64 wi]) ∧ Below w.heap.size w W) 4 (by kernel_rfl) (by kernel_rfl) ?s0 ?r0
  case s0 => (exact ⟨by (repeat' (first | (with_reducible refine Bk.drew ?_) | ((with_reducible refine Bk.newAt _ _ _ _ ?_); (simp; done)) | (with_reducible refine Bk.alloc ?_ _))), fun _ => by (repeat' (first | (with_reducible refine Bk.drew ?_) | ((with_reducible refine Bk.newAt _ _ _ _ ?_); (simp; done)) | (with_reducible refine Bk.alloc ?_ _))), fun h => (no_of h (by kernel_rfl)).elim, fun _ => by (repeat' (first | (with_reducible refine Bk.drew ?_) | ((with_reducible refine Bk.newAt _ _ _ _ ?_); (simp; done)) | (with_reducible refine Bk.alloc ?_ _))), fun h => (no_of h (by kernel_rfl)).elim, by (repeat' (first | (with_reducible exact Below.refl _ _) | (with_reducible refine Below.alloc ?_ ?_ _) | (with_reducible refine Below.setCell ?_ ?_ _) | (with_reducible refine Below.drew ?_) | ((with_reducible refine Below.trans ?_ (Below.mono (by assumption) ?_))) | go_size))⟩)
  intro W0
  refine wpG_take (i := 0) (v := ?v1) rfl (by kernel_rfl) (by intro L w; simp only [getD_set_ne true (show (0 : Nat) ≠ 2 from by decide), getD_set_ne true (show (0 : Nat) ≠ 3 from by decide)]) (fun _ _ _ h => h) (Or.inl ⟨by rfl, ?y1⟩) ?r1
  case y1 => (intro w' hy; obtain ⟨L, hD, hl, hS⟩ := hy; have qc := hS.1.cell; clear hS hD hl; go_simp; (try with_reducible rfl))
  (try simp only [Act.put, List.getElem_toArray, List.getElem_cons_succ, List.getElem_cons_zero, List.setIfInBounds_toArray, List.set_cons_zero, List.set_cons_succ])
  refine wpG_take (i := 1) (v := ?v2) rfl (by kernel_rfl) (by intro L w; simp only [getD_set_ne true (show (1 : Nat) ≠ 2 from by decide), getD_set_ne true (show (1 : Nat) ≠ 3 from by decide)]) (fun _ _ _ h => h) (Or.inl ⟨by rfl, ?y2⟩) ?r2
  case y2 => (intro w' hy; obtain ⟨L, hD, hl, hS⟩ := hy; have qc := hS.1.cell; clear hS hD hl; go_simp; (try with_reducible rfl))
  (try simp only [Act.put, List.getElem_toArray, List.getElem_cons_succ, List.getElem_cons_zero, List.setIfInBounds_toArray, List.set_cons_zero, List.set_cons_succ])
  refine wpG_step (i := 2) (by kernel_rfl) rfl (by rfl) ?r3
  intro hS K hK
  (have h4 := hS.1; have h1 := hS.2.1 (by kernel_rfl); have h2 := hS.2.2.2.1 (by kernel_rfl); have hb := hS.2.2.2.2.2; clear hS; have qc := h1.cell; have qf := h1.frozen; go_simp; refine hK.out _ _ ⟨h4.far2 (by omega), fun h => (no_of (by kernel_rfl) h).elim, fun _ => h1.put2, fun _ => h2.far2 (by omega), fun h => (no_of h (by kernel_rfl)).elim, bl_set2 hb (by omega)⟩ ?_; clear h4 h1 h2 hb qc qf)
  clear hK K; intro W3
  (try simp only [Act.put, List.getElem_toArray, List.getElem_cons_succ, List.getElem_cons_zero, List.setIfInBounds_toArray, List.set_cons_zero, List.set_cons_succ])
  refine wpG_step (i := 3) (by kernel_rfl) rfl (by rfl) ?r4
  intro hS K hK
  (have h4 := hS.1; have h1 := hS.2.2.1 (by kernel_rfl); have h2 := hS.2.2.2.1 (by kernel_rfl); have hb := hS.2.2.2.2.2; clear hS; have qc := h2.cell; have qf := h2.frozen; go_simp; refine hK.out _ _ ⟨h4.far2 (by omega), fun h => (no_of (by kernel_rfl) h).elim, fun _ => h1.far2 (by omega), fun h => (no_of (by kernel_rfl) h).elim, fun _ => h2.put2, bl_set2 hb (by omega)⟩ ?_; clear h4 h1 h2 hb qc qf)
  clear hK K; intro W4
  (try simp only [Act.put, List.getElem_toArray, List.getElem_cons_succ, List.getElem_cons_zero, List.setIfInBounds_toArray, List.set_cons_zero, List.set_cons_succ])
  refine wpG_end (by kernel_rfl) ?_
  intro W
   hS
  go_wp2
  refine ret_blk2 2 3 23 23 (by rfl) (by rfl) _ _ (by rfl) (by rfl) _ _ (hS.2.2.1 (by kernel_rfl)) (hS.2.2.2.2.1 (by kernel_rfl)) _ _ Try.underlying23 (by rfl) (by kernel_rfl) Try.underlying23 (by rfl) (by kernel_rfl) ?_
  exact ⟨rfl, hS.2.2.2.2.2⟩

theorem Try.infoRangeW : (Try.prog.info? 23).map (fun i => (i.zero, i.size, i.bytes)) = some (some (.agg #[.int .i64 0, .int .i64 0]), 2, 16) := by kernel_rfl

theorem rc_take_succ (l : List (Int × Int)) (k : Nat) (x0 x1 : Int) (h : l.drop k = (x0, x1) :: l.drop (k + 1)) : rc (l.take (k + 1)) = rc (l.take k) ++ [.int .i64 x0, .int .i64 x1] := by
  have hk : k < l.length := by
    rcases Nat.lt_or_ge k l.length with h' | h'
    · exact h'
    · rw [List.drop_of_length_le h'] at h; cases h
  rw [List.drop_eq_getElem_cons hk] at h
  injection h with h _
  rw [List.take_succ_eq_append_getElem hk, rc_append, h]
  rfl
theorem map_drop_cons {f : Int × Int → Int × Int} {l : List (Int × Int)} {k : Nat} {x : Int × Int} (h : l.drop k = x :: l.drop (k + 1)) : (l.map f).drop k = f x :: (l.map f).drop (k + 1) := by
  rw [← List.map_drop, h, List.map_cons, List.map_drop]

/-- What stands at the head of a round. -/
def WRel (j : Jb) (A : Option Addr) (c : Nat) (w : World) (v5 v6 i : Value) (wr : World) : Prop :=
  ∃ k : Nat, k ≤ j.sh.length ∧ i = .int .i64 k ∧ wr.ownsRow (w.heap.size + 4) 23 2 v5 k (rc ((strictL j.wi j.sh).take k)) ∧ wr.ownsRow (w.heap.size + 4) 23 2 v6 k (rc ((looseL j.wi j.sh).take k)) ∧
    (v5.ownBlock = none ∨ v5.ownBlock ≠ v6.ownBlock) ∧ (v6.ownBlock = none ∨ v6.ownBlock ≠ v5.ownBlock) ∧
    Bk wr (w.heap.size + 1) #[.int .i64 0, .int .i64 0] ∧ Bk wr (w.heap.size + 2) #[.int .i64 0, .int .i64 0] ∧ Bk wr (w.heap.size + 3) #[.int .i64 (-j.wi), .int .i64 j.wi] ∧ Below w.heap.size w wr

section
variable {w wr w5 w6 : World} {T k m : Nat} {v5 v6 : Value} {xs ys : List Value} {z m3 cx : Array Value} {H : Nat} {Y Z : Obj}
theorem own_ne {g : Nat} (o5 : wr.ownsRow (H + 4) T 2 v5 k xs) (hg : g < H + 4) : some g ≠ v5.ownBlock := fun e => by have := (o5.lt g e.symm).1; omega
theorem own_ne' {g : Nat} (o5 : wr.ownsRow (H + 4) T 2 v5 k xs) (hg : wr.heap.size ≤ g) : some g ≠ v5.ownBlock := fun e => by have := (o5.lt g e.symm).2; omega
theorem wmid (o5 : wr.ownsRow (H + 4) T 2 v5 k xs) (o6 : wr.ownsRow (H + 4) T 2 v6 k ys) (n6 : v6.ownBlock = none ∨ v6.ownBlock ≠ v5.ownBlock)
    (b1 : Bk wr (H + 1) z) (b2 : Bk wr (H + 2) z) (b3 : Bk wr (H + 3) m3) (hb : Below H w wr) (gr : ((wr.alloc (.cells cx T)).alloc Y).grownBy w5 v5.ownBlock) :
    w5.ownsRow (H + 4) T 2 v6 k ys ∧ Bk w5 (H + 1) z ∧ Bk w5 (H + 2) z ∧ Bk w5 (H + 3) m3 ∧ Bk w5 wr.heap.size cx ∧ Below H w w5 ∧ wr.heap.size + 2 ≤ w5.heap.size := by
  have hl := b3.lt
  have hs := gr.size
  simp only [World.size_alloc] at hs
  refine ⟨((o6.alloc _).alloc _).kept gr n6, ((b1.alloc _).alloc _).grown gr (own_ne o5 (by omega)), ((b2.alloc _).alloc _).grown gr (own_ne o5 (by omega)), ((b3.alloc _).alloc _).grown gr (own_ne o5 (by omega)),
    ((Bk.new wr T cx).alloc _).grown gr (own_ne' o5 (Nat.le_refl _)), ?_, hs⟩
  exact Below.grown ((hb.alloc (by omega) _).alloc (by simp; omega) _) gr (by simp; omega) (fun g hg => by have := (o5.lt g hg).1; omega)
theorem wend (o5 : wr.ownsRow (H + 4) T 2 v5 k xs) (o6' : wr.ownsRow (H + 4) T 2 v6 k ys) (n6 : v6.ownBlock = none ∨ v6.ownBlock ≠ v5.ownBlock) (o6 : w5.ownsRow (H + 4) T 2 v6 k ys) {g5 c5 : Nat} {xs' : List Value}
    (p5 : w5.ownsRow (H + 4) T 2 (.slice (some ⟨g5, 0, none⟩) (k + 1) c5) (k + 1) xs') (at5 : v5.ownBlock = some g5 ∨ g5 = wr.heap.size + 2)
    (b1 : Bk w5 (H + 1) z) (b2 : Bk w5 (H + 2) z) (b3 : Bk w5 (H + 3) m3) (hb : Below H w w5) (gr : (w5.alloc Z).grownBy w6 v6.ownBlock) {g6 : Nat} (at6 : v6.ownBlock = some g6 ∨ g6 = w5.heap.size + 1) :
    w6.ownsRow (H + 4) T 2 (.slice (some ⟨g5, 0, none⟩) (k + 1) c5) (k + 1) xs' ∧ g5 ≠ g6 ∧ Bk w6 (H + 1) z ∧ Bk w6 (H + 2) z ∧ Bk w6 (H + 3) m3 ∧ Below H w w6 := by
  have hl := b3.lt
  have hlt := (p5.lt g5 rfl).2
  have hne : some g5 ≠ v6.ownBlock := fun e => by
    rcases at5 with h | h
    · rcases n6 with h' | h'
      · rw [h'] at e; cases e
      · exact h' (by rw [h, e])
    · have := (o6'.lt g5 e.symm).2; omega
  refine ⟨(p5.alloc _).kept gr (.inr hne), ?_, (b1.alloc _).grown gr (own_ne o6 (by omega)), (b2.alloc _).grown gr (own_ne o6 (by omega)), (b3.alloc _).grown gr (own_ne o6 (by omega)), ?_⟩
  · rintro rfl
    rcases at6 with h | h
    · exact hne h.symm
    · omega
  · exact Below.grown (hb.alloc (by omega) _) gr (by simp; omega) (fun g hg => by have := (o6.lt g hg).1; omega)
end

set_option maxRecDepth 100000 in
set_option maxHeartbeats 2000000 in
theorem windows_cons (j : Jb) (A : Option Addr) (c : Nat) (w : World) (hj : j.ok) (hs : j.sh ≠ []) (hr : Rd w w.heap.size 2 A j.sh.length (rc j.sh)) :
    Calls Try.prog 84 #[jobV j A c] w fun e w' => e = .returned (.tuple #[R2 (winS j).1 (winS j).2, R2 (winL j).1 (winL j).2]) ∧ Below w.heap.size w w' := by
  have hw := hj.wi
  have hfew := hj.few
  have HJ := Lib.hid hj
  have HR := Lib.hid hr
  have hpos : 0 < j.sh.length := List.length_pos_iff.2 hs
  have e0 : (((j.sh.length : Int)) == 0) = false := by simpa using hs
  have e1 : ((j.sh.length) == 0) = false := by simpa using hs
  obtain ⟨s0, s1, sr, l0, l1, lr, hS, hL⟩ : ∃ s0 s1 sr l0 l1 lr, strictL j.wi j.sh = (s0, s1) :: sr ∧ looseL j.wi j.sh = (l0, l1) :: lr := by
    cases hq : j.sh with
    | nil => exact absurd hq hs
    | cons p r => exact ⟨_, _, _, _, _, _, rfl, rfl⟩
  have HS := Lib.hid hS
  have HL := Lib.hid hL
  clear hj hr hs hS hL
  obtain ⟨i0, hi, hz0, hz1, hz2⟩ := info_parts Try.infoRangeW
  have HI := Lib.hid hi
  have HZ0 := Lib.hid hz0
  have HZ1 := Lib.hid hz1
  have HZ2 := Lib.hid hz2
  clear hi hz0 hz1 hz2
  go_enter Try.func84, Try.ntmps84
  go_wp2
  go_loopw [5, 6, 24] (fun v5 v6 i wr => WRel j A c w v5 v6 i wr) (fun _ _ i _ => j.sh.length - (intOf i).toNat)
  case atStart => exact ⟨0, Nat.zero_le _, rfl, ⟨rfl, .inl ⟨rfl, rfl⟩⟩, ⟨rfl, .inl ⟨rfl, rfl⟩⟩, .inl rfl, .inl rfl, by (repeat' (first | (with_reducible refine Bk.drew ?_) | ((with_reducible refine Bk.newAt _ _ _ _ ?_); (simp; done)) | (with_reducible refine Bk.alloc ?_ _))), by (repeat' (first | (with_reducible refine Bk.drew ?_) | ((with_reducible refine Bk.newAt _ _ _ _ ?_); (simp; done)) | (with_reducible refine Bk.alloc ?_ _))), by (repeat' (first | (with_reducible refine Bk.drew ?_) | ((with_reducible refine Bk.newAt _ _ _ _ ?_); (simp; done)) | (with_reducible refine Bk.alloc ?_ _))), by (repeat' (first | (with_reducible exact Below.refl _ _) | (with_reducible refine Below.alloc ?_ ?_ _) | (with_reducible refine Below.setCell ?_ ?_ _) | (with_reducible refine Below.drew ?_) | ((with_reducible refine Below.trans ?_ (Below.mono (by assumption) ?_))) | go_size))⟩
  case round =>
    obtain ⟨k, hk, rfl, o5, o6, n5, n6, b1, b2, b3, hb⟩ := hrel
    have hz := b3.lt
    have c3 := b3.cell
    by_cases hlt : k < j.sh.length
    · obtain ⟨b, o, x0, x1, rfl, hbb, hd, d0, d1⟩ := (HR.out.below hb).at2 hlt
      have HD := Lib.hid hd
      have hx := HJ.out.sh (x0, x1) (by have : (x0, x1) ∈ j.sh.drop k := by rw [hd]; simp
                                        exact List.mem_of_mem_drop this)
      simp only at hx
      clear hd
      have hb1 : b < wr.heap.size := by omega
      have b4 : Bk (wr.alloc (.cells #[.int .i64 x0, .int .i64 x1] 23)) wr.heap.size #[.int .i64 x0, .int .i64 x1] := Bk.new _ _ _
      have n1 := Bk.new1 wr (.cells #[.int .i64 x0, .int .i64 x1] 23) 23 #[.int .i64 (-j.wi - x0), .int .i64 (j.wi - x1)]
      go_wp2_with (at_builtin; first
        | ((refine wpList_app1 (by rfl) (.tmp 28) (.tmp 40) 28 (by rfl) (w.heap.size + 4) 23 i0 _ 16 Try.underlying28 HI.out HZ0.out #[.int .i64 (-j.wi - x0), .int .i64 (j.wi - x1)] HZ1.out HZ2.out (by rfl) (by simp) _ _ _ (by rfl) ((o5.alloc _).alloc _) _ _ (by rfl) n1 (by simp [Value.oneCell']) (by omega) (by omega) (by simp; omega) ?_); intro g5 cap5 w5 p5 gr5 at5 lt5; obtain ⟨o6', b1', b2', b3', b4', hb', hz'⟩ := wmid o5 o6 n6 b1 b2 b3 hb gr5; clear d0 d1 c3; have c3 := b3'.cell; have c4 := b4'.cell; have l3 := b3'.lt)
        | ((refine wpList_app1 (by rfl) (.tmp 42) (.tmp 54) 28 (by rfl) (w.heap.size + 4) 23 i0 _ 16 Try.underlying28 HI.out HZ0.out #[.int .i64 (-j.wi - x1), .int .i64 (j.wi - x0)] HZ1.out HZ2.out (by rfl) (by simp) _ _ _ (by rfl) (o6'.alloc _) _ _ (by rfl) (Bk.new _ _ _) (by simp [Value.oneCell']) (by omega) (by omega) (by simp; omega) ?_); intro g6 cap6 w6 p6 gr6 at6 lt6))
      simp only [World.size_alloc] at at5 at6
      obtain ⟨q5, hne, q1, q2, q3, hb6⟩ := wend o5 o6 n6 o6' p5 at5 b1' b2' b3' hb' gr6 at6
      go_roundw
      case rel => exact ⟨k + 1, by omega, by go_num, by rw [rc_take_succ _ _ _ _ (map_drop_cons HD.out)]; exact q5, by rw [rc_take_succ _ _ _ _ (map_drop_cons HD.out)]; exact p6, .inr (by simpa [Value.ownBlock] using hne), .inr (by simpa [Value.ownBlock] using (Ne.symm hne)), q1, q2, q3, hb6⟩
      case measure => simp [intOf]; omega
    · obtain rfl : k = j.sh.length := by omega
      rw [List.take_of_length_le (by simp [strictL])] at o5
      rw [List.take_of_length_le (by simp [looseL])] at o6
      obtain ⟨g5, c5, rfl, hc5, hm5, hg5, hl5, hr5⟩ := own_form o5 hpos
      obtain ⟨g6, c6, rfl, hc6, hm6, hg6, hl6, hr6⟩ := own_form o6 hpos
      go_wp2
      have hu5 : wr.cell? ⟨g5, 0, none⟩ = some (.int .i64 s0) := hr5 0 _ (by rw [HS.out]; rfl)
      have hv5 : wr.cell? ⟨g5, 1, none⟩ = some (.int .i64 s1) := hr5 1 _ (by rw [HS.out]; rfl)
      have hu6 : wr.cell? ⟨g6, 0, none⟩ = some (.int .i64 l0) := hr6 0 _ (by rw [HL.out]; rfl)
      have hv6 : wr.cell? ⟨g6, 1, none⟩ = some (.int .i64 l1) := hr6 1 _ (by rw [HL.out]; rfl)
      have hn1 : (1 : Int) ≤ (j.sh.length : Int) := by omega
      have hc51 : (j.sh.length : Int) ≤ (c5 : Int) := by omega
      have hc61 : (j.sh.length : Int) ≤ (c6 : Int) := by omega
      refine wp_region_G (fun L W => Ex wr W (fun b => b ≠ w.heap.size + 1 ∧ b ≠ w.heap.size + 2) ∧ (L.getD 12 true = false → Bk W (w.heap.size + 1) #[.int .i64 0, .int .i64 0]) ∧ (L.getD 12 true = true → Bk W (w.heap.size + 1) #[.int .i64 (meetL (s0, s1) sr).1, .int .i64 (meetL (s0, s1) sr).2]) ∧ (L.getD 13 true = false → Bk W (w.heap.size + 2) #[.int .i64 0, .int .i64 0]) ∧ (L.getD 13 true = true → Bk W (w.heap.size + 2) #[.int .i64 (meetL (l0, l1) lr).1, .int .i64 (meetL (l0, l1) lr).2]) ∧ Below w.heap.size w W) 14 (by kernel_rfl) (by kernel_rfl) ?s0 ?r0
      case s0 => (exact ⟨(Ex.refl _ _).drew, fun _ => b1.drew, fun h => (no_of h (by kernel_rfl)).elim, fun _ => b2.drew, fun h => (no_of h (by kernel_rfl)).elim, hb.drew⟩)
      intro W0
      refine wpG_take (i := 0) (v := ?v1) rfl (by kernel_rfl) (by intro L w; simp only [getD_set_ne true (show (0 : Nat) ≠ 12 from by decide), getD_set_ne true (show (0 : Nat) ≠ 13 from by decide)]) (fun _ _ _ h => h) (Or.inl ⟨by rfl, ?y1⟩) ?r1
      case y1 => (intro w' hy; obtain ⟨L, hD, hl, hS⟩ := hy; clear hD hl hS; go_simp; (try with_reducible rfl))
      (try simp only [Act.put, List.getElem_toArray, List.getElem_cons_succ, List.getElem_cons_zero, List.setIfInBounds_toArray, List.set_cons_zero, List.set_cons_succ])
      refine wpG_take (i := 1) (v := ?v2) rfl (by kernel_rfl) (by intro L w; simp only [getD_set_ne true (show (1 : Nat) ≠ 12 from by decide), getD_set_ne true (show (1 : Nat) ≠ 13 from by decide)]) (fun _ _ _ h => h) (Or.inl ⟨by rfl, ?y2⟩) ?r2
      case y2 => (intro w' hy; obtain ⟨L, hD, hl, hS⟩ := hy; clear hD hl hS; go_simp; (try with_reducible rfl))
      (try simp only [Act.put, List.getElem_toArray, List.getElem_cons_succ, List.getElem_cons_zero, List.setIfInBounds_toArray, List.set_cons_zero, List.set_cons_succ])
      refine wpG_take (i := 2) (v := ?v3) rfl (by kernel_rfl) (by intro L w; simp only [getD_set_ne true (show (2 : Nat) ≠ 12 from by decide), getD_set_ne true (show (2 : Nat) ≠ 13 from by decide)]) (fun _ _ _ h => h) (Or.inl ⟨by rfl, ?y3⟩) ?r3
      case y3 => (intro w' hy; obtain ⟨L, hD, hl, hS⟩ := hy; have x5 := hS.1.cell (g := g5) hl5 ⟨by omega, by omega⟩; have x6 := hS.1.cell (g := g6) hl6 ⟨by omega, by omega⟩; clear hS hD hl; go_simp; (try with_reducible rfl))
      (try simp only [Act.put, List.getElem_toArray, List.getElem_cons_succ, List.getElem_cons_zero, List.setIfInBounds_toArray, List.set_cons_zero, List.set_cons_succ])
      refine wpG_take (i := 3) (v := ?v4) rfl (by kernel_rfl) (by intro L w; simp only [getD_set_ne true (show (3 : Nat) ≠ 12 from by decide), getD_set_ne true (show (3 : Nat) ≠ 13 from by decide)]) (fun _ _ _ h => h) (Or.inl ⟨by rfl, ?y4⟩) ?r4
      case y4 => (intro w' hy; obtain ⟨L, hD, hl, hS⟩ := hy; clear hD hl hS; go_simp; (try with_reducible rfl))
      (try simp only [Act.put, List.getElem_toArray, List.getElem_cons_succ, List.getElem_cons_zero, List.setIfInBounds_toArray, List.set_cons_zero, List.set_cons_succ])
      refine wpG_take (i := 4) (v := ?v5) rfl (by kernel_rfl) (by intro L w; simp only [getD_set_ne true (show (4 : Nat) ≠ 12 from by decide), getD_set_ne true (show (4 : Nat) ≠ 13 from by decide)]) (fun _ _ _ h => h) (Or.inl ⟨by rfl, ?y5⟩) ?r5
      case y5 => (intro w' hy; obtain ⟨L, hD, hl, hS⟩ := hy; clear hD hl hS; go_simp; (try with_reducible rfl))
      (try simp only [Act.put, List.getElem_toArray, List.getElem_cons_succ, List.getElem_cons_zero, List.setIfInBounds_toArray, List.set_cons_zero, List.set_cons_succ])
      refine wpG_take (i := 6) (v := ?v6) rfl (by kernel_rfl) (by intro L w; simp only [getD_set_ne true (show (6 : Nat) ≠ 12 from by decide), getD_set_ne true (show (6 : Nat) ≠ 13 from by decide)]) (fun _ _ _ h => h) (Or.inl ⟨by rfl, ?y6⟩) ?r6
      case y6 => (intro w' hy; obtain ⟨L, hD, hl, hS⟩ := hy; clear hD hl hS; go_simp; (try with_reducible rfl))
      (try simp only [Act.put, List.getElem_toArray, List.getElem_cons_succ, List.getElem_cons_zero, List.setIfInBounds_toArray, List.set_cons_zero, List.set_cons_succ])
      refine wpG_take (i := 7) (v := ?v7) rfl (by kernel_rfl) (by intro L w; simp only [getD_set_ne true (show (7 : Nat) ≠ 12 from by decide), getD_set_ne true (show (7 : Nat) ≠ 13 from by decide)]) (fun _ _ _ h => h) (Or.inl ⟨by rfl, ?y7⟩) ?r7
      case y7 => (intro w' hy; obtain ⟨L, hD, hl, hS⟩ := hy; clear hD hl hS; go_simp; (try with_reducible rfl))
      (try simp only [Act.put, List.getElem_toArray, List.getElem_cons_succ, List.getElem_cons_zero, List.setIfInBounds_toArray, List.set_cons_zero, List.set_cons_succ])
      refine wpG_take (i := 8) (v := ?v8) rfl (by kernel_rfl) (by intro L w; simp only [getD_set_ne true (show (8 : Nat) ≠ 12 from by decide), getD_set_ne true (show (8 : Nat) ≠ 13 from by decide)]) (fun _ _ _ h => h) (Or.inl ⟨by rfl, ?y8⟩) ?r8
      case y8 => (intro w' hy; obtain ⟨L, hD, hl, hS⟩ := hy; have x5 := hS.1.cell (g := g5) hl5 ⟨by omega, by omega⟩; have x6 := hS.1.cell (g := g6) hl6 ⟨by omega, by omega⟩; clear hS hD hl; go_simp; (try with_reducible rfl))
      (try simp only [Act.put, List.getElem_toArray, List.getElem_cons_succ, List.getElem_cons_zero, List.setIfInBounds_toArray, List.set_cons_zero, List.set_cons_succ])
      refine wpG_take (i := 9) (v := ?v9) rfl (by kernel_rfl) (by intro L w; simp only [getD_set_ne true (show (9 : Nat) ≠ 12 from by decide), getD_set_ne true (show (9 : Nat) ≠ 13 from by decide)]) (fun _ _ _ h => h) (Or.inl ⟨by rfl, ?y9⟩) ?r9
      case y9 => (intro w' hy; obtain ⟨L, hD, hl, hS⟩ := hy; clear hD hl hS; go_simp; (try with_reducible rfl))
      (try simp only [Act.put, List.getElem_toArray, List.getElem_cons_succ, List.getElem_cons_zero, List.setIfInBounds_toArray, List.set_cons_zero, List.set_cons_succ])
      refine wpG_take (i := 10) (v := ?v10) rfl (by kernel_rfl) (by intro L w; simp only [getD_set_ne true (show (10 : Nat) ≠ 12 from by decide), getD_set_ne true (show (10 : Nat) ≠ 13 from by decide)]) (fun _ _ _ h => h) (Or.inl ⟨by rfl, ?y10⟩) ?r10
      case y10 => (intro w' hy; obtain ⟨L, hD, hl, hS⟩ := hy; clear hD hl hS; go_simp; (try with_reducible rfl))
      (try simp only [Act.put, List.getElem_toArray, List.getElem_cons_succ, List.getElem_cons_zero, List.setIfInBounds_toArray, List.set_cons_zero, List.set_cons_succ])
      refine wpG_step (i := 5) (by kernel_rfl) rfl (by rfl) ?r11
      intro hS K hK
      (have hx := hS.1; have h1 := hS.2.1 (by kernel_rfl); have h2 := hS.2.2.2.1 (by kernel_rfl); have hbb := hS.2.2.2.2.2; clear hS; go_simp; refine (meet_any s0 s1 _ _ _ sr _ (rd_cut (p := (s0, s1)) (by rw [← HS.out]; exact hx.range hr5 hl5 ⟨by omega, by omega⟩) (Nat.lt_of_lt_of_le hl5 hx.size) (by have := congrArg List.length HS.out; simpa [strictL] using this) hc5) (by omega)).mono ?_; rintro e V5 ⟨rfl, hb1⟩; refine hK.out _ _ ⟨hx.below hb1, fun _ => h1.below hb1, fun h => (no_of h (by kernel_rfl)).elim, fun _ => h2.below hb1, fun h => (no_of h (by kernel_rfl)).elim, bl_trans hbb hb1 hbb.size⟩ ?_; clear hx h1 h2 hbb hb1)
      clear hK K; intro W11
      (try simp only [Act.put, List.getElem_toArray, List.getElem_cons_succ, List.getElem_cons_zero, List.setIfInBounds_toArray, List.set_cons_zero, List.set_cons_succ])
      refine wpG_step (i := 11) (by kernel_rfl) rfl (by rfl) ?r12
      intro hS K hK
      (have hx := hS.1; have h1 := hS.2.1 (by kernel_rfl); have h2 := hS.2.2.2.1 (by kernel_rfl); have hbb := hS.2.2.2.2.2; clear hS; go_simp; refine (meet_any l0 l1 _ _ _ lr _ (rd_cut (p := (l0, l1)) (by rw [← HL.out]; exact hx.range hr6 hl6 ⟨by omega, by omega⟩) (Nat.lt_of_lt_of_le hl6 hx.size) (by have := congrArg List.length HL.out; simpa [looseL] using this) hc6) (by omega)).mono ?_; rintro e V6 ⟨rfl, hb1⟩; refine hK.out _ _ ⟨hx.below hb1, fun _ => h1.below hb1, fun h => (no_of h (by kernel_rfl)).elim, fun _ => h2.below hb1, fun h => (no_of h (by kernel_rfl)).elim, bl_trans hbb hb1 hbb.size⟩ ?_; clear hx h1 h2 hbb hb1)
      clear hK K; intro W12
      (try simp only [Act.put, List.getElem_toArray, List.getElem_cons_succ, List.getElem_cons_zero, List.setIfInBounds_toArray, List.set_cons_zero, List.set_cons_succ])
      refine wpG_step (i := 12) (by kernel_rfl) rfl (by rfl) ?r13
      intro hS K hK
      (have hx := hS.1; have h1 := hS.2.1 (by kernel_rfl); have h2 := hS.2.2.2.1 (by kernel_rfl); have hbb := hS.2.2.2.2.2; clear hS; have qc := h1.cell; have qf := h1.frozen; go_simp; refine hK.out _ _ ⟨hx.set2 (by omega), fun h => (no_of (by kernel_rfl) h).elim, fun _ => h1.put2, fun _ => h2.far2 (by omega), fun h => (no_of h (by kernel_rfl)).elim, bl_set2 hbb (by omega)⟩ ?_; clear hx h1 h2 hbb qc qf)
      clear hK K; intro W13
      (try simp only [Act.put, List.getElem_toArray, List.getElem_cons_succ, List.getElem_cons_zero, List.setIfInBounds_toArray, List.set_cons_zero, List.set_cons_succ])
      refine wpG_step (i := 13) (by kernel_rfl) rfl (by rfl) ?r14
      intro hS K hK
      (have hx := hS.1; have h1 := hS.2.2.1 (by kernel_rfl); have h2 := hS.2.2.2.1 (by kernel_rfl); have hbb := hS.2.2.2.2.2; clear hS; have qc := h2.cell; have qf := h2.frozen; go_simp; refine hK.out _ _ ⟨hx.set2 (by omega), fun h => (no_of (by kernel_rfl) h).elim, fun _ => h1.far2 (by omega), fun h => (no_of (by kernel_rfl) h).elim, fun _ => h2.put2, bl_set2 hbb (by omega)⟩ ?_; clear hx h1 h2 hbb qc qf)
      clear hK K; intro W14
      (try simp only [Act.put, List.getElem_toArray, List.getElem_cons_succ, List.getElem_cons_zero, List.setIfInBounds_toArray, List.set_cons_zero, List.set_cons_succ])
      refine wpG_end (by kernel_rfl) ?_
      intro W
       hS
      go_wp2
      all_goals
        refine ret_blk2 2 3 23 23 (by rfl) (by rfl) _ _ (by rfl) (by rfl) _ _ (hS.2.2.1 (by kernel_rfl)) (hS.2.2.2.2.1 (by kernel_rfl)) _ _ Try.underlying23 (by rfl) (by kernel_rfl) Try.underlying23 (by rfl) (by kernel_rfl) ?_
        refine ⟨?_, hS.2.2.2.2.2⟩
        unfold winS winL
        rw [HS.out, HL.out]
        rfl

theorem windows_any (j : Jb) (A : Option Addr) (c : Nat) (w : World) (hj : j.ok) (hr : Rd w w.heap.size 2 A j.sh.length (rc j.sh)) :
    Calls Try.prog 84 #[jobV j A c] w fun e w' => e = .returned (.tuple #[R2 (winS j).1 (winS j).2, R2 (winL j).1 (winL j).2]) ∧ Below w.heap.size w w' := by
  by_cases hs : j.sh = []
  · exact windows_nil j A c w hj hs
  · exact windows_cons j A c w hj hs hr

end Go.Proofs.Ythlpceoajhcliaa
end

section
/-
  reed: the verdict on pitches.
-/
namespace Go.Proofs.Ythlpceoajhcliaa
set_option linter.unusedSimpArgs false
set_option linter.unusedVariables false
open Go.RowKit

def passesJ (j : Jb) (p0 p1 : Int) : Int :=
  if hasB (winS j).1 (winS j).2 p0 p1 = true then 1 else if (meetL (winL j) [(p0, p1)]).2 < (meetL (winL j) [(p0, p1)]).1 then 2 else 3

set_option maxRecDepth 100000 in
set_option maxHeartbeats 1000000 in
theorem passes_any (j : Jb) (A : Option Addr) (c : Nat) (p0 p1 : Int) (w : World) (hj : j.ok) (hr : Rd w w.heap.size 2 A j.sh.length (rc j.sh)) :
    Calls Try.prog 88 #[jobV j A c, R2 p0 p1] w fun e w' => e = .returned (.int .i64 (passesJ j p0 p1)) ∧ Below w.heap.size w w' := by
  have HR := Lib.hid hr
  have HJ := Lib.hid hj
  clear hr hj
  have q0 := (Bk.new w 30 #[.int .i64 j.p0, .int .i64 j.p1, .int .i64 j.t0, .int .i64 j.t1, .int .i64 j.r0, .int .i64 j.r1, .int .i64 j.u0, .int .i64 j.u1, .int .i64 j.d0, .int .i64 j.d1, .int .i64 j.a0, .int .i64 j.a1, .int .i64 j.b0, .int .i64 j.b1, .int .i64 j.le, .slice A j.sh.length c, .int .i64 j.wi, .int .i64 j.me]).alloc (.cells #[.int .i64 p0, .int .i64 p1] 23)
  have h1 : hasB (winS j).1 (winS j).2 p0 p1 = true ∨ hasB (winS j).1 (winS j).2 p0 p1 = false := by cases hasB (winS j).1 (winS j).2 p0 p1 <;> simp
  have h2 : (meetL (winL j) [(p0, p1)]).2 < (meetL (winL j) [(p0, p1)]).1 ∨ ¬ (meetL (winL j) [(p0, p1)]).2 < (meetL (winL j) [(p0, p1)]).1 := Decidable.em _
  have HP : Hid (passesJ j p0 p1 = if hasB (winS j).1 (winS j).2 p0 p1 = true then 1 else if (meetL (winL j) [(p0, p1)]).2 < (meetL (winL j) [(p0, p1)]).1 then 2 else 3) := rfl
  generalize passesJ j p0 p1 = pj at *
  generalize hws : winS j = ws at *
  have HWS := Lib.hid hws
  generalize hwl : winL j = wl at *
  have HWL := Lib.hid hwl
  clear hws hwl
  obtain ⟨s0, s1⟩ := ws
  obtain ⟨l0, l1⟩ := wl
  rcases h1 with h1 | h1 <;> rcases h2 with h2 | h2
  all_goals
    have H1 := Lib.hid h1
    have H2 := Lib.hid h2
    go_enter Try.func88, Try.ntmps88
    go_wp2_with (first
      | (refine wpList_load_blk (by rfl) 30 (.tmp 2) (by rfl) _ (by rfl) _ q0 _ Try.underlying30 (by rfl) (by kernel_rfl) ?_)
      | (go_at_call 84; ((with_reducible refine (windows_any j _ _ _ HJ.out ?_).mono ?_); (exact (HR.out.below (by (repeat' (first | (with_reducible exact Below.refl _ _) | (with_reducible refine Below.alloc ?_ ?_ _) | (with_reducible refine Below.setCell ?_ ?_ _) | (with_reducible refine Below.drew ?_) | ((with_reducible refine Below.trans ?_ (Below.mono (by assumption) ?_))) | go_size)))).more (by go_size)); rintro e w1 ⟨rfl, hb1⟩; have hz1 := hb1.size; (try simp only [World.size_alloc] at hz1); rw [HWS.out, HWL.out]; have q1 := (Bk.newAt (w.alloc (.cells #[.int .i64 j.p0, .int .i64 j.p1, .int .i64 j.t0, .int .i64 j.t1, .int .i64 j.r0, .int .i64 j.r1, .int .i64 j.u0, .int .i64 j.u1, .int .i64 j.d0, .int .i64 j.d1, .int .i64 j.a0, .int .i64 j.a1, .int .i64 j.b0, .int .i64 j.b1, .int .i64 j.le, .slice A j.sh.length c, .int .i64 j.wi, .int .i64 j.me] 30)) 23 #[.int .i64 p0, .int .i64 p1] (w.heap.size + 1) (by simp)).below hb1; have c1 := q1.cell; have y1 := q1.lt; have y0 : w.heap.size < w1.heap.size := (by omega)))
      | (go_at_call 86; ((with_reducible refine (meet_any _ _ _ _ _ [(p0, p1)] _ ?_ ?_).mono ?_); (exact Rd.newAt _ _ _ _ _ _ _ _ (by simp) (by simp) rfl rfl); (omega); rintro e w2 ⟨rfl, hb2⟩; have hz2 := hb2.size; (try simp only [World.size_alloc] at hz2); have q5 : Bk w2 w1.heap.size #[.int .i64 s0, .int .i64 s1] := Bk.below (by (repeat' (first | (with_reducible refine Bk.drew ?_) | ((with_reducible refine Bk.newAt _ _ _ _ ?_); (simp; done)) | (with_reducible refine Bk.alloc ?_ _)))) hb2; have q3 : Bk w2 (w.heap.size + 1) #[.int .i64 p0, .int .i64 p1] := Bk.below (((q1.alloc _).alloc _).alloc _) hb2; clear c1; have c5 := q5.cell; have c3 := q3.cell; have l5 := q5.lt; have l3 := q3.lt; have l4 : w.heap.size < w2.heap.size := (by omega)))
      | (go_at_call 106; ((with_reducible refine (has_any _ _ _ _ _).mono ?_); rintro e w3 ⟨rfl, hb3⟩; have hz3 := hb3.size; (try simp only [World.size_alloc] at hz3); have hbw : Below w.heap.size w w3 := (by (repeat' (first | (with_reducible exact Below.refl _ _) | (with_reducible refine Below.alloc ?_ ?_ _) | (with_reducible refine Below.setCell ?_ ?_ _) | (with_reducible refine Below.drew ?_) | ((with_reducible refine Below.trans ?_ (Below.mono (by assumption) ?_))) | go_size))); have q7 := (Bk.new w2 23 #[.int .i64 (meetL (l0, l1) [(p0, p1)]).1, .int .i64 (meetL (l0, l1) [(p0, p1)]).2]).below hb3; have c7 := q7.cell)))
    go_ret
    refine ⟨ret_int ?_, hbw⟩
    have h1 := H1.out
    have h2 := H2.out
    rw [HP.out]
    (repeat' split)
    all_goals first | rfl | omega | (exfalso; simp_all; done)

end Go.Proofs.Ythlpceoajhcliaa
end

section
/-
  reed: the verdict on a tongue that has been filed.
-/
namespace Go.Proofs.Ythlpceoajhcliaa
set_option linter.unusedSimpArgs false
set_option linter.unusedVariables false
open Go.RowKit

def fineJ (j : Jb) (s : St) : Int :=
  if passesJ j s.p0 s.p1 = 1 ∧ s.spoiled = 2 then 1 else if passesJ j s.p0 s.p1 = 2 ∨ s.spoiled = 1 then 2 else 3

set_option maxRecDepth 100000 in
set_option maxHeartbeats 1000000 in
theorem fine_any (j : Jb) (A : Option Addr) (c : Nat) (s : St) (w : World) (hj : j.ok) (hr : Rd w w.heap.size 2 A j.sh.length (rc j.sh)) :
    Calls Try.prog 68 #[jobV j A c, stV s] w fun e w' => e = .returned (.int .i64 (fineJ j s)) ∧ Below w.heap.size w w' := by
  have HR := Lib.hid hr
  have HJ := Lib.hid hj
  clear hr hj
  have HF : Hid (fineJ j s = if passesJ j s.p0 s.p1 = 1 ∧ s.spoiled = 2 then 1 else if passesJ j s.p0 s.p1 = 2 ∨ s.spoiled = 1 then 2 else 3) := rfl
  generalize fineJ j s = fj at *
  generalize hpj : passesJ j s.p0 s.p1 = pj at *
  have HP := Lib.hid hpj
  generalize hsp : s.spoiled = sp at *
  have HSP := Lib.hid hsp
  clear hpj hsp
  go_enter Try.func68, Try.ntmps68
  go_wp2
  refine wp_region_G (fun _ W => Bk W w.heap.size #[.int .i64 j.p0, .int .i64 j.p1, .int .i64 j.t0, .int .i64 j.t1, .int .i64 j.r0, .int .i64 j.r1, .int .i64 j.u0, .int .i64 j.u1, .int .i64 j.d0, .int .i64 j.d1, .int .i64 j.a0, .int .i64 j.a1, .int .i64 j.b0, .int .i64 j.b1, .int .i64 j.le, .slice A j.sh.length c, .int .i64 j.wi, .int .i64 j.me] ∧ Bk W (w.heap.size + 1) (stA s) ∧ Below w.heap.size w W) 9 (by kernel_rfl) (by kernel_rfl) ?s0 ?r0
  case s0 => (exact ⟨by (repeat' (first | (with_reducible refine Bk.drew ?_) | ((with_reducible refine Bk.newAt _ _ _ _ ?_); (simp; done)) | (with_reducible refine Bk.alloc ?_ _))), by (repeat' (first | (with_reducible refine Bk.drew ?_) | ((with_reducible refine Bk.newAt _ _ _ _ ?_); (simp; done)) | (with_reducible refine Bk.alloc ?_ _))), by (repeat' (first | (with_reducible exact Below.refl _ _) | (with_reducible refine Below.alloc ?_ ?_ _) | (with_reducible refine Below.setCell ?_ ?_ _) | (with_reducible refine Below.drew ?_) | ((with_reducible refine Below.trans ?_ (Below.mono (by assumption) ?_))) | go_size))⟩)
  intro W0
  refine wpG_take (i := 0) (v := ?v1) rfl (by kernel_rfl) (by exact fun _ _ => Iff.rfl) (fun _ _ _ h => h) (Or.inl ⟨by rfl, ?y1⟩) ?r1
  case y1 => (intro w' hy; obtain ⟨L, hD, hl, hS⟩ := hy; ((refine run_load_blk 30 (.tmp 2) ?_ _ ?_ _ hS.1 _ Try.underlying30 ?_ ?_) <;> first | rfl | kernel_rfl); (try with_reducible rfl))
  (try simp only [Act.put, List.getElem_toArray, List.getElem_cons_succ, List.getElem_cons_zero, List.setIfInBounds_toArray, List.set_cons_zero, List.set_cons_succ])
  refine wpG_take (i := 1) (v := ?v2) rfl (by kernel_rfl) (by exact fun _ _ => Iff.rfl) (fun _ _ _ h => h) (Or.inl ⟨by rfl, ?y2⟩) ?r2
  case y2 => (intro w' hy; obtain ⟨L, hD, hl, hS⟩ := hy; clear hD hl hS; go_simp; (try with_reducible rfl))
  (try simp only [Act.put, List.getElem_toArray, List.getElem_cons_succ, List.getElem_cons_zero, List.setIfInBounds_toArray, List.set_cons_zero, List.set_cons_succ])
  refine wpG_take (i := 2) (v := ?v3) rfl (by kernel_rfl) (by exact fun _ _ => Iff.rfl) (fun _ _ _ h => h) (Or.inl ⟨by rfl, ?y3⟩) ?r3
  case y3 => (intro w' hy; obtain ⟨L, hD, hl, hS⟩ := hy; clear hD hl hS; go_simp; (try with_reducible rfl))
  (try simp only [Act.put, List.getElem_toArray, List.getElem_cons_succ, List.getElem_cons_zero, List.setIfInBounds_toArray, List.set_cons_zero, List.set_cons_succ])
  refine wpG_take (i := 3) (v := ?v4) rfl (by kernel_rfl) (by exact fun _ _ => Iff.rfl) (fun _ _ _ h => h) (Or.inl ⟨by rfl, ?y4⟩) ?r4
  case y4 => (intro w' hy; obtain ⟨L, hD, hl, hS⟩ := hy; have qc := hS.2.1.cell; clear hS hD hl; go_simp; (try with_reducible rfl))
  (try simp only [Act.put, List.getElem_toArray, List.getElem_cons_succ, List.getElem_cons_zero, List.setIfInBounds_toArray, List.set_cons_zero, List.set_cons_succ])
  refine wpG_take (i := 5) (v := ?v5) rfl (by kernel_rfl) (by exact fun _ _ => Iff.rfl) (fun _ _ _ h => h) (Or.inl ⟨by rfl, ?y5⟩) ?r5
  case y5 => (intro w' hy; obtain ⟨L, hD, hl, hS⟩ := hy; ((refine run_load_blk 92 (.tmp 3) ?_ _ ?_ _ hS.2.1 _ Try.underlying92 ?_ ?_) <;> first | rfl | kernel_rfl); (try with_reducible rfl))
  (try simp only [Act.put, List.getElem_toArray, List.getElem_cons_succ, List.getElem_cons_zero, List.setIfInBounds_toArray, List.set_cons_zero, List.set_cons_succ])
  refine wpG_step (i := 4) (by kernel_rfl) rfl (by rfl) ?r6
  intro hS K hK
  (obtain ⟨h1, h2, hb⟩ := hS; go_simp; refine (passes_any j _ _ _ _ _ HJ.out ((HR.out.below hb).more hb.size)).mono ?_; rintro e V1 ⟨rfl, hb1⟩; rw [HP.out]; refine hK.out _ _ ⟨h1.below hb1, h2.below hb1, bl_trans hb hb1 hb.size⟩ ?_; clear h1 h2 hb hb1)
  clear hK K; intro W6
  (try simp only [Act.put, List.getElem_toArray, List.getElem_cons_succ, List.getElem_cons_zero, List.setIfInBounds_toArray, List.set_cons_zero, List.set_cons_succ])
  refine wpG_step (i := 6) (by kernel_rfl) rfl (by rfl) ?r7
  intro hS K hK
  (obtain ⟨h1, h2, hb⟩ := hS; go_simp; refine (spoiled_any s _).mono ?_; rintro e V2 ⟨rfl, hb1⟩; rw [HSP.out]; refine hK.out _ _ ⟨h1.below hb1, h2.below hb1, bl_trans hb hb1 hb.size⟩ ?_; clear h1 h2 hb hb1)
  clear hK K; intro W7
  (try simp only [Act.put, List.getElem_toArray, List.getElem_cons_succ, List.getElem_cons_zero, List.setIfInBounds_toArray, List.set_cons_zero, List.set_cons_succ])
  refine wpG_take (i := 7) (v := ?v8) rfl (by kernel_rfl) (by exact fun _ _ => Iff.rfl) (fun _ _ _ h => h) (Or.inl ⟨by rfl, ?y8⟩) ?r8
  case y8 => (intro w' hy; obtain ⟨L, hD, hl, hS⟩ := hy; clear hD hl hS; go_simp; (try with_reducible rfl))
  (try simp only [Act.put, List.getElem_toArray, List.getElem_cons_succ, List.getElem_cons_zero, List.setIfInBounds_toArray, List.set_cons_zero, List.set_cons_succ])
  refine wpG_take (i := 8) (v := ?v9) rfl (by kernel_rfl) (by exact fun _ _ => Iff.rfl) (fun _ _ _ h => h) (Or.inl ⟨by rfl, ?y9⟩) ?r9
  case y9 => (intro w' hy; obtain ⟨L, hD, hl, hS⟩ := hy; clear hD hl hS; go_simp; (try with_reducible rfl))
  (try simp only [Act.put, List.getElem_toArray, List.getElem_cons_succ, List.getElem_cons_zero, List.setIfInBounds_toArray, List.set_cons_zero, List.set_cons_succ])
  refine wpG_end (by kernel_rfl) ?_
  intro W
   hS
  have hb := hS.2.2
  clear hS
  go_wp2
  all_goals
    go_ret
    refine ⟨ret_int ?_, hb⟩
    rw [HF.out]
    (repeat' split)
    all_goals first | rfl | (exfalso; simp_all; done)

end Go.Proofs.Ythlpceoajhcliaa
end

section
/-
  reed: jobs that are valid, in plain words.
-/
namespace Go.Proofs.Ythlpceoajhcliaa
set_option linter.unusedSimpArgs false
set_option linter.unusedVariables false
open Go.RowKit

theorem within_of {n lo hi : Int} (h : withinB n lo hi = true) : lo ≤ n ∧ n ≤ hi := by unfold withinB at h; simpa using h
theorem chkR_of {x0 x1 lo hi : Int} (h : chkR x0 x1 lo hi = 0) : lo ≤ x0 ∧ x0 ≤ x1 ∧ x1 ≤ hi := by
  unfold chkR at h
  split at h
  · rename_i h1
    have a := within_of h1.1
    have b := within_of h1.2
    split at h
    · omega
    · omega
  · omega
theorem chkAll_of {lo hi : Int} : ∀ {l : List (Int × Int)}, chkAll lo hi l = 0 → ∀ p ∈ l, lo ≤ p.1 ∧ p.1 ≤ p.2 ∧ p.2 ≤ hi := by
  intro l
  induction l with
  | nil => intro _ p hp; cases hp
  | cons q r ih =>
    intro h p hp
    unfold chkAll at h
    split at h
    · rename_i h1; rw [h] at h1; simp at h1
    · rename_i h1
      have h0 : chkR q.1 q.2 lo hi = 0 := by simpa using h1
      rcases List.mem_cons.1 hp with rfl | hp
      · exact chkR_of h0
      · exact ih h p hp

/-- A valid job. -/
structure Jb.good (j : Jb) : Prop where
  p : -60 ≤ j.p0 ∧ j.p0 ≤ j.p1 ∧ j.p1 ≤ 60
  t : 0 ≤ j.t0 ∧ j.t0 ≤ j.t1 ∧ j.t1 ≤ 100
  r : 0 ≤ j.r0 ∧ j.r0 ≤ j.r1 ∧ j.r1 ≤ 100
  u : 0 ≤ j.u0 ∧ j.u0 ≤ j.u1 ∧ j.u1 ≤ 12
  d : 0 ≤ j.d0 ∧ j.d0 ≤ j.d1 ∧ j.d1 ≤ 12
  a : 0 ≤ j.a0 ∧ j.a0 ≤ j.a1 ∧ j.a1 ≤ 12
  b : 0 ≤ j.b0 ∧ j.b0 ≤ j.b1 ∧ j.b1 ≤ 12
  le : 0 ≤ j.le ∧ j.le ≤ 100
  few : j.sh.length ≤ 4
  sh : ∀ p ∈ j.sh, -60 ≤ p.1 ∧ p.1 ≤ p.2 ∧ p.2 ≤ 60
  wi : 0 ≤ j.wi ∧ j.wi ≤ 60
  me : 0 ≤ j.me ∧ j.me ≤ 6
theorem bne_no {n : Int} (h : ¬ (n != 0) = true) : n = 0 := by simpa using h
theorem good_of {j : Jb} (h : checkJ j = 0) : j.good := by
  unfold checkJ at h
  split at h
  · rename_i h1; rw [h] at h1; simp at h1
  rename_i h1
  split at h
  · rename_i h2; rw [h] at h2; simp at h2
  rename_i h2
  split at h
  · rename_i h3; rw [h] at h3; simp at h3
  rename_i h3
  split at h
  · omega
  rename_i h4
  split at h
  · omega
  rename_i h5
  split at h
  · rename_i h6; rw [h] at h6; simp at h6
  rename_i h6
  split at h
  · omega
  rename_i h7
  have e1 := chkR_of (bne_no h1)
  have e2 := chkAll_of (bne_no h2)
  have e3 := chkAll_of (bne_no h3)
  have e6 := chkAll_of (bne_no h6)
  have e4 := within_of (by simpa using h4 : withinB j.le 0 100 = true)
  simp only [not_or, Bool.not_eq_true', Bool.not_eq_false] at h7
  have e7 := within_of h7.1
  have e8 := within_of h7.2
  exact ⟨e1, e2 (j.t0, j.t1) (by simp), e2 (j.r0, j.r1) (by simp), e3 (j.u0, j.u1) (by simp), e3 (j.d0, j.d1) (by simp), e3 (j.a0, j.a1) (by simp), e3 (j.b0, j.b1) (by simp), e4, by omega, e6, e7, e8⟩
theorem Jb.good.ok {j : Jb} (h : j.good) : j.ok := by
  have := h.wi
  exact ⟨by omega, fun p hp => by have := h.sh p hp; omega, h.few⟩
theorem Jb.good.st {j : Jb} (h : j.good) : j.st.upTo 1000 := by
  obtain ⟨h1, h2, h3, h4, h5, h6, h7, h8, h9, h10, h11, h12⟩ := h
  constructor <;> simp only [Jb.st] <;> omega
theorem chkS_of : ∀ {l : List Int}, chkS l = 0 → ∀ k ∈ l, okS k = true := by
  intro l
  induction l with
  | nil => intro _ k hk; cases hk
  | cons q r ih =>
    intro h k hk
    unfold chkS at h
    split at h
    · rename_i h1
      rcases List.mem_cons.1 hk with rfl | hk
      · exact h1
      · exact ih h k hk
    · omega

end Go.Proofs.Ythlpceoajhcliaa
end

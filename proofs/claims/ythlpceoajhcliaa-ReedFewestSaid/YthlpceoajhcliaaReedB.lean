/-
  reed: ranges, and a tongue under a file.
-/
import Derived.Test.YthlpceoajhcliaaReedA
import Derived.Test.YthlpceoajhcliaaReg
namespace Go.Proofs.Ythlpceoajhcliaa
set_option linter.unusedSimpArgs false
set_option linter.unusedVariables false
open Go.RowKit

set_option maxHeartbeats 400000 in
theorem plus_any (a b c d : Int) (w : World) (ha : -1000000 ≤ a ∧ a ≤ 1000000) (hb : -1000000 ≤ b ∧ b ≤ 1000000) (hc : -1000000 ≤ c ∧ c ≤ 1000000) (hd : -1000000 ≤ d ∧ d ≤ 1000000) :
    Calls Try.prog 96 #[R2 a b, R2 c d] w fun e w' => e = .returned (R2 (a + c) (b + d)) ∧ Below w.heap.size w w' := by
  go_enter Try.func96, Try.ntmps96
  go_wp2
  go_returns; refine ⟨rfl, ?_⟩; (repeat' (first | (with_reducible exact Below.refl _ _) | (with_reducible refine Below.alloc ?_ ?_ _) | (with_reducible refine Below.setCell ?_ ?_ _) | (with_reducible refine Below.drew ?_) | ((with_reducible refine Below.trans ?_ (Below.mono (by assumption) ?_))) | go_size))

set_option maxHeartbeats 400000 in
theorem less_any (a b c d : Int) (w : World) (ha : -1000000 ≤ a ∧ a ≤ 1000000) (hb : -1000000 ≤ b ∧ b ≤ 1000000) (hc : -1000000 ≤ c ∧ c ≤ 1000000) (hd : -1000000 ≤ d ∧ d ≤ 1000000) :
    Calls Try.prog 112 #[R2 a b, R2 c d] w fun e w' => e = .returned (R2 (a - d) (b - c)) ∧ Below w.heap.size w w' := by
  go_enter Try.func112, Try.ntmps112
  go_wp2
  go_returns; refine ⟨rfl, ?_⟩; (repeat' (first | (with_reducible exact Below.refl _ _) | (with_reducible refine Below.alloc ?_ ?_ _) | (with_reducible refine Below.setCell ?_ ?_ _) | (with_reducible refine Below.drew ?_) | ((with_reducible refine Below.trans ?_ (Below.mono (by assumption) ?_))) | go_size))

def hasB (a b c d : Int) : Bool := decide (a ≤ c ∧ d ≤ b)
theorem hasB_no {a b c d : Int} (h : ¬ a ≤ c) : hasB a b c d = false := by unfold hasB; simp; intro; omega
theorem hasB_yes {a b c d : Int} (h : a ≤ c) : hasB a b c d = decide (d ≤ b) := by unfold hasB; simp [h]

set_option maxHeartbeats 400000 in
theorem has_any (a b c d : Int) (w : World) :
    Calls Try.prog 106 #[R2 a b, R2 c d] w fun e w' => e = .returned (.bool (hasB a b c d)) ∧ Below w.heap.size w w' := by
  by_cases h1 : a ≤ c
  · rw [hasB_yes h1]
    go_enter Try.func106, Try.ntmps106
    go_wp2
    go_returns; refine ⟨rfl, ?_⟩; (repeat' (first | (with_reducible exact Below.refl _ _) | (with_reducible refine Below.alloc ?_ ?_ _) | (with_reducible refine Below.setCell ?_ ?_ _) | (with_reducible refine Below.drew ?_) | ((with_reducible refine Below.trans ?_ (Below.mono (by assumption) ?_))) | go_size))
  · have h2 : decide (a ≤ c) = false := by simpa using h1
    rw [hasB_no h1]
    go_enter Try.func106, Try.ntmps106
    go_wp2
    go_returns; refine ⟨rfl, ?_⟩; (repeat' (first | (with_reducible exact Below.refl _ _) | (with_reducible refine Below.alloc ?_ ?_ _) | (with_reducible refine Below.setCell ?_ ?_ _) | (with_reducible refine Below.drew ?_) | ((with_reducible refine Below.trans ?_ (Below.mono (by assumption) ?_))) | go_size))

/-- A tongue under a file, as data. -/
structure St where
  p0 : Int
  p1 : Int
  t0 : Int
  t1 : Int
  r0 : Int
  r1 : Int
  u0 : Int
  u1 : Int
  d0 : Int
  d1 : Int
  a0 : Int
  a1 : Int
  b0 : Int
  b1 : Int
  le : Int
abbrev stV (s : St) : Value := .agg #[.int .i64 s.p0, .int .i64 s.p1, .int .i64 s.t0, .int .i64 s.t1, .int .i64 s.r0, .int .i64 s.r1, .int .i64 s.u0, .int .i64 s.u1, .int .i64 s.d0, .int .i64 s.d1, .int .i64 s.a0, .int .i64 s.a1, .int .i64 s.b0, .int .i64 s.b1, .int .i64 s.le]
def bd (n : Int) : Prop := -1000000 ≤ n ∧ n ≤ 1000000
structure St.ok (s : St) : Prop where
  p0 : -1000000 ≤ s.p0 ∧ s.p0 ≤ 1000000
  p1 : -1000000 ≤ s.p1 ∧ s.p1 ≤ 1000000
  t0 : -1000000 ≤ s.t0 ∧ s.t0 ≤ 1000000
  t1 : -1000000 ≤ s.t1 ∧ s.t1 ≤ 1000000
  r0 : -1000000 ≤ s.r0 ∧ s.r0 ≤ 1000000
  r1 : -1000000 ≤ s.r1 ∧ s.r1 ≤ 1000000
  u0 : -1000000 ≤ s.u0 ∧ s.u0 ≤ 1000000
  u1 : -1000000 ≤ s.u1 ∧ s.u1 ≤ 1000000
  d0 : -1000000 ≤ s.d0 ∧ s.d0 ≤ 1000000
  d1 : -1000000 ≤ s.d1 ∧ s.d1 ≤ 1000000
  a0 : -1000000 ≤ s.a0 ∧ s.a0 ≤ 1000000
  a1 : -1000000 ≤ s.a1 ∧ s.a1 ≤ 1000000
  b0 : -1000000 ≤ s.b0 ∧ s.b0 ≤ 1000000
  b1 : -1000000 ≤ s.b1 ∧ s.b1 ≤ 1000000

def St.tip (s : St) : St := { s with p0 := s.p0 + s.u0, p1 := s.p1 + s.u1, t0 := s.t0 - s.a1, t1 := s.t1 - s.a0 }
def St.root (s : St) : St := { s with p0 := s.p0 - s.d1, p1 := s.p1 - s.d0, r0 := s.r0 - s.b1, r1 := s.r1 - s.b0 }


set_option maxHeartbeats 1000000 in
theorem filed_tip (s : St) (w : World) (h : s.ok) :
    Calls Try.prog 104 #[stV s, .int .i64 1] w fun e w' => e = .returned (stV s.tip) ∧ Below w.heap.size w w' := by
  obtain ⟨h1, h2, h3, h4, h5, h6, h7, h8, h9, h10, h11, h12, h13, h14⟩ := h
  have q0 := (Bk.new w 92 #[.int .i64 s.p0, .int .i64 s.p1, .int .i64 s.t0, .int .i64 s.t1, .int .i64 s.r0, .int .i64 s.r1, .int .i64 s.u0, .int .i64 s.u1, .int .i64 s.d0, .int .i64 s.d1, .int .i64 s.a0, .int .i64 s.a1, .int .i64 s.b0, .int .i64 s.b1, .int .i64 s.le]).alloc (.cells #[.int .i64 0, .int .i64 0, .int .i64 0, .int .i64 0, .int .i64 0, .int .i64 0, .int .i64 0, .int .i64 0, .int .i64 0, .int .i64 0, .int .i64 0, .int .i64 0, .int .i64 0, .int .i64 0, .int .i64 0] 92)
  have q1 := Bk.new (w.alloc (.cells #[.int .i64 s.p0, .int .i64 s.p1, .int .i64 s.t0, .int .i64 s.t1, .int .i64 s.r0, .int .i64 s.r1, .int .i64 s.u0, .int .i64 s.u1, .int .i64 s.d0, .int .i64 s.d1, .int .i64 s.a0, .int .i64 s.a1, .int .i64 s.b0, .int .i64 s.b1, .int .i64 s.le] 92)) 92 #[.int .i64 0, .int .i64 0, .int .i64 0, .int .i64 0, .int .i64 0, .int .i64 0, .int .i64 0, .int .i64 0, .int .i64 0, .int .i64 0, .int .i64 0, .int .i64 0, .int .i64 0, .int .i64 0, .int .i64 0]
  rw [World.size_alloc] at q1
  go_enter Try.func104, Try.ntmps104
  go_wp2
  refine wp_region_G (fun L W => (L.getD 16 true = false → Bk W w.heap.size #[.int .i64 s.p0, .int .i64 s.p1, .int .i64 s.t0, .int .i64 s.t1, .int .i64 s.r0, .int .i64 s.r1, .int .i64 s.u0, .int .i64 s.u1, .int .i64 s.d0, .int .i64 s.d1, .int .i64 s.a0, .int .i64 s.a1, .int .i64 s.b0, .int .i64 s.b1, .int .i64 s.le]) ∧ (L.getD 16 true = true → L.getD 19 true = false → Bk W w.heap.size #[.int .i64 (s.p0 + s.u0), .int .i64 (s.p1 + s.u1), .int .i64 s.t0, .int .i64 s.t1, .int .i64 s.r0, .int .i64 s.r1, .int .i64 s.u0, .int .i64 s.u1, .int .i64 s.d0, .int .i64 s.d1, .int .i64 s.a0, .int .i64 s.a1, .int .i64 s.b0, .int .i64 s.b1, .int .i64 s.le]) ∧ (L.getD 19 true = true → Bk W w.heap.size #[.int .i64 (s.p0 + s.u0), .int .i64 (s.p1 + s.u1), .int .i64 (s.t0 - s.a1), .int .i64 (s.t1 - s.a0), .int .i64 s.r0, .int .i64 s.r1, .int .i64 s.u0, .int .i64 s.u1, .int .i64 s.d0, .int .i64 s.d1, .int .i64 s.a0, .int .i64 s.a1, .int .i64 s.b0, .int .i64 s.b1, .int .i64 s.le]) ∧ Bk W (w.heap.size + 1) #[.int .i64 0, .int .i64 0, .int .i64 0, .int .i64 0, .int .i64 0, .int .i64 0, .int .i64 0, .int .i64 0, .int .i64 0, .int .i64 0, .int .i64 0, .int .i64 0, .int .i64 0, .int .i64 0, .int .i64 0] ∧ Below w.heap.size w W) 20 (by kernel_rfl) (by kernel_rfl) ?s0 ?r0
  case s0 => (exact ⟨fun _ => q0.drew, fun h => (no_of h (by kernel_rfl)).elim, fun h => (no_of h (by kernel_rfl)).elim, q1.drew, by (repeat' (first | (with_reducible exact Below.refl _ _) | (with_reducible refine Below.alloc ?_ ?_ _) | (with_reducible refine Below.setCell ?_ ?_ _) | (with_reducible refine Below.drew ?_) | ((with_reducible refine Below.trans ?_ (Below.mono (by assumption) ?_))) | go_size))⟩)
  intro W0
  refine wpG_take (i := 0) (v := ?v1) rfl (by kernel_rfl) (by intro L w; simp only [getD_set_ne true (show (0 : Nat) ≠ 16 from by decide), getD_set_ne true (show (0 : Nat) ≠ 19 from by decide)]) (fun _ _ _ h => h) (Or.inl ⟨by rfl, ?y1⟩) ?r1
  case y1 => (intro w' hy; obtain ⟨L, hD, hl, hS⟩ := hy; clear hD hl hS; go_simp; (try with_reducible rfl))
  (try simp only [Act.put, List.getElem_toArray, List.getElem_cons_succ, List.getElem_cons_zero, List.setIfInBounds_toArray, List.set_cons_zero, List.set_cons_succ])
  refine wpG_take (i := 1) (v := ?v2) rfl (by kernel_rfl) (by intro L w; simp only [getD_set_ne true (show (1 : Nat) ≠ 16 from by decide), getD_set_ne true (show (1 : Nat) ≠ 19 from by decide)]) (fun _ _ _ h => h) (Or.inl ⟨by rfl, ?y2⟩) ?r2
  case y2 => (intro w' hy; obtain ⟨L, hD, hl, hS⟩ := hy; clear hD hl hS; go_simp; (try with_reducible rfl))
  (try simp only [Act.put, List.getElem_toArray, List.getElem_cons_succ, List.getElem_cons_zero, List.setIfInBounds_toArray, List.set_cons_zero, List.set_cons_succ])
  refine wpG_take (i := 2) (v := ?v3) rfl (by kernel_rfl) (by intro L w; simp only [getD_set_ne true (show (2 : Nat) ≠ 16 from by decide), getD_set_ne true (show (2 : Nat) ≠ 19 from by decide)]) (fun _ _ _ h => h) (Or.inl ⟨by rfl, ?y3⟩) ?r3
  case y3 => (intro w' hy; obtain ⟨L, hD, hl, hS⟩ := hy; have qc := (hS.1 (hD.wait (by kernel_rfl) hl)).cell; clear hS hD hl; go_simp; (try with_reducible rfl))
  (try simp only [Act.put, List.getElem_toArray, List.getElem_cons_succ, List.getElem_cons_zero, List.setIfInBounds_toArray, List.set_cons_zero, List.set_cons_succ])
  refine wpG_take (i := 3) (v := ?v4) rfl (by kernel_rfl) (by intro L w; simp only [getD_set_ne true (show (3 : Nat) ≠ 16 from by decide), getD_set_ne true (show (3 : Nat) ≠ 19 from by decide)]) (fun _ _ _ h => h) (Or.inl ⟨by rfl, ?y4⟩) ?r4
  case y4 => (intro w' hy; obtain ⟨L, hD, hl, hS⟩ := hy; clear hD hl hS; go_simp; (try with_reducible rfl))
  (try simp only [Act.put, List.getElem_toArray, List.getElem_cons_succ, List.getElem_cons_zero, List.setIfInBounds_toArray, List.set_cons_zero, List.set_cons_succ])
  refine wpG_take (i := 4) (v := ?v5) rfl (by kernel_rfl) (by intro L w; simp only [getD_set_ne true (show (4 : Nat) ≠ 16 from by decide), getD_set_ne true (show (4 : Nat) ≠ 19 from by decide)]) (fun _ _ _ h => h) (Or.inl ⟨by rfl, ?y5⟩) ?r5
  case y5 => (intro w' hy; obtain ⟨L, hD, hl, hS⟩ := hy; clear hD hl hS; go_simp; (try with_reducible rfl))
  (try simp only [Act.put, List.getElem_toArray, List.getElem_cons_succ, List.getElem_cons_zero, List.setIfInBounds_toArray, List.set_cons_zero, List.set_cons_succ])
  refine wpG_take (i := 5) (v := ?v6) rfl (by kernel_rfl) (by intro L w; simp only [getD_set_ne true (show (5 : Nat) ≠ 16 from by decide), getD_set_ne true (show (5 : Nat) ≠ 19 from by decide)]) (fun _ _ _ h => h) (Or.inl ⟨by rfl, ?y6⟩) ?r6
  case y6 => (intro w' hy; obtain ⟨L, hD, hl, hS⟩ := hy; have qc := (hS.1 (hD.wait (by kernel_rfl) hl)).cell; clear hS hD hl; go_simp; (try with_reducible rfl))
  (try simp only [Act.put, List.getElem_toArray, List.getElem_cons_succ, List.getElem_cons_zero, List.setIfInBounds_toArray, List.set_cons_zero, List.set_cons_succ])
  refine wpG_take (i := 7) (v := ?v7) rfl (by kernel_rfl) (by intro L w; simp only [getD_set_ne true (show (7 : Nat) ≠ 16 from by decide), getD_set_ne true (show (7 : Nat) ≠ 19 from by decide)]) (fun _ _ _ h => h) (Or.inl ⟨by rfl, ?y7⟩) ?r7
  case y7 => (intro w' hy; obtain ⟨L, hD, hl, hS⟩ := hy; clear hD hl hS; go_simp; (try with_reducible rfl))
  (try simp only [Act.put, List.getElem_toArray, List.getElem_cons_succ, List.getElem_cons_zero, List.setIfInBounds_toArray, List.set_cons_zero, List.set_cons_succ])
  refine wpG_take (i := 8) (v := ?v8) rfl (by kernel_rfl) (by intro L w; simp only [getD_set_ne true (show (8 : Nat) ≠ 16 from by decide), getD_set_ne true (show (8 : Nat) ≠ 19 from by decide)]) (fun _ _ _ h => h) (Or.inl ⟨by rfl, ?y8⟩) ?r8
  case y8 => (intro w' hy; obtain ⟨L, hD, hl, hS⟩ := hy; clear hD hl hS; go_simp; (try with_reducible rfl))
  (try simp only [Act.put, List.getElem_toArray, List.getElem_cons_succ, List.getElem_cons_zero, List.setIfInBounds_toArray, List.set_cons_zero, List.set_cons_succ])
  refine wpG_take (i := 9) (v := ?v9) rfl (by kernel_rfl) (by intro L w; simp only [getD_set_ne true (show (9 : Nat) ≠ 16 from by decide), getD_set_ne true (show (9 : Nat) ≠ 19 from by decide)]) (fun _ _ _ h => h) (Or.inl ⟨by rfl, ?y9⟩) ?r9
  case y9 => (intro w' hy; obtain ⟨L, hD, hl, hS⟩ := hy; have qc := (hS.1 (hD.wait (by kernel_rfl) hl)).cell; clear hS hD hl; go_simp; (try with_reducible rfl))
  (try simp only [Act.put, List.getElem_toArray, List.getElem_cons_succ, List.getElem_cons_zero, List.setIfInBounds_toArray, List.set_cons_zero, List.set_cons_succ])
  refine wpG_take (i := 10) (v := ?v10) rfl (by kernel_rfl) (by intro L w; simp only [getD_set_ne true (show (10 : Nat) ≠ 16 from by decide), getD_set_ne true (show (10 : Nat) ≠ 19 from by decide)]) (fun _ _ _ h => h) (Or.inl ⟨by rfl, ?y10⟩) ?r10
  case y10 => (intro w' hy; obtain ⟨L, hD, hl, hS⟩ := hy; clear hD hl hS; go_simp; (try with_reducible rfl))
  (try simp only [Act.put, List.getElem_toArray, List.getElem_cons_succ, List.getElem_cons_zero, List.setIfInBounds_toArray, List.set_cons_zero, List.set_cons_succ])
  refine wpG_take (i := 11) (v := ?v11) rfl (by kernel_rfl) (by intro L w; simp only [getD_set_ne true (show (11 : Nat) ≠ 16 from by decide), getD_set_ne true (show (11 : Nat) ≠ 19 from by decide)]) (fun _ _ _ h => h) (Or.inl ⟨by rfl, ?y11⟩) ?r11
  case y11 => (intro w' hy; obtain ⟨L, hD, hl, hS⟩ := hy; clear hD hl hS; go_simp; (try with_reducible rfl))
  (try simp only [Act.put, List.getElem_toArray, List.getElem_cons_succ, List.getElem_cons_zero, List.setIfInBounds_toArray, List.set_cons_zero, List.set_cons_succ])
  refine wpG_take (i := 12) (v := ?v12) rfl (by kernel_rfl) (by intro L w; simp only [getD_set_ne true (show (12 : Nat) ≠ 16 from by decide), getD_set_ne true (show (12 : Nat) ≠ 19 from by decide)]) (fun _ _ _ h => h) (Or.inl ⟨by rfl, ?y12⟩) ?r12
  case y12 => (intro w' hy; obtain ⟨L, hD, hl, hS⟩ := hy; have qc := (hS.1 (hD.wait (by kernel_rfl) hl)).cell; clear hS hD hl; go_simp; (try with_reducible rfl))
  (try simp only [Act.put, List.getElem_toArray, List.getElem_cons_succ, List.getElem_cons_zero, List.setIfInBounds_toArray, List.set_cons_zero, List.set_cons_succ])
  refine wpG_step (i := 6) (by kernel_rfl) rfl (by rfl) ?r13
  intro hS K hK
  (have hq := hS.1 (by kernel_rfl); have hz := hS.2.2.2.1; have hb := hS.2.2.2.2; clear hS; go_simp; refine (plus_any _ _ _ _ _ h1 h2 h7 h8).mono ?_; rintro e w1 ⟨rfl, hb1⟩; refine hK.out _ _ ⟨fun _ => hq.below hb1, fun h => (no_of h (by kernel_rfl)).elim, fun h => (no_of h (by kernel_rfl)).elim, hz.below hb1, hb.trans (hb1.mono hb.size)⟩ ?_; clear hq hz hb hb1)
  clear hK K; intro W13
  (try simp only [Act.put, List.getElem_toArray, List.getElem_cons_succ, List.getElem_cons_zero, List.setIfInBounds_toArray, List.set_cons_zero, List.set_cons_succ])
  refine wpG_take (i := 14) (v := ?v14) rfl (by kernel_rfl) (by intro L w; simp only [getD_set_ne true (show (14 : Nat) ≠ 16 from by decide), getD_set_ne true (show (14 : Nat) ≠ 19 from by decide)]) (fun _ _ _ h => h) (Or.inl ⟨by rfl, ?y14⟩) ?r14
  case y14 => (intro w' hy; obtain ⟨L, hD, hl, hS⟩ := hy; clear hD hl hS; go_simp; (try with_reducible rfl))
  (try simp only [Act.put, List.getElem_toArray, List.getElem_cons_succ, List.getElem_cons_zero, List.setIfInBounds_toArray, List.set_cons_zero, List.set_cons_succ])
  refine wpG_take (i := 15) (v := ?v15) rfl (by kernel_rfl) (by intro L w; simp only [getD_set_ne true (show (15 : Nat) ≠ 16 from by decide), getD_set_ne true (show (15 : Nat) ≠ 19 from by decide)]) (fun _ _ _ h => h) (Or.inl ⟨by rfl, ?y15⟩) ?r15
  case y15 => (intro w' hy; obtain ⟨L, hD, hl, hS⟩ := hy; clear hD hl hS; go_simp; (try with_reducible rfl))
  (try simp only [Act.put, List.getElem_toArray, List.getElem_cons_succ, List.getElem_cons_zero, List.setIfInBounds_toArray, List.set_cons_zero, List.set_cons_succ])
  refine wpG_step (i := 13) (by kernel_rfl) rfl (by rfl) ?r16
  intro hS K hK
  (have hq := hS.1 (by kernel_rfl); have hz := hS.2.2.2.1; have hb := hS.2.2.2.2; clear hS; go_simp; refine (less_any _ _ _ _ _ h3 h4 h11 h12).mono ?_; rintro e w2 ⟨rfl, hb1⟩; refine hK.out _ _ ⟨fun _ => hq.below hb1, fun h => (no_of h (by kernel_rfl)).elim, fun h => (no_of h (by kernel_rfl)).elim, hz.below hb1, hb.trans (hb1.mono hb.size)⟩ ?_; clear hq hz hb hb1)
  clear hK K; intro W16
  (try simp only [Act.put, List.getElem_toArray, List.getElem_cons_succ, List.getElem_cons_zero, List.setIfInBounds_toArray, List.set_cons_zero, List.set_cons_succ])
  refine wpG_step (i := 16) (by kernel_rfl) rfl (by rfl) ?r17
  intro hS K hK
  (have hq := hS.1 (by kernel_rfl); have qc := hq.cell; have qf := hq.frozen; have hz := hS.2.2.2.1; have hb := hS.2.2.2.2; clear hS; go_simp; refine hK.out _ _ ⟨fun h => (no_of (by kernel_rfl) h).elim, fun _ _ => (hq.put 0 _ (by simp)).put 1 _ (by simp), fun h => (no_of h (by kernel_rfl)).elim, (hz.far (by simp) _).far (by simp) _, (hb.setCell (Nat.le_refl _) _).setCell (Nat.le_refl _) _⟩ ?_; clear qc qf hz hb hq)
  clear hK K; intro W17
  (try simp only [Act.put, List.getElem_toArray, List.getElem_cons_succ, List.getElem_cons_zero, List.setIfInBounds_toArray, List.set_cons_zero, List.set_cons_succ])
  refine wpG_take (i := 17) (v := ?v18) rfl (by kernel_rfl) (by intro L w; simp only [getD_set_ne true (show (17 : Nat) ≠ 16 from by decide), getD_set_ne true (show (17 : Nat) ≠ 19 from by decide)]) (fun _ _ _ h => h) (Or.inl ⟨by rfl, ?y18⟩) ?r18
  case y18 => (intro w' hy; obtain ⟨L, hD, hl, hS⟩ := hy; clear hD hl hS; go_simp; (try with_reducible rfl))
  (try simp only [Act.put, List.getElem_toArray, List.getElem_cons_succ, List.getElem_cons_zero, List.setIfInBounds_toArray, List.set_cons_zero, List.set_cons_succ])
  refine wpG_take (i := 18) (v := ?v19) rfl (by kernel_rfl) (by intro L w; simp only [getD_set_ne true (show (18 : Nat) ≠ 16 from by decide), getD_set_ne true (show (18 : Nat) ≠ 19 from by decide)]) (fun _ _ _ h => h) (Or.inl ⟨by rfl, ?y19⟩) ?r19
  case y19 => (intro w' hy; obtain ⟨L, hD, hl, hS⟩ := hy; clear hD hl hS; go_simp; (try with_reducible rfl))
  (try simp only [Act.put, List.getElem_toArray, List.getElem_cons_succ, List.getElem_cons_zero, List.setIfInBounds_toArray, List.set_cons_zero, List.set_cons_succ])
  refine wpG_step (i := 19) (by kernel_rfl) rfl (by rfl) ?r20
  intro hS K hK
  (have hq := hS.2.1 (by kernel_rfl) (by kernel_rfl); have qc := hq.cell; have qf := hq.frozen; have hz := hS.2.2.2.1; have hb := hS.2.2.2.2; clear hS; go_simp; refine hK.out _ _ ⟨fun h => (no_of (by kernel_rfl) h).elim, fun _ h => (no_of (by kernel_rfl) h).elim, fun _ => (hq.put 2 _ (by simp)).put 3 _ (by simp), (hz.far (by simp) _).far (by simp) _, (hb.setCell (Nat.le_refl _) _).setCell (Nat.le_refl _) _⟩ ?_; clear qc qf hz hb hq)
  clear hK K; intro W20
  (try simp only [Act.put, List.getElem_toArray, List.getElem_cons_succ, List.getElem_cons_zero, List.setIfInBounds_toArray, List.set_cons_zero, List.set_cons_succ])
  refine wpG_end (by kernel_rfl) ?_
  intro W
   hS
  have hq := hS.2.2.1 (by kernel_rfl)
  have hz := hS.2.2.2.1
  have hb := hS.2.2.2.2
  clear hS q0 q1
  go_wp2_with (first
    | (refine wpList_load_blk (by rfl) 92 (.tmp 2) (by rfl) _ (by rfl) _ hq _ Try.underlying92 (by rfl) (by kernel_rfl) ?_)
    | (refine wpList_store_blk (by rfl) 92 (.tmp 4) (.tmp 46) (by rfl) _ _ _ (by rfl) (by rfl) hz (by rfl) (by kernel_rfl) (by simp [Value.oneCell']) ?_; intro w3 hz3 ho3))
  refine ret_blk 4 92 (by rfl) (by rfl) _ (by rfl) _ hz3 _ Try.underlying92 (by rfl) (by kernel_rfl) ?_
  exact ⟨rfl, bl_oth hb ho3 (by omega)⟩

set_option maxHeartbeats 1000000 in
theorem filed_root (s : St) (w : World) (h : s.ok) :
    Calls Try.prog 104 #[stV s, .int .i64 2] w fun e w' => e = .returned (stV s.root) ∧ Below w.heap.size w w' := by
  obtain ⟨h1, h2, h3, h4, h5, h6, h7, h8, h9, h10, h11, h12, h13, h14⟩ := h
  have q0 := (Bk.new w 92 #[.int .i64 s.p0, .int .i64 s.p1, .int .i64 s.t0, .int .i64 s.t1, .int .i64 s.r0, .int .i64 s.r1, .int .i64 s.u0, .int .i64 s.u1, .int .i64 s.d0, .int .i64 s.d1, .int .i64 s.a0, .int .i64 s.a1, .int .i64 s.b0, .int .i64 s.b1, .int .i64 s.le]).alloc (.cells #[.int .i64 0, .int .i64 0, .int .i64 0, .int .i64 0, .int .i64 0, .int .i64 0, .int .i64 0, .int .i64 0, .int .i64 0, .int .i64 0, .int .i64 0, .int .i64 0, .int .i64 0, .int .i64 0, .int .i64 0] 92)
  have q1 := Bk.new (w.alloc (.cells #[.int .i64 s.p0, .int .i64 s.p1, .int .i64 s.t0, .int .i64 s.t1, .int .i64 s.r0, .int .i64 s.r1, .int .i64 s.u0, .int .i64 s.u1, .int .i64 s.d0, .int .i64 s.d1, .int .i64 s.a0, .int .i64 s.a1, .int .i64 s.b0, .int .i64 s.b1, .int .i64 s.le] 92)) 92 #[.int .i64 0, .int .i64 0, .int .i64 0, .int .i64 0, .int .i64 0, .int .i64 0, .int .i64 0, .int .i64 0, .int .i64 0, .int .i64 0, .int .i64 0, .int .i64 0, .int .i64 0, .int .i64 0, .int .i64 0]
  rw [World.size_alloc] at q1
  go_enter Try.func104, Try.ntmps104
  go_wp2
  refine wp_region_G (fun L W => (L.getD 16 true = false → Bk W w.heap.size #[.int .i64 s.p0, .int .i64 s.p1, .int .i64 s.t0, .int .i64 s.t1, .int .i64 s.r0, .int .i64 s.r1, .int .i64 s.u0, .int .i64 s.u1, .int .i64 s.d0, .int .i64 s.d1, .int .i64 s.a0, .int .i64 s.a1, .int .i64 s.b0, .int .i64 s.b1, .int .i64 s.le]) ∧ (L.getD 16 true = true → L.getD 19 true = false → Bk W w.heap.size #[.int .i64 (s.p0 - s.d1), .int .i64 (s.p1 - s.d0), .int .i64 s.t0, .int .i64 s.t1, .int .i64 s.r0, .int .i64 s.r1, .int .i64 s.u0, .int .i64 s.u1, .int .i64 s.d0, .int .i64 s.d1, .int .i64 s.a0, .int .i64 s.a1, .int .i64 s.b0, .int .i64 s.b1, .int .i64 s.le]) ∧ (L.getD 19 true = true → Bk W w.heap.size #[.int .i64 (s.p0 - s.d1), .int .i64 (s.p1 - s.d0), .int .i64 s.t0, .int .i64 s.t1, .int .i64 (s.r0 - s.b1), .int .i64 (s.r1 - s.b0), .int .i64 s.u0, .int .i64 s.u1, .int .i64 s.d0, .int .i64 s.d1, .int .i64 s.a0, .int .i64 s.a1, .int .i64 s.b0, .int .i64 s.b1, .int .i64 s.le]) ∧ Bk W (w.heap.size + 1) #[.int .i64 0, .int .i64 0, .int .i64 0, .int .i64 0, .int .i64 0, .int .i64 0, .int .i64 0, .int .i64 0, .int .i64 0, .int .i64 0, .int .i64 0, .int .i64 0, .int .i64 0, .int .i64 0, .int .i64 0] ∧ Below w.heap.size w W) 20 (by kernel_rfl) (by kernel_rfl) ?s0 ?r0
  case s0 => (exact ⟨fun _ => q0.drew, fun h => (no_of h (by kernel_rfl)).elim, fun h => (no_of h (by kernel_rfl)).elim, q1.drew, by (repeat' (first | (with_reducible exact Below.refl _ _) | (with_reducible refine Below.alloc ?_ ?_ _) | (with_reducible refine Below.setCell ?_ ?_ _) | (with_reducible refine Below.drew ?_) | ((with_reducible refine Below.trans ?_ (Below.mono (by assumption) ?_))) | go_size))⟩)
  intro W0
  refine wpG_take (i := 0) (v := ?v1) rfl (by kernel_rfl) (by intro L w; simp only [getD_set_ne true (show (0 : Nat) ≠ 16 from by decide), getD_set_ne true (show (0 : Nat) ≠ 19 from by decide)]) (fun _ _ _ h => h) (Or.inl ⟨by rfl, ?y1⟩) ?r1
  case y1 => (intro w' hy; obtain ⟨L, hD, hl, hS⟩ := hy; clear hD hl hS; go_simp; (try with_reducible rfl))
  (try simp only [Act.put, List.getElem_toArray, List.getElem_cons_succ, List.getElem_cons_zero, List.setIfInBounds_toArray, List.set_cons_zero, List.set_cons_succ])
  refine wpG_take (i := 1) (v := ?v2) rfl (by kernel_rfl) (by intro L w; simp only [getD_set_ne true (show (1 : Nat) ≠ 16 from by decide), getD_set_ne true (show (1 : Nat) ≠ 19 from by decide)]) (fun _ _ _ h => h) (Or.inl ⟨by rfl, ?y2⟩) ?r2
  case y2 => (intro w' hy; obtain ⟨L, hD, hl, hS⟩ := hy; clear hD hl hS; go_simp; (try with_reducible rfl))
  (try simp only [Act.put, List.getElem_toArray, List.getElem_cons_succ, List.getElem_cons_zero, List.setIfInBounds_toArray, List.set_cons_zero, List.set_cons_succ])
  refine wpG_take (i := 2) (v := ?v3) rfl (by kernel_rfl) (by intro L w; simp only [getD_set_ne true (show (2 : Nat) ≠ 16 from by decide), getD_set_ne true (show (2 : Nat) ≠ 19 from by decide)]) (fun _ _ _ h => h) (Or.inl ⟨by rfl, ?y3⟩) ?r3
  case y3 => (intro w' hy; obtain ⟨L, hD, hl, hS⟩ := hy; have qc := (hS.1 (hD.wait (by kernel_rfl) hl)).cell; clear hS hD hl; go_simp; (try with_reducible rfl))
  (try simp only [Act.put, List.getElem_toArray, List.getElem_cons_succ, List.getElem_cons_zero, List.setIfInBounds_toArray, List.set_cons_zero, List.set_cons_succ])
  refine wpG_take (i := 3) (v := ?v4) rfl (by kernel_rfl) (by intro L w; simp only [getD_set_ne true (show (3 : Nat) ≠ 16 from by decide), getD_set_ne true (show (3 : Nat) ≠ 19 from by decide)]) (fun _ _ _ h => h) (Or.inl ⟨by rfl, ?y4⟩) ?r4
  case y4 => (intro w' hy; obtain ⟨L, hD, hl, hS⟩ := hy; clear hD hl hS; go_simp; (try with_reducible rfl))
  (try simp only [Act.put, List.getElem_toArray, List.getElem_cons_succ, List.getElem_cons_zero, List.setIfInBounds_toArray, List.set_cons_zero, List.set_cons_succ])
  refine wpG_take (i := 4) (v := ?v5) rfl (by kernel_rfl) (by intro L w; simp only [getD_set_ne true (show (4 : Nat) ≠ 16 from by decide), getD_set_ne true (show (4 : Nat) ≠ 19 from by decide)]) (fun _ _ _ h => h) (Or.inl ⟨by rfl, ?y5⟩) ?r5
  case y5 => (intro w' hy; obtain ⟨L, hD, hl, hS⟩ := hy; clear hD hl hS; go_simp; (try with_reducible rfl))
  (try simp only [Act.put, List.getElem_toArray, List.getElem_cons_succ, List.getElem_cons_zero, List.setIfInBounds_toArray, List.set_cons_zero, List.set_cons_succ])
  refine wpG_take (i := 5) (v := ?v6) rfl (by kernel_rfl) (by intro L w; simp only [getD_set_ne true (show (5 : Nat) ≠ 16 from by decide), getD_set_ne true (show (5 : Nat) ≠ 19 from by decide)]) (fun _ _ _ h => h) (Or.inl ⟨by rfl, ?y6⟩) ?r6
  case y6 => (intro w' hy; obtain ⟨L, hD, hl, hS⟩ := hy; have qc := (hS.1 (hD.wait (by kernel_rfl) hl)).cell; clear hS hD hl; go_simp; (try with_reducible rfl))
  (try simp only [Act.put, List.getElem_toArray, List.getElem_cons_succ, List.getElem_cons_zero, List.setIfInBounds_toArray, List.set_cons_zero, List.set_cons_succ])
  refine wpG_take (i := 7) (v := ?v7) rfl (by kernel_rfl) (by intro L w; simp only [getD_set_ne true (show (7 : Nat) ≠ 16 from by decide), getD_set_ne true (show (7 : Nat) ≠ 19 from by decide)]) (fun _ _ _ h => h) (Or.inl ⟨by rfl, ?y7⟩) ?r7
  case y7 => (intro w' hy; obtain ⟨L, hD, hl, hS⟩ := hy; clear hD hl hS; go_simp; (try with_reducible rfl))
  (try simp only [Act.put, List.getElem_toArray, List.getElem_cons_succ, List.getElem_cons_zero, List.setIfInBounds_toArray, List.set_cons_zero, List.set_cons_succ])
  refine wpG_take (i := 8) (v := ?v8) rfl (by kernel_rfl) (by intro L w; simp only [getD_set_ne true (show (8 : Nat) ≠ 16 from by decide), getD_set_ne true (show (8 : Nat) ≠ 19 from by decide)]) (fun _ _ _ h => h) (Or.inl ⟨by rfl, ?y8⟩) ?r8
  case y8 => (intro w' hy; obtain ⟨L, hD, hl, hS⟩ := hy; clear hD hl hS; go_simp; (try with_reducible rfl))
  (try simp only [Act.put, List.getElem_toArray, List.getElem_cons_succ, List.getElem_cons_zero, List.setIfInBounds_toArray, List.set_cons_zero, List.set_cons_succ])
  refine wpG_take (i := 9) (v := ?v9) rfl (by kernel_rfl) (by intro L w; simp only [getD_set_ne true (show (9 : Nat) ≠ 16 from by decide), getD_set_ne true (show (9 : Nat) ≠ 19 from by decide)]) (fun _ _ _ h => h) (Or.inl ⟨by rfl, ?y9⟩) ?r9
  case y9 => (intro w' hy; obtain ⟨L, hD, hl, hS⟩ := hy; have qc := (hS.1 (hD.wait (by kernel_rfl) hl)).cell; clear hS hD hl; go_simp; (try with_reducible rfl))
  (try simp only [Act.put, List.getElem_toArray, List.getElem_cons_succ, List.getElem_cons_zero, List.setIfInBounds_toArray, List.set_cons_zero, List.set_cons_succ])
  refine wpG_take (i := 10) (v := ?v10) rfl (by kernel_rfl) (by intro L w; simp only [getD_set_ne true (show (10 : Nat) ≠ 16 from by decide), getD_set_ne true (show (10 : Nat) ≠ 19 from by decide)]) (fun _ _ _ h => h) (Or.inl ⟨by rfl, ?y10⟩) ?r10
  case y10 => (intro w' hy; obtain ⟨L, hD, hl, hS⟩ := hy; clear hD hl hS; go_simp; (try with_reducible rfl))
  (try simp only [Act.put, List.getElem_toArray, List.getElem_cons_succ, List.getElem_cons_zero, List.setIfInBounds_toArray, List.set_cons_zero, List.set_cons_succ])
  refine wpG_take (i := 11) (v := ?v11) rfl (by kernel_rfl) (by intro L w; simp only [getD_set_ne true (show (11 : Nat) ≠ 16 from by decide), getD_set_ne true (show (11 : Nat) ≠ 19 from by decide)]) (fun _ _ _ h => h) (Or.inl ⟨by rfl, ?y11⟩) ?r11
  case y11 => (intro w' hy; obtain ⟨L, hD, hl, hS⟩ := hy; clear hD hl hS; go_simp; (try with_reducible rfl))
  (try simp only [Act.put, List.getElem_toArray, List.getElem_cons_succ, List.getElem_cons_zero, List.setIfInBounds_toArray, List.set_cons_zero, List.set_cons_succ])
  refine wpG_take (i := 12) (v := ?v12) rfl (by kernel_rfl) (by intro L w; simp only [getD_set_ne true (show (12 : Nat) ≠ 16 from by decide), getD_set_ne true (show (12 : Nat) ≠ 19 from by decide)]) (fun _ _ _ h => h) (Or.inl ⟨by rfl, ?y12⟩) ?r12
  case y12 => (intro w' hy; obtain ⟨L, hD, hl, hS⟩ := hy; have qc := (hS.1 (hD.wait (by kernel_rfl) hl)).cell; clear hS hD hl; go_simp; (try with_reducible rfl))
  (try simp only [Act.put, List.getElem_toArray, List.getElem_cons_succ, List.getElem_cons_zero, List.setIfInBounds_toArray, List.set_cons_zero, List.set_cons_succ])
  refine wpG_step (i := 6) (by kernel_rfl) rfl (by rfl) ?r13
  intro hS K hK
  (have hq := hS.1 (by kernel_rfl); have hz := hS.2.2.2.1; have hb := hS.2.2.2.2; clear hS; go_simp; refine (less_any _ _ _ _ _ h1 h2 h9 h10).mono ?_; rintro e w1 ⟨rfl, hb1⟩; refine hK.out _ _ ⟨fun _ => hq.below hb1, fun h => (no_of h (by kernel_rfl)).elim, fun h => (no_of h (by kernel_rfl)).elim, hz.below hb1, hb.trans (hb1.mono hb.size)⟩ ?_; clear hq hz hb hb1)
  clear hK K; intro W13
  (try simp only [Act.put, List.getElem_toArray, List.getElem_cons_succ, List.getElem_cons_zero, List.setIfInBounds_toArray, List.set_cons_zero, List.set_cons_succ])
  refine wpG_take (i := 14) (v := ?v14) rfl (by kernel_rfl) (by intro L w; simp only [getD_set_ne true (show (14 : Nat) ≠ 16 from by decide), getD_set_ne true (show (14 : Nat) ≠ 19 from by decide)]) (fun _ _ _ h => h) (Or.inl ⟨by rfl, ?y14⟩) ?r14
  case y14 => (intro w' hy; obtain ⟨L, hD, hl, hS⟩ := hy; clear hD hl hS; go_simp; (try with_reducible rfl))
  (try simp only [Act.put, List.getElem_toArray, List.getElem_cons_succ, List.getElem_cons_zero, List.setIfInBounds_toArray, List.set_cons_zero, List.set_cons_succ])
  refine wpG_take (i := 15) (v := ?v15) rfl (by kernel_rfl) (by intro L w; simp only [getD_set_ne true (show (15 : Nat) ≠ 16 from by decide), getD_set_ne true (show (15 : Nat) ≠ 19 from by decide)]) (fun _ _ _ h => h) (Or.inl ⟨by rfl, ?y15⟩) ?r15
  case y15 => (intro w' hy; obtain ⟨L, hD, hl, hS⟩ := hy; clear hD hl hS; go_simp; (try with_reducible rfl))
  (try simp only [Act.put, List.getElem_toArray, List.getElem_cons_succ, List.getElem_cons_zero, List.setIfInBounds_toArray, List.set_cons_zero, List.set_cons_succ])
  refine wpG_step (i := 13) (by kernel_rfl) rfl (by rfl) ?r16
  intro hS K hK
  (have hq := hS.1 (by kernel_rfl); have hz := hS.2.2.2.1; have hb := hS.2.2.2.2; clear hS; go_simp; refine (less_any _ _ _ _ _ h5 h6 h13 h14).mono ?_; rintro e w2 ⟨rfl, hb1⟩; refine hK.out _ _ ⟨fun _ => hq.below hb1, fun h => (no_of h (by kernel_rfl)).elim, fun h => (no_of h (by kernel_rfl)).elim, hz.below hb1, hb.trans (hb1.mono hb.size)⟩ ?_; clear hq hz hb hb1)
  clear hK K; intro W16
  (try simp only [Act.put, List.getElem_toArray, List.getElem_cons_succ, List.getElem_cons_zero, List.setIfInBounds_toArray, List.set_cons_zero, List.set_cons_succ])
  refine wpG_step (i := 16) (by kernel_rfl) rfl (by rfl) ?r17
  intro hS K hK
  (have hq := hS.1 (by kernel_rfl); have qc := hq.cell; have qf := hq.frozen; have hz := hS.2.2.2.1; have hb := hS.2.2.2.2; clear hS; go_simp; refine hK.out _ _ ⟨fun h => (no_of (by kernel_rfl) h).elim, fun _ _ => (hq.put 0 _ (by simp)).put 1 _ (by simp), fun h => (no_of h (by kernel_rfl)).elim, (hz.far (by simp) _).far (by simp) _, (hb.setCell (Nat.le_refl _) _).setCell (Nat.le_refl _) _⟩ ?_; clear qc qf hz hb hq)
  clear hK K; intro W17
  (try simp only [Act.put, List.getElem_toArray, List.getElem_cons_succ, List.getElem_cons_zero, List.setIfInBounds_toArray, List.set_cons_zero, List.set_cons_succ])
  refine wpG_take (i := 17) (v := ?v18) rfl (by kernel_rfl) (by intro L w; simp only [getD_set_ne true (show (17 : Nat) ≠ 16 from by decide), getD_set_ne true (show (17 : Nat) ≠ 19 from by decide)]) (fun _ _ _ h => h) (Or.inl ⟨by rfl, ?y18⟩) ?r18
  case y18 => (intro w' hy; obtain ⟨L, hD, hl, hS⟩ := hy; clear hD hl hS; go_simp; (try with_reducible rfl))
  (try simp only [Act.put, List.getElem_toArray, List.getElem_cons_succ, List.getElem_cons_zero, List.setIfInBounds_toArray, List.set_cons_zero, List.set_cons_succ])
  refine wpG_take (i := 18) (v := ?v19) rfl (by kernel_rfl) (by intro L w; simp only [getD_set_ne true (show (18 : Nat) ≠ 16 from by decide), getD_set_ne true (show (18 : Nat) ≠ 19 from by decide)]) (fun _ _ _ h => h) (Or.inl ⟨by rfl, ?y19⟩) ?r19
  case y19 => (intro w' hy; obtain ⟨L, hD, hl, hS⟩ := hy; clear hD hl hS; go_simp; (try with_reducible rfl))
  (try simp only [Act.put, List.getElem_toArray, List.getElem_cons_succ, List.getElem_cons_zero, List.setIfInBounds_toArray, List.set_cons_zero, List.set_cons_succ])
  refine wpG_step (i := 19) (by kernel_rfl) rfl (by rfl) ?r20
  intro hS K hK
  (have hq := hS.2.1 (by kernel_rfl) (by kernel_rfl); have qc := hq.cell; have qf := hq.frozen; have hz := hS.2.2.2.1; have hb := hS.2.2.2.2; clear hS; go_simp; refine hK.out _ _ ⟨fun h => (no_of (by kernel_rfl) h).elim, fun _ h => (no_of (by kernel_rfl) h).elim, fun _ => (hq.put 4 _ (by simp)).put 5 _ (by simp), (hz.far (by simp) _).far (by simp) _, (hb.setCell (Nat.le_refl _) _).setCell (Nat.le_refl _) _⟩ ?_; clear qc qf hz hb hq)
  clear hK K; intro W20
  (try simp only [Act.put, List.getElem_toArray, List.getElem_cons_succ, List.getElem_cons_zero, List.setIfInBounds_toArray, List.set_cons_zero, List.set_cons_succ])
  refine wpG_end (by kernel_rfl) ?_
  intro W
   hS
  have hq := hS.2.2.1 (by kernel_rfl)
  have hz := hS.2.2.2.1
  have hb := hS.2.2.2.2
  clear hS q0 q1
  go_wp2_with (first
    | (refine wpList_load_blk (by rfl) 92 (.tmp 2) (by rfl) _ (by rfl) _ hq _ Try.underlying92 (by rfl) (by kernel_rfl) ?_)
    | (refine wpList_store_blk (by rfl) 92 (.tmp 4) (.tmp 46) (by rfl) _ _ _ (by rfl) (by rfl) hz (by rfl) (by kernel_rfl) (by simp [Value.oneCell']) ?_; intro w3 hz3 ho3))
  refine ret_blk 4 92 (by rfl) (by rfl) _ (by rfl) _ hz3 _ Try.underlying92 (by rfl) (by kernel_rfl) ?_
  exact ⟨rfl, bl_oth hb ho3 (by omega)⟩

end Go.Proofs.Ythlpceoajhcliaa

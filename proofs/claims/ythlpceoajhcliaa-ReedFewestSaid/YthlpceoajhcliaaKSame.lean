/-
  kit: ranges that are made, lists of numbers that are equal.
-/
import Derived.Test.YthlpceoajhcliaaBase2
import Derived.Test.YthlpceoajhcliaaReedA
namespace Go.Proofs.Ythlpceoajhcliaa
set_option linter.unusedSimpArgs false
set_option linter.unusedVariables false
open Go.RowKit

set_option maxHeartbeats 400000 in
theorem to_any (a b : Int) (w : World) :
    Calls Try.prog 31 #[.int .i64 a, .int .i64 b] w fun e w' => e = .returned (R2 a b) ∧ Below w.heap.size w w' := by
  go_enter Try.func31, Try.ntmps31
  go_wp2
  go_returns; refine ⟨rfl, ?_⟩; (repeat' (first | (with_reducible exact Below.refl _ _) | (with_reducible refine Below.alloc ?_ ?_ _) | (with_reducible refine Below.setCell ?_ ?_ _) | (with_reducible refine Below.drew ?_) | ((with_reducible refine Below.trans ?_ (Below.mono (by assumption) ?_))) | go_size))

theorem wp_store_blk {P : Program} {op : Oper} {a : Act} {w : World} {K : Act → World → Prop} {Q : Exit → Act → World → Prop} (ty : TypeId) (x y : Operand) (ho : op.op = .store ty x y)
    (g : Nat) (ds cs : Array Value) (hx : a.eval x = .pointer (some ⟨g, 0, none⟩)) (hy : a.eval y = .agg ds) (hB : Bk w g cs) (hs : ds.size = cs.size)
    (hi : (P.info? ty).map (·.size) = some ds.size) (h1 : ds.all (·.oneCell') = true)
    (h : ∀ w', Bk w' g ds → Oth w w' g → K (a.put op.dst undef) w') : op.wp P a w K Q :=
  wp_store_mid ty x y ho g 0 ds hx hy (by rw [hs]; exact hB.there) hi h1 (h _ (hB.setCells ds hs) (Oth.setCells g _ _ _))

theorem take_eq_succ {k l : List Int} {p : Nat} {x y : Int} (h1 : k.drop p = x :: k.drop (p + 1)) (h2 : l.drop p = y :: l.drop (p + 1)) : decide (k.take (p + 1) = l.take (p + 1)) = (decide (k.take p = l.take p) && decide (x = y)) := by
  have a : ∀ {m : List Int} {z : Int}, m.drop p = z :: m.drop (p + 1) → m.take (p + 1) = m.take p ++ [z] := by
    intro m z h
    have hk : p < m.length := by
      rcases Nat.lt_or_ge p m.length with h' | h'
      · exact h'
      · rw [List.drop_of_length_le h'] at h; cases h
    rw [List.drop_eq_getElem_cons hk] at h
    injection h with h _
    rw [List.take_succ_eq_append_getElem hk, h]
  rw [a h1, a h2]
  rw [Bool.eq_iff_iff]
  simp only [Bool.and_eq_true, decide_eq_true_eq]
  constructor
  · intro h
    have := List.append_inj' h rfl
    exact ⟨this.1, by simpa using this.2⟩
  · rintro ⟨h, rfl⟩; rw [h]

set_option maxRecDepth 100000 in
set_option maxHeartbeats 1000000 in
theorem sameInts_any (A B : Option Addr) (n m c d : Nat) (k l : List Int) (w : World) (ha : Rd w w.heap.size 1 A n (ic k)) (hb : Rd w w.heap.size 1 B m (ic l)) (hn : n ≤ 9223372036854775807) (hm : m ≤ 9223372036854775807) :
    Calls Try.prog 21 #[.slice A n c, .slice B m d] w fun e w' => e = .returned (.bool (decide (k = l))) ∧ Below w.heap.size w w' := by
  have HA := Lib.hid ha
  have HB := Lib.hid hb
  have HK := Lib.hid ha.len1
  have HL := Lib.hid hb.len1
  clear ha hb
  by_cases hnm : n = m
  · subst hnm
    have e0 : ((n : Int) == (n : Int)) = true := by simp
    have e1 : (n == n) = true := by simp
    go_enter Try.func21, Try.ntmps21
    go_wp2
    go_loopw [5, 6] (fun s i wr => ∃ (p : Nat) (b : Bool), p ≤ n ∧ i = .int .i64 p ∧ s = .bool b ∧ Hid (b = decide (k.take p = l.take p)) ∧ Below w.heap.size w wr) (fun _ i _ => n - (intOf i).toNat)
    case atStart => exact ⟨0, true, by omega, rfl, rfl, by show _ = _; simp, Below.refl _ _⟩
    case round =>
      obtain ⟨p, b, hp, rfl, rfl, he, hbw⟩ := hrel
      cases b with
      | false =>
        go_wp2
        go_ret
        have h := he.out
        exact ⟨ret_bool (by symm; simp; rintro rfl; simp at h), hbw⟩
      | true =>
        by_cases hlt : p < n
        · obtain ⟨b1, o1, x, rfl, hb1, hd1, d1⟩ := (HA.out.below hbw).at1 hlt
          obtain ⟨b2, o2, y, rfl, hb2, hd2, d2⟩ := (HB.out.below hbw).at1 hlt
          have HD1 := Lib.hid hd1
          have HD2 := Lib.hid hd2
          clear hd1 hd2
          have i0 : (0 : Int) ≤ (p : Int) := by omega
          have i1 : (p : Int) < (n : Int) := by omega
          go_wp2
          refine wp_region_G (fun _ W => W.cell? ⟨b1, o1 + p, none⟩ = some (.int .i64 x) ∧ W.cell? ⟨b2, o2 + p, none⟩ = some (.int .i64 y) ∧ Below w.heap.size w W) 10 (by kernel_rfl) (by kernel_rfl) ?s0 ?r0
          case s0 => (exact ⟨d1, d2, hbw.drew⟩)
          intro W0
          refine wpG_take (i := 0) (v := ?v1) rfl (by kernel_rfl) (by exact fun _ _ => Iff.rfl) (fun _ _ _ h => h) (Or.inl ⟨by rfl, ?y1⟩) ?r1
          case y1 => (intro w' hy; obtain ⟨L, hD, hl, hS⟩ := hy; clear hD hl hS; go_simp; (try with_reducible rfl))
          (try simp only [Act.put, List.getElem_toArray, List.getElem_cons_succ, List.getElem_cons_zero, List.setIfInBounds_toArray, List.set_cons_zero, List.set_cons_succ])
          refine wpG_take (i := 1) (v := ?v2) rfl (by kernel_rfl) (by exact fun _ _ => Iff.rfl) (fun _ _ _ h => h) (Or.inl ⟨by rfl, ?y2⟩) ?r2
          case y2 => (intro w' hy; obtain ⟨L, hD, hl, hS⟩ := hy; clear hD hl hS; go_simp; (try with_reducible rfl))
          (try simp only [Act.put, List.getElem_toArray, List.getElem_cons_succ, List.getElem_cons_zero, List.setIfInBounds_toArray, List.set_cons_zero, List.set_cons_succ])
          refine wpG_take (i := 2) (v := ?v3) rfl (by kernel_rfl) (by exact fun _ _ => Iff.rfl) (fun _ _ _ h => h) (Or.inl ⟨by rfl, ?y3⟩) ?r3
          case y3 => (intro w' hy; obtain ⟨L, hD, hl, hS⟩ := hy; clear hD hl hS; go_simp; (try with_reducible rfl))
          (try simp only [Act.put, List.getElem_toArray, List.getElem_cons_succ, List.getElem_cons_zero, List.setIfInBounds_toArray, List.set_cons_zero, List.set_cons_succ])
          refine wpG_take (i := 3) (v := ?v4) rfl (by kernel_rfl) (by exact fun _ _ => Iff.rfl) (fun _ _ _ h => h) (Or.inl ⟨by rfl, ?y4⟩) ?r4
          case y4 => (intro w' hy; obtain ⟨L, hD, hl, hS⟩ := hy; obtain ⟨s1, s2, _⟩ := hS; clear hD hl; go_simp; (try with_reducible rfl))
          (try simp only [Act.put, List.getElem_toArray, List.getElem_cons_succ, List.getElem_cons_zero, List.setIfInBounds_toArray, List.set_cons_zero, List.set_cons_succ])
          refine wpG_take (i := 4) (v := ?v5) rfl (by kernel_rfl) (by exact fun _ _ => Iff.rfl) (fun _ _ _ h => h) (Or.inl ⟨by rfl, ?y5⟩) ?r5
          case y5 => (intro w' hy; obtain ⟨L, hD, hl, hS⟩ := hy; clear hD hl hS; go_simp; (try with_reducible rfl))
          (try simp only [Act.put, List.getElem_toArray, List.getElem_cons_succ, List.getElem_cons_zero, List.setIfInBounds_toArray, List.set_cons_zero, List.set_cons_succ])
          refine wpG_take (i := 5) (v := ?v6) rfl (by kernel_rfl) (by exact fun _ _ => Iff.rfl) (fun _ _ _ h => h) (Or.inl ⟨by rfl, ?y6⟩) ?r6
          case y6 => (intro w' hy; obtain ⟨L, hD, hl, hS⟩ := hy; clear hD hl hS; go_simp; (try with_reducible rfl))
          (try simp only [Act.put, List.getElem_toArray, List.getElem_cons_succ, List.getElem_cons_zero, List.setIfInBounds_toArray, List.set_cons_zero, List.set_cons_succ])
          refine wpG_take (i := 6) (v := ?v7) rfl (by kernel_rfl) (by exact fun _ _ => Iff.rfl) (fun _ _ _ h => h) (Or.inl ⟨by rfl, ?y7⟩) ?r7
          case y7 => (intro w' hy; obtain ⟨L, hD, hl, hS⟩ := hy; clear hD hl hS; go_simp; (try with_reducible rfl))
          (try simp only [Act.put, List.getElem_toArray, List.getElem_cons_succ, List.getElem_cons_zero, List.setIfInBounds_toArray, List.set_cons_zero, List.set_cons_succ])
          refine wpG_take (i := 7) (v := ?v8) rfl (by kernel_rfl) (by exact fun _ _ => Iff.rfl) (fun _ _ _ h => h) (Or.inl ⟨by rfl, ?y8⟩) ?r8
          case y8 => (intro w' hy; obtain ⟨L, hD, hl, hS⟩ := hy; obtain ⟨s1, s2, _⟩ := hS; clear hD hl; go_simp; (try with_reducible rfl))
          (try simp only [Act.put, List.getElem_toArray, List.getElem_cons_succ, List.getElem_cons_zero, List.setIfInBounds_toArray, List.set_cons_zero, List.set_cons_succ])
          refine wpG_take (i := 8) (v := ?v9) rfl (by kernel_rfl) (by exact fun _ _ => Iff.rfl) (fun _ _ _ h => h) (Or.inl ⟨by rfl, ?y9⟩) ?r9
          case y9 => (intro w' hy; obtain ⟨L, hD, hl, hS⟩ := hy; clear hD hl hS; go_simp; (try with_reducible rfl))
          (try simp only [Act.put, List.getElem_toArray, List.getElem_cons_succ, List.getElem_cons_zero, List.setIfInBounds_toArray, List.set_cons_zero, List.set_cons_succ])
          refine wpG_take (i := 9) (v := ?v10) rfl (by kernel_rfl) (by exact fun _ _ => Iff.rfl) (fun _ _ _ h => h) (Or.inl ⟨by rfl, ?y10⟩) ?r10
          case y10 => (intro w' hy; obtain ⟨L, hD, hl, hS⟩ := hy; clear hD hl hS; go_simp; (try with_reducible rfl))
          (try simp only [Act.put, List.getElem_toArray, List.getElem_cons_succ, List.getElem_cons_zero, List.setIfInBounds_toArray, List.set_cons_zero, List.set_cons_succ])
          refine wpG_end (by kernel_rfl) ?_
          intro W
           hS
          have hbz := hS.2.2
          clear hS
          go_wp2
          go_roundw
          case rel => exact ⟨p + 1, (x == y), by omega, by go_num, rfl, by (show _ = _; rw [take_eq_succ HD1.out HD2.out, ← he.out]; rw [Bool.eq_iff_iff]; simp), hbz⟩
          case measure => simp [intOf]; omega
        · go_wp2
          go_ret
          have e1 : k.take p = k := List.take_of_length_le (by have := HK.out; omega)
          have e2 : l.take p = l := List.take_of_length_le (by have := HL.out; omega)
          have h := he.out
          rw [e1, e2] at h
          exact ⟨ret_bool h, hbw⟩
  · have e0 : ((n : Int) == (m : Int)) = false := by simp; omega
    have e1 : (n == m) = false := by simp; omega
    have HE : Hid (decide (k = l) = false) := by show _ = _; simp; intro h; have h1 := HK.out; have h2 := HL.out; rw [h] at h1; omega
    generalize decide (k = l) = dk at *
    go_enter Try.func21, Try.ntmps21
    go_wp2
    go_loopw [5, 6] (fun s i wr => s = .bool false ∧ Below w.heap.size w wr) (fun _ _ _ => 0)
    case atStart => exact ⟨rfl, Below.refl _ _⟩
    case round =>
      obtain ⟨rfl, hbw⟩ := hrel
      go_wp2
      go_ret
      exact ⟨ret_bool HE.out.symm, hbw⟩

end Go.Proofs.Ythlpceoajhcliaa

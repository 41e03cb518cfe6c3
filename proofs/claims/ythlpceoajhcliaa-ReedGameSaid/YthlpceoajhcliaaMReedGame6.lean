/-
  Walks of functions, and plain laws (texts put together). No condition.
-/
import Derived.RangeFuncNested
import Derived.RangeFuncBound
import Derived.RangeFuncCalls
import Derived.RangeFuncLeaves
import Derived.Shelf.Abstract
import Derived.Shelf.RegionOpen
import Derived.OwnWalkIn
import Derived.TacticsInMore
import Derived.LoopNIn
import Derived.LoopIn
import Derived.Scope
import Derived.WalkMore
import Derived.Test.YthlpceoajhcliaaMReedGame1
import Derived.Test.YthlpceoajhcliaaMReedGame2
import Derived.Test.YthlpceoajhcliaaMReedGame3
import Derived.Test.YthlpceoajhcliaaMReedGame4
import Derived.Test.YthlpceoajhcliaaMReedGame5

section
/-
  reed: what is known after a stroke.
-/
namespace Go.Proofs.Ythlpceoajhcliaa
set_option linter.unusedSimpArgs false
set_option linter.unusedVariables false
open Go.RowKit

/-- A tongue after so many strokes at the tip and at the root. -/
def thinJ (j : Jb) (p0 p1 t r : Int) : St := ⟨p0, p1, j.t0 - t * j.a1, j.t1 - t * j.a0, j.r0 - r * j.b1, j.r1 - r * j.b0, j.u0, j.u1, j.d0, j.d1, j.a0, j.a1, j.b0, j.b1, j.le⟩
def okT (j : Jb) (t r : Int) : Bool := (thinJ j 0 0 t r).spoiled == 2
theorem okT_any (j : Jb) (p0 p1 t r : Int) : ((thinJ j p0 p1 t r).spoiled == 2) = okT j t r := rfl
abbrev kn5 (p0 p1 t r lf : Int) : Value := .agg #[.int .i64 p0, .int .i64 p1, .int .i64 t, .int .i64 r, .int .i64 lf]

theorem mul_bd {i a : Int} (h0 : 0 ≤ i) (h1 : i ≤ 2000) (h2 : 0 ≤ a) (h3 : a ≤ 12) : 0 ≤ i * a ∧ i * a ≤ 24000 := by
  refine ⟨Int.mul_nonneg h0 h2, ?_⟩
  have := Int.mul_le_mul h1 h3 h2 (by omega : (0 : Int) ≤ 2000)
  omega
theorem mul_suc (i a : Int) : (i + 1) * a = i * a + a := by rw [Int.add_mul]; omega

theorem filed_tip_x (p0 p1 t0 t1 r0 r1 u0 u1 d0 d1 a0 a1 b0 b1 le : Int) (w : World) (h : St.ok ⟨p0, p1, t0, t1, r0, r1, u0, u1, d0, d1, a0, a1, b0, b1, le⟩) :
    Calls Try.prog 104 #[.agg #[.int .i64 p0, .int .i64 p1, .int .i64 t0, .int .i64 t1, .int .i64 r0, .int .i64 r1, .int .i64 u0, .int .i64 u1, .int .i64 d0, .int .i64 d1, .int .i64 a0, .int .i64 a1, .int .i64 b0, .int .i64 b1, .int .i64 le], .int .i64 1] w fun e w' => e = .returned (.agg #[.int .i64 (p0 + u0), .int .i64 (p1 + u1), .int .i64 (t0 - a1), .int .i64 (t1 - a0), .int .i64 r0, .int .i64 r1, .int .i64 u0, .int .i64 u1, .int .i64 d0, .int .i64 d1, .int .i64 a0, .int .i64 a1, .int .i64 b0, .int .i64 b1, .int .i64 le]) ∧ Below w.heap.size w w' := filed_tip ⟨p0, p1, t0, t1, r0, r1, u0, u1, d0, d1, a0, a1, b0, b1, le⟩ w h
theorem filed_root_x (p0 p1 t0 t1 r0 r1 u0 u1 d0 d1 a0 a1 b0 b1 le : Int) (w : World) (h : St.ok ⟨p0, p1, t0, t1, r0, r1, u0, u1, d0, d1, a0, a1, b0, b1, le⟩) :
    Calls Try.prog 104 #[.agg #[.int .i64 p0, .int .i64 p1, .int .i64 t0, .int .i64 t1, .int .i64 r0, .int .i64 r1, .int .i64 u0, .int .i64 u1, .int .i64 d0, .int .i64 d1, .int .i64 a0, .int .i64 a1, .int .i64 b0, .int .i64 b1, .int .i64 le], .int .i64 2] w fun e w' => e = .returned (.agg #[.int .i64 (p0 - d1), .int .i64 (p1 - d0), .int .i64 t0, .int .i64 t1, .int .i64 (r0 - b1), .int .i64 (r1 - b0), .int .i64 u0, .int .i64 u1, .int .i64 d0, .int .i64 d1, .int .i64 a0, .int .i64 a1, .int .i64 b0, .int .i64 b1, .int .i64 le]) ∧ Below w.heap.size w w' := filed_root ⟨p0, p1, t0, t1, r0, r1, u0, u1, d0, d1, a0, a1, b0, b1, le⟩ w h

set_option maxRecDepth 100000 in
set_option maxHeartbeats 2000000 in
theorem moved_tip (j : Jb) (A : Option Addr) (c : Nat) (s0 s1 : Int) (bg bx : Nat) (p0 p1 t r lf : Int) (w : World) (hg : j.good) (hp0 : -100000 ≤ p0 ∧ p0 ≤ 100000) (hp1 : -100000 ≤ p1 ∧ p1 ≤ 100000) (ht : 0 ≤ t ∧ t ≤ 1000) (hr : 0 ≤ r ∧ r ≤ 1000) (hl : 1 ≤ lf ∧ lf ≤ 1000) :
    Calls Try.prog 109 #[.agg (gmA j A c s0 s1 bg bx).toArray, kn5 p0 p1 t r lf, .int .i64 1] w fun e w' => e = .returned (.tuple #[kn5 (p0 + j.u0) (p1 + j.u1) (t + 1) r (lf - 1), .bool (okT j (t + 1) (r))]) ∧ Below w.heap.size w w' := by
  obtain ⟨g1, g2, g3, g4, g5, g6, g7, g8, -, -, -, -⟩ := hg
  go_enter Try.func109, Try.ntmps109
  refine start noEx ?_
  intro wc M
  go_wp2_with (first | (refine m_ld1 M rfl rfl rfl (by (repeat' (first | exact List.mem_cons_self | refine List.mem_cons_of_mem _ ?_))) (by rfl) ?_) | (refine m_ldr M rfl rfl rfl (by (repeat' (first | exact List.mem_cons_self | refine List.mem_cons_of_mem _ ?_))) (by (try simp only [List.take_succ_cons, List.take_zero, List.take_nil, List.drop_succ_cons, List.drop_zero, List.drop_nil, List.cons_append, List.nil_append, List.append_nil, List.length_cons, List.length_nil, Nat.reduceAdd, Nat.zero_add, Nat.add_zero]); rfl) (by rfl) ?_) | (refine m_st M rfl rfl rfl (by first | exact (rfl : _ = Value.agg _) | exact (rfl : _ = Value.int _ _) | exact (rfl : _ = Value.bool _) | exact (rfl : _ = Value.slice _ _ _) | exact (rfl : _ = Value.pointer _) | exact (rfl : _ = Value.map _) | exact (rfl : _ = Value.func _ _ _) | exact (rfl : _ = Value.string _)) (by rfl) (by (repeat (first | exact Upd.head | apply Upd.tail))) (by (try simp only [List.take_succ_cons, List.take_zero, List.take_nil, List.drop_succ_cons, List.drop_zero, List.drop_nil, List.cons_append, List.nil_append, List.append_nil, List.length_cons, List.length_nil, Nat.reduceAdd, Nat.zero_add, Nat.add_zero]); rfl) (by simp) (by simp [Value.oneCell']) (by kernel_rfl) ?_; clear M; (try clear wc); intro wc M) | (refine m_al M rfl rfl ?_; clear M; (try clear wc); intro g wc M) | (refine m_bx M rfl rfl (by first | exact (rfl : _ = Value.agg _) | exact (rfl : _ = Value.int _ _) | exact (rfl : _ = Value.bool _) | exact (rfl : _ = Value.slice _ _ _) | exact (rfl : _ = Value.pointer _) | exact (rfl : _ = Value.map _) | exact (rfl : _ = Value.func _ _ _) | exact (rfl : _ = Value.string _)) (by rfl) ?_; clear M; (try clear wc); intro g wc M) | (go_at_call 104; ((with_reducible refine (filed_tip_x p0 p1 j.t0 j.t1 j.r0 j.r1 j.u0 j.u1 j.d0 j.d1 j.a0 j.a1 j.b0 j.b1 j.le _ ?_).mono ?_); (constructor <;> dsimp only <;> omega); rintro e wc ⟨rfl, hb⟩; replace M := M.call hb; clear hb)))
  rename_i gG gK gR gS wq K0 hK0
  go_loopw [44] (fun v wr => ∃ i : Int, 0 ≤ i ∧ i ≤ t + 1 ∧ v = .int .i64 i ∧ Mem w noEx wr [(gS, .cells [.int .i64 p0, .int .i64 p1, .int .i64 (j.t0 - i * j.a1), .int .i64 (j.t1 - i * j.a0), .int .i64 (j.r0 - 0 * j.b1), .int .i64 (j.r1 - 0 * j.b0), .int .i64 j.u0, .int .i64 j.u1, .int .i64 j.d0, .int .i64 j.d1, .int .i64 j.a0, .int .i64 j.a1, .int .i64 j.b0, .int .i64 j.b1, .int .i64 j.le]), (gR, .cells [.int .i64 0, .int .i64 0, .int .i64 0, .int .i64 0, .int .i64 0]), (gK, .cells [.int .i64 (p0 + j.u0), .int .i64 (p1 + j.u1), .int .i64 (t + 1), .int .i64 (r), .int .i64 (lf - 1)])]) (fun v _ => (t + 1 - intOf v).toNat)
  case atStart => exact ⟨0, by omega, by omega, rfl, by simp only [Int.zero_mul, Int.sub_zero]; exact M.sub (by (repeat (first | exact List.Sublist.slnil | apply List.Sublist.cons_cons | apply List.Sublist.cons)))⟩
  case round =>
    clear M wc
    obtain ⟨i, hi0, hi1, rfl, M⟩ := hrel
    obtain ⟨wc, rfl⟩ : ∃ x : World, x = wr := ⟨_, rfl⟩
    have m1 := mul_bd hi0 (by omega) (by omega : 0 ≤ j.a1) (by omega)
    have m2 := mul_bd hi0 (by omega) (by omega : 0 ≤ j.a0) (by omega)
    by_cases hlt : i < t + 1
    · have e1 := mul_suc i j.a1
      have e2 := mul_suc i j.a0
      have E : Hid (Value.int .i64 (j.t0 - i * j.a1 - j.a1) = .int .i64 (j.t0 - (i + 1) * j.a1) ∧ Value.int .i64 (j.t1 - i * j.a0 - j.a0) = .int .i64 (j.t1 - (i + 1) * j.a0)) := ⟨by rw [e1]; congr 1; omega, by rw [e2]; congr 1; omega⟩
      clear e1 e2
      go_wp2_with (first | (refine m_ld1 M rfl rfl rfl (by (repeat' (first | exact List.mem_cons_self | refine List.mem_cons_of_mem _ ?_))) (by rfl) ?_) | (refine m_ldr M rfl rfl rfl (by (repeat' (first | exact List.mem_cons_self | refine List.mem_cons_of_mem _ ?_))) (by (try simp only [List.take_succ_cons, List.take_zero, List.take_nil, List.drop_succ_cons, List.drop_zero, List.drop_nil, List.cons_append, List.nil_append, List.append_nil, List.length_cons, List.length_nil, Nat.reduceAdd, Nat.zero_add, Nat.add_zero]); rfl) (by rfl) ?_) | (refine m_st M rfl rfl rfl (by first | exact (rfl : _ = Value.agg _) | exact (rfl : _ = Value.int _ _) | exact (rfl : _ = Value.bool _) | exact (rfl : _ = Value.slice _ _ _) | exact (rfl : _ = Value.pointer _) | exact (rfl : _ = Value.map _) | exact (rfl : _ = Value.func _ _ _) | exact (rfl : _ = Value.string _)) (by rfl) (by (repeat (first | exact Upd.head | apply Upd.tail))) (by (try simp only [List.take_succ_cons, List.take_zero, List.take_nil, List.drop_succ_cons, List.drop_zero, List.drop_nil, List.cons_append, List.nil_append, List.append_nil, List.length_cons, List.length_nil, Nat.reduceAdd, Nat.zero_add, Nat.add_zero]); rfl) (by simp) (by simp [Value.oneCell']) (by kernel_rfl) ?_; clear M; (try clear wc); intro wc M) | (refine m_al M rfl rfl ?_; clear M; (try clear wc); intro g wc M) | (refine m_bx M rfl rfl (by first | exact (rfl : _ = Value.agg _) | exact (rfl : _ = Value.int _ _) | exact (rfl : _ = Value.bool _) | exact (rfl : _ = Value.slice _ _ _) | exact (rfl : _ = Value.pointer _) | exact (rfl : _ = Value.map _) | exact (rfl : _ = Value.func _ _ _) | exact (rfl : _ = Value.string _)) (by rfl) ?_; clear M; (try clear wc); intro g wc M) | (go_at_call 112; ((with_reducible refine (less_any _ _ _ _ _ (by omega) (by omega) (by omega) (by omega)).mono ?_); skip; rintro e wc ⟨rfl, hb⟩; replace M := M.call hb; clear hb)))
      go_roundw
      case rel => exact ⟨i + 1, by omega, by omega, rfl, by rw [E.out.1, E.out.2] at M; exact M⟩
      case measure => simp [intOf]; omega
    · have ei : t + 1 = i := (by omega); subst ei
      go_wp2_with (first | (refine m_ld1 M rfl rfl rfl (by (repeat' (first | exact List.mem_cons_self | refine List.mem_cons_of_mem _ ?_))) (by rfl) ?_) | (refine m_ldr M rfl rfl rfl (by (repeat' (first | exact List.mem_cons_self | refine List.mem_cons_of_mem _ ?_))) (by (try simp only [List.take_succ_cons, List.take_zero, List.take_nil, List.drop_succ_cons, List.drop_zero, List.drop_nil, List.cons_append, List.nil_append, List.append_nil, List.length_cons, List.length_nil, Nat.reduceAdd, Nat.zero_add, Nat.add_zero]); rfl) (by rfl) ?_) | (refine m_st M rfl rfl rfl (by first | exact (rfl : _ = Value.agg _) | exact (rfl : _ = Value.int _ _) | exact (rfl : _ = Value.bool _) | exact (rfl : _ = Value.slice _ _ _) | exact (rfl : _ = Value.pointer _) | exact (rfl : _ = Value.map _) | exact (rfl : _ = Value.func _ _ _) | exact (rfl : _ = Value.string _)) (by rfl) (by (repeat (first | exact Upd.head | apply Upd.tail))) (by (try simp only [List.take_succ_cons, List.take_zero, List.take_nil, List.drop_succ_cons, List.drop_zero, List.drop_nil, List.cons_append, List.nil_append, List.append_nil, List.length_cons, List.length_nil, Nat.reduceAdd, Nat.zero_add, Nat.add_zero]); rfl) (by simp) (by simp [Value.oneCell']) (by kernel_rfl) ?_; clear M; (try clear wc); intro wc M) | (refine m_al M rfl rfl ?_; clear M; (try clear wc); intro g wc M) | (refine m_bx M rfl rfl (by first | exact (rfl : _ = Value.agg _) | exact (rfl : _ = Value.int _ _) | exact (rfl : _ = Value.bool _) | exact (rfl : _ = Value.slice _ _ _) | exact (rfl : _ = Value.pointer _) | exact (rfl : _ = Value.map _) | exact (rfl : _ = Value.func _ _ _) | exact (rfl : _ = Value.string _)) (by rfl) ?_; clear M; (try clear wc); intro g wc M))
      go_loopw [58] (fun v wr => ∃ i : Int, 0 ≤ i ∧ i ≤ r ∧ v = .int .i64 i ∧ Mem w noEx wr [(gS, .cells [.int .i64 p0, .int .i64 p1, .int .i64 (j.t0 - (t + 1) * j.a1), .int .i64 (j.t1 - (t + 1) * j.a0), .int .i64 (j.r0 - i * j.b1), .int .i64 (j.r1 - i * j.b0), .int .i64 j.u0, .int .i64 j.u1, .int .i64 j.d0, .int .i64 j.d1, .int .i64 j.a0, .int .i64 j.a1, .int .i64 j.b0, .int .i64 j.b1, .int .i64 j.le]), (gR, .cells [.int .i64 0, .int .i64 0, .int .i64 0, .int .i64 0, .int .i64 0]), (gK, .cells [.int .i64 (p0 + j.u0), .int .i64 (p1 + j.u1), .int .i64 (t + 1), .int .i64 (r), .int .i64 (lf - 1)])]) (fun v _ => (r - intOf v).toNat)
      case atStart => exact ⟨0, by omega, by omega, rfl, by simp only [Int.zero_mul, Int.sub_zero] at M ⊢; exact M⟩
      case round =>
        clear M wc
        obtain ⟨i, hi0, hi1, rfl, M⟩ := hrel
        obtain ⟨wc, rfl⟩ : ∃ x : World, x = wr := ⟨_, rfl⟩
        have m3 := mul_bd hi0 (by omega) (by omega : 0 ≤ j.b1) (by omega)
        have m4 := mul_bd hi0 (by omega) (by omega : 0 ≤ j.b0) (by omega)
        by_cases hlt : i < r
        · have e1 := mul_suc i j.b1
          have e2 := mul_suc i j.b0
          have E : Hid (Value.int .i64 (j.r0 - i * j.b1 - j.b1) = .int .i64 (j.r0 - (i + 1) * j.b1) ∧ Value.int .i64 (j.r1 - i * j.b0 - j.b0) = .int .i64 (j.r1 - (i + 1) * j.b0)) := ⟨by rw [e1]; congr 1; omega, by rw [e2]; congr 1; omega⟩
          clear e1 e2
          go_wp2_with (first | (refine m_ld1 M rfl rfl rfl (by (repeat' (first | exact List.mem_cons_self | refine List.mem_cons_of_mem _ ?_))) (by rfl) ?_) | (refine m_ldr M rfl rfl rfl (by (repeat' (first | exact List.mem_cons_self | refine List.mem_cons_of_mem _ ?_))) (by (try simp only [List.take_succ_cons, List.take_zero, List.take_nil, List.drop_succ_cons, List.drop_zero, List.drop_nil, List.cons_append, List.nil_append, List.append_nil, List.length_cons, List.length_nil, Nat.reduceAdd, Nat.zero_add, Nat.add_zero]); rfl) (by rfl) ?_) | (refine m_st M rfl rfl rfl (by first | exact (rfl : _ = Value.agg _) | exact (rfl : _ = Value.int _ _) | exact (rfl : _ = Value.bool _) | exact (rfl : _ = Value.slice _ _ _) | exact (rfl : _ = Value.pointer _) | exact (rfl : _ = Value.map _) | exact (rfl : _ = Value.func _ _ _) | exact (rfl : _ = Value.string _)) (by rfl) (by (repeat (first | exact Upd.head | apply Upd.tail))) (by (try simp only [List.take_succ_cons, List.take_zero, List.take_nil, List.drop_succ_cons, List.drop_zero, List.drop_nil, List.cons_append, List.nil_append, List.append_nil, List.length_cons, List.length_nil, Nat.reduceAdd, Nat.zero_add, Nat.add_zero]); rfl) (by simp) (by simp [Value.oneCell']) (by kernel_rfl) ?_; clear M; (try clear wc); intro wc M) | (refine m_al M rfl rfl ?_; clear M; (try clear wc); intro g wc M) | (refine m_bx M rfl rfl (by first | exact (rfl : _ = Value.agg _) | exact (rfl : _ = Value.int _ _) | exact (rfl : _ = Value.bool _) | exact (rfl : _ = Value.slice _ _ _) | exact (rfl : _ = Value.pointer _) | exact (rfl : _ = Value.map _) | exact (rfl : _ = Value.func _ _ _) | exact (rfl : _ = Value.string _)) (by rfl) ?_; clear M; (try clear wc); intro g wc M) | (go_at_call 112; ((with_reducible refine (less_any _ _ _ _ _ (by omega) (by omega) (by omega) (by omega)).mono ?_); skip; rintro e wc ⟨rfl, hb⟩; replace M := M.call hb; clear hb)))
          go_roundw
          case rel => exact ⟨i + 1, by omega, by omega, rfl, by rw [E.out.1, E.out.2] at M; exact M⟩
          case measure => simp [intOf]; omega
        · have ei : r = i := (by omega); subst ei
          go_wp2_with (first | (refine m_ld1 M rfl rfl rfl (by (repeat' (first | exact List.mem_cons_self | refine List.mem_cons_of_mem _ ?_))) (by rfl) ?_) | (refine m_ldr M rfl rfl rfl (by (repeat' (first | exact List.mem_cons_self | refine List.mem_cons_of_mem _ ?_))) (by (try simp only [List.take_succ_cons, List.take_zero, List.take_nil, List.drop_succ_cons, List.drop_zero, List.drop_nil, List.cons_append, List.nil_append, List.append_nil, List.length_cons, List.length_nil, Nat.reduceAdd, Nat.zero_add, Nat.add_zero]); rfl) (by rfl) ?_) | (refine m_st M rfl rfl rfl (by first | exact (rfl : _ = Value.agg _) | exact (rfl : _ = Value.int _ _) | exact (rfl : _ = Value.bool _) | exact (rfl : _ = Value.slice _ _ _) | exact (rfl : _ = Value.pointer _) | exact (rfl : _ = Value.map _) | exact (rfl : _ = Value.func _ _ _) | exact (rfl : _ = Value.string _)) (by rfl) (by (repeat (first | exact Upd.head | apply Upd.tail))) (by (try simp only [List.take_succ_cons, List.take_zero, List.take_nil, List.drop_succ_cons, List.drop_zero, List.drop_nil, List.cons_append, List.nil_append, List.append_nil, List.length_cons, List.length_nil, Nat.reduceAdd, Nat.zero_add, Nat.add_zero]); rfl) (by simp) (by simp [Value.oneCell']) (by kernel_rfl) ?_; clear M; (try clear wc); intro wc M) | (refine m_al M rfl rfl ?_; clear M; (try clear wc); intro g wc M) | (refine m_bx M rfl rfl (by first | exact (rfl : _ = Value.agg _) | exact (rfl : _ = Value.int _ _) | exact (rfl : _ = Value.bool _) | exact (rfl : _ = Value.slice _ _ _) | exact (rfl : _ = Value.pointer _) | exact (rfl : _ = Value.map _) | exact (rfl : _ = Value.func _ _ _) | exact (rfl : _ = Value.string _)) (by rfl) ?_; clear M; (try clear wc); intro g wc M))
          refine wp_region_G (fun L W => (L.getD 4 true = false → Mem w noEx W [(gS, .cells [.int .i64 p0, .int .i64 p1, .int .i64 (j.t0 - (t + 1) * j.a1), .int .i64 (j.t1 - (t + 1) * j.a0), .int .i64 (j.r0 - r * j.b1), .int .i64 (j.r1 - r * j.b0), .int .i64 j.u0, .int .i64 j.u1, .int .i64 j.d0, .int .i64 j.d1, .int .i64 j.a0, .int .i64 j.a1, .int .i64 j.b0, .int .i64 j.b1, .int .i64 j.le]), (gR, .cells [.int .i64 0, .int .i64 0, .int .i64 0, .int .i64 0, .int .i64 0]), (gK, .cells [.int .i64 (p0 + j.u0), .int .i64 (p1 + j.u1), .int .i64 (t + 1), .int .i64 (r), .int .i64 (lf - 1)])]) ∧ (L.getD 4 true = true → Mem w noEx W [(gS, .cells [.int .i64 p0, .int .i64 p1, .int .i64 (j.t0 - (t + 1) * j.a1), .int .i64 (j.t1 - (t + 1) * j.a0), .int .i64 (j.r0 - r * j.b1), .int .i64 (j.r1 - r * j.b0), .int .i64 j.u0, .int .i64 j.u1, .int .i64 j.d0, .int .i64 j.d1, .int .i64 j.a0, .int .i64 j.a1, .int .i64 j.b0, .int .i64 j.b1, .int .i64 j.le]), (gR, .cells [.int .i64 (p0 + j.u0), .int .i64 (p1 + j.u1), .int .i64 (t + 1), .int .i64 (r), .int .i64 (lf - 1)]), (gK, .cells [.int .i64 (p0 + j.u0), .int .i64 (p1 + j.u1), .int .i64 (t + 1), .int .i64 (r), .int .i64 (lf - 1)])])) 6 (by kernel_rfl) (by kernel_rfl) ?s0 ?r0
          case s0 => (exact ⟨fun _ => M.drew, fun h => (no_of h (by kernel_rfl)).elim⟩)
          intro W0
          refine wpG_take (i := 0) (v := ?v1) rfl (by kernel_rfl) (by intro L w; simp only [getD_set_ne true (show (0 : Nat) ≠ 4 from by decide)]) (fun _ _ _ h => h) (Or.inl ⟨by rfl, ?y1⟩) ?r1
          case y1 => (intro w' hy; obtain ⟨L, hD, hl, hS⟩ := hy; have M0 := hS.1 (hD.wait (i := 0) (by kernel_rfl) hl); clear hS; first | (refine Eq.trans (rn_one (Mem.get M0 (by (repeat' (first | exact List.mem_cons_self | refine List.mem_cons_of_mem _ ?_)))) rfl rfl (by rfl)) ?_; with_reducible rfl) | (refine Eq.trans (rn_row (Mem.get M0 (by (repeat' (first | exact List.mem_cons_self | refine List.mem_cons_of_mem _ ?_)))) rfl rfl (by (try simp only [List.take_succ_cons, List.take_zero, List.take_nil, List.drop_succ_cons, List.drop_zero, List.drop_nil, List.cons_append, List.nil_append, List.append_nil, List.length_cons, List.length_nil, Nat.reduceAdd, Nat.zero_add, Nat.add_zero]); rfl) (by rfl)) ?_; with_reducible rfl); (try with_reducible rfl))
          (try simp only [Act.put, List.getElem_toArray, List.getElem_cons_succ, List.getElem_cons_zero, List.setIfInBounds_toArray, List.set_cons_zero, List.set_cons_succ])
          refine wpG_take (i := 1) (v := ?v2) rfl (by kernel_rfl) (by intro L w; simp only [getD_set_ne true (show (1 : Nat) ≠ 4 from by decide)]) (fun _ _ _ h => h) (Or.inl ⟨by rfl, ?y2⟩) ?r2
          case y2 => (intro w' hy; obtain ⟨L, hD, hl, hS⟩ := hy; have M0 := hS.1 (hD.wait (i := 2) (by kernel_rfl) (hD.wait (m := 2) (i := 1) (by kernel_rfl) hl)); clear hS; first | (refine Eq.trans (rn_one (Mem.get M0 (by (repeat' (first | exact List.mem_cons_self | refine List.mem_cons_of_mem _ ?_)))) rfl rfl (by rfl)) ?_; with_reducible rfl) | (refine Eq.trans (rn_row (Mem.get M0 (by (repeat' (first | exact List.mem_cons_self | refine List.mem_cons_of_mem _ ?_)))) rfl rfl (by (try simp only [List.take_succ_cons, List.take_zero, List.take_nil, List.drop_succ_cons, List.drop_zero, List.drop_nil, List.cons_append, List.nil_append, List.append_nil, List.length_cons, List.length_nil, Nat.reduceAdd, Nat.zero_add, Nat.add_zero]); rfl) (by rfl)) ?_; with_reducible rfl); (try with_reducible rfl))
          (try simp only [Act.put, List.getElem_toArray, List.getElem_cons_succ, List.getElem_cons_zero, List.setIfInBounds_toArray, List.set_cons_zero, List.set_cons_succ])
          refine wpG_step (i := 2) (by kernel_rfl) rfl (by rfl) ?r3
          intro hS K hK
          (have M0 := hS.1 (by kernel_rfl); clear hS; go_simp; refine (spoiled_any (thinJ j p0 p1 (t + 1) (r)) _).mono ?_; rintro e V1 ⟨rfl, hb1⟩; refine hK.out _ _ ⟨fun _ => M0.call hb1, fun h => (no_of h (by kernel_rfl)).elim⟩ ?_; clear M0 hb1)
          clear hK K; intro W3
          (try simp only [Act.put, List.getElem_toArray, List.getElem_cons_succ, List.getElem_cons_zero, List.setIfInBounds_toArray, List.set_cons_zero, List.set_cons_succ])
          refine wpG_take (i := 3) (v := ?v4) rfl (by kernel_rfl) (by intro L w; simp only [getD_set_ne true (show (3 : Nat) ≠ 4 from by decide)]) (fun _ _ _ h => h) (Or.inl ⟨by rfl, ?y4⟩) ?r4
          case y4 => (intro w' hy; obtain ⟨L, hD, hl, hS⟩ := hy; clear hD hl hS; go_simp; (try with_reducible rfl))
          (try simp only [Act.put, List.getElem_toArray, List.getElem_cons_succ, List.getElem_cons_zero, List.setIfInBounds_toArray, List.set_cons_zero, List.set_cons_succ])
          refine wpG_step (i := 4) (by kernel_rfl) rfl (by rfl) ?r5
          intro hS K hK
          (have M0 := hS.1 (by kernel_rfl); clear hS; refine m_stw M0 rfl rfl (by first | exact (rfl : _ = Value.agg _) | exact (rfl : _ = Value.int _ _) | exact (rfl : _ = Value.bool _) | exact (rfl : _ = Value.slice _ _ _) | exact (rfl : _ = Value.pointer _) | exact (rfl : _ = Value.map _) | exact (rfl : _ = Value.func _ _ _) | exact (rfl : _ = Value.string _)) (by rfl) (by (repeat (first | exact Upd.head | apply Upd.tail))) (by (try simp only [List.take_succ_cons, List.take_zero, List.take_nil, List.drop_succ_cons, List.drop_zero, List.drop_nil, List.cons_append, List.nil_append, List.append_nil, List.length_cons, List.length_nil, Nat.reduceAdd, Nat.zero_add, Nat.add_zero]); rfl) (by simp) (by simp [Value.oneCell']) (by kernel_rfl) ?_; intro V2 M2; refine hK.out _ _ ⟨fun h => (no_of (by kernel_rfl) h).elim, fun _ => M2⟩ ?_; clear M0 M2)
          clear hK K; intro W5
          (try simp only [Act.put, List.getElem_toArray, List.getElem_cons_succ, List.getElem_cons_zero, List.setIfInBounds_toArray, List.set_cons_zero, List.set_cons_succ])
          refine wpG_take (i := 5) (v := ?v6) rfl (by kernel_rfl) (by intro L w; simp only [getD_set_ne true (show (5 : Nat) ≠ 4 from by decide)]) (fun _ _ _ h => h) (Or.inl ⟨by rfl, ?y6⟩) ?r6
          case y6 => (intro w' hy; obtain ⟨L, hD, hl, hS⟩ := hy; clear hD hl hS; go_simp; (try with_reducible rfl))
          (try simp only [Act.put, List.getElem_toArray, List.getElem_cons_succ, List.getElem_cons_zero, List.setIfInBounds_toArray, List.set_cons_zero, List.set_cons_succ])
          refine wpG_end (by kernel_rfl) ?_
          intro W
           hS
          have M1 := hS.2 (by kernel_rfl)
          clear hS
          go_wp2
          refine ret_M1 (t := 6) (t' := 7) (ty := 103) M1 (by rfl) (by rfl) (by rfl) (by rfl) (by (repeat' (first | exact List.mem_cons_self | refine List.mem_cons_of_mem _ ?_))) (by rfl) ?_
          exact ⟨rfl, M1.below⟩

set_option maxRecDepth 100000 in
set_option maxHeartbeats 2000000 in
theorem moved_root (j : Jb) (A : Option Addr) (c : Nat) (s0 s1 : Int) (bg bx : Nat) (p0 p1 t r lf : Int) (w : World) (hg : j.good) (hp0 : -100000 ≤ p0 ∧ p0 ≤ 100000) (hp1 : -100000 ≤ p1 ∧ p1 ≤ 100000) (ht : 0 ≤ t ∧ t ≤ 1000) (hr : 0 ≤ r ∧ r ≤ 1000) (hl : 1 ≤ lf ∧ lf ≤ 1000) :
    Calls Try.prog 109 #[.agg (gmA j A c s0 s1 bg bx).toArray, kn5 p0 p1 t r lf, .int .i64 2] w fun e w' => e = .returned (.tuple #[kn5 (p0 - j.d1) (p1 - j.d0) t (r + 1) (lf - 1), .bool (okT j (t) (r + 1))]) ∧ Below w.heap.size w w' := by
  obtain ⟨g1, g2, g3, g4, g5, g6, g7, g8, -, -, -, -⟩ := hg
  go_enter Try.func109, Try.ntmps109
  refine start noEx ?_
  intro wc M
  go_wp2_with (first | (refine m_ld1 M rfl rfl rfl (by (repeat' (first | exact List.mem_cons_self | refine List.mem_cons_of_mem _ ?_))) (by rfl) ?_) | (refine m_ldr M rfl rfl rfl (by (repeat' (first | exact List.mem_cons_self | refine List.mem_cons_of_mem _ ?_))) (by (try simp only [List.take_succ_cons, List.take_zero, List.take_nil, List.drop_succ_cons, List.drop_zero, List.drop_nil, List.cons_append, List.nil_append, List.append_nil, List.length_cons, List.length_nil, Nat.reduceAdd, Nat.zero_add, Nat.add_zero]); rfl) (by rfl) ?_) | (refine m_st M rfl rfl rfl (by first | exact (rfl : _ = Value.agg _) | exact (rfl : _ = Value.int _ _) | exact (rfl : _ = Value.bool _) | exact (rfl : _ = Value.slice _ _ _) | exact (rfl : _ = Value.pointer _) | exact (rfl : _ = Value.map _) | exact (rfl : _ = Value.func _ _ _) | exact (rfl : _ = Value.string _)) (by rfl) (by (repeat (first | exact Upd.head | apply Upd.tail))) (by (try simp only [List.take_succ_cons, List.take_zero, List.take_nil, List.drop_succ_cons, List.drop_zero, List.drop_nil, List.cons_append, List.nil_append, List.append_nil, List.length_cons, List.length_nil, Nat.reduceAdd, Nat.zero_add, Nat.add_zero]); rfl) (by simp) (by simp [Value.oneCell']) (by kernel_rfl) ?_; clear M; (try clear wc); intro wc M) | (refine m_al M rfl rfl ?_; clear M; (try clear wc); intro g wc M) | (refine m_bx M rfl rfl (by first | exact (rfl : _ = Value.agg _) | exact (rfl : _ = Value.int _ _) | exact (rfl : _ = Value.bool _) | exact (rfl : _ = Value.slice _ _ _) | exact (rfl : _ = Value.pointer _) | exact (rfl : _ = Value.map _) | exact (rfl : _ = Value.func _ _ _) | exact (rfl : _ = Value.string _)) (by rfl) ?_; clear M; (try clear wc); intro g wc M) | (go_at_call 104; ((with_reducible refine (filed_root_x p0 p1 j.t0 j.t1 j.r0 j.r1 j.u0 j.u1 j.d0 j.d1 j.a0 j.a1 j.b0 j.b1 j.le _ ?_).mono ?_); (constructor <;> dsimp only <;> omega); rintro e wc ⟨rfl, hb⟩; replace M := M.call hb; clear hb)))
  rename_i gG gK gR gS wq K0 hK0
  go_loopw [44] (fun v wr => ∃ i : Int, 0 ≤ i ∧ i ≤ t ∧ v = .int .i64 i ∧ Mem w noEx wr [(gS, .cells [.int .i64 p0, .int .i64 p1, .int .i64 (j.t0 - i * j.a1), .int .i64 (j.t1 - i * j.a0), .int .i64 (j.r0 - 0 * j.b1), .int .i64 (j.r1 - 0 * j.b0), .int .i64 j.u0, .int .i64 j.u1, .int .i64 j.d0, .int .i64 j.d1, .int .i64 j.a0, .int .i64 j.a1, .int .i64 j.b0, .int .i64 j.b1, .int .i64 j.le]), (gR, .cells [.int .i64 0, .int .i64 0, .int .i64 0, .int .i64 0, .int .i64 0]), (gK, .cells [.int .i64 (p0 - j.d1), .int .i64 (p1 - j.d0), .int .i64 (t), .int .i64 (r + 1), .int .i64 (lf - 1)])]) (fun v _ => (t - intOf v).toNat)
  case atStart => exact ⟨0, by omega, by omega, rfl, by simp only [Int.zero_mul, Int.sub_zero]; exact M.sub (by (repeat (first | exact List.Sublist.slnil | apply List.Sublist.cons_cons | apply List.Sublist.cons)))⟩
  case round =>
    clear M wc
    obtain ⟨i, hi0, hi1, rfl, M⟩ := hrel
    obtain ⟨wc, rfl⟩ : ∃ x : World, x = wr := ⟨_, rfl⟩
    have m1 := mul_bd hi0 (by omega) (by omega : 0 ≤ j.a1) (by omega)
    have m2 := mul_bd hi0 (by omega) (by omega : 0 ≤ j.a0) (by omega)
    by_cases hlt : i < t
    · have e1 := mul_suc i j.a1
      have e2 := mul_suc i j.a0
      have E : Hid (Value.int .i64 (j.t0 - i * j.a1 - j.a1) = .int .i64 (j.t0 - (i + 1) * j.a1) ∧ Value.int .i64 (j.t1 - i * j.a0 - j.a0) = .int .i64 (j.t1 - (i + 1) * j.a0)) := ⟨by rw [e1]; congr 1; omega, by rw [e2]; congr 1; omega⟩
      clear e1 e2
      go_wp2_with (first | (refine m_ld1 M rfl rfl rfl (by (repeat' (first | exact List.mem_cons_self | refine List.mem_cons_of_mem _ ?_))) (by rfl) ?_) | (refine m_ldr M rfl rfl rfl (by (repeat' (first | exact List.mem_cons_self | refine List.mem_cons_of_mem _ ?_))) (by (try simp only [List.take_succ_cons, List.take_zero, List.take_nil, List.drop_succ_cons, List.drop_zero, List.drop_nil, List.cons_append, List.nil_append, List.append_nil, List.length_cons, List.length_nil, Nat.reduceAdd, Nat.zero_add, Nat.add_zero]); rfl) (by rfl) ?_) | (refine m_st M rfl rfl rfl (by first | exact (rfl : _ = Value.agg _) | exact (rfl : _ = Value.int _ _) | exact (rfl : _ = Value.bool _) | exact (rfl : _ = Value.slice _ _ _) | exact (rfl : _ = Value.pointer _) | exact (rfl : _ = Value.map _) | exact (rfl : _ = Value.func _ _ _) | exact (rfl : _ = Value.string _)) (by rfl) (by (repeat (first | exact Upd.head | apply Upd.tail))) (by (try simp only [List.take_succ_cons, List.take_zero, List.take_nil, List.drop_succ_cons, List.drop_zero, List.drop_nil, List.cons_append, List.nil_append, List.append_nil, List.length_cons, List.length_nil, Nat.reduceAdd, Nat.zero_add, Nat.add_zero]); rfl) (by simp) (by simp [Value.oneCell']) (by kernel_rfl) ?_; clear M; (try clear wc); intro wc M) | (refine m_al M rfl rfl ?_; clear M; (try clear wc); intro g wc M) | (refine m_bx M rfl rfl (by first | exact (rfl : _ = Value.agg _) | exact (rfl : _ = Value.int _ _) | exact (rfl : _ = Value.bool _) | exact (rfl : _ = Value.slice _ _ _) | exact (rfl : _ = Value.pointer _) | exact (rfl : _ = Value.map _) | exact (rfl : _ = Value.func _ _ _) | exact (rfl : _ = Value.string _)) (by rfl) ?_; clear M; (try clear wc); intro g wc M) | (go_at_call 112; ((with_reducible refine (less_any _ _ _ _ _ (by omega) (by omega) (by omega) (by omega)).mono ?_); skip; rintro e wc ⟨rfl, hb⟩; replace M := M.call hb; clear hb)))
      go_roundw
      case rel => exact ⟨i + 1, by omega, by omega, rfl, by rw [E.out.1, E.out.2] at M; exact M⟩
      case measure => simp [intOf]; omega
    · have ei : t = i := (by omega); subst ei
      go_wp2_with (first | (refine m_ld1 M rfl rfl rfl (by (repeat' (first | exact List.mem_cons_self | refine List.mem_cons_of_mem _ ?_))) (by rfl) ?_) | (refine m_ldr M rfl rfl rfl (by (repeat' (first | exact List.mem_cons_self | refine List.mem_cons_of_mem _ ?_))) (by (try simp only [List.take_succ_cons, List.take_zero, List.take_nil, List.drop_succ_cons, List.drop_zero, List.drop_nil, List.cons_append, List.nil_append, List.append_nil, List.length_cons, List.length_nil, Nat.reduceAdd, Nat.zero_add, Nat.add_zero]); rfl) (by rfl) ?_) | (refine m_st M rfl rfl rfl (by first | exact (rfl : _ = Value.agg _) | exact (rfl : _ = Value.int _ _) | exact (rfl : _ = Value.bool _) | exact (rfl : _ = Value.slice _ _ _) | exact (rfl : _ = Value.pointer _) | exact (rfl : _ = Value.map _) | exact (rfl : _ = Value.func _ _ _) | exact (rfl : _ = Value.string _)) (by rfl) (by (repeat (first | exact Upd.head | apply Upd.tail))) (by (try simp only [List.take_succ_cons, List.take_zero, List.take_nil, List.drop_succ_cons, List.drop_zero, List.drop_nil, List.cons_append, List.nil_append, List.append_nil, List.length_cons, List.length_nil, Nat.reduceAdd, Nat.zero_add, Nat.add_zero]); rfl) (by simp) (by simp [Value.oneCell']) (by kernel_rfl) ?_; clear M; (try clear wc); intro wc M) | (refine m_al M rfl rfl ?_; clear M; (try clear wc); intro g wc M) | (refine m_bx M rfl rfl (by first | exact (rfl : _ = Value.agg _) | exact (rfl : _ = Value.int _ _) | exact (rfl : _ = Value.bool _) | exact (rfl : _ = Value.slice _ _ _) | exact (rfl : _ = Value.pointer _) | exact (rfl : _ = Value.map _) | exact (rfl : _ = Value.func _ _ _) | exact (rfl : _ = Value.string _)) (by rfl) ?_; clear M; (try clear wc); intro g wc M))
      go_loopw [58] (fun v wr => ∃ i : Int, 0 ≤ i ∧ i ≤ r + 1 ∧ v = .int .i64 i ∧ Mem w noEx wr [(gS, .cells [.int .i64 p0, .int .i64 p1, .int .i64 (j.t0 - t * j.a1), .int .i64 (j.t1 - t * j.a0), .int .i64 (j.r0 - i * j.b1), .int .i64 (j.r1 - i * j.b0), .int .i64 j.u0, .int .i64 j.u1, .int .i64 j.d0, .int .i64 j.d1, .int .i64 j.a0, .int .i64 j.a1, .int .i64 j.b0, .int .i64 j.b1, .int .i64 j.le]), (gR, .cells [.int .i64 0, .int .i64 0, .int .i64 0, .int .i64 0, .int .i64 0]), (gK, .cells [.int .i64 (p0 - j.d1), .int .i64 (p1 - j.d0), .int .i64 (t), .int .i64 (r + 1), .int .i64 (lf - 1)])]) (fun v _ => (r + 1 - intOf v).toNat)
      case atStart => exact ⟨0, by omega, by omega, rfl, by simp only [Int.zero_mul, Int.sub_zero] at M ⊢; exact M⟩
      case round =>
        clear M wc
        obtain ⟨i, hi0, hi1, rfl, M⟩ := hrel
        obtain ⟨wc, rfl⟩ : ∃ x : World, x = wr := ⟨_, rfl⟩
        have m3 := mul_bd hi0 (by omega) (by omega : 0 ≤ j.b1) (by omega)
        have m4 := mul_bd hi0 (by omega) (by omega : 0 ≤ j.b0) (by omega)
        by_cases hlt : i < r + 1
        · have e1 := mul_suc i j.b1
          have e2 := mul_suc i j.b0
          have E : Hid (Value.int .i64 (j.r0 - i * j.b1 - j.b1) = .int .i64 (j.r0 - (i + 1) * j.b1) ∧ Value.int .i64 (j.r1 - i * j.b0 - j.b0) = .int .i64 (j.r1 - (i + 1) * j.b0)) := ⟨by rw [e1]; congr 1; omega, by rw [e2]; congr 1; omega⟩
          clear e1 e2
          go_wp2_with (first | (refine m_ld1 M rfl rfl rfl (by (repeat' (first | exact List.mem_cons_self | refine List.mem_cons_of_mem _ ?_))) (by rfl) ?_) | (refine m_ldr M rfl rfl rfl (by (repeat' (first | exact List.mem_cons_self | refine List.mem_cons_of_mem _ ?_))) (by (try simp only [List.take_succ_cons, List.take_zero, List.take_nil, List.drop_succ_cons, List.drop_zero, List.drop_nil, List.cons_append, List.nil_append, List.append_nil, List.length_cons, List.length_nil, Nat.reduceAdd, Nat.zero_add, Nat.add_zero]); rfl) (by rfl) ?_) | (refine m_st M rfl rfl rfl (by first | exact (rfl : _ = Value.agg _) | exact (rfl : _ = Value.int _ _) | exact (rfl : _ = Value.bool _) | exact (rfl : _ = Value.slice _ _ _) | exact (rfl : _ = Value.pointer _) | exact (rfl : _ = Value.map _) | exact (rfl : _ = Value.func _ _ _) | exact (rfl : _ = Value.string _)) (by rfl) (by (repeat (first | exact Upd.head | apply Upd.tail))) (by (try simp only [List.take_succ_cons, List.take_zero, List.take_nil, List.drop_succ_cons, List.drop_zero, List.drop_nil, List.cons_append, List.nil_append, List.append_nil, List.length_cons, List.length_nil, Nat.reduceAdd, Nat.zero_add, Nat.add_zero]); rfl) (by simp) (by simp [Value.oneCell']) (by kernel_rfl) ?_; clear M; (try clear wc); intro wc M) | (refine m_al M rfl rfl ?_; clear M; (try clear wc); intro g wc M) | (refine m_bx M rfl rfl (by first | exact (rfl : _ = Value.agg _) | exact (rfl : _ = Value.int _ _) | exact (rfl : _ = Value.bool _) | exact (rfl : _ = Value.slice _ _ _) | exact (rfl : _ = Value.pointer _) | exact (rfl : _ = Value.map _) | exact (rfl : _ = Value.func _ _ _) | exact (rfl : _ = Value.string _)) (by rfl) ?_; clear M; (try clear wc); intro g wc M) | (go_at_call 112; ((with_reducible refine (less_any _ _ _ _ _ (by omega) (by omega) (by omega) (by omega)).mono ?_); skip; rintro e wc ⟨rfl, hb⟩; replace M := M.call hb; clear hb)))
          go_roundw
          case rel => exact ⟨i + 1, by omega, by omega, rfl, by rw [E.out.1, E.out.2] at M; exact M⟩
          case measure => simp [intOf]; omega
        · have ei : r + 1 = i := (by omega); subst ei
          go_wp2_with (first | (refine m_ld1 M rfl rfl rfl (by (repeat' (first | exact List.mem_cons_self | refine List.mem_cons_of_mem _ ?_))) (by rfl) ?_) | (refine m_ldr M rfl rfl rfl (by (repeat' (first | exact List.mem_cons_self | refine List.mem_cons_of_mem _ ?_))) (by (try simp only [List.take_succ_cons, List.take_zero, List.take_nil, List.drop_succ_cons, List.drop_zero, List.drop_nil, List.cons_append, List.nil_append, List.append_nil, List.length_cons, List.length_nil, Nat.reduceAdd, Nat.zero_add, Nat.add_zero]); rfl) (by rfl) ?_) | (refine m_st M rfl rfl rfl (by first | exact (rfl : _ = Value.agg _) | exact (rfl : _ = Value.int _ _) | exact (rfl : _ = Value.bool _) | exact (rfl : _ = Value.slice _ _ _) | exact (rfl : _ = Value.pointer _) | exact (rfl : _ = Value.map _) | exact (rfl : _ = Value.func _ _ _) | exact (rfl : _ = Value.string _)) (by rfl) (by (repeat (first | exact Upd.head | apply Upd.tail))) (by (try simp only [List.take_succ_cons, List.take_zero, List.take_nil, List.drop_succ_cons, List.drop_zero, List.drop_nil, List.cons_append, List.nil_append, List.append_nil, List.length_cons, List.length_nil, Nat.reduceAdd, Nat.zero_add, Nat.add_zero]); rfl) (by simp) (by simp [Value.oneCell']) (by kernel_rfl) ?_; clear M; (try clear wc); intro wc M) | (refine m_al M rfl rfl ?_; clear M; (try clear wc); intro g wc M) | (refine m_bx M rfl rfl (by first | exact (rfl : _ = Value.agg _) | exact (rfl : _ = Value.int _ _) | exact (rfl : _ = Value.bool _) | exact (rfl : _ = Value.slice _ _ _) | exact (rfl : _ = Value.pointer _) | exact (rfl : _ = Value.map _) | exact (rfl : _ = Value.func _ _ _) | exact (rfl : _ = Value.string _)) (by rfl) ?_; clear M; (try clear wc); intro g wc M))
          refine wp_region_G (fun L W => (L.getD 4 true = false → Mem w noEx W [(gS, .cells [.int .i64 p0, .int .i64 p1, .int .i64 (j.t0 - t * j.a1), .int .i64 (j.t1 - t * j.a0), .int .i64 (j.r0 - (r + 1) * j.b1), .int .i64 (j.r1 - (r + 1) * j.b0), .int .i64 j.u0, .int .i64 j.u1, .int .i64 j.d0, .int .i64 j.d1, .int .i64 j.a0, .int .i64 j.a1, .int .i64 j.b0, .int .i64 j.b1, .int .i64 j.le]), (gR, .cells [.int .i64 0, .int .i64 0, .int .i64 0, .int .i64 0, .int .i64 0]), (gK, .cells [.int .i64 (p0 - j.d1), .int .i64 (p1 - j.d0), .int .i64 (t), .int .i64 (r + 1), .int .i64 (lf - 1)])]) ∧ (L.getD 4 true = true → Mem w noEx W [(gS, .cells [.int .i64 p0, .int .i64 p1, .int .i64 (j.t0 - t * j.a1), .int .i64 (j.t1 - t * j.a0), .int .i64 (j.r0 - (r + 1) * j.b1), .int .i64 (j.r1 - (r + 1) * j.b0), .int .i64 j.u0, .int .i64 j.u1, .int .i64 j.d0, .int .i64 j.d1, .int .i64 j.a0, .int .i64 j.a1, .int .i64 j.b0, .int .i64 j.b1, .int .i64 j.le]), (gR, .cells [.int .i64 (p0 - j.d1), .int .i64 (p1 - j.d0), .int .i64 (t), .int .i64 (r + 1), .int .i64 (lf - 1)]), (gK, .cells [.int .i64 (p0 - j.d1), .int .i64 (p1 - j.d0), .int .i64 (t), .int .i64 (r + 1), .int .i64 (lf - 1)])])) 6 (by kernel_rfl) (by kernel_rfl) ?s0 ?r0
          case s0 => (exact ⟨fun _ => M.drew, fun h => (no_of h (by kernel_rfl)).elim⟩)
          intro W0
          refine wpG_take (i := 0) (v := ?v1) rfl (by kernel_rfl) (by intro L w; simp only [getD_set_ne true (show (0 : Nat) ≠ 4 from by decide)]) (fun _ _ _ h => h) (Or.inl ⟨by rfl, ?y1⟩) ?r1
          case y1 => (intro w' hy; obtain ⟨L, hD, hl, hS⟩ := hy; have M0 := hS.1 (hD.wait (i := 0) (by kernel_rfl) hl); clear hS; first | (refine Eq.trans (rn_one (Mem.get M0 (by (repeat' (first | exact List.mem_cons_self | refine List.mem_cons_of_mem _ ?_)))) rfl rfl (by rfl)) ?_; with_reducible rfl) | (refine Eq.trans (rn_row (Mem.get M0 (by (repeat' (first | exact List.mem_cons_self | refine List.mem_cons_of_mem _ ?_)))) rfl rfl (by (try simp only [List.take_succ_cons, List.take_zero, List.take_nil, List.drop_succ_cons, List.drop_zero, List.drop_nil, List.cons_append, List.nil_append, List.append_nil, List.length_cons, List.length_nil, Nat.reduceAdd, Nat.zero_add, Nat.add_zero]); rfl) (by rfl)) ?_; with_reducible rfl); (try with_reducible rfl))
          (try simp only [Act.put, List.getElem_toArray, List.getElem_cons_succ, List.getElem_cons_zero, List.setIfInBounds_toArray, List.set_cons_zero, List.set_cons_succ])
          refine wpG_take (i := 1) (v := ?v2) rfl (by kernel_rfl) (by intro L w; simp only [getD_set_ne true (show (1 : Nat) ≠ 4 from by decide)]) (fun _ _ _ h => h) (Or.inl ⟨by rfl, ?y2⟩) ?r2
          case y2 => (intro w' hy; obtain ⟨L, hD, hl, hS⟩ := hy; have M0 := hS.1 (hD.wait (i := 2) (by kernel_rfl) (hD.wait (m := 2) (i := 1) (by kernel_rfl) hl)); clear hS; first | (refine Eq.trans (rn_one (Mem.get M0 (by (repeat' (first | exact List.mem_cons_self | refine List.mem_cons_of_mem _ ?_)))) rfl rfl (by rfl)) ?_; with_reducible rfl) | (refine Eq.trans (rn_row (Mem.get M0 (by (repeat' (first | exact List.mem_cons_self | refine List.mem_cons_of_mem _ ?_)))) rfl rfl (by (try simp only [List.take_succ_cons, List.take_zero, List.take_nil, List.drop_succ_cons, List.drop_zero, List.drop_nil, List.cons_append, List.nil_append, List.append_nil, List.length_cons, List.length_nil, Nat.reduceAdd, Nat.zero_add, Nat.add_zero]); rfl) (by rfl)) ?_; with_reducible rfl); (try with_reducible rfl))
          (try simp only [Act.put, List.getElem_toArray, List.getElem_cons_succ, List.getElem_cons_zero, List.setIfInBounds_toArray, List.set_cons_zero, List.set_cons_succ])
          refine wpG_step (i := 2) (by kernel_rfl) rfl (by rfl) ?r3
          intro hS K hK
          (have M0 := hS.1 (by kernel_rfl); clear hS; go_simp; refine (spoiled_any (thinJ j p0 p1 (t) (r + 1)) _).mono ?_; rintro e V1 ⟨rfl, hb1⟩; refine hK.out _ _ ⟨fun _ => M0.call hb1, fun h => (no_of h (by kernel_rfl)).elim⟩ ?_; clear M0 hb1)
          clear hK K; intro W3
          (try simp only [Act.put, List.getElem_toArray, List.getElem_cons_succ, List.getElem_cons_zero, List.setIfInBounds_toArray, List.set_cons_zero, List.set_cons_succ])
          refine wpG_take (i := 3) (v := ?v4) rfl (by kernel_rfl) (by intro L w; simp only [getD_set_ne true (show (3 : Nat) ≠ 4 from by decide)]) (fun _ _ _ h => h) (Or.inl ⟨by rfl, ?y4⟩) ?r4
          case y4 => (intro w' hy; obtain ⟨L, hD, hl, hS⟩ := hy; clear hD hl hS; go_simp; (try with_reducible rfl))
          (try simp only [Act.put, List.getElem_toArray, List.getElem_cons_succ, List.getElem_cons_zero, List.setIfInBounds_toArray, List.set_cons_zero, List.set_cons_succ])
          refine wpG_step (i := 4) (by kernel_rfl) rfl (by rfl) ?r5
          intro hS K hK
          (have M0 := hS.1 (by kernel_rfl); clear hS; refine m_stw M0 rfl rfl (by first | exact (rfl : _ = Value.agg _) | exact (rfl : _ = Value.int _ _) | exact (rfl : _ = Value.bool _) | exact (rfl : _ = Value.slice _ _ _) | exact (rfl : _ = Value.pointer _) | exact (rfl : _ = Value.map _) | exact (rfl : _ = Value.func _ _ _) | exact (rfl : _ = Value.string _)) (by rfl) (by (repeat (first | exact Upd.head | apply Upd.tail))) (by (try simp only [List.take_succ_cons, List.take_zero, List.take_nil, List.drop_succ_cons, List.drop_zero, List.drop_nil, List.cons_append, List.nil_append, List.append_nil, List.length_cons, List.length_nil, Nat.reduceAdd, Nat.zero_add, Nat.add_zero]); rfl) (by simp) (by simp [Value.oneCell']) (by kernel_rfl) ?_; intro V2 M2; refine hK.out _ _ ⟨fun h => (no_of (by kernel_rfl) h).elim, fun _ => M2⟩ ?_; clear M0 M2)
          clear hK K; intro W5
          (try simp only [Act.put, List.getElem_toArray, List.getElem_cons_succ, List.getElem_cons_zero, List.setIfInBounds_toArray, List.set_cons_zero, List.set_cons_succ])
          refine wpG_take (i := 5) (v := ?v6) rfl (by kernel_rfl) (by intro L w; simp only [getD_set_ne true (show (5 : Nat) ≠ 4 from by decide)]) (fun _ _ _ h => h) (Or.inl ⟨by rfl, ?y6⟩) ?r6
          case y6 => (intro w' hy; obtain ⟨L, hD, hl, hS⟩ := hy; clear hD hl hS; go_simp; (try with_reducible rfl))
          (try simp only [Act.put, List.getElem_toArray, List.getElem_cons_succ, List.getElem_cons_zero, List.setIfInBounds_toArray, List.set_cons_zero, List.set_cons_succ])
          refine wpG_end (by kernel_rfl) ?_
          intro W
           hS
          have M1 := hS.2 (by kernel_rfl)
          clear hS
          go_wp2
          refine ret_M1 (t := 6) (t' := 7) (ty := 103) M1 (by rfl) (by rfl) (by rfl) (by rfl) (by (repeat' (first | exact List.mem_cons_self | refine List.mem_cons_of_mem _ ?_))) (by rfl) ?_
          exact ⟨rfl, M1.below⟩

end Go.Proofs.Ythlpceoajhcliaa
end

section
/-
  The laws of memory for a walk inside a fence.
-/
namespace Go.Proofs.Ythlpceoajhcliaa
set_option linter.unusedSimpArgs false
set_option linter.unusedVariables false
open Go.RowKit Go.Shelf

section
variable {F : Fence} {nF : Nat} {P : Program} {ops : Array Oper} {rest : List Oper} {op : Oper} {a : Act} {Q : Exit → Act → World → Prop} {w0 w : World} {ex : Nat → Prop} {L : List (Nat × BA)}

theorem i_ldr {ty : TypeId} {n : Nat} [RowTy P ty n] {x : Operand} {g o : Nat} {cs ds : List Value} (M : Mem w0 ex w L) (hgd : op.guard = none) (ho : op.op = .load ty x) (hx : a.eval x = .pointer (some ⟨g, o, none⟩)) (hm : (g, BA.cells cs) ∈ L)
    (hd : (cs.drop o).take n = ds) (hn : Nat.ble (o + n) cs.length = true) (h : wpListIn F nF P ops Q rest (a.put op.dst (.agg ds.toArray)) w) : wpListIn F nF P ops Q (op :: rest) a w :=
  wpListIn_plain hgd fun _ hK => by
    unfold Oper.wpIn
    refine ⟨by simp [Oper.about, ho], ?_⟩
    rw [Oper.semAt_plain F _ _ (by rw [ho]; intro c hc'; cases hc')]
    unfold execOp
    simp only [ho, hx, Instr.loadAt, Instr.sureAddr, Sem.run_bind, Sem.run_pure, Result.andThen_ok, run_load_row (M.get hm) hd hn]
    exact hK _ _ h
theorem i_ld1 {ty : TypeId} [OneTy P ty] {x : Operand} {g o : Nat} {cs : List Value} {v : Value} (M : Mem w0 ex w L) (hgd : op.guard = none) (ho : op.op = .load ty x) (hx : a.eval x = .pointer (some ⟨g, o, none⟩)) (hm : (g, BA.cells cs) ∈ L)
    (hv : cs[o]? = some v) (h : wpListIn F nF P ops Q rest (a.put op.dst v) w) : wpListIn F nF P ops Q (op :: rest) a w :=
  wpListIn_plain hgd fun _ hK => by
    unfold Oper.wpIn
    refine ⟨by simp [Oper.about, ho], ?_⟩
    rw [Oper.semAt_plain F _ _ (by rw [ho]; intro c hc'; cases hc')]
    unfold execOp
    simp only [ho, hx, Instr.loadAt, Instr.sureAddr, Sem.run_bind, Sem.run_pure, Result.andThen_ok, run_load_one (M.get hm) hv]
    exact hK _ _ h
theorem i_lor {ty : TypeId} {n : Nat} [RowTy P ty n] {x : Operand} {g o : Nat} {cs ds : List Value} (hB : Bk w g cs.toArray) (hgd : op.guard = none) (ho : op.op = .load ty x) (hx : a.eval x = .pointer (some ⟨g, o, none⟩))
    (hd : (cs.drop o).take n = ds) (hn : Nat.ble (o + n) cs.length = true) (h : wpListIn F nF P ops Q rest (a.put op.dst (.agg ds.toArray)) w) : wpListIn F nF P ops Q (op :: rest) a w :=
  wpListIn_plain hgd fun _ hK => by
    unfold Oper.wpIn
    refine ⟨by simp [Oper.about, ho], ?_⟩
    rw [Oper.semAt_plain F _ _ (by rw [ho]; intro c hc'; cases hc')]
    unfold execOp
    simp only [ho, hx, Instr.loadAt, Instr.sureAddr, Sem.run_bind, Sem.run_pure, Result.andThen_ok, run_load_row hB hd hn]
    exact hK _ _ h
theorem i_st {ty : TypeId} {x y : Operand} {g o : Nat} {v : Value} {cs ds cs' : List Value} {L' : List (Nat × BA)} (M : Mem w0 ex w L) (hgd : op.guard = none) (ho : op.op = .store ty x y) (hx : a.eval x = .pointer (some ⟨g, o, none⟩)) (hy : a.eval y = v) (hv : v.cells = ds.toArray)
    (hu : Upd L g (.cells cs) (.cells cs') L') (hc : cs.take o ++ ds ++ cs.drop (o + ds.length) = cs') (hs : o + ds.length ≤ cs.length) (h1 : ds.all (·.oneCell') = true) (hi : (P.info? ty).map (·.size) = some ds.length)
    (h : ∀ w', Mem w0 ex w' L' → Oth w w' g → wpListIn F nF P ops Q rest (a.put op.dst undef) w') : wpListIn F nF P ops Q (op :: rest) a w :=
  wpListIn_plain hgd fun _ hK => by
    have hB := M.get hu.mem
    unfold Oper.wpIn
    refine ⟨by simp [Oper.about, ho], ?_⟩
    rw [Oper.semAt_plain F _ _ (by rw [ho]; intro c hc'; cases hc')]
    unfold execOp
    simp only [ho, hx, hy, Instr.storeAt, Instr.sureAddr, Sem.run_bind, Sem.run_pure, Result.andThen_ok, run_store_any hi hB hv h1 hs]
    exact hK _ _ (h _ (M.write hu (Oth.setCells g _ _ _) (hB.storeAt o ds cs' (by simpa using hs) (by simpa using hc.symm))) (Oth.setCells g _ _ _))
theorem i_al {ty : TypeId} {l : List Value} [ZeroTy P ty l] (M : Mem w0 ex w L) (hgd : op.guard = none) (ho : op.op = .alloc ty)
    (h : ∀ g w', Mem w0 ex w' ((g, .cells l) :: L) → wpListIn F nF P ops Q rest (a.put op.dst (.pointer (some ⟨g, 0, none⟩))) w') : wpListIn F nF P ops Q (op :: rest) a w :=
  wpListIn_plain hgd fun _ hK => by
    unfold Oper.wpIn
    refine ⟨by simp [Oper.about, ho], ?_⟩
    rw [Oper.semAt_plain F _ _ (by rw [ho]; intro c hc'; cases hc')]
    unfold execOp
    simp only [ho, Sem.run_bind, Sem.run_pure, Result.andThen_ok, run_alloc_any (P := P) (ty := ty)]
    exact hK _ _ (h _ _ (M.new l ty))
theorem i_bx {ty : TypeId} {x : Operand} {v : Value} {l : List Value} (M : Mem w0 ex w L) (hgd : op.guard = none) (ho : op.op = .box ty x) (hx : a.eval x = v) (hv : v.cells = l.toArray)
    (h : ∀ g w', Mem w0 ex w' ((g, .cells l) :: L) → wpListIn F nF P ops Q rest (a.put op.dst (.pointer (some ⟨g, 0, none⟩))) w') : wpListIn F nF P ops Q (op :: rest) a w :=
  wpListIn_plain hgd fun _ hK => by
    unfold Oper.wpIn
    refine ⟨by simp [Oper.about, ho], ?_⟩
    rw [Oper.semAt_plain F _ _ (by rw [ho]; intro c hc'; cases hc')]
    unfold execOp
    simp only [ho, hx, Instr.box, Sem.run_bind, Sem.run_pure, Result.andThen_ok, newVar, newRow, run_newObj_alloc, hv]
    exact hK _ _ (h _ _ (M.new l ty))
theorem i_start {c : Code} (M : Mem w0 ex w L) (h : ∀ w', Mem w0 ex w' L → c.wpIn F nF P Q a w') : c.wpIn F nF P Q a w := h w M
end
end Go.Proofs.Ythlpceoajhcliaa
end

section
/-
  reed: a tuner who is to read the meter.
-/
namespace Go.Proofs.Ythlpceoajhcliaa
set_option linter.unusedSimpArgs false
set_option linter.unusedVariables false
open Go.RowKit Go.Shelf
attribute [local go_sem] Oper.semAt_some

/-- Whether a tuner who has read the meter can be sure to stop with so many strokes. -/
def stopsP (j : Jb) (s0 s1 : Int) : Nat → Int → Int → Int → Int → Bool
  | 0, p0, p1, _, _ => hasB s0 s1 p0 p1
  | n + 1, p0, p1, t, r => hasB s0 s1 p0 p1 || ((okT j (t + 1) r && (rdgs (p0 + j.u0) (p1 + j.u1) j.me).all fun x => stopsP j s0 s1 n x.1 x.2 (t + 1) r) || (okT j t (r + 1) && (rdgs (p0 - j.d1) (p1 - j.d0) j.me).all fun x => stopsP j s0 s1 n x.1 x.2 t (r + 1)))
def readsP (j : Jb) (s0 s1 : Int) (n : Nat) (p0 p1 t r : Int) : Bool := (rdgs p0 p1 j.me).all fun x => stopsP j s0 s1 n x.1 x.2 t r
def strokeP (j : Jb) (s0 s1 : Int) : Nat → Int → Int → Int → Int → Int
  | 0, _, _, _, _ => 0
  | n + 1, p0, p1, t, r => if (okT j (t + 1) r && readsP j s0 s1 n (p0 + j.u0) (p1 + j.u1) (t + 1) r) = true then 1 else if (okT j t (r + 1) && readsP j s0 s1 n (p0 - j.d1) (p1 - j.d0) t (r + 1)) = true then 2 else 0
theorem stopsP_eq (j : Jb) (s0 s1 : Int) (n : Nat) (p0 p1 t r : Int) : stopsP j s0 s1 n p0 p1 t r = (hasB s0 s1 p0 p1 || decide (0 < strokeP j s0 s1 n p0 p1 t r)) := by
  cases n with
  | zero => simp [stopsP, strokeP]
  | succ n =>
    show (hasB s0 s1 p0 p1 || ((okT j (t + 1) r && readsP j s0 s1 n (p0 + j.u0) (p1 + j.u1) (t + 1) r) || (okT j t (r + 1) && readsP j s0 s1 n (p0 - j.d1) (p1 - j.d0) t (r + 1)))) = (hasB s0 s1 p0 p1 || decide (0 < (if (okT j (t + 1) r && readsP j s0 s1 n (p0 + j.u0) (p1 + j.u1) (t + 1) r) = true then (1 : Int) else if (okT j t (r + 1) && readsP j s0 s1 n (p0 - j.d1) (p1 - j.d0) t (r + 1)) = true then 2 else 0)))
    generalize (okT j (t + 1) r && readsP j s0 s1 n (p0 + j.u0) (p1 + j.u1) (t + 1) r) = x
    generalize (okT j t (r + 1) && readsP j s0 s1 n (p0 - j.d1) (p1 - j.d0) t (r + 1)) = y
    cases x <;> cases y <;> rfl

/-- What is remembered is right. -/
def okG (j : Jb) (s0 s1 : Int) (key v : Value) : Prop := ∀ (p0 p1 t r : Int) (n : Nat), key = kn5 p0 p1 t r n → v = .bool (stopsP j s0 s1 n p0 p1 t r)
def memG (j : Jb) (s0 s1 : Int) : BA := .any (memoQ Try.prog 103 (okG j s0 s1))
structure Bnd (n : Nat) (p0 p1 t r : Int) : Prop where
  lv : n ≤ 10
  p0 : -(100000 - 100 * (n : Int)) ≤ p0 ∧ p0 ≤ 100000 - 100 * (n : Int)
  p1 : -(100000 - 100 * (n : Int)) ≤ p1 ∧ p1 ≤ 100000 - 100 * (n : Int)
  t : 0 ≤ t ∧ t ≤ 900 - (n : Int)
  r : 0 ≤ r ∧ r ≤ 900 - (n : Int)
/-- A game in memory: what its blocks are. -/
structure Gm (j : Jb) (A : Option Addr) (c : Nat) (s0 s1 : Int) (bg bx bm : Nat) (w : World) : Prop where
  g : Bk w bg (gmA j A c s0 s1 bg bx).toArray
  x : Bk w bx #[.map (some bm)]
  m : (memG j s0 s1).holds w bm
  ng : bg ≠ bm
  nx : bx ≠ bm
def GPost (j : Jb) (s0 s1 : Int) (bm : Nat) (v : Value) (w : World) (e : Ending) (w' : World) : Prop := e = .returned v ∧ w.grownBy w' (some bm) ∧ (memG j s0 s1).holds w' bm
def StopsC (j : Jb) (A : Option Addr) (c : Nat) (s0 s1 : Int) (bg bx bm : Nat) (n : Nat) : Prop :=
  ∀ (p0 p1 t r : Int) (w : World), Bnd n p0 p1 t r → Gm j A c s0 s1 bg bx bm w →
    Calls Try.prog 105 #[kn5 p0 p1 t r n, .pointer (some ⟨bg, 0, none⟩), .pointer (some ⟨bx, 0, none⟩)] w (GPost j s0 s1 bm (.bool (stopsP j s0 s1 n p0 p1 t r)) w)

section
variable {j : Jb} {A : Option Addr} {c : Nat} {s0 s1 : Int} {bg bx bm : Nat} {w w' : World}
theorem Gm.kept (h : Gm j A c s0 s1 bg bx bm w) (hg : w.grownBy w' (some bm)) (hm : (memG j s0 s1).holds w' bm) : Gm j A c s0 s1 bg bx bm w' :=
  ⟨h.g.grown hg (fun e => h.ng (by injection e)), h.x.grown hg (fun e => h.nx (by injection e)), hm, h.ng, h.nx⟩
theorem Gm.same (h : Gm j A c s0 s1 bg bx bm w) (hs : w.heap.size ≤ w'.heap.size) (hb : ∀ b, b < w.heap.size → w'.heap[b]? = w.heap[b]?) : Gm j A c s0 s1 bg bx bm w' :=
  ⟨BA.same (p := .cells (gmA j A c s0 s1 bg bx)) h.g hs (hb _ h.g.lt), BA.same (p := .cells [.map (some bm)]) h.x hs (hb _ h.x.lt), BA.same h.m hs (hb _ (BA.lt h.m)), h.ng, h.nx⟩
theorem Gm.mem {ex : Nat → Prop} {L : List (Nat × BA)} (h : Gm j A c s0 s1 bg bx bm w) (M : Mem w (fun b => b = bm) w' L) (hm : (bm, memG j s0 s1) ∈ L) : Gm j A c s0 s1 bg bx bm w' := h.kept M.grown (M.at hm)
end

def allS (j : Jb) (s0 s1 : Int) (n : Nat) (t r : Int) {B : Int} (pre : List (Rg B)) : Bool := (pre.map Subtype.val).all fun x => stopsP j s0 s1 n x.1 x.2 t r
theorem allS_snoc (j : Jb) (s0 s1 : Int) (n : Nat) (t r : Int) {B : Int} (pre : List (Rg B)) (x : Rg B) : allS j s0 s1 n t r (pre ++ [x]) = (allS j s0 s1 n t r pre && stopsP j s0 s1 n x.1.1 x.1.2 t r) := by simp [allS]

set_option maxRecDepth 100000 in
set_option maxHeartbeats 1000000 in
theorem reads_any (j : Jb) (A : Option Addr) (c : Nat) (s0 s1 : Int) (bg bx bm : Nat) (n : Nat) (hj : j.good) (hS : StopsC j A c s0 s1 bg bx bm n) (p0 p1 t r : Int) (w : World) (hb : Bnd n p0 p1 t r) (hg : Gm j A c s0 s1 bg bx bm w) :
    Calls Try.prog 75 #[.agg (gmA j A c s0 s1 bg bx).toArray, kn5 p0 p1 t r n] w (GPost j s0 s1 bm (.bool (readsP j s0 s1 n p0 p1 t r)) w) := by
  have HS := Lib.hid hS
  have HG := Lib.hid hg
  have HB := Lib.hid hb
  have M := Mem.initEx hg.m
  clear hS hg hb
  refine (callsIn_wide (n := 8)).1 (callsIn_of_wp_marks Try.func75 rfl trivial (wpIn_wide.2 ?_) rfl)
  simp only [Try.ntmps75, List.size_toArray, List.length_cons, List.length_nil, Nat.reduceAdd, Nat.reduceSub, Array.replicate_succ, Array.replicate_zero, List.push_toArray, List.append_toArray, List.nil_append, List.cons_append]
  refine m_start M ?_
  clear M
  intro wc M
  go_wp2_with (first | (refine m_ld1 M rfl rfl rfl (by (repeat' (first | exact List.mem_cons_self | refine List.mem_cons_of_mem _ ?_))) (by rfl) ?_) | (refine m_ldr M rfl rfl rfl (by (repeat' (first | exact List.mem_cons_self | refine List.mem_cons_of_mem _ ?_))) (by (try simp only [List.take_succ_cons, List.take_zero, List.take_nil, List.drop_succ_cons, List.drop_zero, List.drop_nil, List.cons_append, List.nil_append, List.append_nil, List.length_cons, List.length_nil, Nat.reduceAdd, Nat.zero_add, Nat.add_zero]); rfl) (by rfl) ?_) | (refine m_st M rfl rfl rfl (by first | exact (rfl : _ = Value.agg _) | exact (rfl : _ = Value.int _ _) | exact (rfl : _ = Value.bool _) | exact (rfl : _ = Value.slice _ _ _) | exact (rfl : _ = Value.pointer _) | exact (rfl : _ = Value.map _) | exact (rfl : _ = Value.func _ _ _) | exact (rfl : _ = Value.string _)) (by rfl) (by (repeat (first | exact Upd.head | apply Upd.tail))) (by (try simp only [List.take_succ_cons, List.take_zero, List.take_nil, List.drop_succ_cons, List.drop_zero, List.drop_nil, List.cons_append, List.nil_append, List.append_nil, List.length_cons, List.length_nil, Nat.reduceAdd, Nat.zero_add, Nat.add_zero]); rfl) (by simp) (by simp [Value.oneCell']) (by kernel_rfl) ?_; clear M; (try clear wc); intro wc M) | (refine m_al M rfl rfl ?_; clear M; (try clear wc); intro g wc M) | (refine m_bx M rfl rfl (by first | exact (rfl : _ = Value.agg _) | exact (rfl : _ = Value.int _ _) | exact (rfl : _ = Value.bool _) | exact (rfl : _ = Value.slice _ _ _) | exact (rfl : _ = Value.pointer _) | exact (rfl : _ = Value.map _) | exact (rfl : _ = Value.func _ _ _) | exact (rfl : _ = Value.string _)) (by rfl) ?_; clear M; (try clear wc); intro g wc M))
  apply wp_scope_straight
  go_wp2_with (first | (refine m_ld1 M rfl rfl rfl (by (repeat' (first | exact List.mem_cons_self | refine List.mem_cons_of_mem _ ?_))) (by rfl) ?_) | (refine m_ldr M rfl rfl rfl (by (repeat' (first | exact List.mem_cons_self | refine List.mem_cons_of_mem _ ?_))) (by (try simp only [List.take_succ_cons, List.take_zero, List.take_nil, List.drop_succ_cons, List.drop_zero, List.drop_nil, List.cons_append, List.nil_append, List.append_nil, List.length_cons, List.length_nil, Nat.reduceAdd, Nat.zero_add, Nat.add_zero]); rfl) (by rfl) ?_) | (refine m_st M rfl rfl rfl (by first | exact (rfl : _ = Value.agg _) | exact (rfl : _ = Value.int _ _) | exact (rfl : _ = Value.bool _) | exact (rfl : _ = Value.slice _ _ _) | exact (rfl : _ = Value.pointer _) | exact (rfl : _ = Value.map _) | exact (rfl : _ = Value.func _ _ _) | exact (rfl : _ = Value.string _)) (by rfl) (by (repeat (first | exact Upd.head | apply Upd.tail))) (by (try simp only [List.take_succ_cons, List.take_zero, List.take_nil, List.drop_succ_cons, List.drop_zero, List.drop_nil, List.cons_append, List.nil_append, List.append_nil, List.length_cons, List.length_nil, Nat.reduceAdd, Nat.zero_add, Nat.add_zero]); rfl) (by simp) (by simp [Value.oneCell']) (by kernel_rfl) ?_; clear M; (try clear wc); intro wc M) | (refine m_al M rfl rfl ?_; clear M; (try clear wc); intro g wc M) | (refine m_bx M rfl rfl (by first | exact (rfl : _ = Value.agg _) | exact (rfl : _ = Value.int _ _) | exact (rfl : _ = Value.bool _) | exact (rfl : _ = Value.slice _ _ _) | exact (rfl : _ = Value.pointer _) | exact (rfl : _ = Value.map _) | exact (rfl : _ = Value.func _ _ _) | exact (rfl : _ = Value.string _)) (by rfl) ?_; clear M; (try clear wc); intro g wc M))
  apply wp_label
  go_wp2_with (first | (refine m_ld1 M rfl rfl rfl (by (repeat' (first | exact List.mem_cons_self | refine List.mem_cons_of_mem _ ?_))) (by rfl) ?_) | (refine m_ldr M rfl rfl rfl (by (repeat' (first | exact List.mem_cons_self | refine List.mem_cons_of_mem _ ?_))) (by (try simp only [List.take_succ_cons, List.take_zero, List.take_nil, List.drop_succ_cons, List.drop_zero, List.drop_nil, List.cons_append, List.nil_append, List.append_nil, List.length_cons, List.length_nil, Nat.reduceAdd, Nat.zero_add, Nat.add_zero]); rfl) (by rfl) ?_) | (refine m_st M rfl rfl rfl (by first | exact (rfl : _ = Value.agg _) | exact (rfl : _ = Value.int _ _) | exact (rfl : _ = Value.bool _) | exact (rfl : _ = Value.slice _ _ _) | exact (rfl : _ = Value.pointer _) | exact (rfl : _ = Value.map _) | exact (rfl : _ = Value.func _ _ _) | exact (rfl : _ = Value.string _)) (by rfl) (by (repeat (first | exact Upd.head | apply Upd.tail))) (by (try simp only [List.take_succ_cons, List.take_zero, List.take_nil, List.drop_succ_cons, List.drop_zero, List.drop_nil, List.cons_append, List.nil_append, List.append_nil, List.length_cons, List.length_nil, Nat.reduceAdd, Nat.zero_add, Nat.add_zero]); rfl) (by simp) (by simp [Value.oneCell']) (by kernel_rfl) ?_; clear M; (try clear wc); intro wc M) | (refine m_al M rfl rfl ?_; clear M; (try clear wc); intro g wc M) | (refine m_bx M rfl rfl (by first | exact (rfl : _ = Value.agg _) | exact (rfl : _ = Value.int _ _) | exact (rfl : _ = Value.bool _) | exact (rfl : _ = Value.slice _ _ _) | exact (rfl : _ = Value.pointer _) | exact (rfl : _ = Value.map _) | exact (rfl : _ = Value.func _ _ _) | exact (rfl : _ = Value.string _)) (by rfl) ?_; clear M; (try clear wc); intro g wc M) | (go_at_call 107; refine (readings_any _ _ _ _).mono ?_; rintro e wc ⟨b1, b2, rfl, N⟩; replace M := M.join N; clear N; simp only [List.cons_append, List.nil_append] at M))
  rename_i gG gK wq K0 hK0
  have hnd := M.nd
  simp only [List.map_cons, List.map_nil, List.nodup_cons, List.mem_cons, not_or, List.not_mem_nil, not_false_eq_true, List.nodup_nil, and_true] at hnd
  obtain ⟨⟨-, -, -, -, nx2⟩, ⟨-, -, -, nx1⟩, ⟨-, -, nxA⟩, -⟩ := hnd
  have hz0 := M.size
  have q1 := M.get (g := b1) (by (repeat' (first | exact List.mem_cons_self | refine List.mem_cons_of_mem _ ?_)))
  have q2 := M.get (g := b2) (by (repeat' (first | exact List.mem_cons_self | refine List.mem_cons_of_mem _ ?_)))
  replace M := M.forget.forget
  have hL : ∀ p ∈ [(g, BA.cells [.bool true]), (gK, .cells [.int .i64 p0, .int .i64 p1, .int .i64 t, .int .i64 r, .int .i64 n]), (gG, .cells (gmA j A c s0 s1 bg bx)), (bm, memG j s0 s1)], p.1 < wc.heap.size := fun p hp => BA.lt (M.blk p hp).2
  have hL' : ∀ p ∈ [(g, BA.cells [.bool false]), (gK, .cells [.int .i64 p0, .int .i64 p1, .int .i64 t, .int .i64 r, .int .i64 n]), (gG, .cells (gmA j A c s0 s1 bg bx)), (bm, memG j s0 s1)], p.1 < wc.heap.size := by
    intro p hp
    rcases List.mem_cons.1 hp with rfl | hp
    · exact hL (g, BA.cells [.bool true]) List.mem_cons_self
    · exact hL p (List.mem_cons_of_mem _ hp)
  have hlm : bm < wc.heap.size := hL (bm, memG j s0 s1) (by (repeat' (first | exact List.mem_cons_self | refine List.mem_cons_of_mem _ ?_)))
  have hlg : g < wc.heap.size := hL (g, BA.cells [.bool true]) (by (repeat' (first | exact List.mem_cons_self | refine List.mem_cons_of_mem _ ?_)))
  obtain ⟨hlv, hb0, hb1, hbt, hbr⟩ := HB.out
  have hme := hj.me
  refine (wpIn_wide (n := 8)).1 (wpIn_rangeFunc_ownH (α := Rg (100000 - 100 * (n : Int))) rfl (by omega) (gf := 113) (lb := #[.pointer (some ⟨b1, 0, none⟩), .pointer (some ⟨b2, 0, none⟩)]) rfl trivial (enters_of Try.func113 (by kernel_rfl) rfl)
    (readings_stops 7 (by omega) b1 b2 wc.heap.size bm p0 p1 j.me _ (by omega) (by omega) hb0 hb1 (by omega) (by omega) q1.lt q2.lt nx1 nx2 wc q1 q2)
    (fun h k => Kp.t h k) (fun W l o o' hl h _ _ => ⟨by simp, fun b hb _ => World.putObj_heap_other (by omega)⟩) (Below.refl _ _) (fun _ => rfl)
    (fun pre W => Mem w (fun b => b = bm) W [(g, BA.cells [.bool true]), (gK, .cells [.int .i64 p0, .int .i64 p1, .int .i64 t, .int .i64 r, .int .i64 n]), (gG, .cells (gmA j A c s0 s1 bg bx)), (bm, memG j s0 s1)] ∧ Hid (allS j s0 s1 n t r pre = true) ∧ wc.heap.size ≤ W.heap.size)
    (fun cd pre W => cd = .exit 0 ∧ Mem w (fun b => b = bm) W [(g, BA.cells [.bool false]), (gK, .cells [.int .i64 p0, .int .i64 p1, .int .i64 t, .int .i64 r, .int .i64 n]), (gG, .cells (gmA j A c s0 s1 bg bx)), (bm, memG j s0 s1)] ∧ Hid (allS j s0 s1 n t r pre = false) ∧ wc.heap.size ≤ W.heap.size)
    (fun s W W' row hs hg hr => ⟨hs.1.far hg (fun r e => (hr r e).1) hz0 hL, hs.2.1, Nat.le_trans hs.2.2 hg.size⟩)
    (fun cd s W W' row hs hg hr => ⟨hs.1, hs.2.1.far hg (fun r e => (hr r e).1) hz0 hL', hs.2.2.1, Nat.le_trans hs.2.2.2 hg.size⟩)
    ⟨M, rfl, Nat.le_refl _⟩
    (fun x a' W => ∃ gx, Bk W gx #[.int .i64 x.1.1, .int .i64 x.1.2] ∧ a' = { tmps := #[.agg (gmA j A c s0 s1 bg bx).toArray, kn5 p0 p1 t r n, .pointer (some ⟨gG, 0, none⟩), .pointer (some ⟨gK, 0, none⟩), .bool false, .pointer (some ⟨g, 0, none⟩), .pointer (some ⟨gx, 0, none⟩), .pointer (some ⟨gK, 0, none⟩), R2 p0 p1, .pointer (some ⟨gG, 0, none⟩), .pointer (some ⟨gG, 17, none⟩), .int .i64 j.me, .func (.func 113) #[] #[.pointer (some ⟨b1, 0, none⟩), .pointer (some ⟨b2, 0, none⟩)], R2 x.1.1 x.1.2, undef, undef, undef, undef, undef, undef, undef, undef, undef, undef, undef, undef, undef], defers := [] })
    (fun x a' _ W W' row hs hg hr => by
      obtain ⟨gx, bX, rfl⟩ := hs
      refine ⟨gx, bX.grown hg (fun e => ?_), rfl⟩
      obtain ⟨_, o, ho, hc⟩ := hr gx e.symm
      have h1 := bX.cell 0
      simp only [World.cell?, ho] at h1
      cases o <;> simp [Obj.isCells] at hc h1)
    ?assign ?body ?done ?stop)
  case assign =>
    rintro l pre x W K ⟨M1, hp, hz⟩ hK
    gi_wp2
    exact hK _ _ ((KeepsOthers.alloc _ _).from _) ⟨by simp, fun b hb _ => (MapKept.heap_alloc W _).2 b (by omega)⟩ ⟨M1.alloc _, hp, by simp; omega⟩ ⟨W.heap.size, Bk.new W _ _, rfl⟩
  case body =>
    rintro l pre x a' W hl - ⟨M, hp, hz⟩ ⟨gx, bX, rfl⟩ hlt
    have C := HS.out x.1.1 x.1.2 t r W ⟨hlv, x.2.1, x.2.2, hbt, hbr⟩ (HG.out.kept M.grown (M.at (q := (bm, memG j s0 s1)) (by (repeat' (first | exact List.mem_cons_self | refine List.mem_cons_of_mem _ ?_)))))
    have HP : Hid (allS j s0 s1 n t r (pre ++ [x]) = stopsP j s0 s1 n x.1.1 x.1.2 t r) := by (show _ = _; rw [allS_snoc, hp.out]; simp)
    cases hv : stopsP j s0 s1 n x.1.1 x.1.2 t r with
    | true =>
      rw [hv] at C HP
      clear hv
      gi_wp2_with (first | (refine i_ld1 M rfl rfl rfl (by (repeat' (first | exact List.mem_cons_self | refine List.mem_cons_of_mem _ ?_))) (by rfl) ?_) | (refine i_ldr M rfl rfl rfl (by (repeat' (first | exact List.mem_cons_self | refine List.mem_cons_of_mem _ ?_))) (by (try simp only [List.take_succ_cons, List.take_zero, List.take_nil, List.drop_succ_cons, List.drop_zero, List.drop_nil, List.cons_append, List.nil_append, List.append_nil, List.length_cons, List.length_nil, Nat.reduceAdd, Nat.zero_add, Nat.add_zero]); rfl) (by rfl) ?_) | (refine i_al M rfl rfl ?_; clear M; (try clear wc); intro g wc M) | (refine i_bx M rfl rfl (by first | exact (rfl : _ = Value.agg _) | exact (rfl : _ = Value.int _ _) | exact (rfl : _ = Value.bool _) | exact (rfl : _ = Value.slice _ _ _) | exact (rfl : _ = Value.pointer _) | exact (rfl : _ = Value.map _) | exact (rfl : _ = Value.func _ _ _) | exact (rfl : _ = Value.string _)) (by rfl) ?_; clear M; (try clear wc); intro g wc M) | (refine i_st M rfl rfl rfl (by first | exact (rfl : _ = Value.agg _) | exact (rfl : _ = Value.int _ _) | exact (rfl : _ = Value.bool _) | exact (rfl : _ = Value.slice _ _ _) | exact (rfl : _ = Value.pointer _) | exact (rfl : _ = Value.map _) | exact (rfl : _ = Value.func _ _ _) | exact (rfl : _ = Value.string _)) (by rfl) (by (repeat (first | exact Upd.head | apply Upd.tail))) (by (try simp only [List.take_succ_cons, List.take_zero, List.take_nil, List.drop_succ_cons, List.drop_zero, List.drop_nil, List.cons_append, List.nil_append, List.append_nil, List.length_cons, List.length_nil, Nat.reduceAdd, Nat.zero_add, Nat.add_zero]); rfl) (by simp) (by simp [Value.oneCell']) (by kernel_rfl) ?_; clear M; (try clear wc); intro wc M oth; clear oth) | (refine i_lor bX rfl rfl rfl (by (try simp only [List.take_succ_cons, List.take_zero, List.take_nil, List.drop_succ_cons, List.drop_zero, List.drop_nil, List.cons_append, List.nil_append, List.append_nil, List.length_cons, List.length_nil, Nat.reduceAdd, Nat.zero_add, Nat.add_zero]); rfl) (by rfl) ?_) | (refine ⟨trivial, ?_⟩; gi_at_call 105; refine (CallsIn.inRound l (callsIn_wide.2 C)).mono ?_; rintro e W2 ⟨rfl, hgr, hm⟩; replace M := M.callW (L' := [(g, BA.cells [.bool true]), (gK, .cells [.int .i64 p0, .int .i64 p1, .int .i64 t, .int .i64 r, .int .i64 n]), (gG, .cells (gmA j A c s0 s1 bg bx)), (bm, memG j s0 s1)]) (by (repeat (first | exact Upd.head | apply Upd.tail))) hgr hm))
      exact ⟨KeepsFrom.of_grownBy hgr (fun i e => by cases e; exact hlm), ⟨hgr.size, fun b hb hx => hgr.block b (by omega) (fun e => hx (by injection e))⟩, M, HP, Nat.le_trans hz hgr.size⟩
    | false =>
      rw [hv] at C HP
      clear hv
      gi_wp2_with (first | (refine i_st M rfl rfl rfl (by first | exact (rfl : _ = Value.agg _) | exact (rfl : _ = Value.int _ _) | exact (rfl : _ = Value.bool _) | exact (rfl : _ = Value.slice _ _ _) | exact (rfl : _ = Value.pointer _) | exact (rfl : _ = Value.map _) | exact (rfl : _ = Value.func _ _ _) | exact (rfl : _ = Value.string _)) (by rfl) (by (repeat (first | exact Upd.head | apply Upd.tail))) (by (try simp only [List.take_succ_cons, List.take_zero, List.take_nil, List.drop_succ_cons, List.drop_zero, List.drop_nil, List.cons_append, List.nil_append, List.append_nil, List.length_cons, List.length_nil, Nat.reduceAdd, Nat.zero_add, Nat.add_zero]); rfl) (by simp) (by simp [Value.oneCell']) (by kernel_rfl) ?_; clear M; intro W3 M oth) | (refine i_ld1 M rfl rfl rfl (by (repeat' (first | exact List.mem_cons_self | refine List.mem_cons_of_mem _ ?_))) (by rfl) ?_) | (refine i_ldr M rfl rfl rfl (by (repeat' (first | exact List.mem_cons_self | refine List.mem_cons_of_mem _ ?_))) (by (try simp only [List.take_succ_cons, List.take_zero, List.take_nil, List.drop_succ_cons, List.drop_zero, List.drop_nil, List.cons_append, List.nil_append, List.append_nil, List.length_cons, List.length_nil, Nat.reduceAdd, Nat.zero_add, Nat.add_zero]); rfl) (by rfl) ?_) | (refine i_al M rfl rfl ?_; clear M; (try clear wc); intro g wc M) | (refine i_bx M rfl rfl (by first | exact (rfl : _ = Value.agg _) | exact (rfl : _ = Value.int _ _) | exact (rfl : _ = Value.bool _) | exact (rfl : _ = Value.slice _ _ _) | exact (rfl : _ = Value.pointer _) | exact (rfl : _ = Value.map _) | exact (rfl : _ = Value.func _ _ _) | exact (rfl : _ = Value.string _)) (by rfl) ?_; clear M; (try clear wc); intro g wc M) | (refine i_st M rfl rfl rfl (by first | exact (rfl : _ = Value.agg _) | exact (rfl : _ = Value.int _ _) | exact (rfl : _ = Value.bool _) | exact (rfl : _ = Value.slice _ _ _) | exact (rfl : _ = Value.pointer _) | exact (rfl : _ = Value.map _) | exact (rfl : _ = Value.func _ _ _) | exact (rfl : _ = Value.string _)) (by rfl) (by (repeat (first | exact Upd.head | apply Upd.tail))) (by (try simp only [List.take_succ_cons, List.take_zero, List.take_nil, List.drop_succ_cons, List.drop_zero, List.drop_nil, List.cons_append, List.nil_append, List.append_nil, List.length_cons, List.length_nil, Nat.reduceAdd, Nat.zero_add, Nat.add_zero]); rfl) (by simp) (by simp [Value.oneCell']) (by kernel_rfl) ?_; clear M; (try clear wc); intro wc M oth; clear oth) | (refine i_lor bX rfl rfl rfl (by (try simp only [List.take_succ_cons, List.take_zero, List.take_nil, List.drop_succ_cons, List.drop_zero, List.drop_nil, List.cons_append, List.nil_append, List.append_nil, List.length_cons, List.length_nil, Nat.reduceAdd, Nat.zero_add, Nat.add_zero]); rfl) (by rfl) ?_) | (refine ⟨trivial, ?_⟩; gi_at_call 105; refine (CallsIn.inRound l (callsIn_wide.2 C)).mono ?_; rintro e W2 ⟨rfl, hgr, hm⟩; replace M := M.callW (L' := [(g, BA.cells [.bool true]), (gK, .cells [.int .i64 p0, .int .i64 p1, .int .i64 t, .int .i64 r, .int .i64 n]), (gG, .cells (gmA j A c s0 s1 bg bx)), (bm, memG j s0 s1)]) (by (repeat (first | exact Upd.head | apply Upd.tail))) hgr hm))
      have hk3 : KeepsFrom wc.heap.size W2 W3 := ⟨by rw [oth.size]; exact Nat.le_refl _, fun k o hk h _ => (oth.block k (by omega)).trans h⟩
      exact ⟨(KeepsFrom.of_grownBy hgr (fun i e => by cases e; exact hlm)).trans hk3, rfl, M, HP, by rw [oth.size]; exact Nat.le_trans hz hgr.size⟩
  case done =>
    rintro D ys W hD hS ⟨M, hp, -⟩ hK
    go_wp2_with (first | (refine m_ld1 M rfl rfl rfl (by (repeat' (first | exact List.mem_cons_self | refine List.mem_cons_of_mem _ ?_))) (by rfl) ?_) | (refine m_ldr M rfl rfl rfl (by (repeat' (first | exact List.mem_cons_self | refine List.mem_cons_of_mem _ ?_))) (by (try simp only [List.take_succ_cons, List.take_zero, List.take_nil, List.drop_succ_cons, List.drop_zero, List.drop_nil, List.cons_append, List.nil_append, List.append_nil, List.length_cons, List.length_nil, Nat.reduceAdd, Nat.zero_add, Nat.add_zero]); rfl) (by rfl) ?_) | (refine m_st M rfl rfl rfl (by first | exact (rfl : _ = Value.agg _) | exact (rfl : _ = Value.int _ _) | exact (rfl : _ = Value.bool _) | exact (rfl : _ = Value.slice _ _ _) | exact (rfl : _ = Value.pointer _) | exact (rfl : _ = Value.map _) | exact (rfl : _ = Value.func _ _ _) | exact (rfl : _ = Value.string _)) (by rfl) (by (repeat (first | exact Upd.head | apply Upd.tail))) (by (try simp only [List.take_succ_cons, List.take_zero, List.take_nil, List.drop_succ_cons, List.drop_zero, List.drop_nil, List.cons_append, List.nil_append, List.append_nil, List.length_cons, List.length_nil, Nat.reduceAdd, Nat.zero_add, Nat.add_zero]); rfl) (by simp) (by simp [Value.oneCell']) (by kernel_rfl) ?_; clear M; (try clear wc); intro wc M) | (refine m_al M rfl rfl ?_; clear M; (try clear wc); intro g wc M) | (refine m_bx M rfl rfl (by first | exact (rfl : _ = Value.agg _) | exact (rfl : _ = Value.int _ _) | exact (rfl : _ = Value.bool _) | exact (rfl : _ = Value.slice _ _ _) | exact (rfl : _ = Value.pointer _) | exact (rfl : _ = Value.map _) | exact (rfl : _ = Value.func _ _ _) | exact (rfl : _ = Value.string _)) (by rfl) ?_; clear M; (try clear wc); intro g wc M))
    rw [Exit.noGoto_ret]
    have M2 := M.far (grownBy_putObj' W D (.deferred none)) (n0 := wc.heap.size) (fun r e => by cases e; exact hD) hz0 hL
    have hv : readsP j s0 s1 n p0 p1 t r = true := by rw [← hp.out]; unfold readsP allS; rw [← hS]
    refine ⟨by simp, .inl ⟨_, _, rfl, run_takeDeferred hK, _, results_tmp rfl _ _ _, ?_⟩⟩
    rw [hv]
    exact ⟨rfl, M2.grown, M2.at (q := (bm, memG j s0 s1)) (by (repeat' (first | exact List.mem_cons_self | refine List.mem_cons_of_mem _ ?_)))⟩
  case stop =>
    rintro D cd pre W hD hSp ⟨rfl, M, hp, -⟩ hK
    refine wpIn_wide.2 ?_
    go_wp2_with (first | (refine m_ld1 M rfl rfl rfl (by (repeat' (first | exact List.mem_cons_self | refine List.mem_cons_of_mem _ ?_))) (by rfl) ?_) | (refine m_ldr M rfl rfl rfl (by (repeat' (first | exact List.mem_cons_self | refine List.mem_cons_of_mem _ ?_))) (by (try simp only [List.take_succ_cons, List.take_zero, List.take_nil, List.drop_succ_cons, List.drop_zero, List.drop_nil, List.cons_append, List.nil_append, List.append_nil, List.length_cons, List.length_nil, Nat.reduceAdd, Nat.zero_add, Nat.add_zero]); rfl) (by rfl) ?_) | (refine m_st M rfl rfl rfl (by first | exact (rfl : _ = Value.agg _) | exact (rfl : _ = Value.int _ _) | exact (rfl : _ = Value.bool _) | exact (rfl : _ = Value.slice _ _ _) | exact (rfl : _ = Value.pointer _) | exact (rfl : _ = Value.map _) | exact (rfl : _ = Value.func _ _ _) | exact (rfl : _ = Value.string _)) (by rfl) (by (repeat (first | exact Upd.head | apply Upd.tail))) (by (try simp only [List.take_succ_cons, List.take_zero, List.take_nil, List.drop_succ_cons, List.drop_zero, List.drop_nil, List.cons_append, List.nil_append, List.append_nil, List.length_cons, List.length_nil, Nat.reduceAdd, Nat.zero_add, Nat.add_zero]); rfl) (by simp) (by simp [Value.oneCell']) (by kernel_rfl) ?_; clear M; (try clear wc); intro wc M) | (refine m_al M rfl rfl ?_; clear M; (try clear wc); intro g wc M) | (refine m_bx M rfl rfl (by first | exact (rfl : _ = Value.agg _) | exact (rfl : _ = Value.int _ _) | exact (rfl : _ = Value.bool _) | exact (rfl : _ = Value.slice _ _ _) | exact (rfl : _ = Value.pointer _) | exact (rfl : _ = Value.map _) | exact (rfl : _ = Value.func _ _ _) | exact (rfl : _ = Value.string _)) (by rfl) ?_; clear M; (try clear wc); intro g wc M))
    rw [Exit.noGoto_ret]
    have M2 := M.far (grownBy_putObj' W D (.deferred none)) (n0 := wc.heap.size) (fun r e => by cases e; exact hD) hz0 hL'
    have hv : readsP j s0 s1 n p0 p1 t r = false := by
      obtain ⟨s, hs⟩ := hSp
      have h2 := hp.out
      unfold allS at h2
      unfold readsP
      rw [← hs, List.all_append]
      rw [show (pre.map (fun x => x.1)) = pre.map Subtype.val from rfl, h2]
      rfl
    refine ⟨by simp, .inl ⟨_, _, rfl, run_takeDeferred hK, _, results_tmp rfl _ _ _, ?_⟩⟩
    rw [hv]
    exact ⟨rfl, M2.grown, M2.at (q := (bm, memG j s0 s1)) (by (repeat' (first | exact List.mem_cons_self | refine List.mem_cons_of_mem _ ?_)))⟩

end Go.Proofs.Ythlpceoajhcliaa
end

section
/-
  reed: the stroke that is made first; whether a tuner can be sure to stop.
-/
namespace Go.Proofs.Ythlpceoajhcliaa
set_option linter.unusedSimpArgs false
set_option linter.unusedVariables false
open Go.RowKit

theorem movedT (j : Jb) (A : Option Addr) (c : Nat) (s0 s1 : Int) (bg bx : Nat) (p0 p1 t r : Int) (n : Nat) (w : World) (hg : j.good) (hb : Bnd (n + 1) p0 p1 t r) :
    Calls Try.prog 109 #[.agg (gmA j A c s0 s1 bg bx).toArray, kn5 p0 p1 t r ((n : Int) + 1), .int .i64 1] w fun e w' => e = .returned (.tuple #[kn5 (p0 + j.u0) (p1 + j.u1) (t + 1) r n, .bool (okT j (t + 1) r)]) ∧ Below w.heap.size w w' := by
  obtain ⟨h1, h2, h3, h4, h5⟩ := hb
  have h := moved_tip j A c s0 s1 bg bx p0 p1 t r ((n : Int) + 1) w hg (by omega) (by omega) (by omega) (by omega) (by omega)
  rw [show (n : Int) + 1 - 1 = n from by omega] at h
  exact h
theorem movedR (j : Jb) (A : Option Addr) (c : Nat) (s0 s1 : Int) (bg bx : Nat) (p0 p1 t r : Int) (n : Nat) (w : World) (hg : j.good) (hb : Bnd (n + 1) p0 p1 t r) :
    Calls Try.prog 109 #[.agg (gmA j A c s0 s1 bg bx).toArray, kn5 p0 p1 t r ((n : Int) + 1), .int .i64 2] w fun e w' => e = .returned (.tuple #[kn5 (p0 - j.d1) (p1 - j.d0) t (r + 1) n, .bool (okT j t (r + 1))]) ∧ Below w.heap.size w w' := by
  obtain ⟨h1, h2, h3, h4, h5⟩ := hb
  have h := moved_root j A c s0 s1 bg bx p0 p1 t r ((n : Int) + 1) w hg (by omega) (by omega) (by omega) (by omega) (by omega)
  rw [show (n : Int) + 1 - 1 = n from by omega] at h
  exact h
theorem bnd_tip {j : Jb} {n : Nat} {p0 p1 t r : Int} (hj : j.good) (h : Bnd (n + 1) p0 p1 t r) : Bnd n (p0 + j.u0) (p1 + j.u1) (t + 1) r := by
  obtain ⟨h1, h2, h3, h4, h5⟩ := h
  have := hj.u
  exact ⟨by omega, by omega, by omega, by omega, by omega⟩
theorem bnd_root {j : Jb} {n : Nat} {p0 p1 t r : Int} (hj : j.good) (h : Bnd (n + 1) p0 p1 t r) : Bnd n (p0 - j.d1) (p1 - j.d0) t (r + 1) := by
  obtain ⟨h1, h2, h3, h4, h5⟩ := h
  have := hj.d
  exact ⟨by omega, by omega, by omega, by omega, by omega⟩

set_option maxRecDepth 100000 in
set_option maxHeartbeats 1000000 in
theorem stroke_0 (j : Jb) (A : Option Addr) (c : Nat) (s0 s1 : Int) (bg bx bm : Nat) (p0 p1 t r : Int) (w : World) (hg : Gm j A c s0 s1 bg bx bm w) :
    Calls Try.prog 78 #[.agg (gmA j A c s0 s1 bg bx).toArray, kn5 p0 p1 t r 0] w (GPost j s0 s1 bm (.int .i64 0) w) := by
  have M := Mem.initEx hg.m
  clear hg
  go_enter Try.func78, Try.ntmps78
  refine m_start M ?_
  clear M
  intro wc M
  go_wp2_with (first | (refine m_ld1 M rfl rfl rfl (by (repeat' (first | exact List.mem_cons_self | refine List.mem_cons_of_mem _ ?_))) (by rfl) ?_) | (refine m_ldr M rfl rfl rfl (by (repeat' (first | exact List.mem_cons_self | refine List.mem_cons_of_mem _ ?_))) (by (try simp only [List.take_succ_cons, List.take_zero, List.take_nil, List.drop_succ_cons, List.drop_zero, List.drop_nil, List.cons_append, List.nil_append, List.append_nil, List.length_cons, List.length_nil, Nat.reduceAdd, Nat.zero_add, Nat.add_zero]); rfl) (by rfl) ?_) | (refine m_st M rfl rfl rfl (by first | exact (rfl : _ = Value.agg _) | exact (rfl : _ = Value.int _ _) | exact (rfl : _ = Value.bool _) | exact (rfl : _ = Value.slice _ _ _) | exact (rfl : _ = Value.pointer _) | exact (rfl : _ = Value.map _) | exact (rfl : _ = Value.func _ _ _) | exact (rfl : _ = Value.string _)) (by rfl) (by (repeat (first | exact Upd.head | apply Upd.tail))) (by (try simp only [List.take_succ_cons, List.take_zero, List.take_nil, List.drop_succ_cons, List.drop_zero, List.drop_nil, List.cons_append, List.nil_append, List.append_nil, List.length_cons, List.length_nil, Nat.reduceAdd, Nat.zero_add, Nat.add_zero]); rfl) (by simp) (by simp [Value.oneCell']) (by kernel_rfl) ?_; clear M; (try clear wc); intro wc M) | (refine m_al M rfl rfl ?_; clear M; (try clear wc); intro g wc M) | (refine m_bx M rfl rfl (by first | exact (rfl : _ = Value.agg _) | exact (rfl : _ = Value.int _ _) | exact (rfl : _ = Value.bool _) | exact (rfl : _ = Value.slice _ _ _) | exact (rfl : _ = Value.pointer _) | exact (rfl : _ = Value.map _) | exact (rfl : _ = Value.func _ _ _) | exact (rfl : _ = Value.string _)) (by rfl) ?_; clear M; (try clear wc); intro g wc M))
  rename_i gG K0 hK0
  go_loopw [5] (fun v wr => v = .int .i64 1 ∧ Mem w (fun b => b = bm) wr [(g, .cells [.int .i64 p0, .int .i64 p1, .int .i64 t, .int .i64 r, .int .i64 0]), (gG, .cells (gmA j A c s0 s1 bg bx)), (bm, memG j s0 s1)]) (fun _ _ => 0)
  case atStart => exact ⟨rfl, M⟩
  case round =>
    clear M wc
    obtain ⟨rfl, M⟩ := hrel
    obtain ⟨wc, rfl⟩ : ∃ x : World, x = wr := ⟨_, rfl⟩
    go_wp2_with (first | (refine m_ld1 M rfl rfl rfl (by (repeat' (first | exact List.mem_cons_self | refine List.mem_cons_of_mem _ ?_))) (by rfl) ?_) | (refine m_ldr M rfl rfl rfl (by (repeat' (first | exact List.mem_cons_self | refine List.mem_cons_of_mem _ ?_))) (by (try simp only [List.take_succ_cons, List.take_zero, List.take_nil, List.drop_succ_cons, List.drop_zero, List.drop_nil, List.cons_append, List.nil_append, List.append_nil, List.length_cons, List.length_nil, Nat.reduceAdd, Nat.zero_add, Nat.add_zero]); rfl) (by rfl) ?_) | (refine m_st M rfl rfl rfl (by first | exact (rfl : _ = Value.agg _) | exact (rfl : _ = Value.int _ _) | exact (rfl : _ = Value.bool _) | exact (rfl : _ = Value.slice _ _ _) | exact (rfl : _ = Value.pointer _) | exact (rfl : _ = Value.map _) | exact (rfl : _ = Value.func _ _ _) | exact (rfl : _ = Value.string _)) (by rfl) (by (repeat (first | exact Upd.head | apply Upd.tail))) (by (try simp only [List.take_succ_cons, List.take_zero, List.take_nil, List.drop_succ_cons, List.drop_zero, List.drop_nil, List.cons_append, List.nil_append, List.append_nil, List.length_cons, List.length_nil, Nat.reduceAdd, Nat.zero_add, Nat.add_zero]); rfl) (by simp) (by simp [Value.oneCell']) (by kernel_rfl) ?_; clear M; (try clear wc); intro wc M) | (refine m_al M rfl rfl ?_; clear M; (try clear wc); intro g wc M) | (refine m_bx M rfl rfl (by first | exact (rfl : _ = Value.agg _) | exact (rfl : _ = Value.int _ _) | exact (rfl : _ = Value.bool _) | exact (rfl : _ = Value.slice _ _ _) | exact (rfl : _ = Value.pointer _) | exact (rfl : _ = Value.map _) | exact (rfl : _ = Value.func _ _ _) | exact (rfl : _ = Value.string _)) (by rfl) ?_; clear M; (try clear wc); intro g wc M))
    go_ret
    exact ⟨rfl, M.grown, (M.at (q := (bm, memG j s0 s1)) (by (repeat' (first | exact List.mem_cons_self | refine List.mem_cons_of_mem _ ?_))))⟩

set_option maxRecDepth 100000 in
set_option maxHeartbeats 2000000 in
theorem stroke_s (j : Jb) (A : Option Addr) (c : Nat) (s0 s1 : Int) (bg bx bm : Nat) (n : Nat) (hj : j.good) (hS : StopsC j A c s0 s1 bg bx bm n) (p0 p1 t r : Int) (w : World) (hb : Bnd (n + 1) p0 p1 t r) (hg : Gm j A c s0 s1 bg bx bm w) :
    Calls Try.prog 78 #[.agg (gmA j A c s0 s1 bg bx).toArray, kn5 p0 p1 t r ((n : Int) + 1)] w (GPost j s0 s1 bm (.int .i64 (strokeP j s0 s1 (n + 1) p0 p1 t r)) w) := by
  have M := Mem.initEx hg.m
  have HS := Lib.hid hS
  have HG := Lib.hid hg
  have HB := Lib.hid hb
  have HJ := Lib.hid hj
  have HV : Hid (strokeP j s0 s1 (n + 1) p0 p1 t r = if (okT j (t + 1) r && readsP j s0 s1 n (p0 + j.u0) (p1 + j.u1) (t + 1) r) = true then 1 else if (okT j t (r + 1) && readsP j s0 s1 n (p0 - j.d1) (p1 - j.d0) t (r + 1)) = true then 2 else 0) := rfl
  generalize strokeP j s0 s1 (n + 1) p0 p1 t r = sv at *
  have hln : (0 : Int) < (n : Int) + 1 := by omega
  generalize ho1 : okT j (t + 1) r = o1 at *
  generalize ho2 : okT j t (r + 1) = o2 at *
  generalize hr1 : readsP j s0 s1 n (p0 + j.u0) (p1 + j.u1) (t + 1) r = v1 at *
  generalize hr2 : readsP j s0 s1 n (p0 - j.d1) (p1 - j.d0) t (r + 1) = v2 at *
  have HO1 := Lib.hid ho1
  have HO2 := Lib.hid ho2
  have HR1 := Lib.hid hr1
  have HR2 := Lib.hid hr2
  clear hS hg hb hj ho1 ho2 hr1 hr2
  go_enter Try.func78, Try.ntmps78
  refine m_start M ?_
  clear M
  intro wc M
  go_wp2_with (first | (refine m_ld1 M rfl rfl rfl (by (repeat' (first | exact List.mem_cons_self | refine List.mem_cons_of_mem _ ?_))) (by rfl) ?_) | (refine m_ldr M rfl rfl rfl (by (repeat' (first | exact List.mem_cons_self | refine List.mem_cons_of_mem _ ?_))) (by (try simp only [List.take_succ_cons, List.take_zero, List.take_nil, List.drop_succ_cons, List.drop_zero, List.drop_nil, List.cons_append, List.nil_append, List.append_nil, List.length_cons, List.length_nil, Nat.reduceAdd, Nat.zero_add, Nat.add_zero]); rfl) (by rfl) ?_) | (refine m_st M rfl rfl rfl (by first | exact (rfl : _ = Value.agg _) | exact (rfl : _ = Value.int _ _) | exact (rfl : _ = Value.bool _) | exact (rfl : _ = Value.slice _ _ _) | exact (rfl : _ = Value.pointer _) | exact (rfl : _ = Value.map _) | exact (rfl : _ = Value.func _ _ _) | exact (rfl : _ = Value.string _)) (by rfl) (by (repeat (first | exact Upd.head | apply Upd.tail))) (by (try simp only [List.take_succ_cons, List.take_zero, List.take_nil, List.drop_succ_cons, List.drop_zero, List.drop_nil, List.cons_append, List.nil_append, List.append_nil, List.length_cons, List.length_nil, Nat.reduceAdd, Nat.zero_add, Nat.add_zero]); rfl) (by simp) (by simp [Value.oneCell']) (by kernel_rfl) ?_; clear M; (try clear wc); intro wc M) | (refine m_al M rfl rfl ?_; clear M; (try clear wc); intro g wc M) | (refine m_bx M rfl rfl (by first | exact (rfl : _ = Value.agg _) | exact (rfl : _ = Value.int _ _) | exact (rfl : _ = Value.bool _) | exact (rfl : _ = Value.slice _ _ _) | exact (rfl : _ = Value.pointer _) | exact (rfl : _ = Value.map _) | exact (rfl : _ = Value.func _ _ _) | exact (rfl : _ = Value.string _)) (by rfl) ?_; clear M; (try clear wc); intro g wc M))
  rename_i gG K0 hK0
  go_loopw [5] (fun v wr => ∃ s : Int, v = .int .i64 s ∧ (s = 1 ∨ s = 2 ∨ s = 3) ∧ Hid (s = 1 ∨ (o1 && v1) = false) ∧ Hid (s = 3 → (o2 && v2) = false) ∧ Mem w (fun b => b = bm) wr [(g, .cells [.int .i64 p0, .int .i64 p1, .int .i64 t, .int .i64 r, .int .i64 ((n : Int) + 1)]), (gG, .cells (gmA j A c s0 s1 bg bx)), (bm, memG j s0 s1)]) (fun v _ => (3 - intOf v).toNat)
  case atStart => exact ⟨1, rfl, .inl rfl, .inl rfl, fun h => by omega, M⟩
  case round =>
    clear M wc
    obtain ⟨s, rfl, hs, h1, h2, M⟩ := hrel
    obtain ⟨wc, rfl⟩ : ∃ x : World, x = wr := ⟨_, rfl⟩
    rcases hs with rfl | rfl | rfl
    · cases o1 with
      | false =>
        go_wp2_with (first | (refine m_ld1 M rfl rfl rfl (by (repeat' (first | exact List.mem_cons_self | refine List.mem_cons_of_mem _ ?_))) (by rfl) ?_) | (refine m_ldr M rfl rfl rfl (by (repeat' (first | exact List.mem_cons_self | refine List.mem_cons_of_mem _ ?_))) (by (try simp only [List.take_succ_cons, List.take_zero, List.take_nil, List.drop_succ_cons, List.drop_zero, List.drop_nil, List.cons_append, List.nil_append, List.append_nil, List.length_cons, List.length_nil, Nat.reduceAdd, Nat.zero_add, Nat.add_zero]); rfl) (by rfl) ?_) | (refine m_st M rfl rfl rfl (by first | exact (rfl : _ = Value.agg _) | exact (rfl : _ = Value.int _ _) | exact (rfl : _ = Value.bool _) | exact (rfl : _ = Value.slice _ _ _) | exact (rfl : _ = Value.pointer _) | exact (rfl : _ = Value.map _) | exact (rfl : _ = Value.func _ _ _) | exact (rfl : _ = Value.string _)) (by rfl) (by (repeat (first | exact Upd.head | apply Upd.tail))) (by (try simp only [List.take_succ_cons, List.take_zero, List.take_nil, List.drop_succ_cons, List.drop_zero, List.drop_nil, List.cons_append, List.nil_append, List.append_nil, List.length_cons, List.length_nil, Nat.reduceAdd, Nat.zero_add, Nat.add_zero]); rfl) (by simp) (by simp [Value.oneCell']) (by kernel_rfl) ?_; clear M; (try clear wc); intro wc M) | (refine m_al M rfl rfl ?_; clear M; (try clear wc); intro g wc M) | (refine m_bx M rfl rfl (by first | exact (rfl : _ = Value.agg _) | exact (rfl : _ = Value.int _ _) | exact (rfl : _ = Value.bool _) | exact (rfl : _ = Value.slice _ _ _) | exact (rfl : _ = Value.pointer _) | exact (rfl : _ = Value.map _) | exact (rfl : _ = Value.func _ _ _) | exact (rfl : _ = Value.string _)) (by rfl) ?_; clear M; (try clear wc); intro g wc M) | (go_at_call 109; ((with_reducible refine (movedT j A c s0 s1 bg bx p0 p1 t r n _ HJ.out HB.out).mono ?_); (rw [HO1.out]); rintro e wc ⟨rfl, hb⟩; replace M := M.call hb; clear hb)))
        go_roundw
        case rel => exact ⟨2, rfl, by simp, .inr rfl, (fun h => by omega), M.sub (by (repeat (first | exact List.Sublist.slnil | apply List.Sublist.cons_cons | apply List.Sublist.cons)))⟩
        case measure => decide
      | true =>
        cases v1 with
        | false =>
          go_wp2_with (first | (refine m_ld1 M rfl rfl rfl (by (repeat' (first | exact List.mem_cons_self | refine List.mem_cons_of_mem _ ?_))) (by rfl) ?_) | (refine m_ldr M rfl rfl rfl (by (repeat' (first | exact List.mem_cons_self | refine List.mem_cons_of_mem _ ?_))) (by (try simp only [List.take_succ_cons, List.take_zero, List.take_nil, List.drop_succ_cons, List.drop_zero, List.drop_nil, List.cons_append, List.nil_append, List.append_nil, List.length_cons, List.length_nil, Nat.reduceAdd, Nat.zero_add, Nat.add_zero]); rfl) (by rfl) ?_) | (refine m_st M rfl rfl rfl (by first | exact (rfl : _ = Value.agg _) | exact (rfl : _ = Value.int _ _) | exact (rfl : _ = Value.bool _) | exact (rfl : _ = Value.slice _ _ _) | exact (rfl : _ = Value.pointer _) | exact (rfl : _ = Value.map _) | exact (rfl : _ = Value.func _ _ _) | exact (rfl : _ = Value.string _)) (by rfl) (by (repeat (first | exact Upd.head | apply Upd.tail))) (by (try simp only [List.take_succ_cons, List.take_zero, List.take_nil, List.drop_succ_cons, List.drop_zero, List.drop_nil, List.cons_append, List.nil_append, List.append_nil, List.length_cons, List.length_nil, Nat.reduceAdd, Nat.zero_add, Nat.add_zero]); rfl) (by simp) (by simp [Value.oneCell']) (by kernel_rfl) ?_; clear M; (try clear wc); intro wc M) | (refine m_al M rfl rfl ?_; clear M; (try clear wc); intro g wc M) | (refine m_bx M rfl rfl (by first | exact (rfl : _ = Value.agg _) | exact (rfl : _ = Value.int _ _) | exact (rfl : _ = Value.bool _) | exact (rfl : _ = Value.slice _ _ _) | exact (rfl : _ = Value.pointer _) | exact (rfl : _ = Value.map _) | exact (rfl : _ = Value.func _ _ _) | exact (rfl : _ = Value.string _)) (by rfl) ?_; clear M; (try clear wc); intro g wc M) | (go_at_call 109; ((with_reducible refine (movedT j A c s0 s1 bg bx p0 p1 t r n _ HJ.out HB.out).mono ?_); (rw [HO1.out]); rintro e wc ⟨rfl, hb⟩; replace M := M.call hb; clear hb)) | (go_at_call 75; ((with_reducible refine (reads_any j A c s0 s1 bg bx bm n HJ.out HS.out (p0 + j.u0) (p1 + j.u1) (t + 1) r _ (bnd_tip HJ.out HB.out) (HG.out.kept M.grown (M.at (q := (bm, memG j s0 s1)) (by (repeat' (first | exact List.mem_cons_self | refine List.mem_cons_of_mem _ ?_)))))).mono ?_); rintro e wc ⟨rfl, hgr, hm⟩; (rw [HR1.out]); replace M := M.callW (by (repeat (first | exact Upd.head | apply Upd.tail))) hgr hm; clear hgr hm)))
          go_roundw
          case rel => exact ⟨2, rfl, by simp, .inr rfl, (fun h => by omega), M.sub (by (repeat (first | exact List.Sublist.slnil | apply List.Sublist.cons_cons | apply List.Sublist.cons)))⟩
          case measure => decide
        | true =>
          go_wp2_with (first | (refine m_ld1 M rfl rfl rfl (by (repeat' (first | exact List.mem_cons_self | refine List.mem_cons_of_mem _ ?_))) (by rfl) ?_) | (refine m_ldr M rfl rfl rfl (by (repeat' (first | exact List.mem_cons_self | refine List.mem_cons_of_mem _ ?_))) (by (try simp only [List.take_succ_cons, List.take_zero, List.take_nil, List.drop_succ_cons, List.drop_zero, List.drop_nil, List.cons_append, List.nil_append, List.append_nil, List.length_cons, List.length_nil, Nat.reduceAdd, Nat.zero_add, Nat.add_zero]); rfl) (by rfl) ?_) | (refine m_st M rfl rfl rfl (by first | exact (rfl : _ = Value.agg _) | exact (rfl : _ = Value.int _ _) | exact (rfl : _ = Value.bool _) | exact (rfl : _ = Value.slice _ _ _) | exact (rfl : _ = Value.pointer _) | exact (rfl : _ = Value.map _) | exact (rfl : _ = Value.func _ _ _) | exact (rfl : _ = Value.string _)) (by rfl) (by (repeat (first | exact Upd.head | apply Upd.tail))) (by (try simp only [List.take_succ_cons, List.take_zero, List.take_nil, List.drop_succ_cons, List.drop_zero, List.drop_nil, List.cons_append, List.nil_append, List.append_nil, List.length_cons, List.length_nil, Nat.reduceAdd, Nat.zero_add, Nat.add_zero]); rfl) (by simp) (by simp [Value.oneCell']) (by kernel_rfl) ?_; clear M; (try clear wc); intro wc M) | (refine m_al M rfl rfl ?_; clear M; (try clear wc); intro g wc M) | (refine m_bx M rfl rfl (by first | exact (rfl : _ = Value.agg _) | exact (rfl : _ = Value.int _ _) | exact (rfl : _ = Value.bool _) | exact (rfl : _ = Value.slice _ _ _) | exact (rfl : _ = Value.pointer _) | exact (rfl : _ = Value.map _) | exact (rfl : _ = Value.func _ _ _) | exact (rfl : _ = Value.string _)) (by rfl) ?_; clear M; (try clear wc); intro g wc M) | (go_at_call 109; ((with_reducible refine (movedT j A c s0 s1 bg bx p0 p1 t r n _ HJ.out HB.out).mono ?_); (rw [HO1.out]); rintro e wc ⟨rfl, hb⟩; replace M := M.call hb; clear hb)) | (go_at_call 75; ((with_reducible refine (reads_any j A c s0 s1 bg bx bm n HJ.out HS.out (p0 + j.u0) (p1 + j.u1) (t + 1) r _ (bnd_tip HJ.out HB.out) (HG.out.kept M.grown (M.at (q := (bm, memG j s0 s1)) (by (repeat' (first | exact List.mem_cons_self | refine List.mem_cons_of_mem _ ?_)))))).mono ?_); rintro e wc ⟨rfl, hgr, hm⟩; (rw [HR1.out]); replace M := M.callW (by (repeat (first | exact Upd.head | apply Upd.tail))) hgr hm; clear hgr hm)))
          go_ret
          exact ⟨ret_int (show sv = 1 from by rw [HV.out]; rfl).symm, M.grown, (M.at (q := (bm, memG j s0 s1)) (by (repeat' (first | exact List.mem_cons_self | refine List.mem_cons_of_mem _ ?_))))⟩
    · have h1' : Hid ((3 : Int) = 1 ∨ (o1 && v1) = false) := .inr (by have := h1.out; simpa using this)
      cases o2 with
      | false =>
        go_wp2_with (first | (refine m_ld1 M rfl rfl rfl (by (repeat' (first | exact List.mem_cons_self | refine List.mem_cons_of_mem _ ?_))) (by rfl) ?_) | (refine m_ldr M rfl rfl rfl (by (repeat' (first | exact List.mem_cons_self | refine List.mem_cons_of_mem _ ?_))) (by (try simp only [List.take_succ_cons, List.take_zero, List.take_nil, List.drop_succ_cons, List.drop_zero, List.drop_nil, List.cons_append, List.nil_append, List.append_nil, List.length_cons, List.length_nil, Nat.reduceAdd, Nat.zero_add, Nat.add_zero]); rfl) (by rfl) ?_) | (refine m_st M rfl rfl rfl (by first | exact (rfl : _ = Value.agg _) | exact (rfl : _ = Value.int _ _) | exact (rfl : _ = Value.bool _) | exact (rfl : _ = Value.slice _ _ _) | exact (rfl : _ = Value.pointer _) | exact (rfl : _ = Value.map _) | exact (rfl : _ = Value.func _ _ _) | exact (rfl : _ = Value.string _)) (by rfl) (by (repeat (first | exact Upd.head | apply Upd.tail))) (by (try simp only [List.take_succ_cons, List.take_zero, List.take_nil, List.drop_succ_cons, List.drop_zero, List.drop_nil, List.cons_append, List.nil_append, List.append_nil, List.length_cons, List.length_nil, Nat.reduceAdd, Nat.zero_add, Nat.add_zero]); rfl) (by simp) (by simp [Value.oneCell']) (by kernel_rfl) ?_; clear M; (try clear wc); intro wc M) | (refine m_al M rfl rfl ?_; clear M; (try clear wc); intro g wc M) | (refine m_bx M rfl rfl (by first | exact (rfl : _ = Value.agg _) | exact (rfl : _ = Value.int _ _) | exact (rfl : _ = Value.bool _) | exact (rfl : _ = Value.slice _ _ _) | exact (rfl : _ = Value.pointer _) | exact (rfl : _ = Value.map _) | exact (rfl : _ = Value.func _ _ _) | exact (rfl : _ = Value.string _)) (by rfl) ?_; clear M; (try clear wc); intro g wc M) | (go_at_call 109; ((with_reducible refine (movedR j A c s0 s1 bg bx p0 p1 t r n _ HJ.out HB.out).mono ?_); (rw [HO2.out]); rintro e wc ⟨rfl, hb⟩; replace M := M.call hb; clear hb)))
        go_roundw
        case rel => exact ⟨3, rfl, by simp, h1' , (fun _ => rfl), M.sub (by (repeat (first | exact List.Sublist.slnil | apply List.Sublist.cons_cons | apply List.Sublist.cons)))⟩
        case measure => decide
      | true =>
        cases v2 with
        | false =>
          go_wp2_with (first | (refine m_ld1 M rfl rfl rfl (by (repeat' (first | exact List.mem_cons_self | refine List.mem_cons_of_mem _ ?_))) (by rfl) ?_) | (refine m_ldr M rfl rfl rfl (by (repeat' (first | exact List.mem_cons_self | refine List.mem_cons_of_mem _ ?_))) (by (try simp only [List.take_succ_cons, List.take_zero, List.take_nil, List.drop_succ_cons, List.drop_zero, List.drop_nil, List.cons_append, List.nil_append, List.append_nil, List.length_cons, List.length_nil, Nat.reduceAdd, Nat.zero_add, Nat.add_zero]); rfl) (by rfl) ?_) | (refine m_st M rfl rfl rfl (by first | exact (rfl : _ = Value.agg _) | exact (rfl : _ = Value.int _ _) | exact (rfl : _ = Value.bool _) | exact (rfl : _ = Value.slice _ _ _) | exact (rfl : _ = Value.pointer _) | exact (rfl : _ = Value.map _) | exact (rfl : _ = Value.func _ _ _) | exact (rfl : _ = Value.string _)) (by rfl) (by (repeat (first | exact Upd.head | apply Upd.tail))) (by (try simp only [List.take_succ_cons, List.take_zero, List.take_nil, List.drop_succ_cons, List.drop_zero, List.drop_nil, List.cons_append, List.nil_append, List.append_nil, List.length_cons, List.length_nil, Nat.reduceAdd, Nat.zero_add, Nat.add_zero]); rfl) (by simp) (by simp [Value.oneCell']) (by kernel_rfl) ?_; clear M; (try clear wc); intro wc M) | (refine m_al M rfl rfl ?_; clear M; (try clear wc); intro g wc M) | (refine m_bx M rfl rfl (by first | exact (rfl : _ = Value.agg _) | exact (rfl : _ = Value.int _ _) | exact (rfl : _ = Value.bool _) | exact (rfl : _ = Value.slice _ _ _) | exact (rfl : _ = Value.pointer _) | exact (rfl : _ = Value.map _) | exact (rfl : _ = Value.func _ _ _) | exact (rfl : _ = Value.string _)) (by rfl) ?_; clear M; (try clear wc); intro g wc M) | (go_at_call 109; ((with_reducible refine (movedR j A c s0 s1 bg bx p0 p1 t r n _ HJ.out HB.out).mono ?_); (rw [HO2.out]); rintro e wc ⟨rfl, hb⟩; replace M := M.call hb; clear hb)) | (go_at_call 75; ((with_reducible refine (reads_any j A c s0 s1 bg bx bm n HJ.out HS.out (p0 - j.d1) (p1 - j.d0) t (r + 1) _ (bnd_root HJ.out HB.out) (HG.out.kept M.grown (M.at (q := (bm, memG j s0 s1)) (by (repeat' (first | exact List.mem_cons_self | refine List.mem_cons_of_mem _ ?_)))))).mono ?_); rintro e wc ⟨rfl, hgr, hm⟩; (rw [HR2.out]); replace M := M.callW (by (repeat (first | exact Upd.head | apply Upd.tail))) hgr hm; clear hgr hm)))
          go_roundw
          case rel => exact ⟨3, rfl, by simp, h1' , (fun _ => rfl), M.sub (by (repeat (first | exact List.Sublist.slnil | apply List.Sublist.cons_cons | apply List.Sublist.cons)))⟩
          case measure => decide
        | true =>
          go_wp2_with (first | (refine m_ld1 M rfl rfl rfl (by (repeat' (first | exact List.mem_cons_self | refine List.mem_cons_of_mem _ ?_))) (by rfl) ?_) | (refine m_ldr M rfl rfl rfl (by (repeat' (first | exact List.mem_cons_self | refine List.mem_cons_of_mem _ ?_))) (by (try simp only [List.take_succ_cons, List.take_zero, List.take_nil, List.drop_succ_cons, List.drop_zero, List.drop_nil, List.cons_append, List.nil_append, List.append_nil, List.length_cons, List.length_nil, Nat.reduceAdd, Nat.zero_add, Nat.add_zero]); rfl) (by rfl) ?_) | (refine m_st M rfl rfl rfl (by first | exact (rfl : _ = Value.agg _) | exact (rfl : _ = Value.int _ _) | exact (rfl : _ = Value.bool _) | exact (rfl : _ = Value.slice _ _ _) | exact (rfl : _ = Value.pointer _) | exact (rfl : _ = Value.map _) | exact (rfl : _ = Value.func _ _ _) | exact (rfl : _ = Value.string _)) (by rfl) (by (repeat (first | exact Upd.head | apply Upd.tail))) (by (try simp only [List.take_succ_cons, List.take_zero, List.take_nil, List.drop_succ_cons, List.drop_zero, List.drop_nil, List.cons_append, List.nil_append, List.append_nil, List.length_cons, List.length_nil, Nat.reduceAdd, Nat.zero_add, Nat.add_zero]); rfl) (by simp) (by simp [Value.oneCell']) (by kernel_rfl) ?_; clear M; (try clear wc); intro wc M) | (refine m_al M rfl rfl ?_; clear M; (try clear wc); intro g wc M) | (refine m_bx M rfl rfl (by first | exact (rfl : _ = Value.agg _) | exact (rfl : _ = Value.int _ _) | exact (rfl : _ = Value.bool _) | exact (rfl : _ = Value.slice _ _ _) | exact (rfl : _ = Value.pointer _) | exact (rfl : _ = Value.map _) | exact (rfl : _ = Value.func _ _ _) | exact (rfl : _ = Value.string _)) (by rfl) ?_; clear M; (try clear wc); intro g wc M) | (go_at_call 109; ((with_reducible refine (movedR j A c s0 s1 bg bx p0 p1 t r n _ HJ.out HB.out).mono ?_); (rw [HO2.out]); rintro e wc ⟨rfl, hb⟩; replace M := M.call hb; clear hb)) | (go_at_call 75; ((with_reducible refine (reads_any j A c s0 s1 bg bx bm n HJ.out HS.out (p0 - j.d1) (p1 - j.d0) t (r + 1) _ (bnd_root HJ.out HB.out) (HG.out.kept M.grown (M.at (q := (bm, memG j s0 s1)) (by (repeat' (first | exact List.mem_cons_self | refine List.mem_cons_of_mem _ ?_)))))).mono ?_); rintro e wc ⟨rfl, hgr, hm⟩; (rw [HR2.out]); replace M := M.callW (by (repeat (first | exact Upd.head | apply Upd.tail))) hgr hm; clear hgr hm)))
          go_ret
          exact ⟨ret_int (show sv = 2 from by (have h := h1'.out; rw [HV.out, if_neg (by simpa using h)]; rfl)).symm, M.grown, (M.at (q := (bm, memG j s0 s1)) (by (repeat' (first | exact List.mem_cons_self | refine List.mem_cons_of_mem _ ?_))))⟩
    · go_wp2_with (first | (refine m_ld1 M rfl rfl rfl (by (repeat' (first | exact List.mem_cons_self | refine List.mem_cons_of_mem _ ?_))) (by rfl) ?_) | (refine m_ldr M rfl rfl rfl (by (repeat' (first | exact List.mem_cons_self | refine List.mem_cons_of_mem _ ?_))) (by (try simp only [List.take_succ_cons, List.take_zero, List.take_nil, List.drop_succ_cons, List.drop_zero, List.drop_nil, List.cons_append, List.nil_append, List.append_nil, List.length_cons, List.length_nil, Nat.reduceAdd, Nat.zero_add, Nat.add_zero]); rfl) (by rfl) ?_) | (refine m_st M rfl rfl rfl (by first | exact (rfl : _ = Value.agg _) | exact (rfl : _ = Value.int _ _) | exact (rfl : _ = Value.bool _) | exact (rfl : _ = Value.slice _ _ _) | exact (rfl : _ = Value.pointer _) | exact (rfl : _ = Value.map _) | exact (rfl : _ = Value.func _ _ _) | exact (rfl : _ = Value.string _)) (by rfl) (by (repeat (first | exact Upd.head | apply Upd.tail))) (by (try simp only [List.take_succ_cons, List.take_zero, List.take_nil, List.drop_succ_cons, List.drop_zero, List.drop_nil, List.cons_append, List.nil_append, List.append_nil, List.length_cons, List.length_nil, Nat.reduceAdd, Nat.zero_add, Nat.add_zero]); rfl) (by simp) (by simp [Value.oneCell']) (by kernel_rfl) ?_; clear M; (try clear wc); intro wc M) | (refine m_al M rfl rfl ?_; clear M; (try clear wc); intro g wc M) | (refine m_bx M rfl rfl (by first | exact (rfl : _ = Value.agg _) | exact (rfl : _ = Value.int _ _) | exact (rfl : _ = Value.bool _) | exact (rfl : _ = Value.slice _ _ _) | exact (rfl : _ = Value.pointer _) | exact (rfl : _ = Value.map _) | exact (rfl : _ = Value.func _ _ _) | exact (rfl : _ = Value.string _)) (by rfl) ?_; clear M; (try clear wc); intro g wc M))
      go_ret
      have e : sv = 0 := by
        have h := h1.out
        have h' : (o2 && v2) = false := by first | exact h2.out rfl | exact h2.out | (have := h2.out; simpa using this)
        rw [HV.out, if_neg (by simpa using h), if_neg (by rw [h']; simp)]
      exact ⟨ret_int e.symm, M.grown, (M.at (q := (bm, memG j s0 s1)) (by (repeat' (first | exact List.mem_cons_self | refine List.mem_cons_of_mem _ ?_))))⟩

end Go.Proofs.Ythlpceoajhcliaa
end

section
/-
  reed: whether a tuner can be sure to stop: what is remembered is right.
-/
namespace Go.Proofs.Ythlpceoajhcliaa
set_option linter.unusedSimpArgs false
set_option linter.unusedVariables false
open Go.RowKit

theorem kn5_inj {p0 p1 t r a b c d : Int} {n m : Nat} (h : kn5 p0 p1 t r n = kn5 a b c d m) : p0 = a ∧ p1 = b ∧ t = c ∧ r = d ∧ n = m := by
  simp at h
  exact ⟨h.1, h.2.1, h.2.2.1, h.2.2.2.1, by have := h.2.2.2.2; omega⟩

set_option maxRecDepth 100000 in
set_option maxHeartbeats 1000000 in
theorem stops_of (j : Jb) (A : Option Addr) (c : Nat) (s0 s1 : Int) (bg bx bm : Nat) (n : Nat) (p0 p1 t r : Int) (w : World) (hb : Bnd n p0 p1 t r) (hg : Gm j A c s0 s1 bg bx bm w)
    (hs : ∀ w', Gm j A c s0 s1 bg bx bm w' → Calls Try.prog 78 #[.agg (gmA j A c s0 s1 bg bx).toArray, kn5 p0 p1 t r n] w' (GPost j s0 s1 bm (.int .i64 (strokeP j s0 s1 n p0 p1 t r)) w')) :
    Calls Try.prog 105 #[kn5 p0 p1 t r n, .pointer (some ⟨bg, 0, none⟩), .pointer (some ⟨bx, 0, none⟩)] w (GPost j s0 s1 bm (.bool (stopsP j s0 s1 n p0 p1 t r)) w) := by
  have M := Mem.initEx hg.m
  have HG := Lib.hid hg
  have HS := Lib.hid hs
  have HE := Lib.hid (stopsP_eq j s0 s1 n p0 p1 t r)
  obtain ⟨kl, hkl⟩ := Try.kn_key ⟨p0, p1, t, r, n⟩ (by obtain ⟨h1, h2, h3, h4, h5⟩ := hb; exact ⟨by dsimp only; omega, by dsimp only; omega, by dsimp only; omega, by dsimp only; omega, by dsimp only; omega⟩)
  have HK := Lib.hid hkl
  have HO : Hid (∀ v, okG j s0 s1 (kn5 p0 p1 t r n) v ↔ v = .bool (stopsP j s0 s1 n p0 p1 t r)) := by
    intro v
    refine ⟨fun h => h p0 p1 t r n rfl, fun h a b c d m e => ?_⟩
    obtain ⟨rfl, rfl, rfl, rfl, rfl⟩ := kn5_inj e
    exact h
  clear hg hs hkl hb
  generalize hst : stopsP j s0 s1 n p0 p1 t r = sv at *
  generalize hsk : strokeP j s0 s1 n p0 p1 t r = kv at *
  clear hst hsk
  cases hh : hasB s0 s1 p0 p1 with
  | true =>
    have HH := Lib.hid hh
    have HV : Hid (sv = true) := by show _ = _; rw [HE.out, hh]; rfl
    clear hh
    go_enter Try.func105, Try.ntmps105
    refine m_start M ?_
    clear M
    intro wc M
    go_wp2_with (first | (refine m_ld1 M rfl rfl rfl (by (repeat' (first | exact List.mem_cons_self | refine List.mem_cons_of_mem _ ?_))) (by rfl) ?_) | (refine m_ldr M rfl rfl rfl (by (repeat' (first | exact List.mem_cons_self | refine List.mem_cons_of_mem _ ?_))) (by (try simp only [List.take_succ_cons, List.take_zero, List.take_nil, List.drop_succ_cons, List.drop_zero, List.drop_nil, List.cons_append, List.nil_append, List.append_nil, List.length_cons, List.length_nil, Nat.reduceAdd, Nat.zero_add, Nat.add_zero]); rfl) (by rfl) ?_) | (refine m_st M rfl rfl rfl (by first | exact (rfl : _ = Value.agg _) | exact (rfl : _ = Value.int _ _) | exact (rfl : _ = Value.bool _) | exact (rfl : _ = Value.slice _ _ _) | exact (rfl : _ = Value.pointer _) | exact (rfl : _ = Value.map _) | exact (rfl : _ = Value.func _ _ _) | exact (rfl : _ = Value.string _)) (by rfl) (by (repeat (first | exact Upd.head | apply Upd.tail))) (by (try simp only [List.take_succ_cons, List.take_zero, List.take_nil, List.drop_succ_cons, List.drop_zero, List.drop_nil, List.cons_append, List.nil_append, List.append_nil, List.length_cons, List.length_nil, Nat.reduceAdd, Nat.zero_add, Nat.add_zero]); rfl) (by simp) (by simp [Value.oneCell']) (by kernel_rfl) ?_; clear M; (try clear wc); intro wc M) | (refine m_al M rfl rfl ?_; clear M; (try clear wc); intro g wc M) | (refine m_bx M rfl rfl (by first | exact (rfl : _ = Value.agg _) | exact (rfl : _ = Value.int _ _) | exact (rfl : _ = Value.bool _) | exact (rfl : _ = Value.slice _ _ _) | exact (rfl : _ = Value.pointer _) | exact (rfl : _ = Value.map _) | exact (rfl : _ = Value.func _ _ _) | exact (rfl : _ = Value.string _)) (by rfl) ?_; clear M; (try clear wc); intro g wc M) | (refine lo_row (M.old HG.out.g HG.out.ng) rfl rfl rfl (by (try simp only [List.take_succ_cons, List.take_zero, List.take_nil, List.drop_succ_cons, List.drop_zero, List.drop_nil, List.cons_append, List.nil_append, List.append_nil, List.length_cons, List.length_nil, Nat.reduceAdd, Nat.zero_add, Nat.add_zero]); rfl) (by rfl) ?_) | (go_at_call 106; ((with_reducible refine (has_any _ _ _ _ _).mono ?_); (rw [HH.out]); rintro e wc ⟨rfl, hb⟩; replace M := M.call hb; clear hb)))
    go_ret
    rw [HV.out]
    exact ⟨rfl, M.grown, (M.at (q := (bm, memG j s0 s1)) (by (repeat' (first | exact List.mem_cons_self | refine List.mem_cons_of_mem _ ?_))))⟩
  | false =>
    have HH := Lib.hid hh
    have HV : Hid (sv = decide (0 < kv)) := by show _ = _; rw [HE.out, hh]; rfl
    clear hh
    go_enter Try.func105, Try.ntmps105
    refine m_start M ?_
    clear M
    intro wc M
    go_wp2_with (first | (refine m_ld1 M rfl rfl rfl (by (repeat' (first | exact List.mem_cons_self | refine List.mem_cons_of_mem _ ?_))) (by rfl) ?_) | (refine m_ldr M rfl rfl rfl (by (repeat' (first | exact List.mem_cons_self | refine List.mem_cons_of_mem _ ?_))) (by (try simp only [List.take_succ_cons, List.take_zero, List.take_nil, List.drop_succ_cons, List.drop_zero, List.drop_nil, List.cons_append, List.nil_append, List.append_nil, List.length_cons, List.length_nil, Nat.reduceAdd, Nat.zero_add, Nat.add_zero]); rfl) (by rfl) ?_) | (refine m_st M rfl rfl rfl (by first | exact (rfl : _ = Value.agg _) | exact (rfl : _ = Value.int _ _) | exact (rfl : _ = Value.bool _) | exact (rfl : _ = Value.slice _ _ _) | exact (rfl : _ = Value.pointer _) | exact (rfl : _ = Value.map _) | exact (rfl : _ = Value.func _ _ _) | exact (rfl : _ = Value.string _)) (by rfl) (by (repeat (first | exact Upd.head | apply Upd.tail))) (by (try simp only [List.take_succ_cons, List.take_zero, List.take_nil, List.drop_succ_cons, List.drop_zero, List.drop_nil, List.cons_append, List.nil_append, List.append_nil, List.length_cons, List.length_nil, Nat.reduceAdd, Nat.zero_add, Nat.add_zero]); rfl) (by simp) (by simp [Value.oneCell']) (by kernel_rfl) ?_; clear M; (try clear wc); intro wc M) | (refine m_al M rfl rfl ?_; clear M; (try clear wc); intro g wc M) | (refine m_bx M rfl rfl (by first | exact (rfl : _ = Value.agg _) | exact (rfl : _ = Value.int _ _) | exact (rfl : _ = Value.bool _) | exact (rfl : _ = Value.slice _ _ _) | exact (rfl : _ = Value.pointer _) | exact (rfl : _ = Value.map _) | exact (rfl : _ = Value.func _ _ _) | exact (rfl : _ = Value.string _)) (by rfl) ?_; clear M; (try clear wc); intro g wc M) | (refine lo_row (M.old HG.out.g HG.out.ng) rfl rfl rfl (by (try simp only [List.take_succ_cons, List.take_zero, List.take_nil, List.drop_succ_cons, List.drop_zero, List.drop_nil, List.cons_append, List.nil_append, List.append_nil, List.length_cons, List.length_nil, Nat.reduceAdd, Nat.zero_add, Nat.add_zero]); rfl) (by rfl) ?_) | (refine lo_one (cs := [.map (some bm)]) (M.old HG.out.x HG.out.nx) rfl rfl rfl (by rfl) ?_) | (go_at_call 106; ((with_reducible refine (has_any _ _ _ _ _).mono ?_); (rw [HH.out]); rintro e wc ⟨rfl, hb⟩; replace M := M.call hb; clear hb)) | ((refine lk (ok := okG j s0 s1) Try.keyed Try.underlying131 Try.zeroBool M rfl rfl rfl rfl (by (repeat' (first | exact List.mem_cons_self | refine List.mem_cons_of_mem _ ?_))) HK.out ?_ ?_); (intro v hv; have hv := (HO.out v).1 hv; subst hv)) | (go_at_call 78; ((with_reducible refine (HS.out _ (HG.out.kept M.grown (M.at (q := (bm, memG j s0 s1)) (by (repeat' (first | exact List.mem_cons_self | refine List.mem_cons_of_mem _ ?_)))))).mono ?_); rintro e wc ⟨rfl, hgr, hm⟩; skip; replace M := M.callW (by (repeat (first | exact Upd.head | apply Upd.tail))) hgr hm; clear hgr hm)) | (refine mu (ok := okG j s0 s1) Try.keyed Try.underlying131 M rfl rfl rfl rfl rfl (by (repeat (first | exact Upd.head | apply Upd.tail))) HK.out ((HO.out _).2 (by rw [HV.out]; rfl)) ?_; clear M; (try clear wc); intro wc M))
    · go_ret
      exact ⟨rfl, M.grown, (M.at (q := (bm, memG j s0 s1)) (by (repeat' (first | exact List.mem_cons_self | refine List.mem_cons_of_mem _ ?_))))⟩
    · go_ret
      rw [HV.out]
      exact ⟨rfl, M.grown, (M.at (q := (bm, memG j s0 s1)) (by (repeat' (first | exact List.mem_cons_self | refine List.mem_cons_of_mem _ ?_))))⟩

theorem stops_any (j : Jb) (A : Option Addr) (c : Nat) (s0 s1 : Int) (bg bx bm : Nat) (hj : j.good) : ∀ n, StopsC j A c s0 s1 bg bx bm n
  | 0 => fun p0 p1 t r w hb hg => stops_of j A c s0 s1 bg bx bm 0 p0 p1 t r w hb hg fun w' hg' => stroke_0 j A c s0 s1 bg bx bm p0 p1 t r w' hg'
  | n + 1 => fun p0 p1 t r w hb hg => stops_of j A c s0 s1 bg bx bm (n + 1) p0 p1 t r w hb hg fun w' hg' => stroke_s j A c s0 s1 bg bx bm n hj (stops_any j A c s0 s1 bg bx bm hj n) p0 p1 t r w' hb hg'
theorem stopsC (j : Jb) (A : Option Addr) (c : Nat) (s0 s1 : Int) (bg bx bm : Nat) (hj : j.good) (n : Nat) (p0 p1 t r : Int) (w : World) (hb : Bnd n p0 p1 t r) (hg : Gm j A c s0 s1 bg bx bm w) :
    Calls Try.prog 105 #[kn5 p0 p1 t r n, .pointer (some ⟨bg, 0, none⟩), .pointer (some ⟨bx, 0, none⟩)] w (GPost j s0 s1 bm (.bool (stopsP j s0 s1 n p0 p1 t r)) w) := stops_any j A c s0 s1 bg bx bm hj n p0 p1 t r w hb hg
theorem strokeC (j : Jb) (A : Option Addr) (c : Nat) (s0 s1 : Int) (bg bx bm : Nat) (hj : j.good) (n : Nat) (p0 p1 t r : Int) (w : World) (hb : Bnd n p0 p1 t r) (hg : Gm j A c s0 s1 bg bx bm w) :
    Calls Try.prog 78 #[.agg (gmA j A c s0 s1 bg bx).toArray, kn5 p0 p1 t r n] w (GPost j s0 s1 bm (.int .i64 (strokeP j s0 s1 n p0 p1 t r)) w) := by
  cases n with
  | zero => exact stroke_0 j A c s0 s1 bg bx bm p0 p1 t r w hg
  | succ n => exact stroke_s j A c s0 s1 bg bx bm n hj (stops_any j A c s0 s1 bg bx bm hj n) p0 p1 t r w hb hg
theorem readsC (j : Jb) (A : Option Addr) (c : Nat) (s0 s1 : Int) (bg bx bm : Nat) (hj : j.good) (n : Nat) (p0 p1 t r : Int) (w : World) (hb : Bnd n p0 p1 t r) (hg : Gm j A c s0 s1 bg bx bm w) :
    Calls Try.prog 75 #[.agg (gmA j A c s0 s1 bg bx).toArray, kn5 p0 p1 t r n] w (GPost j s0 s1 bm (.bool (readsP j s0 s1 n p0 p1 t r)) w) := reads_any j A c s0 s1 bg bx bm n hj (stops_any j A c s0 s1 bg bx bm hj n) p0 p1 t r w hb hg

end Go.Proofs.Ythlpceoajhcliaa
end

section
/-
  reed: Guided and Next.
-/
namespace Go.Proofs.Ythlpceoajhcliaa
set_option linter.unusedSimpArgs false
set_option linter.unusedVariables false
open Go.RowKit

/-- The first number for which something is so. -/
def firstB (b : Nat → Bool) : Nat → Nat → Option Nat
  | 0, _ => none
  | k + 1, n => if b n = true then some n else firstB b k (n + 1)
theorem first_hit {b : Nat → Bool} {n : Nat} (hn : n < 5) (h : b n = true) : firstB b (5 - n) n = some n := by
  obtain ⟨k, hk⟩ : ∃ k, 5 - n = k + 1 := ⟨4 - n, by omega⟩
  rw [hk, firstB, if_pos h]
theorem first_miss {b : Nat → Bool} {n : Nat} (hn : n < 5) (h : b n = false) : firstB b (5 - n) n = firstB b (5 - (n + 1)) (n + 1) := by
  obtain ⟨k, hk⟩ : ∃ k, 5 - n = k + 1 := ⟨4 - n, by omega⟩
  have hk2 : 5 - (n + 1) = k := by omega
  rw [hk, firstB, if_neg (by rw [h]; simp), hk2]
theorem first_end {b : Nat → Bool} {n : Nat} (hn : 5 ≤ n) : firstB b (5 - n) n = none := by
  have : 5 - n = 0 := by omega
  rw [this]; rfl
theorem first_lt {b : Nat → Bool} : ∀ {k n m : Nat}, firstB b k n = some m → m < n + k
  | 0, _, _, h => by cases h
  | k + 1, n, m, h => by
    unfold firstB at h
    split at h
    · injection h with h; omega
    · have := first_lt h; omega
def fewV (o : Option Nat) : Value := match o with | some n => .tuple #[.int .i64 n, .bool true] | none => .tuple #[.int .i64 0, .bool false]

set_option maxRecDepth 100000 in
set_option maxHeartbeats 1000000 in
theorem fewest_Guided (j : Jb) (s0 s1 : Int) (bm gG gJ : Nat) (b : Nat → Bool) (Inv : World → Prop) (hI : ∀ W W', Inv W → W.grownBy W' (some bm) → (memG j s0 s1).holds W' bm → Inv W')
    (hf : ∀ (n : Nat) W, n < 5 → Inv W → Calls Try.prog 74 #[.int .i64 n, .pointer (some ⟨gG, 0, none⟩), .pointer (some ⟨gJ, 0, none⟩)] W (GPost j s0 s1 bm (.bool (b n)) W)) (w : World) (h0 : Inv w) (hm : (memG j s0 s1).holds w bm) :
    Calls Try.prog 73 #[.func (.func 74) #[] #[.pointer (some ⟨gG, 0, none⟩), .pointer (some ⟨gJ, 0, none⟩)]] w (GPost j s0 s1 bm (fewV (firstB b 5 0)) w) := by
  have HI := Lib.hid hI
  have HF := Lib.hid hf
  have H0 := Lib.hid h0
  have M := Mem.initEx hm
  clear hI hf h0 hm
  generalize hv : firstB b 5 0 = fv at *
  have HV := Lib.hid hv
  clear hv
  go_enter Try.func73, Try.ntmps73
  refine m_start M ?_
  clear M
  intro wc M
  go_wp2_with (first | (refine m_ld1 M rfl rfl rfl (by (repeat' (first | exact List.mem_cons_self | refine List.mem_cons_of_mem _ ?_))) (by rfl) ?_) | (refine m_ldr M rfl rfl rfl (by (repeat' (first | exact List.mem_cons_self | refine List.mem_cons_of_mem _ ?_))) (by (try simp only [List.take_succ_cons, List.take_zero, List.take_nil, List.drop_succ_cons, List.drop_zero, List.drop_nil, List.cons_append, List.nil_append, List.append_nil, List.length_cons, List.length_nil, Nat.reduceAdd, Nat.zero_add, Nat.add_zero]); rfl) (by rfl) ?_) | (refine m_st M rfl rfl rfl (by first | exact (rfl : _ = Value.agg _) | exact (rfl : _ = Value.int _ _) | exact (rfl : _ = Value.bool _) | exact (rfl : _ = Value.slice _ _ _) | exact (rfl : _ = Value.pointer _) | exact (rfl : _ = Value.map _) | exact (rfl : _ = Value.func _ _ _) | exact (rfl : _ = Value.string _)) (by rfl) (by (repeat (first | exact Upd.head | apply Upd.tail))) (by (try simp only [List.take_succ_cons, List.take_zero, List.take_nil, List.drop_succ_cons, List.drop_zero, List.drop_nil, List.cons_append, List.nil_append, List.append_nil, List.length_cons, List.length_nil, Nat.reduceAdd, Nat.zero_add, Nat.add_zero]); rfl) (by simp) (by simp [Value.oneCell']) (by kernel_rfl) ?_; clear M; (try clear wc); intro wc M) | (refine m_al M rfl rfl ?_; clear M; (try clear wc); intro g wc M) | (refine m_bx M rfl rfl (by first | exact (rfl : _ = Value.agg _) | exact (rfl : _ = Value.int _ _) | exact (rfl : _ = Value.bool _) | exact (rfl : _ = Value.slice _ _ _) | exact (rfl : _ = Value.pointer _) | exact (rfl : _ = Value.map _) | exact (rfl : _ = Value.func _ _ _) | exact (rfl : _ = Value.string _)) (by rfl) ?_; clear M; (try clear wc); intro g wc M))
  go_loopw [5] (fun v wr => ∃ n : Nat, v = .int .i64 n ∧ n ≤ 5 ∧ Hid (firstB b 5 0 = firstB b (5 - n) n) ∧ Mem w (fun b => b = bm) wr [(bm, memG j s0 s1)]) (fun v _ => (5 - intOf v).toNat)
  case atStart => exact ⟨0, rfl, by omega, rfl, M⟩
  case round =>
    clear M wc
    obtain ⟨n, rfl, hn, he, M⟩ := hrel
    obtain ⟨wc, rfl⟩ : ∃ x : World, x = wr := ⟨_, rfl⟩
    by_cases hlt : n < 5
    · have e1 : decide ((n : Int) < 5) = true := by simp; omega
      have HL := Lib.hid hlt
      have CI := Lib.hid (HI.out w wc H0.out M.grown (M.at (q := (bm, memG j s0 s1)) (by (repeat' (first | exact List.mem_cons_self | refine List.mem_cons_of_mem _ ?_)))))
      cases hb : b n with
      | true =>
        have HB := Lib.hid hb
        clear hb
        go_wp2_with (first | (refine m_ld1 M rfl rfl rfl (by (repeat' (first | exact List.mem_cons_self | refine List.mem_cons_of_mem _ ?_))) (by rfl) ?_) | (refine m_ldr M rfl rfl rfl (by (repeat' (first | exact List.mem_cons_self | refine List.mem_cons_of_mem _ ?_))) (by (try simp only [List.take_succ_cons, List.take_zero, List.take_nil, List.drop_succ_cons, List.drop_zero, List.drop_nil, List.cons_append, List.nil_append, List.append_nil, List.length_cons, List.length_nil, Nat.reduceAdd, Nat.zero_add, Nat.add_zero]); rfl) (by rfl) ?_) | (refine m_st M rfl rfl rfl (by first | exact (rfl : _ = Value.agg _) | exact (rfl : _ = Value.int _ _) | exact (rfl : _ = Value.bool _) | exact (rfl : _ = Value.slice _ _ _) | exact (rfl : _ = Value.pointer _) | exact (rfl : _ = Value.map _) | exact (rfl : _ = Value.func _ _ _) | exact (rfl : _ = Value.string _)) (by rfl) (by (repeat (first | exact Upd.head | apply Upd.tail))) (by (try simp only [List.take_succ_cons, List.take_zero, List.take_nil, List.drop_succ_cons, List.drop_zero, List.drop_nil, List.cons_append, List.nil_append, List.append_nil, List.length_cons, List.length_nil, Nat.reduceAdd, Nat.zero_add, Nat.add_zero]); rfl) (by simp) (by simp [Value.oneCell']) (by kernel_rfl) ?_; clear M; (try clear wc); intro wc M) | (refine m_al M rfl rfl ?_; clear M; (try clear wc); intro g wc M) | (refine m_bx M rfl rfl (by first | exact (rfl : _ = Value.agg _) | exact (rfl : _ = Value.int _ _) | exact (rfl : _ = Value.bool _) | exact (rfl : _ = Value.slice _ _ _) | exact (rfl : _ = Value.pointer _) | exact (rfl : _ = Value.map _) | exact (rfl : _ = Value.func _ _ _) | exact (rfl : _ = Value.string _)) (by rfl) ?_; clear M; (try clear wc); intro g wc M) | (go_at_call 74; ((with_reducible refine (HF.out n _ HL.out CI.out).mono ?_); rintro e wc ⟨rfl, hgr, hm⟩; (rw [HB.out]); replace M := M.callW (by (repeat (first | exact Upd.head | apply Upd.tail))) hgr hm; clear hgr hm)))
        go_ret2
        have e : fv = some n := by rw [← HV.out, he.out, first_hit HL.out HB.out]
        rw [e]
        exact ⟨rfl, M.grown, (M.at (q := (bm, memG j s0 s1)) (by (repeat' (first | exact List.mem_cons_self | refine List.mem_cons_of_mem _ ?_))))⟩
      | false =>
        have HB := Lib.hid hb
        clear hb
        go_wp2_with (first | (refine m_ld1 M rfl rfl rfl (by (repeat' (first | exact List.mem_cons_self | refine List.mem_cons_of_mem _ ?_))) (by rfl) ?_) | (refine m_ldr M rfl rfl rfl (by (repeat' (first | exact List.mem_cons_self | refine List.mem_cons_of_mem _ ?_))) (by (try simp only [List.take_succ_cons, List.take_zero, List.take_nil, List.drop_succ_cons, List.drop_zero, List.drop_nil, List.cons_append, List.nil_append, List.append_nil, List.length_cons, List.length_nil, Nat.reduceAdd, Nat.zero_add, Nat.add_zero]); rfl) (by rfl) ?_) | (refine m_st M rfl rfl rfl (by first | exact (rfl : _ = Value.agg _) | exact (rfl : _ = Value.int _ _) | exact (rfl : _ = Value.bool _) | exact (rfl : _ = Value.slice _ _ _) | exact (rfl : _ = Value.pointer _) | exact (rfl : _ = Value.map _) | exact (rfl : _ = Value.func _ _ _) | exact (rfl : _ = Value.string _)) (by rfl) (by (repeat (first | exact Upd.head | apply Upd.tail))) (by (try simp only [List.take_succ_cons, List.take_zero, List.take_nil, List.drop_succ_cons, List.drop_zero, List.drop_nil, List.cons_append, List.nil_append, List.append_nil, List.length_cons, List.length_nil, Nat.reduceAdd, Nat.zero_add, Nat.add_zero]); rfl) (by simp) (by simp [Value.oneCell']) (by kernel_rfl) ?_; clear M; (try clear wc); intro wc M) | (refine m_al M rfl rfl ?_; clear M; (try clear wc); intro g wc M) | (refine m_bx M rfl rfl (by first | exact (rfl : _ = Value.agg _) | exact (rfl : _ = Value.int _ _) | exact (rfl : _ = Value.bool _) | exact (rfl : _ = Value.slice _ _ _) | exact (rfl : _ = Value.pointer _) | exact (rfl : _ = Value.map _) | exact (rfl : _ = Value.func _ _ _) | exact (rfl : _ = Value.string _)) (by rfl) ?_; clear M; (try clear wc); intro g wc M) | (go_at_call 74; ((with_reducible refine (HF.out n _ HL.out CI.out).mono ?_); rintro e wc ⟨rfl, hgr, hm⟩; (rw [HB.out]); replace M := M.callW (by (repeat (first | exact Upd.head | apply Upd.tail))) hgr hm; clear hgr hm)))
        go_roundw
        case rel => exact ⟨n + 1, by go_num, by omega, by (show _ = _; rw [he.out, first_miss HL.out HB.out]), M⟩
        case measure => simp [intOf]; omega
    · have e1 : decide ((n : Int) < 5) = false := by simp; omega
      go_wp2_with (first | (refine m_ld1 M rfl rfl rfl (by (repeat' (first | exact List.mem_cons_self | refine List.mem_cons_of_mem _ ?_))) (by rfl) ?_) | (refine m_ldr M rfl rfl rfl (by (repeat' (first | exact List.mem_cons_self | refine List.mem_cons_of_mem _ ?_))) (by (try simp only [List.take_succ_cons, List.take_zero, List.take_nil, List.drop_succ_cons, List.drop_zero, List.drop_nil, List.cons_append, List.nil_append, List.append_nil, List.length_cons, List.length_nil, Nat.reduceAdd, Nat.zero_add, Nat.add_zero]); rfl) (by rfl) ?_) | (refine m_st M rfl rfl rfl (by first | exact (rfl : _ = Value.agg _) | exact (rfl : _ = Value.int _ _) | exact (rfl : _ = Value.bool _) | exact (rfl : _ = Value.slice _ _ _) | exact (rfl : _ = Value.pointer _) | exact (rfl : _ = Value.map _) | exact (rfl : _ = Value.func _ _ _) | exact (rfl : _ = Value.string _)) (by rfl) (by (repeat (first | exact Upd.head | apply Upd.tail))) (by (try simp only [List.take_succ_cons, List.take_zero, List.take_nil, List.drop_succ_cons, List.drop_zero, List.drop_nil, List.cons_append, List.nil_append, List.append_nil, List.length_cons, List.length_nil, Nat.reduceAdd, Nat.zero_add, Nat.add_zero]); rfl) (by simp) (by simp [Value.oneCell']) (by kernel_rfl) ?_; clear M; (try clear wc); intro wc M) | (refine m_al M rfl rfl ?_; clear M; (try clear wc); intro g wc M) | (refine m_bx M rfl rfl (by first | exact (rfl : _ = Value.agg _) | exact (rfl : _ = Value.int _ _) | exact (rfl : _ = Value.bool _) | exact (rfl : _ = Value.slice _ _ _) | exact (rfl : _ = Value.pointer _) | exact (rfl : _ = Value.map _) | exact (rfl : _ = Value.func _ _ _) | exact (rfl : _ = Value.string _)) (by rfl) ?_; clear M; (try clear wc); intro g wc M))
      go_ret2
      have e : fv = none := by rw [← HV.out, he.out, first_end (by omega)]
      rw [e]
      exact ⟨rfl, M.grown, (M.at (q := (bm, memG j s0 s1)) (by (repeat' (first | exact List.mem_cons_self | refine List.mem_cons_of_mem _ ?_))))⟩

set_option maxRecDepth 100000 in
set_option maxHeartbeats 1000000 in
theorem fewest_Next (j : Jb) (s0 s1 : Int) (bm gG gJ : Nat) (b : Nat → Bool) (Inv : World → Prop) (hI : ∀ W W', Inv W → W.grownBy W' (some bm) → (memG j s0 s1).holds W' bm → Inv W')
    (hf : ∀ (n : Nat) W, n < 5 → Inv W → Calls Try.prog 77 #[.int .i64 n, .pointer (some ⟨gG, 0, none⟩), .pointer (some ⟨gJ, 0, none⟩)] W (GPost j s0 s1 bm (.bool (b n)) W)) (w : World) (h0 : Inv w) (hm : (memG j s0 s1).holds w bm) :
    Calls Try.prog 73 #[.func (.func 77) #[] #[.pointer (some ⟨gG, 0, none⟩), .pointer (some ⟨gJ, 0, none⟩)]] w (GPost j s0 s1 bm (fewV (firstB b 5 0)) w) := by
  have HI := Lib.hid hI
  have HF := Lib.hid hf
  have H0 := Lib.hid h0
  have M := Mem.initEx hm
  clear hI hf h0 hm
  generalize hv : firstB b 5 0 = fv at *
  have HV := Lib.hid hv
  clear hv
  go_enter Try.func73, Try.ntmps73
  refine m_start M ?_
  clear M
  intro wc M
  go_wp2_with (first | (refine m_ld1 M rfl rfl rfl (by (repeat' (first | exact List.mem_cons_self | refine List.mem_cons_of_mem _ ?_))) (by rfl) ?_) | (refine m_ldr M rfl rfl rfl (by (repeat' (first | exact List.mem_cons_self | refine List.mem_cons_of_mem _ ?_))) (by (try simp only [List.take_succ_cons, List.take_zero, List.take_nil, List.drop_succ_cons, List.drop_zero, List.drop_nil, List.cons_append, List.nil_append, List.append_nil, List.length_cons, List.length_nil, Nat.reduceAdd, Nat.zero_add, Nat.add_zero]); rfl) (by rfl) ?_) | (refine m_st M rfl rfl rfl (by first | exact (rfl : _ = Value.agg _) | exact (rfl : _ = Value.int _ _) | exact (rfl : _ = Value.bool _) | exact (rfl : _ = Value.slice _ _ _) | exact (rfl : _ = Value.pointer _) | exact (rfl : _ = Value.map _) | exact (rfl : _ = Value.func _ _ _) | exact (rfl : _ = Value.string _)) (by rfl) (by (repeat (first | exact Upd.head | apply Upd.tail))) (by (try simp only [List.take_succ_cons, List.take_zero, List.take_nil, List.drop_succ_cons, List.drop_zero, List.drop_nil, List.cons_append, List.nil_append, List.append_nil, List.length_cons, List.length_nil, Nat.reduceAdd, Nat.zero_add, Nat.add_zero]); rfl) (by simp) (by simp [Value.oneCell']) (by kernel_rfl) ?_; clear M; (try clear wc); intro wc M) | (refine m_al M rfl rfl ?_; clear M; (try clear wc); intro g wc M) | (refine m_bx M rfl rfl (by first | exact (rfl : _ = Value.agg _) | exact (rfl : _ = Value.int _ _) | exact (rfl : _ = Value.bool _) | exact (rfl : _ = Value.slice _ _ _) | exact (rfl : _ = Value.pointer _) | exact (rfl : _ = Value.map _) | exact (rfl : _ = Value.func _ _ _) | exact (rfl : _ = Value.string _)) (by rfl) ?_; clear M; (try clear wc); intro g wc M))
  go_loopw [5] (fun v wr => ∃ n : Nat, v = .int .i64 n ∧ n ≤ 5 ∧ Hid (firstB b 5 0 = firstB b (5 - n) n) ∧ Mem w (fun b => b = bm) wr [(bm, memG j s0 s1)]) (fun v _ => (5 - intOf v).toNat)
  case atStart => exact ⟨0, rfl, by omega, rfl, M⟩
  case round =>
    clear M wc
    obtain ⟨n, rfl, hn, he, M⟩ := hrel
    obtain ⟨wc, rfl⟩ : ∃ x : World, x = wr := ⟨_, rfl⟩
    by_cases hlt : n < 5
    · have e1 : decide ((n : Int) < 5) = true := by simp; omega
      have HL := Lib.hid hlt
      have CI := Lib.hid (HI.out w wc H0.out M.grown (M.at (q := (bm, memG j s0 s1)) (by (repeat' (first | exact List.mem_cons_self | refine List.mem_cons_of_mem _ ?_)))))
      cases hb : b n with
      | true =>
        have HB := Lib.hid hb
        clear hb
        go_wp2_with (first | (refine m_ld1 M rfl rfl rfl (by (repeat' (first | exact List.mem_cons_self | refine List.mem_cons_of_mem _ ?_))) (by rfl) ?_) | (refine m_ldr M rfl rfl rfl (by (repeat' (first | exact List.mem_cons_self | refine List.mem_cons_of_mem _ ?_))) (by (try simp only [List.take_succ_cons, List.take_zero, List.take_nil, List.drop_succ_cons, List.drop_zero, List.drop_nil, List.cons_append, List.nil_append, List.append_nil, List.length_cons, List.length_nil, Nat.reduceAdd, Nat.zero_add, Nat.add_zero]); rfl) (by rfl) ?_) | (refine m_st M rfl rfl rfl (by first | exact (rfl : _ = Value.agg _) | exact (rfl : _ = Value.int _ _) | exact (rfl : _ = Value.bool _) | exact (rfl : _ = Value.slice _ _ _) | exact (rfl : _ = Value.pointer _) | exact (rfl : _ = Value.map _) | exact (rfl : _ = Value.func _ _ _) | exact (rfl : _ = Value.string _)) (by rfl) (by (repeat (first | exact Upd.head | apply Upd.tail))) (by (try simp only [List.take_succ_cons, List.take_zero, List.take_nil, List.drop_succ_cons, List.drop_zero, List.drop_nil, List.cons_append, List.nil_append, List.append_nil, List.length_cons, List.length_nil, Nat.reduceAdd, Nat.zero_add, Nat.add_zero]); rfl) (by simp) (by simp [Value.oneCell']) (by kernel_rfl) ?_; clear M; (try clear wc); intro wc M) | (refine m_al M rfl rfl ?_; clear M; (try clear wc); intro g wc M) | (refine m_bx M rfl rfl (by first | exact (rfl : _ = Value.agg _) | exact (rfl : _ = Value.int _ _) | exact (rfl : _ = Value.bool _) | exact (rfl : _ = Value.slice _ _ _) | exact (rfl : _ = Value.pointer _) | exact (rfl : _ = Value.map _) | exact (rfl : _ = Value.func _ _ _) | exact (rfl : _ = Value.string _)) (by rfl) ?_; clear M; (try clear wc); intro g wc M) | (go_at_call 77; ((with_reducible refine (HF.out n _ HL.out CI.out).mono ?_); rintro e wc ⟨rfl, hgr, hm⟩; (rw [HB.out]); replace M := M.callW (by (repeat (first | exact Upd.head | apply Upd.tail))) hgr hm; clear hgr hm)))
        go_ret2
        have e : fv = some n := by rw [← HV.out, he.out, first_hit HL.out HB.out]
        rw [e]
        exact ⟨rfl, M.grown, (M.at (q := (bm, memG j s0 s1)) (by (repeat' (first | exact List.mem_cons_self | refine List.mem_cons_of_mem _ ?_))))⟩
      | false =>
        have HB := Lib.hid hb
        clear hb
        go_wp2_with (first | (refine m_ld1 M rfl rfl rfl (by (repeat' (first | exact List.mem_cons_self | refine List.mem_cons_of_mem _ ?_))) (by rfl) ?_) | (refine m_ldr M rfl rfl rfl (by (repeat' (first | exact List.mem_cons_self | refine List.mem_cons_of_mem _ ?_))) (by (try simp only [List.take_succ_cons, List.take_zero, List.take_nil, List.drop_succ_cons, List.drop_zero, List.drop_nil, List.cons_append, List.nil_append, List.append_nil, List.length_cons, List.length_nil, Nat.reduceAdd, Nat.zero_add, Nat.add_zero]); rfl) (by rfl) ?_) | (refine m_st M rfl rfl rfl (by first | exact (rfl : _ = Value.agg _) | exact (rfl : _ = Value.int _ _) | exact (rfl : _ = Value.bool _) | exact (rfl : _ = Value.slice _ _ _) | exact (rfl : _ = Value.pointer _) | exact (rfl : _ = Value.map _) | exact (rfl : _ = Value.func _ _ _) | exact (rfl : _ = Value.string _)) (by rfl) (by (repeat (first | exact Upd.head | apply Upd.tail))) (by (try simp only [List.take_succ_cons, List.take_zero, List.take_nil, List.drop_succ_cons, List.drop_zero, List.drop_nil, List.cons_append, List.nil_append, List.append_nil, List.length_cons, List.length_nil, Nat.reduceAdd, Nat.zero_add, Nat.add_zero]); rfl) (by simp) (by simp [Value.oneCell']) (by kernel_rfl) ?_; clear M; (try clear wc); intro wc M) | (refine m_al M rfl rfl ?_; clear M; (try clear wc); intro g wc M) | (refine m_bx M rfl rfl (by first | exact (rfl : _ = Value.agg _) | exact (rfl : _ = Value.int _ _) | exact (rfl : _ = Value.bool _) | exact (rfl : _ = Value.slice _ _ _) | exact (rfl : _ = Value.pointer _) | exact (rfl : _ = Value.map _) | exact (rfl : _ = Value.func _ _ _) | exact (rfl : _ = Value.string _)) (by rfl) ?_; clear M; (try clear wc); intro g wc M) | (go_at_call 77; ((with_reducible refine (HF.out n _ HL.out CI.out).mono ?_); rintro e wc ⟨rfl, hgr, hm⟩; (rw [HB.out]); replace M := M.callW (by (repeat (first | exact Upd.head | apply Upd.tail))) hgr hm; clear hgr hm)))
        go_roundw
        case rel => exact ⟨n + 1, by go_num, by omega, by (show _ = _; rw [he.out, first_miss HL.out HB.out]), M⟩
        case measure => simp [intOf]; omega
    · have e1 : decide ((n : Int) < 5) = false := by simp; omega
      go_wp2_with (first | (refine m_ld1 M rfl rfl rfl (by (repeat' (first | exact List.mem_cons_self | refine List.mem_cons_of_mem _ ?_))) (by rfl) ?_) | (refine m_ldr M rfl rfl rfl (by (repeat' (first | exact List.mem_cons_self | refine List.mem_cons_of_mem _ ?_))) (by (try simp only [List.take_succ_cons, List.take_zero, List.take_nil, List.drop_succ_cons, List.drop_zero, List.drop_nil, List.cons_append, List.nil_append, List.append_nil, List.length_cons, List.length_nil, Nat.reduceAdd, Nat.zero_add, Nat.add_zero]); rfl) (by rfl) ?_) | (refine m_st M rfl rfl rfl (by first | exact (rfl : _ = Value.agg _) | exact (rfl : _ = Value.int _ _) | exact (rfl : _ = Value.bool _) | exact (rfl : _ = Value.slice _ _ _) | exact (rfl : _ = Value.pointer _) | exact (rfl : _ = Value.map _) | exact (rfl : _ = Value.func _ _ _) | exact (rfl : _ = Value.string _)) (by rfl) (by (repeat (first | exact Upd.head | apply Upd.tail))) (by (try simp only [List.take_succ_cons, List.take_zero, List.take_nil, List.drop_succ_cons, List.drop_zero, List.drop_nil, List.cons_append, List.nil_append, List.append_nil, List.length_cons, List.length_nil, Nat.reduceAdd, Nat.zero_add, Nat.add_zero]); rfl) (by simp) (by simp [Value.oneCell']) (by kernel_rfl) ?_; clear M; (try clear wc); intro wc M) | (refine m_al M rfl rfl ?_; clear M; (try clear wc); intro g wc M) | (refine m_bx M rfl rfl (by first | exact (rfl : _ = Value.agg _) | exact (rfl : _ = Value.int _ _) | exact (rfl : _ = Value.bool _) | exact (rfl : _ = Value.slice _ _ _) | exact (rfl : _ = Value.pointer _) | exact (rfl : _ = Value.map _) | exact (rfl : _ = Value.func _ _ _) | exact (rfl : _ = Value.string _)) (by rfl) ?_; clear M; (try clear wc); intro g wc M))
      go_ret2
      have e : fv = none := by rw [← HV.out, he.out, first_end (by omega)]
      rw [e]
      exact ⟨rfl, M.grown, (M.at (q := (bm, memG j s0 s1)) (by (repeat' (first | exact List.mem_cons_self | refine List.mem_cons_of_mem _ ?_))))⟩

/-- A game in memory with two boxes beside it. -/
structure Gn (j : Jb) (A : Option Addr) (c : Nat) (s0 s1 : Int) (bg bx bm gG gJ : Nat) (w : World) : Prop where
  g : Gm j A c s0 s1 bg bx bm w
  b : Bk w gG (gmA j A c s0 s1 bg bx).toArray
  j : Bk w gJ #[.int .i64 j.p0, .int .i64 j.p1, .int .i64 j.t0, .int .i64 j.t1, .int .i64 j.r0, .int .i64 j.r1, .int .i64 j.u0, .int .i64 j.u1, .int .i64 j.d0, .int .i64 j.d1, .int .i64 j.a0, .int .i64 j.a1, .int .i64 j.b0, .int .i64 j.b1, .int .i64 j.le, .slice A j.sh.length c, .int .i64 j.wi, .int .i64 j.me]
  nb : gG ≠ bm
  nj : gJ ≠ bm
theorem Gn.kept {j : Jb} {A : Option Addr} {c : Nat} {s0 s1 : Int} {bg bx bm gG gJ : Nat} {w w' : World} (h : Gn j A c s0 s1 bg bx bm gG gJ w) (hg : w.grownBy w' (some bm)) (hm : (memG j s0 s1).holds w' bm) : Gn j A c s0 s1 bg bx bm gG gJ w' :=
  ⟨h.g.kept hg hm, h.b.grown hg (fun e => h.nb (by injection e)), h.j.grown hg (fun e => h.nj (by injection e)), h.nb, h.nj⟩
theorem bnd_0 {j : Jb} (hj : j.good) {n : Nat} (hn : n < 5) : Bnd n j.p0 j.p1 0 0 := by
  have := hj.p
  exact ⟨by omega, by omega, by omega, by omega, by omega⟩

set_option maxRecDepth 100000 in
set_option maxHeartbeats 1000000 in
theorem Guided1_any (j : Jb) (A : Option Addr) (c : Nat) (s0 s1 : Int) (bg bx bm gG gJ : Nat) (hj : j.good) (n : Nat) (hn : n < 5) (w : World) (hg : Gn j A c s0 s1 bg bx bm gG gJ w) :
    Calls Try.prog 74 #[.int .i64 n, .pointer (some ⟨gG, 0, none⟩), .pointer (some ⟨gJ, 0, none⟩)] w (GPost j s0 s1 bm (.bool (readsP j s0 s1 n j.p0 j.p1 0 0)) w) := by
  have M := Mem.initEx hg.g.m
  have HG := Lib.hid hg
  have HJ := Lib.hid hj
  clear hg hj
  go_enter Try.func74, Try.ntmps74
  refine m_start M ?_
  clear M
  intro wc M
  go_wp2_with (first | (refine m_ld1 M rfl rfl rfl (by (repeat' (first | exact List.mem_cons_self | refine List.mem_cons_of_mem _ ?_))) (by rfl) ?_) | (refine m_ldr M rfl rfl rfl (by (repeat' (first | exact List.mem_cons_self | refine List.mem_cons_of_mem _ ?_))) (by (try simp only [List.take_succ_cons, List.take_zero, List.take_nil, List.drop_succ_cons, List.drop_zero, List.drop_nil, List.cons_append, List.nil_append, List.append_nil, List.length_cons, List.length_nil, Nat.reduceAdd, Nat.zero_add, Nat.add_zero]); rfl) (by rfl) ?_) | (refine m_st M rfl rfl rfl (by first | exact (rfl : _ = Value.agg _) | exact (rfl : _ = Value.int _ _) | exact (rfl : _ = Value.bool _) | exact (rfl : _ = Value.slice _ _ _) | exact (rfl : _ = Value.pointer _) | exact (rfl : _ = Value.map _) | exact (rfl : _ = Value.func _ _ _) | exact (rfl : _ = Value.string _)) (by rfl) (by (repeat (first | exact Upd.head | apply Upd.tail))) (by (try simp only [List.take_succ_cons, List.take_zero, List.take_nil, List.drop_succ_cons, List.drop_zero, List.drop_nil, List.cons_append, List.nil_append, List.append_nil, List.length_cons, List.length_nil, Nat.reduceAdd, Nat.zero_add, Nat.add_zero]); rfl) (by simp) (by simp [Value.oneCell']) (by kernel_rfl) ?_; clear M; (try clear wc); intro wc M) | (refine m_al M rfl rfl ?_; clear M; (try clear wc); intro g wc M) | (refine m_bx M rfl rfl (by first | exact (rfl : _ = Value.agg _) | exact (rfl : _ = Value.int _ _) | exact (rfl : _ = Value.bool _) | exact (rfl : _ = Value.slice _ _ _) | exact (rfl : _ = Value.pointer _) | exact (rfl : _ = Value.map _) | exact (rfl : _ = Value.func _ _ _) | exact (rfl : _ = Value.string _)) (by rfl) ?_; clear M; (try clear wc); intro g wc M) | (refine lo_row (M.old HG.out.b HG.out.nb) rfl rfl rfl (by (try simp only [List.take_succ_cons, List.take_zero, List.take_nil, List.drop_succ_cons, List.drop_zero, List.drop_nil, List.cons_append, List.nil_append, List.append_nil, List.length_cons, List.length_nil, Nat.reduceAdd, Nat.zero_add, Nat.add_zero]); rfl) (by rfl) ?_) | (refine lo_row (M.old HG.out.j HG.out.nj) rfl rfl rfl (by (try simp only [List.take_succ_cons, List.take_zero, List.take_nil, List.drop_succ_cons, List.drop_zero, List.drop_nil, List.cons_append, List.nil_append, List.append_nil, List.length_cons, List.length_nil, Nat.reduceAdd, Nat.zero_add, Nat.add_zero]); rfl) (by rfl) ?_) | (go_at_call 75; ((with_reducible refine (readsC j A c s0 s1 bg bx bm HJ.out n j.p0 j.p1 0 0 _ (bnd_0 HJ.out hn) (HG.out.kept M.grown (M.at (q := (bm, memG j s0 s1)) (by (repeat' (first | exact List.mem_cons_self | refine List.mem_cons_of_mem _ ?_))))).g).mono ?_); rintro e wc ⟨rfl, hgr, hm⟩; skip; replace M := M.callW (by (repeat (first | exact Upd.head | apply Upd.tail))) hgr hm; clear hgr hm)))
  go_ret
  exact ⟨rfl, M.grown, (M.at (q := (bm, memG j s0 s1)) (by (repeat' (first | exact List.mem_cons_self | refine List.mem_cons_of_mem _ ?_))))⟩

set_option maxRecDepth 100000 in
set_option maxHeartbeats 1000000 in
theorem Next1_any (j : Jb) (A : Option Addr) (c : Nat) (s0 s1 : Int) (bg bx bm gG gJ : Nat) (hj : j.good) (n : Nat) (hn : n < 5) (w : World) (hg : Gn j A c s0 s1 bg bx bm gG gJ w) :
    Calls Try.prog 77 #[.int .i64 n, .pointer (some ⟨gG, 0, none⟩), .pointer (some ⟨gJ, 0, none⟩)] w (GPost j s0 s1 bm (.bool (stopsP j s0 s1 n j.p0 j.p1 0 0)) w) := by
  have M := Mem.initEx hg.g.m
  have HG := Lib.hid hg
  have HJ := Lib.hid hj
  clear hg hj
  go_enter Try.func77, Try.ntmps77
  refine m_start M ?_
  clear M
  intro wc M
  go_wp2_with (first | (refine m_ld1 M rfl rfl rfl (by (repeat' (first | exact List.mem_cons_self | refine List.mem_cons_of_mem _ ?_))) (by rfl) ?_) | (refine m_ldr M rfl rfl rfl (by (repeat' (first | exact List.mem_cons_self | refine List.mem_cons_of_mem _ ?_))) (by (try simp only [List.take_succ_cons, List.take_zero, List.take_nil, List.drop_succ_cons, List.drop_zero, List.drop_nil, List.cons_append, List.nil_append, List.append_nil, List.length_cons, List.length_nil, Nat.reduceAdd, Nat.zero_add, Nat.add_zero]); rfl) (by rfl) ?_) | (refine m_st M rfl rfl rfl (by first | exact (rfl : _ = Value.agg _) | exact (rfl : _ = Value.int _ _) | exact (rfl : _ = Value.bool _) | exact (rfl : _ = Value.slice _ _ _) | exact (rfl : _ = Value.pointer _) | exact (rfl : _ = Value.map _) | exact (rfl : _ = Value.func _ _ _) | exact (rfl : _ = Value.string _)) (by rfl) (by (repeat (first | exact Upd.head | apply Upd.tail))) (by (try simp only [List.take_succ_cons, List.take_zero, List.take_nil, List.drop_succ_cons, List.drop_zero, List.drop_nil, List.cons_append, List.nil_append, List.append_nil, List.length_cons, List.length_nil, Nat.reduceAdd, Nat.zero_add, Nat.add_zero]); rfl) (by simp) (by simp [Value.oneCell']) (by kernel_rfl) ?_; clear M; (try clear wc); intro wc M) | (refine m_al M rfl rfl ?_; clear M; (try clear wc); intro g wc M) | (refine m_bx M rfl rfl (by first | exact (rfl : _ = Value.agg _) | exact (rfl : _ = Value.int _ _) | exact (rfl : _ = Value.bool _) | exact (rfl : _ = Value.slice _ _ _) | exact (rfl : _ = Value.pointer _) | exact (rfl : _ = Value.map _) | exact (rfl : _ = Value.func _ _ _) | exact (rfl : _ = Value.string _)) (by rfl) ?_; clear M; (try clear wc); intro g wc M) | (refine lo_one (M.old HG.out.b HG.out.nb) rfl rfl rfl (by rfl) ?_) | (refine lo_row (M.old HG.out.j HG.out.nj) rfl rfl rfl (by (try simp only [List.take_succ_cons, List.take_zero, List.take_nil, List.drop_succ_cons, List.drop_zero, List.drop_nil, List.cons_append, List.nil_append, List.append_nil, List.length_cons, List.length_nil, Nat.reduceAdd, Nat.zero_add, Nat.add_zero]); rfl) (by rfl) ?_) | (go_at_call 105; ((with_reducible refine (stopsC j A c s0 s1 bg bx bm HJ.out n j.p0 j.p1 0 0 _ (bnd_0 HJ.out hn) (HG.out.kept M.grown (M.at (q := (bm, memG j s0 s1)) (by (repeat' (first | exact List.mem_cons_self | refine List.mem_cons_of_mem _ ?_))))).g).mono ?_); rintro e wc ⟨rfl, hgr, hm⟩; skip; replace M := M.callW (by (repeat (first | exact Upd.head | apply Upd.tail))) hgr hm; clear hgr hm)))
  go_ret
  exact ⟨rfl, M.grown, (M.at (q := (bm, memG j s0 s1)) (by (repeat' (first | exact List.mem_cons_self | refine List.mem_cons_of_mem _ ?_))))⟩

end Go.Proofs.Ythlpceoajhcliaa
end

section
/-
  reed: Guided and Next, whole.
-/
namespace Go.Proofs.Ythlpceoajhcliaa
set_option linter.unusedSimpArgs false
set_option linter.unusedVariables false
open Go.RowKit

def guidedF (j : Jb) : Option Nat := firstB (fun n => readsP j (winS j).1 (winS j).2 n j.p0 j.p1 0 0) 5 0
def nextF (j : Jb) : Option Nat := firstB (fun n => stopsP j (winS j).1 (winS j).2 n j.p0 j.p1 0 0) 5 0
/-- What Guided and Next answer. -/
def guidedJ (j : Jb) : Int × Int := if checkJ j = 0 then (match guidedF j with | some n => ((n : Int), 0) | none => (0, 11)) else (0, checkJ j)
def nextJ (j : Jb) : Int × Int × Int := if checkJ j = 0 then (match nextF j with | some n => if n = 0 then (0, 0, 0) else (strokeP j (winS j).1 (winS j).2 n j.p0 j.p1 0 0, (n : Int), 0) | none => (0, 0, 11)) else (0, 0, checkJ j)

theorem Gn.of_mem {j : Jb} {A : Option Addr} {c : Nat} {s0 s1 : Int} {bg bx bm gG gJ : Nat} {w0 w : World} {ex : Nat → Prop} {L : List (Nat × BA)} (M : Mem w0 ex w L)
    (h : [(gG, .cells (gmA j A c s0 s1 bg bx)), (bx, .cells [.map (some bm)]), (bm, memG j s0 s1), (bg, .cells (gmA j A c s0 s1 bg bx)), (gJ, .cells [.int .i64 j.p0, .int .i64 j.p1, .int .i64 j.t0, .int .i64 j.t1, .int .i64 j.r0, .int .i64 j.r1, .int .i64 j.u0, .int .i64 j.u1, .int .i64 j.d0, .int .i64 j.d1, .int .i64 j.a0, .int .i64 j.a1, .int .i64 j.b0, .int .i64 j.b1, .int .i64 j.le, .slice A j.sh.length c, .int .i64 j.wi, .int .i64 j.me])].Sublist L) : Gn j A c s0 s1 bg bx bm gG gJ w := by
  have N := M.sub h
  have hnd := N.nd
  simp only [List.map_cons, List.map_nil, List.nodup_cons, List.mem_cons, not_or, List.not_mem_nil, not_false_eq_true, List.nodup_nil, and_true] at hnd
  obtain ⟨⟨-, n1, -, -⟩, ⟨n2, -, -⟩, ⟨n3, n4⟩, -⟩ := hnd
  exact ⟨⟨N.get (g := bg) (by (repeat' (first | exact List.mem_cons_self | refine List.mem_cons_of_mem _ ?_))), N.get (g := bx) (by (repeat' (first | exact List.mem_cons_self | refine List.mem_cons_of_mem _ ?_))), N.at (q := (bm, memG j s0 s1)) (by (repeat' (first | exact List.mem_cons_self | refine List.mem_cons_of_mem _ ?_))), fun e => n3 e.symm, n2⟩, N.get (g := gG) (by (repeat' (first | exact List.mem_cons_self | refine List.mem_cons_of_mem _ ?_))), N.get (g := gJ) (by (repeat' (first | exact List.mem_cons_self | refine List.mem_cons_of_mem _ ?_))), n1, fun e => n4 e.symm⟩

set_option maxRecDepth 100000 in
set_option maxHeartbeats 1000000 in
theorem Guided_any (j : Jb) (A : Option Addr) (c : Nat) (w : World) (hr : Rd w w.heap.size 2 A j.sh.length (rc j.sh)) (hn : j.sh.length ≤ 9223372036854775807) :
    Calls Try.prog 24 #[jobV j A c] w fun e w' => e = .returned (.tuple #[.int .i64 (guidedJ j).1, .int .i64 (guidedJ j).2]) ∧ Below w.heap.size w w' := by
  have HR := Lib.hid hr
  clear hr
  by_cases h0 : checkJ j = 0
  · have HJ := Lib.hid (good_of h0)
    have H0 := Lib.hid h0
    cases hq : guidedF j with
    | none =>
      have HF : Hid (firstB (fun n => readsP j (winS j).1 (winS j).2 n j.p0 j.p1 0 0) 5 0 = none) := hq
      have HW : Hid (guidedJ j = (0, 11)) := by show _ = _; unfold guidedJ; rw [if_pos h0, hq]
      clear h0 hq
      generalize guidedJ j = gj at *
      go_enter Try.func24, Try.ntmps24
      refine start noEx ?_
      intro wc M
      go_wp2_with (first | (refine m_ld1 M rfl rfl rfl (by (repeat' (first | exact List.mem_cons_self | refine List.mem_cons_of_mem _ ?_))) (by rfl) ?_) | (refine m_ldr M rfl rfl rfl (by (repeat' (first | exact List.mem_cons_self | refine List.mem_cons_of_mem _ ?_))) (by (try simp only [List.take_succ_cons, List.take_zero, List.take_nil, List.drop_succ_cons, List.drop_zero, List.drop_nil, List.cons_append, List.nil_append, List.append_nil, List.length_cons, List.length_nil, Nat.reduceAdd, Nat.zero_add, Nat.add_zero]); rfl) (by rfl) ?_) | (refine m_st M rfl rfl rfl (by first | exact (rfl : _ = Value.agg _) | exact (rfl : _ = Value.int _ _) | exact (rfl : _ = Value.bool _) | exact (rfl : _ = Value.slice _ _ _) | exact (rfl : _ = Value.pointer _) | exact (rfl : _ = Value.map _) | exact (rfl : _ = Value.func _ _ _) | exact (rfl : _ = Value.string _)) (by rfl) (by (repeat (first | exact Upd.head | apply Upd.tail))) (by (try simp only [List.take_succ_cons, List.take_zero, List.take_nil, List.drop_succ_cons, List.drop_zero, List.drop_nil, List.cons_append, List.nil_append, List.append_nil, List.length_cons, List.length_nil, Nat.reduceAdd, Nat.zero_add, Nat.add_zero]); rfl) (by simp) (by simp [Value.oneCell']) (by kernel_rfl) ?_; clear M; (try clear wc); intro wc M) | (refine m_al M rfl rfl ?_; clear M; (try clear wc); intro g wc M) | (refine m_bx M rfl rfl (by first | exact (rfl : _ = Value.agg _) | exact (rfl : _ = Value.int _ _) | exact (rfl : _ = Value.bool _) | exact (rfl : _ = Value.slice _ _ _) | exact (rfl : _ = Value.pointer _) | exact (rfl : _ = Value.map _) | exact (rfl : _ = Value.func _ _ _) | exact (rfl : _ = Value.string _)) (by rfl) ?_; clear M; (try clear wc); intro g wc M) | (go_at_call 49; ((with_reducible refine (check_any j _ _ _ ?_ ?_).mono ?_); ((exact M.rd HR.out (Nat.le_refl _)); (exact hn)); rw [H0.out]; rintro e wc ⟨rfl, hb⟩; replace M := M.call hb; clear hb)) | (go_at_call 72; refine (play_any (okG j (winS j).1 (winS j).2) j _ _ _ HJ.out.ok ?_).mono ?_; (exact M.rd HR.out (Nat.le_refl _)); rintro e wc ⟨bg, bx, bm, rfl, N⟩; replace M := M.join N; clear N; simp only [List.cons_append, List.nil_append] at M) | (go_at_call 73; refine (fewest_Guided j (winS j).1 (winS j).2 bm _ _ (fun n => readsP j (winS j).1 (winS j).2 n j.p0 j.p1 0 0) (Gn j A c (winS j).1 (winS j).2 bg bx bm _ _) (fun W W' h1 h2 h3 => h1.kept h2 h3) (fun n W hn h => Guided1_any j A c (winS j).1 (winS j).2 bg bx bm _ _ HJ.out n hn W h) _ (Gn.of_mem M (by (repeat (first | exact List.Sublist.slnil | apply List.Sublist.cons_cons | apply List.Sublist.cons)))) (M.at (q := (bm, memG j (winS j).1 (winS j).2)) (by (repeat' (first | exact List.mem_cons_self | refine List.mem_cons_of_mem _ ?_))))).mono ?_; rintro e wc ⟨rfl, hgr, hm⟩; rw [HF.out]; dsimp only [fewV]; replace M := M.callW (by (repeat (first | exact Upd.head | apply Upd.tail))) hgr hm; clear hgr hm))
      go_ret2
      rw [HW.out]
      exact ⟨rfl, M.below⟩
    | some n =>
      have HF : Hid (firstB (fun n => readsP j (winS j).1 (winS j).2 n j.p0 j.p1 0 0) 5 0 = some n) := hq
      have HW : Hid (guidedJ j = ((n : Int), 0)) := by show _ = _; unfold guidedJ; rw [if_pos h0, hq]
      clear h0 hq
      generalize guidedJ j = gj at *
      go_enter Try.func24, Try.ntmps24
      refine start noEx ?_
      intro wc M
      go_wp2_with (first | (refine m_ld1 M rfl rfl rfl (by (repeat' (first | exact List.mem_cons_self | refine List.mem_cons_of_mem _ ?_))) (by rfl) ?_) | (refine m_ldr M rfl rfl rfl (by (repeat' (first | exact List.mem_cons_self | refine List.mem_cons_of_mem _ ?_))) (by (try simp only [List.take_succ_cons, List.take_zero, List.take_nil, List.drop_succ_cons, List.drop_zero, List.drop_nil, List.cons_append, List.nil_append, List.append_nil, List.length_cons, List.length_nil, Nat.reduceAdd, Nat.zero_add, Nat.add_zero]); rfl) (by rfl) ?_) | (refine m_st M rfl rfl rfl (by first | exact (rfl : _ = Value.agg _) | exact (rfl : _ = Value.int _ _) | exact (rfl : _ = Value.bool _) | exact (rfl : _ = Value.slice _ _ _) | exact (rfl : _ = Value.pointer _) | exact (rfl : _ = Value.map _) | exact (rfl : _ = Value.func _ _ _) | exact (rfl : _ = Value.string _)) (by rfl) (by (repeat (first | exact Upd.head | apply Upd.tail))) (by (try simp only [List.take_succ_cons, List.take_zero, List.take_nil, List.drop_succ_cons, List.drop_zero, List.drop_nil, List.cons_append, List.nil_append, List.append_nil, List.length_cons, List.length_nil, Nat.reduceAdd, Nat.zero_add, Nat.add_zero]); rfl) (by simp) (by simp [Value.oneCell']) (by kernel_rfl) ?_; clear M; (try clear wc); intro wc M) | (refine m_al M rfl rfl ?_; clear M; (try clear wc); intro g wc M) | (refine m_bx M rfl rfl (by first | exact (rfl : _ = Value.agg _) | exact (rfl : _ = Value.int _ _) | exact (rfl : _ = Value.bool _) | exact (rfl : _ = Value.slice _ _ _) | exact (rfl : _ = Value.pointer _) | exact (rfl : _ = Value.map _) | exact (rfl : _ = Value.func _ _ _) | exact (rfl : _ = Value.string _)) (by rfl) ?_; clear M; (try clear wc); intro g wc M) | (go_at_call 49; ((with_reducible refine (check_any j _ _ _ ?_ ?_).mono ?_); ((exact M.rd HR.out (Nat.le_refl _)); (exact hn)); rw [H0.out]; rintro e wc ⟨rfl, hb⟩; replace M := M.call hb; clear hb)) | (go_at_call 72; refine (play_any (okG j (winS j).1 (winS j).2) j _ _ _ HJ.out.ok ?_).mono ?_; (exact M.rd HR.out (Nat.le_refl _)); rintro e wc ⟨bg, bx, bm, rfl, N⟩; replace M := M.join N; clear N; simp only [List.cons_append, List.nil_append] at M) | (go_at_call 73; refine (fewest_Guided j (winS j).1 (winS j).2 bm _ _ (fun n => readsP j (winS j).1 (winS j).2 n j.p0 j.p1 0 0) (Gn j A c (winS j).1 (winS j).2 bg bx bm _ _) (fun W W' h1 h2 h3 => h1.kept h2 h3) (fun n W hn h => Guided1_any j A c (winS j).1 (winS j).2 bg bx bm _ _ HJ.out n hn W h) _ (Gn.of_mem M (by (repeat (first | exact List.Sublist.slnil | apply List.Sublist.cons_cons | apply List.Sublist.cons)))) (M.at (q := (bm, memG j (winS j).1 (winS j).2)) (by (repeat' (first | exact List.mem_cons_self | refine List.mem_cons_of_mem _ ?_))))).mono ?_; rintro e wc ⟨rfl, hgr, hm⟩; rw [HF.out]; dsimp only [fewV]; replace M := M.callW (by (repeat (first | exact Upd.head | apply Upd.tail))) hgr hm; clear hgr hm))
      go_ret2
      rw [HW.out]
      exact ⟨rfl, M.below⟩
  · have h1 : (checkJ j != 0) = true := by simpa using h0
    have HW : Hid (guidedJ j = (0, checkJ j)) := by show _ = _; unfold guidedJ; rw [if_neg h0]
    clear h0
    generalize guidedJ j = gj at *
    go_enter Try.func24, Try.ntmps24
    refine start noEx ?_
    intro wc M
    go_wp2_with (first | (refine m_ld1 M rfl rfl rfl (by (repeat' (first | exact List.mem_cons_self | refine List.mem_cons_of_mem _ ?_))) (by rfl) ?_) | (refine m_ldr M rfl rfl rfl (by (repeat' (first | exact List.mem_cons_self | refine List.mem_cons_of_mem _ ?_))) (by (try simp only [List.take_succ_cons, List.take_zero, List.take_nil, List.drop_succ_cons, List.drop_zero, List.drop_nil, List.cons_append, List.nil_append, List.append_nil, List.length_cons, List.length_nil, Nat.reduceAdd, Nat.zero_add, Nat.add_zero]); rfl) (by rfl) ?_) | (refine m_st M rfl rfl rfl (by first | exact (rfl : _ = Value.agg _) | exact (rfl : _ = Value.int _ _) | exact (rfl : _ = Value.bool _) | exact (rfl : _ = Value.slice _ _ _) | exact (rfl : _ = Value.pointer _) | exact (rfl : _ = Value.map _) | exact (rfl : _ = Value.func _ _ _) | exact (rfl : _ = Value.string _)) (by rfl) (by (repeat (first | exact Upd.head | apply Upd.tail))) (by (try simp only [List.take_succ_cons, List.take_zero, List.take_nil, List.drop_succ_cons, List.drop_zero, List.drop_nil, List.cons_append, List.nil_append, List.append_nil, List.length_cons, List.length_nil, Nat.reduceAdd, Nat.zero_add, Nat.add_zero]); rfl) (by simp) (by simp [Value.oneCell']) (by kernel_rfl) ?_; clear M; (try clear wc); intro wc M) | (refine m_al M rfl rfl ?_; clear M; (try clear wc); intro g wc M) | (refine m_bx M rfl rfl (by first | exact (rfl : _ = Value.agg _) | exact (rfl : _ = Value.int _ _) | exact (rfl : _ = Value.bool _) | exact (rfl : _ = Value.slice _ _ _) | exact (rfl : _ = Value.pointer _) | exact (rfl : _ = Value.map _) | exact (rfl : _ = Value.func _ _ _) | exact (rfl : _ = Value.string _)) (by rfl) ?_; clear M; (try clear wc); intro g wc M) | (go_at_call 49; ((with_reducible refine (check_any j _ _ _ ?_ ?_).mono ?_); ((exact M.rd HR.out (Nat.le_refl _)); (exact hn)); rintro e wc ⟨rfl, hb⟩; replace M := M.call hb; clear hb)))
    go_ret2
    rw [HW.out]
    exact ⟨rfl, M.below⟩

set_option maxRecDepth 100000 in
set_option maxHeartbeats 1000000 in
theorem Next_any (j : Jb) (A : Option Addr) (c : Nat) (w : World) (hr : Rd w w.heap.size 2 A j.sh.length (rc j.sh)) (hn : j.sh.length ≤ 9223372036854775807) :
    Calls Try.prog 26 #[jobV j A c] w fun e w' => e = .returned (.tuple #[.int .i64 (nextJ j).1, .int .i64 (nextJ j).2.1, .int .i64 (nextJ j).2.2]) ∧ Below w.heap.size w w' := by
  have HR := Lib.hid hr
  clear hr
  by_cases h0 : checkJ j = 0
  · have HJ := Lib.hid (good_of h0)
    have H0 := Lib.hid h0
    cases hq : nextF j with
    | none =>
      have HF : Hid (firstB (fun n => stopsP j (winS j).1 (winS j).2 n j.p0 j.p1 0 0) 5 0 = none) := hq
      have HW : Hid (nextJ j = (0, 0, 11)) := by show _ = _; unfold nextJ; rw [if_pos h0, hq]
      clear h0 hq
      generalize nextJ j = gj at *
      go_enter Try.func26, Try.ntmps26
      refine start noEx ?_
      intro wc M
      go_wp2_with (first | (refine m_ld1 M rfl rfl rfl (by (repeat' (first | exact List.mem_cons_self | refine List.mem_cons_of_mem _ ?_))) (by rfl) ?_) | (refine m_ldr M rfl rfl rfl (by (repeat' (first | exact List.mem_cons_self | refine List.mem_cons_of_mem _ ?_))) (by (try simp only [List.take_succ_cons, List.take_zero, List.take_nil, List.drop_succ_cons, List.drop_zero, List.drop_nil, List.cons_append, List.nil_append, List.append_nil, List.length_cons, List.length_nil, Nat.reduceAdd, Nat.zero_add, Nat.add_zero]); rfl) (by rfl) ?_) | (refine m_st M rfl rfl rfl (by first | exact (rfl : _ = Value.agg _) | exact (rfl : _ = Value.int _ _) | exact (rfl : _ = Value.bool _) | exact (rfl : _ = Value.slice _ _ _) | exact (rfl : _ = Value.pointer _) | exact (rfl : _ = Value.map _) | exact (rfl : _ = Value.func _ _ _) | exact (rfl : _ = Value.string _)) (by rfl) (by (repeat (first | exact Upd.head | apply Upd.tail))) (by (try simp only [List.take_succ_cons, List.take_zero, List.take_nil, List.drop_succ_cons, List.drop_zero, List.drop_nil, List.cons_append, List.nil_append, List.append_nil, List.length_cons, List.length_nil, Nat.reduceAdd, Nat.zero_add, Nat.add_zero]); rfl) (by simp) (by simp [Value.oneCell']) (by kernel_rfl) ?_; clear M; (try clear wc); intro wc M) | (refine m_al M rfl rfl ?_; clear M; (try clear wc); intro g wc M) | (refine m_bx M rfl rfl (by first | exact (rfl : _ = Value.agg _) | exact (rfl : _ = Value.int _ _) | exact (rfl : _ = Value.bool _) | exact (rfl : _ = Value.slice _ _ _) | exact (rfl : _ = Value.pointer _) | exact (rfl : _ = Value.map _) | exact (rfl : _ = Value.func _ _ _) | exact (rfl : _ = Value.string _)) (by rfl) ?_; clear M; (try clear wc); intro g wc M) | (go_at_call 49; ((with_reducible refine (check_any j _ _ _ ?_ ?_).mono ?_); ((exact M.rd HR.out (Nat.le_refl _)); (exact hn)); rw [H0.out]; rintro e wc ⟨rfl, hb⟩; replace M := M.call hb; clear hb)) | (go_at_call 72; refine (play_any (okG j (winS j).1 (winS j).2) j _ _ _ HJ.out.ok ?_).mono ?_; (exact M.rd HR.out (Nat.le_refl _)); rintro e wc ⟨bg, bx, bm, rfl, N⟩; replace M := M.join N; clear N; simp only [List.cons_append, List.nil_append] at M) | (go_at_call 73; refine (fewest_Next j (winS j).1 (winS j).2 bm _ _ (fun n => stopsP j (winS j).1 (winS j).2 n j.p0 j.p1 0 0) (Gn j A c (winS j).1 (winS j).2 bg bx bm _ _) (fun W W' h1 h2 h3 => h1.kept h2 h3) (fun n W hn h => Next1_any j A c (winS j).1 (winS j).2 bg bx bm _ _ HJ.out n hn W h) _ (Gn.of_mem M (by (repeat (first | exact List.Sublist.slnil | apply List.Sublist.cons_cons | apply List.Sublist.cons)))) (M.at (q := (bm, memG j (winS j).1 (winS j).2)) (by (repeat' (first | exact List.mem_cons_self | refine List.mem_cons_of_mem _ ?_))))).mono ?_; rintro e wc ⟨rfl, hgr, hm⟩; rw [HF.out]; dsimp only [fewV]; replace M := M.callW (by (repeat (first | exact Upd.head | apply Upd.tail))) hgr hm; clear hgr hm))
      go_ret3
      rw [HW.out]
      exact ⟨rfl, M.below⟩
    | some n =>
      have hn5 : n < 5 := by have := first_lt hq; omega
      cases n with
      | zero =>
        have HF : Hid (firstB (fun n => stopsP j (winS j).1 (winS j).2 n j.p0 j.p1 0 0) 5 0 = some 0) := hq
        have HW : Hid (nextJ j = (0, 0, 0)) := by show _ = _; unfold nextJ; rw [if_pos h0, hq]; rfl
        clear h0 hq
        generalize nextJ j = gj at *
        go_enter Try.func26, Try.ntmps26
        refine start noEx ?_
        intro wc M
        go_wp2_with (first | (refine m_ld1 M rfl rfl rfl (by (repeat' (first | exact List.mem_cons_self | refine List.mem_cons_of_mem _ ?_))) (by rfl) ?_) | (refine m_ldr M rfl rfl rfl (by (repeat' (first | exact List.mem_cons_self | refine List.mem_cons_of_mem _ ?_))) (by (try simp only [List.take_succ_cons, List.take_zero, List.take_nil, List.drop_succ_cons, List.drop_zero, List.drop_nil, List.cons_append, List.nil_append, List.append_nil, List.length_cons, List.length_nil, Nat.reduceAdd, Nat.zero_add, Nat.add_zero]); rfl) (by rfl) ?_) | (refine m_st M rfl rfl rfl (by first | exact (rfl : _ = Value.agg _) | exact (rfl : _ = Value.int _ _) | exact (rfl : _ = Value.bool _) | exact (rfl : _ = Value.slice _ _ _) | exact (rfl : _ = Value.pointer _) | exact (rfl : _ = Value.map _) | exact (rfl : _ = Value.func _ _ _) | exact (rfl : _ = Value.string _)) (by rfl) (by (repeat (first | exact Upd.head | apply Upd.tail))) (by (try simp only [List.take_succ_cons, List.take_zero, List.take_nil, List.drop_succ_cons, List.drop_zero, List.drop_nil, List.cons_append, List.nil_append, List.append_nil, List.length_cons, List.length_nil, Nat.reduceAdd, Nat.zero_add, Nat.add_zero]); rfl) (by simp) (by simp [Value.oneCell']) (by kernel_rfl) ?_; clear M; (try clear wc); intro wc M) | (refine m_al M rfl rfl ?_; clear M; (try clear wc); intro g wc M) | (refine m_bx M rfl rfl (by first | exact (rfl : _ = Value.agg _) | exact (rfl : _ = Value.int _ _) | exact (rfl : _ = Value.bool _) | exact (rfl : _ = Value.slice _ _ _) | exact (rfl : _ = Value.pointer _) | exact (rfl : _ = Value.map _) | exact (rfl : _ = Value.func _ _ _) | exact (rfl : _ = Value.string _)) (by rfl) ?_; clear M; (try clear wc); intro g wc M) | (go_at_call 49; ((with_reducible refine (check_any j _ _ _ ?_ ?_).mono ?_); ((exact M.rd HR.out (Nat.le_refl _)); (exact hn)); rw [H0.out]; rintro e wc ⟨rfl, hb⟩; replace M := M.call hb; clear hb)) | (go_at_call 72; refine (play_any (okG j (winS j).1 (winS j).2) j _ _ _ HJ.out.ok ?_).mono ?_; (exact M.rd HR.out (Nat.le_refl _)); rintro e wc ⟨bg, bx, bm, rfl, N⟩; replace M := M.join N; clear N; simp only [List.cons_append, List.nil_append] at M) | (go_at_call 73; refine (fewest_Next j (winS j).1 (winS j).2 bm _ _ (fun n => stopsP j (winS j).1 (winS j).2 n j.p0 j.p1 0 0) (Gn j A c (winS j).1 (winS j).2 bg bx bm _ _) (fun W W' h1 h2 h3 => h1.kept h2 h3) (fun n W hn h => Next1_any j A c (winS j).1 (winS j).2 bg bx bm _ _ HJ.out n hn W h) _ (Gn.of_mem M (by (repeat (first | exact List.Sublist.slnil | apply List.Sublist.cons_cons | apply List.Sublist.cons)))) (M.at (q := (bm, memG j (winS j).1 (winS j).2)) (by (repeat' (first | exact List.mem_cons_self | refine List.mem_cons_of_mem _ ?_))))).mono ?_; rintro e wc ⟨rfl, hgr, hm⟩; rw [HF.out]; dsimp only [fewV]; replace M := M.callW (by (repeat (first | exact Upd.head | apply Upd.tail))) hgr hm; clear hgr hm))
        go_ret3
        rw [HW.out]
        exact ⟨rfl, M.below⟩

      | succ m =>
        obtain ⟨n, hnm⟩ : ∃ n, n = m + 1 := ⟨_, rfl⟩
        rw [← hnm] at hq hn5
        have hn0 : ((n : Int) == 0) = false := by simp; omega
        have hn1 : ¬ n = 0 := by omega
        clear hnm
        have HF : Hid (firstB (fun n => stopsP j (winS j).1 (winS j).2 n j.p0 j.p1 0 0) 5 0 = some n) := hq
        have HW : Hid (nextJ j = (strokeP j (winS j).1 (winS j).2 n j.p0 j.p1 0 0, (n : Int), 0)) := by show _ = _; unfold nextJ; rw [if_pos h0, hq]; exact if_neg hn1
        clear h0 hq
        generalize nextJ j = gj at *
        go_enter Try.func26, Try.ntmps26
        refine start noEx ?_
        intro wc M
        go_wp2_with (first | (refine m_ld1 M rfl rfl rfl (by (repeat' (first | exact List.mem_cons_self | refine List.mem_cons_of_mem _ ?_))) (by rfl) ?_) | (refine m_ldr M rfl rfl rfl (by (repeat' (first | exact List.mem_cons_self | refine List.mem_cons_of_mem _ ?_))) (by (try simp only [List.take_succ_cons, List.take_zero, List.take_nil, List.drop_succ_cons, List.drop_zero, List.drop_nil, List.cons_append, List.nil_append, List.append_nil, List.length_cons, List.length_nil, Nat.reduceAdd, Nat.zero_add, Nat.add_zero]); rfl) (by rfl) ?_) | (refine m_st M rfl rfl rfl (by first | exact (rfl : _ = Value.agg _) | exact (rfl : _ = Value.int _ _) | exact (rfl : _ = Value.bool _) | exact (rfl : _ = Value.slice _ _ _) | exact (rfl : _ = Value.pointer _) | exact (rfl : _ = Value.map _) | exact (rfl : _ = Value.func _ _ _) | exact (rfl : _ = Value.string _)) (by rfl) (by (repeat (first | exact Upd.head | apply Upd.tail))) (by (try simp only [List.take_succ_cons, List.take_zero, List.take_nil, List.drop_succ_cons, List.drop_zero, List.drop_nil, List.cons_append, List.nil_append, List.append_nil, List.length_cons, List.length_nil, Nat.reduceAdd, Nat.zero_add, Nat.add_zero]); rfl) (by simp) (by simp [Value.oneCell']) (by kernel_rfl) ?_; clear M; (try clear wc); intro wc M) | (refine m_al M rfl rfl ?_; clear M; (try clear wc); intro g wc M) | (refine m_bx M rfl rfl (by first | exact (rfl : _ = Value.agg _) | exact (rfl : _ = Value.int _ _) | exact (rfl : _ = Value.bool _) | exact (rfl : _ = Value.slice _ _ _) | exact (rfl : _ = Value.pointer _) | exact (rfl : _ = Value.map _) | exact (rfl : _ = Value.func _ _ _) | exact (rfl : _ = Value.string _)) (by rfl) ?_; clear M; (try clear wc); intro g wc M) | (go_at_call 49; ((with_reducible refine (check_any j _ _ _ ?_ ?_).mono ?_); ((exact M.rd HR.out (Nat.le_refl _)); (exact hn)); rw [H0.out]; rintro e wc ⟨rfl, hb⟩; replace M := M.call hb; clear hb)) | (go_at_call 72; refine (play_any (okG j (winS j).1 (winS j).2) j _ _ _ HJ.out.ok ?_).mono ?_; (exact M.rd HR.out (Nat.le_refl _)); rintro e wc ⟨bg, bx, bm, rfl, N⟩; replace M := M.join N; clear N; simp only [List.cons_append, List.nil_append] at M) | (go_at_call 73; refine (fewest_Next j (winS j).1 (winS j).2 bm _ _ (fun n => stopsP j (winS j).1 (winS j).2 n j.p0 j.p1 0 0) (Gn j A c (winS j).1 (winS j).2 bg bx bm _ _) (fun W W' h1 h2 h3 => h1.kept h2 h3) (fun n W hn h => Next1_any j A c (winS j).1 (winS j).2 bg bx bm _ _ HJ.out n hn W h) _ (Gn.of_mem M (by (repeat (first | exact List.Sublist.slnil | apply List.Sublist.cons_cons | apply List.Sublist.cons)))) (M.at (q := (bm, memG j (winS j).1 (winS j).2)) (by (repeat' (first | exact List.mem_cons_self | refine List.mem_cons_of_mem _ ?_))))).mono ?_; rintro e wc ⟨rfl, hgr, hm⟩; rw [HF.out]; dsimp only [fewV]; replace M := M.callW (by (repeat (first | exact Upd.head | apply Upd.tail))) hgr hm; clear hgr hm) | (go_at_call 78; refine (strokeC j A c (winS j).1 (winS j).2 bg bx bm HJ.out n j.p0 j.p1 0 0 _ (bnd_0 HJ.out hn5) (Gn.of_mem M (by (repeat (first | exact List.Sublist.slnil | apply List.Sublist.cons_cons | apply List.Sublist.cons)))).g).mono ?_; rintro e wc ⟨rfl, hgr, hm⟩; replace M := M.callW (by (repeat (first | exact Upd.head | apply Upd.tail))) hgr hm; clear hgr hm))
        go_ret3
        rw [HW.out]
        exact ⟨rfl, M.below⟩

  · have h1 : (checkJ j != 0) = true := by simpa using h0
    have HW : Hid (nextJ j = (0, 0, checkJ j)) := by show _ = _; unfold nextJ; rw [if_neg h0]
    clear h0
    generalize nextJ j = gj at *
    go_enter Try.func26, Try.ntmps26
    refine start noEx ?_
    intro wc M
    go_wp2_with (first | (refine m_ld1 M rfl rfl rfl (by (repeat' (first | exact List.mem_cons_self | refine List.mem_cons_of_mem _ ?_))) (by rfl) ?_) | (refine m_ldr M rfl rfl rfl (by (repeat' (first | exact List.mem_cons_self | refine List.mem_cons_of_mem _ ?_))) (by (try simp only [List.take_succ_cons, List.take_zero, List.take_nil, List.drop_succ_cons, List.drop_zero, List.drop_nil, List.cons_append, List.nil_append, List.append_nil, List.length_cons, List.length_nil, Nat.reduceAdd, Nat.zero_add, Nat.add_zero]); rfl) (by rfl) ?_) | (refine m_st M rfl rfl rfl (by first | exact (rfl : _ = Value.agg _) | exact (rfl : _ = Value.int _ _) | exact (rfl : _ = Value.bool _) | exact (rfl : _ = Value.slice _ _ _) | exact (rfl : _ = Value.pointer _) | exact (rfl : _ = Value.map _) | exact (rfl : _ = Value.func _ _ _) | exact (rfl : _ = Value.string _)) (by rfl) (by (repeat (first | exact Upd.head | apply Upd.tail))) (by (try simp only [List.take_succ_cons, List.take_zero, List.take_nil, List.drop_succ_cons, List.drop_zero, List.drop_nil, List.cons_append, List.nil_append, List.append_nil, List.length_cons, List.length_nil, Nat.reduceAdd, Nat.zero_add, Nat.add_zero]); rfl) (by simp) (by simp [Value.oneCell']) (by kernel_rfl) ?_; clear M; (try clear wc); intro wc M) | (refine m_al M rfl rfl ?_; clear M; (try clear wc); intro g wc M) | (refine m_bx M rfl rfl (by first | exact (rfl : _ = Value.agg _) | exact (rfl : _ = Value.int _ _) | exact (rfl : _ = Value.bool _) | exact (rfl : _ = Value.slice _ _ _) | exact (rfl : _ = Value.pointer _) | exact (rfl : _ = Value.map _) | exact (rfl : _ = Value.func _ _ _) | exact (rfl : _ = Value.string _)) (by rfl) ?_; clear M; (try clear wc); intro g wc M) | (go_at_call 49; ((with_reducible refine (check_any j _ _ _ ?_ ?_).mono ?_); ((exact M.rd HR.out (Nat.le_refl _)); (exact hn)); rintro e wc ⟨rfl, hb⟩; replace M := M.call hb; clear hb)))
    go_ret3
    rw [HW.out]
    exact ⟨rfl, M.below⟩

end Go.Proofs.Ythlpceoajhcliaa
end

/-
  ref1: the tuner at work.
-/
import Derived.Test.YthlpceoajhcliaaMReedGame1
import Derived.Test.YthlpceoajhcliaaMReedGame2
import Derived.Test.YthlpceoajhcliaaMReedGame3
import Derived.Test.YthlpceoajhcliaaMReedGame4
import Derived.Test.YthlpceoajhcliaaMReedGame5
import Derived.Test.YthlpceoajhcliaaMReedGame6
import Derived.Test.YthlpceoajhcliaaMReedGame7
namespace Go.Proofs.Ythlpceoajhcliaa
set_option linter.unusedSimpArgs false
set_option linter.unusedVariables false
open Go.RowKit

theorem thin_file (j : Jb) (p0 p1 t r : Int) : FileOf (thinJ j p0 p1 t r) j := ⟨rfl, rfl, rfl, rfl, rfl, rfl, rfl, rfl, rfl⟩
theorem thin_tip (j : Jb) (p0 p1 t r : Int) : (thinJ j p0 p1 t r).filed 1 = thinJ j (p0 + j.u0) (p1 + j.u1) (t + 1) r := by
  unfold St.filed
  rw [if_pos rfl]
  simp only [St.tip, thinJ, mul_suc, St.mk.injEq, and_true, true_and]
  omega
theorem thin_root (j : Jb) (p0 p1 t r : Int) : (thinJ j p0 p1 t r).filed 2 = thinJ j (p0 - j.d1) (p1 - j.d0) t (r + 1) := by
  unfold St.filed
  rw [if_neg (by decide)]
  simp only [St.root, thinJ, mul_suc, St.mk.injEq, and_true, true_and]
  omega
theorem thin_zero (j : Jb) : thinJ j j.p0 j.p1 0 0 = j.st := by simp [thinJ, Jb.st]
theorem thin_up {j : Jb} (h : j.good) {n : Nat} {p0 p1 t r : Int} (b : Bnd n p0 p1 t r) : (thinJ j p0 p1 t r).upTo 1000000 := by
  obtain ⟨g1, g2, g3, g4, g5, g6, g7, g8, -, -, -, -⟩ := h
  obtain ⟨b0, b1, b2, b3, b4⟩ := b
  have m1 := mul_bd (i := t) (a := j.a0) (by omega) (by omega) (by omega) (by omega)
  have m2 := mul_bd (i := t) (a := j.a1) (by omega) (by omega) (by omega) (by omega)
  have m3 := mul_bd (i := r) (a := j.b0) (by omega) (by omega) (by omega) (by omega)
  have m4 := mul_bd (i := r) (a := j.b1) (by omega) (by omega) (by omega) (by omega)
  constructor <;> dsimp only [thinJ] <;> omega
theorem Calls.cast {P : Program} {f : FuncId} {args args' : Array Value} {w : World} {R : Ending → World → Prop} (ha : args = args') (h : Calls P f args w R) : Calls P f args' w R := ha ▸ h
def allR (f : Nat → Bool) : Nat → Nat → Bool
  | 0, _ => true
  | m + 1, k => f k && allR f m (k + 1)
theorem allR_range (f : Nat → Bool) : ∀ (m k : Nat), (List.range' k m).all f = allR f m k
  | 0, _ => rfl
  | m + 1, k => by rw [List.range'_succ, List.all_cons, allR_range f m (k + 1)]; rfl
theorem reads_all (j : Jb) (s0 s1 : Int) (n : Nat) (p0 p1 t r : Int) : readsP j s0 s1 n p0 p1 t r = allR (fun k => stopsP j s0 s1 n (rdg p0 p1 j.me k).1 (rdg p0 p1 j.me k).2 t r) (rdN p0 p1 j.me) 0 := by
  unfold readsP rdgs
  rw [List.all_map, List.range_eq_range', allR_range]
  rfl
theorem heard_rdg (p0 p1 m R : Int) (k : Nat) (h : R = p0 - m + (k : Int)) : rheard p0 p1 R m = rdg p0 p1 m k := by
  subst h
  unfold rheard rdg mstep
  refine Prod.ext ?_ ?_
  · dsimp only; split <;> omega
  · dsimp only; split <;> omega
theorem bnd_heard {j : Jb} (h : j.good) {n : Nat} {p0 p1 t r : Int} {k : Nat} (b : Bnd n p0 p1 t r) (hk : k < rdN p0 p1 j.me) : Bnd n (rdg p0 p1 j.me k).1 (rdg p0 p1 j.me k).2 t r := by
  have := rdg_bd hk b.p0 b.p1 h.me.1
  exact ⟨b.lv, this.1, this.2, b.t, b.r⟩


def KnC (j : Jb) (A : Option Addr) (c : Nat) (n : Nat) : Prop := ∀ (p0 p1 t r : Int) (w : World), Bnd n p0 p1 t r → Rd w w.heap.size 2 A j.sh.length (rc j.sh) →
  Calls Try.prog 114 #[jobV j A c, .agg #[.int .i64 ((thinJ j p0 p1 t r).p0), .int .i64 ((thinJ j p0 p1 t r).p1), .int .i64 ((thinJ j p0 p1 t r).t0), .int .i64 ((thinJ j p0 p1 t r).t1), .int .i64 ((thinJ j p0 p1 t r).r0), .int .i64 ((thinJ j p0 p1 t r).r1)], .int .i64 n] w fun e w' => e = .returned (.bool (stopsP j (winS j).1 (winS j).2 n p0 p1 t r)) ∧ Below w.heap.size w w'

def RdC (j : Jb) (A : Option Addr) (c : Nat) (n : Nat) : Prop := ∀ (p0 p1 t r : Int) (w : World), Bnd n p0 p1 t r → Rd w w.heap.size 2 A j.sh.length (rc j.sh) →
  Calls Try.prog 108 #[jobV j A c, .agg #[.int .i64 ((thinJ j p0 p1 t r).p0), .int .i64 ((thinJ j p0 p1 t r).p1), .int .i64 ((thinJ j p0 p1 t r).t0), .int .i64 ((thinJ j p0 p1 t r).t1), .int .i64 ((thinJ j p0 p1 t r).r0), .int .i64 ((thinJ j p0 p1 t r).r1)], .int .i64 n] w fun e w' => e = .returned (.bool (readsP j (winS j).1 (winS j).2 n p0 p1 t r)) ∧ Below w.heap.size w w'

set_option maxRecDepth 100000 in
set_option maxHeartbeats 1000000 in
theorem reads_of (j : Jb) (A : Option Addr) (c n : Nat) (p0 p1 t r : Int) (w : World) (hj : j.good) (hbn : Bnd n p0 p1 t r) (hr : Rd w w.heap.size 2 A j.sh.length (rc j.sh)) (hk : KnC j A c n) :
    Calls Try.prog 108 #[jobV j A c, .agg #[.int .i64 ((thinJ j p0 p1 t r).p0), .int .i64 ((thinJ j p0 p1 t r).p1), .int .i64 ((thinJ j p0 p1 t r).t0), .int .i64 ((thinJ j p0 p1 t r).t1), .int .i64 ((thinJ j p0 p1 t r).r0), .int .i64 ((thinJ j p0 p1 t r).r1)], .int .i64 n] w fun e w' => e = .returned (.bool (readsP j (winS j).1 (winS j).2 n p0 p1 t r)) ∧ Below w.heap.size w w' := by
  obtain ⟨bJ, oJ, SJ⟩ := Sp.old hr
  have hp := hj.p
  have hme := hj.me
  have hup := thin_up hj hbn
  have hp0 := hbn.p0
  have hp1 := hbn.p1
  have e0 : (thinJ j p0 p1 t r).p0 = p0 := rfl
  have e1 : (thinJ j p0 p1 t r).p1 = p1 := rfl
  have hN : rdN p0 p1 j.me = (p1 + j.me - (p0 - j.me) + 1).toNat := rfl
  refine px_enter noEx Try.func108 rfl 38 rfl [.agg #[.int .i64 j.p0, .int .i64 j.p1, .int .i64 j.t0, .int .i64 j.t1, .int .i64 j.r0, .int .i64 j.r1, .int .i64 j.u0, .int .i64 j.u1, .int .i64 j.d0, .int .i64 j.d1, .int .i64 j.a0, .int .i64 j.a1, .int .i64 j.b0, .int .i64 j.b1, .int .i64 j.le, .slice A j.sh.length c, .int .i64 j.wi, .int .i64 j.me], .agg #[.int .i64 ((thinJ j p0 p1 t r).p0), .int .i64 ((thinJ j p0 p1 t r).p1), .int .i64 ((thinJ j p0 p1 t r).t0), .int .i64 ((thinJ j p0 p1 t r).t1), .int .i64 ((thinJ j p0 p1 t r).r0), .int .i64 ((thinJ j p0 p1 t r).r1)], .int .i64 (n : Int)] rfl rfl (Mem.init w _) ?_
  intro ac wc T M
  refine wp_seq ?_
  refine wp_region_lit ?_
  refine l_w rfl ?_; intro K hK
  refine ow_bx M T rfl rfl rfl rfl (T.ev 0 rfl) rfl ?_; clear M T; intro g1 wc ac M T
  refine sh_out hK _ _ ?_; clear hK K
  refine l_w rfl ?_; intro K hK
  refine ow_bx M T rfl rfl rfl rfl (T.ev 2 rfl) rfl ?_; clear M T; intro g2 wc ac M T
  refine sh_out hK _ _ ?_; clear hK K
  refine l_q T rfl rfl rfl rfl (rn_assign rfl evc) ?_; clear T ac; intro ac T
  refine wpList_nil ?_
  replace T := T.pick [1, 2, 5] rfl
  refine nm_then ?_
  refine wp_seq ?_
  refine wp_seq ?_
  refine wp_region_lit ?_
  refine l_q (v := (.pointer (some ⟨g2, 0, none⟩))) T rfl rfl rfl rfl (rn_fieldAddr (off := 0) rfl (T.ev 0 rfl) (fun _ _ _ => by kernel_rfl)) ?_; clear T ac; intro ac T
  refine l_q (v := (.pointer (some ⟨g2, 0, none⟩))) T rfl rfl rfl rfl (rn_fieldAddr (off := 0) rfl (T.ev 0 rfl) (fun _ _ _ => by kernel_rfl)) ?_; clear T ac; intro ac T
  refine l_q T rfl rfl rfl rfl (rn_one (Mem.nth M 0 rfl) rfl (T.ev 0 rfl) rfl) ?_; clear T ac; intro ac T
  refine l_q (v := (.pointer (some ⟨g1, 17, none⟩))) T rfl rfl rfl rfl (rn_fieldAddr (off := 17) rfl (T.ev 4 rfl) (fun _ _ _ => by kernel_rfl)) ?_; clear T ac; intro ac T
  refine l_q T rfl rfl rfl rfl (rn_one (Mem.nth M 1 rfl) rfl (T.ev 0 rfl) rfl) ?_; clear T ac; intro ac T
  refine l_q T rfl rfl rfl rfl (rn_sub rfl (T.ev 2 rfl) (T.ev 0 rfl) (by omega)) ?_; clear T ac; intro ac T
  refine l_q T rfl rfl rfl rfl (rn_assign rfl (T.ev 0 rfl)) ?_; clear T ac; intro ac T
  refine wpList_nil ?_
  replace T := T.pick [0, 7, 8, 9] rfl
  refine nm_then ?_
  refine wp_block ?_
  refine wp_loop_n (fun mz ac wc => ∃ (k q : Nat) (R : Int), mz = q ∧ (R = p0 - j.me + (k : Int)) ∧ (q = rdN p0 p1 j.me - k) ∧ (k ≤ rdN p0 p1 j.me) ∧ ((readsP j (winS j).1 (winS j).2 n p0 p1 t r) = allR (fun k => stopsP j (winS j).1 (winS j).2 n (rdg p0 p1 j.me k).1 (rdg p0 p1 j.me k).2 t r) q k) ∧ Tm ac 38 [(2, .int .i64 (n : Int)), (3, .pointer (some ⟨g1, 0, none⟩)), (4, .pointer (some ⟨g2, 0, none⟩)), (7, .int .i64 R)] ∧ Mem w noEx wc [(g2, .cells [.int .i64 ((thinJ j p0 p1 t r).p0), .int .i64 ((thinJ j p0 p1 t r).p1), .int .i64 ((thinJ j p0 p1 t r).t0), .int .i64 ((thinJ j p0 p1 t r).t1), .int .i64 ((thinJ j p0 p1 t r).r0), .int .i64 ((thinJ j p0 p1 t r).r1)]), (g1, .cells (jobL j A c))]) ?_ ?_
  · exact ⟨_, 0, _, _, rfl, (by omega), rfl, (by omega), (reads_all _ _ _ _ _ _ _ _), T.pick [3, 2, 1, 0] rfl, M.mask [true, true] rfl⟩
  · clear T M
    rintro mz ac wc ⟨k, q, R, hmm1, hR, hq, hkN, H, T, M⟩
    refine wp_seq ?_
    refine wp_seq ?_
    refine wp_region_lit ?_
    refine l_q T rfl rfl rfl rfl (rn_move rfl (T.ev 3 rfl)) ?_; clear T ac; intro ac T
    refine l_q (v := (.pointer (some ⟨g2, 0, none⟩))) T rfl rfl rfl rfl (rn_fieldAddr (off := 0) rfl (T.ev 3 rfl) (fun _ _ _ => by kernel_rfl)) ?_; clear T ac; intro ac T
    refine l_q (v := (.pointer (some ⟨g2, 1, none⟩))) T rfl rfl rfl rfl (rn_fieldAddr (off := 1) rfl (T.ev 0 rfl) (fun _ _ _ => by kernel_rfl)) ?_; clear T ac; intro ac T
    refine l_q T rfl rfl rfl rfl (rn_one (Mem.nth M 0 rfl) rfl (T.ev 0 rfl) rfl) ?_; clear T ac; intro ac T
    refine l_q (v := (.pointer (some ⟨g1, 17, none⟩))) T rfl rfl rfl rfl (rn_fieldAddr (off := 17) rfl (T.ev 5 rfl) (fun _ _ _ => by kernel_rfl)) ?_; clear T ac; intro ac T
    refine l_q T rfl rfl rfl rfl (rn_one (Mem.nth M 1 rfl) rfl (T.ev 0 rfl) rfl) ?_; clear T ac; intro ac T
    refine l_q T rfl rfl rfl rfl (rn_add rfl (T.ev 2 rfl) (T.ev 0 rfl) (by omega)) ?_; clear T ac; intro ac T
    refine l_q T rfl rfl rfl rfl (rn_leq rfl (T.ev 6 rfl) (T.ev 0 rfl)) ?_; clear T ac; intro ac T
    refine wpList_nil ?_
    replace T := T.pick [0, 8, 9, 10, 11] rfl
    refine nm_then ?_
    refine wp_if (T.ev 0 rfl) ?_ ?_
    · intro h1
      rw [show q = (q - 1) + 1 by omega, allR] at H
      refine wp_skip ?_
      refine nm_then ?_
      refine wp_seq ?_
      refine wp_block ?_
      refine wp_seq ?_
      refine wp_region_lit ?_
      refine l_q T rfl rfl rfl rfl (rn_rowO (Mem.nth M 0 rfl) rfl (T.ev 3 rfl) rfl) ?_; clear T ac; intro ac T
      refine l_w rfl ?_; intro K hK
      refine ow_al M T rfl rfl rfl rfl ?_; clear M T; intro g3 wc ac M T
      refine sh_out hK _ _ ?_; clear hK K
      refine l_w rfl ?_; intro K hK
      refine ow_stO M T rfl rfl (T.ev 0 rfl) (T.ev 1 rfl) rfl .head rfl (by simp) rfl (by kernel_rfl) ?_; clear M T; intro wc ac M T
      refine sh_out hK _ _ ?_; clear hK K
      refine wpList_nil ?_
      replace T := T.pick [0, 3, 4, 5, 6] rfl
      refine nm_then ?_
      refine wp_seq ?_
      refine wp_region_lit ?_
      refine l_q (v := (.pointer (some ⟨g2, 0, none⟩))) T rfl rfl rfl rfl (rn_fieldAddr (off := 0) rfl (T.ev 3 rfl) (fun _ _ _ => by kernel_rfl)) ?_; clear T ac; intro ac T
      refine l_q T rfl rfl rfl rfl (rn_rowO (Mem.nth M 1 rfl) rfl (T.ev 0 rfl) rfl) ?_; clear T ac; intro ac T
      refine l_q T rfl rfl rfl rfl (rn_move rfl (T.ev 6 rfl)) ?_; clear T ac; intro ac T
      refine l_q (v := (.pointer (some ⟨g1, 17, none⟩))) T rfl rfl rfl rfl (rn_fieldAddr (off := 17) rfl (T.ev 5 rfl) (fun _ _ _ => by kernel_rfl)) ?_; clear T ac; intro ac T
      refine l_q T rfl rfl rfl rfl (rn_one (Mem.nth M 2 rfl) rfl (T.ev 0 rfl) rfl) ?_; clear T ac; intro ac T
      refine l_w rfl ?_; intro K hK
      refine ow_call (first := []) (cap := []) T rfl rfl rfl rfl evf (.cons (T.ev 3 rfl) (.cons (T.ev 2 rfl) (.cons (T.ev 0 rfl) .nil))) Try.func91 rfl rfl ?_
      refine Calls.mono (heard_any ((thinJ j p0 p1 t r).p0) ((thinJ j p0 p1 t r).p1) R j.me _ (by omega) (by omega)) ?_
      clear T
      rintro e wc ⟨rfl, hb⟩
      intro ac T
      replace M := M.call hb; clear hb
      refine sh_out hK _ _ ?_; clear hK K
      refine l_q (v := (.pointer (some ⟨g3, 0, none⟩))) T rfl rfl rfl rfl (rn_fieldAddr (off := 0) rfl (T.ev 6 rfl) (fun _ _ _ => by kernel_rfl)) ?_; clear T ac; intro ac T
      refine l_w rfl ?_; intro K hK
      refine ow_stO M T rfl rfl (T.ev 0 rfl) (T.ev 1 rfl) rfl .head rfl (by simp) rfl (by kernel_rfl) ?_; clear M T; intro wc ac M T
      refine sh_out hK _ _ ?_; clear hK K
      refine wpList_nil ?_
      replace T := T.pick [7, 8, 9, 10, 11] rfl
      refine nm_then ?_
      refine wp_seq ?_
      refine wp_region_lit ?_
      refine l_q T rfl rfl rfl rfl (rn_rowO (Mem.nth M 2 rfl) rfl (T.ev 2 rfl) rfl) ?_; clear T ac; intro ac T
      refine l_q T rfl rfl rfl rfl (rn_rowO (Mem.nth M 0 rfl) rfl (T.ev 1 rfl) rfl) ?_; clear T ac; intro ac T
      refine l_q T rfl rfl rfl rfl (rn_move rfl (T.ev 3 rfl)) ?_; clear T ac; intro ac T
      refine l_w rfl ?_; intro K hK
      refine ow_call (first := []) (cap := []) T rfl rfl rfl rfl evf (.cons (T.ev 2 rfl) (.cons (T.ev 1 rfl) (.cons (T.ev 0 rfl) .nil))) Try.func114 rfl rfl ?_
      refine Calls.mono (Calls.cast (by have e9 : rheard (thinJ j p0 p1 t r).p0 (thinJ j p0 p1 t r).p1 R j.me = rdg p0 p1 j.me k := heard_rdg p0 p1 j.me R k hR; rw [e9]; rfl) (hk (rdg p0 p1 j.me k).1 (rdg p0 p1 j.me k).2 t r _ (bnd_heard hj hbn (by omega)) (SJ.rd M (List.nil_sublist _)))) ?_
      clear T
      rintro e wc ⟨rfl, hb⟩
      intro ac T
      replace M := M.call hb; clear hb
      refine sh_out hK _ _ ?_; clear hK K
      refine l_q T rfl rfl rfl rfl (rn_not rfl (T.ev 0 rfl)) ?_; clear T ac; intro ac T
      refine wpList_nil ?_
      replace T := T.pick [0, 6, 7, 8, 9] rfl
      replace M := M.mask [false, true, true] rfl
      refine nm_then ?_
      refine wp_cond_split (T.ev 0 rfl) ?_ ?_
      · intro h2
        (try have h2' := h2; try simp only [Bool.and_eq_true, Bool.or_eq_true, Bool.not_eq_true', Bool.and_eq_false_imp, Bool.or_eq_false_iff, decide_eq_true_eq, decide_eq_false_iff_not] at h2')
        refine wp_seq ?_
        refine wp_region_lit ?_
        refine l_q T rfl rfl rfl rfl (rn_assign rfl evc) ?_; clear T ac; intro ac T
        refine wpList_nil ?_
        replace T := T.pick [0] rfl
        replace M := M.mask [false, false] rfl
        refine nm_then ?_
        refine wp_ret ?_
        refine rt_blk ?_
        refine rt_then ?_
        refine rt_then ?_
        refine rt_blk ?_
        refine rt_then ?_
        refine rt_1 T rfl (T.ev 0 rfl) ?_
        refine ⟨ret_bool ?_, M.below⟩
        have h8 : stopsP j (winS j).1 (winS j).2 n (rdg p0 p1 j.me k).1 (rdg p0 p1 j.me k).2 t r = false := by simpa using h2
        rw [H, h8, Bool.false_and]
      · intro h2
        (try have h2' := h2; try simp only [Bool.and_eq_true, Bool.or_eq_true, Bool.not_eq_true', Bool.and_eq_false_imp, Bool.or_eq_false_iff, decide_eq_true_eq, decide_eq_false_iff_not] at h2')
        refine wp_skip ?_
        refine nm_blk ?_
        refine nm_then ?_
        refine wp_region_lit ?_
        refine l_q T rfl rfl rfl rfl (rn_move rfl (T.ev 4 rfl)) ?_; clear T ac; intro ac T
        refine l_q T rfl rfl rfl rfl (rn_add rfl (T.ev 0 rfl) evc (by omega)) ?_; clear T ac; intro ac T
        refine l_q (v := (.int .i64 (R + 1))) (T.pick [0, 1, 2, 3, 4, 5] rfl) rfl rfl rfl rfl (rn_assign rfl (T.ev 0 rfl)) ?_; clear T ac; intro ac T
        refine wpList_nil ?_
        replace T := T.pick [0, 4, 5, 6] rfl
        refine nm_then ?_
        have h8 : stopsP j (winS j).1 (winS j).2 n (rdg p0 p1 j.me k).1 (rdg p0 p1 j.me k).2 t r = true := by simpa using h2
        rw [h8, Bool.true_and] at H
        exact ⟨_, by omega, (k + 1), (q - 1), _, rfl, (by omega), (by omega), (by omega), H, T.pick [1, 2, 3, 0] rfl, M.mask [true, true] rfl⟩
    · intro h1
      rw [show q = 0 by omega, allR] at H
      refine wp_exit ?_
      refine ex_then ?_
      refine ex_then ?_
      refine ex_hit ?_
      refine nm_then ?_
      refine wp_seq ?_
      refine wp_region_lit ?_
      refine l_q T rfl rfl rfl rfl (rn_assign rfl evc) ?_; clear T ac; intro ac T
      refine wpList_nil ?_
      replace T := T.pick [0] rfl
      replace M := M.mask [false, false] rfl
      refine nm_then ?_
      refine wp_ret ?_
      refine rt_1 T rfl (T.ev 0 rfl) ?_
      exact ⟨ret_bool H.symm, M.below⟩

theorem stroke_tip {j : Jb} {p0 p1 t r : Int} (hs : (thinJ j p0 p1 t r).upTo 1000000) (w : World) :
    Calls Try.prog 110 #[.agg #[.int .i64 j.u0, .int .i64 j.u1, .int .i64 j.d0, .int .i64 j.d1, .int .i64 j.a0, .int .i64 j.a1, .int .i64 j.b0, .int .i64 j.b1, .int .i64 j.le], .agg #[.int .i64 ((thinJ j p0 p1 t r).p0), .int .i64 ((thinJ j p0 p1 t r).p1), .int .i64 ((thinJ j p0 p1 t r).t0), .int .i64 ((thinJ j p0 p1 t r).t1), .int .i64 ((thinJ j p0 p1 t r).r0), .int .i64 ((thinJ j p0 p1 t r).r1)], .int .i64 1] w fun e w' => e = .returned (.agg #[.int .i64 ((thinJ j (p0 + j.u0) (p1 + j.u1) (t + 1) r).p0), .int .i64 ((thinJ j (p0 + j.u0) (p1 + j.u1) (t + 1) r).p1), .int .i64 ((thinJ j (p0 + j.u0) (p1 + j.u1) (t + 1) r).t0), .int .i64 ((thinJ j (p0 + j.u0) (p1 + j.u1) (t + 1) r).t1), .int .i64 ((thinJ j (p0 + j.u0) (p1 + j.u1) (t + 1) r).r0), .int .i64 ((thinJ j (p0 + j.u0) (p1 + j.u1) (t + 1) r).r1)]) ∧ Below w.heap.size w w' := by
  have h9 := stroke_of (thin_file j p0 p1 t r) 1 w hs
  rw [thin_tip] at h9
  exact h9

theorem stroke_root {j : Jb} {p0 p1 t r : Int} (hs : (thinJ j p0 p1 t r).upTo 1000000) (w : World) :
    Calls Try.prog 110 #[.agg #[.int .i64 j.u0, .int .i64 j.u1, .int .i64 j.d0, .int .i64 j.d1, .int .i64 j.a0, .int .i64 j.a1, .int .i64 j.b0, .int .i64 j.b1, .int .i64 j.le], .agg #[.int .i64 ((thinJ j p0 p1 t r).p0), .int .i64 ((thinJ j p0 p1 t r).p1), .int .i64 ((thinJ j p0 p1 t r).t0), .int .i64 ((thinJ j p0 p1 t r).t1), .int .i64 ((thinJ j p0 p1 t r).r0), .int .i64 ((thinJ j p0 p1 t r).r1)], .int .i64 2] w fun e w' => e = .returned (.agg #[.int .i64 ((thinJ j (p0 - j.d1) (p1 - j.d0) t (r + 1)).p0), .int .i64 ((thinJ j (p0 - j.d1) (p1 - j.d0) t (r + 1)).p1), .int .i64 ((thinJ j (p0 - j.d1) (p1 - j.d0) t (r + 1)).t0), .int .i64 ((thinJ j (p0 - j.d1) (p1 - j.d0) t (r + 1)).t1), .int .i64 ((thinJ j (p0 - j.d1) (p1 - j.d0) t (r + 1)).r0), .int .i64 ((thinJ j (p0 - j.d1) (p1 - j.d0) t (r + 1)).r1)]) ∧ Below w.heap.size w w' := by
  have h9 := stroke_of (thin_file j p0 p1 t r) 2 w hs
  rw [thin_root] at h9
  exact h9

set_option maxRecDepth 100000 in
set_option maxHeartbeats 1000000 in
theorem makes_1 (j : Jb) (A : Option Addr) (c n : Nat) (p0 p1 t r : Int) (w : World) (hj : j.good) (hbn : Bnd (n + 1) p0 p1 t r) (hr : Rd w w.heap.size 2 A j.sh.length (rc j.sh)) (hrd : RdC j A c n) :
    Calls Try.prog 81 #[jobV j A c, .agg #[.int .i64 ((thinJ j p0 p1 t r).p0), .int .i64 ((thinJ j p0 p1 t r).p1), .int .i64 ((thinJ j p0 p1 t r).t0), .int .i64 ((thinJ j p0 p1 t r).t1), .int .i64 ((thinJ j p0 p1 t r).r0), .int .i64 ((thinJ j p0 p1 t r).r1)], .int .i64 1, .int .i64 ((n + 1 : Nat) : Int)] w fun e w' => e = .returned (.bool ((okT j (t + 1) r) && (readsP j (winS j).1 (winS j).2 n (p0 + j.u0) (p1 + j.u1) (t + 1) r))) ∧ Below w.heap.size w w' := by
  obtain ⟨bJ, oJ, SJ⟩ := Sp.old hr
  have hp := hj.p
  have hme := hj.me
  have hup := thin_up hj hbn
  have hp0 := hbn.p0
  have hp1 := hbn.p1
  have e0 : (thinJ j p0 p1 t r).p0 = p0 := rfl
  have e1 : (thinJ j p0 p1 t r).p1 = p1 := rfl
  have hlv := hbn.lv
  refine px_enter noEx Try.func81 rfl 27 rfl [.agg #[.int .i64 j.p0, .int .i64 j.p1, .int .i64 j.t0, .int .i64 j.t1, .int .i64 j.r0, .int .i64 j.r1, .int .i64 j.u0, .int .i64 j.u1, .int .i64 j.d0, .int .i64 j.d1, .int .i64 j.a0, .int .i64 j.a1, .int .i64 j.b0, .int .i64 j.b1, .int .i64 j.le, .slice A j.sh.length c, .int .i64 j.wi, .int .i64 j.me], .agg #[.int .i64 ((thinJ j p0 p1 t r).p0), .int .i64 ((thinJ j p0 p1 t r).p1), .int .i64 ((thinJ j p0 p1 t r).t0), .int .i64 ((thinJ j p0 p1 t r).t1), .int .i64 ((thinJ j p0 p1 t r).r0), .int .i64 ((thinJ j p0 p1 t r).r1)], .int .i64 1, .int .i64 ((n + 1 : Nat) : Int)] rfl rfl (Mem.init w _) ?_
  intro ac wc T M
  refine wp_seq ?_
  refine wp_region_lit ?_
  refine l_w rfl ?_; intro K hK
  refine ow_bx M T rfl rfl rfl rfl (T.ev 0 rfl) rfl ?_; clear M T; intro g1 wc ac M T
  refine sh_out hK _ _ ?_; clear hK K
  refine l_w rfl ?_; intro K hK
  refine ow_bx M T rfl rfl rfl rfl (T.ev 2 rfl) rfl ?_; clear M T; intro g2 wc ac M T
  refine sh_out hK _ _ ?_; clear hK K
  refine l_q T rfl rfl rfl rfl (rn_assign rfl evc) ?_; clear T ac; intro ac T
  refine wpList_nil ?_
  replace T := T.pick [1, 2, 5, 6] rfl
  refine nm_then ?_
  refine wp_seq ?_
  refine wp_region_lit ?_
  refine l_q (v := (.pointer (some ⟨g1, 6, none⟩))) T rfl rfl rfl rfl (rn_fieldAddr (off := 6) rfl (T.ev 1 rfl) (fun _ _ _ => by kernel_rfl)) ?_; clear T ac; intro ac T
  refine l_q T rfl rfl rfl rfl (rn_rowO (Mem.nth M 1 rfl) rfl (T.ev 0 rfl) rfl) ?_; clear T ac; intro ac T
  refine l_q T rfl rfl rfl rfl (rn_rowO (Mem.nth M 0 rfl) rfl (T.ev 2 rfl) rfl) ?_; clear T ac; intro ac T
  refine l_q T rfl rfl rfl rfl (rn_move rfl (T.ev 5 rfl)) ?_; clear T ac; intro ac T
  refine l_w rfl ?_; intro K hK
  refine ow_call (first := []) (cap := []) T rfl rfl rfl rfl evf (.cons (T.ev 2 rfl) (.cons (T.ev 1 rfl) (.cons (T.ev 0 rfl) .nil))) Try.func110 rfl rfl ?_
  refine Calls.mono (stroke_tip hup _) ?_
  clear T
  rintro e wc ⟨rfl, hb⟩
  intro ac T
  replace M := M.call hb; clear hb
  refine sh_out hK _ _ ?_; clear hK K
  refine l_w rfl ?_; intro K hK
  refine ow_al M T rfl rfl rfl rfl ?_; clear M T; intro g3 wc ac M T
  refine sh_out hK _ _ ?_; clear hK K
  refine l_w rfl ?_; intro K hK
  refine ow_stO M T rfl rfl (T.ev 0 rfl) (T.ev 1 rfl) rfl .head rfl (by simp) rfl (by kernel_rfl) ?_; clear M T; intro wc ac M T
  refine sh_out hK _ _ ?_; clear hK K
  refine wpList_nil ?_
  replace T := T.pick [0, 7, 9] rfl
  replace M := M.mask [true, false, true] rfl
  refine nm_then ?_
  refine cut_seq (fun ac wc => Tm ac 27 [(8, .bool ((decide (((thinJ j (p0 + j.u0) (p1 + j.u1) (t + 1) r).spoiled) = 2)) && (readsP j (winS j).1 (winS j).2 n (p0 + j.u0) (p1 + j.u1) (t + 1) r)))] ∧ Mem w noEx wc []) ?_ ?_
  · refine wp_region_lit ?_
    refine l_q (v := (.pointer (some ⟨g1, 6, none⟩))) T rfl rfl rfl rfl (rn_fieldAddr (off := 6) rfl (T.ev 1 rfl) (fun _ _ _ => by kernel_rfl)) ?_; clear T ac; intro ac T
    refine l_q T rfl rfl rfl rfl (rn_rowO (Mem.nth M 1 rfl) rfl (T.ev 0 rfl) rfl) ?_; clear T ac; intro ac T
    refine l_q T rfl rfl rfl rfl (rn_rowO (Mem.nth M 0 rfl) rfl (T.ev 2 rfl) rfl) ?_; clear T ac; intro ac T
    refine l_w rfl ?_; intro K hK
    refine ow_call (first := []) (cap := []) T rfl rfl rfl rfl evf (.cons (T.ev 1 rfl) (.cons (T.ev 0 rfl) .nil)) Try.func100 rfl rfl ?_
    refine Calls.mono (rspoiled_of (s := (thinJ j (p0 + j.u0) (p1 + j.u1) (t + 1) r)) (thin_file _ _ _ _ _) _) ?_
    clear T
    rintro e wc ⟨rfl, hb⟩
    intro ac T
    replace M := M.call hb; clear hb
    refine sh_out hK _ _ ?_; clear hK K
    refine l_q T rfl rfl rfl rfl (rn_eql rfl (T.ev 0 rfl) evc) ?_; clear T ac; intro ac T
    refine l_q T rfl rfl rfl rfl (rn_move rfl (T.ev 0 rfl)) ?_; clear T ac; intro ac T
    rcases Bool.eq_false_or_eq_true (decide (((thinJ j (p0 + j.u0) (p1 + j.u1) (t + 1) r).spoiled) = 2)) with h1 | h1
    · replace h1 := of_decide_eq_true h1
      refine l_q T (wanted_yes rfl rfl (T.ev 0 rfl) (decide_eq_true h1)) rfl rfl rfl (rn_rowO (Mem.nth M 1 rfl) rfl (T.ev 7 rfl) rfl) ?_; clear T ac; intro ac T
      refine l_q T (wanted_yes rfl rfl (T.ev 1 rfl) (decide_eq_true h1)) rfl rfl rfl (rn_rowO (Mem.nth M 0 rfl) rfl (T.ev 7 rfl) rfl) ?_; clear T ac; intro ac T
      refine l_q T (wanted_yes rfl rfl (T.ev 2 rfl) (decide_eq_true h1)) rfl rfl rfl (rn_move rfl (T.ev 10 rfl)) ?_; clear T ac; intro ac T
      refine l_q T (wanted_yes rfl rfl (T.ev 3 rfl) (decide_eq_true h1)) rfl rfl rfl (rn_sub rfl (T.ev 0 rfl) evc (by omega)) ?_; clear T ac; intro ac T
      refine l_w (wanted_yes rfl rfl (T.ev 4 rfl) (decide_eq_true h1)) ?_; intro K hK
      refine ow_call (first := []) (cap := []) T rfl rfl rfl rfl evf (.cons (T.ev 3 rfl) (.cons (T.ev 2 rfl) (.cons (T.ev 0 rfl) .nil))) Try.func108 rfl rfl ?_
      refine Calls.mono (Calls.cast (by rw [show ((n : Nat) : Int) = ((n + 1 : Nat) : Int) - 1 by omega]; rfl) (hrd (p0 + j.u0) (p1 + j.u1) (t + 1) r _ (bnd_tip hj hbn) (SJ.rd M (List.nil_sublist _)))) ?_
      clear T
      rintro e wc ⟨rfl, hb⟩
      intro ac T
      replace M := M.call hb; clear hb
      refine sh_out hK _ _ ?_; clear hK K
      refine l_q T rfl rfl rfl rfl (rn_pick1 rfl (T.ev 5 rfl) (decide_eq_true h1) (T.ev 0 rfl)) ?_; clear T ac; intro ac T
      refine l_q T rfl rfl rfl rfl (rn_assign rfl (T.ev 0 rfl)) ?_; clear T ac; intro ac T
      refine wpList_nil ?_
      replace T := T.pick [0] rfl
      replace M := M.mask [false, false] rfl
      exact ⟨(T.pick (E' := [(8, .bool (readsP j (winS j).1 (winS j).2 n (p0 + j.u0) (p1 + j.u1) (t + 1) r))]) [0] rfl).as (by (try rw [show (decide (((thinJ j (p0 + j.u0) (p1 + j.u1) (t + 1) r).spoiled) = 2)) = true from (decide_eq_true h1)]); rfl), M.mask [] rfl⟩
    · replace h1 := of_decide_eq_false h1
      refine l_pass T (wanted_no rfl rfl (T.ev 0 rfl) (decide_eq_false h1)) rfl rfl rfl ?_; clear T ac; intro ac T
      refine l_pass T (wanted_no rfl rfl (T.ev 1 rfl) (decide_eq_false h1)) rfl rfl rfl ?_; clear T ac; intro ac T
      refine l_pass T (wanted_no rfl rfl (T.ev 2 rfl) (decide_eq_false h1)) rfl rfl rfl ?_; clear T ac; intro ac T
      refine l_pass T (wanted_no rfl rfl (T.ev 3 rfl) (decide_eq_false h1)) rfl rfl rfl ?_; clear T ac; intro ac T
      refine l_pass T (wanted_no rfl rfl (T.ev 4 rfl) (decide_eq_false h1)) rfl rfl rfl ?_; clear T ac; intro ac T
      refine l_q T rfl rfl rfl rfl (rn_pick0 rfl (T.ev 5 rfl) (decide_eq_false h1) evc) ?_; clear T ac; intro ac T
      refine l_q T rfl rfl rfl rfl (rn_assign rfl (T.ev 0 rfl)) ?_; clear T ac; intro ac T
      refine wpList_nil ?_
      replace T := T.pick [0] rfl
      replace M := M.mask [false, false] rfl
      exact ⟨(T.pick (E' := [(8, .bool false)]) [0] rfl).as (by (try rw [show (decide (((thinJ j (p0 + j.u0) (p1 + j.u1) (t + 1) r).spoiled) = 2)) = false from (decide_eq_false h1)]); rfl), M.mask [] rfl⟩
  · clear T M
    rintro ac wc ⟨T, M⟩
    refine wp_ret ?_
    refine rt_1 T rfl (T.ev 0 rfl) ?_
    refine ⟨ret_bool ?_, M.below⟩
    rw [← okT_any j (p0 + j.u0) (p1 + j.u1) (t + 1) r]
    rfl

set_option maxRecDepth 100000 in
set_option maxHeartbeats 1000000 in
theorem makes_2 (j : Jb) (A : Option Addr) (c n : Nat) (p0 p1 t r : Int) (w : World) (hj : j.good) (hbn : Bnd (n + 1) p0 p1 t r) (hr : Rd w w.heap.size 2 A j.sh.length (rc j.sh)) (hrd : RdC j A c n) :
    Calls Try.prog 81 #[jobV j A c, .agg #[.int .i64 ((thinJ j p0 p1 t r).p0), .int .i64 ((thinJ j p0 p1 t r).p1), .int .i64 ((thinJ j p0 p1 t r).t0), .int .i64 ((thinJ j p0 p1 t r).t1), .int .i64 ((thinJ j p0 p1 t r).r0), .int .i64 ((thinJ j p0 p1 t r).r1)], .int .i64 2, .int .i64 ((n + 1 : Nat) : Int)] w fun e w' => e = .returned (.bool ((okT j t (r + 1)) && (readsP j (winS j).1 (winS j).2 n (p0 - j.d1) (p1 - j.d0) t (r + 1)))) ∧ Below w.heap.size w w' := by
  obtain ⟨bJ, oJ, SJ⟩ := Sp.old hr
  have hp := hj.p
  have hme := hj.me
  have hup := thin_up hj hbn
  have hp0 := hbn.p0
  have hp1 := hbn.p1
  have e0 : (thinJ j p0 p1 t r).p0 = p0 := rfl
  have e1 : (thinJ j p0 p1 t r).p1 = p1 := rfl
  have hlv := hbn.lv
  refine px_enter noEx Try.func81 rfl 27 rfl [.agg #[.int .i64 j.p0, .int .i64 j.p1, .int .i64 j.t0, .int .i64 j.t1, .int .i64 j.r0, .int .i64 j.r1, .int .i64 j.u0, .int .i64 j.u1, .int .i64 j.d0, .int .i64 j.d1, .int .i64 j.a0, .int .i64 j.a1, .int .i64 j.b0, .int .i64 j.b1, .int .i64 j.le, .slice A j.sh.length c, .int .i64 j.wi, .int .i64 j.me], .agg #[.int .i64 ((thinJ j p0 p1 t r).p0), .int .i64 ((thinJ j p0 p1 t r).p1), .int .i64 ((thinJ j p0 p1 t r).t0), .int .i64 ((thinJ j p0 p1 t r).t1), .int .i64 ((thinJ j p0 p1 t r).r0), .int .i64 ((thinJ j p0 p1 t r).r1)], .int .i64 2, .int .i64 ((n + 1 : Nat) : Int)] rfl rfl (Mem.init w _) ?_
  intro ac wc T M
  refine wp_seq ?_
  refine wp_region_lit ?_
  refine l_w rfl ?_; intro K hK
  refine ow_bx M T rfl rfl rfl rfl (T.ev 0 rfl) rfl ?_; clear M T; intro g1 wc ac M T
  refine sh_out hK _ _ ?_; clear hK K
  refine l_w rfl ?_; intro K hK
  refine ow_bx M T rfl rfl rfl rfl (T.ev 2 rfl) rfl ?_; clear M T; intro g2 wc ac M T
  refine sh_out hK _ _ ?_; clear hK K
  refine l_q T rfl rfl rfl rfl (rn_assign rfl evc) ?_; clear T ac; intro ac T
  refine wpList_nil ?_
  replace T := T.pick [1, 2, 5, 6] rfl
  refine nm_then ?_
  refine wp_seq ?_
  refine wp_region_lit ?_
  refine l_q (v := (.pointer (some ⟨g1, 6, none⟩))) T rfl rfl rfl rfl (rn_fieldAddr (off := 6) rfl (T.ev 1 rfl) (fun _ _ _ => by kernel_rfl)) ?_; clear T ac; intro ac T
  refine l_q T rfl rfl rfl rfl (rn_rowO (Mem.nth M 1 rfl) rfl (T.ev 0 rfl) rfl) ?_; clear T ac; intro ac T
  refine l_q T rfl rfl rfl rfl (rn_rowO (Mem.nth M 0 rfl) rfl (T.ev 2 rfl) rfl) ?_; clear T ac; intro ac T
  refine l_q T rfl rfl rfl rfl (rn_move rfl (T.ev 5 rfl)) ?_; clear T ac; intro ac T
  refine l_w rfl ?_; intro K hK
  refine ow_call (first := []) (cap := []) T rfl rfl rfl rfl evf (.cons (T.ev 2 rfl) (.cons (T.ev 1 rfl) (.cons (T.ev 0 rfl) .nil))) Try.func110 rfl rfl ?_
  refine Calls.mono (stroke_root hup _) ?_
  clear T
  rintro e wc ⟨rfl, hb⟩
  intro ac T
  replace M := M.call hb; clear hb
  refine sh_out hK _ _ ?_; clear hK K
  refine l_w rfl ?_; intro K hK
  refine ow_al M T rfl rfl rfl rfl ?_; clear M T; intro g3 wc ac M T
  refine sh_out hK _ _ ?_; clear hK K
  refine l_w rfl ?_; intro K hK
  refine ow_stO M T rfl rfl (T.ev 0 rfl) (T.ev 1 rfl) rfl .head rfl (by simp) rfl (by kernel_rfl) ?_; clear M T; intro wc ac M T
  refine sh_out hK _ _ ?_; clear hK K
  refine wpList_nil ?_
  replace T := T.pick [0, 7, 9] rfl
  replace M := M.mask [true, false, true] rfl
  refine nm_then ?_
  refine cut_seq (fun ac wc => Tm ac 27 [(8, .bool ((decide (((thinJ j (p0 - j.d1) (p1 - j.d0) t (r + 1)).spoiled) = 2)) && (readsP j (winS j).1 (winS j).2 n (p0 - j.d1) (p1 - j.d0) t (r + 1))))] ∧ Mem w noEx wc []) ?_ ?_
  · refine wp_region_lit ?_
    refine l_q (v := (.pointer (some ⟨g1, 6, none⟩))) T rfl rfl rfl rfl (rn_fieldAddr (off := 6) rfl (T.ev 1 rfl) (fun _ _ _ => by kernel_rfl)) ?_; clear T ac; intro ac T
    refine l_q T rfl rfl rfl rfl (rn_rowO (Mem.nth M 1 rfl) rfl (T.ev 0 rfl) rfl) ?_; clear T ac; intro ac T
    refine l_q T rfl rfl rfl rfl (rn_rowO (Mem.nth M 0 rfl) rfl (T.ev 2 rfl) rfl) ?_; clear T ac; intro ac T
    refine l_w rfl ?_; intro K hK
    refine ow_call (first := []) (cap := []) T rfl rfl rfl rfl evf (.cons (T.ev 1 rfl) (.cons (T.ev 0 rfl) .nil)) Try.func100 rfl rfl ?_
    refine Calls.mono (rspoiled_of (s := (thinJ j (p0 - j.d1) (p1 - j.d0) t (r + 1))) (thin_file _ _ _ _ _) _) ?_
    clear T
    rintro e wc ⟨rfl, hb⟩
    intro ac T
    replace M := M.call hb; clear hb
    refine sh_out hK _ _ ?_; clear hK K
    refine l_q T rfl rfl rfl rfl (rn_eql rfl (T.ev 0 rfl) evc) ?_; clear T ac; intro ac T
    refine l_q T rfl rfl rfl rfl (rn_move rfl (T.ev 0 rfl)) ?_; clear T ac; intro ac T
    rcases Bool.eq_false_or_eq_true (decide (((thinJ j (p0 - j.d1) (p1 - j.d0) t (r + 1)).spoiled) = 2)) with h1 | h1
    · replace h1 := of_decide_eq_true h1
      refine l_q T (wanted_yes rfl rfl (T.ev 0 rfl) (decide_eq_true h1)) rfl rfl rfl (rn_rowO (Mem.nth M 1 rfl) rfl (T.ev 7 rfl) rfl) ?_; clear T ac; intro ac T
      refine l_q T (wanted_yes rfl rfl (T.ev 1 rfl) (decide_eq_true h1)) rfl rfl rfl (rn_rowO (Mem.nth M 0 rfl) rfl (T.ev 7 rfl) rfl) ?_; clear T ac; intro ac T
      refine l_q T (wanted_yes rfl rfl (T.ev 2 rfl) (decide_eq_true h1)) rfl rfl rfl (rn_move rfl (T.ev 10 rfl)) ?_; clear T ac; intro ac T
      refine l_q T (wanted_yes rfl rfl (T.ev 3 rfl) (decide_eq_true h1)) rfl rfl rfl (rn_sub rfl (T.ev 0 rfl) evc (by omega)) ?_; clear T ac; intro ac T
      refine l_w (wanted_yes rfl rfl (T.ev 4 rfl) (decide_eq_true h1)) ?_; intro K hK
      refine ow_call (first := []) (cap := []) T rfl rfl rfl rfl evf (.cons (T.ev 3 rfl) (.cons (T.ev 2 rfl) (.cons (T.ev 0 rfl) .nil))) Try.func108 rfl rfl ?_
      refine Calls.mono (Calls.cast (by rw [show ((n : Nat) : Int) = ((n + 1 : Nat) : Int) - 1 by omega]; rfl) (hrd (p0 - j.d1) (p1 - j.d0) t (r + 1) _ (bnd_root hj hbn) (SJ.rd M (List.nil_sublist _)))) ?_
      clear T
      rintro e wc ⟨rfl, hb⟩
      intro ac T
      replace M := M.call hb; clear hb
      refine sh_out hK _ _ ?_; clear hK K
      refine l_q T rfl rfl rfl rfl (rn_pick1 rfl (T.ev 5 rfl) (decide_eq_true h1) (T.ev 0 rfl)) ?_; clear T ac; intro ac T
      refine l_q T rfl rfl rfl rfl (rn_assign rfl (T.ev 0 rfl)) ?_; clear T ac; intro ac T
      refine wpList_nil ?_
      replace T := T.pick [0] rfl
      replace M := M.mask [false, false] rfl
      exact ⟨(T.pick (E' := [(8, .bool (readsP j (winS j).1 (winS j).2 n (p0 - j.d1) (p1 - j.d0) t (r + 1)))]) [0] rfl).as (by (try rw [show (decide (((thinJ j (p0 - j.d1) (p1 - j.d0) t (r + 1)).spoiled) = 2)) = true from (decide_eq_true h1)]); rfl), M.mask [] rfl⟩
    · replace h1 := of_decide_eq_false h1
      refine l_pass T (wanted_no rfl rfl (T.ev 0 rfl) (decide_eq_false h1)) rfl rfl rfl ?_; clear T ac; intro ac T
      refine l_pass T (wanted_no rfl rfl (T.ev 1 rfl) (decide_eq_false h1)) rfl rfl rfl ?_; clear T ac; intro ac T
      refine l_pass T (wanted_no rfl rfl (T.ev 2 rfl) (decide_eq_false h1)) rfl rfl rfl ?_; clear T ac; intro ac T
      refine l_pass T (wanted_no rfl rfl (T.ev 3 rfl) (decide_eq_false h1)) rfl rfl rfl ?_; clear T ac; intro ac T
      refine l_pass T (wanted_no rfl rfl (T.ev 4 rfl) (decide_eq_false h1)) rfl rfl rfl ?_; clear T ac; intro ac T
      refine l_q T rfl rfl rfl rfl (rn_pick0 rfl (T.ev 5 rfl) (decide_eq_false h1) evc) ?_; clear T ac; intro ac T
      refine l_q T rfl rfl rfl rfl (rn_assign rfl (T.ev 0 rfl)) ?_; clear T ac; intro ac T
      refine wpList_nil ?_
      replace T := T.pick [0] rfl
      replace M := M.mask [false, false] rfl
      exact ⟨(T.pick (E' := [(8, .bool false)]) [0] rfl).as (by (try rw [show (decide (((thinJ j (p0 - j.d1) (p1 - j.d0) t (r + 1)).spoiled) = 2)) = false from (decide_eq_false h1)]); rfl), M.mask [] rfl⟩
  · clear T M
    rintro ac wc ⟨T, M⟩
    refine wp_ret ?_
    refine rt_1 T rfl (T.ev 0 rfl) ?_
    refine ⟨ret_bool ?_, M.below⟩
    rw [← okT_any j (p0 - j.d1) (p1 - j.d0) t (r + 1)]
    rfl

set_option maxRecDepth 100000 in
set_option maxHeartbeats 1000000 in
theorem knows_0 (j : Jb) (A : Option Addr) (c : Nat) (p0 p1 t r : Int) (w : World) (hj : j.good) (hbn : Bnd 0 p0 p1 t r) (hr : Rd w w.heap.size 2 A j.sh.length (rc j.sh))  :
    Calls Try.prog 114 #[jobV j A c, .agg #[.int .i64 ((thinJ j p0 p1 t r).p0), .int .i64 ((thinJ j p0 p1 t r).p1), .int .i64 ((thinJ j p0 p1 t r).t0), .int .i64 ((thinJ j p0 p1 t r).t1), .int .i64 ((thinJ j p0 p1 t r).r0), .int .i64 ((thinJ j p0 p1 t r).r1)], .int .i64 0] w fun e w' => e = .returned (.bool (stopsP j (winS j).1 (winS j).2 0 p0 p1 t r)) ∧ Below w.heap.size w w' := by
  obtain ⟨bJ, oJ, SJ⟩ := Sp.old hr
  have hp := hj.p
  have hme := hj.me
  have hup := thin_up hj hbn
  have hp0 := hbn.p0
  have hp1 := hbn.p1
  have e0 : (thinJ j p0 p1 t r).p0 = p0 := rfl
  have e1 : (thinJ j p0 p1 t r).p1 = p1 := rfl
  refine px_enter noEx Try.func114 rfl 26 rfl [.agg #[.int .i64 j.p0, .int .i64 j.p1, .int .i64 j.t0, .int .i64 j.t1, .int .i64 j.r0, .int .i64 j.r1, .int .i64 j.u0, .int .i64 j.u1, .int .i64 j.d0, .int .i64 j.d1, .int .i64 j.a0, .int .i64 j.a1, .int .i64 j.b0, .int .i64 j.b1, .int .i64 j.le, .slice A j.sh.length c, .int .i64 j.wi, .int .i64 j.me], .agg #[.int .i64 ((thinJ j p0 p1 t r).p0), .int .i64 ((thinJ j p0 p1 t r).p1), .int .i64 ((thinJ j p0 p1 t r).t0), .int .i64 ((thinJ j p0 p1 t r).t1), .int .i64 ((thinJ j p0 p1 t r).r0), .int .i64 ((thinJ j p0 p1 t r).r1)], .int .i64 0] rfl rfl (Mem.init w _) ?_
  intro ac wc T M
  refine wp_seq ?_
  refine wp_region_lit ?_
  refine l_w rfl ?_; intro K hK
  refine ow_bx M T rfl rfl rfl rfl (T.ev 0 rfl) rfl ?_; clear M T; intro g1 wc ac M T
  refine sh_out hK _ _ ?_; clear hK K
  refine l_w rfl ?_; intro K hK
  refine ow_bx M T rfl rfl rfl rfl (T.ev 2 rfl) rfl ?_; clear M T; intro g2 wc ac M T
  refine sh_out hK _ _ ?_; clear hK K
  refine l_q T rfl rfl rfl rfl (rn_assign rfl evc) ?_; clear T ac; intro ac T
  refine wpList_nil ?_
  replace T := T.pick [1, 2, 5] rfl
  refine nm_then ?_
  refine wp_seq ?_
  refine wp_seq ?_
  refine g_start2 M (M.mask [true, true] rfl) 5 (by kernel_rfl) rfl (by kernel_rfl) ?_
  clear M; intro wc M
  refine g_q (v := (.pointer (some ⟨g2, 0, none⟩))) (T := T) (i := 0) rfl (by kernel_rfl) (by kernel_rfl : (pbits 5 0).setIfInBounds 0 true = pbits 5 1) si_U (fun _ _ _ h => h) rfl rfl rfl rfl (fun _ _ _ _ _ => (rn_fieldAddr (off := 0) rfl (T.ev 0 rfl) (fun _ _ _ => by kernel_rfl))) ?_; clear T ac; intro ac T
  refine g_q (T := T) (i := 1) rfl (by kernel_rfl) (by kernel_rfl : (pbits 5 1).setIfInBounds 1 true = pbits 5 3) si_U (fun _ _ _ h => h) rfl rfl rfl rfl (fun B w' hD hl hS => (rn_rowO (Mem.nth (show Mem w noEx w' _ from hS) 0 rfl) rfl (T.ev 0 rfl) rfl)) ?_; clear T ac; intro ac T
  refine g_q (T := T) (i := 2) rfl (by kernel_rfl) (by kernel_rfl : (pbits 5 3).setIfInBounds 2 true = pbits 5 7) si_U (fun _ _ _ h => h) rfl rfl rfl rfl (fun B w' hD hl hS => (rn_rowO (Mem.nth (show Mem w noEx w' _ from hS) 1 rfl) rfl (T.ev 3 rfl) rfl)) ?_; clear T ac; intro ac T
  refine g_w (i := 3) (by kernel_rfl) rfl (by kernel_rfl : (pbits 5 7).setIfInBounds 3 true = pbits 5 15) rfl ?_; intro K hK
  refine ow_call (first := []) (cap := []) T rfl rfl rfl rfl evf (.cons (T.ev 0 rfl) .nil) Try.func80 rfl rfl ?_
  refine Calls.mono (rwindow_any j _ _ _ hj (SJ.rd M (List.nil_sublist _))) ?_
  clear T
  rintro e wc ⟨rfl, hb⟩
  intro ac T
  replace M := M.call hb; clear hb
  refine sh_out hK _ _ (M.mask [true, true] rfl) ?_; clear hK K
  refine g_w (i := 4) (by kernel_rfl) rfl (by kernel_rfl : (pbits 5 15).setIfInBounds 4 true = pbits 5 31) rfl ?_; intro K hK
  refine ow_call (first := []) (cap := []) T rfl rfl rfl rfl evf (.cons (T.ev 2 rfl) (.cons (T.ev 0 rfl) .nil)) Try.func79 rfl rfl ?_
  refine Calls.mono (inside_any (thinJ j p0 p1 t r).p0 (thinJ j p0 p1 t r).p1 (rwin j).1 (rwin j).2 _) ?_
  clear T
  rintro e wc ⟨rfl, hb⟩
  intro ac T
  replace M := M.call hb; clear hb
  refine sh_out hK _ _ (M.mask [true, true] rfl) ?_; clear hK K
  refine g_done (by kernel_rfl) ?_
  replace T := T.pick [0, 5, 6, 7] rfl
  refine nm_then ?_
  refine wp_cond_split (T.ev 0 rfl) ?_ ?_
  · intro h1
    refine wp_seq ?_
    refine wp_region_lit ?_
    refine l_q T rfl rfl rfl rfl (rn_assign rfl evc) ?_; clear T ac; intro ac T
    refine wpList_nil ?_
    replace T := T.pick [0] rfl
    replace M := M.mask [false, false] rfl
    refine nm_then ?_
    refine wp_ret ?_
    refine rt_then ?_
    refine rt_1 T rfl (T.ev 0 rfl) ?_
    refine ⟨ret_bool ?_, M.below⟩
    rw [rwin_eq] at h1
    exact h1.symm
  · intro h1
    refine wp_skip ?_
    refine nm_then ?_
    refine wp_seq ?_
    refine wp_seq ?_
    refine wp_region_lit ?_
    refine l_q T rfl rfl rfl rfl (rn_assign rfl evc) ?_; clear T ac; intro ac T
    refine wpList_nil ?_
    replace T := T.pick [0, 2, 3, 4] rfl
    refine nm_then ?_
    refine wp_block ?_
    refine wp_loop_rounds 3 ?_
    refine rounds_S ?_
    refine wp_seq ?_
    refine wp_seq ?_
    refine wp_region_lit ?_
    refine l_q T rfl rfl rfl rfl (rn_move rfl (T.ev 0 rfl)) ?_; clear T ac; intro ac T
    refine l_q (v := (.bool true)) T rfl rfl rfl rfl (rn_neqof (rn_leq rfl (T.ev 0 rfl) evc) (by simp)) ?_; clear T ac; intro ac T
    refine l_q T rfl rfl rfl rfl (rn_move rfl (T.ev 0 rfl)) ?_; clear T ac; intro ac T
    refine l_q T (wanted_yes rfl rfl (T.ev 0 rfl) rfl) rfl rfl rfl (rn_move rfl (T.ev 6 rfl)) ?_; clear T ac; intro ac T
    refine l_q (v := (.bool false)) T (wanted_yes rfl rfl (T.ev 1 rfl) rfl) rfl rfl rfl (rn_neqof (rn_gtr rfl (T.ev 0 rfl) evc) (by simp)) ?_; clear T ac; intro ac T
    refine l_q T rfl rfl rfl rfl (rn_pick1 rfl (T.ev 2 rfl) rfl (T.ev 0 rfl)) ?_; clear T ac; intro ac T
    refine wpList_nil ?_
    replace T := T.pick [0, 1, 2, 6, 7, 8, 9] rfl
    refine nm_then ?_
    refine wp_cond_false (T.ev 0 rfl) ?_
    refine wp_exit ?_
    refine ex_then ?_
    refine ex_then ?_
    refine ex_hit ?_
    refine nm_then ?_
    refine wp_seq ?_
    refine wp_region_lit ?_
    refine l_q T rfl rfl rfl rfl (rn_assign rfl evc) ?_; clear T ac; intro ac T
    refine wpList_nil ?_
    replace T := T.pick [0] rfl
    replace M := M.mask [false, false] rfl
    refine nm_then ?_
    refine wp_ret ?_
    refine rt_1 T rfl (T.ev 0 rfl) ?_
    refine ⟨ret_bool ?_, M.below⟩
    rw [rwin_eq] at h1
    exact h1.symm

set_option maxRecDepth 100000 in
set_option maxHeartbeats 1000000 in
theorem knows_S (j : Jb) (A : Option Addr) (c n : Nat) (p0 p1 t r : Int) (w : World) (hj : j.good) (hbn : Bnd (n + 1) p0 p1 t r) (hr : Rd w w.heap.size 2 A j.sh.length (rc j.sh)) (hrd : RdC j A c n) :
    Calls Try.prog 114 #[jobV j A c, .agg #[.int .i64 ((thinJ j p0 p1 t r).p0), .int .i64 ((thinJ j p0 p1 t r).p1), .int .i64 ((thinJ j p0 p1 t r).t0), .int .i64 ((thinJ j p0 p1 t r).t1), .int .i64 ((thinJ j p0 p1 t r).r0), .int .i64 ((thinJ j p0 p1 t r).r1)], .int .i64 ((n + 1 : Nat) : Int)] w fun e w' => e = .returned (.bool (stopsP j (winS j).1 (winS j).2 (n + 1) p0 p1 t r)) ∧ Below w.heap.size w w' := by
  obtain ⟨bJ, oJ, SJ⟩ := Sp.old hr
  have hp := hj.p
  have hme := hj.me
  have hup := thin_up hj hbn
  have hp0 := hbn.p0
  have hp1 := hbn.p1
  have e0 : (thinJ j p0 p1 t r).p0 = p0 := rfl
  have e1 : (thinJ j p0 p1 t r).p1 = p1 := rfl
  have hsu : (stopsP j (winS j).1 (winS j).2 (n + 1) p0 p1 t r) = (hasB (winS j).1 (winS j).2 p0 p1 || ((okT j (t + 1) r && (readsP j (winS j).1 (winS j).2 n (p0 + j.u0) (p1 + j.u1) (t + 1) r)) || (okT j t (r + 1) && (readsP j (winS j).1 (winS j).2 n (p0 - j.d1) (p1 - j.d0) t (r + 1))))) := rfl
  refine px_enter noEx Try.func114 rfl 26 rfl [.agg #[.int .i64 j.p0, .int .i64 j.p1, .int .i64 j.t0, .int .i64 j.t1, .int .i64 j.r0, .int .i64 j.r1, .int .i64 j.u0, .int .i64 j.u1, .int .i64 j.d0, .int .i64 j.d1, .int .i64 j.a0, .int .i64 j.a1, .int .i64 j.b0, .int .i64 j.b1, .int .i64 j.le, .slice A j.sh.length c, .int .i64 j.wi, .int .i64 j.me], .agg #[.int .i64 ((thinJ j p0 p1 t r).p0), .int .i64 ((thinJ j p0 p1 t r).p1), .int .i64 ((thinJ j p0 p1 t r).t0), .int .i64 ((thinJ j p0 p1 t r).t1), .int .i64 ((thinJ j p0 p1 t r).r0), .int .i64 ((thinJ j p0 p1 t r).r1)], .int .i64 ((n + 1 : Nat) : Int)] rfl rfl (Mem.init w _) ?_
  intro ac wc T M
  refine wp_seq ?_
  refine wp_region_lit ?_
  refine l_w rfl ?_; intro K hK
  refine ow_bx M T rfl rfl rfl rfl (T.ev 0 rfl) rfl ?_; clear M T; intro g1 wc ac M T
  refine sh_out hK _ _ ?_; clear hK K
  refine l_w rfl ?_; intro K hK
  refine ow_bx M T rfl rfl rfl rfl (T.ev 2 rfl) rfl ?_; clear M T; intro g2 wc ac M T
  refine sh_out hK _ _ ?_; clear hK K
  refine l_q T rfl rfl rfl rfl (rn_assign rfl evc) ?_; clear T ac; intro ac T
  refine wpList_nil ?_
  replace T := T.pick [1, 2, 5] rfl
  refine nm_then ?_
  refine wp_seq ?_
  refine wp_seq ?_
  refine g_start2 M (M.mask [true, true] rfl) 5 (by kernel_rfl) rfl (by kernel_rfl) ?_
  clear M; intro wc M
  refine g_q (v := (.pointer (some ⟨g2, 0, none⟩))) (T := T) (i := 0) rfl (by kernel_rfl) (by kernel_rfl : (pbits 5 0).setIfInBounds 0 true = pbits 5 1) si_U (fun _ _ _ h => h) rfl rfl rfl rfl (fun _ _ _ _ _ => (rn_fieldAddr (off := 0) rfl (T.ev 0 rfl) (fun _ _ _ => by kernel_rfl))) ?_; clear T ac; intro ac T
  refine g_q (T := T) (i := 1) rfl (by kernel_rfl) (by kernel_rfl : (pbits 5 1).setIfInBounds 1 true = pbits 5 3) si_U (fun _ _ _ h => h) rfl rfl rfl rfl (fun B w' hD hl hS => (rn_rowO (Mem.nth (show Mem w noEx w' _ from hS) 0 rfl) rfl (T.ev 0 rfl) rfl)) ?_; clear T ac; intro ac T
  refine g_q (T := T) (i := 2) rfl (by kernel_rfl) (by kernel_rfl : (pbits 5 3).setIfInBounds 2 true = pbits 5 7) si_U (fun _ _ _ h => h) rfl rfl rfl rfl (fun B w' hD hl hS => (rn_rowO (Mem.nth (show Mem w noEx w' _ from hS) 1 rfl) rfl (T.ev 3 rfl) rfl)) ?_; clear T ac; intro ac T
  refine g_w (i := 3) (by kernel_rfl) rfl (by kernel_rfl : (pbits 5 7).setIfInBounds 3 true = pbits 5 15) rfl ?_; intro K hK
  refine ow_call (first := []) (cap := []) T rfl rfl rfl rfl evf (.cons (T.ev 0 rfl) .nil) Try.func80 rfl rfl ?_
  refine Calls.mono (rwindow_any j _ _ _ hj (SJ.rd M (List.nil_sublist _))) ?_
  clear T
  rintro e wc ⟨rfl, hb⟩
  intro ac T
  replace M := M.call hb; clear hb
  refine sh_out hK _ _ (M.mask [true, true] rfl) ?_; clear hK K
  refine g_w (i := 4) (by kernel_rfl) rfl (by kernel_rfl : (pbits 5 15).setIfInBounds 4 true = pbits 5 31) rfl ?_; intro K hK
  refine ow_call (first := []) (cap := []) T rfl rfl rfl rfl evf (.cons (T.ev 2 rfl) (.cons (T.ev 0 rfl) .nil)) Try.func79 rfl rfl ?_
  refine Calls.mono (inside_any (thinJ j p0 p1 t r).p0 (thinJ j p0 p1 t r).p1 (rwin j).1 (rwin j).2 _) ?_
  clear T
  rintro e wc ⟨rfl, hb⟩
  intro ac T
  replace M := M.call hb; clear hb
  refine sh_out hK _ _ (M.mask [true, true] rfl) ?_; clear hK K
  refine g_done (by kernel_rfl) ?_
  replace T := T.pick [0, 5, 6, 7] rfl
  refine nm_then ?_
  refine wp_cond_split (T.ev 0 rfl) ?_ ?_
  · intro h1
    refine wp_seq ?_
    refine wp_region_lit ?_
    refine l_q T rfl rfl rfl rfl (rn_assign rfl evc) ?_; clear T ac; intro ac T
    refine wpList_nil ?_
    replace T := T.pick [0] rfl
    replace M := M.mask [false, false] rfl
    refine nm_then ?_
    refine wp_ret ?_
    refine rt_then ?_
    refine rt_1 T rfl (T.ev 0 rfl) ?_
    refine ⟨ret_bool ?_, M.below⟩
    rw [hsu]
    rw [rwin_eq] at h1
    rw [show hasB (winS j).1 (winS j).2 p0 p1 = _ from h1]
    simp_all
  · intro h1
    refine wp_skip ?_
    refine nm_then ?_
    refine wp_seq ?_
    refine wp_seq ?_
    refine wp_region_lit ?_
    refine l_q T rfl rfl rfl rfl (rn_assign rfl evc) ?_; clear T ac; intro ac T
    refine wpList_nil ?_
    replace T := T.pick [0, 2, 3, 4] rfl
    refine nm_then ?_
    refine wp_block ?_
    refine wp_loop_rounds 3 ?_
    refine rounds_S ?_
    refine wp_seq ?_
    refine wp_seq ?_
    refine wp_region_lit ?_
    refine l_q T rfl rfl rfl rfl (rn_move rfl (T.ev 0 rfl)) ?_; clear T ac; intro ac T
    refine l_q (v := (.bool true)) T rfl rfl rfl rfl (rn_neqof (rn_leq rfl (T.ev 0 rfl) evc) (by simp)) ?_; clear T ac; intro ac T
    refine l_q T rfl rfl rfl rfl (rn_move rfl (T.ev 0 rfl)) ?_; clear T ac; intro ac T
    refine l_q T (wanted_yes rfl rfl (T.ev 0 rfl) rfl) rfl rfl rfl (rn_move rfl (T.ev 6 rfl)) ?_; clear T ac; intro ac T
    refine l_q T (wanted_yes rfl rfl (T.ev 1 rfl) rfl) rfl rfl rfl (rn_gtr rfl (T.ev 0 rfl) evc) ?_; clear T ac; intro ac T
    refine l_q T rfl rfl rfl rfl (rn_pick1 rfl (T.ev 2 rfl) rfl (T.ev 0 rfl)) ?_; clear T ac; intro ac T
    refine wpList_nil ?_
    replace T := T.pick [0, 1, 2, 6, 7, 8, 9] rfl
    refine nm_then ?_
    refine wp_if (T.ev 0 rfl) ?_ ?_
    · intro h2
      refine wp_skip ?_
      refine nm_then ?_
      refine wp_seq ?_
      refine wp_block ?_
      refine wp_seq ?_
      refine wp_region_lit ?_
      refine l_q T rfl rfl rfl rfl (rn_rowO (Mem.nth M 1 rfl) rfl (T.ev 5 rfl) rfl) ?_; clear T ac; intro ac T
      refine l_q T rfl rfl rfl rfl (rn_rowO (Mem.nth M 0 rfl) rfl (T.ev 5 rfl) rfl) ?_; clear T ac; intro ac T
      refine l_q T rfl rfl rfl rfl (rn_move rfl (T.ev 5 rfl)) ?_; clear T ac; intro ac T
      refine l_q T rfl rfl rfl rfl (rn_move rfl (T.ev 9 rfl)) ?_; clear T ac; intro ac T
      refine l_w rfl ?_; intro K hK
      refine ow_call (first := []) (cap := []) T rfl rfl rfl rfl evf (.cons (T.ev 3 rfl) (.cons (T.ev 2 rfl) (.cons (T.ev 1 rfl) (.cons (T.ev 0 rfl) .nil)))) Try.func81 rfl rfl ?_
      refine Calls.mono (makes_1 j _ _ n p0 p1 t r _ hj hbn (SJ.rd M (List.nil_sublist _)) hrd) ?_
      clear T
      rintro e wc ⟨rfl, hb⟩
      intro ac T
      replace M := M.call hb; clear hb
      refine sh_out hK _ _ ?_; clear hK K
      refine wpList_nil ?_
      replace T := T.pick [0, 6, 7, 8, 9, 10, 11] rfl
      refine nm_then ?_
      refine wp_cond_split (T.ev 0 rfl) ?_ ?_
      · intro h3
        refine wp_seq ?_
        refine wp_region_lit ?_
        refine l_q T rfl rfl rfl rfl (rn_assign rfl evc) ?_; clear T ac; intro ac T
        refine wpList_nil ?_
        replace T := T.pick [0] rfl
        replace M := M.mask [false, false] rfl
        refine nm_then ?_
        refine wp_ret ?_
        refine rt_blk ?_
        refine rt_then ?_
        refine rt_then ?_
        refine rt_blk ?_
        refine rt_then ?_
        refine rt_1 T rfl (T.ev 0 rfl) ?_
        refine ⟨ret_bool ?_, M.below⟩
        rw [hsu]
        rw [rwin_eq] at h1
        rw [show hasB (winS j).1 (winS j).2 p0 p1 = _ from h1]
        simp_all
      · intro h3
        refine wp_skip ?_
        refine nm_blk ?_
        refine nm_then ?_
        refine wp_region_lit ?_
        refine l_q T rfl rfl rfl rfl (rn_move rfl (T.ev 3 rfl)) ?_; clear T ac; intro ac T
        refine l_q (v := (.int .i64 2)) T rfl rfl rfl rfl (rn_ofI (rn_add rfl (T.ev 0 rfl) evc (by omega)) (by rfl)) ?_; clear T ac; intro ac T
        refine l_q (v := (.int .i64 2)) (T.pick [0, 1, 2, 3, 4, 6, 7, 8] rfl) rfl rfl rfl rfl (rn_assign rfl (T.ev 0 rfl)) ?_; clear T ac; intro ac T
        refine wpList_nil ?_
        replace T := T.pick [0, 4, 5, 6, 7, 8] rfl
        refine nm_then ?_
        refine rounds_S ?_
        refine wp_seq ?_
        refine wp_seq ?_
        refine wp_region_lit ?_
        refine l_q T rfl rfl rfl rfl (rn_move rfl (T.ev 0 rfl)) ?_; clear T ac; intro ac T
        refine l_q (v := (.bool true)) T rfl rfl rfl rfl (rn_neqof (rn_leq rfl (T.ev 0 rfl) evc) (by simp)) ?_; clear T ac; intro ac T
        refine l_q T rfl rfl rfl rfl (rn_move rfl (T.ev 0 rfl)) ?_; clear T ac; intro ac T
        refine l_q (v := (.int .i64 ((n + 1 : Nat) : Int))) (T.pick [0, 1, 2, 3, 4, 6, 7, 8] rfl) (wanted_yes rfl rfl (T.ev 0 rfl) rfl) rfl rfl rfl (rn_move rfl (T.ev 8 rfl)) ?_; clear T ac; intro ac T
        refine l_q (v := (.bool (decide (0 < ((n + 1 : Nat) : Int))))) (T.pick [0, 1, 2, 3, 4, 6, 7, 8] rfl) (wanted_yes rfl rfl (T.ev 1 rfl) rfl) rfl rfl rfl (rn_gtr rfl (T.ev 0 rfl) evc) ?_; clear T ac; intro ac T
        refine l_q T rfl rfl rfl rfl (rn_pick1 rfl (T.ev 2 rfl) rfl (T.ev 0 rfl)) ?_; clear T ac; intro ac T
        refine wpList_nil ?_
        replace T := T.pick [0, 1, 2, 6, 7, 8, 9] rfl
        refine nm_then ?_
        refine wp_cond_true ((T.ev 0 rfl).trans (congrArg Value.bool (decide_eq_true h2))) ?_
        refine wp_skip ?_
        refine nm_then ?_
        refine wp_seq ?_
        refine wp_block ?_
        refine wp_seq ?_
        refine wp_region_lit ?_
        refine l_q T rfl rfl rfl rfl (rn_rowO (Mem.nth M 1 rfl) rfl (T.ev 5 rfl) rfl) ?_; clear T ac; intro ac T
        refine l_q T rfl rfl rfl rfl (rn_rowO (Mem.nth M 0 rfl) rfl (T.ev 5 rfl) rfl) ?_; clear T ac; intro ac T
        refine l_q T rfl rfl rfl rfl (rn_move rfl (T.ev 5 rfl)) ?_; clear T ac; intro ac T
        refine l_q T rfl rfl rfl rfl (rn_move rfl (T.ev 9 rfl)) ?_; clear T ac; intro ac T
        refine l_w rfl ?_; intro K hK
        refine ow_call (first := []) (cap := []) T rfl rfl rfl rfl evf (.cons (T.ev 3 rfl) (.cons (T.ev 2 rfl) (.cons (T.ev 1 rfl) (.cons (T.ev 0 rfl) .nil)))) Try.func81 rfl rfl ?_
        refine Calls.mono (makes_2 j _ _ n p0 p1 t r _ hj hbn (SJ.rd M (List.nil_sublist _)) hrd) ?_
        clear T
        rintro e wc ⟨rfl, hb⟩
        intro ac T
        replace M := M.call hb; clear hb
        refine sh_out hK _ _ ?_; clear hK K
        refine wpList_nil ?_
        replace T := T.pick [0, 6, 7, 8, 9, 10, 11] rfl
        refine nm_then ?_
        refine wp_cond_split (T.ev 0 rfl) ?_ ?_
        · intro h4
          refine wp_seq ?_
          refine wp_region_lit ?_
          refine l_q T rfl rfl rfl rfl (rn_assign rfl evc) ?_; clear T ac; intro ac T
          refine wpList_nil ?_
          replace T := T.pick [0] rfl
          replace M := M.mask [false, false] rfl
          refine nm_then ?_
          refine wp_ret ?_
          refine rt_blk ?_
          refine rt_then ?_
          refine rt_then ?_
          refine rt_blk ?_
          refine rt_then ?_
          refine rt_1 T rfl (T.ev 0 rfl) ?_
          refine ⟨ret_bool ?_, M.below⟩
          rw [hsu]
          rw [rwin_eq] at h1
          rw [show hasB (winS j).1 (winS j).2 p0 p1 = _ from h1]
          simp_all
        · intro h4
          refine wp_skip ?_
          refine nm_blk ?_
          refine nm_then ?_
          refine wp_region_lit ?_
          refine l_q T rfl rfl rfl rfl (rn_move rfl (T.ev 3 rfl)) ?_; clear T ac; intro ac T
          refine l_q (v := (.int .i64 3)) T rfl rfl rfl rfl (rn_ofI (rn_add rfl (T.ev 0 rfl) evc (by omega)) (by rfl)) ?_; clear T ac; intro ac T
          refine l_q (v := (.int .i64 3)) (T.pick [0, 1, 2, 3, 4, 6, 7, 8] rfl) rfl rfl rfl rfl (rn_assign rfl (T.ev 0 rfl)) ?_; clear T ac; intro ac T
          refine wpList_nil ?_
          replace T := T.pick [0, 4, 5, 6, 7, 8] rfl
          refine nm_then ?_
          refine rounds_S ?_
          refine wp_seq ?_
          refine wp_seq ?_
          refine wp_region_lit ?_
          refine l_q T rfl rfl rfl rfl (rn_move rfl (T.ev 0 rfl)) ?_; clear T ac; intro ac T
          refine l_q (v := (.bool false)) T rfl rfl rfl rfl (rn_neqof (rn_leq rfl (T.ev 0 rfl) evc) (by simp)) ?_; clear T ac; intro ac T
          refine l_q T rfl rfl rfl rfl (rn_move rfl (T.ev 0 rfl)) ?_; clear T ac; intro ac T
          replace T := T.pick [0, 1, 2, 3, 4, 6, 7, 8] rfl
          refine l_pass T (wanted_no rfl rfl (T.ev 0 rfl) rfl) rfl rfl rfl ?_; clear T ac; intro ac T
          replace T := T.pick [0, 1, 2, 3, 4, 6, 7, 8] rfl
          refine l_pass T (wanted_no rfl rfl (T.ev 1 rfl) rfl) rfl rfl rfl ?_; clear T ac; intro ac T
          refine l_q T rfl rfl rfl rfl (rn_pick0 rfl (T.ev 2 rfl) rfl evc) ?_; clear T ac; intro ac T
          refine wpList_nil ?_
          replace T := T.pick [0, 1, 2, 6, 7, 8, 9] rfl
          refine nm_then ?_
          refine wp_cond_false (T.ev 0 rfl) ?_
          refine wp_exit ?_
          refine ex_then ?_
          refine ex_then ?_
          refine ex_hit ?_
          refine nm_then ?_
          refine wp_seq ?_
          refine wp_region_lit ?_
          refine l_q T rfl rfl rfl rfl (rn_assign rfl evc) ?_; clear T ac; intro ac T
          refine wpList_nil ?_
          replace T := T.pick [0] rfl
          replace M := M.mask [false, false] rfl
          refine nm_then ?_
          refine wp_ret ?_
          refine rt_1 T rfl (T.ev 0 rfl) ?_
          refine ⟨ret_bool ?_, M.below⟩
          rw [hsu]
          rw [rwin_eq] at h1
          rw [show hasB (winS j).1 (winS j).2 p0 p1 = _ from h1]
          simp_all
    · intro h2
      refine wp_exit ?_
      refine ex_then ?_
      refine ex_then ?_
      refine ex_hit ?_
      refine nm_then ?_
      refine wp_seq ?_
      refine wp_region_lit ?_
      refine l_q T rfl rfl rfl rfl (rn_assign rfl evc) ?_; clear T ac; intro ac T
      refine wpList_nil ?_
      replace T := T.pick [0] rfl
      replace M := M.mask [false, false] rfl
      refine nm_then ?_
      refine wp_ret ?_
      refine rt_1 T rfl (T.ev 0 rfl) ?_
      refine ⟨ret_bool ?_, M.below⟩
      rw [hsu]
      rw [rwin_eq] at h1
      rw [show hasB (winS j).1 (winS j).2 p0 p1 = _ from h1]
      simp_all

theorem knows_any {j : Jb} (hj : j.good) (A : Option Addr) (c : Nat) : ∀ n, KnC j A c n ∧ RdC j A c n
  | 0 => by
    have h : KnC j A c 0 := fun p0 p1 t r w hb hr => knows_0 j A c p0 p1 t r w hj hb hr
    exact ⟨h, fun p0 p1 t r w hb hr => reads_of j A c 0 p0 p1 t r w hj hb hr h⟩
  | n + 1 => by
    obtain ⟨_, h2⟩ := knows_any hj A c n
    have h : KnC j A c (n + 1) := fun p0 p1 t r w hb hr => knows_S j A c n p0 p1 t r w hj hb hr h2
    exact ⟨h, fun p0 p1 t r w hb hr => reads_of j A c (n + 1) p0 p1 t r w hj hb hr h⟩


end Go.Proofs.Ythlpceoajhcliaa

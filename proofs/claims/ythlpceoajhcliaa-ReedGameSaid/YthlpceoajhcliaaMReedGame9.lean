/-
  The law ReedGame, walked.
-/
import Derived.Test.YthlpceoajhcliaaMReedGame1
import Derived.Test.YthlpceoajhcliaaMReedGame2
import Derived.Test.YthlpceoajhcliaaMReedGame3
import Derived.Test.YthlpceoajhcliaaMReedGame4
import Derived.Test.YthlpceoajhcliaaMReedGame5
import Derived.Test.YthlpceoajhcliaaMReedGame6
import Derived.Test.YthlpceoajhcliaaMReedGame7
import Derived.Test.YthlpceoajhcliaaMReedGame8
namespace Go.Proofs.Ythlpceoajhcliaa
set_option linter.unusedSimpArgs false
set_option linter.unusedVariables false
open Go.RowKit

theorem okT_dec {j : Jb} (hj : j.good) {t r : Int} (ht : 0 ≤ t) (hr : 0 ≤ r) : okT j t r = (decide (j.le ≤ j.t0 - t * j.a1) && decide (j.le ≤ j.r0 - r * j.b1)) := by
  rw [Bool.eq_iff_iff, okT_iff hj ht hr, Bool.and_eq_true, decide_eq_true_eq, decide_eq_true_eq]
  rfl
def NeedPost (f : Nat → Bool) (n : Nat) (w : World) (e : Ending) (w' : World) : Prop := ∃ v : Int, e = .returned (.int .i64 v) ∧ Need f n v ∧ Below w.heap.size w w'
def NeedC (j : Jb) (A : Option Addr) (c : Nat) (x0 x1 : Int) (n : Nat) : Prop := ∀ (p0 p1 t r : Int) (w : World), p0 ≤ p1 → Bnd n p0 p1 t r →
  Calls Try.prog 35 #[jobV j A c, R2 x0 x1, R2 p0 p1, .int .i64 t, .int .i64 r, .int .i64 n] w (NeedPost (fun m => readsP j (winS j).1 (winS j).2 m p0 p1 t r) n w)


set_option maxRecDepth 100000 in
set_option maxHeartbeats 1000000 in
theorem needs_of (j : Jb) (A : Option Addr) (c : Nat) (x0 x1 : Int) (n : Nat) (p0 p1 t r : Int) (w : World) (hj : j.good) (hw : ∀ a b, a ≤ b → hasB x0 x1 a b = hasB (winS j).1 (winS j).2 a b) (hpp : p0 ≤ p1) (hbn : Bnd n p0 p1 t r) (ih : ∀ q, n = q + 1 → NeedC j A c x0 x1 q) :
    Calls Try.prog 35 #[jobV j A c, R2 x0 x1, R2 p0 p1, .int .i64 t, .int .i64 r, .int .i64 n] w (NeedPost (fun m => readsP j (winS j).1 (winS j).2 m p0 p1 t r) n w) := by
  obtain ⟨q, hq⟩ : ∃ q, q = n - 1 := ⟨_, rfl⟩
  obtain ⟨b0, b1, b2, b3, b4⟩ := hbn
  have hp := hj.p
  have hme := hj.me
  have hu := hj.u
  have hd := hj.d
  have ht := hj.t
  have hr := hj.r
  have hle := hj.le
  have hja := hj.a
  have hjb := hj.b
  have m1 := mul_bd (i := t + 1) (a := j.a1) (by omega) (by omega) (by omega) (by omega)
  have m2 := mul_bd (i := r) (a := j.b1) (by omega) (by omega) (by omega) (by omega)
  have m3 := mul_bd (i := t) (a := j.a1) (by omega) (by omega) (by omega) (by omega)
  have m4 := mul_bd (i := r + 1) (a := j.b1) (by omega) (by omega) (by omega) (by omega)
  have hNr : rdN p0 p1 j.me = (p1 + j.me - (p0 - j.me) + 1).toNat := rfl
  refine px_enter noEx Try.func35 rfl 179 rfl [.agg #[.int .i64 j.p0, .int .i64 j.p1, .int .i64 j.t0, .int .i64 j.t1, .int .i64 j.r0, .int .i64 j.r1, .int .i64 j.u0, .int .i64 j.u1, .int .i64 j.d0, .int .i64 j.d1, .int .i64 j.a0, .int .i64 j.a1, .int .i64 j.b0, .int .i64 j.b1, .int .i64 j.le, .slice A j.sh.length c, .int .i64 j.wi, .int .i64 j.me], .agg #[.int .i64 x0, .int .i64 x1], .agg #[.int .i64 p0, .int .i64 p1], .int .i64 t, .int .i64 r, .int .i64 (n : Int)] rfl rfl (Mem.init w _) ?_
  intro ac wc T M
  refine wp_seq ?_
  refine wp_region_lit ?_
  refine l_w rfl ?_; intro K hK
  refine ow_bx M T rfl rfl rfl rfl (T.ev 0 rfl) rfl ?_; clear M T; intro g1 wc ac M T
  refine sh_out hK _ _ ?_; clear hK K
  refine l_w rfl ?_; intro K hK
  refine ow_bx M T rfl rfl rfl rfl (T.ev 2 rfl) rfl ?_; clear M T; intro g2 wc ac M T
  refine sh_out hK _ _ ?_; clear hK K
  refine l_w rfl ?_; intro K hK
  refine ow_bx M T rfl rfl rfl rfl (T.ev 4 rfl) rfl ?_; clear M T; intro g3 wc ac M T
  refine sh_out hK _ _ ?_; clear hK K
  refine l_q T rfl rfl rfl rfl (rn_assign rfl evc) ?_; clear T ac; intro ac T
  refine wpList_nil ?_
  replace T := T.pick [1, 2, 3, 7, 8, 9] rfl
  refine nm_then ?_
  refine wp_seq ?_
  refine wp_region_lit ?_
  refine l_q T rfl rfl rfl rfl (rn_assign rfl evc) ?_; clear T ac; intro ac T
  refine wpList_nil ?_
  refine nm_then ?_
  refine wp_seq ?_
  refine wp_seq ?_
  refine wp_region_lit ?_
  refine l_q (v := (.pointer (some ⟨g3, 0, none⟩))) T rfl rfl rfl rfl (rn_fieldAddr (off := 0) rfl (T.ev 1 rfl) (fun _ _ _ => by kernel_rfl)) ?_; clear T ac; intro ac T
  refine l_q T rfl rfl rfl rfl (rn_one (Mem.nth M 0 rfl) rfl (T.ev 0 rfl) rfl) ?_; clear T ac; intro ac T
  refine l_q (v := (.pointer (some ⟨g1, 17, none⟩))) T rfl rfl rfl rfl (rn_fieldAddr (off := 17) rfl (T.ev 5 rfl) (fun _ _ _ => by kernel_rfl)) ?_; clear T ac; intro ac T
  refine l_q T rfl rfl rfl rfl (rn_one (Mem.nth M 2 rfl) rfl (T.ev 0 rfl) rfl) ?_; clear T ac; intro ac T
  refine l_q T rfl rfl rfl rfl (rn_sub rfl (T.ev 2 rfl) (T.ev 0 rfl) (by omega)) ?_; clear T ac; intro ac T
  refine l_q T rfl rfl rfl rfl (rn_assign rfl (T.ev 0 rfl)) ?_; clear T ac; intro ac T
  refine wpList_nil ?_
  replace T := T.pick [0, 6, 7, 8, 9, 10, 11, 12] rfl
  refine nm_then ?_
  refine wp_block ?_
  refine wp_loop_n (fun mz ac wc => ∃ (k : Nat) (R V : Int), mz = rdN p0 p1 j.me - k ∧ (R = p0 - j.me + (k : Int)) ∧ (k ≤ rdN p0 p1 j.me) ∧ (Need (readsK j (winS j).1 (winS j).2 p0 p1 t r k) n V) ∧ (0 ≤ V ∧ V ≤ (n : Int)) ∧ Tm ac 179 [(3, .int .i64 t), (4, .int .i64 r), (5, .int .i64 (n : Int)), (6, .pointer (some ⟨g1, 0, none⟩)), (7, .pointer (some ⟨g2, 0, none⟩)), (8, .pointer (some ⟨g3, 0, none⟩)), (13, .int .i64 V), (14, .int .i64 R)] ∧ Mem w noEx wc [(g3, .cells [.int .i64 p0, .int .i64 p1]), (g2, .cells [.int .i64 x0, .int .i64 x1]), (g1, .cells (jobL j A c))]) ?_ ?_
  ·exact ⟨_, 0, _, 0, rfl, (by omega), (by omega), ((Need.zero n).congr (fun m => rfl)), (by omega), T.pick [5, 6, 7, 4, 3, 2, 1, 0] rfl, M.mask [true, true, true] rfl⟩
  ·clear T M
   rintro mz ac wc ⟨k, R, V, hmm1, hR, hkN, hN, hV, T, M⟩
   refine wp_seq ?_
   refine wp_seq ?_
   refine wp_region_lit ?_
   refine l_q T rfl rfl rfl rfl (rn_move rfl (T.ev 7 rfl)) ?_; clear T ac; intro ac T
   refine l_q (v := (.pointer (some ⟨g3, 1, none⟩))) T rfl rfl rfl rfl (rn_fieldAddr (off := 1) rfl (T.ev 6 rfl) (fun _ _ _ => by kernel_rfl)) ?_; clear T ac; intro ac T
   refine l_q T rfl rfl rfl rfl (rn_one (Mem.nth M 0 rfl) rfl (T.ev 0 rfl) rfl) ?_; clear T ac; intro ac T
   refine l_q (v := (.pointer (some ⟨g1, 17, none⟩))) T rfl rfl rfl rfl (rn_fieldAddr (off := 17) rfl (T.ev 6 rfl) (fun _ _ _ => by kernel_rfl)) ?_; clear T ac; intro ac T
   refine l_q T rfl rfl rfl rfl (rn_one (Mem.nth M 2 rfl) rfl (T.ev 0 rfl) rfl) ?_; clear T ac; intro ac T
   refine l_q T rfl rfl rfl rfl (rn_add rfl (T.ev 2 rfl) (T.ev 0 rfl) (by omega)) ?_; clear T ac; intro ac T
   refine l_q T rfl rfl rfl rfl (rn_leq rfl (T.ev 5 rfl) (T.ev 0 rfl)) ?_; clear T ac; intro ac T
   refine wpList_nil ?_
   replace T := T.pick [0, 7, 8, 9, 10, 11, 12, 13, 14] rfl
   refine nm_then ?_
   refine wp_if (T.ev 0 rfl) ?_ ?_
   ·intro h1
    have e8 := heard_rdg p0 p1 j.me R k hR
    have e1 : (rdg p0 p1 j.me k).1 = (max p0 (R - j.me)) := by rw [← e8]; rfl
    have e2 : (rdg p0 p1 j.me k).2 = (min p1 (R + j.me)) := by rw [← e8]; rfl
    refine wp_skip ?_
    refine nm_then ?_
    refine wp_seq ?_
    refine wp_block ?_
    refine wp_seq ?_
    refine wp_region_lit ?_
    refine l_q (v := (.pointer (some ⟨g3, 0, none⟩))) T rfl rfl rfl rfl (rn_fieldAddr (off := 0) rfl (T.ev 6 rfl) (fun _ _ _ => by kernel_rfl)) ?_; clear T ac; intro ac T
    refine l_q T rfl rfl rfl rfl (rn_one (Mem.nth M 0 rfl) rfl (T.ev 0 rfl) rfl) ?_; clear T ac; intro ac T
    refine l_q T rfl rfl rfl rfl (rn_move rfl (T.ev 10 rfl)) ?_; clear T ac; intro ac T
    refine l_q (v := (.pointer (some ⟨g1, 17, none⟩))) T rfl rfl rfl rfl (rn_fieldAddr (off := 17) rfl (T.ev 7 rfl) (fun _ _ _ => by kernel_rfl)) ?_; clear T ac; intro ac T
    refine l_q T rfl rfl rfl rfl (rn_one (Mem.nth M 2 rfl) rfl (T.ev 0 rfl) rfl) ?_; clear T ac; intro ac T
    refine l_q T rfl rfl rfl rfl (rn_sub rfl (T.ev 2 rfl) (T.ev 0 rfl) (by omega)) ?_; clear T ac; intro ac T
    refine l_q T rfl rfl rfl rfl (rn_max2 rfl (T.ev 4 rfl) (T.ev 0 rfl)) ?_; clear T ac; intro ac T
    refine l_q (v := (.pointer (some ⟨g3, 1, none⟩))) T rfl rfl rfl rfl (rn_fieldAddr (off := 1) rfl (T.ev 13 rfl) (fun _ _ _ => by kernel_rfl)) ?_; clear T ac; intro ac T
    refine l_q T rfl rfl rfl rfl (rn_one (Mem.nth M 0 rfl) rfl (T.ev 0 rfl) rfl) ?_; clear T ac; intro ac T
    refine l_q T rfl rfl rfl rfl (rn_move rfl (T.ev 17 rfl)) ?_; clear T ac; intro ac T
    refine l_q (v := (.pointer (some ⟨g1, 17, none⟩))) T rfl rfl rfl rfl (rn_fieldAddr (off := 17) rfl (T.ev 14 rfl) (fun _ _ _ => by kernel_rfl)) ?_; clear T ac; intro ac T
    refine l_q T rfl rfl rfl rfl (rn_one (Mem.nth M 2 rfl) rfl (T.ev 0 rfl) rfl) ?_; clear T ac; intro ac T
    refine l_q T rfl rfl rfl rfl (rn_add rfl (T.ev 2 rfl) (T.ev 0 rfl) (by omega)) ?_; clear T ac; intro ac T
    refine l_q T rfl rfl rfl rfl (rn_min2 rfl (T.ev 4 rfl) (T.ev 0 rfl)) ?_; clear T ac; intro ac T
    refine l_w rfl ?_; intro K hK
    refine ow_call (first := []) (cap := []) T rfl rfl rfl rfl evf (.cons (T.ev 7 rfl) (.cons (T.ev 0 rfl) .nil)) Try.func31 rfl rfl ?_
    refine Calls.mono (to_any (max p0 (R - j.me)) (min p1 (R + j.me)) _) ?_
    clear T
    rintro e wc ⟨rfl, hb⟩
    intro ac T
    replace M := M.call hb; clear hb
    refine sh_out hK _ _ ?_; clear hK K
    refine l_w rfl ?_; intro K hK
    refine ow_al M T rfl rfl rfl rfl ?_; clear M T; intro g4 wc ac M T
    refine sh_out hK _ _ ?_; clear hK K
    refine l_w rfl ?_; intro K hK
    refine ow_stO M T rfl rfl (T.ev 0 rfl) (T.ev 1 rfl) rfl .head rfl (by simp) rfl (by kernel_rfl) ?_; clear M T; intro wc ac M T
    refine sh_out hK _ _ ?_; clear hK K
    refine wpList_nil ?_
    replace T := T.pick [0, 17, 18, 19, 20, 21, 22, 23, 24] rfl
    refine nm_then ?_
    refine wp_seq ?_
    refine wp_seq ?_
    refine wp_region_lit ?_
    refine l_q T rfl rfl rfl rfl (rn_rowO (Mem.nth M 2 rfl) rfl (T.ev 5 rfl) rfl) ?_; clear T ac; intro ac T
    refine l_q T rfl rfl rfl rfl (rn_rowO (Mem.nth M 0 rfl) rfl (T.ev 1 rfl) rfl) ?_; clear T ac; intro ac T
    refine l_w rfl ?_; intro K hK
    refine ow_call (first := []) (cap := []) T rfl rfl rfl rfl evf (.cons (T.ev 1 rfl) (.cons (T.ev 0 rfl) .nil)) Try.func40 rfl rfl ?_
    refine Calls.mono (wider_any x0 x1 (max p0 (R - j.me)) (min p1 (R + j.me)) _) ?_
    clear T
    rintro e wc ⟨rfl, hb⟩
    intro ac T
    replace M := M.call hb; clear hb
    refine sh_out hK _ _ ?_; clear hK K
    refine wpList_nil ?_
    replace T := T.pick [0, 3, 4, 5, 6, 7, 8, 9, 10, 11] rfl
    refine nm_then ?_
    refine wp_cond_split (T.ev 0 rfl) ?_ ?_
    ·intro h2
     refine wp_exit ?_
     refine ex_then ?_
     refine ex_hit ?_
     refine nm_then ?_
     refine wp_region_lit ?_
     refine l_q T rfl rfl rfl rfl (rn_move rfl (T.ev 9 rfl)) ?_; clear T ac; intro ac T
     refine l_q T rfl rfl rfl rfl (rn_add rfl (T.ev 0 rfl) evc (by omega)) ?_; clear T ac; intro ac T
     refine l_q (v := (.int .i64 (R + 1))) (T.pick [0, 1, 2, 3, 4, 5, 6, 7, 8, 9, 10] rfl) rfl rfl rfl rfl (rn_assign rfl (T.ev 0 rfl)) ?_; clear T ac; intro ac T
     refine wpList_nil ?_
     replace T := T.pick [0, 5, 6, 7, 8, 9, 10, 11] rfl
     replace M := M.mask [false, true, true, true] rfl
     refine nm_then ?_
     have hhb : hasB (winS j).1 (winS j).2 (max p0 (R - j.me)) (min p1 (R + j.me)) = true := (hw (max p0 (R - j.me)) (min p1 (R + j.me)) (by omega)).symm.trans h2
     have hN9 : Need (readsK j (winS j).1 (winS j).2 p0 p1 t r (k + 1)) n V := hN.congr (fun m => by rw [readsK_succ, e1, e2, stops_in hhb, Bool.and_true])
     exact ⟨_, by omega, k + 1, _, V, rfl, (by omega), (by omega), hN9, (by omega), T.pick [1, 2, 3, 4, 5, 6, 7, 0] rfl, M.mask [true, true, true] rfl⟩
    ·intro h2
     refine wp_skip ?_
     refine nm_then ?_
     refine wp_seq ?_
     refine wp_region_lit ?_
     refine l_q T rfl rfl rfl rfl (rn_move rfl (T.ev 4 rfl)) ?_; clear T ac; intro ac T
     refine l_q T rfl rfl rfl rfl (rn_add rfl (T.ev 0 rfl) evc (by omega)) ?_; clear T ac; intro ac T
     refine l_q T rfl rfl rfl rfl (rn_assign rfl (T.ev 0 rfl)) ?_; clear T ac; intro ac T
     refine wpList_nil ?_
     replace T := T.pick [0, 4, 5, 6, 7, 8, 9, 10, 11, 12] rfl
     refine nm_then ?_
     refine wp_seq ?_
     refine wp_seq ?_
     refine wp_region_lit ?_
     refine l_q T rfl rfl rfl rfl (rn_move rfl (T.ev 4 rfl)) ?_; clear T ac; intro ac T
     refine l_q T rfl rfl rfl rfl (rn_gtr rfl (T.ev 0 rfl) evc) ?_; clear T ac; intro ac T
     refine wpList_nil ?_
     replace T := T.pick [0, 2, 3, 4, 5, 6, 7, 8, 9, 10, 11] rfl
     refine nm_then ?_
     refine wp_if (T.ev 0 rfl) ?_ ?_
     ·intro h3
      refine wp_seq ?_
      refine cut_seq (fun ac wc => Tm ac 179 [(3, .int .i64 t), (4, .int .i64 r), (5, .int .i64 (n : Int)), (6, .pointer (some ⟨g1, 0, none⟩)), (7, .pointer (some ⟨g2, 0, none⟩)), (8, .pointer (some ⟨g3, 0, none⟩)), (13, .int .i64 V), (14, .int .i64 R), (15, .pointer (some ⟨g4, 0, none⟩)), (16, .int .i64 ((n : Int) + 1)), (85, .bool ((decide (j.le ≤ (j.t0 - ((t + 1) * j.a1)))) && (decide (j.le ≤ (j.r0 - (r * j.b1))))))] ∧ Mem w noEx wc [(g4, .cells [.int .i64 (max p0 (R - j.me)), .int .i64 (min p1 (R + j.me))]), (g3, .cells [.int .i64 p0, .int .i64 p1]), (g2, .cells [.int .i64 x0, .int .i64 x1]), (g1, .cells (jobL j A c))]) ?_ ?_
      ·refine wp_region_lit ?_
       refine l_q (v := (.pointer (some ⟨g1, 0, none⟩))) T rfl rfl rfl rfl (rn_fieldAddr (off := 0) rfl (T.ev 6 rfl) (fun _ _ _ => by kernel_rfl)) ?_; clear T ac; intro ac T
       refine l_q (v := (.pointer (some ⟨g1, 2, none⟩))) T rfl rfl rfl rfl (rn_fieldAddr (off := 2) rfl (T.ev 0 rfl) (fun _ _ _ => by kernel_rfl)) ?_; clear T ac; intro ac T
       refine l_q (v := (.pointer (some ⟨g1, 2, none⟩))) T rfl rfl rfl rfl (rn_fieldAddr (off := 0) rfl (T.ev 0 rfl) (fun _ _ _ => by kernel_rfl)) ?_; clear T ac; intro ac T
       refine l_q T rfl rfl rfl rfl (rn_one (Mem.nth M 3 rfl) rfl (T.ev 0 rfl) rfl) ?_; clear T ac; intro ac T
       refine l_q T rfl rfl rfl rfl (rn_move rfl (T.ev 7 rfl)) ?_; clear T ac; intro ac T
       refine l_q T rfl rfl rfl rfl (rn_add rfl (T.ev 0 rfl) evc (by omega)) ?_; clear T ac; intro ac T
       refine l_q (v := (.pointer (some ⟨g1, 6, none⟩))) T rfl rfl rfl rfl (rn_fieldAddr (off := 6) rfl (T.ev 12 rfl) (fun _ _ _ => by kernel_rfl)) ?_; clear T ac; intro ac T
       refine l_q (v := (.pointer (some ⟨g1, 10, none⟩))) T rfl rfl rfl rfl (rn_fieldAddr (off := 4) rfl (T.ev 0 rfl) (fun _ _ _ => by kernel_rfl)) ?_; clear T ac; intro ac T
       refine l_q (v := (.pointer (some ⟨g1, 11, none⟩))) T rfl rfl rfl rfl (rn_fieldAddr (off := 1) rfl (T.ev 0 rfl) (fun _ _ _ => by kernel_rfl)) ?_; clear T ac; intro ac T
       refine l_q T rfl rfl rfl rfl (rn_one (Mem.nth M 3 rfl) rfl (T.ev 0 rfl) rfl) ?_; clear T ac; intro ac T
       refine l_q T rfl rfl rfl rfl (rn_mul rfl (T.ev 4 rfl) (T.ev 0 rfl) (by omega)) ?_; clear T ac; intro ac T
       refine l_q T rfl rfl rfl rfl (rn_sub rfl (T.ev 7 rfl) (T.ev 0 rfl) (by omega)) ?_; clear T ac; intro ac T
       refine l_q (v := (.pointer (some ⟨g1, 6, none⟩))) T rfl rfl rfl rfl (rn_fieldAddr (off := 6) rfl (T.ev 18 rfl) (fun _ _ _ => by kernel_rfl)) ?_; clear T ac; intro ac T
       refine l_q (v := (.pointer (some ⟨g1, 14, none⟩))) T rfl rfl rfl rfl (rn_fieldAddr (off := 8) rfl (T.ev 0 rfl) (fun _ _ _ => by kernel_rfl)) ?_; clear T ac; intro ac T
       refine l_q T rfl rfl rfl rfl (rn_one (Mem.nth M 3 rfl) rfl (T.ev 0 rfl) rfl) ?_; clear T ac; intro ac T
       refine l_q T rfl rfl rfl rfl (rn_geq rfl (T.ev 3 rfl) (T.ev 0 rfl)) ?_; clear T ac; intro ac T
       refine l_q T rfl rfl rfl rfl (rn_move rfl (T.ev 0 rfl)) ?_; clear T ac; intro ac T
       rcases Bool.eq_false_or_eq_true (decide (j.le ≤ (j.t0 - ((t + 1) * j.a1)))) with h4 | h4
       ·replace h4 := of_decide_eq_true h4
        refine l_q (v := (.pointer (some ⟨g1, 0, none⟩))) T (wanted_yes rfl rfl (T.ev 0 rfl) (decide_eq_true h4)) rfl rfl rfl (rn_fieldAddr (off := 0) rfl (T.ev 23 rfl) (fun _ _ _ => by kernel_rfl)) ?_; clear T ac; intro ac T
        refine l_q (v := (.pointer (some ⟨g1, 4, none⟩))) T (wanted_yes rfl rfl (T.ev 1 rfl) (decide_eq_true h4)) rfl rfl rfl (rn_fieldAddr (off := 4) rfl (T.ev 0 rfl) (fun _ _ _ => by kernel_rfl)) ?_; clear T ac; intro ac T
        refine l_q (v := (.pointer (some ⟨g1, 4, none⟩))) T (wanted_yes rfl rfl (T.ev 2 rfl) (decide_eq_true h4)) rfl rfl rfl (rn_fieldAddr (off := 0) rfl (T.ev 0 rfl) (fun _ _ _ => by kernel_rfl)) ?_; clear T ac; intro ac T
        refine l_q T (wanted_yes rfl rfl (T.ev 3 rfl) (decide_eq_true h4)) rfl rfl rfl (rn_one (Mem.nth M 3 rfl) rfl (T.ev 0 rfl) rfl) ?_; clear T ac; intro ac T
        refine l_q T (wanted_yes rfl rfl (T.ev 4 rfl) (decide_eq_true h4)) rfl rfl rfl (rn_move rfl (T.ev 25 rfl)) ?_; clear T ac; intro ac T
        refine l_q (v := (.pointer (some ⟨g1, 6, none⟩))) T (wanted_yes rfl rfl (T.ev 5 rfl) (decide_eq_true h4)) rfl rfl rfl (rn_fieldAddr (off := 6) rfl (T.ev 28 rfl) (fun _ _ _ => by kernel_rfl)) ?_; clear T ac; intro ac T
        refine l_q (v := (.pointer (some ⟨g1, 12, none⟩))) T (wanted_yes rfl rfl (T.ev 6 rfl) (decide_eq_true h4)) rfl rfl rfl (rn_fieldAddr (off := 6) rfl (T.ev 0 rfl) (fun _ _ _ => by kernel_rfl)) ?_; clear T ac; intro ac T
        refine l_q (v := (.pointer (some ⟨g1, 13, none⟩))) T (wanted_yes rfl rfl (T.ev 7 rfl) (decide_eq_true h4)) rfl rfl rfl (rn_fieldAddr (off := 1) rfl (T.ev 0 rfl) (fun _ _ _ => by kernel_rfl)) ?_; clear T ac; intro ac T
        refine l_q T (wanted_yes rfl rfl (T.ev 8 rfl) (decide_eq_true h4)) rfl rfl rfl (rn_one (Mem.nth M 3 rfl) rfl (T.ev 0 rfl) rfl) ?_; clear T ac; intro ac T
        refine l_q T (wanted_yes rfl rfl (T.ev 9 rfl) (decide_eq_true h4)) rfl rfl rfl (rn_mul rfl (T.ev 4 rfl) (T.ev 0 rfl) (by omega)) ?_; clear T ac; intro ac T
        refine l_q T (wanted_yes rfl rfl (T.ev 10 rfl) (decide_eq_true h4)) rfl rfl rfl (rn_sub rfl (T.ev 6 rfl) (T.ev 0 rfl) (by omega)) ?_; clear T ac; intro ac T
        refine l_q (v := (.pointer (some ⟨g1, 6, none⟩))) T (wanted_yes rfl rfl (T.ev 11 rfl) (decide_eq_true h4)) rfl rfl rfl (rn_fieldAddr (off := 6) rfl (T.ev 34 rfl) (fun _ _ _ => by kernel_rfl)) ?_; clear T ac; intro ac T
        refine l_q (v := (.pointer (some ⟨g1, 14, none⟩))) T (wanted_yes rfl rfl (T.ev 12 rfl) (decide_eq_true h4)) rfl rfl rfl (rn_fieldAddr (off := 8) rfl (T.ev 0 rfl) (fun _ _ _ => by kernel_rfl)) ?_; clear T ac; intro ac T
        refine l_q T (wanted_yes rfl rfl (T.ev 13 rfl) (decide_eq_true h4)) rfl rfl rfl (rn_one (Mem.nth M 3 rfl) rfl (T.ev 0 rfl) rfl) ?_; clear T ac; intro ac T
        refine l_q T (wanted_yes rfl rfl (T.ev 14 rfl) (decide_eq_true h4)) rfl rfl rfl (rn_geq rfl (T.ev 3 rfl) (T.ev 0 rfl)) ?_; clear T ac; intro ac T
        refine l_q T rfl rfl rfl rfl (rn_pick1 rfl (T.ev 15 rfl) (decide_eq_true h4) (T.ev 0 rfl)) ?_; clear T ac; intro ac T
        refine wpList_nil ?_
        replace T := T.pick [0, 1, 2, 3, 4, 5, 6, 7, 8, 9, 10, 11, 12, 13, 14, 15, 34, 35, 36, 37, 38, 39, 40, 41, 42, 43] rfl
        exact ⟨(T.pick (E' := [(3, .int .i64 t), (4, .int .i64 r), (5, .int .i64 (n : Int)), (6, .pointer (some ⟨g1, 0, none⟩)), (7, .pointer (some ⟨g2, 0, none⟩)), (8, .pointer (some ⟨g3, 0, none⟩)), (13, .int .i64 V), (14, .int .i64 R), (15, .pointer (some ⟨g4, 0, none⟩)), (16, .int .i64 ((n : Int) + 1)), (85, .bool (decide (j.le ≤ (j.r0 - (r * j.b1)))))]) [18, 19, 20, 21, 22, 23, 24, 25, 17, 16, 0] rfl).as (by (try rw [show (decide (j.le ≤ (j.t0 - ((t + 1) * j.a1)))) = true from (decide_eq_true h4)]); rfl), M.mask [true, true, true, true] rfl⟩
       ·replace h4 := of_decide_eq_false h4
        refine l_pass T (wanted_no rfl rfl (T.ev 0 rfl) (decide_eq_false h4)) rfl rfl rfl ?_; clear T ac; intro ac T
        refine l_pass T (wanted_no rfl rfl (T.ev 1 rfl) (decide_eq_false h4)) rfl rfl rfl ?_; clear T ac; intro ac T
        refine l_pass T (wanted_no rfl rfl (T.ev 2 rfl) (decide_eq_false h4)) rfl rfl rfl ?_; clear T ac; intro ac T
        refine l_pass T (wanted_no rfl rfl (T.ev 3 rfl) (decide_eq_false h4)) rfl rfl rfl ?_; clear T ac; intro ac T
        refine l_pass T (wanted_no rfl rfl (T.ev 4 rfl) (decide_eq_false h4)) rfl rfl rfl ?_; clear T ac; intro ac T
        refine l_pass T (wanted_no rfl rfl (T.ev 5 rfl) (decide_eq_false h4)) rfl rfl rfl ?_; clear T ac; intro ac T
        refine l_pass T (wanted_no rfl rfl (T.ev 6 rfl) (decide_eq_false h4)) rfl rfl rfl ?_; clear T ac; intro ac T
        refine l_pass T (wanted_no rfl rfl (T.ev 7 rfl) (decide_eq_false h4)) rfl rfl rfl ?_; clear T ac; intro ac T
        refine l_pass T (wanted_no rfl rfl (T.ev 8 rfl) (decide_eq_false h4)) rfl rfl rfl ?_; clear T ac; intro ac T
        refine l_pass T (wanted_no rfl rfl (T.ev 9 rfl) (decide_eq_false h4)) rfl rfl rfl ?_; clear T ac; intro ac T
        refine l_pass T (wanted_no rfl rfl (T.ev 10 rfl) (decide_eq_false h4)) rfl rfl rfl ?_; clear T ac; intro ac T
        refine l_pass T (wanted_no rfl rfl (T.ev 11 rfl) (decide_eq_false h4)) rfl rfl rfl ?_; clear T ac; intro ac T
        refine l_pass T (wanted_no rfl rfl (T.ev 12 rfl) (decide_eq_false h4)) rfl rfl rfl ?_; clear T ac; intro ac T
        refine l_pass T (wanted_no rfl rfl (T.ev 13 rfl) (decide_eq_false h4)) rfl rfl rfl ?_; clear T ac; intro ac T
        refine l_pass T (wanted_no rfl rfl (T.ev 14 rfl) (decide_eq_false h4)) rfl rfl rfl ?_; clear T ac; intro ac T
        refine l_q T rfl rfl rfl rfl (rn_pick0 rfl (T.ev 15 rfl) (decide_eq_false h4) evc) ?_; clear T ac; intro ac T
        refine wpList_nil ?_
        replace T := T.pick [0, 1, 2, 3, 4, 5, 6, 7, 8, 9, 10, 11, 12, 13, 14, 15, 34, 35, 36, 37, 38, 39, 40, 41, 42, 43] rfl
        exact ⟨(T.pick (E' := [(3, .int .i64 t), (4, .int .i64 r), (5, .int .i64 (n : Int)), (6, .pointer (some ⟨g1, 0, none⟩)), (7, .pointer (some ⟨g2, 0, none⟩)), (8, .pointer (some ⟨g3, 0, none⟩)), (13, .int .i64 V), (14, .int .i64 R), (15, .pointer (some ⟨g4, 0, none⟩)), (16, .int .i64 ((n : Int) + 1)), (85, .bool false)]) [18, 19, 20, 21, 22, 23, 24, 25, 17, 16, 0] rfl).as (by (try rw [show (decide (j.le ≤ (j.t0 - ((t + 1) * j.a1)))) = false from (decide_eq_false h4)]); rfl), M.mask [true, true, true, true] rfl⟩
      ·clear T M
       rintro ac wc ⟨T, M⟩
       refine wp_cond_split (T.ev 10 rfl) ?_ ?_
       ·intro h5
        (try have h5' := h5; try simp only [Bool.and_eq_true, Bool.or_eq_true, Bool.not_eq_true', Bool.and_eq_false_imp, Bool.or_eq_false_iff, decide_eq_true_eq, decide_eq_false_iff_not] at h5')
        refine g_start2 M (M.mask [true, true, true, true] rfl) 27 (by kernel_rfl) rfl (by kernel_rfl) ?_
        clear M; intro wc M
        refine g_q (T := T) (i := 0) rfl (by kernel_rfl) (by kernel_rfl : (pbits 27 0).setIfInBounds 0 true = pbits 27 1) si_U (fun _ _ _ h => h) rfl rfl rfl rfl (fun _ _ _ _ _ => (rn_move rfl (T.ev 9 rfl))) ?_; clear T ac; intro ac T
        refine g_q (T := T) (i := 1) rfl (by kernel_rfl) (by kernel_rfl : (pbits 27 1).setIfInBounds 1 true = pbits 27 3) si_U (fun _ _ _ h => h) rfl rfl rfl rfl (fun B w' hD hl hS => (rn_rowO (Mem.nth (show Mem w noEx w' _ from hS) 3 rfl) rfl (T.ev 4 rfl) rfl)) ?_; clear T ac; intro ac T
        refine g_q (T := T) (i := 2) rfl (by kernel_rfl) (by kernel_rfl : (pbits 27 3).setIfInBounds 2 true = pbits 27 7) si_U (fun _ _ _ h => h) rfl rfl rfl rfl (fun B w' hD hl hS => (rn_rowO (Mem.nth (show Mem w noEx w' _ from hS) 2 rfl) rfl (T.ev 6 rfl) rfl)) ?_; clear T ac; intro ac T
        refine g_q (v := (.pointer (some ⟨g4, 0, none⟩))) (T := T) (i := 3) rfl (by kernel_rfl) (by kernel_rfl : (pbits 27 7).setIfInBounds 3 true = pbits 27 15) si_U (fun _ _ _ h => h) rfl rfl rfl rfl (fun _ _ _ _ _ => (rn_fieldAddr (off := 0) rfl (T.ev 11 rfl) (fun _ _ _ => by kernel_rfl))) ?_; clear T ac; intro ac T
        refine g_q (T := T) (i := 4) rfl (by kernel_rfl) (by kernel_rfl : (pbits 27 15).setIfInBounds 4 true = pbits 27 31) si_U (fun _ _ _ h => h) rfl rfl rfl rfl (fun B w' hD hl hS => (rn_one (Mem.nth (show Mem w noEx w' _ from hS) 0 rfl) rfl (T.ev 0 rfl) rfl)) ?_; clear T ac; intro ac T
        refine g_q (v := (.pointer (some ⟨g1, 6, none⟩))) (T := T) (i := 5) rfl (by kernel_rfl) (by kernel_rfl : (pbits 27 31).setIfInBounds 5 true = pbits 27 63) si_U (fun _ _ _ h => h) rfl rfl rfl rfl (fun _ _ _ _ _ => (rn_fieldAddr (off := 6) rfl (T.ev 8 rfl) (fun _ _ _ => by kernel_rfl))) ?_; clear T ac; intro ac T
        refine g_q (v := (.pointer (some ⟨g1, 6, none⟩))) (T := T) (i := 6) rfl (by kernel_rfl) (by kernel_rfl : (pbits 27 63).setIfInBounds 6 true = pbits 27 127) si_U (fun _ _ _ h => h) rfl rfl rfl rfl (fun _ _ _ _ _ => (rn_fieldAddr (off := 0) rfl (T.ev 0 rfl) (fun _ _ _ => by kernel_rfl))) ?_; clear T ac; intro ac T
        refine g_q (v := (.pointer (some ⟨g1, 6, none⟩))) (T := T) (i := 7) rfl (by kernel_rfl) (by kernel_rfl : (pbits 27 127).setIfInBounds 7 true = pbits 27 255) si_U (fun _ _ _ h => h) rfl rfl rfl rfl (fun _ _ _ _ _ => (rn_fieldAddr (off := 0) rfl (T.ev 0 rfl) (fun _ _ _ => by kernel_rfl))) ?_; clear T ac; intro ac T
        refine g_q (T := T) (i := 8) rfl (by kernel_rfl) (by kernel_rfl : (pbits 27 255).setIfInBounds 8 true = pbits 27 511) si_U (fun _ _ _ h => h) rfl rfl rfl rfl (fun B w' hD hl hS => (rn_one (Mem.nth (show Mem w noEx w' _ from hS) 3 rfl) rfl (T.ev 0 rfl) rfl)) ?_; clear T ac; intro ac T
        refine g_q (T := T) (i := 9) rfl (by kernel_rfl) (by kernel_rfl : (pbits 27 511).setIfInBounds 9 true = pbits 27 1023) si_U (fun _ _ _ h => h) rfl rfl rfl rfl (fun _ _ _ _ _ => (rn_add rfl (T.ev 4 rfl) (T.ev 0 rfl) (by omega))) ?_; clear T ac; intro ac T
        refine g_q (v := (.pointer (some ⟨g4, 1, none⟩))) (T := T) (i := 10) rfl (by kernel_rfl) (by kernel_rfl : (pbits 27 1023).setIfInBounds 10 true = pbits 27 2047) si_U (fun _ _ _ h => h) rfl rfl rfl rfl (fun _ _ _ _ _ => (rn_fieldAddr (off := 1) rfl (T.ev 18 rfl) (fun _ _ _ => by kernel_rfl))) ?_; clear T ac; intro ac T
        refine g_q (T := T) (i := 11) rfl (by kernel_rfl) (by kernel_rfl : (pbits 27 2047).setIfInBounds 11 true = pbits 27 4095) si_U (fun _ _ _ h => h) rfl rfl rfl rfl (fun B w' hD hl hS => (rn_one (Mem.nth (show Mem w noEx w' _ from hS) 0 rfl) rfl (T.ev 0 rfl) rfl)) ?_; clear T ac; intro ac T
        refine g_q (v := (.pointer (some ⟨g1, 6, none⟩))) (T := T) (i := 12) rfl (by kernel_rfl) (by kernel_rfl : (pbits 27 4095).setIfInBounds 12 true = pbits 27 8191) si_U (fun _ _ _ h => h) rfl rfl rfl rfl (fun _ _ _ _ _ => (rn_fieldAddr (off := 6) rfl (T.ev 15 rfl) (fun _ _ _ => by kernel_rfl))) ?_; clear T ac; intro ac T
        refine g_q (v := (.pointer (some ⟨g1, 6, none⟩))) (T := T) (i := 13) rfl (by kernel_rfl) (by kernel_rfl : (pbits 27 8191).setIfInBounds 13 true = pbits 27 16383) si_U (fun _ _ _ h => h) rfl rfl rfl rfl (fun _ _ _ _ _ => (rn_fieldAddr (off := 0) rfl (T.ev 0 rfl) (fun _ _ _ => by kernel_rfl))) ?_; clear T ac; intro ac T
        refine g_q (v := (.pointer (some ⟨g1, 7, none⟩))) (T := T) (i := 14) rfl (by kernel_rfl) (by kernel_rfl : (pbits 27 16383).setIfInBounds 14 true = pbits 27 32767) si_U (fun _ _ _ h => h) rfl rfl rfl rfl (fun _ _ _ _ _ => (rn_fieldAddr (off := 1) rfl (T.ev 0 rfl) (fun _ _ _ => by kernel_rfl))) ?_; clear T ac; intro ac T
        refine g_q (T := T) (i := 15) rfl (by kernel_rfl) (by kernel_rfl : (pbits 27 32767).setIfInBounds 15 true = pbits 27 65535) si_U (fun _ _ _ h => h) rfl rfl rfl rfl (fun B w' hD hl hS => (rn_one (Mem.nth (show Mem w noEx w' _ from hS) 3 rfl) rfl (T.ev 0 rfl) rfl)) ?_; clear T ac; intro ac T
        refine g_q (T := T) (i := 16) rfl (by kernel_rfl) (by kernel_rfl : (pbits 27 65535).setIfInBounds 16 true = pbits 27 131071) si_U (fun _ _ _ h => h) rfl rfl rfl rfl (fun _ _ _ _ _ => (rn_add rfl (T.ev 4 rfl) (T.ev 0 rfl) (by omega))) ?_; clear T ac; intro ac T
        refine g_q (T := T) (i := 18) rfl (by kernel_rfl) (by kernel_rfl : (pbits 27 131071).setIfInBounds 18 true = pbits 27 393215) si_U (fun _ _ _ h => h) rfl rfl rfl rfl (fun _ _ _ _ _ => (rn_move rfl (T.ev 17 rfl))) ?_; clear T ac; intro ac T
        refine g_q (T := T) (i := 19) rfl (by kernel_rfl) (by kernel_rfl : (pbits 27 393215).setIfInBounds 19 true = pbits 27 917503) si_U (fun _ _ _ h => h) rfl rfl rfl rfl (fun _ _ _ _ _ => (rn_add rfl (T.ev 0 rfl) evc (by omega))) ?_; clear T ac; intro ac T
        refine g_q (T := T) (i := 20) rfl (by kernel_rfl) (by kernel_rfl : (pbits 27 917503).setIfInBounds 20 true = pbits 27 1966079) si_U (fun _ _ _ h => h) rfl rfl rfl rfl (fun _ _ _ _ _ => (rn_move rfl (T.ev 20 rfl))) ?_; clear T ac; intro ac T
        refine g_q (T := T) (i := 21) rfl (by kernel_rfl) (by kernel_rfl : (pbits 27 1966079).setIfInBounds 21 true = pbits 27 4063231) si_U (fun _ _ _ h => h) rfl rfl rfl rfl (fun _ _ _ _ _ => (rn_move rfl (T.ev 22 rfl))) ?_; clear T ac; intro ac T
        refine g_q (T := T) (i := 22) rfl (by kernel_rfl) (by kernel_rfl : (pbits 27 4063231).setIfInBounds 22 true = pbits 27 8257535) si_U (fun _ _ _ h => h) rfl rfl rfl rfl (fun _ _ _ _ _ => (rn_sub rfl (T.ev 0 rfl) evc (by omega))) ?_; clear T ac; intro ac T
        refine g_w (i := 17) (by kernel_rfl) rfl (by kernel_rfl : (pbits 27 8257535).setIfInBounds 17 true = pbits 27 8388607) rfl ?_; intro K hK
        refine ow_call (first := []) (cap := []) T rfl rfl rfl rfl evf (.cons (T.ev 12 rfl) (.cons (T.ev 5 rfl) .nil)) Try.func31 rfl rfl ?_
        refine Calls.mono (to_any ((max p0 (R - j.me)) + j.u0) ((min p1 (R + j.me)) + j.u1) _) ?_
        clear T
        rintro e wc ⟨rfl, hb⟩
        intro ac T
        replace M := M.call hb; clear hb
        refine sh_out hK _ _ (M.mask [true, true, true, true] rfl) ?_; clear hK K
        refine g_w (i := 23) (by kernel_rfl) rfl (by kernel_rfl : (pbits 27 8388607).setIfInBounds 23 true = pbits 27 16777215) rfl ?_; intro K hK
        refine ow_call (first := []) (cap := []) T rfl rfl rfl rfl evf (.cons (T.ev 21 rfl) (.cons (T.ev 20 rfl) (.cons (T.ev 0 rfl) (.cons (T.ev 4 rfl) (.cons (T.ev 3 rfl) (.cons (T.ev 1 rfl) .nil)))))) Try.func35 rfl rfl ?_
        refine Calls.mono (Calls.cast (by rw [show ((q : Nat) : Int) = ((n : Nat) : Int) - 1 by omega]; rfl) (ih q (by omega) ((max p0 (R - j.me)) + j.u0) ((min p1 (R + j.me)) + j.u1) (t + 1) r _ (by omega) (by constructor <;> omega))) ?_
        clear T
        rintro e wc ⟨vau4, rfl, hNvau4, hb⟩
        intro ac T
        replace M := M.call hb; clear hb
        have hlu4 := hNvau4.lo
        have hhu4 := hNvau4.hi
        refine sh_out hK _ _ (M.mask [true, true, true, true] rfl) ?_; clear hK K
        refine g_q (T := T) (i := 24) rfl (by kernel_rfl) (by kernel_rfl : (pbits 27 16777215).setIfInBounds 24 true = pbits 27 33554431) si_U (fun _ _ _ h => h) rfl rfl rfl rfl (fun _ _ _ _ _ => (rn_add rfl evc (T.ev 0 rfl) (by omega))) ?_; clear T ac; intro ac T
        refine g_q (T := T) (i := 25) rfl (by kernel_rfl) (by kernel_rfl : (pbits 27 33554431).setIfInBounds 25 true = pbits 27 67108863) si_U (fun _ _ _ h => h) rfl rfl rfl rfl (fun _ _ _ _ _ => (rn_min2 rfl (T.ev 24 rfl) (T.ev 0 rfl))) ?_; clear T ac; intro ac T
        refine g_q (v := (.int .i64 (min ((n : Int) + 1) (1 + vau4)))) (T := T.pick [0, 1, 2, 3, 4, 5, 6, 7, 8, 9, 10, 11, 12, 13, 14, 15, 16, 17, 18, 19, 20, 21, 22, 23, 24, 25, 26, 27, 28, 29, 30, 31, 32, 33, 34, 36] rfl) (i := 26) rfl (by kernel_rfl) (by kernel_rfl : (pbits 27 67108863).setIfInBounds 26 true = pbits 27 134217727) si_U (fun _ _ _ h => h) rfl rfl rfl rfl (fun _ _ _ _ _ => (rn_assign rfl (T.ev 0 rfl))) ?_; clear T ac; intro ac T
        refine g_done (by kernel_rfl) ?_
        replace T := T.pick [0, 27, 28, 29, 30, 31, 32, 33, 34, 35] rfl
        refine nm_then ?_
        refine cut_seq (fun ac wc => Tm ac 179 [(3, .int .i64 t), (4, .int .i64 r), (5, .int .i64 (n : Int)), (6, .pointer (some ⟨g1, 0, none⟩)), (7, .pointer (some ⟨g2, 0, none⟩)), (8, .pointer (some ⟨g3, 0, none⟩)), (13, .int .i64 V), (14, .int .i64 R), (15, .pointer (some ⟨g4, 0, none⟩)), (16, .int .i64 (min ((n : Int) + 1) (1 + vau4))), (144, .bool ((decide (j.le ≤ (j.t0 - (t * j.a1)))) && (decide (j.le ≤ (j.r0 - ((r + 1) * j.b1))))))] ∧ Mem w noEx wc [(g4, .cells [.int .i64 (max p0 (R - j.me)), .int .i64 (min p1 (R + j.me))]), (g3, .cells [.int .i64 p0, .int .i64 p1]), (g2, .cells [.int .i64 x0, .int .i64 x1]), (g1, .cells (jobL j A c))]) ?_ ?_
        ·refine wp_region_lit ?_
         refine l_q (v := (.pointer (some ⟨g1, 0, none⟩))) T rfl rfl rfl rfl (rn_fieldAddr (off := 0) rfl (T.ev 4 rfl) (fun _ _ _ => by kernel_rfl)) ?_; clear T ac; intro ac T
         refine l_q (v := (.pointer (some ⟨g1, 2, none⟩))) T rfl rfl rfl rfl (rn_fieldAddr (off := 2) rfl (T.ev 0 rfl) (fun _ _ _ => by kernel_rfl)) ?_; clear T ac; intro ac T
         refine l_q (v := (.pointer (some ⟨g1, 2, none⟩))) T rfl rfl rfl rfl (rn_fieldAddr (off := 0) rfl (T.ev 0 rfl) (fun _ _ _ => by kernel_rfl)) ?_; clear T ac; intro ac T
         refine l_q T rfl rfl rfl rfl (rn_one (Mem.nth M 3 rfl) rfl (T.ev 0 rfl) rfl) ?_; clear T ac; intro ac T
         refine l_q T rfl rfl rfl rfl (rn_move rfl (T.ev 5 rfl)) ?_; clear T ac; intro ac T
         refine l_q (v := (.pointer (some ⟨g1, 6, none⟩))) T rfl rfl rfl rfl (rn_fieldAddr (off := 6) rfl (T.ev 9 rfl) (fun _ _ _ => by kernel_rfl)) ?_; clear T ac; intro ac T
         refine l_q (v := (.pointer (some ⟨g1, 10, none⟩))) T rfl rfl rfl rfl (rn_fieldAddr (off := 4) rfl (T.ev 0 rfl) (fun _ _ _ => by kernel_rfl)) ?_; clear T ac; intro ac T
         refine l_q (v := (.pointer (some ⟨g1, 11, none⟩))) T rfl rfl rfl rfl (rn_fieldAddr (off := 1) rfl (T.ev 0 rfl) (fun _ _ _ => by kernel_rfl)) ?_; clear T ac; intro ac T
         refine l_q T rfl rfl rfl rfl (rn_one (Mem.nth M 3 rfl) rfl (T.ev 0 rfl) rfl) ?_; clear T ac; intro ac T
         refine l_q T rfl rfl rfl rfl (rn_mul rfl (T.ev 4 rfl) (T.ev 0 rfl) (by omega)) ?_; clear T ac; intro ac T
         refine l_q T rfl rfl rfl rfl (rn_sub rfl (T.ev 6 rfl) (T.ev 0 rfl) (by omega)) ?_; clear T ac; intro ac T
         refine l_q (v := (.pointer (some ⟨g1, 6, none⟩))) T rfl rfl rfl rfl (rn_fieldAddr (off := 6) rfl (T.ev 15 rfl) (fun _ _ _ => by kernel_rfl)) ?_; clear T ac; intro ac T
         refine l_q (v := (.pointer (some ⟨g1, 14, none⟩))) T rfl rfl rfl rfl (rn_fieldAddr (off := 8) rfl (T.ev 0 rfl) (fun _ _ _ => by kernel_rfl)) ?_; clear T ac; intro ac T
         refine l_q T rfl rfl rfl rfl (rn_one (Mem.nth M 3 rfl) rfl (T.ev 0 rfl) rfl) ?_; clear T ac; intro ac T
         refine l_q T rfl rfl rfl rfl (rn_geq rfl (T.ev 3 rfl) (T.ev 0 rfl)) ?_; clear T ac; intro ac T
         refine l_q T rfl rfl rfl rfl (rn_move rfl (T.ev 0 rfl)) ?_; clear T ac; intro ac T
         rcases Bool.eq_false_or_eq_true (decide (j.le ≤ (j.t0 - (t * j.a1)))) with h6 | h6
         ·replace h6 := of_decide_eq_true h6
          refine l_q (v := (.pointer (some ⟨g1, 0, none⟩))) T (wanted_yes rfl rfl (T.ev 0 rfl) (decide_eq_true h6)) rfl rfl rfl (rn_fieldAddr (off := 0) rfl (T.ev 20 rfl) (fun _ _ _ => by kernel_rfl)) ?_; clear T ac; intro ac T
          refine l_q (v := (.pointer (some ⟨g1, 4, none⟩))) T (wanted_yes rfl rfl (T.ev 1 rfl) (decide_eq_true h6)) rfl rfl rfl (rn_fieldAddr (off := 4) rfl (T.ev 0 rfl) (fun _ _ _ => by kernel_rfl)) ?_; clear T ac; intro ac T
          refine l_q (v := (.pointer (some ⟨g1, 4, none⟩))) T (wanted_yes rfl rfl (T.ev 2 rfl) (decide_eq_true h6)) rfl rfl rfl (rn_fieldAddr (off := 0) rfl (T.ev 0 rfl) (fun _ _ _ => by kernel_rfl)) ?_; clear T ac; intro ac T
          refine l_q T (wanted_yes rfl rfl (T.ev 3 rfl) (decide_eq_true h6)) rfl rfl rfl (rn_one (Mem.nth M 3 rfl) rfl (T.ev 0 rfl) rfl) ?_; clear T ac; intro ac T
          refine l_q T (wanted_yes rfl rfl (T.ev 4 rfl) (decide_eq_true h6)) rfl rfl rfl (rn_move rfl (T.ev 22 rfl)) ?_; clear T ac; intro ac T
          refine l_q T (wanted_yes rfl rfl (T.ev 5 rfl) (decide_eq_true h6)) rfl rfl rfl (rn_add rfl (T.ev 0 rfl) evc (by omega)) ?_; clear T ac; intro ac T
          refine l_q (v := (.pointer (some ⟨g1, 6, none⟩))) T (wanted_yes rfl rfl (T.ev 6 rfl) (decide_eq_true h6)) rfl rfl rfl (rn_fieldAddr (off := 6) rfl (T.ev 26 rfl) (fun _ _ _ => by kernel_rfl)) ?_; clear T ac; intro ac T
          refine l_q (v := (.pointer (some ⟨g1, 12, none⟩))) T (wanted_yes rfl rfl (T.ev 7 rfl) (decide_eq_true h6)) rfl rfl rfl (rn_fieldAddr (off := 6) rfl (T.ev 0 rfl) (fun _ _ _ => by kernel_rfl)) ?_; clear T ac; intro ac T
          refine l_q (v := (.pointer (some ⟨g1, 13, none⟩))) T (wanted_yes rfl rfl (T.ev 8 rfl) (decide_eq_true h6)) rfl rfl rfl (rn_fieldAddr (off := 1) rfl (T.ev 0 rfl) (fun _ _ _ => by kernel_rfl)) ?_; clear T ac; intro ac T
          refine l_q T (wanted_yes rfl rfl (T.ev 9 rfl) (decide_eq_true h6)) rfl rfl rfl (rn_one (Mem.nth M 3 rfl) rfl (T.ev 0 rfl) rfl) ?_; clear T ac; intro ac T
          refine l_q T (wanted_yes rfl rfl (T.ev 10 rfl) (decide_eq_true h6)) rfl rfl rfl (rn_mul rfl (T.ev 4 rfl) (T.ev 0 rfl) (by omega)) ?_; clear T ac; intro ac T
          refine l_q T (wanted_yes rfl rfl (T.ev 11 rfl) (decide_eq_true h6)) rfl rfl rfl (rn_sub rfl (T.ev 7 rfl) (T.ev 0 rfl) (by omega)) ?_; clear T ac; intro ac T
          refine l_q (v := (.pointer (some ⟨g1, 6, none⟩))) T (wanted_yes rfl rfl (T.ev 12 rfl) (decide_eq_true h6)) rfl rfl rfl (rn_fieldAddr (off := 6) rfl (T.ev 32 rfl) (fun _ _ _ => by kernel_rfl)) ?_; clear T ac; intro ac T
          refine l_q (v := (.pointer (some ⟨g1, 14, none⟩))) T (wanted_yes rfl rfl (T.ev 13 rfl) (decide_eq_true h6)) rfl rfl rfl (rn_fieldAddr (off := 8) rfl (T.ev 0 rfl) (fun _ _ _ => by kernel_rfl)) ?_; clear T ac; intro ac T
          refine l_q T (wanted_yes rfl rfl (T.ev 14 rfl) (decide_eq_true h6)) rfl rfl rfl (rn_one (Mem.nth M 3 rfl) rfl (T.ev 0 rfl) rfl) ?_; clear T ac; intro ac T
          refine l_q T (wanted_yes rfl rfl (T.ev 15 rfl) (decide_eq_true h6)) rfl rfl rfl (rn_geq rfl (T.ev 3 rfl) (T.ev 0 rfl)) ?_; clear T ac; intro ac T
          refine l_q T rfl rfl rfl rfl (rn_pick1 rfl (T.ev 16 rfl) (decide_eq_true h6) (T.ev 0 rfl)) ?_; clear T ac; intro ac T
          refine wpList_nil ?_
          replace T := T.pick [0, 1, 2, 3, 4, 5, 6, 7, 8, 9, 10, 11, 12, 13, 14, 15, 16, 33, 34, 35, 36, 37, 38, 39, 40, 41, 42] rfl
          exact ⟨(T.pick (E' := [(3, .int .i64 t), (4, .int .i64 r), (5, .int .i64 (n : Int)), (6, .pointer (some ⟨g1, 0, none⟩)), (7, .pointer (some ⟨g2, 0, none⟩)), (8, .pointer (some ⟨g3, 0, none⟩)), (13, .int .i64 V), (14, .int .i64 R), (15, .pointer (some ⟨g4, 0, none⟩)), (16, .int .i64 (min ((n : Int) + 1) (1 + vau4))), (144, .bool (decide (j.le ≤ (j.r0 - ((r + 1) * j.b1)))))]) [18, 19, 20, 21, 22, 23, 24, 25, 26, 17, 0] rfl).as (by (try rw [show (decide (j.le ≤ (j.t0 - (t * j.a1)))) = true from (decide_eq_true h6)]); rfl), M.mask [true, true, true, true] rfl⟩
         ·replace h6 := of_decide_eq_false h6
          refine l_pass T (wanted_no rfl rfl (T.ev 0 rfl) (decide_eq_false h6)) rfl rfl rfl ?_; clear T ac; intro ac T
          refine l_pass T (wanted_no rfl rfl (T.ev 1 rfl) (decide_eq_false h6)) rfl rfl rfl ?_; clear T ac; intro ac T
          refine l_pass T (wanted_no rfl rfl (T.ev 2 rfl) (decide_eq_false h6)) rfl rfl rfl ?_; clear T ac; intro ac T
          refine l_pass T (wanted_no rfl rfl (T.ev 3 rfl) (decide_eq_false h6)) rfl rfl rfl ?_; clear T ac; intro ac T
          refine l_pass T (wanted_no rfl rfl (T.ev 4 rfl) (decide_eq_false h6)) rfl rfl rfl ?_; clear T ac; intro ac T
          refine l_pass T (wanted_no rfl rfl (T.ev 5 rfl) (decide_eq_false h6)) rfl rfl rfl ?_; clear T ac; intro ac T
          refine l_pass T (wanted_no rfl rfl (T.ev 6 rfl) (decide_eq_false h6)) rfl rfl rfl ?_; clear T ac; intro ac T
          refine l_pass T (wanted_no rfl rfl (T.ev 7 rfl) (decide_eq_false h6)) rfl rfl rfl ?_; clear T ac; intro ac T
          refine l_pass T (wanted_no rfl rfl (T.ev 8 rfl) (decide_eq_false h6)) rfl rfl rfl ?_; clear T ac; intro ac T
          refine l_pass T (wanted_no rfl rfl (T.ev 9 rfl) (decide_eq_false h6)) rfl rfl rfl ?_; clear T ac; intro ac T
          refine l_pass T (wanted_no rfl rfl (T.ev 10 rfl) (decide_eq_false h6)) rfl rfl rfl ?_; clear T ac; intro ac T
          refine l_pass T (wanted_no rfl rfl (T.ev 11 rfl) (decide_eq_false h6)) rfl rfl rfl ?_; clear T ac; intro ac T
          refine l_pass T (wanted_no rfl rfl (T.ev 12 rfl) (decide_eq_false h6)) rfl rfl rfl ?_; clear T ac; intro ac T
          refine l_pass T (wanted_no rfl rfl (T.ev 13 rfl) (decide_eq_false h6)) rfl rfl rfl ?_; clear T ac; intro ac T
          refine l_pass T (wanted_no rfl rfl (T.ev 14 rfl) (decide_eq_false h6)) rfl rfl rfl ?_; clear T ac; intro ac T
          refine l_pass T (wanted_no rfl rfl (T.ev 15 rfl) (decide_eq_false h6)) rfl rfl rfl ?_; clear T ac; intro ac T
          refine l_q T rfl rfl rfl rfl (rn_pick0 rfl (T.ev 16 rfl) (decide_eq_false h6) evc) ?_; clear T ac; intro ac T
          refine wpList_nil ?_
          replace T := T.pick [0, 1, 2, 3, 4, 5, 6, 7, 8, 9, 10, 11, 12, 13, 14, 15, 16, 33, 34, 35, 36, 37, 38, 39, 40, 41, 42] rfl
          exact ⟨(T.pick (E' := [(3, .int .i64 t), (4, .int .i64 r), (5, .int .i64 (n : Int)), (6, .pointer (some ⟨g1, 0, none⟩)), (7, .pointer (some ⟨g2, 0, none⟩)), (8, .pointer (some ⟨g3, 0, none⟩)), (13, .int .i64 V), (14, .int .i64 R), (15, .pointer (some ⟨g4, 0, none⟩)), (16, .int .i64 (min ((n : Int) + 1) (1 + vau4))), (144, .bool false)]) [18, 19, 20, 21, 22, 23, 24, 25, 26, 17, 0] rfl).as (by (try rw [show (decide (j.le ≤ (j.t0 - (t * j.a1)))) = false from (decide_eq_false h6)]); rfl), M.mask [true, true, true, true] rfl⟩
        ·clear T M
         rintro ac wc ⟨T, M⟩
         refine wp_cond_split (T.ev 10 rfl) ?_ ?_
         ·intro h7
          (try have h7' := h7; try simp only [Bool.and_eq_true, Bool.or_eq_true, Bool.not_eq_true', Bool.and_eq_false_imp, Bool.or_eq_false_iff, decide_eq_true_eq, decide_eq_false_iff_not] at h7')
          refine g_start2 M (M.mask [true, true, true, true] rfl) 27 (by kernel_rfl) rfl (by kernel_rfl) ?_
          clear M; intro wc M
          refine g_q (T := T) (i := 0) rfl (by kernel_rfl) (by kernel_rfl : (pbits 27 0).setIfInBounds 0 true = pbits 27 1) si_U (fun _ _ _ h => h) rfl rfl rfl rfl (fun _ _ _ _ _ => (rn_move rfl (T.ev 9 rfl))) ?_; clear T ac; intro ac T
          refine g_q (T := T) (i := 1) rfl (by kernel_rfl) (by kernel_rfl : (pbits 27 1).setIfInBounds 1 true = pbits 27 3) si_U (fun _ _ _ h => h) rfl rfl rfl rfl (fun B w' hD hl hS => (rn_rowO (Mem.nth (show Mem w noEx w' _ from hS) 3 rfl) rfl (T.ev 4 rfl) rfl)) ?_; clear T ac; intro ac T
          refine g_q (T := T) (i := 2) rfl (by kernel_rfl) (by kernel_rfl : (pbits 27 3).setIfInBounds 2 true = pbits 27 7) si_U (fun _ _ _ h => h) rfl rfl rfl rfl (fun B w' hD hl hS => (rn_rowO (Mem.nth (show Mem w noEx w' _ from hS) 2 rfl) rfl (T.ev 6 rfl) rfl)) ?_; clear T ac; intro ac T
          refine g_q (v := (.pointer (some ⟨g4, 0, none⟩))) (T := T) (i := 3) rfl (by kernel_rfl) (by kernel_rfl : (pbits 27 7).setIfInBounds 3 true = pbits 27 15) si_U (fun _ _ _ h => h) rfl rfl rfl rfl (fun _ _ _ _ _ => (rn_fieldAddr (off := 0) rfl (T.ev 11 rfl) (fun _ _ _ => by kernel_rfl))) ?_; clear T ac; intro ac T
          refine g_q (T := T) (i := 4) rfl (by kernel_rfl) (by kernel_rfl : (pbits 27 15).setIfInBounds 4 true = pbits 27 31) si_U (fun _ _ _ h => h) rfl rfl rfl rfl (fun B w' hD hl hS => (rn_one (Mem.nth (show Mem w noEx w' _ from hS) 0 rfl) rfl (T.ev 0 rfl) rfl)) ?_; clear T ac; intro ac T
          refine g_q (v := (.pointer (some ⟨g1, 6, none⟩))) (T := T) (i := 5) rfl (by kernel_rfl) (by kernel_rfl : (pbits 27 31).setIfInBounds 5 true = pbits 27 63) si_U (fun _ _ _ h => h) rfl rfl rfl rfl (fun _ _ _ _ _ => (rn_fieldAddr (off := 6) rfl (T.ev 8 rfl) (fun _ _ _ => by kernel_rfl))) ?_; clear T ac; intro ac T
          refine g_q (v := (.pointer (some ⟨g1, 8, none⟩))) (T := T) (i := 6) rfl (by kernel_rfl) (by kernel_rfl : (pbits 27 63).setIfInBounds 6 true = pbits 27 127) si_U (fun _ _ _ h => h) rfl rfl rfl rfl (fun _ _ _ _ _ => (rn_fieldAddr (off := 2) rfl (T.ev 0 rfl) (fun _ _ _ => by kernel_rfl))) ?_; clear T ac; intro ac T
          refine g_q (v := (.pointer (some ⟨g1, 9, none⟩))) (T := T) (i := 7) rfl (by kernel_rfl) (by kernel_rfl : (pbits 27 127).setIfInBounds 7 true = pbits 27 255) si_U (fun _ _ _ h => h) rfl rfl rfl rfl (fun _ _ _ _ _ => (rn_fieldAddr (off := 1) rfl (T.ev 0 rfl) (fun _ _ _ => by kernel_rfl))) ?_; clear T ac; intro ac T
          refine g_q (T := T) (i := 8) rfl (by kernel_rfl) (by kernel_rfl : (pbits 27 255).setIfInBounds 8 true = pbits 27 511) si_U (fun _ _ _ h => h) rfl rfl rfl rfl (fun B w' hD hl hS => (rn_one (Mem.nth (show Mem w noEx w' _ from hS) 3 rfl) rfl (T.ev 0 rfl) rfl)) ?_; clear T ac; intro ac T
          refine g_q (T := T) (i := 9) rfl (by kernel_rfl) (by kernel_rfl : (pbits 27 511).setIfInBounds 9 true = pbits 27 1023) si_U (fun _ _ _ h => h) rfl rfl rfl rfl (fun _ _ _ _ _ => (rn_sub rfl (T.ev 4 rfl) (T.ev 0 rfl) (by omega))) ?_; clear T ac; intro ac T
          refine g_q (v := (.pointer (some ⟨g4, 1, none⟩))) (T := T) (i := 10) rfl (by kernel_rfl) (by kernel_rfl : (pbits 27 1023).setIfInBounds 10 true = pbits 27 2047) si_U (fun _ _ _ h => h) rfl rfl rfl rfl (fun _ _ _ _ _ => (rn_fieldAddr (off := 1) rfl (T.ev 18 rfl) (fun _ _ _ => by kernel_rfl))) ?_; clear T ac; intro ac T
          refine g_q (T := T) (i := 11) rfl (by kernel_rfl) (by kernel_rfl : (pbits 27 2047).setIfInBounds 11 true = pbits 27 4095) si_U (fun _ _ _ h => h) rfl rfl rfl rfl (fun B w' hD hl hS => (rn_one (Mem.nth (show Mem w noEx w' _ from hS) 0 rfl) rfl (T.ev 0 rfl) rfl)) ?_; clear T ac; intro ac T
          refine g_q (v := (.pointer (some ⟨g1, 6, none⟩))) (T := T) (i := 12) rfl (by kernel_rfl) (by kernel_rfl : (pbits 27 4095).setIfInBounds 12 true = pbits 27 8191) si_U (fun _ _ _ h => h) rfl rfl rfl rfl (fun _ _ _ _ _ => (rn_fieldAddr (off := 6) rfl (T.ev 15 rfl) (fun _ _ _ => by kernel_rfl))) ?_; clear T ac; intro ac T
          refine g_q (v := (.pointer (some ⟨g1, 8, none⟩))) (T := T) (i := 13) rfl (by kernel_rfl) (by kernel_rfl : (pbits 27 8191).setIfInBounds 13 true = pbits 27 16383) si_U (fun _ _ _ h => h) rfl rfl rfl rfl (fun _ _ _ _ _ => (rn_fieldAddr (off := 2) rfl (T.ev 0 rfl) (fun _ _ _ => by kernel_rfl))) ?_; clear T ac; intro ac T
          refine g_q (v := (.pointer (some ⟨g1, 8, none⟩))) (T := T) (i := 14) rfl (by kernel_rfl) (by kernel_rfl : (pbits 27 16383).setIfInBounds 14 true = pbits 27 32767) si_U (fun _ _ _ h => h) rfl rfl rfl rfl (fun _ _ _ _ _ => (rn_fieldAddr (off := 0) rfl (T.ev 0 rfl) (fun _ _ _ => by kernel_rfl))) ?_; clear T ac; intro ac T
          refine g_q (T := T) (i := 15) rfl (by kernel_rfl) (by kernel_rfl : (pbits 27 32767).setIfInBounds 15 true = pbits 27 65535) si_U (fun _ _ _ h => h) rfl rfl rfl rfl (fun B w' hD hl hS => (rn_one (Mem.nth (show Mem w noEx w' _ from hS) 3 rfl) rfl (T.ev 0 rfl) rfl)) ?_; clear T ac; intro ac T
          refine g_q (T := T) (i := 16) rfl (by kernel_rfl) (by kernel_rfl : (pbits 27 65535).setIfInBounds 16 true = pbits 27 131071) si_U (fun _ _ _ h => h) rfl rfl rfl rfl (fun _ _ _ _ _ => (rn_sub rfl (T.ev 4 rfl) (T.ev 0 rfl) (by omega))) ?_; clear T ac; intro ac T
          refine g_q (T := T) (i := 18) rfl (by kernel_rfl) (by kernel_rfl : (pbits 27 131071).setIfInBounds 18 true = pbits 27 393215) si_U (fun _ _ _ h => h) rfl rfl rfl rfl (fun _ _ _ _ _ => (rn_move rfl (T.ev 17 rfl))) ?_; clear T ac; intro ac T
          refine g_q (T := T) (i := 19) rfl (by kernel_rfl) (by kernel_rfl : (pbits 27 393215).setIfInBounds 19 true = pbits 27 917503) si_U (fun _ _ _ h => h) rfl rfl rfl rfl (fun _ _ _ _ _ => (rn_move rfl (T.ev 19 rfl))) ?_; clear T ac; intro ac T
          refine g_q (T := T) (i := 20) rfl (by kernel_rfl) (by kernel_rfl : (pbits 27 917503).setIfInBounds 20 true = pbits 27 1966079) si_U (fun _ _ _ h => h) rfl rfl rfl rfl (fun _ _ _ _ _ => (rn_add rfl (T.ev 0 rfl) evc (by omega))) ?_; clear T ac; intro ac T
          refine g_q (T := T) (i := 21) rfl (by kernel_rfl) (by kernel_rfl : (pbits 27 1966079).setIfInBounds 21 true = pbits 27 4063231) si_U (fun _ _ _ h => h) rfl rfl rfl rfl (fun _ _ _ _ _ => (rn_move rfl (T.ev 22 rfl))) ?_; clear T ac; intro ac T
          refine g_q (T := T) (i := 22) rfl (by kernel_rfl) (by kernel_rfl : (pbits 27 4063231).setIfInBounds 22 true = pbits 27 8257535) si_U (fun _ _ _ h => h) rfl rfl rfl rfl (fun _ _ _ _ _ => (rn_sub rfl (T.ev 0 rfl) evc (by omega))) ?_; clear T ac; intro ac T
          refine g_w (i := 17) (by kernel_rfl) rfl (by kernel_rfl : (pbits 27 8257535).setIfInBounds 17 true = pbits 27 8388607) rfl ?_; intro K hK
          refine ow_call (first := []) (cap := []) T rfl rfl rfl rfl evf (.cons (T.ev 12 rfl) (.cons (T.ev 5 rfl) .nil)) Try.func31 rfl rfl ?_
          refine Calls.mono (to_any ((max p0 (R - j.me)) - j.d1) ((min p1 (R + j.me)) - j.d0) _) ?_
          clear T
          rintro e wc ⟨rfl, hb⟩
          intro ac T
          replace M := M.call hb; clear hb
          refine sh_out hK _ _ (M.mask [true, true, true, true] rfl) ?_; clear hK K
          refine g_w (i := 23) (by kernel_rfl) rfl (by kernel_rfl : (pbits 27 8388607).setIfInBounds 23 true = pbits 27 16777215) rfl ?_; intro K hK
          refine ow_call (first := []) (cap := []) T rfl rfl rfl rfl evf (.cons (T.ev 21 rfl) (.cons (T.ev 20 rfl) (.cons (T.ev 0 rfl) (.cons (T.ev 5 rfl) (.cons (T.ev 3 rfl) (.cons (T.ev 1 rfl) .nil)))))) Try.func35 rfl rfl ?_
          refine Calls.mono (Calls.cast (by rw [show ((q : Nat) : Int) = ((n : Nat) : Int) - 1 by omega]; rfl) (ih q (by omega) ((max p0 (R - j.me)) - j.d1) ((min p1 (R + j.me)) - j.d0) t (r + 1) _ (by omega) (by constructor <;> omega))) ?_
          clear T
          rintro e wc ⟨vbu6, rfl, hNvbu6, hb⟩
          intro ac T
          replace M := M.call hb; clear hb
          have hlu6 := hNvbu6.lo
          have hhu6 := hNvbu6.hi
          refine sh_out hK _ _ (M.mask [true, true, true, true] rfl) ?_; clear hK K
          refine g_q (T := T) (i := 24) rfl (by kernel_rfl) (by kernel_rfl : (pbits 27 16777215).setIfInBounds 24 true = pbits 27 33554431) si_U (fun _ _ _ h => h) rfl rfl rfl rfl (fun _ _ _ _ _ => (rn_add rfl evc (T.ev 0 rfl) (by omega))) ?_; clear T ac; intro ac T
          refine g_q (T := T) (i := 25) rfl (by kernel_rfl) (by kernel_rfl : (pbits 27 33554431).setIfInBounds 25 true = pbits 27 67108863) si_U (fun _ _ _ h => h) rfl rfl rfl rfl (fun _ _ _ _ _ => (rn_min2 rfl (T.ev 24 rfl) (T.ev 0 rfl))) ?_; clear T ac; intro ac T
          refine g_q (v := (.int .i64 (min (min ((n : Int) + 1) (1 + vau4)) (1 + vbu6)))) (T := T.pick [0, 1, 2, 3, 4, 5, 6, 7, 8, 9, 10, 11, 12, 13, 14, 15, 16, 17, 18, 19, 20, 21, 22, 23, 24, 25, 26, 27, 28, 29, 30, 31, 32, 33, 34, 36] rfl) (i := 26) rfl (by kernel_rfl) (by kernel_rfl : (pbits 27 67108863).setIfInBounds 26 true = pbits 27 134217727) si_U (fun _ _ _ h => h) rfl rfl rfl rfl (fun _ _ _ _ _ => (rn_assign rfl (T.ev 0 rfl))) ?_; clear T ac; intro ac T
          refine g_done (by kernel_rfl) ?_
          replace T := T.pick [0, 27, 28, 29, 30, 31, 32, 33, 34] rfl
          replace M := M.mask [false, true, true, true] rfl
          refine nm_then ?_
          refine wp_seq ?_
          refine wp_region_lit ?_
          refine l_q T rfl rfl rfl rfl (rn_move rfl (T.ev 7 rfl)) ?_; clear T ac; intro ac T
          refine l_q T rfl rfl rfl rfl (rn_move rfl (T.ev 1 rfl)) ?_; clear T ac; intro ac T
          refine l_q T rfl rfl rfl rfl (rn_max2 rfl (T.ev 1 rfl) (T.ev 0 rfl)) ?_; clear T ac; intro ac T
          refine l_q (v := (.int .i64 (max V (min (min ((n : Int) + 1) (1 + vau4)) (1 + vbu6))))) (T.pick [0, 1, 2, 3, 4, 5, 6, 7, 8, 9, 11] rfl) rfl rfl rfl rfl (rn_assign rfl (T.ev 0 rfl)) ?_; clear T ac; intro ac T
          refine wpList_nil ?_
          replace T := T.pick [0, 5, 6, 7, 8, 9, 10, 11] rfl
          refine nm_then ?_
          refine wp_seq ?_
          refine wp_region_lit ?_
          refine l_q T rfl rfl rfl rfl (rn_move rfl (T.ev 0 rfl)) ?_; clear T ac; intro ac T
          refine l_q T rfl rfl rfl rfl (rn_move rfl (T.ev 4 rfl)) ?_; clear T ac; intro ac T
          refine l_q T rfl rfl rfl rfl (rn_gtr rfl (T.ev 1 rfl) (T.ev 0 rfl)) ?_; clear T ac; intro ac T
          refine wpList_nil ?_
          replace T := T.pick [0, 3, 4, 5, 6, 7, 8, 9, 10] rfl
          refine nm_then ?_
          refine wp_if (T.ev 0 rfl) ?_ ?_
          ·intro h8
           refine wp_seq ?_
           refine wp_region_lit ?_
           refine l_q T rfl rfl rfl rfl (rn_move rfl (T.ev 1 rfl)) ?_; clear T ac; intro ac T
           refine l_q T rfl rfl rfl rfl (rn_assign rfl (T.ev 0 rfl)) ?_; clear T ac; intro ac T
           refine wpList_nil ?_
           replace T := T.pick [0] rfl
           replace M := M.mask [false, false, false] rfl
           refine nm_then ?_
           refine wp_ret ?_
           refine rt_blk ?_
           refine rt_then ?_
           refine rt_then ?_
           refine rt_blk ?_
           refine rt_then ?_
           refine rt_1 T rfl (T.ev 0 rfl) ?_
           have hhb : hasB (winS j).1 (winS j).2 (max p0 (R - j.me)) (min p1 (R + j.me)) = false := (hw (max p0 (R - j.me)) (min p1 (R + j.me)) (by omega)).symm.trans h2
           have hq9 : n = q + 1 := by omega
           have hS9 : Need (fun m => stopsP j (winS j).1 (winS j).2 m (max p0 (R - j.me)) (min p1 (R + j.me)) t r) n (min (min ((n : Int) + 1) (1 + vau4)) (1 + vbu6)) := by
             subst hq9
             refine Need.stop (c1 := true) (c2 := true) (v1 := vau4) (v2 := vbu6) hhb (((okT_dec hj (by omega) (by omega)).trans h5).symm) (((okT_dec hj (by omega) (by omega)).trans h7).symm) (fun h8 => hNvau4) (fun h8 => hNvbu6) ?_
             simp only [if_true, Bool.false_eq_true, if_false]
             omega
           have hN9 : Need (readsK j (winS j).1 (winS j).2 p0 p1 t r (k + 1)) n (max V (min (min ((n : Int) + 1) (1 + vau4)) (1 + vbu6))) := (hN.max hS9).congr (fun m => by rw [readsK_succ, e1, e2])
           exact ⟨_, rfl, hN9.exit (by omega) (by omega), M.below⟩
          ·intro h8
           refine wp_skip ?_
           refine nm_blk ?_
           refine nm_then ?_
           refine wp_region_lit ?_
           refine l_q T rfl rfl rfl rfl (rn_move rfl (T.ev 8 rfl)) ?_; clear T ac; intro ac T
           refine l_q T rfl rfl rfl rfl (rn_add rfl (T.ev 0 rfl) evc (by omega)) ?_; clear T ac; intro ac T
           refine l_q (v := (.int .i64 (R + 1))) (T.pick [0, 1, 2, 3, 4, 5, 6, 7, 8, 9] rfl) rfl rfl rfl rfl (rn_assign rfl (T.ev 0 rfl)) ?_; clear T ac; intro ac T
           refine wpList_nil ?_
           replace T := T.pick [0, 4, 5, 6, 7, 8, 9, 10] rfl
           refine nm_then ?_
           have hhb : hasB (winS j).1 (winS j).2 (max p0 (R - j.me)) (min p1 (R + j.me)) = false := (hw (max p0 (R - j.me)) (min p1 (R + j.me)) (by omega)).symm.trans h2
           have hq9 : n = q + 1 := by omega
           have hS9 : Need (fun m => stopsP j (winS j).1 (winS j).2 m (max p0 (R - j.me)) (min p1 (R + j.me)) t r) n (min (min ((n : Int) + 1) (1 + vau4)) (1 + vbu6)) := by
             subst hq9
             refine Need.stop (c1 := true) (c2 := true) (v1 := vau4) (v2 := vbu6) hhb (((okT_dec hj (by omega) (by omega)).trans h5).symm) (((okT_dec hj (by omega) (by omega)).trans h7).symm) (fun h8 => hNvau4) (fun h8 => hNvbu6) ?_
             simp only [if_true, Bool.false_eq_true, if_false]
             omega
           have hN9 : Need (readsK j (winS j).1 (winS j).2 p0 p1 t r (k + 1)) n (max V (min (min ((n : Int) + 1) (1 + vau4)) (1 + vbu6))) := (hN.max hS9).congr (fun m => by rw [readsK_succ, e1, e2])
           exact ⟨_, by omega, k + 1, _, (max V (min (min ((n : Int) + 1) (1 + vau4)) (1 + vbu6))), rfl, (by omega), (by omega), hN9, (by omega), T.pick [2, 3, 4, 5, 6, 7, 1, 0] rfl, M.mask [true, true, true] rfl⟩
         ·intro h7
          (try have h7' := h7; try simp only [Bool.and_eq_true, Bool.or_eq_true, Bool.not_eq_true', Bool.and_eq_false_imp, Bool.or_eq_false_iff, decide_eq_true_eq, decide_eq_false_iff_not] at h7')
          refine wp_skip ?_
          refine nm_then ?_
          refine wp_seq ?_
          refine wp_region_lit ?_
          refine l_q T rfl rfl rfl rfl (rn_move rfl (T.ev 6 rfl)) ?_; clear T ac; intro ac T
          refine l_q T rfl rfl rfl rfl (rn_move rfl (T.ev 10 rfl)) ?_; clear T ac; intro ac T
          refine l_q T rfl rfl rfl rfl (rn_max2 rfl (T.ev 1 rfl) (T.ev 0 rfl)) ?_; clear T ac; intro ac T
          refine l_q (v := (.int .i64 (max V (min ((n : Int) + 1) (1 + vau4))))) (T.pick [0, 1, 2, 3, 4, 5, 6, 7, 8, 10, 11, 12, 13] rfl) rfl rfl rfl rfl (rn_assign rfl (T.ev 0 rfl)) ?_; clear T ac; intro ac T
          refine wpList_nil ?_
          replace T := T.pick [0, 4, 5, 6, 7, 8, 9, 10] rfl
          replace M := M.mask [false, true, true, true] rfl
          refine nm_then ?_
          refine wp_seq ?_
          refine wp_region_lit ?_
          refine l_q T rfl rfl rfl rfl (rn_move rfl (T.ev 0 rfl)) ?_; clear T ac; intro ac T
          refine l_q T rfl rfl rfl rfl (rn_move rfl (T.ev 4 rfl)) ?_; clear T ac; intro ac T
          refine l_q T rfl rfl rfl rfl (rn_gtr rfl (T.ev 1 rfl) (T.ev 0 rfl)) ?_; clear T ac; intro ac T
          refine wpList_nil ?_
          replace T := T.pick [0, 3, 4, 5, 6, 7, 8, 9, 10] rfl
          refine nm_then ?_
          refine wp_if (T.ev 0 rfl) ?_ ?_
          ·intro h9
           refine wp_seq ?_
           refine wp_region_lit ?_
           refine l_q T rfl rfl rfl rfl (rn_move rfl (T.ev 1 rfl)) ?_; clear T ac; intro ac T
           refine l_q T rfl rfl rfl rfl (rn_assign rfl (T.ev 0 rfl)) ?_; clear T ac; intro ac T
           refine wpList_nil ?_
           replace T := T.pick [0] rfl
           replace M := M.mask [false, false, false] rfl
           refine nm_then ?_
           refine wp_ret ?_
           refine rt_blk ?_
           refine rt_then ?_
           refine rt_then ?_
           refine rt_blk ?_
           refine rt_then ?_
           refine rt_1 T rfl (T.ev 0 rfl) ?_
           have hhb : hasB (winS j).1 (winS j).2 (max p0 (R - j.me)) (min p1 (R + j.me)) = false := (hw (max p0 (R - j.me)) (min p1 (R + j.me)) (by omega)).symm.trans h2
           have hq9 : n = q + 1 := by omega
           have hS9 : Need (fun m => stopsP j (winS j).1 (winS j).2 m (max p0 (R - j.me)) (min p1 (R + j.me)) t r) n (min ((n : Int) + 1) (1 + vau4)) := by
             subst hq9
             refine Need.stop (c1 := true) (c2 := false) (v1 := vau4) (v2 := 0) hhb (((okT_dec hj (by omega) (by omega)).trans h5).symm) (((okT_dec hj (by omega) (by omega)).trans h7).symm) (fun h8 => hNvau4) (fun h8 => by cases h8) ?_
             simp only [if_true, Bool.false_eq_true, if_false]
             omega
           have hN9 : Need (readsK j (winS j).1 (winS j).2 p0 p1 t r (k + 1)) n (max V (min ((n : Int) + 1) (1 + vau4))) := (hN.max hS9).congr (fun m => by rw [readsK_succ, e1, e2])
           exact ⟨_, rfl, hN9.exit (by omega) (by omega), M.below⟩
          ·intro h9
           refine wp_skip ?_
           refine nm_blk ?_
           refine nm_then ?_
           refine wp_region_lit ?_
           refine l_q T rfl rfl rfl rfl (rn_move rfl (T.ev 8 rfl)) ?_; clear T ac; intro ac T
           refine l_q T rfl rfl rfl rfl (rn_add rfl (T.ev 0 rfl) evc (by omega)) ?_; clear T ac; intro ac T
           refine l_q (v := (.int .i64 (R + 1))) (T.pick [0, 1, 2, 3, 4, 5, 6, 7, 8, 9] rfl) rfl rfl rfl rfl (rn_assign rfl (T.ev 0 rfl)) ?_; clear T ac; intro ac T
           refine wpList_nil ?_
           replace T := T.pick [0, 4, 5, 6, 7, 8, 9, 10] rfl
           refine nm_then ?_
           have hhb : hasB (winS j).1 (winS j).2 (max p0 (R - j.me)) (min p1 (R + j.me)) = false := (hw (max p0 (R - j.me)) (min p1 (R + j.me)) (by omega)).symm.trans h2
           have hq9 : n = q + 1 := by omega
           have hS9 : Need (fun m => stopsP j (winS j).1 (winS j).2 m (max p0 (R - j.me)) (min p1 (R + j.me)) t r) n (min ((n : Int) + 1) (1 + vau4)) := by
             subst hq9
             refine Need.stop (c1 := true) (c2 := false) (v1 := vau4) (v2 := 0) hhb (((okT_dec hj (by omega) (by omega)).trans h5).symm) (((okT_dec hj (by omega) (by omega)).trans h7).symm) (fun h8 => hNvau4) (fun h8 => by cases h8) ?_
             simp only [if_true, Bool.false_eq_true, if_false]
             omega
           have hN9 : Need (readsK j (winS j).1 (winS j).2 p0 p1 t r (k + 1)) n (max V (min ((n : Int) + 1) (1 + vau4))) := (hN.max hS9).congr (fun m => by rw [readsK_succ, e1, e2])
           exact ⟨_, by omega, k + 1, _, (max V (min ((n : Int) + 1) (1 + vau4))), rfl, (by omega), (by omega), hN9, (by omega), T.pick [2, 3, 4, 5, 6, 7, 1, 0] rfl, M.mask [true, true, true] rfl⟩
       ·intro h5
        (try have h5' := h5; try simp only [Bool.and_eq_true, Bool.or_eq_true, Bool.not_eq_true', Bool.and_eq_false_imp, Bool.or_eq_false_iff, decide_eq_true_eq, decide_eq_false_iff_not] at h5')
        refine wp_skip ?_
        refine nm_then ?_
        refine cut_seq (fun ac wc => Tm ac 179 [(3, .int .i64 t), (4, .int .i64 r), (5, .int .i64 (n : Int)), (6, .pointer (some ⟨g1, 0, none⟩)), (7, .pointer (some ⟨g2, 0, none⟩)), (8, .pointer (some ⟨g3, 0, none⟩)), (13, .int .i64 V), (14, .int .i64 R), (15, .pointer (some ⟨g4, 0, none⟩)), (16, .int .i64 ((n : Int) + 1)), (144, .bool ((decide (j.le ≤ (j.t0 - (t * j.a1)))) && (decide (j.le ≤ (j.r0 - ((r + 1) * j.b1))))))] ∧ Mem w noEx wc [(g4, .cells [.int .i64 (max p0 (R - j.me)), .int .i64 (min p1 (R + j.me))]), (g3, .cells [.int .i64 p0, .int .i64 p1]), (g2, .cells [.int .i64 x0, .int .i64 x1]), (g1, .cells (jobL j A c))]) ?_ ?_
        ·refine wp_region_lit ?_
         refine l_q (v := (.pointer (some ⟨g1, 0, none⟩))) T rfl rfl rfl rfl (rn_fieldAddr (off := 0) rfl (T.ev 3 rfl) (fun _ _ _ => by kernel_rfl)) ?_; clear T ac; intro ac T
         refine l_q (v := (.pointer (some ⟨g1, 2, none⟩))) T rfl rfl rfl rfl (rn_fieldAddr (off := 2) rfl (T.ev 0 rfl) (fun _ _ _ => by kernel_rfl)) ?_; clear T ac; intro ac T
         refine l_q (v := (.pointer (some ⟨g1, 2, none⟩))) T rfl rfl rfl rfl (rn_fieldAddr (off := 0) rfl (T.ev 0 rfl) (fun _ _ _ => by kernel_rfl)) ?_; clear T ac; intro ac T
         refine l_q T rfl rfl rfl rfl (rn_one (Mem.nth M 3 rfl) rfl (T.ev 0 rfl) rfl) ?_; clear T ac; intro ac T
         refine l_q T rfl rfl rfl rfl (rn_move rfl (T.ev 4 rfl)) ?_; clear T ac; intro ac T
         refine l_q (v := (.pointer (some ⟨g1, 6, none⟩))) T rfl rfl rfl rfl (rn_fieldAddr (off := 6) rfl (T.ev 8 rfl) (fun _ _ _ => by kernel_rfl)) ?_; clear T ac; intro ac T
         refine l_q (v := (.pointer (some ⟨g1, 10, none⟩))) T rfl rfl rfl rfl (rn_fieldAddr (off := 4) rfl (T.ev 0 rfl) (fun _ _ _ => by kernel_rfl)) ?_; clear T ac; intro ac T
         refine l_q (v := (.pointer (some ⟨g1, 11, none⟩))) T rfl rfl rfl rfl (rn_fieldAddr (off := 1) rfl (T.ev 0 rfl) (fun _ _ _ => by kernel_rfl)) ?_; clear T ac; intro ac T
         refine l_q T rfl rfl rfl rfl (rn_one (Mem.nth M 3 rfl) rfl (T.ev 0 rfl) rfl) ?_; clear T ac; intro ac T
         refine l_q T rfl rfl rfl rfl (rn_mul rfl (T.ev 4 rfl) (T.ev 0 rfl) (by omega)) ?_; clear T ac; intro ac T
         refine l_q T rfl rfl rfl rfl (rn_sub rfl (T.ev 6 rfl) (T.ev 0 rfl) (by omega)) ?_; clear T ac; intro ac T
         refine l_q (v := (.pointer (some ⟨g1, 6, none⟩))) T rfl rfl rfl rfl (rn_fieldAddr (off := 6) rfl (T.ev 14 rfl) (fun _ _ _ => by kernel_rfl)) ?_; clear T ac; intro ac T
         refine l_q (v := (.pointer (some ⟨g1, 14, none⟩))) T rfl rfl rfl rfl (rn_fieldAddr (off := 8) rfl (T.ev 0 rfl) (fun _ _ _ => by kernel_rfl)) ?_; clear T ac; intro ac T
         refine l_q T rfl rfl rfl rfl (rn_one (Mem.nth M 3 rfl) rfl (T.ev 0 rfl) rfl) ?_; clear T ac; intro ac T
         refine l_q T rfl rfl rfl rfl (rn_geq rfl (T.ev 3 rfl) (T.ev 0 rfl)) ?_; clear T ac; intro ac T
         refine l_q T rfl rfl rfl rfl (rn_move rfl (T.ev 0 rfl)) ?_; clear T ac; intro ac T
         rcases Bool.eq_false_or_eq_true (decide (j.le ≤ (j.t0 - (t * j.a1)))) with h10 | h10
         ·replace h10 := of_decide_eq_true h10
          refine l_q (v := (.pointer (some ⟨g1, 0, none⟩))) T (wanted_yes rfl rfl (T.ev 0 rfl) (decide_eq_true h10)) rfl rfl rfl (rn_fieldAddr (off := 0) rfl (T.ev 19 rfl) (fun _ _ _ => by kernel_rfl)) ?_; clear T ac; intro ac T
          refine l_q (v := (.pointer (some ⟨g1, 4, none⟩))) T (wanted_yes rfl rfl (T.ev 1 rfl) (decide_eq_true h10)) rfl rfl rfl (rn_fieldAddr (off := 4) rfl (T.ev 0 rfl) (fun _ _ _ => by kernel_rfl)) ?_; clear T ac; intro ac T
          refine l_q (v := (.pointer (some ⟨g1, 4, none⟩))) T (wanted_yes rfl rfl (T.ev 2 rfl) (decide_eq_true h10)) rfl rfl rfl (rn_fieldAddr (off := 0) rfl (T.ev 0 rfl) (fun _ _ _ => by kernel_rfl)) ?_; clear T ac; intro ac T
          refine l_q T (wanted_yes rfl rfl (T.ev 3 rfl) (decide_eq_true h10)) rfl rfl rfl (rn_one (Mem.nth M 3 rfl) rfl (T.ev 0 rfl) rfl) ?_; clear T ac; intro ac T
          refine l_q T (wanted_yes rfl rfl (T.ev 4 rfl) (decide_eq_true h10)) rfl rfl rfl (rn_move rfl (T.ev 21 rfl)) ?_; clear T ac; intro ac T
          refine l_q T (wanted_yes rfl rfl (T.ev 5 rfl) (decide_eq_true h10)) rfl rfl rfl (rn_add rfl (T.ev 0 rfl) evc (by omega)) ?_; clear T ac; intro ac T
          refine l_q (v := (.pointer (some ⟨g1, 6, none⟩))) T (wanted_yes rfl rfl (T.ev 6 rfl) (decide_eq_true h10)) rfl rfl rfl (rn_fieldAddr (off := 6) rfl (T.ev 25 rfl) (fun _ _ _ => by kernel_rfl)) ?_; clear T ac; intro ac T
          refine l_q (v := (.pointer (some ⟨g1, 12, none⟩))) T (wanted_yes rfl rfl (T.ev 7 rfl) (decide_eq_true h10)) rfl rfl rfl (rn_fieldAddr (off := 6) rfl (T.ev 0 rfl) (fun _ _ _ => by kernel_rfl)) ?_; clear T ac; intro ac T
          refine l_q (v := (.pointer (some ⟨g1, 13, none⟩))) T (wanted_yes rfl rfl (T.ev 8 rfl) (decide_eq_true h10)) rfl rfl rfl (rn_fieldAddr (off := 1) rfl (T.ev 0 rfl) (fun _ _ _ => by kernel_rfl)) ?_; clear T ac; intro ac T
          refine l_q T (wanted_yes rfl rfl (T.ev 9 rfl) (decide_eq_true h10)) rfl rfl rfl (rn_one (Mem.nth M 3 rfl) rfl (T.ev 0 rfl) rfl) ?_; clear T ac; intro ac T
          refine l_q T (wanted_yes rfl rfl (T.ev 10 rfl) (decide_eq_true h10)) rfl rfl rfl (rn_mul rfl (T.ev 4 rfl) (T.ev 0 rfl) (by omega)) ?_; clear T ac; intro ac T
          refine l_q T (wanted_yes rfl rfl (T.ev 11 rfl) (decide_eq_true h10)) rfl rfl rfl (rn_sub rfl (T.ev 7 rfl) (T.ev 0 rfl) (by omega)) ?_; clear T ac; intro ac T
          refine l_q (v := (.pointer (some ⟨g1, 6, none⟩))) T (wanted_yes rfl rfl (T.ev 12 rfl) (decide_eq_true h10)) rfl rfl rfl (rn_fieldAddr (off := 6) rfl (T.ev 31 rfl) (fun _ _ _ => by kernel_rfl)) ?_; clear T ac; intro ac T
          refine l_q (v := (.pointer (some ⟨g1, 14, none⟩))) T (wanted_yes rfl rfl (T.ev 13 rfl) (decide_eq_true h10)) rfl rfl rfl (rn_fieldAddr (off := 8) rfl (T.ev 0 rfl) (fun _ _ _ => by kernel_rfl)) ?_; clear T ac; intro ac T
          refine l_q T (wanted_yes rfl rfl (T.ev 14 rfl) (decide_eq_true h10)) rfl rfl rfl (rn_one (Mem.nth M 3 rfl) rfl (T.ev 0 rfl) rfl) ?_; clear T ac; intro ac T
          refine l_q T (wanted_yes rfl rfl (T.ev 15 rfl) (decide_eq_true h10)) rfl rfl rfl (rn_geq rfl (T.ev 3 rfl) (T.ev 0 rfl)) ?_; clear T ac; intro ac T
          refine l_q T rfl rfl rfl rfl (rn_pick1 rfl (T.ev 16 rfl) (decide_eq_true h10) (T.ev 0 rfl)) ?_; clear T ac; intro ac T
          refine wpList_nil ?_
          replace T := T.pick [0, 1, 2, 3, 4, 5, 6, 7, 8, 9, 10, 11, 12, 13, 14, 15, 16, 33, 34, 35, 36, 37, 38, 39, 40, 41, 42] rfl
          exact ⟨(T.pick (E' := [(3, .int .i64 t), (4, .int .i64 r), (5, .int .i64 (n : Int)), (6, .pointer (some ⟨g1, 0, none⟩)), (7, .pointer (some ⟨g2, 0, none⟩)), (8, .pointer (some ⟨g3, 0, none⟩)), (13, .int .i64 V), (14, .int .i64 R), (15, .pointer (some ⟨g4, 0, none⟩)), (16, .int .i64 ((n : Int) + 1)), (144, .bool (decide (j.le ≤ (j.r0 - ((r + 1) * j.b1)))))]) [17, 18, 19, 20, 21, 22, 23, 24, 25, 26, 0] rfl).as (by (try rw [show (decide (j.le ≤ (j.t0 - (t * j.a1)))) = true from (decide_eq_true h10)]); rfl), M.mask [true, true, true, true] rfl⟩
         ·replace h10 := of_decide_eq_false h10
          refine l_pass T (wanted_no rfl rfl (T.ev 0 rfl) (decide_eq_false h10)) rfl rfl rfl ?_; clear T ac; intro ac T
          refine l_pass T (wanted_no rfl rfl (T.ev 1 rfl) (decide_eq_false h10)) rfl rfl rfl ?_; clear T ac; intro ac T
          refine l_pass T (wanted_no rfl rfl (T.ev 2 rfl) (decide_eq_false h10)) rfl rfl rfl ?_; clear T ac; intro ac T
          refine l_pass T (wanted_no rfl rfl (T.ev 3 rfl) (decide_eq_false h10)) rfl rfl rfl ?_; clear T ac; intro ac T
          refine l_pass T (wanted_no rfl rfl (T.ev 4 rfl) (decide_eq_false h10)) rfl rfl rfl ?_; clear T ac; intro ac T
          refine l_pass T (wanted_no rfl rfl (T.ev 5 rfl) (decide_eq_false h10)) rfl rfl rfl ?_; clear T ac; intro ac T
          refine l_pass T (wanted_no rfl rfl (T.ev 6 rfl) (decide_eq_false h10)) rfl rfl rfl ?_; clear T ac; intro ac T
          refine l_pass T (wanted_no rfl rfl (T.ev 7 rfl) (decide_eq_false h10)) rfl rfl rfl ?_; clear T ac; intro ac T
          refine l_pass T (wanted_no rfl rfl (T.ev 8 rfl) (decide_eq_false h10)) rfl rfl rfl ?_; clear T ac; intro ac T
          refine l_pass T (wanted_no rfl rfl (T.ev 9 rfl) (decide_eq_false h10)) rfl rfl rfl ?_; clear T ac; intro ac T
          refine l_pass T (wanted_no rfl rfl (T.ev 10 rfl) (decide_eq_false h10)) rfl rfl rfl ?_; clear T ac; intro ac T
          refine l_pass T (wanted_no rfl rfl (T.ev 11 rfl) (decide_eq_false h10)) rfl rfl rfl ?_; clear T ac; intro ac T
          refine l_pass T (wanted_no rfl rfl (T.ev 12 rfl) (decide_eq_false h10)) rfl rfl rfl ?_; clear T ac; intro ac T
          refine l_pass T (wanted_no rfl rfl (T.ev 13 rfl) (decide_eq_false h10)) rfl rfl rfl ?_; clear T ac; intro ac T
          refine l_pass T (wanted_no rfl rfl (T.ev 14 rfl) (decide_eq_false h10)) rfl rfl rfl ?_; clear T ac; intro ac T
          refine l_pass T (wanted_no rfl rfl (T.ev 15 rfl) (decide_eq_false h10)) rfl rfl rfl ?_; clear T ac; intro ac T
          refine l_q T rfl rfl rfl rfl (rn_pick0 rfl (T.ev 16 rfl) (decide_eq_false h10) evc) ?_; clear T ac; intro ac T
          refine wpList_nil ?_
          replace T := T.pick [0, 1, 2, 3, 4, 5, 6, 7, 8, 9, 10, 11, 12, 13, 14, 15, 16, 33, 34, 35, 36, 37, 38, 39, 40, 41, 42] rfl
          exact ⟨(T.pick (E' := [(3, .int .i64 t), (4, .int .i64 r), (5, .int .i64 (n : Int)), (6, .pointer (some ⟨g1, 0, none⟩)), (7, .pointer (some ⟨g2, 0, none⟩)), (8, .pointer (some ⟨g3, 0, none⟩)), (13, .int .i64 V), (14, .int .i64 R), (15, .pointer (some ⟨g4, 0, none⟩)), (16, .int .i64 ((n : Int) + 1)), (144, .bool false)]) [17, 18, 19, 20, 21, 22, 23, 24, 25, 26, 0] rfl).as (by (try rw [show (decide (j.le ≤ (j.t0 - (t * j.a1)))) = false from (decide_eq_false h10)]); rfl), M.mask [true, true, true, true] rfl⟩
        ·clear T M
         rintro ac wc ⟨T, M⟩
         refine wp_cond_split (T.ev 10 rfl) ?_ ?_
         ·intro h11
          (try have h11' := h11; try simp only [Bool.and_eq_true, Bool.or_eq_true, Bool.not_eq_true', Bool.and_eq_false_imp, Bool.or_eq_false_iff, decide_eq_true_eq, decide_eq_false_iff_not] at h11')
          refine g_start2 M (M.mask [true, true, true, true] rfl) 27 (by kernel_rfl) rfl (by kernel_rfl) ?_
          clear M; intro wc M
          refine g_q (T := T) (i := 0) rfl (by kernel_rfl) (by kernel_rfl : (pbits 27 0).setIfInBounds 0 true = pbits 27 1) si_U (fun _ _ _ h => h) rfl rfl rfl rfl (fun _ _ _ _ _ => (rn_move rfl (T.ev 9 rfl))) ?_; clear T ac; intro ac T
          refine g_q (T := T) (i := 1) rfl (by kernel_rfl) (by kernel_rfl : (pbits 27 1).setIfInBounds 1 true = pbits 27 3) si_U (fun _ _ _ h => h) rfl rfl rfl rfl (fun B w' hD hl hS => (rn_rowO (Mem.nth (show Mem w noEx w' _ from hS) 3 rfl) rfl (T.ev 4 rfl) rfl)) ?_; clear T ac; intro ac T
          refine g_q (T := T) (i := 2) rfl (by kernel_rfl) (by kernel_rfl : (pbits 27 3).setIfInBounds 2 true = pbits 27 7) si_U (fun _ _ _ h => h) rfl rfl rfl rfl (fun B w' hD hl hS => (rn_rowO (Mem.nth (show Mem w noEx w' _ from hS) 2 rfl) rfl (T.ev 6 rfl) rfl)) ?_; clear T ac; intro ac T
          refine g_q (v := (.pointer (some ⟨g4, 0, none⟩))) (T := T) (i := 3) rfl (by kernel_rfl) (by kernel_rfl : (pbits 27 7).setIfInBounds 3 true = pbits 27 15) si_U (fun _ _ _ h => h) rfl rfl rfl rfl (fun _ _ _ _ _ => (rn_fieldAddr (off := 0) rfl (T.ev 11 rfl) (fun _ _ _ => by kernel_rfl))) ?_; clear T ac; intro ac T
          refine g_q (T := T) (i := 4) rfl (by kernel_rfl) (by kernel_rfl : (pbits 27 15).setIfInBounds 4 true = pbits 27 31) si_U (fun _ _ _ h => h) rfl rfl rfl rfl (fun B w' hD hl hS => (rn_one (Mem.nth (show Mem w noEx w' _ from hS) 0 rfl) rfl (T.ev 0 rfl) rfl)) ?_; clear T ac; intro ac T
          refine g_q (v := (.pointer (some ⟨g1, 6, none⟩))) (T := T) (i := 5) rfl (by kernel_rfl) (by kernel_rfl : (pbits 27 31).setIfInBounds 5 true = pbits 27 63) si_U (fun _ _ _ h => h) rfl rfl rfl rfl (fun _ _ _ _ _ => (rn_fieldAddr (off := 6) rfl (T.ev 8 rfl) (fun _ _ _ => by kernel_rfl))) ?_; clear T ac; intro ac T
          refine g_q (v := (.pointer (some ⟨g1, 8, none⟩))) (T := T) (i := 6) rfl (by kernel_rfl) (by kernel_rfl : (pbits 27 63).setIfInBounds 6 true = pbits 27 127) si_U (fun _ _ _ h => h) rfl rfl rfl rfl (fun _ _ _ _ _ => (rn_fieldAddr (off := 2) rfl (T.ev 0 rfl) (fun _ _ _ => by kernel_rfl))) ?_; clear T ac; intro ac T
          refine g_q (v := (.pointer (some ⟨g1, 9, none⟩))) (T := T) (i := 7) rfl (by kernel_rfl) (by kernel_rfl : (pbits 27 127).setIfInBounds 7 true = pbits 27 255) si_U (fun _ _ _ h => h) rfl rfl rfl rfl (fun _ _ _ _ _ => (rn_fieldAddr (off := 1) rfl (T.ev 0 rfl) (fun _ _ _ => by kernel_rfl))) ?_; clear T ac; intro ac T
          refine g_q (T := T) (i := 8) rfl (by kernel_rfl) (by kernel_rfl : (pbits 27 255).setIfInBounds 8 true = pbits 27 511) si_U (fun _ _ _ h => h) rfl rfl rfl rfl (fun B w' hD hl hS => (rn_one (Mem.nth (show Mem w noEx w' _ from hS) 3 rfl) rfl (T.ev 0 rfl) rfl)) ?_; clear T ac; intro ac T
          refine g_q (T := T) (i := 9) rfl (by kernel_rfl) (by kernel_rfl : (pbits 27 511).setIfInBounds 9 true = pbits 27 1023) si_U (fun _ _ _ h => h) rfl rfl rfl rfl (fun _ _ _ _ _ => (rn_sub rfl (T.ev 4 rfl) (T.ev 0 rfl) (by omega))) ?_; clear T ac; intro ac T
          refine g_q (v := (.pointer (some ⟨g4, 1, none⟩))) (T := T) (i := 10) rfl (by kernel_rfl) (by kernel_rfl : (pbits 27 1023).setIfInBounds 10 true = pbits 27 2047) si_U (fun _ _ _ h => h) rfl rfl rfl rfl (fun _ _ _ _ _ => (rn_fieldAddr (off := 1) rfl (T.ev 18 rfl) (fun _ _ _ => by kernel_rfl))) ?_; clear T ac; intro ac T
          refine g_q (T := T) (i := 11) rfl (by kernel_rfl) (by kernel_rfl : (pbits 27 2047).setIfInBounds 11 true = pbits 27 4095) si_U (fun _ _ _ h => h) rfl rfl rfl rfl (fun B w' hD hl hS => (rn_one (Mem.nth (show Mem w noEx w' _ from hS) 0 rfl) rfl (T.ev 0 rfl) rfl)) ?_; clear T ac; intro ac T
          refine g_q (v := (.pointer (some ⟨g1, 6, none⟩))) (T := T) (i := 12) rfl (by kernel_rfl) (by kernel_rfl : (pbits 27 4095).setIfInBounds 12 true = pbits 27 8191) si_U (fun _ _ _ h => h) rfl rfl rfl rfl (fun _ _ _ _ _ => (rn_fieldAddr (off := 6) rfl (T.ev 15 rfl) (fun _ _ _ => by kernel_rfl))) ?_; clear T ac; intro ac T
          refine g_q (v := (.pointer (some ⟨g1, 8, none⟩))) (T := T) (i := 13) rfl (by kernel_rfl) (by kernel_rfl : (pbits 27 8191).setIfInBounds 13 true = pbits 27 16383) si_U (fun _ _ _ h => h) rfl rfl rfl rfl (fun _ _ _ _ _ => (rn_fieldAddr (off := 2) rfl (T.ev 0 rfl) (fun _ _ _ => by kernel_rfl))) ?_; clear T ac; intro ac T
          refine g_q (v := (.pointer (some ⟨g1, 8, none⟩))) (T := T) (i := 14) rfl (by kernel_rfl) (by kernel_rfl : (pbits 27 16383).setIfInBounds 14 true = pbits 27 32767) si_U (fun _ _ _ h => h) rfl rfl rfl rfl (fun _ _ _ _ _ => (rn_fieldAddr (off := 0) rfl (T.ev 0 rfl) (fun _ _ _ => by kernel_rfl))) ?_; clear T ac; intro ac T
          refine g_q (T := T) (i := 15) rfl (by kernel_rfl) (by kernel_rfl : (pbits 27 32767).setIfInBounds 15 true = pbits 27 65535) si_U (fun _ _ _ h => h) rfl rfl rfl rfl (fun B w' hD hl hS => (rn_one (Mem.nth (show Mem w noEx w' _ from hS) 3 rfl) rfl (T.ev 0 rfl) rfl)) ?_; clear T ac; intro ac T
          refine g_q (T := T) (i := 16) rfl (by kernel_rfl) (by kernel_rfl : (pbits 27 65535).setIfInBounds 16 true = pbits 27 131071) si_U (fun _ _ _ h => h) rfl rfl rfl rfl (fun _ _ _ _ _ => (rn_sub rfl (T.ev 4 rfl) (T.ev 0 rfl) (by omega))) ?_; clear T ac; intro ac T
          refine g_q (T := T) (i := 18) rfl (by kernel_rfl) (by kernel_rfl : (pbits 27 131071).setIfInBounds 18 true = pbits 27 393215) si_U (fun _ _ _ h => h) rfl rfl rfl rfl (fun _ _ _ _ _ => (rn_move rfl (T.ev 17 rfl))) ?_; clear T ac; intro ac T
          refine g_q (T := T) (i := 19) rfl (by kernel_rfl) (by kernel_rfl : (pbits 27 393215).setIfInBounds 19 true = pbits 27 917503) si_U (fun _ _ _ h => h) rfl rfl rfl rfl (fun _ _ _ _ _ => (rn_move rfl (T.ev 19 rfl))) ?_; clear T ac; intro ac T
          refine g_q (T := T) (i := 20) rfl (by kernel_rfl) (by kernel_rfl : (pbits 27 917503).setIfInBounds 20 true = pbits 27 1966079) si_U (fun _ _ _ h => h) rfl rfl rfl rfl (fun _ _ _ _ _ => (rn_add rfl (T.ev 0 rfl) evc (by omega))) ?_; clear T ac; intro ac T
          refine g_q (T := T) (i := 21) rfl (by kernel_rfl) (by kernel_rfl : (pbits 27 1966079).setIfInBounds 21 true = pbits 27 4063231) si_U (fun _ _ _ h => h) rfl rfl rfl rfl (fun _ _ _ _ _ => (rn_move rfl (T.ev 22 rfl))) ?_; clear T ac; intro ac T
          refine g_q (T := T) (i := 22) rfl (by kernel_rfl) (by kernel_rfl : (pbits 27 4063231).setIfInBounds 22 true = pbits 27 8257535) si_U (fun _ _ _ h => h) rfl rfl rfl rfl (fun _ _ _ _ _ => (rn_sub rfl (T.ev 0 rfl) evc (by omega))) ?_; clear T ac; intro ac T
          refine g_w (i := 17) (by kernel_rfl) rfl (by kernel_rfl : (pbits 27 8257535).setIfInBounds 17 true = pbits 27 8388607) rfl ?_; intro K hK
          refine ow_call (first := []) (cap := []) T rfl rfl rfl rfl evf (.cons (T.ev 12 rfl) (.cons (T.ev 5 rfl) .nil)) Try.func31 rfl rfl ?_
          refine Calls.mono (to_any ((max p0 (R - j.me)) - j.d1) ((min p1 (R + j.me)) - j.d0) _) ?_
          clear T
          rintro e wc ⟨rfl, hb⟩
          intro ac T
          replace M := M.call hb; clear hb
          refine sh_out hK _ _ (M.mask [true, true, true, true] rfl) ?_; clear hK K
          refine g_w (i := 23) (by kernel_rfl) rfl (by kernel_rfl : (pbits 27 8388607).setIfInBounds 23 true = pbits 27 16777215) rfl ?_; intro K hK
          refine ow_call (first := []) (cap := []) T rfl rfl rfl rfl evf (.cons (T.ev 21 rfl) (.cons (T.ev 20 rfl) (.cons (T.ev 0 rfl) (.cons (T.ev 5 rfl) (.cons (T.ev 3 rfl) (.cons (T.ev 1 rfl) .nil)))))) Try.func35 rfl rfl ?_
          refine Calls.mono (Calls.cast (by rw [show ((q : Nat) : Int) = ((n : Nat) : Int) - 1 by omega]; rfl) (ih q (by omega) ((max p0 (R - j.me)) - j.d1) ((min p1 (R + j.me)) - j.d0) t (r + 1) _ (by omega) (by constructor <;> omega))) ?_
          clear T
          rintro e wc ⟨vbu8, rfl, hNvbu8, hb⟩
          intro ac T
          replace M := M.call hb; clear hb
          have hlu8 := hNvbu8.lo
          have hhu8 := hNvbu8.hi
          refine sh_out hK _ _ (M.mask [true, true, true, true] rfl) ?_; clear hK K
          refine g_q (T := T) (i := 24) rfl (by kernel_rfl) (by kernel_rfl : (pbits 27 16777215).setIfInBounds 24 true = pbits 27 33554431) si_U (fun _ _ _ h => h) rfl rfl rfl rfl (fun _ _ _ _ _ => (rn_add rfl evc (T.ev 0 rfl) (by omega))) ?_; clear T ac; intro ac T
          refine g_q (T := T) (i := 25) rfl (by kernel_rfl) (by kernel_rfl : (pbits 27 33554431).setIfInBounds 25 true = pbits 27 67108863) si_U (fun _ _ _ h => h) rfl rfl rfl rfl (fun _ _ _ _ _ => (rn_min2 rfl (T.ev 24 rfl) (T.ev 0 rfl))) ?_; clear T ac; intro ac T
          refine g_q (v := (.int .i64 (min ((n : Int) + 1) (1 + vbu8)))) (T := T.pick [0, 1, 2, 3, 4, 5, 6, 7, 8, 9, 10, 11, 12, 13, 14, 15, 16, 17, 18, 19, 20, 21, 22, 23, 24, 25, 26, 27, 28, 29, 30, 31, 32, 33, 34, 36] rfl) (i := 26) rfl (by kernel_rfl) (by kernel_rfl : (pbits 27 67108863).setIfInBounds 26 true = pbits 27 134217727) si_U (fun _ _ _ h => h) rfl rfl rfl rfl (fun _ _ _ _ _ => (rn_assign rfl (T.ev 0 rfl))) ?_; clear T ac; intro ac T
          refine g_done (by kernel_rfl) ?_
          replace T := T.pick [0, 27, 28, 29, 30, 31, 32, 33, 34] rfl
          replace M := M.mask [false, true, true, true] rfl
          refine nm_then ?_
          refine wp_seq ?_
          refine wp_region_lit ?_
          refine l_q T rfl rfl rfl rfl (rn_move rfl (T.ev 7 rfl)) ?_; clear T ac; intro ac T
          refine l_q T rfl rfl rfl rfl (rn_move rfl (T.ev 1 rfl)) ?_; clear T ac; intro ac T
          refine l_q T rfl rfl rfl rfl (rn_max2 rfl (T.ev 1 rfl) (T.ev 0 rfl)) ?_; clear T ac; intro ac T
          refine l_q (v := (.int .i64 (max V (min ((n : Int) + 1) (1 + vbu8))))) (T.pick [0, 1, 2, 3, 4, 5, 6, 7, 8, 9, 11] rfl) rfl rfl rfl rfl (rn_assign rfl (T.ev 0 rfl)) ?_; clear T ac; intro ac T
          refine wpList_nil ?_
          replace T := T.pick [0, 5, 6, 7, 8, 9, 10, 11] rfl
          refine nm_then ?_
          refine wp_seq ?_
          refine wp_region_lit ?_
          refine l_q T rfl rfl rfl rfl (rn_move rfl (T.ev 0 rfl)) ?_; clear T ac; intro ac T
          refine l_q T rfl rfl rfl rfl (rn_move rfl (T.ev 4 rfl)) ?_; clear T ac; intro ac T
          refine l_q T rfl rfl rfl rfl (rn_gtr rfl (T.ev 1 rfl) (T.ev 0 rfl)) ?_; clear T ac; intro ac T
          refine wpList_nil ?_
          replace T := T.pick [0, 3, 4, 5, 6, 7, 8, 9, 10] rfl
          refine nm_then ?_
          refine wp_if (T.ev 0 rfl) ?_ ?_
          ·intro h12
           refine wp_seq ?_
           refine wp_region_lit ?_
           refine l_q T rfl rfl rfl rfl (rn_move rfl (T.ev 1 rfl)) ?_; clear T ac; intro ac T
           refine l_q T rfl rfl rfl rfl (rn_assign rfl (T.ev 0 rfl)) ?_; clear T ac; intro ac T
           refine wpList_nil ?_
           replace T := T.pick [0] rfl
           replace M := M.mask [false, false, false] rfl
           refine nm_then ?_
           refine wp_ret ?_
           refine rt_blk ?_
           refine rt_then ?_
           refine rt_then ?_
           refine rt_blk ?_
           refine rt_then ?_
           refine rt_1 T rfl (T.ev 0 rfl) ?_
           have hhb : hasB (winS j).1 (winS j).2 (max p0 (R - j.me)) (min p1 (R + j.me)) = false := (hw (max p0 (R - j.me)) (min p1 (R + j.me)) (by omega)).symm.trans h2
           have hq9 : n = q + 1 := by omega
           have hS9 : Need (fun m => stopsP j (winS j).1 (winS j).2 m (max p0 (R - j.me)) (min p1 (R + j.me)) t r) n (min ((n : Int) + 1) (1 + vbu8)) := by
             subst hq9
             refine Need.stop (c1 := false) (c2 := true) (v1 := 0) (v2 := vbu8) hhb (((okT_dec hj (by omega) (by omega)).trans h5).symm) (((okT_dec hj (by omega) (by omega)).trans h11).symm) (fun h8 => by cases h8) (fun h8 => hNvbu8) ?_
             simp only [if_true, Bool.false_eq_true, if_false]
             omega
           have hN9 : Need (readsK j (winS j).1 (winS j).2 p0 p1 t r (k + 1)) n (max V (min ((n : Int) + 1) (1 + vbu8))) := (hN.max hS9).congr (fun m => by rw [readsK_succ, e1, e2])
           exact ⟨_, rfl, hN9.exit (by omega) (by omega), M.below⟩
          ·intro h12
           refine wp_skip ?_
           refine nm_blk ?_
           refine nm_then ?_
           refine wp_region_lit ?_
           refine l_q T rfl rfl rfl rfl (rn_move rfl (T.ev 8 rfl)) ?_; clear T ac; intro ac T
           refine l_q T rfl rfl rfl rfl (rn_add rfl (T.ev 0 rfl) evc (by omega)) ?_; clear T ac; intro ac T
           refine l_q (v := (.int .i64 (R + 1))) (T.pick [0, 1, 2, 3, 4, 5, 6, 7, 8, 9] rfl) rfl rfl rfl rfl (rn_assign rfl (T.ev 0 rfl)) ?_; clear T ac; intro ac T
           refine wpList_nil ?_
           replace T := T.pick [0, 4, 5, 6, 7, 8, 9, 10] rfl
           refine nm_then ?_
           have hhb : hasB (winS j).1 (winS j).2 (max p0 (R - j.me)) (min p1 (R + j.me)) = false := (hw (max p0 (R - j.me)) (min p1 (R + j.me)) (by omega)).symm.trans h2
           have hq9 : n = q + 1 := by omega
           have hS9 : Need (fun m => stopsP j (winS j).1 (winS j).2 m (max p0 (R - j.me)) (min p1 (R + j.me)) t r) n (min ((n : Int) + 1) (1 + vbu8)) := by
             subst hq9
             refine Need.stop (c1 := false) (c2 := true) (v1 := 0) (v2 := vbu8) hhb (((okT_dec hj (by omega) (by omega)).trans h5).symm) (((okT_dec hj (by omega) (by omega)).trans h11).symm) (fun h8 => by cases h8) (fun h8 => hNvbu8) ?_
             simp only [if_true, Bool.false_eq_true, if_false]
             omega
           have hN9 : Need (readsK j (winS j).1 (winS j).2 p0 p1 t r (k + 1)) n (max V (min ((n : Int) + 1) (1 + vbu8))) := (hN.max hS9).congr (fun m => by rw [readsK_succ, e1, e2])
           exact ⟨_, by omega, k + 1, _, (max V (min ((n : Int) + 1) (1 + vbu8))), rfl, (by omega), (by omega), hN9, (by omega), T.pick [2, 3, 4, 5, 6, 7, 1, 0] rfl, M.mask [true, true, true] rfl⟩
         ·intro h11
          (try have h11' := h11; try simp only [Bool.and_eq_true, Bool.or_eq_true, Bool.not_eq_true', Bool.and_eq_false_imp, Bool.or_eq_false_iff, decide_eq_true_eq, decide_eq_false_iff_not] at h11')
          refine wp_skip ?_
          refine nm_then ?_
          refine wp_seq ?_
          refine wp_region_lit ?_
          refine l_q T rfl rfl rfl rfl (rn_move rfl (T.ev 6 rfl)) ?_; clear T ac; intro ac T
          refine l_q T rfl rfl rfl rfl (rn_move rfl (T.ev 10 rfl)) ?_; clear T ac; intro ac T
          refine l_q T rfl rfl rfl rfl (rn_max2 rfl (T.ev 1 rfl) (T.ev 0 rfl)) ?_; clear T ac; intro ac T
          refine l_q (v := (.int .i64 (max V ((n : Int) + 1)))) (T.pick [0, 1, 2, 3, 4, 5, 6, 7, 8, 10, 11, 12, 13] rfl) rfl rfl rfl rfl (rn_assign rfl (T.ev 0 rfl)) ?_; clear T ac; intro ac T
          refine wpList_nil ?_
          replace T := T.pick [0, 4, 5, 6, 7, 8, 9, 10] rfl
          replace M := M.mask [false, true, true, true] rfl
          refine nm_then ?_
          refine wp_seq ?_
          refine wp_region_lit ?_
          refine l_q T rfl rfl rfl rfl (rn_move rfl (T.ev 0 rfl)) ?_; clear T ac; intro ac T
          refine l_q T rfl rfl rfl rfl (rn_move rfl (T.ev 4 rfl)) ?_; clear T ac; intro ac T
          refine l_q T rfl rfl rfl rfl (rn_gtr rfl (T.ev 1 rfl) (T.ev 0 rfl)) ?_; clear T ac; intro ac T
          refine wpList_nil ?_
          replace T := T.pick [0, 3, 4, 5, 6, 7, 8, 9, 10] rfl
          refine nm_then ?_
          refine wp_if (T.ev 0 rfl) ?_ ?_
          ·intro h13
           refine wp_seq ?_
           refine wp_region_lit ?_
           refine l_q T rfl rfl rfl rfl (rn_move rfl (T.ev 1 rfl)) ?_; clear T ac; intro ac T
           refine l_q T rfl rfl rfl rfl (rn_assign rfl (T.ev 0 rfl)) ?_; clear T ac; intro ac T
           refine wpList_nil ?_
           replace T := T.pick [0] rfl
           replace M := M.mask [false, false, false] rfl
           refine nm_then ?_
           refine wp_ret ?_
           refine rt_blk ?_
           refine rt_then ?_
           refine rt_then ?_
           refine rt_blk ?_
           refine rt_then ?_
           refine rt_1 T rfl (T.ev 0 rfl) ?_
           have hhb : hasB (winS j).1 (winS j).2 (max p0 (R - j.me)) (min p1 (R + j.me)) = false := (hw (max p0 (R - j.me)) (min p1 (R + j.me)) (by omega)).symm.trans h2
           have hq9 : n = q + 1 := by omega
           have hS9 : Need (fun m => stopsP j (winS j).1 (winS j).2 m (max p0 (R - j.me)) (min p1 (R + j.me)) t r) n ((n : Int) + 1) := by
             subst hq9
             refine Need.stop (c1 := false) (c2 := false) (v1 := 0) (v2 := 0) hhb (((okT_dec hj (by omega) (by omega)).trans h5).symm) (((okT_dec hj (by omega) (by omega)).trans h11).symm) (fun h8 => by cases h8) (fun h8 => by cases h8) ?_
             simp only [if_true, Bool.false_eq_true, if_false]
             omega
           have hN9 : Need (readsK j (winS j).1 (winS j).2 p0 p1 t r (k + 1)) n (max V ((n : Int) + 1)) := (hN.max hS9).congr (fun m => by rw [readsK_succ, e1, e2])
           exact ⟨_, rfl, hN9.exit (by omega) (by omega), M.below⟩
          ·intro h13
           refine wp_skip ?_
           refine nm_blk ?_
           refine nm_then ?_
           refine wp_region_lit ?_
           refine l_q T rfl rfl rfl rfl (rn_move rfl (T.ev 8 rfl)) ?_; clear T ac; intro ac T
           refine l_q T rfl rfl rfl rfl (rn_add rfl (T.ev 0 rfl) evc (by omega)) ?_; clear T ac; intro ac T
           refine l_q (v := (.int .i64 (R + 1))) (T.pick [0, 1, 2, 3, 4, 5, 6, 7, 8, 9] rfl) rfl rfl rfl rfl (rn_assign rfl (T.ev 0 rfl)) ?_; clear T ac; intro ac T
           refine wpList_nil ?_
           replace T := T.pick [0, 4, 5, 6, 7, 8, 9, 10] rfl
           refine nm_then ?_
           have hhb : hasB (winS j).1 (winS j).2 (max p0 (R - j.me)) (min p1 (R + j.me)) = false := (hw (max p0 (R - j.me)) (min p1 (R + j.me)) (by omega)).symm.trans h2
           have hq9 : n = q + 1 := by omega
           have hS9 : Need (fun m => stopsP j (winS j).1 (winS j).2 m (max p0 (R - j.me)) (min p1 (R + j.me)) t r) n ((n : Int) + 1) := by
             subst hq9
             refine Need.stop (c1 := false) (c2 := false) (v1 := 0) (v2 := 0) hhb (((okT_dec hj (by omega) (by omega)).trans h5).symm) (((okT_dec hj (by omega) (by omega)).trans h11).symm) (fun h8 => by cases h8) (fun h8 => by cases h8) ?_
             simp only [if_true, Bool.false_eq_true, if_false]
             omega
           have hN9 : Need (readsK j (winS j).1 (winS j).2 p0 p1 t r (k + 1)) n (max V ((n : Int) + 1)) := (hN.max hS9).congr (fun m => by rw [readsK_succ, e1, e2])
           exact ⟨_, by omega, k + 1, _, (max V ((n : Int) + 1)), rfl, (by omega), (by omega), hN9, (by omega), T.pick [2, 3, 4, 5, 6, 7, 1, 0] rfl, M.mask [true, true, true] rfl⟩
     ·intro h3
      refine wp_skip ?_
      refine nm_then ?_
      refine wp_seq ?_
      refine wp_region_lit ?_
      refine l_q T rfl rfl rfl rfl (rn_move rfl (T.ev 9 rfl)) ?_; clear T ac; intro ac T
      refine l_q T rfl rfl rfl rfl (rn_move rfl (T.ev 2 rfl)) ?_; clear T ac; intro ac T
      refine l_q T rfl rfl rfl rfl (rn_max2 rfl (T.ev 1 rfl) (T.ev 0 rfl)) ?_; clear T ac; intro ac T
      refine l_q (v := (.int .i64 (max V ((n : Int) + 1)))) (T.pick [0, 1, 2, 3, 4, 5, 6, 7, 8, 9, 10, 11, 13] rfl) rfl rfl rfl rfl (rn_assign rfl (T.ev 0 rfl)) ?_; clear T ac; intro ac T
      refine wpList_nil ?_
      replace T := T.pick [0, 7, 8, 9, 10, 11, 12, 13] rfl
      replace M := M.mask [false, true, true, true] rfl
      refine nm_then ?_
      refine wp_seq ?_
      refine wp_region_lit ?_
      refine l_q T rfl rfl rfl rfl (rn_move rfl (T.ev 0 rfl)) ?_; clear T ac; intro ac T
      refine l_q T rfl rfl rfl rfl (rn_move rfl (T.ev 4 rfl)) ?_; clear T ac; intro ac T
      refine l_q T rfl rfl rfl rfl (rn_gtr rfl (T.ev 1 rfl) (T.ev 0 rfl)) ?_; clear T ac; intro ac T
      refine wpList_nil ?_
      replace T := T.pick [0, 3, 4, 5, 6, 7, 8, 9, 10] rfl
      refine nm_then ?_
      refine wp_if (T.ev 0 rfl) ?_ ?_
      ·intro h14
       refine wp_seq ?_
       refine wp_region_lit ?_
       refine l_q T rfl rfl rfl rfl (rn_move rfl (T.ev 1 rfl)) ?_; clear T ac; intro ac T
       refine l_q T rfl rfl rfl rfl (rn_assign rfl (T.ev 0 rfl)) ?_; clear T ac; intro ac T
       refine wpList_nil ?_
       replace T := T.pick [0] rfl
       replace M := M.mask [false, false, false] rfl
       refine nm_then ?_
       refine wp_ret ?_
       refine rt_blk ?_
       refine rt_then ?_
       refine rt_then ?_
       refine rt_blk ?_
       refine rt_then ?_
       refine rt_1 T rfl (T.ev 0 rfl) ?_
       have hhb : hasB (winS j).1 (winS j).2 (max p0 (R - j.me)) (min p1 (R + j.me)) = false := (hw (max p0 (R - j.me)) (min p1 (R + j.me)) (by omega)).symm.trans h2
       have hS9 : Need (fun m => stopsP j (winS j).1 (winS j).2 m (max p0 (R - j.me)) (min p1 (R + j.me)) t r) n ((n : Int) + 1) := by
         obtain rfl : n = 0 := by omega
         exact Need.stop0 hhb
       have hN9 : Need (readsK j (winS j).1 (winS j).2 p0 p1 t r (k + 1)) n (max V ((n : Int) + 1)) := (hN.max hS9).congr (fun m => by rw [readsK_succ, e1, e2])
       exact ⟨_, rfl, hN9.exit (by omega) (by omega), M.below⟩
      ·intro h14
       refine wp_skip ?_
       refine nm_blk ?_
       refine nm_then ?_
       refine wp_region_lit ?_
       refine l_q T rfl rfl rfl rfl (rn_move rfl (T.ev 8 rfl)) ?_; clear T ac; intro ac T
       refine l_q T rfl rfl rfl rfl (rn_add rfl (T.ev 0 rfl) evc (by omega)) ?_; clear T ac; intro ac T
       refine l_q (v := (.int .i64 (R + 1))) (T.pick [0, 1, 2, 3, 4, 5, 6, 7, 8, 9] rfl) rfl rfl rfl rfl (rn_assign rfl (T.ev 0 rfl)) ?_; clear T ac; intro ac T
       refine wpList_nil ?_
       replace T := T.pick [0, 4, 5, 6, 7, 8, 9, 10] rfl
       refine nm_then ?_
       have hhb : hasB (winS j).1 (winS j).2 (max p0 (R - j.me)) (min p1 (R + j.me)) = false := (hw (max p0 (R - j.me)) (min p1 (R + j.me)) (by omega)).symm.trans h2
       have hS9 : Need (fun m => stopsP j (winS j).1 (winS j).2 m (max p0 (R - j.me)) (min p1 (R + j.me)) t r) n ((n : Int) + 1) := by
         obtain rfl : n = 0 := by omega
         exact Need.stop0 hhb
       have hN9 : Need (readsK j (winS j).1 (winS j).2 p0 p1 t r (k + 1)) n (max V ((n : Int) + 1)) := (hN.max hS9).congr (fun m => by rw [readsK_succ, e1, e2])
       exact ⟨_, by omega, k + 1, _, (max V ((n : Int) + 1)), rfl, (by omega), (by omega), hN9, (by omega), T.pick [2, 3, 4, 5, 6, 7, 1, 0] rfl, M.mask [true, true, true] rfl⟩
   ·intro h1
    refine wp_exit ?_
    refine ex_then ?_
    refine ex_then ?_
    refine ex_hit ?_
    refine nm_then ?_
    refine wp_seq ?_
    refine wp_region_lit ?_
    refine l_q T rfl rfl rfl rfl (rn_move rfl (T.ev 7 rfl)) ?_; clear T ac; intro ac T
    refine l_q T rfl rfl rfl rfl (rn_assign rfl (T.ev 0 rfl)) ?_; clear T ac; intro ac T
    refine wpList_nil ?_
    replace T := T.pick [0] rfl
    replace M := M.mask [false, false, false] rfl
    refine nm_then ?_
    refine wp_ret ?_
    refine rt_1 T rfl (T.ev 0 rfl) ?_
    have hk9 : k = rdN p0 p1 j.me := by omega
    subst hk9
    exact ⟨_, rfl, hN.congr (fun m => readsK_all _ _ _ _ _ _ _ _), M.below⟩

theorem needs_any {j : Jb} (hj : j.good) (A : Option Addr) (c : Nat) {x0 x1 : Int} (hw : ∀ a b, a ≤ b → hasB x0 x1 a b = hasB (winS j).1 (winS j).2 a b) : ∀ n, NeedC j A c x0 x1 n
  | 0 => fun p0 p1 t r w h b => needs_of j A c x0 x1 0 p0 p1 t r w hj hw h b (fun q hq => by omega)
  | n + 1 => fun p0 p1 t r w h b => needs_of j A c x0 x1 (n + 1) p0 p1 t r w hj hw h b (fun q hq => by obtain rfl : n = q := (by omega); exact needs_any hj A c hw n)
def HearF (k : Jb) (m : Nat) (a h0 h1 : Int) : Prop := (h0 ≤ a ∧ a ≤ h1 ∧ k.p0 ≤ h0 ∧ h1 ≤ k.p1) ∧ (k.at h0 h1).good ∧ stopsP (k.at h0 h1) (winS k).1 (winS k).2 m h0 h1 0 0 = true
def HearPost (k : Jb) (m : Nat) (a : Int) (w : World) (e : Ending) (w' : World) : Prop := ∃ h0 h1 : Int, e = .returned (.tuple #[R2 h0 h1, .int .i64 0]) ∧ HearF k m a h0 h1 ∧ Below w.heap.size w w'
theorem Hear_game (k : Jb) (A : Option Addr) (c m : Nat) (a x : Int) (w : World) (hr : Rd w w.heap.size 2 A k.sh.length (rc k.sh)) (h : k.good) (hrd : readsP k (winS k).1 (winS k).2 m k.p0 k.p1 0 0 = true) (ha : k.p0 ≤ a ∧ a ≤ k.p1) (hx : -k.me ≤ x ∧ x ≤ k.me) :
    Calls Try.prog 37 #[jobV k A c, .int .i64 (a + x)] w (HearPost k m a w) := by
  have hf := h.few
  obtain ⟨h0, h1, he, hh⟩ := hear_game h hrd ha hx
  have h9 := Hear_any k A c (a + x) w hr (by omega)
  rw [he] at h9
  exact h9.mono fun e w' ⟨e1, e2⟩ => ⟨h0, h1, e1, hh, e2⟩
def NextG (k : Jb) (m : Nat) (kd lf : Int) : Prop := (0 ≤ lf ∧ lf ≤ m) ∧ (lf = 0 → kd = 0 ∧ hasB (winS k).1 (winS k).2 k.p0 k.p1 = true) ∧
  (lf ≠ 0 → (kd = 1 ∨ kd = 2) ∧ (k.le ≤ (afT k [kd]).t0 ∧ k.le ≤ (afT k [kd]).r0) ∧ readsP (k.filed kd) (winS k).1 (winS k).2 (lf - 1).toNat (k.filed kd).p0 (k.filed kd).p1 0 0 = true)
def NextPost (k : Jb) (m : Nat) (w : World) (e : Ending) (w' : World) : Prop := ∃ kd lf : Int, e = .returned (.tuple #[.int .i64 kd, .int .i64 lf, .int .i64 0]) ∧ NextG k m kd lf ∧ Below w.heap.size w w'
theorem Next_game (k : Jb) (A : Option Addr) (c m : Nat) (w : World) (hr : Rd w w.heap.size 2 A k.sh.length (rc k.sh)) (h : k.good) (hm : m ≤ 4) (hs : stopsP k (winS k).1 (winS k).2 m k.p0 k.p1 0 0 = true) :
    Calls Try.prog 26 #[jobV k A c] w (NextPost k m w) := by
  have hf := h.few
  obtain ⟨kd, lf, he, hh⟩ := next_game h hm hs
  have h9 := Next_any k A c w hr (by omega)
  rw [he] at h9
  exact h9.mono fun e w' ⟨e1, e2⟩ => ⟨kd, lf, e1, hh, e2⟩
theorem InS.filed {k : Jb} {q a b c : Int} (h : afT k [q] = k.st.filed q) (hi : InS (k.st.filed q) a b c) : InS (k.filed q).st a b c :=
  ⟨by show (afT k [q]).p0 ≤ a ∧ a ≤ (afT k [q]).p1; rw [h]; exact hi.p, by show (afT k [q]).t0 ≤ b ∧ b ≤ (afT k [q]).t1; rw [h]; exact hi.t, by show (afT k [q]).r0 ≤ c ∧ c ≤ (afT k [q]).r1; rw [h]; exact hi.r⟩
theorem good_up {k : Jb} (h : k.good) : k.st.upTo 100000 := by
  obtain ⟨g1, g2, g3, g4, g5, g6, g7, g8, -, -, -, -⟩ := h
  constructor <;> dsimp only [Jb.st] <;> omega


set_option maxRecDepth 100000 in
set_option maxHeartbeats 1000000 in
theorem ReedGame_any (D : Option Addr) (n d : Nat) (l : List Int) (w : World) (hl : Rd w w.heap.size 1 D n (ic l)) (hm : n ≤ 9223372036854775807) :
    Calls Try.prog 8 #[.slice D n d] w fun e w' => e = .returned (.bool true) ∧ Below w.heap.size w w' := by
  have hll := hl.len1
  obtain ⟨bI, oI, SI⟩ := Sp.old hl
  refine px_enter noEx Try.func8 rfl 218 rfl [.slice D n d] rfl rfl (Mem.init w _) ?_
  intro ac wc T M
  refine wp_seq ?_
  refine wp_region_lit ?_
  refine l_q T rfl rfl rfl rfl (rn_assign rfl evc) ?_; clear T ac; intro ac T
  refine wpList_nil ?_
  replace T := T.pick [1] rfl
  refine nm_then ?_
  refine wp_seq ?_
  refine wp_region_lit ?_
  refine l_q T rfl rfl rfl rfl (rn_move rfl (T.ev 0 rfl)) ?_; clear T ac; intro ac T
  refine l_w rfl ?_; intro K hK
  refine ow_call (first := []) (cap := []) T rfl rfl rfl rfl evf (.cons (T.ev 0 rfl) .nil) Try.func16 rfl rfl ?_
  refine Calls.mono (newPot_any _ _ _ l _ (SI.rd M (List.nil_sublist _)) (by omega)) ?_
  clear T
  rintro e wc ⟨bpu1, su1, hsu1, rfl, N⟩
  intro ac T
  replace M := M.join N; clear N
  replace M := M.mask [true] rfl
  refine sh_out hK _ _ ?_; clear hK K
  refine l_q T rfl rfl rfl rfl (rn_assign rfl (T.ev 0 rfl)) ?_; clear T ac; intro ac T
  refine wpList_nil ?_
  replace T := T.pick [0] rfl
  refine nm_then ?_
  refine wp_seq ?_
  refine wp_region_lit ?_
  refine l_q T rfl rfl rfl rfl (rn_move rfl (T.ev 0 rfl)) ?_; clear T ac; intro ac T
  refine l_q T rfl rfl rfl rfl (rn_move rfl (T.ev 1 rfl)) ?_; clear T ac; intro ac T
  refine l_w rfl ?_; intro K hK
  refine ow_call (first := []) (cap := []) T rfl rfl rfl rfl evf (.cons (T.ev 0 rfl) (.cons evc .nil)) Try.func28 rfl rfl ?_
  refine Calls.mono (upto_any _ bpu1 3 _ (by omega) (by omega) (M.nth 0 rfl) hsu1) ?_
  clear T
  rintro e wc ⟨xu2, su2, hxu2, hsu2, rfl, hgr, hbk⟩
  intro ac T
  replace M := M.callC (cs' := [.int .u64 su2]) .head hgr hbk
  clear hgr hbk
  refine sh_out hK _ _ ?_; clear hK K
  refine l_q T rfl rfl rfl rfl (rn_move rfl (T.ev 3 rfl)) ?_; clear T ac; intro ac T
  refine l_w rfl ?_; intro K hK
  refine ow_call (first := []) (cap := []) T rfl rfl rfl rfl evf (.cons (T.ev 0 rfl) (.cons evc .nil)) Try.func28 rfl rfl ?_
  refine Calls.mono (upto_any _ bpu1 1 _ (by omega) (by omega) (M.nth 0 rfl) hsu2) ?_
  clear T
  rintro e wc ⟨xu3, su3, hxu3, hsu3, rfl, hgr, hbk⟩
  intro ac T
  replace M := M.callC (cs' := [.int .u64 su3]) .head hgr hbk
  clear hgr hbk
  refine sh_out hK _ _ ?_; clear hK K
  refine l_w rfl ?_; intro K hK
  refine ow_call (first := []) (cap := []) T rfl rfl rfl rfl evf (.cons (T.ev 4 rfl) (.cons (T.ev 2 rfl) (.cons (T.ev 0 rfl) .nil))) Try.func17 rfl rfl ?_
  refine Calls.mono (jobOf_any _ bpu1 xu2 xu3 _ (by omega) (by omega) (by omega) (by omega) (M.nth 0 rfl) hsu3) ?_
  clear T
  rintro e wc ⟨ju4, Au4, cu4, su4, Iu4, rfl, hmu4, hsu4, hslu4, N⟩
  intro ac T
  obtain ⟨bu4, ou4, Su4⟩ := hslu4.sp (w := w) (ex := noEx) (rc_length _)
  replace M := (M.joinW .head N).swapI
  replace M := M.mask [true] rfl
  clear N hslu4
  have hgu4 := hmu4.good
  have hfewu4 := hgu4.few
  have hpu4 := hgu4.p
  have hmeu4 := hgu4.me
  refine sh_out hK _ _ ?_; clear hK K
  refine l_w rfl ?_; intro K hK
  refine ow_al M T rfl rfl rfl rfl ?_; clear M T; intro g1 wc ac M T
  refine sh_out hK _ _ ?_; clear hK K
  refine l_w rfl ?_; intro K hK
  refine ow_stO M T rfl rfl (T.ev 0 rfl) (T.ev 1 rfl) rfl .head rfl (by simp) rfl (by kernel_rfl) ?_; clear M T; intro wc ac M T
  refine sh_out hK _ _ ?_; clear hK K
  refine wpList_nil ?_
  replace T := T.pick [0, 7] rfl
  refine nm_then ?_
  refine wp_seq ?_
  refine wp_region_lit ?_
  refine l_q (v := (.pointer (some ⟨g1, 17, none⟩))) T rfl rfl rfl rfl (rn_fieldAddr (off := 17) rfl (T.ev 0 rfl) (fun _ _ _ => by kernel_rfl)) ?_; clear T ac; intro ac T
  refine l_q T rfl rfl rfl rfl (rn_one (Mem.nth M 0 rfl) rfl (T.ev 0 rfl) rfl) ?_; clear T ac; intro ac T
  refine l_q T rfl rfl rfl rfl (rn_min2 rfl (T.ev 0 rfl) evc) ?_; clear T ac; intro ac T
  refine l_q (v := (.pointer (some ⟨g1, 17, none⟩))) T rfl rfl rfl rfl (rn_fieldAddr (off := 17) rfl (T.ev 3 rfl) (fun _ _ _ => by kernel_rfl)) ?_; clear T ac; intro ac T
  refine l_w rfl ?_; intro K hK
  refine ow_stO M T rfl rfl (T.ev 0 rfl) (T.ev 1 rfl) rfl .head rfl (by simp) rfl (by kernel_rfl) ?_; clear M T; intro wc ac M T
  refine sh_out hK _ _ ?_; clear hK K
  refine wpList_nil ?_
  replace T := T.pick [4, 5] rfl
  refine nm_then ?_
  refine wp_seq ?_
  refine wp_region_lit ?_
  refine l_q T rfl rfl rfl rfl (rn_rowO (Mem.nth M 0 rfl) rfl (T.ev 0 rfl) rfl) ?_; clear T ac; intro ac T
  refine l_w rfl ?_; intro K hK
  refine ow_call (first := []) (cap := []) T rfl rfl rfl rfl evf (.cons (T.ev 0 rfl) .nil) Try.func24 rfl rfl ?_
  refine Calls.mono (Guided_any (ju4.me2) _ _ _ (Su4.rd M (.cons _ (.cons _ (List.Sublist.refl _)))) (by show ju4.sh.length ≤ _; omega)) ?_
  clear T
  rintro e wc ⟨rfl, hb⟩
  intro ac T
  replace M := M.call hb; clear hb
  obtain ⟨jm, hjm⟩ : ∃ q : Jb, q = ju4.me2 := ⟨_, rfl⟩
  rw [← hjm] at T
  have hgm : jm.good := by rw [hjm]; exact good_me2 hgu4
  have Sjm : Sp w noEx Iu4 Au4 jm.sh.length 2 bu4 ou4 (rc jm.sh) := by rw [hjm]; exact Su4
  replace M : Mem w noEx wc ((g1, .cells (jobL jm Au4 cu4)) :: (bpu1, .cells [.int .u64 su4]) :: Iu4) := by
    have e : jobL jm Au4 cu4 = [.int .i64 ju4.p0, .int .i64 ju4.p1, .int .i64 ju4.t0, .int .i64 ju4.t1, .int .i64 ju4.r0, .int .i64 ju4.r1, .int .i64 ju4.u0, .int .i64 ju4.u1, .int .i64 ju4.d0, .int .i64 ju4.d1, .int .i64 ju4.a0, .int .i64 ju4.a1, .int .i64 ju4.b0, .int .i64 ju4.b1, .int .i64 ju4.le, .slice Au4 ju4.sh.length cu4, .int .i64 ju4.wi, .int .i64 (min ju4.me 2)] := by rw [hjm]; rfl
    rw [e]; exact M
  have hpm := hgm.p
  have hmm := hgm.me
  have hfm := hgm.few
  have hlem := hgm.le
  clear hjm
  refine sh_out hK _ _ ?_; clear hK K
  refine l_q T rfl rfl rfl rfl (rn_move rfl (T.ev 0 rfl)) ?_; clear T ac; intro ac T
  refine l_q T rfl rfl rfl rfl (rn_extract rfl (T.ev 0 rfl) rfl) ?_; clear T ac; intro ac T
  refine l_q T rfl rfl rfl rfl (rn_extract rfl (T.ev 1 rfl) rfl) ?_; clear T ac; intro ac T
  refine l_q T rfl rfl rfl rfl (rn_assign rfl (T.ev 1 rfl)) ?_; clear T ac; intro ac T
  refine l_q T rfl rfl rfl rfl (rn_assign rfl (T.ev 1 rfl)) ?_; clear T ac; intro ac T
  refine wpList_nil ?_
  replace T := T.pick [0, 1, 7, 8] rfl
  refine nm_then ?_
  refine wp_seq ?_
  refine wp_region_lit ?_
  refine l_q T rfl rfl rfl rfl (rn_rowO (Mem.nth M 0 rfl) rfl (T.ev 2 rfl) rfl) ?_; clear T ac; intro ac T
  refine l_w rfl ?_; intro K hK
  refine ow_call (first := []) (cap := []) T rfl rfl rfl rfl evf (.cons (T.ev 0 rfl) .nil) Try.func33 rfl rfl ?_
  refine Calls.mono (Window_any jm _ _ _ (Sjm.rd M (.cons _ (.cons _ (List.Sublist.refl _)))) (by first | omega | (dsimp only [Jb.one]; omega))) ?_
  clear T
  rintro e wc ⟨rfl, hb⟩
  intro ac T
  replace M := M.call hb; clear hb
  refine sh_out hK _ _ ?_; clear hK K
  refine l_q T rfl rfl rfl rfl (rn_move rfl (T.ev 0 rfl)) ?_; clear T ac; intro ac T
  refine l_q T rfl rfl rfl rfl (rn_extract rfl (T.ev 0 rfl) rfl) ?_; clear T ac; intro ac T
  refine l_q T rfl rfl rfl rfl (rn_extract rfl (T.ev 1 rfl) rfl) ?_; clear T ac; intro ac T
  refine l_w rfl ?_; intro K hK
  refine ow_al M T rfl rfl rfl rfl ?_; clear M T; intro g2 wc ac M T
  refine sh_out hK _ _ ?_; clear hK K
  refine l_w rfl ?_; intro K hK
  refine ow_stO M T rfl rfl (T.ev 0 rfl) (T.ev 2 rfl) rfl .head rfl (by simp) rfl (by kernel_rfl) ?_; clear M T; intro wc ac M T
  refine sh_out hK _ _ ?_; clear hK K
  refine l_q T rfl rfl rfl rfl (rn_assign rfl (T.ev 1 rfl)) ?_; clear T ac; intro ac T
  refine wpList_nil ?_
  replace T := T.pick [0, 1, 7, 8, 9, 10] rfl
  refine nm_then ?_
  refine cut_seq (fun ac wc => Tm ac 218 [(3, .pointer (some ⟨bpu1, 0, none⟩)), (4, .pointer (some ⟨g1, 0, none⟩)), (5, .int .i64 ((guidedJ jm).1)), (6, .int .i64 ((guidedJ jm).2)), (7, .pointer (some ⟨g2, 0, none⟩))] ∧ Mem w noEx wc ((g2, .cells [.int .i64 (if ((windowJ jm).2) = 11 then 1000 else (windowJ jm).1.1), .int .i64 (if ((windowJ jm).2) = 11 then -1000 else (windowJ jm).1.2)]) :: (g1, .cells (jobL jm Au4 cu4)) :: (bpu1, .cells [.int .u64 su4]) :: Iu4)) ?_ ?_
  ·refine wp_seq ?_
   refine wp_region_lit ?_
   refine l_q T rfl rfl rfl rfl (rn_move rfl (T.ev 0 rfl)) ?_; clear T ac; intro ac T
   refine l_q T rfl rfl rfl rfl (rn_eql rfl (T.ev 0 rfl) evc) ?_; clear T ac; intro ac T
   refine wpList_nil ?_
   replace T := T.pick [0, 3, 4, 5, 6, 7] rfl
   refine nm_then ?_
   refine wp_if (T.ev 0 rfl) ?_ ?_
   ·intro h1
    refine wp_region_lit ?_
    refine l_w rfl ?_; intro K hK
    refine ow_call (first := []) (cap := []) T rfl rfl rfl rfl evf (.cons evc (.cons evc .nil)) Try.func31 rfl rfl ?_
    refine Calls.mono (to_any 1000 (-1000) _) ?_
    clear T
    rintro e wc ⟨rfl, hb⟩
    intro ac T
    replace M := M.call hb; clear hb
    refine sh_out hK _ _ ?_; clear hK K
    refine l_w rfl ?_; intro K hK
    refine ow_stO M T rfl rfl (T.ev 2 rfl) (T.ev 0 rfl) rfl .head rfl (by simp) rfl (by kernel_rfl) ?_; clear M T; intro wc ac M T
    refine sh_out hK _ _ ?_; clear hK K
    refine wpList_nil ?_
    replace T := T.pick [2, 3, 4, 5, 6] rfl
    exact ⟨(T.pick (E' := [(3, .pointer (some ⟨bpu1, 0, none⟩)), (4, .pointer (some ⟨g1, 0, none⟩)), (5, .int .i64 ((guidedJ jm).1)), (6, .int .i64 ((guidedJ jm).2)), (7, .pointer (some ⟨g2, 0, none⟩))]) [4, 3, 2, 1, 0] rfl).as (by (try rw [show (decide (((windowJ jm).2) = 11)) = true from (decide_eq_true h1)]); (try simp only [if_pos h1]); (try rfl)), (by (try rw [show (decide (((windowJ jm).2) = 11)) = true from (decide_eq_true h1)]); (try simp only [if_pos h1]); exact M.mask [true, true, true] rfl)⟩
   ·intro h1
    refine wp_skip ?_
    exact ⟨(T.pick (E' := [(3, .pointer (some ⟨bpu1, 0, none⟩)), (4, .pointer (some ⟨g1, 0, none⟩)), (5, .int .i64 ((guidedJ jm).1)), (6, .int .i64 ((guidedJ jm).2)), (7, .pointer (some ⟨g2, 0, none⟩))]) [5, 4, 3, 2, 1] rfl).as (by (try rw [show (decide (((windowJ jm).2) = 11)) = false from (decide_eq_false h1)]); (try simp only [if_neg h1]); (try rfl)), (by (try rw [show (decide (((windowJ jm).2) = 11)) = false from (decide_eq_false h1)]); (try simp only [if_neg h1]); exact M.mask [true, true, true] rfl)⟩
  ·clear T M
   rintro ac wc ⟨T, M⟩
   refine wp_seq ?_
   refine wp_region_lit ?_
   refine l_q T rfl rfl rfl rfl (rn_rowO (Mem.nth M 1 rfl) rfl (T.ev 1 rfl) rfl) ?_; clear T ac; intro ac T
   refine l_q T rfl rfl rfl rfl (rn_rowO (Mem.nth M 0 rfl) rfl (T.ev 5 rfl) rfl) ?_; clear T ac; intro ac T
   refine l_q (v := (.pointer (some ⟨g1, 0, none⟩))) T rfl rfl rfl rfl (rn_fieldAddr (off := 0) rfl (T.ev 3 rfl) (fun _ _ _ => by kernel_rfl)) ?_; clear T ac; intro ac T
   refine l_q (v := (.pointer (some ⟨g1, 0, none⟩))) T rfl rfl rfl rfl (rn_fieldAddr (off := 0) rfl (T.ev 0 rfl) (fun _ _ _ => by kernel_rfl)) ?_; clear T ac; intro ac T
   refine l_q T rfl rfl rfl rfl (rn_rowO (Mem.nth M 1 rfl) rfl (T.ev 0 rfl) rfl) ?_; clear T ac; intro ac T
   refine l_w rfl ?_; intro K hK
   refine ow_call (first := []) (cap := []) T rfl rfl rfl rfl evf (.cons (T.ev 4 rfl) (.cons (T.ev 3 rfl) (.cons (T.ev 0 rfl) (.cons evc (.cons evc (.cons evc .nil)))))) Try.func35 rfl rfl ?_
   refine Calls.mono (needs_any hgm _ _ (win_law hgm) 4 jm.p0 jm.p1 0 0 _ (by omega) (by constructor <;> omega)) ?_
   clear T
   rintro e wc ⟨vu8, rfl, hvu8, hb⟩
   intro ac T
   replace M := M.call hb; clear hb
   have hng := need_guided hgm hvu8
   have hvl := hvu8.lo
   have hvh := hvu8.hi
   refine sh_out hK _ _ ?_; clear hK K
   refine l_q T rfl rfl rfl rfl (rn_assign rfl (T.ev 0 rfl)) ?_; clear T ac; intro ac T
   refine wpList_nil ?_
   replace T := T.pick [0, 7, 8, 9, 10, 11] rfl
   refine nm_then ?_
   refine wp_seq ?_
   refine wp_seq ?_
   refine wp_region_lit ?_
   refine l_q T rfl rfl rfl rfl (rn_move rfl (T.ev 4 rfl)) ?_; clear T ac; intro ac T
   refine l_q T rfl rfl rfl rfl (rn_eql rfl (T.ev 0 rfl) evc) ?_; clear T ac; intro ac T
   refine wpList_nil ?_
   replace T := T.pick [0, 2, 3, 4, 5, 6, 7] rfl
   refine nm_then ?_
   refine wp_if (T.ev 0 rfl) ?_ ?_
   ·intro h2
    refine cut_seq (fun ac wc => Tm ac 218 [(2, .bool ((decide (4 < vu8)) && (decide (((guidedJ jm).1) = 0))))] ∧ Mem w noEx wc (Iu4)) ?_ ?_
    ·refine wp_region_lit ?_
     refine l_q T rfl rfl rfl rfl (rn_move rfl (T.ev 1 rfl)) ?_; clear T ac; intro ac T
     refine l_q T rfl rfl rfl rfl (rn_gtr rfl (T.ev 0 rfl) evc) ?_; clear T ac; intro ac T
     refine l_q T rfl rfl rfl rfl (rn_move rfl (T.ev 0 rfl)) ?_; clear T ac; intro ac T
     rcases Bool.eq_false_or_eq_true (decide (4 < vu8)) with h3 | h3
     ·replace h3 := of_decide_eq_true h3
      refine l_q T (wanted_yes rfl rfl (T.ev 0 rfl) (decide_eq_true h3)) rfl rfl rfl (rn_move rfl (T.ev 7 rfl)) ?_; clear T ac; intro ac T
      refine l_q T (wanted_yes rfl rfl (T.ev 1 rfl) (decide_eq_true h3)) rfl rfl rfl (rn_eql rfl (T.ev 0 rfl) evc) ?_; clear T ac; intro ac T
      refine l_q T rfl rfl rfl rfl (rn_pick1 rfl (T.ev 2 rfl) (decide_eq_true h3) (T.ev 0 rfl)) ?_; clear T ac; intro ac T
      refine l_q T rfl rfl rfl rfl (rn_move rfl (T.ev 0 rfl)) ?_; clear T ac; intro ac T
      rcases Bool.eq_false_or_eq_true (decide (((guidedJ jm).1) = 0)) with h4 | h4
      ·replace h4 := of_decide_eq_true h4
       refine l_w (wanted_yes rfl rfl (T.ev 0 rfl) (decide_eq_true h4)) ?_; intro K hK
       refine ow_call (first := []) (cap := []) T rfl rfl rfl rfl evf .nil Try.func15 rfl rfl ?_
       refine Calls.mono (tuned_any _) ?_
       clear T
       rintro e wc ⟨rfl, hb⟩
       intro ac T
       replace M := M.call hb; clear hb
       refine sh_out hK _ _ ?_; clear hK K
       refine l_q T rfl rfl rfl rfl (rn_pick1 rfl (T.ev 1 rfl) (decide_eq_true h4) (T.ev 0 rfl)) ?_; clear T ac; intro ac T
       refine l_q T rfl rfl rfl rfl (rn_assign rfl (T.ev 0 rfl)) ?_; clear T ac; intro ac T
       refine wpList_nil ?_
       replace T := T.pick [0] rfl
       replace M := M.mask [false, false, false] rfl
       exact ⟨(T.pick (E' := [(2, .bool true)]) [0] rfl).as (by (try rw [show (decide (4 < vu8)) = true from (decide_eq_true h3)]); (try rw [show (decide (((guidedJ jm).1) = 0)) = true from (decide_eq_true h4)]); rfl), M.mask [] rfl⟩
      ·replace h4 := of_decide_eq_false h4
       refine l_pass T (wanted_no rfl rfl (T.ev 0 rfl) (decide_eq_false h4)) rfl rfl rfl ?_; clear T ac; intro ac T
       refine l_q T rfl rfl rfl rfl (rn_pick0 rfl (T.ev 1 rfl) (decide_eq_false h4) evc) ?_; clear T ac; intro ac T
       refine l_q T rfl rfl rfl rfl (rn_assign rfl (T.ev 0 rfl)) ?_; clear T ac; intro ac T
       refine wpList_nil ?_
       replace T := T.pick [0] rfl
       replace M := M.mask [false, false, false] rfl
       exact ⟨(T.pick (E' := [(2, .bool false)]) [0] rfl).as (by (try rw [show (decide (4 < vu8)) = true from (decide_eq_true h3)]); (try rw [show (decide (((guidedJ jm).1) = 0)) = false from (decide_eq_false h4)]); rfl), M.mask [] rfl⟩
     ·replace h3 := of_decide_eq_false h3
      refine l_pass T (wanted_no rfl rfl (T.ev 0 rfl) (decide_eq_false h3)) rfl rfl rfl ?_; clear T ac; intro ac T
      refine l_pass T (wanted_no rfl rfl (T.ev 1 rfl) (decide_eq_false h3)) rfl rfl rfl ?_; clear T ac; intro ac T
      refine l_q T rfl rfl rfl rfl (rn_pick0 rfl (T.ev 2 rfl) (decide_eq_false h3) evc) ?_; clear T ac; intro ac T
      refine l_q T rfl rfl rfl rfl (rn_move rfl (T.ev 0 rfl)) ?_; clear T ac; intro ac T
      refine l_pass T (wanted_no rfl rfl (T.ev 0 rfl) rfl) rfl rfl rfl ?_; clear T ac; intro ac T
      refine l_q T rfl rfl rfl rfl (rn_pick0 rfl (T.ev 1 rfl) rfl evc) ?_; clear T ac; intro ac T
      refine l_q T rfl rfl rfl rfl (rn_assign rfl (T.ev 0 rfl)) ?_; clear T ac; intro ac T
      refine wpList_nil ?_
      replace T := T.pick [0] rfl
      replace M := M.mask [false, false, false] rfl
      exact ⟨(T.pick (E' := [(2, .bool false)]) [0] rfl).as (by (try rw [show (decide (4 < vu8)) = false from (decide_eq_false h3)]); rfl), M.mask [] rfl⟩
    ·clear T M
     rintro ac wc ⟨T, M⟩
     refine wp_ret ?_
     refine rt_then ?_
     refine rt_1 T rfl (T.ev 0 rfl) ?_
     refine ⟨ret_bool ?_, M.below⟩
     rcases hng with ⟨q1, q2, q3⟩ | ⟨q1, q2, q3⟩
     · exfalso; omega
     · simp [q1, q2]
   ·intro h2
    refine wp_skip ?_
    refine nm_then ?_
    refine wp_seq ?_
    refine cut_seq (fun ac wc => Tm ac 218 [(3, .pointer (some ⟨bpu1, 0, none⟩)), (4, .pointer (some ⟨g1, 0, none⟩)), (5, .int .i64 ((guidedJ jm).1)), (7, .pointer (some ⟨g2, 0, none⟩)), (69, .bool ((!(decide (((guidedJ jm).2) = 0))) || (!(decide (((guidedJ jm).1) = vu8)))))] ∧ Mem w noEx wc ((g2, .cells [.int .i64 (if ((windowJ jm).2) = 11 then 1000 else (windowJ jm).1.1), .int .i64 (if ((windowJ jm).2) = 11 then -1000 else (windowJ jm).1.2)]) :: (g1, .cells (jobL jm Au4 cu4)) :: (bpu1, .cells [.int .u64 su4]) :: Iu4)) ?_ ?_
    ·refine wp_region_lit ?_
     refine l_q T rfl rfl rfl rfl (rn_move rfl (T.ev 5 rfl)) ?_; clear T ac; intro ac T
     refine l_q T rfl rfl rfl rfl (rn_neq rfl (T.ev 0 rfl) evc) ?_; clear T ac; intro ac T
     refine l_q T rfl rfl rfl rfl (rn_move rfl (T.ev 0 rfl)) ?_; clear T ac; intro ac T
     rcases Bool.eq_false_or_eq_true (!(decide (((guidedJ jm).2) = 0))) with h5 | h5
     ·replace h5 : ¬ (((guidedJ jm).2) = 0) := by first | (rw [Bool.not_eq_true'] at h5; exact of_decide_eq_false h5) | simpa using h5
      refine l_pass T (wanted_no rfl rfl (T.ev 0 rfl) (by simp [h5])) rfl rfl rfl ?_; clear T ac; intro ac T
      refine l_pass T (wanted_no rfl rfl (T.ev 1 rfl) (by simp [h5])) rfl rfl rfl ?_; clear T ac; intro ac T
      refine l_pass T (wanted_no rfl rfl (T.ev 2 rfl) (by simp [h5])) rfl rfl rfl ?_; clear T ac; intro ac T
      refine l_q T rfl rfl rfl rfl (rn_pick1 rfl (T.ev 3 rfl) (by simp [h5]) evc) ?_; clear T ac; intro ac T
      refine wpList_nil ?_
      replace T := T.pick [0, 9, 10, 11, 13] rfl
      exact ⟨(T.pick (E' := [(3, .pointer (some ⟨bpu1, 0, none⟩)), (4, .pointer (some ⟨g1, 0, none⟩)), (5, .int .i64 ((guidedJ jm).1)), (7, .pointer (some ⟨g2, 0, none⟩)), (69, .bool true)]) [1, 2, 3, 4, 0] rfl).as (by (try rw [show (!(decide (((guidedJ jm).2) = 0))) = true from (by simp [h5])]); rfl), M.mask [true, true, true] rfl⟩
     ·replace h5 : ((guidedJ jm).2) = 0 := by first | (rw [Bool.not_eq_false'] at h5; exact of_decide_eq_true h5) | simpa using h5
      refine l_q T (wanted_yes rfl rfl (T.ev 0 rfl) (by simp [h5])) rfl rfl rfl (rn_move rfl (T.ev 7 rfl)) ?_; clear T ac; intro ac T
      refine l_q T (wanted_yes rfl rfl (T.ev 1 rfl) (by simp [h5])) rfl rfl rfl (rn_move rfl (T.ev 5 rfl)) ?_; clear T ac; intro ac T
      refine l_q T (wanted_yes rfl rfl (T.ev 2 rfl) (by simp [h5])) rfl rfl rfl (rn_neq rfl (T.ev 1 rfl) (T.ev 0 rfl)) ?_; clear T ac; intro ac T
      refine l_q T rfl rfl rfl rfl (rn_pick0 rfl (T.ev 3 rfl) (by simp [h5]) (T.ev 0 rfl)) ?_; clear T ac; intro ac T
      refine wpList_nil ?_
      replace T := T.pick [0, 9, 10, 11, 13] rfl
      exact ⟨(T.pick (E' := [(3, .pointer (some ⟨bpu1, 0, none⟩)), (4, .pointer (some ⟨g1, 0, none⟩)), (5, .int .i64 ((guidedJ jm).1)), (7, .pointer (some ⟨g2, 0, none⟩)), (69, .bool (!(decide (((guidedJ jm).1) = vu8))))]) [1, 2, 3, 4, 0] rfl).as (by (try rw [show (!(decide (((guidedJ jm).2) = 0))) = false from (by simp [h5])]); rfl), M.mask [true, true, true] rfl⟩
    ·clear T M
     rintro ac wc ⟨T, M⟩
     refine wp_cond_split (T.ev 4 rfl) ?_ ?_
     ·intro h6
      (try have h6' := h6; try simp only [Bool.and_eq_true, Bool.or_eq_true, Bool.not_eq_true', Bool.and_eq_false_imp, Bool.or_eq_false_iff, decide_eq_true_eq, decide_eq_false_iff_not] at h6')
      refine wp_seq ?_
      refine wp_region_lit ?_
      refine l_q T rfl rfl rfl rfl (rn_assign rfl evc) ?_; clear T ac; intro ac T
      refine wpList_nil ?_
      replace T := T.pick [0] rfl
      replace M := M.mask [false, false, false] rfl
      refine nm_then ?_
      refine wp_ret ?_
      refine rt_then ?_
      refine rt_1 T rfl (T.ev 0 rfl) ?_
      exfalso
      simp only [Bool.and_eq_true, Bool.or_eq_true, Bool.not_eq_true', Bool.and_eq_false_iff, Bool.or_eq_false_iff, Bool.not_eq_false', decide_eq_true_eq, decide_eq_false_iff_not] at h6
      rcases hng with ⟨q1, q2, q3⟩ | ⟨q1, q2, q3⟩ <;> omega
     ·intro h6
      (try have h6' := h6; try simp only [Bool.and_eq_true, Bool.or_eq_true, Bool.not_eq_true', Bool.and_eq_false_imp, Bool.or_eq_false_iff, decide_eq_true_eq, decide_eq_false_iff_not] at h6')
      refine wp_skip ?_
      refine nm_then ?_
      refine cut_seq (fun ac wc => ∃ (xur13_2 : Int), ∃ (yur13_2 : Int), ∃ (zur13_2 : Int), ∃ (sur13_2 : Int), ∃ (Aur13_4 : Option Addr), ∃ (cur13_4 : Nat), ∃ (Iur13_4 : List (Nat × BA)), ∃ (bur13_4 : Nat), ∃ (our13_4 : Nat), (InS jm.st xur13_2 yur13_2 zur13_2) ∧ (u64ok sur13_2) ∧ (Sp w noEx Iur13_4 Aur13_4 jm.sh.length 2 bur13_4 our13_4 (rc jm.sh)) ∧ ∃ (gr13_6 gr13_5 : Nat), Tm ac 218 [(3, .pointer (some ⟨bpu1, 0, none⟩)), (4, .pointer (some ⟨g1, 0, none⟩)), (5, .int .i64 ((guidedJ jm).1)), (7, .pointer (some ⟨g2, 0, none⟩)), (10, .pointer (some ⟨gr13_5, 0, none⟩)), (11, .pointer (some ⟨gr13_6, 0, none⟩))] ∧ Mem w noEx wc ((gr13_5, .cells [.int .i64 xur13_2, .int .i64 yur13_2, .int .i64 zur13_2]) :: (gr13_6, .cells (jobL jm Aur13_4 cur13_4)) :: (g2, .cells [.int .i64 (if ((windowJ jm).2) = 11 then 1000 else (windowJ jm).1.1), .int .i64 (if ((windowJ jm).2) = 11 then -1000 else (windowJ jm).1.2)]) :: (g1, .cells (jobL jm Au4 cu4)) :: (bpu1, .cells [.int .u64 sur13_2]) :: (Iu4 ++ Iur13_4))) ?_ ?_
      ·refine g_start2 M (M.mask [true, true, false] rfl) 9 (by kernel_rfl) rfl (by kernel_rfl) ?_
       clear M; intro wc M
       refine g_addG 2 M ?_
       refine g_q (T := T) (i := 0) rfl (by kernel_rfl) (by kernel_rfl : (pbits 9 0).setIfInBounds 0 true = pbits 9 1) (si_and (si_G rfl) si_U) (fun _ _ _ h => h) rfl rfl rfl rfl (fun _ _ _ _ _ => (rn_move rfl (T.ev 0 rfl))) ?_; clear T ac; intro ac T
       refine g_q (T := T) (i := 1) rfl (by kernel_rfl) (by kernel_rfl : (pbits 9 1).setIfInBounds 1 true = pbits 9 3) (si_and (si_G rfl) si_U) (fun _ _ _ h => h) rfl rfl rfl rfl (fun B w' hD hl hS => (rn_rowO (Mem.nth (show Mem w noEx w' _ from ((MA.lft hS) (hD.wait (i := 1) (m := 2) (by kernel_rfl) hl))) 1 rfl) rfl (T.ev 2 rfl) rfl)) ?_; clear T ac; intro ac T
       refine g_q (T := T) (i := 3) rfl (by kernel_rfl) (by kernel_rfl : (pbits 9 3).setIfInBounds 3 true = pbits 9 11) (si_and (si_G rfl) si_U) (fun _ _ _ h => h) rfl rfl rfl rfl (fun B w' hD hl hS => (rn_rowO (Mem.nth (show Mem w noEx w' _ from (MA.rgt hS)) 1 rfl) rfl (T.ev 3 rfl) rfl)) ?_; clear T ac; intro ac T
       refine g_m3 (i := 2) (j := 5) (k := 6) (by kernel_rfl) ?_ ?_ ?_
       ·refine g_i rfl (by kernel_rfl : (pbits 9 11).setIfInBounds 2 true = pbits 9 15) rfl ?_; intro K hK
        refine ow_call (first := []) (cap := []) T rfl rfl rfl rfl evf (.cons (T.ev 2 rfl) (.cons (T.ev 1 rfl) .nil)) Try.func36 rfl rfl ?_
        refine Calls.mono (filedOf_any _ bpu1 jm _ _ _ hgm (M.nth 2 rfl) hsu4) ?_
        clear T
        rintro e wc ⟨xur13_2, yur13_2, zur13_2, sur13_2, hxur13_2, hsur13_2, rfl, hgr, hbk⟩
        intro ac T
        replace M := M.callC (cs' := [.int .u64 sur13_2]) (.tail (.tail .head)) hgr hbk
        clear hgr hbk
        refine sh_out hK _ _ (MA.mk (fun h => (no_of (by kernel_rfl) h).elim) (M.mask [true, true, false] rfl)) ?_; clear hK K
        refine g_m3 (i := 4) (j := 5) (k := 6) (by kernel_rfl) ?_ ?_ ?_
        ·refine g_i rfl (by kernel_rfl : (pbits 9 15).setIfInBounds 4 true = pbits 9 31) rfl ?_; intro K hK
         refine ow_call (first := []) (cap := []) T rfl rfl rfl rfl evf (.cons (T.ev 1 rfl) .nil) Try.func18 rfl rfl ?_
         refine Calls.mono (copyJob_own jm _ _ _ (Sjm.rd M (.cons _ (.cons _ (.cons _ (List.Sublist.refl _))))) (by omega)) ?_
         clear T
         rintro e wc ⟨Aur13_4, cur13_4, Iur13_4, rfl, hsnur13_4, N⟩
         intro ac T
         obtain ⟨bur13_4, our13_4, Sur13_4⟩ := hsnur13_4.sp (w := w) (ex := noEx) (rc_length _)
         replace M := (M.join N).swapI
         replace M := M.mask [true, true, true] rfl
         clear N hsnur13_4
         refine sh_out hK _ _ (MA.mk (fun h => (no_of (by kernel_rfl) h).elim) ((M.mask [true, true, false] rfl).sub (List.Sublist.cons_cons _ (List.Sublist.cons_cons _ (List.sublist_append_left _ _))))) ?_; clear hK K
         refine g_m2 (i := 5) (j := 6) (by kernel_rfl) ?_ ?_
         ·refine g_i rfl (by kernel_rfl : (pbits 9 31).setIfInBounds 5 true = pbits 9 63) rfl ?_; intro K hK
          refine ow_al M T rfl rfl rfl rfl ?_; clear M T; intro gr13_5 wc ac M T
          refine sh_out hK _ _ (MA.mk (fun h => (no_of (by kernel_rfl) h).elim) ((M.mask [false, true, true, false] rfl).sub (List.Sublist.cons_cons _ (List.Sublist.cons_cons _ (List.sublist_append_left _ _))))) ?_; clear hK K
          refine g_w (i := 6) (by kernel_rfl) rfl (by kernel_rfl : (pbits 9 63).setIfInBounds 6 true = pbits 9 127) rfl ?_; intro K hK
          refine ow_al M T rfl rfl rfl rfl ?_; clear M T; intro gr13_6 wc ac M T
          refine sh_out hK _ _ (MA.mk (fun h => (no_of (by kernel_rfl) h).elim) ((M.mask [false, false, true, true, false] rfl).sub (List.Sublist.cons_cons _ (List.Sublist.cons_cons _ (List.sublist_append_left _ _))))) ?_; clear hK K
          refine g_w (i := 7) (by kernel_rfl) rfl (by kernel_rfl : (pbits 9 127).setIfInBounds 7 true = pbits 9 255) rfl ?_; intro K hK
          refine ow_stO M T rfl rfl (T.ev 1 rfl) (T.ev 3 rfl) rfl (.tail .head) rfl (by simp) rfl (by kernel_rfl) ?_; clear M T; intro wc ac M T
          refine sh_out hK _ _ (MA.mk (fun h => (no_of (by kernel_rfl) h).elim) ((M.mask [false, false, true, true, false] rfl).sub (List.Sublist.cons_cons _ (List.Sublist.cons_cons _ (List.sublist_append_left _ _))))) ?_; clear hK K
          refine g_w (i := 8) (by kernel_rfl) rfl (by kernel_rfl : (pbits 9 255).setIfInBounds 8 true = pbits 9 511) rfl ?_; intro K hK
          refine ow_stO M T rfl rfl (T.ev 0 rfl) (T.ev 2 rfl) rfl .head rfl (by simp) rfl (by kernel_rfl) ?_; clear M T; intro wc ac M T
          refine sh_out hK _ _ (MA.mk (fun h => (no_of (by kernel_rfl) h).elim) ((M.mask [false, false, true, true, false] rfl).sub (List.Sublist.cons_cons _ (List.Sublist.cons_cons _ (List.sublist_append_left _ _))))) ?_; clear hK K
          refine g_done (by kernel_rfl) ?_
          replace T := T.pick [0, 1, 7, 8, 9, 10] rfl
          exact ⟨xur13_2, yur13_2, zur13_2, sur13_2, Aur13_4, cur13_4, Iur13_4, bur13_4, our13_4, hxur13_2, hsur13_2, Sur13_4, gr13_6, gr13_5, (T.pick (E' := [(3, .pointer (some ⟨bpu1, 0, none⟩)), (4, .pointer (some ⟨g1, 0, none⟩)), (5, .int .i64 ((guidedJ jm).1)), (7, .pointer (some ⟨g2, 0, none⟩)), (10, .pointer (some ⟨gr13_5, 0, none⟩)), (11, .pointer (some ⟨gr13_6, 0, none⟩))]) [2, 3, 4, 5, 1, 0] rfl).as (by rfl), M.permT [1, 0, 2, 3, 4] 5 rfl rfl rfl rfl⟩
         ·refine g_i rfl (by kernel_rfl : (pbits 9 31).setIfInBounds 6 true = pbits 9 95) rfl ?_; intro K hK
          refine ow_al M T rfl rfl rfl rfl ?_; clear M T; intro gr13_6 wc ac M T
          refine sh_out hK _ _ (MA.mk (fun h => (no_of (by kernel_rfl) h).elim) ((M.mask [false, true, true, false] rfl).sub (List.Sublist.cons_cons _ (List.Sublist.cons_cons _ (List.sublist_append_left _ _))))) ?_; clear hK K
          refine g_w (i := 5) (by kernel_rfl) rfl (by kernel_rfl : (pbits 9 95).setIfInBounds 5 true = pbits 9 127) rfl ?_; intro K hK
          refine ow_al M T rfl rfl rfl rfl ?_; clear M T; intro gr13_5 wc ac M T
          refine sh_out hK _ _ (MA.mk (fun h => (no_of (by kernel_rfl) h).elim) ((M.mask [false, false, true, true, false] rfl).sub (List.Sublist.cons_cons _ (List.Sublist.cons_cons _ (List.sublist_append_left _ _))))) ?_; clear hK K
          refine g_w (i := 7) (by kernel_rfl) rfl (by kernel_rfl : (pbits 9 127).setIfInBounds 7 true = pbits 9 255) rfl ?_; intro K hK
          refine ow_stO M T rfl rfl (T.ev 0 rfl) (T.ev 3 rfl) rfl .head rfl (by simp) rfl (by kernel_rfl) ?_; clear M T; intro wc ac M T
          refine sh_out hK _ _ (MA.mk (fun h => (no_of (by kernel_rfl) h).elim) ((M.mask [false, false, true, true, false] rfl).sub (List.Sublist.cons_cons _ (List.Sublist.cons_cons _ (List.sublist_append_left _ _))))) ?_; clear hK K
          refine g_w (i := 8) (by kernel_rfl) rfl (by kernel_rfl : (pbits 9 255).setIfInBounds 8 true = pbits 9 511) rfl ?_; intro K hK
          refine ow_stO M T rfl rfl (T.ev 1 rfl) (T.ev 2 rfl) rfl (.tail .head) rfl (by simp) rfl (by kernel_rfl) ?_; clear M T; intro wc ac M T
          refine sh_out hK _ _ (MA.mk (fun h => (no_of (by kernel_rfl) h).elim) ((M.mask [false, false, true, true, false] rfl).sub (List.Sublist.cons_cons _ (List.Sublist.cons_cons _ (List.sublist_append_left _ _))))) ?_; clear hK K
          refine g_done (by kernel_rfl) ?_
          replace T := T.pick [0, 1, 7, 8, 9, 10] rfl
          exact ⟨xur13_2, yur13_2, zur13_2, sur13_2, Aur13_4, cur13_4, Iur13_4, bur13_4, our13_4, hxur13_2, hsur13_2, Sur13_4, gr13_6, gr13_5, (T.pick (E' := [(3, .pointer (some ⟨bpu1, 0, none⟩)), (4, .pointer (some ⟨g1, 0, none⟩)), (5, .int .i64 ((guidedJ jm).1)), (7, .pointer (some ⟨g2, 0, none⟩)), (10, .pointer (some ⟨gr13_5, 0, none⟩)), (11, .pointer (some ⟨gr13_6, 0, none⟩))]) [2, 3, 4, 5, 0, 1] rfl).as (by rfl), M.mask [true, true, true, true, true] rfl⟩
        ·refine g_i rfl (by kernel_rfl : (pbits 9 15).setIfInBounds 5 true = pbits 9 47) rfl ?_; intro K hK
         refine ow_al M T rfl rfl rfl rfl ?_; clear M T; intro gr13_5 wc ac M T
         refine sh_out hK _ _ (MA.mk (fun h => (no_of (by kernel_rfl) h).elim) (M.mask [false, true, true, false] rfl)) ?_; clear hK K
         refine g_m2 (i := 4) (j := 6) (by kernel_rfl) ?_ ?_
         ·refine g_i rfl (by kernel_rfl : (pbits 9 47).setIfInBounds 4 true = pbits 9 63) rfl ?_; intro K hK
          refine ow_call (first := []) (cap := []) T rfl rfl rfl rfl evf (.cons (T.ev 2 rfl) .nil) Try.func18 rfl rfl ?_
          refine Calls.mono (copyJob_own jm _ _ _ (Sjm.rd M (.cons _ (.cons _ (.cons _ (.cons _ (List.Sublist.refl _)))))) (by omega)) ?_
          clear T
          rintro e wc ⟨Aur13_4, cur13_4, Iur13_4, rfl, hsnur13_4, N⟩
          intro ac T
          obtain ⟨bur13_4, our13_4, Sur13_4⟩ := hsnur13_4.sp (w := w) (ex := noEx) (rc_length _)
          replace M := (M.join N).swapI
          replace M := M.mask [true, true, true, true] rfl
          clear N hsnur13_4
          refine sh_out hK _ _ (MA.mk (fun h => (no_of (by kernel_rfl) h).elim) ((M.mask [false, true, true, false] rfl).sub (List.Sublist.cons_cons _ (List.Sublist.cons_cons _ (List.sublist_append_left _ _))))) ?_; clear hK K
          refine g_w (i := 6) (by kernel_rfl) rfl (by kernel_rfl : (pbits 9 63).setIfInBounds 6 true = pbits 9 127) rfl ?_; intro K hK
          refine ow_al M T rfl rfl rfl rfl ?_; clear M T; intro gr13_6 wc ac M T
          refine sh_out hK _ _ (MA.mk (fun h => (no_of (by kernel_rfl) h).elim) ((M.mask [false, false, true, true, false] rfl).sub (List.Sublist.cons_cons _ (List.Sublist.cons_cons _ (List.sublist_append_left _ _))))) ?_; clear hK K
          refine g_w (i := 7) (by kernel_rfl) rfl (by kernel_rfl : (pbits 9 127).setIfInBounds 7 true = pbits 9 255) rfl ?_; intro K hK
          refine ow_stO M T rfl rfl (T.ev 2 rfl) (T.ev 3 rfl) rfl (.tail .head) rfl (by simp) rfl (by kernel_rfl) ?_; clear M T; intro wc ac M T
          refine sh_out hK _ _ (MA.mk (fun h => (no_of (by kernel_rfl) h).elim) ((M.mask [false, false, true, true, false] rfl).sub (List.Sublist.cons_cons _ (List.Sublist.cons_cons _ (List.sublist_append_left _ _))))) ?_; clear hK K
          refine g_w (i := 8) (by kernel_rfl) rfl (by kernel_rfl : (pbits 9 255).setIfInBounds 8 true = pbits 9 511) rfl ?_; intro K hK
          refine ow_stO M T rfl rfl (T.ev 0 rfl) (T.ev 1 rfl) rfl .head rfl (by simp) rfl (by kernel_rfl) ?_; clear M T; intro wc ac M T
          refine sh_out hK _ _ (MA.mk (fun h => (no_of (by kernel_rfl) h).elim) ((M.mask [false, false, true, true, false] rfl).sub (List.Sublist.cons_cons _ (List.Sublist.cons_cons _ (List.sublist_append_left _ _))))) ?_; clear hK K
          refine g_done (by kernel_rfl) ?_
          replace T := T.pick [0, 2, 7, 8, 9, 10] rfl
          exact ⟨xur13_2, yur13_2, zur13_2, sur13_2, Aur13_4, cur13_4, Iur13_4, bur13_4, our13_4, hxur13_2, hsur13_2, Sur13_4, gr13_6, gr13_5, (T.pick (E' := [(3, .pointer (some ⟨bpu1, 0, none⟩)), (4, .pointer (some ⟨g1, 0, none⟩)), (5, .int .i64 ((guidedJ jm).1)), (7, .pointer (some ⟨g2, 0, none⟩)), (10, .pointer (some ⟨gr13_5, 0, none⟩)), (11, .pointer (some ⟨gr13_6, 0, none⟩))]) [2, 3, 4, 5, 1, 0] rfl).as (by rfl), M.permT [1, 0, 2, 3, 4] 5 rfl rfl rfl rfl⟩
         ·refine g_i rfl (by kernel_rfl : (pbits 9 47).setIfInBounds 6 true = pbits 9 111) rfl ?_; intro K hK
          refine ow_al M T rfl rfl rfl rfl ?_; clear M T; intro gr13_6 wc ac M T
          refine sh_out hK _ _ (MA.mk (fun h => (no_of (by kernel_rfl) h).elim) (M.mask [false, false, true, true, false] rfl)) ?_; clear hK K
          refine g_w (i := 4) (by kernel_rfl) rfl (by kernel_rfl : (pbits 9 111).setIfInBounds 4 true = pbits 9 127) rfl ?_; intro K hK
          refine ow_call (first := []) (cap := []) T rfl rfl rfl rfl evf (.cons (T.ev 3 rfl) .nil) Try.func18 rfl rfl ?_
          refine Calls.mono (copyJob_own jm _ _ _ (Sjm.rd M (.cons _ (.cons _ (.cons _ (.cons _ (.cons _ (List.Sublist.refl _))))))) (by omega)) ?_
          clear T
          rintro e wc ⟨Aur13_4, cur13_4, Iur13_4, rfl, hsnur13_4, N⟩
          intro ac T
          obtain ⟨bur13_4, our13_4, Sur13_4⟩ := hsnur13_4.sp (w := w) (ex := noEx) (rc_length _)
          replace M := (M.join N).swapI
          replace M := M.mask [true, true, true, true, true] rfl
          clear N hsnur13_4
          refine sh_out hK _ _ (MA.mk (fun h => (no_of (by kernel_rfl) h).elim) ((M.mask [false, false, true, true, false] rfl).sub (List.Sublist.cons_cons _ (List.Sublist.cons_cons _ (List.sublist_append_left _ _))))) ?_; clear hK K
          refine g_w (i := 7) (by kernel_rfl) rfl (by kernel_rfl : (pbits 9 127).setIfInBounds 7 true = pbits 9 255) rfl ?_; intro K hK
          refine ow_stO M T rfl rfl (T.ev 2 rfl) (T.ev 3 rfl) rfl (.tail .head) rfl (by simp) rfl (by kernel_rfl) ?_; clear M T; intro wc ac M T
          refine sh_out hK _ _ (MA.mk (fun h => (no_of (by kernel_rfl) h).elim) ((M.mask [false, false, true, true, false] rfl).sub (List.Sublist.cons_cons _ (List.Sublist.cons_cons _ (List.sublist_append_left _ _))))) ?_; clear hK K
          refine g_w (i := 8) (by kernel_rfl) rfl (by kernel_rfl : (pbits 9 255).setIfInBounds 8 true = pbits 9 511) rfl ?_; intro K hK
          refine ow_stO M T rfl rfl (T.ev 1 rfl) (T.ev 0 rfl) rfl .head rfl (by simp) rfl (by kernel_rfl) ?_; clear M T; intro wc ac M T
          refine sh_out hK _ _ (MA.mk (fun h => (no_of (by kernel_rfl) h).elim) ((M.mask [false, false, true, true, false] rfl).sub (List.Sublist.cons_cons _ (List.Sublist.cons_cons _ (List.sublist_append_left _ _))))) ?_; clear hK K
          refine g_done (by kernel_rfl) ?_
          replace T := T.pick [1, 2, 7, 8, 9, 10] rfl
          exact ⟨xur13_2, yur13_2, zur13_2, sur13_2, Aur13_4, cur13_4, Iur13_4, bur13_4, our13_4, hxur13_2, hsur13_2, Sur13_4, gr13_6, gr13_5, (T.pick (E' := [(3, .pointer (some ⟨bpu1, 0, none⟩)), (4, .pointer (some ⟨g1, 0, none⟩)), (5, .int .i64 ((guidedJ jm).1)), (7, .pointer (some ⟨g2, 0, none⟩)), (10, .pointer (some ⟨gr13_5, 0, none⟩)), (11, .pointer (some ⟨gr13_6, 0, none⟩))]) [2, 3, 4, 5, 1, 0] rfl).as (by rfl), M.permT [1, 0, 2, 3, 4] 5 rfl rfl rfl rfl⟩
        ·refine g_i rfl (by kernel_rfl : (pbits 9 15).setIfInBounds 6 true = pbits 9 79) rfl ?_; intro K hK
         refine ow_al M T rfl rfl rfl rfl ?_; clear M T; intro gr13_6 wc ac M T
         refine sh_out hK _ _ (MA.mk (fun h => (no_of (by kernel_rfl) h).elim) (M.mask [false, true, true, false] rfl)) ?_; clear hK K
         refine g_m2 (i := 4) (j := 5) (by kernel_rfl) ?_ ?_
         ·refine g_i rfl (by kernel_rfl : (pbits 9 79).setIfInBounds 4 true = pbits 9 95) rfl ?_; intro K hK
          refine ow_call (first := []) (cap := []) T rfl rfl rfl rfl evf (.cons (T.ev 2 rfl) .nil) Try.func18 rfl rfl ?_
          refine Calls.mono (copyJob_own jm _ _ _ (Sjm.rd M (.cons _ (.cons _ (.cons _ (.cons _ (List.Sublist.refl _)))))) (by omega)) ?_
          clear T
          rintro e wc ⟨Aur13_4, cur13_4, Iur13_4, rfl, hsnur13_4, N⟩
          intro ac T
          obtain ⟨bur13_4, our13_4, Sur13_4⟩ := hsnur13_4.sp (w := w) (ex := noEx) (rc_length _)
          replace M := (M.join N).swapI
          replace M := M.mask [true, true, true, true] rfl
          clear N hsnur13_4
          refine sh_out hK _ _ (MA.mk (fun h => (no_of (by kernel_rfl) h).elim) ((M.mask [false, true, true, false] rfl).sub (List.Sublist.cons_cons _ (List.Sublist.cons_cons _ (List.sublist_append_left _ _))))) ?_; clear hK K
          refine g_w (i := 5) (by kernel_rfl) rfl (by kernel_rfl : (pbits 9 95).setIfInBounds 5 true = pbits 9 127) rfl ?_; intro K hK
          refine ow_al M T rfl rfl rfl rfl ?_; clear M T; intro gr13_5 wc ac M T
          refine sh_out hK _ _ (MA.mk (fun h => (no_of (by kernel_rfl) h).elim) ((M.mask [false, false, true, true, false] rfl).sub (List.Sublist.cons_cons _ (List.Sublist.cons_cons _ (List.sublist_append_left _ _))))) ?_; clear hK K
          refine g_w (i := 7) (by kernel_rfl) rfl (by kernel_rfl : (pbits 9 127).setIfInBounds 7 true = pbits 9 255) rfl ?_; intro K hK
          refine ow_stO M T rfl rfl (T.ev 0 rfl) (T.ev 3 rfl) rfl .head rfl (by simp) rfl (by kernel_rfl) ?_; clear M T; intro wc ac M T
          refine sh_out hK _ _ (MA.mk (fun h => (no_of (by kernel_rfl) h).elim) ((M.mask [false, false, true, true, false] rfl).sub (List.Sublist.cons_cons _ (List.Sublist.cons_cons _ (List.sublist_append_left _ _))))) ?_; clear hK K
          refine g_w (i := 8) (by kernel_rfl) rfl (by kernel_rfl : (pbits 9 255).setIfInBounds 8 true = pbits 9 511) rfl ?_; intro K hK
          refine ow_stO M T rfl rfl (T.ev 2 rfl) (T.ev 1 rfl) rfl (.tail .head) rfl (by simp) rfl (by kernel_rfl) ?_; clear M T; intro wc ac M T
          refine sh_out hK _ _ (MA.mk (fun h => (no_of (by kernel_rfl) h).elim) ((M.mask [false, false, true, true, false] rfl).sub (List.Sublist.cons_cons _ (List.Sublist.cons_cons _ (List.sublist_append_left _ _))))) ?_; clear hK K
          refine g_done (by kernel_rfl) ?_
          replace T := T.pick [0, 2, 7, 8, 9, 10] rfl
          exact ⟨xur13_2, yur13_2, zur13_2, sur13_2, Aur13_4, cur13_4, Iur13_4, bur13_4, our13_4, hxur13_2, hsur13_2, Sur13_4, gr13_6, gr13_5, (T.pick (E' := [(3, .pointer (some ⟨bpu1, 0, none⟩)), (4, .pointer (some ⟨g1, 0, none⟩)), (5, .int .i64 ((guidedJ jm).1)), (7, .pointer (some ⟨g2, 0, none⟩)), (10, .pointer (some ⟨gr13_5, 0, none⟩)), (11, .pointer (some ⟨gr13_6, 0, none⟩))]) [2, 3, 4, 5, 0, 1] rfl).as (by rfl), M.mask [true, true, true, true, true] rfl⟩
         ·refine g_i rfl (by kernel_rfl : (pbits 9 79).setIfInBounds 5 true = pbits 9 111) rfl ?_; intro K hK
          refine ow_al M T rfl rfl rfl rfl ?_; clear M T; intro gr13_5 wc ac M T
          refine sh_out hK _ _ (MA.mk (fun h => (no_of (by kernel_rfl) h).elim) (M.mask [false, false, true, true, false] rfl)) ?_; clear hK K
          refine g_w (i := 4) (by kernel_rfl) rfl (by kernel_rfl : (pbits 9 111).setIfInBounds 4 true = pbits 9 127) rfl ?_; intro K hK
          refine ow_call (first := []) (cap := []) T rfl rfl rfl rfl evf (.cons (T.ev 3 rfl) .nil) Try.func18 rfl rfl ?_
          refine Calls.mono (copyJob_own jm _ _ _ (Sjm.rd M (.cons _ (.cons _ (.cons _ (.cons _ (.cons _ (List.Sublist.refl _))))))) (by omega)) ?_
          clear T
          rintro e wc ⟨Aur13_4, cur13_4, Iur13_4, rfl, hsnur13_4, N⟩
          intro ac T
          obtain ⟨bur13_4, our13_4, Sur13_4⟩ := hsnur13_4.sp (w := w) (ex := noEx) (rc_length _)
          replace M := (M.join N).swapI
          replace M := M.mask [true, true, true, true, true] rfl
          clear N hsnur13_4
          refine sh_out hK _ _ (MA.mk (fun h => (no_of (by kernel_rfl) h).elim) ((M.mask [false, false, true, true, false] rfl).sub (List.Sublist.cons_cons _ (List.Sublist.cons_cons _ (List.sublist_append_left _ _))))) ?_; clear hK K
          refine g_w (i := 7) (by kernel_rfl) rfl (by kernel_rfl : (pbits 9 127).setIfInBounds 7 true = pbits 9 255) rfl ?_; intro K hK
          refine ow_stO M T rfl rfl (T.ev 1 rfl) (T.ev 3 rfl) rfl .head rfl (by simp) rfl (by kernel_rfl) ?_; clear M T; intro wc ac M T
          refine sh_out hK _ _ (MA.mk (fun h => (no_of (by kernel_rfl) h).elim) ((M.mask [false, false, true, true, false] rfl).sub (List.Sublist.cons_cons _ (List.Sublist.cons_cons _ (List.sublist_append_left _ _))))) ?_; clear hK K
          refine g_w (i := 8) (by kernel_rfl) rfl (by kernel_rfl : (pbits 9 255).setIfInBounds 8 true = pbits 9 511) rfl ?_; intro K hK
          refine ow_stO M T rfl rfl (T.ev 2 rfl) (T.ev 0 rfl) rfl (.tail .head) rfl (by simp) rfl (by kernel_rfl) ?_; clear M T; intro wc ac M T
          refine sh_out hK _ _ (MA.mk (fun h => (no_of (by kernel_rfl) h).elim) ((M.mask [false, false, true, true, false] rfl).sub (List.Sublist.cons_cons _ (List.Sublist.cons_cons _ (List.sublist_append_left _ _))))) ?_; clear hK K
          refine g_done (by kernel_rfl) ?_
          replace T := T.pick [1, 2, 7, 8, 9, 10] rfl
          exact ⟨xur13_2, yur13_2, zur13_2, sur13_2, Aur13_4, cur13_4, Iur13_4, bur13_4, our13_4, hxur13_2, hsur13_2, Sur13_4, gr13_6, gr13_5, (T.pick (E' := [(3, .pointer (some ⟨bpu1, 0, none⟩)), (4, .pointer (some ⟨g1, 0, none⟩)), (5, .int .i64 ((guidedJ jm).1)), (7, .pointer (some ⟨g2, 0, none⟩)), (10, .pointer (some ⟨gr13_5, 0, none⟩)), (11, .pointer (some ⟨gr13_6, 0, none⟩))]) [2, 3, 4, 5, 0, 1] rfl).as (by rfl), M.mask [true, true, true, true, true] rfl⟩
       ·refine g_i rfl (by kernel_rfl : (pbits 9 11).setIfInBounds 5 true = pbits 9 43) rfl ?_; intro K hK
        refine ow_al M T rfl rfl rfl rfl ?_; clear M T; intro gr13_5 wc ac M T
        refine sh_out hK _ _ (MA.mk (fun _ => M.mask [false, true, true, true] rfl) (M.mask [false, true, true, false] rfl)) ?_; clear hK K
        refine g_m2 (i := 2) (j := 6) (by kernel_rfl) ?_ ?_
        ·refine g_i rfl (by kernel_rfl : (pbits 9 43).setIfInBounds 2 true = pbits 9 47) rfl ?_; intro K hK
         refine ow_call (first := []) (cap := []) T rfl rfl rfl rfl evf (.cons (T.ev 3 rfl) (.cons (T.ev 2 rfl) .nil)) Try.func36 rfl rfl ?_
         refine Calls.mono (filedOf_any _ bpu1 jm _ _ _ hgm (M.nth 3 rfl) hsu4) ?_
         clear T
         rintro e wc ⟨xur13_2, yur13_2, zur13_2, sur13_2, hxur13_2, hsur13_2, rfl, hgr, hbk⟩
         intro ac T
         replace M := M.callC (cs' := [.int .u64 sur13_2]) (.tail (.tail (.tail .head))) hgr hbk
         clear hgr hbk
         refine sh_out hK _ _ (MA.mk (fun h => (no_of (by kernel_rfl) h).elim) (M.mask [false, true, true, false] rfl)) ?_; clear hK K
         refine g_m2 (i := 4) (j := 6) (by kernel_rfl) ?_ ?_
         ·refine g_i rfl (by kernel_rfl : (pbits 9 47).setIfInBounds 4 true = pbits 9 63) rfl ?_; intro K hK
          refine ow_call (first := []) (cap := []) T rfl rfl rfl rfl evf (.cons (T.ev 2 rfl) .nil) Try.func18 rfl rfl ?_
          refine Calls.mono (copyJob_own jm _ _ _ (Sjm.rd M (.cons _ (.cons _ (.cons _ (.cons _ (List.Sublist.refl _)))))) (by omega)) ?_
          clear T
          rintro e wc ⟨Aur13_4, cur13_4, Iur13_4, rfl, hsnur13_4, N⟩
          intro ac T
          obtain ⟨bur13_4, our13_4, Sur13_4⟩ := hsnur13_4.sp (w := w) (ex := noEx) (rc_length _)
          replace M := (M.join N).swapI
          replace M := M.mask [true, true, true, true] rfl
          clear N hsnur13_4
          refine sh_out hK _ _ (MA.mk (fun h => (no_of (by kernel_rfl) h).elim) ((M.mask [false, true, true, false] rfl).sub (List.Sublist.cons_cons _ (List.Sublist.cons_cons _ (List.sublist_append_left _ _))))) ?_; clear hK K
          refine g_w (i := 6) (by kernel_rfl) rfl (by kernel_rfl : (pbits 9 63).setIfInBounds 6 true = pbits 9 127) rfl ?_; intro K hK
          refine ow_al M T rfl rfl rfl rfl ?_; clear M T; intro gr13_6 wc ac M T
          refine sh_out hK _ _ (MA.mk (fun h => (no_of (by kernel_rfl) h).elim) ((M.mask [false, false, true, true, false] rfl).sub (List.Sublist.cons_cons _ (List.Sublist.cons_cons _ (List.sublist_append_left _ _))))) ?_; clear hK K
          refine g_w (i := 7) (by kernel_rfl) rfl (by kernel_rfl : (pbits 9 127).setIfInBounds 7 true = pbits 9 255) rfl ?_; intro K hK
          refine ow_stO M T rfl rfl (T.ev 3 rfl) (T.ev 2 rfl) rfl (.tail .head) rfl (by simp) rfl (by kernel_rfl) ?_; clear M T; intro wc ac M T
          refine sh_out hK _ _ (MA.mk (fun h => (no_of (by kernel_rfl) h).elim) ((M.mask [false, false, true, true, false] rfl).sub (List.Sublist.cons_cons _ (List.Sublist.cons_cons _ (List.sublist_append_left _ _))))) ?_; clear hK K
          refine g_w (i := 8) (by kernel_rfl) rfl (by kernel_rfl : (pbits 9 255).setIfInBounds 8 true = pbits 9 511) rfl ?_; intro K hK
          refine ow_stO M T rfl rfl (T.ev 0 rfl) (T.ev 1 rfl) rfl .head rfl (by simp) rfl (by kernel_rfl) ?_; clear M T; intro wc ac M T
          refine sh_out hK _ _ (MA.mk (fun h => (no_of (by kernel_rfl) h).elim) ((M.mask [false, false, true, true, false] rfl).sub (List.Sublist.cons_cons _ (List.Sublist.cons_cons _ (List.sublist_append_left _ _))))) ?_; clear hK K
          refine g_done (by kernel_rfl) ?_
          replace T := T.pick [0, 3, 7, 8, 9, 10] rfl
          exact ⟨xur13_2, yur13_2, zur13_2, sur13_2, Aur13_4, cur13_4, Iur13_4, bur13_4, our13_4, hxur13_2, hsur13_2, Sur13_4, gr13_6, gr13_5, (T.pick (E' := [(3, .pointer (some ⟨bpu1, 0, none⟩)), (4, .pointer (some ⟨g1, 0, none⟩)), (5, .int .i64 ((guidedJ jm).1)), (7, .pointer (some ⟨g2, 0, none⟩)), (10, .pointer (some ⟨gr13_5, 0, none⟩)), (11, .pointer (some ⟨gr13_6, 0, none⟩))]) [2, 3, 4, 5, 1, 0] rfl).as (by rfl), M.permT [1, 0, 2, 3, 4] 5 rfl rfl rfl rfl⟩
         ·refine g_i rfl (by kernel_rfl : (pbits 9 47).setIfInBounds 6 true = pbits 9 111) rfl ?_; intro K hK
          refine ow_al M T rfl rfl rfl rfl ?_; clear M T; intro gr13_6 wc ac M T
          refine sh_out hK _ _ (MA.mk (fun h => (no_of (by kernel_rfl) h).elim) (M.mask [false, false, true, true, false] rfl)) ?_; clear hK K
          refine g_w (i := 4) (by kernel_rfl) rfl (by kernel_rfl : (pbits 9 111).setIfInBounds 4 true = pbits 9 127) rfl ?_; intro K hK
          refine ow_call (first := []) (cap := []) T rfl rfl rfl rfl evf (.cons (T.ev 3 rfl) .nil) Try.func18 rfl rfl ?_
          refine Calls.mono (copyJob_own jm _ _ _ (Sjm.rd M (.cons _ (.cons _ (.cons _ (.cons _ (.cons _ (List.Sublist.refl _))))))) (by omega)) ?_
          clear T
          rintro e wc ⟨Aur13_4, cur13_4, Iur13_4, rfl, hsnur13_4, N⟩
          intro ac T
          obtain ⟨bur13_4, our13_4, Sur13_4⟩ := hsnur13_4.sp (w := w) (ex := noEx) (rc_length _)
          replace M := (M.join N).swapI
          replace M := M.mask [true, true, true, true, true] rfl
          clear N hsnur13_4
          refine sh_out hK _ _ (MA.mk (fun h => (no_of (by kernel_rfl) h).elim) ((M.mask [false, false, true, true, false] rfl).sub (List.Sublist.cons_cons _ (List.Sublist.cons_cons _ (List.sublist_append_left _ _))))) ?_; clear hK K
          refine g_w (i := 7) (by kernel_rfl) rfl (by kernel_rfl : (pbits 9 127).setIfInBounds 7 true = pbits 9 255) rfl ?_; intro K hK
          refine ow_stO M T rfl rfl (T.ev 3 rfl) (T.ev 2 rfl) rfl (.tail .head) rfl (by simp) rfl (by kernel_rfl) ?_; clear M T; intro wc ac M T
          refine sh_out hK _ _ (MA.mk (fun h => (no_of (by kernel_rfl) h).elim) ((M.mask [false, false, true, true, false] rfl).sub (List.Sublist.cons_cons _ (List.Sublist.cons_cons _ (List.sublist_append_left _ _))))) ?_; clear hK K
          refine g_w (i := 8) (by kernel_rfl) rfl (by kernel_rfl : (pbits 9 255).setIfInBounds 8 true = pbits 9 511) rfl ?_; intro K hK
          refine ow_stO M T rfl rfl (T.ev 1 rfl) (T.ev 0 rfl) rfl .head rfl (by simp) rfl (by kernel_rfl) ?_; clear M T; intro wc ac M T
          refine sh_out hK _ _ (MA.mk (fun h => (no_of (by kernel_rfl) h).elim) ((M.mask [false, false, true, true, false] rfl).sub (List.Sublist.cons_cons _ (List.Sublist.cons_cons _ (List.sublist_append_left _ _))))) ?_; clear hK K
          refine g_done (by kernel_rfl) ?_
          replace T := T.pick [1, 3, 7, 8, 9, 10] rfl
          exact ⟨xur13_2, yur13_2, zur13_2, sur13_2, Aur13_4, cur13_4, Iur13_4, bur13_4, our13_4, hxur13_2, hsur13_2, Sur13_4, gr13_6, gr13_5, (T.pick (E' := [(3, .pointer (some ⟨bpu1, 0, none⟩)), (4, .pointer (some ⟨g1, 0, none⟩)), (5, .int .i64 ((guidedJ jm).1)), (7, .pointer (some ⟨g2, 0, none⟩)), (10, .pointer (some ⟨gr13_5, 0, none⟩)), (11, .pointer (some ⟨gr13_6, 0, none⟩))]) [2, 3, 4, 5, 1, 0] rfl).as (by rfl), M.permT [1, 0, 2, 3, 4] 5 rfl rfl rfl rfl⟩
        ·refine g_i rfl (by kernel_rfl : (pbits 9 43).setIfInBounds 6 true = pbits 9 107) rfl ?_; intro K hK
         refine ow_al M T rfl rfl rfl rfl ?_; clear M T; intro gr13_6 wc ac M T
         refine sh_out hK _ _ (MA.mk (fun _ => M.mask [false, false, true, true, true] rfl) (M.mask [false, false, true, true, false] rfl)) ?_; clear hK K
         refine g_w (i := 2) (by kernel_rfl) rfl (by kernel_rfl : (pbits 9 107).setIfInBounds 2 true = pbits 9 111) rfl ?_; intro K hK
         refine ow_call (first := []) (cap := []) T rfl rfl rfl rfl evf (.cons (T.ev 4 rfl) (.cons (T.ev 3 rfl) .nil)) Try.func36 rfl rfl ?_
         refine Calls.mono (filedOf_any _ bpu1 jm _ _ _ hgm (M.nth 4 rfl) hsu4) ?_
         clear T
         rintro e wc ⟨xur13_2, yur13_2, zur13_2, sur13_2, hxur13_2, hsur13_2, rfl, hgr, hbk⟩
         intro ac T
         replace M := M.callC (cs' := [.int .u64 sur13_2]) (.tail (.tail (.tail (.tail .head)))) hgr hbk
         clear hgr hbk
         refine sh_out hK _ _ (MA.mk (fun h => (no_of (by kernel_rfl) h).elim) (M.mask [false, false, true, true, false] rfl)) ?_; clear hK K
         refine g_w (i := 4) (by kernel_rfl) rfl (by kernel_rfl : (pbits 9 111).setIfInBounds 4 true = pbits 9 127) rfl ?_; intro K hK
         refine ow_call (first := []) (cap := []) T rfl rfl rfl rfl evf (.cons (T.ev 3 rfl) .nil) Try.func18 rfl rfl ?_
         refine Calls.mono (copyJob_own jm _ _ _ (Sjm.rd M (.cons _ (.cons _ (.cons _ (.cons _ (.cons _ (List.Sublist.refl _))))))) (by omega)) ?_
         clear T
         rintro e wc ⟨Aur13_4, cur13_4, Iur13_4, rfl, hsnur13_4, N⟩
         intro ac T
         obtain ⟨bur13_4, our13_4, Sur13_4⟩ := hsnur13_4.sp (w := w) (ex := noEx) (rc_length _)
         replace M := (M.join N).swapI
         replace M := M.mask [true, true, true, true, true] rfl
         clear N hsnur13_4
         refine sh_out hK _ _ (MA.mk (fun h => (no_of (by kernel_rfl) h).elim) ((M.mask [false, false, true, true, false] rfl).sub (List.Sublist.cons_cons _ (List.Sublist.cons_cons _ (List.sublist_append_left _ _))))) ?_; clear hK K
         refine g_w (i := 7) (by kernel_rfl) rfl (by kernel_rfl : (pbits 9 127).setIfInBounds 7 true = pbits 9 255) rfl ?_; intro K hK
         refine ow_stO M T rfl rfl (T.ev 3 rfl) (T.ev 1 rfl) rfl (.tail .head) rfl (by simp) rfl (by kernel_rfl) ?_; clear M T; intro wc ac M T
         refine sh_out hK _ _ (MA.mk (fun h => (no_of (by kernel_rfl) h).elim) ((M.mask [false, false, true, true, false] rfl).sub (List.Sublist.cons_cons _ (List.Sublist.cons_cons _ (List.sublist_append_left _ _))))) ?_; clear hK K
         refine g_w (i := 8) (by kernel_rfl) rfl (by kernel_rfl : (pbits 9 255).setIfInBounds 8 true = pbits 9 511) rfl ?_; intro K hK
         refine ow_stO M T rfl rfl (T.ev 2 rfl) (T.ev 0 rfl) rfl .head rfl (by simp) rfl (by kernel_rfl) ?_; clear M T; intro wc ac M T
         refine sh_out hK _ _ (MA.mk (fun h => (no_of (by kernel_rfl) h).elim) ((M.mask [false, false, true, true, false] rfl).sub (List.Sublist.cons_cons _ (List.Sublist.cons_cons _ (List.sublist_append_left _ _))))) ?_; clear hK K
         refine g_done (by kernel_rfl) ?_
         replace T := T.pick [2, 3, 7, 8, 9, 10] rfl
         exact ⟨xur13_2, yur13_2, zur13_2, sur13_2, Aur13_4, cur13_4, Iur13_4, bur13_4, our13_4, hxur13_2, hsur13_2, Sur13_4, gr13_6, gr13_5, (T.pick (E' := [(3, .pointer (some ⟨bpu1, 0, none⟩)), (4, .pointer (some ⟨g1, 0, none⟩)), (5, .int .i64 ((guidedJ jm).1)), (7, .pointer (some ⟨g2, 0, none⟩)), (10, .pointer (some ⟨gr13_5, 0, none⟩)), (11, .pointer (some ⟨gr13_6, 0, none⟩))]) [2, 3, 4, 5, 1, 0] rfl).as (by rfl), M.permT [1, 0, 2, 3, 4] 5 rfl rfl rfl rfl⟩
       ·refine g_i rfl (by kernel_rfl : (pbits 9 11).setIfInBounds 6 true = pbits 9 75) rfl ?_; intro K hK
        refine ow_al M T rfl rfl rfl rfl ?_; clear M T; intro gr13_6 wc ac M T
        refine sh_out hK _ _ (MA.mk (fun _ => M.mask [false, true, true, true] rfl) (M.mask [false, true, true, false] rfl)) ?_; clear hK K
        refine g_m2 (i := 2) (j := 5) (by kernel_rfl) ?_ ?_
        ·refine g_i rfl (by kernel_rfl : (pbits 9 75).setIfInBounds 2 true = pbits 9 79) rfl ?_; intro K hK
         refine ow_call (first := []) (cap := []) T rfl rfl rfl rfl evf (.cons (T.ev 3 rfl) (.cons (T.ev 2 rfl) .nil)) Try.func36 rfl rfl ?_
         refine Calls.mono (filedOf_any _ bpu1 jm _ _ _ hgm (M.nth 3 rfl) hsu4) ?_
         clear T
         rintro e wc ⟨xur13_2, yur13_2, zur13_2, sur13_2, hxur13_2, hsur13_2, rfl, hgr, hbk⟩
         intro ac T
         replace M := M.callC (cs' := [.int .u64 sur13_2]) (.tail (.tail (.tail .head))) hgr hbk
         clear hgr hbk
         refine sh_out hK _ _ (MA.mk (fun h => (no_of (by kernel_rfl) h).elim) (M.mask [false, true, true, false] rfl)) ?_; clear hK K
         refine g_m2 (i := 4) (j := 5) (by kernel_rfl) ?_ ?_
         ·refine g_i rfl (by kernel_rfl : (pbits 9 79).setIfInBounds 4 true = pbits 9 95) rfl ?_; intro K hK
          refine ow_call (first := []) (cap := []) T rfl rfl rfl rfl evf (.cons (T.ev 2 rfl) .nil) Try.func18 rfl rfl ?_
          refine Calls.mono (copyJob_own jm _ _ _ (Sjm.rd M (.cons _ (.cons _ (.cons _ (.cons _ (List.Sublist.refl _)))))) (by omega)) ?_
          clear T
          rintro e wc ⟨Aur13_4, cur13_4, Iur13_4, rfl, hsnur13_4, N⟩
          intro ac T
          obtain ⟨bur13_4, our13_4, Sur13_4⟩ := hsnur13_4.sp (w := w) (ex := noEx) (rc_length _)
          replace M := (M.join N).swapI
          replace M := M.mask [true, true, true, true] rfl
          clear N hsnur13_4
          refine sh_out hK _ _ (MA.mk (fun h => (no_of (by kernel_rfl) h).elim) ((M.mask [false, true, true, false] rfl).sub (List.Sublist.cons_cons _ (List.Sublist.cons_cons _ (List.sublist_append_left _ _))))) ?_; clear hK K
          refine g_w (i := 5) (by kernel_rfl) rfl (by kernel_rfl : (pbits 9 95).setIfInBounds 5 true = pbits 9 127) rfl ?_; intro K hK
          refine ow_al M T rfl rfl rfl rfl ?_; clear M T; intro gr13_5 wc ac M T
          refine sh_out hK _ _ (MA.mk (fun h => (no_of (by kernel_rfl) h).elim) ((M.mask [false, false, true, true, false] rfl).sub (List.Sublist.cons_cons _ (List.Sublist.cons_cons _ (List.sublist_append_left _ _))))) ?_; clear hK K
          refine g_w (i := 7) (by kernel_rfl) rfl (by kernel_rfl : (pbits 9 127).setIfInBounds 7 true = pbits 9 255) rfl ?_; intro K hK
          refine ow_stO M T rfl rfl (T.ev 0 rfl) (T.ev 2 rfl) rfl .head rfl (by simp) rfl (by kernel_rfl) ?_; clear M T; intro wc ac M T
          refine sh_out hK _ _ (MA.mk (fun h => (no_of (by kernel_rfl) h).elim) ((M.mask [false, false, true, true, false] rfl).sub (List.Sublist.cons_cons _ (List.Sublist.cons_cons _ (List.sublist_append_left _ _))))) ?_; clear hK K
          refine g_w (i := 8) (by kernel_rfl) rfl (by kernel_rfl : (pbits 9 255).setIfInBounds 8 true = pbits 9 511) rfl ?_; intro K hK
          refine ow_stO M T rfl rfl (T.ev 3 rfl) (T.ev 1 rfl) rfl (.tail .head) rfl (by simp) rfl (by kernel_rfl) ?_; clear M T; intro wc ac M T
          refine sh_out hK _ _ (MA.mk (fun h => (no_of (by kernel_rfl) h).elim) ((M.mask [false, false, true, true, false] rfl).sub (List.Sublist.cons_cons _ (List.Sublist.cons_cons _ (List.sublist_append_left _ _))))) ?_; clear hK K
          refine g_done (by kernel_rfl) ?_
          replace T := T.pick [0, 3, 7, 8, 9, 10] rfl
          exact ⟨xur13_2, yur13_2, zur13_2, sur13_2, Aur13_4, cur13_4, Iur13_4, bur13_4, our13_4, hxur13_2, hsur13_2, Sur13_4, gr13_6, gr13_5, (T.pick (E' := [(3, .pointer (some ⟨bpu1, 0, none⟩)), (4, .pointer (some ⟨g1, 0, none⟩)), (5, .int .i64 ((guidedJ jm).1)), (7, .pointer (some ⟨g2, 0, none⟩)), (10, .pointer (some ⟨gr13_5, 0, none⟩)), (11, .pointer (some ⟨gr13_6, 0, none⟩))]) [2, 3, 4, 5, 0, 1] rfl).as (by rfl), M.mask [true, true, true, true, true] rfl⟩
         ·refine g_i rfl (by kernel_rfl : (pbits 9 79).setIfInBounds 5 true = pbits 9 111) rfl ?_; intro K hK
          refine ow_al M T rfl rfl rfl rfl ?_; clear M T; intro gr13_5 wc ac M T
          refine sh_out hK _ _ (MA.mk (fun h => (no_of (by kernel_rfl) h).elim) (M.mask [false, false, true, true, false] rfl)) ?_; clear hK K
          refine g_w (i := 4) (by kernel_rfl) rfl (by kernel_rfl : (pbits 9 111).setIfInBounds 4 true = pbits 9 127) rfl ?_; intro K hK
          refine ow_call (first := []) (cap := []) T rfl rfl rfl rfl evf (.cons (T.ev 3 rfl) .nil) Try.func18 rfl rfl ?_
          refine Calls.mono (copyJob_own jm _ _ _ (Sjm.rd M (.cons _ (.cons _ (.cons _ (.cons _ (.cons _ (List.Sublist.refl _))))))) (by omega)) ?_
          clear T
          rintro e wc ⟨Aur13_4, cur13_4, Iur13_4, rfl, hsnur13_4, N⟩
          intro ac T
          obtain ⟨bur13_4, our13_4, Sur13_4⟩ := hsnur13_4.sp (w := w) (ex := noEx) (rc_length _)
          replace M := (M.join N).swapI
          replace M := M.mask [true, true, true, true, true] rfl
          clear N hsnur13_4
          refine sh_out hK _ _ (MA.mk (fun h => (no_of (by kernel_rfl) h).elim) ((M.mask [false, false, true, true, false] rfl).sub (List.Sublist.cons_cons _ (List.Sublist.cons_cons _ (List.sublist_append_left _ _))))) ?_; clear hK K
          refine g_w (i := 7) (by kernel_rfl) rfl (by kernel_rfl : (pbits 9 127).setIfInBounds 7 true = pbits 9 255) rfl ?_; intro K hK
          refine ow_stO M T rfl rfl (T.ev 1 rfl) (T.ev 2 rfl) rfl .head rfl (by simp) rfl (by kernel_rfl) ?_; clear M T; intro wc ac M T
          refine sh_out hK _ _ (MA.mk (fun h => (no_of (by kernel_rfl) h).elim) ((M.mask [false, false, true, true, false] rfl).sub (List.Sublist.cons_cons _ (List.Sublist.cons_cons _ (List.sublist_append_left _ _))))) ?_; clear hK K
          refine g_w (i := 8) (by kernel_rfl) rfl (by kernel_rfl : (pbits 9 255).setIfInBounds 8 true = pbits 9 511) rfl ?_; intro K hK
          refine ow_stO M T rfl rfl (T.ev 3 rfl) (T.ev 0 rfl) rfl (.tail .head) rfl (by simp) rfl (by kernel_rfl) ?_; clear M T; intro wc ac M T
          refine sh_out hK _ _ (MA.mk (fun h => (no_of (by kernel_rfl) h).elim) ((M.mask [false, false, true, true, false] rfl).sub (List.Sublist.cons_cons _ (List.Sublist.cons_cons _ (List.sublist_append_left _ _))))) ?_; clear hK K
          refine g_done (by kernel_rfl) ?_
          replace T := T.pick [1, 3, 7, 8, 9, 10] rfl
          exact ⟨xur13_2, yur13_2, zur13_2, sur13_2, Aur13_4, cur13_4, Iur13_4, bur13_4, our13_4, hxur13_2, hsur13_2, Sur13_4, gr13_6, gr13_5, (T.pick (E' := [(3, .pointer (some ⟨bpu1, 0, none⟩)), (4, .pointer (some ⟨g1, 0, none⟩)), (5, .int .i64 ((guidedJ jm).1)), (7, .pointer (some ⟨g2, 0, none⟩)), (10, .pointer (some ⟨gr13_5, 0, none⟩)), (11, .pointer (some ⟨gr13_6, 0, none⟩))]) [2, 3, 4, 5, 0, 1] rfl).as (by rfl), M.mask [true, true, true, true, true] rfl⟩
        ·refine g_i rfl (by kernel_rfl : (pbits 9 75).setIfInBounds 5 true = pbits 9 107) rfl ?_; intro K hK
         refine ow_al M T rfl rfl rfl rfl ?_; clear M T; intro gr13_5 wc ac M T
         refine sh_out hK _ _ (MA.mk (fun _ => M.mask [false, false, true, true, true] rfl) (M.mask [false, false, true, true, false] rfl)) ?_; clear hK K
         refine g_w (i := 2) (by kernel_rfl) rfl (by kernel_rfl : (pbits 9 107).setIfInBounds 2 true = pbits 9 111) rfl ?_; intro K hK
         refine ow_call (first := []) (cap := []) T rfl rfl rfl rfl evf (.cons (T.ev 4 rfl) (.cons (T.ev 3 rfl) .nil)) Try.func36 rfl rfl ?_
         refine Calls.mono (filedOf_any _ bpu1 jm _ _ _ hgm (M.nth 4 rfl) hsu4) ?_
         clear T
         rintro e wc ⟨xur13_2, yur13_2, zur13_2, sur13_2, hxur13_2, hsur13_2, rfl, hgr, hbk⟩
         intro ac T
         replace M := M.callC (cs' := [.int .u64 sur13_2]) (.tail (.tail (.tail (.tail .head)))) hgr hbk
         clear hgr hbk
         refine sh_out hK _ _ (MA.mk (fun h => (no_of (by kernel_rfl) h).elim) (M.mask [false, false, true, true, false] rfl)) ?_; clear hK K
         refine g_w (i := 4) (by kernel_rfl) rfl (by kernel_rfl : (pbits 9 111).setIfInBounds 4 true = pbits 9 127) rfl ?_; intro K hK
         refine ow_call (first := []) (cap := []) T rfl rfl rfl rfl evf (.cons (T.ev 3 rfl) .nil) Try.func18 rfl rfl ?_
         refine Calls.mono (copyJob_own jm _ _ _ (Sjm.rd M (.cons _ (.cons _ (.cons _ (.cons _ (.cons _ (List.Sublist.refl _))))))) (by omega)) ?_
         clear T
         rintro e wc ⟨Aur13_4, cur13_4, Iur13_4, rfl, hsnur13_4, N⟩
         intro ac T
         obtain ⟨bur13_4, our13_4, Sur13_4⟩ := hsnur13_4.sp (w := w) (ex := noEx) (rc_length _)
         replace M := (M.join N).swapI
         replace M := M.mask [true, true, true, true, true] rfl
         clear N hsnur13_4
         refine sh_out hK _ _ (MA.mk (fun h => (no_of (by kernel_rfl) h).elim) ((M.mask [false, false, true, true, false] rfl).sub (List.Sublist.cons_cons _ (List.Sublist.cons_cons _ (List.sublist_append_left _ _))))) ?_; clear hK K
         refine g_w (i := 7) (by kernel_rfl) rfl (by kernel_rfl : (pbits 9 127).setIfInBounds 7 true = pbits 9 255) rfl ?_; intro K hK
         refine ow_stO M T rfl rfl (T.ev 2 rfl) (T.ev 1 rfl) rfl .head rfl (by simp) rfl (by kernel_rfl) ?_; clear M T; intro wc ac M T
         refine sh_out hK _ _ (MA.mk (fun h => (no_of (by kernel_rfl) h).elim) ((M.mask [false, false, true, true, false] rfl).sub (List.Sublist.cons_cons _ (List.Sublist.cons_cons _ (List.sublist_append_left _ _))))) ?_; clear hK K
         refine g_w (i := 8) (by kernel_rfl) rfl (by kernel_rfl : (pbits 9 255).setIfInBounds 8 true = pbits 9 511) rfl ?_; intro K hK
         refine ow_stO M T rfl rfl (T.ev 3 rfl) (T.ev 0 rfl) rfl (.tail .head) rfl (by simp) rfl (by kernel_rfl) ?_; clear M T; intro wc ac M T
         refine sh_out hK _ _ (MA.mk (fun h => (no_of (by kernel_rfl) h).elim) ((M.mask [false, false, true, true, false] rfl).sub (List.Sublist.cons_cons _ (List.Sublist.cons_cons _ (List.sublist_append_left _ _))))) ?_; clear hK K
         refine g_done (by kernel_rfl) ?_
         replace T := T.pick [2, 3, 7, 8, 9, 10] rfl
         exact ⟨xur13_2, yur13_2, zur13_2, sur13_2, Aur13_4, cur13_4, Iur13_4, bur13_4, our13_4, hxur13_2, hsur13_2, Sur13_4, gr13_6, gr13_5, (T.pick (E' := [(3, .pointer (some ⟨bpu1, 0, none⟩)), (4, .pointer (some ⟨g1, 0, none⟩)), (5, .int .i64 ((guidedJ jm).1)), (7, .pointer (some ⟨g2, 0, none⟩)), (10, .pointer (some ⟨gr13_5, 0, none⟩)), (11, .pointer (some ⟨gr13_6, 0, none⟩))]) [2, 3, 4, 5, 0, 1] rfl).as (by rfl), M.mask [true, true, true, true, true] rfl⟩
      ·clear T M
       rintro ac wc ⟨xur13_2, yur13_2, zur13_2, sur13_2, Aur13_4, cur13_4, Iur13_4, bur13_4, our13_4, hxur13_2, hsur13_2, Sur13_4, gr13_6, gr13_5, T, M⟩
       refine cut_seq (fun ac wc => Tm ac 218 [(3, .pointer (some ⟨bpu1, 0, none⟩)), (4, .pointer (some ⟨g1, 0, none⟩)), (5, .int .i64 ((guidedJ jm).1)), (7, .pointer (some ⟨g2, 0, none⟩)), (10, .pointer (some ⟨gr13_5, 0, none⟩)), (11, .pointer (some ⟨gr13_6, 0, none⟩)), (12, .bool ((decide (yur13_2 < jm.le)) || (decide (zur13_2 < jm.le))))] ∧ Mem w noEx wc ((gr13_5, .cells [.int .i64 xur13_2, .int .i64 yur13_2, .int .i64 zur13_2]) :: (gr13_6, .cells (jobL jm Aur13_4 cur13_4)) :: (g2, .cells [.int .i64 (if ((windowJ jm).2) = 11 then 1000 else (windowJ jm).1.1), .int .i64 (if ((windowJ jm).2) = 11 then -1000 else (windowJ jm).1.2)]) :: (g1, .cells (jobL jm Au4 cu4)) :: (bpu1, .cells [.int .u64 sur13_2]) :: (Iu4 ++ Iur13_4))) ?_ ?_
       ·refine wp_region_lit ?_
        refine l_q (v := (.pointer (some ⟨gr13_5, 1, none⟩))) T rfl rfl rfl rfl (rn_fieldAddr (off := 1) rfl (T.ev 4 rfl) (fun _ _ _ => by kernel_rfl)) ?_; clear T ac; intro ac T
        refine l_q T rfl rfl rfl rfl (rn_one (Mem.nth M 0 rfl) rfl (T.ev 0 rfl) rfl) ?_; clear T ac; intro ac T
        refine l_q (v := (.pointer (some ⟨g1, 6, none⟩))) T rfl rfl rfl rfl (rn_fieldAddr (off := 6) rfl (T.ev 3 rfl) (fun _ _ _ => by kernel_rfl)) ?_; clear T ac; intro ac T
        refine l_q (v := (.pointer (some ⟨g1, 14, none⟩))) T rfl rfl rfl rfl (rn_fieldAddr (off := 8) rfl (T.ev 0 rfl) (fun _ _ _ => by kernel_rfl)) ?_; clear T ac; intro ac T
        refine l_q T rfl rfl rfl rfl (rn_one (Mem.nth M 3 rfl) rfl (T.ev 0 rfl) rfl) ?_; clear T ac; intro ac T
        refine l_q T rfl rfl rfl rfl (rn_lss rfl (T.ev 3 rfl) (T.ev 0 rfl)) ?_; clear T ac; intro ac T
        refine l_q T rfl rfl rfl rfl (rn_move rfl (T.ev 0 rfl)) ?_; clear T ac; intro ac T
        rcases Bool.eq_false_or_eq_true (decide (yur13_2 < jm.le)) with h7 | h7
        ·replace h7 := of_decide_eq_true h7
         refine l_pass T (wanted_no rfl rfl (T.ev 0 rfl) (decide_eq_true h7)) rfl rfl rfl ?_; clear T ac; intro ac T
         refine l_pass T (wanted_no rfl rfl (T.ev 1 rfl) (decide_eq_true h7)) rfl rfl rfl ?_; clear T ac; intro ac T
         refine l_pass T (wanted_no rfl rfl (T.ev 2 rfl) (decide_eq_true h7)) rfl rfl rfl ?_; clear T ac; intro ac T
         refine l_pass T (wanted_no rfl rfl (T.ev 3 rfl) (decide_eq_true h7)) rfl rfl rfl ?_; clear T ac; intro ac T
         refine l_pass T (wanted_no rfl rfl (T.ev 4 rfl) (decide_eq_true h7)) rfl rfl rfl ?_; clear T ac; intro ac T
         refine l_pass T (wanted_no rfl rfl (T.ev 5 rfl) (decide_eq_true h7)) rfl rfl rfl ?_; clear T ac; intro ac T
         refine l_q T rfl rfl rfl rfl (rn_pick1 rfl (T.ev 6 rfl) (decide_eq_true h7) evc) ?_; clear T ac; intro ac T
         refine l_q T rfl rfl rfl rfl (rn_assign rfl (T.ev 0 rfl)) ?_; clear T ac; intro ac T
         refine wpList_nil ?_
         replace T := T.pick [0, 15, 16, 17, 18, 19, 20] rfl
         exact ⟨(T.pick (E' := [(3, .pointer (some ⟨bpu1, 0, none⟩)), (4, .pointer (some ⟨g1, 0, none⟩)), (5, .int .i64 ((guidedJ jm).1)), (7, .pointer (some ⟨g2, 0, none⟩)), (10, .pointer (some ⟨gr13_5, 0, none⟩)), (11, .pointer (some ⟨gr13_6, 0, none⟩)), (12, .bool true)]) [1, 2, 3, 4, 5, 6, 0] rfl).as (by (try rw [show (decide (yur13_2 < jm.le)) = true from (decide_eq_true h7)]); rfl), M.mask [true, true, true, true, true] rfl⟩
        ·replace h7 := of_decide_eq_false h7
         refine l_q (v := (.pointer (some ⟨gr13_5, 2, none⟩))) T (wanted_yes rfl rfl (T.ev 0 rfl) (decide_eq_false h7)) rfl rfl rfl (rn_fieldAddr (off := 2) rfl (T.ev 11 rfl) (fun _ _ _ => by kernel_rfl)) ?_; clear T ac; intro ac T
         refine l_q T (wanted_yes rfl rfl (T.ev 1 rfl) (decide_eq_false h7)) rfl rfl rfl (rn_one (Mem.nth M 0 rfl) rfl (T.ev 0 rfl) rfl) ?_; clear T ac; intro ac T
         refine l_q (v := (.pointer (some ⟨g1, 6, none⟩))) T (wanted_yes rfl rfl (T.ev 2 rfl) (decide_eq_false h7)) rfl rfl rfl (rn_fieldAddr (off := 6) rfl (T.ev 10 rfl) (fun _ _ _ => by kernel_rfl)) ?_; clear T ac; intro ac T
         refine l_q (v := (.pointer (some ⟨g1, 14, none⟩))) T (wanted_yes rfl rfl (T.ev 3 rfl) (decide_eq_false h7)) rfl rfl rfl (rn_fieldAddr (off := 8) rfl (T.ev 0 rfl) (fun _ _ _ => by kernel_rfl)) ?_; clear T ac; intro ac T
         refine l_q T (wanted_yes rfl rfl (T.ev 4 rfl) (decide_eq_false h7)) rfl rfl rfl (rn_one (Mem.nth M 3 rfl) rfl (T.ev 0 rfl) rfl) ?_; clear T ac; intro ac T
         refine l_q T (wanted_yes rfl rfl (T.ev 5 rfl) (decide_eq_false h7)) rfl rfl rfl (rn_lss rfl (T.ev 3 rfl) (T.ev 0 rfl)) ?_; clear T ac; intro ac T
         refine l_q T rfl rfl rfl rfl (rn_pick0 rfl (T.ev 6 rfl) (decide_eq_false h7) (T.ev 0 rfl)) ?_; clear T ac; intro ac T
         refine l_q T rfl rfl rfl rfl (rn_assign rfl (T.ev 0 rfl)) ?_; clear T ac; intro ac T
         refine wpList_nil ?_
         replace T := T.pick [0, 15, 16, 17, 18, 19, 20] rfl
         exact ⟨(T.pick (E' := [(3, .pointer (some ⟨bpu1, 0, none⟩)), (4, .pointer (some ⟨g1, 0, none⟩)), (5, .int .i64 ((guidedJ jm).1)), (7, .pointer (some ⟨g2, 0, none⟩)), (10, .pointer (some ⟨gr13_5, 0, none⟩)), (11, .pointer (some ⟨gr13_6, 0, none⟩)), (12, .bool (decide (zur13_2 < jm.le)))]) [1, 2, 3, 4, 5, 6, 0] rfl).as (by (try rw [show (decide (yur13_2 < jm.le)) = false from (decide_eq_false h7)]); rfl), M.mask [true, true, true, true, true] rfl⟩
       ·clear T M
        rintro ac wc ⟨T, M⟩
        refine wp_seq ?_
        refine wp_region_lit ?_
        refine l_q T rfl rfl rfl rfl (rn_assign rfl evc) ?_; clear T ac; intro ac T
        refine wpList_nil ?_
        refine nm_then ?_
        refine wp_block ?_
        obtain ⟨N, hN4, hgN, hrdN⟩ := reads_guided hgm (by rcases hng with ⟨q1, q2, q3⟩ | ⟨q1, q2, q3⟩ <;> omega)
        refine wp_loop_n (fun mz ac wc => ∃ (kj : Jb) (a b c9 i s : Int) (m : Nat), mz = m ∧ kj.good ∧ (SameF kj jm) ∧ (InS kj.st a b c9) ∧ (m ≤ 4) ∧ (0 ≤ i ∧ i + (m : Int) ≤ (guidedJ jm).1) ∧ (readsP kj (winS kj).1 (winS kj).2 m kj.p0 kj.p1 0 0 = true) ∧ (u64ok s) ∧ Tm ac 218 [(3, .pointer (some ⟨bpu1, 0, none⟩)), (4, .pointer (some ⟨g1, 0, none⟩)), (5, .int .i64 ((guidedJ jm).1)), (7, .pointer (some ⟨g2, 0, none⟩)), (10, .pointer (some ⟨gr13_5, 0, none⟩)), (11, .pointer (some ⟨gr13_6, 0, none⟩)), (12, .bool ((decide (yur13_2 < jm.le)) || (decide (zur13_2 < jm.le)))), (13, .int .i64 i)] ∧ Mem w noEx wc ((gr13_5, .cells [.int .i64 a, .int .i64 b, .int .i64 c9]) :: (gr13_6, .cells (jobL kj Aur13_4 cur13_4)) :: (g2, .cells [.int .i64 (if ((windowJ jm).2) = 11 then 1000 else (windowJ jm).1.1), .int .i64 (if ((windowJ jm).2) = 11 then -1000 else (windowJ jm).1.2)]) :: (g1, .cells (jobL jm Au4 cu4)) :: (bpu1, .cells [.int .u64 s]) :: (Iu4 ++ Iur13_4))) ?_ ?_
        ·exact ⟨_, jm, xur13_2, yur13_2, zur13_2, 0, _, N, rfl, hgm, (SameF.refl _), hxur13_2, hN4, (by omega), hrdN, hsur13_2, T.pick [1, 2, 3, 4, 5, 6, 7, 0] rfl, M.mask [true, true, true, true, true] rfl⟩
        ·clear T M
         rintro mz ac wc ⟨kj, a, b, c9, i, s, m, hmm1, hkg, hsf, hin, hm4, hi, hrd, hs, T, M⟩
         have Skj : Sp w noEx Iur13_4 Aur13_4 kj.sh.length 2 bur13_4 our13_4 (rc kj.sh) := by rw [hsf.sh]; exact Sur13_4
         have hkp := hkg.p
         have hkm := hkg.me
         have hkf := hkg.few
         have hin1 : kj.p0 ≤ a ∧ a ≤ kj.p1 := hin.p
         have hsm := hsf.me
         have hsl := hsf.le
         have hgn : (guidedJ jm).1 ≤ 4 := by omega
         refine wp_seq ?_
         refine wp_block ?_
         refine cut_seq (fun ac wc => ∃ (xur17_9 : Int), ∃ (sur17_9 : Int), ∃ (haur17_11 : Int), ∃ (hcur17_11 : Int), ((-jm.me) ≤ xur17_9 ∧ xur17_9 ≤ jm.me) ∧ (u64ok sur17_9) ∧ (HearF kj m a haur17_11 hcur17_11) ∧ ∃ (gr17_15 : Nat), Tm ac 218 [(3, .pointer (some ⟨bpu1, 0, none⟩)), (4, .pointer (some ⟨g1, 0, none⟩)), (5, .int .i64 ((guidedJ jm).1)), (7, .pointer (some ⟨g2, 0, none⟩)), (10, .pointer (some ⟨gr13_5, 0, none⟩)), (11, .pointer (some ⟨gr13_6, 0, none⟩)), (12, .bool ((decide (yur13_2 < jm.le)) || (decide (zur13_2 < jm.le)))), (13, .int .i64 i), (14, .pointer (some ⟨gr17_15, 0, none⟩)), (15, .int .i64 0)] ∧ Mem w noEx wc ((gr17_15, .cells [.int .i64 haur17_11, .int .i64 hcur17_11]) :: (gr13_5, .cells [.int .i64 a, .int .i64 b, .int .i64 c9]) :: (gr13_6, .cells (jobL kj Aur13_4 cur13_4)) :: (g2, .cells [.int .i64 (if ((windowJ jm).2) = 11 then 1000 else (windowJ jm).1.1), .int .i64 (if ((windowJ jm).2) = 11 then -1000 else (windowJ jm).1.2)]) :: (g1, .cells (jobL jm Au4 cu4)) :: (bpu1, .cells [.int .u64 sur17_9]) :: (Iu4 ++ Iur13_4))) ?_ ?_
         ·refine g_start2 M (M.mask [true, true, true, true, false] rfl) 18 (by kernel_rfl) rfl (by kernel_rfl) ?_
          clear M; intro wc M
          refine g_addG 9 M ?_
          refine g_q (T := T) (i := 0) rfl (by kernel_rfl) (by kernel_rfl : (pbits 18 0).setIfInBounds 0 true = pbits 18 1) (si_and (si_G rfl) si_U) (fun _ _ _ h => h) rfl rfl rfl rfl (fun B w' hD hl hS => (rn_rowO (Mem.nth (show Mem w noEx w' _ from (MA.rgt hS)) 1 rfl) rfl (T.ev 5 rfl) rfl)) ?_; clear T ac; intro ac T
          refine g_q (v := (.pointer (some ⟨gr13_5, 0, none⟩))) (T := T) (i := 1) rfl (by kernel_rfl) (by kernel_rfl : (pbits 18 1).setIfInBounds 1 true = pbits 18 3) (si_and (si_G rfl) si_U) (fun _ _ _ h => h) rfl rfl rfl rfl (fun _ _ _ _ _ => (rn_fieldAddr (off := 0) rfl (T.ev 5 rfl) (fun _ _ _ => by kernel_rfl))) ?_; clear T ac; intro ac T
          refine g_q (T := T) (i := 2) rfl (by kernel_rfl) (by kernel_rfl : (pbits 18 3).setIfInBounds 2 true = pbits 18 7) (si_and (si_G rfl) si_U) (fun _ _ _ h => h) rfl rfl rfl rfl (fun B w' hD hl hS => (rn_one (Mem.nth (show Mem w noEx w' _ from (MA.rgt hS)) 0 rfl) rfl (T.ev 0 rfl) rfl)) ?_; clear T ac; intro ac T
          refine g_q (T := T) (i := 3) rfl (by kernel_rfl) (by kernel_rfl : (pbits 18 7).setIfInBounds 3 true = pbits 18 15) (si_and (si_G rfl) si_U) (fun _ _ _ h => h) rfl rfl rfl rfl (fun _ _ _ _ _ => (rn_move rfl (T.ev 3 rfl))) ?_; clear T ac; intro ac T
          refine g_q (v := (.pointer (some ⟨g1, 17, none⟩))) (T := T) (i := 4) rfl (by kernel_rfl) (by kernel_rfl : (pbits 18 15).setIfInBounds 4 true = pbits 18 31) (si_and (si_G rfl) si_U) (fun _ _ _ h => h) rfl rfl rfl rfl (fun _ _ _ _ _ => (rn_fieldAddr (off := 17) rfl (T.ev 5 rfl) (fun _ _ _ => by kernel_rfl))) ?_; clear T ac; intro ac T
          refine g_q (T := T) (i := 5) rfl (by kernel_rfl) (by kernel_rfl : (pbits 18 31).setIfInBounds 5 true = pbits 18 63) (si_and (si_G rfl) si_U) (fun _ _ _ h => h) rfl rfl rfl rfl (fun B w' hD hl hS => (rn_one (Mem.nth (show Mem w noEx w' _ from ((MA.lft hS) (hD.wait (i := 6) (m := 9) (by kernel_rfl) (hD.wait (i := 5) (m := 6) (by kernel_rfl) hl)))) 3 rfl) rfl (T.ev 0 rfl) rfl)) ?_; clear T ac; intro ac T
          refine g_q (T := T) (i := 6) rfl (by kernel_rfl) (by kernel_rfl : (pbits 18 63).setIfInBounds 6 true = pbits 18 127) (si_and (si_G rfl) si_U) (fun _ _ _ h => h) rfl rfl rfl rfl (fun _ _ _ _ _ => (rn_neg rfl (T.ev 0 rfl) (by omega))) ?_; clear T ac; intro ac T
          refine g_q (v := (.pointer (some ⟨g1, 17, none⟩))) (T := T) (i := 7) rfl (by kernel_rfl) (by kernel_rfl : (pbits 18 127).setIfInBounds 7 true = pbits 18 255) (si_and (si_G rfl) si_U) (fun _ _ _ h => h) rfl rfl rfl rfl (fun _ _ _ _ _ => (rn_fieldAddr (off := 17) rfl (T.ev 8 rfl) (fun _ _ _ => by kernel_rfl))) ?_; clear T ac; intro ac T
          refine g_q (T := T) (i := 8) rfl (by kernel_rfl) (by kernel_rfl : (pbits 18 255).setIfInBounds 8 true = pbits 18 511) (si_and (si_G rfl) si_U) (fun _ _ _ h => h) rfl rfl rfl rfl (fun B w' hD hl hS => (rn_one (Mem.nth (show Mem w noEx w' _ from ((MA.lft hS) (hD.wait (i := 8) (m := 9) (by kernel_rfl) hl))) 3 rfl) rfl (T.ev 0 rfl) rfl)) ?_; clear T ac; intro ac T
          refine g_m2 (i := 9) (j := 15) (by kernel_rfl) ?_ ?_
          ·refine g_i rfl (by kernel_rfl : (pbits 18 511).setIfInBounds 9 true = pbits 18 1023) rfl ?_; intro K hK
           refine ow_call (first := []) (cap := []) T rfl rfl rfl rfl evf (.cons (T.ev 5 rfl) (.cons (T.ev 2 rfl) (.cons (T.ev 0 rfl) .nil))) Try.func38 rfl rfl ?_
           refine Calls.mono (within_pot _ bpu1 (-jm.me) jm.me _ (by omega) (by omega) (by omega) (M.nth 4 rfl) hs) ?_
           clear T
           rintro e wc ⟨xur17_9, sur17_9, hxur17_9, hsur17_9, rfl, hgr, hbk⟩
           intro ac T
           replace M := M.callC (cs' := [.int .u64 sur17_9]) (.tail (.tail (.tail (.tail .head)))) hgr hbk
           clear hgr hbk
           refine sh_out hK _ _ (MA.mk (fun h => (no_of (by kernel_rfl) h).elim) (M.mask [true, true, true, true, false] rfl)) ?_; clear hK K
           refine g_q (T := T) (i := 10) rfl (by kernel_rfl) (by kernel_rfl : (pbits 18 1023).setIfInBounds 10 true = pbits 18 2047) (si_and (si_G rfl) si_U) (fun _ _ _ h => h) rfl rfl rfl rfl (fun _ _ _ _ _ => (rn_add rfl (T.ev 7 rfl) (T.ev 0 rfl) (by omega))) ?_; clear T ac; intro ac T
           refine g_m2 (i := 11) (j := 15) (by kernel_rfl) ?_ ?_
           ·refine g_i rfl (by kernel_rfl : (pbits 18 2047).setIfInBounds 11 true = pbits 18 4095) rfl ?_; intro K hK
            refine ow_call (first := []) (cap := []) T rfl rfl rfl rfl evf (.cons (T.ev 10 rfl) (.cons (T.ev 0 rfl) .nil)) Try.func37 rfl rfl ?_
            refine Calls.mono (Hear_game kj _ _ m a xur17_9 _ (Skj.rd M (.cons _ (.cons _ (.cons _ (.cons _ (.cons _ (List.sublist_append_right _ _))))))) hkg hrd (by first | exact hin.p | omega) (by have h8 := hsf.me; omega)) ?_
            clear T
            rintro e wc ⟨haur17_11, hcur17_11, rfl, hhur17_11, hb⟩
            intro ac T
            replace M := M.call hb; clear hb
            refine sh_out hK _ _ (MA.mk (fun h => (no_of (by kernel_rfl) h).elim) (M.mask [true, true, true, true, false] rfl)) ?_; clear hK K
            refine g_q (T := T) (i := 12) rfl (by kernel_rfl) (by kernel_rfl : (pbits 18 4095).setIfInBounds 12 true = pbits 18 8191) (si_and (si_G rfl) si_U) (fun _ _ _ h => h) rfl rfl rfl rfl (fun _ _ _ _ _ => (rn_move rfl (T.ev 0 rfl))) ?_; clear T ac; intro ac T
            refine g_q (T := T) (i := 13) rfl (by kernel_rfl) (by kernel_rfl : (pbits 18 8191).setIfInBounds 13 true = pbits 18 16383) (si_and (si_G rfl) si_U) (fun _ _ _ h => h) rfl rfl rfl rfl (fun _ _ _ _ _ => (rn_extract rfl (T.ev 0 rfl) rfl)) ?_; clear T ac; intro ac T
            refine g_q (T := T) (i := 14) rfl (by kernel_rfl) (by kernel_rfl : (pbits 18 16383).setIfInBounds 14 true = pbits 18 32767) (si_and (si_G rfl) si_U) (fun _ _ _ h => h) rfl rfl rfl rfl (fun _ _ _ _ _ => (rn_extract rfl (T.ev 1 rfl) rfl)) ?_; clear T ac; intro ac T
            refine g_w (i := 15) (by kernel_rfl) rfl (by kernel_rfl : (pbits 18 32767).setIfInBounds 15 true = pbits 18 65535) rfl ?_; intro K hK
            refine ow_al M T rfl rfl rfl rfl ?_; clear M T; intro gr17_15 wc ac M T
            refine sh_out hK _ _ (MA.mk (fun h => (no_of (by kernel_rfl) h).elim) (M.mask [false, true, true, true, true, false] rfl)) ?_; clear hK K
            refine g_w (i := 16) (by kernel_rfl) rfl (by kernel_rfl : (pbits 18 65535).setIfInBounds 16 true = pbits 18 131071) rfl ?_; intro K hK
            refine ow_stO M T rfl rfl (T.ev 0 rfl) (T.ev 2 rfl) rfl .head rfl (by simp) rfl (by kernel_rfl) ?_; clear M T; intro wc ac M T
            refine sh_out hK _ _ (MA.mk (fun h => (no_of (by kernel_rfl) h).elim) (M.mask [false, true, true, true, true, false] rfl)) ?_; clear hK K
            refine g_q (T := T) (i := 17) rfl (by kernel_rfl) (by kernel_rfl : (pbits 18 131071).setIfInBounds 17 true = pbits 18 262143) (si_and (si_G rfl) si_U) (fun _ _ _ h => h) rfl rfl rfl rfl (fun _ _ _ _ _ => (rn_assign rfl (T.ev 1 rfl))) ?_; clear T ac; intro ac T
            refine g_done (by kernel_rfl) ?_
            replace T := T.pick [0, 1, 17, 18, 19, 20, 21, 22, 23, 24] rfl
            exact ⟨xur17_9, sur17_9, haur17_11, hcur17_11, hxur17_9, hsur17_9, hhur17_11, gr17_15, (T.pick (E' := [(3, .pointer (some ⟨bpu1, 0, none⟩)), (4, .pointer (some ⟨g1, 0, none⟩)), (5, .int .i64 ((guidedJ jm).1)), (7, .pointer (some ⟨g2, 0, none⟩)), (10, .pointer (some ⟨gr13_5, 0, none⟩)), (11, .pointer (some ⟨gr13_6, 0, none⟩)), (12, .bool ((decide (yur13_2 < jm.le)) || (decide (zur13_2 < jm.le)))), (13, .int .i64 i), (14, .pointer (some ⟨gr17_15, 0, none⟩)), (15, .int .i64 0)]) [2, 3, 4, 5, 6, 7, 8, 9, 1, 0] rfl).as (by rfl), M.mask [true, true, true, true, true, true] rfl⟩
           ·refine g_i rfl (by kernel_rfl : (pbits 18 2047).setIfInBounds 15 true = pbits 18 34815) rfl ?_; intro K hK
            refine ow_al M T rfl rfl rfl rfl ?_; clear M T; intro gr17_15 wc ac M T
            refine sh_out hK _ _ (MA.mk (fun h => (no_of (by kernel_rfl) h).elim) (M.mask [false, true, true, true, true, false] rfl)) ?_; clear hK K
            refine g_w (i := 11) (by kernel_rfl) rfl (by kernel_rfl : (pbits 18 34815).setIfInBounds 11 true = pbits 18 36863) rfl ?_; intro K hK
            refine ow_call (first := []) (cap := []) T rfl rfl rfl rfl evf (.cons (T.ev 11 rfl) (.cons (T.ev 1 rfl) .nil)) Try.func37 rfl rfl ?_
            refine Calls.mono (Hear_game kj _ _ m a xur17_9 _ (Skj.rd M (.cons _ (.cons _ (.cons _ (.cons _ (.cons _ (.cons _ (List.sublist_append_right _ _)))))))) hkg hrd (by first | exact hin.p | omega) (by have h8 := hsf.me; omega)) ?_
            clear T
            rintro e wc ⟨haur17_11, hcur17_11, rfl, hhur17_11, hb⟩
            intro ac T
            replace M := M.call hb; clear hb
            refine sh_out hK _ _ (MA.mk (fun h => (no_of (by kernel_rfl) h).elim) (M.mask [false, true, true, true, true, false] rfl)) ?_; clear hK K
            refine g_q (T := T) (i := 12) rfl (by kernel_rfl) (by kernel_rfl : (pbits 18 36863).setIfInBounds 12 true = pbits 18 40959) (si_and (si_G rfl) si_U) (fun _ _ _ h => h) rfl rfl rfl rfl (fun _ _ _ _ _ => (rn_move rfl (T.ev 0 rfl))) ?_; clear T ac; intro ac T
            refine g_q (T := T) (i := 13) rfl (by kernel_rfl) (by kernel_rfl : (pbits 18 40959).setIfInBounds 13 true = pbits 18 49151) (si_and (si_G rfl) si_U) (fun _ _ _ h => h) rfl rfl rfl rfl (fun _ _ _ _ _ => (rn_extract rfl (T.ev 0 rfl) rfl)) ?_; clear T ac; intro ac T
            refine g_q (T := T) (i := 14) rfl (by kernel_rfl) (by kernel_rfl : (pbits 18 49151).setIfInBounds 14 true = pbits 18 65535) (si_and (si_G rfl) si_U) (fun _ _ _ h => h) rfl rfl rfl rfl (fun _ _ _ _ _ => (rn_extract rfl (T.ev 1 rfl) rfl)) ?_; clear T ac; intro ac T
            refine g_w (i := 16) (by kernel_rfl) rfl (by kernel_rfl : (pbits 18 65535).setIfInBounds 16 true = pbits 18 131071) rfl ?_; intro K hK
            refine ow_stO M T rfl rfl (T.ev 4 rfl) (T.ev 1 rfl) rfl .head rfl (by simp) rfl (by kernel_rfl) ?_; clear M T; intro wc ac M T
            refine sh_out hK _ _ (MA.mk (fun h => (no_of (by kernel_rfl) h).elim) (M.mask [false, true, true, true, true, false] rfl)) ?_; clear hK K
            refine g_q (T := T) (i := 17) rfl (by kernel_rfl) (by kernel_rfl : (pbits 18 131071).setIfInBounds 17 true = pbits 18 262143) (si_and (si_G rfl) si_U) (fun _ _ _ h => h) rfl rfl rfl rfl (fun _ _ _ _ _ => (rn_assign rfl (T.ev 0 rfl))) ?_; clear T ac; intro ac T
            refine g_done (by kernel_rfl) ?_
            replace T := T.pick [0, 5, 17, 18, 19, 20, 21, 22, 23, 24] rfl
            exact ⟨xur17_9, sur17_9, haur17_11, hcur17_11, hxur17_9, hsur17_9, hhur17_11, gr17_15, (T.pick (E' := [(3, .pointer (some ⟨bpu1, 0, none⟩)), (4, .pointer (some ⟨g1, 0, none⟩)), (5, .int .i64 ((guidedJ jm).1)), (7, .pointer (some ⟨g2, 0, none⟩)), (10, .pointer (some ⟨gr13_5, 0, none⟩)), (11, .pointer (some ⟨gr13_6, 0, none⟩)), (12, .bool ((decide (yur13_2 < jm.le)) || (decide (zur13_2 < jm.le)))), (13, .int .i64 i), (14, .pointer (some ⟨gr17_15, 0, none⟩)), (15, .int .i64 0)]) [2, 3, 4, 5, 6, 7, 8, 9, 1, 0] rfl).as (by rfl), M.mask [true, true, true, true, true, true] rfl⟩
          ·refine g_i rfl (by kernel_rfl : (pbits 18 511).setIfInBounds 15 true = pbits 18 33279) rfl ?_; intro K hK
           refine ow_al M T rfl rfl rfl rfl ?_; clear M T; intro gr17_15 wc ac M T
           refine sh_out hK _ _ (MA.mk (fun _ => M.mask [false, true, true, true, true, true] rfl) (M.mask [false, true, true, true, true, false] rfl)) ?_; clear hK K
           refine g_w (i := 9) (by kernel_rfl) rfl (by kernel_rfl : (pbits 18 33279).setIfInBounds 9 true = pbits 18 33791) rfl ?_; intro K hK
           refine ow_call (first := []) (cap := []) T rfl rfl rfl rfl evf (.cons (T.ev 6 rfl) (.cons (T.ev 3 rfl) (.cons (T.ev 1 rfl) .nil))) Try.func38 rfl rfl ?_
           refine Calls.mono (within_pot _ bpu1 (-jm.me) jm.me _ (by omega) (by omega) (by omega) (M.nth 5 rfl) hs) ?_
           clear T
           rintro e wc ⟨xur17_9, sur17_9, hxur17_9, hsur17_9, rfl, hgr, hbk⟩
           intro ac T
           replace M := M.callC (cs' := [.int .u64 sur17_9]) (.tail (.tail (.tail (.tail (.tail .head))))) hgr hbk
           clear hgr hbk
           refine sh_out hK _ _ (MA.mk (fun h => (no_of (by kernel_rfl) h).elim) (M.mask [false, true, true, true, true, false] rfl)) ?_; clear hK K
           refine g_q (T := T) (i := 10) rfl (by kernel_rfl) (by kernel_rfl : (pbits 18 33791).setIfInBounds 10 true = pbits 18 34815) (si_and (si_G rfl) si_U) (fun _ _ _ h => h) rfl rfl rfl rfl (fun _ _ _ _ _ => (rn_add rfl (T.ev 8 rfl) (T.ev 0 rfl) (by omega))) ?_; clear T ac; intro ac T
           refine g_w (i := 11) (by kernel_rfl) rfl (by kernel_rfl : (pbits 18 34815).setIfInBounds 11 true = pbits 18 36863) rfl ?_; intro K hK
           refine ow_call (first := []) (cap := []) T rfl rfl rfl rfl evf (.cons (T.ev 11 rfl) (.cons (T.ev 0 rfl) .nil)) Try.func37 rfl rfl ?_
           refine Calls.mono (Hear_game kj _ _ m a xur17_9 _ (Skj.rd M (.cons _ (.cons _ (.cons _ (.cons _ (.cons _ (.cons _ (List.sublist_append_right _ _)))))))) hkg hrd (by first | exact hin.p | omega) (by have h8 := hsf.me; omega)) ?_
           clear T
           rintro e wc ⟨haur17_11, hcur17_11, rfl, hhur17_11, hb⟩
           intro ac T
           replace M := M.call hb; clear hb
           refine sh_out hK _ _ (MA.mk (fun h => (no_of (by kernel_rfl) h).elim) (M.mask [false, true, true, true, true, false] rfl)) ?_; clear hK K
           refine g_q (T := T) (i := 12) rfl (by kernel_rfl) (by kernel_rfl : (pbits 18 36863).setIfInBounds 12 true = pbits 18 40959) (si_and (si_G rfl) si_U) (fun _ _ _ h => h) rfl rfl rfl rfl (fun _ _ _ _ _ => (rn_move rfl (T.ev 0 rfl))) ?_; clear T ac; intro ac T
           refine g_q (T := T) (i := 13) rfl (by kernel_rfl) (by kernel_rfl : (pbits 18 40959).setIfInBounds 13 true = pbits 18 49151) (si_and (si_G rfl) si_U) (fun _ _ _ h => h) rfl rfl rfl rfl (fun _ _ _ _ _ => (rn_extract rfl (T.ev 0 rfl) rfl)) ?_; clear T ac; intro ac T
           refine g_q (T := T) (i := 14) rfl (by kernel_rfl) (by kernel_rfl : (pbits 18 49151).setIfInBounds 14 true = pbits 18 65535) (si_and (si_G rfl) si_U) (fun _ _ _ h => h) rfl rfl rfl rfl (fun _ _ _ _ _ => (rn_extract rfl (T.ev 1 rfl) rfl)) ?_; clear T ac; intro ac T
           refine g_w (i := 16) (by kernel_rfl) rfl (by kernel_rfl : (pbits 18 65535).setIfInBounds 16 true = pbits 18 131071) rfl ?_; intro K hK
           refine ow_stO M T rfl rfl (T.ev 6 rfl) (T.ev 1 rfl) rfl .head rfl (by simp) rfl (by kernel_rfl) ?_; clear M T; intro wc ac M T
           refine sh_out hK _ _ (MA.mk (fun h => (no_of (by kernel_rfl) h).elim) (M.mask [false, true, true, true, true, false] rfl)) ?_; clear hK K
           refine g_q (T := T) (i := 17) rfl (by kernel_rfl) (by kernel_rfl : (pbits 18 131071).setIfInBounds 17 true = pbits 18 262143) (si_and (si_G rfl) si_U) (fun _ _ _ h => h) rfl rfl rfl rfl (fun _ _ _ _ _ => (rn_assign rfl (T.ev 0 rfl))) ?_; clear T ac; intro ac T
           refine g_done (by kernel_rfl) ?_
           replace T := T.pick [0, 7, 17, 18, 19, 20, 21, 22, 23, 24] rfl
           exact ⟨xur17_9, sur17_9, haur17_11, hcur17_11, hxur17_9, hsur17_9, hhur17_11, gr17_15, (T.pick (E' := [(3, .pointer (some ⟨bpu1, 0, none⟩)), (4, .pointer (some ⟨g1, 0, none⟩)), (5, .int .i64 ((guidedJ jm).1)), (7, .pointer (some ⟨g2, 0, none⟩)), (10, .pointer (some ⟨gr13_5, 0, none⟩)), (11, .pointer (some ⟨gr13_6, 0, none⟩)), (12, .bool ((decide (yur13_2 < jm.le)) || (decide (zur13_2 < jm.le)))), (13, .int .i64 i), (14, .pointer (some ⟨gr17_15, 0, none⟩)), (15, .int .i64 0)]) [2, 3, 4, 5, 6, 7, 8, 9, 1, 0] rfl).as (by rfl), M.mask [true, true, true, true, true, true] rfl⟩
         ·clear T M
          rintro ac wc ⟨xur17_9, sur17_9, haur17_11, hcur17_11, hxur17_9, hsur17_9, hhur17_11, gr17_15, T, M⟩
          refine wp_seq ?_
          refine cut_seq (fun ac wc => Tm ac 218 [(3, .pointer (some ⟨bpu1, 0, none⟩)), (4, .pointer (some ⟨g1, 0, none⟩)), (5, .int .i64 ((guidedJ jm).1)), (7, .pointer (some ⟨g2, 0, none⟩)), (10, .pointer (some ⟨gr13_5, 0, none⟩)), (11, .pointer (some ⟨gr13_6, 0, none⟩)), (12, .bool ((decide (yur13_2 < jm.le)) || (decide (zur13_2 < jm.le)))), (13, .int .i64 i), (14, .pointer (some ⟨gr17_15, 0, none⟩)), (109, .agg #[.int .i64 haur17_11, .int .i64 hcur17_11]), (110, .pointer (some ⟨gr13_5, 0, none⟩)), (111, .int .i64 a), (112, .bool (decide (haur17_11 ≤ a ∧ a ≤ hcur17_11))), (113, .bool (!(decide (haur17_11 ≤ a ∧ a ≤ hcur17_11)))), (122, .bool ((!(decide (haur17_11 ≤ a ∧ a ≤ hcur17_11))) || (!(hasB kj.p0 kj.p1 haur17_11 hcur17_11))))] ∧ Mem w noEx wc ((gr17_15, .cells [.int .i64 haur17_11, .int .i64 hcur17_11]) :: (gr13_5, .cells [.int .i64 a, .int .i64 b, .int .i64 c9]) :: (gr13_6, .cells (jobL kj Aur13_4 cur13_4)) :: (g2, .cells [.int .i64 (if ((windowJ jm).2) = 11 then 1000 else (windowJ jm).1.1), .int .i64 (if ((windowJ jm).2) = 11 then -1000 else (windowJ jm).1.2)]) :: (g1, .cells (jobL jm Au4 cu4)) :: (bpu1, .cells [.int .u64 sur17_9]) :: (Iu4 ++ Iur13_4))) ?_ ?_
          ·refine wp_region_lit ?_
           refine l_q T rfl rfl rfl rfl (rn_move rfl (T.ev 9 rfl)) ?_; clear T ac; intro ac T
           refine l_q (v := (.bool false)) T rfl rfl rfl rfl (rn_neqof (rn_neq rfl (T.ev 0 rfl) evc) (by simp)) ?_; clear T ac; intro ac T
           refine l_q T rfl rfl rfl rfl (rn_move rfl (T.ev 0 rfl)) ?_; clear T ac; intro ac T
           refine l_q T (wanted_yes rfl rfl (T.ev 0 rfl) rfl) rfl rfl rfl (rn_rowO (Mem.nth M 0 rfl) rfl (T.ev 11 rfl) rfl) ?_; clear T ac; intro ac T
           refine l_q (v := (.pointer (some ⟨gr13_5, 0, none⟩))) T (wanted_yes rfl rfl (T.ev 1 rfl) rfl) rfl rfl rfl (rn_fieldAddr (off := 0) rfl (T.ev 8 rfl) (fun _ _ _ => by kernel_rfl)) ?_; clear T ac; intro ac T
           refine l_q T (wanted_yes rfl rfl (T.ev 2 rfl) rfl) rfl rfl rfl (rn_one (Mem.nth M 1 rfl) rfl (T.ev 0 rfl) rfl) ?_; clear T ac; intro ac T
           refine l_w (wanted_yes rfl rfl (T.ev 3 rfl) rfl) ?_; intro K hK
           refine ow_call (first := []) (cap := []) T rfl rfl rfl rfl evf (.cons (T.ev 2 rfl) (.cons (T.ev 0 rfl) .nil)) Try.func39 rfl rfl ?_
           refine Calls.mono (in_x haur17_11 hcur17_11 a _) ?_
           clear T
           rintro e wc ⟨rfl, hb⟩
           intro ac T
           replace M := M.call hb; clear hb
           refine sh_out hK _ _ ?_; clear hK K
           refine l_q T (wanted_yes rfl rfl (T.ev 4 rfl) rfl) rfl rfl rfl (rn_not rfl (T.ev 0 rfl)) ?_; clear T ac; intro ac T
           refine l_q T rfl rfl rfl rfl (rn_pick0 rfl (T.ev 5 rfl) rfl (T.ev 0 rfl)) ?_; clear T ac; intro ac T
           refine l_q T rfl rfl rfl rfl (rn_move rfl (T.ev 0 rfl)) ?_; clear T ac; intro ac T
           rcases Bool.eq_false_or_eq_true (!(decide (haur17_11 ≤ a ∧ a ≤ hcur17_11))) with h8 | h8
           ·replace h8 : ¬ (haur17_11 ≤ a ∧ a ≤ hcur17_11) := by first | (rw [Bool.not_eq_true'] at h8; exact of_decide_eq_false h8) | simpa using h8
            refine l_pass T (wanted_no rfl rfl (T.ev 0 rfl) (by simp [h8])) rfl rfl rfl ?_; clear T ac; intro ac T
            refine l_pass T (wanted_no rfl rfl (T.ev 1 rfl) (by simp [h8])) rfl rfl rfl ?_; clear T ac; intro ac T
            refine l_pass T (wanted_no rfl rfl (T.ev 2 rfl) (by simp [h8])) rfl rfl rfl ?_; clear T ac; intro ac T
            refine l_pass T (wanted_no rfl rfl (T.ev 3 rfl) (by simp [h8])) rfl rfl rfl ?_; clear T ac; intro ac T
            refine l_pass T (wanted_no rfl rfl (T.ev 4 rfl) (by simp [h8])) rfl rfl rfl ?_; clear T ac; intro ac T
            refine l_pass T (wanted_no rfl rfl (T.ev 5 rfl) (by simp [h8])) rfl rfl rfl ?_; clear T ac; intro ac T
            refine l_q T rfl rfl rfl rfl (rn_pick1 rfl (T.ev 6 rfl) (by simp [h8]) evc) ?_; clear T ac; intro ac T
            refine wpList_nil ?_
            replace T := T.pick [0, 1, 2, 3, 4, 5, 6, 9, 10, 11, 12, 13, 17, 18, 19, 20, 21, 22, 23, 24, 25] rfl
            exact ⟨(T.pick (E' := [(3, .pointer (some ⟨bpu1, 0, none⟩)), (4, .pointer (some ⟨g1, 0, none⟩)), (5, .int .i64 ((guidedJ jm).1)), (7, .pointer (some ⟨g2, 0, none⟩)), (10, .pointer (some ⟨gr13_5, 0, none⟩)), (11, .pointer (some ⟨gr13_6, 0, none⟩)), (12, .bool ((decide (yur13_2 < jm.le)) || (decide (zur13_2 < jm.le)))), (13, .int .i64 i), (14, .pointer (some ⟨gr17_15, 0, none⟩)), (109, .agg #[.int .i64 haur17_11, .int .i64 hcur17_11]), (110, .pointer (some ⟨gr13_5, 0, none⟩)), (111, .int .i64 a), (112, .bool (decide (haur17_11 ≤ a ∧ a ≤ hcur17_11))), (113, .bool (!(decide (haur17_11 ≤ a ∧ a ≤ hcur17_11)))), (122, .bool true)]) [12, 13, 14, 15, 16, 17, 18, 19, 20, 11, 10, 9, 8, 7, 0] rfl).as (by (try rw [show (!(decide (haur17_11 ≤ a ∧ a ≤ hcur17_11))) = true from (by simp [h8])]); rfl), M.mask [true, true, true, true, true, true] rfl⟩
           ·replace h8 : haur17_11 ≤ a ∧ a ≤ hcur17_11 := by first | (rw [Bool.not_eq_false'] at h8; exact of_decide_eq_true h8) | simpa using h8
            refine l_q (v := (.pointer (some ⟨gr13_6, 0, none⟩))) T (wanted_yes rfl rfl (T.ev 0 rfl) (by simp [h8])) rfl rfl rfl (rn_fieldAddr (off := 0) rfl (T.ev 15 rfl) (fun _ _ _ => by kernel_rfl)) ?_; clear T ac; intro ac T
            refine l_q (v := (.pointer (some ⟨gr13_6, 0, none⟩))) T (wanted_yes rfl rfl (T.ev 1 rfl) (by simp [h8])) rfl rfl rfl (rn_fieldAddr (off := 0) rfl (T.ev 0 rfl) (fun _ _ _ => by kernel_rfl)) ?_; clear T ac; intro ac T
            refine l_q T (wanted_yes rfl rfl (T.ev 2 rfl) (by simp [h8])) rfl rfl rfl (rn_rowO (Mem.nth M 2 rfl) rfl (T.ev 0 rfl) rfl) ?_; clear T ac; intro ac T
            refine l_q T (wanted_yes rfl rfl (T.ev 3 rfl) (by simp [h8])) rfl rfl rfl (rn_rowO (Mem.nth M 0 rfl) rfl (T.ev 21 rfl) rfl) ?_; clear T ac; intro ac T
            refine l_w (wanted_yes rfl rfl (T.ev 4 rfl) (by simp [h8])) ?_; intro K hK
            refine ow_call (first := []) (cap := []) T rfl rfl rfl rfl evf (.cons (T.ev 1 rfl) (.cons (T.ev 0 rfl) .nil)) Try.func40 rfl rfl ?_
            refine Calls.mono (wider_any kj.p0 kj.p1 haur17_11 hcur17_11 _) ?_
            clear T
            rintro e wc ⟨rfl, hb⟩
            intro ac T
            replace M := M.call hb; clear hb
            refine sh_out hK _ _ ?_; clear hK K
            refine l_q T (wanted_yes rfl rfl (T.ev 5 rfl) (by simp [h8])) rfl rfl rfl (rn_not rfl (T.ev 0 rfl)) ?_; clear T ac; intro ac T
            refine l_q T rfl rfl rfl rfl (rn_pick0 rfl (T.ev 6 rfl) (by simp [h8]) (T.ev 0 rfl)) ?_; clear T ac; intro ac T
            refine wpList_nil ?_
            replace T := T.pick [0, 1, 2, 3, 4, 5, 6, 9, 10, 11, 12, 13, 17, 18, 19, 20, 21, 22, 23, 24, 25] rfl
            exact ⟨(T.pick (E' := [(3, .pointer (some ⟨bpu1, 0, none⟩)), (4, .pointer (some ⟨g1, 0, none⟩)), (5, .int .i64 ((guidedJ jm).1)), (7, .pointer (some ⟨g2, 0, none⟩)), (10, .pointer (some ⟨gr13_5, 0, none⟩)), (11, .pointer (some ⟨gr13_6, 0, none⟩)), (12, .bool ((decide (yur13_2 < jm.le)) || (decide (zur13_2 < jm.le)))), (13, .int .i64 i), (14, .pointer (some ⟨gr17_15, 0, none⟩)), (109, .agg #[.int .i64 haur17_11, .int .i64 hcur17_11]), (110, .pointer (some ⟨gr13_5, 0, none⟩)), (111, .int .i64 a), (112, .bool (decide (haur17_11 ≤ a ∧ a ≤ hcur17_11))), (113, .bool (!(decide (haur17_11 ≤ a ∧ a ≤ hcur17_11)))), (122, .bool (!(hasB kj.p0 kj.p1 haur17_11 hcur17_11)))]) [12, 13, 14, 15, 16, 17, 18, 19, 20, 11, 10, 9, 8, 7, 0] rfl).as (by (try rw [show (!(decide (haur17_11 ≤ a ∧ a ≤ hcur17_11))) = false from (by simp [h8])]); rfl), M.mask [true, true, true, true, true, true] rfl⟩
          ·clear T M
           rintro ac wc ⟨T, M⟩
           refine wp_cond_split (T.ev 14 rfl) ?_ ?_
           ·intro h9
            (try have h9' := h9; try simp only [Bool.and_eq_true, Bool.or_eq_true, Bool.not_eq_true', Bool.and_eq_false_imp, Bool.or_eq_false_iff, decide_eq_true_eq, decide_eq_false_iff_not] at h9')
            refine wp_seq ?_
            refine wp_region_lit ?_
            refine l_q T rfl rfl rfl rfl (rn_assign rfl evc) ?_; clear T ac; intro ac T
            refine wpList_nil ?_
            replace T := T.pick [0] rfl
            replace M := M.mask [false, false, false, false, false, false] rfl
            refine nm_then ?_
            refine wp_ret ?_
            refine rt_then ?_
            refine rt_blk ?_
            refine rt_then ?_
            refine rt_then ?_
            refine rt_blk ?_
            refine rt_1 T rfl (T.ev 0 rfl) ?_
            exfalso
            unfold HearF at *
            (try unfold hasB at h9)
            (try simp only [Bool.and_eq_true, Bool.or_eq_true, Bool.not_eq_true', Bool.and_eq_false_iff, Bool.or_eq_false_iff, Bool.not_eq_false', decide_eq_true_eq, decide_eq_false_iff_not] at h9)
            omega
           ·intro h9
            (try have h9' := h9; try simp only [Bool.and_eq_true, Bool.or_eq_true, Bool.not_eq_true', Bool.and_eq_false_imp, Bool.or_eq_false_iff, decide_eq_true_eq, decide_eq_false_iff_not] at h9')
            refine wp_skip ?_
            refine nm_then ?_
            refine wp_seq ?_
            refine wp_region_lit ?_
            refine l_q T rfl rfl rfl rfl (rn_rowO (Mem.nth M 0 rfl) rfl (T.ev 8 rfl) rfl) ?_; clear T ac; intro ac T
            refine l_q (v := (.pointer (some ⟨gr13_6, 0, none⟩))) T rfl rfl rfl rfl (rn_fieldAddr (off := 0) rfl (T.ev 6 rfl) (fun _ _ _ => by kernel_rfl)) ?_; clear T ac; intro ac T
            refine l_q (v := (.pointer (some ⟨gr13_6, 0, none⟩))) T rfl rfl rfl rfl (rn_fieldAddr (off := 0) rfl (T.ev 0 rfl) (fun _ _ _ => by kernel_rfl)) ?_; clear T ac; intro ac T
            refine l_w rfl ?_; intro K hK
            refine ow_stO M T rfl rfl (T.ev 0 rfl) (T.ev 2 rfl) rfl (.tail (.tail .head)) rfl (by simp) rfl (by kernel_rfl) ?_; clear M T; intro wc ac M T
            refine sh_out hK _ _ ?_; clear hK K
            refine wpList_nil ?_
            replace T := T.pick [3, 4, 5, 6, 7, 8, 9, 10, 11, 12, 13, 14, 15, 16] rfl
            refine nm_then ?_
            refine wp_seq ?_
            refine wp_region_lit ?_
            refine l_q T rfl rfl rfl rfl (rn_rowO (Mem.nth M 2 rfl) rfl (T.ev 5 rfl) rfl) ?_; clear T ac; intro ac T
            refine l_w rfl ?_; intro K hK
            refine ow_call (first := []) (cap := []) T rfl rfl rfl rfl evf (.cons (T.ev 0 rfl) .nil) Try.func26 rfl rfl ?_
            refine Calls.mono (Next_game (kj.at haur17_11 hcur17_11) _ _ m _ (Skj.rd M (.cons _ (.cons _ (.cons _ (.cons _ (.cons _ (.cons _ (List.sublist_append_right _ _)))))))) hhur17_11.2.1 hm4 hhur17_11.2.2) ?_
            clear T
            rintro e wc ⟨kdu12, lfu12, rfl, hnu12, hb⟩
            intro ac T
            replace M := M.call hb; clear hb
            obtain ⟨hlu12, hzu12, hpu12⟩ := hnu12
            obtain ⟨⟨hh1, hh2, hh3, hh4⟩, hkx, hst⟩ := hhur17_11
            have hin2 := hin.t
            have hin3 := hin.r
            refine sh_out hK _ _ ?_; clear hK K
            refine l_q T rfl rfl rfl rfl (rn_move rfl (T.ev 0 rfl)) ?_; clear T ac; intro ac T
            refine l_q T rfl rfl rfl rfl (rn_extract rfl (T.ev 0 rfl) rfl) ?_; clear T ac; intro ac T
            refine l_q T rfl rfl rfl rfl (rn_extract rfl (T.ev 1 rfl) rfl) ?_; clear T ac; intro ac T
            refine l_q T rfl rfl rfl rfl (rn_extract rfl (T.ev 2 rfl) rfl) ?_; clear T ac; intro ac T
            refine l_q T rfl rfl rfl rfl (rn_assign rfl (T.ev 2 rfl)) ?_; clear T ac; intro ac T
            refine l_q T rfl rfl rfl rfl (rn_assign rfl (T.ev 2 rfl)) ?_; clear T ac; intro ac T
            refine l_q T rfl rfl rfl rfl (rn_assign rfl (T.ev 2 rfl)) ?_; clear T ac; intro ac T
            refine wpList_nil ?_
            replace T := T.pick [0, 1, 2, 9, 10, 11, 12, 13, 14, 15, 16, 17, 18, 19, 20, 21, 22] rfl
            refine nm_then ?_
            refine wp_seq ?_
            refine wp_seq ?_
            refine wp_region_lit ?_
            refine l_q T rfl rfl rfl rfl (rn_move rfl (T.ev 0 rfl)) ?_; clear T ac; intro ac T
            refine l_q (v := (.bool false)) T rfl rfl rfl rfl (rn_neqof (rn_neq rfl (T.ev 0 rfl) evc) (by simp)) ?_; clear T ac; intro ac T
            refine l_q T rfl rfl rfl rfl (rn_move rfl (T.ev 0 rfl)) ?_; clear T ac; intro ac T
            refine l_q T (wanted_yes rfl rfl (T.ev 0 rfl) rfl) rfl rfl rfl (rn_move rfl (T.ev 13 rfl)) ?_; clear T ac; intro ac T
            refine l_q T (wanted_yes rfl rfl (T.ev 1 rfl) rfl) rfl rfl rfl (rn_move rfl (T.ev 5 rfl)) ?_; clear T ac; intro ac T
            refine l_q T (wanted_yes rfl rfl (T.ev 2 rfl) rfl) rfl rfl rfl (rn_add rfl (T.ev 1 rfl) (T.ev 0 rfl) (by omega)) ?_; clear T ac; intro ac T
            refine l_q T (wanted_yes rfl rfl (T.ev 3 rfl) rfl) rfl rfl rfl (rn_move rfl (T.ev 11 rfl)) ?_; clear T ac; intro ac T
            refine l_q T (wanted_yes rfl rfl (T.ev 4 rfl) rfl) rfl rfl rfl (rn_gtr rfl (T.ev 1 rfl) (T.ev 0 rfl)) ?_; clear T ac; intro ac T
            refine l_q T rfl rfl rfl rfl (rn_pick0 rfl (T.ev 5 rfl) rfl (T.ev 0 rfl)) ?_; clear T ac; intro ac T
            refine wpList_nil ?_
            replace T := T.pick [0, 1, 2, 3, 4, 5, 10, 11, 12, 13, 14, 15, 16, 17, 18, 19, 20, 21, 22, 23, 24, 25] rfl
            refine nm_then ?_
            refine wp_if (T.ev 0 rfl) ?_ ?_
            ·intro h10
             refine wp_seq ?_
             refine wp_region_lit ?_
             refine l_q T rfl rfl rfl rfl (rn_assign rfl evc) ?_; clear T ac; intro ac T
             refine wpList_nil ?_
             replace T := T.pick [0] rfl
             replace M := M.mask [false, false, false, false, false, false] rfl
             refine nm_then ?_
             refine wp_ret ?_
             refine rt_then ?_
             refine rt_blk ?_
             refine rt_then ?_
             refine rt_then ?_
             refine rt_blk ?_
             refine rt_1 T rfl (T.ev 0 rfl) ?_
             exfalso
             (try simp only [Bool.and_eq_true, Bool.or_eq_true, Bool.not_eq_true', Bool.and_eq_false_iff, Bool.or_eq_false_iff, Bool.not_eq_false', decide_eq_true_eq, decide_eq_false_iff_not] at h10)
             omega
            ·intro h10
             refine wp_skip ?_
             refine nm_then ?_
             refine wp_seq ?_
             refine wp_seq ?_
             refine wp_region_lit ?_
             refine l_q T rfl rfl rfl rfl (rn_move rfl (T.ev 6 rfl)) ?_; clear T ac; intro ac T
             refine l_q T rfl rfl rfl rfl (rn_eql rfl (T.ev 0 rfl) evc) ?_; clear T ac; intro ac T
             refine wpList_nil ?_
             replace T := T.pick [0, 3, 4, 5, 6, 7, 9, 10, 11, 12, 13, 14, 15, 16, 17, 18, 19, 20, 21, 22, 23] rfl
             refine nm_then ?_
             refine wp_if (T.ev 0 rfl) ?_ ?_
             ·intro h11
              refine cut_seq (fun ac wc => Tm ac 218 [(2, .bool ((decide (kdu12 = 0)) && (hasB (if ((windowJ jm).2) = 11 then 1000 else (windowJ jm).1.1) (if ((windowJ jm).2) = 11 then -1000 else (windowJ jm).1.2) haur17_11 hcur17_11)))] ∧ Mem w noEx wc ((Iu4 ++ Iur13_4))) ?_ ?_
              ·refine wp_region_lit ?_
               refine l_q T rfl rfl rfl rfl (rn_move rfl (T.ev 6 rfl)) ?_; clear T ac; intro ac T
               refine l_q T rfl rfl rfl rfl (rn_eql rfl (T.ev 0 rfl) evc) ?_; clear T ac; intro ac T
               refine l_q T rfl rfl rfl rfl (rn_move rfl (T.ev 0 rfl)) ?_; clear T ac; intro ac T
               rcases Bool.eq_false_or_eq_true (decide (kdu12 = 0)) with h12 | h12
               ·replace h12 := of_decide_eq_true h12
                refine l_q T (wanted_yes rfl rfl (T.ev 0 rfl) (decide_eq_true h12)) rfl rfl rfl (rn_rowO (Mem.nth M 3 rfl) rfl (T.ev 13 rfl) rfl) ?_; clear T ac; intro ac T
                refine l_q T (wanted_yes rfl rfl (T.ev 1 rfl) (decide_eq_true h12)) rfl rfl rfl (rn_rowO (Mem.nth M 0 rfl) rfl (T.ev 19 rfl) rfl) ?_; clear T ac; intro ac T
                refine l_w (wanted_yes rfl rfl (T.ev 2 rfl) (decide_eq_true h12)) ?_; intro K hK
                refine ow_call (first := []) (cap := []) T rfl rfl rfl rfl evf (.cons (T.ev 1 rfl) (.cons (T.ev 0 rfl) .nil)) Try.func40 rfl rfl ?_
                refine Calls.mono (wider_any (if ((windowJ jm).2) = 11 then 1000 else (windowJ jm).1.1) (if ((windowJ jm).2) = 11 then -1000 else (windowJ jm).1.2) haur17_11 hcur17_11 _) ?_
                clear T
                rintro e wc ⟨rfl, hb⟩
                intro ac T
                replace M := M.call hb; clear hb
                refine sh_out hK _ _ ?_; clear hK K
                refine l_q T rfl rfl rfl rfl (rn_pick1 rfl (T.ev 3 rfl) (decide_eq_true h12) (T.ev 0 rfl)) ?_; clear T ac; intro ac T
                refine l_q T rfl rfl rfl rfl (rn_move rfl (T.ev 0 rfl)) ?_; clear T ac; intro ac T
                rcases Bool.eq_false_or_eq_true (hasB (if ((windowJ jm).2) = 11 then 1000 else (windowJ jm).1.1) (if ((windowJ jm).2) = 11 then -1000 else (windowJ jm).1.2) haur17_11 hcur17_11) with h13 | h13
                ·refine l_w (wanted_yes rfl rfl (T.ev 0 rfl) h13) ?_; intro K hK
                 refine ow_call (first := []) (cap := []) T rfl rfl rfl rfl evf .nil Try.func15 rfl rfl ?_
                 refine Calls.mono (tuned_any _) ?_
                 clear T
                 rintro e wc ⟨rfl, hb⟩
                 intro ac T
                 replace M := M.call hb; clear hb
                 refine sh_out hK _ _ ?_; clear hK K
                 refine l_q T rfl rfl rfl rfl (rn_pick1 rfl (T.ev 1 rfl) h13 (T.ev 0 rfl)) ?_; clear T ac; intro ac T
                 refine l_q T rfl rfl rfl rfl (rn_assign rfl (T.ev 0 rfl)) ?_; clear T ac; intro ac T
                 refine wpList_nil ?_
                 replace T := T.pick [0] rfl
                 replace M := M.mask [false, false, false, false, false, false] rfl
                 exact ⟨(T.pick (E' := [(2, .bool true)]) [0] rfl).as (by (try rw [show (decide (kdu12 = 0)) = true from (decide_eq_true h12)]); (try rw [show (hasB (if ((windowJ jm).2) = 11 then 1000 else (windowJ jm).1.1) (if ((windowJ jm).2) = 11 then -1000 else (windowJ jm).1.2) haur17_11 hcur17_11) = true from h13]); rfl), M.mask [] rfl⟩
                ·refine l_pass T (wanted_no rfl rfl (T.ev 0 rfl) h13) rfl rfl rfl ?_; clear T ac; intro ac T
                 refine l_q T rfl rfl rfl rfl (rn_pick0 rfl (T.ev 1 rfl) h13 evc) ?_; clear T ac; intro ac T
                 refine l_q T rfl rfl rfl rfl (rn_assign rfl (T.ev 0 rfl)) ?_; clear T ac; intro ac T
                 refine wpList_nil ?_
                 replace T := T.pick [0] rfl
                 replace M := M.mask [false, false, false, false, false, false] rfl
                 exact ⟨(T.pick (E' := [(2, .bool false)]) [0] rfl).as (by (try rw [show (decide (kdu12 = 0)) = true from (decide_eq_true h12)]); (try rw [show (hasB (if ((windowJ jm).2) = 11 then 1000 else (windowJ jm).1.1) (if ((windowJ jm).2) = 11 then -1000 else (windowJ jm).1.2) haur17_11 hcur17_11) = false from h13]); rfl), M.mask [] rfl⟩
               ·replace h12 := of_decide_eq_false h12
                refine l_pass T (wanted_no rfl rfl (T.ev 0 rfl) (decide_eq_false h12)) rfl rfl rfl ?_; clear T ac; intro ac T
                refine l_pass T (wanted_no rfl rfl (T.ev 1 rfl) (decide_eq_false h12)) rfl rfl rfl ?_; clear T ac; intro ac T
                refine l_pass T (wanted_no rfl rfl (T.ev 2 rfl) (decide_eq_false h12)) rfl rfl rfl ?_; clear T ac; intro ac T
                refine l_q T rfl rfl rfl rfl (rn_pick0 rfl (T.ev 3 rfl) (decide_eq_false h12) evc) ?_; clear T ac; intro ac T
                refine l_q T rfl rfl rfl rfl (rn_move rfl (T.ev 0 rfl)) ?_; clear T ac; intro ac T
                refine l_pass T (wanted_no rfl rfl (T.ev 0 rfl) rfl) rfl rfl rfl ?_; clear T ac; intro ac T
                refine l_q T rfl rfl rfl rfl (rn_pick0 rfl (T.ev 1 rfl) rfl evc) ?_; clear T ac; intro ac T
                refine l_q T rfl rfl rfl rfl (rn_assign rfl (T.ev 0 rfl)) ?_; clear T ac; intro ac T
                refine wpList_nil ?_
                replace T := T.pick [0] rfl
                replace M := M.mask [false, false, false, false, false, false] rfl
                exact ⟨(T.pick (E' := [(2, .bool false)]) [0] rfl).as (by (try rw [show (decide (kdu12 = 0)) = false from (decide_eq_false h12)]); rfl), M.mask [] rfl⟩
              ·clear T M
               rintro ac wc ⟨T, M⟩
               refine wp_ret ?_
               refine rt_then ?_
               refine rt_blk ?_
               refine rt_then ?_
               refine rt_then ?_
               refine rt_blk ?_
               refine rt_1 T rfl (T.ev 0 rfl) ?_
               refine ⟨ret_bool ?_, M.below⟩
               obtain ⟨y1, y2⟩ := hzu12 h11
               rw [(hsf.at _ _).win] at y2
               rw [y1, win_law hgm _ _ (by omega), show hasB (winS jm).1 (winS jm).2 _ _ = true from y2]
               rfl
             ·intro h11
              refine wp_skip ?_
              refine nm_then ?_
              refine wp_seq ?_
              refine cut_seq (fun ac wc => Tm ac 218 [(3, .pointer (some ⟨bpu1, 0, none⟩)), (4, .pointer (some ⟨g1, 0, none⟩)), (5, .int .i64 ((guidedJ jm).1)), (7, .pointer (some ⟨g2, 0, none⟩)), (10, .pointer (some ⟨gr13_5, 0, none⟩)), (11, .pointer (some ⟨gr13_6, 0, none⟩)), (12, .bool ((decide (yur13_2 < jm.le)) || (decide (zur13_2 < jm.le)))), (13, .int .i64 i), (16, .int .i64 kdu12), (109, .agg #[.int .i64 haur17_11, .int .i64 hcur17_11]), (110, .pointer (some ⟨gr13_5, 0, none⟩)), (111, .int .i64 a), (112, .bool (decide (haur17_11 ≤ a ∧ a ≤ hcur17_11))), (113, .bool (!(decide (haur17_11 ≤ a ∧ a ≤ hcur17_11)))), (135, .int .i64 i), (136, .int .i64 lfu12), (137, .int .i64 (i + lfu12)), (138, .int .i64 ((guidedJ jm).1)), (139, .bool (decide (((guidedJ jm).1) < (i + lfu12)))), (158, .bool ((!(decide (kdu12 = 1))) && (!(decide (kdu12 = 2)))))] ∧ Mem w noEx wc ((gr13_5, .cells [.int .i64 a, .int .i64 b, .int .i64 c9]) :: (gr13_6, .cells [.int .i64 haur17_11, .int .i64 hcur17_11, .int .i64 kj.t0, .int .i64 kj.t1, .int .i64 kj.r0, .int .i64 kj.r1, .int .i64 kj.u0, .int .i64 kj.u1, .int .i64 kj.d0, .int .i64 kj.d1, .int .i64 kj.a0, .int .i64 kj.a1, .int .i64 kj.b0, .int .i64 kj.b1, .int .i64 kj.le, .slice Aur13_4 kj.sh.length cur13_4, .int .i64 kj.wi, .int .i64 kj.me]) :: (g2, .cells [.int .i64 (if ((windowJ jm).2) = 11 then 1000 else (windowJ jm).1.1), .int .i64 (if ((windowJ jm).2) = 11 then -1000 else (windowJ jm).1.2)]) :: (g1, .cells (jobL jm Au4 cu4)) :: (bpu1, .cells [.int .u64 sur17_9]) :: (Iu4 ++ Iur13_4))) ?_ ?_
              ·refine wp_region_lit ?_
               refine l_q T rfl rfl rfl rfl (rn_move rfl (T.ev 6 rfl)) ?_; clear T ac; intro ac T
               refine l_q T rfl rfl rfl rfl (rn_neq rfl (T.ev 0 rfl) evc) ?_; clear T ac; intro ac T
               refine l_q T rfl rfl rfl rfl (rn_move rfl (T.ev 0 rfl)) ?_; clear T ac; intro ac T
               rcases Bool.eq_false_or_eq_true (!(decide (kdu12 = 1))) with h14 | h14
               ·replace h14 : ¬ (kdu12 = 1) := by first | (rw [Bool.not_eq_true'] at h14; exact of_decide_eq_false h14) | simpa using h14
                refine l_q T (wanted_yes rfl rfl (T.ev 0 rfl) (by simp [h14])) rfl rfl rfl (rn_move rfl (T.ev 9 rfl)) ?_; clear T ac; intro ac T
                refine l_q T (wanted_yes rfl rfl (T.ev 1 rfl) (by simp [h14])) rfl rfl rfl (rn_neq rfl (T.ev 0 rfl) evc) ?_; clear T ac; intro ac T
                refine l_q T rfl rfl rfl rfl (rn_pick1 rfl (T.ev 2 rfl) (by simp [h14]) (T.ev 0 rfl)) ?_; clear T ac; intro ac T
                refine wpList_nil ?_
                replace T := T.pick [0, 1, 2, 7, 8, 9, 10, 11, 12, 13, 14, 15, 16, 17, 18, 19, 20, 22, 23, 24, 25, 26] rfl
                replace M := M.mask [false, true, true, true, true, true] rfl
                exact ⟨(T.pick (E' := [(3, .pointer (some ⟨bpu1, 0, none⟩)), (4, .pointer (some ⟨g1, 0, none⟩)), (5, .int .i64 ((guidedJ jm).1)), (7, .pointer (some ⟨g2, 0, none⟩)), (10, .pointer (some ⟨gr13_5, 0, none⟩)), (11, .pointer (some ⟨gr13_6, 0, none⟩)), (12, .bool ((decide (yur13_2 < jm.le)) || (decide (zur13_2 < jm.le)))), (13, .int .i64 i), (16, .int .i64 kdu12), (109, .agg #[.int .i64 haur17_11, .int .i64 hcur17_11]), (110, .pointer (some ⟨gr13_5, 0, none⟩)), (111, .int .i64 a), (112, .bool (decide (haur17_11 ≤ a ∧ a ≤ hcur17_11))), (113, .bool (!(decide (haur17_11 ≤ a ∧ a ≤ hcur17_11)))), (135, .int .i64 i), (136, .int .i64 lfu12), (137, .int .i64 (i + lfu12)), (138, .int .i64 ((guidedJ jm).1)), (139, .bool (decide (((guidedJ jm).1) < (i + lfu12)))), (158, .bool (!(decide (kdu12 = 2))))]) [9, 10, 11, 12, 13, 14, 15, 16, 8, 17, 18, 19, 20, 21, 7, 6, 5, 4, 3, 0] rfl).as (by (try rw [show (!(decide (kdu12 = 1))) = true from (by simp [h14])]); rfl), M.mask [true, true, true, true, true] rfl⟩
               ·replace h14 : kdu12 = 1 := by first | (rw [Bool.not_eq_false'] at h14; exact of_decide_eq_true h14) | simpa using h14
                refine l_pass T (wanted_no rfl rfl (T.ev 0 rfl) (by simp [h14])) rfl rfl rfl ?_; clear T ac; intro ac T
                refine l_pass T (wanted_no rfl rfl (T.ev 1 rfl) (by simp [h14])) rfl rfl rfl ?_; clear T ac; intro ac T
                refine l_q T rfl rfl rfl rfl (rn_pick0 rfl (T.ev 2 rfl) (by simp [h14]) evc) ?_; clear T ac; intro ac T
                refine wpList_nil ?_
                replace T := T.pick [0, 1, 2, 7, 8, 9, 10, 11, 12, 13, 14, 15, 16, 17, 18, 19, 20, 22, 23, 24, 25, 26] rfl
                replace M := M.mask [false, true, true, true, true, true] rfl
                exact ⟨(T.pick (E' := [(3, .pointer (some ⟨bpu1, 0, none⟩)), (4, .pointer (some ⟨g1, 0, none⟩)), (5, .int .i64 ((guidedJ jm).1)), (7, .pointer (some ⟨g2, 0, none⟩)), (10, .pointer (some ⟨gr13_5, 0, none⟩)), (11, .pointer (some ⟨gr13_6, 0, none⟩)), (12, .bool ((decide (yur13_2 < jm.le)) || (decide (zur13_2 < jm.le)))), (13, .int .i64 i), (16, .int .i64 kdu12), (109, .agg #[.int .i64 haur17_11, .int .i64 hcur17_11]), (110, .pointer (some ⟨gr13_5, 0, none⟩)), (111, .int .i64 a), (112, .bool (decide (haur17_11 ≤ a ∧ a ≤ hcur17_11))), (113, .bool (!(decide (haur17_11 ≤ a ∧ a ≤ hcur17_11)))), (135, .int .i64 i), (136, .int .i64 lfu12), (137, .int .i64 (i + lfu12)), (138, .int .i64 ((guidedJ jm).1)), (139, .bool (decide (((guidedJ jm).1) < (i + lfu12)))), (158, .bool false)]) [9, 10, 11, 12, 13, 14, 15, 16, 8, 17, 18, 19, 20, 21, 7, 6, 5, 4, 3, 0] rfl).as (by (try rw [show (!(decide (kdu12 = 1))) = false from (by simp [h14])]); rfl), M.mask [true, true, true, true, true] rfl⟩
              ·clear T M
               rintro ac wc ⟨T, M⟩
               refine wp_cond_split (T.ev 19 rfl) ?_ ?_
               ·intro h15
                (try have h15' := h15; try simp only [Bool.and_eq_true, Bool.or_eq_true, Bool.not_eq_true', Bool.and_eq_false_imp, Bool.or_eq_false_iff, decide_eq_true_eq, decide_eq_false_iff_not] at h15')
                refine wp_seq ?_
                refine wp_region_lit ?_
                refine l_q T rfl rfl rfl rfl (rn_assign rfl evc) ?_; clear T ac; intro ac T
                refine wpList_nil ?_
                replace T := T.pick [0] rfl
                replace M := M.mask [false, false, false, false, false] rfl
                refine nm_then ?_
                refine wp_ret ?_
                refine rt_then ?_
                refine rt_blk ?_
                refine rt_then ?_
                refine rt_then ?_
                refine rt_blk ?_
                refine rt_1 T rfl (T.ev 0 rfl) ?_
                exfalso
                have hka := (hpu12 h11).1
                (try simp only [Bool.and_eq_true, Bool.or_eq_true, Bool.not_eq_true', Bool.and_eq_false_iff, Bool.or_eq_false_iff, Bool.not_eq_false', decide_eq_true_eq, decide_eq_false_iff_not] at h15)
                omega
               ·intro h15
                (try have h15' := h15; try simp only [Bool.and_eq_true, Bool.or_eq_true, Bool.not_eq_true', Bool.and_eq_false_imp, Bool.or_eq_false_iff, decide_eq_true_eq, decide_eq_false_iff_not] at h15')
                refine wp_skip ?_
                refine nm_then ?_
                refine wp_seq ?_
                refine wp_region_lit ?_
                refine l_q T rfl rfl rfl rfl (rn_move rfl (T.ev 0 rfl)) ?_; clear T ac; intro ac T
                refine l_q T rfl rfl rfl rfl (rn_rowO (Mem.nth M 3 rfl) rfl (T.ev 2 rfl) rfl) ?_; clear T ac; intro ac T
                refine l_q T rfl rfl rfl rfl (rn_rowO (Mem.nth M 0 rfl) rfl (T.ev 6 rfl) rfl) ?_; clear T ac; intro ac T
                refine l_q T rfl rfl rfl rfl (rn_move rfl (T.ev 11 rfl)) ?_; clear T ac; intro ac T
                refine l_w rfl ?_; intro K hK
                refine ow_call (first := []) (cap := []) T rfl rfl rfl rfl evf (.cons (T.ev 3 rfl) (.cons (T.ev 2 rfl) (.cons (T.ev 1 rfl) (.cons (T.ev 0 rfl) .nil)))) Try.func41 rfl rfl ?_
                refine Calls.mono (strike_any _ bpu1 jm _ _ (kj.at haur17_11 hcur17_11).st a b c9 kdu12 _ hgm (hsf.at _ _).file ⟨⟨hh1, hh2⟩, hin2, hin3⟩ (good_up hkx) (hpu12 h11).1 (M.nth 4 rfl) hsur17_9) ?_
                clear T
                rintro e wc ⟨xu15, yu15, zu15, su15, hxu15, hsu15, rfl, hgr, hbk⟩
                intro ac T
                replace M := M.callC (cs' := [.int .u64 su15]) (.tail (.tail (.tail (.tail .head)))) hgr hbk
                clear hgr hbk
                refine sh_out hK _ _ ?_; clear hK K
                refine l_w rfl ?_; intro K hK
                refine ow_stO M T rfl rfl (T.ev 9 rfl) (T.ev 0 rfl) rfl .head rfl (by simp) rfl (by kernel_rfl) ?_; clear M T; intro wc ac M T
                refine sh_out hK _ _ ?_; clear hK K
                refine wpList_nil ?_
                replace T := T.pick [5, 6, 7, 8, 9, 10, 11, 12, 13, 14, 15, 16, 17, 18, 19, 20, 21, 22, 23] rfl
                refine nm_then ?_
                refine wp_seq ?_
                refine wp_region_lit ?_
                refine l_q T rfl rfl rfl rfl (rn_rowO (Mem.nth M 1 rfl) rfl (T.ev 5 rfl) rfl) ?_; clear T ac; intro ac T
                refine l_q T rfl rfl rfl rfl (rn_move rfl (T.ev 9 rfl)) ?_; clear T ac; intro ac T
                refine l_w rfl ?_; intro K hK
                refine ow_bs (e := 3) [.int .i64 kdu12] M T rfl rfl rfl rfl (.cons (T.ev 0 rfl) .nil) (fun _ => by kernel_rfl) ?_; clear M T; intro g3 wc ac M T
                refine sh_out hK _ _ ?_; clear hK K
                refine l_w rfl ?_; intro K hK
                refine ow_call (first := []) (cap := []) T rfl rfl rfl rfl evf (.cons (T.ev 2 rfl) (.cons (T.ev 0 rfl) .nil)) Try.func34 rfl rfl ?_
                refine Calls.mono (After_T (kj.at haur17_11 hcur17_11) _ _ _ _ _ [kdu12] _ (Skj.rd M (.cons _ (.cons _ (.cons _ (.cons _ (.cons _ (.cons _ (List.sublist_append_right _ _)))))))) (by first | omega | (simp only [List.length_cons, List.length_nil, List.length_set]; omega)) (M.rdOwn (nthE_mem (i := 0) rfl) rfl rfl) (by first | omega | (simp only [List.length_cons, List.length_nil, List.length_set]; omega))) ?_
                clear T
                rintro e wc ⟨rfl, hb⟩
                intro ac T
                replace M := M.call hb; clear hb
                obtain ⟨hka, hkb, hkc⟩ := hpu12 h11
                obtain ⟨hc1, hc2⟩ := after_1 hkx hka
                refine sh_out hK _ _ ?_; clear hK K
                refine l_q T rfl rfl rfl rfl (rn_move rfl (T.ev 0 rfl)) ?_; clear T ac; intro ac T
                refine l_q T rfl rfl rfl rfl (rn_extract rfl (T.ev 0 rfl) rfl) ?_; clear T ac; intro ac T
                refine l_q T rfl rfl rfl rfl (rn_extract rfl (T.ev 1 rfl) rfl) ?_; clear T ac; intro ac T
                refine l_w rfl ?_; intro K hK
                refine ow_al M T rfl rfl rfl rfl ?_; clear M T; intro g4 wc ac M T
                refine sh_out hK _ _ ?_; clear hK K
                refine l_w rfl ?_; intro K hK
                refine ow_stO M T rfl rfl (T.ev 0 rfl) (T.ev 2 rfl) rfl .head rfl (by simp) rfl (by kernel_rfl) ?_; clear M T; intro wc ac M T
                refine sh_out hK _ _ ?_; clear hK K
                refine l_q T rfl rfl rfl rfl (rn_assign rfl (T.ev 1 rfl)) ?_; clear T ac; intro ac T
                refine wpList_nil ?_
                replace T := T.pick [0, 1, 9, 10, 11, 12, 13, 14, 15, 16, 18, 19, 20, 21, 22, 23, 24, 25, 26, 27] rfl
                replace M := M.mask [true, false, true, true, true, true, true] rfl
                refine nm_then ?_
                refine wp_seq ?_
                refine cut_seq (fun ac wc => Tm ac 218 [(3, .pointer (some ⟨bpu1, 0, none⟩)), (4, .pointer (some ⟨g1, 0, none⟩)), (5, .int .i64 ((guidedJ jm).1)), (7, .pointer (some ⟨g2, 0, none⟩)), (10, .pointer (some ⟨gr13_5, 0, none⟩)), (11, .pointer (some ⟨gr13_6, 0, none⟩)), (12, .bool ((decide (yur13_2 < jm.le)) || (decide (zur13_2 < jm.le)))), (13, .int .i64 i), (19, .pointer (some ⟨g4, 0, none⟩)), (109, .agg #[.int .i64 haur17_11, .int .i64 hcur17_11]), (110, .pointer (some ⟨gr13_5, 0, none⟩)), (111, .int .i64 a), (112, .bool (decide (haur17_11 ≤ a ∧ a ≤ hcur17_11))), (113, .bool (!(decide (haur17_11 ≤ a ∧ a ≤ hcur17_11)))), (135, .int .i64 i), (136, .int .i64 lfu12), (137, .int .i64 (i + lfu12)), (138, .int .i64 ((guidedJ jm).1)), (139, .bool (decide (((guidedJ jm).1) < (i + lfu12)))), (192, .bool ((!(decide ((checkStrokesJ (kj.at haur17_11 hcur17_11) [kdu12]) = 0))) || ((!((decide (yur13_2 < jm.le)) || (decide (zur13_2 < jm.le)))) && ((decide (yu15 < jm.le)) || (decide (zu15 < jm.le))))))] ∧ Mem w noEx wc ((g4, .cells [.int .i64 ((afT (kj.at haur17_11 hcur17_11) [kdu12]).p0), .int .i64 ((afT (kj.at haur17_11 hcur17_11) [kdu12]).p1), .int .i64 ((afT (kj.at haur17_11 hcur17_11) [kdu12]).t0), .int .i64 ((afT (kj.at haur17_11 hcur17_11) [kdu12]).t1), .int .i64 ((afT (kj.at haur17_11 hcur17_11) [kdu12]).r0), .int .i64 ((afT (kj.at haur17_11 hcur17_11) [kdu12]).r1)]) :: (gr13_5, .cells [.int .i64 xu15, .int .i64 yu15, .int .i64 zu15]) :: (gr13_6, .cells [.int .i64 haur17_11, .int .i64 hcur17_11, .int .i64 kj.t0, .int .i64 kj.t1, .int .i64 kj.r0, .int .i64 kj.r1, .int .i64 kj.u0, .int .i64 kj.u1, .int .i64 kj.d0, .int .i64 kj.d1, .int .i64 kj.a0, .int .i64 kj.a1, .int .i64 kj.b0, .int .i64 kj.b1, .int .i64 kj.le, .slice Aur13_4 kj.sh.length cur13_4, .int .i64 kj.wi, .int .i64 kj.me]) :: (g2, .cells [.int .i64 (if ((windowJ jm).2) = 11 then 1000 else (windowJ jm).1.1), .int .i64 (if ((windowJ jm).2) = 11 then -1000 else (windowJ jm).1.2)]) :: (g1, .cells (jobL jm Au4 cu4)) :: (bpu1, .cells [.int .u64 su15]) :: (Iu4 ++ Iur13_4))) ?_ ?_
                ·refine wp_region_lit ?_
                 refine l_q T rfl rfl rfl rfl (rn_move rfl (T.ev 0 rfl)) ?_; clear T ac; intro ac T
                 refine l_q T rfl rfl rfl rfl (rn_neq rfl (T.ev 0 rfl) evc) ?_; clear T ac; intro ac T
                 refine l_q T rfl rfl rfl rfl (rn_move rfl (T.ev 0 rfl)) ?_; clear T ac; intro ac T
                 rcases Bool.eq_false_or_eq_true (!(decide ((checkStrokesJ (kj.at haur17_11 hcur17_11) [kdu12]) = 0))) with h16 | h16
                 ·replace h16 : ¬ ((checkStrokesJ (kj.at haur17_11 hcur17_11) [kdu12]) = 0) := by first | (rw [Bool.not_eq_true'] at h16; exact of_decide_eq_false h16) | simpa using h16
                  refine l_pass T (wanted_no rfl rfl (T.ev 0 rfl) (by simp [h16])) rfl rfl rfl ?_; clear T ac; intro ac T
                  refine l_pass T (wanted_no rfl rfl (T.ev 1 rfl) (by simp [h16])) rfl rfl rfl ?_; clear T ac; intro ac T
                  refine l_pass T (wanted_no rfl rfl (T.ev 2 rfl) (by simp [h16])) rfl rfl rfl ?_; clear T ac; intro ac T
                  refine l_pass T (wanted_un rfl rfl (T.ev 0 rfl)) rfl rfl rfl ?_; clear T ac; intro ac T
                  refine l_pass T (wanted_un rfl rfl (T.ev 1 rfl)) rfl rfl rfl ?_; clear T ac; intro ac T
                  refine l_pass T (wanted_un rfl rfl (T.ev 2 rfl)) rfl rfl rfl ?_; clear T ac; intro ac T
                  refine l_pass T (wanted_un rfl rfl (T.ev 3 rfl)) rfl rfl rfl ?_; clear T ac; intro ac T
                  refine l_pass T (wanted_un rfl rfl (T.ev 4 rfl)) rfl rfl rfl ?_; clear T ac; intro ac T
                  refine l_pass T (wanted_un rfl rfl (T.ev 5 rfl)) rfl rfl rfl ?_; clear T ac; intro ac T
                  refine l_pass T (wanted_un rfl rfl (T.ev 6 rfl)) rfl rfl rfl ?_; clear T ac; intro ac T
                  refine l_pass T (wanted_un rfl rfl (T.ev 0 rfl)) rfl rfl rfl ?_; clear T ac; intro ac T
                  refine l_pass T (wanted_un rfl rfl (T.ev 1 rfl)) rfl rfl rfl ?_; clear T ac; intro ac T
                  refine l_pass T (wanted_un rfl rfl (T.ev 2 rfl)) rfl rfl rfl ?_; clear T ac; intro ac T
                  refine l_pass T (wanted_un rfl rfl (T.ev 3 rfl)) rfl rfl rfl ?_; clear T ac; intro ac T
                  refine l_pass T (wanted_un rfl rfl (T.ev 4 rfl)) rfl rfl rfl ?_; clear T ac; intro ac T
                  refine l_pass T (wanted_un rfl rfl (T.ev 5 rfl)) rfl rfl rfl ?_; clear T ac; intro ac T
                  refine l_pass T (wanted_un rfl rfl (T.ev 13 rfl)) rfl rfl rfl ?_; clear T ac; intro ac T
                  refine l_pass T (wanted_no rfl rfl (T.ev 17 rfl) (by simp [h16])) rfl rfl rfl ?_; clear T ac; intro ac T
                  refine l_q T rfl rfl rfl rfl (rn_pick1 rfl (T.ev 18 rfl) (by simp [h16]) evc) ?_; clear T ac; intro ac T
                  refine wpList_nil ?_
                  replace T := T.pick [0, 1, 2, 3, 4, 5, 6, 7, 8, 9, 10, 11, 12, 13, 14, 15, 16, 17, 18, 23, 24, 25, 26, 27, 28, 29, 30, 31, 32, 33, 34, 35, 36, 37, 38, 39, 40, 41] rfl
                  exact ⟨(T.pick (E' := [(3, .pointer (some ⟨bpu1, 0, none⟩)), (4, .pointer (some ⟨g1, 0, none⟩)), (5, .int .i64 ((guidedJ jm).1)), (7, .pointer (some ⟨g2, 0, none⟩)), (10, .pointer (some ⟨gr13_5, 0, none⟩)), (11, .pointer (some ⟨gr13_6, 0, none⟩)), (12, .bool ((decide (yur13_2 < jm.le)) || (decide (zur13_2 < jm.le)))), (13, .int .i64 i), (19, .pointer (some ⟨g4, 0, none⟩)), (109, .agg #[.int .i64 haur17_11, .int .i64 hcur17_11]), (110, .pointer (some ⟨gr13_5, 0, none⟩)), (111, .int .i64 a), (112, .bool (decide (haur17_11 ≤ a ∧ a ≤ hcur17_11))), (113, .bool (!(decide (haur17_11 ≤ a ∧ a ≤ hcur17_11)))), (135, .int .i64 i), (136, .int .i64 lfu12), (137, .int .i64 (i + lfu12)), (138, .int .i64 ((guidedJ jm).1)), (139, .bool (decide (((guidedJ jm).1) < (i + lfu12)))), (192, .bool true)]) [20, 21, 22, 23, 24, 25, 26, 27, 19, 28, 29, 30, 31, 32, 33, 34, 35, 36, 37, 0] rfl).as (by (try rw [show (!(decide ((checkStrokesJ (kj.at haur17_11 hcur17_11) [kdu12]) = 0))) = true from (by simp [h16])]); rfl), M.mask [true, true, true, true, true, true] rfl⟩
                 ·replace h16 : (checkStrokesJ (kj.at haur17_11 hcur17_11) [kdu12]) = 0 := by first | (rw [Bool.not_eq_false'] at h16; exact of_decide_eq_true h16) | simpa using h16
                  refine l_q T (wanted_yes rfl rfl (T.ev 0 rfl) (by simp [h16])) rfl rfl rfl (rn_move rfl (T.ev 11 rfl)) ?_; clear T ac; intro ac T
                  refine l_q T (wanted_yes rfl rfl (T.ev 1 rfl) (by simp [h16])) rfl rfl rfl (rn_not rfl (T.ev 0 rfl)) ?_; clear T ac; intro ac T
                  refine l_q T (wanted_yes rfl rfl (T.ev 2 rfl) (by simp [h16])) rfl rfl rfl (rn_move rfl (T.ev 0 rfl)) ?_; clear T ac; intro ac T
                  rcases Bool.eq_false_or_eq_true (!((decide (yur13_2 < jm.le)) || (decide (zur13_2 < jm.le)))) with h17 | h17
                  ·refine l_q (v := (.pointer (some ⟨gr13_5, 1, none⟩))) T (wanted_yes rfl rfl (T.ev 0 rfl) h17) rfl rfl rfl (rn_fieldAddr (off := 1) rfl (T.ev 12 rfl) (fun _ _ _ => by kernel_rfl)) ?_; clear T ac; intro ac T
                   refine l_q T (wanted_yes rfl rfl (T.ev 1 rfl) h17) rfl rfl rfl (rn_one (Mem.nth M 1 rfl) rfl (T.ev 0 rfl) rfl) ?_; clear T ac; intro ac T
                   refine l_q (v := (.pointer (some ⟨g1, 6, none⟩))) T (wanted_yes rfl rfl (T.ev 2 rfl) h17) rfl rfl rfl (rn_fieldAddr (off := 6) rfl (T.ev 11 rfl) (fun _ _ _ => by kernel_rfl)) ?_; clear T ac; intro ac T
                   refine l_q (v := (.pointer (some ⟨g1, 14, none⟩))) T (wanted_yes rfl rfl (T.ev 3 rfl) h17) rfl rfl rfl (rn_fieldAddr (off := 8) rfl (T.ev 0 rfl) (fun _ _ _ => by kernel_rfl)) ?_; clear T ac; intro ac T
                   refine l_q T (wanted_yes rfl rfl (T.ev 4 rfl) h17) rfl rfl rfl (rn_one (Mem.nth M 4 rfl) rfl (T.ev 0 rfl) rfl) ?_; clear T ac; intro ac T
                   refine l_q T (wanted_yes rfl rfl (T.ev 5 rfl) h17) rfl rfl rfl (rn_lss rfl (T.ev 3 rfl) (T.ev 0 rfl)) ?_; clear T ac; intro ac T
                   refine l_q T (wanted_yes rfl rfl (T.ev 6 rfl) h17) rfl rfl rfl (rn_move rfl (T.ev 0 rfl)) ?_; clear T ac; intro ac T
                   rcases Bool.eq_false_or_eq_true (decide (yu15 < jm.le)) with h18 | h18
                   ·replace h18 := of_decide_eq_true h18
                    refine l_pass T (wanted_no rfl rfl (T.ev 0 rfl) (decide_eq_true h18)) rfl rfl rfl ?_; clear T ac; intro ac T
                    refine l_pass T (wanted_no rfl rfl (T.ev 1 rfl) (decide_eq_true h18)) rfl rfl rfl ?_; clear T ac; intro ac T
                    refine l_pass T (wanted_no rfl rfl (T.ev 2 rfl) (decide_eq_true h18)) rfl rfl rfl ?_; clear T ac; intro ac T
                    refine l_pass T (wanted_no rfl rfl (T.ev 3 rfl) (decide_eq_true h18)) rfl rfl rfl ?_; clear T ac; intro ac T
                    refine l_pass T (wanted_no rfl rfl (T.ev 4 rfl) (decide_eq_true h18)) rfl rfl rfl ?_; clear T ac; intro ac T
                    refine l_pass T (wanted_no rfl rfl (T.ev 5 rfl) (decide_eq_true h18)) rfl rfl rfl ?_; clear T ac; intro ac T
                    refine l_q T (wanted_yes rfl rfl (T.ev 13 rfl) h17) rfl rfl rfl (rn_pick1 rfl (T.ev 6 rfl) (decide_eq_true h18) evc) ?_; clear T ac; intro ac T
                    refine l_q T (wanted_yes rfl rfl (T.ev 17 rfl) (by simp [h16])) rfl rfl rfl (rn_pick1 rfl (T.ev 14 rfl) h17 (T.ev 0 rfl)) ?_; clear T ac; intro ac T
                    refine l_q T rfl rfl rfl rfl (rn_pick0 rfl (T.ev 18 rfl) (by simp [h16]) (T.ev 0 rfl)) ?_; clear T ac; intro ac T
                    refine wpList_nil ?_
                    replace T := T.pick [0, 1, 2, 3, 4, 5, 6, 7, 8, 9, 10, 11, 12, 13, 14, 15, 16, 17, 18, 23, 24, 25, 26, 27, 28, 29, 30, 31, 32, 33, 34, 35, 36, 37, 38, 39, 40, 41] rfl
                    exact ⟨(T.pick (E' := [(3, .pointer (some ⟨bpu1, 0, none⟩)), (4, .pointer (some ⟨g1, 0, none⟩)), (5, .int .i64 ((guidedJ jm).1)), (7, .pointer (some ⟨g2, 0, none⟩)), (10, .pointer (some ⟨gr13_5, 0, none⟩)), (11, .pointer (some ⟨gr13_6, 0, none⟩)), (12, .bool ((decide (yur13_2 < jm.le)) || (decide (zur13_2 < jm.le)))), (13, .int .i64 i), (19, .pointer (some ⟨g4, 0, none⟩)), (109, .agg #[.int .i64 haur17_11, .int .i64 hcur17_11]), (110, .pointer (some ⟨gr13_5, 0, none⟩)), (111, .int .i64 a), (112, .bool (decide (haur17_11 ≤ a ∧ a ≤ hcur17_11))), (113, .bool (!(decide (haur17_11 ≤ a ∧ a ≤ hcur17_11)))), (135, .int .i64 i), (136, .int .i64 lfu12), (137, .int .i64 (i + lfu12)), (138, .int .i64 ((guidedJ jm).1)), (139, .bool (decide (((guidedJ jm).1) < (i + lfu12)))), (192, .bool true)]) [20, 21, 22, 23, 24, 25, 26, 27, 19, 28, 29, 30, 31, 32, 33, 34, 35, 36, 37, 0] rfl).as (by (try rw [show (!(decide ((checkStrokesJ (kj.at haur17_11 hcur17_11) [kdu12]) = 0))) = false from (by simp [h16])]); (try rw [show (!((decide (yur13_2 < jm.le)) || (decide (zur13_2 < jm.le)))) = true from h17]); (try rw [show (decide (yu15 < jm.le)) = true from (decide_eq_true h18)]); rfl), M.mask [true, true, true, true, true, true] rfl⟩
                   ·replace h18 := of_decide_eq_false h18
                    refine l_q (v := (.pointer (some ⟨gr13_5, 2, none⟩))) T (wanted_yes rfl rfl (T.ev 0 rfl) (decide_eq_false h18)) rfl rfl rfl (rn_fieldAddr (off := 2) rfl (T.ev 19 rfl) (fun _ _ _ => by kernel_rfl)) ?_; clear T ac; intro ac T
                    refine l_q T (wanted_yes rfl rfl (T.ev 1 rfl) (decide_eq_false h18)) rfl rfl rfl (rn_one (Mem.nth M 1 rfl) rfl (T.ev 0 rfl) rfl) ?_; clear T ac; intro ac T
                    refine l_q (v := (.pointer (some ⟨g1, 6, none⟩))) T (wanted_yes rfl rfl (T.ev 2 rfl) (decide_eq_false h18)) rfl rfl rfl (rn_fieldAddr (off := 6) rfl (T.ev 18 rfl) (fun _ _ _ => by kernel_rfl)) ?_; clear T ac; intro ac T
                    refine l_q (v := (.pointer (some ⟨g1, 14, none⟩))) T (wanted_yes rfl rfl (T.ev 3 rfl) (decide_eq_false h18)) rfl rfl rfl (rn_fieldAddr (off := 8) rfl (T.ev 0 rfl) (fun _ _ _ => by kernel_rfl)) ?_; clear T ac; intro ac T
                    refine l_q T (wanted_yes rfl rfl (T.ev 4 rfl) (decide_eq_false h18)) rfl rfl rfl (rn_one (Mem.nth M 4 rfl) rfl (T.ev 0 rfl) rfl) ?_; clear T ac; intro ac T
                    refine l_q T (wanted_yes rfl rfl (T.ev 5 rfl) (decide_eq_false h18)) rfl rfl rfl (rn_lss rfl (T.ev 3 rfl) (T.ev 0 rfl)) ?_; clear T ac; intro ac T
                    refine l_q T (wanted_yes rfl rfl (T.ev 13 rfl) h17) rfl rfl rfl (rn_pick0 rfl (T.ev 6 rfl) (decide_eq_false h18) (T.ev 0 rfl)) ?_; clear T ac; intro ac T
                    refine l_q T (wanted_yes rfl rfl (T.ev 17 rfl) (by simp [h16])) rfl rfl rfl (rn_pick1 rfl (T.ev 14 rfl) h17 (T.ev 0 rfl)) ?_; clear T ac; intro ac T
                    refine l_q T rfl rfl rfl rfl (rn_pick0 rfl (T.ev 18 rfl) (by simp [h16]) (T.ev 0 rfl)) ?_; clear T ac; intro ac T
                    refine wpList_nil ?_
                    replace T := T.pick [0, 1, 2, 3, 4, 5, 6, 7, 8, 9, 10, 11, 12, 13, 14, 15, 16, 17, 18, 23, 24, 25, 26, 27, 28, 29, 30, 31, 32, 33, 34, 35, 36, 37, 38, 39, 40, 41] rfl
                    exact ⟨(T.pick (E' := [(3, .pointer (some ⟨bpu1, 0, none⟩)), (4, .pointer (some ⟨g1, 0, none⟩)), (5, .int .i64 ((guidedJ jm).1)), (7, .pointer (some ⟨g2, 0, none⟩)), (10, .pointer (some ⟨gr13_5, 0, none⟩)), (11, .pointer (some ⟨gr13_6, 0, none⟩)), (12, .bool ((decide (yur13_2 < jm.le)) || (decide (zur13_2 < jm.le)))), (13, .int .i64 i), (19, .pointer (some ⟨g4, 0, none⟩)), (109, .agg #[.int .i64 haur17_11, .int .i64 hcur17_11]), (110, .pointer (some ⟨gr13_5, 0, none⟩)), (111, .int .i64 a), (112, .bool (decide (haur17_11 ≤ a ∧ a ≤ hcur17_11))), (113, .bool (!(decide (haur17_11 ≤ a ∧ a ≤ hcur17_11)))), (135, .int .i64 i), (136, .int .i64 lfu12), (137, .int .i64 (i + lfu12)), (138, .int .i64 ((guidedJ jm).1)), (139, .bool (decide (((guidedJ jm).1) < (i + lfu12)))), (192, .bool (decide (zu15 < jm.le)))]) [20, 21, 22, 23, 24, 25, 26, 27, 19, 28, 29, 30, 31, 32, 33, 34, 35, 36, 37, 0] rfl).as (by (try rw [show (!(decide ((checkStrokesJ (kj.at haur17_11 hcur17_11) [kdu12]) = 0))) = false from (by simp [h16])]); (try rw [show (!((decide (yur13_2 < jm.le)) || (decide (zur13_2 < jm.le)))) = true from h17]); (try rw [show (decide (yu15 < jm.le)) = false from (decide_eq_false h18)]); rfl), M.mask [true, true, true, true, true, true] rfl⟩
                  ·refine l_pass T (wanted_no rfl rfl (T.ev 0 rfl) h17) rfl rfl rfl ?_; clear T ac; intro ac T
                   refine l_pass T (wanted_no rfl rfl (T.ev 1 rfl) h17) rfl rfl rfl ?_; clear T ac; intro ac T
                   refine l_pass T (wanted_no rfl rfl (T.ev 2 rfl) h17) rfl rfl rfl ?_; clear T ac; intro ac T
                   refine l_pass T (wanted_no rfl rfl (T.ev 3 rfl) h17) rfl rfl rfl ?_; clear T ac; intro ac T
                   refine l_pass T (wanted_no rfl rfl (T.ev 4 rfl) h17) rfl rfl rfl ?_; clear T ac; intro ac T
                   refine l_pass T (wanted_no rfl rfl (T.ev 5 rfl) h17) rfl rfl rfl ?_; clear T ac; intro ac T
                   refine l_pass T (wanted_no rfl rfl (T.ev 6 rfl) h17) rfl rfl rfl ?_; clear T ac; intro ac T
                   refine l_pass T (wanted_un rfl rfl (T.ev 0 rfl)) rfl rfl rfl ?_; clear T ac; intro ac T
                   refine l_pass T (wanted_un rfl rfl (T.ev 1 rfl)) rfl rfl rfl ?_; clear T ac; intro ac T
                   refine l_pass T (wanted_un rfl rfl (T.ev 2 rfl)) rfl rfl rfl ?_; clear T ac; intro ac T
                   refine l_pass T (wanted_un rfl rfl (T.ev 3 rfl)) rfl rfl rfl ?_; clear T ac; intro ac T
                   refine l_pass T (wanted_un rfl rfl (T.ev 4 rfl)) rfl rfl rfl ?_; clear T ac; intro ac T
                   refine l_pass T (wanted_un rfl rfl (T.ev 5 rfl)) rfl rfl rfl ?_; clear T ac; intro ac T
                   refine l_pass T (wanted_no rfl rfl (T.ev 13 rfl) h17) rfl rfl rfl ?_; clear T ac; intro ac T
                   refine l_q T (wanted_yes rfl rfl (T.ev 17 rfl) (by simp [h16])) rfl rfl rfl (rn_pick0 rfl (T.ev 14 rfl) h17 evc) ?_; clear T ac; intro ac T
                   refine l_q T rfl rfl rfl rfl (rn_pick0 rfl (T.ev 18 rfl) (by simp [h16]) (T.ev 0 rfl)) ?_; clear T ac; intro ac T
                   refine wpList_nil ?_
                   replace T := T.pick [0, 1, 2, 3, 4, 5, 6, 7, 8, 9, 10, 11, 12, 13, 14, 15, 16, 17, 18, 23, 24, 25, 26, 27, 28, 29, 30, 31, 32, 33, 34, 35, 36, 37, 38, 39, 40, 41] rfl
                   exact ⟨(T.pick (E' := [(3, .pointer (some ⟨bpu1, 0, none⟩)), (4, .pointer (some ⟨g1, 0, none⟩)), (5, .int .i64 ((guidedJ jm).1)), (7, .pointer (some ⟨g2, 0, none⟩)), (10, .pointer (some ⟨gr13_5, 0, none⟩)), (11, .pointer (some ⟨gr13_6, 0, none⟩)), (12, .bool ((decide (yur13_2 < jm.le)) || (decide (zur13_2 < jm.le)))), (13, .int .i64 i), (19, .pointer (some ⟨g4, 0, none⟩)), (109, .agg #[.int .i64 haur17_11, .int .i64 hcur17_11]), (110, .pointer (some ⟨gr13_5, 0, none⟩)), (111, .int .i64 a), (112, .bool (decide (haur17_11 ≤ a ∧ a ≤ hcur17_11))), (113, .bool (!(decide (haur17_11 ≤ a ∧ a ≤ hcur17_11)))), (135, .int .i64 i), (136, .int .i64 lfu12), (137, .int .i64 (i + lfu12)), (138, .int .i64 ((guidedJ jm).1)), (139, .bool (decide (((guidedJ jm).1) < (i + lfu12)))), (192, .bool false)]) [20, 21, 22, 23, 24, 25, 26, 27, 19, 28, 29, 30, 31, 32, 33, 34, 35, 36, 37, 0] rfl).as (by (try rw [show (!(decide ((checkStrokesJ (kj.at haur17_11 hcur17_11) [kdu12]) = 0))) = false from (by simp [h16])]); (try rw [show (!((decide (yur13_2 < jm.le)) || (decide (zur13_2 < jm.le)))) = false from h17]); rfl), M.mask [true, true, true, true, true, true] rfl⟩
                ·clear T M
                 rintro ac wc ⟨T, M⟩
                 refine wp_cond_split (T.ev 19 rfl) ?_ ?_
                 ·intro h19
                  (try have h19' := h19; try simp only [Bool.and_eq_true, Bool.or_eq_true, Bool.not_eq_true', Bool.and_eq_false_imp, Bool.or_eq_false_iff, decide_eq_true_eq, decide_eq_false_iff_not] at h19')
                  refine wp_seq ?_
                  refine wp_region_lit ?_
                  refine l_q T rfl rfl rfl rfl (rn_assign rfl evc) ?_; clear T ac; intro ac T
                  refine wpList_nil ?_
                  replace T := T.pick [0] rfl
                  replace M := M.mask [false, false, false, false, false, false] rfl
                  refine nm_then ?_
                  refine wp_ret ?_
                  refine rt_then ?_
                  refine rt_blk ?_
                  refine rt_then ?_
                  refine rt_then ?_
                  refine rt_blk ?_
                  refine rt_1 T rfl (T.ev 0 rfl) ?_
                  exfalso
                  obtain ⟨y1, y2⟩ := hkb
                  have y3 := hxu15.t
                  have y4 := hxu15.r
                  rw [← hc2] at y3 y4
                  have y5 : kj.le ≤ _ := y1
                  have y6 : kj.le ≤ _ := y2
                  simp only [Bool.and_eq_true, Bool.or_eq_true, Bool.not_eq_true', Bool.and_eq_false_iff, Bool.or_eq_false_iff, Bool.not_eq_false', decide_eq_true_eq, decide_eq_false_iff_not] at h19
                  omega
                 ·intro h19
                  (try have h19' := h19; try simp only [Bool.and_eq_true, Bool.or_eq_true, Bool.not_eq_true', Bool.and_eq_false_imp, Bool.or_eq_false_iff, decide_eq_true_eq, decide_eq_false_iff_not] at h19')
                  refine wp_skip ?_
                  refine nm_then ?_
                  refine wp_seq ?_
                  refine wp_region_lit ?_
                  refine l_q T rfl rfl rfl rfl (rn_rowO (Mem.nth M 0 rfl) rfl (T.ev 8 rfl) rfl) ?_; clear T ac; intro ac T
                  refine l_q (v := (.pointer (some ⟨gr13_6, 0, none⟩))) T rfl rfl rfl rfl (rn_fieldAddr (off := 0) rfl (T.ev 6 rfl) (fun _ _ _ => by kernel_rfl)) ?_; clear T ac; intro ac T
                  refine l_w rfl ?_; intro K hK
                  refine ow_stO M T rfl rfl (T.ev 0 rfl) (T.ev 1 rfl) rfl (.tail (.tail .head)) rfl (by simp) rfl (by kernel_rfl) ?_; clear M T; intro wc ac M T
                  refine sh_out hK _ _ ?_; clear hK K
                  refine wpList_nil ?_
                  replace T := T.pick [2, 3, 4, 5, 6, 7, 8, 9, 10, 11, 12, 13, 14, 15, 16, 17, 18, 19, 20] rfl
                  refine nm_then ?_
                  refine cut_seq (fun ac wc => Tm ac 218 [(3, .pointer (some ⟨bpu1, 0, none⟩)), (4, .pointer (some ⟨g1, 0, none⟩)), (5, .int .i64 ((guidedJ jm).1)), (7, .pointer (some ⟨g2, 0, none⟩)), (10, .pointer (some ⟨gr13_5, 0, none⟩)), (11, .pointer (some ⟨gr13_6, 0, none⟩)), (12, .bool ((decide (yur13_2 < jm.le)) || (decide (zur13_2 < jm.le)))), (13, .int .i64 i), (109, .agg #[.int .i64 haur17_11, .int .i64 hcur17_11]), (110, .pointer (some ⟨gr13_5, 0, none⟩)), (111, .int .i64 a), (112, .bool (decide (haur17_11 ≤ a ∧ a ≤ hcur17_11))), (113, .bool (!(decide (haur17_11 ≤ a ∧ a ≤ hcur17_11)))), (135, .int .i64 i), (136, .int .i64 lfu12), (137, .int .i64 (i + lfu12)), (138, .int .i64 ((guidedJ jm).1)), (139, .bool (decide (((guidedJ jm).1) < (i + lfu12)))), (216, .bool ((decide (((afT (kj.at haur17_11 hcur17_11) [kdu12]).p0) < (-60))) || ((decide (60 < ((afT (kj.at haur17_11 hcur17_11) [kdu12]).p1))) || ((decide (((afT (kj.at haur17_11 hcur17_11) [kdu12]).t0) < 0)) || (decide (((afT (kj.at haur17_11 hcur17_11) [kdu12]).r0) < 0))))))] ∧ Mem w noEx wc ((gr13_5, .cells [.int .i64 xu15, .int .i64 yu15, .int .i64 zu15]) :: (gr13_6, .cells [.int .i64 ((afT (kj.at haur17_11 hcur17_11) [kdu12]).p0), .int .i64 ((afT (kj.at haur17_11 hcur17_11) [kdu12]).p1), .int .i64 ((afT (kj.at haur17_11 hcur17_11) [kdu12]).t0), .int .i64 ((afT (kj.at haur17_11 hcur17_11) [kdu12]).t1), .int .i64 ((afT (kj.at haur17_11 hcur17_11) [kdu12]).r0), .int .i64 ((afT (kj.at haur17_11 hcur17_11) [kdu12]).r1), .int .i64 kj.u0, .int .i64 kj.u1, .int .i64 kj.d0, .int .i64 kj.d1, .int .i64 kj.a0, .int .i64 kj.a1, .int .i64 kj.b0, .int .i64 kj.b1, .int .i64 kj.le, .slice Aur13_4 kj.sh.length cur13_4, .int .i64 kj.wi, .int .i64 kj.me]) :: (g2, .cells [.int .i64 (if ((windowJ jm).2) = 11 then 1000 else (windowJ jm).1.1), .int .i64 (if ((windowJ jm).2) = 11 then -1000 else (windowJ jm).1.2)]) :: (g1, .cells (jobL jm Au4 cu4)) :: (bpu1, .cells [.int .u64 su15]) :: (Iu4 ++ Iur13_4))) ?_ ?_
                  ·refine wp_region_lit ?_
                   refine l_q (v := (.pointer (some ⟨g4, 0, none⟩))) T rfl rfl rfl rfl (rn_fieldAddr (off := 0) rfl (T.ev 8 rfl) (fun _ _ _ => by kernel_rfl)) ?_; clear T ac; intro ac T
                   refine l_q (v := (.pointer (some ⟨g4, 0, none⟩))) T rfl rfl rfl rfl (rn_fieldAddr (off := 0) rfl (T.ev 0 rfl) (fun _ _ _ => by kernel_rfl)) ?_; clear T ac; intro ac T
                   refine l_q T rfl rfl rfl rfl (rn_one (Mem.nth M 0 rfl) rfl (T.ev 0 rfl) rfl) ?_; clear T ac; intro ac T
                   refine l_q T rfl rfl rfl rfl (rn_lss rfl (T.ev 0 rfl) evc) ?_; clear T ac; intro ac T
                   refine l_q T rfl rfl rfl rfl (rn_move rfl (T.ev 0 rfl)) ?_; clear T ac; intro ac T
                   rcases Bool.eq_false_or_eq_true (decide (((afT (kj.at haur17_11 hcur17_11) [kdu12]).p0) < (-60))) with h20 | h20
                   ·replace h20 := of_decide_eq_true h20
                    refine l_pass T (wanted_no rfl rfl (T.ev 0 rfl) (decide_eq_true h20)) rfl rfl rfl ?_; clear T ac; intro ac T
                    refine l_pass T (wanted_no rfl rfl (T.ev 1 rfl) (decide_eq_true h20)) rfl rfl rfl ?_; clear T ac; intro ac T
                    refine l_pass T (wanted_no rfl rfl (T.ev 2 rfl) (decide_eq_true h20)) rfl rfl rfl ?_; clear T ac; intro ac T
                    refine l_pass T (wanted_no rfl rfl (T.ev 3 rfl) (decide_eq_true h20)) rfl rfl rfl ?_; clear T ac; intro ac T
                    refine l_q T rfl rfl rfl rfl (rn_pick1 rfl (T.ev 4 rfl) (decide_eq_true h20) evc) ?_; clear T ac; intro ac T
                    refine l_q T rfl rfl rfl rfl (rn_move rfl (T.ev 0 rfl)) ?_; clear T ac; intro ac T
                    refine l_pass T (wanted_no rfl rfl (T.ev 0 rfl) rfl) rfl rfl rfl ?_; clear T ac; intro ac T
                    refine l_pass T (wanted_no rfl rfl (T.ev 1 rfl) rfl) rfl rfl rfl ?_; clear T ac; intro ac T
                    refine l_pass T (wanted_no rfl rfl (T.ev 2 rfl) rfl) rfl rfl rfl ?_; clear T ac; intro ac T
                    refine l_pass T (wanted_no rfl rfl (T.ev 3 rfl) rfl) rfl rfl rfl ?_; clear T ac; intro ac T
                    refine l_q T rfl rfl rfl rfl (rn_pick1 rfl (T.ev 4 rfl) rfl evc) ?_; clear T ac; intro ac T
                    refine l_q T rfl rfl rfl rfl (rn_move rfl (T.ev 0 rfl)) ?_; clear T ac; intro ac T
                    refine l_pass T (wanted_no rfl rfl (T.ev 0 rfl) rfl) rfl rfl rfl ?_; clear T ac; intro ac T
                    refine l_pass T (wanted_no rfl rfl (T.ev 1 rfl) rfl) rfl rfl rfl ?_; clear T ac; intro ac T
                    refine l_pass T (wanted_no rfl rfl (T.ev 2 rfl) rfl) rfl rfl rfl ?_; clear T ac; intro ac T
                    refine l_pass T (wanted_no rfl rfl (T.ev 3 rfl) rfl) rfl rfl rfl ?_; clear T ac; intro ac T
                    refine l_q T rfl rfl rfl rfl (rn_pick1 rfl (T.ev 4 rfl) rfl evc) ?_; clear T ac; intro ac T
                    refine wpList_nil ?_
                    replace T := T.pick [0, 1, 2, 3, 4, 7, 8, 9, 10, 13, 14, 15, 16, 22, 23, 24, 25, 26, 27, 28, 29, 31, 32, 33, 34, 35, 36, 37, 38, 39, 40] rfl
                    replace M := M.mask [false, true, true, true, true, true] rfl
                    exact ⟨(T.pick (E' := [(3, .pointer (some ⟨bpu1, 0, none⟩)), (4, .pointer (some ⟨g1, 0, none⟩)), (5, .int .i64 ((guidedJ jm).1)), (7, .pointer (some ⟨g2, 0, none⟩)), (10, .pointer (some ⟨gr13_5, 0, none⟩)), (11, .pointer (some ⟨gr13_6, 0, none⟩)), (12, .bool ((decide (yur13_2 < jm.le)) || (decide (zur13_2 < jm.le)))), (13, .int .i64 i), (109, .agg #[.int .i64 haur17_11, .int .i64 hcur17_11]), (110, .pointer (some ⟨gr13_5, 0, none⟩)), (111, .int .i64 a), (112, .bool (decide (haur17_11 ≤ a ∧ a ≤ hcur17_11))), (113, .bool (!(decide (haur17_11 ≤ a ∧ a ≤ hcur17_11)))), (135, .int .i64 i), (136, .int .i64 lfu12), (137, .int .i64 (i + lfu12)), (138, .int .i64 ((guidedJ jm).1)), (139, .bool (decide (((guidedJ jm).1) < (i + lfu12)))), (216, .bool true)]) [13, 14, 15, 16, 17, 18, 19, 20, 21, 22, 23, 24, 25, 26, 27, 28, 29, 30, 0] rfl).as (by (try rw [show (decide (((afT (kj.at haur17_11 hcur17_11) [kdu12]).p0) < (-60))) = true from (decide_eq_true h20)]); rfl), M.mask [true, true, true, true, true] rfl⟩
                   ·replace h20 := of_decide_eq_false h20
                    refine l_q (v := (.pointer (some ⟨g4, 0, none⟩))) T (wanted_yes rfl rfl (T.ev 0 rfl) (decide_eq_false h20)) rfl rfl rfl (rn_fieldAddr (off := 0) rfl (T.ev 13 rfl) (fun _ _ _ => by kernel_rfl)) ?_; clear T ac; intro ac T
                    refine l_q (v := (.pointer (some ⟨g4, 1, none⟩))) T (wanted_yes rfl rfl (T.ev 1 rfl) (decide_eq_false h20)) rfl rfl rfl (rn_fieldAddr (off := 1) rfl (T.ev 0 rfl) (fun _ _ _ => by kernel_rfl)) ?_; clear T ac; intro ac T
                    refine l_q T (wanted_yes rfl rfl (T.ev 2 rfl) (decide_eq_false h20)) rfl rfl rfl (rn_one (Mem.nth M 0 rfl) rfl (T.ev 0 rfl) rfl) ?_; clear T ac; intro ac T
                    refine l_q T (wanted_yes rfl rfl (T.ev 3 rfl) (decide_eq_false h20)) rfl rfl rfl (rn_gtr rfl (T.ev 0 rfl) evc) ?_; clear T ac; intro ac T
                    refine l_q T rfl rfl rfl rfl (rn_pick0 rfl (T.ev 4 rfl) (decide_eq_false h20) (T.ev 0 rfl)) ?_; clear T ac; intro ac T
                    refine l_q T rfl rfl rfl rfl (rn_move rfl (T.ev 0 rfl)) ?_; clear T ac; intro ac T
                    rcases Bool.eq_false_or_eq_true (decide (60 < ((afT (kj.at haur17_11 hcur17_11) [kdu12]).p1))) with h21 | h21
                    ·replace h21 := of_decide_eq_true h21
                     refine l_pass T (wanted_no rfl rfl (T.ev 0 rfl) (decide_eq_true h21)) rfl rfl rfl ?_; clear T ac; intro ac T
                     refine l_pass T (wanted_no rfl rfl (T.ev 1 rfl) (decide_eq_true h21)) rfl rfl rfl ?_; clear T ac; intro ac T
                     refine l_pass T (wanted_no rfl rfl (T.ev 2 rfl) (decide_eq_true h21)) rfl rfl rfl ?_; clear T ac; intro ac T
                     refine l_pass T (wanted_no rfl rfl (T.ev 3 rfl) (decide_eq_true h21)) rfl rfl rfl ?_; clear T ac; intro ac T
                     refine l_q T rfl rfl rfl rfl (rn_pick1 rfl (T.ev 4 rfl) (decide_eq_true h21) evc) ?_; clear T ac; intro ac T
                     refine l_q T rfl rfl rfl rfl (rn_move rfl (T.ev 0 rfl)) ?_; clear T ac; intro ac T
                     refine l_pass T (wanted_no rfl rfl (T.ev 0 rfl) rfl) rfl rfl rfl ?_; clear T ac; intro ac T
                     refine l_pass T (wanted_no rfl rfl (T.ev 1 rfl) rfl) rfl rfl rfl ?_; clear T ac; intro ac T
                     refine l_pass T (wanted_no rfl rfl (T.ev 2 rfl) rfl) rfl rfl rfl ?_; clear T ac; intro ac T
                     refine l_pass T (wanted_no rfl rfl (T.ev 3 rfl) rfl) rfl rfl rfl ?_; clear T ac; intro ac T
                     refine l_q T rfl rfl rfl rfl (rn_pick1 rfl (T.ev 4 rfl) rfl evc) ?_; clear T ac; intro ac T
                     refine wpList_nil ?_
                     replace T := T.pick [0, 1, 2, 3, 4, 7, 8, 9, 10, 13, 14, 15, 16, 22, 23, 24, 25, 26, 27, 28, 29, 31, 32, 33, 34, 35, 36, 37, 38, 39, 40] rfl
                     exact ⟨(T.pick (E' := [(3, .pointer (some ⟨bpu1, 0, none⟩)), (4, .pointer (some ⟨g1, 0, none⟩)), (5, .int .i64 ((guidedJ jm).1)), (7, .pointer (some ⟨g2, 0, none⟩)), (10, .pointer (some ⟨gr13_5, 0, none⟩)), (11, .pointer (some ⟨gr13_6, 0, none⟩)), (12, .bool ((decide (yur13_2 < jm.le)) || (decide (zur13_2 < jm.le)))), (13, .int .i64 i), (109, .agg #[.int .i64 haur17_11, .int .i64 hcur17_11]), (110, .pointer (some ⟨gr13_5, 0, none⟩)), (111, .int .i64 a), (112, .bool (decide (haur17_11 ≤ a ∧ a ≤ hcur17_11))), (113, .bool (!(decide (haur17_11 ≤ a ∧ a ≤ hcur17_11)))), (135, .int .i64 i), (136, .int .i64 lfu12), (137, .int .i64 (i + lfu12)), (138, .int .i64 ((guidedJ jm).1)), (139, .bool (decide (((guidedJ jm).1) < (i + lfu12)))), (216, .bool true)]) [13, 14, 15, 16, 17, 18, 19, 20, 21, 22, 23, 24, 25, 26, 27, 28, 29, 30, 0] rfl).as (by (try rw [show (decide (((afT (kj.at haur17_11 hcur17_11) [kdu12]).p0) < (-60))) = false from (decide_eq_false h20)]); (try rw [show (decide (60 < ((afT (kj.at haur17_11 hcur17_11) [kdu12]).p1))) = true from (decide_eq_true h21)]); rfl), M.mask [false, true, true, true, true, true] rfl⟩
                    ·replace h21 := of_decide_eq_false h21
                     refine l_q (v := (.pointer (some ⟨g4, 2, none⟩))) T (wanted_yes rfl rfl (T.ev 0 rfl) (decide_eq_false h21)) rfl rfl rfl (rn_fieldAddr (off := 2) rfl (T.ev 19 rfl) (fun _ _ _ => by kernel_rfl)) ?_; clear T ac; intro ac T
                     refine l_q (v := (.pointer (some ⟨g4, 2, none⟩))) T (wanted_yes rfl rfl (T.ev 1 rfl) (decide_eq_false h21)) rfl rfl rfl (rn_fieldAddr (off := 0) rfl (T.ev 0 rfl) (fun _ _ _ => by kernel_rfl)) ?_; clear T ac; intro ac T
                     refine l_q T (wanted_yes rfl rfl (T.ev 2 rfl) (decide_eq_false h21)) rfl rfl rfl (rn_one (Mem.nth M 0 rfl) rfl (T.ev 0 rfl) rfl) ?_; clear T ac; intro ac T
                     refine l_q T (wanted_yes rfl rfl (T.ev 3 rfl) (decide_eq_false h21)) rfl rfl rfl (rn_lss rfl (T.ev 0 rfl) evc) ?_; clear T ac; intro ac T
                     refine l_q T rfl rfl rfl rfl (rn_pick0 rfl (T.ev 4 rfl) (decide_eq_false h21) (T.ev 0 rfl)) ?_; clear T ac; intro ac T
                     refine l_q T rfl rfl rfl rfl (rn_move rfl (T.ev 0 rfl)) ?_; clear T ac; intro ac T
                     rcases Bool.eq_false_or_eq_true (decide (((afT (kj.at haur17_11 hcur17_11) [kdu12]).t0) < 0)) with h22 | h22
                     ·replace h22 := of_decide_eq_true h22
                      refine l_pass T (wanted_no rfl rfl (T.ev 0 rfl) (decide_eq_true h22)) rfl rfl rfl ?_; clear T ac; intro ac T
                      refine l_pass T (wanted_no rfl rfl (T.ev 1 rfl) (decide_eq_true h22)) rfl rfl rfl ?_; clear T ac; intro ac T
                      refine l_pass T (wanted_no rfl rfl (T.ev 2 rfl) (decide_eq_true h22)) rfl rfl rfl ?_; clear T ac; intro ac T
                      refine l_pass T (wanted_no rfl rfl (T.ev 3 rfl) (decide_eq_true h22)) rfl rfl rfl ?_; clear T ac; intro ac T
                      refine l_q T rfl rfl rfl rfl (rn_pick1 rfl (T.ev 4 rfl) (decide_eq_true h22) evc) ?_; clear T ac; intro ac T
                      refine wpList_nil ?_
                      replace T := T.pick [0, 1, 2, 3, 4, 7, 8, 9, 10, 13, 14, 15, 16, 22, 23, 24, 25, 26, 27, 28, 29, 31, 32, 33, 34, 35, 36, 37, 38, 39, 40] rfl
                      exact ⟨(T.pick (E' := [(3, .pointer (some ⟨bpu1, 0, none⟩)), (4, .pointer (some ⟨g1, 0, none⟩)), (5, .int .i64 ((guidedJ jm).1)), (7, .pointer (some ⟨g2, 0, none⟩)), (10, .pointer (some ⟨gr13_5, 0, none⟩)), (11, .pointer (some ⟨gr13_6, 0, none⟩)), (12, .bool ((decide (yur13_2 < jm.le)) || (decide (zur13_2 < jm.le)))), (13, .int .i64 i), (109, .agg #[.int .i64 haur17_11, .int .i64 hcur17_11]), (110, .pointer (some ⟨gr13_5, 0, none⟩)), (111, .int .i64 a), (112, .bool (decide (haur17_11 ≤ a ∧ a ≤ hcur17_11))), (113, .bool (!(decide (haur17_11 ≤ a ∧ a ≤ hcur17_11)))), (135, .int .i64 i), (136, .int .i64 lfu12), (137, .int .i64 (i + lfu12)), (138, .int .i64 ((guidedJ jm).1)), (139, .bool (decide (((guidedJ jm).1) < (i + lfu12)))), (216, .bool true)]) [13, 14, 15, 16, 17, 18, 19, 20, 21, 22, 23, 24, 25, 26, 27, 28, 29, 30, 0] rfl).as (by (try rw [show (decide (((afT (kj.at haur17_11 hcur17_11) [kdu12]).p0) < (-60))) = false from (decide_eq_false h20)]); (try rw [show (decide (60 < ((afT (kj.at haur17_11 hcur17_11) [kdu12]).p1))) = false from (decide_eq_false h21)]); (try rw [show (decide (((afT (kj.at haur17_11 hcur17_11) [kdu12]).t0) < 0)) = true from (decide_eq_true h22)]); rfl), M.mask [false, true, true, true, true, true] rfl⟩
                     ·replace h22 := of_decide_eq_false h22
                      refine l_q (v := (.pointer (some ⟨g4, 4, none⟩))) T (wanted_yes rfl rfl (T.ev 0 rfl) (decide_eq_false h22)) rfl rfl rfl (rn_fieldAddr (off := 4) rfl (T.ev 25 rfl) (fun _ _ _ => by kernel_rfl)) ?_; clear T ac; intro ac T
                      refine l_q (v := (.pointer (some ⟨g4, 4, none⟩))) T (wanted_yes rfl rfl (T.ev 1 rfl) (decide_eq_false h22)) rfl rfl rfl (rn_fieldAddr (off := 0) rfl (T.ev 0 rfl) (fun _ _ _ => by kernel_rfl)) ?_; clear T ac; intro ac T
                      refine l_q T (wanted_yes rfl rfl (T.ev 2 rfl) (decide_eq_false h22)) rfl rfl rfl (rn_one (Mem.nth M 0 rfl) rfl (T.ev 0 rfl) rfl) ?_; clear T ac; intro ac T
                      refine l_q T (wanted_yes rfl rfl (T.ev 3 rfl) (decide_eq_false h22)) rfl rfl rfl (rn_lss rfl (T.ev 0 rfl) evc) ?_; clear T ac; intro ac T
                      refine l_q T rfl rfl rfl rfl (rn_pick0 rfl (T.ev 4 rfl) (decide_eq_false h22) (T.ev 0 rfl)) ?_; clear T ac; intro ac T
                      refine wpList_nil ?_
                      replace T := T.pick [0, 1, 2, 3, 4, 7, 8, 9, 10, 13, 14, 15, 16, 22, 23, 24, 25, 26, 27, 28, 29, 31, 32, 33, 34, 35, 36, 37, 38, 39, 40] rfl
                      exact ⟨(T.pick (E' := [(3, .pointer (some ⟨bpu1, 0, none⟩)), (4, .pointer (some ⟨g1, 0, none⟩)), (5, .int .i64 ((guidedJ jm).1)), (7, .pointer (some ⟨g2, 0, none⟩)), (10, .pointer (some ⟨gr13_5, 0, none⟩)), (11, .pointer (some ⟨gr13_6, 0, none⟩)), (12, .bool ((decide (yur13_2 < jm.le)) || (decide (zur13_2 < jm.le)))), (13, .int .i64 i), (109, .agg #[.int .i64 haur17_11, .int .i64 hcur17_11]), (110, .pointer (some ⟨gr13_5, 0, none⟩)), (111, .int .i64 a), (112, .bool (decide (haur17_11 ≤ a ∧ a ≤ hcur17_11))), (113, .bool (!(decide (haur17_11 ≤ a ∧ a ≤ hcur17_11)))), (135, .int .i64 i), (136, .int .i64 lfu12), (137, .int .i64 (i + lfu12)), (138, .int .i64 ((guidedJ jm).1)), (139, .bool (decide (((guidedJ jm).1) < (i + lfu12)))), (216, .bool (decide (((afT (kj.at haur17_11 hcur17_11) [kdu12]).r0) < 0)))]) [13, 14, 15, 16, 17, 18, 19, 20, 21, 22, 23, 24, 25, 26, 27, 28, 29, 30, 0] rfl).as (by (try rw [show (decide (((afT (kj.at haur17_11 hcur17_11) [kdu12]).p0) < (-60))) = false from (decide_eq_false h20)]); (try rw [show (decide (60 < ((afT (kj.at haur17_11 hcur17_11) [kdu12]).p1))) = false from (decide_eq_false h21)]); (try rw [show (decide (((afT (kj.at haur17_11 hcur17_11) [kdu12]).t0) < 0)) = false from (decide_eq_false h22)]); rfl), M.mask [false, true, true, true, true, true] rfl⟩
                  ·clear T M
                   rintro ac wc ⟨T, M⟩
                   refine wp_cond_split (T.ev 18 rfl) ?_ ?_
                   ·intro h23
                    (try have h23' := h23; try simp only [Bool.and_eq_true, Bool.or_eq_true, Bool.not_eq_true', Bool.and_eq_false_imp, Bool.or_eq_false_iff, decide_eq_true_eq, decide_eq_false_iff_not] at h23')
                    refine wp_seq ?_
                    refine wp_region_lit ?_
                    refine l_w rfl ?_; intro K hK
                    refine ow_call (first := []) (cap := []) T rfl rfl rfl rfl evf .nil Try.func15 rfl rfl ?_
                    refine Calls.mono (tuned_any _) ?_
                    clear T
                    rintro e wc ⟨rfl, hb⟩
                    intro ac T
                    replace M := M.call hb; clear hb
                    refine sh_out hK _ _ ?_; clear hK K
                    refine l_q T rfl rfl rfl rfl (rn_assign rfl (T.ev 0 rfl)) ?_; clear T ac; intro ac T
                    refine wpList_nil ?_
                    replace T := T.pick [0] rfl
                    replace M := M.mask [false, false, false, false, false] rfl
                    refine nm_then ?_
                    refine wp_ret ?_
                    refine rt_blk ?_
                    refine rt_then ?_
                    refine rt_then ?_
                    refine rt_blk ?_
                    refine rt_1 T rfl (T.ev 0 rfl) ?_
                    exact ⟨rfl, M.below⟩
                   ·intro h23
                    (try have h23' := h23; try simp only [Bool.and_eq_true, Bool.or_eq_true, Bool.not_eq_true', Bool.and_eq_false_imp, Bool.or_eq_false_iff, decide_eq_true_eq, decide_eq_false_iff_not] at h23')
                    refine wp_skip ?_
                    refine nm_blk ?_
                    refine nm_then ?_
                    refine wp_region_lit ?_
                    refine l_q T rfl rfl rfl rfl (rn_move rfl (T.ev 7 rfl)) ?_; clear T ac; intro ac T
                    refine l_q T rfl rfl rfl rfl (rn_add rfl (T.ev 0 rfl) evc (by omega)) ?_; clear T ac; intro ac T
                    refine l_q (v := (.int .i64 (i + 1))) (T.pick [0, 1, 2, 3, 4, 5, 6, 7, 8, 10, 11, 12, 13, 14, 15, 16, 17, 18, 19, 20] rfl) rfl rfl rfl rfl (rn_assign rfl (T.ev 0 rfl)) ?_; clear T ac; intro ac T
                    refine wpList_nil ?_
                    replace T := T.pick [0, 3, 4, 5, 6, 7, 8, 9, 10, 11, 12, 13, 14, 15, 16, 17, 18, 19] rfl
                    refine nm_then ?_
                    exact ⟨_, by omega, ((kj.at haur17_11 hcur17_11).filed kdu12), xu15, yu15, zu15, (i + 1), su15, (lfu12 - 1).toNat, rfl, (good_filed hkx hka (by omega) (by omega) (by omega) (by omega)), ((hsf.at _ _).filed _), (InS.filed hc2 hxu15), (by omega), (by omega), hkc, hsu15, T.pick [1, 2, 3, 4, 5, 6, 7, 0] rfl, M.mask [true, true, true, true, true] rfl⟩

end Go.Proofs.Ythlpceoajhcliaa

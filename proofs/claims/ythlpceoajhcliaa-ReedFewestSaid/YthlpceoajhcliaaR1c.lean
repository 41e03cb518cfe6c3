/-
  ref1: what passes, what is heard; strokes.
-/
import Derived.Test.YthlpceoajhcliaaR1b
import Derived.Test.YthlpceoajhcliaaRTop2
namespace Go.Proofs.Ythlpceoajhcliaa
set_option linter.unusedSimpArgs false
set_option linter.unusedVariables false
open Go.RowKit

def rpassT (j : Jb) : Int × Int := if checkJ j = 0 then (rpass j j.p0 j.p1, 0) else (0, checkJ j)
def rheard (p0 p1 r m : Int) : Int × Int := (max p0 (r - m), min p1 (r + m))
def rhearT (j : Jb) (r : Int) : (Int × Int) × Int := if checkJ j = 0 then (if withinB r (j.p0 - j.me) (j.p1 + j.me) = true then (rheard j.p0 j.p1 r j.me, 0) else ((0, 0), 9)) else ((0, 0), checkJ j)


set_option maxRecDepth 100000 in
set_option maxHeartbeats 1000000 in
theorem rPasses_any (j : Jb) (A : Option Addr) (c : Nat) (w : World) (hr : Rd w w.heap.size 2 A j.sh.length (rc j.sh)) (hn : j.sh.length ≤ 9223372036854775807) :
    Calls Try.prog 47 #[jobV j A c] w fun e w' => e = .returned (.tuple #[.int .i64 ((rpassT j).1), .int .i64 ((rpassT j).2)]) ∧ Below w.heap.size w w' := by
  obtain ⟨bJ, oJ, SJ⟩ := Sp.old hr
  refine px_enter noEx Try.func47 rfl 15 rfl [.agg #[.int .i64 j.p0, .int .i64 j.p1, .int .i64 j.t0, .int .i64 j.t1, .int .i64 j.r0, .int .i64 j.r1, .int .i64 j.u0, .int .i64 j.u1, .int .i64 j.d0, .int .i64 j.d1, .int .i64 j.a0, .int .i64 j.a1, .int .i64 j.b0, .int .i64 j.b1, .int .i64 j.le, .slice A j.sh.length c, .int .i64 j.wi, .int .i64 j.me]] rfl rfl (Mem.init w _) ?_
  intro ac wc T M
  refine wp_seq ?_
  refine wp_region_lit ?_
  refine l_w rfl ?_; intro K hK
  refine ow_bx M T rfl rfl rfl rfl (T.ev 0 rfl) rfl ?_; clear M T; intro g1 wc ac M T
  refine sh_out hK _ _ ?_; clear hK K
  refine l_q T rfl rfl rfl rfl (rn_assign rfl evc) ?_; clear T ac; intro ac T
  refine l_q T rfl rfl rfl rfl (rn_assign rfl evc) ?_; clear T ac; intro ac T
  refine wpList_nil ?_
  replace T := T.pick [2] rfl
  refine nm_then ?_
  refine wp_seq ?_
  refine wp_seq ?_
  refine wp_region_lit ?_
  refine l_q T rfl rfl rfl rfl (rn_rowO (Mem.nth M 0 rfl) rfl (T.ev 0 rfl) rfl) ?_; clear T ac; intro ac T
  refine l_w rfl ?_; intro K hK
  refine ow_call (first := []) (cap := []) T rfl rfl rfl rfl evf (.cons (T.ev 0 rfl) .nil) Try.func50 rfl rfl ?_
  refine Calls.mono (rCheck_any j _ _ _ (SJ.rd M (List.nil_sublist _)) (by omega)) ?_
  clear T
  rintro e wc ⟨rfl, hb⟩
  intro ac T
  replace M := M.call hb; clear hb
  refine sh_out hK _ _ ?_; clear hK K
  refine l_q T rfl rfl rfl rfl (rn_assign rfl (T.ev 0 rfl)) ?_; clear T ac; intro ac T
  refine wpList_nil ?_
  replace T := T.pick [0, 3] rfl
  refine nm_then ?_
  refine wp_seq ?_
  refine wp_region_lit ?_
  refine l_q T rfl rfl rfl rfl (rn_move rfl (T.ev 0 rfl)) ?_; clear T ac; intro ac T
  refine l_q T rfl rfl rfl rfl (rn_neq rfl (T.ev 0 rfl) evc) ?_; clear T ac; intro ac T
  refine wpList_nil ?_
  replace T := T.pick [0, 2, 3] rfl
  refine nm_then ?_
  refine wp_ifn (T.ev 0 rfl) ?_ ?_
  · intro h1
    refine wp_seq ?_
    refine wp_region_lit ?_
    refine l_q T rfl rfl rfl rfl (rn_move rfl (T.ev 1 rfl)) ?_; clear T ac; intro ac T
    refine l_q T rfl rfl rfl rfl (rn_assign rfl evc) ?_; clear T ac; intro ac T
    refine l_q T rfl rfl rfl rfl (rn_assign rfl (T.ev 1 rfl)) ?_; clear T ac; intro ac T
    refine wpList_nil ?_
    replace T := T.pick [0, 1] rfl
    replace M := M.mask [false] rfl
    refine nm_then ?_
    refine wp_ret ?_
    refine rt_then ?_
    refine rt_2 T rfl (T.ev 1 rfl) (T.ev 0 rfl) ?_
    refine ⟨?_, M.below⟩
    unfold rpassT
    (repeat' split) <;> first | rfl | omega | contradiction | (simp_all; done) | (simp_all; omega)
  · intro h1
    have hj := good_of (show checkJ j = 0 by simpa using h1)
    have hp := hj.p
    have hme := hj.me
    refine wp_skip ?_
    refine nm_then ?_
    refine wp_seq ?_
    refine wp_region_lit ?_
    refine l_q T rfl rfl rfl rfl (rn_rowO (Mem.nth M 0 rfl) rfl (T.ev 2 rfl) rfl) ?_; clear T ac; intro ac T
    refine l_q (v := (.pointer (some ⟨g1, 0, none⟩))) T rfl rfl rfl rfl (rn_fieldAddr (off := 0) rfl (T.ev 3 rfl) (fun _ _ _ => by kernel_rfl)) ?_; clear T ac; intro ac T
    refine l_q (v := (.pointer (some ⟨g1, 0, none⟩))) T rfl rfl rfl rfl (rn_fieldAddr (off := 0) rfl (T.ev 0 rfl) (fun _ _ _ => by kernel_rfl)) ?_; clear T ac; intro ac T
    refine l_q T rfl rfl rfl rfl (rn_rowO (Mem.nth M 0 rfl) rfl (T.ev 0 rfl) rfl) ?_; clear T ac; intro ac T
    refine l_w rfl ?_; intro K hK
    refine ow_call (first := []) (cap := []) T rfl rfl rfl rfl evf (.cons (T.ev 3 rfl) (.cons (T.ev 0 rfl) .nil)) Try.func89 rfl rfl ?_
    refine Calls.mono (rpasses_any j _ _ j.p0 j.p1 _ (by assumption) (SJ.rd M (List.nil_sublist _)) (by omega) (by omega)) ?_
    clear T
    rintro e wc ⟨rfl, hb⟩
    intro ac T
    replace M := M.call hb; clear hb
    refine sh_out hK _ _ ?_; clear hK K
    refine l_q T rfl rfl rfl rfl (rn_assign rfl (T.ev 0 rfl)) ?_; clear T ac; intro ac T
    refine l_q T rfl rfl rfl rfl (rn_assign rfl evc) ?_; clear T ac; intro ac T
    refine wpList_nil ?_
    replace T := T.pick [0, 1] rfl
    replace M := M.mask [false] rfl
    refine nm_then ?_
    refine wp_ret ?_
    refine rt_2 T rfl (T.ev 1 rfl) (T.ev 0 rfl) ?_
    refine ⟨?_, M.below⟩
    unfold rpassT
    (repeat' split) <;> first | rfl | omega | contradiction | (simp_all; done) | (simp_all; omega)

set_option maxRecDepth 100000 in
set_option maxHeartbeats 1000000 in
theorem heard_any (p0 p1 r m : Int) (w : World) (h0 : -1000000 ≤ r ∧ r ≤ 1000000) (hm : -1000000 ≤ m ∧ m ≤ 1000000) :
    Calls Try.prog 91 #[.agg #[.int .i64 p0, .int .i64 p1], .int .i64 r, .int .i64 m] w fun e w' => e = .returned (.agg #[.int .i64 ((rheard p0 p1 r m).1), .int .i64 ((rheard p0 p1 r m).2)]) ∧ Below w.heap.size w w' := by
  refine px_enter noEx Try.func91 rfl 20 rfl [.agg #[.int .i64 p0, .int .i64 p1], .int .i64 r, .int .i64 m] rfl rfl (Mem.init w _) ?_
  intro ac wc T M
  refine wp_seq ?_
  refine wp_region_lit ?_
  refine l_w rfl ?_; intro K hK
  refine ow_bx M T rfl rfl rfl rfl (T.ev 0 rfl) rfl ?_; clear M T; intro g1 wc ac M T
  refine sh_out hK _ _ ?_; clear hK K
  refine l_w rfl ?_; intro K hK
  refine ow_al M T rfl rfl rfl rfl ?_; clear M T; intro g2 wc ac M T
  refine sh_out hK _ _ ?_; clear hK K
  refine wpList_nil ?_
  replace T := T.pick [0, 1, 3, 4] rfl
  refine nm_then ?_
  refine wp_seq ?_
  refine wp_region_lit ?_
  refine l_q (v := (.pointer (some ⟨g1, 0, none⟩))) T rfl rfl rfl rfl (rn_fieldAddr (off := 0) rfl (T.ev 1 rfl) (fun _ _ _ => by kernel_rfl)) ?_; clear T ac; intro ac T
  refine l_q T rfl rfl rfl rfl (rn_one (Mem.nth M 1 rfl) rfl (T.ev 0 rfl) rfl) ?_; clear T ac; intro ac T
  refine l_q T rfl rfl rfl rfl (rn_move rfl (T.ev 4 rfl)) ?_; clear T ac; intro ac T
  refine l_q T rfl rfl rfl rfl (rn_move rfl (T.ev 6 rfl)) ?_; clear T ac; intro ac T
  refine l_q T rfl rfl rfl rfl (rn_sub rfl (T.ev 1 rfl) (T.ev 0 rfl) (by omega)) ?_; clear T ac; intro ac T
  refine l_q T rfl rfl rfl rfl (rn_max2 rfl (T.ev 3 rfl) (T.ev 0 rfl)) ?_; clear T ac; intro ac T
  refine l_q (v := (.pointer (some ⟨g1, 1, none⟩))) T rfl rfl rfl rfl (rn_fieldAddr (off := 1) rfl (T.ev 7 rfl) (fun _ _ _ => by kernel_rfl)) ?_; clear T ac; intro ac T
  refine l_q T rfl rfl rfl rfl (rn_one (Mem.nth M 1 rfl) rfl (T.ev 0 rfl) rfl) ?_; clear T ac; intro ac T
  refine l_q T rfl rfl rfl rfl (rn_move rfl (T.ev 10 rfl)) ?_; clear T ac; intro ac T
  refine l_q T rfl rfl rfl rfl (rn_move rfl (T.ev 12 rfl)) ?_; clear T ac; intro ac T
  refine l_q T rfl rfl rfl rfl (rn_add rfl (T.ev 1 rfl) (T.ev 0 rfl) (by omega)) ?_; clear T ac; intro ac T
  refine l_q T rfl rfl rfl rfl (rn_min2 rfl (T.ev 3 rfl) (T.ev 0 rfl)) ?_; clear T ac; intro ac T
  refine l_q (v := (.agg #[.int .i64 (max p0 (r - m)), .int .i64 (min p1 (r + m))])) T rfl rfl rfl rfl (rn_build rfl (.cons (T.ev 6 rfl) (.cons (T.ev 0 rfl) .nil)) (fun _ => by kernel_rfl)) ?_; clear T ac; intro ac T
  refine l_w rfl ?_; intro K hK
  refine ow_stO M T rfl rfl (T.ev 13 rfl) (T.ev 0 rfl) rfl .head rfl (by simp) rfl (by kernel_rfl) ?_; clear M T; intro wc ac M T
  refine sh_out hK _ _ ?_; clear hK K
  refine wpList_nil ?_
  replace T := T.pick [13] rfl
  replace M := M.mask [true, false] rfl
  refine nm_then ?_
  refine wp_ret ?_
  refine rt_c M T rfl (T.ev 0 rfl) (nthE_mem (i := 0) rfl) rfl ?_
  exact ⟨rfl, M.below⟩

set_option maxRecDepth 100000 in
set_option maxHeartbeats 1000000 in
theorem rHear_any (j : Jb) (A : Option Addr) (c : Nat) (r : Int) (w : World) (hr : Rd w w.heap.size 2 A j.sh.length (rc j.sh)) (hn : j.sh.length ≤ 9223372036854775807) :
    Calls Try.prog 48 #[jobV j A c, .int .i64 r] w fun e w' => e = .returned (.tuple #[.agg #[.int .i64 ((rhearT j r).1.1), .int .i64 ((rhearT j r).1.2)], .int .i64 ((rhearT j r).2)]) ∧ Below w.heap.size w w' := by
  obtain ⟨bJ, oJ, SJ⟩ := Sp.old hr
  refine px_enter noEx Try.func48 rfl 38 rfl [.agg #[.int .i64 j.p0, .int .i64 j.p1, .int .i64 j.t0, .int .i64 j.t1, .int .i64 j.r0, .int .i64 j.r1, .int .i64 j.u0, .int .i64 j.u1, .int .i64 j.d0, .int .i64 j.d1, .int .i64 j.a0, .int .i64 j.a1, .int .i64 j.b0, .int .i64 j.b1, .int .i64 j.le, .slice A j.sh.length c, .int .i64 j.wi, .int .i64 j.me], .int .i64 r] rfl rfl (Mem.init w _) ?_
  intro ac wc T M
  refine wp_seq ?_
  refine wp_region_lit ?_
  refine l_w rfl ?_; intro K hK
  refine ow_bx M T rfl rfl rfl rfl (T.ev 0 rfl) rfl ?_; clear M T; intro g1 wc ac M T
  refine sh_out hK _ _ ?_; clear hK K
  refine l_w rfl ?_; intro K hK
  refine ow_al M T rfl rfl rfl rfl ?_; clear M T; intro g2 wc ac M T
  refine sh_out hK _ _ ?_; clear hK K
  refine l_q T rfl rfl rfl rfl (rn_assign rfl evc) ?_; clear T ac; intro ac T
  refine wpList_nil ?_
  replace T := T.pick [1, 2, 4] rfl
  refine nm_then ?_
  refine wp_seq ?_
  refine wp_seq ?_
  refine wp_region_lit ?_
  refine l_q T rfl rfl rfl rfl (rn_rowO (Mem.nth M 1 rfl) rfl (T.ev 1 rfl) rfl) ?_; clear T ac; intro ac T
  refine l_w rfl ?_; intro K hK
  refine ow_call (first := []) (cap := []) T rfl rfl rfl rfl evf (.cons (T.ev 0 rfl) .nil) Try.func50 rfl rfl ?_
  refine Calls.mono (rCheck_any j _ _ _ (SJ.rd M (List.nil_sublist _)) (by omega)) ?_
  clear T
  rintro e wc ⟨rfl, hb⟩
  intro ac T
  replace M := M.call hb; clear hb
  refine sh_out hK _ _ ?_; clear hK K
  refine l_q T rfl rfl rfl rfl (rn_assign rfl (T.ev 0 rfl)) ?_; clear T ac; intro ac T
  refine wpList_nil ?_
  replace T := T.pick [0, 3, 4, 5] rfl
  refine nm_then ?_
  refine wp_seq ?_
  refine wp_region_lit ?_
  refine l_q T rfl rfl rfl rfl (rn_move rfl (T.ev 0 rfl)) ?_; clear T ac; intro ac T
  refine l_q T rfl rfl rfl rfl (rn_neq rfl (T.ev 0 rfl) evc) ?_; clear T ac; intro ac T
  refine wpList_nil ?_
  replace T := T.pick [0, 2, 3, 4, 5] rfl
  refine nm_then ?_
  refine wp_ifn (T.ev 0 rfl) ?_ ?_
  · intro h1
    refine wp_seq ?_
    refine wp_region_lit ?_
    refine l_q (v := (.agg #[.int .i64 0, .int .i64 0])) T rfl rfl rfl rfl (rn_build rfl .nil (fun _ => by kernel_rfl)) ?_; clear T ac; intro ac T
    refine l_q T rfl rfl rfl rfl (rn_move rfl (T.ev 2 rfl)) ?_; clear T ac; intro ac T
    refine l_w rfl ?_; intro K hK
    refine ow_stO M T rfl rfl (T.ev 4 rfl) (T.ev 1 rfl) rfl .head rfl (by simp) rfl (by kernel_rfl) ?_; clear M T; intro wc ac M T
    refine sh_out hK _ _ ?_; clear hK K
    refine l_q T rfl rfl rfl rfl (rn_assign rfl (T.ev 0 rfl)) ?_; clear T ac; intro ac T
    refine wpList_nil ?_
    replace T := T.pick [0, 5] rfl
    replace M := M.mask [true, false] rfl
    refine nm_then ?_
    refine wp_ret ?_
    refine rt_then ?_
    refine rt_ct M T rfl (T.ev 1 rfl) (T.ev 0 rfl) (nthE_mem (i := 0) rfl) rfl ?_
    refine ⟨?_, M.below⟩
    unfold rhearT
    (repeat' split) <;> first | rfl | omega | contradiction | (simp_all; done) | (simp_all; omega)
  · intro h1
    have hj := good_of (show checkJ j = 0 by simpa using h1)
    have hp := hj.p
    have hme := hj.me
    refine wp_skip ?_
    refine nm_then ?_
    refine wp_seq ?_
    refine wp_seq ?_
    refine wp_region_lit ?_
    refine l_q T rfl rfl rfl rfl (rn_move rfl (T.ev 4 rfl)) ?_; clear T ac; intro ac T
    refine l_q (v := (.pointer (some ⟨g1, 0, none⟩))) T rfl rfl rfl rfl (rn_fieldAddr (off := 0) rfl (T.ev 4 rfl) (fun _ _ _ => by kernel_rfl)) ?_; clear T ac; intro ac T
    refine l_q (v := (.pointer (some ⟨g1, 0, none⟩))) T rfl rfl rfl rfl (rn_fieldAddr (off := 0) rfl (T.ev 0 rfl) (fun _ _ _ => by kernel_rfl)) ?_; clear T ac; intro ac T
    refine l_q (v := (.pointer (some ⟨g1, 0, none⟩))) T rfl rfl rfl rfl (rn_fieldAddr (off := 0) rfl (T.ev 0 rfl) (fun _ _ _ => by kernel_rfl)) ?_; clear T ac; intro ac T
    refine l_q T rfl rfl rfl rfl (rn_one (Mem.nth M 1 rfl) rfl (T.ev 0 rfl) rfl) ?_; clear T ac; intro ac T
    refine l_q (v := (.pointer (some ⟨g1, 17, none⟩))) T rfl rfl rfl rfl (rn_fieldAddr (off := 17) rfl (T.ev 8 rfl) (fun _ _ _ => by kernel_rfl)) ?_; clear T ac; intro ac T
    refine l_q T rfl rfl rfl rfl (rn_one (Mem.nth M 1 rfl) rfl (T.ev 0 rfl) rfl) ?_; clear T ac; intro ac T
    refine l_q T rfl rfl rfl rfl (rn_sub rfl (T.ev 2 rfl) (T.ev 0 rfl) (by omega)) ?_; clear T ac; intro ac T
    refine l_q (v := (.pointer (some ⟨g1, 0, none⟩))) T rfl rfl rfl rfl (rn_fieldAddr (off := 0) rfl (T.ev 11 rfl) (fun _ _ _ => by kernel_rfl)) ?_; clear T ac; intro ac T
    refine l_q (v := (.pointer (some ⟨g1, 0, none⟩))) T rfl rfl rfl rfl (rn_fieldAddr (off := 0) rfl (T.ev 0 rfl) (fun _ _ _ => by kernel_rfl)) ?_; clear T ac; intro ac T
    refine l_q (v := (.pointer (some ⟨g1, 1, none⟩))) T rfl rfl rfl rfl (rn_fieldAddr (off := 1) rfl (T.ev 0 rfl) (fun _ _ _ => by kernel_rfl)) ?_; clear T ac; intro ac T
    refine l_q T rfl rfl rfl rfl (rn_one (Mem.nth M 1 rfl) rfl (T.ev 0 rfl) rfl) ?_; clear T ac; intro ac T
    refine l_q (v := (.pointer (some ⟨g1, 17, none⟩))) T rfl rfl rfl rfl (rn_fieldAddr (off := 17) rfl (T.ev 15 rfl) (fun _ _ _ => by kernel_rfl)) ?_; clear T ac; intro ac T
    refine l_q T rfl rfl rfl rfl (rn_one (Mem.nth M 1 rfl) rfl (T.ev 0 rfl) rfl) ?_; clear T ac; intro ac T
    refine l_q T rfl rfl rfl rfl (rn_add rfl (T.ev 2 rfl) (T.ev 0 rfl) (by omega)) ?_; clear T ac; intro ac T
    refine l_w rfl ?_; intro K hK
    refine ow_call (first := []) (cap := []) T rfl rfl rfl rfl evf (.cons (T.ev 14 rfl) (.cons (T.ev 7 rfl) (.cons (T.ev 0 rfl) .nil))) Try.func90 rfl rfl ?_
    refine Calls.mono (among_any r (j.p0 - j.me) (j.p1 + j.me) _) ?_
    clear T
    rintro e wc ⟨rfl, hb⟩
    intro ac T
    replace M := M.call hb; clear hb
    refine sh_out hK _ _ ?_; clear hK K
    refine l_q T rfl rfl rfl rfl (rn_not rfl (T.ev 0 rfl)) ?_; clear T ac; intro ac T
    refine wpList_nil ?_
    replace T := T.pick [0, 19, 20, 21] rfl
    refine nm_then ?_
    refine wp_cond_split (T.ev 0 rfl) ?_ ?_
    · intro h2
      (try have h2' := h2; try simp only [Bool.and_eq_true, Bool.or_eq_true, Bool.not_eq_true', Bool.and_eq_false_imp, Bool.or_eq_false_iff, decide_eq_true_eq, decide_eq_false_iff_not] at h2')
      refine wp_seq ?_
      refine wp_region_lit ?_
      refine l_q (v := (.agg #[.int .i64 0, .int .i64 0])) T rfl rfl rfl rfl (rn_build rfl .nil (fun _ => by kernel_rfl)) ?_; clear T ac; intro ac T
      refine l_w rfl ?_; intro K hK
      refine ow_stO M T rfl rfl (T.ev 2 rfl) (T.ev 0 rfl) rfl .head rfl (by simp) rfl (by kernel_rfl) ?_; clear M T; intro wc ac M T
      refine sh_out hK _ _ ?_; clear hK K
      refine l_q T rfl rfl rfl rfl (rn_assign rfl evc) ?_; clear T ac; intro ac T
      refine wpList_nil ?_
      replace T := T.pick [0, 3] rfl
      replace M := M.mask [true, false] rfl
      refine nm_then ?_
      refine wp_ret ?_
      refine rt_then ?_
      refine rt_ct M T rfl (T.ev 1 rfl) (T.ev 0 rfl) (nthE_mem (i := 0) rfl) rfl ?_
      refine ⟨?_, M.below⟩
      unfold rhearT
      (repeat' split) <;> first | rfl | omega | contradiction | (simp_all; done) | (simp_all; omega)
    · intro h2
      (try have h2' := h2; try simp only [Bool.and_eq_true, Bool.or_eq_true, Bool.not_eq_true', Bool.and_eq_false_imp, Bool.or_eq_false_iff, decide_eq_true_eq, decide_eq_false_iff_not] at h2')
      have hw : j.p0 - j.me ≤ r ∧ r ≤ j.p1 + j.me := by simpa [withinB] using h2
      refine wp_skip ?_
      refine nm_then ?_
      refine wp_seq ?_
      refine wp_region_lit ?_
      refine l_q (v := (.pointer (some ⟨g1, 0, none⟩))) T rfl rfl rfl rfl (rn_fieldAddr (off := 0) rfl (T.ev 2 rfl) (fun _ _ _ => by kernel_rfl)) ?_; clear T ac; intro ac T
      refine l_q (v := (.pointer (some ⟨g1, 0, none⟩))) T rfl rfl rfl rfl (rn_fieldAddr (off := 0) rfl (T.ev 0 rfl) (fun _ _ _ => by kernel_rfl)) ?_; clear T ac; intro ac T
      refine l_q T rfl rfl rfl rfl (rn_rowO (Mem.nth M 1 rfl) rfl (T.ev 0 rfl) rfl) ?_; clear T ac; intro ac T
      refine l_q T rfl rfl rfl rfl (rn_move rfl (T.ev 6 rfl)) ?_; clear T ac; intro ac T
      refine l_q (v := (.pointer (some ⟨g1, 17, none⟩))) T rfl rfl rfl rfl (rn_fieldAddr (off := 17) rfl (T.ev 6 rfl) (fun _ _ _ => by kernel_rfl)) ?_; clear T ac; intro ac T
      refine l_q T rfl rfl rfl rfl (rn_one (Mem.nth M 1 rfl) rfl (T.ev 0 rfl) rfl) ?_; clear T ac; intro ac T
      refine l_w rfl ?_; intro K hK
      refine ow_call (first := []) (cap := []) T rfl rfl rfl rfl evf (.cons (T.ev 3 rfl) (.cons (T.ev 2 rfl) (.cons (T.ev 0 rfl) .nil))) Try.func91 rfl rfl ?_
      refine Calls.mono (heard_any j.p0 j.p1 r j.me _ (by first | omega | (simp [withinB] at *; omega)) (by omega)) ?_
      clear T
      rintro e wc ⟨rfl, hb⟩
      intro ac T
      replace M := M.call hb; clear hb
      refine sh_out hK _ _ ?_; clear hK K
      refine l_w rfl ?_; intro K hK
      refine ow_stO M T rfl rfl (T.ev 8 rfl) (T.ev 0 rfl) rfl .head rfl (by simp) rfl (by kernel_rfl) ?_; clear M T; intro wc ac M T
      refine sh_out hK _ _ ?_; clear hK K
      refine l_q T rfl rfl rfl rfl (rn_assign rfl evc) ?_; clear T ac; intro ac T
      refine wpList_nil ?_
      replace T := T.pick [0, 9] rfl
      replace M := M.mask [true, false] rfl
      refine nm_then ?_
      refine wp_ret ?_
      refine rt_ct M T rfl (T.ev 1 rfl) (T.ev 0 rfl) (nthE_mem (i := 0) rfl) rfl ?_
      refine ⟨?_, M.below⟩
      unfold rhearT
      (repeat' split) <;> first | rfl | omega | contradiction | (simp_all; done) | (simp_all; omega)

theorem filed_fields (s : St) (k : Int) : (s.filed k).u0 = s.u0 ∧ (s.filed k).u1 = s.u1 ∧ (s.filed k).d0 = s.d0 ∧ (s.filed k).d1 = s.d1 ∧ (s.filed k).a0 = s.a0 ∧ (s.filed k).a1 = s.a1 ∧ (s.filed k).b0 = s.b0 ∧ (s.filed k).b1 = s.b1 ∧ (s.filed k).le = s.le := by
  unfold St.filed
  split <;> exact ⟨rfl, rfl, rfl, rfl, rfl, rfl, rfl, rfl, rfl⟩


set_option maxRecDepth 100000 in
set_option maxHeartbeats 1000000 in
theorem stroke_any (s : St) (k : Int) (w : World) (hs : s.upTo 1000000) :
    Calls Try.prog 110 #[.agg #[.int .i64 s.u0, .int .i64 s.u1, .int .i64 s.d0, .int .i64 s.d1, .int .i64 s.a0, .int .i64 s.a1, .int .i64 s.b0, .int .i64 s.b1, .int .i64 s.le], .agg #[.int .i64 s.p0, .int .i64 s.p1, .int .i64 s.t0, .int .i64 s.t1, .int .i64 s.r0, .int .i64 s.r1], .int .i64 k] w fun e w' => e = .returned (.agg #[.int .i64 ((s.filed k).p0), .int .i64 ((s.filed k).p1), .int .i64 ((s.filed k).t0), .int .i64 ((s.filed k).t1), .int .i64 ((s.filed k).r0), .int .i64 ((s.filed k).r1)]) ∧ Below w.heap.size w w' := by
  obtain ⟨q1, q2, q3, q4, q5, q6, q7, q8, q9, q10, q11, q12, q13, q14⟩ := hs
  refine px_enter noEx Try.func110 rfl 74 rfl [.agg #[.int .i64 s.u0, .int .i64 s.u1, .int .i64 s.d0, .int .i64 s.d1, .int .i64 s.a0, .int .i64 s.a1, .int .i64 s.b0, .int .i64 s.b1, .int .i64 s.le], .agg #[.int .i64 s.p0, .int .i64 s.p1, .int .i64 s.t0, .int .i64 s.t1, .int .i64 s.r0, .int .i64 s.r1], .int .i64 k] rfl rfl (Mem.init w _) ?_
  intro ac wc T M
  refine wp_seq ?_
  refine wp_region_lit ?_
  refine l_w rfl ?_; intro K hK
  refine ow_bx M T rfl rfl rfl rfl (T.ev 0 rfl) rfl ?_; clear M T; intro g1 wc ac M T
  refine sh_out hK _ _ ?_; clear hK K
  refine l_w rfl ?_; intro K hK
  refine ow_bx M T rfl rfl rfl rfl (T.ev 2 rfl) rfl ?_; clear M T; intro g2 wc ac M T
  refine sh_out hK _ _ ?_; clear hK K
  refine l_w rfl ?_; intro K hK
  refine ow_al M T rfl rfl rfl rfl ?_; clear M T; intro g3 wc ac M T
  refine sh_out hK _ _ ?_; clear hK K
  refine wpList_nil ?_
  replace T := T.pick [0, 1, 2, 5] rfl
  refine nm_then ?_
  refine wp_seq ?_
  refine wp_seq ?_
  refine wp_region_lit ?_
  refine l_q T rfl rfl rfl rfl (rn_move rfl (T.ev 3 rfl)) ?_; clear T ac; intro ac T
  refine l_q T rfl rfl rfl rfl (rn_eql rfl (T.ev 0 rfl) evc) ?_; clear T ac; intro ac T
  refine wpList_nil ?_
  replace T := T.pick [0, 2, 3, 4] rfl
  refine nm_then ?_
  refine wp_if (T.ev 0 rfl) ?_ ?_
  · intro h1
    refine wp_seq ?_
    refine wp_region_lit ?_
    refine l_q (v := (.pointer (some ⟨g2, 0, none⟩))) T rfl rfl rfl rfl (rn_fieldAddr (off := 0) rfl (T.ev 2 rfl) (fun _ _ _ => by kernel_rfl)) ?_; clear T ac; intro ac T
    refine l_q (v := (.pointer (some ⟨g2, 0, none⟩))) T rfl rfl rfl rfl (rn_fieldAddr (off := 0) rfl (T.ev 0 rfl) (fun _ _ _ => by kernel_rfl)) ?_; clear T ac; intro ac T
    refine l_q T rfl rfl rfl rfl (rn_one (Mem.nth M 1 rfl) rfl (T.ev 0 rfl) rfl) ?_; clear T ac; intro ac T
    refine l_q (v := (.pointer (some ⟨g1, 0, none⟩))) T rfl rfl rfl rfl (rn_fieldAddr (off := 0) rfl (T.ev 6 rfl) (fun _ _ _ => by kernel_rfl)) ?_; clear T ac; intro ac T
    refine l_q (v := (.pointer (some ⟨g1, 0, none⟩))) T rfl rfl rfl rfl (rn_fieldAddr (off := 0) rfl (T.ev 0 rfl) (fun _ _ _ => by kernel_rfl)) ?_; clear T ac; intro ac T
    refine l_q T rfl rfl rfl rfl (rn_one (Mem.nth M 2 rfl) rfl (T.ev 0 rfl) rfl) ?_; clear T ac; intro ac T
    refine l_q T rfl rfl rfl rfl (rn_add rfl (T.ev 3 rfl) (T.ev 0 rfl) (by omega)) ?_; clear T ac; intro ac T
    refine l_q (v := (.pointer (some ⟨g2, 0, none⟩))) T rfl rfl rfl rfl (rn_fieldAddr (off := 0) rfl (T.ev 9 rfl) (fun _ _ _ => by kernel_rfl)) ?_; clear T ac; intro ac T
    refine l_q (v := (.pointer (some ⟨g2, 1, none⟩))) T rfl rfl rfl rfl (rn_fieldAddr (off := 1) rfl (T.ev 0 rfl) (fun _ _ _ => by kernel_rfl)) ?_; clear T ac; intro ac T
    refine l_q T rfl rfl rfl rfl (rn_one (Mem.nth M 1 rfl) rfl (T.ev 0 rfl) rfl) ?_; clear T ac; intro ac T
    refine l_q (v := (.pointer (some ⟨g1, 0, none⟩))) T rfl rfl rfl rfl (rn_fieldAddr (off := 0) rfl (T.ev 13 rfl) (fun _ _ _ => by kernel_rfl)) ?_; clear T ac; intro ac T
    refine l_q (v := (.pointer (some ⟨g1, 1, none⟩))) T rfl rfl rfl rfl (rn_fieldAddr (off := 1) rfl (T.ev 0 rfl) (fun _ _ _ => by kernel_rfl)) ?_; clear T ac; intro ac T
    refine l_q T rfl rfl rfl rfl (rn_one (Mem.nth M 2 rfl) rfl (T.ev 0 rfl) rfl) ?_; clear T ac; intro ac T
    refine l_q T rfl rfl rfl rfl (rn_add rfl (T.ev 3 rfl) (T.ev 0 rfl) (by omega)) ?_; clear T ac; intro ac T
    refine l_q (v := (.agg #[.int .i64 (s.p0 + s.u0), .int .i64 (s.p1 + s.u1)])) T rfl rfl rfl rfl (rn_build rfl (.cons (T.ev 7 rfl) (.cons (T.ev 0 rfl) .nil)) (fun _ => by kernel_rfl)) ?_; clear T ac; intro ac T
    refine l_q (v := (.pointer (some ⟨g2, 0, none⟩))) T rfl rfl rfl rfl (rn_fieldAddr (off := 0) rfl (T.ev 17 rfl) (fun _ _ _ => by kernel_rfl)) ?_; clear T ac; intro ac T
    refine l_w rfl ?_; intro K hK
    refine ow_stO M T rfl rfl (T.ev 0 rfl) (T.ev 1 rfl) rfl (.tail .head) rfl (by simp) rfl (by kernel_rfl) ?_; clear M T; intro wc ac M T
    refine sh_out hK _ _ ?_; clear hK K
    refine wpList_nil ?_
    replace T := T.pick [17, 18, 19] rfl
    refine nm_then ?_
    refine wp_region_lit ?_
    refine l_q (v := (.pointer (some ⟨g2, 2, none⟩))) T rfl rfl rfl rfl (rn_fieldAddr (off := 2) rfl (T.ev 1 rfl) (fun _ _ _ => by kernel_rfl)) ?_; clear T ac; intro ac T
    refine l_q (v := (.pointer (some ⟨g2, 2, none⟩))) T rfl rfl rfl rfl (rn_fieldAddr (off := 0) rfl (T.ev 0 rfl) (fun _ _ _ => by kernel_rfl)) ?_; clear T ac; intro ac T
    refine l_q T rfl rfl rfl rfl (rn_one (Mem.nth M 1 rfl) rfl (T.ev 0 rfl) rfl) ?_; clear T ac; intro ac T
    refine l_q (v := (.pointer (some ⟨g1, 4, none⟩))) T rfl rfl rfl rfl (rn_fieldAddr (off := 4) rfl (T.ev 5 rfl) (fun _ _ _ => by kernel_rfl)) ?_; clear T ac; intro ac T
    refine l_q (v := (.pointer (some ⟨g1, 5, none⟩))) T rfl rfl rfl rfl (rn_fieldAddr (off := 1) rfl (T.ev 0 rfl) (fun _ _ _ => by kernel_rfl)) ?_; clear T ac; intro ac T
    refine l_q T rfl rfl rfl rfl (rn_one (Mem.nth M 2 rfl) rfl (T.ev 0 rfl) rfl) ?_; clear T ac; intro ac T
    refine l_q T rfl rfl rfl rfl (rn_sub rfl (T.ev 3 rfl) (T.ev 0 rfl) (by omega)) ?_; clear T ac; intro ac T
    refine l_q (v := (.pointer (some ⟨g2, 2, none⟩))) T rfl rfl rfl rfl (rn_fieldAddr (off := 2) rfl (T.ev 8 rfl) (fun _ _ _ => by kernel_rfl)) ?_; clear T ac; intro ac T
    refine l_q (v := (.pointer (some ⟨g2, 3, none⟩))) T rfl rfl rfl rfl (rn_fieldAddr (off := 1) rfl (T.ev 0 rfl) (fun _ _ _ => by kernel_rfl)) ?_; clear T ac; intro ac T
    refine l_q T rfl rfl rfl rfl (rn_one (Mem.nth M 1 rfl) rfl (T.ev 0 rfl) rfl) ?_; clear T ac; intro ac T
    refine l_q (v := (.pointer (some ⟨g1, 4, none⟩))) T rfl rfl rfl rfl (rn_fieldAddr (off := 4) rfl (T.ev 12 rfl) (fun _ _ _ => by kernel_rfl)) ?_; clear T ac; intro ac T
    refine l_q (v := (.pointer (some ⟨g1, 4, none⟩))) T rfl rfl rfl rfl (rn_fieldAddr (off := 0) rfl (T.ev 0 rfl) (fun _ _ _ => by kernel_rfl)) ?_; clear T ac; intro ac T
    refine l_q T rfl rfl rfl rfl (rn_one (Mem.nth M 2 rfl) rfl (T.ev 0 rfl) rfl) ?_; clear T ac; intro ac T
    refine l_q T rfl rfl rfl rfl (rn_sub rfl (T.ev 3 rfl) (T.ev 0 rfl) (by omega)) ?_; clear T ac; intro ac T
    refine l_q (v := (.agg #[.int .i64 (s.t0 - s.a1), .int .i64 (s.t1 - s.a0)])) T rfl rfl rfl rfl (rn_build rfl (.cons (T.ev 7 rfl) (.cons (T.ev 0 rfl) .nil)) (fun _ => by kernel_rfl)) ?_; clear T ac; intro ac T
    refine l_q (v := (.pointer (some ⟨g2, 2, none⟩))) T rfl rfl rfl rfl (rn_fieldAddr (off := 2) rfl (T.ev 16 rfl) (fun _ _ _ => by kernel_rfl)) ?_; clear T ac; intro ac T
    refine l_w rfl ?_; intro K hK
    refine ow_stO M T rfl rfl (T.ev 0 rfl) (T.ev 1 rfl) rfl (.tail .head) rfl (by simp) rfl (by kernel_rfl) ?_; clear M T; intro wc ac M T
    refine sh_out hK _ _ ?_; clear hK K
    refine wpList_nil ?_
    replace T := T.pick [16, 17] rfl
    replace M := M.mask [true, true, false] rfl
    refine nm_then ?_
    refine wp_seq ?_
    refine wp_region_lit ?_
    refine l_q T rfl rfl rfl rfl (rn_rowO (Mem.nth M 1 rfl) rfl (T.ev 1 rfl) rfl) ?_; clear T ac; intro ac T
    refine l_w rfl ?_; intro K hK
    refine ow_stO M T rfl rfl (T.ev 1 rfl) (T.ev 0 rfl) rfl .head rfl (by simp) rfl (by kernel_rfl) ?_; clear M T; intro wc ac M T
    refine sh_out hK _ _ ?_; clear hK K
    refine wpList_nil ?_
    replace T := T.pick [1] rfl
    replace M := M.mask [true, false] rfl
    refine nm_then ?_
    refine wp_ret ?_
    refine rt_c M T rfl (T.ev 0 rfl) (nthE_mem (i := 0) rfl) rfl ?_
    unfold St.filed
    first | rw [if_pos h1] | rw [if_neg h1]
    exact ⟨rfl, M.below⟩
  · intro h1
    refine wp_seq ?_
    refine wp_region_lit ?_
    refine l_q (v := (.pointer (some ⟨g2, 0, none⟩))) T rfl rfl rfl rfl (rn_fieldAddr (off := 0) rfl (T.ev 2 rfl) (fun _ _ _ => by kernel_rfl)) ?_; clear T ac; intro ac T
    refine l_q (v := (.pointer (some ⟨g2, 0, none⟩))) T rfl rfl rfl rfl (rn_fieldAddr (off := 0) rfl (T.ev 0 rfl) (fun _ _ _ => by kernel_rfl)) ?_; clear T ac; intro ac T
    refine l_q T rfl rfl rfl rfl (rn_one (Mem.nth M 1 rfl) rfl (T.ev 0 rfl) rfl) ?_; clear T ac; intro ac T
    refine l_q (v := (.pointer (some ⟨g1, 2, none⟩))) T rfl rfl rfl rfl (rn_fieldAddr (off := 2) rfl (T.ev 6 rfl) (fun _ _ _ => by kernel_rfl)) ?_; clear T ac; intro ac T
    refine l_q (v := (.pointer (some ⟨g1, 3, none⟩))) T rfl rfl rfl rfl (rn_fieldAddr (off := 1) rfl (T.ev 0 rfl) (fun _ _ _ => by kernel_rfl)) ?_; clear T ac; intro ac T
    refine l_q T rfl rfl rfl rfl (rn_one (Mem.nth M 2 rfl) rfl (T.ev 0 rfl) rfl) ?_; clear T ac; intro ac T
    refine l_q T rfl rfl rfl rfl (rn_sub rfl (T.ev 3 rfl) (T.ev 0 rfl) (by omega)) ?_; clear T ac; intro ac T
    refine l_q (v := (.pointer (some ⟨g2, 0, none⟩))) T rfl rfl rfl rfl (rn_fieldAddr (off := 0) rfl (T.ev 9 rfl) (fun _ _ _ => by kernel_rfl)) ?_; clear T ac; intro ac T
    refine l_q (v := (.pointer (some ⟨g2, 1, none⟩))) T rfl rfl rfl rfl (rn_fieldAddr (off := 1) rfl (T.ev 0 rfl) (fun _ _ _ => by kernel_rfl)) ?_; clear T ac; intro ac T
    refine l_q T rfl rfl rfl rfl (rn_one (Mem.nth M 1 rfl) rfl (T.ev 0 rfl) rfl) ?_; clear T ac; intro ac T
    refine l_q (v := (.pointer (some ⟨g1, 2, none⟩))) T rfl rfl rfl rfl (rn_fieldAddr (off := 2) rfl (T.ev 13 rfl) (fun _ _ _ => by kernel_rfl)) ?_; clear T ac; intro ac T
    refine l_q (v := (.pointer (some ⟨g1, 2, none⟩))) T rfl rfl rfl rfl (rn_fieldAddr (off := 0) rfl (T.ev 0 rfl) (fun _ _ _ => by kernel_rfl)) ?_; clear T ac; intro ac T
    refine l_q T rfl rfl rfl rfl (rn_one (Mem.nth M 2 rfl) rfl (T.ev 0 rfl) rfl) ?_; clear T ac; intro ac T
    refine l_q T rfl rfl rfl rfl (rn_sub rfl (T.ev 3 rfl) (T.ev 0 rfl) (by omega)) ?_; clear T ac; intro ac T
    refine l_q (v := (.agg #[.int .i64 (s.p0 - s.d1), .int .i64 (s.p1 - s.d0)])) T rfl rfl rfl rfl (rn_build rfl (.cons (T.ev 7 rfl) (.cons (T.ev 0 rfl) .nil)) (fun _ => by kernel_rfl)) ?_; clear T ac; intro ac T
    refine l_q (v := (.pointer (some ⟨g2, 0, none⟩))) T rfl rfl rfl rfl (rn_fieldAddr (off := 0) rfl (T.ev 17 rfl) (fun _ _ _ => by kernel_rfl)) ?_; clear T ac; intro ac T
    refine l_w rfl ?_; intro K hK
    refine ow_stO M T rfl rfl (T.ev 0 rfl) (T.ev 1 rfl) rfl (.tail .head) rfl (by simp) rfl (by kernel_rfl) ?_; clear M T; intro wc ac M T
    refine sh_out hK _ _ ?_; clear hK K
    refine wpList_nil ?_
    replace T := T.pick [17, 18, 19] rfl
    refine nm_then ?_
    refine wp_region_lit ?_
    refine l_q (v := (.pointer (some ⟨g2, 4, none⟩))) T rfl rfl rfl rfl (rn_fieldAddr (off := 4) rfl (T.ev 1 rfl) (fun _ _ _ => by kernel_rfl)) ?_; clear T ac; intro ac T
    refine l_q (v := (.pointer (some ⟨g2, 4, none⟩))) T rfl rfl rfl rfl (rn_fieldAddr (off := 0) rfl (T.ev 0 rfl) (fun _ _ _ => by kernel_rfl)) ?_; clear T ac; intro ac T
    refine l_q T rfl rfl rfl rfl (rn_one (Mem.nth M 1 rfl) rfl (T.ev 0 rfl) rfl) ?_; clear T ac; intro ac T
    refine l_q (v := (.pointer (some ⟨g1, 6, none⟩))) T rfl rfl rfl rfl (rn_fieldAddr (off := 6) rfl (T.ev 5 rfl) (fun _ _ _ => by kernel_rfl)) ?_; clear T ac; intro ac T
    refine l_q (v := (.pointer (some ⟨g1, 7, none⟩))) T rfl rfl rfl rfl (rn_fieldAddr (off := 1) rfl (T.ev 0 rfl) (fun _ _ _ => by kernel_rfl)) ?_; clear T ac; intro ac T
    refine l_q T rfl rfl rfl rfl (rn_one (Mem.nth M 2 rfl) rfl (T.ev 0 rfl) rfl) ?_; clear T ac; intro ac T
    refine l_q T rfl rfl rfl rfl (rn_sub rfl (T.ev 3 rfl) (T.ev 0 rfl) (by omega)) ?_; clear T ac; intro ac T
    refine l_q (v := (.pointer (some ⟨g2, 4, none⟩))) T rfl rfl rfl rfl (rn_fieldAddr (off := 4) rfl (T.ev 8 rfl) (fun _ _ _ => by kernel_rfl)) ?_; clear T ac; intro ac T
    refine l_q (v := (.pointer (some ⟨g2, 5, none⟩))) T rfl rfl rfl rfl (rn_fieldAddr (off := 1) rfl (T.ev 0 rfl) (fun _ _ _ => by kernel_rfl)) ?_; clear T ac; intro ac T
    refine l_q T rfl rfl rfl rfl (rn_one (Mem.nth M 1 rfl) rfl (T.ev 0 rfl) rfl) ?_; clear T ac; intro ac T
    refine l_q (v := (.pointer (some ⟨g1, 6, none⟩))) T rfl rfl rfl rfl (rn_fieldAddr (off := 6) rfl (T.ev 12 rfl) (fun _ _ _ => by kernel_rfl)) ?_; clear T ac; intro ac T
    refine l_q (v := (.pointer (some ⟨g1, 6, none⟩))) T rfl rfl rfl rfl (rn_fieldAddr (off := 0) rfl (T.ev 0 rfl) (fun _ _ _ => by kernel_rfl)) ?_; clear T ac; intro ac T
    refine l_q T rfl rfl rfl rfl (rn_one (Mem.nth M 2 rfl) rfl (T.ev 0 rfl) rfl) ?_; clear T ac; intro ac T
    refine l_q T rfl rfl rfl rfl (rn_sub rfl (T.ev 3 rfl) (T.ev 0 rfl) (by omega)) ?_; clear T ac; intro ac T
    refine l_q (v := (.agg #[.int .i64 (s.r0 - s.b1), .int .i64 (s.r1 - s.b0)])) T rfl rfl rfl rfl (rn_build rfl (.cons (T.ev 7 rfl) (.cons (T.ev 0 rfl) .nil)) (fun _ => by kernel_rfl)) ?_; clear T ac; intro ac T
    refine l_q (v := (.pointer (some ⟨g2, 4, none⟩))) T rfl rfl rfl rfl (rn_fieldAddr (off := 4) rfl (T.ev 16 rfl) (fun _ _ _ => by kernel_rfl)) ?_; clear T ac; intro ac T
    refine l_w rfl ?_; intro K hK
    refine ow_stO M T rfl rfl (T.ev 0 rfl) (T.ev 1 rfl) rfl (.tail .head) rfl (by simp) rfl (by kernel_rfl) ?_; clear M T; intro wc ac M T
    refine sh_out hK _ _ ?_; clear hK K
    refine wpList_nil ?_
    replace T := T.pick [16, 17] rfl
    replace M := M.mask [true, true, false] rfl
    refine nm_then ?_
    refine wp_seq ?_
    refine wp_region_lit ?_
    refine l_q T rfl rfl rfl rfl (rn_rowO (Mem.nth M 1 rfl) rfl (T.ev 1 rfl) rfl) ?_; clear T ac; intro ac T
    refine l_w rfl ?_; intro K hK
    refine ow_stO M T rfl rfl (T.ev 1 rfl) (T.ev 0 rfl) rfl .head rfl (by simp) rfl (by kernel_rfl) ?_; clear M T; intro wc ac M T
    refine sh_out hK _ _ ?_; clear hK K
    refine wpList_nil ?_
    replace T := T.pick [1] rfl
    replace M := M.mask [true, false] rfl
    refine nm_then ?_
    refine wp_ret ?_
    refine rt_c M T rfl (T.ev 0 rfl) (nthE_mem (i := 0) rfl) rfl ?_
    unfold St.filed
    first | rw [if_pos h1] | rw [if_neg h1]
    exact ⟨rfl, M.below⟩

structure FileOf (s : St) (j : Jb) : Prop where
  u0 : s.u0 = j.u0
  u1 : s.u1 = j.u1
  d0 : s.d0 = j.d0
  d1 : s.d1 = j.d1
  a0 : s.a0 = j.a0
  a1 : s.a1 = j.a1
  b0 : s.b0 = j.b0
  b1 : s.b1 = j.b1
  le : s.le = j.le
theorem FileOf.of (j : Jb) : FileOf j.st j := ⟨rfl, rfl, rfl, rfl, rfl, rfl, rfl, rfl, rfl⟩
theorem FileOf.filed {s : St} {j : Jb} (h : FileOf s j) (k : Int) : FileOf (s.filed k) j := by
  obtain ⟨h1, h2, h3, h4, h5, h6, h7, h8, h9⟩ := h
  unfold St.filed
  split <;> exact ⟨h1, h2, h3, h4, h5, h6, h7, h8, h9⟩
theorem FileOf.after {j : Jb} : ∀ (l : List Int) {s : St}, FileOf s j → FileOf (s.after l) j
  | [], _, h => h
  | k :: l, _, h => FileOf.after l (h.filed k)
theorem file_eq {s : St} {j : Jb} (h : FileOf s j) : (.agg #[.int .i64 j.u0, .int .i64 j.u1, .int .i64 j.d0, .int .i64 j.d1, .int .i64 j.a0, .int .i64 j.a1, .int .i64 j.b0, .int .i64 j.b1, .int .i64 j.le] : Value) = .agg #[.int .i64 s.u0, .int .i64 s.u1, .int .i64 s.d0, .int .i64 s.d1, .int .i64 s.a0, .int .i64 s.a1, .int .i64 s.b0, .int .i64 s.b1, .int .i64 s.le] := by
  rw [h.u0, h.u1, h.d0, h.d1, h.a0, h.a1, h.b0, h.b1, h.le]


theorem stroke_of {s : St} {j : Jb} (h : FileOf s j) (k : Int) (w : World) (hs : s.upTo 1000000) :
    Calls Try.prog 110 #[.agg #[.int .i64 j.u0, .int .i64 j.u1, .int .i64 j.d0, .int .i64 j.d1, .int .i64 j.a0, .int .i64 j.a1, .int .i64 j.b0, .int .i64 j.b1, .int .i64 j.le], .agg #[.int .i64 s.p0, .int .i64 s.p1, .int .i64 s.t0, .int .i64 s.t1, .int .i64 s.r0, .int .i64 s.r1], .int .i64 k] w fun e w' => e = .returned (.agg #[.int .i64 ((s.filed k).p0), .int .i64 ((s.filed k).p1), .int .i64 ((s.filed k).t0), .int .i64 ((s.filed k).t1), .int .i64 ((s.filed k).r0), .int .i64 ((s.filed k).r1)]) ∧ Below w.heap.size w w' := by
  have := stroke_any s k w hs
  rw [← file_eq h] at this
  exact this

set_option maxRecDepth 100000 in
set_option maxHeartbeats 1000000 in
theorem rafter_any (j : Jb) (A : Option Addr) (c : Nat) (D : Option Addr) (d n : Nat) (l : List Int) (w : World) (hl : Rd w w.heap.size 1 D n (ic l)) (hn : n ≤ 20) (hs : j.st.upTo 1000) :
    Calls Try.prog 98 #[jobV j A c, .slice D n d] w fun e w' => e = .returned (.agg #[.int .i64 ((j.st.after l).p0), .int .i64 ((j.st.after l).p1), .int .i64 ((j.st.after l).t0), .int .i64 ((j.st.after l).t1), .int .i64 ((j.st.after l).r0), .int .i64 ((j.st.after l).r1)]) ∧ Below w.heap.size w w' := by
  have hll := hl.len1
  obtain ⟨bI, oI, SI⟩ := Sp.old hl
  refine px_enter noEx Try.func98 rfl 24 rfl [.agg #[.int .i64 j.p0, .int .i64 j.p1, .int .i64 j.t0, .int .i64 j.t1, .int .i64 j.r0, .int .i64 j.r1, .int .i64 j.u0, .int .i64 j.u1, .int .i64 j.d0, .int .i64 j.d1, .int .i64 j.a0, .int .i64 j.a1, .int .i64 j.b0, .int .i64 j.b1, .int .i64 j.le, .slice A j.sh.length c, .int .i64 j.wi, .int .i64 j.me], .slice D n d] rfl rfl (Mem.init w _) ?_
  intro ac wc T M
  refine wp_seq ?_
  refine wp_region_lit ?_
  refine l_w rfl ?_; intro K hK
  refine ow_bx M T rfl rfl rfl rfl (T.ev 0 rfl) rfl ?_; clear M T; intro g1 wc ac M T
  refine sh_out hK _ _ ?_; clear hK K
  refine l_w rfl ?_; intro K hK
  refine ow_al M T rfl rfl rfl rfl ?_; clear M T; intro g2 wc ac M T
  refine sh_out hK _ _ ?_; clear hK K
  refine wpList_nil ?_
  replace T := T.pick [0, 1, 3] rfl
  refine nm_then ?_
  refine wp_seq ?_
  refine wp_region_lit ?_
  refine l_q (v := (.pointer (some ⟨g1, 0, none⟩))) T rfl rfl rfl rfl (rn_fieldAddr (off := 0) rfl (T.ev 1 rfl) (fun _ _ _ => by kernel_rfl)) ?_; clear T ac; intro ac T
  refine l_q T rfl rfl rfl rfl (rn_rowO (Mem.nth M 1 rfl) rfl (T.ev 0 rfl) rfl) ?_; clear T ac; intro ac T
  refine l_w rfl ?_; intro K hK
  refine ow_al M T rfl rfl rfl rfl ?_; clear M T; intro g3 wc ac M T
  refine sh_out hK _ _ ?_; clear hK K
  refine l_w rfl ?_; intro K hK
  refine ow_stO M T rfl rfl (T.ev 0 rfl) (T.ev 1 rfl) rfl .head rfl (by simp) rfl (by kernel_rfl) ?_; clear M T; intro wc ac M T
  refine sh_out hK _ _ ?_; clear hK K
  refine wpList_nil ?_
  replace T := T.pick [0, 3, 4, 5] rfl
  refine nm_then ?_
  refine wp_seq ?_
  refine wp_seq ?_
  refine wp_region_lit ?_
  refine l_q T rfl rfl rfl rfl (rn_assign rfl evc) ?_; clear T ac; intro ac T
  refine wpList_nil ?_
  refine nm_then ?_
  refine wp_block ?_
  refine wp_loop_n (fun mz ac wc => ∃ (k : Nat) (s : St), mz = n - k ∧ (k ≤ n) ∧ (FileOf s j) ∧ (s.upTo (1000 + 100 * (k : Int))) ∧ (j.st.after l = s.after (l.drop k)) ∧ Tm ac 24 [(1, .slice D n d), (2, .pointer (some ⟨g1, 0, none⟩)), (4, .pointer (some ⟨g2, 0, none⟩)), (5, .pointer (some ⟨g3, 0, none⟩)), (6, .int .i64 (k : Int))] ∧ Mem w noEx wc [(g3, .cells [.int .i64 s.p0, .int .i64 s.p1, .int .i64 s.t0, .int .i64 s.t1, .int .i64 s.r0, .int .i64 s.r1]), (g2, .cells [.int .i64 0, .int .i64 0, .int .i64 0, .int .i64 0, .int .i64 0, .int .i64 0]), (g1, .cells (jobL j A c))]) ?_ ?_
  · exact ⟨_, 0, j.st, rfl, (by omega), FileOf.of j, (by simpa using hs), rfl, T.pick [4, 3, 2, 1, 0] rfl, M.mask [true, true, true] rfl⟩
  · clear T M
    rintro mz ac wc ⟨k, s, hmm1, hk, hf, hu, H, T, M⟩
    refine wp_seq ?_
    refine wp_seq ?_
    refine wp_region_lit ?_
    refine l_q T rfl rfl rfl rfl (rn_move rfl (T.ev 4 rfl)) ?_; clear T ac; intro ac T
    refine l_q T rfl rfl rfl rfl (rn_move rfl (T.ev 1 rfl)) ?_; clear T ac; intro ac T
    refine l_q T rfl rfl rfl rfl (rn_lenS rfl Try.underlying31 (T.ev 0 rfl)) ?_; clear T ac; intro ac T
    refine l_q T rfl rfl rfl rfl (rn_lss rfl (T.ev 2 rfl) (T.ev 0 rfl)) ?_; clear T ac; intro ac T
    refine wpList_nil ?_
    replace T := T.pick [0, 4, 5, 6, 7, 8] rfl
    refine nm_then ?_
    refine wp_if (T.ev 0 rfl) ?_ ?_
    · intro h1
      obtain ⟨x0, hk1, hd⟩ := ic_next (l := l) (k := k) (by omega)
      rw [hd] at H
      refine wp_skip ?_
      refine nm_then ?_
      refine wp_seq ?_
      refine wp_block ?_
      refine g_start2 M (M.perm [1, 2] rfl rfl) 9 (by kernel_rfl) rfl (by kernel_rfl) ?_
      clear M; intro wc M
      refine g_addG 8 M ?_
      refine g_q (v := (.pointer (some ⟨g1, 6, none⟩))) (T := T) (i := 0) rfl (by kernel_rfl) (by kernel_rfl : (pbits 9 0).setIfInBounds 0 true = pbits 9 1) (si_and (si_G rfl) si_U) (fun _ _ _ h => h) rfl rfl rfl rfl (fun _ _ _ _ _ => (rn_fieldAddr (off := 6) rfl (T.ev 2 rfl) (fun _ _ _ => by kernel_rfl))) ?_; clear T ac; intro ac T
      refine g_q (T := T) (i := 1) rfl (by kernel_rfl) (by kernel_rfl : (pbits 9 1).setIfInBounds 1 true = pbits 9 3) (si_and (si_G rfl) si_U) (fun _ _ _ h => h) rfl rfl rfl rfl (fun B w' hD hl hS => (rn_rowO (Mem.nth (show Mem w noEx w' _ from ((MA.lft hS) (hD.wait (i := 1) (m := 8) (by kernel_rfl) hl))) 2 rfl) rfl (T.ev 0 rfl) rfl)) ?_; clear T ac; intro ac T
      refine g_q (T := T) (i := 2) rfl (by kernel_rfl) (by kernel_rfl : (pbits 9 3).setIfInBounds 2 true = pbits 9 7) (si_and (si_G rfl) si_U) (fun _ _ _ h => h) rfl rfl rfl rfl (fun B w' hD hl hS => (rn_rowO (Mem.nth (show Mem w noEx w' _ from ((MA.lft hS) (hD.wait (i := 2) (m := 8) (by kernel_rfl) hl))) 0 rfl) rfl (T.ev 6 rfl) rfl)) ?_; clear T ac; intro ac T
      refine g_q (T := T) (i := 3) rfl (by kernel_rfl) (by kernel_rfl : (pbits 9 7).setIfInBounds 3 true = pbits 9 15) (si_and (si_G rfl) si_U) (fun _ _ _ h => h) rfl rfl rfl rfl (fun _ _ _ _ _ => (rn_move rfl (T.ev 4 rfl))) ?_; clear T ac; intro ac T
      refine g_q (T := T) (i := 4) rfl (by kernel_rfl) (by kernel_rfl : (pbits 9 15).setIfInBounds 4 true = pbits 9 31) (si_and (si_G rfl) si_U) (fun _ _ _ h => h) rfl rfl rfl rfl (fun _ _ _ _ _ => (rn_move rfl (T.ev 9 rfl))) ?_; clear T ac; intro ac T
      refine g_q (T := T) (i := 5) rfl (by kernel_rfl) (by kernel_rfl : (pbits 9 31).setIfInBounds 5 true = pbits 9 63) (si_and (si_G rfl) si_U) (fun _ _ _ h => h) rfl rfl rfl rfl (fun _ _ _ _ _ => (rn_indexAddr (size := 1) k rfl (T.ev 1 rfl) (T.ev 0 rfl) ⟨_, Try.underlying31, by kernel_rfl⟩ rfl (by omega) (SI.at0 (by omega)))) ?_; clear T ac; intro ac T
      refine g_q (T := T) (i := 6) rfl (by kernel_rfl) (by kernel_rfl : (pbits 9 63).setIfInBounds 6 true = pbits 9 127) (si_and (si_G rfl) si_U) (fun _ _ _ h => h) rfl rfl rfl rfl (fun B w' hD hl hS => (rn_cell (Sp.ic0 SI (show Mem w noEx w' _ from ((MA.lft hS) (hD.wait (i := 6) (m := 8) (by kernel_rfl) hl))) (List.nil_sublist _) hk1) rfl (T.ev 0 rfl))) ?_; clear T ac; intro ac T
      refine g_w (i := 7) (by kernel_rfl) rfl (by kernel_rfl : (pbits 9 127).setIfInBounds 7 true = pbits 9 255) rfl ?_; intro K hK
      refine ow_call (first := []) (cap := []) T rfl rfl rfl rfl evf (.cons (T.ev 5 rfl) (.cons (T.ev 4 rfl) (.cons (T.ev 0 rfl) .nil))) Try.func110 rfl rfl ?_
      refine Calls.mono (stroke_of (s := s) (j := j) hf x0 _ (by obtain ⟨q1, q2, q3, q4, q5, q6, q7, q8, q9, q10, q11, q12, q13, q14⟩ := hu; constructor <;> omega)) ?_
      clear T
      rintro e wc ⟨rfl, hb⟩
      intro ac T
      replace M := M.call hb; clear hb
      refine sh_out hK _ _ (MA.mk (fun _ => M.mask [true, true, true] rfl) (M.mask [false, true, true] rfl)) ?_; clear hK K
      refine g_w (i := 8) (by kernel_rfl) rfl (by kernel_rfl : (pbits 9 255).setIfInBounds 8 true = pbits 9 511) rfl ?_; intro K hK
      refine ow_stO M T rfl rfl (T.ev 12 rfl) (T.ev 0 rfl) rfl .head rfl (by simp) rfl (by kernel_rfl) ?_; clear M T; intro wc ac M T
      refine sh_out hK _ _ (MA.mk (fun h => (no_of (by kernel_rfl) h).elim) (M.mask [false, true, true] rfl)) ?_; clear hK K
      refine g_done (by kernel_rfl) ?_
      replace T := T.pick [9, 10, 11, 12, 13] rfl
      refine nm_blk ?_
      refine nm_then ?_
      refine wp_region_lit ?_
      refine l_q T rfl rfl rfl rfl (rn_move rfl (T.ev 4 rfl)) ?_; clear T ac; intro ac T
      refine l_q T rfl rfl rfl rfl (rn_add rfl (T.ev 0 rfl) evc (by omega)) ?_; clear T ac; intro ac T
      refine l_q (v := (.int .i64 ((k : Int) + 1))) (T.pick [0, 1, 2, 3, 4, 5] rfl) rfl rfl rfl rfl (rn_assign rfl (T.ev 0 rfl)) ?_; clear T ac; intro ac T
      refine wpList_nil ?_
      replace T := T.pick [0, 3, 4, 5, 6] rfl
      refine nm_then ?_
      exact ⟨_, by omega, k + 1, (s.filed x0), rfl, (by omega), hf.filed x0, (by have := hu.filed x0; rw [show (1000 + 100 * ((k + 1 : Nat) : Int)) = 1000 + 100 * (k : Int) + 100 by omega]; exact this), H, T.pick [1, 2, 3, 4, 0] rfl, M.mask [true, true, true] rfl⟩
    · intro h1
      rw [List.drop_of_length_le (by omega)] at H
      refine wp_exit ?_
      refine ex_then ?_
      refine ex_then ?_
      refine ex_hit ?_
      refine nm_then ?_
      refine wp_seq ?_
      refine wp_region_lit ?_
      refine l_q T rfl rfl rfl rfl (rn_rowO (Mem.nth M 0 rfl) rfl (T.ev 4 rfl) rfl) ?_; clear T ac; intro ac T
      refine l_w rfl ?_; intro K hK
      refine ow_stO M T rfl rfl (T.ev 4 rfl) (T.ev 0 rfl) rfl (.tail .head) rfl (by simp) rfl (by kernel_rfl) ?_; clear M T; intro wc ac M T
      refine sh_out hK _ _ ?_; clear hK K
      refine wpList_nil ?_
      replace T := T.pick [4] rfl
      replace M := M.mask [false, true, false] rfl
      refine nm_then ?_
      refine wp_ret ?_
      refine rt_c M T rfl (T.ev 0 rfl) (nthE_mem (i := 0) rfl) rfl ?_
      rw [H]
      exact ⟨rfl, M.below⟩

theorem chkS_next {x : Int} {r : List Int} : chkS (x :: r) = if okS x = true then chkS r else 8 := by
  rfl
theorem okS_yes {x : Int} (h : (!withinB x 1 2) = false) : okS x = true := by simp [withinB, okS] at *; omega
theorem okS_no {x : Int} (h : (!withinB x 1 2) = true) : ¬ okS x = true := by simp [withinB, okS] at *; omega

set_option maxRecDepth 100000 in
set_option maxHeartbeats 1000000 in
theorem rcheckStrokes_any (j : Jb) (A : Option Addr) (c : Nat) (D : Option Addr) (d n : Nat) (l : List Int) (w : World) (hr : Rd w w.heap.size 2 A j.sh.length (rc j.sh)) (hn : j.sh.length ≤ 9223372036854775807) (hl : Rd w w.heap.size 1 D n (ic l)) (hm : n ≤ 9223372036854775807) :
    Calls Try.prog 97 #[jobV j A c, .slice D n d] w fun e w' => e = .returned (.int .i64 (checkStrokesJ j l)) ∧ Below w.heap.size w w' := by
  obtain ⟨bJ, oJ, SJ⟩ := Sp.old hr
  have hll := hl.len1
  obtain ⟨bI, oI, SI⟩ := Sp.old hl
  refine px_enter noEx Try.func97 rfl 27 rfl [.agg #[.int .i64 j.p0, .int .i64 j.p1, .int .i64 j.t0, .int .i64 j.t1, .int .i64 j.r0, .int .i64 j.r1, .int .i64 j.u0, .int .i64 j.u1, .int .i64 j.d0, .int .i64 j.d1, .int .i64 j.a0, .int .i64 j.a1, .int .i64 j.b0, .int .i64 j.b1, .int .i64 j.le, .slice A j.sh.length c, .int .i64 j.wi, .int .i64 j.me], .slice D n d] rfl rfl (Mem.init w _) ?_
  intro ac wc T M
  refine wp_seq ?_
  refine wp_region_lit ?_
  refine l_w rfl ?_; intro K hK
  refine ow_bx M T rfl rfl rfl rfl (T.ev 0 rfl) rfl ?_; clear M T; intro g1 wc ac M T
  refine sh_out hK _ _ ?_; clear hK K
  refine l_q T rfl rfl rfl rfl (rn_assign rfl evc) ?_; clear T ac; intro ac T
  refine wpList_nil ?_
  replace T := T.pick [1, 3] rfl
  refine nm_then ?_
  refine wp_seq ?_
  refine wp_seq ?_
  refine wp_region_lit ?_
  refine l_q T rfl rfl rfl rfl (rn_rowO (Mem.nth M 0 rfl) rfl (T.ev 0 rfl) rfl) ?_; clear T ac; intro ac T
  refine l_w rfl ?_; intro K hK
  refine ow_call (first := []) (cap := []) T rfl rfl rfl rfl evf (.cons (T.ev 0 rfl) .nil) Try.func50 rfl rfl ?_
  refine Calls.mono (rCheck_any j _ _ _ (SJ.rd M (List.nil_sublist _)) (by omega)) ?_
  clear T
  rintro e wc ⟨rfl, hb⟩
  intro ac T
  replace M := M.call hb; clear hb
  refine sh_out hK _ _ ?_; clear hK K
  refine l_q T rfl rfl rfl rfl (rn_assign rfl (T.ev 0 rfl)) ?_; clear T ac; intro ac T
  refine wpList_nil ?_
  replace T := T.pick [0, 4] rfl
  replace M := M.mask [false] rfl
  refine nm_then ?_
  refine wp_seq ?_
  refine wp_region_lit ?_
  refine l_q T rfl rfl rfl rfl (rn_move rfl (T.ev 0 rfl)) ?_; clear T ac; intro ac T
  refine l_q T rfl rfl rfl rfl (rn_neq rfl (T.ev 0 rfl) evc) ?_; clear T ac; intro ac T
  refine wpList_nil ?_
  replace T := T.pick [0, 2, 3] rfl
  refine nm_then ?_
  refine wp_ifn (T.ev 0 rfl) ?_ ?_
  · intro h1
    refine wp_seq ?_
    refine wp_region_lit ?_
    refine l_q T rfl rfl rfl rfl (rn_move rfl (T.ev 1 rfl)) ?_; clear T ac; intro ac T
    refine l_q T rfl rfl rfl rfl (rn_assign rfl (T.ev 0 rfl)) ?_; clear T ac; intro ac T
    refine wpList_nil ?_
    replace T := T.pick [0] rfl
    refine nm_then ?_
    refine wp_ret ?_
    refine rt_then ?_
    refine rt_1 T rfl (T.ev 0 rfl) ?_
    refine ⟨ret_int ?_, M.below⟩
    unfold checkStrokesJ
    rw [if_pos (by simpa using h1)]
  · intro h1
    refine wp_skip ?_
    refine nm_then ?_
    refine wp_seq ?_
    refine wp_seq ?_
    refine wp_region_lit ?_
    refine l_q T rfl rfl rfl rfl (rn_move rfl (T.ev 2 rfl)) ?_; clear T ac; intro ac T
    refine l_q T rfl rfl rfl rfl (rn_lenS rfl Try.underlying31 (T.ev 0 rfl)) ?_; clear T ac; intro ac T
    refine l_q T rfl rfl rfl rfl (rn_gtr rfl (T.ev 0 rfl) evc) ?_; clear T ac; intro ac T
    refine wpList_nil ?_
    replace T := T.pick [0, 5] rfl
    refine nm_then ?_
    refine wp_if (T.ev 0 rfl) ?_ ?_
    · intro h2
      refine wp_seq ?_
      refine wp_region_lit ?_
      refine l_q T rfl rfl rfl rfl (rn_assign rfl evc) ?_; clear T ac; intro ac T
      refine wpList_nil ?_
      replace T := T.pick [0] rfl
      refine nm_then ?_
      refine wp_ret ?_
      refine rt_then ?_
      refine rt_1 T rfl (T.ev 0 rfl) ?_
      refine ⟨ret_int ?_, M.below⟩
      unfold checkStrokesJ
      rw [if_neg (by simpa using h1), if_pos (by omega)]
    · intro h2
      refine wp_skip ?_
      refine nm_then ?_
      refine wp_seq ?_
      refine wp_seq ?_
      refine wp_region_lit ?_
      refine l_q T rfl rfl rfl rfl (rn_assign rfl evc) ?_; clear T ac; intro ac T
      refine wpList_nil ?_
      replace T := T.pick [0, 2] rfl
      refine nm_then ?_
      refine wp_block ?_
      refine wp_loop_n (fun mz ac wc => ∃ (k : Nat), mz = n - k ∧ (k ≤ n) ∧ (chkS l = chkS (l.drop k)) ∧ Tm ac 27 [(1, .slice D n d), (6, .int .i64 (k : Int))] ∧ Mem w noEx wc []) ?_ ?_
      · exact ⟨_, 0, rfl, (by omega), rfl, T.pick [1, 0] rfl, M.mask [] rfl⟩
      · clear T M
        rintro mz ac wc ⟨k, hmm1, hk, H, T, M⟩
        refine wp_seq ?_
        refine wp_seq ?_
        refine wp_region_lit ?_
        refine l_q T rfl rfl rfl rfl (rn_move rfl (T.ev 1 rfl)) ?_; clear T ac; intro ac T
        refine l_q T rfl rfl rfl rfl (rn_move rfl (T.ev 1 rfl)) ?_; clear T ac; intro ac T
        refine l_q T rfl rfl rfl rfl (rn_lenS rfl Try.underlying31 (T.ev 0 rfl)) ?_; clear T ac; intro ac T
        refine l_q T rfl rfl rfl rfl (rn_lss rfl (T.ev 2 rfl) (T.ev 0 rfl)) ?_; clear T ac; intro ac T
        refine wpList_nil ?_
        replace T := T.pick [0, 4, 5] rfl
        refine nm_then ?_
        refine wp_if (T.ev 0 rfl) ?_ ?_
        · intro h3
          obtain ⟨x0, hk1, hd⟩ := ic_next (l := l) (k := k) (by omega)
          rw [hd, chkS_next] at H
          refine wp_skip ?_
          refine nm_then ?_
          refine wp_seq ?_
          refine wp_block ?_
          refine wp_seq ?_
          refine wp_region_lit ?_
          refine l_q T rfl rfl rfl rfl (rn_move rfl (T.ev 1 rfl)) ?_; clear T ac; intro ac T
          refine l_q T rfl rfl rfl rfl (rn_move rfl (T.ev 3 rfl)) ?_; clear T ac; intro ac T
          refine l_q T rfl rfl rfl rfl (rn_indexAddr (size := 1) k rfl (T.ev 1 rfl) (T.ev 0 rfl) ⟨_, Try.underlying31, by kernel_rfl⟩ rfl (by omega) (SI.at0 (by omega))) ?_; clear T ac; intro ac T
          refine l_q T rfl rfl rfl rfl (rn_cell (Sp.ic0 SI M (List.nil_sublist _) hk1) rfl (T.ev 0 rfl)) ?_; clear T ac; intro ac T
          refine l_w rfl ?_; intro K hK
          refine ow_call (first := []) (cap := []) T rfl rfl rfl rfl evf (.cons (T.ev 0 rfl) (.cons evc (.cons evc .nil))) Try.func90 rfl rfl ?_
          refine Calls.mono (among_any x0 1 2 _) ?_
          clear T
          rintro e wc ⟨rfl, hb⟩
          intro ac T
          replace M := M.call hb; clear hb
          refine sh_out hK _ _ ?_; clear hK K
          refine l_q T rfl rfl rfl rfl (rn_not rfl (T.ev 0 rfl)) ?_; clear T ac; intro ac T
          refine wpList_nil ?_
          replace T := T.pick [0, 7, 8] rfl
          refine nm_then ?_
          refine wp_cond_split (T.ev 0 rfl) ?_ ?_
          · intro h4
            (try have h4' := h4; try simp only [Bool.and_eq_true, Bool.or_eq_true, Bool.not_eq_true', Bool.and_eq_false_imp, Bool.or_eq_false_iff, decide_eq_true_eq, decide_eq_false_iff_not] at h4')
            refine wp_seq ?_
            refine wp_region_lit ?_
            refine l_q T rfl rfl rfl rfl (rn_assign rfl evc) ?_; clear T ac; intro ac T
            refine wpList_nil ?_
            replace T := T.pick [0] rfl
            refine nm_then ?_
            refine wp_ret ?_
            refine rt_blk ?_
            refine rt_then ?_
            refine rt_then ?_
            refine rt_blk ?_
            refine rt_then ?_
            refine rt_1 T rfl (T.ev 0 rfl) ?_
            rw [if_neg (okS_no h4)] at H
            refine ⟨ret_int ?_, M.below⟩
            unfold checkStrokesJ
            rw [if_neg (by simpa using h1), if_neg (by omega), H]
          · intro h4
            (try have h4' := h4; try simp only [Bool.and_eq_true, Bool.or_eq_true, Bool.not_eq_true', Bool.and_eq_false_imp, Bool.or_eq_false_iff, decide_eq_true_eq, decide_eq_false_iff_not] at h4')
            refine wp_skip ?_
            refine nm_blk ?_
            refine nm_then ?_
            refine wp_region_lit ?_
            refine l_q T rfl rfl rfl rfl (rn_move rfl (T.ev 2 rfl)) ?_; clear T ac; intro ac T
            refine l_q T rfl rfl rfl rfl (rn_add rfl (T.ev 0 rfl) evc (by omega)) ?_; clear T ac; intro ac T
            refine l_q (v := (.int .i64 ((k : Int) + 1))) (T.pick [0, 1, 2, 3] rfl) rfl rfl rfl rfl (rn_assign rfl (T.ev 0 rfl)) ?_; clear T ac; intro ac T
            refine wpList_nil ?_
            replace T := T.pick [0, 4] rfl
            refine nm_then ?_
            rw [if_pos (okS_yes h4)] at H
            exact ⟨_, by omega, k + 1, rfl, (by omega), H, T.pick [1, 0] rfl, M.mask [] rfl⟩
        · intro h3
          rw [List.drop_of_length_le (by omega), chkS] at H
          refine wp_exit ?_
          refine ex_then ?_
          refine ex_then ?_
          refine ex_hit ?_
          refine nm_then ?_
          refine wp_seq ?_
          refine wp_region_lit ?_
          refine l_q T rfl rfl rfl rfl (rn_assign rfl evc) ?_; clear T ac; intro ac T
          refine wpList_nil ?_
          replace T := T.pick [0] rfl
          refine nm_then ?_
          refine wp_ret ?_
          refine rt_1 T rfl (T.ev 0 rfl) ?_
          refine ⟨ret_int ?_, M.below⟩
          unfold checkStrokesJ
          rw [if_neg (by simpa using h1), if_neg (by omega), H]

end Go.Proofs.Ythlpceoajhcliaa
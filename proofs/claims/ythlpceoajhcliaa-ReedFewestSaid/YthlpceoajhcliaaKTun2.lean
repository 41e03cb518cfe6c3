/-
  The chapter's examples hold.
-/
import Derived.Test.YthlpceoajhcliaaKShort
import Derived.Test.YthlpceoajhcliaaKSame
import Derived.Test.YthlpceoajhcliaaRWindow
import Derived.Test.YthlpceoajhcliaaRAfterT
import Derived.Test.YthlpceoajhcliaaGGuided
namespace Go.Proofs.Ythlpceoajhcliaa
set_option linter.unusedSimpArgs false
set_option linter.unusedVariables false
open Go.RowKit

def exJ (p0 p1 : Int) : Jb := { p0 := p0, p1 := p1, t0 := 30, t1 := 32, r0 := 40, r1 := 41, u0 := 3, u1 := 4, d0 := 2, d1 := 3, a0 := 1, a1 := 2, b0 := 1, b1 := 1, le := 20, sh := [(-2, 1), (0, 3)], wi := 5, me := 1 }
def JobPost (j : Jb) (w : World) (e : Ending) (w' : World) : Prop := ∃ g, e = .returned (jobV j (some ⟨g, 0, none⟩) 2) ∧ Mem w noEx w' [(g, .cells (rc j.sh))]
section
set_option maxRecDepth 100000
theorem ex_window : windowJ (exJ (-12) (-8)) = ((-3, 2), 0) := by decide +kernel
theorem ex_strokes : checkStrokesJ (exJ (-12) (-8)) [1, 2] = 0 := by decide +kernel
theorem ex_after : afterC (exJ (-12) (-8)) [1, 2] = #[.int .i64 (-12), .int .i64 (-6), .int .i64 28, .int .i64 31, .int .i64 39, .int .i64 40] := by
  unfold afterC
  rw [if_pos ex_strokes]
  rfl
theorem ex_short : shortL (exJ (-9) (-9)) = [1, 1] := by decide +kernel
theorem ex_shortE : shortE (exJ (-9) (-9)) = 0 := by decide +kernel
theorem ex_guided : guidedJ (exJ (-12) (-8)) = (3, 0) := by decide +kernel
theorem ex_next : nextJ (exJ 4 6) = (2, 2, 0) := by decide +kernel
end
theorem Window_ex (g : Nat) (w : World) (hr : Rd w w.heap.size 2 (some ⟨g, 0, none⟩) 2 (rc [(-2, 1), (0, 3)])) :
    Calls Try.prog 33 #[jobV (exJ (-12) (-8)) (some ⟨g, 0, none⟩) 2] w fun e w' => e = .returned (.tuple #[R2 (-3) 2, .int .i64 0]) ∧ Below w.heap.size w w' := by
  have h := Window_any (exJ (-12) (-8)) (some ⟨g, 0, none⟩) 2 w hr (by decide)
  rw [ex_window] at h
  exact h
theorem After_ex (g g' : Nat) (w : World) (hr : Rd w w.heap.size 2 (some ⟨g, 0, none⟩) 2 (rc [(-2, 1), (0, 3)])) (hl : Rd w w.heap.size 1 (some ⟨g', 0, none⟩) 2 (ic [1, 2])) :
    Calls Try.prog 34 #[jobV (exJ (-12) (-8)) (some ⟨g, 0, none⟩) 2, .slice (some ⟨g', 0, none⟩) 2 2] w fun e w' => e = .returned (.tuple #[.agg #[.int .i64 (-12), .int .i64 (-6), .int .i64 28, .int .i64 31, .int .i64 39, .int .i64 40], .int .i64 0]) ∧ Below w.heap.size w w' := by
  have h := After_any (exJ (-12) (-8)) (some ⟨g, 0, none⟩) 2 (some ⟨g', 0, none⟩) 2 2 [1, 2] w hr (by decide) hl (by decide)
  rw [ex_after, ex_strokes] at h
  exact h
theorem Shortest_ex (g : Nat) (w : World) (hr : Rd w w.heap.size 2 (some ⟨g, 0, none⟩) 2 (rc [(-2, 1), (0, 3)])) :
    Calls Try.prog 19 #[jobV (exJ (-9) (-9)) (some ⟨g, 0, none⟩) 2] w (ShortPost2 [1, 1] 0 w) := by
  have h := Shortest_own (exJ (-9) (-9)) (some ⟨g, 0, none⟩) 2 w hr (by decide)
  rw [ex_short, ex_shortE] at h
  exact h
theorem Guided_ex (g : Nat) (w : World) (hr : Rd w w.heap.size 2 (some ⟨g, 0, none⟩) 2 (rc [(-2, 1), (0, 3)])) :
    Calls Try.prog 24 #[jobV (exJ (-12) (-8)) (some ⟨g, 0, none⟩) 2] w fun e w' => e = .returned (.tuple #[.int .i64 3, .int .i64 0]) ∧ Below w.heap.size w w' := by
  have h := Guided_any (exJ (-12) (-8)) (some ⟨g, 0, none⟩) 2 w hr (by decide)
  rw [ex_guided] at h
  exact h
theorem Next_ex (g : Nat) (w : World) (hr : Rd w w.heap.size 2 (some ⟨g, 0, none⟩) 2 (rc [(-2, 1), (0, 3)])) :
    Calls Try.prog 26 #[jobV (exJ 4 6) (some ⟨g, 0, none⟩) 2] w fun e w' => e = .returned (.tuple #[.int .i64 2, .int .i64 2, .int .i64 0]) ∧ Below w.heap.size w w' := by
  have h := Next_any (exJ 4 6) (some ⟨g, 0, none⟩) 2 w hr (by decide)
  rw [ex_next] at h
  exact h


set_option maxRecDepth 100000 in
set_option maxHeartbeats 1000000 in
theorem job_any (p0 p1 : Int) (w : World)  :
    Calls Try.prog 65 #[.agg #[.int .i64 p0, .int .i64 p1]] w (JobPost (exJ p0 p1) w) := by
  refine px_enter noEx Try.func65 rfl 16 rfl [.agg #[.int .i64 p0, .int .i64 p1]] rfl rfl (Mem.init w _) ?_
  intro ac wc T M
  refine wp_seq ?_
  refine wp_region_lit ?_
  refine l_w rfl ?_; intro K hK
  refine ow_bx M T rfl rfl rfl rfl (T.ev 0 rfl) rfl ?_; clear M T; intro g1 wc ac M T
  refine sh_out hK _ _ ?_; clear hK K
  refine l_w rfl ?_; intro K hK
  refine ow_al M T rfl rfl rfl rfl ?_; clear M T; intro g2 wc ac M T
  refine sh_out hK _ _ ?_; clear hK K
  refine wpList_nil ?_
  replace T := T.pick [0, 1] rfl
  refine nm_then ?_
  refine wp_seq ?_
  refine g_start2 M (M.perm [1] rfl rfl) 14 (by kernel_rfl) rfl (by kernel_rfl) ?_
  clear M; intro wc M
  refine g_addG 13 M ?_
  refine g_q (T := T) (i := 0) rfl (by kernel_rfl) (by kernel_rfl : (pbits 14 0).setIfInBounds 0 true = pbits 14 1) (si_and (si_G rfl) si_U) (fun _ _ _ h => h) rfl rfl rfl rfl (fun B w' hD hl hS => (rn_rowO (Mem.nth (show Mem w noEx w' _ from ((MA.lft hS) (hD.wait (i := 0) (m := 13) (by kernel_rfl) hl))) 1 rfl) rfl (T.ev 1 rfl) rfl)) ?_; clear T ac; intro ac T
  refine g_w (i := 1) (by kernel_rfl) rfl (by kernel_rfl : (pbits 14 1).setIfInBounds 1 true = pbits 14 3) rfl ?_; intro K hK
  refine ow_call (first := []) (cap := []) T rfl rfl rfl rfl evf (.cons evc (.cons evc .nil)) Try.func31 rfl rfl ?_
  refine Calls.mono (to_any 30 32 _) ?_
  clear T
  rintro e wc ⟨rfl, hb⟩
  intro ac T
  replace M := M.call hb; clear hb
  refine sh_out hK _ _ (MA.mk (fun _ => M.mask [true, true] rfl) (M.mask [false, true] rfl)) ?_; clear hK K
  refine g_w (i := 2) (by kernel_rfl) rfl (by kernel_rfl : (pbits 14 3).setIfInBounds 2 true = pbits 14 7) rfl ?_; intro K hK
  refine ow_call (first := []) (cap := []) T rfl rfl rfl rfl evf (.cons evc (.cons evc .nil)) Try.func31 rfl rfl ?_
  refine Calls.mono (to_any 40 41 _) ?_
  clear T
  rintro e wc ⟨rfl, hb⟩
  intro ac T
  replace M := M.call hb; clear hb
  refine sh_out hK _ _ (MA.mk (fun _ => M.mask [true, true] rfl) (M.mask [false, true] rfl)) ?_; clear hK K
  refine g_q (v := (.agg #[.int .i64 p0, .int .i64 p1, .int .i64 30, .int .i64 32, .int .i64 40, .int .i64 41])) (T := T) (i := 3) rfl (by kernel_rfl) (by kernel_rfl : (pbits 14 7).setIfInBounds 3 true = pbits 14 15) (si_and (si_G rfl) si_U) (fun _ _ _ h => h) rfl rfl rfl rfl (fun _ _ _ _ _ => (rn_build rfl (.cons (T.ev 2 rfl) (.cons (T.ev 1 rfl) (.cons (T.ev 0 rfl) .nil))) (fun _ => by kernel_rfl))) ?_; clear T ac; intro ac T
  refine g_w (i := 4) (by kernel_rfl) rfl (by kernel_rfl : (pbits 14 15).setIfInBounds 4 true = pbits 14 31) rfl ?_; intro K hK
  refine ow_call (first := []) (cap := []) T rfl rfl rfl rfl evf (.cons evc (.cons evc .nil)) Try.func31 rfl rfl ?_
  refine Calls.mono (to_any 3 4 _) ?_
  clear T
  rintro e wc ⟨rfl, hb⟩
  intro ac T
  replace M := M.call hb; clear hb
  refine sh_out hK _ _ (MA.mk (fun _ => M.mask [true, true] rfl) (M.mask [false, true] rfl)) ?_; clear hK K
  refine g_w (i := 5) (by kernel_rfl) rfl (by kernel_rfl : (pbits 14 31).setIfInBounds 5 true = pbits 14 63) rfl ?_; intro K hK
  refine ow_call (first := []) (cap := []) T rfl rfl rfl rfl evf (.cons evc (.cons evc .nil)) Try.func31 rfl rfl ?_
  refine Calls.mono (to_any 2 3 _) ?_
  clear T
  rintro e wc ⟨rfl, hb⟩
  intro ac T
  replace M := M.call hb; clear hb
  refine sh_out hK _ _ (MA.mk (fun _ => M.mask [true, true] rfl) (M.mask [false, true] rfl)) ?_; clear hK K
  refine g_w (i := 6) (by kernel_rfl) rfl (by kernel_rfl : (pbits 14 63).setIfInBounds 6 true = pbits 14 127) rfl ?_; intro K hK
  refine ow_call (first := []) (cap := []) T rfl rfl rfl rfl evf (.cons evc (.cons evc .nil)) Try.func31 rfl rfl ?_
  refine Calls.mono (to_any 1 2 _) ?_
  clear T
  rintro e wc ⟨rfl, hb⟩
  intro ac T
  replace M := M.call hb; clear hb
  refine sh_out hK _ _ (MA.mk (fun _ => M.mask [true, true] rfl) (M.mask [false, true] rfl)) ?_; clear hK K
  refine g_w (i := 7) (by kernel_rfl) rfl (by kernel_rfl : (pbits 14 127).setIfInBounds 7 true = pbits 14 255) rfl ?_; intro K hK
  refine ow_call (first := []) (cap := []) T rfl rfl rfl rfl evf (.cons evc (.cons evc .nil)) Try.func31 rfl rfl ?_
  refine Calls.mono (to_any 1 1 _) ?_
  clear T
  rintro e wc ⟨rfl, hb⟩
  intro ac T
  replace M := M.call hb; clear hb
  refine sh_out hK _ _ (MA.mk (fun _ => M.mask [true, true] rfl) (M.mask [false, true] rfl)) ?_; clear hK K
  refine g_q (v := (.agg #[.int .i64 3, .int .i64 4, .int .i64 2, .int .i64 3, .int .i64 1, .int .i64 2, .int .i64 1, .int .i64 1, .int .i64 20])) (T := T) (i := 8) rfl (by kernel_rfl) (by kernel_rfl : (pbits 14 255).setIfInBounds 8 true = pbits 14 511) (si_and (si_G rfl) si_U) (fun _ _ _ h => h) rfl rfl rfl rfl (fun _ _ _ _ _ => (rn_build rfl (.cons (T.ev 3 rfl) (.cons (T.ev 2 rfl) (.cons (T.ev 1 rfl) (.cons (T.ev 0 rfl) (.cons evc .nil))))) (fun _ => by kernel_rfl))) ?_; clear T ac; intro ac T
  refine g_w (i := 9) (by kernel_rfl) rfl (by kernel_rfl : (pbits 14 511).setIfInBounds 9 true = pbits 14 1023) rfl ?_; intro K hK
  refine ow_call (first := []) (cap := []) T rfl rfl rfl rfl evf (.cons evc (.cons evc .nil)) Try.func31 rfl rfl ?_
  refine Calls.mono (to_any (-2) 1 _) ?_
  clear T
  rintro e wc ⟨rfl, hb⟩
  intro ac T
  replace M := M.call hb; clear hb
  refine sh_out hK _ _ (MA.mk (fun _ => M.mask [true, true] rfl) (M.mask [false, true] rfl)) ?_; clear hK K
  refine g_w (i := 10) (by kernel_rfl) rfl (by kernel_rfl : (pbits 14 1023).setIfInBounds 10 true = pbits 14 2047) rfl ?_; intro K hK
  refine ow_call (first := []) (cap := []) T rfl rfl rfl rfl evf (.cons evc (.cons evc .nil)) Try.func31 rfl rfl ?_
  refine Calls.mono (to_any 0 3 _) ?_
  clear T
  rintro e wc ⟨rfl, hb⟩
  intro ac T
  replace M := M.call hb; clear hb
  refine sh_out hK _ _ (MA.mk (fun _ => M.mask [true, true] rfl) (M.mask [false, true] rfl)) ?_; clear hK K
  refine g_w (i := 11) (by kernel_rfl) rfl (by kernel_rfl : (pbits 14 2047).setIfInBounds 11 true = pbits 14 4095) rfl ?_; intro K hK
  refine ow_bs (e := 23) [.int .i64 (-2), .int .i64 1, .int .i64 0, .int .i64 3] M T rfl rfl rfl rfl (.cons (T.ev 1 rfl) (.cons (T.ev 0 rfl) .nil)) (fun _ => by kernel_rfl) ?_; clear M T; intro g3 wc ac M T
  refine sh_out hK _ _ (MA.mk (fun _ => M.mask [false, true, true] rfl) (M.mask [false, false, true] rfl)) ?_; clear hK K
  refine g_q (v := (.agg #[.int .i64 p0, .int .i64 p1, .int .i64 30, .int .i64 32, .int .i64 40, .int .i64 41, .int .i64 3, .int .i64 4, .int .i64 2, .int .i64 3, .int .i64 1, .int .i64 2, .int .i64 1, .int .i64 1, .int .i64 20, .slice (some ⟨g3, 0, none⟩) 2 2, .int .i64 5, .int .i64 1])) (T := T) (i := 12) rfl (by kernel_rfl) (by kernel_rfl : (pbits 14 4095).setIfInBounds 12 true = pbits 14 8191) (si_and (si_G rfl) si_U) (fun _ _ _ h => h) rfl rfl rfl rfl (fun _ _ _ _ _ => (rn_build rfl (.cons (T.ev 8 rfl) (.cons (T.ev 3 rfl) (.cons (T.ev 0 rfl) (.cons evc (.cons evc .nil))))) (fun _ => by kernel_rfl))) ?_; clear T ac; intro ac T
  refine g_w (i := 13) (by kernel_rfl) rfl (by kernel_rfl : (pbits 14 8191).setIfInBounds 13 true = pbits 14 16383) rfl ?_; intro K hK
  refine ow_stO M T rfl rfl (T.ev 13 rfl) (T.ev 0 rfl) rfl (.tail .head) rfl (by simp) rfl (by kernel_rfl) ?_; clear M T; intro wc ac M T
  refine sh_out hK _ _ (MA.mk (fun h => (no_of (by kernel_rfl) h).elim) (M.mask [false, false, true] rfl)) ?_; clear hK K
  refine g_done (by kernel_rfl) ?_
  replace T := T.pick [13] rfl
  replace M := M.mask [true, true, false] rfl
  refine nm_then ?_
  refine wp_ret ?_
  refine rt_c M T rfl (T.ev 0 rfl) (nthE_mem (i := 1) rfl) rfl ?_
  exact ⟨_, rfl, M.perm [0] rfl rfl⟩

set_option maxRecDepth 100000 in
set_option maxHeartbeats 1000000 in
theorem flat_any  (w : World)  :
    Calls Try.prog 63 #[] w (JobPost (exJ (-12) (-8)) w) := by
  refine px_enter noEx Try.func63 rfl 3 rfl [] rfl rfl (Mem.init w _) ?_
  intro ac wc T M
  refine wp_seq ?_
  refine wp_region_lit ?_
  refine l_w rfl ?_; intro K hK
  refine ow_al M T rfl rfl rfl rfl ?_; clear M T; intro g1 wc ac M T
  refine sh_out hK _ _ ?_; clear hK K
  refine wpList_nil ?_
  refine nm_then ?_
  refine wp_seq ?_
  refine wp_region_lit ?_
  refine l_w rfl ?_; intro K hK
  refine ow_call (first := []) (cap := []) T rfl rfl rfl rfl evf (.cons evc (.cons evc .nil)) Try.func31 rfl rfl ?_
  refine Calls.mono (to_any (-12) (-8) _) ?_
  clear T
  rintro e wc ⟨rfl, hb⟩
  intro ac T
  replace M := M.call hb; clear hb
  refine sh_out hK _ _ ?_; clear hK K
  refine l_w rfl ?_; intro K hK
  refine ow_call (first := []) (cap := []) T rfl rfl rfl rfl evf (.cons (T.ev 0 rfl) .nil) Try.func65 rfl rfl ?_
  refine Calls.mono (job_any (-12) (-8) _) ?_
  clear T
  rintro e wc ⟨gu2, rfl, N⟩
  intro ac T
  replace M := M.join N; clear N
  replace M := M.mask [true, true] rfl
  refine sh_out hK _ _ ?_; clear hK K
  refine l_w rfl ?_; intro K hK
  refine ow_stO M T rfl rfl (T.ev 2 rfl) (T.ev 0 rfl) rfl (.tail .head) rfl (by simp) rfl (by kernel_rfl) ?_; clear M T; intro wc ac M T
  refine sh_out hK _ _ ?_; clear hK K
  refine wpList_nil ?_
  replace T := T.pick [2] rfl
  refine nm_then ?_
  refine wp_ret ?_
  refine rt_c M T rfl (T.ev 0 rfl) (nthE_mem (i := 1) rfl) rfl ?_
  exact ⟨_, rfl, M.perm [0] rfl rfl⟩

set_option maxRecDepth 100000 in
set_option maxHeartbeats 1000000 in
theorem sharper_any  (w : World)  :
    Calls Try.prog 64 #[] w (JobPost (exJ (-9) (-9)) w) := by
  refine px_enter noEx Try.func64 rfl 3 rfl [] rfl rfl (Mem.init w _) ?_
  intro ac wc T M
  refine wp_seq ?_
  refine wp_region_lit ?_
  refine l_w rfl ?_; intro K hK
  refine ow_al M T rfl rfl rfl rfl ?_; clear M T; intro g1 wc ac M T
  refine sh_out hK _ _ ?_; clear hK K
  refine wpList_nil ?_
  refine nm_then ?_
  refine wp_seq ?_
  refine wp_region_lit ?_
  refine l_w rfl ?_; intro K hK
  refine ow_call (first := []) (cap := []) T rfl rfl rfl rfl evf (.cons evc (.cons evc .nil)) Try.func31 rfl rfl ?_
  refine Calls.mono (to_any (-9) (-9) _) ?_
  clear T
  rintro e wc ⟨rfl, hb⟩
  intro ac T
  replace M := M.call hb; clear hb
  refine sh_out hK _ _ ?_; clear hK K
  refine l_w rfl ?_; intro K hK
  refine ow_call (first := []) (cap := []) T rfl rfl rfl rfl evf (.cons (T.ev 0 rfl) .nil) Try.func65 rfl rfl ?_
  refine Calls.mono (job_any (-9) (-9) _) ?_
  clear T
  rintro e wc ⟨gu2, rfl, N⟩
  intro ac T
  replace M := M.join N; clear N
  replace M := M.mask [true, true] rfl
  refine sh_out hK _ _ ?_; clear hK K
  refine l_w rfl ?_; intro K hK
  refine ow_stO M T rfl rfl (T.ev 2 rfl) (T.ev 0 rfl) rfl (.tail .head) rfl (by simp) rfl (by kernel_rfl) ?_; clear M T; intro wc ac M T
  refine sh_out hK _ _ ?_; clear hK K
  refine wpList_nil ?_
  replace T := T.pick [2] rfl
  refine nm_then ?_
  refine wp_ret ?_
  refine rt_c M T rfl (T.ev 0 rfl) (nthE_mem (i := 1) rfl) rfl ?_
  exact ⟨_, rfl, M.perm [0] rfl rfl⟩

theorem sameInts_same (A B : Option Addr) (n m c d : Nat) (l : List Int) (w : World) (ha : Rd w w.heap.size 1 A n (ic l)) (hb : Rd w w.heap.size 1 B m (ic l)) (hn : n ≤ 9223372036854775807) (hm : m ≤ 9223372036854775807) :
    Calls Try.prog 21 #[.slice A n c, .slice B m d] w fun e w' => e = .returned (.bool true) ∧ Below w.heap.size w w' := by
  have := sameInts_any A B n m c d l l w ha hb hn hm
  simpa using this


set_option maxRecDepth 100000 in
set_option maxHeartbeats 1000000 in
theorem tuned_any  (w : World)  :
    Calls Try.prog 15 #[] w fun e w' => e = .returned (.bool true) ∧ Below w.heap.size w w' := by
  refine px_enter noEx Try.func15 rfl 88 rfl [] rfl rfl (Mem.init w _) ?_
  intro ac wc T M
  refine wp_seq ?_
  refine wp_region_lit ?_
  refine l_q T rfl rfl rfl rfl (rn_assign rfl evc) ?_; clear T ac; intro ac T
  refine wpList_nil ?_
  replace T := T.pick [] rfl
  refine nm_then ?_
  refine wp_seq ?_
  refine wp_region_lit ?_
  refine l_w rfl ?_; intro K hK
  refine ow_call (first := []) (cap := []) T rfl rfl rfl rfl evf .nil Try.func63 rfl rfl ?_
  refine Calls.mono (flat_any _) ?_
  clear T
  rintro e wc ⟨gu1, rfl, N⟩
  intro ac T
  replace M := M.join N; clear N
  replace M := M.mask [true] rfl
  refine sh_out hK _ _ ?_; clear hK K
  refine l_w rfl ?_; intro K hK
  refine ow_call (first := []) (cap := []) T rfl rfl rfl rfl evf (.cons (T.ev 0 rfl) .nil) Try.func33 rfl rfl ?_
  refine Calls.mono (Window_ex _ _ (M.rdOwn (nthE_mem (i := 0) rfl) rfl rfl)) ?_
  clear T
  rintro e wc ⟨rfl, hb⟩
  intro ac T
  replace M := M.call hb; clear hb
  refine sh_out hK _ _ ?_; clear hK K
  refine l_q T rfl rfl rfl rfl (rn_move rfl (T.ev 0 rfl)) ?_; clear T ac; intro ac T
  refine l_q T rfl rfl rfl rfl (rn_extract rfl (T.ev 0 rfl) rfl) ?_; clear T ac; intro ac T
  refine l_q T rfl rfl rfl rfl (rn_extract rfl (T.ev 1 rfl) rfl) ?_; clear T ac; intro ac T
  refine l_w rfl ?_; intro K hK
  refine ow_al M T rfl rfl rfl rfl ?_; clear M T; intro g1 wc ac M T
  refine sh_out hK _ _ ?_; clear hK K
  refine l_w rfl ?_; intro K hK
  refine ow_stO M T rfl rfl (T.ev 0 rfl) (T.ev 2 rfl) rfl .head rfl (by simp) rfl (by kernel_rfl) ?_; clear M T; intro wc ac M T
  refine sh_out hK _ _ ?_; clear hK K
  refine l_q T rfl rfl rfl rfl (rn_assign rfl (T.ev 1 rfl)) ?_; clear T ac; intro ac T
  refine wpList_nil ?_
  replace T := T.pick [0, 1] rfl
  replace M := M.mask [true, false] rfl
  refine nm_then ?_
  refine wp_seq ?_
  refine wp_region_lit ?_
  refine l_w rfl ?_; intro K hK
  refine ow_call (first := []) (cap := []) T rfl rfl rfl rfl evf .nil Try.func63 rfl rfl ?_
  refine Calls.mono (flat_any _) ?_
  clear T
  rintro e wc ⟨gu3, rfl, N⟩
  intro ac T
  replace M := M.join N; clear N
  replace M := M.mask [true, true] rfl
  refine sh_out hK _ _ ?_; clear hK K
  refine l_w rfl ?_; intro K hK
  refine ow_bs (e := 3) [.int .i64 1, .int .i64 2] M T rfl rfl rfl rfl (.cons evc (.cons evc .nil)) (fun _ => by kernel_rfl) ?_; clear M T; intro g2 wc ac M T
  refine sh_out hK _ _ ?_; clear hK K
  refine l_w rfl ?_; intro K hK
  refine ow_call (first := []) (cap := []) T rfl rfl rfl rfl evf (.cons (T.ev 1 rfl) (.cons (T.ev 0 rfl) .nil)) Try.func34 rfl rfl ?_
  refine Calls.mono (After_ex _ _ _ (M.rdOwn (nthE_mem (i := 1) rfl) rfl rfl) (M.rdOwn (nthE_mem (i := 0) rfl) rfl rfl)) ?_
  clear T
  rintro e wc ⟨rfl, hb⟩
  intro ac T
  replace M := M.call hb; clear hb
  refine sh_out hK _ _ ?_; clear hK K
  refine l_q T rfl rfl rfl rfl (rn_move rfl (T.ev 0 rfl)) ?_; clear T ac; intro ac T
  refine l_q T rfl rfl rfl rfl (rn_extract rfl (T.ev 0 rfl) rfl) ?_; clear T ac; intro ac T
  refine l_q T rfl rfl rfl rfl (rn_extract rfl (T.ev 1 rfl) rfl) ?_; clear T ac; intro ac T
  refine l_w rfl ?_; intro K hK
  refine ow_al M T rfl rfl rfl rfl ?_; clear M T; intro g3 wc ac M T
  refine sh_out hK _ _ ?_; clear hK K
  refine l_w rfl ?_; intro K hK
  refine ow_stO M T rfl rfl (T.ev 0 rfl) (T.ev 2 rfl) rfl .head rfl (by simp) rfl (by kernel_rfl) ?_; clear M T; intro wc ac M T
  refine sh_out hK _ _ ?_; clear hK K
  refine l_q T rfl rfl rfl rfl (rn_assign rfl (T.ev 1 rfl)) ?_; clear T ac; intro ac T
  refine wpList_nil ?_
  replace T := T.pick [0, 1, 8, 9] rfl
  replace M := M.mask [true, false, false, true] rfl
  refine nm_then ?_
  refine wp_seq ?_
  refine wp_region_lit ?_
  refine l_w rfl ?_; intro K hK
  refine ow_call (first := []) (cap := []) T rfl rfl rfl rfl evf .nil Try.func64 rfl rfl ?_
  refine Calls.mono (sharper_any _) ?_
  clear T
  rintro e wc ⟨gu5, rfl, N⟩
  intro ac T
  replace M := M.join N; clear N
  replace M := M.mask [true, true, true] rfl
  refine sh_out hK _ _ ?_; clear hK K
  refine l_w rfl ?_; intro K hK
  refine ow_call (first := []) (cap := []) T rfl rfl rfl rfl evf (.cons (T.ev 0 rfl) .nil) Try.func19 rfl rfl ?_
  refine Calls.mono (Shortest_ex _ _ (M.rdOwn (nthE_mem (i := 0) rfl) rfl rfl)) ?_
  clear T
  rintro e wc ⟨Au6, cu6, Iu6, rfl, hsnu6, N⟩
  intro ac T
  obtain ⟨bu6, ou6, Su6⟩ := hsnu6.sp (w := w) (ex := noEx) rfl
  replace M := (M.join N).swapI
  replace M := M.mask [true, true, true] rfl
  clear N hsnu6
  refine sh_out hK _ _ ?_; clear hK K
  refine l_q T rfl rfl rfl rfl (rn_move rfl (T.ev 0 rfl)) ?_; clear T ac; intro ac T
  refine l_q T rfl rfl rfl rfl (rn_extract rfl (T.ev 0 rfl) rfl) ?_; clear T ac; intro ac T
  refine l_q T rfl rfl rfl rfl (rn_extract rfl (T.ev 1 rfl) rfl) ?_; clear T ac; intro ac T
  refine l_q T rfl rfl rfl rfl (rn_assign rfl (T.ev 1 rfl)) ?_; clear T ac; intro ac T
  refine l_q T rfl rfl rfl rfl (rn_assign rfl (T.ev 1 rfl)) ?_; clear T ac; intro ac T
  refine wpList_nil ?_
  replace T := T.pick [0, 1, 7, 8, 9, 10] rfl
  replace M := M.mask [false, true, true] rfl
  refine nm_then ?_
  refine wp_seq ?_
  refine wp_region_lit ?_
  refine l_w rfl ?_; intro K hK
  refine ow_call (first := []) (cap := []) T rfl rfl rfl rfl evf .nil Try.func63 rfl rfl ?_
  refine Calls.mono (flat_any _) ?_
  clear T
  rintro e wc ⟨gu7, rfl, N⟩
  intro ac T
  replace M := M.join N; clear N
  replace M := M.mask [true, true, true] rfl
  refine sh_out hK _ _ ?_; clear hK K
  refine l_w rfl ?_; intro K hK
  refine ow_call (first := []) (cap := []) T rfl rfl rfl rfl evf (.cons (T.ev 0 rfl) .nil) Try.func24 rfl rfl ?_
  refine Calls.mono (Guided_ex _ _ (M.rdOwn (nthE_mem (i := 0) rfl) rfl rfl)) ?_
  clear T
  rintro e wc ⟨rfl, hb⟩
  intro ac T
  replace M := M.call hb; clear hb
  refine sh_out hK _ _ ?_; clear hK K
  refine l_q T rfl rfl rfl rfl (rn_move rfl (T.ev 0 rfl)) ?_; clear T ac; intro ac T
  refine l_q T rfl rfl rfl rfl (rn_extract rfl (T.ev 0 rfl) rfl) ?_; clear T ac; intro ac T
  refine l_q T rfl rfl rfl rfl (rn_extract rfl (T.ev 1 rfl) rfl) ?_; clear T ac; intro ac T
  refine l_q T rfl rfl rfl rfl (rn_assign rfl (T.ev 1 rfl)) ?_; clear T ac; intro ac T
  refine l_q T rfl rfl rfl rfl (rn_assign rfl (T.ev 1 rfl)) ?_; clear T ac; intro ac T
  refine wpList_nil ?_
  replace T := T.pick [0, 1, 7, 8, 9, 10, 11, 12] rfl
  replace M := M.mask [false, true, true] rfl
  refine nm_then ?_
  refine wp_seq ?_
  refine wp_region_lit ?_
  refine l_w rfl ?_; intro K hK
  refine ow_call (first := []) (cap := []) T rfl rfl rfl rfl evf (.cons evc (.cons evc .nil)) Try.func31 rfl rfl ?_
  refine Calls.mono (to_any 4 6 _) ?_
  clear T
  rintro e wc ⟨rfl, hb⟩
  intro ac T
  replace M := M.call hb; clear hb
  refine sh_out hK _ _ ?_; clear hK K
  refine l_w rfl ?_; intro K hK
  refine ow_call (first := []) (cap := []) T rfl rfl rfl rfl evf (.cons (T.ev 0 rfl) .nil) Try.func65 rfl rfl ?_
  refine Calls.mono (job_any 4 6 _) ?_
  clear T
  rintro e wc ⟨gu10, rfl, N⟩
  intro ac T
  replace M := M.join N; clear N
  replace M := M.mask [true, true, true] rfl
  refine sh_out hK _ _ ?_; clear hK K
  refine l_w rfl ?_; intro K hK
  refine ow_call (first := []) (cap := []) T rfl rfl rfl rfl evf (.cons (T.ev 0 rfl) .nil) Try.func26 rfl rfl ?_
  refine Calls.mono (Next_ex _ _ (M.rdOwn (nthE_mem (i := 0) rfl) rfl rfl)) ?_
  clear T
  rintro e wc ⟨rfl, hb⟩
  intro ac T
  replace M := M.call hb; clear hb
  refine sh_out hK _ _ ?_; clear hK K
  refine l_q T rfl rfl rfl rfl (rn_move rfl (T.ev 0 rfl)) ?_; clear T ac; intro ac T
  refine l_q T rfl rfl rfl rfl (rn_extract rfl (T.ev 0 rfl) rfl) ?_; clear T ac; intro ac T
  refine l_q T rfl rfl rfl rfl (rn_extract rfl (T.ev 1 rfl) rfl) ?_; clear T ac; intro ac T
  refine l_q T rfl rfl rfl rfl (rn_extract rfl (T.ev 2 rfl) rfl) ?_; clear T ac; intro ac T
  refine l_q T rfl rfl rfl rfl (rn_assign rfl (T.ev 2 rfl)) ?_; clear T ac; intro ac T
  refine l_q T rfl rfl rfl rfl (rn_assign rfl (T.ev 2 rfl)) ?_; clear T ac; intro ac T
  refine l_q T rfl rfl rfl rfl (rn_assign rfl (T.ev 2 rfl)) ?_; clear T ac; intro ac T
  refine wpList_nil ?_
  replace T := T.pick [0, 1, 2, 10, 11, 12, 13, 14, 15, 16, 17] rfl
  replace M := M.mask [false, true, true] rfl
  refine nm_then ?_
  refine wp_seq ?_
  refine g_start2 M (M.mask [true, true] rfl) 49 (by kernel_rfl) rfl (by kernel_rfl) ?_
  clear M; intro wc M
  refine g_q (T := T) (i := 0) rfl (by kernel_rfl) (by kernel_rfl : (pbits 49 0).setIfInBounds 0 true = pbits 49 1) si_U (fun _ _ _ h => h) rfl rfl rfl rfl (fun _ _ _ _ _ => (rn_move rfl (T.ev 9 rfl))) ?_; clear T ac; intro ac T
  refine g_q (v := (.bool true)) (T := T) (i := 1) rfl (by kernel_rfl) (by kernel_rfl : (pbits 49 1).setIfInBounds 1 true = pbits 49 3) si_U (fun _ _ _ h => h) rfl rfl rfl rfl (fun _ _ _ _ _ => (rn_neqof (rn_eql rfl (T.ev 0 rfl) evc) (by simp))) ?_; clear T ac; intro ac T
  refine g_q (T := T) (i := 2) rfl (by kernel_rfl) (by kernel_rfl : (pbits 49 3).setIfInBounds 2 true = pbits 49 7) si_U (fun _ _ _ h => h) rfl rfl rfl rfl (fun _ _ _ _ _ => (rn_move rfl (T.ev 0 rfl))) ?_; clear T ac; intro ac T
  refine g_q (T := T) (i := 3) rfl (by kernel_rfl) (by kernel_rfl : (pbits 49 7).setIfInBounds 3 true = pbits 49 15) si_U (fun _ _ _ h => h) (wanted_yes rfl rfl (T.ev 0 rfl) rfl) rfl rfl rfl (fun _ _ _ _ _ => (rn_move rfl (T.ev 10 rfl))) ?_; clear T ac; intro ac T
  refine g_q (v := (.bool true)) (T := T) (i := 4) rfl (by kernel_rfl) (by kernel_rfl : (pbits 49 15).setIfInBounds 4 true = pbits 49 31) si_U (fun _ _ _ h => h) (wanted_yes rfl rfl (T.ev 1 rfl) rfl) rfl rfl rfl (fun _ _ _ _ _ => (rn_neqof (rn_eql rfl (T.ev 0 rfl) evc) (by simp))) ?_; clear T ac; intro ac T
  refine g_q (T := T) (i := 5) rfl (by kernel_rfl) (by kernel_rfl : (pbits 49 31).setIfInBounds 5 true = pbits 49 63) si_U (fun _ _ _ h => h) rfl rfl rfl rfl (fun _ _ _ _ _ => (rn_pick1 rfl (T.ev 2 rfl) rfl (T.ev 0 rfl))) ?_; clear T ac; intro ac T
  refine g_q (T := T) (i := 6) rfl (by kernel_rfl) (by kernel_rfl : (pbits 49 63).setIfInBounds 6 true = pbits 49 127) si_U (fun _ _ _ h => h) rfl rfl rfl rfl (fun _ _ _ _ _ => (rn_move rfl (T.ev 0 rfl))) ?_; clear T ac; intro ac T
  refine g_q (T := T) (i := 7) rfl (by kernel_rfl) (by kernel_rfl : (pbits 49 127).setIfInBounds 7 true = pbits 49 255) si_U (fun _ _ _ h => h) (wanted_yes rfl rfl (T.ev 0 rfl) rfl) rfl rfl rfl (fun _ _ _ _ _ => (rn_move rfl (T.ev 12 rfl))) ?_; clear T ac; intro ac T
  refine g_q (v := (.bool true)) (T := T) (i := 8) rfl (by kernel_rfl) (by kernel_rfl : (pbits 49 255).setIfInBounds 8 true = pbits 49 511) si_U (fun _ _ _ h => h) (wanted_yes rfl rfl (T.ev 1 rfl) rfl) rfl rfl rfl (fun _ _ _ _ _ => (rn_neqof (rn_eql rfl (T.ev 0 rfl) evc) (by simp))) ?_; clear T ac; intro ac T
  refine g_q (T := T) (i := 9) rfl (by kernel_rfl) (by kernel_rfl : (pbits 49 511).setIfInBounds 9 true = pbits 49 1023) si_U (fun _ _ _ h => h) rfl rfl rfl rfl (fun _ _ _ _ _ => (rn_pick1 rfl (T.ev 2 rfl) rfl (T.ev 0 rfl))) ?_; clear T ac; intro ac T
  refine g_q (T := T) (i := 10) rfl (by kernel_rfl) (by kernel_rfl : (pbits 49 1023).setIfInBounds 10 true = pbits 49 2047) si_U (fun _ _ _ h => h) rfl rfl rfl rfl (fun _ _ _ _ _ => (rn_move rfl (T.ev 0 rfl))) ?_; clear T ac; intro ac T
  refine g_q (T := T) (i := 11) rfl (by kernel_rfl) (by kernel_rfl : (pbits 49 2047).setIfInBounds 11 true = pbits 49 4095) si_U (fun _ _ _ h => h) (wanted_yes rfl rfl (T.ev 0 rfl) rfl) rfl rfl rfl (fun _ _ _ _ _ => (rn_move rfl (T.ev 14 rfl))) ?_; clear T ac; intro ac T
  refine g_q (v := (.bool true)) (T := T) (i := 12) rfl (by kernel_rfl) (by kernel_rfl : (pbits 49 4095).setIfInBounds 12 true = pbits 49 8191) si_U (fun _ _ _ h => h) (wanted_yes rfl rfl (T.ev 1 rfl) rfl) rfl rfl rfl (fun _ _ _ _ _ => (rn_neqof (rn_eql rfl (T.ev 0 rfl) evc) (by simp))) ?_; clear T ac; intro ac T
  refine g_q (T := T) (i := 13) rfl (by kernel_rfl) (by kernel_rfl : (pbits 49 8191).setIfInBounds 13 true = pbits 49 16383) si_U (fun _ _ _ h => h) rfl rfl rfl rfl (fun _ _ _ _ _ => (rn_pick1 rfl (T.ev 2 rfl) rfl (T.ev 0 rfl))) ?_; clear T ac; intro ac T
  refine g_q (T := T) (i := 14) rfl (by kernel_rfl) (by kernel_rfl : (pbits 49 16383).setIfInBounds 14 true = pbits 49 32767) si_U (fun _ _ _ h => h) rfl rfl rfl rfl (fun _ _ _ _ _ => (rn_move rfl (T.ev 0 rfl))) ?_; clear T ac; intro ac T
  refine g_q (T := T) (i := 15) rfl (by kernel_rfl) (by kernel_rfl : (pbits 49 32767).setIfInBounds 15 true = pbits 49 65535) si_U (fun _ _ _ h => h) (wanted_yes rfl rfl (T.ev 0 rfl) rfl) rfl rfl rfl (fun _ _ _ _ _ => (rn_move rfl (T.ev 15 rfl))) ?_; clear T ac; intro ac T
  refine g_q (v := (.bool true)) (T := T) (i := 16) rfl (by kernel_rfl) (by kernel_rfl : (pbits 49 65535).setIfInBounds 16 true = pbits 49 131071) si_U (fun _ _ _ h => h) (wanted_yes rfl rfl (T.ev 1 rfl) rfl) rfl rfl rfl (fun _ _ _ _ _ => (rn_neqof (rn_eql rfl (T.ev 0 rfl) evc) (by simp))) ?_; clear T ac; intro ac T
  refine g_q (T := T) (i := 17) rfl (by kernel_rfl) (by kernel_rfl : (pbits 49 131071).setIfInBounds 17 true = pbits 49 262143) si_U (fun _ _ _ h => h) rfl rfl rfl rfl (fun _ _ _ _ _ => (rn_pick1 rfl (T.ev 2 rfl) rfl (T.ev 0 rfl))) ?_; clear T ac; intro ac T
  refine g_q (T := T) (i := 18) rfl (by kernel_rfl) (by kernel_rfl : (pbits 49 262143).setIfInBounds 18 true = pbits 49 524287) si_U (fun _ _ _ h => h) rfl rfl rfl rfl (fun _ _ _ _ _ => (rn_move rfl (T.ev 0 rfl))) ?_; clear T ac; intro ac T
  refine g_q (T := T) (i := 19) rfl (by kernel_rfl) (by kernel_rfl : (pbits 49 524287).setIfInBounds 19 true = pbits 49 1048575) si_U (fun _ _ _ h => h) (wanted_yes rfl rfl (T.ev 0 rfl) rfl) rfl rfl rfl (fun B w' hD hl hS => (rn_rowO (Mem.nth (show Mem w noEx w' _ from hS) 1 rfl) rfl (T.ev 29 rfl) rfl)) ?_; clear T ac; intro ac T
  refine g_w (i := 20) (by kernel_rfl) rfl (by kernel_rfl : (pbits 49 1048575).setIfInBounds 20 true = pbits 49 2097151) (wanted_yes rfl rfl (T.ev 1 rfl) rfl) ?_; intro K hK
  refine ow_call (first := []) (cap := []) T rfl rfl rfl rfl evf (.cons evc (.cons evc .nil)) Try.func31 rfl rfl ?_
  refine Calls.mono (to_any (-3) 2 _) ?_
  clear T
  rintro e wc ⟨rfl, hb⟩
  intro ac T
  replace M := M.call hb; clear hb
  refine sh_out hK _ _ (M.mask [true, true] rfl) ?_; clear hK K
  refine g_addU M ?_
  refine g_q (v := (.bool true)) (T := T) (i := 21) rfl (by kernel_rfl) (by kernel_rfl : (pbits 49 2097151).setIfInBounds 21 true = pbits 49 4194303) (si_and si_U si_U) (fun _ _ _ h => h) (wanted_yes rfl rfl (T.ev 2 rfl) rfl) rfl rfl rfl (fun _ _ _ _ _ => (rn_neqof (rn_bin rfl (T.ev 1 rfl) (T.ev 0 rfl) eqT23) (by simp))) ?_; clear T ac; intro ac T
  refine g_q (T := T) (i := 22) rfl (by kernel_rfl) (by kernel_rfl : (pbits 49 4194303).setIfInBounds 22 true = pbits 49 8388607) (si_and si_U si_U) (fun _ _ _ h => h) rfl rfl rfl rfl (fun _ _ _ _ _ => (rn_pick1 rfl (T.ev 3 rfl) rfl (T.ev 0 rfl))) ?_; clear T ac; intro ac T
  refine g_q (T := T) (i := 23) rfl (by kernel_rfl) (by kernel_rfl : (pbits 49 8388607).setIfInBounds 23 true = pbits 49 16777215) (si_and si_U si_U) (fun _ _ _ h => h) rfl rfl rfl rfl (fun _ _ _ _ _ => (rn_move rfl (T.ev 0 rfl))) ?_; clear T ac; intro ac T
  refine g_q (T := T) (i := 24) rfl (by kernel_rfl) (by kernel_rfl : (pbits 49 16777215).setIfInBounds 24 true = pbits 49 33554431) (si_and si_U si_U) (fun _ _ _ h => h) (wanted_yes rfl rfl (T.ev 0 rfl) rfl) rfl rfl rfl (fun B w' hD hl hS => (rn_rowO (Mem.nth (show Mem w noEx w' _ from (MA.lft hS)) 0 rfl) rfl (T.ev 32 rfl) rfl)) ?_; clear T ac; intro ac T
  refine g_w (i := 25) (by kernel_rfl) rfl (by kernel_rfl : (pbits 49 33554431).setIfInBounds 25 true = pbits 49 67108863) (wanted_yes rfl rfl (T.ev 1 rfl) rfl) ?_; intro K hK
  refine ow_call (first := []) (cap := []) T rfl rfl rfl rfl evf (.cons evc (.cons evc .nil)) Try.func31 rfl rfl ?_
  refine Calls.mono (to_any (-12) (-6) _) ?_
  clear T
  rintro e wc ⟨rfl, hb⟩
  intro ac T
  replace M := M.call hb; clear hb
  refine sh_out hK _ _ (MA.mk (M.mask [true, true] rfl) (M.mask [true, true] rfl)) ?_; clear hK K
  refine g_w (i := 26) (by kernel_rfl) rfl (by kernel_rfl : (pbits 49 67108863).setIfInBounds 26 true = pbits 49 134217727) (wanted_yes rfl rfl (T.ev 2 rfl) rfl) ?_; intro K hK
  refine ow_call (first := []) (cap := []) T rfl rfl rfl rfl evf (.cons evc (.cons evc .nil)) Try.func31 rfl rfl ?_
  refine Calls.mono (to_any 28 31 _) ?_
  clear T
  rintro e wc ⟨rfl, hb⟩
  intro ac T
  replace M := M.call hb; clear hb
  refine sh_out hK _ _ (MA.mk (M.mask [true, true] rfl) (M.mask [true, true] rfl)) ?_; clear hK K
  refine g_w (i := 27) (by kernel_rfl) rfl (by kernel_rfl : (pbits 49 134217727).setIfInBounds 27 true = pbits 49 268435455) (wanted_yes rfl rfl (T.ev 3 rfl) rfl) ?_; intro K hK
  refine ow_call (first := []) (cap := []) T rfl rfl rfl rfl evf (.cons evc (.cons evc .nil)) Try.func31 rfl rfl ?_
  refine Calls.mono (to_any 39 40 _) ?_
  clear T
  rintro e wc ⟨rfl, hb⟩
  intro ac T
  replace M := M.call hb; clear hb
  refine sh_out hK _ _ (MA.mk (M.mask [true, true] rfl) (M.mask [true, true] rfl)) ?_; clear hK K
  refine g_q (v := (.agg #[.int .i64 (-12), .int .i64 (-6), .int .i64 28, .int .i64 31, .int .i64 39, .int .i64 40])) (T := T) (i := 28) rfl (by kernel_rfl) (by kernel_rfl : (pbits 49 268435455).setIfInBounds 28 true = pbits 49 536870911) (si_and si_U si_U) (fun _ _ _ h => h) (wanted_yes rfl rfl (T.ev 4 rfl) rfl) rfl rfl rfl (fun _ _ _ _ _ => (rn_build rfl (.cons (T.ev 2 rfl) (.cons (T.ev 1 rfl) (.cons (T.ev 0 rfl) .nil))) (fun _ => by kernel_rfl))) ?_; clear T ac; intro ac T
  refine g_q (v := (.bool true)) (T := T) (i := 29) rfl (by kernel_rfl) (by kernel_rfl : (pbits 49 536870911).setIfInBounds 29 true = pbits 49 1073741823) (si_and si_U si_U) (fun _ _ _ h => h) (wanted_yes rfl rfl (T.ev 5 rfl) rfl) rfl rfl rfl (fun _ _ _ _ _ => (rn_neqof (rn_bin rfl (T.ev 4 rfl) (T.ev 0 rfl) eqT25) (by simp))) ?_; clear T ac; intro ac T
  refine g_q (T := T) (i := 30) rfl (by kernel_rfl) (by kernel_rfl : (pbits 49 1073741823).setIfInBounds 30 true = pbits 49 2147483647) (si_and si_U si_U) (fun _ _ _ h => h) rfl rfl rfl rfl (fun _ _ _ _ _ => (rn_pick1 rfl (T.ev 6 rfl) rfl (T.ev 0 rfl))) ?_; clear T ac; intro ac T
  refine g_q (T := T) (i := 31) rfl (by kernel_rfl) (by kernel_rfl : (pbits 49 2147483647).setIfInBounds 31 true = pbits 49 4294967295) (si_and si_U si_U) (fun _ _ _ h => h) rfl rfl rfl rfl (fun _ _ _ _ _ => (rn_move rfl (T.ev 0 rfl))) ?_; clear T ac; intro ac T
  refine g_q (T := T) (i := 32) rfl (by kernel_rfl) (by kernel_rfl : (pbits 49 4294967295).setIfInBounds 32 true = pbits 49 8589934591) (si_and si_U si_U) (fun _ _ _ h => h) (wanted_yes rfl rfl (T.ev 0 rfl) rfl) rfl rfl rfl (fun _ _ _ _ _ => (rn_move rfl (T.ev 36 rfl))) ?_; clear T ac; intro ac T
  refine g_q (v := (.bool true)) (T := T) (i := 33) rfl (by kernel_rfl) (by kernel_rfl : (pbits 49 8589934591).setIfInBounds 33 true = pbits 49 17179869183) (si_and si_U si_U) (fun _ _ _ h => h) (wanted_yes rfl rfl (T.ev 1 rfl) rfl) rfl rfl rfl (fun _ _ _ _ _ => (rn_neqof (rn_eql rfl (T.ev 0 rfl) evc) (by simp))) ?_; clear T ac; intro ac T
  refine g_q (T := T) (i := 34) rfl (by kernel_rfl) (by kernel_rfl : (pbits 49 17179869183).setIfInBounds 34 true = pbits 49 34359738367) (si_and si_U si_U) (fun _ _ _ h => h) rfl rfl rfl rfl (fun _ _ _ _ _ => (rn_pick1 rfl (T.ev 2 rfl) rfl (T.ev 0 rfl))) ?_; clear T ac; intro ac T
  refine g_q (T := T) (i := 35) rfl (by kernel_rfl) (by kernel_rfl : (pbits 49 34359738367).setIfInBounds 35 true = pbits 49 68719476735) (si_and si_U si_U) (fun _ _ _ h => h) rfl rfl rfl rfl (fun _ _ _ _ _ => (rn_move rfl (T.ev 0 rfl))) ?_; clear T ac; intro ac T
  refine g_q (T := T) (i := 36) rfl (by kernel_rfl) (by kernel_rfl : (pbits 49 68719476735).setIfInBounds 36 true = pbits 49 137438953471) (si_and si_U si_U) (fun _ _ _ h => h) (wanted_yes rfl rfl (T.ev 0 rfl) rfl) rfl rfl rfl (fun _ _ _ _ _ => (rn_move rfl (T.ev 38 rfl))) ?_; clear T ac; intro ac T
  refine g_q (v := (.bool true)) (T := T) (i := 37) rfl (by kernel_rfl) (by kernel_rfl : (pbits 49 137438953471).setIfInBounds 37 true = pbits 49 274877906943) (si_and si_U si_U) (fun _ _ _ h => h) (wanted_yes rfl rfl (T.ev 1 rfl) rfl) rfl rfl rfl (fun _ _ _ _ _ => (rn_neqof (rn_eql rfl (T.ev 0 rfl) evc) (by simp))) ?_; clear T ac; intro ac T
  refine g_q (T := T) (i := 38) rfl (by kernel_rfl) (by kernel_rfl : (pbits 49 274877906943).setIfInBounds 38 true = pbits 49 549755813887) (si_and si_U si_U) (fun _ _ _ h => h) rfl rfl rfl rfl (fun _ _ _ _ _ => (rn_pick1 rfl (T.ev 2 rfl) rfl (T.ev 0 rfl))) ?_; clear T ac; intro ac T
  refine g_q (T := T) (i := 39) rfl (by kernel_rfl) (by kernel_rfl : (pbits 49 549755813887).setIfInBounds 39 true = pbits 49 1099511627775) (si_and si_U si_U) (fun _ _ _ h => h) rfl rfl rfl rfl (fun _ _ _ _ _ => (rn_move rfl (T.ev 0 rfl))) ?_; clear T ac; intro ac T
  refine g_q (T := T) (i := 40) rfl (by kernel_rfl) (by kernel_rfl : (pbits 49 1099511627775).setIfInBounds 40 true = pbits 49 2199023255551) (si_and si_U si_U) (fun _ _ _ h => h) (wanted_yes rfl rfl (T.ev 0 rfl) rfl) rfl rfl rfl (fun _ _ _ _ _ => (rn_move rfl (T.ev 41 rfl))) ?_; clear T ac; intro ac T
  refine g_q (v := (.bool true)) (T := T) (i := 41) rfl (by kernel_rfl) (by kernel_rfl : (pbits 49 2199023255551).setIfInBounds 41 true = pbits 49 4398046511103) (si_and si_U si_U) (fun _ _ _ h => h) (wanted_yes rfl rfl (T.ev 1 rfl) rfl) rfl rfl rfl (fun _ _ _ _ _ => (rn_neqof (rn_eql rfl (T.ev 0 rfl) evc) (by simp))) ?_; clear T ac; intro ac T
  refine g_q (T := T) (i := 42) rfl (by kernel_rfl) (by kernel_rfl : (pbits 49 4398046511103).setIfInBounds 42 true = pbits 49 8796093022207) (si_and si_U si_U) (fun _ _ _ h => h) rfl rfl rfl rfl (fun _ _ _ _ _ => (rn_pick1 rfl (T.ev 2 rfl) rfl (T.ev 0 rfl))) ?_; clear T ac; intro ac T
  refine g_q (T := T) (i := 43) rfl (by kernel_rfl) (by kernel_rfl : (pbits 49 8796093022207).setIfInBounds 43 true = pbits 49 17592186044415) (si_and si_U si_U) (fun _ _ _ h => h) rfl rfl rfl rfl (fun _ _ _ _ _ => (rn_move rfl (T.ev 0 rfl))) ?_; clear T ac; intro ac T
  refine g_q (T := T) (i := 44) rfl (by kernel_rfl) (by kernel_rfl : (pbits 49 17592186044415).setIfInBounds 44 true = pbits 49 35184372088831) (si_and si_U si_U) (fun _ _ _ h => h) (wanted_yes rfl rfl (T.ev 0 rfl) rfl) rfl rfl rfl (fun _ _ _ _ _ => (rn_move rfl (T.ev 50 rfl))) ?_; clear T ac; intro ac T
  refine g_w (i := 45) (by kernel_rfl) rfl (by kernel_rfl : (pbits 49 35184372088831).setIfInBounds 45 true = pbits 49 70368744177663) (wanted_yes rfl rfl (T.ev 1 rfl) rfl) ?_; intro K hK
  refine ow_bs (e := 3) [.int .i64 1, .int .i64 1] M T rfl rfl rfl rfl (.cons evc (.cons evc .nil)) (fun _ => by kernel_rfl) ?_; clear M T; intro g4 wc ac M T
  refine sh_out hK _ _ (MA.mk (M.mask [false, true, true] rfl) (M.mask [false, true, true] rfl)) ?_; clear hK K
  refine g_w (i := 46) (by kernel_rfl) rfl (by kernel_rfl : (pbits 49 70368744177663).setIfInBounds 46 true = pbits 49 140737488355327) (wanted_yes rfl rfl (T.ev 2 rfl) rfl) ?_; intro K hK
  refine ow_call (first := []) (cap := []) T rfl rfl rfl rfl evf (.cons (T.ev 1 rfl) (.cons (T.ev 0 rfl) .nil)) Try.func21 rfl rfl ?_
  refine Calls.mono (sameInts_same _ _ _ _ _ _ ([1, 1]) _ (Su6.rd M (.cons _ (.cons _ (.cons _ (List.Sublist.refl _))))) (M.rdOwn (nthE_mem (i := 0) rfl) rfl rfl) (by first | omega | decide | (simp; omega)) (by first | omega | decide | (simp; omega))) ?_
  clear T
  rintro e wc ⟨rfl, hb⟩
  intro ac T
  replace M := M.call hb; clear hb
  refine sh_out hK _ _ (MA.mk (M.mask [false, true, true] rfl) (M.mask [false, true, true] rfl)) ?_; clear hK K
  refine g_q (T := T) (i := 47) rfl (by kernel_rfl) (by kernel_rfl : (pbits 49 140737488355327).setIfInBounds 47 true = pbits 49 281474976710655) (si_and si_U si_U) (fun _ _ _ h => h) rfl rfl rfl rfl (fun _ _ _ _ _ => (rn_pick1 rfl (T.ev 3 rfl) rfl (T.ev 0 rfl))) ?_; clear T ac; intro ac T
  refine g_q (T := T) (i := 48) rfl (by kernel_rfl) (by kernel_rfl : (pbits 49 281474976710655).setIfInBounds 48 true = pbits 49 562949953421311) (si_and si_U si_U) (fun _ _ _ h => h) rfl rfl rfl rfl (fun _ _ _ _ _ => (rn_assign rfl (T.ev 0 rfl))) ?_; clear T ac; intro ac T
  refine g_done (by kernel_rfl) ?_
  replace T := T.pick [0] rfl
  replace M := M.mask [false, false, false] rfl
  refine nm_then ?_
  refine wp_ret ?_
  refine rt_1 T rfl (T.ev 0 rfl) ?_
  exact ⟨rfl, M.below⟩

end Go.Proofs.Ythlpceoajhcliaa
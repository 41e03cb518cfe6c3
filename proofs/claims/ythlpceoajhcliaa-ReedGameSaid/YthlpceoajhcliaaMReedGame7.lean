/-
  Walks of functions, and plain laws (texts put together). No condition.
-/
import Derived.Test.YthlpceoajhcliaaMReedGame1
import Derived.Test.YthlpceoajhcliaaMReedGame2
import Derived.Test.YthlpceoajhcliaaMReedGame3
import Derived.Test.YthlpceoajhcliaaMReedGame4
import Derived.Test.YthlpceoajhcliaaMReedGame5
import Derived.Test.YthlpceoajhcliaaMReedGame6

section
/-
  The chapter's examples hold.
-/
namespace Go.Proofs.Ythlpceoajhcliaa
set_option linter.unusedSimpArgs false
set_option linter.unusedVariables false
open Go.RowKit

def exJ (p0 p1 : Int) : Jb := { p0 := p0, p1 := p1, t0 := 30, t1 := 32, r0 := 40, r1 := 41, u0 := 3, u1 := 4, d0 := 2, d1 := 3, a0 := 1, a1 := 2, b0 := 1, b1 := 1, le := 20, sh := [(-2, 1), (0, 3)], wi := 5, me := 1 }
def JobPost (j : Jb) (w : World) (e : Ending) (w' : World) : Prop := ∃ g, e = .returned (jobV j (some ⟨g, 0, none⟩) 2) ∧ Mem w noEx w' [(g, .cells (rc j.sh))]
section
set_option maxRecDepth 100000
theorem ex_window : windowJ (exJ (-12) (-8)) = ((-3, 2), 0) := by decide +kernel
theorem ex_strokes : checkStrokesJ (exJ (-12) (-8)) [1, 2] = 0 := by decide +kernel
theorem ex_after : afterC (exJ (-12) (-8)) [1, 2] = #[.int .i64 (-12), .int .i64 (-6), .int .i64 28, .int .i64 31, .int .i64 39, .int .i64 40] := by
  unfold afterC
  rw [if_pos ex_strokes]
  rfl
theorem ex_short : shortL (exJ (-9) (-9)) = [1, 1] := by decide +kernel
theorem ex_shortE : shortE (exJ (-9) (-9)) = 0 := by decide +kernel
theorem ex_guided : guidedJ (exJ (-12) (-8)) = (3, 0) := by decide +kernel
theorem ex_next : nextJ (exJ 4 6) = (2, 2, 0) := by decide +kernel
end
theorem Window_ex (g : Nat) (w : World) (hr : Rd w w.heap.size 2 (some ⟨g, 0, none⟩) 2 (rc [(-2, 1), (0, 3)])) :
    Calls Try.prog 33 #[jobV (exJ (-12) (-8)) (some ⟨g, 0, none⟩) 2] w fun e w' => e = .returned (.tuple #[R2 (-3) 2, .int .i64 0]) ∧ Below w.heap.size w w' := by
  have h := Window_any (exJ (-12) (-8)) (some ⟨g, 0, none⟩) 2 w hr (by decide)
  rw [ex_window] at h
  exact h
theorem After_ex (g g' : Nat) (w : World) (hr : Rd w w.heap.size 2 (some ⟨g, 0, none⟩) 2 (rc [(-2, 1), (0, 3)])) (hl : Rd w w.heap.size 1 (some ⟨g', 0, none⟩) 2 (ic [1, 2])) :
    Calls Try.prog 34 #[jobV (exJ (-12) (-8)) (some ⟨g, 0, none⟩) 2, .slice (some ⟨g', 0, none⟩) 2 2] w fun e w' => e = .returned (.tuple #[.agg #[.int .i64 (-12), .int .i64 (-6), .int .i64 28, .int .i64 31, .int .i64 39, .int .i64 40], .int .i64 0]) ∧ Below w.heap.size w w' := by
  have h := After_any (exJ (-12) (-8)) (some ⟨g, 0, none⟩) 2 (some ⟨g', 0, none⟩) 2 2 [1, 2] w hr (by decide) hl (by decide)
  rw [ex_after, ex_strokes] at h
  exact h
theorem Shortest_ex (g : Nat) (w : World) (hr : Rd w w.heap.size 2 (some ⟨g, 0, none⟩) 2 (rc [(-2, 1), (0, 3)])) :
    Calls Try.prog 19 #[jobV (exJ (-9) (-9)) (some ⟨g, 0, none⟩) 2] w (ShortPost2 [1, 1] 0 w) := by
  have h := Shortest_own (exJ (-9) (-9)) (some ⟨g, 0, none⟩) 2 w hr (by decide)
  rw [ex_short, ex_shortE] at h
  exact h
theorem Guided_ex (g : Nat) (w : World) (hr : Rd w w.heap.size 2 (some ⟨g, 0, none⟩) 2 (rc [(-2, 1), (0, 3)])) :
    Calls Try.prog 24 #[jobV (exJ (-12) (-8)) (some ⟨g, 0, none⟩) 2] w fun e w' => e = .returned (.tuple #[.int .i64 3, .int .i64 0]) ∧ Below w.heap.size w w' := by
  have h := Guided_any (exJ (-12) (-8)) (some ⟨g, 0, none⟩) 2 w hr (by decide)
  rw [ex_guided] at h
  exact h
theorem Next_ex (g : Nat) (w : World) (hr : Rd w w.heap.size 2 (some ⟨g, 0, none⟩) 2 (rc [(-2, 1), (0, 3)])) :
    Calls Try.prog 26 #[jobV (exJ 4 6) (some ⟨g, 0, none⟩) 2] w fun e w' => e = .returned (.tuple #[.int .i64 2, .int .i64 2, .int .i64 0]) ∧ Below w.heap.size w w' := by
  have h := Next_any (exJ 4 6) (some ⟨g, 0, none⟩) 2 w hr (by decide)
  rw [ex_next] at h
  exact h


set_option maxRecDepth 100000 in
set_option maxHeartbeats 1000000 in
theorem job_any (p0 p1 : Int) (w : World)  :
    Calls Try.prog 65 #[.agg #[.int .i64 p0, .int .i64 p1]] w (JobPost (exJ p0 p1) w) := by
  refine px_enter noEx Try.func65 rfl 16 rfl [.agg #[.int .i64 p0, .int .i64 p1]] rfl rfl (Mem.init w _) ?_
  intro ac wc T M
  refine wp_seq ?_
  refine wp_region_lit ?_
  refine l_w rfl ?_; intro K hK
  refine ow_bx M T rfl rfl rfl rfl (T.ev 0 rfl) rfl ?_; clear M T; intro g1 wc ac M T
  refine sh_out hK _ _ ?_; clear hK K
  refine l_w rfl ?_; intro K hK
  refine ow_al M T rfl rfl rfl rfl ?_; clear M T; intro g2 wc ac M T
  refine sh_out hK _ _ ?_; clear hK K
  refine wpList_nil ?_
  replace T := T.pick [0, 1] rfl
  refine nm_then ?_
  refine wp_seq ?_
  refine g_start2 M (M.perm [1] rfl rfl) 14 (by kernel_rfl) rfl (by kernel_rfl) ?_
  clear M; intro wc M
  refine g_addG 13 M ?_
  refine g_q (T := T) (i := 0) rfl (by kernel_rfl) (by kernel_rfl : (pbits 14 0).setIfInBounds 0 true = pbits 14 1) (si_and (si_G rfl) si_U) (fun _ _ _ h => h) rfl rfl rfl rfl (fun B w' hD hl hS => (rn_rowO (Mem.nth (show Mem w noEx w' _ from ((MA.lft hS) (hD.wait (i := 0) (m := 13) (by kernel_rfl) hl))) 1 rfl) rfl (T.ev 1 rfl) rfl)) ?_; clear T ac; intro ac T
  refine g_w (i := 1) (by kernel_rfl) rfl (by kernel_rfl : (pbits 14 1).setIfInBounds 1 true = pbits 14 3) rfl ?_; intro K hK
  refine ow_call (first := []) (cap := []) T rfl rfl rfl rfl evf (.cons evc (.cons evc .nil)) Try.func31 rfl rfl ?_
  refine Calls.mono (to_any 30 32 _) ?_
  clear T
  rintro e wc ⟨rfl, hb⟩
  intro ac T
  replace M := M.call hb; clear hb
  refine sh_out hK _ _ (MA.mk (fun _ => M.mask [true, true] rfl) (M.mask [false, true] rfl)) ?_; clear hK K
  refine g_w (i := 2) (by kernel_rfl) rfl (by kernel_rfl : (pbits 14 3).setIfInBounds 2 true = pbits 14 7) rfl ?_; intro K hK
  refine ow_call (first := []) (cap := []) T rfl rfl rfl rfl evf (.cons evc (.cons evc .nil)) Try.func31 rfl rfl ?_
  refine Calls.mono (to_any 40 41 _) ?_
  clear T
  rintro e wc ⟨rfl, hb⟩
  intro ac T
  replace M := M.call hb; clear hb
  refine sh_out hK _ _ (MA.mk (fun _ => M.mask [true, true] rfl) (M.mask [false, true] rfl)) ?_; clear hK K
  refine g_q (v := (.agg #[.int .i64 p0, .int .i64 p1, .int .i64 30, .int .i64 32, .int .i64 40, .int .i64 41])) (T := T) (i := 3) rfl (by kernel_rfl) (by kernel_rfl : (pbits 14 7).setIfInBounds 3 true = pbits 14 15) (si_and (si_G rfl) si_U) (fun _ _ _ h => h) rfl rfl rfl rfl (fun _ _ _ _ _ => (rn_build rfl (.cons (T.ev 2 rfl) (.cons (T.ev 1 rfl) (.cons (T.ev 0 rfl) .nil))) (fun _ => by kernel_rfl))) ?_; clear T ac; intro ac T
  refine g_w (i := 4) (by kernel_rfl) rfl (by kernel_rfl : (pbits 14 15).setIfInBounds 4 true = pbits 14 31) rfl ?_; intro K hK
  refine ow_call (first := []) (cap := []) T rfl rfl rfl rfl evf (.cons evc (.cons evc .nil)) Try.func31 rfl rfl ?_
  refine Calls.mono (to_any 3 4 _) ?_
  clear T
  rintro e wc ⟨rfl, hb⟩
  intro ac T
  replace M := M.call hb; clear hb
  refine sh_out hK _ _ (MA.mk (fun _ => M.mask [true, true] rfl) (M.mask [false, true] rfl)) ?_; clear hK K
  refine g_w (i := 5) (by kernel_rfl) rfl (by kernel_rfl : (pbits 14 31).setIfInBounds 5 true = pbits 14 63) rfl ?_; intro K hK
  refine ow_call (first := []) (cap := []) T rfl rfl rfl rfl evf (.cons evc (.cons evc .nil)) Try.func31 rfl rfl ?_
  refine Calls.mono (to_any 2 3 _) ?_
  clear T
  rintro e wc ⟨rfl, hb⟩
  intro ac T
  replace M := M.call hb; clear hb
  refine sh_out hK _ _ (MA.mk (fun _ => M.mask [true, true] rfl) (M.mask [false, true] rfl)) ?_; clear hK K
  refine g_w (i := 6) (by kernel_rfl) rfl (by kernel_rfl : (pbits 14 63).setIfInBounds 6 true = pbits 14 127) rfl ?_; intro K hK
  refine ow_call (first := []) (cap := []) T rfl rfl rfl rfl evf (.cons evc (.cons evc .nil)) Try.func31 rfl rfl ?_
  refine Calls.mono (to_any 1 2 _) ?_
  clear T
  rintro e wc ⟨rfl, hb⟩
  intro ac T
  replace M := M.call hb; clear hb
  refine sh_out hK _ _ (MA.mk (fun _ => M.mask [true, true] rfl) (M.mask [false, true] rfl)) ?_; clear hK K
  refine g_w (i := 7) (by kernel_rfl) rfl (by kernel_rfl : (pbits 14 127).setIfInBounds 7 true = pbits 14 255) rfl ?_; intro K hK
  refine ow_call (first := []) (cap := []) T rfl rfl rfl rfl evf (.cons evc (.cons evc .nil)) Try.func31 rfl rfl ?_
  refine Calls.mono (to_any 1 1 _) ?_
  clear T
  rintro e wc ⟨rfl, hb⟩
  intro ac T
  replace M := M.call hb; clear hb
  refine sh_out hK _ _ (MA.mk (fun _ => M.mask [true, true] rfl) (M.mask [false, true] rfl)) ?_; clear hK K
  refine g_q (v := (.agg #[.int .i64 3, .int .i64 4, .int .i64 2, .int .i64 3, .int .i64 1, .int .i64 2, .int .i64 1, .int .i64 1, .int .i64 20])) (T := T) (i := 8) rfl (by kernel_rfl) (by kernel_rfl : (pbits 14 255).setIfInBounds 8 true = pbits 14 511) (si_and (si_G rfl) si_U) (fun _ _ _ h => h) rfl rfl rfl rfl (fun _ _ _ _ _ => (rn_build rfl (.cons (T.ev 3 rfl) (.cons (T.ev 2 rfl) (.cons (T.ev 1 rfl) (.cons (T.ev 0 rfl) (.cons evc .nil))))) (fun _ => by kernel_rfl))) ?_; clear T ac; intro ac T
  refine g_w (i := 9) (by kernel_rfl) rfl (by kernel_rfl : (pbits 14 511).setIfInBounds 9 true = pbits 14 1023) rfl ?_; intro K hK
  refine ow_call (first := []) (cap := []) T rfl rfl rfl rfl evf (.cons evc (.cons evc .nil)) Try.func31 rfl rfl ?_
  refine Calls.mono (to_any (-2) 1 _) ?_
  clear T
  rintro e wc ⟨rfl, hb⟩
  intro ac T
  replace M := M.call hb; clear hb
  refine sh_out hK _ _ (MA.mk (fun _ => M.mask [true, true] rfl) (M.mask [false, true] rfl)) ?_; clear hK K
  refine g_w (i := 10) (by kernel_rfl) rfl (by kernel_rfl : (pbits 14 1023).setIfInBounds 10 true = pbits 14 2047) rfl ?_; intro K hK
  refine ow_call (first := []) (cap := []) T rfl rfl rfl rfl evf (.cons evc (.cons evc .nil)) Try.func31 rfl rfl ?_
  refine Calls.mono (to_any 0 3 _) ?_
  clear T
  rintro e wc ⟨rfl, hb⟩
  intro ac T
  replace M := M.call hb; clear hb
  refine sh_out hK _ _ (MA.mk (fun _ => M.mask [true, true] rfl) (M.mask [false, true] rfl)) ?_; clear hK K
  refine g_w (i := 11) (by kernel_rfl) rfl (by kernel_rfl : (pbits 14 2047).setIfInBounds 11 true = pbits 14 4095) rfl ?_; intro K hK
  refine ow_bs (e := 23) [.int .i64 (-2), .int .i64 1, .int .i64 0, .int .i64 3] M T rfl rfl rfl rfl (.cons (T.ev 1 rfl) (.cons (T.ev 0 rfl) .nil)) (fun _ => by kernel_rfl) ?_; clear M T; intro g3 wc ac M T
  refine sh_out hK _ _ (MA.mk (fun _ => M.mask [false, true, true] rfl) (M.mask [false, false, true] rfl)) ?_; clear hK K
  refine g_q (v := (.agg #[.int .i64 p0, .int .i64 p1, .int .i64 30, .int .i64 32, .int .i64 40, .int .i64 41, .int .i64 3, .int .i64 4, .int .i64 2, .int .i64 3, .int .i64 1, .int .i64 2, .int .i64 1, .int .i64 1, .int .i64 20, .slice (some ⟨g3, 0, none⟩) 2 2, .int .i64 5, .int .i64 1])) (T := T) (i := 12) rfl (by kernel_rfl) (by kernel_rfl : (pbits 14 4095).setIfInBounds 12 true = pbits 14 8191) (si_and (si_G rfl) si_U) (fun _ _ _ h => h) rfl rfl rfl rfl (fun _ _ _ _ _ => (rn_build rfl (.cons (T.ev 8 rfl) (.cons (T.ev 3 rfl) (.cons (T.ev 0 rfl) (.cons evc (.cons evc .nil))))) (fun _ => by kernel_rfl))) ?_; clear T ac; intro ac T
  refine g_w (i := 13) (by kernel_rfl) rfl (by kernel_rfl : (pbits 14 8191).setIfInBounds 13 true = pbits 14 16383) rfl ?_; intro K hK
  refine ow_stO M T rfl rfl (T.ev 13 rfl) (T.ev 0 rfl) rfl (.tail .head) rfl (by simp) rfl (by kernel_rfl) ?_; clear M T; intro wc ac M T
  refine sh_out hK _ _ (MA.mk (fun h => (no_of (by kernel_rfl) h).elim) (M.mask [false, false, true] rfl)) ?_; clear hK K
  refine g_done (by kernel_rfl) ?_
  replace T := T.pick [13] rfl
  replace M := M.mask [true, true, false] rfl
  refine nm_then ?_
  refine wp_ret ?_
  refine rt_c M T rfl (T.ev 0 rfl) (nthE_mem (i := 1) rfl) rfl ?_
  exact ⟨_, rfl, M.perm [0] rfl rfl⟩

set_option maxRecDepth 100000 in
set_option maxHeartbeats 1000000 in
theorem flat_any  (w : World)  :
    Calls Try.prog 63 #[] w (JobPost (exJ (-12) (-8)) w) := by
  refine px_enter noEx Try.func63 rfl 3 rfl [] rfl rfl (Mem.init w _) ?_
  intro ac wc T M
  refine wp_seq ?_
  refine wp_region_lit ?_
  refine l_w rfl ?_; intro K hK
  refine ow_al M T rfl rfl rfl rfl ?_; clear M T; intro g1 wc ac M T
  refine sh_out hK _ _ ?_; clear hK K
  refine wpList_nil ?_
  refine nm_then ?_
  refine wp_seq ?_
  refine wp_region_lit ?_
  refine l_w rfl ?_; intro K hK
  refine ow_call (first := []) (cap := []) T rfl rfl rfl rfl evf (.cons evc (.cons evc .nil)) Try.func31 rfl rfl ?_
  refine Calls.mono (to_any (-12) (-8) _) ?_
  clear T
  rintro e wc ⟨rfl, hb⟩
  intro ac T
  replace M := M.call hb; clear hb
  refine sh_out hK _ _ ?_; clear hK K
  refine l_w rfl ?_; intro K hK
  refine ow_call (first := []) (cap := []) T rfl rfl rfl rfl evf (.cons (T.ev 0 rfl) .nil) Try.func65 rfl rfl ?_
  refine Calls.mono (job_any (-12) (-8) _) ?_
  clear T
  rintro e wc ⟨gu2, rfl, N⟩
  intro ac T
  replace M := M.join N; clear N
  replace M := M.mask [true, true] rfl
  refine sh_out hK _ _ ?_; clear hK K
  refine l_w rfl ?_; intro K hK
  refine ow_stO M T rfl rfl (T.ev 2 rfl) (T.ev 0 rfl) rfl (.tail .head) rfl (by simp) rfl (by kernel_rfl) ?_; clear M T; intro wc ac M T
  refine sh_out hK _ _ ?_; clear hK K
  refine wpList_nil ?_
  replace T := T.pick [2] rfl
  refine nm_then ?_
  refine wp_ret ?_
  refine rt_c M T rfl (T.ev 0 rfl) (nthE_mem (i := 1) rfl) rfl ?_
  exact ⟨_, rfl, M.perm [0] rfl rfl⟩

set_option maxRecDepth 100000 in
set_option maxHeartbeats 1000000 in
theorem sharper_any  (w : World)  :
    Calls Try.prog 64 #[] w (JobPost (exJ (-9) (-9)) w) := by
  refine px_enter noEx Try.func64 rfl 3 rfl [] rfl rfl (Mem.init w _) ?_
  intro ac wc T M
  refine wp_seq ?_
  refine wp_region_lit ?_
  refine l_w rfl ?_; intro K hK
  refine ow_al M T rfl rfl rfl rfl ?_; clear M T; intro g1 wc ac M T
  refine sh_out hK _ _ ?_; clear hK K
  refine wpList_nil ?_
  refine nm_then ?_
  refine wp_seq ?_
  refine wp_region_lit ?_
  refine l_w rfl ?_; intro K hK
  refine ow_call (first := []) (cap := []) T rfl rfl rfl rfl evf (.cons evc (.cons evc .nil)) Try.func31 rfl rfl ?_
  refine Calls.mono (to_any (-9) (-9) _) ?_
  clear T
  rintro e wc ⟨rfl, hb⟩
  intro ac T
  replace M := M.call hb; clear hb
  refine sh_out hK _ _ ?_; clear hK K
  refine l_w rfl ?_; intro K hK
  refine ow_call (first := []) (cap := []) T rfl rfl rfl rfl evf (.cons (T.ev 0 rfl) .nil) Try.func65 rfl rfl ?_
  refine Calls.mono (job_any (-9) (-9) _) ?_
  clear T
  rintro e wc ⟨gu2, rfl, N⟩
  intro ac T
  replace M := M.join N; clear N
  replace M := M.mask [true, true] rfl
  refine sh_out hK _ _ ?_; clear hK K
  refine l_w rfl ?_; intro K hK
  refine ow_stO M T rfl rfl (T.ev 2 rfl) (T.ev 0 rfl) rfl (.tail .head) rfl (by simp) rfl (by kernel_rfl) ?_; clear M T; intro wc ac M T
  refine sh_out hK _ _ ?_; clear hK K
  refine wpList_nil ?_
  replace T := T.pick [2] rfl
  refine nm_then ?_
  refine wp_ret ?_
  refine rt_c M T rfl (T.ev 0 rfl) (nthE_mem (i := 1) rfl) rfl ?_
  exact ⟨_, rfl, M.perm [0] rfl rfl⟩

theorem sameInts_same (A B : Option Addr) (n m c d : Nat) (l : List Int) (w : World) (ha : Rd w w.heap.size 1 A n (ic l)) (hb : Rd w w.heap.size 1 B m (ic l)) (hn : n ≤ 9223372036854775807) (hm : m ≤ 9223372036854775807) :
    Calls Try.prog 21 #[.slice A n c, .slice B m d] w fun e w' => e = .returned (.bool true) ∧ Below w.heap.size w w' := by
  have := sameInts_any A B n m c d l l w ha hb hn hm
  simpa using this


set_option maxRecDepth 100000 in
set_option maxHeartbeats 1000000 in
theorem tuned_any  (w : World)  :
    Calls Try.prog 15 #[] w fun e w' => e = .returned (.bool true) ∧ Below w.heap.size w w' := by
  refine px_enter noEx Try.func15 rfl 88 rfl [] rfl rfl (Mem.init w _) ?_
  intro ac wc T M
  refine wp_seq ?_
  refine wp_region_lit ?_
  refine l_q T rfl rfl rfl rfl (rn_assign rfl evc) ?_; clear T ac; intro ac T
  refine wpList_nil ?_
  replace T := T.pick [] rfl
  refine nm_then ?_
  refine wp_seq ?_
  refine wp_region_lit ?_
  refine l_w rfl ?_; intro K hK
  refine ow_call (first := []) (cap := []) T rfl rfl rfl rfl evf .nil Try.func63 rfl rfl ?_
  refine Calls.mono (flat_any _) ?_
  clear T
  rintro e wc ⟨gu1, rfl, N⟩
  intro ac T
  replace M := M.join N; clear N
  replace M := M.mask [true] rfl
  refine sh_out hK _ _ ?_; clear hK K
  refine l_w rfl ?_; intro K hK
  refine ow_call (first := []) (cap := []) T rfl rfl rfl rfl evf (.cons (T.ev 0 rfl) .nil) Try.func33 rfl rfl ?_
  refine Calls.mono (Window_ex _ _ (M.rdOwn (nthE_mem (i := 0) rfl) rfl rfl)) ?_
  clear T
  rintro e wc ⟨rfl, hb⟩
  intro ac T
  replace M := M.call hb; clear hb
  refine sh_out hK _ _ ?_; clear hK K
  refine l_q T rfl rfl rfl rfl (rn_move rfl (T.ev 0 rfl)) ?_; clear T ac; intro ac T
  refine l_q T rfl rfl rfl rfl (rn_extract rfl (T.ev 0 rfl) rfl) ?_; clear T ac; intro ac T
  refine l_q T rfl rfl rfl rfl (rn_extract rfl (T.ev 1 rfl) rfl) ?_; clear T ac; intro ac T
  refine l_w rfl ?_; intro K hK
  refine ow_al M T rfl rfl rfl rfl ?_; clear M T; intro g1 wc ac M T
  refine sh_out hK _ _ ?_; clear hK K
  refine l_w rfl ?_; intro K hK
  refine ow_stO M T rfl rfl (T.ev 0 rfl) (T.ev 2 rfl) rfl .head rfl (by simp) rfl (by kernel_rfl) ?_; clear M T; intro wc ac M T
  refine sh_out hK _ _ ?_; clear hK K
  refine l_q T rfl rfl rfl rfl (rn_assign rfl (T.ev 1 rfl)) ?_; clear T ac; intro ac T
  refine wpList_nil ?_
  replace T := T.pick [0, 1] rfl
  replace M := M.mask [true, false] rfl
  refine nm_then ?_
  refine wp_seq ?_
  refine wp_region_lit ?_
  refine l_w rfl ?_; intro K hK
  refine ow_call (first := []) (cap := []) T rfl rfl rfl rfl evf .nil Try.func63 rfl rfl ?_
  refine Calls.mono (flat_any _) ?_
  clear T
  rintro e wc ⟨gu3, rfl, N⟩
  intro ac T
  replace M := M.join N; clear N
  replace M := M.mask [true, true] rfl
  refine sh_out hK _ _ ?_; clear hK K
  refine l_w rfl ?_; intro K hK
  refine ow_bs (e := 3) [.int .i64 1, .int .i64 2] M T rfl rfl rfl rfl (.cons evc (.cons evc .nil)) (fun _ => by kernel_rfl) ?_; clear M T; intro g2 wc ac M T
  refine sh_out hK _ _ ?_; clear hK K
  refine l_w rfl ?_; intro K hK
  refine ow_call (first := []) (cap := []) T rfl rfl rfl rfl evf (.cons (T.ev 1 rfl) (.cons (T.ev 0 rfl) .nil)) Try.func34 rfl rfl ?_
  refine Calls.mono (After_ex _ _ _ (M.rdOwn (nthE_mem (i := 1) rfl) rfl rfl) (M.rdOwn (nthE_mem (i := 0) rfl) rfl rfl)) ?_
  clear T
  rintro e wc ⟨rfl, hb⟩
  intro ac T
  replace M := M.call hb; clear hb
  refine sh_out hK _ _ ?_; clear hK K
  refine l_q T rfl rfl rfl rfl (rn_move rfl (T.ev 0 rfl)) ?_; clear T ac; intro ac T
  refine l_q T rfl rfl rfl rfl (rn_extract rfl (T.ev 0 rfl) rfl) ?_; clear T ac; intro ac T
  refine l_q T rfl rfl rfl rfl (rn_extract rfl (T.ev 1 rfl) rfl) ?_; clear T ac; intro ac T
  refine l_w rfl ?_; intro K hK
  refine ow_al M T rfl rfl rfl rfl ?_; clear M T; intro g3 wc ac M T
  refine sh_out hK _ _ ?_; clear hK K
  refine l_w rfl ?_; intro K hK
  refine ow_stO M T rfl rfl (T.ev 0 rfl) (T.ev 2 rfl) rfl .head rfl (by simp) rfl (by kernel_rfl) ?_; clear M T; intro wc ac M T
  refine sh_out hK _ _ ?_; clear hK K
  refine l_q T rfl rfl rfl rfl (rn_assign rfl (T.ev 1 rfl)) ?_; clear T ac; intro ac T
  refine wpList_nil ?_
  replace T := T.pick [0, 1, 8, 9] rfl
  replace M := M.mask [true, false, false, true] rfl
  refine nm_then ?_
  refine wp_seq ?_
  refine wp_region_lit ?_
  refine l_w rfl ?_; intro K hK
  refine ow_call (first := []) (cap := []) T rfl rfl rfl rfl evf .nil Try.func64 rfl rfl ?_
  refine Calls.mono (sharper_any _) ?_
  clear T
  rintro e wc ⟨gu5, rfl, N⟩
  intro ac T
  replace M := M.join N; clear N
  replace M := M.mask [true, true, true] rfl
  refine sh_out hK _ _ ?_; clear hK K
  refine l_w rfl ?_; intro K hK
  refine ow_call (first := []) (cap := []) T rfl rfl rfl rfl evf (.cons (T.ev 0 rfl) .nil) Try.func19 rfl rfl ?_
  refine Calls.mono (Shortest_ex _ _ (M.rdOwn (nthE_mem (i := 0) rfl) rfl rfl)) ?_
  clear T
  rintro e wc ⟨Au6, cu6, Iu6, rfl, hsnu6, N⟩
  intro ac T
  obtain ⟨bu6, ou6, Su6⟩ := hsnu6.sp (w := w) (ex := noEx) rfl
  replace M := (M.join N).swapI
  replace M := M.mask [true, true, true] rfl
  clear N hsnu6
  refine sh_out hK _ _ ?_; clear hK K
  refine l_q T rfl rfl rfl rfl (rn_move rfl (T.ev 0 rfl)) ?_; clear T ac; intro ac T
  refine l_q T rfl rfl rfl rfl (rn_extract rfl (T.ev 0 rfl) rfl) ?_; clear T ac; intro ac T
  refine l_q T rfl rfl rfl rfl (rn_extract rfl (T.ev 1 rfl) rfl) ?_; clear T ac; intro ac T
  refine l_q T rfl rfl rfl rfl (rn_assign rfl (T.ev 1 rfl)) ?_; clear T ac; intro ac T
  refine l_q T rfl rfl rfl rfl (rn_assign rfl (T.ev 1 rfl)) ?_; clear T ac; intro ac T
  refine wpList_nil ?_
  replace T := T.pick [0, 1, 7, 8, 9, 10] rfl
  replace M := M.mask [false, true, true] rfl
  refine nm_then ?_
  refine wp_seq ?_
  refine wp_region_lit ?_
  refine l_w rfl ?_; intro K hK
  refine ow_call (first := []) (cap := []) T rfl rfl rfl rfl evf .nil Try.func63 rfl rfl ?_
  refine Calls.mono (flat_any _) ?_
  clear T
  rintro e wc ⟨gu7, rfl, N⟩
  intro ac T
  replace M := M.join N; clear N
  replace M := M.mask [true, true, true] rfl
  refine sh_out hK _ _ ?_; clear hK K
  refine l_w rfl ?_; intro K hK
  refine ow_call (first := []) (cap := []) T rfl rfl rfl rfl evf (.cons (T.ev 0 rfl) .nil) Try.func24 rfl rfl ?_
  refine Calls.mono (Guided_ex _ _ (M.rdOwn (nthE_mem (i := 0) rfl) rfl rfl)) ?_
  clear T
  rintro e wc ⟨rfl, hb⟩
  intro ac T
  replace M := M.call hb; clear hb
  refine sh_out hK _ _ ?_; clear hK K
  refine l_q T rfl rfl rfl rfl (rn_move rfl (T.ev 0 rfl)) ?_; clear T ac; intro ac T
  refine l_q T rfl rfl rfl rfl (rn_extract rfl (T.ev 0 rfl) rfl) ?_; clear T ac; intro ac T
  refine l_q T rfl rfl rfl rfl (rn_extract rfl (T.ev 1 rfl) rfl) ?_; clear T ac; intro ac T
  refine l_q T rfl rfl rfl rfl (rn_assign rfl (T.ev 1 rfl)) ?_; clear T ac; intro ac T
  refine l_q T rfl rfl rfl rfl (rn_assign rfl (T.ev 1 rfl)) ?_; clear T ac; intro ac T
  refine wpList_nil ?_
  replace T := T.pick [0, 1, 7, 8, 9, 10, 11, 12] rfl
  replace M := M.mask [false, true, true] rfl
  refine nm_then ?_
  refine wp_seq ?_
  refine wp_region_lit ?_
  refine l_w rfl ?_; intro K hK
  refine ow_call (first := []) (cap := []) T rfl rfl rfl rfl evf (.cons evc (.cons evc .nil)) Try.func31 rfl rfl ?_
  refine Calls.mono (to_any 4 6 _) ?_
  clear T
  rintro e wc ⟨rfl, hb⟩
  intro ac T
  replace M := M.call hb; clear hb
  refine sh_out hK _ _ ?_; clear hK K
  refine l_w rfl ?_; intro K hK
  refine ow_call (first := []) (cap := []) T rfl rfl rfl rfl evf (.cons (T.ev 0 rfl) .nil) Try.func65 rfl rfl ?_
  refine Calls.mono (job_any 4 6 _) ?_
  clear T
  rintro e wc ⟨gu10, rfl, N⟩
  intro ac T
  replace M := M.join N; clear N
  replace M := M.mask [true, true, true] rfl
  refine sh_out hK _ _ ?_; clear hK K
  refine l_w rfl ?_; intro K hK
  refine ow_call (first := []) (cap := []) T rfl rfl rfl rfl evf (.cons (T.ev 0 rfl) .nil) Try.func26 rfl rfl ?_
  refine Calls.mono (Next_ex _ _ (M.rdOwn (nthE_mem (i := 0) rfl) rfl rfl)) ?_
  clear T
  rintro e wc ⟨rfl, hb⟩
  intro ac T
  replace M := M.call hb; clear hb
  refine sh_out hK _ _ ?_; clear hK K
  refine l_q T rfl rfl rfl rfl (rn_move rfl (T.ev 0 rfl)) ?_; clear T ac; intro ac T
  refine l_q T rfl rfl rfl rfl (rn_extract rfl (T.ev 0 rfl) rfl) ?_; clear T ac; intro ac T
  refine l_q T rfl rfl rfl rfl (rn_extract rfl (T.ev 1 rfl) rfl) ?_; clear T ac; intro ac T
  refine l_q T rfl rfl rfl rfl (rn_extract rfl (T.ev 2 rfl) rfl) ?_; clear T ac; intro ac T
  refine l_q T rfl rfl rfl rfl (rn_assign rfl (T.ev 2 rfl)) ?_; clear T ac; intro ac T
  refine l_q T rfl rfl rfl rfl (rn_assign rfl (T.ev 2 rfl)) ?_; clear T ac; intro ac T
  refine l_q T rfl rfl rfl rfl (rn_assign rfl (T.ev 2 rfl)) ?_; clear T ac; intro ac T
  refine wpList_nil ?_
  replace T := T.pick [0, 1, 2, 10, 11, 12, 13, 14, 15, 16, 17] rfl
  replace M := M.mask [false, true, true] rfl
  refine nm_then ?_
  refine wp_seq ?_
  refine g_start2 M (M.mask [true, true] rfl) 49 (by kernel_rfl) rfl (by kernel_rfl) ?_
  clear M; intro wc M
  refine g_q (T := T) (i := 0) rfl (by kernel_rfl) (by kernel_rfl : (pbits 49 0).setIfInBounds 0 true = pbits 49 1) si_U (fun _ _ _ h => h) rfl rfl rfl rfl (fun _ _ _ _ _ => (rn_move rfl (T.ev 9 rfl))) ?_; clear T ac; intro ac T
  refine g_q (v := (.bool true)) (T := T) (i := 1) rfl (by kernel_rfl) (by kernel_rfl : (pbits 49 1).setIfInBounds 1 true = pbits 49 3) si_U (fun _ _ _ h => h) rfl rfl rfl rfl (fun _ _ _ _ _ => (rn_neqof (rn_eql rfl (T.ev 0 rfl) evc) (by simp))) ?_; clear T ac; intro ac T
  refine g_q (T := T) (i := 2) rfl (by kernel_rfl) (by kernel_rfl : (pbits 49 3).setIfInBounds 2 true = pbits 49 7) si_U (fun _ _ _ h => h) rfl rfl rfl rfl (fun _ _ _ _ _ => (rn_move rfl (T.ev 0 rfl))) ?_; clear T ac; intro ac T
  refine g_q (T := T) (i := 3) rfl (by kernel_rfl) (by kernel_rfl : (pbits 49 7).setIfInBounds 3 true = pbits 49 15) si_U (fun _ _ _ h => h) (wanted_yes rfl rfl (T.ev 0 rfl) rfl) rfl rfl rfl (fun _ _ _ _ _ => (rn_move rfl (T.ev 10 rfl))) ?_; clear T ac; intro ac T
  refine g_q (v := (.bool true)) (T := T) (i := 4) rfl (by kernel_rfl) (by kernel_rfl : (pbits 49 15).setIfInBounds 4 true = pbits 49 31) si_U (fun _ _ _ h => h) (wanted_yes rfl rfl (T.ev 1 rfl) rfl) rfl rfl rfl (fun _ _ _ _ _ => (rn_neqof (rn_eql rfl (T.ev 0 rfl) evc) (by simp))) ?_; clear T ac; intro ac T
  refine g_q (T := T) (i := 5) rfl (by kernel_rfl) (by kernel_rfl : (pbits 49 31).setIfInBounds 5 true = pbits 49 63) si_U (fun _ _ _ h => h) rfl rfl rfl rfl (fun _ _ _ _ _ => (rn_pick1 rfl (T.ev 2 rfl) rfl (T.ev 0 rfl))) ?_; clear T ac; intro ac T
  refine g_q (T := T) (i := 6) rfl (by kernel_rfl) (by kernel_rfl : (pbits 49 63).setIfInBounds 6 true = pbits 49 127) si_U (fun _ _ _ h => h) rfl rfl rfl rfl (fun _ _ _ _ _ => (rn_move rfl (T.ev 0 rfl))) ?_; clear T ac; intro ac T
  refine g_q (T := T) (i := 7) rfl (by kernel_rfl) (by kernel_rfl : (pbits 49 127).setIfInBounds 7 true = pbits 49 255) si_U (fun _ _ _ h => h) (wanted_yes rfl rfl (T.ev 0 rfl) rfl) rfl rfl rfl (fun _ _ _ _ _ => (rn_move rfl (T.ev 12 rfl))) ?_; clear T ac; intro ac T
  refine g_q (v := (.bool true)) (T := T) (i := 8) rfl (by kernel_rfl) (by kernel_rfl : (pbits 49 255).setIfInBounds 8 true = pbits 49 511) si_U (fun _ _ _ h => h) (wanted_yes rfl rfl (T.ev 1 rfl) rfl) rfl rfl rfl (fun _ _ _ _ _ => (rn_neqof (rn_eql rfl (T.ev 0 rfl) evc) (by simp))) ?_; clear T ac; intro ac T
  refine g_q (T := T) (i := 9) rfl (by kernel_rfl) (by kernel_rfl : (pbits 49 511).setIfInBounds 9 true = pbits 49 1023) si_U (fun _ _ _ h => h) rfl rfl rfl rfl (fun _ _ _ _ _ => (rn_pick1 rfl (T.ev 2 rfl) rfl (T.ev 0 rfl))) ?_; clear T ac; intro ac T
  refine g_q (T := T) (i := 10) rfl (by kernel_rfl) (by kernel_rfl : (pbits 49 1023).setIfInBounds 10 true = pbits 49 2047) si_U (fun _ _ _ h => h) rfl rfl rfl rfl (fun _ _ _ _ _ => (rn_move rfl (T.ev 0 rfl))) ?_; clear T ac; intro ac T
  refine g_q (T := T) (i := 11) rfl (by kernel_rfl) (by kernel_rfl : (pbits 49 2047).setIfInBounds 11 true = pbits 49 4095) si_U (fun _ _ _ h => h) (wanted_yes rfl rfl (T.ev 0 rfl) rfl) rfl rfl rfl (fun _ _ _ _ _ => (rn_move rfl (T.ev 14 rfl))) ?_; clear T ac; intro ac T
  refine g_q (v := (.bool true)) (T := T) (i := 12) rfl (by kernel_rfl) (by kernel_rfl : (pbits 49 4095).setIfInBounds 12 true = pbits 49 8191) si_U (fun _ _ _ h => h) (wanted_yes rfl rfl (T.ev 1 rfl) rfl) rfl rfl rfl (fun _ _ _ _ _ => (rn_neqof (rn_eql rfl (T.ev 0 rfl) evc) (by simp))) ?_; clear T ac; intro ac T
  refine g_q (T := T) (i := 13) rfl (by kernel_rfl) (by kernel_rfl : (pbits 49 8191).setIfInBounds 13 true = pbits 49 16383) si_U (fun _ _ _ h => h) rfl rfl rfl rfl (fun _ _ _ _ _ => (rn_pick1 rfl (T.ev 2 rfl) rfl (T.ev 0 rfl))) ?_; clear T ac; intro ac T
  refine g_q (T := T) (i := 14) rfl (by kernel_rfl) (by kernel_rfl : (pbits 49 16383).setIfInBounds 14 true = pbits 49 32767) si_U (fun _ _ _ h => h) rfl rfl rfl rfl (fun _ _ _ _ _ => (rn_move rfl (T.ev 0 rfl))) ?_; clear T ac; intro ac T
  refine g_q (T := T) (i := 15) rfl (by kernel_rfl) (by kernel_rfl : (pbits 49 32767).setIfInBounds 15 true = pbits 49 65535) si_U (fun _ _ _ h => h) (wanted_yes rfl rfl (T.ev 0 rfl) rfl) rfl rfl rfl (fun _ _ _ _ _ => (rn_move rfl (T.ev 15 rfl))) ?_; clear T ac; intro ac T
  refine g_q (v := (.bool true)) (T := T) (i := 16) rfl (by kernel_rfl) (by kernel_rfl : (pbits 49 65535).setIfInBounds 16 true = pbits 49 131071) si_U (fun _ _ _ h => h) (wanted_yes rfl rfl (T.ev 1 rfl) rfl) rfl rfl rfl (fun _ _ _ _ _ => (rn_neqof (rn_eql rfl (T.ev 0 rfl) evc) (by simp))) ?_; clear T ac; intro ac T
  refine g_q (T := T) (i := 17) rfl (by kernel_rfl) (by kernel_rfl : (pbits 49 131071).setIfInBounds 17 true = pbits 49 262143) si_U (fun _ _ _ h => h) rfl rfl rfl rfl (fun _ _ _ _ _ => (rn_pick1 rfl (T.ev 2 rfl) rfl (T.ev 0 rfl))) ?_; clear T ac; intro ac T
  refine g_q (T := T) (i := 18) rfl (by kernel_rfl) (by kernel_rfl : (pbits 49 262143).setIfInBounds 18 true = pbits 49 524287) si_U (fun _ _ _ h => h) rfl rfl rfl rfl (fun _ _ _ _ _ => (rn_move rfl (T.ev 0 rfl))) ?_; clear T ac; intro ac T
  refine g_q (T := T) (i := 19) rfl (by kernel_rfl) (by kernel_rfl : (pbits 49 524287).setIfInBounds 19 true = pbits 49 1048575) si_U (fun _ _ _ h => h) (wanted_yes rfl rfl (T.ev 0 rfl) rfl) rfl rfl rfl (fun B w' hD hl hS => (rn_rowO (Mem.nth (show Mem w noEx w' _ from hS) 1 rfl) rfl (T.ev 29 rfl) rfl)) ?_; clear T ac; intro ac T
  refine g_w (i := 20) (by kernel_rfl) rfl (by kernel_rfl : (pbits 49 1048575).setIfInBounds 20 true = pbits 49 2097151) (wanted_yes rfl rfl (T.ev 1 rfl) rfl) ?_; intro K hK
  refine ow_call (first := []) (cap := []) T rfl rfl rfl rfl evf (.cons evc (.cons evc .nil)) Try.func31 rfl rfl ?_
  refine Calls.mono (to_any (-3) 2 _) ?_
  clear T
  rintro e wc ⟨rfl, hb⟩
  intro ac T
  replace M := M.call hb; clear hb
  refine sh_out hK _ _ (M.mask [true, true] rfl) ?_; clear hK K
  refine g_addU M ?_
  refine g_q (v := (.bool true)) (T := T) (i := 21) rfl (by kernel_rfl) (by kernel_rfl : (pbits 49 2097151).setIfInBounds 21 true = pbits 49 4194303) (si_and si_U si_U) (fun _ _ _ h => h) (wanted_yes rfl rfl (T.ev 2 rfl) rfl) rfl rfl rfl (fun _ _ _ _ _ => (rn_neqof (rn_bin rfl (T.ev 1 rfl) (T.ev 0 rfl) eqT23) (by simp))) ?_; clear T ac; intro ac T
  refine g_q (T := T) (i := 22) rfl (by kernel_rfl) (by kernel_rfl : (pbits 49 4194303).setIfInBounds 22 true = pbits 49 8388607) (si_and si_U si_U) (fun _ _ _ h => h) rfl rfl rfl rfl (fun _ _ _ _ _ => (rn_pick1 rfl (T.ev 3 rfl) rfl (T.ev 0 rfl))) ?_; clear T ac; intro ac T
  refine g_q (T := T) (i := 23) rfl (by kernel_rfl) (by kernel_rfl : (pbits 49 8388607).setIfInBounds 23 true = pbits 49 16777215) (si_and si_U si_U) (fun _ _ _ h => h) rfl rfl rfl rfl (fun _ _ _ _ _ => (rn_move rfl (T.ev 0 rfl))) ?_; clear T ac; intro ac T
  refine g_q (T := T) (i := 24) rfl (by kernel_rfl) (by kernel_rfl : (pbits 49 16777215).setIfInBounds 24 true = pbits 49 33554431) (si_and si_U si_U) (fun _ _ _ h => h) (wanted_yes rfl rfl (T.ev 0 rfl) rfl) rfl rfl rfl (fun B w' hD hl hS => (rn_rowO (Mem.nth (show Mem w noEx w' _ from (MA.lft hS)) 0 rfl) rfl (T.ev 32 rfl) rfl)) ?_; clear T ac; intro ac T
  refine g_w (i := 25) (by kernel_rfl) rfl (by kernel_rfl : (pbits 49 33554431).setIfInBounds 25 true = pbits 49 67108863) (wanted_yes rfl rfl (T.ev 1 rfl) rfl) ?_; intro K hK
  refine ow_call (first := []) (cap := []) T rfl rfl rfl rfl evf (.cons evc (.cons evc .nil)) Try.func31 rfl rfl ?_
  refine Calls.mono (to_any (-12) (-6) _) ?_
  clear T
  rintro e wc ⟨rfl, hb⟩
  intro ac T
  replace M := M.call hb; clear hb
  refine sh_out hK _ _ (MA.mk (M.mask [true, true] rfl) (M.mask [true, true] rfl)) ?_; clear hK K
  refine g_w (i := 26) (by kernel_rfl) rfl (by kernel_rfl : (pbits 49 67108863).setIfInBounds 26 true = pbits 49 134217727) (wanted_yes rfl rfl (T.ev 2 rfl) rfl) ?_; intro K hK
  refine ow_call (first := []) (cap := []) T rfl rfl rfl rfl evf (.cons evc (.cons evc .nil)) Try.func31 rfl rfl ?_
  refine Calls.mono (to_any 28 31 _) ?_
  clear T
  rintro e wc ⟨rfl, hb⟩
  intro ac T
  replace M := M.call hb; clear hb
  refine sh_out hK _ _ (MA.mk (M.mask [true, true] rfl) (M.mask [true, true] rfl)) ?_; clear hK K
  refine g_w (i := 27) (by kernel_rfl) rfl (by kernel_rfl : (pbits 49 134217727).setIfInBounds 27 true = pbits 49 268435455) (wanted_yes rfl rfl (T.ev 3 rfl) rfl) ?_; intro K hK
  refine ow_call (first := []) (cap := []) T rfl rfl rfl rfl evf (.cons evc (.cons evc .nil)) Try.func31 rfl rfl ?_
  refine Calls.mono (to_any 39 40 _) ?_
  clear T
  rintro e wc ⟨rfl, hb⟩
  intro ac T
  replace M := M.call hb; clear hb
  refine sh_out hK _ _ (MA.mk (M.mask [true, true] rfl) (M.mask [true, true] rfl)) ?_; clear hK K
  refine g_q (v := (.agg #[.int .i64 (-12), .int .i64 (-6), .int .i64 28, .int .i64 31, .int .i64 39, .int .i64 40])) (T := T) (i := 28) rfl (by kernel_rfl) (by kernel_rfl : (pbits 49 268435455).setIfInBounds 28 true = pbits 49 536870911) (si_and si_U si_U) (fun _ _ _ h => h) (wanted_yes rfl rfl (T.ev 4 rfl) rfl) rfl rfl rfl (fun _ _ _ _ _ => (rn_build rfl (.cons (T.ev 2 rfl) (.cons (T.ev 1 rfl) (.cons (T.ev 0 rfl) .nil))) (fun _ => by kernel_rfl))) ?_; clear T ac; intro ac T
  refine g_q (v := (.bool true)) (T := T) (i := 29) rfl (by kernel_rfl) (by kernel_rfl : (pbits 49 536870911).setIfInBounds 29 true = pbits 49 1073741823) (si_and si_U si_U) (fun _ _ _ h => h) (wanted_yes rfl rfl (T.ev 5 rfl) rfl) rfl rfl rfl (fun _ _ _ _ _ => (rn_neqof (rn_bin rfl (T.ev 4 rfl) (T.ev 0 rfl) eqT25) (by simp))) ?_; clear T ac; intro ac T
  refine g_q (T := T) (i := 30) rfl (by kernel_rfl) (by kernel_rfl : (pbits 49 1073741823).setIfInBounds 30 true = pbits 49 2147483647) (si_and si_U si_U) (fun _ _ _ h => h) rfl rfl rfl rfl (fun _ _ _ _ _ => (rn_pick1 rfl (T.ev 6 rfl) rfl (T.ev 0 rfl))) ?_; clear T ac; intro ac T
  refine g_q (T := T) (i := 31) rfl (by kernel_rfl) (by kernel_rfl : (pbits 49 2147483647).setIfInBounds 31 true = pbits 49 4294967295) (si_and si_U si_U) (fun _ _ _ h => h) rfl rfl rfl rfl (fun _ _ _ _ _ => (rn_move rfl (T.ev 0 rfl))) ?_; clear T ac; intro ac T
  refine g_q (T := T) (i := 32) rfl (by kernel_rfl) (by kernel_rfl : (pbits 49 4294967295).setIfInBounds 32 true = pbits 49 8589934591) (si_and si_U si_U) (fun _ _ _ h => h) (wanted_yes rfl rfl (T.ev 0 rfl) rfl) rfl rfl rfl (fun _ _ _ _ _ => (rn_move rfl (T.ev 36 rfl))) ?_; clear T ac; intro ac T
  refine g_q (v := (.bool true)) (T := T) (i := 33) rfl (by kernel_rfl) (by kernel_rfl : (pbits 49 8589934591).setIfInBounds 33 true = pbits 49 17179869183) (si_and si_U si_U) (fun _ _ _ h => h) (wanted_yes rfl rfl (T.ev 1 rfl) rfl) rfl rfl rfl (fun _ _ _ _ _ => (rn_neqof (rn_eql rfl (T.ev 0 rfl) evc) (by simp))) ?_; clear T ac; intro ac T
  refine g_q (T := T) (i := 34) rfl (by kernel_rfl) (by kernel_rfl : (pbits 49 17179869183).setIfInBounds 34 true = pbits 49 34359738367) (si_and si_U si_U) (fun _ _ _ h => h) rfl rfl rfl rfl (fun _ _ _ _ _ => (rn_pick1 rfl (T.ev 2 rfl) rfl (T.ev 0 rfl))) ?_; clear T ac; intro ac T
  refine g_q (T := T) (i := 35) rfl (by kernel_rfl) (by kernel_rfl : (pbits 49 34359738367).setIfInBounds 35 true = pbits 49 68719476735) (si_and si_U si_U) (fun _ _ _ h => h) rfl rfl rfl rfl (fun _ _ _ _ _ => (rn_move rfl (T.ev 0 rfl))) ?_; clear T ac; intro ac T
  refine g_q (T := T) (i := 36) rfl (by kernel_rfl) (by kernel_rfl : (pbits 49 68719476735).setIfInBounds 36 true = pbits 49 137438953471) (si_and si_U si_U) (fun _ _ _ h => h) (wanted_yes rfl rfl (T.ev 0 rfl) rfl) rfl rfl rfl (fun _ _ _ _ _ => (rn_move rfl (T.ev 38 rfl))) ?_; clear T ac; intro ac T
  refine g_q (v := (.bool true)) (T := T) (i := 37) rfl (by kernel_rfl) (by kernel_rfl : (pbits 49 137438953471).setIfInBounds 37 true = pbits 49 274877906943) (si_and si_U si_U) (fun _ _ _ h => h) (wanted_yes rfl rfl (T.ev 1 rfl) rfl) rfl rfl rfl (fun _ _ _ _ _ => (rn_neqof (rn_eql rfl (T.ev 0 rfl) evc) (by simp))) ?_; clear T ac; intro ac T
  refine g_q (T := T) (i := 38) rfl (by kernel_rfl) (by kernel_rfl : (pbits 49 274877906943).setIfInBounds 38 true = pbits 49 549755813887) (si_and si_U si_U) (fun _ _ _ h => h) rfl rfl rfl rfl (fun _ _ _ _ _ => (rn_pick1 rfl (T.ev 2 rfl) rfl (T.ev 0 rfl))) ?_; clear T ac; intro ac T
  refine g_q (T := T) (i := 39) rfl (by kernel_rfl) (by kernel_rfl : (pbits 49 549755813887).setIfInBounds 39 true = pbits 49 1099511627775) (si_and si_U si_U) (fun _ _ _ h => h) rfl rfl rfl rfl (fun _ _ _ _ _ => (rn_move rfl (T.ev 0 rfl))) ?_; clear T ac; intro ac T
  refine g_q (T := T) (i := 40) rfl (by kernel_rfl) (by kernel_rfl : (pbits 49 1099511627775).setIfInBounds 40 true = pbits 49 2199023255551) (si_and si_U si_U) (fun _ _ _ h => h) (wanted_yes rfl rfl (T.ev 0 rfl) rfl) rfl rfl rfl (fun _ _ _ _ _ => (rn_move rfl (T.ev 41 rfl))) ?_; clear T ac; intro ac T
  refine g_q (v := (.bool true)) (T := T) (i := 41) rfl (by kernel_rfl) (by kernel_rfl : (pbits 49 2199023255551).setIfInBounds 41 true = pbits 49 4398046511103) (si_and si_U si_U) (fun _ _ _ h => h) (wanted_yes rfl rfl (T.ev 1 rfl) rfl) rfl rfl rfl (fun _ _ _ _ _ => (rn_neqof (rn_eql rfl (T.ev 0 rfl) evc) (by simp))) ?_; clear T ac; intro ac T
  refine g_q (T := T) (i := 42) rfl (by kernel_rfl) (by kernel_rfl : (pbits 49 4398046511103).setIfInBounds 42 true = pbits 49 8796093022207) (si_and si_U si_U) (fun _ _ _ h => h) rfl rfl rfl rfl (fun _ _ _ _ _ => (rn_pick1 rfl (T.ev 2 rfl) rfl (T.ev 0 rfl))) ?_; clear T ac; intro ac T
  refine g_q (T := T) (i := 43) rfl (by kernel_rfl) (by kernel_rfl : (pbits 49 8796093022207).setIfInBounds 43 true = pbits 49 17592186044415) (si_and si_U si_U) (fun _ _ _ h => h) rfl rfl rfl rfl (fun _ _ _ _ _ => (rn_move rfl (T.ev 0 rfl))) ?_; clear T ac; intro ac T
  refine g_q (T := T) (i := 44) rfl (by kernel_rfl) (by kernel_rfl : (pbits 49 17592186044415).setIfInBounds 44 true = pbits 49 35184372088831) (si_and si_U si_U) (fun _ _ _ h => h) (wanted_yes rfl rfl (T.ev 0 rfl) rfl) rfl rfl rfl (fun _ _ _ _ _ => (rn_move rfl (T.ev 50 rfl))) ?_; clear T ac; intro ac T
  refine g_w (i := 45) (by kernel_rfl) rfl (by kernel_rfl : (pbits 49 35184372088831).setIfInBounds 45 true = pbits 49 70368744177663) (wanted_yes rfl rfl (T.ev 1 rfl) rfl) ?_; intro K hK
  refine ow_bs (e := 3) [.int .i64 1, .int .i64 1] M T rfl rfl rfl rfl (.cons evc (.cons evc .nil)) (fun _ => by kernel_rfl) ?_; clear M T; intro g4 wc ac M T
  refine sh_out hK _ _ (MA.mk (M.mask [false, true, true] rfl) (M.mask [false, true, true] rfl)) ?_; clear hK K
  refine g_w (i := 46) (by kernel_rfl) rfl (by kernel_rfl : (pbits 49 70368744177663).setIfInBounds 46 true = pbits 49 140737488355327) (wanted_yes rfl rfl (T.ev 2 rfl) rfl) ?_; intro K hK
  refine ow_call (first := []) (cap := []) T rfl rfl rfl rfl evf (.cons (T.ev 1 rfl) (.cons (T.ev 0 rfl) .nil)) Try.func21 rfl rfl ?_
  refine Calls.mono (sameInts_same _ _ _ _ _ _ ([1, 1]) _ (Su6.rd M (.cons _ (.cons _ (.cons _ (List.Sublist.refl _))))) (M.rdOwn (nthE_mem (i := 0) rfl) rfl rfl) (by first | omega | decide | (simp; omega)) (by first | omega | decide | (simp; omega))) ?_
  clear T
  rintro e wc ⟨rfl, hb⟩
  intro ac T
  replace M := M.call hb; clear hb
  refine sh_out hK _ _ (MA.mk (M.mask [false, true, true] rfl) (M.mask [false, true, true] rfl)) ?_; clear hK K
  refine g_q (T := T) (i := 47) rfl (by kernel_rfl) (by kernel_rfl : (pbits 49 140737488355327).setIfInBounds 47 true = pbits 49 281474976710655) (si_and si_U si_U) (fun _ _ _ h => h) rfl rfl rfl rfl (fun _ _ _ _ _ => (rn_pick1 rfl (T.ev 3 rfl) rfl (T.ev 0 rfl))) ?_; clear T ac; intro ac T
  refine g_q (T := T) (i := 48) rfl (by kernel_rfl) (by kernel_rfl : (pbits 49 281474976710655).setIfInBounds 48 true = pbits 49 562949953421311) (si_and si_U si_U) (fun _ _ _ h => h) rfl rfl rfl rfl (fun _ _ _ _ _ => (rn_assign rfl (T.ev 0 rfl))) ?_; clear T ac; intro ac T
  refine g_done (by kernel_rfl) ?_
  replace T := T.pick [0] rfl
  replace M := M.mask [false, false, false] rfl
  refine nm_then ?_
  refine wp_ret ?_
  refine rt_1 T rfl (T.ev 0 rfl) ?_
  exact ⟨rfl, M.below⟩

end Go.Proofs.Ythlpceoajhcliaa
end

section
/-
  What the laws' walks use.
-/
namespace Go.Proofs.Ythlpceoajhcliaa
set_option linter.unusedSimpArgs false
set_option linter.unusedVariables false
open Go.RowKit

/-- A job whose ranges are single numbers. -/
def Jb.one (j : Jb) : Jb := { j with p1 := j.p0, u1 := j.u0, d1 := j.d0, a1 := j.a0, b1 := j.b0, le := min (min j.le j.t0) j.r0 }
theorem Mem.joinW {w0 w w' : World} {ex : Nat → Prop} {L L' I : List (Nat × BA)} {g : Nat} {p p' : BA} (M : Mem w0 ex w L) (hu : Upd L g p p' L') (N : Mem w (fun b => b = g) w' (I ++ [(g, p')])) : Mem w0 ex w' (I ++ L') := by
  have hg := M.blk _ hu.mem
  have hgl := BA.lt hg.2
  have hnd := N.nd
  rw [List.map_append] at hnd
  obtain ⟨n1, n2, n3⟩ := List.nodup_append.1 hnd
  have hI : ∀ q ∈ I, w.heap.size ≤ q.1 := fun q hq => by
    rcases (N.blk q (List.mem_append_left _ hq)).1 with h | h
    · exact h
    · exact absurd h (n3 q.1 (List.mem_map.2 ⟨q, hq, rfl⟩) g (by simp))
  refine ⟨N.os.trans M.os, N.tape.trans M.tape, N.output.trans M.output, Nat.le_trans M.size N.size, fun b hb hx => ?_, fun q hq => ?_, ?_⟩
  · refine (N.block b (Nat.lt_of_lt_of_le hb M.size) fun e => ?_).trans (M.block b hb hx)
    have e : b = g := e
    subst e
    rcases hg.1 with h | h
    · have h : w0.heap.size ≤ b := h
      omega
    · exact hx h
  · rcases List.mem_append.1 hq with hq | hq
    · exact ⟨.inl (Nat.le_trans M.size (hI q hq)), (N.blk q (List.mem_append_left _ hq)).2⟩
    · rcases hu.all M.nd q hq with rfl | ⟨h1, h2⟩
      · exact ⟨hg.1, (N.blk _ (List.mem_append_right _ List.mem_cons_self)).2⟩
      · have h3 := M.blk q h1
        exact ⟨h3.1, BA.same h3.2 N.size (N.block _ (BA.lt h3.2) h2)⟩
  · rw [List.map_append, hu.keys]
    refine List.nodup_append.2 ⟨n1, M.nd, fun a ha b hb e => ?_⟩
    obtain ⟨q, hq, rfl⟩ := List.mem_map.1 ha
    obtain ⟨r, hr, rfl⟩ := List.mem_map.1 hb
    have h1 := hI q hq
    have h2 := BA.lt (M.blk r hr).2
    omega


end Go.Proofs.Ythlpceoajhcliaa
end

section
/-
  kit: strokes out of a pot, Turn.
-/
namespace Go.Proofs.Ythlpceoajhcliaa
set_option linter.unusedSimpArgs false
set_option linter.unusedVariables false
open Go.RowKit

theorem Bk.of_heap {w : World} {g : Nat} {t : TypeId} {cur : Array Value} (h : w.heap[g]? = some (.cells cur t)) : Bk w g cur.toList.toArray :=
  ⟨(Array.getElem?_eq_some_iff.1 h).1, fun o => by simp only [World.cell?, h]; rfl, fun o => by simp only [World.frozen?, h]; simp⟩
theorem Sp.mono {w : World} {ex : Nat → Prop} {I I' : List (Nat × BA)} {A : Option Addr} {n size b o : Nat} {xs : List Value} (S : Sp w ex I A n size b o xs) (h : I.Sublist I') : Sp w ex I' A n size b o xs :=
  ⟨S.at0, S.len, fun w' L M hI hn => S.lt w' L M (h.trans hI) hn, fun w' L M hI => S.cell w' L M (h.trans hI)⟩
theorem Sp.pre {w : World} {ex : Nat → Prop} {size n g : Nat} {xs ys : List Value} (hl : xs.length = n * size) : Sp w ex [(g, .cells (xs ++ ys))] (some ⟨g, 0, none⟩) n size g 0 xs :=
  ⟨fun _ => rfl, hl, fun w' L M hI _ => BA.lt (M.blk _ (hI.subset List.mem_cons_self)).2, fun w' L M hI j u hu => by
    have hb := M.get (hI.subset List.mem_cons_self)
    rw [hb.cell, Nat.zero_add, List.getElem?_toArray, List.getElem?_append_left (List.getElem?_eq_some_iff.1 hu).1]
    exact hu⟩
/-- A list of jobs. -/
abbrev JE := Jb × Option Addr × Nat
def jc (l : List JE) : List Value := l.flatMap fun x => jobL x.1 x.2.1 x.2.2
theorem jc_get : ∀ (l : List JE) (k : Nat) {x : JE}, l[k]? = some x → ∀ (i : Nat) (v : Value), (jobL x.1 x.2.1 x.2.2)[i]? = some v → (jc l)[k * 18 + i]? = some v
  | [], k, x, h => by simp at h
  | y :: l, 0, x, h => by
    intro i v hv
    simp only [List.getElem?_cons_zero, Option.some.injEq] at h
    subst h
    show (jobL y.1 y.2.1 y.2.2 ++ jc l)[0 * 18 + i]? = some v
    rw [Nat.zero_mul, Nat.zero_add, List.getElem?_append_left (List.getElem?_eq_some_iff.1 hv).1]
    exact hv
  | y :: l, k + 1, x, h => by
    intro i v hv
    have := jc_get l k (by simpa using h) i v hv
    show (jobL y.1 y.2.1 y.2.2 ++ jc l)[(k + 1) * 18 + i]? = some v
    have e : (jobL y.1 y.2.1 y.2.2).length = 18 := rfl
    rw [List.getElem?_append_right (by rw [e]; omega), e, show (k + 1) * 18 + i - 18 = k * 18 + i by omega]
    exact this
theorem jc_length (l : List JE) : (jc l).length = l.length * 18 := by
  induction l with
  | nil => rfl
  | cons x l ih =>
    have e : (jc (x :: l)).length = 18 + (jc l).length := by
      show (jobL x.1 x.2.1 x.2.2 ++ jc l).length = _
      rw [List.length_append]
      rfl
    rw [e, ih, List.length_cons]
    omega
/-- A list of lists. -/
abbrev LE := List Int × Option Addr × Nat
def lc (l : List LE) : List Value := l.map fun x => .slice x.2.1 x.1.length x.2.2
theorem lc_length (l : List LE) : (lc l).length = l.length := by simp [lc]
section
variable {w w' : World} {ex : Nat → Prop} {I L : List (Nat × BA)} {n b o k : Nat} {A : Option Addr} {l : List JE} {r : List LE}
theorem Sp.jcR {j : Jb} {B : Option Addr} {c : Nat} (S : Sp w ex I A n 18 b o (jc l)) (M : Mem w ex w' L) (hI : I.Sublist L) (h : l[k]? = some (j, B, c)) : w'.rangeAt b (o + k * 18) (jobL j B c) := fun i v hv => by
  have := S.cell w' L M hI _ _ (jc_get l k h i v hv)
  rwa [← Nat.add_assoc] at this
theorem Sp.lc0 {x : List Int} {B : Option Addr} {c : Nat} (S : Sp w ex I A n 1 b o (lc r)) (M : Mem w ex w' L) (hI : I.Sublist L) (h : r[k]? = some (x, B, c)) : w'.cell? ⟨b, o + k * 1, none⟩ = some (.slice B x.length c) := by
  rw [Nat.mul_one]
  exact S.cell w' L M hI _ _ (by unfold lc; rw [List.getElem?_map, h]; rfl)
end

section
variable {P : Program} {op : Oper} {a : Act} {K : Act → World → Prop} {Q : Exit → Act → World → Prop} {w0 w : World} {ex : Nat → Prop} {L0 L : List (Nat × BA)} {E : List (Nat × Value)} {t n : Nat}
/-- A literal that is appended to later on: a row of the call's own. -/
theorem ow_bsR {ty e size : Nat} {len : Nat} {parts : List (Nat × Operand)} {vs : List (Nat × Value)} (l : List Value) (M : Mem w0 ex w L) (T : Tm a n E) (ho : op.op = .buildSlice ty len parts.toArray) (hd : op.dst = some t) (hf : freshE E t = true) (hn : Nat.blt t n = true) (hv : EvP a parts vs)
    (hr : ∀ w : World, (Instr.buildSlice ty len vs.toArray).run P w = .ok (.slice (some ⟨w.heap.size, 0, none⟩) len len) (w.alloc (.cells l.toArray e)))
    (hl : l.length = len * size) (h0 : Nat.blt 0 len = true) (h1 : Nat.ble len 1000 = true)
    (h : ∀ g w' a', Mem w0 ex w' ((g, .row e size len l len) :: L) → Tm a' n ((t, .slice (some ⟨g, 0, none⟩) len len) :: E) → K a' w') : op.wp P a w K Q := by
  unfold Oper.wp execOp
  simp only [ho]
  have e1 : (parts.toArray.map fun x => (x.1, a.eval x.2)) = vs.toArray := by simp [← hv.map]
  have e2 : (parts.toArray.map fun (i, x) => (i, a.eval x)) = vs.toArray := e1
  rw [Sem.run_bind, e2, hr]
  have h1 := Nat.le_of_ble_eq_true h1
  refine h w.heap.size _ _ ?_ (by rw [hd]; exact T.put hn hf _)
  refine (M.alloc _).add M.size ⟨⟨hl, .inr ⟨w.heap.size, len, l.toArray, rfl, Nat.le_refl _, heap_alloc_new w _, Nat.le_refl _, by unfold maxLen; omega, by simp [hl], by simp [← hl]⟩⟩, Nat.le_of_ble_eq_true h0⟩ (fun q hq e => by have := (BA.lt (M.blk q hq).2); omega)
/-- A list is appended to a row of the call's own. What comes of it is known as cells. -/
theorem ow_appL {s x : Operand} {ty e size bytes b m d k cap : Nat} {B : Option Addr} {z : Value} {xs cs : List Value}
    (hinfo : (P.info? e).map (fun i => (i.zero, i.size, i.bytes)) = some (some z, size, bytes)) (M : Mem w0 ex w ((b, .row e size k xs cap) :: L)) (T : Tm a n E)
    (ho : op.op = .call { callee := .builtin .append, args := #[s, x], argTypes := #[ty, ty] }) (hd : op.dst = some t) (hf : freshE E t = true) (hnn : Nat.blt t n = true)
    (h0 : ∀ g (w : World), (Builtin.append_ #[ty, ty] op.type #[.slice (some ⟨g, 0, none⟩) k cap, .slice B 0 d]).run P w = .ok (.slice (some ⟨g, 0, none⟩) k cap) w)
    (ht : P.underlying ty = some (.slice e)) (hzs : z.cells.size = size) (hsz : Nat.blt 0 size = true) (hby : Nat.ble bytes 1000 = true) (hm : k + m ≤ 1000000)
    (hs : a.eval s = .slice (some ⟨b, 0, none⟩) k cap) (hx : a.eval x = .slice B m d) (hr : Rd w w.heap.size size B m cs) (h1 : ∀ u ∈ cs, u.oneCell' = true)
    (h : ∀ g cap' ys w' a', Mem w0 ex w' ((g, .cells ((xs ++ cs) ++ ys)) :: L) → Tm a' n ((t, .slice (some ⟨g, 0, none⟩) (k + m) cap') :: E) → K a' w') : op.wp P a w K Q := by
  have rowC : ∀ {g c : Nat} {zs : List Value} {k' : Nat} {w' : World} {L' : List (Nat × BA)}, Mem w0 ex w' ((g, .row e size k' zs c) :: L') → ∃ ys, Mem w0 ex w' ((g, .cells (zs ++ ys)) :: L') := by
    intro g c zs k' w' L' M'
    obtain ⟨⟨hl, hb⟩, hk⟩ := (M'.blk _ List.mem_cons_self).2
    rcases hb with ⟨hb, _⟩ | ⟨g', cap', cur, e1, _, hg, hc1, hc2, hc3, hc4⟩
    · cases hb
    · injection e1 with e1 _ _
      injection e1 with e1
      injection e1 with e1 _ _
      subst e1
      refine ⟨cur.toList.drop (k' * size), M'.os, M'.tape, M'.output, M'.size, M'.block, ?_, M'.nd⟩
      intro p hp
      rcases List.mem_cons.1 hp with rfl | hp
      · refine ⟨(M'.blk _ List.mem_cons_self).1, ?_⟩
        rw [← hc4, List.take_append_drop]
        exact Bk.of_heap hg
      · exact M'.blk p (List.mem_cons_of_mem _ hp)
  rcases Nat.eq_zero_or_pos m with rfl | hm0
  · obtain rfl : cs = [] := List.eq_nil_of_length_eq_zero (by have := hr.1; omega)
    unfold Oper.wp execOp
    simp only [ho, resolve, invoke, builtin, Sem.run_bind, Sem.run_pure, Result.andThen_ok, List.map_toArray, List.map_cons, List.map_nil, hs, hx, h0]
    obtain ⟨ys, M'⟩ := rowC M
    rw [← List.append_nil xs] at M'
    exact h b cap ys w _ M' (by rw [hd, Nat.add_zero]; exact T.put hnn hf _)
  · obtain ⟨i, hi, hz0, hz1, hz2⟩ := info_parts hinfo
    obtain ⟨g2, o2, rfl, hlt, hc⟩ := hr.cells hm0
    have hby := Nat.le_of_ble_eq_true hby
    have hsz := Nat.le_of_ble_eq_true hsz
    have hbb : (k + m) * bytes ≤ 140737488355328 := by
      have : (k + m) * bytes ≤ 1000000 * 1000 := Nat.mul_le_mul (by omega) hby
      omega
    have hrow := (M.blk _ List.mem_cons_self).2
    refine wp_append_lies w s x ty ho b e i z size bytes ht hi hz0 hz1 hz2 hzs hsz _ k xs hs hrow.1 ⟨g2, o2, none⟩ m d cs hx hr.1 (fun j u hu => by rw [Addr.add_mid]; exact hc j u hu) h1 hm0 (by unfold maxLen; omega) hbb (Nat.le_of_lt (BA.lt hrow)) w.heap.size rfl ?_
    intro g cap' w' hown hgr hat hlt
    have hgr : w.grownBy w' (some b) := hgr
    have hk := hrow.2
    have key : Mem w0 ex w' ((g, .row e size (k + m) (xs ++ cs) cap') :: L) := by
      rcases hat with h2 | h2
      · have h2 : some b = some g := h2
        injection h2 with h2
        subst h2
        exact M.callW (L' := (b, .row e size (k + m) (xs ++ cs) cap') :: L) .head hgr (own_rebase hown (by omega))
      · have M1 := M.callW (L' := (b, .any (fun _ => True)) :: L) .head hgr (by
          have hl0 : b < w'.heap.size := Nat.lt_of_lt_of_le (BA.lt hrow) hgr.size
          exact ⟨w'.heap[b], Array.getElem?_eq_getElem hl0, trivial⟩)
        exact M1.forget.add (by rw [h2]; exact M.size) (own_rebase hown (by omega)) (fun q hq e => by have := BA.lt (M.blk q (List.mem_cons_of_mem _ hq)).2; omega)
    obtain ⟨ys, M'⟩ := rowC key
    exact h g cap' ys w' _ M' (by rw [hd]; exact T.put hnn hf _)
/-- A number is stored into cells that are a list's. -/
theorem ow_stI {ty : TypeId} {x y : Operand} {g k : Nat} {v : Int} {l : List Int} {ys : List Value} {L' : List (Nat × BA)} (M : Mem w0 ex w L) (T : Tm a n E) (ho : op.op = .store ty x y) (hd : op.dst = none) (hx : a.eval x = .pointer (some ⟨g, 0 + k * 1, none⟩)) (hy : a.eval y = .int .i64 v)
    (hu : Upd L g (.cells (ic l ++ ys)) (.cells (ic (l.set k v) ++ ys)) L') (hk : k < l.length) (hi : (P.info? ty).map (·.size) = some 1)
    (h : ∀ w' a', Mem w0 ex w' L' → Tm a' n E → K a' w') : op.wp P a w K Q := by
  refine m_stw (ds := [.int .i64 v]) M ho hx hy rfl hu ?_ (by simp only [List.length_append, List.length_cons, List.length_nil, ic_length]; omega) rfl hi fun w' M' => h w' _ M' (by rw [hd]; exact T)
  rw [Nat.zero_add, Nat.mul_one, List.take_append_of_le_length (by rw [ic_length]; omega), List.drop_append_of_le_length (by rw [ic_length]; simp; omega), ← List.append_assoc]
  congr 1
  unfold ic
  rw [← List.map_take, ← List.map_drop, List.set_eq_take_append_cons_drop, if_pos hk]
  simp
/-- A range is stored into cells that are a list's. -/
theorem ow_stR {ty : TypeId} {x y : Operand} {g k : Nat} {v0 v1 : Int} {l : List (Int × Int)} {ys : List Value} {L' : List (Nat × BA)} (M : Mem w0 ex w L) (T : Tm a n E) (ho : op.op = .store ty x y) (hd : op.dst = none) (hx : a.eval x = .pointer (some ⟨g, 0 + k * 2, none⟩)) (hy : a.eval y = .agg #[.int .i64 v0, .int .i64 v1])
    (hu : Upd L g (.cells (rc l ++ ys)) (.cells (rc (l.set k (v0, v1)) ++ ys)) L') (hk : k < l.length) (hi : (P.info? ty).map (·.size) = some 2)
    (h : ∀ w' a', Mem w0 ex w' L' → Tm a' n E → K a' w') : op.wp P a w K Q := by
  have hc : ∀ (l : List (Int × Int)) (k : Nat), k < l.length → (rc l).take (k * 2) ++ [.int .i64 v0, .int .i64 v1] ++ (rc l).drop (k * 2 + 2) = rc (l.set k (v0, v1)) := by
    intro l
    induction l with
    | nil => intro k hk; simp at hk
    | cons p l ih =>
      intro k hk
      cases k with
      | zero => rfl
      | succ k =>
        have := ih k (by simpa using hk)
        rw [List.set_cons_succ]
        show (Value.int .i64 p.1 :: Value.int .i64 p.2 :: rc l).take ((k + 1) * 2) ++ _ ++ (Value.int .i64 p.1 :: Value.int .i64 p.2 :: rc l).drop ((k + 1) * 2 + 2) = Value.int .i64 p.1 :: Value.int .i64 p.2 :: rc (l.set k (v0, v1))
        rw [show (k + 1) * 2 = k * 2 + 1 + 1 by omega, show k * 2 + 1 + 1 + 2 = k * 2 + 2 + 1 + 1 by omega]
        simp only [List.take_succ_cons, List.drop_succ_cons, List.cons_append]
        rw [this]
  refine m_stw (ds := [.int .i64 v0, .int .i64 v1]) M ho hx hy rfl hu ?_ (by simp only [List.length_append, List.length_cons, List.length_nil, rc_length]; omega) rfl hi fun w' M' => h w' _ M' (by rw [hd]; exact T)
  rw [Nat.zero_add, List.take_append_of_le_length (by rw [rc_length]; omega), List.drop_append_of_le_length (by rw [rc_length]; simp; omega), ← List.append_assoc, ← hc l k hk]
  simp
theorem rn_rem {ty ty' : TypeId} {x y : Operand} {p q : Int} (ho : op.op = .binOp .rem ty x y ty') (hx : a.eval x = .int .i64 p) (hy : a.eval y = .int .i64 q) (hq : q ≠ 0) : Runs P op a (.int .i64 (p.tmod q)) w := by
  refine rn_bin ho hx hy ?_
  rw [eqGuard_rem, binOp_rem]
  unfold Op.intDiv
  rw [if_neg (by simpa using hq)]
  rfl
end
theorem tmod_bd (p : Int) (q : Nat) (h : 0 < q) : -(q : Int) < p.tmod q ∧ p.tmod q < q := by
  have h1 := Int.tmod_lt_of_pos p (b := (q : Int)) (by omega)
  have h2 := Int.tmod_lt_of_pos (-p) (b := (q : Int)) (by omega)
  rw [Int.neg_tmod] at h2
  omega

def Sw (size : Nat) (A : Option Addr) (n b : Nat) (xs : List Value) (I : List (Nat × BA)) : Prop := xs.length = n * size ∧ (n = 0 ∨ (A = some ⟨b, 0, none⟩ ∧ ∃ ys, I = [(b, .cells (xs ++ ys))]))
theorem Sw.sp {w : World} {ex : Nat → Prop} {size n b : Nat} {A : Option Addr} {xs : List Value} {I : List (Nat × BA)} (h : Sw size A n b xs I) : Sp w ex I A n size b 0 xs := by
  obtain ⟨hl, rfl | ⟨rfl, ys, rfl⟩⟩ := h
  · obtain rfl : xs = [] := List.eq_nil_of_length_eq_zero (by omega)
    exact ⟨fun h => absurd h (by omega), by simp, fun _ _ _ _ h => absurd h (by omega), fun _ _ _ _ j u hu => by simp at hu⟩
  · exact Sp.pre hl
theorem Sm.sw {w0 w : World} {ex : Nat → Prop} {L I : List (Nat × BA)} {e size n c : Nat} {A : Option Addr} {xs : List Value} (h : Sm e size A n c xs I) (M : Mem w0 ex w (L ++ I)) : ∃ b I', Sw size A n b xs I' ∧ Mem w0 ex w (L ++ I') := by
  rcases h with ⟨rfl, rfl, rfl, g, rfl, rfl⟩ | ⟨g, rfl, rfl⟩
  · exact ⟨0, _, ⟨by simp, .inl rfl⟩, M⟩
  · have M' := Mem.swapI (I := L) M
    obtain ⟨⟨hl, hb⟩, hk⟩ := (M'.blk _ List.mem_cons_self).2
    rcases hb with ⟨hb, _⟩ | ⟨g', cap', cur, e1, _, hg, hc1, hc2, hc3, hc4⟩
    · cases hb
    · injection e1 with e1 _ _
      injection e1 with e1
      injection e1 with e1 _ _
      subst e1
      refine ⟨g, [(g, .cells (xs ++ cur.toList.drop (n * size)))], ⟨hl, .inr ⟨rfl, _, rfl⟩⟩, Mem.swapI (I := [(g, .cells (xs ++ cur.toList.drop (n * size)))]) (L := L) ⟨M'.os, M'.tape, M'.output, M'.size, M'.block, ?_, M'.nd⟩⟩
      intro p hp
      rcases List.mem_cons.1 hp with rfl | hp
      · refine ⟨(M'.blk _ List.mem_cons_self).1, ?_⟩
        rw [← hc4, List.take_append_drop]
        exact Bk.of_heap hg
      · exact M'.blk p (List.mem_cons_of_mem _ hp)
theorem Upd.app {g : Nat} {p p' : BA} : ∀ (L : List (Nat × BA)), Upd (L ++ [(g, p)]) g p p' (L ++ [(g, p')])
  | [] => .head
  | _ :: L => .tail (Upd.app L)
theorem ow_stT {P : Program} {op : Oper} {a : Act} {K : Act → World → Prop} {Q : Exit → Act → World → Prop} {w0 w : World} {ex : Nat → Prop} {L0 I : List (Nat × BA)} {E : List (Nat × Value)} {n m : Nat} {ty : TypeId} {x y : Operand} {b k : Nat} {A : Option Addr} {v0 v1 : Int} {l : List (Int × Int)} (L1 : List (Nat × BA))
    (M : Mem w0 ex w L0) (hsp : L0 = L1 ++ I) (hS : Sw 2 A m b (rc l) I) (T : Tm a n E) (ho : op.op = .store ty x y) (hd : op.dst = none) (hx : a.eval x = .pointer (some ⟨b, 0 + k * 2, none⟩)) (hy : a.eval y = .agg #[.int .i64 v0, .int .i64 v1])
    (hk : k < l.length) (hi : (P.info? ty).map (·.size) = some 2)
    (h : ∀ I' w' a', Sw 2 A m b (rc (l.set k (v0, v1))) I' → Mem w0 ex w' (L1 ++ I') → Tm a' n E → K a' w') : op.wp P a w K Q := by
  subst hsp
  obtain ⟨hl, rfl | ⟨rfl, ys, rfl⟩⟩ := hS
  · rw [rc_length] at hl; omega
  · refine ow_stR M T ho hd hx hy (Upd.app L1) hk hi fun w' a' M' T' => h _ w' a' ⟨?_, .inr ⟨rfl, ys, rfl⟩⟩ M' T'
    rw [rc_length, List.length_set, ← rc_length]; exact hl

def TurnPost (n : Nat) (w : World) (e : Ending) (w' : World) : Prop := ∃ k : Nat, e = .returned (.int .i64 k) ∧ k < n ∧ Below w.heap.size w w'
theorem turn_bd (x : Int) (n : Nat) (h : 0 < n) : (-(n : Int) < x.tmod n ∧ x.tmod n < n) ∧ 0 ≤ (x.tmod n + n).tmod n ∧ (x.tmod n + n).tmod n < n := by
  have h1 := tmod_bd x n h
  exact ⟨h1, Int.tmod_nonneg _ (by omega), (tmod_bd _ n h).2⟩


set_option maxRecDepth 100000 in
set_option maxHeartbeats 1000000 in
theorem turn_any (x : Int) (n : Nat) (w : World) (h0 : 0 < n) (h9 : n ≤ 1000) :
    Calls Try.prog 52 #[.int .i64 x, .int .i64 (n : Int)] w (TurnPost n w) := by
  have hb := turn_bd x n h0
  refine px_enter noEx Try.func52 rfl 14 rfl [.int .i64 x, .int .i64 (n : Int)] rfl rfl (Mem.init w _) ?_
  intro ac wc T M
  refine wp_seq ?_
  refine wp_region_lit ?_
  refine l_q T rfl rfl rfl rfl (rn_assign rfl evc) ?_; clear T ac; intro ac T
  refine wpList_nil ?_
  replace T := T.pick [1, 2] rfl
  refine nm_then ?_
  refine wp_seq ?_
  refine wp_seq ?_
  refine wp_region_lit ?_
  refine l_q T rfl rfl rfl rfl (rn_move rfl (T.ev 1 rfl)) ?_; clear T ac; intro ac T
  refine l_q T rfl rfl rfl rfl (rn_lss rfl (T.ev 0 rfl) evc) ?_; clear T ac; intro ac T
  refine wpList_nil ?_
  replace T := T.pick [0, 2, 3] rfl
  refine nm_then ?_
  refine wp_if (T.ev 0 rfl) ?_ ?_
  · intro h1
    refine wp_seq ?_
    refine wp_region_lit ?_
    refine l_q T rfl rfl rfl rfl (rn_assign rfl evc) ?_; clear T ac; intro ac T
    refine wpList_nil ?_
    replace T := T.pick [0] rfl
    refine nm_then ?_
    refine wp_ret ?_
    refine rt_then ?_
    refine rt_1 T rfl (T.ev 0 rfl) ?_
    exact ⟨0, rfl, h0, M.below⟩
  · intro h1
    refine wp_skip ?_
    refine nm_then ?_
    refine wp_seq ?_
    refine wp_region_lit ?_
    refine l_q T rfl rfl rfl rfl (rn_move rfl (T.ev 1 rfl)) ?_; clear T ac; intro ac T
    refine l_q T rfl rfl rfl rfl (rn_move rfl (T.ev 3 rfl)) ?_; clear T ac; intro ac T
    refine l_q T rfl rfl rfl rfl (rn_rem rfl (T.ev 1 rfl) (T.ev 0 rfl) (by omega)) ?_; clear T ac; intro ac T
    refine l_q T rfl rfl rfl rfl (rn_move rfl (T.ev 5 rfl)) ?_; clear T ac; intro ac T
    refine l_q T rfl rfl rfl rfl (rn_add rfl (T.ev 1 rfl) (T.ev 0 rfl) (by omega)) ?_; clear T ac; intro ac T
    refine l_q T rfl rfl rfl rfl (rn_move rfl (T.ev 7 rfl)) ?_; clear T ac; intro ac T
    refine l_q T rfl rfl rfl rfl (rn_rem rfl (T.ev 1 rfl) (T.ev 0 rfl) (by omega)) ?_; clear T ac; intro ac T
    refine l_q T rfl rfl rfl rfl (rn_assign rfl (T.ev 0 rfl)) ?_; clear T ac; intro ac T
    refine wpList_nil ?_
    replace T := T.pick [0] rfl
    refine nm_then ?_
    refine wp_ret ?_
    refine rt_1 T rfl (T.ev 0 rfl) ?_
    exact ⟨_, by rw [Int.toNat_of_nonneg hb.2.1], by omega, M.below⟩

def StrokesPost (bp : Nat) (most : Int) (w : World) (e : Ending) (w' : World) : Prop :=
  ∃ (l : List Int) (A : Option Addr) (c : Nat) (s : Int) (I : List (Nat × BA)), e = .returned (.slice A l.length c) ∧ ((l.length : Int) ≤ most ∧ ∀ q ∈ l, q = 1 ∨ q = 2) ∧ u64ok s ∧ Sl 3 1 (.slice A l.length c) l.length (ic l) I ∧ Mem w (fun b => b = bp) w' (I ++ [(bp, .cells [.int .u64 s])])
theorem ic_snoc (l : List Int) (x : Int) : ic l ++ [.int .i64 x] = ic (l ++ [x]) := by simp [ic]


set_option maxRecDepth 100000 in
set_option maxHeartbeats 1000000 in
theorem strokesOf_any (s : Int) (bp : Nat) (most : Int) (w : World) (hm0 : 0 ≤ most) (hm1 : most ≤ 40) (hp : Bk w bp #[.int .u64 s]) (hs : u64ok s) :
    Calls Try.prog 32 #[.pointer (some ⟨bp, 0, none⟩), .int .i64 most] w (StrokesPost bp most w) := by
  refine px_enter (fun b => b = bp) Try.func32 rfl 21 rfl [.pointer (some ⟨bp, 0, none⟩), .int .i64 most] rfl rfl (Mem.initEx (p := .cells [.int .u64 s]) hp) ?_
  intro ac wc T M
  refine wp_seq ?_
  refine wp_region_lit ?_
  refine l_q T rfl rfl rfl rfl (rn_assign rfl evc) ?_; clear T ac; intro ac T
  refine wpList_nil ?_
  replace T := T.pick [1, 2] rfl
  refine nm_then ?_
  refine wp_seq ?_
  refine wp_region_lit ?_
  refine l_q T rfl rfl rfl rfl (rn_assign rfl evc) ?_; clear T ac; intro ac T
  refine wpList_nil ?_
  refine nm_then ?_
  refine wp_seq ?_
  refine wp_seq ?_
  refine wp_region_lit ?_
  refine l_q T rfl rfl rfl rfl (rn_move rfl (T.ev 1 rfl)) ?_; clear T ac; intro ac T
  refine l_q T rfl rfl rfl rfl (rn_move rfl (T.ev 3 rfl)) ?_; clear T ac; intro ac T
  refine l_w rfl ?_; intro K hK
  refine ow_call (first := []) (cap := []) T rfl rfl rfl rfl evf (.cons (T.ev 1 rfl) (.cons (T.ev 0 rfl) .nil)) Try.func28 rfl rfl ?_
  refine Calls.mono (upto_any _ bp most _ (by omega) (by omega) (M.nth 0 rfl) hs) ?_
  clear T
  rintro e wc ⟨xu1, su1, hxu1, hsu1, rfl, hgr, hbk⟩
  intro ac T
  replace M := M.callC (cs' := [.int .u64 su1]) .head hgr hbk
  clear hgr hbk
  refine sh_out hK _ _ ?_; clear hK K
  refine l_q T rfl rfl rfl rfl (rn_assign rfl (T.ev 0 rfl)) ?_; clear T ac; intro ac T
  refine wpList_nil ?_
  replace T := T.pick [0, 4, 5] rfl
  refine nm_then ?_
  refine wp_block ?_
  refine wp_loop_n (fun mz ac wc => ∃ (i : Int) (l : List Int) (A : Option Addr) (c : Nat) (s : Int) (I : List (Nat × BA)), mz = i.toNat ∧ (0 ≤ i) ∧ ((l.length : Int) + i ≤ most) ∧ (∀ q ∈ l, q = 1 ∨ q = 2) ∧ (u64ok s) ∧ (Sl 3 1 (.slice A l.length c) l.length (ic l) I) ∧ Tm ac 21 [(0, .pointer (some ⟨bp, 0, none⟩)), (5, .slice A l.length c), (6, .int .i64 i)] ∧ Mem w (fun b => b = bp) wc ((bp, .cells [.int .u64 s]) :: I)) ?_ ?_
  · exact ⟨_, _, [], none, 0, _, [], rfl, (by omega), (by simp; omega), (fun q hq => by cases hq), hsu1, (Sl.nil _ _), T.pick [2, 1, 0] rfl, M.mask [true] rfl⟩
  · clear T M
    rintro mz ac wc ⟨i, l, A, c, s, I, hmm1, hi, hlen, hq, hs, hsl, T, M⟩
    refine wp_seq ?_
    refine wp_seq ?_
    refine wp_region_lit ?_
    refine l_q T rfl rfl rfl rfl (rn_move rfl (T.ev 2 rfl)) ?_; clear T ac; intro ac T
    refine l_q T rfl rfl rfl rfl (rn_gtr rfl (T.ev 0 rfl) evc) ?_; clear T ac; intro ac T
    refine wpList_nil ?_
    replace T := T.pick [0, 2, 3, 4] rfl
    refine nm_then ?_
    refine wp_if (T.ev 0 rfl) ?_ ?_
    · intro h1
      refine wp_skip ?_
      refine nm_then ?_
      refine wp_seq ?_
      refine wp_block ?_
      refine wp_region_lit ?_
      refine l_q T rfl rfl rfl rfl (rn_move rfl (T.ev 2 rfl)) ?_; clear T ac; intro ac T
      refine l_q T rfl rfl rfl rfl (rn_move rfl (T.ev 2 rfl)) ?_; clear T ac; intro ac T
      refine l_w rfl ?_; intro K hK
      refine ow_bs (e := 3) [.int .i64 1, .int .i64 2] M T rfl rfl rfl rfl (.cons evc (.cons evc .nil)) (fun _ => by kernel_rfl) ?_; clear M T; intro g1 wc ac M T
      refine sh_out hK _ _ ?_; clear hK K
      refine l_w rfl ?_; intro K hK
      refine ow_call (first := []) (cap := []) T rfl rfl rfl rfl evf (.cons (T.ev 1 rfl) (.cons (T.ev 0 rfl) .nil)) Try.func60 rfl rfl ?_
      refine Calls.mono (of_any _ bp _ 2 2 [1, 2] _ (M.rdOwn (nthE_mem (i := 0) rfl) rfl rfl) (M.nee 0 1 rfl rfl rfl) (by decide) (by decide) (M.nth 1 rfl) hs) ?_
      clear T
      rintro e wc ⟨xu2, su2, hxu2, hsu2, rfl, hgr, hbk⟩
      intro ac T
      replace M := M.callC (cs' := [.int .u64 su2]) (.tail .head) hgr hbk
      clear hgr hbk
      simp only [List.mem_cons, List.not_mem_nil, or_false] at hxu2
      refine sh_out hK _ _ ?_; clear hK K
      refine l_w rfl ?_; intro K hK
      refine ow_bs (e := 3) [.int .i64 xu2] M T rfl rfl rfl rfl (.cons (T.ev 0 rfl) .nil) (fun _ => by kernel_rfl) ?_; clear M T; intro g2 wc ac M T
      refine sh_out hK _ _ ?_; clear hK K
      refine l_w rfl ?_; intro K hK
      refine ow_app ([(g2, .cells [.int .i64 xu2]), (g1, .cells [.int .i64 1, .int .i64 2]), (bp, .cells [.int .u64 su2])]) Try.info3 hsl M (by first | rfl | simp) T rfl rfl rfl rfl Try.underlying31 rfl rfl rfl (by omega) (T.ev 4 rfl) (T.ev 0 rfl) (nthE_mem (i := 0) rfl) rfl rfl ?_; clear M T; intro ga1 cga1 wc ac M T
      refine sh_out hK _ _ ?_; clear hK K
      refine l_q (v := (.slice (some ⟨ga1, 0, none⟩) (l.length + 1) cga1)) (T.pick [0, 1, 2, 3, 4, 5, 6, 7, 9] rfl) rfl rfl rfl rfl (rn_assign rfl (T.ev 0 rfl)) ?_; clear T ac; intro ac T
      refine wpList_nil ?_
      replace T := T.pick [0, 8, 9] rfl
      replace M := M.mask [true, false, false, true] rfl
      refine nm_blk ?_
      refine nm_then ?_
      refine wp_region_lit ?_
      refine l_q T rfl rfl rfl rfl (rn_move rfl (T.ev 2 rfl)) ?_; clear T ac; intro ac T
      refine l_q T rfl rfl rfl rfl (rn_sub rfl (T.ev 0 rfl) evc (by omega)) ?_; clear T ac; intro ac T
      refine l_q (v := (.int .i64 (i - 1))) (T.pick [0, 1, 2, 3] rfl) rfl rfl rfl rfl (rn_assign rfl (T.ev 0 rfl)) ?_; clear T ac; intro ac T
      refine wpList_nil ?_
      replace T := T.pick [0, 3, 4] rfl
      refine nm_then ?_
      have e9 : l.length + 1 = (l ++ [xu2]).length := by simp
      rw [e9, ic_snoc] at M
      rw [e9] at T
      clear e9
      exact ⟨_, by omega, (i - 1), (l ++ [xu2]), _, cga1, su2, [(ga1, .row 3 1 (l ++ [xu2]).length (ic (l ++ [xu2])) cga1)], rfl, (by omega), (by simp only [List.length_append, List.length_cons, List.length_nil]; omega), (fun q hq' => by rcases List.mem_append.1 hq' with h9 | h9; exact hq q h9; simp only [List.mem_cons, List.not_mem_nil, or_false] at h9; subst h9; omega), hsu2, (Sl.row _ _ _ _ _ _), T.pick [2, 1, 0] rfl, M.perm [1, 0] rfl rfl⟩
    · intro h1
      refine wp_exit ?_
      refine ex_then ?_
      refine ex_then ?_
      refine ex_hit ?_
      refine nm_then ?_
      refine wp_seq ?_
      refine wp_region_lit ?_
      refine l_q T rfl rfl rfl rfl (rn_move rfl (T.ev 2 rfl)) ?_; clear T ac; intro ac T
      refine l_q T rfl rfl rfl rfl (rn_assign rfl (T.ev 0 rfl)) ?_; clear T ac; intro ac T
      refine wpList_nil ?_
      replace T := T.pick [0] rfl
      refine nm_then ?_
      refine wp_ret ?_
      refine rt_1 T rfl (T.ev 0 rfl) ?_
      exact ⟨l, A, c, _, I, rfl, ⟨by omega, hq⟩, hs, hsl, Mem.swapI (I := [(bp, .cells [.int .u64 s])]) (L := I) (M.mask [true] rfl)⟩

end Go.Proofs.Ythlpceoajhcliaa
end

section
/-
  Tongues after strokes, by the program and by ref1: contracts for the laws.
-/
namespace Go.Proofs.Ythlpceoajhcliaa
set_option linter.unusedSimpArgs false
set_option linter.unusedVariables false
open Go.RowKit

theorem afterC_eq (j : Jb) (l : List Int) : Value.agg (afterC j l) = (.agg #[.int .i64 ((afT j l).p0), .int .i64 ((afT j l).p1), .int .i64 ((afT j l).t0), .int .i64 ((afT j l).t1), .int .i64 ((afT j l).r0), .int .i64 ((afT j l).r1)]) := by
  unfold afterC afT
  by_cases h : checkStrokesJ j l = 0
  · rw [if_pos h, if_pos h]; rfl
  · rw [if_neg h, if_neg h]; rfl


theorem After_T (j : Jb) (A : Option Addr) (c : Nat) (B : Option Addr) (d n : Nat) (l : List Int) (w : World) (hr : Rd w w.heap.size 2 A j.sh.length (rc j.sh)) (hn : j.sh.length ≤ 9223372036854775807) (hl : Rd w w.heap.size 1 B n (ic l)) (hm : n ≤ 9223372036854775807) :
    Calls Try.prog 34 #[jobV j A c, .slice B n d] w fun e w' => e = .returned (.tuple #[.agg #[.int .i64 ((afT j l).p0), .int .i64 ((afT j l).p1), .int .i64 ((afT j l).t0), .int .i64 ((afT j l).t1), .int .i64 ((afT j l).r0), .int .i64 ((afT j l).r1)], .int .i64 (checkStrokesJ j l)]) ∧ Below w.heap.size w w' := by
  have h := After_any j A c B d n l w hr hn hl hm
  rw [afterC_eq] at h
  exact h

theorem rWorst_T (j : Jb) (A : Option Addr) (c : Nat) (B : Option Addr) (d n : Nat) (l : List Int) (w : World) (hr : Rd w w.heap.size 2 A j.sh.length (rc j.sh)) (hn : j.sh.length ≤ 9223372036854775807) (hl : Rd w w.heap.size 1 B n (ic l)) (hm : n ≤ 9223372036854775807) :
    Calls Try.prog 55 #[jobV j A c, .slice B n d] w fun e w' => e = .returned (.tuple #[.int .i64 ((worstT j l).1), .int .i64 ((worstT j l).2)]) ∧ Below w.heap.size w w' := by
  have h := rWorst_any j A c B d n l w hr hn hl hm
  rw [rworstT_eq] at h
  exact h

theorem rFine_T (j : Jb) (A : Option Addr) (c : Nat) (B : Option Addr) (d n : Nat) (l : List Int) (w : World) (hr : Rd w w.heap.size 2 A j.sh.length (rc j.sh)) (hn : j.sh.length ≤ 9223372036854775807) (hl : Rd w w.heap.size 1 B n (ic l)) (hm : n ≤ 9223372036854775807) :
    Calls Try.prog 57 #[jobV j A c, .slice B n d] w fun e w' => e = .returned (.tuple #[.int .i64 ((fineT j l).1), .int .i64 ((fineT j l).2)]) ∧ Below w.heap.size w w' := by
  have h := rFine_any j A c B d n l w hr hn hl hm
  rw [rfineT_eq] at h
  exact h

end Go.Proofs.Ythlpceoajhcliaa
end

section
/-
  Plain laws: whoever reads a meter needs no more strokes than whoever does not.
-/
namespace Go.Proofs.Ythlpceoajhcliaa
set_option linter.unusedSimpArgs false
set_option linter.unusedVariables false

/-- What a plan of k strokes at the tip and m at the root does. -/
theorem after_tips (s : St) : ∀ k : Nat, s.after (List.replicate k 1) = { s with p0 := s.p0 + k * s.u0, p1 := s.p1 + k * s.u1, t0 := s.t0 - k * s.a1, t1 := s.t1 - k * s.a0 } := by
  intro k
  induction k generalizing s with
  | zero => simp [St.after]
  | succ k ih =>
    rw [List.replicate_succ]
    show (s.filed 1).after (List.replicate k 1) = _
    rw [ih]
    simp only [St.filed, if_true, St.tip, St.mk.injEq, true_and, and_true]
    simp only [Int.natCast_succ, Int.add_mul, Int.one_mul]
    omega
theorem after_roots (s : St) : ∀ k : Nat, s.after (List.replicate k 2) = { s with p0 := s.p0 - k * s.d1, p1 := s.p1 - k * s.d0, r0 := s.r0 - k * s.b1, r1 := s.r1 - k * s.b0 } := by
  intro k
  induction k generalizing s with
  | zero => simp [St.after]
  | succ k ih =>
    rw [List.replicate_succ]
    show (s.filed 2).after (List.replicate k 2) = _
    rw [ih]
    simp only [St.filed, show ¬ ((2 : Int) = 1) from by decide, if_false, St.root, St.mk.injEq, true_and, and_true]
    simp only [Int.natCast_succ, Int.add_mul, Int.one_mul]
    omega
theorem after_plan (s : St) (n r : Nat) : s.after (plan n r) = { s with p0 := s.p0 + (n - r : Nat) * s.u0 - r * s.d1, p1 := s.p1 + (n - r : Nat) * s.u1 - r * s.d0, t0 := s.t0 - (n - r : Nat) * s.a1, t1 := s.t1 - (n - r : Nat) * s.a0, r0 := s.r0 - r * s.b1, r1 := s.r1 - r * s.b0 } := by
  unfold plan St.after
  rw [List.foldl_append]
  have h := after_tips s (n - r)
  unfold St.after at h
  rw [h]
  exact after_roots _ r

/-- Thick enough behind so many strokes. -/
def thick (j : Jb) (t r : Int) : Prop := j.le ≤ j.t0 - t * j.a1 ∧ j.le ≤ j.r0 - r * j.b1
theorem spoiled_2 (s : St) (ht : s.t0 ≤ s.t1) (hr : s.r0 ≤ s.r1) : s.spoiled = 2 ↔ s.le ≤ s.t0 ∧ s.le ≤ s.r0 := by
  unfold St.spoiled
  split
  · constructor
    · intro h; omega
    · intro h; omega
  · split
    · exact ⟨fun _ => by assumption, fun _ => rfl⟩
    · exact ⟨fun h => by omega, fun h => by contradiction⟩
theorem mul_le {a b x : Int} (hx : 0 ≤ x) (h : a ≤ b) : a * x ≤ b * x := Int.mul_le_mul_of_nonneg_right h hx
theorem mul_le' {a x y : Int} (ha : 0 ≤ a) (h : x ≤ y) : a * x ≤ a * y := Int.mul_le_mul_of_nonneg_left h ha
theorem okT_iff {j : Jb} (hj : j.good) {t r : Int} (ht : 0 ≤ t) (hr : 0 ≤ r) : okT j t r = true ↔ thick j t r := by
  unfold okT
  rw [beq_iff_eq]
  have h1 := mul_le' ht hj.a.2.1
  have h2 := mul_le' hr hj.b.2.1
  have h3 := hj.t
  have h4 := hj.r
  exact spoiled_2 (thinJ j 0 0 t r) (by simp only [thinJ]; omega) (by simp only [thinJ]; omega)
theorem fine_1 (j : Jb) (s : St) : (fineJ j s == 1) = (hasB (winS j).1 (winS j).2 s.p0 s.p1 && (s.spoiled == 2)) := by
  have h := passes_1 j s.p0 s.p1
  have h13 := passes_13 j s.p0 s.p1
  unfold fineJ
  rw [← h]
  generalize passesJ j s.p0 s.p1 = pv at *
  generalize s.spoiled = sv
  by_cases h1 : pv = 1 <;> by_cases h2 : sv = 2 <;> simp [h1, h2]
  · split <;> simp <;> omega
  · split <;> simp <;> omega
  · split <;> simp <;> omega
theorem isFine_iff {j : Jb} (hj : j.good) (n r : Nat) (hr : r ≤ n) : isFine j (plan n r) = true ↔
    hasB (winS j).1 (winS j).2 (j.p0 + (n - r : Nat) * j.u0 - r * j.d1) (j.p1 + (n - r : Nat) * j.u1 - r * j.d0) = true ∧ thick j (n - r : Nat) r := by
  unfold isFine
  rw [fine_1, after_plan]
  simp only [Bool.and_eq_true, beq_iff_eq]
  have h1 := mul_le' (Int.natCast_nonneg (n - r)) hj.a.2.1
  have h2 := mul_le' (Int.natCast_nonneg r) hj.b.2.1
  have h3 := hj.t
  have h4 := hj.r
  rw [spoiled_2 _ (by simp only [Jb.st]; omega) (by simp only [Jb.st]; omega)]
  rfl

theorem has_sub {a b c d e f : Int} (h : hasB a b c d = true) (h1 : c ≤ e) (h2 : f ≤ d) : hasB a b e f = true := by
  unfold hasB at *
  simp only [decide_eq_true_eq] at *
  omega
theorem rdg_sub (p0 p1 m : Int) (k : Nat) : p0 ≤ (rdg p0 p1 m k).1 ∧ (rdg p0 p1 m k).2 ≤ p1 := by
  unfold rdg mstep
  refine ⟨?_, ?_⟩
  · dsimp only; split <;> omega
  · dsimp only; split <;> omega
theorem mem_rdgs {p0 p1 m : Int} {x : Int × Int} (h : x ∈ rdgs p0 p1 m) : p0 ≤ x.1 ∧ x.2 ≤ p1 := by
  unfold rdgs at h
  obtain ⟨k, _, rfl⟩ := List.mem_map.1 h
  exact rdg_sub p0 p1 m k

/-- If k strokes at the tip and m at the root end well, whatever is read, a tuner at work can be sure to stop with as many. -/
theorem stops_plan {j : Jb} (hj : j.good) : ∀ (n k m : Nat), k + m = n → ∀ (p0 p1 t r x0 x1 : Int), 0 ≤ t → 0 ≤ r → p0 ≤ x0 → x1 ≤ p1 →
    hasB (winS j).1 (winS j).2 (p0 + k * j.u0 - m * j.d1) (p1 + k * j.u1 - m * j.d0) = true → thick j (t + k) (r + m) → stopsP j (winS j).1 (winS j).2 n x0 x1 t r = true := by
  intro n
  induction n with
  | zero =>
    intro k m hkm p0 p1 t r x0 x1 ht hr h0 h1 hw _
    obtain rfl : k = 0 := by omega
    obtain rfl : m = 0 := by omega
    simp only [stopsP]
    exact has_sub hw (by simpa using h0) (by simpa using h1)
  | succ n ih =>
    intro k m hkm p0 p1 t r x0 x1 ht hr h0 h1 hw hth
    have ha := hj.a
    have hb := hj.b
    unfold stopsP
    simp only [Bool.or_eq_true, Bool.and_eq_true, List.all_eq_true]
    refine .inr ?_
    rcases Nat.eq_zero_or_pos k with rfl | hk
    · obtain ⟨m, rfl⟩ : ∃ m', m = m' + 1 := ⟨m - 1, by omega⟩
      refine .inr ⟨(okT_iff hj ht (by omega)).2 ?_, fun x hx => ?_⟩
      · unfold thick at hth ⊢
        have e1 := mul_le (x := j.b1) (by omega) (show r + 1 ≤ r + ((m + 1 : Nat) : Int) from by omega)
        simp only [Int.natCast_zero, Int.add_zero] at hth
        omega
      · have hs := mem_rdgs hx
        refine ih 0 m (by omega) (p0 - j.d1) (p1 - j.d0) t (r + 1) x.1 x.2 ht (by omega) (by omega) (by omega) ?_ ?_
        · have e1 : p0 - j.d1 + ((0 : Nat) : Int) * j.u0 - (m : Int) * j.d1 = p0 + ((0 : Nat) : Int) * j.u0 - ((m + 1 : Nat) : Int) * j.d1 := by rw [Int.natCast_succ, Int.add_mul, Int.one_mul]; omega
          have e2 : p1 - j.d0 + ((0 : Nat) : Int) * j.u1 - (m : Int) * j.d0 = p1 + ((0 : Nat) : Int) * j.u1 - ((m + 1 : Nat) : Int) * j.d0 := by rw [Int.natCast_succ, Int.add_mul, Int.one_mul]; omega
          rw [e1, e2]; exact hw
        · have e3 : r + 1 + (m : Int) = r + ((m + 1 : Nat) : Int) := by omega
          rw [e3]; exact hth
    · obtain ⟨k, rfl⟩ : ∃ k', k = k' + 1 := ⟨k - 1, by omega⟩
      refine .inl ⟨(okT_iff hj (by omega) hr).2 ?_, fun x hx => ?_⟩
      · unfold thick at hth ⊢
        have e1 := mul_le (x := j.a1) (by omega) (show t + 1 ≤ t + ((k + 1 : Nat) : Int) from by omega)
        have e2 := mul_le (x := j.b1) (by omega) (show r ≤ r + (m : Int) from by omega)
        omega
      · have hs := mem_rdgs hx
        refine ih k m (by omega) (p0 + j.u0) (p1 + j.u1) (t + 1) r x.1 x.2 (by omega) hr (by omega) (by omega) ?_ ?_
        · have e1 : p0 + j.u0 + (k : Int) * j.u0 - (m : Int) * j.d1 = p0 + ((k + 1 : Nat) : Int) * j.u0 - (m : Int) * j.d1 := by rw [Int.natCast_succ, Int.add_mul, Int.one_mul]; omega
          have e2 : p1 + j.u1 + (k : Int) * j.u1 - (m : Int) * j.d0 = p1 + ((k + 1 : Nat) : Int) * j.u1 - (m : Int) * j.d0 := by rw [Int.natCast_succ, Int.add_mul, Int.one_mul]; omega
          rw [e1, e2]; exact hw
        · have e3 : t + 1 + (k : Int) = t + ((k + 1 : Nat) : Int) := by omega
          rw [e3]; exact hth

theorem roots_some {j : Jb} {n : Nat} {l : List Int} : ∀ (k r : Nat), rootsFrom j n k r = some l → ∃ r', r ≤ r' ∧ r' < r + k ∧ l = plan n r' ∧ isFine j (plan n r') = true
  | 0, _, h => by cases h
  | k + 1, r, h => by
    unfold rootsFrom at h
    split at h
    · rename_i hf
      injection h with h
      exact ⟨r, by omega, by omega, h.symm, hf⟩
    · obtain ⟨r', h1, h2, h3⟩ := roots_some k (r + 1) h
      exact ⟨r', by omega, by omega, h3⟩
theorem roots_none {j : Jb} {n : Nat} : ∀ (k r : Nat), rootsFrom j n k r = none → ∀ r', r ≤ r' → r' < r + k → isFine j (plan n r') = false
  | 0, _, _ => fun r' _ _ => by omega
  | k + 1, r, h => by
    intro r' h1 h2
    unfold rootsFrom at h
    split at h
    · cases h
    · rename_i hf
      by_cases e : r' = r
      · subst e; exact Bool.eq_false_iff.2 hf
      · exact roots_none k (r + 1) h r' (by omega) (by omega)
theorem plans_some {j : Jb} {l : List Int} : ∀ (k n : Nat), plansFrom j k n = some l → ∃ n' r', n ≤ n' ∧ n' < n + k ∧ r' ≤ n' ∧ l = plan n' r' ∧ isFine j (plan n' r') = true ∧ ∀ m s, n ≤ m → m < n' → s ≤ m → isFine j (plan m s) = false
  | 0, _, h => by cases h
  | k + 1, n, h => by
    unfold plansFrom at h
    split at h
    · rename_i l' hl
      injection h with h
      subst h
      obtain ⟨r', h1, h2, h3, h4⟩ := roots_some _ _ hl
      exact ⟨n, r', by omega, by omega, by omega, h3, h4, fun m s a b => by omega⟩
    · rename_i hl
      obtain ⟨n', r', h1, h2, h3, h4, h5, h6⟩ := plans_some k (n + 1) h
      refine ⟨n', r', by omega, by omega, h3, h4, h5, fun m s a b c => ?_⟩
      by_cases e : m = n
      · subst e; exact roots_none _ _ hl s (by omega) (by omega)
      · exact h6 m s (by omega) b c
theorem plans_none {j : Jb} : ∀ (k n : Nat), plansFrom j k n = none → ∀ m s, n ≤ m → m < n + k → s ≤ m → isFine j (plan m s) = false
  | 0, _, _ => fun m s _ _ _ => by omega
  | k + 1, n, h => by
    intro m s a b c
    unfold plansFrom at h
    split at h
    · cases h
    · rename_i hl
      by_cases e : m = n
      · subst e; exact roots_none _ _ hl s (by omega) (by omega)
      · exact plans_none k (n + 1) h m s (by omega) (by omega) c
theorem first_some {b : Nat → Bool} {m : Nat} : ∀ (k n : Nat), firstB b k n = some m → b m = true ∧ n ≤ m ∧ m < n + k ∧ ∀ i, n ≤ i → i < m → b i = false
  | 0, _, h => by cases h
  | k + 1, n, h => by
    unfold firstB at h
    split at h
    · rename_i hb
      injection h with h
      subst h
      exact ⟨hb, by omega, by omega, fun i a b => by omega⟩
    · rename_i hb
      obtain ⟨h1, h2, h3, h4⟩ := first_some k (n + 1) h
      refine ⟨h1, by omega, by omega, fun i a b => ?_⟩
      by_cases e : i = n
      · subst e; exact Bool.eq_false_iff.2 hb
      · exact h4 i (by omega) b
theorem first_none {b : Nat → Bool} : ∀ (k n : Nat), firstB b k n = none → ∀ i, n ≤ i → i < n + k → b i = false
  | 0, _, _ => fun i _ _ => by omega
  | k + 1, n, h => by
    intro i a c
    unfold firstB at h
    split at h
    · cases h
    · rename_i hb
      by_cases e : i = n
      · subst e; exact Bool.eq_false_iff.2 hb
      · exact first_none k (n + 1) h i (by omega) (by omega)

theorem reads_plan {j : Jb} (hj : j.good) {n r : Nat} (hr : r ≤ n) (hf : isFine j (plan n r) = true) : readsP j (winS j).1 (winS j).2 n j.p0 j.p1 0 0 = true := by
  obtain ⟨h1, h2⟩ := (isFine_iff hj n r hr).1 hf
  unfold readsP
  rw [List.all_eq_true]
  intro x hx
  have hs := mem_rdgs hx
  exact stops_plan hj n (n - r) r (by omega) j.p0 j.p1 0 0 x.1 x.2 (by omega) (by omega) hs.1 hs.2 h1 (by simpa using h2)
/-- With a meter no more strokes are needed. -/
theorem guided_le {j : Jb} (hj : j.good) {n r : Nat} (hr : r ≤ n) (hn : n ≤ 4) (hf : isFine j (plan n r) = true) : ∃ m, guidedF j = some m ∧ m ≤ n := by
  have h := reads_plan hj hr hf
  unfold guidedF
  cases hg : firstB (fun n => readsP j (winS j).1 (winS j).2 n j.p0 j.p1 0 0) 5 0 with
  | none => have := first_none _ _ hg n (by omega) (by omega); rw [h] at this; cases this
  | some m =>
    obtain ⟨_, _, _, h4⟩ := first_some _ _ hg
    refine ⟨m, rfl, ?_⟩
    rcases Nat.lt_or_ge n m with hlt | hge
    · have := h4 n (by omega) hlt; rw [h] at this; cases this
    · exact hge
theorem heard1 {j : Jb} (hj : j.good) (he : shortE j = 0) (hl : (shortL j).length ≤ 4) : (guidedJ j).2 = 0 ∧ (guidedJ j).1 ≤ (shortL j).length := by
  have hc := check_of_good hj
  unfold shortE at he
  unfold shortL at hl ⊢
  unfold guidedJ
  rw [if_pos hc] at he hl ⊢
  rw [if_pos hc]
  cases hp : plansFrom j 7 0 with
  | none => rw [hp] at he; simp at he
  | some l =>
    rw [hp] at hl
    obtain ⟨n, r, _, h2, h3, rfl, h5, _⟩ := plans_some _ _ hp
    have hlen : (plan n r).length = n := plan_length h3
    simp only [Option.getD_some, hlen] at hl ⊢
    obtain ⟨m, hm, hle⟩ := guided_le hj h3 hl h5
    rw [hm]
    exact ⟨rfl, by dsimp only; omega⟩

/-- A job whose numbers are known. -/
structure Jb.sg (j : Jb) : Prop where
  g : j.good
  p : j.p1 = j.p0
  u : j.u1 = j.u0
  d : j.d1 = j.d0
  t : j.le ≤ j.t0
  r : j.le ≤ j.r0
theorem rdgs_one {p m : Int} {x : Int × Int} (h : x ∈ rdgs p p m) : x = (p, p) := by
  unfold rdgs rdN at h
  obtain ⟨k, hk, rfl⟩ := List.mem_map.1 h
  have hk := List.mem_range.1 hk
  unfold rdg mstep
  dsimp only
  rw [if_neg (by omega), if_neg (by omega)]
theorem rdgs_has {p m : Int} (hm : 0 ≤ m) : (p, p) ∈ rdgs p p m := by
  have h : 0 < (rdgs p p m).length := by rw [rdgs_length]; unfold rdN; omega
  have h2 := List.getElem_mem h
  rw [rdgs_one h2] at h2
  exact h2
theorem reads_one {j : Jb} (hj : j.good) (s0 s1 : Int) (n : Nat) (p t r : Int) : readsP j s0 s1 n p p t r = stopsP j s0 s1 n p p t r := by
  unfold readsP
  rw [Bool.eq_iff_iff, List.all_eq_true]
  constructor
  · intro h; exact h (p, p) (rdgs_has hj.me.1)
  · intro h x hx; rw [rdgs_one hx]; exact h
theorem stops_one {j : Jb} (hj : j.sg) : ∀ (n : Nat) (p t r : Int), 0 ≤ t → 0 ≤ r → stopsP j (winS j).1 (winS j).2 n p p t r = true →
    ∃ k m : Nat, k + m ≤ n ∧ hasB (winS j).1 (winS j).2 (p + k * j.u0 - m * j.d0) (p + k * j.u0 - m * j.d0) = true ∧ (k + m = 0 ∨ thick j (t + k) (r + m)) := by
  intro n
  induction n with
  | zero =>
    intro p t r _ _ h
    exact ⟨0, 0, by omega, by simpa [stopsP] using h, .inl rfl⟩
  | succ n ih =>
    intro p t r ht hr h
    unfold stopsP at h
    rw [hj.u, hj.d] at h
    rw [show ((rdgs (p + j.u0) (p + j.u0) j.me).all fun x => stopsP j (winS j).1 (winS j).2 n x.1 x.2 (t + 1) r) = stopsP j (winS j).1 (winS j).2 n (p + j.u0) (p + j.u0) (t + 1) r from reads_one hj.g _ _ n _ _ _,
      show ((rdgs (p - j.d0) (p - j.d0) j.me).all fun x => stopsP j (winS j).1 (winS j).2 n x.1 x.2 t (r + 1)) = stopsP j (winS j).1 (winS j).2 n (p - j.d0) (p - j.d0) t (r + 1) from reads_one hj.g _ _ n _ _ _] at h
    simp only [Bool.or_eq_true, Bool.and_eq_true] at h
    rcases h with h | ⟨h1, h2⟩ | ⟨h1, h2⟩
    · exact ⟨0, 0, by omega, by simpa using h, .inl rfl⟩
    · obtain ⟨k, m, a, b, c⟩ := ih _ _ _ (by omega) hr h2
      refine ⟨k + 1, m, by omega, ?_, .inr ?_⟩
      · have e : p + j.u0 + (k : Int) * j.u0 - (m : Int) * j.d0 = p + ((k + 1 : Nat) : Int) * j.u0 - (m : Int) * j.d0 := by rw [Int.natCast_succ, Int.add_mul, Int.one_mul]; omega
        rw [← e]; exact b
      · have e3 : t + 1 + (k : Int) = t + ((k + 1 : Nat) : Int) := by omega
        rw [← e3]
        rcases c with c | c
        · obtain rfl : k = 0 := by omega
          obtain rfl : m = 0 := by omega
          simpa using (okT_iff hj.g (by omega) hr).1 h1
        · exact c
    · obtain ⟨k, m, a, b, c⟩ := ih _ _ _ ht (by omega) h2
      refine ⟨k, m + 1, by omega, ?_, .inr ?_⟩
      · have e : p - j.d0 + (k : Int) * j.u0 - (m : Int) * j.d0 = p + (k : Int) * j.u0 - ((m + 1 : Nat) : Int) * j.d0 := by rw [Int.natCast_succ, Int.add_mul, Int.one_mul]; omega
        rw [← e]; exact b
      · have e3 : r + 1 + (m : Int) = r + ((m + 1 : Nat) : Int) := by omega
        rw [← e3]
        rcases c with c | c
        · obtain rfl : k = 0 := by omega
          obtain rfl : m = 0 := by omega
          simpa using (okT_iff hj.g ht (by omega)).1 h1
        · exact c
/-- Who knows all needs no meter. -/
theorem heard2 {j : Jb} (hj : j.sg) : ((guidedJ j).2 = 0 ∧ shortE j = 0 ∧ (guidedJ j).1 = (shortL j).length) ∨ ((guidedJ j).2 = 11 ∧ (shortE j = 11 ∨ (shortE j = 0 ∧ 4 < (shortL j).length))) := by
  have hc := check_of_good hj.g
  unfold shortE shortL guidedJ
  rw [if_pos hc, if_pos hc, if_pos hc]
  cases hg : guidedF j with
  | some m =>
    refine .inl ?_
    obtain ⟨h1, _, h3, _⟩ := first_some _ _ hg
    rw [hj.p, reads_one hj.g] at h1
    obtain ⟨k, i, a, b, c⟩ := stops_one hj m j.p0 0 0 (by omega) (by omega) h1
    have hf : isFine j (plan (k + i) i) = true := by
      rw [isFine_iff hj.g _ _ (by omega)]
      have e : k + i - i = k := by omega
      rw [e, hj.p, hj.u, hj.d]
      refine ⟨b, ?_⟩
      rcases c with c | c
      · obtain rfl : k = 0 := by omega
        obtain rfl : i = 0 := by omega
        unfold thick
        have := hj.t
        have := hj.r
        simp
        omega
      · simpa using c
    cases hp : plansFrom j 7 0 with
    | none => have := plans_none _ _ hp (k + i) i (by omega) (by omega) (by omega); rw [hf] at this; cases this
    | some l =>
      obtain ⟨n, r, _, h2, h4, rfl, h5, h6⟩ := plans_some _ _ hp
      have hlen : (plan n r).length = n := plan_length h4
      have hnk : n ≤ k + i := by
        rcases Nat.lt_or_ge (k + i) n with hlt | hge
        · have := h6 (k + i) i (by omega) hlt (by omega); rw [hf] at this; cases this
        · exact hge
      obtain ⟨m', hm', hle⟩ := guided_le hj.g h4 (by omega) h5
      rw [hg] at hm'
      injection hm' with hm'
      simp only [Option.isSome_some, if_true, Option.getD_some, hlen, true_and]
      omega
  | none =>
    refine .inr ⟨rfl, ?_⟩
    cases hp : plansFrom j 7 0 with
    | none => exact .inl rfl
    | some l =>
      obtain ⟨n, r, _, h2, h4, rfl, h5, h6⟩ := plans_some _ _ hp
      have hlen : (plan n r).length = n := plan_length h4
      refine .inr ⟨rfl, ?_⟩
      simp only [Option.getD_some, hlen]
      rcases Nat.lt_or_ge 4 n with h | h
      · exact h
      · obtain ⟨m', hm', _⟩ := guided_le hj.g h4 h h5
        rw [hg] at hm'; cases hm'

end Go.Proofs.Ythlpceoajhcliaa
end

section
/-
  Plain laws: a job and its mirror.
-/
namespace Go.Proofs.Ythlpceoajhcliaa
set_option linter.unusedSimpArgs false
set_option linter.unusedVariables false

def m2 (x : Int × Int) : Int × Int := (-x.2, -x.1)
def mirJ (j : Jb) : Jb := ⟨-j.p1, -j.p0, j.r0, j.r1, j.t0, j.t1, j.d0, j.d1, j.u0, j.u1, j.b0, j.b1, j.a0, j.a1, j.le, j.sh.map m2, j.wi, j.me⟩
def mirS (s : St) : St := ⟨-s.p1, -s.p0, s.r0, s.r1, s.t0, s.t1, s.d0, s.d1, s.u0, s.u1, s.b0, s.b1, s.a0, s.a1, s.le⟩

theorem mstep_m (a x : Int × Int) : mstep (m2 a) (m2 x) = m2 (mstep a x) := by
  unfold mstep m2
  refine Prod.ext ?_ ?_
  · dsimp only; (repeat' split) <;> omega
  · dsimp only; (repeat' split) <;> omega
theorem meetL_m : ∀ (l : List (Int × Int)) (f : Int × Int), meetL (m2 f) (l.map m2) = m2 (meetL f l)
  | [], _ => rfl
  | x :: l, f => by
    show meetL (mstep (m2 f) (m2 x)) (l.map m2) = m2 (meetL (mstep f x) l)
    rw [mstep_m]
    exact meetL_m l _
theorem winOf_m (wi : Int) (l : List (Int × Int)) : winOf wi (l.map m2) = m2 (winOf wi l) := by
  cases l with
  | nil => simp [winOf, m2]
  | cons x l => exact meetL_m l x
theorem strict_m (wi : Int) (l : List (Int × Int)) : strictL wi (l.map m2) = (strictL wi l).map m2 := by
  unfold strictL
  rw [List.map_map, List.map_map]
  refine List.map_congr_left fun s _ => ?_
  simp only [Function.comp, m2]
  refine Prod.ext ?_ ?_ <;> dsimp only <;> omega
theorem loose_m (wi : Int) (l : List (Int × Int)) : looseL wi (l.map m2) = (looseL wi l).map m2 := by
  unfold looseL
  rw [List.map_map, List.map_map]
  refine List.map_congr_left fun s _ => ?_
  simp only [Function.comp, m2]
  refine Prod.ext ?_ ?_ <;> dsimp only <;> omega
theorem winS_m (j : Jb) : winS (mirJ j) = m2 (winS j) := by
  show winOf j.wi (strictL j.wi (j.sh.map m2)) = _
  rw [strict_m, winOf_m]; rfl
theorem winL_m (j : Jb) : winL (mirJ j) = m2 (winL j) := by
  show winOf j.wi (looseL j.wi (j.sh.map m2)) = _
  rw [loose_m, winOf_m]; rfl
theorem hasB_m (a b c d : Int) : hasB (-b) (-a) (-d) (-c) = hasB a b c d := by
  unfold hasB
  rw [Bool.eq_iff_iff, decide_eq_true_eq, decide_eq_true_eq]
  omega
theorem passes_m (j : Jb) (p0 p1 : Int) : passesJ (mirJ j) (-p1) (-p0) = passesJ j p0 p1 := by
  unfold passesJ
  rw [winS_m, winL_m, show hasB (m2 (winS j)).1 (m2 (winS j)).2 (-p1) (-p0) = hasB (winS j).1 (winS j).2 p0 p1 from hasB_m _ _ _ _, show meetL (m2 (winL j)) [(-p1, -p0)] = m2 (meetL (winL j) [(p0, p1)]) from meetL_m [(p0, p1)] _]
  unfold m2
  by_cases h : hasB (winS j).1 (winS j).2 p0 p1 = true
  · rw [if_pos h, if_pos h]
  · rw [if_neg h, if_neg h]
    by_cases h2 : (meetL (winL j) [(p0, p1)]).2 < (meetL (winL j) [(p0, p1)]).1
    · rw [if_pos h2, if_pos (by dsimp only; omega)]
    · rw [if_neg h2, if_neg (by dsimp only; omega)]
theorem spoiled_m (s : St) : (mirS s).spoiled = s.spoiled := by
  unfold St.spoiled mirS
  dsimp only
  by_cases h : s.t1 < s.le ∨ s.r1 < s.le
  · rw [if_pos h, if_pos h.symm]
  · rw [if_neg h, if_neg (fun h' => h h'.symm)]
    by_cases h2 : s.le ≤ s.t0 ∧ s.le ≤ s.r0
    · rw [if_pos h2, if_pos h2.symm]
    · rw [if_neg h2, if_neg (fun h' => h2 h'.symm)]
theorem filed_m (s : St) {k : Int} (h : k = 1 ∨ k = 2) : (mirS s).filed (3 - k) = mirS (s.filed k) := by
  rcases h with rfl | rfl
  · simp only [St.filed, mirS, St.tip, St.root, show ¬ ((3 : Int) - 1 = 1) from by decide, if_false, if_true, St.mk.injEq, and_true, true_and]
    omega
  · simp only [St.filed, mirS, St.tip, St.root, show ((3 : Int) - 2 = 1) from by decide, show ¬ ((2 : Int) = 1) from by decide, if_false, if_true, St.mk.injEq, and_true, true_and]
    omega
theorem after_m : ∀ (l : List Int) (s : St), (∀ k ∈ l, k = 1 ∨ k = 2) → (mirS s).after (l.map (3 - ·)) = mirS (s.after l)
  | [], _, _ => rfl
  | k :: l, s, h => by
    show ((mirS s).filed (3 - k)).after (l.map (3 - ·)) = mirS ((s.filed k).after l)
    rw [filed_m s (h k List.mem_cons_self)]
    exact after_m l _ fun q hq => h q (List.mem_cons_of_mem _ hq)
theorem st_m (j : Jb) : (mirJ j).st = mirS j.st := rfl
theorem fine_m (j : Jb) (s : St) : fineJ (mirJ j) (mirS s) = fineJ j s := by
  unfold fineJ
  rw [spoiled_m, show passesJ (mirJ j) (mirS s).p0 (mirS s).p1 = passesJ j s.p0 s.p1 from passes_m j _ _]
theorem good_m {j : Jb} (h : j.good) : (mirJ j).good := by
  obtain ⟨h1, h2, h3, h4, h5, h6, h7, h8, h9, h10, h11, h12⟩ := h
  refine ⟨?_, h3, h2, h5, h4, h7, h6, h8, ?_, ?_, h11, h12⟩
  · show -60 ≤ -j.p1 ∧ -j.p1 ≤ -j.p0 ∧ -j.p0 ≤ 60
    omega
  · show (j.sh.map m2).length ≤ 4
    rw [List.length_map]; exact h9
  · intro q hq
    obtain ⟨p, hp, rfl⟩ := List.mem_map.1 hq
    have := h10 p hp
    show -60 ≤ -p.2 ∧ -p.2 ≤ -p.1 ∧ -p.1 ≤ 60
    omega
theorem window_m {j : Jb} (h : j.good) : windowJ (mirJ j) = (if (windowJ j).2 = 0 then (m2 (windowJ j).1, 0) else windowJ j) ∧ ((windowJ j).2 = 0 ∨ (windowJ j).2 = 11) := by
  unfold windowJ
  rw [if_pos (check_of_good h), if_pos (check_of_good (good_m h)), winS_m]
  by_cases hw : (winS j).2 < (winS j).1
  · rw [if_pos hw, if_pos (by unfold m2; dsimp only; omega)]
    exact ⟨rfl, .inr rfl⟩
  · rw [if_neg hw, if_neg (by unfold m2; dsimp only; omega)]
    exact ⟨rfl, .inl rfl⟩
theorem shx_ex {j : Jb} (h : j.good) : (∃ s, s ∈ shx j.sh) ∧ ∀ s ∈ shx j.sh, -60 ≤ s.1 ∧ s.1 ≤ s.2 ∧ s.2 ≤ 60 := by
  have hs := h.sh
  unfold shx
  split
  · exact ⟨⟨_, List.mem_cons_self⟩, fun s hs => by simp only [List.mem_cons, List.not_mem_nil, or_false] at hs; subst hs; decide⟩
  · rename_i hne
    obtain ⟨x, l, e⟩ := List.exists_cons_of_ne_nil hne
    exact ⟨⟨x, by rw [e]; exact List.mem_cons_self⟩, hs⟩
theorem win_bd {j : Jb} (h : j.good) : (-1000 ≤ (winS j).1 ∧ (winS j).1 ≤ 1000) ∧ -1000 ≤ (winS j).2 ∧ (winS j).2 ≤ 1000 := by
  obtain ⟨⟨s, hs⟩, hb⟩ := shx_ex h
  have hw := h.wi
  have b := hb s hs
  have l1 := (winS_lo j (winS j).1).1 (Int.le_refl _) s hs
  have l2 := (winS_lo j 1000).2 fun q hq => by have := hb q hq; omega
  have l3 := (winS_hi j (winS j).2).1 (Int.le_refl _) s hs
  have l4 := (winS_hi j (-1000)).2 fun q hq => by have := hb q hq; omega
  omega
theorem window_bd {j : Jb} (h : j.good) : (-1000 ≤ (windowJ j).1.1 ∧ (windowJ j).1.1 ≤ 1000) ∧ -1000 ≤ (windowJ j).1.2 ∧ (windowJ j).1.2 ≤ 1000 := by
  have b := win_bd h
  unfold windowJ
  rw [if_pos (check_of_good h)]
  split
  · exact ⟨by decide, by decide⟩
  · exact b
theorem chkS_ok : ∀ (l : List Int), (∀ k ∈ l, k = 1 ∨ k = 2) → chkS l = 0
  | [], _ => rfl
  | k :: l, h => by
    have := chkS_ok l fun q hq => h q (List.mem_cons_of_mem _ hq)
    rcases h k List.mem_cons_self with rfl | rfl <;> simpa [chkS, okS] using this
theorem strokes_ok {j : Jb} (h : j.good) {l : List Int} (hl : l.length ≤ 6) (hk : ∀ k ∈ l, k = 1 ∨ k = 2) : checkStrokesJ j l = 0 := by
  unfold checkStrokesJ
  rw [if_neg (by rw [check_of_good h]; decide), if_neg (by omega)]
  exact chkS_ok l hk

theorem plan_m {j : Jb} {n r : Nat} (hr : r ≤ n) : isFine (mirJ j) (plan n (n - r)) = isFine j (plan n r) := by
  unfold isFine
  have e : (mirJ j).st.after (plan n (n - r)) = mirS (j.st.after (plan n r)) := by
    rw [after_plan, after_plan, show n - (n - r) = r by omega]
    simp only [st_m, mirS, St.mk.injEq, and_true, true_and]
    generalize ((n - r : Nat) : Int) * j.st.u1 = a
    generalize ((n - r : Nat) : Int) * j.st.u0 = b
    generalize (r : Int) * j.st.d0 = c
    generalize (r : Int) * j.st.d1 = d
    omega
  rw [e, fine_m]
theorem short_m {j : Jb} (h : j.good) : shortE (mirJ j) = shortE j ∧ (shortL (mirJ j)).length = (shortL j).length := by
  unfold shortE shortL
  rw [if_pos (check_of_good h), if_pos (check_of_good (good_m h)), if_pos (check_of_good h), if_pos (check_of_good (good_m h))]
  cases h1 : plansFrom j 7 0 with
  | none =>
    cases h2 : plansFrom (mirJ j) 7 0 with
    | none => exact ⟨rfl, rfl⟩
    | some l =>
      obtain ⟨n, r, _, a, b, _, c, _⟩ := plans_some _ _ h2
      have := plans_none _ _ h1 n (n - r) (by omega) (by omega) (by omega)
      rw [← plan_m (by omega), show n - (n - r) = r by omega, c] at this
      cases this
  | some l =>
    obtain ⟨n, r, _, a, b, rfl, c, d⟩ := plans_some _ _ h1
    cases h2 : plansFrom (mirJ j) 7 0 with
    | none =>
      have := plans_none _ _ h2 n (n - r) (by omega) (by omega) (by omega)
      rw [plan_m b, c] at this
      cases this
    | some l =>
      obtain ⟨n', r', _, a', b', rfl, c', d'⟩ := plans_some _ _ h2
      refine ⟨rfl, ?_⟩
      simp only [Option.getD_some, plan_length b, plan_length b']
      rcases Nat.lt_trichotomy n' n with hlt | he | hlt
      · have := d n' (n' - r') (by omega) hlt (by omega)
        rw [← plan_m (by omega), show n' - (n' - r') = r' by omega, c'] at this
        cases this
      · exact he
      · have := d' n (n - r) (by omega) hlt (by omega)
        rw [plan_m b, c] at this
        cases this

theorem rdg_m {p0 p1 m : Int} {k : Nat} (h : k < rdN p0 p1 m) : rdg (-p1) (-p0) m k = m2 (rdg p0 p1 m (rdN p0 p1 m - 1 - k)) := by
  unfold rdg
  rw [← mstep_m]
  unfold rdN at h ⊢
  have e : (((p1 + m - (p0 - m) + 1).toNat - 1 - k : Nat) : Int) = p1 + m - (p0 - m) - k := by omega
  rw [e]
  unfold m2
  congr 1
  refine Prod.ext ?_ ?_ <;> dsimp only <;> omega
theorem rdgs_m (p0 p1 m : Int) (f : Int × Int → Bool) : (rdgs (-p1) (-p0) m).all f = (rdgs p0 p1 m).all fun x => f (m2 x) := by
  have eN : rdN (-p1) (-p0) m = rdN p0 p1 m := by unfold rdN; congr 1; omega
  rw [Bool.eq_iff_iff, List.all_eq_true, List.all_eq_true]
  unfold rdgs
  rw [eN]
  constructor
  · intro h x hx
    obtain ⟨k, hk, rfl⟩ := List.mem_map.1 hx
    have hk := List.mem_range.1 hk
    have := h _ (List.mem_map.2 ⟨rdN p0 p1 m - 1 - k, List.mem_range.2 (by omega), rfl⟩)
    rw [rdg_m (by omega), show rdN p0 p1 m - 1 - (rdN p0 p1 m - 1 - k) = k by omega] at this
    exact this
  · intro h x hx
    obtain ⟨k, hk, rfl⟩ := List.mem_map.1 hx
    have hk := List.mem_range.1 hk
    rw [rdg_m hk]
    exact h _ (List.mem_map.2 ⟨rdN p0 p1 m - 1 - k, List.mem_range.2 (by omega), rfl⟩)
theorem okT_m (j : Jb) (t r : Int) : okT (mirJ j) r t = okT j t r := by
  unfold okT
  rw [show thinJ (mirJ j) 0 0 r t = mirS (thinJ j 0 0 t r) from rfl, spoiled_m]
theorem stops_m (j : Jb) (s0 s1 : Int) : ∀ (n : Nat) (p0 p1 t r : Int), stopsP (mirJ j) (-s1) (-s0) n (-p1) (-p0) r t = stopsP j s0 s1 n p0 p1 t r := by
  intro n
  induction n with
  | zero => intro p0 p1 t r; exact hasB_m _ _ _ _
  | succ n ih =>
    intro p0 p1 t r
    unfold stopsP
    rw [hasB_m, okT_m, okT_m, show -p1 + (mirJ j).u0 = -(p1 - j.d0) from by show -p1 + j.d0 = _; omega, show -p0 + (mirJ j).u1 = -(p0 - j.d1) from by show -p0 + j.d1 = _; omega,
      show -p1 - (mirJ j).d1 = -(p1 + j.u1) from by show -p1 - j.u1 = _; omega, show -p0 - (mirJ j).d0 = -(p0 + j.u0) from by show -p0 - j.u0 = _; omega]
    show (_ || ((_ && (rdgs _ _ j.me).all _) || (_ && (rdgs _ _ j.me).all _))) = _
    rw [rdgs_m, rdgs_m, Bool.or_comm (okT j t (r + 1) && _)]
    congr 2
    · congr 1
      congr 1
      funext x
      exact ih x.1 x.2 (t + 1) r
    · congr 1
      congr 1
      funext x
      exact ih x.1 x.2 t (r + 1)
theorem reads_m (j : Jb) (s0 s1 : Int) (n : Nat) (p0 p1 t r : Int) : readsP (mirJ j) (-s1) (-s0) n (-p1) (-p0) r t = readsP j s0 s1 n p0 p1 t r := by
  unfold readsP
  show (rdgs _ _ j.me).all _ = _
  rw [rdgs_m]
  congr 1
  funext x
  exact stops_m j s0 s1 n x.1 x.2 t r
theorem guided_m {j : Jb} (h : j.good) : guidedJ (mirJ j) = guidedJ j := by
  have e : guidedF (mirJ j) = guidedF j := by
    unfold guidedF
    rw [winS_m]
    congr 1
    funext n
    exact reads_m j _ _ n j.p0 j.p1 0 0
  unfold guidedJ
  rw [if_pos (check_of_good h), if_pos (check_of_good (good_m h)), e]
theorem next_m {j : Jb} (h : j.good) : (nextJ (mirJ j)).2 = (nextJ j).2 := by
  have e : nextF (mirJ j) = nextF j := by
    unfold nextF
    rw [winS_m]
    congr 1
    funext n
    exact stops_m j _ _ n j.p0 j.p1 0 0
  unfold nextJ
  rw [if_pos (check_of_good h), if_pos (check_of_good (good_m h)), e]
  cases nextF j with
  | none => rfl
  | some n => dsimp only; split <;> rfl

/-- x is j, known better. -/
structure Nar (x j : Jb) : Prop where
  p : j.p0 ≤ x.p0 ∧ x.p1 ≤ j.p1
  t : j.t0 ≤ x.t0 ∧ x.t1 ≤ j.t1
  r : j.r0 ≤ x.r0 ∧ x.r1 ≤ j.r1
  u : j.u0 ≤ x.u0 ∧ x.u1 ≤ j.u1
  d : j.d0 ≤ x.d0 ∧ x.d1 ≤ j.d1
  a : j.a0 ≤ x.a0 ∧ x.a1 ≤ j.a1
  b : j.b0 ≤ x.b0 ∧ x.b1 ≤ j.b1
  le : x.le = j.le
  wi : x.wi = j.wi
  me : x.me ≤ j.me
  len : x.sh.length = j.sh.length
  sh : ∀ (i : Nat) (y : Int × Int), x.sh[i]? = some y → ∃ s, j.sh[i]? = some s ∧ s.1 ≤ y.1 ∧ y.2 ≤ s.2
structure NarS (x s : St) : Prop where
  p : s.p0 ≤ x.p0 ∧ x.p1 ≤ s.p1
  t : s.t0 ≤ x.t0 ∧ x.t1 ≤ s.t1
  r : s.r0 ≤ x.r0 ∧ x.r1 ≤ s.r1
  u : s.u0 ≤ x.u0 ∧ x.u1 ≤ s.u1
  d : s.d0 ≤ x.d0 ∧ x.d1 ≤ s.d1
  a : s.a0 ≤ x.a0 ∧ x.a1 ≤ s.a1
  b : s.b0 ≤ x.b0 ∧ x.b1 ≤ s.b1
  le : x.le = s.le
/-- All ranges are in order. -/
structure OrdS (s : St) : Prop where
  p : s.p0 ≤ s.p1
  t : s.t0 ≤ s.t1
  r : s.r0 ≤ s.r1
  u : s.u0 ≤ s.u1
  d : s.d0 ≤ s.d1
  a : s.a0 ≤ s.a1
  b : s.b0 ≤ s.b1
theorem Nar.st {x j : Jb} (h : Nar x j) : NarS x.st j.st := ⟨h.p, h.t, h.r, h.u, h.d, h.a, h.b, h.le⟩
theorem OrdS.of {j : Jb} (h : j.good) : OrdS j.st := ⟨h.p.2.1, h.t.2.1, h.r.2.1, h.u.2.1, h.d.2.1, h.a.2.1, h.b.2.1⟩
theorem NarS.filed {x s : St} (h : NarS x s) (k : Int) : NarS (x.filed k) (s.filed k) := by
  obtain ⟨h1, h2, h3, h4, h5, h6, h7, h8⟩ := h
  unfold St.filed
  split
  · exact ⟨by simp only [St.tip]; omega, by simp only [St.tip]; omega, h3, h4, h5, h6, h7, h8⟩
  · exact ⟨by simp only [St.root]; omega, h2, by simp only [St.root]; omega, h4, h5, h6, h7, h8⟩
theorem OrdS.filed {s : St} (h : OrdS s) (k : Int) : OrdS (s.filed k) := by
  obtain ⟨h1, h2, h3, h4, h5, h6, h7⟩ := h
  unfold St.filed
  split
  · exact ⟨by simp only [St.tip]; omega, by simp only [St.tip]; omega, h3, h4, h5, h6, h7⟩
  · exact ⟨by simp only [St.root]; omega, h2, by simp only [St.root]; omega, h4, h5, h6, h7⟩
theorem NarS.after : ∀ (l : List Int) {x s : St}, NarS x s → NarS (x.after l) (s.after l)
  | [], _, _, h => h
  | k :: l, _, _, h => NarS.after l (h.filed k)
theorem OrdS.after : ∀ (l : List Int) {s : St}, OrdS s → OrdS (s.after l)
  | [], _, h => h
  | k :: l, _, h => OrdS.after l (h.filed k)
theorem shx_nar {x j : Jb} (h : Nar x j) (hj : j.good) : (∀ y ∈ shx x.sh, ∃ s ∈ shx j.sh, s.1 ≤ y.1 ∧ y.2 ≤ s.2) ∧ ∀ s ∈ shx j.sh, ∃ y ∈ shx x.sh, s.1 ≤ y.1 ∧ y.2 ≤ s.2 := by
  have hl := h.len
  unfold shx
  by_cases e : j.sh = []
  · have ex : x.sh = [] := List.eq_nil_of_length_eq_zero (by rw [hl, e]; rfl)
    rw [if_pos e, if_pos ex]
    exact ⟨fun y hy => ⟨y, hy, Int.le_refl _, Int.le_refl _⟩, fun y hy => ⟨y, hy, Int.le_refl _, Int.le_refl _⟩⟩
  · have ex : ¬ x.sh = [] := fun e' => e (List.eq_nil_of_length_eq_zero (by rw [← hl, e']; rfl))
    rw [if_neg e, if_neg ex]
    constructor
    · intro y hy
      obtain ⟨i, hi⟩ := List.getElem?_of_mem hy
      obtain ⟨s, hs, h1⟩ := h.sh i y hi
      exact ⟨s, List.mem_of_getElem? hs, h1⟩
    · intro s hs
      obtain ⟨i, hi⟩ := List.getElem?_of_mem hs
      have hlt := (List.getElem?_eq_some_iff.1 hi).1
      have hx : x.sh[i]? = some x.sh[i] := List.getElem?_eq_getElem (by omega)
      obtain ⟨s', hs', h1⟩ := h.sh i _ hx
      rw [hi] at hs'
      injection hs' with hs'
      subst hs'
      exact ⟨_, List.mem_of_getElem? hx, h1⟩
theorem winS_nar {x j : Jb} (h : Nar x j) (hj : j.good) : (winS x).1 ≤ (winS j).1 ∧ (winS j).2 ≤ (winS x).2 := by
  obtain ⟨h1, h2⟩ := shx_nar h hj
  have hw := h.wi
  refine ⟨(winS_lo x _).2 fun y hy => ?_, (winS_hi x _).2 fun y hy => ?_⟩
  · obtain ⟨s, hs, a, b⟩ := h1 y hy
    have := (winS_lo j _).1 (Int.le_refl _) s hs
    omega
  · obtain ⟨s, hs, a, b⟩ := h1 y hy
    have := (winS_hi j _).1 (Int.le_refl _) s hs
    omega
theorem winL_lo' (j : Jb) (n : Int) : (winL j).1 ≤ n ↔ ∀ s ∈ shx j.sh, -j.wi - s.2 ≤ n := by
  unfold winL looseL shx
  cases h : j.sh with
  | nil => simp [winOf]
  | cons q r =>
    simp only [List.map_cons, winOf, meet_lo, List.mem_map, forall_exists_index, and_imp, forall_apply_eq_imp_iff₂, reduceCtorEq, if_false, List.mem_cons, forall_eq_or_imp]
theorem winL_hi' (j : Jb) (n : Int) : n ≤ (winL j).2 ↔ ∀ s ∈ shx j.sh, n ≤ j.wi - s.1 := by
  unfold winL looseL shx
  cases h : j.sh with
  | nil => simp [winOf]
  | cons q r =>
    simp only [List.map_cons, winOf, meet_hi, List.mem_map, forall_exists_index, and_imp, forall_apply_eq_imp_iff₂, reduceCtorEq, if_false, List.mem_cons, forall_eq_or_imp]
theorem winL_nar {x j : Jb} (h : Nar x j) (hj : j.good) : (winL j).1 ≤ (winL x).1 ∧ (winL x).2 ≤ (winL j).2 := by
  obtain ⟨h1, h2⟩ := shx_nar h hj
  have hw := h.wi
  refine ⟨(winL_lo' j _).2 fun s hs => ?_, (winL_hi' j _).2 fun s hs => ?_⟩
  · obtain ⟨y, hy, a, b⟩ := h2 s hs
    have := (winL_lo' x _).1 (Int.le_refl _) y hy
    omega
  · obtain ⟨y, hy, a, b⟩ := h2 s hs
    have := (winL_hi' x _).1 (Int.le_refl _) y hy
    omega
theorem winSL {j : Jb} (hj : j.good) : (winL j).1 ≤ (winS j).1 ∧ (winS j).2 ≤ (winL j).2 := by
  obtain ⟨_, hb⟩ := shx_ex hj
  refine ⟨(winL_lo' j _).2 fun s hs => ?_, (winL_hi' j _).2 fun s hs => ?_⟩
  · have := (winS_lo j _).1 (Int.le_refl _) s hs
    have := hb s hs
    omega
  · have := (winS_hi j _).1 (Int.le_refl _) s hs
    have := hb s hs
    omega
theorem has_iff2 (a b c d : Int) : hasB a b c d = true ↔ a ≤ c ∧ d ≤ b := by unfold hasB; rw [decide_eq_true_eq]
/-- What is always so stays so, and what never is. -/
theorem passes_nar {x j : Jb} (h : Nar x j) (hj : j.good) (hx : x.good) {p0 p1 q0 q1 : Int} (h0 : p0 ≤ q0) (h1 : q1 ≤ p1) (hq : q0 ≤ q1) : passesJ j p0 p1 = 3 ∨ passesJ x q0 q1 = passesJ j p0 p1 := by
  have w1 := winS_nar h hj
  have w2 := winL_nar h hj
  have w3 := winSL hx
  have e : ∀ (f : Int × Int) (a b : Int), meetL f [(a, b)] = mstep f (a, b) := fun _ _ _ => rfl
  unfold passesJ
  rw [e, e]
  by_cases c1 : hasB (winS j).1 (winS j).2 p0 p1 = true
  · have c1' := (has_iff2 _ _ _ _).1 c1
    rw [if_pos c1, if_pos ((has_iff2 _ _ _ _).2 (by omega))]
    exact .inr rfl
  · rw [if_neg c1]
    by_cases c2 : (mstep (winL j) (p0, p1)).2 < (mstep (winL j) (p0, p1)).1
    · refine .inr ?_
      rw [if_pos c2]
      have c3 : (mstep (winL x) (q0, q1)).2 < (mstep (winL x) (q0, q1)).1 := by
        revert c2
        unfold mstep
        dsimp only
        (repeat' split) <;> omega
      rw [if_neg (fun c4 => by
        have c4 := (has_iff2 _ _ _ _).1 c4
        revert c3
        unfold mstep
        dsimp only
        (repeat' split) <;> omega), if_pos c3]
    · rw [if_neg c2]
      exact .inl rfl
theorem spoiled_nar {x s : St} (h : NarS x s) (ho : OrdS x) : s.spoiled = 3 ∨ x.spoiled = s.spoiled := by
  obtain ⟨_, h2, h3, _, _, _, _, h8⟩ := h
  obtain ⟨_, o2, o3, _, _, _, _⟩ := ho
  unfold St.spoiled
  by_cases c1 : s.t1 < s.le ∨ s.r1 < s.le
  · rw [if_pos c1, if_pos (by omega)]; exact .inr rfl
  · rw [if_neg c1]
    by_cases c2 : s.le ≤ s.t0 ∧ s.le ≤ s.r0
    · rw [if_pos c2, if_neg (by omega), if_pos (by omega)]; exact .inr rfl
    · rw [if_neg c2]; exact .inl rfl
theorem fine_nar {x j : Jb} (h : Nar x j) (hj : j.good) (hx : x.good) {y s : St} (hn : NarS y s) (ho : OrdS y) : fineJ j s = 3 ∨ fineJ x y = fineJ j s := by
  have a := passes_nar h hj hx hn.p.1 hn.p.2 ho.p
  have b := spoiled_nar hn ho
  unfold fineJ
  generalize passesJ j s.p0 s.p1 = pj at *
  generalize passesJ x y.p0 y.p1 = px at *
  generalize s.spoiled = sj at *
  generalize y.spoiled = sx at *
  by_cases c1 : pj = 1 ∧ sj = 2
  · rw [if_pos c1, if_pos (by omega)]; exact .inr rfl
  · rw [if_neg c1]
    by_cases c2 : pj = 2 ∨ sj = 1
    · rw [if_pos c2, if_neg (by omega), if_pos (by omega)]; exact .inr rfl
    · rw [if_neg c2]; exact .inl rfl
theorem plan_nar {x j : Jb} (h : Nar x j) (hj : j.good) (hx : x.good) {l : List Int} (hf : isFine j l = true) : isFine x l = true := by
  unfold isFine at *
  rw [beq_iff_eq] at *
  have := fine_nar h hj hx (NarS.after l h.st) (OrdS.after l (OrdS.of hx))
  omega
theorem better {x j : Jb} (h : Nar x j) (hj : j.good) (hx : x.good) {l : List Int} (hl : l.length ≤ 6) (hk : ∀ k ∈ l, k = 1 ∨ k = 2) :
    ((fineT j l).2 = 0 ∧ (fineT x l).2 = 0 ∧ (spoiledT j l).2 = 0 ∧ (spoiledT x l).2 = 0) ∧ ((fineT j l).1 = 3 ∨ (fineT x l).1 = (fineT j l).1) ∧ ((spoiledT j l).1 = 3 ∨ (spoiledT x l).1 = (spoiledT j l).1) := by
  have e1 := strokes_ok hj hl hk
  have e2 := strokes_ok hx hl hk
  have hn := NarS.after l h.st
  have ho := OrdS.after l (OrdS.of hx)
  unfold fineT spoiledT
  rw [if_pos e1, if_pos e2, if_pos e1, if_pos e2]
  exact ⟨⟨rfl, rfl, rfl, rfl⟩, fine_nar h hj hx hn ho, spoiled_nar hn ho⟩
theorem short_nar {x j : Jb} (h : Nar x j) (hj : j.good) (hx : x.good) : (shortE j = 0 → shortE x = 0 ∧ (shortL x).length ≤ (shortL j).length) ∧ (shortE x = 0 ∨ shortE x = 11) := by
  unfold shortE shortL
  rw [if_pos (check_of_good hj), if_pos (check_of_good hx), if_pos (check_of_good hj), if_pos (check_of_good hx)]
  refine ⟨fun he => ?_, by split; exact .inl rfl; exact .inr rfl⟩
  cases h1 : plansFrom j 7 0 with
  | none => rw [h1] at he; simp at he
  | some l =>
    obtain ⟨n, r, _, a, b, rfl, c, _⟩ := plans_some _ _ h1
    have c' := plan_nar h hj hx c
    cases h2 : plansFrom x 7 0 with
    | none =>
      have := plans_none _ _ h2 n r (by omega) (by omega) b
      rw [c'] at this
      cases this
    | some l =>
      obtain ⟨n', r', _, a', b', rfl, _, d'⟩ := plans_some _ _ h2
      refine ⟨rfl, ?_⟩
      simp only [Option.getD_some, plan_length b, plan_length b']
      rcases Nat.lt_or_ge n n' with hlt | hge
      · have := d' n r (by omega) hlt b
        rw [c'] at this
        cases this
      · exact hge
theorem rdgs_nar {p0 p1 q0 q1 m m' : Int} (h0 : p0 ≤ q0) (h1 : q1 ≤ p1) (hm : m' ≤ m) {y : Int × Int} (hy : y ∈ rdgs q0 q1 m') : ∃ z ∈ rdgs p0 p1 m, z.1 ≤ y.1 ∧ y.2 ≤ z.2 := by
  unfold rdgs at *
  obtain ⟨k, hk, rfl⟩ := List.mem_map.1 hy
  have hk := List.mem_range.1 hk
  unfold rdN at *
  obtain ⟨k2, hk2⟩ : ∃ k2 : Nat, (k2 : Int) = q0 - m' + k - (p0 - m) := ⟨(q0 - m' + k - (p0 - m)).toNat, by omega⟩
  refine ⟨_, List.mem_map.2 ⟨k2, List.mem_range.2 (by omega), rfl⟩, ?_⟩
  unfold rdg mstep
  dsimp only
  constructor
  · (repeat' split) <;> omega
  · (repeat' split) <;> omega
theorem okT_nar {x j : Jb} (h : Nar x j) (hj : j.good) (hx : x.good) {t r : Int} (ht : 0 ≤ t) (hr : 0 ≤ r) (hk : okT j t r = true) : okT x t r = true := by
  obtain ⟨a, b⟩ := (okT_iff hj ht hr).1 hk
  refine (okT_iff hx ht hr).2 ⟨?_, ?_⟩
  · have := mul_le' ht h.a.2
    have := h.t.1
    have := h.le
    omega
  · have := mul_le' hr h.b.2
    have := h.r.1
    have := h.le
    omega
theorem stops_nar {x j : Jb} (h : Nar x j) (hj : j.good) (hx : x.good) : ∀ (n : Nat) (p0 p1 q0 q1 t r : Int), 0 ≤ t → 0 ≤ r → p0 ≤ q0 → q1 ≤ p1 → stopsP j (winS j).1 (winS j).2 n p0 p1 t r = true → stopsP x (winS x).1 (winS x).2 n q0 q1 t r = true := by
  have hw := winS_nar h hj
  have key : ∀ {p0 p1 q0 q1 : Int}, p0 ≤ q0 → q1 ≤ p1 → hasB (winS j).1 (winS j).2 p0 p1 = true → hasB (winS x).1 (winS x).2 q0 q1 = true := by
    intro p0 p1 q0 q1 h0 h1 hh
    have := (has_iff2 _ _ _ _).1 hh
    exact (has_iff2 _ _ _ _).2 (by omega)
  intro n
  induction n with
  | zero => intro p0 p1 q0 q1 t r _ _ h0 h1 hs; exact key h0 h1 hs
  | succ n ih =>
    intro p0 p1 q0 q1 t r ht hr h0 h1 hs
    unfold stopsP at hs ⊢
    simp only [Bool.or_eq_true, Bool.and_eq_true, List.all_eq_true] at hs ⊢
    have hu := h.u
    have hd := h.d
    rcases hs with hs | ⟨hs, ha⟩ | ⟨hs, ha⟩
    · exact .inl (key h0 h1 hs)
    · refine .inr (.inl ⟨okT_nar h hj hx (by omega) hr hs, fun y hy => ?_⟩)
      obtain ⟨z, hz, a, b⟩ := rdgs_nar (p0 := p0 + j.u0) (p1 := p1 + j.u1) (by omega) (by omega) h.me hy
      exact ih _ _ _ _ _ _ (by omega) hr a b (ha z hz)
    · refine .inr (.inr ⟨okT_nar h hj hx ht (by omega) hs, fun y hy => ?_⟩)
      obtain ⟨z, hz, a, b⟩ := rdgs_nar (p0 := p0 - j.d1) (p1 := p1 - j.d0) (by omega) (by omega) h.me hy
      exact ih _ _ _ _ _ _ ht (by omega) a b (ha z hz)
theorem guided_nar {x j : Jb} (h : Nar x j) (hj : j.good) (hx : x.good) : ((guidedJ j).2 = 0 → (guidedJ x).2 = 0 ∧ (guidedJ x).1 ≤ (guidedJ j).1) ∧ ((guidedJ x).2 = 0 ∨ (guidedJ x).2 = 11) := by
  unfold guidedJ
  rw [if_pos (check_of_good hj), if_pos (check_of_good hx)]
  have hp := h.p
  have reads : ∀ n, readsP j (winS j).1 (winS j).2 n j.p0 j.p1 0 0 = true → readsP x (winS x).1 (winS x).2 n x.p0 x.p1 0 0 = true := by
    intro n hr
    unfold readsP at *
    rw [List.all_eq_true] at *
    intro y hy
    obtain ⟨z, hz, a, b⟩ := rdgs_nar hp.1 hp.2 h.me hy
    exact stops_nar h hj hx n _ _ _ _ 0 0 (by omega) (by omega) a b (hr z hz)
  cases h1 : guidedF j with
  | none =>
    refine ⟨fun h => by simp at h, ?_⟩
    cases guidedF x with
    | none => exact .inr rfl
    | some m => exact .inl rfl
  | some n =>
    obtain ⟨a, _, b, _⟩ := first_some _ _ h1
    have a' := reads n a
    cases h2 : guidedF x with
    | none =>
      have := first_none _ _ h2 n (by omega) (by omega)
      rw [a'] at this
      cases this
    | some m =>
      obtain ⟨_, _, _, d⟩ := first_some _ _ h2
      refine ⟨fun _ => ⟨rfl, ?_⟩, .inl rfl⟩
      dsimp only
      rcases Nat.lt_or_ge n m with hlt | hge
      · have := d n (by omega) hlt
        rw [a'] at this
        cases this
      · omega
end Go.Proofs.Ythlpceoajhcliaa
end

section
/-
  Plain laws: a game that is played, and gone through.
-/
namespace Go.Proofs.Ythlpceoajhcliaa
set_option linter.unusedSimpArgs false
set_option linter.unusedVariables false

/-- v is the least number up to 'most' with f, and one more than 'most' if there is none. -/
structure Need (f : Nat → Bool) (most : Nat) (v : Int) : Prop where
  lo : 0 ≤ v
  hi : v ≤ most + 1
  iff : ∀ m : Nat, m ≤ most → (v ≤ m ↔ f m = true)
theorem Need.zero (most : Nat) : Need (fun _ => true) most 0 := ⟨by omega, by omega, fun m _ => ⟨fun _ => rfl, fun _ => by omega⟩⟩
theorem Need.congr {f g : Nat → Bool} {most : Nat} {v : Int} (h : Need f most v) (e : ∀ m, f m = g m) : Need g most v :=
  ⟨h.lo, h.hi, fun m hm => by rw [h.iff m hm, e m]⟩
theorem Need.max {f g : Nat → Bool} {most : Nat} {a b : Int} (ha : Need f most a) (hb : Need g most b) : Need (fun m => f m && g m) most (max a b) := by
  refine ⟨by have := ha.lo; omega, by have := ha.hi; have := hb.hi; omega, fun m hm => ?_⟩
  rw [Bool.and_eq_true, ← ha.iff m hm, ← hb.iff m hm]
  omega
theorem Need.best {n : Nat} {b v1 v2 : Int} {c1 c2 : Bool} {f1 f2 f : Nat → Bool} (h1 : c1 = true → Need f1 n v1) (h2 : c2 = true → Need f2 n v2)
    (hb : b = min (min ((n : Int) + 2) (if c1 = true then 1 + v1 else n + 2)) (if c2 = true then 1 + v2 else n + 2)) (f0 : f 0 = false) (fS : ∀ m, f (m + 1) = ((c1 && f1 m) || (c2 && f2 m))) : Need f (n + 1) b := by
  have k1 : c1 = true → 0 ≤ v1 ∧ v1 ≤ n + 1 := fun h => ⟨(h1 h).lo, (h1 h).hi⟩
  have k2 : c2 = true → 0 ≤ v2 ∧ v2 ≤ n + 1 := fun h => ⟨(h2 h).lo, (h2 h).hi⟩
  have key : 1 ≤ b ∧ b ≤ n + 2 ∧ ∀ m : Nat, m ≤ n → (b ≤ m + 1 ↔ (c1 = true ∧ v1 ≤ m) ∨ (c2 = true ∧ v2 ≤ m)) := by
    by_cases e1 : c1 = true <;> by_cases e2 : c2 = true
    · have q1 := k1 e1
      have q2 := k2 e2
      rw [if_pos e1, if_pos e2] at hb
      simp only [e1, e2, eq_self, true_and]
      refine ⟨by omega, by omega, fun m hm => ?_⟩
      omega
    · have q1 := k1 e1
      rw [if_pos e1, if_neg e2] at hb
      simp only [e1, e2, eq_self, true_and, Bool.false_eq_true, false_and, or_false]
      refine ⟨by omega, by omega, fun m hm => ?_⟩
      omega
    · have q2 := k2 e2
      rw [if_neg e1, if_pos e2] at hb
      simp only [e1, e2, eq_self, true_and, Bool.false_eq_true, false_and, false_or]
      refine ⟨by omega, by omega, fun m hm => ?_⟩
      omega
    · rw [if_neg e1, if_neg e2] at hb
      simp only [e1, e2, Bool.false_eq_true, false_and, or_false, iff_false]
      refine ⟨by omega, by omega, fun m hm => ?_⟩
      omega
  refine ⟨by omega, by omega, fun m hm => ?_⟩
  cases m with
  | zero => rw [f0]; constructor
            · intro h; omega
            · intro h; cases h
  | succ m =>
    rw [fS m, show ((m + 1 : Nat) : Int) = (m : Int) + 1 by omega, key.2.2 m (by omega), Bool.or_eq_true, Bool.and_eq_true, Bool.and_eq_true]
    constructor
    · rintro (⟨a, c⟩ | ⟨a, c⟩)
      · exact .inl ⟨a, ((h1 a).iff m (by omega)).1 c⟩
      · exact .inr ⟨a, ((h2 a).iff m (by omega)).1 c⟩
    · rintro (⟨a, c⟩ | ⟨a, c⟩)
      · exact .inl ⟨a, ((h1 a).iff m (by omega)).2 c⟩
      · exact .inr ⟨a, ((h2 a).iff m (by omega)).2 c⟩

/-- The first k readings. -/
def readsK (j : Jb) (s0 s1 : Int) (p0 p1 t r : Int) (k : Nat) (m : Nat) : Bool := (List.range k).all fun i => stopsP j s0 s1 m (rdg p0 p1 j.me i).1 (rdg p0 p1 j.me i).2 t r
theorem readsK_all (j : Jb) (s0 s1 p0 p1 t r : Int) (m : Nat) : readsK j s0 s1 p0 p1 t r (rdN p0 p1 j.me) m = readsP j s0 s1 m p0 p1 t r := by
  unfold readsK readsP rdgs
  rw [List.all_map]
  rfl
theorem readsK_succ (j : Jb) (s0 s1 p0 p1 t r : Int) (k m : Nat) : readsK j s0 s1 p0 p1 t r (k + 1) m = (readsK j s0 s1 p0 p1 t r k m && stopsP j s0 s1 m (rdg p0 p1 j.me k).1 (rdg p0 p1 j.me k).2 t r) := by
  unfold readsK
  rw [List.range_succ, List.all_append]
  simp
theorem readsK_le {j : Jb} {s0 s1 p0 p1 t r : Int} {k k' m : Nat} (h : k ≤ k') (hr : readsK j s0 s1 p0 p1 t r k' m = true) : readsK j s0 s1 p0 p1 t r k m = true := by
  unfold readsK at *
  rw [List.all_eq_true] at *
  exact fun x hx => hr x (List.mem_range.2 (by have := List.mem_range.1 hx; omega))
theorem Need.exit {j : Jb} {s0 s1 p0 p1 t r v : Int} {k most : Nat} (h : Need (readsK j s0 s1 p0 p1 t r k) most v) (hv : (most : Int) < v) (hk : k ≤ rdN p0 p1 j.me) : Need (fun m => readsP j s0 s1 m p0 p1 t r) most v := by
  refine ⟨h.lo, h.hi, fun m hm => ⟨fun h8 => by omega, fun h8 => ?_⟩⟩
  rw [← readsK_all] at h8
  exact (h.iff m hm).2 (readsK_le hk h8)
theorem Need.stop {j : Jb} {s0 s1 p0 p1 t r b v1 v2 : Int} {n : Nat} {c1 c2 : Bool} (hno : hasB s0 s1 p0 p1 = false) (e1 : c1 = okT j (t + 1) r) (e2 : c2 = okT j t (r + 1))
    (h1 : c1 = true → Need (fun m => readsP j s0 s1 m (p0 + j.u0) (p1 + j.u1) (t + 1) r) n v1) (h2 : c2 = true → Need (fun m => readsP j s0 s1 m (p0 - j.d1) (p1 - j.d0) t (r + 1)) n v2)
    (hb : b = min (min ((n : Int) + 2) (if c1 = true then 1 + v1 else n + 2)) (if c2 = true then 1 + v2 else n + 2)) : Need (fun m => stopsP j s0 s1 m p0 p1 t r) (n + 1) b := by
  refine Need.best h1 h2 hb hno fun m => ?_
  subst e1 e2
  show (hasB s0 s1 p0 p1 || ((okT j (t + 1) r && readsP j s0 s1 m (p0 + j.u0) (p1 + j.u1) (t + 1) r) || (okT j t (r + 1) && readsP j s0 s1 m (p0 - j.d1) (p1 - j.d0) t (r + 1)))) = _
  rw [hno, Bool.false_or]
theorem Need.stop0 {j : Jb} {s0 s1 p0 p1 t r : Int} (hno : hasB s0 s1 p0 p1 = false) : Need (fun m => stopsP j s0 s1 m p0 p1 t r) 0 1 := by
  refine ⟨by omega, by omega, fun m hm => ?_⟩
  obtain rfl : m = 0 := by omega
  show _ ↔ hasB s0 s1 p0 p1 = true
  rw [hno]
  simp
theorem stops_in {j : Jb} {s0 s1 p0 p1 t r : Int} (h : hasB s0 s1 p0 p1 = true) : ∀ m, stopsP j s0 s1 m p0 p1 t r = true
  | 0 => h
  | m + 1 => by unfold stopsP; rw [h]; rfl

/-- What the search finds is what Guided says. -/
theorem need_guided {j : Jb} (hj : j.good) {v : Int} (h : Need (fun m => readsP j (winS j).1 (winS j).2 m j.p0 j.p1 0 0) 4 v) : (v ≤ 4 ∧ (guidedJ j).1 = v ∧ (guidedJ j).2 = 0) ∨ (4 < v ∧ (guidedJ j).1 = 0 ∧ (guidedJ j).2 = 11) := by
  unfold guidedJ
  rw [if_pos (check_of_good hj)]
  cases hg : guidedF j with
  | some n =>
    obtain ⟨h1, _, h3, h4⟩ := first_some _ _ hg
    have a := (h.iff n (by omega)).2 h1
    refine .inl ⟨by omega, ?_, rfl⟩
    show (n : Int) = v
    have := h.lo
    rcases Nat.lt_or_ge v.toNat n with hlt | hge
    · have b := h4 v.toNat (by omega) hlt
      have c := (h.iff v.toNat (by omega)).1 (by omega)
      rw [b] at c; cases c
    · omega
  | none =>
    refine .inr ⟨?_, rfl, rfl⟩
    have := h.lo
    rcases Int.lt_or_le 4 v with hlt | hge
    · exact hlt
    · have b := first_none _ _ hg v.toNat (by omega) (by omega)
      have c := (h.iff v.toNat (by omega)).1 (by omega)
      rw [b] at c; cases c
/-- The window that the law uses. -/
theorem win_law {j : Jb} (hj : j.good) (a b : Int) (hab : a ≤ b) : hasB (if (windowJ j).2 = 11 then 1000 else (windowJ j).1.1) (if (windowJ j).2 = 11 then (-1000) else (windowJ j).1.2) a b = hasB (winS j).1 (winS j).2 a b := by
  unfold windowJ
  rw [if_pos (check_of_good hj)]
  by_cases h : (winS j).2 < (winS j).1
  · rw [if_pos h]
    unfold hasB
    simp only [if_true]
    rw [Bool.eq_iff_iff, decide_eq_true_eq, decide_eq_true_eq]
    omega
  · rw [if_neg h]
    simp

/-- A job of which more is known. -/
abbrev Jb.at (j : Jb) (p0 p1 : Int) : Jb := { j with p0 := p0, p1 := p1 }
abbrev Jb.filed (j : Jb) (k : Int) : Jb := { j with p0 := (afT j [k]).p0, p1 := (afT j [k]).p1, t0 := (afT j [k]).t0, t1 := (afT j [k]).t1, r0 := (afT j [k]).r0, r1 := (afT j [k]).r1 }
/-- Two jobs with the same file and the same conditions. -/
structure SameF (k j : Jb) : Prop where
  u0 : k.u0 = j.u0
  u1 : k.u1 = j.u1
  d0 : k.d0 = j.d0
  d1 : k.d1 = j.d1
  a0 : k.a0 = j.a0
  a1 : k.a1 = j.a1
  b0 : k.b0 = j.b0
  b1 : k.b1 = j.b1
  le : k.le = j.le
  sh : k.sh = j.sh
  wi : k.wi = j.wi
  me : k.me = j.me
theorem SameF.refl (j : Jb) : SameF j j := ⟨rfl, rfl, rfl, rfl, rfl, rfl, rfl, rfl, rfl, rfl, rfl, rfl⟩
theorem SameF.at {k j : Jb} (h : SameF k j) (p0 p1 : Int) : SameF (k.at p0 p1) j := ⟨h.u0, h.u1, h.d0, h.d1, h.a0, h.a1, h.b0, h.b1, h.le, h.sh, h.wi, h.me⟩
theorem SameF.filed {k j : Jb} (h : SameF k j) (q : Int) : SameF (k.filed q) j := ⟨h.u0, h.u1, h.d0, h.d1, h.a0, h.a1, h.b0, h.b1, h.le, h.sh, h.wi, h.me⟩
theorem SameF.win {k j : Jb} (h : SameF k j) : winS k = winS j := by unfold winS; rw [h.sh, h.wi]
theorem SameF.file {k j : Jb} (h : SameF k j) : FileOf k.st j := ⟨h.u0, h.u1, h.d0, h.d1, h.a0, h.a1, h.b0, h.b1, h.le⟩
theorem stops_shift {j k : Jb} {s0 s1 T R : Int} (h0 : k.u0 = j.u0) (h1 : k.u1 = j.u1) (h2 : k.d0 = j.d0) (h3 : k.d1 = j.d1) (hm : k.me = j.me) (ho : ∀ t r, okT k t r = okT j (t + T) (r + R)) :
    ∀ (n : Nat) (p0 p1 t r : Int), stopsP k s0 s1 n p0 p1 t r = stopsP j s0 s1 n p0 p1 (t + T) (r + R)
  | 0, _, _, _, _ => rfl
  | n + 1, p0, p1, t, r => by
    have ih := stops_shift h0 h1 h2 h3 hm ho n (s0 := s0) (s1 := s1)
    unfold stopsP
    rw [h0, h1, h2, h3, hm, ho, ho]
    simp only [ih]
    rw [show t + 1 + T = t + T + 1 by omega, show r + 1 + R = r + R + 1 by omega]
theorem reads_shift {j k : Jb} {s0 s1 T R : Int} (h0 : k.u0 = j.u0) (h1 : k.u1 = j.u1) (h2 : k.d0 = j.d0) (h3 : k.d1 = j.d1) (hm : k.me = j.me) (ho : ∀ t r, okT k t r = okT j (t + T) (r + R)) (n : Nat) (p0 p1 t r : Int) :
    readsP k s0 s1 n p0 p1 t r = readsP j s0 s1 n p0 p1 (t + T) (r + R) := by
  unfold readsP
  rw [hm]
  simp only [stops_shift h0 h1 h2 h3 hm ho]
theorem okT_at (k : Jb) (p0 p1 : Int) (t r : Int) : okT (k.at p0 p1) t r = okT k (t + 0) (r + 0) := by rw [Int.add_zero, Int.add_zero]; rfl
theorem stops_at (k : Jb) (s0 s1 p0 p1 : Int) (n : Nat) (a b : Int) : stopsP (k.at p0 p1) s0 s1 n a b 0 0 = stopsP k s0 s1 n a b 0 0 := stops_shift (j := k) (k := k.at p0 p1) rfl rfl rfl rfl rfl (okT_at k p0 p1) n a b 0 0
theorem good_at {k : Jb} (h : k.good) {p0 p1 : Int} (h0 : k.p0 ≤ p0) (h1 : p0 ≤ p1) (h2 : p1 ≤ k.p1) : (k.at p0 p1).good := by
  obtain ⟨g1, g2, g3, g4, g5, g6, g7, g8, g9, g10, g11, g12⟩ := h
  exact ⟨by show -60 ≤ p0 ∧ p0 ≤ p1 ∧ p1 ≤ 60; omega, g2, g3, g4, g5, g6, g7, g8, g9, g10, g11, g12⟩
theorem after_1 {k : Jb} (h : k.good) {q : Int} (hq : q = 1 ∨ q = 2) : checkStrokesJ k [q] = 0 ∧ afT k [q] = k.st.filed q := by
  have e : checkStrokesJ k [q] = 0 := strokes_ok h (by simp) (fun x hx => by simp only [List.mem_cons, List.not_mem_nil, or_false] at hx; subst hx; exact hq)
  refine ⟨e, ?_⟩
  unfold afT
  rw [if_pos e]
  rfl
theorem okT_tip {k : Jb} (h : k.good) (t r : Int) : okT (k.filed 1) t r = okT k (t + 1) (r + 0) := by
  have e : thinJ (k.filed 1) 0 0 t r = thinJ k 0 0 (t + 1) (r + 0) := by
    simp only [thinJ, Jb.filed, (after_1 h (.inl rfl)).2, St.filed, if_true, St.tip, Jb.st, St.mk.injEq, mul_suc, Int.add_zero, true_and, and_true]
    omega
  show ((thinJ (k.filed 1) 0 0 t r).spoiled == 2) = _
  rw [e]; rfl
theorem okT_root {k : Jb} (h : k.good) (t r : Int) : okT (k.filed 2) t r = okT k (t + 0) (r + 1) := by
  have e : thinJ (k.filed 2) 0 0 t r = thinJ k 0 0 (t + 0) (r + 1) := by
    simp only [thinJ, Jb.filed, (after_1 h (.inr rfl)).2, St.filed, show ¬ ((2 : Int) = 1) from by decide, if_false, St.root, Jb.st, St.mk.injEq, mul_suc, Int.add_zero, true_and, and_true]
    omega
  show ((thinJ (k.filed 2) 0 0 t r).spoiled == 2) = _
  rw [e]; rfl

/-- What a tongue truly is. -/
structure InS (s : St) (a b c : Int) : Prop where
  p : s.p0 ≤ a ∧ a ≤ s.p1
  t : s.t0 ≤ b ∧ b ≤ s.t1
  r : s.r0 ≤ c ∧ c ≤ s.r1

/-- A reading, and what is heard of it. -/
theorem hear_rdg {k : Jb} (h : k.good) {r : Int} (hr : k.p0 - k.me ≤ r ∧ r ≤ k.p1 + k.me) : ∃ i, i < rdN k.p0 k.p1 k.me ∧ r = k.p0 - k.me + (i : Int) ∧ hearT k r = (rdg k.p0 k.p1 k.me i, 0) := by
  have hp := h.p
  refine ⟨(r - (k.p0 - k.me)).toNat, by unfold rdN; omega, by omega, ?_⟩
  unfold hearT
  rw [if_pos (check_of_good h), if_pos (by unfold withinB; exact decide_eq_true hr)]
  have e : r = k.p0 - k.me + (((r - (k.p0 - k.me)).toNat : Nat) : Int) := by omega
  unfold rdg
  rw [← e]
  rfl
theorem hear_game {k : Jb} (h : k.good) {m : Nat} (hrd : readsP k (winS k).1 (winS k).2 m k.p0 k.p1 0 0 = true) {a x : Int} (ha : k.p0 ≤ a ∧ a ≤ k.p1) (hx : -k.me ≤ x ∧ x ≤ k.me) :
    ∃ h0 h1, hearT k (a + x) = ((h0, h1), 0) ∧ (h0 ≤ a ∧ a ≤ h1 ∧ k.p0 ≤ h0 ∧ h1 ≤ k.p1) ∧ (k.at h0 h1).good ∧ stopsP (k.at h0 h1) (winS k).1 (winS k).2 m h0 h1 0 0 = true := by
  have hp := h.p
  have hme := h.me
  obtain ⟨i, hi, hr, he⟩ := hear_rdg h (r := a + x) (by omega)
  refine ⟨(rdg k.p0 k.p1 k.me i).1, (rdg k.p0 k.p1 k.me i).2, he, ?_⟩
  have hb : ((rdg k.p0 k.p1 k.me i).1 ≤ a ∧ a ≤ (rdg k.p0 k.p1 k.me i).2 ∧ k.p0 ≤ (rdg k.p0 k.p1 k.me i).1 ∧ (rdg k.p0 k.p1 k.me i).2 ≤ k.p1) := by
    unfold rdg mstep
    rw [← hr]
    refine ⟨?_, ?_, ?_, ?_⟩ <;> dsimp only <;> (try split) <;> omega
  refine ⟨hb, good_at h (by omega) (by omega) (by omega), ?_⟩
  rw [stops_at]
  unfold readsP rdgs at hrd
  rw [List.all_map, List.all_eq_true] at hrd
  exact hrd i (List.mem_range.2 hi)
/-- What Next says, and what is behind it. -/
theorem next_game {k : Jb} (h : k.good) {m : Nat} (hm : m ≤ 4) (hs : stopsP k (winS k).1 (winS k).2 m k.p0 k.p1 0 0 = true) :
    ∃ kd lf : Int, nextJ k = (kd, lf, 0) ∧ (0 ≤ lf ∧ lf ≤ m) ∧ (lf = 0 → kd = 0 ∧ hasB (winS k).1 (winS k).2 k.p0 k.p1 = true) ∧
      (lf ≠ 0 → (kd = 1 ∨ kd = 2) ∧ (k.le ≤ (afT k [kd]).t0 ∧ k.le ≤ (afT k [kd]).r0) ∧ readsP (k.filed kd) (winS k).1 (winS k).2 (lf - 1).toNat (k.filed kd).p0 (k.filed kd).p1 0 0 = true) := by
  have hn : ∃ n, nextF k = some n ∧ n ≤ m ∧ stopsP k (winS k).1 (winS k).2 n k.p0 k.p1 0 0 = true := by
    unfold nextF
    cases hg : firstB (fun n => stopsP k (winS k).1 (winS k).2 n k.p0 k.p1 0 0) 5 0 with
    | none => have := first_none _ _ hg m (by omega) (by omega); rw [hs] at this; cases this
    | some n =>
      obtain ⟨a, _, _, d⟩ := first_some _ _ hg
      refine ⟨n, rfl, ?_, a⟩
      rcases Nat.lt_or_ge m n with hlt | hge
      · have := d m (by omega) hlt; rw [hs] at this; cases this
      · exact hge
  obtain ⟨n, hn, hle, hst⟩ := hn
  have he : nextJ k = if n = 0 then (0, 0, 0) else (strokeP k (winS k).1 (winS k).2 n k.p0 k.p1 0 0, (n : Int), 0) := by
    unfold nextJ
    rw [if_pos (check_of_good h), hn]
  cases n with
  | zero =>
    refine ⟨0, 0, by rw [he, if_pos rfl], by omega, fun _ => ⟨rfl, hst⟩, fun h8 => absurd rfl h8⟩
  | succ n =>
    have hno : hasB (winS k).1 (winS k).2 k.p0 k.p1 = false := by
      cases hb : hasB (winS k).1 (winS k).2 k.p0 k.p1 with
      | false => rfl
      | true =>
        have : nextF k = some 0 := first_hit (b := fun n => stopsP k (winS k).1 (winS k).2 n k.p0 k.p1 0 0) (n := 0) (by omega) hb
        rw [this] at hn
        injection hn with hn
        cases hn
    rw [if_neg (by omega)] at he
    have hst : (hasB (winS k).1 (winS k).2 k.p0 k.p1 || ((okT k (0 + 1) 0 && readsP k (winS k).1 (winS k).2 n (k.p0 + k.u0) (k.p1 + k.u1) (0 + 1) 0) || (okT k 0 (0 + 1) && readsP k (winS k).1 (winS k).2 n (k.p0 - k.d1) (k.p1 - k.d0) 0 (0 + 1)))) = true := hst
    rw [hno, Bool.false_or] at hst
    have hsu : strokeP k (winS k).1 (winS k).2 (n + 1) k.p0 k.p1 0 0 = if (okT k (0 + 1) 0 && readsP k (winS k).1 (winS k).2 n (k.p0 + k.u0) (k.p1 + k.u1) (0 + 1) 0) = true then 1 else if (okT k 0 (0 + 1) && readsP k (winS k).1 (winS k).2 n (k.p0 - k.d1) (k.p1 - k.d0) 0 (0 + 1)) = true then 2 else 0 := rfl
    by_cases h1 : (okT k (0 + 1) 0 && readsP k (winS k).1 (winS k).2 n (k.p0 + k.u0) (k.p1 + k.u1) (0 + 1) 0) = true
    · rw [if_pos h1] at hsu
      rw [hsu] at he
      rw [Bool.and_eq_true] at h1
      have ho := (okT_iff h (by omega) (by omega)).1 h1.1
      have ha := (after_1 h (q := 1) (.inl rfl)).2
      refine ⟨1, ((n + 1 : Nat) : Int), he, by omega, fun h8 => by omega, fun _ => ⟨.inl rfl, ?_, ?_⟩⟩
      · rw [ha]
        simp only [St.filed, if_true, St.tip, Jb.st]
        unfold thick at ho
        simp at ho
        exact ⟨by omega, by omega⟩
      · rw [show (((n + 1 : Nat) : Int) - 1).toNat = n by omega, reads_shift (j := k) (k := k.filed 1) (T := 1) (R := 0) rfl rfl rfl rfl rfl (okT_tip h)]
        simp only [Jb.filed, ha, St.filed, if_true, St.tip, Jb.st]
        exact h1.2
    · have h2 := hst
      rw [Bool.eq_false_iff.2 h1, Bool.false_or] at h2
      rw [if_neg h1, if_pos h2] at hsu
      rw [hsu] at he
      rw [Bool.and_eq_true] at h2
      have ho := (okT_iff h (by omega) (by omega)).1 h2.1
      have ha := (after_1 h (q := 2) (.inr rfl)).2
      refine ⟨2, ((n + 1 : Nat) : Int), he, by omega, fun h8 => by omega, fun _ => ⟨.inr rfl, ?_, ?_⟩⟩
      · rw [ha]
        simp only [St.filed, show ¬ ((2 : Int) = 1) from by decide, if_false, St.root, Jb.st]
        unfold thick at ho
        simp at ho
        exact ⟨by omega, by omega⟩
      · rw [show (((n + 1 : Nat) : Int) - 1).toNat = n by omega, reads_shift (j := k) (k := k.filed 2) (T := 0) (R := 1) rfl rfl rfl rfl rfl (okT_root h)]
        simp only [Jb.filed, ha, St.filed, show ¬ ((2 : Int) = 1) from by decide, if_false, St.root, Jb.st]
        exact h2.2
theorem good_filed {k : Jb} (h : k.good) {q : Int} (hq : q = 1 ∨ q = 2) (h0 : -60 ≤ (afT k [q]).p0) (h1 : (afT k [q]).p1 ≤ 60) (h2 : 0 ≤ (afT k [q]).t0) (h3 : 0 ≤ (afT k [q]).r0) : (k.filed q).good := by
  have ha := (after_1 h hq).2
  obtain ⟨g1, g2, g3, g4, g5, g6, g7, g8, g9, g10, g11, g12⟩ := h
  rcases hq with rfl | rfl
  · simp only [ha, St.filed, if_true, St.tip, Jb.st] at h0 h1 h2 h3
    refine ⟨?_, ?_, ?_, g4, g5, g6, g7, g8, g9, g10, g11, g12⟩ <;> simp only [Jb.filed, ha, St.filed, if_true, St.tip, Jb.st] <;> omega
  · simp only [ha, St.filed, show ¬ ((2 : Int) = 1) from by decide, if_false, St.root, Jb.st] at h0 h1 h2 h3
    refine ⟨?_, ?_, ?_, g4, g5, g6, g7, g8, g9, g10, g11, g12⟩ <;> simp only [Jb.filed, ha, St.filed, show ¬ ((2 : Int) = 1) from by decide, if_false, St.root, Jb.st] <;> omega
/-- The job of the law: its meter errs by at most 2. -/
def Jb.me2 (j : Jb) : Jb := { j with me := min j.me 2 }
theorem good_me2 {j : Jb} (h : j.good) : j.me2.good := by
  obtain ⟨g1, g2, g3, g4, g5, g6, g7, g8, g9, g10, g11, g12⟩ := h
  exact ⟨g1, g2, g3, g4, g5, g6, g7, g8, g9, g10, g11, by show 0 ≤ min j.me 2 ∧ min j.me 2 ≤ 6; omega⟩
theorem reads_guided {j : Jb} (hj : j.good) (he : (guidedJ j).2 = 0) : ∃ n : Nat, n ≤ 4 ∧ (guidedJ j).1 = n ∧ readsP j (winS j).1 (winS j).2 n j.p0 j.p1 0 0 = true := by
  unfold guidedJ at *
  rw [if_pos (check_of_good hj)] at *
  cases hg : guidedF j with
  | none => rw [hg] at he; cases he
  | some n =>
    obtain ⟨a, b, c, _⟩ := first_some _ _ hg
    exact ⟨n, by omega, rfl, a⟩

end Go.Proofs.Ythlpceoajhcliaa
end

section
/-
  kit: what a tongue truly is.
-/
namespace Go.Proofs.Ythlpceoajhcliaa
set_option linter.unusedSimpArgs false
set_option linter.unusedVariables false
open Go.RowKit

def FiledPost (bp : Nat) (s : St) (w : World) (e : Ending) (w' : World) : Prop :=
  ∃ a b c s' : Int, InS s a b c ∧ u64ok s' ∧ e = .returned (.agg #[.int .i64 a, .int .i64 b, .int .i64 c]) ∧ w.grownBy w' (some bp) ∧ Bk w' bp #[.int .u64 s']


set_option maxRecDepth 100000 in
set_option maxHeartbeats 1000000 in
theorem filedOf_any (s : Int) (bp : Nat) (j : Jb) (A : Option Addr) (c : Nat) (w : World) (hj : j.good) (hp : Bk w bp #[.int .u64 s]) (hs : u64ok s) :
    Calls Try.prog 36 #[.pointer (some ⟨bp, 0, none⟩), jobV j A c] w (FiledPost bp j.st w) := by
  have hp8 := hj.p
  have ht8 := hj.t
  have hr8 := hj.r
  refine px_enter (fun b => b = bp) Try.func36 rfl 21 rfl [.pointer (some ⟨bp, 0, none⟩), .agg #[.int .i64 j.p0, .int .i64 j.p1, .int .i64 j.t0, .int .i64 j.t1, .int .i64 j.r0, .int .i64 j.r1, .int .i64 j.u0, .int .i64 j.u1, .int .i64 j.d0, .int .i64 j.d1, .int .i64 j.a0, .int .i64 j.a1, .int .i64 j.b0, .int .i64 j.b1, .int .i64 j.le, .slice A j.sh.length c, .int .i64 j.wi, .int .i64 j.me]] rfl rfl (Mem.initEx (p := .cells [.int .u64 s]) hp) ?_
  intro ac wc T M
  refine wp_seq ?_
  refine wp_region_lit ?_
  refine l_w rfl ?_; intro K hK
  refine ow_bx M T rfl rfl rfl rfl (T.ev 1 rfl) rfl ?_; clear M T; intro g1 wc ac M T
  refine sh_out hK _ _ ?_; clear hK K
  refine l_w rfl ?_; intro K hK
  refine ow_al M T rfl rfl rfl rfl ?_; clear M T; intro g2 wc ac M T
  refine sh_out hK _ _ ?_; clear hK K
  refine wpList_nil ?_
  replace T := T.pick [0, 1, 2] rfl
  refine nm_then ?_
  refine wp_seq ?_
  refine g_start2 M (M.perm [1] rfl rfl) 17 (by kernel_rfl) rfl (by kernel_rfl) ?_
  clear M; intro wc M
  refine g_addG 4 M ?_
  refine g_addG 16 (M.perm [0, 1] rfl rfl) ?_
  refine g_q (T := T) (i := 0) rfl (by kernel_rfl) (by kernel_rfl : (pbits 17 0).setIfInBounds 0 true = pbits 17 1) (si_and (si_G rfl) (si_and (si_G rfl) si_U)) (fun _ _ _ h => h) rfl rfl rfl rfl (fun _ _ _ _ _ => (rn_move rfl (T.ev 2 rfl))) ?_; clear T ac; intro ac T
  refine g_q (v := (.pointer (some ⟨g1, 0, none⟩))) (T := T) (i := 1) rfl (by kernel_rfl) (by kernel_rfl : (pbits 17 1).setIfInBounds 1 true = pbits 17 3) (si_and (si_G rfl) (si_and (si_G rfl) si_U)) (fun _ _ _ h => h) rfl rfl rfl rfl (fun _ _ _ _ _ => (rn_fieldAddr (off := 0) rfl (T.ev 2 rfl) (fun _ _ _ => by kernel_rfl))) ?_; clear T ac; intro ac T
  refine g_q (v := (.pointer (some ⟨g1, 0, none⟩))) (T := T) (i := 2) rfl (by kernel_rfl) (by kernel_rfl : (pbits 17 3).setIfInBounds 2 true = pbits 17 7) (si_and (si_G rfl) (si_and (si_G rfl) si_U)) (fun _ _ _ h => h) rfl rfl rfl rfl (fun _ _ _ _ _ => (rn_fieldAddr (off := 0) rfl (T.ev 0 rfl) (fun _ _ _ => by kernel_rfl))) ?_; clear T ac; intro ac T
  refine g_q (T := T) (i := 3) rfl (by kernel_rfl) (by kernel_rfl : (pbits 17 7).setIfInBounds 3 true = pbits 17 15) (si_and (si_G rfl) (si_and (si_G rfl) si_U)) (fun _ _ _ h => h) rfl rfl rfl rfl (fun B w' hD hl hS => (rn_rowO (Mem.nth (show Mem w (fun b => b = bp) w' _ from ((MA.lft hS) (hD.wait (i := 3) (m := 16) (by kernel_rfl) hl))) 1 rfl) rfl (T.ev 0 rfl) rfl)) ?_; clear T ac; intro ac T
  refine g_q (T := T) (i := 5) rfl (by kernel_rfl) (by kernel_rfl : (pbits 17 15).setIfInBounds 5 true = pbits 17 47) (si_and (si_G rfl) (si_and (si_G rfl) si_U)) (fun _ _ _ h => h) rfl rfl rfl rfl (fun _ _ _ _ _ => (rn_move rfl (T.ev 6 rfl))) ?_; clear T ac; intro ac T
  refine g_q (v := (.pointer (some ⟨g1, 0, none⟩))) (T := T) (i := 6) rfl (by kernel_rfl) (by kernel_rfl : (pbits 17 47).setIfInBounds 6 true = pbits 17 111) (si_and (si_G rfl) (si_and (si_G rfl) si_U)) (fun _ _ _ h => h) rfl rfl rfl rfl (fun _ _ _ _ _ => (rn_fieldAddr (off := 0) rfl (T.ev 6 rfl) (fun _ _ _ => by kernel_rfl))) ?_; clear T ac; intro ac T
  refine g_q (v := (.pointer (some ⟨g1, 2, none⟩))) (T := T) (i := 7) rfl (by kernel_rfl) (by kernel_rfl : (pbits 17 111).setIfInBounds 7 true = pbits 17 239) (si_and (si_G rfl) (si_and (si_G rfl) si_U)) (fun _ _ _ h => h) rfl rfl rfl rfl (fun _ _ _ _ _ => (rn_fieldAddr (off := 2) rfl (T.ev 0 rfl) (fun _ _ _ => by kernel_rfl))) ?_; clear T ac; intro ac T
  refine g_q (T := T) (i := 8) rfl (by kernel_rfl) (by kernel_rfl : (pbits 17 239).setIfInBounds 8 true = pbits 17 495) (si_and (si_G rfl) (si_and (si_G rfl) si_U)) (fun _ _ _ h => h) rfl rfl rfl rfl (fun B w' hD hl hS => (rn_rowO (Mem.nth (show Mem w (fun b => b = bp) w' _ from ((MA.lft hS) (hD.wait (i := 8) (m := 16) (by kernel_rfl) hl))) 1 rfl) rfl (T.ev 0 rfl) rfl)) ?_; clear T ac; intro ac T
  refine g_q (T := T) (i := 10) rfl (by kernel_rfl) (by kernel_rfl : (pbits 17 495).setIfInBounds 10 true = pbits 17 1519) (si_and (si_G rfl) (si_and (si_G rfl) si_U)) (fun _ _ _ h => h) rfl rfl rfl rfl (fun _ _ _ _ _ => (rn_move rfl (T.ev 10 rfl))) ?_; clear T ac; intro ac T
  refine g_q (v := (.pointer (some ⟨g1, 0, none⟩))) (T := T) (i := 11) rfl (by kernel_rfl) (by kernel_rfl : (pbits 17 1519).setIfInBounds 11 true = pbits 17 3567) (si_and (si_G rfl) (si_and (si_G rfl) si_U)) (fun _ _ _ h => h) rfl rfl rfl rfl (fun _ _ _ _ _ => (rn_fieldAddr (off := 0) rfl (T.ev 10 rfl) (fun _ _ _ => by kernel_rfl))) ?_; clear T ac; intro ac T
  refine g_q (v := (.pointer (some ⟨g1, 4, none⟩))) (T := T) (i := 12) rfl (by kernel_rfl) (by kernel_rfl : (pbits 17 3567).setIfInBounds 12 true = pbits 17 7663) (si_and (si_G rfl) (si_and (si_G rfl) si_U)) (fun _ _ _ h => h) rfl rfl rfl rfl (fun _ _ _ _ _ => (rn_fieldAddr (off := 4) rfl (T.ev 0 rfl) (fun _ _ _ => by kernel_rfl))) ?_; clear T ac; intro ac T
  refine g_q (T := T) (i := 13) rfl (by kernel_rfl) (by kernel_rfl : (pbits 17 7663).setIfInBounds 13 true = pbits 17 15855) (si_and (si_G rfl) (si_and (si_G rfl) si_U)) (fun _ _ _ h => h) rfl rfl rfl rfl (fun B w' hD hl hS => (rn_rowO (Mem.nth (show Mem w (fun b => b = bp) w' _ from ((MA.lft hS) (hD.wait (i := 13) (m := 16) (by kernel_rfl) hl))) 1 rfl) rfl (T.ev 0 rfl) rfl)) ?_; clear T ac; intro ac T
  refine g_w (i := 4) (by kernel_rfl) rfl (by kernel_rfl : (pbits 17 15855).setIfInBounds 4 true = pbits 17 15871) rfl ?_; intro K hK
  refine ow_call (first := []) (cap := []) T rfl rfl rfl rfl evf (.cons (T.ev 11 rfl) (.cons (T.ev 8 rfl) .nil)) Try.func43 rfl rfl ?_
  refine Calls.mono (inner_any _ bp j.p0 j.p1 _ (by omega) (by omega) (by omega) (M.nth 2 rfl) hs) ?_
  clear T
  rintro e wc ⟨xu1, su1, hxu1, hsu1, rfl, hgr, hbk⟩
  intro ac T
  replace M := M.callC (cs' := [.int .u64 su1]) (.tail (.tail .head)) hgr hbk
  clear hgr hbk
  refine sh_out hK _ _ (MA.mk (fun _ => M.mask [true, true, false] rfl) (MA.mk (fun h => (no_of (by kernel_rfl) h).elim) (M.mask [false, true, false] rfl))) ?_; clear hK K
  refine g_w (i := 9) (by kernel_rfl) rfl (by kernel_rfl : (pbits 17 15871).setIfInBounds 9 true = pbits 17 16383) rfl ?_; intro K hK
  refine ow_call (first := []) (cap := []) T rfl rfl rfl rfl evf (.cons (T.ev 8 rfl) (.cons (T.ev 5 rfl) .nil)) Try.func43 rfl rfl ?_
  refine Calls.mono (inner_any _ bp j.t0 j.t1 _ (by omega) (by omega) (by omega) (M.nth 2 rfl) hsu1) ?_
  clear T
  rintro e wc ⟨xu2, su2, hxu2, hsu2, rfl, hgr, hbk⟩
  intro ac T
  replace M := M.callC (cs' := [.int .u64 su2]) (.tail (.tail .head)) hgr hbk
  clear hgr hbk
  refine sh_out hK _ _ (MA.mk (fun _ => M.mask [true, true, false] rfl) (MA.mk (fun h => (no_of (by kernel_rfl) h).elim) (M.mask [false, true, false] rfl))) ?_; clear hK K
  refine g_w (i := 14) (by kernel_rfl) rfl (by kernel_rfl : (pbits 17 16383).setIfInBounds 14 true = pbits 17 32767) rfl ?_; intro K hK
  refine ow_call (first := []) (cap := []) T rfl rfl rfl rfl evf (.cons (T.ev 5 rfl) (.cons (T.ev 2 rfl) .nil)) Try.func43 rfl rfl ?_
  refine Calls.mono (inner_any _ bp j.r0 j.r1 _ (by omega) (by omega) (by omega) (M.nth 2 rfl) hsu2) ?_
  clear T
  rintro e wc ⟨xu3, su3, hxu3, hsu3, rfl, hgr, hbk⟩
  intro ac T
  replace M := M.callC (cs' := [.int .u64 su3]) (.tail (.tail .head)) hgr hbk
  clear hgr hbk
  refine sh_out hK _ _ (MA.mk (fun _ => M.mask [true, true, false] rfl) (MA.mk (fun h => (no_of (by kernel_rfl) h).elim) (M.mask [false, true, false] rfl))) ?_; clear hK K
  refine g_q (v := (.agg #[.int .i64 xu1, .int .i64 xu2, .int .i64 xu3])) (T := T) (i := 15) rfl (by kernel_rfl) (by kernel_rfl : (pbits 17 32767).setIfInBounds 15 true = pbits 17 65535) (si_and (si_G rfl) (si_and (si_G rfl) si_U)) (fun _ _ _ h => h) rfl rfl rfl rfl (fun _ _ _ _ _ => (rn_build rfl (.cons (T.ev 2 rfl) (.cons (T.ev 1 rfl) (.cons (T.ev 0 rfl) .nil))) (fun _ => by kernel_rfl))) ?_; clear T ac; intro ac T
  refine g_w (i := 16) (by kernel_rfl) rfl (by kernel_rfl : (pbits 17 65535).setIfInBounds 16 true = pbits 17 131071) rfl ?_; intro K hK
  refine ow_stO M T rfl rfl (T.ev 16 rfl) (T.ev 0 rfl) rfl .head rfl (by simp) rfl (by kernel_rfl) ?_; clear M T; intro wc ac M T
  refine sh_out hK _ _ (MA.mk (fun h => (no_of (by kernel_rfl) h).elim) (MA.mk (fun h => (no_of (by kernel_rfl) h).elim) (M.mask [false, true, false] rfl))) ?_; clear hK K
  refine g_done (by kernel_rfl) ?_
  replace T := T.pick [16] rfl
  replace M := M.mask [true, false, true] rfl
  refine nm_then ?_
  refine wp_ret ?_
  refine rt_c M T rfl (T.ev 0 rfl) (nthE_mem (i := 0) rfl) rfl ?_
  exact ⟨_, _, _, _, ⟨hxu1, hxu2, hxu3⟩, hsu3, rfl, M.grown, M.nth 1 rfl⟩

set_option maxRecDepth 100000 in
set_option maxHeartbeats 1000000 in
theorem strike_any (s : Int) (bp : Nat) (j : Jb) (A : Option Addr) (d : Nat) (z : St) (a b c k : Int) (w : World) (hj : j.good) (hf : FileOf z j) (hi : InS z a b c) (hz : z.upTo 100000) (hk : k = 1 ∨ k = 2) (hp : Bk w bp #[.int .u64 s]) (hs : u64ok s) :
    Calls Try.prog 41 #[.pointer (some ⟨bp, 0, none⟩), jobV j A d, .agg #[.int .i64 a, .int .i64 b, .int .i64 c], .int .i64 k] w (FiledPost bp (z.filed k) w) := by
  have hu := hj.u
  have hd := hj.d
  have ha := hj.a
  have hb := hj.b
  have i1 := hi.p
  have i2 := hi.t
  have i3 := hi.r
  have zp0 := hz.p0
  have zp1 := hz.p1
  have zt0 := hz.t0
  have zt1 := hz.t1
  have zr0 := hz.r0
  have zr1 := hz.r1
  have fu0 := hf.u0
  have fu1 := hf.u1
  have fd0 := hf.d0
  have fd1 := hf.d1
  have fa0 := hf.a0
  have fa1 := hf.a1
  have fb0 := hf.b0
  have fb1 := hf.b1
  refine px_enter (fun b => b = bp) Try.func41 rfl 49 rfl [.pointer (some ⟨bp, 0, none⟩), .agg #[.int .i64 j.p0, .int .i64 j.p1, .int .i64 j.t0, .int .i64 j.t1, .int .i64 j.r0, .int .i64 j.r1, .int .i64 j.u0, .int .i64 j.u1, .int .i64 j.d0, .int .i64 j.d1, .int .i64 j.a0, .int .i64 j.a1, .int .i64 j.b0, .int .i64 j.b1, .int .i64 j.le, .slice A j.sh.length d, .int .i64 j.wi, .int .i64 j.me], .agg #[.int .i64 a, .int .i64 b, .int .i64 c], .int .i64 k] rfl rfl (Mem.initEx (p := .cells [.int .u64 s]) hp) ?_
  intro ac wc T M
  refine wp_seq ?_
  refine wp_region_lit ?_
  refine l_w rfl ?_; intro K hK
  refine ow_bx M T rfl rfl rfl rfl (T.ev 1 rfl) rfl ?_; clear M T; intro g1 wc ac M T
  refine sh_out hK _ _ ?_; clear hK K
  refine l_w rfl ?_; intro K hK
  refine ow_bx M T rfl rfl rfl rfl (T.ev 3 rfl) rfl ?_; clear M T; intro g2 wc ac M T
  refine sh_out hK _ _ ?_; clear hK K
  refine l_w rfl ?_; intro K hK
  refine ow_al M T rfl rfl rfl rfl ?_; clear M T; intro g3 wc ac M T
  refine sh_out hK _ _ ?_; clear hK K
  refine wpList_nil ?_
  replace T := T.pick [0, 1, 2, 3, 6] rfl
  refine nm_then ?_
  refine wp_seq ?_
  refine wp_seq ?_
  refine wp_region_lit ?_
  refine l_q T rfl rfl rfl rfl (rn_move rfl (T.ev 4 rfl)) ?_; clear T ac; intro ac T
  refine l_q T rfl rfl rfl rfl (rn_eql rfl (T.ev 0 rfl) evc) ?_; clear T ac; intro ac T
  refine wpList_nil ?_
  replace T := T.pick [0, 2, 3, 4, 5] rfl
  refine nm_then ?_
  refine wp_if (T.ev 0 rfl) ?_ ?_
  · intro h1
    refine wp_seq ?_
    refine g_start2 M (M.perm [1, 2] rfl rfl) 20 (by kernel_rfl) rfl (by kernel_rfl) ?_
    clear M; intro wc M
    refine g_addG 6 M ?_
    refine g_addG 19 (M.perm [0, 1, 2] rfl rfl) ?_
    refine g_q (v := (.pointer (some ⟨g2, 0, none⟩))) (T := T) (i := 0) rfl (by kernel_rfl) (by kernel_rfl : (pbits 20 0).setIfInBounds 0 true = pbits 20 1) (si_and (si_G rfl) (si_and (si_G rfl) si_U)) (fun _ _ _ h => h) rfl rfl rfl rfl (fun _ _ _ _ _ => (rn_fieldAddr (off := 0) rfl (T.ev 2 rfl) (fun _ _ _ => by kernel_rfl))) ?_; clear T ac; intro ac T
    refine g_q (T := T) (i := 1) rfl (by kernel_rfl) (by kernel_rfl : (pbits 20 1).setIfInBounds 1 true = pbits 20 3) (si_and (si_G rfl) (si_and (si_G rfl) si_U)) (fun _ _ _ h => h) rfl rfl rfl rfl (fun B w' hD hl hS => (rn_one (Mem.nth (show Mem w (fun b => b = bp) w' _ from ((MA.lft hS) (hD.wait (i := 1) (m := 19) (by kernel_rfl) hl))) 1 rfl) rfl (T.ev 0 rfl) rfl)) ?_; clear T ac; intro ac T
    refine g_q (T := T) (i := 2) rfl (by kernel_rfl) (by kernel_rfl : (pbits 20 3).setIfInBounds 2 true = pbits 20 7) (si_and (si_G rfl) (si_and (si_G rfl) si_U)) (fun _ _ _ h => h) rfl rfl rfl rfl (fun _ _ _ _ _ => (rn_move rfl (T.ev 6 rfl))) ?_; clear T ac; intro ac T
    refine g_q (v := (.pointer (some ⟨g1, 6, none⟩))) (T := T) (i := 3) rfl (by kernel_rfl) (by kernel_rfl : (pbits 20 7).setIfInBounds 3 true = pbits 20 15) (si_and (si_G rfl) (si_and (si_G rfl) si_U)) (fun _ _ _ h => h) rfl rfl rfl rfl (fun _ _ _ _ _ => (rn_fieldAddr (off := 6) rfl (T.ev 6 rfl) (fun _ _ _ => by kernel_rfl))) ?_; clear T ac; intro ac T
    refine g_q (v := (.pointer (some ⟨g1, 6, none⟩))) (T := T) (i := 4) rfl (by kernel_rfl) (by kernel_rfl : (pbits 20 15).setIfInBounds 4 true = pbits 20 31) (si_and (si_G rfl) (si_and (si_G rfl) si_U)) (fun _ _ _ h => h) rfl rfl rfl rfl (fun _ _ _ _ _ => (rn_fieldAddr (off := 0) rfl (T.ev 0 rfl) (fun _ _ _ => by kernel_rfl))) ?_; clear T ac; intro ac T
    refine g_q (T := T) (i := 5) rfl (by kernel_rfl) (by kernel_rfl : (pbits 20 31).setIfInBounds 5 true = pbits 20 63) (si_and (si_G rfl) (si_and (si_G rfl) si_U)) (fun _ _ _ h => h) rfl rfl rfl rfl (fun B w' hD hl hS => (rn_rowO (Mem.nth (show Mem w (fun b => b = bp) w' _ from ((MA.lft hS) (hD.wait (i := 5) (m := 19) (by kernel_rfl) hl))) 2 rfl) rfl (T.ev 0 rfl) rfl)) ?_; clear T ac; intro ac T
    refine g_q (v := (.pointer (some ⟨g2, 1, none⟩))) (T := T) (i := 8) rfl (by kernel_rfl) (by kernel_rfl : (pbits 20 63).setIfInBounds 8 true = pbits 20 319) (si_and (si_G rfl) (si_and (si_G rfl) si_U)) (fun _ _ _ h => h) rfl rfl rfl rfl (fun _ _ _ _ _ => (rn_fieldAddr (off := 1) rfl (T.ev 8 rfl) (fun _ _ _ => by kernel_rfl))) ?_; clear T ac; intro ac T
    refine g_q (T := T) (i := 9) rfl (by kernel_rfl) (by kernel_rfl : (pbits 20 319).setIfInBounds 9 true = pbits 20 831) (si_and (si_G rfl) (si_and (si_G rfl) si_U)) (fun _ _ _ h => h) rfl rfl rfl rfl (fun B w' hD hl hS => (rn_one (Mem.nth (show Mem w (fun b => b = bp) w' _ from ((MA.lft hS) (hD.wait (i := 9) (m := 19) (by kernel_rfl) hl))) 1 rfl) rfl (T.ev 0 rfl) rfl)) ?_; clear T ac; intro ac T
    refine g_q (T := T) (i := 10) rfl (by kernel_rfl) (by kernel_rfl : (pbits 20 831).setIfInBounds 10 true = pbits 20 1855) (si_and (si_G rfl) (si_and (si_G rfl) si_U)) (fun _ _ _ h => h) rfl rfl rfl rfl (fun _ _ _ _ _ => (rn_move rfl (T.ev 12 rfl))) ?_; clear T ac; intro ac T
    refine g_q (v := (.pointer (some ⟨g1, 6, none⟩))) (T := T) (i := 11) rfl (by kernel_rfl) (by kernel_rfl : (pbits 20 1855).setIfInBounds 11 true = pbits 20 3903) (si_and (si_G rfl) (si_and (si_G rfl) si_U)) (fun _ _ _ h => h) rfl rfl rfl rfl (fun _ _ _ _ _ => (rn_fieldAddr (off := 6) rfl (T.ev 12 rfl) (fun _ _ _ => by kernel_rfl))) ?_; clear T ac; intro ac T
    refine g_q (v := (.pointer (some ⟨g1, 10, none⟩))) (T := T) (i := 12) rfl (by kernel_rfl) (by kernel_rfl : (pbits 20 3903).setIfInBounds 12 true = pbits 20 7999) (si_and (si_G rfl) (si_and (si_G rfl) si_U)) (fun _ _ _ h => h) rfl rfl rfl rfl (fun _ _ _ _ _ => (rn_fieldAddr (off := 4) rfl (T.ev 0 rfl) (fun _ _ _ => by kernel_rfl))) ?_; clear T ac; intro ac T
    refine g_q (T := T) (i := 13) rfl (by kernel_rfl) (by kernel_rfl : (pbits 20 7999).setIfInBounds 13 true = pbits 20 16191) (si_and (si_G rfl) (si_and (si_G rfl) si_U)) (fun _ _ _ h => h) rfl rfl rfl rfl (fun B w' hD hl hS => (rn_rowO (Mem.nth (show Mem w (fun b => b = bp) w' _ from ((MA.lft hS) (hD.wait (i := 13) (m := 19) (by kernel_rfl) hl))) 2 rfl) rfl (T.ev 0 rfl) rfl)) ?_; clear T ac; intro ac T
    refine g_q (v := (.pointer (some ⟨g2, 2, none⟩))) (T := T) (i := 16) rfl (by kernel_rfl) (by kernel_rfl : (pbits 20 16191).setIfInBounds 16 true = pbits 20 81727) (si_and (si_G rfl) (si_and (si_G rfl) si_U)) (fun _ _ _ h => h) rfl rfl rfl rfl (fun _ _ _ _ _ => (rn_fieldAddr (off := 2) rfl (T.ev 14 rfl) (fun _ _ _ => by kernel_rfl))) ?_; clear T ac; intro ac T
    refine g_q (T := T) (i := 17) rfl (by kernel_rfl) (by kernel_rfl : (pbits 20 81727).setIfInBounds 17 true = pbits 20 212799) (si_and (si_G rfl) (si_and (si_G rfl) si_U)) (fun _ _ _ h => h) rfl rfl rfl rfl (fun B w' hD hl hS => (rn_one (Mem.nth (show Mem w (fun b => b = bp) w' _ from ((MA.lft hS) (hD.wait (i := 17) (m := 19) (by kernel_rfl) hl))) 1 rfl) rfl (T.ev 0 rfl) rfl)) ?_; clear T ac; intro ac T
    refine g_w (i := 6) (by kernel_rfl) rfl (by kernel_rfl : (pbits 20 212799).setIfInBounds 6 true = pbits 20 212863) rfl ?_; intro K hK
    refine ow_call (first := []) (cap := []) T rfl rfl rfl rfl evf (.cons (T.ev 11 rfl) (.cons (T.ev 8 rfl) .nil)) Try.func43 rfl rfl ?_
    refine Calls.mono (inner_any _ bp j.u0 j.u1 _ (by omega) (by omega) (by omega) (M.nth 3 rfl) hs) ?_
    clear T
    rintro e wc ⟨xu1, su1, hxu1, hsu1, rfl, hgr, hbk⟩
    intro ac T
    replace M := M.callC (cs' := [.int .u64 su1]) (.tail (.tail (.tail .head))) hgr hbk
    clear hgr hbk
    refine sh_out hK _ _ (MA.mk (fun _ => M.mask [true, true, true, false] rfl) (MA.mk (fun h => (no_of (by kernel_rfl) h).elim) (M.mask [false, true, true, false] rfl))) ?_; clear hK K
    refine g_q (T := T) (i := 7) rfl (by kernel_rfl) (by kernel_rfl : (pbits 20 212863).setIfInBounds 7 true = pbits 20 212991) (si_and (si_G rfl) (si_and (si_G rfl) si_U)) (fun _ _ _ h => h) rfl rfl rfl rfl (fun _ _ _ _ _ => (rn_add rfl (T.ev 13 rfl) (T.ev 0 rfl) (by omega))) ?_; clear T ac; intro ac T
    refine g_w (i := 14) (by kernel_rfl) rfl (by kernel_rfl : (pbits 20 212991).setIfInBounds 14 true = pbits 20 229375) rfl ?_; intro K hK
    refine ow_call (first := []) (cap := []) T rfl rfl rfl rfl evf (.cons (T.ev 7 rfl) (.cons (T.ev 4 rfl) .nil)) Try.func43 rfl rfl ?_
    refine Calls.mono (inner_any _ bp j.a0 j.a1 _ (by omega) (by omega) (by omega) (M.nth 3 rfl) hsu1) ?_
    clear T
    rintro e wc ⟨xu2, su2, hxu2, hsu2, rfl, hgr, hbk⟩
    intro ac T
    replace M := M.callC (cs' := [.int .u64 su2]) (.tail (.tail (.tail .head))) hgr hbk
    clear hgr hbk
    refine sh_out hK _ _ (MA.mk (fun _ => M.mask [true, true, true, false] rfl) (MA.mk (fun h => (no_of (by kernel_rfl) h).elim) (M.mask [false, true, true, false] rfl))) ?_; clear hK K
    refine g_q (T := T) (i := 15) rfl (by kernel_rfl) (by kernel_rfl : (pbits 20 229375).setIfInBounds 15 true = pbits 20 262143) (si_and (si_G rfl) (si_and (si_G rfl) si_U)) (fun _ _ _ h => h) rfl rfl rfl rfl (fun _ _ _ _ _ => (rn_sub rfl (T.ev 9 rfl) (T.ev 0 rfl) (by omega))) ?_; clear T ac; intro ac T
    refine g_q (v := (.agg #[.int .i64 (a + xu1), .int .i64 (b - xu2), .int .i64 c])) (T := T) (i := 18) rfl (by kernel_rfl) (by kernel_rfl : (pbits 20 262143).setIfInBounds 18 true = pbits 20 524287) (si_and (si_G rfl) (si_and (si_G rfl) si_U)) (fun _ _ _ h => h) rfl rfl rfl rfl (fun _ _ _ _ _ => (rn_build rfl (.cons (T.ev 2 rfl) (.cons (T.ev 0 rfl) (.cons (T.ev 4 rfl) .nil))) (fun _ => by kernel_rfl))) ?_; clear T ac; intro ac T
    refine g_w (i := 19) (by kernel_rfl) rfl (by kernel_rfl : (pbits 20 524287).setIfInBounds 19 true = pbits 20 1048575) rfl ?_; intro K hK
    refine ow_stO M T rfl rfl (T.ev 20 rfl) (T.ev 0 rfl) rfl .head rfl (by simp) rfl (by kernel_rfl) ?_; clear M T; intro wc ac M T
    refine sh_out hK _ _ (MA.mk (fun h => (no_of (by kernel_rfl) h).elim) (MA.mk (fun h => (no_of (by kernel_rfl) h).elim) (M.mask [false, true, true, false] rfl))) ?_; clear hK K
    refine g_done (by kernel_rfl) ?_
    replace T := T.pick [20] rfl
    replace M := M.mask [true, false, false, true] rfl
    refine nm_then ?_
    refine wp_ret ?_
    refine rt_then ?_
    refine rt_c M T rfl (T.ev 0 rfl) (nthE_mem (i := 0) rfl) rfl ?_
    have e9 : z.filed k = z.tip := if_pos h1
    refine ⟨_, _, _, _, ?_, hsu2, rfl, M.grown, M.nth 1 rfl⟩
    rw [e9]
    exact ⟨by show z.p0 + z.u0 ≤ _ ∧ _ ≤ z.p1 + z.u1; omega, by show z.t0 - z.a1 ≤ _ ∧ _ ≤ z.t1 - z.a0; omega, i3⟩
  · intro h1
    refine wp_skip ?_
    refine nm_then ?_
    refine wp_seq ?_
    refine g_start2 M (M.perm [1, 2] rfl rfl) 20 (by kernel_rfl) rfl (by kernel_rfl) ?_
    clear M; intro wc M
    refine g_addG 6 M ?_
    refine g_addG 19 (M.perm [0, 1, 2] rfl rfl) ?_
    refine g_q (v := (.pointer (some ⟨g2, 0, none⟩))) (T := T) (i := 0) rfl (by kernel_rfl) (by kernel_rfl : (pbits 20 0).setIfInBounds 0 true = pbits 20 1) (si_and (si_G rfl) (si_and (si_G rfl) si_U)) (fun _ _ _ h => h) rfl rfl rfl rfl (fun _ _ _ _ _ => (rn_fieldAddr (off := 0) rfl (T.ev 2 rfl) (fun _ _ _ => by kernel_rfl))) ?_; clear T ac; intro ac T
    refine g_q (T := T) (i := 1) rfl (by kernel_rfl) (by kernel_rfl : (pbits 20 1).setIfInBounds 1 true = pbits 20 3) (si_and (si_G rfl) (si_and (si_G rfl) si_U)) (fun _ _ _ h => h) rfl rfl rfl rfl (fun B w' hD hl hS => (rn_one (Mem.nth (show Mem w (fun b => b = bp) w' _ from ((MA.lft hS) (hD.wait (i := 1) (m := 19) (by kernel_rfl) hl))) 1 rfl) rfl (T.ev 0 rfl) rfl)) ?_; clear T ac; intro ac T
    refine g_q (T := T) (i := 2) rfl (by kernel_rfl) (by kernel_rfl : (pbits 20 3).setIfInBounds 2 true = pbits 20 7) (si_and (si_G rfl) (si_and (si_G rfl) si_U)) (fun _ _ _ h => h) rfl rfl rfl rfl (fun _ _ _ _ _ => (rn_move rfl (T.ev 6 rfl))) ?_; clear T ac; intro ac T
    refine g_q (v := (.pointer (some ⟨g1, 6, none⟩))) (T := T) (i := 3) rfl (by kernel_rfl) (by kernel_rfl : (pbits 20 7).setIfInBounds 3 true = pbits 20 15) (si_and (si_G rfl) (si_and (si_G rfl) si_U)) (fun _ _ _ h => h) rfl rfl rfl rfl (fun _ _ _ _ _ => (rn_fieldAddr (off := 6) rfl (T.ev 6 rfl) (fun _ _ _ => by kernel_rfl))) ?_; clear T ac; intro ac T
    refine g_q (v := (.pointer (some ⟨g1, 8, none⟩))) (T := T) (i := 4) rfl (by kernel_rfl) (by kernel_rfl : (pbits 20 15).setIfInBounds 4 true = pbits 20 31) (si_and (si_G rfl) (si_and (si_G rfl) si_U)) (fun _ _ _ h => h) rfl rfl rfl rfl (fun _ _ _ _ _ => (rn_fieldAddr (off := 2) rfl (T.ev 0 rfl) (fun _ _ _ => by kernel_rfl))) ?_; clear T ac; intro ac T
    refine g_q (T := T) (i := 5) rfl (by kernel_rfl) (by kernel_rfl : (pbits 20 31).setIfInBounds 5 true = pbits 20 63) (si_and (si_G rfl) (si_and (si_G rfl) si_U)) (fun _ _ _ h => h) rfl rfl rfl rfl (fun B w' hD hl hS => (rn_rowO (Mem.nth (show Mem w (fun b => b = bp) w' _ from ((MA.lft hS) (hD.wait (i := 5) (m := 19) (by kernel_rfl) hl))) 2 rfl) rfl (T.ev 0 rfl) rfl)) ?_; clear T ac; intro ac T
    refine g_q (v := (.pointer (some ⟨g2, 1, none⟩))) (T := T) (i := 8) rfl (by kernel_rfl) (by kernel_rfl : (pbits 20 63).setIfInBounds 8 true = pbits 20 319) (si_and (si_G rfl) (si_and (si_G rfl) si_U)) (fun _ _ _ h => h) rfl rfl rfl rfl (fun _ _ _ _ _ => (rn_fieldAddr (off := 1) rfl (T.ev 8 rfl) (fun _ _ _ => by kernel_rfl))) ?_; clear T ac; intro ac T
    refine g_q (T := T) (i := 9) rfl (by kernel_rfl) (by kernel_rfl : (pbits 20 319).setIfInBounds 9 true = pbits 20 831) (si_and (si_G rfl) (si_and (si_G rfl) si_U)) (fun _ _ _ h => h) rfl rfl rfl rfl (fun B w' hD hl hS => (rn_one (Mem.nth (show Mem w (fun b => b = bp) w' _ from ((MA.lft hS) (hD.wait (i := 9) (m := 19) (by kernel_rfl) hl))) 1 rfl) rfl (T.ev 0 rfl) rfl)) ?_; clear T ac; intro ac T
    refine g_q (v := (.pointer (some ⟨g2, 2, none⟩))) (T := T) (i := 10) rfl (by kernel_rfl) (by kernel_rfl : (pbits 20 831).setIfInBounds 10 true = pbits 20 1855) (si_and (si_G rfl) (si_and (si_G rfl) si_U)) (fun _ _ _ h => h) rfl rfl rfl rfl (fun _ _ _ _ _ => (rn_fieldAddr (off := 2) rfl (T.ev 10 rfl) (fun _ _ _ => by kernel_rfl))) ?_; clear T ac; intro ac T
    refine g_q (T := T) (i := 11) rfl (by kernel_rfl) (by kernel_rfl : (pbits 20 1855).setIfInBounds 11 true = pbits 20 3903) (si_and (si_G rfl) (si_and (si_G rfl) si_U)) (fun _ _ _ h => h) rfl rfl rfl rfl (fun B w' hD hl hS => (rn_one (Mem.nth (show Mem w (fun b => b = bp) w' _ from ((MA.lft hS) (hD.wait (i := 11) (m := 19) (by kernel_rfl) hl))) 1 rfl) rfl (T.ev 0 rfl) rfl)) ?_; clear T ac; intro ac T
    refine g_q (T := T) (i := 12) rfl (by kernel_rfl) (by kernel_rfl : (pbits 20 3903).setIfInBounds 12 true = pbits 20 7999) (si_and (si_G rfl) (si_and (si_G rfl) si_U)) (fun _ _ _ h => h) rfl rfl rfl rfl (fun _ _ _ _ _ => (rn_move rfl (T.ev 14 rfl))) ?_; clear T ac; intro ac T
    refine g_q (v := (.pointer (some ⟨g1, 6, none⟩))) (T := T) (i := 13) rfl (by kernel_rfl) (by kernel_rfl : (pbits 20 7999).setIfInBounds 13 true = pbits 20 16191) (si_and (si_G rfl) (si_and (si_G rfl) si_U)) (fun _ _ _ h => h) rfl rfl rfl rfl (fun _ _ _ _ _ => (rn_fieldAddr (off := 6) rfl (T.ev 14 rfl) (fun _ _ _ => by kernel_rfl))) ?_; clear T ac; intro ac T
    refine g_q (v := (.pointer (some ⟨g1, 12, none⟩))) (T := T) (i := 14) rfl (by kernel_rfl) (by kernel_rfl : (pbits 20 16191).setIfInBounds 14 true = pbits 20 32575) (si_and (si_G rfl) (si_and (si_G rfl) si_U)) (fun _ _ _ h => h) rfl rfl rfl rfl (fun _ _ _ _ _ => (rn_fieldAddr (off := 6) rfl (T.ev 0 rfl) (fun _ _ _ => by kernel_rfl))) ?_; clear T ac; intro ac T
    refine g_q (T := T) (i := 15) rfl (by kernel_rfl) (by kernel_rfl : (pbits 20 32575).setIfInBounds 15 true = pbits 20 65343) (si_and (si_G rfl) (si_and (si_G rfl) si_U)) (fun _ _ _ h => h) rfl rfl rfl rfl (fun B w' hD hl hS => (rn_rowO (Mem.nth (show Mem w (fun b => b = bp) w' _ from ((MA.lft hS) (hD.wait (i := 15) (m := 19) (by kernel_rfl) hl))) 2 rfl) rfl (T.ev 0 rfl) rfl)) ?_; clear T ac; intro ac T
    refine g_w (i := 6) (by kernel_rfl) rfl (by kernel_rfl : (pbits 20 65343).setIfInBounds 6 true = pbits 20 65407) rfl ?_; intro K hK
    refine ow_call (first := []) (cap := []) T rfl rfl rfl rfl evf (.cons (T.ev 11 rfl) (.cons (T.ev 8 rfl) .nil)) Try.func43 rfl rfl ?_
    refine Calls.mono (inner_any _ bp j.d0 j.d1 _ (by omega) (by omega) (by omega) (M.nth 3 rfl) hs) ?_
    clear T
    rintro e wc ⟨xu3, su3, hxu3, hsu3, rfl, hgr, hbk⟩
    intro ac T
    replace M := M.callC (cs' := [.int .u64 su3]) (.tail (.tail (.tail .head))) hgr hbk
    clear hgr hbk
    refine sh_out hK _ _ (MA.mk (fun _ => M.mask [true, true, true, false] rfl) (MA.mk (fun h => (no_of (by kernel_rfl) h).elim) (M.mask [false, true, true, false] rfl))) ?_; clear hK K
    refine g_q (T := T) (i := 7) rfl (by kernel_rfl) (by kernel_rfl : (pbits 20 65407).setIfInBounds 7 true = pbits 20 65535) (si_and (si_G rfl) (si_and (si_G rfl) si_U)) (fun _ _ _ h => h) rfl rfl rfl rfl (fun _ _ _ _ _ => (rn_sub rfl (T.ev 13 rfl) (T.ev 0 rfl) (by omega))) ?_; clear T ac; intro ac T
    refine g_w (i := 16) (by kernel_rfl) rfl (by kernel_rfl : (pbits 20 65535).setIfInBounds 16 true = pbits 20 131071) rfl ?_; intro K hK
    refine ow_call (first := []) (cap := []) T rfl rfl rfl rfl evf (.cons (T.ev 5 rfl) (.cons (T.ev 2 rfl) .nil)) Try.func43 rfl rfl ?_
    refine Calls.mono (inner_any _ bp j.b0 j.b1 _ (by omega) (by omega) (by omega) (M.nth 3 rfl) hsu3) ?_
    clear T
    rintro e wc ⟨xu4, su4, hxu4, hsu4, rfl, hgr, hbk⟩
    intro ac T
    replace M := M.callC (cs' := [.int .u64 su4]) (.tail (.tail (.tail .head))) hgr hbk
    clear hgr hbk
    refine sh_out hK _ _ (MA.mk (fun _ => M.mask [true, true, true, false] rfl) (MA.mk (fun h => (no_of (by kernel_rfl) h).elim) (M.mask [false, true, true, false] rfl))) ?_; clear hK K
    refine g_q (T := T) (i := 17) rfl (by kernel_rfl) (by kernel_rfl : (pbits 20 131071).setIfInBounds 17 true = pbits 20 262143) (si_and (si_G rfl) (si_and (si_G rfl) si_U)) (fun _ _ _ h => h) rfl rfl rfl rfl (fun _ _ _ _ _ => (rn_sub rfl (T.ev 7 rfl) (T.ev 0 rfl) (by omega))) ?_; clear T ac; intro ac T
    refine g_q (v := (.agg #[.int .i64 (a - xu3), .int .i64 b, .int .i64 (c - xu4)])) (T := T) (i := 18) rfl (by kernel_rfl) (by kernel_rfl : (pbits 20 262143).setIfInBounds 18 true = pbits 20 524287) (si_and (si_G rfl) (si_and (si_G rfl) si_U)) (fun _ _ _ h => h) rfl rfl rfl rfl (fun _ _ _ _ _ => (rn_build rfl (.cons (T.ev 2 rfl) (.cons (T.ev 10 rfl) (.cons (T.ev 0 rfl) .nil))) (fun _ => by kernel_rfl))) ?_; clear T ac; intro ac T
    refine g_w (i := 19) (by kernel_rfl) rfl (by kernel_rfl : (pbits 20 524287).setIfInBounds 19 true = pbits 20 1048575) rfl ?_; intro K hK
    refine ow_stO M T rfl rfl (T.ev 20 rfl) (T.ev 0 rfl) rfl .head rfl (by simp) rfl (by kernel_rfl) ?_; clear M T; intro wc ac M T
    refine sh_out hK _ _ (MA.mk (fun h => (no_of (by kernel_rfl) h).elim) (MA.mk (fun h => (no_of (by kernel_rfl) h).elim) (M.mask [false, true, true, false] rfl))) ?_; clear hK K
    refine g_done (by kernel_rfl) ?_
    replace T := T.pick [20] rfl
    replace M := M.mask [true, false, false, true] rfl
    refine nm_then ?_
    refine wp_ret ?_
    refine rt_c M T rfl (T.ev 0 rfl) (nthE_mem (i := 0) rfl) rfl ?_
    have e9 : z.filed k = z.root := if_neg h1
    refine ⟨_, _, _, _, ?_, hsu4, rfl, M.grown, M.nth 1 rfl⟩
    rw [e9]
    exact ⟨by show z.p0 - z.d1 ≤ _ ∧ _ ≤ z.p1 - z.d0; omega, i2, by show z.r0 - z.b1 ≤ _ ∧ _ ≤ z.r1 - z.b0; omega⟩

set_option maxRecDepth 100000 in
set_option maxHeartbeats 1000000 in
theorem in_x (x0 x1 v : Int) (w : World)  :
    Calls Try.prog 39 #[.agg #[.int .i64 x0, .int .i64 x1], .int .i64 v] w fun e w' => e = .returned (.bool (decide (x0 ≤ v ∧ v ≤ x1))) ∧ Below w.heap.size w w' := by
  refine px_enter noEx Try.func39 rfl 15 rfl [.agg #[.int .i64 x0, .int .i64 x1], .int .i64 v] rfl rfl (Mem.init w _) ?_
  intro ac wc T M
  refine wp_seq ?_
  refine wp_region_lit ?_
  refine l_w rfl ?_; intro K hK
  refine ow_bx M T rfl rfl rfl rfl (T.ev 0 rfl) rfl ?_; clear M T; intro g1 wc ac M T
  refine sh_out hK _ _ ?_; clear hK K
  refine l_q T rfl rfl rfl rfl (rn_assign rfl evc) ?_; clear T ac; intro ac T
  refine wpList_nil ?_
  replace T := T.pick [1, 3] rfl
  refine nm_then ?_
  refine cut_seq (fun ac wc => Tm ac 15 [(4, .bool ((decide (x0 ≤ v)) && (decide (v ≤ x1))))] ∧ Mem w noEx wc []) ?_ ?_
  · refine wp_region_lit ?_
    refine l_q (v := (.pointer (some ⟨g1, 0, none⟩))) T rfl rfl rfl rfl (rn_fieldAddr (off := 0) rfl (T.ev 0 rfl) (fun _ _ _ => by kernel_rfl)) ?_; clear T ac; intro ac T
    refine l_q T rfl rfl rfl rfl (rn_one (Mem.nth M 0 rfl) rfl (T.ev 0 rfl) rfl) ?_; clear T ac; intro ac T
    refine l_q T rfl rfl rfl rfl (rn_move rfl (T.ev 3 rfl)) ?_; clear T ac; intro ac T
    refine l_q T rfl rfl rfl rfl (rn_leq rfl (T.ev 1 rfl) (T.ev 0 rfl)) ?_; clear T ac; intro ac T
    refine l_q T rfl rfl rfl rfl (rn_move rfl (T.ev 0 rfl)) ?_; clear T ac; intro ac T
    rcases Bool.eq_false_or_eq_true (decide (x0 ≤ v)) with h1 | h1
    · replace h1 := of_decide_eq_true h1
      refine l_q T (wanted_yes rfl rfl (T.ev 0 rfl) (decide_eq_true h1)) rfl rfl rfl (rn_move rfl (T.ev 6 rfl)) ?_; clear T ac; intro ac T
      refine l_q (v := (.pointer (some ⟨g1, 1, none⟩))) T (wanted_yes rfl rfl (T.ev 1 rfl) (decide_eq_true h1)) rfl rfl rfl (rn_fieldAddr (off := 1) rfl (T.ev 6 rfl) (fun _ _ _ => by kernel_rfl)) ?_; clear T ac; intro ac T
      refine l_q T (wanted_yes rfl rfl (T.ev 2 rfl) (decide_eq_true h1)) rfl rfl rfl (rn_one (Mem.nth M 0 rfl) rfl (T.ev 0 rfl) rfl) ?_; clear T ac; intro ac T
      refine l_q T (wanted_yes rfl rfl (T.ev 3 rfl) (decide_eq_true h1)) rfl rfl rfl (rn_leq rfl (T.ev 2 rfl) (T.ev 0 rfl)) ?_; clear T ac; intro ac T
      refine l_q T rfl rfl rfl rfl (rn_pick1 rfl (T.ev 4 rfl) (decide_eq_true h1) (T.ev 0 rfl)) ?_; clear T ac; intro ac T
      refine l_q T rfl rfl rfl rfl (rn_assign rfl (T.ev 0 rfl)) ?_; clear T ac; intro ac T
      refine wpList_nil ?_
      replace T := T.pick [0] rfl
      replace M := M.mask [false] rfl
      exact ⟨(T.pick (E' := [(4, .bool (decide (v ≤ x1)))]) [0] rfl).as (by (try rw [show (decide (x0 ≤ v)) = true from (decide_eq_true h1)]); rfl), M.mask [] rfl⟩
    · replace h1 := of_decide_eq_false h1
      refine l_pass T (wanted_no rfl rfl (T.ev 0 rfl) (decide_eq_false h1)) rfl rfl rfl ?_; clear T ac; intro ac T
      refine l_pass T (wanted_no rfl rfl (T.ev 1 rfl) (decide_eq_false h1)) rfl rfl rfl ?_; clear T ac; intro ac T
      refine l_pass T (wanted_no rfl rfl (T.ev 2 rfl) (decide_eq_false h1)) rfl rfl rfl ?_; clear T ac; intro ac T
      refine l_pass T (wanted_no rfl rfl (T.ev 3 rfl) (decide_eq_false h1)) rfl rfl rfl ?_; clear T ac; intro ac T
      refine l_q T rfl rfl rfl rfl (rn_pick0 rfl (T.ev 4 rfl) (decide_eq_false h1) evc) ?_; clear T ac; intro ac T
      refine l_q T rfl rfl rfl rfl (rn_assign rfl (T.ev 0 rfl)) ?_; clear T ac; intro ac T
      refine wpList_nil ?_
      replace T := T.pick [0] rfl
      replace M := M.mask [false] rfl
      exact ⟨(T.pick (E' := [(4, .bool false)]) [0] rfl).as (by (try rw [show (decide (x0 ≤ v)) = false from (decide_eq_false h1)]); rfl), M.mask [] rfl⟩
  · clear T M
    rintro ac wc ⟨T, M⟩
    refine wp_ret ?_
    refine rt_1 T rfl (T.ev 0 rfl) ?_
    exact ⟨ret_bool (by simp), M.below⟩

end Go.Proofs.Ythlpceoajhcliaa
end

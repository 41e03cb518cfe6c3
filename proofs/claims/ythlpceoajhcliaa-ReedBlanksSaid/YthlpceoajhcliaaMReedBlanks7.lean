/-
  Walks of functions, and plain laws (texts put together). No condition.
-/
import Derived.Test.YthlpceoajhcliaaMReedBlanks1
import Derived.Test.YthlpceoajhcliaaMReedBlanks2
import Derived.Test.YthlpceoajhcliaaMReedBlanks3
import Derived.Test.YthlpceoajhcliaaMReedBlanks4
import Derived.Test.YthlpceoajhcliaaMReedBlanks5
import Derived.Test.YthlpceoajhcliaaMReedBlanks6

section
/-
  The chapter's examples hold.
-/
namespace Go.Proofs.Ythlpceoajhcliaa
set_option linter.unusedSimpArgs false
set_option linter.unusedVariables false
open Go.RowKit

def exJ (p0 p1 : Int) : Jb := { p0 := p0, p1 := p1, t0 := 30, t1 := 32, r0 := 40, r1 := 41, u0 := 3, u1 := 4, d0 := 2, d1 := 3, a0 := 1, a1 := 2, b0 := 1, b1 := 1, le := 20, sh := [(-2, 1), (0, 3)], wi := 5, me := 1 }
def JobPost (j : Jb) (w : World) (e : Ending) (w' : World) : Prop := ∃ g, e = .returned (jobV j (some ⟨g, 0, none⟩) 2) ∧ Mem w noEx w' [(g, .cells (rc j.sh))]
section
set_option maxRecDepth 100000
theorem ex_window : windowJ (exJ (-12) (-8)) = ((-3, 2), 0) := by decide +kernel
theorem ex_strokes : checkStrokesJ (exJ (-12) (-8)) [1, 2] = 0 := by decide +kernel
theorem ex_after : afterC (exJ (-12) (-8)) [1, 2] = #[.int .i64 (-12), .int .i64 (-6), .int .i64 28, .int .i64 31, .int .i64 39, .int .i64 40] := by
  unfold afterC
  rw [if_pos ex_strokes]
  rfl
theorem ex_short : shortL (exJ (-9) (-9)) = [1, 1] := by decide +kernel
theorem ex_shortE : shortE (exJ (-9) (-9)) = 0 := by decide +kernel
theorem ex_guided : guidedJ (exJ (-12) (-8)) = (3, 0) := by decide +kernel
theorem ex_next : nextJ (exJ 4 6) = (2, 2, 0) := by decide +kernel
end
theorem Window_ex (g : Nat) (w : World) (hr : Rd w w.heap.size 2 (some ⟨g, 0, none⟩) 2 (rc [(-2, 1), (0, 3)])) :
    Calls Try.prog 33 #[jobV (exJ (-12) (-8)) (some ⟨g, 0, none⟩) 2] w fun e w' => e = .returned (.tuple #[R2 (-3) 2, .int .i64 0]) ∧ Below w.heap.size w w' := by
  have h := Window_any (exJ (-12) (-8)) (some ⟨g, 0, none⟩) 2 w hr (by decide)
  rw [ex_window] at h
  exact h
theorem After_ex (g g' : Nat) (w : World) (hr : Rd w w.heap.size 2 (some ⟨g, 0, none⟩) 2 (rc [(-2, 1), (0, 3)])) (hl : Rd w w.heap.size 1 (some ⟨g', 0, none⟩) 2 (ic [1, 2])) :
    Calls Try.prog 34 #[jobV (exJ (-12) (-8)) (some ⟨g, 0, none⟩) 2, .slice (some ⟨g', 0, none⟩) 2 2] w fun e w' => e = .returned (.tuple #[.agg #[.int .i64 (-12), .int .i64 (-6), .int .i64 28, .int .i64 31, .int .i64 39, .int .i64 40], .int .i64 0]) ∧ Below w.heap.size w w' := by
  have h := After_any (exJ (-12) (-8)) (some ⟨g, 0, none⟩) 2 (some ⟨g', 0, none⟩) 2 2 [1, 2] w hr (by decide) hl (by decide)
  rw [ex_after, ex_strokes] at h
  exact h
theorem Shortest_ex (g : Nat) (w : World) (hr : Rd w w.heap.size 2 (some ⟨g, 0, none⟩) 2 (rc [(-2, 1), (0, 3)])) :
    Calls Try.prog 19 #[jobV (exJ (-9) (-9)) (some ⟨g, 0, none⟩) 2] w (ShortPost2 [1, 1] 0 w) := by
  have h := Shortest_own (exJ (-9) (-9)) (some ⟨g, 0, none⟩) 2 w hr (by decide)
  rw [ex_short, ex_shortE] at h
  exact h
theorem Guided_ex (g : Nat) (w : World) (hr : Rd w w.heap.size 2 (some ⟨g, 0, none⟩) 2 (rc [(-2, 1), (0, 3)])) :
    Calls Try.prog 24 #[jobV (exJ (-12) (-8)) (some ⟨g, 0, none⟩) 2] w fun e w' => e = .returned (.tuple #[.int .i64 3, .int .i64 0]) ∧ Below w.heap.size w w' := by
  have h := Guided_any (exJ (-12) (-8)) (some ⟨g, 0, none⟩) 2 w hr (by decide)
  rw [ex_guided] at h
  exact h
theorem Next_ex (g : Nat) (w : World) (hr : Rd w w.heap.size 2 (some ⟨g, 0, none⟩) 2 (rc [(-2, 1), (0, 3)])) :
    Calls Try.prog 26 #[jobV (exJ 4 6) (some ⟨g, 0, none⟩) 2] w fun e w' => e = .returned (.tuple #[.int .i64 2, .int .i64 2, .int .i64 0]) ∧ Below w.heap.size w w' := by
  have h := Next_any (exJ 4 6) (some ⟨g, 0, none⟩) 2 w hr (by decide)
  rw [ex_next] at h
  exact h


set_option maxRecDepth 100000 in
set_option maxHeartbeats 1000000 in
theorem job_any (p0 p1 : Int) (w : World)  :
    Calls Try.prog 65 #[.agg #[.int .i64 p0, .int .i64 p1]] w (JobPost (exJ p0 p1) w) := by
  refine px_enter noEx Try.func65 rfl 16 rfl [.agg #[.int .i64 p0, .int .i64 p1]] rfl rfl (Mem.init w _) ?_
  intro ac wc T M
  refine wp_seq ?_
  refine wp_region_lit ?_
  refine l_w rfl ?_; intro K hK
  refine ow_bx M T rfl rfl rfl rfl (T.ev 0 rfl) rfl ?_; clear M T; intro g1 wc ac M T
  refine sh_out hK _ _ ?_; clear hK K
  refine l_w rfl ?_; intro K hK
  refine ow_al M T rfl rfl rfl rfl ?_; clear M T; intro g2 wc ac M T
  refine sh_out hK _ _ ?_; clear hK K
  refine wpList_nil ?_
  replace T := T.pick [0, 1] rfl
  refine nm_then ?_
  refine wp_seq ?_
  refine g_start2 M (M.perm [1] rfl rfl) 14 (by kernel_rfl) rfl (by kernel_rfl) ?_
  clear M; intro wc M
  refine g_addG 13 M ?_
  refine g_q (T := T) (i := 0) rfl (by kernel_rfl) (by kernel_rfl : (pbits 14 0).setIfInBounds 0 true = pbits 14 1) (si_and (si_G rfl) si_U) (fun _ _ _ h => h) rfl rfl rfl rfl (fun B w' hD hl hS => (rn_rowO (Mem.nth (show Mem w noEx w' _ from ((MA.lft hS) (hD.wait (i := 0) (m := 13) (by kernel_rfl) hl))) 1 rfl) rfl (T.ev 1 rfl) rfl)) ?_; clear T ac; intro ac T
  refine g_w (i := 1) (by kernel_rfl) rfl (by kernel_rfl : (pbits 14 1).setIfInBounds 1 true = pbits 14 3) rfl ?_; intro K hK
  refine ow_call (first := []) (cap := []) T rfl rfl rfl rfl evf (.cons evc (.cons evc .nil)) Try.func31 rfl rfl ?_
  refine Calls.mono (to_any 30 32 _) ?_
  clear T
  rintro e wc ⟨rfl, hb⟩
  intro ac T
  replace M := M.call hb; clear hb
  refine sh_out hK _ _ (MA.mk (fun _ => M.mask [true, true] rfl) (M.mask [false, true] rfl)) ?_; clear hK K
  refine g_w (i := 2) (by kernel_rfl) rfl (by kernel_rfl : (pbits 14 3).setIfInBounds 2 true = pbits 14 7) rfl ?_; intro K hK
  refine ow_call (first := []) (cap := []) T rfl rfl rfl rfl evf (.cons evc (.cons evc .nil)) Try.func31 rfl rfl ?_
  refine Calls.mono (to_any 40 41 _) ?_
  clear T
  rintro e wc ⟨rfl, hb⟩
  intro ac T
  replace M := M.call hb; clear hb
  refine sh_out hK _ _ (MA.mk (fun _ => M.mask [true, true] rfl) (M.mask [false, true] rfl)) ?_; clear hK K
  refine g_q (v := (.agg #[.int .i64 p0, .int .i64 p1, .int .i64 30, .int .i64 32, .int .i64 40, .int .i64 41])) (T := T) (i := 3) rfl (by kernel_rfl) (by kernel_rfl : (pbits 14 7).setIfInBounds 3 true = pbits 14 15) (si_and (si_G rfl) si_U) (fun _ _ _ h => h) rfl rfl rfl rfl (fun _ _ _ _ _ => (rn_build rfl (.cons (T.ev 2 rfl) (.cons (T.ev 1 rfl) (.cons (T.ev 0 rfl) .nil))) (fun _ => by kernel_rfl))) ?_; clear T ac; intro ac T
  refine g_w (i := 4) (by kernel_rfl) rfl (by kernel_rfl : (pbits 14 15).setIfInBounds 4 true = pbits 14 31) rfl ?_; intro K hK
  refine ow_call (first := []) (cap := []) T rfl rfl rfl rfl evf (.cons evc (.cons evc .nil)) Try.func31 rfl rfl ?_
  refine Calls.mono (to_any 3 4 _) ?_
  clear T
  rintro e wc ⟨rfl, hb⟩
  intro ac T
  replace M := M.call hb; clear hb
  refine sh_out hK _ _ (MA.mk (fun _ => M.mask [true, true] rfl) (M.mask [false, true] rfl)) ?_; clear hK K
  refine g_w (i := 5) (by kernel_rfl) rfl (by kernel_rfl : (pbits 14 31).setIfInBounds 5 true = pbits 14 63) rfl ?_; intro K hK
  refine ow_call (first := []) (cap := []) T rfl rfl rfl rfl evf (.cons evc (.cons evc .nil)) Try.func31 rfl rfl ?_
  refine Calls.mono (to_any 2 3 _) ?_
  clear T
  rintro e wc ⟨rfl, hb⟩
  intro ac T
  replace M := M.call hb; clear hb
  refine sh_out hK _ _ (MA.mk (fun _ => M.mask [true, true] rfl) (M.mask [false, true] rfl)) ?_; clear hK K
  refine g_w (i := 6) (by kernel_rfl) rfl (by kernel_rfl : (pbits 14 63).setIfInBounds 6 true = pbits 14 127) rfl ?_; intro K hK
  refine ow_call (first := []) (cap := []) T rfl rfl rfl rfl evf (.cons evc (.cons evc .nil)) Try.func31 rfl rfl ?_
  refine Calls.mono (to_any 1 2 _) ?_
  clear T
  rintro e wc ⟨rfl, hb⟩
  intro ac T
  replace M := M.call hb; clear hb
  refine sh_out hK _ _ (MA.mk (fun _ => M.mask [true, true] rfl) (M.mask [false, true] rfl)) ?_; clear hK K
  refine g_w (i := 7) (by kernel_rfl) rfl (by kernel_rfl : (pbits 14 127).setIfInBounds 7 true = pbits 14 255) rfl ?_; intro K hK
  refine ow_call (first := []) (cap := []) T rfl rfl rfl rfl evf (.cons evc (.cons evc .nil)) Try.func31 rfl rfl ?_
  refine Calls.mono (to_any 1 1 _) ?_
  clear T
  rintro e wc ⟨rfl, hb⟩
  intro ac T
  replace M := M.call hb; clear hb
  refine sh_out hK _ _ (MA.mk (fun _ => M.mask [true, true] rfl) (M.mask [false, true] rfl)) ?_; clear hK K
  refine g_q (v := (.agg #[.int .i64 3, .int .i64 4, .int .i64 2, .int .i64 3, .int .i64 1, .int .i64 2, .int .i64 1, .int .i64 1, .int .i64 20])) (T := T) (i := 8) rfl (by kernel_rfl) (by kernel_rfl : (pbits 14 255).setIfInBounds 8 true = pbits 14 511) (si_and (si_G rfl) si_U) (fun _ _ _ h => h) rfl rfl rfl rfl (fun _ _ _ _ _ => (rn_build rfl (.cons (T.ev 3 rfl) (.cons (T.ev 2 rfl) (.cons (T.ev 1 rfl) (.cons (T.ev 0 rfl) (.cons evc .nil))))) (fun _ => by kernel_rfl))) ?_; clear T ac; intro ac T
  refine g_w (i := 9) (by kernel_rfl) rfl (by kernel_rfl : (pbits 14 511).setIfInBounds 9 true = pbits 14 1023) rfl ?_; intro K hK
  refine ow_call (first := []) (cap := []) T rfl rfl rfl rfl evf (.cons evc (.cons evc .nil)) Try.func31 rfl rfl ?_
  refine Calls.mono (to_any (-2) 1 _) ?_
  clear T
  rintro e wc ⟨rfl, hb⟩
  intro ac T
  replace M := M.call hb; clear hb
  refine sh_out hK _ _ (MA.mk (fun _ => M.mask [true, true] rfl) (M.mask [false, true] rfl)) ?_; clear hK K
  refine g_w (i := 10) (by kernel_rfl) rfl (by kernel_rfl : (pbits 14 1023).setIfInBounds 10 true = pbits 14 2047) rfl ?_; intro K hK
  refine ow_call (first := []) (cap := []) T rfl rfl rfl rfl evf (.cons evc (.cons evc .nil)) Try.func31 rfl rfl ?_
  refine Calls.mono (to_any 0 3 _) ?_
  clear T
  rintro e wc ⟨rfl, hb⟩
  intro ac T
  replace M := M.call hb; clear hb
  refine sh_out hK _ _ (MA.mk (fun _ => M.mask [true, true] rfl) (M.mask [false, true] rfl)) ?_; clear hK K
  refine g_w (i := 11) (by kernel_rfl) rfl (by kernel_rfl : (pbits 14 2047).setIfInBounds 11 true = pbits 14 4095) rfl ?_; intro K hK
  refine ow_bs (e := 23) [.int .i64 (-2), .int .i64 1, .int .i64 0, .int .i64 3] M T rfl rfl rfl rfl (.cons (T.ev 1 rfl) (.cons (T.ev 0 rfl) .nil)) (fun _ => by kernel_rfl) ?_; clear M T; intro g3 wc ac M T
  refine sh_out hK _ _ (MA.mk (fun _ => M.mask [false, true, true] rfl) (M.mask [false, false, true] rfl)) ?_; clear hK K
  refine g_q (v := (.agg #[.int .i64 p0, .int .i64 p1, .int .i64 30, .int .i64 32, .int .i64 40, .int .i64 41, .int .i64 3, .int .i64 4, .int .i64 2, .int .i64 3, .int .i64 1, .int .i64 2, .int .i64 1, .int .i64 1, .int .i64 20, .slice (some ⟨g3, 0, none⟩) 2 2, .int .i64 5, .int .i64 1])) (T := T) (i := 12) rfl (by kernel_rfl) (by kernel_rfl : (pbits 14 4095).setIfInBounds 12 true = pbits 14 8191) (si_and (si_G rfl) si_U) (fun _ _ _ h => h) rfl rfl rfl rfl (fun _ _ _ _ _ => (rn_build rfl (.cons (T.ev 8 rfl) (.cons (T.ev 3 rfl) (.cons (T.ev 0 rfl) (.cons evc (.cons evc .nil))))) (fun _ => by kernel_rfl))) ?_; clear T ac; intro ac T
  refine g_w (i := 13) (by kernel_rfl) rfl (by kernel_rfl : (pbits 14 8191).setIfInBounds 13 true = pbits 14 16383) rfl ?_; intro K hK
  refine ow_stO M T rfl rfl (T.ev 13 rfl) (T.ev 0 rfl) rfl (.tail .head) rfl (by simp) rfl (by kernel_rfl) ?_; clear M T; intro wc ac M T
  refine sh_out hK _ _ (MA.mk (fun h => (no_of (by kernel_rfl) h).elim) (M.mask [false, false, true] rfl)) ?_; clear hK K
  refine g_done (by kernel_rfl) ?_
  replace T := T.pick [13] rfl
  replace M := M.mask [true, true, false] rfl
  refine nm_then ?_
  refine wp_ret ?_
  refine rt_c M T rfl (T.ev 0 rfl) (nthE_mem (i := 1) rfl) rfl ?_
  exact ⟨_, rfl, M.perm [0] rfl rfl⟩

set_option maxRecDepth 100000 in
set_option maxHeartbeats 1000000 in
theorem flat_any  (w : World)  :
    Calls Try.prog 63 #[] w (JobPost (exJ (-12) (-8)) w) := by
  refine px_enter noEx Try.func63 rfl 3 rfl [] rfl rfl (Mem.init w _) ?_
  intro ac wc T M
  refine wp_seq ?_
  refine wp_region_lit ?_
  refine l_w rfl ?_; intro K hK
  refine ow_al M T rfl rfl rfl rfl ?_; clear M T; intro g1 wc ac M T
  refine sh_out hK _ _ ?_; clear hK K
  refine wpList_nil ?_
  refine nm_then ?_
  refine wp_seq ?_
  refine wp_region_lit ?_
  refine l_w rfl ?_; intro K hK
  refine ow_call (first := []) (cap := []) T rfl rfl rfl rfl evf (.cons evc (.cons evc .nil)) Try.func31 rfl rfl ?_
  refine Calls.mono (to_any (-12) (-8) _) ?_
  clear T
  rintro e wc ⟨rfl, hb⟩
  intro ac T
  replace M := M.call hb; clear hb
  refine sh_out hK _ _ ?_; clear hK K
  refine l_w rfl ?_; intro K hK
  refine ow_call (first := []) (cap := []) T rfl rfl rfl rfl evf (.cons (T.ev 0 rfl) .nil) Try.func65 rfl rfl ?_
  refine Calls.mono (job_any (-12) (-8) _) ?_
  clear T
  rintro e wc ⟨gu2, rfl, N⟩
  intro ac T
  replace M := M.join N; clear N
  replace M := M.mask [true, true] rfl
  refine sh_out hK _ _ ?_; clear hK K
  refine l_w rfl ?_; intro K hK
  refine ow_stO M T rfl rfl (T.ev 2 rfl) (T.ev 0 rfl) rfl (.tail .head) rfl (by simp) rfl (by kernel_rfl) ?_; clear M T; intro wc ac M T
  refine sh_out hK _ _ ?_; clear hK K
  refine wpList_nil ?_
  replace T := T.pick [2] rfl
  refine nm_then ?_
  refine wp_ret ?_
  refine rt_c M T rfl (T.ev 0 rfl) (nthE_mem (i := 1) rfl) rfl ?_
  exact ⟨_, rfl, M.perm [0] rfl rfl⟩

set_option maxRecDepth 100000 in
set_option maxHeartbeats 1000000 in
theorem sharper_any  (w : World)  :
    Calls Try.prog 64 #[] w (JobPost (exJ (-9) (-9)) w) := by
  refine px_enter noEx Try.func64 rfl 3 rfl [] rfl rfl (Mem.init w _) ?_
  intro ac wc T M
  refine wp_seq ?_
  refine wp_region_lit ?_
  refine l_w rfl ?_; intro K hK
  refine ow_al M T rfl rfl rfl rfl ?_; clear M T; intro g1 wc ac M T
  refine sh_out hK _ _ ?_; clear hK K
  refine wpList_nil ?_
  refine nm_then ?_
  refine wp_seq ?_
  refine wp_region_lit ?_
  refine l_w rfl ?_; intro K hK
  refine ow_call (first := []) (cap := []) T rfl rfl rfl rfl evf (.cons evc (.cons evc .nil)) Try.func31 rfl rfl ?_
  refine Calls.mono (to_any (-9) (-9) _) ?_
  clear T
  rintro e wc ⟨rfl, hb⟩
  intro ac T
  replace M := M.call hb; clear hb
  refine sh_out hK _ _ ?_; clear hK K
  refine l_w rfl ?_; intro K hK
  refine ow_call (first := []) (cap := []) T rfl rfl rfl rfl evf (.cons (T.ev 0 rfl) .nil) Try.func65 rfl rfl ?_
  refine Calls.mono (job_any (-9) (-9) _) ?_
  clear T
  rintro e wc ⟨gu2, rfl, N⟩
  intro ac T
  replace M := M.join N; clear N
  replace M := M.mask [true, true] rfl
  refine sh_out hK _ _ ?_; clear hK K
  refine l_w rfl ?_; intro K hK
  refine ow_stO M T rfl rfl (T.ev 2 rfl) (T.ev 0 rfl) rfl (.tail .head) rfl (by simp) rfl (by kernel_rfl) ?_; clear M T; intro wc ac M T
  refine sh_out hK _ _ ?_; clear hK K
  refine wpList_nil ?_
  replace T := T.pick [2] rfl
  refine nm_then ?_
  refine wp_ret ?_
  refine rt_c M T rfl (T.ev 0 rfl) (nthE_mem (i := 1) rfl) rfl ?_
  exact ⟨_, rfl, M.perm [0] rfl rfl⟩

theorem sameInts_same (A B : Option Addr) (n m c d : Nat) (l : List Int) (w : World) (ha : Rd w w.heap.size 1 A n (ic l)) (hb : Rd w w.heap.size 1 B m (ic l)) (hn : n ≤ 9223372036854775807) (hm : m ≤ 9223372036854775807) :
    Calls Try.prog 21 #[.slice A n c, .slice B m d] w fun e w' => e = .returned (.bool true) ∧ Below w.heap.size w w' := by
  have := sameInts_any A B n m c d l l w ha hb hn hm
  simpa using this


set_option maxRecDepth 100000 in
set_option maxHeartbeats 1000000 in
theorem tuned_any  (w : World)  :
    Calls Try.prog 15 #[] w fun e w' => e = .returned (.bool true) ∧ Below w.heap.size w w' := by
  refine px_enter noEx Try.func15 rfl 88 rfl [] rfl rfl (Mem.init w _) ?_
  intro ac wc T M
  refine wp_seq ?_
  refine wp_region_lit ?_
  refine l_q T rfl rfl rfl rfl (rn_assign rfl evc) ?_; clear T ac; intro ac T
  refine wpList_nil ?_
  replace T := T.pick [] rfl
  refine nm_then ?_
  refine wp_seq ?_
  refine wp_region_lit ?_
  refine l_w rfl ?_; intro K hK
  refine ow_call (first := []) (cap := []) T rfl rfl rfl rfl evf .nil Try.func63 rfl rfl ?_
  refine Calls.mono (flat_any _) ?_
  clear T
  rintro e wc ⟨gu1, rfl, N⟩
  intro ac T
  replace M := M.join N; clear N
  replace M := M.mask [true] rfl
  refine sh_out hK _ _ ?_; clear hK K
  refine l_w rfl ?_; intro K hK
  refine ow_call (first := []) (cap := []) T rfl rfl rfl rfl evf (.cons (T.ev 0 rfl) .nil) Try.func33 rfl rfl ?_
  refine Calls.mono (Window_ex _ _ (M.rdOwn (nthE_mem (i := 0) rfl) rfl rfl)) ?_
  clear T
  rintro e wc ⟨rfl, hb⟩
  intro ac T
  replace M := M.call hb; clear hb
  refine sh_out hK _ _ ?_; clear hK K
  refine l_q T rfl rfl rfl rfl (rn_move rfl (T.ev 0 rfl)) ?_; clear T ac; intro ac T
  refine l_q T rfl rfl rfl rfl (rn_extract rfl (T.ev 0 rfl) rfl) ?_; clear T ac; intro ac T
  refine l_q T rfl rfl rfl rfl (rn_extract rfl (T.ev 1 rfl) rfl) ?_; clear T ac; intro ac T
  refine l_w rfl ?_; intro K hK
  refine ow_al M T rfl rfl rfl rfl ?_; clear M T; intro g1 wc ac M T
  refine sh_out hK _ _ ?_; clear hK K
  refine l_w rfl ?_; intro K hK
  refine ow_stO M T rfl rfl (T.ev 0 rfl) (T.ev 2 rfl) rfl .head rfl (by simp) rfl (by kernel_rfl) ?_; clear M T; intro wc ac M T
  refine sh_out hK _ _ ?_; clear hK K
  refine l_q T rfl rfl rfl rfl (rn_assign rfl (T.ev 1 rfl)) ?_; clear T ac; intro ac T
  refine wpList_nil ?_
  replace T := T.pick [0, 1] rfl
  replace M := M.mask [true, false] rfl
  refine nm_then ?_
  refine wp_seq ?_
  refine wp_region_lit ?_
  refine l_w rfl ?_; intro K hK
  refine ow_call (first := []) (cap := []) T rfl rfl rfl rfl evf .nil Try.func63 rfl rfl ?_
  refine Calls.mono (flat_any _) ?_
  clear T
  rintro e wc ⟨gu3, rfl, N⟩
  intro ac T
  replace M := M.join N; clear N
  replace M := M.mask [true, true] rfl
  refine sh_out hK _ _ ?_; clear hK K
  refine l_w rfl ?_; intro K hK
  refine ow_bs (e := 3) [.int .i64 1, .int .i64 2] M T rfl rfl rfl rfl (.cons evc (.cons evc .nil)) (fun _ => by kernel_rfl) ?_; clear M T; intro g2 wc ac M T
  refine sh_out hK _ _ ?_; clear hK K
  refine l_w rfl ?_; intro K hK
  refine ow_call (first := []) (cap := []) T rfl rfl rfl rfl evf (.cons (T.ev 1 rfl) (.cons (T.ev 0 rfl) .nil)) Try.func34 rfl rfl ?_
  refine Calls.mono (After_ex _ _ _ (M.rdOwn (nthE_mem (i := 1) rfl) rfl rfl) (M.rdOwn (nthE_mem (i := 0) rfl) rfl rfl)) ?_
  clear T
  rintro e wc ⟨rfl, hb⟩
  intro ac T
  replace M := M.call hb; clear hb
  refine sh_out hK _ _ ?_; clear hK K
  refine l_q T rfl rfl rfl rfl (rn_move rfl (T.ev 0 rfl)) ?_; clear T ac; intro ac T
  refine l_q T rfl rfl rfl rfl (rn_extract rfl (T.ev 0 rfl) rfl) ?_; clear T ac; intro ac T
  refine l_q T rfl rfl rfl rfl (rn_extract rfl (T.ev 1 rfl) rfl) ?_; clear T ac; intro ac T
  refine l_w rfl ?_; intro K hK
  refine ow_al M T rfl rfl rfl rfl ?_; clear M T; intro g3 wc ac M T
  refine sh_out hK _ _ ?_; clear hK K
  refine l_w rfl ?_; intro K hK
  refine ow_stO M T rfl rfl (T.ev 0 rfl) (T.ev 2 rfl) rfl .head rfl (by simp) rfl (by kernel_rfl) ?_; clear M T; intro wc ac M T
  refine sh_out hK _ _ ?_; clear hK K
  refine l_q T rfl rfl rfl rfl (rn_assign rfl (T.ev 1 rfl)) ?_; clear T ac; intro ac T
  refine wpList_nil ?_
  replace T := T.pick [0, 1, 8, 9] rfl
  replace M := M.mask [true, false, false, true] rfl
  refine nm_then ?_
  refine wp_seq ?_
  refine wp_region_lit ?_
  refine l_w rfl ?_; intro K hK
  refine ow_call (first := []) (cap := []) T rfl rfl rfl rfl evf .nil Try.func64 rfl rfl ?_
  refine Calls.mono (sharper_any _) ?_
  clear T
  rintro e wc ⟨gu5, rfl, N⟩
  intro ac T
  replace M := M.join N; clear N
  replace M := M.mask [true, true, true] rfl
  refine sh_out hK _ _ ?_; clear hK K
  refine l_w rfl ?_; intro K hK
  refine ow_call (first := []) (cap := []) T rfl rfl rfl rfl evf (.cons (T.ev 0 rfl) .nil) Try.func19 rfl rfl ?_
  refine Calls.mono (Shortest_ex _ _ (M.rdOwn (nthE_mem (i := 0) rfl) rfl rfl)) ?_
  clear T
  rintro e wc ⟨Au6, cu6, Iu6, rfl, hsnu6, N⟩
  intro ac T
  obtain ⟨bu6, ou6, Su6⟩ := hsnu6.sp (w := w) (ex := noEx) rfl
  replace M := (M.join N).swapI
  replace M := M.mask [true, true, true] rfl
  clear N hsnu6
  refine sh_out hK _ _ ?_; clear hK K
  refine l_q T rfl rfl rfl rfl (rn_move rfl (T.ev 0 rfl)) ?_; clear T ac; intro ac T
  refine l_q T rfl rfl rfl rfl (rn_extract rfl (T.ev 0 rfl) rfl) ?_; clear T ac; intro ac T
  refine l_q T rfl rfl rfl rfl (rn_extract rfl (T.ev 1 rfl) rfl) ?_; clear T ac; intro ac T
  refine l_q T rfl rfl rfl rfl (rn_assign rfl (T.ev 1 rfl)) ?_; clear T ac; intro ac T
  refine l_q T rfl rfl rfl rfl (rn_assign rfl (T.ev 1 rfl)) ?_; clear T ac; intro ac T
  refine wpList_nil ?_
  replace T := T.pick [0, 1, 7, 8, 9, 10] rfl
  replace M := M.mask [false, true, true] rfl
  refine nm_then ?_
  refine wp_seq ?_
  refine wp_region_lit ?_
  refine l_w rfl ?_; intro K hK
  refine ow_call (first := []) (cap := []) T rfl rfl rfl rfl evf .nil Try.func63 rfl rfl ?_
  refine Calls.mono (flat_any _) ?_
  clear T
  rintro e wc ⟨gu7, rfl, N⟩
  intro ac T
  replace M := M.join N; clear N
  replace M := M.mask [true, true, true] rfl
  refine sh_out hK _ _ ?_; clear hK K
  refine l_w rfl ?_; intro K hK
  refine ow_call (first := []) (cap := []) T rfl rfl rfl rfl evf (.cons (T.ev 0 rfl) .nil) Try.func24 rfl rfl ?_
  refine Calls.mono (Guided_ex _ _ (M.rdOwn (nthE_mem (i := 0) rfl) rfl rfl)) ?_
  clear T
  rintro e wc ⟨rfl, hb⟩
  intro ac T
  replace M := M.call hb; clear hb
  refine sh_out hK _ _ ?_; clear hK K
  refine l_q T rfl rfl rfl rfl (rn_move rfl (T.ev 0 rfl)) ?_; clear T ac; intro ac T
  refine l_q T rfl rfl rfl rfl (rn_extract rfl (T.ev 0 rfl) rfl) ?_; clear T ac; intro ac T
  refine l_q T rfl rfl rfl rfl (rn_extract rfl (T.ev 1 rfl) rfl) ?_; clear T ac; intro ac T
  refine l_q T rfl rfl rfl rfl (rn_assign rfl (T.ev 1 rfl)) ?_; clear T ac; intro ac T
  refine l_q T rfl rfl rfl rfl (rn_assign rfl (T.ev 1 rfl)) ?_; clear T ac; intro ac T
  refine wpList_nil ?_
  replace T := T.pick [0, 1, 7, 8, 9, 10, 11, 12] rfl
  replace M := M.mask [false, true, true] rfl
  refine nm_then ?_
  refine wp_seq ?_
  refine wp_region_lit ?_
  refine l_w rfl ?_; intro K hK
  refine ow_call (first := []) (cap := []) T rfl rfl rfl rfl evf (.cons evc (.cons evc .nil)) Try.func31 rfl rfl ?_
  refine Calls.mono (to_any 4 6 _) ?_
  clear T
  rintro e wc ⟨rfl, hb⟩
  intro ac T
  replace M := M.call hb; clear hb
  refine sh_out hK _ _ ?_; clear hK K
  refine l_w rfl ?_; intro K hK
  refine ow_call (first := []) (cap := []) T rfl rfl rfl rfl evf (.cons (T.ev 0 rfl) .nil) Try.func65 rfl rfl ?_
  refine Calls.mono (job_any 4 6 _) ?_
  clear T
  rintro e wc ⟨gu10, rfl, N⟩
  intro ac T
  replace M := M.join N; clear N
  replace M := M.mask [true, true, true] rfl
  refine sh_out hK _ _ ?_; clear hK K
  refine l_w rfl ?_; intro K hK
  refine ow_call (first := []) (cap := []) T rfl rfl rfl rfl evf (.cons (T.ev 0 rfl) .nil) Try.func26 rfl rfl ?_
  refine Calls.mono (Next_ex _ _ (M.rdOwn (nthE_mem (i := 0) rfl) rfl rfl)) ?_
  clear T
  rintro e wc ⟨rfl, hb⟩
  intro ac T
  replace M := M.call hb; clear hb
  refine sh_out hK _ _ ?_; clear hK K
  refine l_q T rfl rfl rfl rfl (rn_move rfl (T.ev 0 rfl)) ?_; clear T ac; intro ac T
  refine l_q T rfl rfl rfl rfl (rn_extract rfl (T.ev 0 rfl) rfl) ?_; clear T ac; intro ac T
  refine l_q T rfl rfl rfl rfl (rn_extract rfl (T.ev 1 rfl) rfl) ?_; clear T ac; intro ac T
  refine l_q T rfl rfl rfl rfl (rn_extract rfl (T.ev 2 rfl) rfl) ?_; clear T ac; intro ac T
  refine l_q T rfl rfl rfl rfl (rn_assign rfl (T.ev 2 rfl)) ?_; clear T ac; intro ac T
  refine l_q T rfl rfl rfl rfl (rn_assign rfl (T.ev 2 rfl)) ?_; clear T ac; intro ac T
  refine l_q T rfl rfl rfl rfl (rn_assign rfl (T.ev 2 rfl)) ?_; clear T ac; intro ac T
  refine wpList_nil ?_
  replace T := T.pick [0, 1, 2, 10, 11, 12, 13, 14, 15, 16, 17] rfl
  replace M := M.mask [false, true, true] rfl
  refine nm_then ?_
  refine wp_seq ?_
  refine g_start2 M (M.mask [true, true] rfl) 49 (by kernel_rfl) rfl (by kernel_rfl) ?_
  clear M; intro wc M
  refine g_q (T := T) (i := 0) rfl (by kernel_rfl) (by kernel_rfl : (pbits 49 0).setIfInBounds 0 true = pbits 49 1) si_U (fun _ _ _ h => h) rfl rfl rfl rfl (fun _ _ _ _ _ => (rn_move rfl (T.ev 9 rfl))) ?_; clear T ac; intro ac T
  refine g_q (v := (.bool true)) (T := T) (i := 1) rfl (by kernel_rfl) (by kernel_rfl : (pbits 49 1).setIfInBounds 1 true = pbits 49 3) si_U (fun _ _ _ h => h) rfl rfl rfl rfl (fun _ _ _ _ _ => (rn_neqof (rn_eql rfl (T.ev 0 rfl) evc) (by simp))) ?_; clear T ac; intro ac T
  refine g_q (T := T) (i := 2) rfl (by kernel_rfl) (by kernel_rfl : (pbits 49 3).setIfInBounds 2 true = pbits 49 7) si_U (fun _ _ _ h => h) rfl rfl rfl rfl (fun _ _ _ _ _ => (rn_move rfl (T.ev 0 rfl))) ?_; clear T ac; intro ac T
  refine g_q (T := T) (i := 3) rfl (by kernel_rfl) (by kernel_rfl : (pbits 49 7).setIfInBounds 3 true = pbits 49 15) si_U (fun _ _ _ h => h) (wanted_yes rfl rfl (T.ev 0 rfl) rfl) rfl rfl rfl (fun _ _ _ _ _ => (rn_move rfl (T.ev 10 rfl))) ?_; clear T ac; intro ac T
  refine g_q (v := (.bool true)) (T := T) (i := 4) rfl (by kernel_rfl) (by kernel_rfl : (pbits 49 15).setIfInBounds 4 true = pbits 49 31) si_U (fun _ _ _ h => h) (wanted_yes rfl rfl (T.ev 1 rfl) rfl) rfl rfl rfl (fun _ _ _ _ _ => (rn_neqof (rn_eql rfl (T.ev 0 rfl) evc) (by simp))) ?_; clear T ac; intro ac T
  refine g_q (T := T) (i := 5) rfl (by kernel_rfl) (by kernel_rfl : (pbits 49 31).setIfInBounds 5 true = pbits 49 63) si_U (fun _ _ _ h => h) rfl rfl rfl rfl (fun _ _ _ _ _ => (rn_pick1 rfl (T.ev 2 rfl) rfl (T.ev 0 rfl))) ?_; clear T ac; intro ac T
  refine g_q (T := T) (i := 6) rfl (by kernel_rfl) (by kernel_rfl : (pbits 49 63).setIfInBounds 6 true = pbits 49 127) si_U (fun _ _ _ h => h) rfl rfl rfl rfl (fun _ _ _ _ _ => (rn_move rfl (T.ev 0 rfl))) ?_; clear T ac; intro ac T
  refine g_q (T := T) (i := 7) rfl (by kernel_rfl) (by kernel_rfl : (pbits 49 127).setIfInBounds 7 true = pbits 49 255) si_U (fun _ _ _ h => h) (wanted_yes rfl rfl (T.ev 0 rfl) rfl) rfl rfl rfl (fun _ _ _ _ _ => (rn_move rfl (T.ev 12 rfl))) ?_; clear T ac; intro ac T
  refine g_q (v := (.bool true)) (T := T) (i := 8) rfl (by kernel_rfl) (by kernel_rfl : (pbits 49 255).setIfInBounds 8 true = pbits 49 511) si_U (fun _ _ _ h => h) (wanted_yes rfl rfl (T.ev 1 rfl) rfl) rfl rfl rfl (fun _ _ _ _ _ => (rn_neqof (rn_eql rfl (T.ev 0 rfl) evc) (by simp))) ?_; clear T ac; intro ac T
  refine g_q (T := T) (i := 9) rfl (by kernel_rfl) (by kernel_rfl : (pbits 49 511).setIfInBounds 9 true = pbits 49 1023) si_U (fun _ _ _ h => h) rfl rfl rfl rfl (fun _ _ _ _ _ => (rn_pick1 rfl (T.ev 2 rfl) rfl (T.ev 0 rfl))) ?_; clear T ac; intro ac T
  refine g_q (T := T) (i := 10) rfl (by kernel_rfl) (by kernel_rfl : (pbits 49 1023).setIfInBounds 10 true = pbits 49 2047) si_U (fun _ _ _ h => h) rfl rfl rfl rfl (fun _ _ _ _ _ => (rn_move rfl (T.ev 0 rfl))) ?_; clear T ac; intro ac T
  refine g_q (T := T) (i := 11) rfl (by kernel_rfl) (by kernel_rfl : (pbits 49 2047).setIfInBounds 11 true = pbits 49 4095) si_U (fun _ _ _ h => h) (wanted_yes rfl rfl (T.ev 0 rfl) rfl) rfl rfl rfl (fun _ _ _ _ _ => (rn_move rfl (T.ev 14 rfl))) ?_; clear T ac; intro ac T
  refine g_q (v := (.bool true)) (T := T) (i := 12) rfl (by kernel_rfl) (by kernel_rfl : (pbits 49 4095).setIfInBounds 12 true = pbits 49 8191) si_U (fun _ _ _ h => h) (wanted_yes rfl rfl (T.ev 1 rfl) rfl) rfl rfl rfl (fun _ _ _ _ _ => (rn_neqof (rn_eql rfl (T.ev 0 rfl) evc) (by simp))) ?_; clear T ac; intro ac T
  refine g_q (T := T) (i := 13) rfl (by kernel_rfl) (by kernel_rfl : (pbits 49 8191).setIfInBounds 13 true = pbits 49 16383) si_U (fun _ _ _ h => h) rfl rfl rfl rfl (fun _ _ _ _ _ => (rn_pick1 rfl (T.ev 2 rfl) rfl (T.ev 0 rfl))) ?_; clear T ac; intro ac T
  refine g_q (T := T) (i := 14) rfl (by kernel_rfl) (by kernel_rfl : (pbits 49 16383).setIfInBounds 14 true = pbits 49 32767) si_U (fun _ _ _ h => h) rfl rfl rfl rfl (fun _ _ _ _ _ => (rn_move rfl (T.ev 0 rfl))) ?_; clear T ac; intro ac T
  refine g_q (T := T) (i := 15) rfl (by kernel_rfl) (by kernel_rfl : (pbits 49 32767).setIfInBounds 15 true = pbits 49 65535) si_U (fun _ _ _ h => h) (wanted_yes rfl rfl (T.ev 0 rfl) rfl) rfl rfl rfl (fun _ _ _ _ _ => (rn_move rfl (T.ev 15 rfl))) ?_; clear T ac; intro ac T
  refine g_q (v := (.bool true)) (T := T) (i := 16) rfl (by kernel_rfl) (by kernel_rfl : (pbits 49 65535).setIfInBounds 16 true = pbits 49 131071) si_U (fun _ _ _ h => h) (wanted_yes rfl rfl (T.ev 1 rfl) rfl) rfl rfl rfl (fun _ _ _ _ _ => (rn_neqof (rn_eql rfl (T.ev 0 rfl) evc) (by simp))) ?_; clear T ac; intro ac T
  refine g_q (T := T) (i := 17) rfl (by kernel_rfl) (by kernel_rfl : (pbits 49 131071).setIfInBounds 17 true = pbits 49 262143) si_U (fun _ _ _ h => h) rfl rfl rfl rfl (fun _ _ _ _ _ => (rn_pick1 rfl (T.ev 2 rfl) rfl (T.ev 0 rfl))) ?_; clear T ac; intro ac T
  refine g_q (T := T) (i := 18) rfl (by kernel_rfl) (by kernel_rfl : (pbits 49 262143).setIfInBounds 18 true = pbits 49 524287) si_U (fun _ _ _ h => h) rfl rfl rfl rfl (fun _ _ _ _ _ => (rn_move rfl (T.ev 0 rfl))) ?_; clear T ac; intro ac T
  refine g_q (T := T) (i := 19) rfl (by kernel_rfl) (by kernel_rfl : (pbits 49 524287).setIfInBounds 19 true = pbits 49 1048575) si_U (fun _ _ _ h => h) (wanted_yes rfl rfl (T.ev 0 rfl) rfl) rfl rfl rfl (fun B w' hD hl hS => (rn_rowO (Mem.nth (show Mem w noEx w' _ from hS) 1 rfl) rfl (T.ev 29 rfl) rfl)) ?_; clear T ac; intro ac T
  refine g_w (i := 20) (by kernel_rfl) rfl (by kernel_rfl : (pbits 49 1048575).setIfInBounds 20 true = pbits 49 2097151) (wanted_yes rfl rfl (T.ev 1 rfl) rfl) ?_; intro K hK
  refine ow_call (first := []) (cap := []) T rfl rfl rfl rfl evf (.cons evc (.cons evc .nil)) Try.func31 rfl rfl ?_
  refine Calls.mono (to_any (-3) 2 _) ?_
  clear T
  rintro e wc ⟨rfl, hb⟩
  intro ac T
  replace M := M.call hb; clear hb
  refine sh_out hK _ _ (M.mask [true, true] rfl) ?_; clear hK K
  refine g_addU M ?_
  refine g_q (v := (.bool true)) (T := T) (i := 21) rfl (by kernel_rfl) (by kernel_rfl : (pbits 49 2097151).setIfInBounds 21 true = pbits 49 4194303) (si_and si_U si_U) (fun _ _ _ h => h) (wanted_yes rfl rfl (T.ev 2 rfl) rfl) rfl rfl rfl (fun _ _ _ _ _ => (rn_neqof (rn_bin rfl (T.ev 1 rfl) (T.ev 0 rfl) eqT23) (by simp))) ?_; clear T ac; intro ac T
  refine g_q (T := T) (i := 22) rfl (by kernel_rfl) (by kernel_rfl : (pbits 49 4194303).setIfInBounds 22 true = pbits 49 8388607) (si_and si_U si_U) (fun _ _ _ h => h) rfl rfl rfl rfl (fun _ _ _ _ _ => (rn_pick1 rfl (T.ev 3 rfl) rfl (T.ev 0 rfl))) ?_; clear T ac; intro ac T
  refine g_q (T := T) (i := 23) rfl (by kernel_rfl) (by kernel_rfl : (pbits 49 8388607).setIfInBounds 23 true = pbits 49 16777215) (si_and si_U si_U) (fun _ _ _ h => h) rfl rfl rfl rfl (fun _ _ _ _ _ => (rn_move rfl (T.ev 0 rfl))) ?_; clear T ac; intro ac T
  refine g_q (T := T) (i := 24) rfl (by kernel_rfl) (by kernel_rfl : (pbits 49 16777215).setIfInBounds 24 true = pbits 49 33554431) (si_and si_U si_U) (fun _ _ _ h => h) (wanted_yes rfl rfl (T.ev 0 rfl) rfl) rfl rfl rfl (fun B w' hD hl hS => (rn_rowO (Mem.nth (show Mem w noEx w' _ from (MA.lft hS)) 0 rfl) rfl (T.ev 32 rfl) rfl)) ?_; clear T ac; intro ac T
  refine g_w (i := 25) (by kernel_rfl) rfl (by kernel_rfl : (pbits 49 33554431).setIfInBounds 25 true = pbits 49 67108863) (wanted_yes rfl rfl (T.ev 1 rfl) rfl) ?_; intro K hK
  refine ow_call (first := []) (cap := []) T rfl rfl rfl rfl evf (.cons evc (.cons evc .nil)) Try.func31 rfl rfl ?_
  refine Calls.mono (to_any (-12) (-6) _) ?_
  clear T
  rintro e wc ⟨rfl, hb⟩
  intro ac T
  replace M := M.call hb; clear hb
  refine sh_out hK _ _ (MA.mk (M.mask [true, true] rfl) (M.mask [true, true] rfl)) ?_; clear hK K
  refine g_w (i := 26) (by kernel_rfl) rfl (by kernel_rfl : (pbits 49 67108863).setIfInBounds 26 true = pbits 49 134217727) (wanted_yes rfl rfl (T.ev 2 rfl) rfl) ?_; intro K hK
  refine ow_call (first := []) (cap := []) T rfl rfl rfl rfl evf (.cons evc (.cons evc .nil)) Try.func31 rfl rfl ?_
  refine Calls.mono (to_any 28 31 _) ?_
  clear T
  rintro e wc ⟨rfl, hb⟩
  intro ac T
  replace M := M.call hb; clear hb
  refine sh_out hK _ _ (MA.mk (M.mask [true, true] rfl) (M.mask [true, true] rfl)) ?_; clear hK K
  refine g_w (i := 27) (by kernel_rfl) rfl (by kernel_rfl : (pbits 49 134217727).setIfInBounds 27 true = pbits 49 268435455) (wanted_yes rfl rfl (T.ev 3 rfl) rfl) ?_; intro K hK
  refine ow_call (first := []) (cap := []) T rfl rfl rfl rfl evf (.cons evc (.cons evc .nil)) Try.func31 rfl rfl ?_
  refine Calls.mono (to_any 39 40 _) ?_
  clear T
  rintro e wc ⟨rfl, hb⟩
  intro ac T
  replace M := M.call hb; clear hb
  refine sh_out hK _ _ (MA.mk (M.mask [true, true] rfl) (M.mask [true, true] rfl)) ?_; clear hK K
  refine g_q (v := (.agg #[.int .i64 (-12), .int .i64 (-6), .int .i64 28, .int .i64 31, .int .i64 39, .int .i64 40])) (T := T) (i := 28) rfl (by kernel_rfl) (by kernel_rfl : (pbits 49 268435455).setIfInBounds 28 true = pbits 49 536870911) (si_and si_U si_U) (fun _ _ _ h => h) (wanted_yes rfl rfl (T.ev 4 rfl) rfl) rfl rfl rfl (fun _ _ _ _ _ => (rn_build rfl (.cons (T.ev 2 rfl) (.cons (T.ev 1 rfl) (.cons (T.ev 0 rfl) .nil))) (fun _ => by kernel_rfl))) ?_; clear T ac; intro ac T
  refine g_q (v := (.bool true)) (T := T) (i := 29) rfl (by kernel_rfl) (by kernel_rfl : (pbits 49 536870911).setIfInBounds 29 true = pbits 49 1073741823) (si_and si_U si_U) (fun _ _ _ h => h) (wanted_yes rfl rfl (T.ev 5 rfl) rfl) rfl rfl rfl (fun _ _ _ _ _ => (rn_neqof (rn_bin rfl (T.ev 4 rfl) (T.ev 0 rfl) eqT25) (by simp))) ?_; clear T ac; intro ac T
  refine g_q (T := T) (i := 30) rfl (by kernel_rfl) (by kernel_rfl : (pbits 49 1073741823).setIfInBounds 30 true = pbits 49 2147483647) (si_and si_U si_U) (fun _ _ _ h => h) rfl rfl rfl rfl (fun _ _ _ _ _ => (rn_pick1 rfl (T.ev 6 rfl) rfl (T.ev 0 rfl))) ?_; clear T ac; intro ac T
  refine g_q (T := T) (i := 31) rfl (by kernel_rfl) (by kernel_rfl : (pbits 49 2147483647).setIfInBounds 31 true = pbits 49 4294967295) (si_and si_U si_U) (fun _ _ _ h => h) rfl rfl rfl rfl (fun _ _ _ _ _ => (rn_move rfl (T.ev 0 rfl))) ?_; clear T ac; intro ac T
  refine g_q (T := T) (i := 32) rfl (by kernel_rfl) (by kernel_rfl : (pbits 49 4294967295).setIfInBounds 32 true = pbits 49 8589934591) (si_and si_U si_U) (fun _ _ _ h => h) (wanted_yes rfl rfl (T.ev 0 rfl) rfl) rfl rfl rfl (fun _ _ _ _ _ => (rn_move rfl (T.ev 36 rfl))) ?_; clear T ac; intro ac T
  refine g_q (v := (.bool true)) (T := T) (i := 33) rfl (by kernel_rfl) (by kernel_rfl : (pbits 49 8589934591).setIfInBounds 33 true = pbits 49 17179869183) (si_and si_U si_U) (fun _ _ _ h => h) (wanted_yes rfl rfl (T.ev 1 rfl) rfl) rfl rfl rfl (fun _ _ _ _ _ => (rn_neqof (rn_eql rfl (T.ev 0 rfl) evc) (by simp))) ?_; clear T ac; intro ac T
  refine g_q (T := T) (i := 34) rfl (by kernel_rfl) (by kernel_rfl : (pbits 49 17179869183).setIfInBounds 34 true = pbits 49 34359738367) (si_and si_U si_U) (fun _ _ _ h => h) rfl rfl rfl rfl (fun _ _ _ _ _ => (rn_pick1 rfl (T.ev 2 rfl) rfl (T.ev 0 rfl))) ?_; clear T ac; intro ac T
  refine g_q (T := T) (i := 35) rfl (by kernel_rfl) (by kernel_rfl : (pbits 49 34359738367).setIfInBounds 35 true = pbits 49 68719476735) (si_and si_U si_U) (fun _ _ _ h => h) rfl rfl rfl rfl (fun _ _ _ _ _ => (rn_move rfl (T.ev 0 rfl))) ?_; clear T ac; intro ac T
  refine g_q (T := T) (i := 36) rfl (by kernel_rfl) (by kernel_rfl : (pbits 49 68719476735).setIfInBounds 36 true = pbits 49 137438953471) (si_and si_U si_U) (fun _ _ _ h => h) (wanted_yes rfl rfl (T.ev 0 rfl) rfl) rfl rfl rfl (fun _ _ _ _ _ => (rn_move rfl (T.ev 38 rfl))) ?_; clear T ac; intro ac T
  refine g_q (v := (.bool true)) (T := T) (i := 37) rfl (by kernel_rfl) (by kernel_rfl : (pbits 49 137438953471).setIfInBounds 37 true = pbits 49 274877906943) (si_and si_U si_U) (fun _ _ _ h => h) (wanted_yes rfl rfl (T.ev 1 rfl) rfl) rfl rfl rfl (fun _ _ _ _ _ => (rn_neqof (rn_eql rfl (T.ev 0 rfl) evc) (by simp))) ?_; clear T ac; intro ac T
  refine g_q (T := T) (i := 38) rfl (by kernel_rfl) (by kernel_rfl : (pbits 49 274877906943).setIfInBounds 38 true = pbits 49 549755813887) (si_and si_U si_U) (fun _ _ _ h => h) rfl rfl rfl rfl (fun _ _ _ _ _ => (rn_pick1 rfl (T.ev 2 rfl) rfl (T.ev 0 rfl))) ?_; clear T ac; intro ac T
  refine g_q (T := T) (i := 39) rfl (by kernel_rfl) (by kernel_rfl : (pbits 49 549755813887).setIfInBounds 39 true = pbits 49 1099511627775) (si_and si_U si_U) (fun _ _ _ h => h) rfl rfl rfl rfl (fun _ _ _ _ _ => (rn_move rfl (T.ev 0 rfl))) ?_; clear T ac; intro ac T
  refine g_q (T := T) (i := 40) rfl (by kernel_rfl) (by kernel_rfl : (pbits 49 1099511627775).setIfInBounds 40 true = pbits 49 2199023255551) (si_and si_U si_U) (fun _ _ _ h => h) (wanted_yes rfl rfl (T.ev 0 rfl) rfl) rfl rfl rfl (fun _ _ _ _ _ => (rn_move rfl (T.ev 41 rfl))) ?_; clear T ac; intro ac T
  refine g_q (v := (.bool true)) (T := T) (i := 41) rfl (by kernel_rfl) (by kernel_rfl : (pbits 49 2199023255551).setIfInBounds 41 true = pbits 49 4398046511103) (si_and si_U si_U) (fun _ _ _ h => h) (wanted_yes rfl rfl (T.ev 1 rfl) rfl) rfl rfl rfl (fun _ _ _ _ _ => (rn_neqof (rn_eql rfl (T.ev 0 rfl) evc) (by simp))) ?_; clear T ac; intro ac T
  refine g_q (T := T) (i := 42) rfl (by kernel_rfl) (by kernel_rfl : (pbits 49 4398046511103).setIfInBounds 42 true = pbits 49 8796093022207) (si_and si_U si_U) (fun _ _ _ h => h) rfl rfl rfl rfl (fun _ _ _ _ _ => (rn_pick1 rfl (T.ev 2 rfl) rfl (T.ev 0 rfl))) ?_; clear T ac; intro ac T
  refine g_q (T := T) (i := 43) rfl (by kernel_rfl) (by kernel_rfl : (pbits 49 8796093022207).setIfInBounds 43 true = pbits 49 17592186044415) (si_and si_U si_U) (fun _ _ _ h => h) rfl rfl rfl rfl (fun _ _ _ _ _ => (rn_move rfl (T.ev 0 rfl))) ?_; clear T ac; intro ac T
  refine g_q (T := T) (i := 44) rfl (by kernel_rfl) (by kernel_rfl : (pbits 49 17592186044415).setIfInBounds 44 true = pbits 49 35184372088831) (si_and si_U si_U) (fun _ _ _ h => h) (wanted_yes rfl rfl (T.ev 0 rfl) rfl) rfl rfl rfl (fun _ _ _ _ _ => (rn_move rfl (T.ev 50 rfl))) ?_; clear T ac; intro ac T
  refine g_w (i := 45) (by kernel_rfl) rfl (by kernel_rfl : (pbits 49 35184372088831).setIfInBounds 45 true = pbits 49 70368744177663) (wanted_yes rfl rfl (T.ev 1 rfl) rfl) ?_; intro K hK
  refine ow_bs (e := 3) [.int .i64 1, .int .i64 1] M T rfl rfl rfl rfl (.cons evc (.cons evc .nil)) (fun _ => by kernel_rfl) ?_; clear M T; intro g4 wc ac M T
  refine sh_out hK _ _ (MA.mk (M.mask [false, true, true] rfl) (M.mask [false, true, true] rfl)) ?_; clear hK K
  refine g_w (i := 46) (by kernel_rfl) rfl (by kernel_rfl : (pbits 49 70368744177663).setIfInBounds 46 true = pbits 49 140737488355327) (wanted_yes rfl rfl (T.ev 2 rfl) rfl) ?_; intro K hK
  refine ow_call (first := []) (cap := []) T rfl rfl rfl rfl evf (.cons (T.ev 1 rfl) (.cons (T.ev 0 rfl) .nil)) Try.func21 rfl rfl ?_
  refine Calls.mono (sameInts_same _ _ _ _ _ _ ([1, 1]) _ (Su6.rd M (.cons _ (.cons _ (.cons _ (List.Sublist.refl _))))) (M.rdOwn (nthE_mem (i := 0) rfl) rfl rfl) (by first | omega | decide | (simp; omega)) (by first | omega | decide | (simp; omega))) ?_
  clear T
  rintro e wc ⟨rfl, hb⟩
  intro ac T
  replace M := M.call hb; clear hb
  refine sh_out hK _ _ (MA.mk (M.mask [false, true, true] rfl) (M.mask [false, true, true] rfl)) ?_; clear hK K
  refine g_q (T := T) (i := 47) rfl (by kernel_rfl) (by kernel_rfl : (pbits 49 140737488355327).setIfInBounds 47 true = pbits 49 281474976710655) (si_and si_U si_U) (fun _ _ _ h => h) rfl rfl rfl rfl (fun _ _ _ _ _ => (rn_pick1 rfl (T.ev 3 rfl) rfl (T.ev 0 rfl))) ?_; clear T ac; intro ac T
  refine g_q (T := T) (i := 48) rfl (by kernel_rfl) (by kernel_rfl : (pbits 49 281474976710655).setIfInBounds 48 true = pbits 49 562949953421311) (si_and si_U si_U) (fun _ _ _ h => h) rfl rfl rfl rfl (fun _ _ _ _ _ => (rn_assign rfl (T.ev 0 rfl))) ?_; clear T ac; intro ac T
  refine g_done (by kernel_rfl) ?_
  replace T := T.pick [0] rfl
  replace M := M.mask [false, false, false] rfl
  refine nm_then ?_
  refine wp_ret ?_
  refine rt_1 T rfl (T.ev 0 rfl) ?_
  exact ⟨rfl, M.below⟩

end Go.Proofs.Ythlpceoajhcliaa
end

section
/-
  What the laws' walks use.
-/
namespace Go.Proofs.Ythlpceoajhcliaa
set_option linter.unusedSimpArgs false
set_option linter.unusedVariables false
open Go.RowKit

/-- A job whose ranges are single numbers. -/
def Jb.one (j : Jb) : Jb := { j with p1 := j.p0, u1 := j.u0, d1 := j.d0, a1 := j.a0, b1 := j.b0, le := min (min j.le j.t0) j.r0 }
theorem Mem.joinW {w0 w w' : World} {ex : Nat → Prop} {L L' I : List (Nat × BA)} {g : Nat} {p p' : BA} (M : Mem w0 ex w L) (hu : Upd L g p p' L') (N : Mem w (fun b => b = g) w' (I ++ [(g, p')])) : Mem w0 ex w' (I ++ L') := by
  have hg := M.blk _ hu.mem
  have hgl := BA.lt hg.2
  have hnd := N.nd
  rw [List.map_append] at hnd
  obtain ⟨n1, n2, n3⟩ := List.nodup_append.1 hnd
  have hI : ∀ q ∈ I, w.heap.size ≤ q.1 := fun q hq => by
    rcases (N.blk q (List.mem_append_left _ hq)).1 with h | h
    · exact h
    · exact absurd h (n3 q.1 (List.mem_map.2 ⟨q, hq, rfl⟩) g (by simp))
  refine ⟨N.os.trans M.os, N.tape.trans M.tape, N.output.trans M.output, Nat.le_trans M.size N.size, fun b hb hx => ?_, fun q hq => ?_, ?_⟩
  · refine (N.block b (Nat.lt_of_lt_of_le hb M.size) fun e => ?_).trans (M.block b hb hx)
    have e : b = g := e
    subst e
    rcases hg.1 with h | h
    · have h : w0.heap.size ≤ b := h
      omega
    · exact hx h
  · rcases List.mem_append.1 hq with hq | hq
    · exact ⟨.inl (Nat.le_trans M.size (hI q hq)), (N.blk q (List.mem_append_left _ hq)).2⟩
    · rcases hu.all M.nd q hq with rfl | ⟨h1, h2⟩
      · exact ⟨hg.1, (N.blk _ (List.mem_append_right _ List.mem_cons_self)).2⟩
      · have h3 := M.blk q h1
        exact ⟨h3.1, BA.same h3.2 N.size (N.block _ (BA.lt h3.2) h2)⟩
  · rw [List.map_append, hu.keys]
    refine List.nodup_append.2 ⟨n1, M.nd, fun a ha b hb e => ?_⟩
    obtain ⟨q, hq, rfl⟩ := List.mem_map.1 ha
    obtain ⟨r, hr, rfl⟩ := List.mem_map.1 hb
    have h1 := hI q hq
    have h2 := BA.lt (M.blk r hr).2
    omega


end Go.Proofs.Ythlpceoajhcliaa
end

section
/-
  ref1: the tuner at work.
-/
namespace Go.Proofs.Ythlpceoajhcliaa
set_option linter.unusedSimpArgs false
set_option linter.unusedVariables false
open Go.RowKit

theorem thin_file (j : Jb) (p0 p1 t r : Int) : FileOf (thinJ j p0 p1 t r) j := ⟨rfl, rfl, rfl, rfl, rfl, rfl, rfl, rfl, rfl⟩
theorem thin_tip (j : Jb) (p0 p1 t r : Int) : (thinJ j p0 p1 t r).filed 1 = thinJ j (p0 + j.u0) (p1 + j.u1) (t + 1) r := by
  unfold St.filed
  rw [if_pos rfl]
  simp only [St.tip, thinJ, mul_suc, St.mk.injEq, and_true, true_and]
  omega
theorem thin_root (j : Jb) (p0 p1 t r : Int) : (thinJ j p0 p1 t r).filed 2 = thinJ j (p0 - j.d1) (p1 - j.d0) t (r + 1) := by
  unfold St.filed
  rw [if_neg (by decide)]
  simp only [St.root, thinJ, mul_suc, St.mk.injEq, and_true, true_and]
  omega
theorem thin_zero (j : Jb) : thinJ j j.p0 j.p1 0 0 = j.st := by simp [thinJ, Jb.st]
theorem thin_up {j : Jb} (h : j.good) {n : Nat} {p0 p1 t r : Int} (b : Bnd n p0 p1 t r) : (thinJ j p0 p1 t r).upTo 1000000 := by
  obtain ⟨g1, g2, g3, g4, g5, g6, g7, g8, -, -, -, -⟩ := h
  obtain ⟨b0, b1, b2, b3, b4⟩ := b
  have m1 := mul_bd (i := t) (a := j.a0) (by omega) (by omega) (by omega) (by omega)
  have m2 := mul_bd (i := t) (a := j.a1) (by omega) (by omega) (by omega) (by omega)
  have m3 := mul_bd (i := r) (a := j.b0) (by omega) (by omega) (by omega) (by omega)
  have m4 := mul_bd (i := r) (a := j.b1) (by omega) (by omega) (by omega) (by omega)
  constructor <;> dsimp only [thinJ] <;> omega
theorem Calls.cast {P : Program} {f : FuncId} {args args' : Array Value} {w : World} {R : Ending → World → Prop} (ha : args = args') (h : Calls P f args w R) : Calls P f args' w R := ha ▸ h
def allR (f : Nat → Bool) : Nat → Nat → Bool
  | 0, _ => true
  | m + 1, k => f k && allR f m (k + 1)
theorem allR_range (f : Nat → Bool) : ∀ (m k : Nat), (List.range' k m).all f = allR f m k
  | 0, _ => rfl
  | m + 1, k => by rw [List.range'_succ, List.all_cons, allR_range f m (k + 1)]; rfl
theorem reads_all (j : Jb) (s0 s1 : Int) (n : Nat) (p0 p1 t r : Int) : readsP j s0 s1 n p0 p1 t r = allR (fun k => stopsP j s0 s1 n (rdg p0 p1 j.me k).1 (rdg p0 p1 j.me k).2 t r) (rdN p0 p1 j.me) 0 := by
  unfold readsP rdgs
  rw [List.all_map, List.range_eq_range', allR_range]
  rfl
theorem heard_rdg (p0 p1 m R : Int) (k : Nat) (h : R = p0 - m + (k : Int)) : rheard p0 p1 R m = rdg p0 p1 m k := by
  subst h
  unfold rheard rdg mstep
  refine Prod.ext ?_ ?_
  · dsimp only; split <;> omega
  · dsimp only; split <;> omega
theorem bnd_heard {j : Jb} (h : j.good) {n : Nat} {p0 p1 t r : Int} {k : Nat} (b : Bnd n p0 p1 t r) (hk : k < rdN p0 p1 j.me) : Bnd n (rdg p0 p1 j.me k).1 (rdg p0 p1 j.me k).2 t r := by
  have := rdg_bd hk b.p0 b.p1 h.me.1
  exact ⟨b.lv, this.1, this.2, b.t, b.r⟩


def KnC (j : Jb) (A : Option Addr) (c : Nat) (n : Nat) : Prop := ∀ (p0 p1 t r : Int) (w : World), Bnd n p0 p1 t r → Rd w w.heap.size 2 A j.sh.length (rc j.sh) →
  Calls Try.prog 114 #[jobV j A c, .agg #[.int .i64 ((thinJ j p0 p1 t r).p0), .int .i64 ((thinJ j p0 p1 t r).p1), .int .i64 ((thinJ j p0 p1 t r).t0), .int .i64 ((thinJ j p0 p1 t r).t1), .int .i64 ((thinJ j p0 p1 t r).r0), .int .i64 ((thinJ j p0 p1 t r).r1)], .int .i64 n] w fun e w' => e = .returned (.bool (stopsP j (winS j).1 (winS j).2 n p0 p1 t r)) ∧ Below w.heap.size w w'

def RdC (j : Jb) (A : Option Addr) (c : Nat) (n : Nat) : Prop := ∀ (p0 p1 t r : Int) (w : World), Bnd n p0 p1 t r → Rd w w.heap.size 2 A j.sh.length (rc j.sh) →
  Calls Try.prog 108 #[jobV j A c, .agg #[.int .i64 ((thinJ j p0 p1 t r).p0), .int .i64 ((thinJ j p0 p1 t r).p1), .int .i64 ((thinJ j p0 p1 t r).t0), .int .i64 ((thinJ j p0 p1 t r).t1), .int .i64 ((thinJ j p0 p1 t r).r0), .int .i64 ((thinJ j p0 p1 t r).r1)], .int .i64 n] w fun e w' => e = .returned (.bool (readsP j (winS j).1 (winS j).2 n p0 p1 t r)) ∧ Below w.heap.size w w'

set_option maxRecDepth 100000 in
set_option maxHeartbeats 1000000 in
theorem reads_of (j : Jb) (A : Option Addr) (c n : Nat) (p0 p1 t r : Int) (w : World) (hj : j.good) (hbn : Bnd n p0 p1 t r) (hr : Rd w w.heap.size 2 A j.sh.length (rc j.sh)) (hk : KnC j A c n) :
    Calls Try.prog 108 #[jobV j A c, .agg #[.int .i64 ((thinJ j p0 p1 t r).p0), .int .i64 ((thinJ j p0 p1 t r).p1), .int .i64 ((thinJ j p0 p1 t r).t0), .int .i64 ((thinJ j p0 p1 t r).t1), .int .i64 ((thinJ j p0 p1 t r).r0), .int .i64 ((thinJ j p0 p1 t r).r1)], .int .i64 n] w fun e w' => e = .returned (.bool (readsP j (winS j).1 (winS j).2 n p0 p1 t r)) ∧ Below w.heap.size w w' := by
  obtain ⟨bJ, oJ, SJ⟩ := Sp.old hr
  have hp := hj.p
  have hme := hj.me
  have hup := thin_up hj hbn
  have hp0 := hbn.p0
  have hp1 := hbn.p1
  have e0 : (thinJ j p0 p1 t r).p0 = p0 := rfl
  have e1 : (thinJ j p0 p1 t r).p1 = p1 := rfl
  have hN : rdN p0 p1 j.me = (p1 + j.me - (p0 - j.me) + 1).toNat := rfl
  refine px_enter noEx Try.func108 rfl 38 rfl [.agg #[.int .i64 j.p0, .int .i64 j.p1, .int .i64 j.t0, .int .i64 j.t1, .int .i64 j.r0, .int .i64 j.r1, .int .i64 j.u0, .int .i64 j.u1, .int .i64 j.d0, .int .i64 j.d1, .int .i64 j.a0, .int .i64 j.a1, .int .i64 j.b0, .int .i64 j.b1, .int .i64 j.le, .slice A j.sh.length c, .int .i64 j.wi, .int .i64 j.me], .agg #[.int .i64 ((thinJ j p0 p1 t r).p0), .int .i64 ((thinJ j p0 p1 t r).p1), .int .i64 ((thinJ j p0 p1 t r).t0), .int .i64 ((thinJ j p0 p1 t r).t1), .int .i64 ((thinJ j p0 p1 t r).r0), .int .i64 ((thinJ j p0 p1 t r).r1)], .int .i64 (n : Int)] rfl rfl (Mem.init w _) ?_
  intro ac wc T M
  refine wp_seq ?_
  refine wp_region_lit ?_
  refine l_w rfl ?_; intro K hK
  refine ow_bx M T rfl rfl rfl rfl (T.ev 0 rfl) rfl ?_; clear M T; intro g1 wc ac M T
  refine sh_out hK _ _ ?_; clear hK K
  refine l_w rfl ?_; intro K hK
  refine ow_bx M T rfl rfl rfl rfl (T.ev 2 rfl) rfl ?_; clear M T; intro g2 wc ac M T
  refine sh_out hK _ _ ?_; clear hK K
  refine l_q T rfl rfl rfl rfl (rn_assign rfl evc) ?_; clear T ac; intro ac T
  refine wpList_nil ?_
  replace T := T.pick [1, 2, 5] rfl
  refine nm_then ?_
  refine wp_seq ?_
  refine wp_seq ?_
  refine wp_region_lit ?_
  refine l_q (v := (.pointer (some ⟨g2, 0, none⟩))) T rfl rfl rfl rfl (rn_fieldAddr (off := 0) rfl (T.ev 0 rfl) (fun _ _ _ => by kernel_rfl)) ?_; clear T ac; intro ac T
  refine l_q (v := (.pointer (some ⟨g2, 0, none⟩))) T rfl rfl rfl rfl (rn_fieldAddr (off := 0) rfl (T.ev 0 rfl) (fun _ _ _ => by kernel_rfl)) ?_; clear T ac; intro ac T
  refine l_q T rfl rfl rfl rfl (rn_one (Mem.nth M 0 rfl) rfl (T.ev 0 rfl) rfl) ?_; clear T ac; intro ac T
  refine l_q (v := (.pointer (some ⟨g1, 17, none⟩))) T rfl rfl rfl rfl (rn_fieldAddr (off := 17) rfl (T.ev 4 rfl) (fun _ _ _ => by kernel_rfl)) ?_; clear T ac; intro ac T
  refine l_q T rfl rfl rfl rfl (rn_one (Mem.nth M 1 rfl) rfl (T.ev 0 rfl) rfl) ?_; clear T ac; intro ac T
  refine l_q T rfl rfl rfl rfl (rn_sub rfl (T.ev 2 rfl) (T.ev 0 rfl) (by omega)) ?_; clear T ac; intro ac T
  refine l_q T rfl rfl rfl rfl (rn_assign rfl (T.ev 0 rfl)) ?_; clear T ac; intro ac T
  refine wpList_nil ?_
  replace T := T.pick [0, 7, 8, 9] rfl
  refine nm_then ?_
  refine wp_block ?_
  refine wp_loop_n (fun mz ac wc => ∃ (k q : Nat) (R : Int), mz = q ∧ (R = p0 - j.me + (k : Int)) ∧ (q = rdN p0 p1 j.me - k) ∧ (k ≤ rdN p0 p1 j.me) ∧ ((readsP j (winS j).1 (winS j).2 n p0 p1 t r) = allR (fun k => stopsP j (winS j).1 (winS j).2 n (rdg p0 p1 j.me k).1 (rdg p0 p1 j.me k).2 t r) q k) ∧ Tm ac 38 [(2, .int .i64 (n : Int)), (3, .pointer (some ⟨g1, 0, none⟩)), (4, .pointer (some ⟨g2, 0, none⟩)), (7, .int .i64 R)] ∧ Mem w noEx wc [(g2, .cells [.int .i64 ((thinJ j p0 p1 t r).p0), .int .i64 ((thinJ j p0 p1 t r).p1), .int .i64 ((thinJ j p0 p1 t r).t0), .int .i64 ((thinJ j p0 p1 t r).t1), .int .i64 ((thinJ j p0 p1 t r).r0), .int .i64 ((thinJ j p0 p1 t r).r1)]), (g1, .cells (jobL j A c))]) ?_ ?_
  · exact ⟨_, 0, _, _, rfl, (by omega), rfl, (by omega), (reads_all _ _ _ _ _ _ _ _), T.pick [3, 2, 1, 0] rfl, M.mask [true, true] rfl⟩
  · clear T M
    rintro mz ac wc ⟨k, q, R, hmm1, hR, hq, hkN, H, T, M⟩
    refine wp_seq ?_
    refine wp_seq ?_
    refine wp_region_lit ?_
    refine l_q T rfl rfl rfl rfl (rn_move rfl (T.ev 3 rfl)) ?_; clear T ac; intro ac T
    refine l_q (v := (.pointer (some ⟨g2, 0, none⟩))) T rfl rfl rfl rfl (rn_fieldAddr (off := 0) rfl (T.ev 3 rfl) (fun _ _ _ => by kernel_rfl)) ?_; clear T ac; intro ac T
    refine l_q (v := (.pointer (some ⟨g2, 1, none⟩))) T rfl rfl rfl rfl (rn_fieldAddr (off := 1) rfl (T.ev 0 rfl) (fun _ _ _ => by kernel_rfl)) ?_; clear T ac; intro ac T
    refine l_q T rfl rfl rfl rfl (rn_one (Mem.nth M 0 rfl) rfl (T.ev 0 rfl) rfl) ?_; clear T ac; intro ac T
    refine l_q (v := (.pointer (some ⟨g1, 17, none⟩))) T rfl rfl rfl rfl (rn_fieldAddr (off := 17) rfl (T.ev 5 rfl) (fun _ _ _ => by kernel_rfl)) ?_; clear T ac; intro ac T
    refine l_q T rfl rfl rfl rfl (rn_one (Mem.nth M 1 rfl) rfl (T.ev 0 rfl) rfl) ?_; clear T ac; intro ac T
    refine l_q T rfl rfl rfl rfl (rn_add rfl (T.ev 2 rfl) (T.ev 0 rfl) (by omega)) ?_; clear T ac; intro ac T
    refine l_q T rfl rfl rfl rfl (rn_leq rfl (T.ev 6 rfl) (T.ev 0 rfl)) ?_; clear T ac; intro ac T
    refine wpList_nil ?_
    replace T := T.pick [0, 8, 9, 10, 11] rfl
    refine nm_then ?_
    refine wp_if (T.ev 0 rfl) ?_ ?_
    · intro h1
      rw [show q = (q - 1) + 1 by omega, allR] at H
      refine wp_skip ?_
      refine nm_then ?_
      refine wp_seq ?_
      refine wp_block ?_
      refine wp_seq ?_
      refine wp_region_lit ?_
      refine l_q T rfl rfl rfl rfl (rn_rowO (Mem.nth M 0 rfl) rfl (T.ev 3 rfl) rfl) ?_; clear T ac; intro ac T
      refine l_w rfl ?_; intro K hK
      refine ow_al M T rfl rfl rfl rfl ?_; clear M T; intro g3 wc ac M T
      refine sh_out hK _ _ ?_; clear hK K
      refine l_w rfl ?_; intro K hK
      refine ow_stO M T rfl rfl (T.ev 0 rfl) (T.ev 1 rfl) rfl .head rfl (by simp) rfl (by kernel_rfl) ?_; clear M T; intro wc ac M T
      refine sh_out hK _ _ ?_; clear hK K
      refine wpList_nil ?_
      replace T := T.pick [0, 3, 4, 5, 6] rfl
      refine nm_then ?_
      refine wp_seq ?_
      refine wp_region_lit ?_
      refine l_q (v := (.pointer (some ⟨g2, 0, none⟩))) T rfl rfl rfl rfl (rn_fieldAddr (off := 0) rfl (T.ev 3 rfl) (fun _ _ _ => by kernel_rfl)) ?_; clear T ac; intro ac T
      refine l_q T rfl rfl rfl rfl (rn_rowO (Mem.nth M 1 rfl) rfl (T.ev 0 rfl) rfl) ?_; clear T ac; intro ac T
      refine l_q T rfl rfl rfl rfl (rn_move rfl (T.ev 6 rfl)) ?_; clear T ac; intro ac T
      refine l_q (v := (.pointer (some ⟨g1, 17, none⟩))) T rfl rfl rfl rfl (rn_fieldAddr (off := 17) rfl (T.ev 5 rfl) (fun _ _ _ => by kernel_rfl)) ?_; clear T ac; intro ac T
      refine l_q T rfl rfl rfl rfl (rn_one (Mem.nth M 2 rfl) rfl (T.ev 0 rfl) rfl) ?_; clear T ac; intro ac T
      refine l_w rfl ?_; intro K hK
      refine ow_call (first := []) (cap := []) T rfl rfl rfl rfl evf (.cons (T.ev 3 rfl) (.cons (T.ev 2 rfl) (.cons (T.ev 0 rfl) .nil))) Try.func91 rfl rfl ?_
      refine Calls.mono (heard_any ((thinJ j p0 p1 t r).p0) ((thinJ j p0 p1 t r).p1) R j.me _ (by omega) (by omega)) ?_
      clear T
      rintro e wc ⟨rfl, hb⟩
      intro ac T
      replace M := M.call hb; clear hb
      refine sh_out hK _ _ ?_; clear hK K
      refine l_q (v := (.pointer (some ⟨g3, 0, none⟩))) T rfl rfl rfl rfl (rn_fieldAddr (off := 0) rfl (T.ev 6 rfl) (fun _ _ _ => by kernel_rfl)) ?_; clear T ac; intro ac T
      refine l_w rfl ?_; intro K hK
      refine ow_stO M T rfl rfl (T.ev 0 rfl) (T.ev 1 rfl) rfl .head rfl (by simp) rfl (by kernel_rfl) ?_; clear M T; intro wc ac M T
      refine sh_out hK _ _ ?_; clear hK K
      refine wpList_nil ?_
      replace T := T.pick [7, 8, 9, 10, 11] rfl
      refine nm_then ?_
      refine wp_seq ?_
      refine wp_region_lit ?_
      refine l_q T rfl rfl rfl rfl (rn_rowO (Mem.nth M 2 rfl) rfl (T.ev 2 rfl) rfl) ?_; clear T ac; intro ac T
      refine l_q T rfl rfl rfl rfl (rn_rowO (Mem.nth M 0 rfl) rfl (T.ev 1 rfl) rfl) ?_; clear T ac; intro ac T
      refine l_q T rfl rfl rfl rfl (rn_move rfl (T.ev 3 rfl)) ?_; clear T ac; intro ac T
      refine l_w rfl ?_; intro K hK
      refine ow_call (first := []) (cap := []) T rfl rfl rfl rfl evf (.cons (T.ev 2 rfl) (.cons (T.ev 1 rfl) (.cons (T.ev 0 rfl) .nil))) Try.func114 rfl rfl ?_
      refine Calls.mono (Calls.cast (by have e9 : rheard (thinJ j p0 p1 t r).p0 (thinJ j p0 p1 t r).p1 R j.me = rdg p0 p1 j.me k := heard_rdg p0 p1 j.me R k hR; rw [e9]; rfl) (hk (rdg p0 p1 j.me k).1 (rdg p0 p1 j.me k).2 t r _ (bnd_heard hj hbn (by omega)) (SJ.rd M (List.nil_sublist _)))) ?_
      clear T
      rintro e wc ⟨rfl, hb⟩
      intro ac T
      replace M := M.call hb; clear hb
      refine sh_out hK _ _ ?_; clear hK K
      refine l_q T rfl rfl rfl rfl (rn_not rfl (T.ev 0 rfl)) ?_; clear T ac; intro ac T
      refine wpList_nil ?_
      replace T := T.pick [0, 6, 7, 8, 9] rfl
      replace M := M.mask [false, true, true] rfl
      refine nm_then ?_
      refine wp_cond_split (T.ev 0 rfl) ?_ ?_
      · intro h2
        (try have h2' := h2; try simp only [Bool.and_eq_true, Bool.or_eq_true, Bool.not_eq_true', Bool.and_eq_false_imp, Bool.or_eq_false_iff, decide_eq_true_eq, decide_eq_false_iff_not] at h2')
        refine wp_seq ?_
        refine wp_region_lit ?_
        refine l_q T rfl rfl rfl rfl (rn_assign rfl evc) ?_; clear T ac; intro ac T
        refine wpList_nil ?_
        replace T := T.pick [0] rfl
        replace M := M.mask [false, false] rfl
        refine nm_then ?_
        refine wp_ret ?_
        refine rt_blk ?_
        refine rt_then ?_
        refine rt_then ?_
        refine rt_blk ?_
        refine rt_then ?_
        refine rt_1 T rfl (T.ev 0 rfl) ?_
        refine ⟨ret_bool ?_, M.below⟩
        have h8 : stopsP j (winS j).1 (winS j).2 n (rdg p0 p1 j.me k).1 (rdg p0 p1 j.me k).2 t r = false := by simpa using h2
        rw [H, h8, Bool.false_and]
      · intro h2
        (try have h2' := h2; try simp only [Bool.and_eq_true, Bool.or_eq_true, Bool.not_eq_true', Bool.and_eq_false_imp, Bool.or_eq_false_iff, decide_eq_true_eq, decide_eq_false_iff_not] at h2')
        refine wp_skip ?_
        refine nm_blk ?_
        refine nm_then ?_
        refine wp_region_lit ?_
        refine l_q T rfl rfl rfl rfl (rn_move rfl (T.ev 4 rfl)) ?_; clear T ac; intro ac T
        refine l_q T rfl rfl rfl rfl (rn_add rfl (T.ev 0 rfl) evc (by omega)) ?_; clear T ac; intro ac T
        refine l_q (v := (.int .i64 (R + 1))) (T.pick [0, 1, 2, 3, 4, 5] rfl) rfl rfl rfl rfl (rn_assign rfl (T.ev 0 rfl)) ?_; clear T ac; intro ac T
        refine wpList_nil ?_
        replace T := T.pick [0, 4, 5, 6] rfl
        refine nm_then ?_
        have h8 : stopsP j (winS j).1 (winS j).2 n (rdg p0 p1 j.me k).1 (rdg p0 p1 j.me k).2 t r = true := by simpa using h2
        rw [h8, Bool.true_and] at H
        exact ⟨_, by omega, (k + 1), (q - 1), _, rfl, (by omega), (by omega), (by omega), H, T.pick [1, 2, 3, 0] rfl, M.mask [true, true] rfl⟩
    · intro h1
      rw [show q = 0 by omega, allR] at H
      refine wp_exit ?_
      refine ex_then ?_
      refine ex_then ?_
      refine ex_hit ?_
      refine nm_then ?_
      refine wp_seq ?_
      refine wp_region_lit ?_
      refine l_q T rfl rfl rfl rfl (rn_assign rfl evc) ?_; clear T ac; intro ac T
      refine wpList_nil ?_
      replace T := T.pick [0] rfl
      replace M := M.mask [false, false] rfl
      refine nm_then ?_
      refine wp_ret ?_
      refine rt_1 T rfl (T.ev 0 rfl) ?_
      exact ⟨ret_bool H.symm, M.below⟩

theorem stroke_tip {j : Jb} {p0 p1 t r : Int} (hs : (thinJ j p0 p1 t r).upTo 1000000) (w : World) :
    Calls Try.prog 110 #[.agg #[.int .i64 j.u0, .int .i64 j.u1, .int .i64 j.d0, .int .i64 j.d1, .int .i64 j.a0, .int .i64 j.a1, .int .i64 j.b0, .int .i64 j.b1, .int .i64 j.le], .agg #[.int .i64 ((thinJ j p0 p1 t r).p0), .int .i64 ((thinJ j p0 p1 t r).p1), .int .i64 ((thinJ j p0 p1 t r).t0), .int .i64 ((thinJ j p0 p1 t r).t1), .int .i64 ((thinJ j p0 p1 t r).r0), .int .i64 ((thinJ j p0 p1 t r).r1)], .int .i64 1] w fun e w' => e = .returned (.agg #[.int .i64 ((thinJ j (p0 + j.u0) (p1 + j.u1) (t + 1) r).p0), .int .i64 ((thinJ j (p0 + j.u0) (p1 + j.u1) (t + 1) r).p1), .int .i64 ((thinJ j (p0 + j.u0) (p1 + j.u1) (t + 1) r).t0), .int .i64 ((thinJ j (p0 + j.u0) (p1 + j.u1) (t + 1) r).t1), .int .i64 ((thinJ j (p0 + j.u0) (p1 + j.u1) (t + 1) r).r0), .int .i64 ((thinJ j (p0 + j.u0) (p1 + j.u1) (t + 1) r).r1)]) ∧ Below w.heap.size w w' := by
  have h9 := stroke_of (thin_file j p0 p1 t r) 1 w hs
  rw [thin_tip] at h9
  exact h9

theorem stroke_root {j : Jb} {p0 p1 t r : Int} (hs : (thinJ j p0 p1 t r).upTo 1000000) (w : World) :
    Calls Try.prog 110 #[.agg #[.int .i64 j.u0, .int .i64 j.u1, .int .i64 j.d0, .int .i64 j.d1, .int .i64 j.a0, .int .i64 j.a1, .int .i64 j.b0, .int .i64 j.b1, .int .i64 j.le], .agg #[.int .i64 ((thinJ j p0 p1 t r).p0), .int .i64 ((thinJ j p0 p1 t r).p1), .int .i64 ((thinJ j p0 p1 t r).t0), .int .i64 ((thinJ j p0 p1 t r).t1), .int .i64 ((thinJ j p0 p1 t r).r0), .int .i64 ((thinJ j p0 p1 t r).r1)], .int .i64 2] w fun e w' => e = .returned (.agg #[.int .i64 ((thinJ j (p0 - j.d1) (p1 - j.d0) t (r + 1)).p0), .int .i64 ((thinJ j (p0 - j.d1) (p1 - j.d0) t (r + 1)).p1), .int .i64 ((thinJ j (p0 - j.d1) (p1 - j.d0) t (r + 1)).t0), .int .i64 ((thinJ j (p0 - j.d1) (p1 - j.d0) t (r + 1)).t1), .int .i64 ((thinJ j (p0 - j.d1) (p1 - j.d0) t (r + 1)).r0), .int .i64 ((thinJ j (p0 - j.d1) (p1 - j.d0) t (r + 1)).r1)]) ∧ Below w.heap.size w w' := by
  have h9 := stroke_of (thin_file j p0 p1 t r) 2 w hs
  rw [thin_root] at h9
  exact h9

set_option maxRecDepth 100000 in
set_option maxHeartbeats 1000000 in
theorem makes_1 (j : Jb) (A : Option Addr) (c n : Nat) (p0 p1 t r : Int) (w : World) (hj : j.good) (hbn : Bnd (n + 1) p0 p1 t r) (hr : Rd w w.heap.size 2 A j.sh.length (rc j.sh)) (hrd : RdC j A c n) :
    Calls Try.prog 81 #[jobV j A c, .agg #[.int .i64 ((thinJ j p0 p1 t r).p0), .int .i64 ((thinJ j p0 p1 t r).p1), .int .i64 ((thinJ j p0 p1 t r).t0), .int .i64 ((thinJ j p0 p1 t r).t1), .int .i64 ((thinJ j p0 p1 t r).r0), .int .i64 ((thinJ j p0 p1 t r).r1)], .int .i64 1, .int .i64 ((n + 1 : Nat) : Int)] w fun e w' => e = .returned (.bool ((okT j (t + 1) r) && (readsP j (winS j).1 (winS j).2 n (p0 + j.u0) (p1 + j.u1) (t + 1) r))) ∧ Below w.heap.size w w' := by
  obtain ⟨bJ, oJ, SJ⟩ := Sp.old hr
  have hp := hj.p
  have hme := hj.me
  have hup := thin_up hj hbn
  have hp0 := hbn.p0
  have hp1 := hbn.p1
  have e0 : (thinJ j p0 p1 t r).p0 = p0 := rfl
  have e1 : (thinJ j p0 p1 t r).p1 = p1 := rfl
  have hlv := hbn.lv
  refine px_enter noEx Try.func81 rfl 27 rfl [.agg #[.int .i64 j.p0, .int .i64 j.p1, .int .i64 j.t0, .int .i64 j.t1, .int .i64 j.r0, .int .i64 j.r1, .int .i64 j.u0, .int .i64 j.u1, .int .i64 j.d0, .int .i64 j.d1, .int .i64 j.a0, .int .i64 j.a1, .int .i64 j.b0, .int .i64 j.b1, .int .i64 j.le, .slice A j.sh.length c, .int .i64 j.wi, .int .i64 j.me], .agg #[.int .i64 ((thinJ j p0 p1 t r).p0), .int .i64 ((thinJ j p0 p1 t r).p1), .int .i64 ((thinJ j p0 p1 t r).t0), .int .i64 ((thinJ j p0 p1 t r).t1), .int .i64 ((thinJ j p0 p1 t r).r0), .int .i64 ((thinJ j p0 p1 t r).r1)], .int .i64 1, .int .i64 ((n + 1 : Nat) : Int)] rfl rfl (Mem.init w _) ?_
  intro ac wc T M
  refine wp_seq ?_
  refine wp_region_lit ?_
  refine l_w rfl ?_; intro K hK
  refine ow_bx M T rfl rfl rfl rfl (T.ev 0 rfl) rfl ?_; clear M T; intro g1 wc ac M T
  refine sh_out hK _ _ ?_; clear hK K
  refine l_w rfl ?_; intro K hK
  refine ow_bx M T rfl rfl rfl rfl (T.ev 2 rfl) rfl ?_; clear M T; intro g2 wc ac M T
  refine sh_out hK _ _ ?_; clear hK K
  refine l_q T rfl rfl rfl rfl (rn_assign rfl evc) ?_; clear T ac; intro ac T
  refine wpList_nil ?_
  replace T := T.pick [1, 2, 5, 6] rfl
  refine nm_then ?_
  refine wp_seq ?_
  refine wp_region_lit ?_
  refine l_q (v := (.pointer (some ⟨g1, 6, none⟩))) T rfl rfl rfl rfl (rn_fieldAddr (off := 6) rfl (T.ev 1 rfl) (fun _ _ _ => by kernel_rfl)) ?_; clear T ac; intro ac T
  refine l_q T rfl rfl rfl rfl (rn_rowO (Mem.nth M 1 rfl) rfl (T.ev 0 rfl) rfl) ?_; clear T ac; intro ac T
  refine l_q T rfl rfl rfl rfl (rn_rowO (Mem.nth M 0 rfl) rfl (T.ev 2 rfl) rfl) ?_; clear T ac; intro ac T
  refine l_q T rfl rfl rfl rfl (rn_move rfl (T.ev 5 rfl)) ?_; clear T ac; intro ac T
  refine l_w rfl ?_; intro K hK
  refine ow_call (first := []) (cap := []) T rfl rfl rfl rfl evf (.cons (T.ev 2 rfl) (.cons (T.ev 1 rfl) (.cons (T.ev 0 rfl) .nil))) Try.func110 rfl rfl ?_
  refine Calls.mono (stroke_tip hup _) ?_
  clear T
  rintro e wc ⟨rfl, hb⟩
  intro ac T
  replace M := M.call hb; clear hb
  refine sh_out hK _ _ ?_; clear hK K
  refine l_w rfl ?_; intro K hK
  refine ow_al M T rfl rfl rfl rfl ?_; clear M T; intro g3 wc ac M T
  refine sh_out hK _ _ ?_; clear hK K
  refine l_w rfl ?_; intro K hK
  refine ow_stO M T rfl rfl (T.ev 0 rfl) (T.ev 1 rfl) rfl .head rfl (by simp) rfl (by kernel_rfl) ?_; clear M T; intro wc ac M T
  refine sh_out hK _ _ ?_; clear hK K
  refine wpList_nil ?_
  replace T := T.pick [0, 7, 9] rfl
  replace M := M.mask [true, false, true] rfl
  refine nm_then ?_
  refine cut_seq (fun ac wc => Tm ac 27 [(8, .bool ((decide (((thinJ j (p0 + j.u0) (p1 + j.u1) (t + 1) r).spoiled) = 2)) && (readsP j (winS j).1 (winS j).2 n (p0 + j.u0) (p1 + j.u1) (t + 1) r)))] ∧ Mem w noEx wc []) ?_ ?_
  · refine wp_region_lit ?_
    refine l_q (v := (.pointer (some ⟨g1, 6, none⟩))) T rfl rfl rfl rfl (rn_fieldAddr (off := 6) rfl (T.ev 1 rfl) (fun _ _ _ => by kernel_rfl)) ?_; clear T ac; intro ac T
    refine l_q T rfl rfl rfl rfl (rn_rowO (Mem.nth M 1 rfl) rfl (T.ev 0 rfl) rfl) ?_; clear T ac; intro ac T
    refine l_q T rfl rfl rfl rfl (rn_rowO (Mem.nth M 0 rfl) rfl (T.ev 2 rfl) rfl) ?_; clear T ac; intro ac T
    refine l_w rfl ?_; intro K hK
    refine ow_call (first := []) (cap := []) T rfl rfl rfl rfl evf (.cons (T.ev 1 rfl) (.cons (T.ev 0 rfl) .nil)) Try.func100 rfl rfl ?_
    refine Calls.mono (rspoiled_of (s := (thinJ j (p0 + j.u0) (p1 + j.u1) (t + 1) r)) (thin_file _ _ _ _ _) _) ?_
    clear T
    rintro e wc ⟨rfl, hb⟩
    intro ac T
    replace M := M.call hb; clear hb
    refine sh_out hK _ _ ?_; clear hK K
    refine l_q T rfl rfl rfl rfl (rn_eql rfl (T.ev 0 rfl) evc) ?_; clear T ac; intro ac T
    refine l_q T rfl rfl rfl rfl (rn_move rfl (T.ev 0 rfl)) ?_; clear T ac; intro ac T
    rcases Bool.eq_false_or_eq_true (decide (((thinJ j (p0 + j.u0) (p1 + j.u1) (t + 1) r).spoiled) = 2)) with h1 | h1
    · replace h1 := of_decide_eq_true h1
      refine l_q T (wanted_yes rfl rfl (T.ev 0 rfl) (decide_eq_true h1)) rfl rfl rfl (rn_rowO (Mem.nth M 1 rfl) rfl (T.ev 7 rfl) rfl) ?_; clear T ac; intro ac T
      refine l_q T (wanted_yes rfl rfl (T.ev 1 rfl) (decide_eq_true h1)) rfl rfl rfl (rn_rowO (Mem.nth M 0 rfl) rfl (T.ev 7 rfl) rfl) ?_; clear T ac; intro ac T
      refine l_q T (wanted_yes rfl rfl (T.ev 2 rfl) (decide_eq_true h1)) rfl rfl rfl (rn_move rfl (T.ev 10 rfl)) ?_; clear T ac; intro ac T
      refine l_q T (wanted_yes rfl rfl (T.ev 3 rfl) (decide_eq_true h1)) rfl rfl rfl (rn_sub rfl (T.ev 0 rfl) evc (by omega)) ?_; clear T ac; intro ac T
      refine l_w (wanted_yes rfl rfl (T.ev 4 rfl) (decide_eq_true h1)) ?_; intro K hK
      refine ow_call (first := []) (cap := []) T rfl rfl rfl rfl evf (.cons (T.ev 3 rfl) (.cons (T.ev 2 rfl) (.cons (T.ev 0 rfl) .nil))) Try.func108 rfl rfl ?_
      refine Calls.mono (Calls.cast (by rw [show ((n : Nat) : Int) = ((n + 1 : Nat) : Int) - 1 by omega]; rfl) (hrd (p0 + j.u0) (p1 + j.u1) (t + 1) r _ (bnd_tip hj hbn) (SJ.rd M (List.nil_sublist _)))) ?_
      clear T
      rintro e wc ⟨rfl, hb⟩
      intro ac T
      replace M := M.call hb; clear hb
      refine sh_out hK _ _ ?_; clear hK K
      refine l_q T rfl rfl rfl rfl (rn_pick1 rfl (T.ev 5 rfl) (decide_eq_true h1) (T.ev 0 rfl)) ?_; clear T ac; intro ac T
      refine l_q T rfl rfl rfl rfl (rn_assign rfl (T.ev 0 rfl)) ?_; clear T ac; intro ac T
      refine wpList_nil ?_
      replace T := T.pick [0] rfl
      replace M := M.mask [false, false] rfl
      exact ⟨(T.pick (E' := [(8, .bool (readsP j (winS j).1 (winS j).2 n (p0 + j.u0) (p1 + j.u1) (t + 1) r))]) [0] rfl).as (by (try rw [show (decide (((thinJ j (p0 + j.u0) (p1 + j.u1) (t + 1) r).spoiled) = 2)) = true from (decide_eq_true h1)]); rfl), M.mask [] rfl⟩
    · replace h1 := of_decide_eq_false h1
      refine l_pass T (wanted_no rfl rfl (T.ev 0 rfl) (decide_eq_false h1)) rfl rfl rfl ?_; clear T ac; intro ac T
      refine l_pass T (wanted_no rfl rfl (T.ev 1 rfl) (decide_eq_false h1)) rfl rfl rfl ?_; clear T ac; intro ac T
      refine l_pass T (wanted_no rfl rfl (T.ev 2 rfl) (decide_eq_false h1)) rfl rfl rfl ?_; clear T ac; intro ac T
      refine l_pass T (wanted_no rfl rfl (T.ev 3 rfl) (decide_eq_false h1)) rfl rfl rfl ?_; clear T ac; intro ac T
      refine l_pass T (wanted_no rfl rfl (T.ev 4 rfl) (decide_eq_false h1)) rfl rfl rfl ?_; clear T ac; intro ac T
      refine l_q T rfl rfl rfl rfl (rn_pick0 rfl (T.ev 5 rfl) (decide_eq_false h1) evc) ?_; clear T ac; intro ac T
      refine l_q T rfl rfl rfl rfl (rn_assign rfl (T.ev 0 rfl)) ?_; clear T ac; intro ac T
      refine wpList_nil ?_
      replace T := T.pick [0] rfl
      replace M := M.mask [false, false] rfl
      exact ⟨(T.pick (E' := [(8, .bool false)]) [0] rfl).as (by (try rw [show (decide (((thinJ j (p0 + j.u0) (p1 + j.u1) (t + 1) r).spoiled) = 2)) = false from (decide_eq_false h1)]); rfl), M.mask [] rfl⟩
  · clear T M
    rintro ac wc ⟨T, M⟩
    refine wp_ret ?_
    refine rt_1 T rfl (T.ev 0 rfl) ?_
    refine ⟨ret_bool ?_, M.below⟩
    rw [← okT_any j (p0 + j.u0) (p1 + j.u1) (t + 1) r]
    rfl

set_option maxRecDepth 100000 in
set_option maxHeartbeats 1000000 in
theorem makes_2 (j : Jb) (A : Option Addr) (c n : Nat) (p0 p1 t r : Int) (w : World) (hj : j.good) (hbn : Bnd (n + 1) p0 p1 t r) (hr : Rd w w.heap.size 2 A j.sh.length (rc j.sh)) (hrd : RdC j A c n) :
    Calls Try.prog 81 #[jobV j A c, .agg #[.int .i64 ((thinJ j p0 p1 t r).p0), .int .i64 ((thinJ j p0 p1 t r).p1), .int .i64 ((thinJ j p0 p1 t r).t0), .int .i64 ((thinJ j p0 p1 t r).t1), .int .i64 ((thinJ j p0 p1 t r).r0), .int .i64 ((thinJ j p0 p1 t r).r1)], .int .i64 2, .int .i64 ((n + 1 : Nat) : Int)] w fun e w' => e = .returned (.bool ((okT j t (r + 1)) && (readsP j (winS j).1 (winS j).2 n (p0 - j.d1) (p1 - j.d0) t (r + 1)))) ∧ Below w.heap.size w w' := by
  obtain ⟨bJ, oJ, SJ⟩ := Sp.old hr
  have hp := hj.p
  have hme := hj.me
  have hup := thin_up hj hbn
  have hp0 := hbn.p0
  have hp1 := hbn.p1
  have e0 : (thinJ j p0 p1 t r).p0 = p0 := rfl
  have e1 : (thinJ j p0 p1 t r).p1 = p1 := rfl
  have hlv := hbn.lv
  refine px_enter noEx Try.func81 rfl 27 rfl [.agg #[.int .i64 j.p0, .int .i64 j.p1, .int .i64 j.t0, .int .i64 j.t1, .int .i64 j.r0, .int .i64 j.r1, .int .i64 j.u0, .int .i64 j.u1, .int .i64 j.d0, .int .i64 j.d1, .int .i64 j.a0, .int .i64 j.a1, .int .i64 j.b0, .int .i64 j.b1, .int .i64 j.le, .slice A j.sh.length c, .int .i64 j.wi, .int .i64 j.me], .agg #[.int .i64 ((thinJ j p0 p1 t r).p0), .int .i64 ((thinJ j p0 p1 t r).p1), .int .i64 ((thinJ j p0 p1 t r).t0), .int .i64 ((thinJ j p0 p1 t r).t1), .int .i64 ((thinJ j p0 p1 t r).r0), .int .i64 ((thinJ j p0 p1 t r).r1)], .int .i64 2, .int .i64 ((n + 1 : Nat) : Int)] rfl rfl (Mem.init w _) ?_
  intro ac wc T M
  refine wp_seq ?_
  refine wp_region_lit ?_
  refine l_w rfl ?_; intro K hK
  refine ow_bx M T rfl rfl rfl rfl (T.ev 0 rfl) rfl ?_; clear M T; intro g1 wc ac M T
  refine sh_out hK _ _ ?_; clear hK K
  refine l_w rfl ?_; intro K hK
  refine ow_bx M T rfl rfl rfl rfl (T.ev 2 rfl) rfl ?_; clear M T; intro g2 wc ac M T
  refine sh_out hK _ _ ?_; clear hK K
  refine l_q T rfl rfl rfl rfl (rn_assign rfl evc) ?_; clear T ac; intro ac T
  refine wpList_nil ?_
  replace T := T.pick [1, 2, 5, 6] rfl
  refine nm_then ?_
  refine wp_seq ?_
  refine wp_region_lit ?_
  refine l_q (v := (.pointer (some ⟨g1, 6, none⟩))) T rfl rfl rfl rfl (rn_fieldAddr (off := 6) rfl (T.ev 1 rfl) (fun _ _ _ => by kernel_rfl)) ?_; clear T ac; intro ac T
  refine l_q T rfl rfl rfl rfl (rn_rowO (Mem.nth M 1 rfl) rfl (T.ev 0 rfl) rfl) ?_; clear T ac; intro ac T
  refine l_q T rfl rfl rfl rfl (rn_rowO (Mem.nth M 0 rfl) rfl (T.ev 2 rfl) rfl) ?_; clear T ac; intro ac T
  refine l_q T rfl rfl rfl rfl (rn_move rfl (T.ev 5 rfl)) ?_; clear T ac; intro ac T
  refine l_w rfl ?_; intro K hK
  refine ow_call (first := []) (cap := []) T rfl rfl rfl rfl evf (.cons (T.ev 2 rfl) (.cons (T.ev 1 rfl) (.cons (T.ev 0 rfl) .nil))) Try.func110 rfl rfl ?_
  refine Calls.mono (stroke_root hup _) ?_
  clear T
  rintro e wc ⟨rfl, hb⟩
  intro ac T
  replace M := M.call hb; clear hb
  refine sh_out hK _ _ ?_; clear hK K
  refine l_w rfl ?_; intro K hK
  refine ow_al M T rfl rfl rfl rfl ?_; clear M T; intro g3 wc ac M T
  refine sh_out hK _ _ ?_; clear hK K
  refine l_w rfl ?_; intro K hK
  refine ow_stO M T rfl rfl (T.ev 0 rfl) (T.ev 1 rfl) rfl .head rfl (by simp) rfl (by kernel_rfl) ?_; clear M T; intro wc ac M T
  refine sh_out hK _ _ ?_; clear hK K
  refine wpList_nil ?_
  replace T := T.pick [0, 7, 9] rfl
  replace M := M.mask [true, false, true] rfl
  refine nm_then ?_
  refine cut_seq (fun ac wc => Tm ac 27 [(8, .bool ((decide (((thinJ j (p0 - j.d1) (p1 - j.d0) t (r + 1)).spoiled) = 2)) && (readsP j (winS j).1 (winS j).2 n (p0 - j.d1) (p1 - j.d0) t (r + 1))))] ∧ Mem w noEx wc []) ?_ ?_
  · refine wp_region_lit ?_
    refine l_q (v := (.pointer (some ⟨g1, 6, none⟩))) T rfl rfl rfl rfl (rn_fieldAddr (off := 6) rfl (T.ev 1 rfl) (fun _ _ _ => by kernel_rfl)) ?_; clear T ac; intro ac T
    refine l_q T rfl rfl rfl rfl (rn_rowO (Mem.nth M 1 rfl) rfl (T.ev 0 rfl) rfl) ?_; clear T ac; intro ac T
    refine l_q T rfl rfl rfl rfl (rn_rowO (Mem.nth M 0 rfl) rfl (T.ev 2 rfl) rfl) ?_; clear T ac; intro ac T
    refine l_w rfl ?_; intro K hK
    refine ow_call (first := []) (cap := []) T rfl rfl rfl rfl evf (.cons (T.ev 1 rfl) (.cons (T.ev 0 rfl) .nil)) Try.func100 rfl rfl ?_
    refine Calls.mono (rspoiled_of (s := (thinJ j (p0 - j.d1) (p1 - j.d0) t (r + 1))) (thin_file _ _ _ _ _) _) ?_
    clear T
    rintro e wc ⟨rfl, hb⟩
    intro ac T
    replace M := M.call hb; clear hb
    refine sh_out hK _ _ ?_; clear hK K
    refine l_q T rfl rfl rfl rfl (rn_eql rfl (T.ev 0 rfl) evc) ?_; clear T ac; intro ac T
    refine l_q T rfl rfl rfl rfl (rn_move rfl (T.ev 0 rfl)) ?_; clear T ac; intro ac T
    rcases Bool.eq_false_or_eq_true (decide (((thinJ j (p0 - j.d1) (p1 - j.d0) t (r + 1)).spoiled) = 2)) with h1 | h1
    · replace h1 := of_decide_eq_true h1
      refine l_q T (wanted_yes rfl rfl (T.ev 0 rfl) (decide_eq_true h1)) rfl rfl rfl (rn_rowO (Mem.nth M 1 rfl) rfl (T.ev 7 rfl) rfl) ?_; clear T ac; intro ac T
      refine l_q T (wanted_yes rfl rfl (T.ev 1 rfl) (decide_eq_true h1)) rfl rfl rfl (rn_rowO (Mem.nth M 0 rfl) rfl (T.ev 7 rfl) rfl) ?_; clear T ac; intro ac T
      refine l_q T (wanted_yes rfl rfl (T.ev 2 rfl) (decide_eq_true h1)) rfl rfl rfl (rn_move rfl (T.ev 10 rfl)) ?_; clear T ac; intro ac T
      refine l_q T (wanted_yes rfl rfl (T.ev 3 rfl) (decide_eq_true h1)) rfl rfl rfl (rn_sub rfl (T.ev 0 rfl) evc (by omega)) ?_; clear T ac; intro ac T
      refine l_w (wanted_yes rfl rfl (T.ev 4 rfl) (decide_eq_true h1)) ?_; intro K hK
      refine ow_call (first := []) (cap := []) T rfl rfl rfl rfl evf (.cons (T.ev 3 rfl) (.cons (T.ev 2 rfl) (.cons (T.ev 0 rfl) .nil))) Try.func108 rfl rfl ?_
      refine Calls.mono (Calls.cast (by rw [show ((n : Nat) : Int) = ((n + 1 : Nat) : Int) - 1 by omega]; rfl) (hrd (p0 - j.d1) (p1 - j.d0) t (r + 1) _ (bnd_root hj hbn) (SJ.rd M (List.nil_sublist _)))) ?_
      clear T
      rintro e wc ⟨rfl, hb⟩
      intro ac T
      replace M := M.call hb; clear hb
      refine sh_out hK _ _ ?_; clear hK K
      refine l_q T rfl rfl rfl rfl (rn_pick1 rfl (T.ev 5 rfl) (decide_eq_true h1) (T.ev 0 rfl)) ?_; clear T ac; intro ac T
      refine l_q T rfl rfl rfl rfl (rn_assign rfl (T.ev 0 rfl)) ?_; clear T ac; intro ac T
      refine wpList_nil ?_
      replace T := T.pick [0] rfl
      replace M := M.mask [false, false] rfl
      exact ⟨(T.pick (E' := [(8, .bool (readsP j (winS j).1 (winS j).2 n (p0 - j.d1) (p1 - j.d0) t (r + 1)))]) [0] rfl).as (by (try rw [show (decide (((thinJ j (p0 - j.d1) (p1 - j.d0) t (r + 1)).spoiled) = 2)) = true from (decide_eq_true h1)]); rfl), M.mask [] rfl⟩
    · replace h1 := of_decide_eq_false h1
      refine l_pass T (wanted_no rfl rfl (T.ev 0 rfl) (decide_eq_false h1)) rfl rfl rfl ?_; clear T ac; intro ac T
      refine l_pass T (wanted_no rfl rfl (T.ev 1 rfl) (decide_eq_false h1)) rfl rfl rfl ?_; clear T ac; intro ac T
      refine l_pass T (wanted_no rfl rfl (T.ev 2 rfl) (decide_eq_false h1)) rfl rfl rfl ?_; clear T ac; intro ac T
      refine l_pass T (wanted_no rfl rfl (T.ev 3 rfl) (decide_eq_false h1)) rfl rfl rfl ?_; clear T ac; intro ac T
      refine l_pass T (wanted_no rfl rfl (T.ev 4 rfl) (decide_eq_false h1)) rfl rfl rfl ?_; clear T ac; intro ac T
      refine l_q T rfl rfl rfl rfl (rn_pick0 rfl (T.ev 5 rfl) (decide_eq_false h1) evc) ?_; clear T ac; intro ac T
      refine l_q T rfl rfl rfl rfl (rn_assign rfl (T.ev 0 rfl)) ?_; clear T ac; intro ac T
      refine wpList_nil ?_
      replace T := T.pick [0] rfl
      replace M := M.mask [false, false] rfl
      exact ⟨(T.pick (E' := [(8, .bool false)]) [0] rfl).as (by (try rw [show (decide (((thinJ j (p0 - j.d1) (p1 - j.d0) t (r + 1)).spoiled) = 2)) = false from (decide_eq_false h1)]); rfl), M.mask [] rfl⟩
  · clear T M
    rintro ac wc ⟨T, M⟩
    refine wp_ret ?_
    refine rt_1 T rfl (T.ev 0 rfl) ?_
    refine ⟨ret_bool ?_, M.below⟩
    rw [← okT_any j (p0 - j.d1) (p1 - j.d0) t (r + 1)]
    rfl

set_option maxRecDepth 100000 in
set_option maxHeartbeats 1000000 in
theorem knows_0 (j : Jb) (A : Option Addr) (c : Nat) (p0 p1 t r : Int) (w : World) (hj : j.good) (hbn : Bnd 0 p0 p1 t r) (hr : Rd w w.heap.size 2 A j.sh.length (rc j.sh))  :
    Calls Try.prog 114 #[jobV j A c, .agg #[.int .i64 ((thinJ j p0 p1 t r).p0), .int .i64 ((thinJ j p0 p1 t r).p1), .int .i64 ((thinJ j p0 p1 t r).t0), .int .i64 ((thinJ j p0 p1 t r).t1), .int .i64 ((thinJ j p0 p1 t r).r0), .int .i64 ((thinJ j p0 p1 t r).r1)], .int .i64 0] w fun e w' => e = .returned (.bool (stopsP j (winS j).1 (winS j).2 0 p0 p1 t r)) ∧ Below w.heap.size w w' := by
  obtain ⟨bJ, oJ, SJ⟩ := Sp.old hr
  have hp := hj.p
  have hme := hj.me
  have hup := thin_up hj hbn
  have hp0 := hbn.p0
  have hp1 := hbn.p1
  have e0 : (thinJ j p0 p1 t r).p0 = p0 := rfl
  have e1 : (thinJ j p0 p1 t r).p1 = p1 := rfl
  refine px_enter noEx Try.func114 rfl 26 rfl [.agg #[.int .i64 j.p0, .int .i64 j.p1, .int .i64 j.t0, .int .i64 j.t1, .int .i64 j.r0, .int .i64 j.r1, .int .i64 j.u0, .int .i64 j.u1, .int .i64 j.d0, .int .i64 j.d1, .int .i64 j.a0, .int .i64 j.a1, .int .i64 j.b0, .int .i64 j.b1, .int .i64 j.le, .slice A j.sh.length c, .int .i64 j.wi, .int .i64 j.me], .agg #[.int .i64 ((thinJ j p0 p1 t r).p0), .int .i64 ((thinJ j p0 p1 t r).p1), .int .i64 ((thinJ j p0 p1 t r).t0), .int .i64 ((thinJ j p0 p1 t r).t1), .int .i64 ((thinJ j p0 p1 t r).r0), .int .i64 ((thinJ j p0 p1 t r).r1)], .int .i64 0] rfl rfl (Mem.init w _) ?_
  intro ac wc T M
  refine wp_seq ?_
  refine wp_region_lit ?_
  refine l_w rfl ?_; intro K hK
  refine ow_bx M T rfl rfl rfl rfl (T.ev 0 rfl) rfl ?_; clear M T; intro g1 wc ac M T
  refine sh_out hK _ _ ?_; clear hK K
  refine l_w rfl ?_; intro K hK
  refine ow_bx M T rfl rfl rfl rfl (T.ev 2 rfl) rfl ?_; clear M T; intro g2 wc ac M T
  refine sh_out hK _ _ ?_; clear hK K
  refine l_q T rfl rfl rfl rfl (rn_assign rfl evc) ?_; clear T ac; intro ac T
  refine wpList_nil ?_
  replace T := T.pick [1, 2, 5] rfl
  refine nm_then ?_
  refine wp_seq ?_
  refine wp_seq ?_
  refine g_start2 M (M.mask [true, true] rfl) 5 (by kernel_rfl) rfl (by kernel_rfl) ?_
  clear M; intro wc M
  refine g_q (v := (.pointer (some ⟨g2, 0, none⟩))) (T := T) (i := 0) rfl (by kernel_rfl) (by kernel_rfl : (pbits 5 0).setIfInBounds 0 true = pbits 5 1) si_U (fun _ _ _ h => h) rfl rfl rfl rfl (fun _ _ _ _ _ => (rn_fieldAddr (off := 0) rfl (T.ev 0 rfl) (fun _ _ _ => by kernel_rfl))) ?_; clear T ac; intro ac T
  refine g_q (T := T) (i := 1) rfl (by kernel_rfl) (by kernel_rfl : (pbits 5 1).setIfInBounds 1 true = pbits 5 3) si_U (fun _ _ _ h => h) rfl rfl rfl rfl (fun B w' hD hl hS => (rn_rowO (Mem.nth (show Mem w noEx w' _ from hS) 0 rfl) rfl (T.ev 0 rfl) rfl)) ?_; clear T ac; intro ac T
  refine g_q (T := T) (i := 2) rfl (by kernel_rfl) (by kernel_rfl : (pbits 5 3).setIfInBounds 2 true = pbits 5 7) si_U (fun _ _ _ h => h) rfl rfl rfl rfl (fun B w' hD hl hS => (rn_rowO (Mem.nth (show Mem w noEx w' _ from hS) 1 rfl) rfl (T.ev 3 rfl) rfl)) ?_; clear T ac; intro ac T
  refine g_w (i := 3) (by kernel_rfl) rfl (by kernel_rfl : (pbits 5 7).setIfInBounds 3 true = pbits 5 15) rfl ?_; intro K hK
  refine ow_call (first := []) (cap := []) T rfl rfl rfl rfl evf (.cons (T.ev 0 rfl) .nil) Try.func80 rfl rfl ?_
  refine Calls.mono (rwindow_any j _ _ _ hj (SJ.rd M (List.nil_sublist _))) ?_
  clear T
  rintro e wc ⟨rfl, hb⟩
  intro ac T
  replace M := M.call hb; clear hb
  refine sh_out hK _ _ (M.mask [true, true] rfl) ?_; clear hK K
  refine g_w (i := 4) (by kernel_rfl) rfl (by kernel_rfl : (pbits 5 15).setIfInBounds 4 true = pbits 5 31) rfl ?_; intro K hK
  refine ow_call (first := []) (cap := []) T rfl rfl rfl rfl evf (.cons (T.ev 2 rfl) (.cons (T.ev 0 rfl) .nil)) Try.func79 rfl rfl ?_
  refine Calls.mono (inside_any (thinJ j p0 p1 t r).p0 (thinJ j p0 p1 t r).p1 (rwin j).1 (rwin j).2 _) ?_
  clear T
  rintro e wc ⟨rfl, hb⟩
  intro ac T
  replace M := M.call hb; clear hb
  refine sh_out hK _ _ (M.mask [true, true] rfl) ?_; clear hK K
  refine g_done (by kernel_rfl) ?_
  replace T := T.pick [0, 5, 6, 7] rfl
  refine nm_then ?_
  refine wp_cond_split (T.ev 0 rfl) ?_ ?_
  · intro h1
    refine wp_seq ?_
    refine wp_region_lit ?_
    refine l_q T rfl rfl rfl rfl (rn_assign rfl evc) ?_; clear T ac; intro ac T
    refine wpList_nil ?_
    replace T := T.pick [0] rfl
    replace M := M.mask [false, false] rfl
    refine nm_then ?_
    refine wp_ret ?_
    refine rt_then ?_
    refine rt_1 T rfl (T.ev 0 rfl) ?_
    refine ⟨ret_bool ?_, M.below⟩
    rw [rwin_eq] at h1
    exact h1.symm
  · intro h1
    refine wp_skip ?_
    refine nm_then ?_
    refine wp_seq ?_
    refine wp_seq ?_
    refine wp_region_lit ?_
    refine l_q T rfl rfl rfl rfl (rn_assign rfl evc) ?_; clear T ac; intro ac T
    refine wpList_nil ?_
    replace T := T.pick [0, 2, 3, 4] rfl
    refine nm_then ?_
    refine wp_block ?_
    refine wp_loop_rounds 3 ?_
    refine rounds_S ?_
    refine wp_seq ?_
    refine wp_seq ?_
    refine wp_region_lit ?_
    refine l_q T rfl rfl rfl rfl (rn_move rfl (T.ev 0 rfl)) ?_; clear T ac; intro ac T
    refine l_q (v := (.bool true)) T rfl rfl rfl rfl (rn_neqof (rn_leq rfl (T.ev 0 rfl) evc) (by simp)) ?_; clear T ac; intro ac T
    refine l_q T rfl rfl rfl rfl (rn_move rfl (T.ev 0 rfl)) ?_; clear T ac; intro ac T
    refine l_q T (wanted_yes rfl rfl (T.ev 0 rfl) rfl) rfl rfl rfl (rn_move rfl (T.ev 6 rfl)) ?_; clear T ac; intro ac T
    refine l_q (v := (.bool false)) T (wanted_yes rfl rfl (T.ev 1 rfl) rfl) rfl rfl rfl (rn_neqof (rn_gtr rfl (T.ev 0 rfl) evc) (by simp)) ?_; clear T ac; intro ac T
    refine l_q T rfl rfl rfl rfl (rn_pick1 rfl (T.ev 2 rfl) rfl (T.ev 0 rfl)) ?_; clear T ac; intro ac T
    refine wpList_nil ?_
    replace T := T.pick [0, 1, 2, 6, 7, 8, 9] rfl
    refine nm_then ?_
    refine wp_cond_false (T.ev 0 rfl) ?_
    refine wp_exit ?_
    refine ex_then ?_
    refine ex_then ?_
    refine ex_hit ?_
    refine nm_then ?_
    refine wp_seq ?_
    refine wp_region_lit ?_
    refine l_q T rfl rfl rfl rfl (rn_assign rfl evc) ?_; clear T ac; intro ac T
    refine wpList_nil ?_
    replace T := T.pick [0] rfl
    replace M := M.mask [false, false] rfl
    refine nm_then ?_
    refine wp_ret ?_
    refine rt_1 T rfl (T.ev 0 rfl) ?_
    refine ⟨ret_bool ?_, M.below⟩
    rw [rwin_eq] at h1
    exact h1.symm

set_option maxRecDepth 100000 in
set_option maxHeartbeats 1000000 in
theorem knows_S (j : Jb) (A : Option Addr) (c n : Nat) (p0 p1 t r : Int) (w : World) (hj : j.good) (hbn : Bnd (n + 1) p0 p1 t r) (hr : Rd w w.heap.size 2 A j.sh.length (rc j.sh)) (hrd : RdC j A c n) :
    Calls Try.prog 114 #[jobV j A c, .agg #[.int .i64 ((thinJ j p0 p1 t r).p0), .int .i64 ((thinJ j p0 p1 t r).p1), .int .i64 ((thinJ j p0 p1 t r).t0), .int .i64 ((thinJ j p0 p1 t r).t1), .int .i64 ((thinJ j p0 p1 t r).r0), .int .i64 ((thinJ j p0 p1 t r).r1)], .int .i64 ((n + 1 : Nat) : Int)] w fun e w' => e = .returned (.bool (stopsP j (winS j).1 (winS j).2 (n + 1) p0 p1 t r)) ∧ Below w.heap.size w w' := by
  obtain ⟨bJ, oJ, SJ⟩ := Sp.old hr
  have hp := hj.p
  have hme := hj.me
  have hup := thin_up hj hbn
  have hp0 := hbn.p0
  have hp1 := hbn.p1
  have e0 : (thinJ j p0 p1 t r).p0 = p0 := rfl
  have e1 : (thinJ j p0 p1 t r).p1 = p1 := rfl
  have hsu : (stopsP j (winS j).1 (winS j).2 (n + 1) p0 p1 t r) = (hasB (winS j).1 (winS j).2 p0 p1 || ((okT j (t + 1) r && (readsP j (winS j).1 (winS j).2 n (p0 + j.u0) (p1 + j.u1) (t + 1) r)) || (okT j t (r + 1) && (readsP j (winS j).1 (winS j).2 n (p0 - j.d1) (p1 - j.d0) t (r + 1))))) := rfl
  refine px_enter noEx Try.func114 rfl 26 rfl [.agg #[.int .i64 j.p0, .int .i64 j.p1, .int .i64 j.t0, .int .i64 j.t1, .int .i64 j.r0, .int .i64 j.r1, .int .i64 j.u0, .int .i64 j.u1, .int .i64 j.d0, .int .i64 j.d1, .int .i64 j.a0, .int .i64 j.a1, .int .i64 j.b0, .int .i64 j.b1, .int .i64 j.le, .slice A j.sh.length c, .int .i64 j.wi, .int .i64 j.me], .agg #[.int .i64 ((thinJ j p0 p1 t r).p0), .int .i64 ((thinJ j p0 p1 t r).p1), .int .i64 ((thinJ j p0 p1 t r).t0), .int .i64 ((thinJ j p0 p1 t r).t1), .int .i64 ((thinJ j p0 p1 t r).r0), .int .i64 ((thinJ j p0 p1 t r).r1)], .int .i64 ((n + 1 : Nat) : Int)] rfl rfl (Mem.init w _) ?_
  intro ac wc T M
  refine wp_seq ?_
  refine wp_region_lit ?_
  refine l_w rfl ?_; intro K hK
  refine ow_bx M T rfl rfl rfl rfl (T.ev 0 rfl) rfl ?_; clear M T; intro g1 wc ac M T
  refine sh_out hK _ _ ?_; clear hK K
  refine l_w rfl ?_; intro K hK
  refine ow_bx M T rfl rfl rfl rfl (T.ev 2 rfl) rfl ?_; clear M T; intro g2 wc ac M T
  refine sh_out hK _ _ ?_; clear hK K
  refine l_q T rfl rfl rfl rfl (rn_assign rfl evc) ?_; clear T ac; intro ac T
  refine wpList_nil ?_
  replace T := T.pick [1, 2, 5] rfl
  refine nm_then ?_
  refine wp_seq ?_
  refine wp_seq ?_
  refine g_start2 M (M.mask [true, true] rfl) 5 (by kernel_rfl) rfl (by kernel_rfl) ?_
  clear M; intro wc M
  refine g_q (v := (.pointer (some ⟨g2, 0, none⟩))) (T := T) (i := 0) rfl (by kernel_rfl) (by kernel_rfl : (pbits 5 0).setIfInBounds 0 true = pbits 5 1) si_U (fun _ _ _ h => h) rfl rfl rfl rfl (fun _ _ _ _ _ => (rn_fieldAddr (off := 0) rfl (T.ev 0 rfl) (fun _ _ _ => by kernel_rfl))) ?_; clear T ac; intro ac T
  refine g_q (T := T) (i := 1) rfl (by kernel_rfl) (by kernel_rfl : (pbits 5 1).setIfInBounds 1 true = pbits 5 3) si_U (fun _ _ _ h => h) rfl rfl rfl rfl (fun B w' hD hl hS => (rn_rowO (Mem.nth (show Mem w noEx w' _ from hS) 0 rfl) rfl (T.ev 0 rfl) rfl)) ?_; clear T ac; intro ac T
  refine g_q (T := T) (i := 2) rfl (by kernel_rfl) (by kernel_rfl : (pbits 5 3).setIfInBounds 2 true = pbits 5 7) si_U (fun _ _ _ h => h) rfl rfl rfl rfl (fun B w' hD hl hS => (rn_rowO (Mem.nth (show Mem w noEx w' _ from hS) 1 rfl) rfl (T.ev 3 rfl) rfl)) ?_; clear T ac; intro ac T
  refine g_w (i := 3) (by kernel_rfl) rfl (by kernel_rfl : (pbits 5 7).setIfInBounds 3 true = pbits 5 15) rfl ?_; intro K hK
  refine ow_call (first := []) (cap := []) T rfl rfl rfl rfl evf (.cons (T.ev 0 rfl) .nil) Try.func80 rfl rfl ?_
  refine Calls.mono (rwindow_any j _ _ _ hj (SJ.rd M (List.nil_sublist _))) ?_
  clear T
  rintro e wc ⟨rfl, hb⟩
  intro ac T
  replace M := M.call hb; clear hb
  refine sh_out hK _ _ (M.mask [true, true] rfl) ?_; clear hK K
  refine g_w (i := 4) (by kernel_rfl) rfl (by kernel_rfl : (pbits 5 15).setIfInBounds 4 true = pbits 5 31) rfl ?_; intro K hK
  refine ow_call (first := []) (cap := []) T rfl rfl rfl rfl evf (.cons (T.ev 2 rfl) (.cons (T.ev 0 rfl) .nil)) Try.func79 rfl rfl ?_
  refine Calls.mono (inside_any (thinJ j p0 p1 t r).p0 (thinJ j p0 p1 t r).p1 (rwin j).1 (rwin j).2 _) ?_
  clear T
  rintro e wc ⟨rfl, hb⟩
  intro ac T
  replace M := M.call hb; clear hb
  refine sh_out hK _ _ (M.mask [true, true] rfl) ?_; clear hK K
  refine g_done (by kernel_rfl) ?_
  replace T := T.pick [0, 5, 6, 7] rfl
  refine nm_then ?_
  refine wp_cond_split (T.ev 0 rfl) ?_ ?_
  · intro h1
    refine wp_seq ?_
    refine wp_region_lit ?_
    refine l_q T rfl rfl rfl rfl (rn_assign rfl evc) ?_; clear T ac; intro ac T
    refine wpList_nil ?_
    replace T := T.pick [0] rfl
    replace M := M.mask [false, false] rfl
    refine nm_then ?_
    refine wp_ret ?_
    refine rt_then ?_
    refine rt_1 T rfl (T.ev 0 rfl) ?_
    refine ⟨ret_bool ?_, M.below⟩
    rw [hsu]
    rw [rwin_eq] at h1
    rw [show hasB (winS j).1 (winS j).2 p0 p1 = _ from h1]
    simp_all
  · intro h1
    refine wp_skip ?_
    refine nm_then ?_
    refine wp_seq ?_
    refine wp_seq ?_
    refine wp_region_lit ?_
    refine l_q T rfl rfl rfl rfl (rn_assign rfl evc) ?_; clear T ac; intro ac T
    refine wpList_nil ?_
    replace T := T.pick [0, 2, 3, 4] rfl
    refine nm_then ?_
    refine wp_block ?_
    refine wp_loop_rounds 3 ?_
    refine rounds_S ?_
    refine wp_seq ?_
    refine wp_seq ?_
    refine wp_region_lit ?_
    refine l_q T rfl rfl rfl rfl (rn_move rfl (T.ev 0 rfl)) ?_; clear T ac; intro ac T
    refine l_q (v := (.bool true)) T rfl rfl rfl rfl (rn_neqof (rn_leq rfl (T.ev 0 rfl) evc) (by simp)) ?_; clear T ac; intro ac T
    refine l_q T rfl rfl rfl rfl (rn_move rfl (T.ev 0 rfl)) ?_; clear T ac; intro ac T
    refine l_q T (wanted_yes rfl rfl (T.ev 0 rfl) rfl) rfl rfl rfl (rn_move rfl (T.ev 6 rfl)) ?_; clear T ac; intro ac T
    refine l_q T (wanted_yes rfl rfl (T.ev 1 rfl) rfl) rfl rfl rfl (rn_gtr rfl (T.ev 0 rfl) evc) ?_; clear T ac; intro ac T
    refine l_q T rfl rfl rfl rfl (rn_pick1 rfl (T.ev 2 rfl) rfl (T.ev 0 rfl)) ?_; clear T ac; intro ac T
    refine wpList_nil ?_
    replace T := T.pick [0, 1, 2, 6, 7, 8, 9] rfl
    refine nm_then ?_
    refine wp_if (T.ev 0 rfl) ?_ ?_
    · intro h2
      refine wp_skip ?_
      refine nm_then ?_
      refine wp_seq ?_
      refine wp_block ?_
      refine wp_seq ?_
      refine wp_region_lit ?_
      refine l_q T rfl rfl rfl rfl (rn_rowO (Mem.nth M 1 rfl) rfl (T.ev 5 rfl) rfl) ?_; clear T ac; intro ac T
      refine l_q T rfl rfl rfl rfl (rn_rowO (Mem.nth M 0 rfl) rfl (T.ev 5 rfl) rfl) ?_; clear T ac; intro ac T
      refine l_q T rfl rfl rfl rfl (rn_move rfl (T.ev 5 rfl)) ?_; clear T ac; intro ac T
      refine l_q T rfl rfl rfl rfl (rn_move rfl (T.ev 9 rfl)) ?_; clear T ac; intro ac T
      refine l_w rfl ?_; intro K hK
      refine ow_call (first := []) (cap := []) T rfl rfl rfl rfl evf (.cons (T.ev 3 rfl) (.cons (T.ev 2 rfl) (.cons (T.ev 1 rfl) (.cons (T.ev 0 rfl) .nil)))) Try.func81 rfl rfl ?_
      refine Calls.mono (makes_1 j _ _ n p0 p1 t r _ hj hbn (SJ.rd M (List.nil_sublist _)) hrd) ?_
      clear T
      rintro e wc ⟨rfl, hb⟩
      intro ac T
      replace M := M.call hb; clear hb
      refine sh_out hK _ _ ?_; clear hK K
      refine wpList_nil ?_
      replace T := T.pick [0, 6, 7, 8, 9, 10, 11] rfl
      refine nm_then ?_
      refine wp_cond_split (T.ev 0 rfl) ?_ ?_
      · intro h3
        refine wp_seq ?_
        refine wp_region_lit ?_
        refine l_q T rfl rfl rfl rfl (rn_assign rfl evc) ?_; clear T ac; intro ac T
        refine wpList_nil ?_
        replace T := T.pick [0] rfl
        replace M := M.mask [false, false] rfl
        refine nm_then ?_
        refine wp_ret ?_
        refine rt_blk ?_
        refine rt_then ?_
        refine rt_then ?_
        refine rt_blk ?_
        refine rt_then ?_
        refine rt_1 T rfl (T.ev 0 rfl) ?_
        refine ⟨ret_bool ?_, M.below⟩
        rw [hsu]
        rw [rwin_eq] at h1
        rw [show hasB (winS j).1 (winS j).2 p0 p1 = _ from h1]
        simp_all
      · intro h3
        refine wp_skip ?_
        refine nm_blk ?_
        refine nm_then ?_
        refine wp_region_lit ?_
        refine l_q T rfl rfl rfl rfl (rn_move rfl (T.ev 3 rfl)) ?_; clear T ac; intro ac T
        refine l_q (v := (.int .i64 2)) T rfl rfl rfl rfl (rn_ofI (rn_add rfl (T.ev 0 rfl) evc (by omega)) (by rfl)) ?_; clear T ac; intro ac T
        refine l_q (v := (.int .i64 2)) (T.pick [0, 1, 2, 3, 4, 6, 7, 8] rfl) rfl rfl rfl rfl (rn_assign rfl (T.ev 0 rfl)) ?_; clear T ac; intro ac T
        refine wpList_nil ?_
        replace T := T.pick [0, 4, 5, 6, 7, 8] rfl
        refine nm_then ?_
        refine rounds_S ?_
        refine wp_seq ?_
        refine wp_seq ?_
        refine wp_region_lit ?_
        refine l_q T rfl rfl rfl rfl (rn_move rfl (T.ev 0 rfl)) ?_; clear T ac; intro ac T
        refine l_q (v := (.bool true)) T rfl rfl rfl rfl (rn_neqof (rn_leq rfl (T.ev 0 rfl) evc) (by simp)) ?_; clear T ac; intro ac T
        refine l_q T rfl rfl rfl rfl (rn_move rfl (T.ev 0 rfl)) ?_; clear T ac; intro ac T
        refine l_q (v := (.int .i64 ((n + 1 : Nat) : Int))) (T.pick [0, 1, 2, 3, 4, 6, 7, 8] rfl) (wanted_yes rfl rfl (T.ev 0 rfl) rfl) rfl rfl rfl (rn_move rfl (T.ev 8 rfl)) ?_; clear T ac; intro ac T
        refine l_q (v := (.bool (decide (0 < ((n + 1 : Nat) : Int))))) (T.pick [0, 1, 2, 3, 4, 6, 7, 8] rfl) (wanted_yes rfl rfl (T.ev 1 rfl) rfl) rfl rfl rfl (rn_gtr rfl (T.ev 0 rfl) evc) ?_; clear T ac; intro ac T
        refine l_q T rfl rfl rfl rfl (rn_pick1 rfl (T.ev 2 rfl) rfl (T.ev 0 rfl)) ?_; clear T ac; intro ac T
        refine wpList_nil ?_
        replace T := T.pick [0, 1, 2, 6, 7, 8, 9] rfl
        refine nm_then ?_
        refine wp_cond_true ((T.ev 0 rfl).trans (congrArg Value.bool (decide_eq_true h2))) ?_
        refine wp_skip ?_
        refine nm_then ?_
        refine wp_seq ?_
        refine wp_block ?_
        refine wp_seq ?_
        refine wp_region_lit ?_
        refine l_q T rfl rfl rfl rfl (rn_rowO (Mem.nth M 1 rfl) rfl (T.ev 5 rfl) rfl) ?_; clear T ac; intro ac T
        refine l_q T rfl rfl rfl rfl (rn_rowO (Mem.nth M 0 rfl) rfl (T.ev 5 rfl) rfl) ?_; clear T ac; intro ac T
        refine l_q T rfl rfl rfl rfl (rn_move rfl (T.ev 5 rfl)) ?_; clear T ac; intro ac T
        refine l_q T rfl rfl rfl rfl (rn_move rfl (T.ev 9 rfl)) ?_; clear T ac; intro ac T
        refine l_w rfl ?_; intro K hK
        refine ow_call (first := []) (cap := []) T rfl rfl rfl rfl evf (.cons (T.ev 3 rfl) (.cons (T.ev 2 rfl) (.cons (T.ev 1 rfl) (.cons (T.ev 0 rfl) .nil)))) Try.func81 rfl rfl ?_
        refine Calls.mono (makes_2 j _ _ n p0 p1 t r _ hj hbn (SJ.rd M (List.nil_sublist _)) hrd) ?_
        clear T
        rintro e wc ⟨rfl, hb⟩
        intro ac T
        replace M := M.call hb; clear hb
        refine sh_out hK _ _ ?_; clear hK K
        refine wpList_nil ?_
        replace T := T.pick [0, 6, 7, 8, 9, 10, 11] rfl
        refine nm_then ?_
        refine wp_cond_split (T.ev 0 rfl) ?_ ?_
        · intro h4
          refine wp_seq ?_
          refine wp_region_lit ?_
          refine l_q T rfl rfl rfl rfl (rn_assign rfl evc) ?_; clear T ac; intro ac T
          refine wpList_nil ?_
          replace T := T.pick [0] rfl
          replace M := M.mask [false, false] rfl
          refine nm_then ?_
          refine wp_ret ?_
          refine rt_blk ?_
          refine rt_then ?_
          refine rt_then ?_
          refine rt_blk ?_
          refine rt_then ?_
          refine rt_1 T rfl (T.ev 0 rfl) ?_
          refine ⟨ret_bool ?_, M.below⟩
          rw [hsu]
          rw [rwin_eq] at h1
          rw [show hasB (winS j).1 (winS j).2 p0 p1 = _ from h1]
          simp_all
        · intro h4
          refine wp_skip ?_
          refine nm_blk ?_
          refine nm_then ?_
          refine wp_region_lit ?_
          refine l_q T rfl rfl rfl rfl (rn_move rfl (T.ev 3 rfl)) ?_; clear T ac; intro ac T
          refine l_q (v := (.int .i64 3)) T rfl rfl rfl rfl (rn_ofI (rn_add rfl (T.ev 0 rfl) evc (by omega)) (by rfl)) ?_; clear T ac; intro ac T
          refine l_q (v := (.int .i64 3)) (T.pick [0, 1, 2, 3, 4, 6, 7, 8] rfl) rfl rfl rfl rfl (rn_assign rfl (T.ev 0 rfl)) ?_; clear T ac; intro ac T
          refine wpList_nil ?_
          replace T := T.pick [0, 4, 5, 6, 7, 8] rfl
          refine nm_then ?_
          refine rounds_S ?_
          refine wp_seq ?_
          refine wp_seq ?_
          refine wp_region_lit ?_
          refine l_q T rfl rfl rfl rfl (rn_move rfl (T.ev 0 rfl)) ?_; clear T ac; intro ac T
          refine l_q (v := (.bool false)) T rfl rfl rfl rfl (rn_neqof (rn_leq rfl (T.ev 0 rfl) evc) (by simp)) ?_; clear T ac; intro ac T
          refine l_q T rfl rfl rfl rfl (rn_move rfl (T.ev 0 rfl)) ?_; clear T ac; intro ac T
          replace T := T.pick [0, 1, 2, 3, 4, 6, 7, 8] rfl
          refine l_pass T (wanted_no rfl rfl (T.ev 0 rfl) rfl) rfl rfl rfl ?_; clear T ac; intro ac T
          replace T := T.pick [0, 1, 2, 3, 4, 6, 7, 8] rfl
          refine l_pass T (wanted_no rfl rfl (T.ev 1 rfl) rfl) rfl rfl rfl ?_; clear T ac; intro ac T
          refine l_q T rfl rfl rfl rfl (rn_pick0 rfl (T.ev 2 rfl) rfl evc) ?_; clear T ac; intro ac T
          refine wpList_nil ?_
          replace T := T.pick [0, 1, 2, 6, 7, 8, 9] rfl
          refine nm_then ?_
          refine wp_cond_false (T.ev 0 rfl) ?_
          refine wp_exit ?_
          refine ex_then ?_
          refine ex_then ?_
          refine ex_hit ?_
          refine nm_then ?_
          refine wp_seq ?_
          refine wp_region_lit ?_
          refine l_q T rfl rfl rfl rfl (rn_assign rfl evc) ?_; clear T ac; intro ac T
          refine wpList_nil ?_
          replace T := T.pick [0] rfl
          replace M := M.mask [false, false] rfl
          refine nm_then ?_
          refine wp_ret ?_
          refine rt_1 T rfl (T.ev 0 rfl) ?_
          refine ⟨ret_bool ?_, M.below⟩
          rw [hsu]
          rw [rwin_eq] at h1
          rw [show hasB (winS j).1 (winS j).2 p0 p1 = _ from h1]
          simp_all
    · intro h2
      refine wp_exit ?_
      refine ex_then ?_
      refine ex_then ?_
      refine ex_hit ?_
      refine nm_then ?_
      refine wp_seq ?_
      refine wp_region_lit ?_
      refine l_q T rfl rfl rfl rfl (rn_assign rfl evc) ?_; clear T ac; intro ac T
      refine wpList_nil ?_
      replace T := T.pick [0] rfl
      replace M := M.mask [false, false] rfl
      refine nm_then ?_
      refine wp_ret ?_
      refine rt_1 T rfl (T.ev 0 rfl) ?_
      refine ⟨ret_bool ?_, M.below⟩
      rw [hsu]
      rw [rwin_eq] at h1
      rw [show hasB (winS j).1 (winS j).2 p0 p1 = _ from h1]
      simp_all

theorem knows_any {j : Jb} (hj : j.good) (A : Option Addr) (c : Nat) : ∀ n, KnC j A c n ∧ RdC j A c n
  | 0 => by
    have h : KnC j A c 0 := fun p0 p1 t r w hb hr => knows_0 j A c p0 p1 t r w hj hb hr
    exact ⟨h, fun p0 p1 t r w hb hr => reads_of j A c 0 p0 p1 t r w hj hb hr h⟩
  | n + 1 => by
    obtain ⟨_, h2⟩ := knows_any hj A c n
    have h : KnC j A c (n + 1) := fun p0 p1 t r w hb hr => knows_S j A c n p0 p1 t r w hj hb hr h2
    exact ⟨h, fun p0 p1 t r w hb hr => reads_of j A c (n + 1) p0 p1 t r w hj hb hr h⟩


end Go.Proofs.Ythlpceoajhcliaa
end

section
/-
  ref1: Guided and Next.
-/
namespace Go.Proofs.Ythlpceoajhcliaa
set_option linter.unusedSimpArgs false
set_option linter.unusedVariables false
open Go.RowKit

theorem bnd_zero {j : Jb} (h : j.good) {n : Nat} (hn : n ≤ 10) : Bnd n j.p0 j.p1 0 0 := by
  have := h.p
  constructor <;> omega
def gref (j : Jb) : Int := match guidedF j with | some n => (n : Int) | none => -1


set_option maxRecDepth 100000 in
set_option maxHeartbeats 1000000 in
theorem rguided_any (j : Jb) (A : Option Addr) (c : Nat) (w : World) (hj : j.good) (hr : Rd w w.heap.size 2 A j.sh.length (rc j.sh)) :
    Calls Try.prog 76 #[jobV j A c] w fun e w' => e = .returned (.int .i64 (gref j)) ∧ Below w.heap.size w w' := by
  obtain ⟨bJ, oJ, SJ⟩ := Sp.old hr
  refine px_enter noEx Try.func76 rfl 14 rfl [.agg #[.int .i64 j.p0, .int .i64 j.p1, .int .i64 j.t0, .int .i64 j.t1, .int .i64 j.r0, .int .i64 j.r1, .int .i64 j.u0, .int .i64 j.u1, .int .i64 j.d0, .int .i64 j.d1, .int .i64 j.a0, .int .i64 j.a1, .int .i64 j.b0, .int .i64 j.b1, .int .i64 j.le, .slice A j.sh.length c, .int .i64 j.wi, .int .i64 j.me]] rfl rfl (Mem.init w _) ?_
  intro ac wc T M
  refine wp_seq ?_
  refine wp_region_lit ?_
  refine l_w rfl ?_; intro K hK
  refine ow_bx M T rfl rfl rfl rfl (T.ev 0 rfl) rfl ?_; clear M T; intro g1 wc ac M T
  refine sh_out hK _ _ ?_; clear hK K
  refine l_q T rfl rfl rfl rfl (rn_assign rfl evc) ?_; clear T ac; intro ac T
  refine wpList_nil ?_
  replace T := T.pick [1] rfl
  refine nm_then ?_
  refine wp_seq ?_
  refine wp_seq ?_
  refine wp_region_lit ?_
  refine l_q T rfl rfl rfl rfl (rn_assign rfl evc) ?_; clear T ac; intro ac T
  refine wpList_nil ?_
  refine nm_then ?_
  refine wp_block ?_
  refine wp_loop_n (fun mz ac wc => ∃ (k : Nat), mz = 5 - k ∧ (k ≤ 5) ∧ (guidedF j = firstB (fun n => readsP j (winS j).1 (winS j).2 n j.p0 j.p1 0 0) (5 - k) k) ∧ Tm ac 14 [(1, .pointer (some ⟨g1, 0, none⟩)), (3, .int .i64 (k : Int))] ∧ Mem w noEx wc [(g1, .cells (jobL j A c))]) ?_ ?_
  · exact ⟨_, 0, rfl, (by omega), rfl, T.pick [1, 0] rfl, M.mask [true] rfl⟩
  · clear T M
    rintro mz ac wc ⟨k, hmm1, hk, H, T, M⟩
    refine wp_seq ?_
    refine wp_seq ?_
    refine wp_region_lit ?_
    refine l_q T rfl rfl rfl rfl (rn_move rfl (T.ev 1 rfl)) ?_; clear T ac; intro ac T
    refine l_q T rfl rfl rfl rfl (rn_leq rfl (T.ev 0 rfl) evc) ?_; clear T ac; intro ac T
    refine wpList_nil ?_
    replace T := T.pick [0, 2, 3] rfl
    refine nm_then ?_
    refine wp_if (T.ev 0 rfl) ?_ ?_
    · intro h1
      refine wp_skip ?_
      refine nm_then ?_
      refine wp_seq ?_
      refine wp_block ?_
      refine wp_seq ?_
      refine wp_region_lit ?_
      refine l_q T rfl rfl rfl rfl (rn_rowO (Mem.nth M 0 rfl) rfl (T.ev 1 rfl) rfl) ?_; clear T ac; intro ac T
      refine l_q (v := (.pointer (some ⟨g1, 0, none⟩))) T rfl rfl rfl rfl (rn_fieldAddr (off := 0) rfl (T.ev 2 rfl) (fun _ _ _ => by kernel_rfl)) ?_; clear T ac; intro ac T
      refine l_q T rfl rfl rfl rfl (rn_rowO (Mem.nth M 0 rfl) rfl (T.ev 0 rfl) rfl) ?_; clear T ac; intro ac T
      refine l_q T rfl rfl rfl rfl (rn_move rfl (T.ev 5 rfl)) ?_; clear T ac; intro ac T
      refine l_w rfl ?_; intro K hK
      refine ow_call (first := []) (cap := []) T rfl rfl rfl rfl evf (.cons (T.ev 3 rfl) (.cons (T.ev 1 rfl) (.cons (T.ev 0 rfl) .nil))) Try.func108 rfl rfl ?_
      refine Calls.mono (Calls.cast (by rw [thin_zero]; rfl) ((knows_any hj _ _ k).2 j.p0 j.p1 0 0 _ (bnd_zero hj (by omega)) (SJ.rd M (List.nil_sublist _)))) ?_
      clear T
      rintro e wc ⟨rfl, hb⟩
      intro ac T
      replace M := M.call hb; clear hb
      refine sh_out hK _ _ ?_; clear hK K
      refine wpList_nil ?_
      replace T := T.pick [0, 6, 7] rfl
      refine nm_then ?_
      refine wp_cond_split (T.ev 0 rfl) ?_ ?_
      · intro h2
        refine wp_seq ?_
        refine wp_region_lit ?_
        refine l_q T rfl rfl rfl rfl (rn_move rfl (T.ev 2 rfl)) ?_; clear T ac; intro ac T
        refine l_q T rfl rfl rfl rfl (rn_assign rfl (T.ev 0 rfl)) ?_; clear T ac; intro ac T
        refine wpList_nil ?_
        replace T := T.pick [0] rfl
        replace M := M.mask [false] rfl
        refine nm_then ?_
        refine wp_ret ?_
        refine rt_blk ?_
        refine rt_then ?_
        refine rt_then ?_
        refine rt_blk ?_
        refine rt_then ?_
        refine rt_1 T rfl (T.ev 0 rfl) ?_
        rw [first_hit (by omega) (by simpa using h2)] at H
        refine ⟨ret_int ?_, M.below⟩
        unfold gref
        rw [H]
      · intro h2
        refine wp_skip ?_
        refine nm_blk ?_
        refine nm_then ?_
        refine wp_region_lit ?_
        refine l_q T rfl rfl rfl rfl (rn_move rfl (T.ev 2 rfl)) ?_; clear T ac; intro ac T
        refine l_q T rfl rfl rfl rfl (rn_add rfl (T.ev 0 rfl) evc (by omega)) ?_; clear T ac; intro ac T
        refine l_q (v := (.int .i64 ((k : Int) + 1))) (T.pick [0, 1, 2, 3] rfl) rfl rfl rfl rfl (rn_assign rfl (T.ev 0 rfl)) ?_; clear T ac; intro ac T
        refine wpList_nil ?_
        replace T := T.pick [0, 4] rfl
        refine nm_then ?_
        rw [first_miss (by omega) (by simpa using h2)] at H
        exact ⟨_, by omega, (k + 1), rfl, (by omega), H, T.pick [1, 0] rfl, M.mask [true] rfl⟩
    · intro h1
      refine wp_exit ?_
      refine ex_then ?_
      refine ex_then ?_
      refine ex_hit ?_
      refine nm_then ?_
      refine wp_seq ?_
      refine wp_region_lit ?_
      refine l_q T rfl rfl rfl rfl (rn_assign rfl evc) ?_; clear T ac; intro ac T
      refine wpList_nil ?_
      replace T := T.pick [0] rfl
      replace M := M.mask [false] rfl
      refine nm_then ?_
      refine wp_ret ?_
      refine rt_1 T rfl (T.ev 0 rfl) ?_
      rw [first_end (by omega)] at H
      refine ⟨ret_int ?_, M.below⟩
      unfold gref
      rw [H]

set_option maxRecDepth 100000 in
set_option maxHeartbeats 1000000 in
theorem rGuided_any (j : Jb) (A : Option Addr) (c : Nat) (w : World) (hr : Rd w w.heap.size 2 A j.sh.length (rc j.sh)) (hn : j.sh.length ≤ 9223372036854775807) :
    Calls Try.prog 25 #[jobV j A c] w fun e w' => e = .returned (.tuple #[.int .i64 ((guidedJ j).1), .int .i64 ((guidedJ j).2)]) ∧ Below w.heap.size w w' := by
  obtain ⟨bJ, oJ, SJ⟩ := Sp.old hr
  refine px_enter noEx Try.func25 rfl 16 rfl [.agg #[.int .i64 j.p0, .int .i64 j.p1, .int .i64 j.t0, .int .i64 j.t1, .int .i64 j.r0, .int .i64 j.r1, .int .i64 j.u0, .int .i64 j.u1, .int .i64 j.d0, .int .i64 j.d1, .int .i64 j.a0, .int .i64 j.a1, .int .i64 j.b0, .int .i64 j.b1, .int .i64 j.le, .slice A j.sh.length c, .int .i64 j.wi, .int .i64 j.me]] rfl rfl (Mem.init w _) ?_
  intro ac wc T M
  refine wp_seq ?_
  refine wp_region_lit ?_
  refine l_w rfl ?_; intro K hK
  refine ow_bx M T rfl rfl rfl rfl (T.ev 0 rfl) rfl ?_; clear M T; intro g1 wc ac M T
  refine sh_out hK _ _ ?_; clear hK K
  refine l_q T rfl rfl rfl rfl (rn_assign rfl evc) ?_; clear T ac; intro ac T
  refine l_q T rfl rfl rfl rfl (rn_assign rfl evc) ?_; clear T ac; intro ac T
  refine wpList_nil ?_
  replace T := T.pick [2] rfl
  refine nm_then ?_
  refine wp_seq ?_
  refine wp_seq ?_
  refine wp_region_lit ?_
  refine l_q T rfl rfl rfl rfl (rn_rowO (Mem.nth M 0 rfl) rfl (T.ev 0 rfl) rfl) ?_; clear T ac; intro ac T
  refine l_w rfl ?_; intro K hK
  refine ow_call (first := []) (cap := []) T rfl rfl rfl rfl evf (.cons (T.ev 0 rfl) .nil) Try.func50 rfl rfl ?_
  refine Calls.mono (rCheck_any j _ _ _ (SJ.rd M (List.nil_sublist _)) (by omega)) ?_
  clear T
  rintro e wc ⟨rfl, hb⟩
  intro ac T
  replace M := M.call hb; clear hb
  refine sh_out hK _ _ ?_; clear hK K
  refine l_q T rfl rfl rfl rfl (rn_assign rfl (T.ev 0 rfl)) ?_; clear T ac; intro ac T
  refine wpList_nil ?_
  replace T := T.pick [0, 3] rfl
  refine nm_then ?_
  refine wp_seq ?_
  refine wp_region_lit ?_
  refine l_q T rfl rfl rfl rfl (rn_move rfl (T.ev 0 rfl)) ?_; clear T ac; intro ac T
  refine l_q T rfl rfl rfl rfl (rn_neq rfl (T.ev 0 rfl) evc) ?_; clear T ac; intro ac T
  refine wpList_nil ?_
  replace T := T.pick [0, 2, 3] rfl
  refine nm_then ?_
  refine wp_ifn (T.ev 0 rfl) ?_ ?_
  · intro h1
    refine wp_seq ?_
    refine wp_region_lit ?_
    refine l_q T rfl rfl rfl rfl (rn_move rfl (T.ev 1 rfl)) ?_; clear T ac; intro ac T
    refine l_q T rfl rfl rfl rfl (rn_assign rfl evc) ?_; clear T ac; intro ac T
    refine l_q T rfl rfl rfl rfl (rn_assign rfl (T.ev 1 rfl)) ?_; clear T ac; intro ac T
    refine wpList_nil ?_
    replace T := T.pick [0, 1] rfl
    replace M := M.mask [false] rfl
    refine nm_then ?_
    refine wp_ret ?_
    refine rt_then ?_
    refine rt_2 T rfl (T.ev 1 rfl) (T.ev 0 rfl) ?_
    refine ⟨?_, M.below⟩
    unfold guidedJ
    rw [if_neg h1]
  · intro h1
    refine wp_skip ?_
    refine nm_then ?_
    refine wp_seq ?_
    refine wp_region_lit ?_
    refine l_q T rfl rfl rfl rfl (rn_rowO (Mem.nth M 0 rfl) rfl (T.ev 2 rfl) rfl) ?_; clear T ac; intro ac T
    refine l_w rfl ?_; intro K hK
    refine ow_call (first := []) (cap := []) T rfl rfl rfl rfl evf (.cons (T.ev 0 rfl) .nil) Try.func76 rfl rfl ?_
    refine Calls.mono (rguided_any j _ _ _ (good_of (by simpa using h1)) (SJ.rd M (List.nil_sublist _))) ?_
    clear T
    rintro e wc ⟨rfl, hb⟩
    intro ac T
    replace M := M.call hb; clear hb
    refine sh_out hK _ _ ?_; clear hK K
    refine l_q T rfl rfl rfl rfl (rn_assign rfl (T.ev 0 rfl)) ?_; clear T ac; intro ac T
    refine wpList_nil ?_
    replace T := T.pick [0] rfl
    replace M := M.mask [false] rfl
    refine nm_then ?_
    refine wp_seq ?_
    refine wp_seq ?_
    refine wp_region_lit ?_
    refine l_q T rfl rfl rfl rfl (rn_move rfl (T.ev 0 rfl)) ?_; clear T ac; intro ac T
    refine l_q T rfl rfl rfl rfl (rn_lss rfl (T.ev 0 rfl) evc) ?_; clear T ac; intro ac T
    refine wpList_nil ?_
    replace T := T.pick [0, 2] rfl
    refine nm_then ?_
    refine wp_if (T.ev 0 rfl) ?_ ?_
    · intro h2
      refine wp_seq ?_
      refine wp_region_lit ?_
      refine l_q T rfl rfl rfl rfl (rn_assign rfl evc) ?_; clear T ac; intro ac T
      refine l_q T rfl rfl rfl rfl (rn_assign rfl evc) ?_; clear T ac; intro ac T
      refine wpList_nil ?_
      replace T := T.pick [0, 1] rfl
      refine nm_then ?_
      refine wp_ret ?_
      refine rt_then ?_
      refine rt_2 T rfl (T.ev 1 rfl) (T.ev 0 rfl) ?_
      refine ⟨?_, M.below⟩
      unfold guidedJ
      rw [if_pos h1]
      unfold gref at h2
      cases hg : guidedF j with
      | none => rfl
      | some m => rw [hg] at h2; exfalso; simp only at h2; omega
    · intro h2
      refine wp_skip ?_
      refine nm_then ?_
      refine wp_seq ?_
      refine wp_region_lit ?_
      refine l_q T rfl rfl rfl rfl (rn_move rfl (T.ev 1 rfl)) ?_; clear T ac; intro ac T
      refine l_q T rfl rfl rfl rfl (rn_assign rfl (T.ev 0 rfl)) ?_; clear T ac; intro ac T
      refine l_q T rfl rfl rfl rfl (rn_assign rfl evc) ?_; clear T ac; intro ac T
      refine wpList_nil ?_
      replace T := T.pick [0, 1] rfl
      refine nm_then ?_
      refine wp_ret ?_
      refine rt_2 T rfl (T.ev 1 rfl) (T.ev 0 rfl) ?_
      refine ⟨?_, M.below⟩
      unfold guidedJ
      rw [if_pos h1]
      unfold gref at h2 ⊢
      cases hg : guidedF j with
      | none => rw [hg] at h2; exfalso; simp only at h2; omega
      | some m => rfl

set_option maxRecDepth 100000 in
set_option maxHeartbeats 1000000 in
theorem rNext_any (j : Jb) (A : Option Addr) (c : Nat) (w : World) (hr : Rd w w.heap.size 2 A j.sh.length (rc j.sh)) (hn : j.sh.length ≤ 9223372036854775807) :
    Calls Try.prog 27 #[jobV j A c] w fun e w' => e = .returned (.tuple #[.int .i64 ((nextJ j).1), .int .i64 ((nextJ j).2.1), .int .i64 ((nextJ j).2.2)]) ∧ Below w.heap.size w w' := by
  obtain ⟨bJ, oJ, SJ⟩ := Sp.old hr
  refine px_enter noEx Try.func27 rfl 35 rfl [.agg #[.int .i64 j.p0, .int .i64 j.p1, .int .i64 j.t0, .int .i64 j.t1, .int .i64 j.r0, .int .i64 j.r1, .int .i64 j.u0, .int .i64 j.u1, .int .i64 j.d0, .int .i64 j.d1, .int .i64 j.a0, .int .i64 j.a1, .int .i64 j.b0, .int .i64 j.b1, .int .i64 j.le, .slice A j.sh.length c, .int .i64 j.wi, .int .i64 j.me]] rfl rfl (Mem.init w _) ?_
  intro ac wc T M
  refine wp_seq ?_
  refine wp_region_lit ?_
  refine l_w rfl ?_; intro K hK
  refine ow_bx M T rfl rfl rfl rfl (T.ev 0 rfl) rfl ?_; clear M T; intro g1 wc ac M T
  refine sh_out hK _ _ ?_; clear hK K
  refine l_q T rfl rfl rfl rfl (rn_assign rfl evc) ?_; clear T ac; intro ac T
  refine l_q T rfl rfl rfl rfl (rn_assign rfl evc) ?_; clear T ac; intro ac T
  refine l_q T rfl rfl rfl rfl (rn_assign rfl evc) ?_; clear T ac; intro ac T
  refine wpList_nil ?_
  replace T := T.pick [3] rfl
  refine nm_then ?_
  refine wp_seq ?_
  refine wp_seq ?_
  refine wp_region_lit ?_
  refine l_q T rfl rfl rfl rfl (rn_rowO (Mem.nth M 0 rfl) rfl (T.ev 0 rfl) rfl) ?_; clear T ac; intro ac T
  refine l_w rfl ?_; intro K hK
  refine ow_call (first := []) (cap := []) T rfl rfl rfl rfl evf (.cons (T.ev 0 rfl) .nil) Try.func50 rfl rfl ?_
  refine Calls.mono (rCheck_any j _ _ _ (SJ.rd M (List.nil_sublist _)) (by omega)) ?_
  clear T
  rintro e wc ⟨rfl, hb⟩
  intro ac T
  replace M := M.call hb; clear hb
  refine sh_out hK _ _ ?_; clear hK K
  refine l_q T rfl rfl rfl rfl (rn_assign rfl (T.ev 0 rfl)) ?_; clear T ac; intro ac T
  refine wpList_nil ?_
  replace T := T.pick [0, 3] rfl
  refine nm_then ?_
  refine wp_seq ?_
  refine wp_region_lit ?_
  refine l_q T rfl rfl rfl rfl (rn_move rfl (T.ev 0 rfl)) ?_; clear T ac; intro ac T
  refine l_q T rfl rfl rfl rfl (rn_neq rfl (T.ev 0 rfl) evc) ?_; clear T ac; intro ac T
  refine wpList_nil ?_
  replace T := T.pick [0, 2, 3] rfl
  refine nm_then ?_
  refine wp_ifn (T.ev 0 rfl) ?_ ?_
  · intro h1
    refine wp_seq ?_
    refine wp_region_lit ?_
    refine l_q T rfl rfl rfl rfl (rn_move rfl (T.ev 1 rfl)) ?_; clear T ac; intro ac T
    refine l_q T rfl rfl rfl rfl (rn_assign rfl evc) ?_; clear T ac; intro ac T
    refine l_q T rfl rfl rfl rfl (rn_assign rfl evc) ?_; clear T ac; intro ac T
    refine l_q T rfl rfl rfl rfl (rn_assign rfl (T.ev 2 rfl)) ?_; clear T ac; intro ac T
    refine wpList_nil ?_
    replace T := T.pick [0, 1, 2] rfl
    replace M := M.mask [false] rfl
    refine nm_then ?_
    refine wp_ret ?_
    refine rt_then ?_
    refine rt_3 T rfl (T.ev 2 rfl) (T.ev 1 rfl) (T.ev 0 rfl) ?_
    refine ⟨?_, M.below⟩
    unfold nextJ
    rw [if_neg h1]
  · intro h1
    have hj := good_of h1
    refine wp_skip ?_
    refine nm_then ?_
    refine wp_seq ?_
    refine wp_seq ?_
    refine g_start2 M (M.mask [true] rfl) 6 (by kernel_rfl) rfl (by kernel_rfl) ?_
    clear M; intro wc M
    refine g_q (v := (.pointer (some ⟨g1, 0, none⟩))) (T := T) (i := 0) rfl (by kernel_rfl) (by kernel_rfl : (pbits 6 0).setIfInBounds 0 true = pbits 6 1) si_U (fun _ _ _ h => h) rfl rfl rfl rfl (fun _ _ _ _ _ => (rn_fieldAddr (off := 0) rfl (T.ev 2 rfl) (fun _ _ _ => by kernel_rfl))) ?_; clear T ac; intro ac T
    refine g_q (v := (.pointer (some ⟨g1, 0, none⟩))) (T := T) (i := 1) rfl (by kernel_rfl) (by kernel_rfl : (pbits 6 1).setIfInBounds 1 true = pbits 6 3) si_U (fun _ _ _ h => h) rfl rfl rfl rfl (fun _ _ _ _ _ => (rn_fieldAddr (off := 0) rfl (T.ev 0 rfl) (fun _ _ _ => by kernel_rfl))) ?_; clear T ac; intro ac T
    refine g_q (T := T) (i := 2) rfl (by kernel_rfl) (by kernel_rfl : (pbits 6 3).setIfInBounds 2 true = pbits 6 7) si_U (fun _ _ _ h => h) rfl rfl rfl rfl (fun B w' hD hl hS => (rn_rowO (Mem.nth (show Mem w noEx w' _ from hS) 0 rfl) rfl (T.ev 0 rfl) rfl)) ?_; clear T ac; intro ac T
    refine g_q (T := T) (i := 3) rfl (by kernel_rfl) (by kernel_rfl : (pbits 6 7).setIfInBounds 3 true = pbits 6 15) si_U (fun _ _ _ h => h) rfl rfl rfl rfl (fun B w' hD hl hS => (rn_rowO (Mem.nth (show Mem w noEx w' _ from hS) 0 rfl) rfl (T.ev 5 rfl) rfl)) ?_; clear T ac; intro ac T
    refine g_w (i := 4) (by kernel_rfl) rfl (by kernel_rfl : (pbits 6 15).setIfInBounds 4 true = pbits 6 31) rfl ?_; intro K hK
    refine ow_call (first := []) (cap := []) T rfl rfl rfl rfl evf (.cons (T.ev 0 rfl) .nil) Try.func80 rfl rfl ?_
    refine Calls.mono (rwindow_any j _ _ _ hj (SJ.rd M (List.nil_sublist _))) ?_
    clear T
    rintro e wc ⟨rfl, hb⟩
    intro ac T
    replace M := M.call hb; clear hb
    refine sh_out hK _ _ (M.mask [true] rfl) ?_; clear hK K
    refine g_w (i := 5) (by kernel_rfl) rfl (by kernel_rfl : (pbits 6 31).setIfInBounds 5 true = pbits 6 63) rfl ?_; intro K hK
    refine ow_call (first := []) (cap := []) T rfl rfl rfl rfl evf (.cons (T.ev 2 rfl) (.cons (T.ev 0 rfl) .nil)) Try.func79 rfl rfl ?_
    refine Calls.mono (inside_any j.p0 j.p1 (rwin j).1 (rwin j).2 _) ?_
    clear T
    rintro e wc ⟨rfl, hb⟩
    intro ac T
    replace M := M.call hb; clear hb
    refine sh_out hK _ _ (M.mask [true] rfl) ?_; clear hK K
    refine g_done (by kernel_rfl) ?_
    replace T := T.pick [0, 8] rfl
    refine nm_then ?_
    refine wp_cond_split (T.ev 0 rfl) ?_ ?_
    · intro h2
      refine wp_seq ?_
      refine wp_region_lit ?_
      refine l_q T rfl rfl rfl rfl (rn_assign rfl evc) ?_; clear T ac; intro ac T
      refine l_q T rfl rfl rfl rfl (rn_assign rfl evc) ?_; clear T ac; intro ac T
      refine l_q T rfl rfl rfl rfl (rn_assign rfl evc) ?_; clear T ac; intro ac T
      refine wpList_nil ?_
      replace T := T.pick [0, 1, 2] rfl
      replace M := M.mask [false] rfl
      refine nm_then ?_
      refine wp_ret ?_
      refine rt_then ?_
      refine rt_3 T rfl (T.ev 2 rfl) (T.ev 1 rfl) (T.ev 0 rfl) ?_
      rw [rwin_eq] at h2
      have H : nextF j = some 0 := first_hit (b := fun n => stopsP j (winS j).1 (winS j).2 n j.p0 j.p1 0 0) (n := 0) (by omega) (by show hasB _ _ _ _ = true; simpa using h2)
      refine ⟨?_, M.below⟩
      unfold nextJ
      rw [if_pos h1, H]
      rfl
    · intro h2
      refine wp_skip ?_
      refine nm_then ?_
      refine wp_seq ?_
      refine wp_seq ?_
      refine wp_region_lit ?_
      refine l_q T rfl rfl rfl rfl (rn_assign rfl evc) ?_; clear T ac; intro ac T
      refine wpList_nil ?_
      replace T := T.pick [0, 2] rfl
      refine nm_then ?_
      refine wp_block ?_
      refine wp_loop_n (fun mz ac wc => ∃ (m : Nat), mz = 4 - m ∧ (m ≤ 4) ∧ (nextF j = firstB (fun n => stopsP j (winS j).1 (winS j).2 n j.p0 j.p1 0 0) (5 - (m + 1)) (m + 1)) ∧ Tm ac 35 [(1, .pointer (some ⟨g1, 0, none⟩)), (6, .int .i64 ((m + 1 : Nat) : Int))] ∧ Mem w noEx wc [(g1, .cells (jobL j A c))]) ?_ ?_
      · exact ⟨_, 0, rfl, (by omega), (by rw [rwin_eq] at h2; exact first_miss (b := fun n => stopsP j (winS j).1 (winS j).2 n j.p0 j.p1 0 0) (n := 0) (by omega) (by show hasB _ _ _ _ = false; simpa using h2)), T.pick [1, 0] rfl, M.mask [true] rfl⟩
      · clear T M
        rintro mz ac wc ⟨m, hmm1, hm, H, T, M⟩
        refine wp_seq ?_
        refine wp_seq ?_
        refine wp_region_lit ?_
        refine l_q T rfl rfl rfl rfl (rn_move rfl (T.ev 1 rfl)) ?_; clear T ac; intro ac T
        refine l_q T rfl rfl rfl rfl (rn_leq rfl (T.ev 0 rfl) evc) ?_; clear T ac; intro ac T
        refine wpList_nil ?_
        replace T := T.pick [0, 2, 3] rfl
        refine nm_then ?_
        refine wp_if (T.ev 0 rfl) ?_ ?_
        · intro h3
          have hst1 : stopsP j (winS j).1 (winS j).2 (m + 1) j.p0 j.p1 0 0 = (hasB (winS j).1 (winS j).2 j.p0 j.p1 || ((okT j (0 + 1) 0 && readsP j (winS j).1 (winS j).2 m (j.p0 + j.u0) (j.p1 + j.u1) (0 + 1) 0) || (okT j 0 (0 + 1) && readsP j (winS j).1 (winS j).2 m (j.p0 - j.d1) (j.p1 - j.d0) 0 (0 + 1)))) := rfl
          rw [show hasB (winS j).1 (winS j).2 j.p0 j.p1 = false by rw [rwin_eq] at h2; simpa using h2, Bool.false_or] at hst1
          refine wp_skip ?_
          refine nm_then ?_
          refine wp_seq ?_
          refine wp_block ?_
          refine wp_seq ?_
          refine wp_region_lit ?_
          refine l_q T rfl rfl rfl rfl (rn_assign rfl evc) ?_; clear T ac; intro ac T
          refine wpList_nil ?_
          replace T := T.pick [0, 2, 3] rfl
          refine nm_then ?_
          refine wp_block ?_
          refine wp_loop_rounds 3 ?_
          refine rounds_S ?_
          refine wp_seq ?_
          refine wp_seq ?_
          refine wp_region_lit ?_
          refine l_q T rfl rfl rfl rfl (rn_move rfl (T.ev 0 rfl)) ?_; clear T ac; intro ac T
          refine l_q (v := (.bool true)) T rfl rfl rfl rfl (rn_neqof (rn_leq rfl (T.ev 0 rfl) evc) (by simp)) ?_; clear T ac; intro ac T
          refine wpList_nil ?_
          replace T := T.pick [0, 2, 3, 4] rfl
          refine nm_then ?_
          refine wp_cond_true (T.ev 0 rfl) ?_
          refine wp_skip ?_
          refine nm_then ?_
          refine wp_seq ?_
          refine wp_block ?_
          refine wp_seq ?_
          refine wp_region_lit ?_
          refine l_q T rfl rfl rfl rfl (rn_rowO (Mem.nth M 0 rfl) rfl (T.ev 2 rfl) rfl) ?_; clear T ac; intro ac T
          refine l_q (v := (.pointer (some ⟨g1, 0, none⟩))) T rfl rfl rfl rfl (rn_fieldAddr (off := 0) rfl (T.ev 3 rfl) (fun _ _ _ => by kernel_rfl)) ?_; clear T ac; intro ac T
          refine l_q T rfl rfl rfl rfl (rn_rowO (Mem.nth M 0 rfl) rfl (T.ev 0 rfl) rfl) ?_; clear T ac; intro ac T
          refine l_q T rfl rfl rfl rfl (rn_move rfl (T.ev 4 rfl)) ?_; clear T ac; intro ac T
          refine l_q T rfl rfl rfl rfl (rn_move rfl (T.ev 7 rfl)) ?_; clear T ac; intro ac T
          refine l_w rfl ?_; intro K hK
          refine ow_call (first := []) (cap := []) T rfl rfl rfl rfl evf (.cons (T.ev 4 rfl) (.cons (T.ev 2 rfl) (.cons (T.ev 1 rfl) (.cons (T.ev 0 rfl) .nil)))) Try.func81 rfl rfl ?_
          refine Calls.mono (Calls.cast (by rw [thin_zero]; rfl) (makes_1 j _ _ m j.p0 j.p1 0 0 _ hj (bnd_zero hj (by omega)) (SJ.rd M (List.nil_sublist _)) (knows_any hj _ _ m).2)) ?_
          clear T
          rintro e wc ⟨rfl, hb⟩
          intro ac T
          replace M := M.call hb; clear hb
          refine sh_out hK _ _ ?_; clear hK K
          refine wpList_nil ?_
          replace T := T.pick [0, 7, 8, 9] rfl
          refine nm_then ?_
          refine wp_cond_split (T.ev 0 rfl) ?_ ?_
          · intro h4
            refine wp_seq ?_
            refine wp_region_lit ?_
            refine l_q T rfl rfl rfl rfl (rn_move rfl (T.ev 1 rfl)) ?_; clear T ac; intro ac T
            refine l_q T rfl rfl rfl rfl (rn_move rfl (T.ev 4 rfl)) ?_; clear T ac; intro ac T
            refine l_q T rfl rfl rfl rfl (rn_assign rfl (T.ev 1 rfl)) ?_; clear T ac; intro ac T
            refine l_q T rfl rfl rfl rfl (rn_assign rfl (T.ev 1 rfl)) ?_; clear T ac; intro ac T
            refine l_q T rfl rfl rfl rfl (rn_assign rfl evc) ?_; clear T ac; intro ac T
            refine wpList_nil ?_
            replace T := T.pick [0, 1, 2] rfl
            replace M := M.mask [false] rfl
            refine nm_then ?_
            refine wp_ret ?_
            refine rt_blk ?_
            refine rt_then ?_
            refine rt_then ?_
            refine rt_blk ?_
            refine rt_blk ?_
            refine rt_then ?_
            refine rt_then ?_
            refine rt_blk ?_
            refine rt_then ?_
            refine rt_3 T rfl (T.ev 2 rfl) (T.ev 1 rfl) (T.ev 0 rfl) ?_
            have hA : (okT j (0 + 1) 0 && readsP j (winS j).1 (winS j).2 m (j.p0 + j.u0) (j.p1 + j.u1) (0 + 1) 0) = true := by simpa using h4
            rw [hA] at hst1
            rw [first_hit (by omega) (by rw [hst1]; rfl)] at H
            have hs : strokeP j (winS j).1 (winS j).2 (m + 1) j.p0 j.p1 0 0 = 1 := if_pos hA
            refine ⟨?_, M.below⟩
            unfold nextJ
            rw [if_pos h1, H]
            simp only [Nat.add_one_ne_zero, if_false, hs]
          · intro h4
            refine wp_skip ?_
            refine nm_blk ?_
            refine nm_then ?_
            refine wp_region_lit ?_
            refine l_q T rfl rfl rfl rfl (rn_move rfl (T.ev 1 rfl)) ?_; clear T ac; intro ac T
            refine l_q (v := (.int .i64 2)) T rfl rfl rfl rfl (rn_ofI (rn_add rfl (T.ev 0 rfl) evc (by omega)) (by rfl)) ?_; clear T ac; intro ac T
            refine l_q (v := (.int .i64 2)) (T.pick [0, 1, 2, 4, 5] rfl) rfl rfl rfl rfl (rn_assign rfl (T.ev 0 rfl)) ?_; clear T ac; intro ac T
            refine wpList_nil ?_
            replace T := T.pick [0, 4, 5] rfl
            refine nm_then ?_
            refine rounds_S ?_
            refine wp_seq ?_
            refine wp_seq ?_
            refine wp_region_lit ?_
            refine l_q T rfl rfl rfl rfl (rn_move rfl (T.ev 0 rfl)) ?_; clear T ac; intro ac T
            refine l_q (v := (.bool true)) T rfl rfl rfl rfl (rn_neqof (rn_leq rfl (T.ev 0 rfl) evc) (by simp)) ?_; clear T ac; intro ac T
            refine wpList_nil ?_
            replace T := T.pick [0, 2, 3, 4] rfl
            refine nm_then ?_
            refine wp_cond_true (T.ev 0 rfl) ?_
            refine wp_skip ?_
            refine nm_then ?_
            refine wp_seq ?_
            refine wp_block ?_
            refine wp_seq ?_
            refine wp_region_lit ?_
            refine l_q T rfl rfl rfl rfl (rn_rowO (Mem.nth M 0 rfl) rfl (T.ev 2 rfl) rfl) ?_; clear T ac; intro ac T
            refine l_q (v := (.pointer (some ⟨g1, 0, none⟩))) T rfl rfl rfl rfl (rn_fieldAddr (off := 0) rfl (T.ev 3 rfl) (fun _ _ _ => by kernel_rfl)) ?_; clear T ac; intro ac T
            refine l_q T rfl rfl rfl rfl (rn_rowO (Mem.nth M 0 rfl) rfl (T.ev 0 rfl) rfl) ?_; clear T ac; intro ac T
            refine l_q T rfl rfl rfl rfl (rn_move rfl (T.ev 4 rfl)) ?_; clear T ac; intro ac T
            refine l_q T rfl rfl rfl rfl (rn_move rfl (T.ev 7 rfl)) ?_; clear T ac; intro ac T
            refine l_w rfl ?_; intro K hK
            refine ow_call (first := []) (cap := []) T rfl rfl rfl rfl evf (.cons (T.ev 4 rfl) (.cons (T.ev 2 rfl) (.cons (T.ev 1 rfl) (.cons (T.ev 0 rfl) .nil)))) Try.func81 rfl rfl ?_
            refine Calls.mono (Calls.cast (by rw [thin_zero]; rfl) (makes_2 j _ _ m j.p0 j.p1 0 0 _ hj (bnd_zero hj (by omega)) (SJ.rd M (List.nil_sublist _)) (knows_any hj _ _ m).2)) ?_
            clear T
            rintro e wc ⟨rfl, hb⟩
            intro ac T
            replace M := M.call hb; clear hb
            refine sh_out hK _ _ ?_; clear hK K
            refine wpList_nil ?_
            replace T := T.pick [0, 7, 8, 9] rfl
            refine nm_then ?_
            refine wp_cond_split (T.ev 0 rfl) ?_ ?_
            · intro h5
              refine wp_seq ?_
              refine wp_region_lit ?_
              refine l_q T rfl rfl rfl rfl (rn_move rfl (T.ev 1 rfl)) ?_; clear T ac; intro ac T
              refine l_q T rfl rfl rfl rfl (rn_move rfl (T.ev 4 rfl)) ?_; clear T ac; intro ac T
              refine l_q T rfl rfl rfl rfl (rn_assign rfl (T.ev 1 rfl)) ?_; clear T ac; intro ac T
              refine l_q T rfl rfl rfl rfl (rn_assign rfl (T.ev 1 rfl)) ?_; clear T ac; intro ac T
              refine l_q T rfl rfl rfl rfl (rn_assign rfl evc) ?_; clear T ac; intro ac T
              refine wpList_nil ?_
              replace T := T.pick [0, 1, 2] rfl
              replace M := M.mask [false] rfl
              refine nm_then ?_
              refine wp_ret ?_
              refine rt_blk ?_
              refine rt_then ?_
              refine rt_then ?_
              refine rt_blk ?_
              refine rt_blk ?_
              refine rt_then ?_
              refine rt_then ?_
              refine rt_blk ?_
              refine rt_then ?_
              refine rt_3 T rfl (T.ev 2 rfl) (T.ev 1 rfl) (T.ev 0 rfl) ?_
              have hA : (okT j (0 + 1) 0 && readsP j (winS j).1 (winS j).2 m (j.p0 + j.u0) (j.p1 + j.u1) (0 + 1) 0) = false := by simpa using h4
              have hB : (okT j 0 (0 + 1) && readsP j (winS j).1 (winS j).2 m (j.p0 - j.d1) (j.p1 - j.d0) 0 (0 + 1)) = true := by simpa using h5
              rw [hA, hB] at hst1
              rw [first_hit (by omega) (by rw [hst1]; rfl)] at H
              have hs : strokeP j (winS j).1 (winS j).2 (m + 1) j.p0 j.p1 0 0 = 2 := (if_neg (by rw [hA]; simp)).trans (if_pos hB)
              refine ⟨?_, M.below⟩
              unfold nextJ
              rw [if_pos h1, H]
              simp only [Nat.add_one_ne_zero, if_false, hs]
            · intro h5
              refine wp_skip ?_
              refine nm_blk ?_
              refine nm_then ?_
              refine wp_region_lit ?_
              refine l_q T rfl rfl rfl rfl (rn_move rfl (T.ev 1 rfl)) ?_; clear T ac; intro ac T
              refine l_q (v := (.int .i64 3)) T rfl rfl rfl rfl (rn_ofI (rn_add rfl (T.ev 0 rfl) evc (by omega)) (by rfl)) ?_; clear T ac; intro ac T
              refine l_q (v := (.int .i64 3)) (T.pick [0, 1, 2, 4, 5] rfl) rfl rfl rfl rfl (rn_assign rfl (T.ev 0 rfl)) ?_; clear T ac; intro ac T
              refine wpList_nil ?_
              replace T := T.pick [0, 4, 5] rfl
              refine nm_then ?_
              refine rounds_S ?_
              refine wp_seq ?_
              refine wp_seq ?_
              refine wp_region_lit ?_
              refine l_q T rfl rfl rfl rfl (rn_move rfl (T.ev 0 rfl)) ?_; clear T ac; intro ac T
              refine l_q (v := (.bool false)) T rfl rfl rfl rfl (rn_neqof (rn_leq rfl (T.ev 0 rfl) evc) (by simp)) ?_; clear T ac; intro ac T
              refine wpList_nil ?_
              replace T := T.pick [0, 2, 3, 4] rfl
              refine nm_then ?_
              refine wp_cond_false (T.ev 0 rfl) ?_
              refine wp_exit ?_
              refine ex_then ?_
              refine ex_then ?_
              refine ex_hit ?_
              refine nm_blk ?_
              refine nm_then ?_
              refine wp_region_lit ?_
              refine l_q T rfl rfl rfl rfl (rn_move rfl (T.ev 3 rfl)) ?_; clear T ac; intro ac T
              refine l_q T rfl rfl rfl rfl (rn_add rfl (T.ev 0 rfl) evc (by omega)) ?_; clear T ac; intro ac T
              refine l_q (v := (.int .i64 (((m + 1 : Nat) : Int) + 1))) (T.pick [0, 1, 2, 3, 4] rfl) rfl rfl rfl rfl (rn_assign rfl (T.ev 0 rfl)) ?_; clear T ac; intro ac T
              refine wpList_nil ?_
              replace T := T.pick [0, 5] rfl
              refine nm_then ?_
              rw [show (okT j (0 + 1) 0 && readsP j (winS j).1 (winS j).2 m (j.p0 + j.u0) (j.p1 + j.u1) (0 + 1) 0) = false by simpa using h4, show (okT j 0 (0 + 1) && readsP j (winS j).1 (winS j).2 m (j.p0 - j.d1) (j.p1 - j.d0) 0 (0 + 1)) = false by simpa using h5] at hst1
              rw [first_miss (by omega) hst1] at H
              exact ⟨_, by omega, (m + 1), rfl, (by omega), H, T.pick [1, 0] rfl, M.mask [true] rfl⟩
        · intro h3
          refine wp_exit ?_
          refine ex_then ?_
          refine ex_then ?_
          refine ex_hit ?_
          refine nm_then ?_
          refine wp_seq ?_
          refine wp_region_lit ?_
          refine l_q T rfl rfl rfl rfl (rn_assign rfl evc) ?_; clear T ac; intro ac T
          refine l_q T rfl rfl rfl rfl (rn_assign rfl evc) ?_; clear T ac; intro ac T
          refine l_q T rfl rfl rfl rfl (rn_assign rfl evc) ?_; clear T ac; intro ac T
          refine wpList_nil ?_
          replace T := T.pick [0, 1, 2] rfl
          replace M := M.mask [false] rfl
          refine nm_then ?_
          refine wp_ret ?_
          refine rt_3 T rfl (T.ev 2 rfl) (T.ev 1 rfl) (T.ev 0 rfl) ?_
          rw [first_end (by omega)] at H
          refine ⟨?_, M.below⟩
          unfold nextJ
          rw [if_pos h1, H]

end Go.Proofs.Ythlpceoajhcliaa
end

section
/-
  Blank, by the program and by ref1.
-/
namespace Go.Proofs.Ythlpceoajhcliaa
set_option linter.unusedSimpArgs false
set_option linter.unusedVariables false
open Go.RowKit

def bestF : List JE → Int → Int × Int → Int × Int
  | [], _, a => a
  | x :: r, i, a => bestF r (i + 1) (if (guidedJ x.1).2 = 0 ∧ (a.1 < 0 ∨ (guidedJ x.1).1 < a.2) then (i, (guidedJ x.1).1) else a)
def chkJs : List JE → Int
  | [] => 0
  | x :: r => if checkJ x.1 = 0 then chkJs r else checkJ x.1
def blankT (L : List JE) : Int × Int × Int := if L.length = 0 then (0, 0, 7) else if 6 < L.length then (0, 0, 6) else if chkJs L = 0 then (if (bestF L 0 (-1, 0)).1 < 0 then (0, 0, 11) else ((bestF L 0 (-1, 0)).1, (bestF L 0 (-1, 0)).2, 0)) else (0, 0, chkJs L)
theorem best_step (g e a b i : Int) : (if e = 0 ∧ (a < 0 ∨ g < b) then (i, g) else (a, b)) = (bif decide (e = 0) && (decide (a < 0) || decide (g < b)) then i else a, bif decide (e = 0) && (decide (a < 0) || decide (g < b)) then g else b) := by
  by_cases c1 : e = 0 <;> by_cases c2 : a < 0 <;> by_cases c3 : g < b <;> simp [c1, c2, c3]
theorem jel {L : List JE} {k : Nat} (h : k < L.length) : ∃ j A c, L[k]? = some (j, A, c) ∧ L.drop k = (j, A, c) :: L.drop (k + 1) := ⟨L[k].1, L[k].2.1, L[k].2.2, List.getElem?_eq_getElem h, List.drop_eq_getElem_cons h⟩


set_option maxRecDepth 100000 in
set_option maxHeartbeats 1000000 in
theorem blankNum_any (j : Jb) (A : Option Addr) (c : Nat) (w : World) (hr : Rd w w.heap.size 2 A j.sh.length (rc j.sh)) (hn : j.sh.length ≤ 9223372036854775807) :
    Calls Try.prog 102 #[jobV j A c] w fun e w' => e = .returned (.tuple #[.int .i64 ((guidedJ j).1), .bool (decide ((guidedJ j).2 = 0))]) ∧ Below w.heap.size w w' := by
  obtain ⟨bJ, oJ, SJ⟩ := Sp.old hr
  refine px_enter noEx Try.func102 rfl 14 rfl [.agg #[.int .i64 j.p0, .int .i64 j.p1, .int .i64 j.t0, .int .i64 j.t1, .int .i64 j.r0, .int .i64 j.r1, .int .i64 j.u0, .int .i64 j.u1, .int .i64 j.d0, .int .i64 j.d1, .int .i64 j.a0, .int .i64 j.a1, .int .i64 j.b0, .int .i64 j.b1, .int .i64 j.le, .slice A j.sh.length c, .int .i64 j.wi, .int .i64 j.me]] rfl rfl (Mem.init w _) ?_
  intro ac wc T M
  refine wp_seq ?_
  refine wp_region_lit ?_
  refine l_w rfl ?_; intro K hK
  refine ow_bx M T rfl rfl rfl rfl (T.ev 0 rfl) rfl ?_; clear M T; intro g1 wc ac M T
  refine sh_out hK _ _ ?_; clear hK K
  refine l_q T rfl rfl rfl rfl (rn_assign rfl evc) ?_; clear T ac; intro ac T
  refine l_q T rfl rfl rfl rfl (rn_assign rfl evc) ?_; clear T ac; intro ac T
  refine wpList_nil ?_
  replace T := T.pick [2] rfl
  refine nm_then ?_
  refine wp_seq ?_
  refine wp_region_lit ?_
  refine l_q T rfl rfl rfl rfl (rn_rowO (Mem.nth M 0 rfl) rfl (T.ev 0 rfl) rfl) ?_; clear T ac; intro ac T
  refine l_w rfl ?_; intro K hK
  refine ow_call (first := []) (cap := []) T rfl rfl rfl rfl evf (.cons (T.ev 0 rfl) .nil) Try.func24 rfl rfl ?_
  refine Calls.mono (Guided_any j _ _ _ (SJ.rd M (List.nil_sublist _)) (by omega)) ?_
  clear T
  rintro e wc ⟨rfl, hb⟩
  intro ac T
  replace M := M.call hb; clear hb
  refine sh_out hK _ _ ?_; clear hK K
  refine l_q T rfl rfl rfl rfl (rn_move rfl (T.ev 0 rfl)) ?_; clear T ac; intro ac T
  refine l_q T rfl rfl rfl rfl (rn_extract rfl (T.ev 0 rfl) rfl) ?_; clear T ac; intro ac T
  refine l_q T rfl rfl rfl rfl (rn_extract rfl (T.ev 1 rfl) rfl) ?_; clear T ac; intro ac T
  refine l_q T rfl rfl rfl rfl (rn_assign rfl (T.ev 1 rfl)) ?_; clear T ac; intro ac T
  refine l_q T rfl rfl rfl rfl (rn_assign rfl (T.ev 1 rfl)) ?_; clear T ac; intro ac T
  refine wpList_nil ?_
  replace T := T.pick [0, 1] rfl
  replace M := M.mask [false] rfl
  refine nm_then ?_
  refine wp_seq ?_
  refine wp_region_lit ?_
  refine l_q T rfl rfl rfl rfl (rn_move rfl (T.ev 1 rfl)) ?_; clear T ac; intro ac T
  refine l_q T rfl rfl rfl rfl (rn_move rfl (T.ev 1 rfl)) ?_; clear T ac; intro ac T
  refine l_q T rfl rfl rfl rfl (rn_eql rfl (T.ev 0 rfl) evc) ?_; clear T ac; intro ac T
  refine l_q T rfl rfl rfl rfl (rn_assign rfl (T.ev 2 rfl)) ?_; clear T ac; intro ac T
  refine l_q T rfl rfl rfl rfl (rn_assign rfl (T.ev 1 rfl)) ?_; clear T ac; intro ac T
  refine wpList_nil ?_
  replace T := T.pick [0, 1] rfl
  refine nm_then ?_
  refine wp_ret ?_
  refine rt_2 T rfl (T.ev 1 rfl) (T.ev 0 rfl) ?_
  exact ⟨rfl, M.below⟩

set_option maxRecDepth 100000 in
set_option maxHeartbeats 1000000 in
theorem best_any (A : Option Addr) (c : Nat) (L : List JE) (w : World) (hr : Rd w w.heap.size 18 A L.length (jc L)) (hE : ∀ x ∈ L, Rd w w.heap.size 2 x.2.1 x.1.sh.length (rc x.1.sh) ∧ x.1.sh.length ≤ 9223372036854775807) (hn : L.length ≤ 9223372036854775807) :
    Calls Try.prog 101 #[.slice A L.length c, .func (.func 102) #[] #[]] w fun e w' => e = .returned (.tuple #[.int .i64 ((bestF L 0 (-1, 0)).1), .int .i64 ((bestF L 0 (-1, 0)).2)]) ∧ Below w.heap.size w w' := by
  obtain ⟨bL, oL, SL⟩ := Sp.old hr
  refine px_enter noEx Try.func101 rfl 38 rfl [.slice A L.length c, .func (.func 102) #[] #[]] rfl rfl (Mem.init w _) ?_
  intro ac wc T M
  refine wp_seq ?_
  refine wp_region_lit ?_
  refine l_q T rfl rfl rfl rfl (rn_assign rfl evc) ?_; clear T ac; intro ac T
  refine l_q T rfl rfl rfl rfl (rn_assign rfl evc) ?_; clear T ac; intro ac T
  refine wpList_nil ?_
  replace T := T.pick [0, 2, 3] rfl
  refine nm_then ?_
  refine wp_seq ?_
  refine wp_region_lit ?_
  refine l_q T rfl rfl rfl rfl (rn_assign rfl evc) ?_; clear T ac; intro ac T
  refine wpList_nil ?_
  refine nm_then ?_
  refine wp_seq ?_
  refine wp_seq ?_
  refine wp_region_lit ?_
  refine l_q T rfl rfl rfl rfl (rn_move rfl (T.ev 2 rfl)) ?_; clear T ac; intro ac T
  refine l_q T rfl rfl rfl rfl (rn_lenS rfl Try.underlying36 (T.ev 0 rfl)) ?_; clear T ac; intro ac T
  refine l_q T rfl rfl rfl rfl (rn_move rfl evc) ?_; clear T ac; intro ac T
  refine wpList_nil ?_
  replace T := T.pick [0, 1, 2, 3, 4, 6] rfl
  refine nm_then ?_
  refine wp_block ?_
  refine wp_loop_n (fun mz ac wc => ∃ (k : Nat) (a b : Int), mz = L.length - k ∧ (k ≤ L.length) ∧ (bestF L 0 (-1, 0) = bestF (L.drop k) k (a, b)) ∧ Tm ac 38 [(1, .func (.func 102) #[] #[]), (4, .int .i64 a), (5, .int .i64 b), (10, .slice A L.length c), (11, .int .i64 ((L.length : Nat) : Int)), (12, .int .i64 (k : Int))] ∧ Mem w noEx wc []) ?_ ?_
  · exact ⟨_, 0, (-1), 0, rfl, (by omega), rfl, T.pick [5, 3, 4, 2, 1, 0] rfl, M.mask [] rfl⟩
  · clear T M
    rintro mz ac wc ⟨k, a, b, hmm1, hk, H, T, M⟩
    refine wp_seq ?_
    refine wp_region_lit ?_
    refine l_q T rfl rfl rfl rfl (rn_lss rfl (T.ev 5 rfl) (T.ev 4 rfl)) ?_; clear T ac; intro ac T
    refine wpList_nil ?_
    refine nm_then ?_
    refine wp_seq ?_
    refine wp_if (T.ev 0 rfl) ?_ ?_
    · intro h1
      obtain ⟨jx, Ax, cx, hkx, hd⟩ := jel (L := L) (k := k) (by omega)
      obtain ⟨hrx, hfx⟩ := hE _ (List.mem_of_getElem? hkx)
      replace hrx : Rd w w.heap.size 2 Ax jx.sh.length (rc jx.sh) := hrx
      replace hfx : jx.sh.length ≤ 9223372036854775807 := hfx
      obtain ⟨bx, ox, Sx⟩ := Sp.old hrx
      rw [hd] at H
      refine wp_skip ?_
      refine nm_then ?_
      refine cut_seq (fun ac wc => Tm ac 38 [(1, .func (.func 102) #[] #[]), (4, .int .i64 (bif ((decide ((guidedJ jx).2 = 0)) && ((decide (a < 0)) || (decide (((guidedJ jx).1) < b)))) then (k : Int) else a)), (5, .int .i64 (bif ((decide ((guidedJ jx).2 = 0)) && ((decide (a < 0)) || (decide (((guidedJ jx).1) < b)))) then (guidedJ jx).1 else b)), (10, .slice A L.length c), (11, .int .i64 ((L.length : Nat) : Int)), (12, .int .i64 (k : Int))] ∧ Mem w noEx wc []) ?_ ?_
      · refine wp_block ?_
        refine wp_seq ?_
        refine wp_region_lit ?_
        refine l_q T rfl rfl rfl rfl (rn_move rfl (T.ev 6 rfl)) ?_; clear T ac; intro ac T
        refine l_q T rfl rfl rfl rfl (rn_indexAddr (size := 18) k rfl (T.ev 5 rfl) (T.ev 7 rfl) ⟨_, Try.underlying36, by kernel_rfl⟩ rfl (by omega) (SL.at0 (by omega))) ?_; clear T ac; intro ac T
        refine l_q (v := (.agg #[.int .i64 jx.p0, .int .i64 jx.p1, .int .i64 jx.t0, .int .i64 jx.t1, .int .i64 jx.r0, .int .i64 jx.r1, .int .i64 jx.u0, .int .i64 jx.u1, .int .i64 jx.d0, .int .i64 jx.d1, .int .i64 jx.a0, .int .i64 jx.a1, .int .i64 jx.b0, .int .i64 jx.b1, .int .i64 jx.le, .slice Ax jx.sh.length cx, .int .i64 jx.wi, .int .i64 jx.me])) T rfl rfl rfl rfl (rn_rowat (Sp.jcR SL M (List.nil_sublist _) hkx) rfl (T.ev 0 rfl) rfl) ?_; clear T ac; intro ac T
        refine l_w rfl ?_; intro K hK
        refine ow_al M T rfl rfl rfl rfl ?_; clear M T; intro g1 wc ac M T
        refine sh_out hK _ _ ?_; clear hK K
        refine l_q T rfl rfl rfl rfl (rn_assign rfl (T.ev 3 rfl)) ?_; clear T ac; intro ac T
        refine l_w rfl ?_; intro K hK
        refine ow_stO M T rfl rfl (T.ev 1 rfl) (T.ev 2 rfl) rfl .head rfl (by simp) rfl (by kernel_rfl) ?_; clear M T; intro wc ac M T
        refine sh_out hK _ _ ?_; clear hK K
        refine wpList_nil ?_
        replace T := T.pick [0, 1, 6, 7, 8, 9, 10, 11] rfl
        refine nm_then ?_
        refine wp_seq ?_
        refine wp_region_lit ?_
        refine l_q T rfl rfl rfl rfl (rn_move rfl (T.ev 2 rfl)) ?_; clear T ac; intro ac T
        refine l_q T rfl rfl rfl rfl (rn_rowO (Mem.nth M 0 rfl) rfl (T.ev 2 rfl) rfl) ?_; clear T ac; intro ac T
        refine l_w rfl ?_; intro K hK
        refine ow_call (first := []) (cap := []) T rfl rfl rfl rfl (T.ev 1 rfl) (.cons (T.ev 0 rfl) .nil) Try.func102 rfl rfl ?_
        refine Calls.mono (blankNum_any jx _ _ _ (Sx.rd M (List.nil_sublist _)) (by omega)) ?_
        clear T
        rintro e wc ⟨rfl, hb⟩
        intro ac T
        replace M := M.call hb; clear hb
        refine sh_out hK _ _ ?_; clear hK K
        refine l_q T rfl rfl rfl rfl (rn_move rfl (T.ev 0 rfl)) ?_; clear T ac; intro ac T
        refine l_q T rfl rfl rfl rfl (rn_extract rfl (T.ev 0 rfl) rfl) ?_; clear T ac; intro ac T
        refine l_q T rfl rfl rfl rfl (rn_extract rfl (T.ev 1 rfl) rfl) ?_; clear T ac; intro ac T
        refine l_q T rfl rfl rfl rfl (rn_assign rfl (T.ev 1 rfl)) ?_; clear T ac; intro ac T
        refine l_q T rfl rfl rfl rfl (rn_assign rfl (T.ev 1 rfl)) ?_; clear T ac; intro ac T
        refine wpList_nil ?_
        replace T := T.pick [0, 1, 8, 10, 11, 12, 13, 14, 15] rfl
        replace M := M.mask [false] rfl
        refine nm_then ?_
        refine cut_seq (fun ac wc => Tm ac 38 [(1, .func (.func 102) #[] #[]), (4, .int .i64 a), (5, .int .i64 b), (6, .int .i64 (k : Int)), (8, .int .i64 ((guidedJ jx).1)), (10, .slice A L.length c), (11, .int .i64 ((L.length : Nat) : Int)), (12, .int .i64 (k : Int)), (32, .bool ((decide ((guidedJ jx).2 = 0)) && ((decide (a < 0)) || (decide (((guidedJ jx).1) < b)))))] ∧ Mem w noEx wc []) ?_ ?_
        · refine wp_region_lit ?_
          refine l_q T rfl rfl rfl rfl (rn_move rfl (T.ev 0 rfl)) ?_; clear T ac; intro ac T
          refine l_q T rfl rfl rfl rfl (rn_move rfl (T.ev 0 rfl)) ?_; clear T ac; intro ac T
          rcases Bool.eq_false_or_eq_true (decide ((guidedJ jx).2 = 0)) with h2 | h2
          · replace h2 := of_decide_eq_true h2
            refine l_q T (wanted_yes rfl rfl (T.ev 0 rfl) (decide_eq_true h2)) rfl rfl rfl (rn_move rfl (T.ev 6 rfl)) ?_; clear T ac; intro ac T
            refine l_q T (wanted_yes rfl rfl (T.ev 1 rfl) (decide_eq_true h2)) rfl rfl rfl (rn_lss rfl (T.ev 0 rfl) evc) ?_; clear T ac; intro ac T
            refine l_q T (wanted_yes rfl rfl (T.ev 2 rfl) (decide_eq_true h2)) rfl rfl rfl (rn_move rfl (T.ev 0 rfl)) ?_; clear T ac; intro ac T
            rcases Bool.eq_false_or_eq_true (decide (a < 0)) with h3 | h3
            · replace h3 := of_decide_eq_true h3
              refine l_pass T (wanted_no rfl rfl (T.ev 0 rfl) (decide_eq_true h3)) rfl rfl rfl ?_; clear T ac; intro ac T
              refine l_pass T (wanted_no rfl rfl (T.ev 1 rfl) (decide_eq_true h3)) rfl rfl rfl ?_; clear T ac; intro ac T
              refine l_pass T (wanted_no rfl rfl (T.ev 2 rfl) (decide_eq_true h3)) rfl rfl rfl ?_; clear T ac; intro ac T
              refine l_q T (wanted_yes rfl rfl (T.ev 6 rfl) (decide_eq_true h2)) rfl rfl rfl (rn_pick1 rfl (T.ev 3 rfl) (decide_eq_true h3) evc) ?_; clear T ac; intro ac T
              refine l_q T rfl rfl rfl rfl (rn_pick1 rfl (T.ev 7 rfl) (decide_eq_true h2) (T.ev 0 rfl)) ?_; clear T ac; intro ac T
              refine wpList_nil ?_
              replace T := T.pick [0, 1, 2, 3, 4, 5, 6, 7, 11, 12, 13, 14, 15, 16, 17, 18] rfl
              exact ⟨(T.pick (E' := [(1, .func (.func 102) #[] #[]), (4, .int .i64 a), (5, .int .i64 b), (6, .int .i64 (k : Int)), (8, .int .i64 ((guidedJ jx).1)), (10, .slice A L.length c), (11, .int .i64 ((L.length : Nat) : Int)), (12, .int .i64 (k : Int)), (32, .bool true)]) [10, 11, 12, 9, 8, 13, 14, 15, 0] rfl).as (by (try rw [show (decide ((guidedJ jx).2 = 0)) = true from (decide_eq_true h2)]); (try rw [show (decide (a < 0)) = true from (decide_eq_true h3)]); rfl), M.mask [] rfl⟩
            · replace h3 := of_decide_eq_false h3
              refine l_q T (wanted_yes rfl rfl (T.ev 0 rfl) (decide_eq_false h3)) rfl rfl rfl (rn_move rfl (T.ev 6 rfl)) ?_; clear T ac; intro ac T
              refine l_q T (wanted_yes rfl rfl (T.ev 1 rfl) (decide_eq_false h3)) rfl rfl rfl (rn_move rfl (T.ev 11 rfl)) ?_; clear T ac; intro ac T
              refine l_q T (wanted_yes rfl rfl (T.ev 2 rfl) (decide_eq_false h3)) rfl rfl rfl (rn_lss rfl (T.ev 1 rfl) (T.ev 0 rfl)) ?_; clear T ac; intro ac T
              refine l_q T (wanted_yes rfl rfl (T.ev 6 rfl) (decide_eq_true h2)) rfl rfl rfl (rn_pick0 rfl (T.ev 3 rfl) (decide_eq_false h3) (T.ev 0 rfl)) ?_; clear T ac; intro ac T
              refine l_q T rfl rfl rfl rfl (rn_pick1 rfl (T.ev 7 rfl) (decide_eq_true h2) (T.ev 0 rfl)) ?_; clear T ac; intro ac T
              refine wpList_nil ?_
              replace T := T.pick [0, 1, 2, 3, 4, 5, 6, 7, 11, 12, 13, 14, 15, 16, 17, 18] rfl
              exact ⟨(T.pick (E' := [(1, .func (.func 102) #[] #[]), (4, .int .i64 a), (5, .int .i64 b), (6, .int .i64 (k : Int)), (8, .int .i64 ((guidedJ jx).1)), (10, .slice A L.length c), (11, .int .i64 ((L.length : Nat) : Int)), (12, .int .i64 (k : Int)), (32, .bool (decide (((guidedJ jx).1) < b)))]) [10, 11, 12, 9, 8, 13, 14, 15, 0] rfl).as (by (try rw [show (decide ((guidedJ jx).2 = 0)) = true from (decide_eq_true h2)]); (try rw [show (decide (a < 0)) = false from (decide_eq_false h3)]); rfl), M.mask [] rfl⟩
          · replace h2 := of_decide_eq_false h2
            refine l_pass T (wanted_no rfl rfl (T.ev 0 rfl) (decide_eq_false h2)) rfl rfl rfl ?_; clear T ac; intro ac T
            refine l_pass T (wanted_no rfl rfl (T.ev 1 rfl) (decide_eq_false h2)) rfl rfl rfl ?_; clear T ac; intro ac T
            refine l_pass T (wanted_no rfl rfl (T.ev 2 rfl) (decide_eq_false h2)) rfl rfl rfl ?_; clear T ac; intro ac T
            refine l_pass T (wanted_un rfl rfl (T.ev 0 rfl)) rfl rfl rfl ?_; clear T ac; intro ac T
            refine l_pass T (wanted_un rfl rfl (T.ev 1 rfl)) rfl rfl rfl ?_; clear T ac; intro ac T
            refine l_pass T (wanted_un rfl rfl (T.ev 2 rfl)) rfl rfl rfl ?_; clear T ac; intro ac T
            refine l_pass T (wanted_no rfl rfl (T.ev 6 rfl) (decide_eq_false h2)) rfl rfl rfl ?_; clear T ac; intro ac T
            refine l_q T rfl rfl rfl rfl (rn_pick0 rfl (T.ev 7 rfl) (decide_eq_false h2) evc) ?_; clear T ac; intro ac T
            refine wpList_nil ?_
            replace T := T.pick [0, 1, 2, 3, 4, 5, 6, 7, 11, 12, 13, 14, 15, 16, 17, 18] rfl
            exact ⟨(T.pick (E' := [(1, .func (.func 102) #[] #[]), (4, .int .i64 a), (5, .int .i64 b), (6, .int .i64 (k : Int)), (8, .int .i64 ((guidedJ jx).1)), (10, .slice A L.length c), (11, .int .i64 ((L.length : Nat) : Int)), (12, .int .i64 (k : Int)), (32, .bool false)]) [10, 11, 12, 9, 8, 13, 14, 15, 0] rfl).as (by (try rw [show (decide ((guidedJ jx).2 = 0)) = false from (decide_eq_false h2)]); rfl), M.mask [] rfl⟩
        · clear T M
          rintro ac wc ⟨T, M⟩
          refine wp_cond_split (T.ev 8 rfl) ?_ ?_
          · intro h4
            (try have h4' := h4; try simp only [Bool.and_eq_true, Bool.or_eq_true, Bool.not_eq_true', Bool.and_eq_false_imp, Bool.or_eq_false_iff, decide_eq_true_eq, decide_eq_false_iff_not] at h4')
            refine wp_region_lit ?_
            refine l_q T rfl rfl rfl rfl (rn_move rfl (T.ev 3 rfl)) ?_; clear T ac; intro ac T
            refine l_q T rfl rfl rfl rfl (rn_move rfl (T.ev 5 rfl)) ?_; clear T ac; intro ac T
            refine l_q (v := (.int .i64 (k : Int))) (T.pick [0, 1, 2, 4, 5, 6, 7, 8, 9, 10] rfl) rfl rfl rfl rfl (rn_assign rfl (T.ev 1 rfl)) ?_; clear T ac; intro ac T
            refine l_q (v := (.int .i64 ((guidedJ jx).1))) (T.pick [0, 1, 2, 3, 5, 6, 7, 8, 9, 10] rfl) rfl rfl rfl rfl (rn_assign rfl (T.ev 1 rfl)) ?_; clear T ac; intro ac T
            refine wpList_nil ?_
            replace T := T.pick [0, 1, 4, 7, 8, 9] rfl
            refine nm_blk ?_
            exact ⟨(T.pick (E' := [(1, .func (.func 102) #[] #[]), (4, .int .i64 (k : Int)), (5, .int .i64 ((guidedJ jx).1)), (10, .slice A L.length c), (11, .int .i64 ((L.length : Nat) : Int)), (12, .int .i64 (k : Int))]) [2, 1, 0, 3, 4, 5] rfl).as (by (try rw [show ((decide ((guidedJ jx).2 = 0)) && ((decide (a < 0)) || (decide (((guidedJ jx).1) < b)))) = true from h4]); rfl), M.mask [] rfl⟩
          · intro h4
            (try have h4' := h4; try simp only [Bool.and_eq_true, Bool.or_eq_true, Bool.not_eq_true', Bool.and_eq_false_imp, Bool.or_eq_false_iff, decide_eq_true_eq, decide_eq_false_iff_not] at h4')
            refine wp_skip ?_
            refine nm_blk ?_
            exact ⟨(T.pick (E' := [(1, .func (.func 102) #[] #[]), (4, .int .i64 a), (5, .int .i64 b), (10, .slice A L.length c), (11, .int .i64 ((L.length : Nat) : Int)), (12, .int .i64 (k : Int))]) [0, 1, 2, 5, 6, 7] rfl).as (by (try rw [show ((decide ((guidedJ jx).2 = 0)) && ((decide (a < 0)) || (decide (((guidedJ jx).1) < b)))) = false from h4]); rfl), M.mask [] rfl⟩
      · clear T M
        rintro ac wc ⟨T, M⟩
        refine wp_region_lit ?_
        refine l_q T rfl rfl rfl rfl (rn_add rfl (T.ev 5 rfl) evc (by omega)) ?_; clear T ac; intro ac T
        refine l_q (v := (.int .i64 ((k : Int) + 1))) (T.pick [0, 1, 2, 3, 4, 5] rfl) rfl rfl rfl rfl (rn_move rfl (T.ev 0 rfl)) ?_; clear T ac; intro ac T
        refine wpList_nil ?_
        replace T := T.pick [0, 2, 3, 4, 5, 6] rfl
        refine nm_then ?_
        exact ⟨_, by omega, k + 1, (bif ((decide ((guidedJ jx).2 = 0)) && ((decide (a < 0)) || (decide (((guidedJ jx).1) < b)))) then (k : Int) else a), (bif ((decide ((guidedJ jx).2 = 0)) && ((decide (a < 0)) || (decide (((guidedJ jx).1) < b)))) then (guidedJ jx).1 else b), rfl, (by omega), (H.trans (congrArg (bestF _ _) (best_step _ _ _ _ _))), T.pick [1, 2, 3, 4, 5, 0] rfl, M.mask [] rfl⟩
    · intro h1
      rw [List.drop_of_length_le (by omega)] at H
      refine wp_exit ?_
      refine ex_then ?_
      refine ex_then ?_
      refine ex_hit ?_
      refine nm_then ?_
      refine wp_seq ?_
      refine wp_region_lit ?_
      refine l_q T rfl rfl rfl rfl (rn_move rfl (T.ev 2 rfl)) ?_; clear T ac; intro ac T
      refine l_q T rfl rfl rfl rfl (rn_move rfl (T.ev 4 rfl)) ?_; clear T ac; intro ac T
      refine l_q (v := (.int .i64 a)) (T.pick [0, 1, 2, 3, 5, 6, 7, 8] rfl) rfl rfl rfl rfl (rn_assign rfl (T.ev 1 rfl)) ?_; clear T ac; intro ac T
      refine l_q (v := (.int .i64 b)) (T.pick [0, 1, 2, 3, 4, 6, 7, 8] rfl) rfl rfl rfl rfl (rn_assign rfl (T.ev 1 rfl)) ?_; clear T ac; intro ac T
      refine wpList_nil ?_
      replace T := T.pick [0, 1] rfl
      refine nm_then ?_
      refine wp_ret ?_
      refine rt_2 T rfl (T.ev 1 rfl) (T.ev 0 rfl) ?_
      refine ⟨?_, M.below⟩
      rw [H]
      rfl

theorem chk_next {L : List JE} {k : Nat} {x : JE} (hd : L.drop k = x :: L.drop (k + 1)) : chkJs (L.drop k) = if checkJ x.1 = 0 then chkJs (L.drop (k + 1)) else checkJ x.1 := by rw [hd]; rfl
theorem chk_all : ∀ (L : List JE), chkJs L = 0 → ∀ x ∈ L, x.1.good
  | [], _, x, h => by cases h
  | y :: L, h, x, hx => by
    unfold chkJs at h
    by_cases e : checkJ y.1 = 0
    · rw [if_pos e] at h
      rcases List.mem_cons.1 hx with rfl | hx
      · exact good_of e
      · exact chk_all L h x hx
    · rw [if_neg e] at h; exact absurd h e
theorem gref_eq {j : Jb} (h : j.good) : ((guidedJ j).2 = 0 ∧ gref j = (guidedJ j).1 ∧ 0 ≤ gref j) ∨ ((guidedJ j).2 = 11 ∧ gref j = -1) := by
  unfold guidedJ gref
  rw [if_pos (check_of_good h)]
  cases guidedF j with
  | none => exact .inr ⟨rfl, rfl⟩
  | some n => exact .inl ⟨rfl, rfl, by dsimp only; omega⟩
theorem best_step2 {j : Jb} (h : j.good) (a b i : Int) : (if (guidedJ j).2 = 0 ∧ (a < 0 ∨ (guidedJ j).1 < b) then (i, (guidedJ j).1) else (a, b)) = (bif decide (0 ≤ gref j) && (decide (a < 0) || decide (gref j < b)) then i else a, bif decide (0 ≤ gref j) && (decide (a < 0) || decide (gref j < b)) then gref j else b) := by
  rcases gref_eq h with ⟨h1, h2, h3⟩ | ⟨h1, h2⟩
  · rw [h2] at h3 ⊢
    have := best_step (guidedJ j).1 0 a b i
    rw [h1]
    simp only [decide_eq_true h3]
    simpa using this
  · rw [h1, h2]
    simp


set_option maxRecDepth 100000 in
set_option maxHeartbeats 1000000 in
theorem Blank_any (A : Option Addr) (c : Nat) (L : List JE) (w : World) (hr : Rd w w.heap.size 18 A L.length (jc L)) (hE : ∀ x ∈ L, Rd w w.heap.size 2 x.2.1 x.1.sh.length (rc x.1.sh) ∧ x.1.sh.length ≤ 9223372036854775807) (hn : L.length ≤ 9223372036854775807) :
    Calls Try.prog 58 #[.slice A L.length c] w fun e w' => e = .returned (.tuple #[.int .i64 ((blankT L).1), .int .i64 ((blankT L).2.1), .int .i64 ((blankT L).2.2)]) ∧ Below w.heap.size w w' := by
  obtain ⟨bL, oL, SL⟩ := Sp.old hr
  refine px_enter noEx Try.func58 rfl 39 rfl [.slice A L.length c] rfl rfl (Mem.init w _) ?_
  intro ac wc T M
  refine wp_seq ?_
  refine wp_region_lit ?_
  refine l_q T rfl rfl rfl rfl (rn_assign rfl evc) ?_; clear T ac; intro ac T
  refine l_q T rfl rfl rfl rfl (rn_assign rfl evc) ?_; clear T ac; intro ac T
  refine l_q T rfl rfl rfl rfl (rn_assign rfl evc) ?_; clear T ac; intro ac T
  refine wpList_nil ?_
  replace T := T.pick [3] rfl
  refine nm_then ?_
  refine wp_seq ?_
  refine wp_block ?_
  refine wp_seq ?_
  refine wp_region_lit ?_
  refine l_q T rfl rfl rfl rfl (rn_move rfl (T.ev 0 rfl)) ?_; clear T ac; intro ac T
  refine l_q T rfl rfl rfl rfl (rn_lenS rfl Try.underlying36 (T.ev 0 rfl)) ?_; clear T ac; intro ac T
  refine l_q T rfl rfl rfl rfl (rn_eql rfl (T.ev 0 rfl) evc) ?_; clear T ac; intro ac T
  refine l_q T rfl rfl rfl rfl (rn_assign rfl (T.ev 0 rfl)) ?_; clear T ac; intro ac T
  refine wpList_nil ?_
  replace T := T.pick [0, 4] rfl
  refine nm_then ?_
  refine wp_if (T.ev 0 rfl) ?_ ?_
  · intro h1
    refine wp_seq ?_
    refine wp_region_lit ?_
    refine l_q T rfl rfl rfl rfl (rn_assign rfl evc) ?_; clear T ac; intro ac T
    refine l_q T rfl rfl rfl rfl (rn_assign rfl evc) ?_; clear T ac; intro ac T
    refine l_q T rfl rfl rfl rfl (rn_assign rfl evc) ?_; clear T ac; intro ac T
    refine wpList_nil ?_
    replace T := T.pick [0, 1, 2] rfl
    refine nm_then ?_
    refine wp_ret ?_
    refine rt_blk ?_
    refine rt_then ?_
    refine rt_3 T rfl (T.ev 2 rfl) (T.ev 1 rfl) (T.ev 0 rfl) ?_
    refine ⟨?_, M.below⟩
    unfold blankT
    rw [if_pos (by omega)]
  · intro h1
    refine wp_seq ?_
    refine wp_region_lit ?_
    refine l_q T rfl rfl rfl rfl (rn_move rfl (T.ev 1 rfl)) ?_; clear T ac; intro ac T
    refine l_q T rfl rfl rfl rfl (rn_lenS rfl Try.underlying36 (T.ev 0 rfl)) ?_; clear T ac; intro ac T
    refine l_q T rfl rfl rfl rfl (rn_gtr rfl (T.ev 0 rfl) evc) ?_; clear T ac; intro ac T
    refine l_q T rfl rfl rfl rfl (rn_assign rfl (T.ev 0 rfl)) ?_; clear T ac; intro ac T
    refine wpList_nil ?_
    replace T := T.pick [0, 5] rfl
    refine nm_then ?_
    refine wp_if (T.ev 0 rfl) ?_ ?_
    · intro h2
      refine wp_seq ?_
      refine wp_region_lit ?_
      refine l_q T rfl rfl rfl rfl (rn_assign rfl evc) ?_; clear T ac; intro ac T
      refine l_q T rfl rfl rfl rfl (rn_assign rfl evc) ?_; clear T ac; intro ac T
      refine l_q T rfl rfl rfl rfl (rn_assign rfl evc) ?_; clear T ac; intro ac T
      refine wpList_nil ?_
      replace T := T.pick [0, 1, 2] rfl
      refine nm_then ?_
      refine wp_ret ?_
      refine rt_blk ?_
      refine rt_then ?_
      refine rt_3 T rfl (T.ev 2 rfl) (T.ev 1 rfl) (T.ev 0 rfl) ?_
      refine ⟨?_, M.below⟩
      unfold blankT
      rw [if_neg (by omega), if_pos (by omega)]
    · intro h2
      refine wp_skip ?_
      refine nm_blk ?_
      refine nm_then ?_
      refine wp_seq ?_
      refine wp_seq ?_
      refine wp_region_lit ?_
      refine l_q T rfl rfl rfl rfl (rn_move rfl (T.ev 1 rfl)) ?_; clear T ac; intro ac T
      refine l_q T rfl rfl rfl rfl (rn_lenS rfl Try.underlying36 (T.ev 0 rfl)) ?_; clear T ac; intro ac T
      refine l_q T rfl rfl rfl rfl (rn_move rfl evc) ?_; clear T ac; intro ac T
      refine wpList_nil ?_
      replace T := T.pick [0, 1, 2, 4] rfl
      refine nm_then ?_
      refine wp_block ?_
      refine wp_loop_n (fun mz ac wc => ∃ (k : Nat), mz = L.length - k ∧ (k ≤ L.length) ∧ (chkJs L = chkJs (L.drop k)) ∧ Tm ac 39 [(0, .slice A L.length c), (18, .slice A L.length c), (19, .int .i64 ((L.length : Nat) : Int)), (20, .int .i64 (k : Int))] ∧ Mem w noEx wc []) ?_ ?_
      · exact ⟨_, 0, rfl, (by omega), rfl, T.pick [3, 2, 1, 0] rfl, M.mask [] rfl⟩
      · clear T M
        rintro mz ac wc ⟨k, hmm1, hk, H, T, M⟩
        refine wp_seq ?_
        refine wp_region_lit ?_
        refine l_q T rfl rfl rfl rfl (rn_lss rfl (T.ev 3 rfl) (T.ev 2 rfl)) ?_; clear T ac; intro ac T
        refine wpList_nil ?_
        refine nm_then ?_
        refine wp_seq ?_
        refine wp_if (T.ev 0 rfl) ?_ ?_
        · intro h3
          obtain ⟨jx, Ax, cx, hkx, hd⟩ := jel (L := L) (k := k) (by omega)
          obtain ⟨hrx, hfx⟩ := hE _ (List.mem_of_getElem? hkx)
          replace hrx : Rd w w.heap.size 2 Ax jx.sh.length (rc jx.sh) := hrx
          replace hfx : jx.sh.length ≤ 9223372036854775807 := hfx
          obtain ⟨bx, ox, Sx⟩ := Sp.old hrx
          rw [chk_next hd] at H
          refine wp_skip ?_
          refine nm_then ?_
          refine wp_seq ?_
          refine wp_block ?_
          refine wp_seq ?_
          refine wp_region_lit ?_
          refine l_q T rfl rfl rfl rfl (rn_indexAddr (size := 18) k rfl (T.ev 2 rfl) (T.ev 4 rfl) ⟨_, Try.underlying36, by kernel_rfl⟩ rfl (by omega) (SL.at0 (by omega))) ?_; clear T ac; intro ac T
          refine l_q (v := (.agg #[.int .i64 jx.p0, .int .i64 jx.p1, .int .i64 jx.t0, .int .i64 jx.t1, .int .i64 jx.r0, .int .i64 jx.r1, .int .i64 jx.u0, .int .i64 jx.u1, .int .i64 jx.d0, .int .i64 jx.d1, .int .i64 jx.a0, .int .i64 jx.a1, .int .i64 jx.b0, .int .i64 jx.b1, .int .i64 jx.le, .slice Ax jx.sh.length cx, .int .i64 jx.wi, .int .i64 jx.me])) T rfl rfl rfl rfl (rn_rowat (Sp.jcR SL M (List.nil_sublist _) hkx) rfl (T.ev 0 rfl) rfl) ?_; clear T ac; intro ac T
          refine l_w rfl ?_; intro K hK
          refine ow_al M T rfl rfl rfl rfl ?_; clear M T; intro g1 wc ac M T
          refine sh_out hK _ _ ?_; clear hK K
          refine l_w rfl ?_; intro K hK
          refine ow_stO M T rfl rfl (T.ev 0 rfl) (T.ev 1 rfl) rfl .head rfl (by simp) rfl (by kernel_rfl) ?_; clear M T; intro wc ac M T
          refine sh_out hK _ _ ?_; clear hK K
          refine wpList_nil ?_
          replace T := T.pick [0, 4, 5, 6, 7] rfl
          refine nm_then ?_
          refine wp_seq ?_
          refine wp_region_lit ?_
          refine l_q T rfl rfl rfl rfl (rn_rowO (Mem.nth M 0 rfl) rfl (T.ev 0 rfl) rfl) ?_; clear T ac; intro ac T
          refine l_w rfl ?_; intro K hK
          refine ow_call (first := []) (cap := []) T rfl rfl rfl rfl evf (.cons (T.ev 0 rfl) .nil) Try.func49 rfl rfl ?_
          refine Calls.mono (check_any jx _ _ _ (Sx.rd M (List.nil_sublist _)) (by omega)) ?_
          clear T
          rintro e wc ⟨rfl, hb⟩
          intro ac T
          replace M := M.call hb; clear hb
          refine sh_out hK _ _ ?_; clear hK K
          refine l_q T rfl rfl rfl rfl (rn_assign rfl (T.ev 0 rfl)) ?_; clear T ac; intro ac T
          refine wpList_nil ?_
          replace T := T.pick [0, 4, 5, 6, 7] rfl
          replace M := M.mask [false] rfl
          refine nm_then ?_
          refine wp_seq ?_
          refine wp_region_lit ?_
          refine l_q T rfl rfl rfl rfl (rn_move rfl (T.ev 0 rfl)) ?_; clear T ac; intro ac T
          refine l_q T rfl rfl rfl rfl (rn_neq rfl (T.ev 0 rfl) evc) ?_; clear T ac; intro ac T
          refine wpList_nil ?_
          replace T := T.pick [0, 2, 3, 4, 5, 6] rfl
          refine nm_then ?_
          refine wp_ifn (T.ev 0 rfl) ?_ ?_
          · intro h4
            refine wp_seq ?_
            refine wp_region_lit ?_
            refine l_q T rfl rfl rfl rfl (rn_move rfl (T.ev 1 rfl)) ?_; clear T ac; intro ac T
            refine l_q T rfl rfl rfl rfl (rn_assign rfl evc) ?_; clear T ac; intro ac T
            refine l_q T rfl rfl rfl rfl (rn_assign rfl evc) ?_; clear T ac; intro ac T
            refine l_q T rfl rfl rfl rfl (rn_assign rfl (T.ev 2 rfl)) ?_; clear T ac; intro ac T
            refine wpList_nil ?_
            replace T := T.pick [0, 1, 2] rfl
            refine nm_then ?_
            refine wp_ret ?_
            refine rt_blk ?_
            refine rt_then ?_
            refine rt_then ?_
            refine rt_blk ?_
            refine rt_then ?_
            refine rt_3 T rfl (T.ev 2 rfl) (T.ev 1 rfl) (T.ev 0 rfl) ?_
            rw [if_neg (by simpa using h4)] at H
            refine ⟨?_, M.below⟩
            unfold blankT
            rw [if_neg (by omega), if_neg (by omega), if_neg (by rw [H]; simpa using h4), H]
          · intro h4
            refine wp_skip ?_
            refine nm_blk ?_
            refine nm_then ?_
            refine wp_region_lit ?_
            refine l_q T rfl rfl rfl rfl (rn_add rfl (T.ev 5 rfl) evc (by omega)) ?_; clear T ac; intro ac T
            refine l_q (v := (.int .i64 ((k : Int) + 1))) (T.pick [0, 1, 2, 3, 4, 5] rfl) rfl rfl rfl rfl (rn_move rfl (T.ev 0 rfl)) ?_; clear T ac; intro ac T
            refine wpList_nil ?_
            replace T := T.pick [0, 4, 5, 6] rfl
            refine nm_then ?_
            exact ⟨_, by omega, k + 1, rfl, (by omega), (by rw [if_pos (by simpa using h4)] at H; exact H), T.pick [1, 2, 3, 0] rfl, M.mask [] rfl⟩
        · intro h3
          rw [List.drop_of_length_le (by omega)] at H
          replace H : chkJs L = 0 := H
          have hgL := chk_all L H
          refine wp_exit ?_
          refine ex_then ?_
          refine ex_then ?_
          refine ex_hit ?_
          refine nm_then ?_
          refine wp_seq ?_
          refine wp_region_lit ?_
          refine l_q T rfl rfl rfl rfl (rn_move rfl (T.ev 1 rfl)) ?_; clear T ac; intro ac T
          refine l_w rfl ?_; intro K hK
          refine ow_call (first := []) (cap := []) T rfl rfl rfl rfl evf (.cons (T.ev 0 rfl) (.cons evf .nil)) Try.func101 rfl rfl ?_
          refine Calls.mono (best_any _ _ L _ (SL.rd M (List.nil_sublist _)) (fun x hx => ⟨M.rd (hE x hx).1 (Nat.le_refl _), (hE x hx).2⟩) (by omega)) ?_
          clear T
          rintro e wc ⟨rfl, hb⟩
          intro ac T
          replace M := M.call hb; clear hb
          refine sh_out hK _ _ ?_; clear hK K
          refine l_q T rfl rfl rfl rfl (rn_move rfl (T.ev 0 rfl)) ?_; clear T ac; intro ac T
          refine l_q T rfl rfl rfl rfl (rn_extract rfl (T.ev 0 rfl) rfl) ?_; clear T ac; intro ac T
          refine l_q T rfl rfl rfl rfl (rn_extract rfl (T.ev 1 rfl) rfl) ?_; clear T ac; intro ac T
          refine l_q T rfl rfl rfl rfl (rn_assign rfl (T.ev 1 rfl)) ?_; clear T ac; intro ac T
          refine l_q T rfl rfl rfl rfl (rn_assign rfl (T.ev 1 rfl)) ?_; clear T ac; intro ac T
          refine wpList_nil ?_
          replace T := T.pick [0, 1] rfl
          refine nm_then ?_
          refine wp_seq ?_
          refine wp_seq ?_
          refine wp_region_lit ?_
          refine l_q T rfl rfl rfl rfl (rn_move rfl (T.ev 1 rfl)) ?_; clear T ac; intro ac T
          refine l_q T rfl rfl rfl rfl (rn_lss rfl (T.ev 0 rfl) evc) ?_; clear T ac; intro ac T
          refine wpList_nil ?_
          replace T := T.pick [0, 2, 3] rfl
          refine nm_then ?_
          refine wp_if (T.ev 0 rfl) ?_ ?_
          · intro h5
            refine wp_seq ?_
            refine wp_region_lit ?_
            refine l_q T rfl rfl rfl rfl (rn_assign rfl evc) ?_; clear T ac; intro ac T
            refine l_q T rfl rfl rfl rfl (rn_assign rfl evc) ?_; clear T ac; intro ac T
            refine l_q T rfl rfl rfl rfl (rn_assign rfl evc) ?_; clear T ac; intro ac T
            refine wpList_nil ?_
            replace T := T.pick [0, 1, 2] rfl
            refine nm_then ?_
            refine wp_ret ?_
            refine rt_then ?_
            refine rt_3 T rfl (T.ev 2 rfl) (T.ev 1 rfl) (T.ev 0 rfl) ?_
            refine ⟨?_, M.below⟩
            unfold blankT
            rw [if_neg (by omega), if_neg (by omega), if_pos H, if_pos (by first | exact h5 | (rw [H3]; exact h5))]
          · intro h5
            refine wp_skip ?_
            refine nm_then ?_
            refine wp_seq ?_
            refine wp_region_lit ?_
            refine l_q T rfl rfl rfl rfl (rn_move rfl (T.ev 2 rfl)) ?_; clear T ac; intro ac T
            refine l_q T rfl rfl rfl rfl (rn_move rfl (T.ev 2 rfl)) ?_; clear T ac; intro ac T
            refine l_q T rfl rfl rfl rfl (rn_assign rfl (T.ev 1 rfl)) ?_; clear T ac; intro ac T
            refine l_q T rfl rfl rfl rfl (rn_assign rfl (T.ev 1 rfl)) ?_; clear T ac; intro ac T
            refine l_q T rfl rfl rfl rfl (rn_assign rfl evc) ?_; clear T ac; intro ac T
            refine wpList_nil ?_
            replace T := T.pick [0, 1, 2] rfl
            refine nm_then ?_
            refine wp_ret ?_
            refine rt_3 T rfl (T.ev 2 rfl) (T.ev 1 rfl) (T.ev 0 rfl) ?_
            refine ⟨?_, M.below⟩
            unfold blankT
            rw [if_neg (by omega), if_neg (by omega), if_pos H, if_neg (by first | exact h5 | (rw [H3]; exact h5))]
            try rw [H3]

set_option maxRecDepth 100000 in
set_option maxHeartbeats 1000000 in
theorem rBlank_any (A : Option Addr) (c : Nat) (L : List JE) (w : World) (hr : Rd w w.heap.size 18 A L.length (jc L)) (hE : ∀ x ∈ L, Rd w w.heap.size 2 x.2.1 x.1.sh.length (rc x.1.sh) ∧ x.1.sh.length ≤ 9223372036854775807) (hn : L.length ≤ 9223372036854775807) :
    Calls Try.prog 59 #[.slice A L.length c] w fun e w' => e = .returned (.tuple #[.int .i64 ((blankT L).1), .int .i64 ((blankT L).2.1), .int .i64 ((blankT L).2.2)]) ∧ Below w.heap.size w w' := by
  obtain ⟨bL, oL, SL⟩ := Sp.old hr
  refine px_enter noEx Try.func59 rfl 59 rfl [.slice A L.length c] rfl rfl (Mem.init w _) ?_
  intro ac wc T M
  refine wp_seq ?_
  refine wp_region_lit ?_
  refine l_q T rfl rfl rfl rfl (rn_assign rfl evc) ?_; clear T ac; intro ac T
  refine l_q T rfl rfl rfl rfl (rn_assign rfl evc) ?_; clear T ac; intro ac T
  refine l_q T rfl rfl rfl rfl (rn_assign rfl evc) ?_; clear T ac; intro ac T
  refine wpList_nil ?_
  replace T := T.pick [3] rfl
  refine nm_then ?_
  refine wp_seq ?_
  refine wp_seq ?_
  refine wp_region_lit ?_
  refine l_q T rfl rfl rfl rfl (rn_move rfl (T.ev 0 rfl)) ?_; clear T ac; intro ac T
  refine l_q T rfl rfl rfl rfl (rn_lenS rfl Try.underlying36 (T.ev 0 rfl)) ?_; clear T ac; intro ac T
  refine l_q T rfl rfl rfl rfl (rn_eql rfl (T.ev 0 rfl) evc) ?_; clear T ac; intro ac T
  refine wpList_nil ?_
  replace T := T.pick [0, 3] rfl
  refine nm_then ?_
  refine wp_if (T.ev 0 rfl) ?_ ?_
  · intro h1
    refine wp_seq ?_
    refine wp_region_lit ?_
    refine l_q T rfl rfl rfl rfl (rn_assign rfl evc) ?_; clear T ac; intro ac T
    refine l_q T rfl rfl rfl rfl (rn_assign rfl evc) ?_; clear T ac; intro ac T
    refine l_q T rfl rfl rfl rfl (rn_assign rfl evc) ?_; clear T ac; intro ac T
    refine wpList_nil ?_
    replace T := T.pick [0, 1, 2] rfl
    refine nm_then ?_
    refine wp_ret ?_
    refine rt_then ?_
    refine rt_3 T rfl (T.ev 2 rfl) (T.ev 1 rfl) (T.ev 0 rfl) ?_
    refine ⟨?_, M.below⟩
    unfold blankT
    rw [if_pos (by omega)]
  · intro h1
    refine wp_skip ?_
    refine nm_then ?_
    refine wp_seq ?_
    refine wp_seq ?_
    refine wp_region_lit ?_
    refine l_q T rfl rfl rfl rfl (rn_move rfl (T.ev 1 rfl)) ?_; clear T ac; intro ac T
    refine l_q T rfl rfl rfl rfl (rn_lenS rfl Try.underlying36 (T.ev 0 rfl)) ?_; clear T ac; intro ac T
    refine l_q T rfl rfl rfl rfl (rn_gtr rfl (T.ev 0 rfl) evc) ?_; clear T ac; intro ac T
    refine wpList_nil ?_
    replace T := T.pick [0, 4] rfl
    refine nm_then ?_
    refine wp_if (T.ev 0 rfl) ?_ ?_
    · intro h2
      refine wp_seq ?_
      refine wp_region_lit ?_
      refine l_q T rfl rfl rfl rfl (rn_assign rfl evc) ?_; clear T ac; intro ac T
      refine l_q T rfl rfl rfl rfl (rn_assign rfl evc) ?_; clear T ac; intro ac T
      refine l_q T rfl rfl rfl rfl (rn_assign rfl evc) ?_; clear T ac; intro ac T
      refine wpList_nil ?_
      replace T := T.pick [0, 1, 2] rfl
      refine nm_then ?_
      refine wp_ret ?_
      refine rt_then ?_
      refine rt_3 T rfl (T.ev 2 rfl) (T.ev 1 rfl) (T.ev 0 rfl) ?_
      refine ⟨?_, M.below⟩
      unfold blankT
      rw [if_neg (by omega), if_pos (by omega)]
    · intro h2
      refine wp_skip ?_
      refine nm_then ?_
      refine wp_seq ?_
      refine wp_seq ?_
      refine wp_region_lit ?_
      refine l_q T rfl rfl rfl rfl (rn_assign rfl evc) ?_; clear T ac; intro ac T
      refine wpList_nil ?_
      replace T := T.pick [0, 2] rfl
      refine nm_then ?_
      refine wp_block ?_
      refine wp_loop_n (fun mz ac wc => ∃ (k : Nat), mz = L.length - k ∧ (k ≤ L.length) ∧ (chkJs L = chkJs (L.drop k)) ∧ Tm ac 59 [(0, .slice A L.length c), (5, .int .i64 (k : Int))] ∧ Mem w noEx wc []) ?_ ?_
      · exact ⟨_, 0, rfl, (by omega), rfl, T.pick [1, 0] rfl, M.mask [] rfl⟩
      · clear T M
        rintro mz ac wc ⟨k, hmm1, hk, H, T, M⟩
        refine wp_seq ?_
        refine wp_seq ?_
        refine wp_region_lit ?_
        refine l_q T rfl rfl rfl rfl (rn_move rfl (T.ev 1 rfl)) ?_; clear T ac; intro ac T
        refine l_q T rfl rfl rfl rfl (rn_move rfl (T.ev 1 rfl)) ?_; clear T ac; intro ac T
        refine l_q T rfl rfl rfl rfl (rn_lenS rfl Try.underlying36 (T.ev 0 rfl)) ?_; clear T ac; intro ac T
        refine l_q T rfl rfl rfl rfl (rn_lss rfl (T.ev 2 rfl) (T.ev 0 rfl)) ?_; clear T ac; intro ac T
        refine wpList_nil ?_
        replace T := T.pick [0, 4, 5] rfl
        refine nm_then ?_
        refine wp_if (T.ev 0 rfl) ?_ ?_
        · intro h3
          obtain ⟨jx, Ax, cx, hkx, hd⟩ := jel (L := L) (k := k) (by omega)
          obtain ⟨hrx, hfx⟩ := hE _ (List.mem_of_getElem? hkx)
          replace hrx : Rd w w.heap.size 2 Ax jx.sh.length (rc jx.sh) := hrx
          replace hfx : jx.sh.length ≤ 9223372036854775807 := hfx
          obtain ⟨bx, ox, Sx⟩ := Sp.old hrx
          rw [chk_next hd] at H
          refine wp_skip ?_
          refine nm_then ?_
          refine wp_seq ?_
          refine wp_block ?_
          refine wp_seq ?_
          refine wp_region_lit ?_
          refine l_q T rfl rfl rfl rfl (rn_move rfl (T.ev 1 rfl)) ?_; clear T ac; intro ac T
          refine l_q T rfl rfl rfl rfl (rn_move rfl (T.ev 3 rfl)) ?_; clear T ac; intro ac T
          refine l_q T rfl rfl rfl rfl (rn_indexAddr (size := 18) k rfl (T.ev 1 rfl) (T.ev 0 rfl) ⟨_, Try.underlying36, by kernel_rfl⟩ rfl (by omega) (SL.at0 (by omega))) ?_; clear T ac; intro ac T
          refine l_q (v := (.agg #[.int .i64 jx.p0, .int .i64 jx.p1, .int .i64 jx.t0, .int .i64 jx.t1, .int .i64 jx.r0, .int .i64 jx.r1, .int .i64 jx.u0, .int .i64 jx.u1, .int .i64 jx.d0, .int .i64 jx.d1, .int .i64 jx.a0, .int .i64 jx.a1, .int .i64 jx.b0, .int .i64 jx.b1, .int .i64 jx.le, .slice Ax jx.sh.length cx, .int .i64 jx.wi, .int .i64 jx.me])) T rfl rfl rfl rfl (rn_rowat (Sp.jcR SL M (List.nil_sublist _) hkx) rfl (T.ev 0 rfl) rfl) ?_; clear T ac; intro ac T
          refine l_w rfl ?_; intro K hK
          refine ow_call (first := []) (cap := []) T rfl rfl rfl rfl evf (.cons (T.ev 0 rfl) .nil) Try.func50 rfl rfl ?_
          refine Calls.mono (rCheck_any jx _ _ _ (Sx.rd M (List.nil_sublist _)) (by omega)) ?_
          clear T
          rintro e wc ⟨rfl, hb⟩
          intro ac T
          replace M := M.call hb; clear hb
          refine sh_out hK _ _ ?_; clear hK K
          refine l_q T rfl rfl rfl rfl (rn_assign rfl (T.ev 0 rfl)) ?_; clear T ac; intro ac T
          refine wpList_nil ?_
          replace T := T.pick [0, 7, 8] rfl
          refine nm_then ?_
          refine wp_seq ?_
          refine wp_region_lit ?_
          refine l_q T rfl rfl rfl rfl (rn_move rfl (T.ev 0 rfl)) ?_; clear T ac; intro ac T
          refine l_q T rfl rfl rfl rfl (rn_neq rfl (T.ev 0 rfl) evc) ?_; clear T ac; intro ac T
          refine wpList_nil ?_
          replace T := T.pick [0, 2, 3, 4] rfl
          refine nm_then ?_
          refine wp_ifn (T.ev 0 rfl) ?_ ?_
          · intro h4
            refine wp_seq ?_
            refine wp_region_lit ?_
            refine l_q T rfl rfl rfl rfl (rn_move rfl (T.ev 1 rfl)) ?_; clear T ac; intro ac T
            refine l_q T rfl rfl rfl rfl (rn_assign rfl evc) ?_; clear T ac; intro ac T
            refine l_q T rfl rfl rfl rfl (rn_assign rfl evc) ?_; clear T ac; intro ac T
            refine l_q T rfl rfl rfl rfl (rn_assign rfl (T.ev 2 rfl)) ?_; clear T ac; intro ac T
            refine wpList_nil ?_
            replace T := T.pick [0, 1, 2] rfl
            refine nm_then ?_
            refine wp_ret ?_
            refine rt_blk ?_
            refine rt_then ?_
            refine rt_then ?_
            refine rt_blk ?_
            refine rt_then ?_
            refine rt_3 T rfl (T.ev 2 rfl) (T.ev 1 rfl) (T.ev 0 rfl) ?_
            rw [if_neg (by simpa using h4)] at H
            refine ⟨?_, M.below⟩
            unfold blankT
            rw [if_neg (by omega), if_neg (by omega), if_neg (by rw [H]; simpa using h4), H]
          · intro h4
            refine wp_skip ?_
            refine nm_blk ?_
            refine nm_then ?_
            refine wp_region_lit ?_
            refine l_q T rfl rfl rfl rfl (rn_move rfl (T.ev 3 rfl)) ?_; clear T ac; intro ac T
            refine l_q T rfl rfl rfl rfl (rn_add rfl (T.ev 0 rfl) evc (by omega)) ?_; clear T ac; intro ac T
            refine l_q (v := (.int .i64 ((k : Int) + 1))) (T.pick [0, 1, 2, 3, 4] rfl) rfl rfl rfl rfl (rn_assign rfl (T.ev 0 rfl)) ?_; clear T ac; intro ac T
            refine wpList_nil ?_
            replace T := T.pick [0, 5] rfl
            refine nm_then ?_
            exact ⟨_, by omega, k + 1, rfl, (by omega), (by rw [if_pos (by simpa using h4)] at H; exact H), T.pick [1, 0] rfl, M.mask [] rfl⟩
        · intro h3
          rw [List.drop_of_length_le (by omega)] at H
          replace H : chkJs L = 0 := H
          have hgL := chk_all L H
          refine wp_exit ?_
          refine ex_then ?_
          refine ex_then ?_
          refine ex_hit ?_
          refine nm_then ?_
          refine wp_seq ?_
          refine wp_region_lit ?_
          refine l_q T rfl rfl rfl rfl (rn_assign rfl evc) ?_; clear T ac; intro ac T
          refine l_q T rfl rfl rfl rfl (rn_assign rfl evc) ?_; clear T ac; intro ac T
          refine wpList_nil ?_
          replace T := T.pick [0, 1, 3] rfl
          refine nm_then ?_
          refine wp_seq ?_
          refine wp_seq ?_
          refine wp_region_lit ?_
          refine l_q T rfl rfl rfl rfl (rn_assign rfl evc) ?_; clear T ac; intro ac T
          refine wpList_nil ?_
          refine nm_then ?_
          refine wp_block ?_
          refine wp_loop_n (fun mz ac wc => ∃ (i : Nat) (a b : Int), mz = L.length - i ∧ (i ≤ L.length) ∧ (bestF L 0 (-1, 0) = bestF (L.drop i) i (a, b)) ∧ Tm ac 59 [(0, .slice A L.length c), (7, .int .i64 a), (8, .int .i64 b), (9, .int .i64 (i : Int))] ∧ Mem w noEx wc []) ?_ ?_
          · exact ⟨_, 0, (-1), 0, rfl, (by omega), rfl, T.pick [3, 2, 1, 0] rfl, M.mask [] rfl⟩
          · clear T M
            rintro mz ac wc ⟨i, a, b, hmm2, hk, H2, T, M⟩
            refine wp_seq ?_
            refine wp_seq ?_
            refine wp_region_lit ?_
            refine l_q T rfl rfl rfl rfl (rn_move rfl (T.ev 3 rfl)) ?_; clear T ac; intro ac T
            refine l_q T rfl rfl rfl rfl (rn_move rfl (T.ev 1 rfl)) ?_; clear T ac; intro ac T
            refine l_q T rfl rfl rfl rfl (rn_lenS rfl Try.underlying36 (T.ev 0 rfl)) ?_; clear T ac; intro ac T
            refine l_q T rfl rfl rfl rfl (rn_lss rfl (T.ev 2 rfl) (T.ev 0 rfl)) ?_; clear T ac; intro ac T
            refine wpList_nil ?_
            replace T := T.pick [0, 4, 5, 6, 7] rfl
            refine nm_then ?_
            refine wp_if (T.ev 0 rfl) ?_ ?_
            · intro h5
              obtain ⟨jx, Ax, cx, hkx, hd⟩ := jel (L := L) (k := i) (by omega)
              obtain ⟨hrx, hfx⟩ := hE _ (List.mem_of_getElem? hkx)
              replace hrx : Rd w w.heap.size 2 Ax jx.sh.length (rc jx.sh) := hrx
              replace hfx : jx.sh.length ≤ 9223372036854775807 := hfx
              obtain ⟨bx, ox, Sx⟩ := Sp.old hrx
              rw [hd] at H2
              have hgj := hgL _ (List.mem_of_getElem? hkx)
              refine wp_skip ?_
              refine nm_then ?_
              refine cut_seq (fun ac wc => Tm ac 59 [(0, .slice A L.length c), (7, .int .i64 (bif ((decide (0 ≤ (gref jx))) && ((decide (a < 0)) || (decide ((gref jx) < b)))) then (i : Int) else a)), (8, .int .i64 (bif ((decide (0 ≤ (gref jx))) && ((decide (a < 0)) || (decide ((gref jx) < b)))) then (gref jx) else b)), (9, .int .i64 (i : Int))] ∧ Mem w noEx wc []) ?_ ?_
              · refine wp_block ?_
                refine wp_seq ?_
                refine wp_region_lit ?_
                refine l_q T rfl rfl rfl rfl (rn_move rfl (T.ev 1 rfl)) ?_; clear T ac; intro ac T
                refine l_q T rfl rfl rfl rfl (rn_move rfl (T.ev 5 rfl)) ?_; clear T ac; intro ac T
                refine l_q T rfl rfl rfl rfl (rn_indexAddr (size := 18) i rfl (T.ev 1 rfl) (T.ev 0 rfl) ⟨_, Try.underlying36, by kernel_rfl⟩ rfl (by omega) (SL.at0 (by omega))) ?_; clear T ac; intro ac T
                refine l_q (v := (.agg #[.int .i64 jx.p0, .int .i64 jx.p1, .int .i64 jx.t0, .int .i64 jx.t1, .int .i64 jx.r0, .int .i64 jx.r1, .int .i64 jx.u0, .int .i64 jx.u1, .int .i64 jx.d0, .int .i64 jx.d1, .int .i64 jx.a0, .int .i64 jx.a1, .int .i64 jx.b0, .int .i64 jx.b1, .int .i64 jx.le, .slice Ax jx.sh.length cx, .int .i64 jx.wi, .int .i64 jx.me])) T rfl rfl rfl rfl (rn_rowat (Sp.jcR SL M (List.nil_sublist _) hkx) rfl (T.ev 0 rfl) rfl) ?_; clear T ac; intro ac T
                refine l_w rfl ?_; intro K hK
                refine ow_call (first := []) (cap := []) T rfl rfl rfl rfl evf (.cons (T.ev 0 rfl) .nil) Try.func76 rfl rfl ?_
                refine Calls.mono (rguided_any jx _ _ _ (hgL _ (List.mem_of_getElem? hkx)) (Sx.rd M (List.nil_sublist _))) ?_
                clear T
                rintro e wc ⟨rfl, hb⟩
                intro ac T
                replace M := M.call hb; clear hb
                refine sh_out hK _ _ ?_; clear hK K
                refine l_q T rfl rfl rfl rfl (rn_assign rfl (T.ev 0 rfl)) ?_; clear T ac; intro ac T
                refine wpList_nil ?_
                replace T := T.pick [0, 7, 8, 9, 10] rfl
                refine nm_then ?_
                refine cut_seq (fun ac wc => Tm ac 59 [(0, .slice A L.length c), (7, .int .i64 a), (8, .int .i64 b), (9, .int .i64 (i : Int)), (10, .int .i64 (gref jx)), (52, .bool ((decide (0 ≤ (gref jx))) && ((decide (a < 0)) || (decide ((gref jx) < b)))))] ∧ Mem w noEx wc []) ?_ ?_
                · refine wp_region_lit ?_
                  refine l_q T rfl rfl rfl rfl (rn_move rfl (T.ev 0 rfl)) ?_; clear T ac; intro ac T
                  refine l_q T rfl rfl rfl rfl (rn_geq rfl (T.ev 0 rfl) evc) ?_; clear T ac; intro ac T
                  refine l_q T rfl rfl rfl rfl (rn_move rfl (T.ev 0 rfl)) ?_; clear T ac; intro ac T
                  rcases Bool.eq_false_or_eq_true (decide (0 ≤ (gref jx))) with h6 | h6
                  · replace h6 := of_decide_eq_true h6
                    refine l_q T (wanted_yes rfl rfl (T.ev 0 rfl) (decide_eq_true h6)) rfl rfl rfl (rn_move rfl (T.ev 5 rfl)) ?_; clear T ac; intro ac T
                    refine l_q T (wanted_yes rfl rfl (T.ev 1 rfl) (decide_eq_true h6)) rfl rfl rfl (rn_lss rfl (T.ev 0 rfl) evc) ?_; clear T ac; intro ac T
                    refine l_q T (wanted_yes rfl rfl (T.ev 2 rfl) (decide_eq_true h6)) rfl rfl rfl (rn_move rfl (T.ev 0 rfl)) ?_; clear T ac; intro ac T
                    rcases Bool.eq_false_or_eq_true (decide (a < 0)) with h7 | h7
                    · replace h7 := of_decide_eq_true h7
                      refine l_pass T (wanted_no rfl rfl (T.ev 0 rfl) (decide_eq_true h7)) rfl rfl rfl ?_; clear T ac; intro ac T
                      refine l_pass T (wanted_no rfl rfl (T.ev 1 rfl) (decide_eq_true h7)) rfl rfl rfl ?_; clear T ac; intro ac T
                      refine l_pass T (wanted_no rfl rfl (T.ev 2 rfl) (decide_eq_true h7)) rfl rfl rfl ?_; clear T ac; intro ac T
                      refine l_q T (wanted_yes rfl rfl (T.ev 6 rfl) (decide_eq_true h6)) rfl rfl rfl (rn_pick1 rfl (T.ev 3 rfl) (decide_eq_true h7) evc) ?_; clear T ac; intro ac T
                      refine l_q T rfl rfl rfl rfl (rn_pick1 rfl (T.ev 7 rfl) (decide_eq_true h6) (T.ev 0 rfl)) ?_; clear T ac; intro ac T
                      refine wpList_nil ?_
                      replace T := T.pick [0, 1, 2, 3, 4, 5, 6, 7, 11, 12, 13, 14, 15] rfl
                      exact ⟨(T.pick (E' := [(0, .slice A L.length c), (7, .int .i64 a), (8, .int .i64 b), (9, .int .i64 (i : Int)), (10, .int .i64 (gref jx)), (52, .bool true)]) [9, 10, 11, 12, 8, 0] rfl).as (by (try rw [show (decide (0 ≤ (gref jx))) = true from (decide_eq_true h6)]); (try rw [show (decide (a < 0)) = true from (decide_eq_true h7)]); rfl), M.mask [] rfl⟩
                    · replace h7 := of_decide_eq_false h7
                      refine l_q T (wanted_yes rfl rfl (T.ev 0 rfl) (decide_eq_false h7)) rfl rfl rfl (rn_move rfl (T.ev 6 rfl)) ?_; clear T ac; intro ac T
                      refine l_q T (wanted_yes rfl rfl (T.ev 1 rfl) (decide_eq_false h7)) rfl rfl rfl (rn_move rfl (T.ev 10 rfl)) ?_; clear T ac; intro ac T
                      refine l_q T (wanted_yes rfl rfl (T.ev 2 rfl) (decide_eq_false h7)) rfl rfl rfl (rn_lss rfl (T.ev 1 rfl) (T.ev 0 rfl)) ?_; clear T ac; intro ac T
                      refine l_q T (wanted_yes rfl rfl (T.ev 6 rfl) (decide_eq_true h6)) rfl rfl rfl (rn_pick0 rfl (T.ev 3 rfl) (decide_eq_false h7) (T.ev 0 rfl)) ?_; clear T ac; intro ac T
                      refine l_q T rfl rfl rfl rfl (rn_pick1 rfl (T.ev 7 rfl) (decide_eq_true h6) (T.ev 0 rfl)) ?_; clear T ac; intro ac T
                      refine wpList_nil ?_
                      replace T := T.pick [0, 1, 2, 3, 4, 5, 6, 7, 11, 12, 13, 14, 15] rfl
                      exact ⟨(T.pick (E' := [(0, .slice A L.length c), (7, .int .i64 a), (8, .int .i64 b), (9, .int .i64 (i : Int)), (10, .int .i64 (gref jx)), (52, .bool (decide ((gref jx) < b)))]) [9, 10, 11, 12, 8, 0] rfl).as (by (try rw [show (decide (0 ≤ (gref jx))) = true from (decide_eq_true h6)]); (try rw [show (decide (a < 0)) = false from (decide_eq_false h7)]); rfl), M.mask [] rfl⟩
                  · replace h6 := of_decide_eq_false h6
                    refine l_pass T (wanted_no rfl rfl (T.ev 0 rfl) (decide_eq_false h6)) rfl rfl rfl ?_; clear T ac; intro ac T
                    refine l_pass T (wanted_no rfl rfl (T.ev 1 rfl) (decide_eq_false h6)) rfl rfl rfl ?_; clear T ac; intro ac T
                    refine l_pass T (wanted_no rfl rfl (T.ev 2 rfl) (decide_eq_false h6)) rfl rfl rfl ?_; clear T ac; intro ac T
                    refine l_pass T (wanted_un rfl rfl (T.ev 0 rfl)) rfl rfl rfl ?_; clear T ac; intro ac T
                    refine l_pass T (wanted_un rfl rfl (T.ev 1 rfl)) rfl rfl rfl ?_; clear T ac; intro ac T
                    refine l_pass T (wanted_un rfl rfl (T.ev 2 rfl)) rfl rfl rfl ?_; clear T ac; intro ac T
                    refine l_pass T (wanted_no rfl rfl (T.ev 6 rfl) (decide_eq_false h6)) rfl rfl rfl ?_; clear T ac; intro ac T
                    refine l_q T rfl rfl rfl rfl (rn_pick0 rfl (T.ev 7 rfl) (decide_eq_false h6) evc) ?_; clear T ac; intro ac T
                    refine wpList_nil ?_
                    replace T := T.pick [0, 1, 2, 3, 4, 5, 6, 7, 11, 12, 13, 14, 15] rfl
                    exact ⟨(T.pick (E' := [(0, .slice A L.length c), (7, .int .i64 a), (8, .int .i64 b), (9, .int .i64 (i : Int)), (10, .int .i64 (gref jx)), (52, .bool false)]) [9, 10, 11, 12, 8, 0] rfl).as (by (try rw [show (decide (0 ≤ (gref jx))) = false from (decide_eq_false h6)]); rfl), M.mask [] rfl⟩
                · clear T M
                  rintro ac wc ⟨T, M⟩
                  refine wp_cond_split (T.ev 5 rfl) ?_ ?_
                  · intro h8
                    (try have h8' := h8; try simp only [Bool.and_eq_true, Bool.or_eq_true, Bool.not_eq_true', Bool.and_eq_false_imp, Bool.or_eq_false_iff, decide_eq_true_eq, decide_eq_false_iff_not] at h8')
                    refine wp_region_lit ?_
                    refine l_q T rfl rfl rfl rfl (rn_move rfl (T.ev 3 rfl)) ?_; clear T ac; intro ac T
                    refine l_q T rfl rfl rfl rfl (rn_move rfl (T.ev 5 rfl)) ?_; clear T ac; intro ac T
                    refine l_q (v := (.int .i64 (i : Int))) (T.pick [0, 1, 2, 4, 5, 6, 7] rfl) rfl rfl rfl rfl (rn_assign rfl (T.ev 1 rfl)) ?_; clear T ac; intro ac T
                    refine l_q (v := (.int .i64 (gref jx))) (T.pick [0, 1, 2, 3, 5, 6, 7] rfl) rfl rfl rfl rfl (rn_assign rfl (T.ev 1 rfl)) ?_; clear T ac; intro ac T
                    refine wpList_nil ?_
                    replace T := T.pick [0, 1, 4, 5] rfl
                    refine nm_blk ?_
                    exact ⟨(T.pick (E' := [(0, .slice A L.length c), (7, .int .i64 (i : Int)), (8, .int .i64 (gref jx)), (9, .int .i64 (i : Int))]) [2, 1, 0, 3] rfl).as (by (try rw [show ((decide (0 ≤ (gref jx))) && ((decide (a < 0)) || (decide ((gref jx) < b)))) = true from h8]); rfl), M.mask [] rfl⟩
                  · intro h8
                    (try have h8' := h8; try simp only [Bool.and_eq_true, Bool.or_eq_true, Bool.not_eq_true', Bool.and_eq_false_imp, Bool.or_eq_false_iff, decide_eq_true_eq, decide_eq_false_iff_not] at h8')
                    refine wp_skip ?_
                    refine nm_blk ?_
                    exact ⟨(T.pick (E' := [(0, .slice A L.length c), (7, .int .i64 a), (8, .int .i64 b), (9, .int .i64 (i : Int))]) [0, 1, 2, 3] rfl).as (by (try rw [show ((decide (0 ≤ (gref jx))) && ((decide (a < 0)) || (decide ((gref jx) < b)))) = false from h8]); rfl), M.mask [] rfl⟩
              · clear T M
                rintro ac wc ⟨T, M⟩
                refine wp_region_lit ?_
                refine l_q T rfl rfl rfl rfl (rn_move rfl (T.ev 3 rfl)) ?_; clear T ac; intro ac T
                refine l_q T rfl rfl rfl rfl (rn_add rfl (T.ev 0 rfl) evc (by omega)) ?_; clear T ac; intro ac T
                refine l_q (v := (.int .i64 ((i : Int) + 1))) (T.pick [0, 1, 2, 3, 4] rfl) rfl rfl rfl rfl (rn_assign rfl (T.ev 0 rfl)) ?_; clear T ac; intro ac T
                refine wpList_nil ?_
                replace T := T.pick [0, 3, 4, 5] rfl
                refine nm_then ?_
                exact ⟨_, by omega, i + 1, (bif ((decide (0 ≤ (gref jx))) && ((decide (a < 0)) || (decide ((gref jx) < b)))) then (i : Int) else a), (bif ((decide (0 ≤ (gref jx))) && ((decide (a < 0)) || (decide ((gref jx) < b)))) then (gref jx) else b), rfl, (by omega), (H2.trans (congrArg (bestF _ _) (best_step2 hgj _ _ _))), T.pick [1, 2, 3, 0] rfl, M.mask [] rfl⟩
            · intro h5
              rw [List.drop_of_length_le (by omega)] at H2
              have H3 : bestF L 0 (-1, 0) = (a, b) := H2
              refine wp_exit ?_
              refine ex_then ?_
              refine ex_then ?_
              refine ex_hit ?_
              refine nm_then ?_
              refine wp_seq ?_
              refine wp_seq ?_
              refine wp_region_lit ?_
              refine l_q T rfl rfl rfl rfl (rn_move rfl (T.ev 2 rfl)) ?_; clear T ac; intro ac T
              refine l_q T rfl rfl rfl rfl (rn_lss rfl (T.ev 0 rfl) evc) ?_; clear T ac; intro ac T
              refine wpList_nil ?_
              replace T := T.pick [0, 4, 5] rfl
              refine nm_then ?_
              refine wp_if (T.ev 0 rfl) ?_ ?_
              · intro h9
                refine wp_seq ?_
                refine wp_region_lit ?_
                refine l_q T rfl rfl rfl rfl (rn_assign rfl evc) ?_; clear T ac; intro ac T
                refine l_q T rfl rfl rfl rfl (rn_assign rfl evc) ?_; clear T ac; intro ac T
                refine l_q T rfl rfl rfl rfl (rn_assign rfl evc) ?_; clear T ac; intro ac T
                refine wpList_nil ?_
                replace T := T.pick [0, 1, 2] rfl
                refine nm_then ?_
                refine wp_ret ?_
                refine rt_then ?_
                refine rt_3 T rfl (T.ev 2 rfl) (T.ev 1 rfl) (T.ev 0 rfl) ?_
                refine ⟨?_, M.below⟩
                unfold blankT
                rw [if_neg (by omega), if_neg (by omega), if_pos H, if_pos (by first | exact h9 | (rw [H3]; exact h9))]
              · intro h9
                refine wp_skip ?_
                refine nm_then ?_
                refine wp_seq ?_
                refine wp_region_lit ?_
                refine l_q T rfl rfl rfl rfl (rn_move rfl (T.ev 1 rfl)) ?_; clear T ac; intro ac T
                refine l_q T rfl rfl rfl rfl (rn_move rfl (T.ev 3 rfl)) ?_; clear T ac; intro ac T
                refine l_q T rfl rfl rfl rfl (rn_assign rfl (T.ev 1 rfl)) ?_; clear T ac; intro ac T
                refine l_q T rfl rfl rfl rfl (rn_assign rfl (T.ev 1 rfl)) ?_; clear T ac; intro ac T
                refine l_q T rfl rfl rfl rfl (rn_assign rfl evc) ?_; clear T ac; intro ac T
                refine wpList_nil ?_
                replace T := T.pick [0, 1, 2] rfl
                refine nm_then ?_
                refine wp_ret ?_
                refine rt_3 T rfl (T.ev 2 rfl) (T.ev 1 rfl) (T.ev 0 rfl) ?_
                refine ⟨?_, M.below⟩
                unfold blankT
                rw [if_neg (by omega), if_neg (by omega), if_pos H, if_neg (by first | exact h9 | (rw [H3]; exact h9))]
                try rw [H3]

end Go.Proofs.Ythlpceoajhcliaa
end

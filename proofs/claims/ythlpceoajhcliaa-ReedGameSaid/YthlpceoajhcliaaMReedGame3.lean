/-
  Walks of functions, and plain laws (texts put together). No condition.
-/
import Derived.Test.YthlpceoajhcliaaMReedGame1
import Derived.Test.YthlpceoajhcliaaMReedGame2

section
/-
  ref1: shifts, windows, what passes, what is heard.
-/
namespace Go.Proofs.Ythlpceoajhcliaa
set_option linter.unusedSimpArgs false
set_option linter.unusedVariables false
open Go.RowKit

def ShPost (j : Jb) (A : Option Addr) (w : World) (e : Ending) (w' : World) : Prop := ∃ A' c' I, e = .returned (.slice A' (shx j.sh).length c') ∧ ((A' = A ∧ I = [] ∧ shx j.sh = j.sh) ∨ ∃ g, A' = some ⟨g, 0, none⟩ ∧ I = [(g, .cells (rc (shx j.sh)))]) ∧ Mem w noEx w' I
theorem Sp.shx {w : World} {ex : Nat → Prop} {A A' : Option Addr} {j : Jb} {b o : Nat} {I : List (Nat × BA)} (S : Sp w ex [] A j.sh.length 2 b o (rc j.sh)) (h : (A' = A ∧ I = [] ∧ shx j.sh = j.sh) ∨ ∃ g, A' = some ⟨g, 0, none⟩ ∧ I = [(g, .cells (rc (shx j.sh)))]) :
    ∃ b' o', Sp w ex I A' (shx j.sh).length 2 b' o' (rc (shx j.sh)) := by
  rcases h with ⟨rfl, rfl, e⟩ | ⟨g, rfl, rfl⟩
  · rw [e]; exact ⟨b, o, S⟩
  · exact ⟨g, 0, Sp.cells (rc_length _)⟩
theorem shx_pos (l : List (Int × Int)) : 0 < (shx l).length := by
  unfold shx
  split
  · simp
  · exact List.length_pos_iff.2 ‹_›
theorem shx_few {j : Jb} (h : j.good) : (shx j.sh).length ≤ 4 := by
  have := h.few
  unfold shx
  split
  · simp
  · exact this
theorem shx_head (l : List (Int × Int)) : ∃ x y, (shx l)[0]? = some (x, y) := ⟨(shx l)[0]'(shx_pos l) |>.1, (shx l)[0]'(shx_pos l) |>.2, List.getElem?_eq_getElem (shx_pos l)⟩
theorem shx_bd {j : Jb} (h : j.good) {k : Nat} {x y : Int} (hk : (shx j.sh)[k]? = some (x, y)) : -60 ≤ x ∧ x ≤ y ∧ y ≤ 60 := by
  have hm := List.mem_of_getElem? hk
  unfold shx at hm
  split at hm
  · simp at hm; omega
  · exact h.sh _ hm
def wF (wi : Int) (l : List (Int × Int)) (x : Int × Int) : Int × Int := l.foldl (fun x s => (max x.1 (-wi - s.1), min x.2 (wi - s.2))) x
def rwin (j : Jb) : Int × Int := wF j.wi (shx j.sh) (-j.wi - ((shx j.sh)[0]?.getD (0, 0)).1, j.wi - ((shx j.sh)[0]?.getD (0, 0)).2)
theorem wF_lo (wi n : Int) : ∀ (l : List (Int × Int)) (x : Int × Int), (wF wi l x).1 ≤ n ↔ x.1 ≤ n ∧ ∀ s ∈ l, -wi - s.1 ≤ n
  | [], x => by simp [wF]
  | q :: r, x => by
    have h := wF_lo wi n r (max x.1 (-wi - q.1), min x.2 (wi - q.2))
    have e : wF wi (q :: r) x = wF wi r (max x.1 (-wi - q.1), min x.2 (wi - q.2)) := rfl
    rw [e, h]
    simp only [List.mem_cons, forall_eq_or_imp, Int.max_le, and_assoc]
theorem wF_hi (wi n : Int) : ∀ (l : List (Int × Int)) (x : Int × Int), n ≤ (wF wi l x).2 ↔ n ≤ x.2 ∧ ∀ s ∈ l, n ≤ wi - s.2
  | [], x => by simp [wF]
  | q :: r, x => by
    have h := wF_hi wi n r (max x.1 (-wi - q.1), min x.2 (wi - q.2))
    have e : wF wi (q :: r) x = wF wi r (max x.1 (-wi - q.1), min x.2 (wi - q.2)) := rfl
    rw [e, h]
    simp only [List.mem_cons, forall_eq_or_imp, Int.le_min, and_assoc]
theorem rwin_eq (j : Jb) : rwin j = winS j := by
  obtain ⟨x, y, hx⟩ := shx_head j.sh
  have hm := List.mem_of_getElem? hx
  have lo : ∀ n, (rwin j).1 ≤ n ↔ (winS j).1 ≤ n := fun n => by
    rw [winS_lo]; unfold rwin; rw [wF_lo, hx]
    exact ⟨fun h => h.2, fun h => ⟨h _ hm, h⟩⟩
  have hi : ∀ n, n ≤ (rwin j).2 ↔ n ≤ (winS j).2 := fun n => by
    rw [winS_hi]; unfold rwin; rw [wF_hi, hx]
    exact ⟨fun h => h.2, fun h => ⟨h _ hm, h⟩⟩
  have e1 : (rwin j).1 = (winS j).1 := by have a := (lo _).2 (Int.le_refl _); have b := (lo _).1 (Int.le_refl _); omega
  have e2 : (rwin j).2 = (winS j).2 := by have a := (hi _).2 (Int.le_refl _); have b := (hi _).1 (Int.le_refl _); omega
  exact Prod.ext e1 e2


set_option maxRecDepth 100000 in
set_option maxHeartbeats 1000000 in
theorem shifts_any (j : Jb) (A : Option Addr) (c : Nat) (w : World) (hj : j.good) :
    Calls Try.prog 99 #[jobV j A c] w (ShPost j A w) := by
  have := hj.few
  refine px_enter noEx Try.func99 rfl 11 rfl [.agg #[.int .i64 j.p0, .int .i64 j.p1, .int .i64 j.t0, .int .i64 j.t1, .int .i64 j.r0, .int .i64 j.r1, .int .i64 j.u0, .int .i64 j.u1, .int .i64 j.d0, .int .i64 j.d1, .int .i64 j.a0, .int .i64 j.a1, .int .i64 j.b0, .int .i64 j.b1, .int .i64 j.le, .slice A j.sh.length c, .int .i64 j.wi, .int .i64 j.me]] rfl rfl (Mem.init w _) ?_
  intro ac wc T M
  refine wp_seq ?_
  refine wp_region_lit ?_
  refine l_w rfl ?_; intro K hK
  refine ow_bx M T rfl rfl rfl rfl (T.ev 0 rfl) rfl ?_; clear M T; intro g1 wc ac M T
  refine sh_out hK _ _ ?_; clear hK K
  refine l_q T rfl rfl rfl rfl (rn_assign rfl evc) ?_; clear T ac; intro ac T
  refine wpList_nil ?_
  replace T := T.pick [1] rfl
  refine nm_then ?_
  refine wp_seq ?_
  refine wp_seq ?_
  refine wp_region_lit ?_
  refine l_q (v := (.pointer (some ⟨g1, 15, none⟩))) T rfl rfl rfl rfl (rn_fieldAddr (off := 15) rfl (T.ev 0 rfl) (fun _ _ _ => by kernel_rfl)) ?_; clear T ac; intro ac T
  refine l_q T rfl rfl rfl rfl (rn_one (Mem.nth M 0 rfl) rfl (T.ev 0 rfl) rfl) ?_; clear T ac; intro ac T
  refine l_q T rfl rfl rfl rfl (rn_lenS rfl Try.underlying28 (T.ev 0 rfl)) ?_; clear T ac; intro ac T
  refine l_q T rfl rfl rfl rfl (rn_eql rfl (T.ev 0 rfl) evc) ?_; clear T ac; intro ac T
  refine wpList_nil ?_
  replace T := T.pick [0, 4] rfl
  refine nm_then ?_
  refine wp_if (T.ev 0 rfl) ?_ ?_
  · intro h1
    refine wp_seq ?_
    refine wp_region_lit ?_
    refine l_q (v := (.agg #[.int .i64 0, .int .i64 0])) T rfl rfl rfl rfl (rn_build rfl .nil (fun _ => by kernel_rfl)) ?_; clear T ac; intro ac T
    refine l_w rfl ?_; intro K hK
    refine ow_bs (e := 23) [.int .i64 0, .int .i64 0] M T rfl rfl rfl rfl (.cons (T.ev 0 rfl) .nil) (fun _ => by kernel_rfl) ?_; clear M T; intro g2 wc ac M T
    refine sh_out hK _ _ ?_; clear hK K
    refine l_q T rfl rfl rfl rfl (rn_assign rfl (T.ev 0 rfl)) ?_; clear T ac; intro ac T
    refine wpList_nil ?_
    replace T := T.pick [0] rfl
    replace M := M.mask [true, false] rfl
    refine nm_then ?_
    refine wp_ret ?_
    refine rt_then ?_
    refine rt_1 T rfl (T.ev 0 rfl) ?_
    have h0 : j.sh = [] := List.eq_nil_of_length_eq_zero (by omega)
    have e : shx j.sh = [(0, 0)] := by unfold shx; rw [if_pos h0]
    refine ⟨_, _, _, by rw [e]; rfl, .inr ⟨_, rfl, rfl⟩, ?_⟩
    rw [e]
    exact M
  · intro h1
    refine wp_skip ?_
    refine nm_then ?_
    refine wp_seq ?_
    refine wp_region_lit ?_
    refine l_q (v := (.pointer (some ⟨g1, 15, none⟩))) T rfl rfl rfl rfl (rn_fieldAddr (off := 15) rfl (T.ev 1 rfl) (fun _ _ _ => by kernel_rfl)) ?_; clear T ac; intro ac T
    refine l_q T rfl rfl rfl rfl (rn_one (Mem.nth M 0 rfl) rfl (T.ev 0 rfl) rfl) ?_; clear T ac; intro ac T
    refine l_q T rfl rfl rfl rfl (rn_assign rfl (T.ev 0 rfl)) ?_; clear T ac; intro ac T
    refine wpList_nil ?_
    replace T := T.pick [0] rfl
    replace M := M.mask [false] rfl
    refine nm_then ?_
    refine wp_ret ?_
    refine rt_1 T rfl (T.ev 0 rfl) ?_
    have e : shx j.sh = j.sh := by unfold shx; rw [if_neg (by intro h0; rw [h0] at h1; exact h1 rfl)]
    exact ⟨_, _, _, by rw [e], .inl ⟨rfl, rfl, e⟩, M⟩

set_option maxRecDepth 100000 in
set_option maxHeartbeats 1000000 in
theorem rwindow_any (j : Jb) (A : Option Addr) (c : Nat) (w : World) (hj : j.good) (hr : Rd w w.heap.size 2 A j.sh.length (rc j.sh)) :
    Calls Try.prog 80 #[jobV j A c] w fun e w' => e = .returned (.agg #[.int .i64 ((rwin j).1), .int .i64 ((rwin j).2)]) ∧ Below w.heap.size w w' := by
  obtain ⟨bJ, oJ, SJ⟩ := Sp.old hr
  have hwi := hj.wi
  have hp := hj.p
  have hme := hj.me
  have hfew := hj.few
  refine px_enter noEx Try.func80 rfl 55 rfl [.agg #[.int .i64 j.p0, .int .i64 j.p1, .int .i64 j.t0, .int .i64 j.t1, .int .i64 j.r0, .int .i64 j.r1, .int .i64 j.u0, .int .i64 j.u1, .int .i64 j.d0, .int .i64 j.d1, .int .i64 j.a0, .int .i64 j.a1, .int .i64 j.b0, .int .i64 j.b1, .int .i64 j.le, .slice A j.sh.length c, .int .i64 j.wi, .int .i64 j.me]] rfl rfl (Mem.init w _) ?_
  intro ac wc T M
  refine wp_seq ?_
  refine wp_region_lit ?_
  refine l_w rfl ?_; intro K hK
  refine ow_bx M T rfl rfl rfl rfl (T.ev 0 rfl) rfl ?_; clear M T; intro g1 wc ac M T
  refine sh_out hK _ _ ?_; clear hK K
  refine l_w rfl ?_; intro K hK
  refine ow_al M T rfl rfl rfl rfl ?_; clear M T; intro g2 wc ac M T
  refine sh_out hK _ _ ?_; clear hK K
  refine wpList_nil ?_
  replace T := T.pick [0, 1] rfl
  refine nm_then ?_
  refine wp_seq ?_
  refine wp_region_lit ?_
  refine l_q T rfl rfl rfl rfl (rn_rowO (Mem.nth M 1 rfl) rfl (T.ev 1 rfl) rfl) ?_; clear T ac; intro ac T
  refine l_w rfl ?_; intro K hK
  refine ow_call (first := []) (cap := []) T rfl rfl rfl rfl evf (.cons (T.ev 0 rfl) .nil) Try.func99 rfl rfl ?_
  refine Calls.mono (shifts_any j _ _ _ hj) ?_
  clear T
  rintro e wc ⟨Au1, cu1, Iu1, rfl, hdu1, N⟩
  intro ac T
  obtain ⟨bu1, ou1, Su1⟩ := SJ.shx hdu1
  have hlu1 := shx_pos j.sh
  have hfu1 := shx_few hj
  replace M := (M.join N).swapI
  replace M := M.mask [true, true] rfl
  obtain ⟨s0, s1, hs0⟩ := shx_head j.sh
  have hs1 := shx_bd hj hs0
  refine sh_out hK _ _ ?_; clear hK K
  refine l_q T rfl rfl rfl rfl (rn_assign rfl (T.ev 0 rfl)) ?_; clear T ac; intro ac T
  refine wpList_nil ?_
  replace T := T.pick [0, 3, 4] rfl
  refine nm_then ?_
  refine wp_seq ?_
  refine g_start2 M (M.mask [true, true] rfl) 18 (by kernel_rfl) rfl (by kernel_rfl) ?_
  clear M; intro wc M
  refine g_q (v := (.pointer (some ⟨g1, 16, none⟩))) (T := T) (i := 0) rfl (by kernel_rfl) (by kernel_rfl : (pbits 18 0).setIfInBounds 0 true = pbits 18 1) si_U (fun _ _ _ h => h) rfl rfl rfl rfl (fun _ _ _ _ _ => (rn_fieldAddr (off := 16) rfl (T.ev 2 rfl) (fun _ _ _ => by kernel_rfl))) ?_; clear T ac; intro ac T
  refine g_q (T := T) (i := 1) rfl (by kernel_rfl) (by kernel_rfl : (pbits 18 1).setIfInBounds 1 true = pbits 18 3) si_U (fun _ _ _ h => h) rfl rfl rfl rfl (fun B w' hD hl hS => (rn_one (Mem.nth (show Mem w noEx w' _ from hS) 1 rfl) rfl (T.ev 0 rfl) rfl)) ?_; clear T ac; intro ac T
  refine g_q (T := T) (i := 2) rfl (by kernel_rfl) (by kernel_rfl : (pbits 18 3).setIfInBounds 2 true = pbits 18 7) si_U (fun _ _ _ h => h) rfl rfl rfl rfl (fun _ _ _ _ _ => (rn_neg rfl (T.ev 0 rfl) (by omega))) ?_; clear T ac; intro ac T
  refine g_q (T := T) (i := 3) rfl (by kernel_rfl) (by kernel_rfl : (pbits 18 7).setIfInBounds 3 true = pbits 18 15) si_U (fun _ _ _ h => h) rfl rfl rfl rfl (fun _ _ _ _ _ => (rn_move rfl (T.ev 3 rfl))) ?_; clear T ac; intro ac T
  refine g_q (T := T) (i := 4) rfl (by kernel_rfl) (by kernel_rfl : (pbits 18 15).setIfInBounds 4 true = pbits 18 31) si_U (fun _ _ _ h => h) rfl rfl rfl rfl (fun _ _ _ _ _ => (rn_indexAddr (size := 2) 0 rfl (T.ev 0 rfl) evc ⟨_, Try.underlying28, by kernel_rfl⟩ rfl (by omega) (Su1.at0 (by omega)))) ?_; clear T ac; intro ac T
  refine g_q (T := T) (i := 5) rfl (by kernel_rfl) (by kernel_rfl : (pbits 18 31).setIfInBounds 5 true = pbits 18 63) si_U (fun _ _ _ h => h) rfl rfl rfl rfl (fun _ _ _ _ _ => (rn_fieldAddr (off := 0) rfl (T.ev 0 rfl) (fun _ _ _ => by kernel_rfl))) ?_; clear T ac; intro ac T
  refine g_q (T := T) (i := 6) rfl (by kernel_rfl) (by kernel_rfl : (pbits 18 63).setIfInBounds 6 true = pbits 18 127) si_U (fun _ _ _ h => h) rfl rfl rfl rfl (fun B w' hD hl hS => (rn_cell (Sp.rc0 Su1 (show Mem w noEx w' _ from hS) (.cons _ (.cons _ (List.Sublist.refl _))) hs0) rfl (T.ev 0 rfl))) ?_; clear T ac; intro ac T
  refine g_q (T := T) (i := 7) rfl (by kernel_rfl) (by kernel_rfl : (pbits 18 127).setIfInBounds 7 true = pbits 18 255) si_U (fun _ _ _ h => h) rfl rfl rfl rfl (fun _ _ _ _ _ => (rn_sub rfl (T.ev 4 rfl) (T.ev 0 rfl) (by omega))) ?_; clear T ac; intro ac T
  refine g_q (v := (.pointer (some ⟨g1, 16, none⟩))) (T := T) (i := 8) rfl (by kernel_rfl) (by kernel_rfl : (pbits 18 255).setIfInBounds 8 true = pbits 18 511) si_U (fun _ _ _ h => h) rfl rfl rfl rfl (fun _ _ _ _ _ => (rn_fieldAddr (off := 16) rfl (T.ev 10 rfl) (fun _ _ _ => by kernel_rfl))) ?_; clear T ac; intro ac T
  refine g_q (T := T) (i := 9) rfl (by kernel_rfl) (by kernel_rfl : (pbits 18 511).setIfInBounds 9 true = pbits 18 1023) si_U (fun _ _ _ h => h) rfl rfl rfl rfl (fun B w' hD hl hS => (rn_one (Mem.nth (show Mem w noEx w' _ from hS) 1 rfl) rfl (T.ev 0 rfl) rfl)) ?_; clear T ac; intro ac T
  refine g_q (T := T) (i := 10) rfl (by kernel_rfl) (by kernel_rfl : (pbits 18 1023).setIfInBounds 10 true = pbits 18 2047) si_U (fun _ _ _ h => h) rfl rfl rfl rfl (fun _ _ _ _ _ => (rn_move rfl (T.ev 10 rfl))) ?_; clear T ac; intro ac T
  refine g_q (T := T) (i := 11) rfl (by kernel_rfl) (by kernel_rfl : (pbits 18 2047).setIfInBounds 11 true = pbits 18 4095) si_U (fun _ _ _ h => h) rfl rfl rfl rfl (fun _ _ _ _ _ => (rn_indexAddr (size := 2) 0 rfl (T.ev 0 rfl) evc ⟨_, Try.underlying28, by kernel_rfl⟩ rfl (by omega) (Su1.at0 (by omega)))) ?_; clear T ac; intro ac T
  refine g_q (T := T) (i := 12) rfl (by kernel_rfl) (by kernel_rfl : (pbits 18 4095).setIfInBounds 12 true = pbits 18 8191) si_U (fun _ _ _ h => h) rfl rfl rfl rfl (fun _ _ _ _ _ => (rn_fieldAddr (off := 1) rfl (T.ev 0 rfl) (fun _ _ _ => by kernel_rfl))) ?_; clear T ac; intro ac T
  refine g_q (T := T) (i := 13) rfl (by kernel_rfl) (by kernel_rfl : (pbits 18 8191).setIfInBounds 13 true = pbits 18 16383) si_U (fun _ _ _ h => h) rfl rfl rfl rfl (fun B w' hD hl hS => (rn_cell (Sp.rc1 Su1 (show Mem w noEx w' _ from hS) (.cons _ (.cons _ (List.Sublist.refl _))) hs0) rfl (T.ev 0 rfl))) ?_; clear T ac; intro ac T
  refine g_q (T := T) (i := 14) rfl (by kernel_rfl) (by kernel_rfl : (pbits 18 16383).setIfInBounds 14 true = pbits 18 32767) si_U (fun _ _ _ h => h) rfl rfl rfl rfl (fun _ _ _ _ _ => (rn_sub rfl (T.ev 4 rfl) (T.ev 0 rfl) (by omega))) ?_; clear T ac; intro ac T
  refine g_q (v := (.agg #[.int .i64 ((-j.wi) - s0), .int .i64 (j.wi - s1)])) (T := T) (i := 15) rfl (by kernel_rfl) (by kernel_rfl : (pbits 18 32767).setIfInBounds 15 true = pbits 18 65535) si_U (fun _ _ _ h => h) rfl rfl rfl rfl (fun _ _ _ _ _ => (rn_build rfl (.cons (T.ev 7 rfl) (.cons (T.ev 0 rfl) .nil)) (fun _ => by kernel_rfl))) ?_; clear T ac; intro ac T
  refine g_w (i := 16) (by kernel_rfl) rfl (by kernel_rfl : (pbits 18 65535).setIfInBounds 16 true = pbits 18 131071) rfl ?_; intro K hK
  refine ow_al M T rfl rfl rfl rfl ?_; clear M T; intro g3 wc ac M T
  refine sh_out hK _ _ (M.mask [false, true, true] rfl) ?_; clear hK K
  refine g_w (i := 17) (by kernel_rfl) rfl (by kernel_rfl : (pbits 18 131071).setIfInBounds 17 true = pbits 18 262143) rfl ?_; intro K hK
  refine ow_stO M T rfl rfl (T.ev 0 rfl) (T.ev 1 rfl) rfl .head rfl (by simp) rfl (by kernel_rfl) ?_; clear M T; intro wc ac M T
  refine sh_out hK _ _ (M.mask [false, true, true] rfl) ?_; clear hK K
  refine g_done (by kernel_rfl) ?_
  replace T := T.pick [0, 17, 18, 19] rfl
  refine nm_then ?_
  refine wp_seq ?_
  refine wp_seq ?_
  refine wp_region_lit ?_
  refine l_q T rfl rfl rfl rfl (rn_assign rfl evc) ?_; clear T ac; intro ac T
  refine wpList_nil ?_
  refine nm_then ?_
  refine wp_block ?_
  refine wp_loop_n (fun mz ac wc => ∃ (k : Nat) (y0 y1 : Int), mz = (shx j.sh).length - k ∧ (k ≤ (shx j.sh).length) ∧ (rwin j = wF j.wi ((shx j.sh).drop k) (y0, y1)) ∧ Tm ac 55 [(1, .pointer (some ⟨g1, 0, none⟩)), (2, .pointer (some ⟨g2, 0, none⟩)), (3, .slice Au1 ((shx j.sh).length) cu1), (4, .pointer (some ⟨g3, 0, none⟩)), (5, .int .i64 (k : Int))] ∧ Mem w noEx wc ((g3, .cells [.int .i64 y0, .int .i64 y1]) :: (g2, .cells [.int .i64 0, .int .i64 0]) :: (g1, .cells (jobL j A c)) :: Iu1)) ?_ ?_
  · exact ⟨_, 0, (-j.wi - s0), (j.wi - s1), rfl, (by omega), (by unfold rwin; rw [hs0]; rfl), T.pick [4, 3, 2, 1, 0] rfl, M.mask [true, true, true] rfl⟩
  · clear T M
    rintro mz ac wc ⟨k, y0, y1, hmm1, hk, H, T, M⟩
    refine wp_seq ?_
    refine wp_seq ?_
    refine wp_region_lit ?_
    refine l_q T rfl rfl rfl rfl (rn_move rfl (T.ev 4 rfl)) ?_; clear T ac; intro ac T
    refine l_q T rfl rfl rfl rfl (rn_move rfl (T.ev 3 rfl)) ?_; clear T ac; intro ac T
    refine l_q T rfl rfl rfl rfl (rn_lenS rfl Try.underlying28 (T.ev 0 rfl)) ?_; clear T ac; intro ac T
    refine l_q T rfl rfl rfl rfl (rn_lss rfl (T.ev 2 rfl) (T.ev 0 rfl)) ?_; clear T ac; intro ac T
    refine wpList_nil ?_
    replace T := T.pick [0, 4, 5, 6, 7, 8] rfl
    refine nm_then ?_
    refine wp_if (T.ev 0 rfl) ?_ ?_
    · intro h1
      obtain ⟨x0, x1, hk1, hd⟩ := rc_next (l := shx j.sh) (k := k) (by omega)
      have hb1 := shx_bd hj hk1
      rw [hd] at H
      refine wp_skip ?_
      refine nm_then ?_
      refine wp_seq ?_
      refine wp_block ?_
      refine g_start2 M (M.mask [false, true, true] rfl) 25 (by kernel_rfl) rfl (by kernel_rfl) ?_
      clear M; intro wc M
      refine g_addG 24 M ?_
      refine g_q (v := (.pointer (some ⟨g3, 0, none⟩))) (T := T) (i := 0) rfl (by kernel_rfl) (by kernel_rfl : (pbits 25 0).setIfInBounds 0 true = pbits 25 1) (si_and (si_G rfl) si_U) (fun _ _ _ h => h) rfl rfl rfl rfl (fun _ _ _ _ _ => (rn_fieldAddr (off := 0) rfl (T.ev 4 rfl) (fun _ _ _ => by kernel_rfl))) ?_; clear T ac; intro ac T
      refine g_q (T := T) (i := 1) rfl (by kernel_rfl) (by kernel_rfl : (pbits 25 1).setIfInBounds 1 true = pbits 25 3) (si_and (si_G rfl) si_U) (fun _ _ _ h => h) rfl rfl rfl rfl (fun B w' hD hl hS => (rn_one (Mem.nth (show Mem w noEx w' _ from ((MA.lft hS) (hD.wait (i := 1) (m := 24) (by kernel_rfl) hl))) 0 rfl) rfl (T.ev 0 rfl) rfl)) ?_; clear T ac; intro ac T
      refine g_q (v := (.pointer (some ⟨g1, 16, none⟩))) (T := T) (i := 2) rfl (by kernel_rfl) (by kernel_rfl : (pbits 25 3).setIfInBounds 2 true = pbits 25 7) (si_and (si_G rfl) si_U) (fun _ _ _ h => h) rfl rfl rfl rfl (fun _ _ _ _ _ => (rn_fieldAddr (off := 16) rfl (T.ev 3 rfl) (fun _ _ _ => by kernel_rfl))) ?_; clear T ac; intro ac T
      refine g_q (T := T) (i := 3) rfl (by kernel_rfl) (by kernel_rfl : (pbits 25 7).setIfInBounds 3 true = pbits 25 15) (si_and (si_G rfl) si_U) (fun _ _ _ h => h) rfl rfl rfl rfl (fun B w' hD hl hS => (rn_one (Mem.nth (show Mem w noEx w' _ from ((MA.lft hS) (hD.wait (i := 3) (m := 24) (by kernel_rfl) hl))) 2 rfl) rfl (T.ev 0 rfl) rfl)) ?_; clear T ac; intro ac T
      refine g_q (T := T) (i := 4) rfl (by kernel_rfl) (by kernel_rfl : (pbits 25 15).setIfInBounds 4 true = pbits 25 31) (si_and (si_G rfl) si_U) (fun _ _ _ h => h) rfl rfl rfl rfl (fun _ _ _ _ _ => (rn_neg rfl (T.ev 0 rfl) (by omega))) ?_; clear T ac; intro ac T
      refine g_q (T := T) (i := 5) rfl (by kernel_rfl) (by kernel_rfl : (pbits 25 31).setIfInBounds 5 true = pbits 25 63) (si_and (si_G rfl) si_U) (fun _ _ _ h => h) rfl rfl rfl rfl (fun _ _ _ _ _ => (rn_move rfl (T.ev 8 rfl))) ?_; clear T ac; intro ac T
      refine g_q (T := T) (i := 6) rfl (by kernel_rfl) (by kernel_rfl : (pbits 25 63).setIfInBounds 6 true = pbits 25 127) (si_and (si_G rfl) si_U) (fun _ _ _ h => h) rfl rfl rfl rfl (fun _ _ _ _ _ => (rn_move rfl (T.ev 11 rfl))) ?_; clear T ac; intro ac T
      refine g_q (T := T) (i := 7) rfl (by kernel_rfl) (by kernel_rfl : (pbits 25 127).setIfInBounds 7 true = pbits 25 255) (si_and (si_G rfl) si_U) (fun _ _ _ h => h) rfl rfl rfl rfl (fun _ _ _ _ _ => (rn_indexAddr (size := 2) k rfl (T.ev 1 rfl) (T.ev 0 rfl) ⟨_, Try.underlying28, by kernel_rfl⟩ rfl (by omega) (Su1.at0 (by omega)))) ?_; clear T ac; intro ac T
      refine g_q (T := T) (i := 8) rfl (by kernel_rfl) (by kernel_rfl : (pbits 25 255).setIfInBounds 8 true = pbits 25 511) (si_and (si_G rfl) si_U) (fun _ _ _ h => h) rfl rfl rfl rfl (fun _ _ _ _ _ => (rn_fieldAddr (off := 0) rfl (T.ev 0 rfl) (fun _ _ _ => by kernel_rfl))) ?_; clear T ac; intro ac T
      refine g_q (T := T) (i := 9) rfl (by kernel_rfl) (by kernel_rfl : (pbits 25 511).setIfInBounds 9 true = pbits 25 1023) (si_and (si_G rfl) si_U) (fun _ _ _ h => h) rfl rfl rfl rfl (fun B w' hD hl hS => (rn_cell (Sp.rc0 Su1 (show Mem w noEx w' _ from ((MA.lft hS) (hD.wait (i := 9) (m := 24) (by kernel_rfl) hl))) (.cons _ (.cons _ (.cons _ (List.Sublist.refl _)))) hk1) rfl (T.ev 0 rfl))) ?_; clear T ac; intro ac T
      refine g_q (T := T) (i := 10) rfl (by kernel_rfl) (by kernel_rfl : (pbits 25 1023).setIfInBounds 10 true = pbits 25 2047) (si_and (si_G rfl) si_U) (fun _ _ _ h => h) rfl rfl rfl rfl (fun _ _ _ _ _ => (rn_sub rfl (T.ev 5 rfl) (T.ev 0 rfl) (by omega))) ?_; clear T ac; intro ac T
      refine g_q (T := T) (i := 11) rfl (by kernel_rfl) (by kernel_rfl : (pbits 25 2047).setIfInBounds 11 true = pbits 25 4095) (si_and (si_G rfl) si_U) (fun _ _ _ h => h) rfl rfl rfl rfl (fun _ _ _ _ _ => (rn_max2 rfl (T.ev 9 rfl) (T.ev 0 rfl))) ?_; clear T ac; intro ac T
      refine g_q (v := (.pointer (some ⟨g3, 1, none⟩))) (T := T) (i := 12) rfl (by kernel_rfl) (by kernel_rfl : (pbits 25 4095).setIfInBounds 12 true = pbits 25 8191) (si_and (si_G rfl) si_U) (fun _ _ _ h => h) rfl rfl rfl rfl (fun _ _ _ _ _ => (rn_fieldAddr (off := 1) rfl (T.ev 16 rfl) (fun _ _ _ => by kernel_rfl))) ?_; clear T ac; intro ac T
      refine g_q (T := T) (i := 13) rfl (by kernel_rfl) (by kernel_rfl : (pbits 25 8191).setIfInBounds 13 true = pbits 25 16383) (si_and (si_G rfl) si_U) (fun _ _ _ h => h) rfl rfl rfl rfl (fun B w' hD hl hS => (rn_one (Mem.nth (show Mem w noEx w' _ from ((MA.lft hS) (hD.wait (i := 13) (m := 24) (by kernel_rfl) hl))) 0 rfl) rfl (T.ev 0 rfl) rfl)) ?_; clear T ac; intro ac T
      refine g_q (v := (.pointer (some ⟨g1, 16, none⟩))) (T := T) (i := 14) rfl (by kernel_rfl) (by kernel_rfl : (pbits 25 16383).setIfInBounds 14 true = pbits 25 32767) (si_and (si_G rfl) si_U) (fun _ _ _ h => h) rfl rfl rfl rfl (fun _ _ _ _ _ => (rn_fieldAddr (off := 16) rfl (T.ev 15 rfl) (fun _ _ _ => by kernel_rfl))) ?_; clear T ac; intro ac T
      refine g_q (T := T) (i := 15) rfl (by kernel_rfl) (by kernel_rfl : (pbits 25 32767).setIfInBounds 15 true = pbits 25 65535) (si_and (si_G rfl) si_U) (fun _ _ _ h => h) rfl rfl rfl rfl (fun B w' hD hl hS => (rn_one (Mem.nth (show Mem w noEx w' _ from ((MA.lft hS) (hD.wait (i := 15) (m := 24) (by kernel_rfl) hl))) 2 rfl) rfl (T.ev 0 rfl) rfl)) ?_; clear T ac; intro ac T
      refine g_q (T := T) (i := 16) rfl (by kernel_rfl) (by kernel_rfl : (pbits 25 65535).setIfInBounds 16 true = pbits 25 131071) (si_and (si_G rfl) si_U) (fun _ _ _ h => h) rfl rfl rfl rfl (fun _ _ _ _ _ => (rn_move rfl (T.ev 19 rfl))) ?_; clear T ac; intro ac T
      refine g_q (T := T) (i := 17) rfl (by kernel_rfl) (by kernel_rfl : (pbits 25 131071).setIfInBounds 17 true = pbits 25 262143) (si_and (si_G rfl) si_U) (fun _ _ _ h => h) rfl rfl rfl rfl (fun _ _ _ _ _ => (rn_move rfl (T.ev 22 rfl))) ?_; clear T ac; intro ac T
      refine g_q (T := T) (i := 18) rfl (by kernel_rfl) (by kernel_rfl : (pbits 25 262143).setIfInBounds 18 true = pbits 25 524287) (si_and (si_G rfl) si_U) (fun _ _ _ h => h) rfl rfl rfl rfl (fun _ _ _ _ _ => (rn_indexAddr (size := 2) k rfl (T.ev 1 rfl) (T.ev 0 rfl) ⟨_, Try.underlying28, by kernel_rfl⟩ rfl (by omega) (Su1.at0 (by omega)))) ?_; clear T ac; intro ac T
      refine g_q (T := T) (i := 19) rfl (by kernel_rfl) (by kernel_rfl : (pbits 25 524287).setIfInBounds 19 true = pbits 25 1048575) (si_and (si_G rfl) si_U) (fun _ _ _ h => h) rfl rfl rfl rfl (fun _ _ _ _ _ => (rn_fieldAddr (off := 1) rfl (T.ev 0 rfl) (fun _ _ _ => by kernel_rfl))) ?_; clear T ac; intro ac T
      refine g_q (T := T) (i := 20) rfl (by kernel_rfl) (by kernel_rfl : (pbits 25 1048575).setIfInBounds 20 true = pbits 25 2097151) (si_and (si_G rfl) si_U) (fun _ _ _ h => h) rfl rfl rfl rfl (fun B w' hD hl hS => (rn_cell (Sp.rc1 Su1 (show Mem w noEx w' _ from ((MA.lft hS) (hD.wait (i := 20) (m := 24) (by kernel_rfl) hl))) (.cons _ (.cons _ (.cons _ (List.Sublist.refl _)))) hk1) rfl (T.ev 0 rfl))) ?_; clear T ac; intro ac T
      refine g_q (T := T) (i := 21) rfl (by kernel_rfl) (by kernel_rfl : (pbits 25 2097151).setIfInBounds 21 true = pbits 25 4194303) (si_and (si_G rfl) si_U) (fun _ _ _ h => h) rfl rfl rfl rfl (fun _ _ _ _ _ => (rn_sub rfl (T.ev 5 rfl) (T.ev 0 rfl) (by omega))) ?_; clear T ac; intro ac T
      refine g_q (T := T) (i := 22) rfl (by kernel_rfl) (by kernel_rfl : (pbits 25 4194303).setIfInBounds 22 true = pbits 25 8388607) (si_and (si_G rfl) si_U) (fun _ _ _ h => h) rfl rfl rfl rfl (fun _ _ _ _ _ => (rn_min2 rfl (T.ev 8 rfl) (T.ev 0 rfl))) ?_; clear T ac; intro ac T
      refine g_q (v := (.agg #[.int .i64 (max y0 ((-j.wi) - x0)), .int .i64 (min y1 (j.wi - x1))])) (T := T) (i := 23) rfl (by kernel_rfl) (by kernel_rfl : (pbits 25 8388607).setIfInBounds 23 true = pbits 25 16777215) (si_and (si_G rfl) si_U) (fun _ _ _ h => h) rfl rfl rfl rfl (fun _ _ _ _ _ => (rn_build rfl (.cons (T.ev 11 rfl) (.cons (T.ev 0 rfl) .nil)) (fun _ => by kernel_rfl))) ?_; clear T ac; intro ac T
      refine g_w (i := 24) (by kernel_rfl) rfl (by kernel_rfl : (pbits 25 16777215).setIfInBounds 24 true = pbits 25 33554431) rfl ?_; intro K hK
      refine ow_stO M T rfl rfl (T.ev 28 rfl) (T.ev 0 rfl) rfl .head rfl (by simp) rfl (by kernel_rfl) ?_; clear M T; intro wc ac M T
      refine sh_out hK _ _ (MA.mk (fun h => (no_of (by kernel_rfl) h).elim) (M.mask [false, true, true] rfl)) ?_; clear hK K
      refine g_done (by kernel_rfl) ?_
      replace T := T.pick [25, 26, 27, 28, 29] rfl
      refine nm_blk ?_
      refine nm_then ?_
      refine wp_region_lit ?_
      refine l_q T rfl rfl rfl rfl (rn_move rfl (T.ev 4 rfl)) ?_; clear T ac; intro ac T
      refine l_q T rfl rfl rfl rfl (rn_add rfl (T.ev 0 rfl) evc (by omega)) ?_; clear T ac; intro ac T
      refine l_q (v := (.int .i64 ((k : Int) + 1))) (T.pick [0, 1, 2, 3, 4, 5] rfl) rfl rfl rfl rfl (rn_assign rfl (T.ev 0 rfl)) ?_; clear T ac; intro ac T
      refine wpList_nil ?_
      replace T := T.pick [0, 3, 4, 5, 6] rfl
      refine nm_then ?_
      exact ⟨_, by omega, k + 1, (max y0 (-j.wi - x0)), (min y1 (j.wi - x1)), rfl, (by omega), H, T.pick [1, 2, 3, 4, 0] rfl, M.mask [true, true, true] rfl⟩
    · intro h1
      rw [List.drop_of_length_le (by omega)] at H
      refine wp_exit ?_
      refine ex_then ?_
      refine ex_then ?_
      refine ex_hit ?_
      refine nm_then ?_
      refine wp_seq ?_
      refine wp_region_lit ?_
      refine l_q T rfl rfl rfl rfl (rn_rowO (Mem.nth M 0 rfl) rfl (T.ev 4 rfl) rfl) ?_; clear T ac; intro ac T
      refine l_w rfl ?_; intro K hK
      refine ow_stO M T rfl rfl (T.ev 3 rfl) (T.ev 0 rfl) rfl (.tail .head) rfl (by simp) rfl (by kernel_rfl) ?_; clear M T; intro wc ac M T
      refine sh_out hK _ _ ?_; clear hK K
      refine wpList_nil ?_
      replace T := T.pick [3] rfl
      replace M := M.mask [false, true, false] rfl
      refine nm_then ?_
      refine wp_ret ?_
      refine rt_c M T rfl (T.ev 0 rfl) (nthE_mem (i := 0) rfl) rfl ?_
      rw [H]
      exact ⟨rfl, M.below⟩

def windowR (j : Jb) : (Int × Int) × Int := if checkJ j = 0 then (if (rwin j).2 < (rwin j).1 then ((0, 0), 11) else (rwin j, 0)) else ((0, 0), checkJ j)
theorem windowR_eq (j : Jb) : windowR j = windowJ j := by unfold windowR windowJ; rw [rwin_eq]


set_option maxRecDepth 100000 in
set_option maxHeartbeats 1000000 in
theorem rWindow_any (j : Jb) (A : Option Addr) (c : Nat) (w : World) (hr : Rd w w.heap.size 2 A j.sh.length (rc j.sh)) (hn : j.sh.length ≤ 9223372036854775807) :
    Calls Try.prog 45 #[jobV j A c] w fun e w' => e = .returned (.tuple #[.agg #[.int .i64 ((windowR j).1.1), .int .i64 ((windowR j).1.2)], .int .i64 ((windowR j).2)]) ∧ Below w.heap.size w w' := by
  obtain ⟨bJ, oJ, SJ⟩ := Sp.old hr
  refine px_enter noEx Try.func45 rfl 21 rfl [.agg #[.int .i64 j.p0, .int .i64 j.p1, .int .i64 j.t0, .int .i64 j.t1, .int .i64 j.r0, .int .i64 j.r1, .int .i64 j.u0, .int .i64 j.u1, .int .i64 j.d0, .int .i64 j.d1, .int .i64 j.a0, .int .i64 j.a1, .int .i64 j.b0, .int .i64 j.b1, .int .i64 j.le, .slice A j.sh.length c, .int .i64 j.wi, .int .i64 j.me]] rfl rfl (Mem.init w _) ?_
  intro ac wc T M
  refine wp_seq ?_
  refine wp_region_lit ?_
  refine l_w rfl ?_; intro K hK
  refine ow_bx M T rfl rfl rfl rfl (T.ev 0 rfl) rfl ?_; clear M T; intro g1 wc ac M T
  refine sh_out hK _ _ ?_; clear hK K
  refine l_w rfl ?_; intro K hK
  refine ow_al M T rfl rfl rfl rfl ?_; clear M T; intro g2 wc ac M T
  refine sh_out hK _ _ ?_; clear hK K
  refine l_q T rfl rfl rfl rfl (rn_assign rfl evc) ?_; clear T ac; intro ac T
  refine wpList_nil ?_
  replace T := T.pick [1, 2] rfl
  refine nm_then ?_
  refine wp_seq ?_
  refine wp_seq ?_
  refine wp_region_lit ?_
  refine l_q T rfl rfl rfl rfl (rn_rowO (Mem.nth M 1 rfl) rfl (T.ev 1 rfl) rfl) ?_; clear T ac; intro ac T
  refine l_w rfl ?_; intro K hK
  refine ow_call (first := []) (cap := []) T rfl rfl rfl rfl evf (.cons (T.ev 0 rfl) .nil) Try.func50 rfl rfl ?_
  refine Calls.mono (rCheck_any j _ _ _ (SJ.rd M (List.nil_sublist _)) (by omega)) ?_
  clear T
  rintro e wc ⟨rfl, hb⟩
  intro ac T
  replace M := M.call hb; clear hb
  refine sh_out hK _ _ ?_; clear hK K
  refine l_q T rfl rfl rfl rfl (rn_assign rfl (T.ev 0 rfl)) ?_; clear T ac; intro ac T
  refine wpList_nil ?_
  replace T := T.pick [0, 3, 4] rfl
  refine nm_then ?_
  refine wp_seq ?_
  refine wp_region_lit ?_
  refine l_q T rfl rfl rfl rfl (rn_move rfl (T.ev 0 rfl)) ?_; clear T ac; intro ac T
  refine l_q T rfl rfl rfl rfl (rn_neq rfl (T.ev 0 rfl) evc) ?_; clear T ac; intro ac T
  refine wpList_nil ?_
  replace T := T.pick [0, 2, 3, 4] rfl
  refine nm_then ?_
  refine wp_ifn (T.ev 0 rfl) ?_ ?_
  · intro h1
    refine wp_seq ?_
    refine wp_region_lit ?_
    refine l_q (v := (.agg #[.int .i64 0, .int .i64 0])) T rfl rfl rfl rfl (rn_build rfl .nil (fun _ => by kernel_rfl)) ?_; clear T ac; intro ac T
    refine l_q T rfl rfl rfl rfl (rn_move rfl (T.ev 2 rfl)) ?_; clear T ac; intro ac T
    refine l_w rfl ?_; intro K hK
    refine ow_stO M T rfl rfl (T.ev 4 rfl) (T.ev 1 rfl) rfl .head rfl (by simp) rfl (by kernel_rfl) ?_; clear M T; intro wc ac M T
    refine sh_out hK _ _ ?_; clear hK K
    refine l_q T rfl rfl rfl rfl (rn_assign rfl (T.ev 0 rfl)) ?_; clear T ac; intro ac T
    refine wpList_nil ?_
    replace T := T.pick [0, 5] rfl
    replace M := M.mask [true, false] rfl
    refine nm_then ?_
    refine wp_ret ?_
    refine rt_then ?_
    refine rt_ct M T rfl (T.ev 1 rfl) (T.ev 0 rfl) (nthE_mem (i := 0) rfl) rfl ?_
    refine ⟨?_, M.below⟩
    unfold windowR
    (repeat' split) <;> first | rfl | omega | contradiction | (simp_all; done) | (simp_all; omega)
  · intro h1
    refine wp_skip ?_
    refine nm_then ?_
    refine wp_seq ?_
    refine wp_region_lit ?_
    refine l_q T rfl rfl rfl rfl (rn_rowO (Mem.nth M 1 rfl) rfl (T.ev 3 rfl) rfl) ?_; clear T ac; intro ac T
    refine l_w rfl ?_; intro K hK
    refine ow_call (first := []) (cap := []) T rfl rfl rfl rfl evf (.cons (T.ev 0 rfl) .nil) Try.func80 rfl rfl ?_
    refine Calls.mono (rwindow_any j _ _ _ (good_of (by simpa using h1)) (SJ.rd M (List.nil_sublist _))) ?_
    clear T
    rintro e wc ⟨rfl, hb⟩
    intro ac T
    replace M := M.call hb; clear hb
    refine sh_out hK _ _ ?_; clear hK K
    refine l_w rfl ?_; intro K hK
    refine ow_al M T rfl rfl rfl rfl ?_; clear M T; intro g3 wc ac M T
    refine sh_out hK _ _ ?_; clear hK K
    refine l_w rfl ?_; intro K hK
    refine ow_stO M T rfl rfl (T.ev 0 rfl) (T.ev 1 rfl) rfl .head rfl (by simp) rfl (by kernel_rfl) ?_; clear M T; intro wc ac M T
    refine sh_out hK _ _ ?_; clear hK K
    refine wpList_nil ?_
    replace T := T.pick [0, 5] rfl
    replace M := M.mask [true, true, false] rfl
    refine nm_then ?_
    refine wp_seq ?_
    refine wp_seq ?_
    refine wp_region_lit ?_
    refine l_q (v := (.pointer (some ⟨g3, 0, none⟩))) T rfl rfl rfl rfl (rn_fieldAddr (off := 0) rfl (T.ev 0 rfl) (fun _ _ _ => by kernel_rfl)) ?_; clear T ac; intro ac T
    refine l_q T rfl rfl rfl rfl (rn_one (Mem.nth M 0 rfl) rfl (T.ev 0 rfl) rfl) ?_; clear T ac; intro ac T
    refine l_q (v := (.pointer (some ⟨g3, 1, none⟩))) T rfl rfl rfl rfl (rn_fieldAddr (off := 1) rfl (T.ev 2 rfl) (fun _ _ _ => by kernel_rfl)) ?_; clear T ac; intro ac T
    refine l_q T rfl rfl rfl rfl (rn_one (Mem.nth M 0 rfl) rfl (T.ev 0 rfl) rfl) ?_; clear T ac; intro ac T
    refine l_q T rfl rfl rfl rfl (rn_gtr rfl (T.ev 2 rfl) (T.ev 0 rfl)) ?_; clear T ac; intro ac T
    refine wpList_nil ?_
    replace T := T.pick [0, 5, 6] rfl
    refine nm_then ?_
    refine wp_if (T.ev 0 rfl) ?_ ?_
    · intro h2
      refine wp_seq ?_
      refine wp_region_lit ?_
      refine l_q (v := (.agg #[.int .i64 0, .int .i64 0])) T rfl rfl rfl rfl (rn_build rfl .nil (fun _ => by kernel_rfl)) ?_; clear T ac; intro ac T
      refine l_w rfl ?_; intro K hK
      refine ow_stO M T rfl rfl (T.ev 3 rfl) (T.ev 0 rfl) rfl (.tail .head) rfl (by simp) rfl (by kernel_rfl) ?_; clear M T; intro wc ac M T
      refine sh_out hK _ _ ?_; clear hK K
      refine l_q T rfl rfl rfl rfl (rn_assign rfl evc) ?_; clear T ac; intro ac T
      refine wpList_nil ?_
      replace T := T.pick [0, 4] rfl
      replace M := M.mask [false, true] rfl
      refine nm_then ?_
      refine wp_ret ?_
      refine rt_then ?_
      refine rt_ct M T rfl (T.ev 1 rfl) (T.ev 0 rfl) (nthE_mem (i := 0) rfl) rfl ?_
      refine ⟨?_, M.below⟩
      unfold windowR
      (repeat' split) <;> first | rfl | omega | contradiction | (simp_all; done) | (simp_all; omega)
    · intro h2
      refine wp_skip ?_
      refine nm_then ?_
      refine wp_seq ?_
      refine wp_region_lit ?_
      refine l_q T rfl rfl rfl rfl (rn_rowO (Mem.nth M 0 rfl) rfl (T.ev 1 rfl) rfl) ?_; clear T ac; intro ac T
      refine l_w rfl ?_; intro K hK
      refine ow_stO M T rfl rfl (T.ev 3 rfl) (T.ev 0 rfl) rfl (.tail .head) rfl (by simp) rfl (by kernel_rfl) ?_; clear M T; intro wc ac M T
      refine sh_out hK _ _ ?_; clear hK K
      refine l_q T rfl rfl rfl rfl (rn_assign rfl evc) ?_; clear T ac; intro ac T
      refine wpList_nil ?_
      replace T := T.pick [0, 4] rfl
      replace M := M.mask [false, true] rfl
      refine nm_then ?_
      refine wp_ret ?_
      refine rt_ct M T rfl (T.ev 1 rfl) (T.ev 0 rfl) (nthE_mem (i := 0) rfl) rfl ?_
      refine ⟨?_, M.below⟩
      unfold windowR
      (repeat' split) <;> first | rfl | omega | contradiction | (simp_all; done) | (simp_all; omega)

def canAt (j : Jb) (p : Int) : Bool := (shx j.sh).all fun s => decide (-j.wi ≤ p + s.2) && decide (p + s.1 ≤ j.wi)
def anyN (f : Int → Bool) : Nat → Int → Bool
  | 0, _ => false
  | n + 1, p => f p || anyN f n (p + 1)
def rpass (j : Jb) (p0 p1 : Int) : Int := if hasB (rwin j).1 (rwin j).2 p0 p1 = true then 1 else if anyN (canAt j) (p1 + 1 - p0).toNat p0 = true then 3 else 2


set_option maxRecDepth 100000 in
set_option maxHeartbeats 1000000 in
theorem rpasses_any (j : Jb) (A : Option Addr) (c : Nat) (p0 p1 : Int) (w : World) (hj : j.good) (hr : Rd w w.heap.size 2 A j.sh.length (rc j.sh)) (hb0 : -100000 ≤ p0 ∧ p0 ≤ 100000) (hb1 : -100000 ≤ p1 ∧ p1 ≤ 100000) :
    Calls Try.prog 89 #[jobV j A c, R2 p0 p1] w fun e w' => e = .returned (.int .i64 (rpass j p0 p1)) ∧ Below w.heap.size w w' := by
  obtain ⟨bJ, oJ, SJ⟩ := Sp.old hr
  have hwi := hj.wi
  have hp := hj.p
  have hme := hj.me
  have hfew := hj.few
  refine px_enter noEx Try.func89 rfl 56 rfl [.agg #[.int .i64 j.p0, .int .i64 j.p1, .int .i64 j.t0, .int .i64 j.t1, .int .i64 j.r0, .int .i64 j.r1, .int .i64 j.u0, .int .i64 j.u1, .int .i64 j.d0, .int .i64 j.d1, .int .i64 j.a0, .int .i64 j.a1, .int .i64 j.b0, .int .i64 j.b1, .int .i64 j.le, .slice A j.sh.length c, .int .i64 j.wi, .int .i64 j.me], .agg #[.int .i64 p0, .int .i64 p1]] rfl rfl (Mem.init w _) ?_
  intro ac wc T M
  refine wp_seq ?_
  refine wp_region_lit ?_
  refine l_w rfl ?_; intro K hK
  refine ow_bx M T rfl rfl rfl rfl (T.ev 0 rfl) rfl ?_; clear M T; intro g1 wc ac M T
  refine sh_out hK _ _ ?_; clear hK K
  refine l_w rfl ?_; intro K hK
  refine ow_bx M T rfl rfl rfl rfl (T.ev 2 rfl) rfl ?_; clear M T; intro g2 wc ac M T
  refine sh_out hK _ _ ?_; clear hK K
  refine l_q T rfl rfl rfl rfl (rn_assign rfl evc) ?_; clear T ac; intro ac T
  refine wpList_nil ?_
  replace T := T.pick [1, 2] rfl
  refine nm_then ?_
  refine wp_seq ?_
  refine wp_seq ?_
  refine g_start2 M (M.mask [true, true] rfl) 4 (by kernel_rfl) rfl (by kernel_rfl) ?_
  clear M; intro wc M
  refine g_q (T := T) (i := 0) rfl (by kernel_rfl) (by kernel_rfl : (pbits 4 0).setIfInBounds 0 true = pbits 4 1) si_U (fun _ _ _ h => h) rfl rfl rfl rfl (fun B w' hD hl hS => (rn_rowO (Mem.nth (show Mem w noEx w' _ from hS) 0 rfl) rfl (T.ev 0 rfl) rfl)) ?_; clear T ac; intro ac T
  refine g_q (T := T) (i := 1) rfl (by kernel_rfl) (by kernel_rfl : (pbits 4 1).setIfInBounds 1 true = pbits 4 3) si_U (fun _ _ _ h => h) rfl rfl rfl rfl (fun B w' hD hl hS => (rn_rowO (Mem.nth (show Mem w noEx w' _ from hS) 1 rfl) rfl (T.ev 2 rfl) rfl)) ?_; clear T ac; intro ac T
  refine g_w (i := 2) (by kernel_rfl) rfl (by kernel_rfl : (pbits 4 3).setIfInBounds 2 true = pbits 4 7) rfl ?_; intro K hK
  refine ow_call (first := []) (cap := []) T rfl rfl rfl rfl evf (.cons (T.ev 0 rfl) .nil) Try.func80 rfl rfl ?_
  refine Calls.mono (rwindow_any j _ _ _ hj (SJ.rd M (List.nil_sublist _))) ?_
  clear T
  rintro e wc ⟨rfl, hb⟩
  intro ac T
  replace M := M.call hb; clear hb
  refine sh_out hK _ _ (M.mask [true, true] rfl) ?_; clear hK K
  refine g_w (i := 3) (by kernel_rfl) rfl (by kernel_rfl : (pbits 4 7).setIfInBounds 3 true = pbits 4 15) rfl ?_; intro K hK
  refine ow_call (first := []) (cap := []) T rfl rfl rfl rfl evf (.cons (T.ev 2 rfl) (.cons (T.ev 0 rfl) .nil)) Try.func79 rfl rfl ?_
  refine Calls.mono (inside_any p0 p1 ((rwin j).1) ((rwin j).2) _) ?_
  clear T
  rintro e wc ⟨rfl, hb⟩
  intro ac T
  replace M := M.call hb; clear hb
  refine sh_out hK _ _ (M.mask [true, true] rfl) ?_; clear hK K
  refine g_done (by kernel_rfl) ?_
  replace T := T.pick [0, 4, 5] rfl
  refine nm_then ?_
  refine wp_cond_split (T.ev 0 rfl) ?_ ?_
  · intro h1
    refine wp_seq ?_
    refine wp_region_lit ?_
    refine l_q T rfl rfl rfl rfl (rn_assign rfl evc) ?_; clear T ac; intro ac T
    refine wpList_nil ?_
    replace T := T.pick [0] rfl
    replace M := M.mask [false, false] rfl
    refine nm_then ?_
    refine wp_ret ?_
    refine rt_then ?_
    refine rt_1 T rfl (T.ev 0 rfl) ?_
    refine ⟨ret_int ?_, M.below⟩
    unfold rpass
    rw [if_pos h1]
  · intro h1
    refine wp_skip ?_
    refine nm_then ?_
    refine wp_seq ?_
    refine wp_region_lit ?_
    refine l_q T rfl rfl rfl rfl (rn_rowO (Mem.nth M 1 rfl) rfl (T.ev 2 rfl) rfl) ?_; clear T ac; intro ac T
    refine l_w rfl ?_; intro K hK
    refine ow_call (first := []) (cap := []) T rfl rfl rfl rfl evf (.cons (T.ev 0 rfl) .nil) Try.func99 rfl rfl ?_
    refine Calls.mono (shifts_any j _ _ _ hj) ?_
    clear T
    rintro e wc ⟨Au3, cu3, Iu3, rfl, hdu3, N⟩
    intro ac T
    obtain ⟨bu3, ou3, Su3⟩ := SJ.shx hdu3
    have hlu3 := shx_pos j.sh
    have hfu3 := shx_few hj
    replace M := (M.join N).swapI
    replace M := M.mask [true, true] rfl
    refine sh_out hK _ _ ?_; clear hK K
    refine l_q T rfl rfl rfl rfl (rn_assign rfl (T.ev 0 rfl)) ?_; clear T ac; intro ac T
    refine wpList_nil ?_
    replace T := T.pick [0, 4, 5] rfl
    refine nm_then ?_
    refine wp_seq ?_
    refine wp_seq ?_
    refine wp_region_lit ?_
    refine l_q (v := (.pointer (some ⟨g2, 0, none⟩))) T rfl rfl rfl rfl (rn_fieldAddr (off := 0) rfl (T.ev 1 rfl) (fun _ _ _ => by kernel_rfl)) ?_; clear T ac; intro ac T
    refine l_q T rfl rfl rfl rfl (rn_one (Mem.nth M 0 rfl) rfl (T.ev 0 rfl) rfl) ?_; clear T ac; intro ac T
    refine l_q T rfl rfl rfl rfl (rn_assign rfl (T.ev 0 rfl)) ?_; clear T ac; intro ac T
    refine wpList_nil ?_
    replace T := T.pick [0, 3, 4, 5] rfl
    refine nm_then ?_
    refine wp_block ?_
    refine wp_loop_n (fun mz ac wc => ∃ (p : Int) (q : Nat), mz = q ∧ (q = (p1 + 1 - p).toNat) ∧ (p0 ≤ p) ∧ (p ≤ p1 + 1 ∨ p = p0) ∧ (anyN (canAt j) (p1 + 1 - p0).toNat p0 = anyN (canAt j) q p) ∧ Tm ac 56 [(2, .pointer (some ⟨g1, 0, none⟩)), (3, .pointer (some ⟨g2, 0, none⟩)), (5, .slice Au3 ((shx j.sh).length) cu3), (6, .int .i64 p)] ∧ Mem w noEx wc ((g2, .cells [.int .i64 p0, .int .i64 p1]) :: (g1, .cells (jobL j A c)) :: Iu3)) ?_ ?_
    · exact ⟨_, p0, _, rfl, rfl, (by omega), (by omega), rfl, T.pick [3, 2, 1, 0] rfl, M.mask [true, true] rfl⟩
    · clear T M
      rintro mz ac wc ⟨p, q, hmm1, hq, hlo, hhi, H, T, M⟩
      refine wp_seq ?_
      refine wp_seq ?_
      refine wp_region_lit ?_
      refine l_q T rfl rfl rfl rfl (rn_move rfl (T.ev 3 rfl)) ?_; clear T ac; intro ac T
      refine l_q (v := (.pointer (some ⟨g2, 1, none⟩))) T rfl rfl rfl rfl (rn_fieldAddr (off := 1) rfl (T.ev 2 rfl) (fun _ _ _ => by kernel_rfl)) ?_; clear T ac; intro ac T
      refine l_q T rfl rfl rfl rfl (rn_one (Mem.nth M 0 rfl) rfl (T.ev 0 rfl) rfl) ?_; clear T ac; intro ac T
      refine l_q T rfl rfl rfl rfl (rn_leq rfl (T.ev 2 rfl) (T.ev 0 rfl)) ?_; clear T ac; intro ac T
      refine wpList_nil ?_
      replace T := T.pick [0, 4, 5, 6, 7] rfl
      refine nm_then ?_
      refine wp_if (T.ev 0 rfl) ?_ ?_
      · intro h2
        refine wp_skip ?_
        refine nm_then ?_
        refine wp_seq ?_
        refine wp_block ?_
        refine wp_seq ?_
        refine wp_region_lit ?_
        refine l_q T rfl rfl rfl rfl (rn_assign rfl evc) ?_; clear T ac; intro ac T
        refine wpList_nil ?_
        replace T := T.pick [0, 2, 3, 4, 5] rfl
        refine nm_then ?_
        refine wp_seq ?_
        refine wp_seq ?_
        refine wp_region_lit ?_
        refine l_q T rfl rfl rfl rfl (rn_assign rfl evc) ?_; clear T ac; intro ac T
        refine wpList_nil ?_
        refine nm_then ?_
        refine wp_block ?_
        refine wp_loop_n (fun mz ac wc => ∃ (k : Nat) (b : Bool), mz = (shx j.sh).length - k ∧ (k ≤ (shx j.sh).length) ∧ (canAt j p = (b && ((shx j.sh).drop k).all fun s => decide (-j.wi ≤ p + s.2) && decide (p + s.1 ≤ j.wi))) ∧ Tm ac 56 [(2, .pointer (some ⟨g1, 0, none⟩)), (3, .pointer (some ⟨g2, 0, none⟩)), (5, .slice Au3 ((shx j.sh).length) cu3), (6, .int .i64 p), (7, .bool b), (8, .int .i64 (k : Int))] ∧ Mem w noEx wc ((g2, .cells [.int .i64 p0, .int .i64 p1]) :: (g1, .cells (jobL j A c)) :: Iu3)) ?_ ?_
        · exact ⟨_, 0, true, rfl, (by omega), rfl, T.pick [2, 3, 4, 5, 1, 0] rfl, M.mask [true, true] rfl⟩
        · clear T M
          rintro mz ac wc ⟨k, b, hmm2, hk, Hc, T, M⟩
          refine wp_seq ?_
          refine wp_seq ?_
          refine wp_region_lit ?_
          refine l_q T rfl rfl rfl rfl (rn_move rfl (T.ev 5 rfl)) ?_; clear T ac; intro ac T
          refine l_q T rfl rfl rfl rfl (rn_move rfl (T.ev 3 rfl)) ?_; clear T ac; intro ac T
          refine l_q T rfl rfl rfl rfl (rn_lenS rfl Try.underlying28 (T.ev 0 rfl)) ?_; clear T ac; intro ac T
          refine l_q T rfl rfl rfl rfl (rn_lss rfl (T.ev 2 rfl) (T.ev 0 rfl)) ?_; clear T ac; intro ac T
          refine wpList_nil ?_
          replace T := T.pick [0, 4, 5, 6, 7, 8, 9] rfl
          refine nm_then ?_
          refine wp_if (T.ev 0 rfl) ?_ ?_
          · intro h3
            obtain ⟨x0, x1, hk1, hd⟩ := rc_next (l := shx j.sh) (k := k) (by omega)
            have hb2 := shx_bd hj hk1
            rw [hd, List.all_cons] at Hc
            refine wp_skip ?_
            refine nm_then ?_
            refine cut_seq (fun ac wc => Tm ac 56 [(2, .pointer (some ⟨g1, 0, none⟩)), (3, .pointer (some ⟨g2, 0, none⟩)), (5, .slice Au3 ((shx j.sh).length) cu3), (6, .int .i64 p), (7, .bool (b && ((decide ((-j.wi) ≤ (p + x1))) && (decide ((p + x0) ≤ j.wi))))), (8, .int .i64 (k : Int))] ∧ Mem w noEx wc ((g2, .cells [.int .i64 p0, .int .i64 p1]) :: (g1, .cells (jobL j A c)) :: Iu3)) ?_ ?_
            · refine wp_block ?_
              refine g_start2 M (M.mask [true, true] rfl) 27 (by kernel_rfl) rfl (by kernel_rfl) ?_
              clear M; intro wc M
              refine g_q (T := T) (i := 0) rfl (by kernel_rfl) (by kernel_rfl : (pbits 27 0).setIfInBounds 0 true = pbits 27 1) si_U (fun _ _ _ h => h) rfl rfl rfl rfl (fun _ _ _ _ _ => (rn_move rfl (T.ev 5 rfl))) ?_; clear T ac; intro ac T
              refine g_q (T := T) (i := 1) rfl (by kernel_rfl) (by kernel_rfl : (pbits 27 1).setIfInBounds 1 true = pbits 27 3) si_U (fun _ _ _ h => h) rfl rfl rfl rfl (fun _ _ _ _ _ => (rn_move rfl (T.ev 0 rfl))) ?_; clear T ac; intro ac T
              rcases Bool.eq_false_or_eq_true b with h4 | h4
              · refine g_q (T := T) (i := 2) rfl (by kernel_rfl) (by kernel_rfl : (pbits 27 3).setIfInBounds 2 true = pbits 27 7) si_U (fun _ _ _ h => h) (wanted_yes rfl rfl (T.ev 0 rfl) h4) rfl rfl rfl (fun _ _ _ _ _ => (rn_move rfl (T.ev 6 rfl))) ?_; clear T ac; intro ac T
                refine g_q (T := T) (i := 3) rfl (by kernel_rfl) (by kernel_rfl : (pbits 27 7).setIfInBounds 3 true = pbits 27 15) si_U (fun _ _ _ h => h) (wanted_yes rfl rfl (T.ev 1 rfl) h4) rfl rfl rfl (fun _ _ _ _ _ => (rn_move rfl (T.ev 6 rfl))) ?_; clear T ac; intro ac T
                refine g_q (T := T) (i := 4) rfl (by kernel_rfl) (by kernel_rfl : (pbits 27 15).setIfInBounds 4 true = pbits 27 31) si_U (fun _ _ _ h => h) (wanted_yes rfl rfl (T.ev 2 rfl) h4) rfl rfl rfl (fun _ _ _ _ _ => (rn_move rfl (T.ev 10 rfl))) ?_; clear T ac; intro ac T
                refine g_q (T := T) (i := 5) rfl (by kernel_rfl) (by kernel_rfl : (pbits 27 31).setIfInBounds 5 true = pbits 27 63) si_U (fun _ _ _ h => h) (wanted_yes rfl rfl (T.ev 3 rfl) h4) rfl rfl rfl (fun _ _ _ _ _ => (rn_indexAddr (size := 2) k rfl (T.ev 1 rfl) (T.ev 0 rfl) ⟨_, Try.underlying28, by kernel_rfl⟩ rfl (by omega) (Su3.at0 (by omega)))) ?_; clear T ac; intro ac T
                refine g_q (T := T) (i := 6) rfl (by kernel_rfl) (by kernel_rfl : (pbits 27 63).setIfInBounds 6 true = pbits 27 127) si_U (fun _ _ _ h => h) (wanted_yes rfl rfl (T.ev 4 rfl) h4) rfl rfl rfl (fun _ _ _ _ _ => (rn_fieldAddr (off := 1) rfl (T.ev 0 rfl) (fun _ _ _ => by kernel_rfl))) ?_; clear T ac; intro ac T
                refine g_q (T := T) (i := 7) rfl (by kernel_rfl) (by kernel_rfl : (pbits 27 127).setIfInBounds 7 true = pbits 27 255) si_U (fun _ _ _ h => h) (wanted_yes rfl rfl (T.ev 5 rfl) h4) rfl rfl rfl (fun B w' hD hl hS => (rn_cell (Sp.rc1 Su3 (show Mem w noEx w' _ from hS) (.cons _ (.cons _ (List.Sublist.refl _))) hk1) rfl (T.ev 0 rfl))) ?_; clear T ac; intro ac T
                refine g_q (T := T) (i := 8) rfl (by kernel_rfl) (by kernel_rfl : (pbits 27 255).setIfInBounds 8 true = pbits 27 511) si_U (fun _ _ _ h => h) (wanted_yes rfl rfl (T.ev 6 rfl) h4) rfl rfl rfl (fun _ _ _ _ _ => (rn_add rfl (T.ev 5 rfl) (T.ev 0 rfl) (by omega))) ?_; clear T ac; intro ac T
                refine g_q (v := (.pointer (some ⟨g1, 16, none⟩))) (T := T) (i := 9) rfl (by kernel_rfl) (by kernel_rfl : (pbits 27 511).setIfInBounds 9 true = pbits 27 1023) si_U (fun _ _ _ h => h) (wanted_yes rfl rfl (T.ev 7 rfl) h4) rfl rfl rfl (fun _ _ _ _ _ => (rn_fieldAddr (off := 16) rfl (T.ev 10 rfl) (fun _ _ _ => by kernel_rfl))) ?_; clear T ac; intro ac T
                refine g_q (T := T) (i := 10) rfl (by kernel_rfl) (by kernel_rfl : (pbits 27 1023).setIfInBounds 10 true = pbits 27 2047) si_U (fun _ _ _ h => h) (wanted_yes rfl rfl (T.ev 8 rfl) h4) rfl rfl rfl (fun B w' hD hl hS => (rn_one (Mem.nth (show Mem w noEx w' _ from hS) 1 rfl) rfl (T.ev 0 rfl) rfl)) ?_; clear T ac; intro ac T
                refine g_q (T := T) (i := 11) rfl (by kernel_rfl) (by kernel_rfl : (pbits 27 2047).setIfInBounds 11 true = pbits 27 4095) si_U (fun _ _ _ h => h) (wanted_yes rfl rfl (T.ev 9 rfl) h4) rfl rfl rfl (fun _ _ _ _ _ => (rn_neg rfl (T.ev 0 rfl) (by omega))) ?_; clear T ac; intro ac T
                refine g_q (T := T) (i := 12) rfl (by kernel_rfl) (by kernel_rfl : (pbits 27 4095).setIfInBounds 12 true = pbits 27 8191) si_U (fun _ _ _ h => h) (wanted_yes rfl rfl (T.ev 10 rfl) h4) rfl rfl rfl (fun _ _ _ _ _ => (rn_geq rfl (T.ev 3 rfl) (T.ev 0 rfl))) ?_; clear T ac; intro ac T
                refine g_q (T := T) (i := 13) rfl (by kernel_rfl) (by kernel_rfl : (pbits 27 8191).setIfInBounds 13 true = pbits 27 16383) si_U (fun _ _ _ h => h) rfl rfl rfl rfl (fun _ _ _ _ _ => (rn_pick1 rfl (T.ev 11 rfl) h4 (T.ev 0 rfl))) ?_; clear T ac; intro ac T
                refine g_q (T := T) (i := 14) rfl (by kernel_rfl) (by kernel_rfl : (pbits 27 16383).setIfInBounds 14 true = pbits 27 32767) si_U (fun _ _ _ h => h) rfl rfl rfl rfl (fun _ _ _ _ _ => (rn_move rfl (T.ev 0 rfl))) ?_; clear T ac; intro ac T
                rcases Bool.eq_false_or_eq_true (decide ((-j.wi) ≤ (p + x1))) with h5 | h5
                · replace h5 := of_decide_eq_true h5
                  refine g_q (T := T) (i := 15) rfl (by kernel_rfl) (by kernel_rfl : (pbits 27 32767).setIfInBounds 15 true = pbits 27 65535) si_U (fun _ _ _ h => h) (wanted_yes rfl rfl (T.ev 0 rfl) (decide_eq_true h5)) rfl rfl rfl (fun _ _ _ _ _ => (rn_move rfl (T.ev 19 rfl))) ?_; clear T ac; intro ac T
                  refine g_q (T := T) (i := 16) rfl (by kernel_rfl) (by kernel_rfl : (pbits 27 65535).setIfInBounds 16 true = pbits 27 131071) si_U (fun _ _ _ h => h) (wanted_yes rfl rfl (T.ev 1 rfl) (decide_eq_true h5)) rfl rfl rfl (fun _ _ _ _ _ => (rn_move rfl (T.ev 19 rfl))) ?_; clear T ac; intro ac T
                  refine g_q (T := T) (i := 17) rfl (by kernel_rfl) (by kernel_rfl : (pbits 27 131071).setIfInBounds 17 true = pbits 27 262143) si_U (fun _ _ _ h => h) (wanted_yes rfl rfl (T.ev 2 rfl) (decide_eq_true h5)) rfl rfl rfl (fun _ _ _ _ _ => (rn_move rfl (T.ev 23 rfl))) ?_; clear T ac; intro ac T
                  refine g_q (T := T) (i := 18) rfl (by kernel_rfl) (by kernel_rfl : (pbits 27 262143).setIfInBounds 18 true = pbits 27 524287) si_U (fun _ _ _ h => h) (wanted_yes rfl rfl (T.ev 3 rfl) (decide_eq_true h5)) rfl rfl rfl (fun _ _ _ _ _ => (rn_indexAddr (size := 2) k rfl (T.ev 1 rfl) (T.ev 0 rfl) ⟨_, Try.underlying28, by kernel_rfl⟩ rfl (by omega) (Su3.at0 (by omega)))) ?_; clear T ac; intro ac T
                  refine g_q (T := T) (i := 19) rfl (by kernel_rfl) (by kernel_rfl : (pbits 27 524287).setIfInBounds 19 true = pbits 27 1048575) si_U (fun _ _ _ h => h) (wanted_yes rfl rfl (T.ev 4 rfl) (decide_eq_true h5)) rfl rfl rfl (fun _ _ _ _ _ => (rn_fieldAddr (off := 0) rfl (T.ev 0 rfl) (fun _ _ _ => by kernel_rfl))) ?_; clear T ac; intro ac T
                  refine g_q (T := T) (i := 20) rfl (by kernel_rfl) (by kernel_rfl : (pbits 27 1048575).setIfInBounds 20 true = pbits 27 2097151) si_U (fun _ _ _ h => h) (wanted_yes rfl rfl (T.ev 5 rfl) (decide_eq_true h5)) rfl rfl rfl (fun B w' hD hl hS => (rn_cell (Sp.rc0 Su3 (show Mem w noEx w' _ from hS) (.cons _ (.cons _ (List.Sublist.refl _))) hk1) rfl (T.ev 0 rfl))) ?_; clear T ac; intro ac T
                  refine g_q (T := T) (i := 21) rfl (by kernel_rfl) (by kernel_rfl : (pbits 27 2097151).setIfInBounds 21 true = pbits 27 4194303) si_U (fun _ _ _ h => h) (wanted_yes rfl rfl (T.ev 6 rfl) (decide_eq_true h5)) rfl rfl rfl (fun _ _ _ _ _ => (rn_add rfl (T.ev 5 rfl) (T.ev 0 rfl) (by omega))) ?_; clear T ac; intro ac T
                  refine g_q (v := (.pointer (some ⟨g1, 16, none⟩))) (T := T) (i := 22) rfl (by kernel_rfl) (by kernel_rfl : (pbits 27 4194303).setIfInBounds 22 true = pbits 27 8388607) si_U (fun _ _ _ h => h) (wanted_yes rfl rfl (T.ev 7 rfl) (decide_eq_true h5)) rfl rfl rfl (fun _ _ _ _ _ => (rn_fieldAddr (off := 16) rfl (T.ev 23 rfl) (fun _ _ _ => by kernel_rfl))) ?_; clear T ac; intro ac T
                  refine g_q (T := T) (i := 23) rfl (by kernel_rfl) (by kernel_rfl : (pbits 27 8388607).setIfInBounds 23 true = pbits 27 16777215) si_U (fun _ _ _ h => h) (wanted_yes rfl rfl (T.ev 8 rfl) (decide_eq_true h5)) rfl rfl rfl (fun B w' hD hl hS => (rn_one (Mem.nth (show Mem w noEx w' _ from hS) 1 rfl) rfl (T.ev 0 rfl) rfl)) ?_; clear T ac; intro ac T
                  refine g_q (T := T) (i := 24) rfl (by kernel_rfl) (by kernel_rfl : (pbits 27 16777215).setIfInBounds 24 true = pbits 27 33554431) si_U (fun _ _ _ h => h) (wanted_yes rfl rfl (T.ev 9 rfl) (decide_eq_true h5)) rfl rfl rfl (fun _ _ _ _ _ => (rn_leq rfl (T.ev 2 rfl) (T.ev 0 rfl))) ?_; clear T ac; intro ac T
                  refine g_q (T := T) (i := 25) rfl (by kernel_rfl) (by kernel_rfl : (pbits 27 33554431).setIfInBounds 25 true = pbits 27 67108863) si_U (fun _ _ _ h => h) rfl rfl rfl rfl (fun _ _ _ _ _ => (rn_pick1 rfl (T.ev 10 rfl) (decide_eq_true h5) (T.ev 0 rfl))) ?_; clear T ac; intro ac T
                  refine g_q (v := (.bool (decide ((p + x0) ≤ j.wi)))) (T := T.pick [0, 1, 2, 3, 4, 5, 6, 7, 8, 9, 10, 11, 12, 13, 14, 15, 16, 17, 18, 19, 20, 21, 22, 23, 24, 25, 26, 27, 28, 29, 30, 32] rfl) (i := 26) rfl (by kernel_rfl) (by kernel_rfl : (pbits 27 67108863).setIfInBounds 26 true = pbits 27 134217727) si_U (fun _ _ _ h => h) rfl rfl rfl rfl (fun _ _ _ _ _ => (rn_assign rfl (T.ev 0 rfl))) ?_; clear T ac; intro ac T
                  refine g_done (by kernel_rfl) ?_
                  replace T := T.pick [0, 2, 3, 4, 5, 6, 7, 8, 9, 10, 11, 14, 15, 16, 17, 18, 19, 20, 21, 22, 23, 24, 28, 29, 30, 31, 32] rfl
                  refine nm_blk ?_
                  exact ⟨(T.pick (E' := [(2, .pointer (some ⟨g1, 0, none⟩)), (3, .pointer (some ⟨g2, 0, none⟩)), (5, .slice Au3 ((shx j.sh).length) cu3), (6, .int .i64 p), (7, .bool (decide ((p + x0) ≤ j.wi))), (8, .int .i64 (k : Int))]) [22, 23, 24, 25, 0, 26] rfl).as (by (try rw [show b = true from h4]); (try rw [show (decide ((-j.wi) ≤ (p + x1))) = true from (decide_eq_true h5)]); rfl), M.mask [true, true] rfl⟩
                · replace h5 := of_decide_eq_false h5
                  refine g_pass (T := T) (i := 15) rfl (by kernel_rfl) (by kernel_rfl : (pbits 27 32767).setIfInBounds 15 true = pbits 27 65535) si_U (fun _ _ _ h => h) (wanted_no rfl rfl (T.ev 0 rfl) (decide_eq_false h5)) rfl rfl rfl ?_; clear T ac; intro ac T
                  refine g_pass (T := T) (i := 16) rfl (by kernel_rfl) (by kernel_rfl : (pbits 27 65535).setIfInBounds 16 true = pbits 27 131071) si_U (fun _ _ _ h => h) (wanted_no rfl rfl (T.ev 1 rfl) (decide_eq_false h5)) rfl rfl rfl ?_; clear T ac; intro ac T
                  refine g_pass (T := T) (i := 17) rfl (by kernel_rfl) (by kernel_rfl : (pbits 27 131071).setIfInBounds 17 true = pbits 27 262143) si_U (fun _ _ _ h => h) (wanted_no rfl rfl (T.ev 2 rfl) (decide_eq_false h5)) rfl rfl rfl ?_; clear T ac; intro ac T
                  refine g_pass (T := T) (i := 18) rfl (by kernel_rfl) (by kernel_rfl : (pbits 27 262143).setIfInBounds 18 true = pbits 27 524287) si_U (fun _ _ _ h => h) (wanted_no rfl rfl (T.ev 3 rfl) (decide_eq_false h5)) rfl rfl rfl ?_; clear T ac; intro ac T
                  refine g_pass (T := T) (i := 19) rfl (by kernel_rfl) (by kernel_rfl : (pbits 27 524287).setIfInBounds 19 true = pbits 27 1048575) si_U (fun _ _ _ h => h) (wanted_no rfl rfl (T.ev 4 rfl) (decide_eq_false h5)) rfl rfl rfl ?_; clear T ac; intro ac T
                  refine g_pass (T := T) (i := 20) rfl (by kernel_rfl) (by kernel_rfl : (pbits 27 1048575).setIfInBounds 20 true = pbits 27 2097151) si_U (fun _ _ _ h => h) (wanted_no rfl rfl (T.ev 5 rfl) (decide_eq_false h5)) rfl rfl rfl ?_; clear T ac; intro ac T
                  refine g_pass (T := T) (i := 21) rfl (by kernel_rfl) (by kernel_rfl : (pbits 27 2097151).setIfInBounds 21 true = pbits 27 4194303) si_U (fun _ _ _ h => h) (wanted_no rfl rfl (T.ev 6 rfl) (decide_eq_false h5)) rfl rfl rfl ?_; clear T ac; intro ac T
                  refine g_pass (T := T) (i := 22) rfl (by kernel_rfl) (by kernel_rfl : (pbits 27 4194303).setIfInBounds 22 true = pbits 27 8388607) si_U (fun _ _ _ h => h) (wanted_no rfl rfl (T.ev 7 rfl) (decide_eq_false h5)) rfl rfl rfl ?_; clear T ac; intro ac T
                  refine g_pass (T := T) (i := 23) rfl (by kernel_rfl) (by kernel_rfl : (pbits 27 8388607).setIfInBounds 23 true = pbits 27 16777215) si_U (fun _ _ _ h => h) (wanted_no rfl rfl (T.ev 8 rfl) (decide_eq_false h5)) rfl rfl rfl ?_; clear T ac; intro ac T
                  refine g_pass (T := T) (i := 24) rfl (by kernel_rfl) (by kernel_rfl : (pbits 27 16777215).setIfInBounds 24 true = pbits 27 33554431) si_U (fun _ _ _ h => h) (wanted_no rfl rfl (T.ev 9 rfl) (decide_eq_false h5)) rfl rfl rfl ?_; clear T ac; intro ac T
                  refine g_q (T := T) (i := 25) rfl (by kernel_rfl) (by kernel_rfl : (pbits 27 33554431).setIfInBounds 25 true = pbits 27 67108863) si_U (fun _ _ _ h => h) rfl rfl rfl rfl (fun _ _ _ _ _ => (rn_pick0 rfl (T.ev 10 rfl) (decide_eq_false h5) evc)) ?_; clear T ac; intro ac T
                  refine g_q (v := (.bool false)) (T := T.pick [0, 1, 2, 3, 4, 5, 6, 7, 8, 9, 10, 11, 12, 13, 14, 15, 16, 17, 18, 19, 20, 21, 22, 23, 24, 25, 26, 27, 28, 29, 30, 32] rfl) (i := 26) rfl (by kernel_rfl) (by kernel_rfl : (pbits 27 67108863).setIfInBounds 26 true = pbits 27 134217727) si_U (fun _ _ _ h => h) rfl rfl rfl rfl (fun _ _ _ _ _ => (rn_assign rfl (T.ev 0 rfl))) ?_; clear T ac; intro ac T
                  refine g_done (by kernel_rfl) ?_
                  replace T := T.pick [0, 2, 3, 4, 5, 6, 7, 8, 9, 10, 11, 14, 15, 16, 17, 18, 19, 20, 21, 22, 23, 24, 28, 29, 30, 31, 32] rfl
                  refine nm_blk ?_
                  exact ⟨(T.pick (E' := [(2, .pointer (some ⟨g1, 0, none⟩)), (3, .pointer (some ⟨g2, 0, none⟩)), (5, .slice Au3 ((shx j.sh).length) cu3), (6, .int .i64 p), (7, .bool false), (8, .int .i64 (k : Int))]) [22, 23, 24, 25, 0, 26] rfl).as (by (try rw [show b = true from h4]); (try rw [show (decide ((-j.wi) ≤ (p + x1))) = false from (decide_eq_false h5)]); rfl), M.mask [true, true] rfl⟩
              · refine g_pass (T := T) (i := 2) rfl (by kernel_rfl) (by kernel_rfl : (pbits 27 3).setIfInBounds 2 true = pbits 27 7) si_U (fun _ _ _ h => h) (wanted_no rfl rfl (T.ev 0 rfl) h4) rfl rfl rfl ?_; clear T ac; intro ac T
                refine g_pass (T := T) (i := 3) rfl (by kernel_rfl) (by kernel_rfl : (pbits 27 7).setIfInBounds 3 true = pbits 27 15) si_U (fun _ _ _ h => h) (wanted_no rfl rfl (T.ev 1 rfl) h4) rfl rfl rfl ?_; clear T ac; intro ac T
                refine g_pass (T := T) (i := 4) rfl (by kernel_rfl) (by kernel_rfl : (pbits 27 15).setIfInBounds 4 true = pbits 27 31) si_U (fun _ _ _ h => h) (wanted_no rfl rfl (T.ev 2 rfl) h4) rfl rfl rfl ?_; clear T ac; intro ac T
                refine g_pass (T := T) (i := 5) rfl (by kernel_rfl) (by kernel_rfl : (pbits 27 31).setIfInBounds 5 true = pbits 27 63) si_U (fun _ _ _ h => h) (wanted_no rfl rfl (T.ev 3 rfl) h4) rfl rfl rfl ?_; clear T ac; intro ac T
                refine g_pass (T := T) (i := 6) rfl (by kernel_rfl) (by kernel_rfl : (pbits 27 63).setIfInBounds 6 true = pbits 27 127) si_U (fun _ _ _ h => h) (wanted_no rfl rfl (T.ev 4 rfl) h4) rfl rfl rfl ?_; clear T ac; intro ac T
                refine g_pass (T := T) (i := 7) rfl (by kernel_rfl) (by kernel_rfl : (pbits 27 127).setIfInBounds 7 true = pbits 27 255) si_U (fun _ _ _ h => h) (wanted_no rfl rfl (T.ev 5 rfl) h4) rfl rfl rfl ?_; clear T ac; intro ac T
                refine g_pass (T := T) (i := 8) rfl (by kernel_rfl) (by kernel_rfl : (pbits 27 255).setIfInBounds 8 true = pbits 27 511) si_U (fun _ _ _ h => h) (wanted_no rfl rfl (T.ev 6 rfl) h4) rfl rfl rfl ?_; clear T ac; intro ac T
                refine g_pass (T := T) (i := 9) rfl (by kernel_rfl) (by kernel_rfl : (pbits 27 511).setIfInBounds 9 true = pbits 27 1023) si_U (fun _ _ _ h => h) (wanted_no rfl rfl (T.ev 7 rfl) h4) rfl rfl rfl ?_; clear T ac; intro ac T
                refine g_pass (T := T) (i := 10) rfl (by kernel_rfl) (by kernel_rfl : (pbits 27 1023).setIfInBounds 10 true = pbits 27 2047) si_U (fun _ _ _ h => h) (wanted_no rfl rfl (T.ev 8 rfl) h4) rfl rfl rfl ?_; clear T ac; intro ac T
                refine g_pass (T := T) (i := 11) rfl (by kernel_rfl) (by kernel_rfl : (pbits 27 2047).setIfInBounds 11 true = pbits 27 4095) si_U (fun _ _ _ h => h) (wanted_no rfl rfl (T.ev 9 rfl) h4) rfl rfl rfl ?_; clear T ac; intro ac T
                refine g_pass (T := T) (i := 12) rfl (by kernel_rfl) (by kernel_rfl : (pbits 27 4095).setIfInBounds 12 true = pbits 27 8191) si_U (fun _ _ _ h => h) (wanted_no rfl rfl (T.ev 10 rfl) h4) rfl rfl rfl ?_; clear T ac; intro ac T
                refine g_q (T := T) (i := 13) rfl (by kernel_rfl) (by kernel_rfl : (pbits 27 8191).setIfInBounds 13 true = pbits 27 16383) si_U (fun _ _ _ h => h) rfl rfl rfl rfl (fun _ _ _ _ _ => (rn_pick0 rfl (T.ev 11 rfl) h4 evc)) ?_; clear T ac; intro ac T
                refine g_q (T := T) (i := 14) rfl (by kernel_rfl) (by kernel_rfl : (pbits 27 16383).setIfInBounds 14 true = pbits 27 32767) si_U (fun _ _ _ h => h) rfl rfl rfl rfl (fun _ _ _ _ _ => (rn_move rfl (T.ev 0 rfl))) ?_; clear T ac; intro ac T
                refine g_pass (T := T) (i := 15) rfl (by kernel_rfl) (by kernel_rfl : (pbits 27 32767).setIfInBounds 15 true = pbits 27 65535) si_U (fun _ _ _ h => h) (wanted_no rfl rfl (T.ev 0 rfl) rfl) rfl rfl rfl ?_; clear T ac; intro ac T
                refine g_pass (T := T) (i := 16) rfl (by kernel_rfl) (by kernel_rfl : (pbits 27 65535).setIfInBounds 16 true = pbits 27 131071) si_U (fun _ _ _ h => h) (wanted_no rfl rfl (T.ev 1 rfl) rfl) rfl rfl rfl ?_; clear T ac; intro ac T
                refine g_pass (T := T) (i := 17) rfl (by kernel_rfl) (by kernel_rfl : (pbits 27 131071).setIfInBounds 17 true = pbits 27 262143) si_U (fun _ _ _ h => h) (wanted_no rfl rfl (T.ev 2 rfl) rfl) rfl rfl rfl ?_; clear T ac; intro ac T
                refine g_pass (T := T) (i := 18) rfl (by kernel_rfl) (by kernel_rfl : (pbits 27 262143).setIfInBounds 18 true = pbits 27 524287) si_U (fun _ _ _ h => h) (wanted_no rfl rfl (T.ev 3 rfl) rfl) rfl rfl rfl ?_; clear T ac; intro ac T
                refine g_pass (T := T) (i := 19) rfl (by kernel_rfl) (by kernel_rfl : (pbits 27 524287).setIfInBounds 19 true = pbits 27 1048575) si_U (fun _ _ _ h => h) (wanted_no rfl rfl (T.ev 4 rfl) rfl) rfl rfl rfl ?_; clear T ac; intro ac T
                refine g_pass (T := T) (i := 20) rfl (by kernel_rfl) (by kernel_rfl : (pbits 27 1048575).setIfInBounds 20 true = pbits 27 2097151) si_U (fun _ _ _ h => h) (wanted_no rfl rfl (T.ev 5 rfl) rfl) rfl rfl rfl ?_; clear T ac; intro ac T
                refine g_pass (T := T) (i := 21) rfl (by kernel_rfl) (by kernel_rfl : (pbits 27 2097151).setIfInBounds 21 true = pbits 27 4194303) si_U (fun _ _ _ h => h) (wanted_no rfl rfl (T.ev 6 rfl) rfl) rfl rfl rfl ?_; clear T ac; intro ac T
                refine g_pass (T := T) (i := 22) rfl (by kernel_rfl) (by kernel_rfl : (pbits 27 4194303).setIfInBounds 22 true = pbits 27 8388607) si_U (fun _ _ _ h => h) (wanted_no rfl rfl (T.ev 7 rfl) rfl) rfl rfl rfl ?_; clear T ac; intro ac T
                refine g_pass (T := T) (i := 23) rfl (by kernel_rfl) (by kernel_rfl : (pbits 27 8388607).setIfInBounds 23 true = pbits 27 16777215) si_U (fun _ _ _ h => h) (wanted_no rfl rfl (T.ev 8 rfl) rfl) rfl rfl rfl ?_; clear T ac; intro ac T
                refine g_pass (T := T) (i := 24) rfl (by kernel_rfl) (by kernel_rfl : (pbits 27 16777215).setIfInBounds 24 true = pbits 27 33554431) si_U (fun _ _ _ h => h) (wanted_no rfl rfl (T.ev 9 rfl) rfl) rfl rfl rfl ?_; clear T ac; intro ac T
                refine g_q (T := T) (i := 25) rfl (by kernel_rfl) (by kernel_rfl : (pbits 27 33554431).setIfInBounds 25 true = pbits 27 67108863) si_U (fun _ _ _ h => h) rfl rfl rfl rfl (fun _ _ _ _ _ => (rn_pick0 rfl (T.ev 10 rfl) rfl evc)) ?_; clear T ac; intro ac T
                refine g_q (v := (.bool false)) (T := T.pick [0, 1, 2, 3, 4, 5, 6, 7, 8, 9, 10, 11, 12, 13, 14, 15, 16, 17, 18, 19, 20, 21, 22, 23, 24, 25, 26, 27, 28, 29, 30, 32] rfl) (i := 26) rfl (by kernel_rfl) (by kernel_rfl : (pbits 27 67108863).setIfInBounds 26 true = pbits 27 134217727) si_U (fun _ _ _ h => h) rfl rfl rfl rfl (fun _ _ _ _ _ => (rn_assign rfl (T.ev 0 rfl))) ?_; clear T ac; intro ac T
                refine g_done (by kernel_rfl) ?_
                replace T := T.pick [0, 2, 3, 4, 5, 6, 7, 8, 9, 10, 11, 14, 15, 16, 17, 18, 19, 20, 21, 22, 23, 24, 28, 29, 30, 31, 32] rfl
                refine nm_blk ?_
                exact ⟨(T.pick (E' := [(2, .pointer (some ⟨g1, 0, none⟩)), (3, .pointer (some ⟨g2, 0, none⟩)), (5, .slice Au3 ((shx j.sh).length) cu3), (6, .int .i64 p), (7, .bool false), (8, .int .i64 (k : Int))]) [22, 23, 24, 25, 0, 26] rfl).as (by (try rw [show b = false from h4]); rfl), M.mask [true, true] rfl⟩
            · clear T M
              rintro ac wc ⟨T, M⟩
              refine wp_region_lit ?_
              refine l_q T rfl rfl rfl rfl (rn_move rfl (T.ev 5 rfl)) ?_; clear T ac; intro ac T
              refine l_q T rfl rfl rfl rfl (rn_add rfl (T.ev 0 rfl) evc (by omega)) ?_; clear T ac; intro ac T
              refine l_q (v := (.int .i64 ((k : Int) + 1))) (T.pick [0, 1, 2, 3, 4, 5, 6] rfl) rfl rfl rfl rfl (rn_assign rfl (T.ev 0 rfl)) ?_; clear T ac; intro ac T
              refine wpList_nil ?_
              replace T := T.pick [0, 3, 4, 5, 6, 7] rfl
              refine nm_then ?_
              exact ⟨_, by omega, k + 1, _, rfl, (by omega), (by rw [Hc]; simp only [Bool.and_assoc]), T.pick [1, 2, 3, 4, 5, 0] rfl, M.mask [true, true] rfl⟩
          · intro h3
            rw [List.drop_of_length_le (by omega), List.all_nil, Bool.and_true] at Hc
            refine wp_exit ?_
            refine ex_then ?_
            refine ex_then ?_
            refine ex_hit ?_
            refine nm_then ?_
            refine wp_seq ?_
            refine wp_region_lit ?_
            refine l_q T rfl rfl rfl rfl (rn_move rfl (T.ev 5 rfl)) ?_; clear T ac; intro ac T
            refine wpList_nil ?_
            replace T := T.pick [0, 2, 3, 4, 5] rfl
            refine nm_then ?_
            refine wp_cond_split (T.ev 0 rfl) ?_ ?_
            · intro h6
              refine wp_seq ?_
              refine wp_region_lit ?_
              refine l_q T rfl rfl rfl rfl (rn_assign rfl evc) ?_; clear T ac; intro ac T
              refine wpList_nil ?_
              replace T := T.pick [0] rfl
              replace M := M.mask [false, false] rfl
              refine nm_then ?_
              refine wp_ret ?_
              refine rt_blk ?_
              refine rt_then ?_
              refine rt_then ?_
              refine rt_blk ?_
              refine rt_then ?_
              refine rt_1 T rfl (T.ev 0 rfl) ?_
              refine ⟨ret_int ?_, M.below⟩
              unfold rpass
              rw [show q = (q - 1) + 1 by omega, anyN, Hc, h6, Bool.true_or] at H
              rw [if_neg (by rw [h1]; simp), if_pos H]
            · intro h6
              refine wp_skip ?_
              refine nm_blk ?_
              refine nm_then ?_
              refine wp_region_lit ?_
              refine l_q T rfl rfl rfl rfl (rn_move rfl (T.ev 4 rfl)) ?_; clear T ac; intro ac T
              refine l_q T rfl rfl rfl rfl (rn_add rfl (T.ev 0 rfl) evc (by omega)) ?_; clear T ac; intro ac T
              refine l_q (v := (.int .i64 (p + 1))) (T.pick [0, 1, 2, 3, 4, 5] rfl) rfl rfl rfl rfl (rn_assign rfl (T.ev 0 rfl)) ?_; clear T ac; intro ac T
              refine wpList_nil ?_
              replace T := T.pick [0, 4, 5, 6] rfl
              refine nm_then ?_
              rw [show q = (q - 1) + 1 by omega, anyN, Hc] at H
              exact ⟨_, by omega, (p + 1), (q - 1), rfl, (by omega), (by omega), (by omega), (by simpa [h6] using H), T.pick [1, 2, 3, 0] rfl, M.mask [true, true] rfl⟩
      · intro h2
        refine wp_exit ?_
        refine ex_then ?_
        refine ex_then ?_
        refine ex_hit ?_
        refine nm_then ?_
        refine wp_seq ?_
        refine wp_region_lit ?_
        refine l_q T rfl rfl rfl rfl (rn_assign rfl evc) ?_; clear T ac; intro ac T
        refine wpList_nil ?_
        replace T := T.pick [0] rfl
        replace M := M.mask [false, false] rfl
        refine nm_then ?_
        refine wp_ret ?_
        refine rt_1 T rfl (T.ev 0 rfl) ?_
        refine ⟨ret_int ?_, M.below⟩
        unfold rpass
        rw [show q = 0 by omega, anyN] at H
        rw [if_neg (by rw [h1]; simp), if_neg (by rw [H]; simp)]

end Go.Proofs.Ythlpceoajhcliaa
end

section
/-
  reed: Fine, Spoiled and Hear.
-/
namespace Go.Proofs.Ythlpceoajhcliaa
set_option linter.unusedSimpArgs false
set_option linter.unusedVariables false
open Go.RowKit

def fineT (j : Jb) (l : List Int) : Int × Int := if checkStrokesJ j l = 0 then (fineJ j (j.st.after l), 0) else (0, checkStrokesJ j l)
def spoiledT (j : Jb) (l : List Int) : Int × Int := if checkStrokesJ j l = 0 then ((j.st.after l).spoiled, 0) else (0, checkStrokesJ j l)

set_option maxRecDepth 100000 in
set_option maxHeartbeats 1000000 in
theorem Fine_any (j : Jb) (A : Option Addr) (c : Nat) (B : Option Addr) (d n : Nat) (l : List Int) (w : World) (hr : Rd w w.heap.size 2 A j.sh.length (rc j.sh)) (hn : j.sh.length ≤ 9223372036854775807) (hl : Rd w w.heap.size 1 B n (ic l)) (hm : n ≤ 9223372036854775807) :
    Calls Try.prog 30 #[jobV j A c, .slice B n d] w fun e w' => e = .returned (.tuple #[.int .i64 (fineT j l).1, .int .i64 (fineT j l).2]) ∧ Below w.heap.size w w' := by
  have HR := Lib.hid hr
  have HL := Lib.hid hl
  have HN := Lib.hid hl.len1
  clear hr hl
  by_cases h0 : checkStrokesJ j l = 0
  · obtain ⟨hc, h6, hk⟩ := strokes_of h0
    have HU := Lib.hid (good_of hc).st
    have HO := Lib.hid (good_of hc).ok
    have HK := Lib.hid hk
    have h6' : n ≤ 6 := by have := HN.out; omega
    have HW : Hid (fineT j l = (fineJ j (j.st.after l), 0)) := by show _ = _; unfold fineT; rw [if_pos h0]
    have H0 := Lib.hid h0
    clear hc h6 hk h0
    generalize fineT j l = gj at *
    go_enter Try.func30, Try.ntmps30
    refine start noEx ?_
    intro wc M
    go_wp2_with (first | (refine m_ld1 M rfl rfl rfl (by (repeat' (first | exact List.mem_cons_self | refine List.mem_cons_of_mem _ ?_))) (by rfl) ?_) | (refine m_ldr M rfl rfl rfl (by (repeat' (first | exact List.mem_cons_self | refine List.mem_cons_of_mem _ ?_))) (by (try simp only [List.take_succ_cons, List.take_zero, List.take_nil, List.drop_succ_cons, List.drop_zero, List.drop_nil, List.cons_append, List.nil_append, List.append_nil, List.length_cons, List.length_nil, Nat.reduceAdd, Nat.zero_add, Nat.add_zero]); rfl) (by rfl) ?_) | (refine m_st M rfl rfl rfl (by first | exact (rfl : _ = Value.agg _) | exact (rfl : _ = Value.int _ _) | exact (rfl : _ = Value.bool _) | exact (rfl : _ = Value.slice _ _ _) | exact (rfl : _ = Value.pointer _) | exact (rfl : _ = Value.map _) | exact (rfl : _ = Value.func _ _ _) | exact (rfl : _ = Value.string _)) (by rfl) (by (repeat (first | exact Upd.head | apply Upd.tail))) (by (try simp only [List.take_succ_cons, List.take_zero, List.take_nil, List.drop_succ_cons, List.drop_zero, List.drop_nil, List.cons_append, List.nil_append, List.append_nil, List.length_cons, List.length_nil, Nat.reduceAdd, Nat.zero_add, Nat.add_zero]); rfl) (by simp) (by simp [Value.oneCell']) (by kernel_rfl) ?_; clear M; (try clear wc); intro wc M) | (refine m_al M rfl rfl ?_; clear M; (try clear wc); intro g wc M) | (refine m_bx M rfl rfl (by first | exact (rfl : _ = Value.agg _) | exact (rfl : _ = Value.int _ _) | exact (rfl : _ = Value.bool _) | exact (rfl : _ = Value.slice _ _ _) | exact (rfl : _ = Value.pointer _) | exact (rfl : _ = Value.map _) | exact (rfl : _ = Value.func _ _ _) | exact (rfl : _ = Value.string _)) (by rfl) ?_; clear M; (try clear wc); intro g wc M) | (go_at_call 83; ((with_reducible refine (checkStrokes_any j _ _ _ _ _ l _ ?_ hn ?_ hm).mono ?_); ((exact M.rd HR.out (Nat.le_refl _)); (exact M.rd HL.out (Nat.le_refl _))); rw [H0.out]; rintro e wc ⟨rfl, hb⟩; replace M := M.call hb; clear hb)))
    refine wp_region_G (fun _ W => Mem w noEx W [(g, .cells [.int .i64 j.p0, .int .i64 j.p1, .int .i64 j.t0, .int .i64 j.t1, .int .i64 j.r0, .int .i64 j.r1, .int .i64 j.u0, .int .i64 j.u1, .int .i64 j.d0, .int .i64 j.d1, .int .i64 j.a0, .int .i64 j.a1, .int .i64 j.b0, .int .i64 j.b1, .int .i64 j.le, .slice A j.sh.length c, .int .i64 j.wi, .int .i64 j.me])]) 7 (by kernel_rfl) (by kernel_rfl) ?s0 ?r0
    case s0 => (exact M.drew)
    intro W0
    refine wpG_take (i := 0) (v := ?v1) rfl (by kernel_rfl) (by exact fun _ _ => Iff.rfl) (fun _ _ _ h => h) (Or.inl ⟨by rfl, ?y1⟩) ?r1
    case y1 => (intro w' hy; obtain ⟨L, hD, hl, hS⟩ := hy; have M0 : Mem w noEx w' [(g, .cells [.int .i64 j.p0, .int .i64 j.p1, .int .i64 j.t0, .int .i64 j.t1, .int .i64 j.r0, .int .i64 j.r1, .int .i64 j.u0, .int .i64 j.u1, .int .i64 j.d0, .int .i64 j.d1, .int .i64 j.a0, .int .i64 j.a1, .int .i64 j.b0, .int .i64 j.b1, .int .i64 j.le, .slice A j.sh.length c, .int .i64 j.wi, .int .i64 j.me])] := hS; clear hS; first | (refine Eq.trans (rn_one (Mem.get M0 (by (repeat' (first | exact List.mem_cons_self | refine List.mem_cons_of_mem _ ?_)))) rfl rfl (by rfl)) ?_; with_reducible rfl) | (refine Eq.trans (rn_row (Mem.get M0 (by (repeat' (first | exact List.mem_cons_self | refine List.mem_cons_of_mem _ ?_)))) rfl rfl (by (try simp only [List.take_succ_cons, List.take_zero, List.take_nil, List.drop_succ_cons, List.drop_zero, List.drop_nil, List.cons_append, List.nil_append, List.append_nil, List.length_cons, List.length_nil, Nat.reduceAdd, Nat.zero_add, Nat.add_zero]); rfl) (by rfl)) ?_; with_reducible rfl); (try with_reducible rfl))
    (try simp only [Act.put, List.getElem_toArray, List.getElem_cons_succ, List.getElem_cons_zero, List.setIfInBounds_toArray, List.set_cons_zero, List.set_cons_succ])
    refine wpG_take (i := 1) (v := ?v2) rfl (by kernel_rfl) (by exact fun _ _ => Iff.rfl) (fun _ _ _ h => h) (Or.inl ⟨by rfl, ?y2⟩) ?r2
    case y2 => (intro w' hy; obtain ⟨L, hD, hl, hS⟩ := hy; have M0 : Mem w noEx w' [(g, .cells [.int .i64 j.p0, .int .i64 j.p1, .int .i64 j.t0, .int .i64 j.t1, .int .i64 j.r0, .int .i64 j.r1, .int .i64 j.u0, .int .i64 j.u1, .int .i64 j.d0, .int .i64 j.d1, .int .i64 j.a0, .int .i64 j.a1, .int .i64 j.b0, .int .i64 j.b1, .int .i64 j.le, .slice A j.sh.length c, .int .i64 j.wi, .int .i64 j.me])] := hS; clear hS; first | (refine Eq.trans (rn_one (Mem.get M0 (by (repeat' (first | exact List.mem_cons_self | refine List.mem_cons_of_mem _ ?_)))) rfl rfl (by rfl)) ?_; with_reducible rfl) | (refine Eq.trans (rn_row (Mem.get M0 (by (repeat' (first | exact List.mem_cons_self | refine List.mem_cons_of_mem _ ?_)))) rfl rfl (by (try simp only [List.take_succ_cons, List.take_zero, List.take_nil, List.drop_succ_cons, List.drop_zero, List.drop_nil, List.cons_append, List.nil_append, List.append_nil, List.length_cons, List.length_nil, Nat.reduceAdd, Nat.zero_add, Nat.add_zero]); rfl) (by rfl)) ?_; with_reducible rfl); (try with_reducible rfl))
    (try simp only [Act.put, List.getElem_toArray, List.getElem_cons_succ, List.getElem_cons_zero, List.setIfInBounds_toArray, List.set_cons_zero, List.set_cons_succ])
    refine wpG_take (i := 2) (v := ?v3) rfl (by kernel_rfl) (by exact fun _ _ => Iff.rfl) (fun _ _ _ h => h) (Or.inl ⟨by rfl, ?y3⟩) ?r3
    case y3 => (intro w' hy; obtain ⟨L, hD, hl, hS⟩ := hy; clear hD hl hS; go_simp; (try with_reducible rfl))
    (try simp only [Act.put, List.getElem_toArray, List.getElem_cons_succ, List.getElem_cons_zero, List.setIfInBounds_toArray, List.set_cons_zero, List.set_cons_succ])
    refine wpG_step (i := 3) (by kernel_rfl) rfl (by rfl) ?r4
    intro hS K hK
    (have M0 : Mem w noEx _ [(g, .cells [.int .i64 j.p0, .int .i64 j.p1, .int .i64 j.t0, .int .i64 j.t1, .int .i64 j.r0, .int .i64 j.r1, .int .i64 j.u0, .int .i64 j.u1, .int .i64 j.d0, .int .i64 j.d1, .int .i64 j.a0, .int .i64 j.a1, .int .i64 j.b0, .int .i64 j.b1, .int .i64 j.le, .slice A j.sh.length c, .int .i64 j.wi, .int .i64 j.me])] := hS; clear hS; go_simp; refine (after_any j _ _ _ _ _ l _ (M0.rd HL.out (Nat.le_refl _)) (by omega) HU.out HK.out).mono ?_; rintro e V1 ⟨rfl, hb1⟩; refine hK.out _ _ (M0.call hb1) ?_; clear M0 hb1)
    clear hK K; intro W4
    (try simp only [Act.put, List.getElem_toArray, List.getElem_cons_succ, List.getElem_cons_zero, List.setIfInBounds_toArray, List.set_cons_zero, List.set_cons_succ])
    refine wpG_step (i := 4) (by kernel_rfl) rfl (by rfl) ?r5
    intro hS K hK
    (have M0 : Mem w noEx _ [(g, .cells [.int .i64 j.p0, .int .i64 j.p1, .int .i64 j.t0, .int .i64 j.t1, .int .i64 j.r0, .int .i64 j.r1, .int .i64 j.u0, .int .i64 j.u1, .int .i64 j.d0, .int .i64 j.d1, .int .i64 j.a0, .int .i64 j.a1, .int .i64 j.b0, .int .i64 j.b1, .int .i64 j.le, .slice A j.sh.length c, .int .i64 j.wi, .int .i64 j.me])] := hS; clear hS; go_simp; refine (fine_any j _ _ _ _ HO.out (M0.rd HR.out (Nat.le_refl _))).mono ?_; rintro e V2 ⟨rfl, hb1⟩; refine hK.out _ _ (M0.call hb1) ?_; clear M0 hb1)
    clear hK K; intro W5
    (try simp only [Act.put, List.getElem_toArray, List.getElem_cons_succ, List.getElem_cons_zero, List.setIfInBounds_toArray, List.set_cons_zero, List.set_cons_succ])
    refine wpG_take (i := 5) (v := ?v6) rfl (by kernel_rfl) (by exact fun _ _ => Iff.rfl) (fun _ _ _ h => h) (Or.inl ⟨by rfl, ?y6⟩) ?r6
    case y6 => (intro w' hy; obtain ⟨L, hD, hl, hS⟩ := hy; clear hD hl hS; go_simp; (try with_reducible rfl))
    (try simp only [Act.put, List.getElem_toArray, List.getElem_cons_succ, List.getElem_cons_zero, List.setIfInBounds_toArray, List.set_cons_zero, List.set_cons_succ])
    refine wpG_take (i := 6) (v := ?v7) rfl (by kernel_rfl) (by exact fun _ _ => Iff.rfl) (fun _ _ _ h => h) (Or.inl ⟨by rfl, ?y7⟩) ?r7
    case y7 => (intro w' hy; obtain ⟨L, hD, hl, hS⟩ := hy; clear hD hl hS; go_simp; (try with_reducible rfl))
    (try simp only [Act.put, List.getElem_toArray, List.getElem_cons_succ, List.getElem_cons_zero, List.setIfInBounds_toArray, List.set_cons_zero, List.set_cons_succ])
    refine wpG_end (by kernel_rfl) ?_
    intro W
     hS
    have M1 : Mem w noEx W [(g, .cells [.int .i64 j.p0, .int .i64 j.p1, .int .i64 j.t0, .int .i64 j.t1, .int .i64 j.r0, .int .i64 j.r1, .int .i64 j.u0, .int .i64 j.u1, .int .i64 j.d0, .int .i64 j.d1, .int .i64 j.a0, .int .i64 j.a1, .int .i64 j.b0, .int .i64 j.b1, .int .i64 j.le, .slice A j.sh.length c, .int .i64 j.wi, .int .i64 j.me])] := hS
    clear hS
    go_wp2
    go_ret2
    rw [HW.out]
    exact ⟨rfl, M1.below⟩
  · have h1 : (checkStrokesJ j l != 0) = true := by simpa using h0
    have HW : Hid (fineT j l = (0, checkStrokesJ j l)) := by show _ = _; unfold fineT; rw [if_neg h0]
    clear h0
    generalize fineT j l = gj at *
    go_enter Try.func30, Try.ntmps30
    refine start noEx ?_
    intro wc M
    go_wp2_with (first | (refine m_ld1 M rfl rfl rfl (by (repeat' (first | exact List.mem_cons_self | refine List.mem_cons_of_mem _ ?_))) (by rfl) ?_) | (refine m_ldr M rfl rfl rfl (by (repeat' (first | exact List.mem_cons_self | refine List.mem_cons_of_mem _ ?_))) (by (try simp only [List.take_succ_cons, List.take_zero, List.take_nil, List.drop_succ_cons, List.drop_zero, List.drop_nil, List.cons_append, List.nil_append, List.append_nil, List.length_cons, List.length_nil, Nat.reduceAdd, Nat.zero_add, Nat.add_zero]); rfl) (by rfl) ?_) | (refine m_st M rfl rfl rfl (by first | exact (rfl : _ = Value.agg _) | exact (rfl : _ = Value.int _ _) | exact (rfl : _ = Value.bool _) | exact (rfl : _ = Value.slice _ _ _) | exact (rfl : _ = Value.pointer _) | exact (rfl : _ = Value.map _) | exact (rfl : _ = Value.func _ _ _) | exact (rfl : _ = Value.string _)) (by rfl) (by (repeat (first | exact Upd.head | apply Upd.tail))) (by (try simp only [List.take_succ_cons, List.take_zero, List.take_nil, List.drop_succ_cons, List.drop_zero, List.drop_nil, List.cons_append, List.nil_append, List.append_nil, List.length_cons, List.length_nil, Nat.reduceAdd, Nat.zero_add, Nat.add_zero]); rfl) (by simp) (by simp [Value.oneCell']) (by kernel_rfl) ?_; clear M; (try clear wc); intro wc M) | (refine m_al M rfl rfl ?_; clear M; (try clear wc); intro g wc M) | (refine m_bx M rfl rfl (by first | exact (rfl : _ = Value.agg _) | exact (rfl : _ = Value.int _ _) | exact (rfl : _ = Value.bool _) | exact (rfl : _ = Value.slice _ _ _) | exact (rfl : _ = Value.pointer _) | exact (rfl : _ = Value.map _) | exact (rfl : _ = Value.func _ _ _) | exact (rfl : _ = Value.string _)) (by rfl) ?_; clear M; (try clear wc); intro g wc M) | (go_at_call 83; ((with_reducible refine (checkStrokes_any j _ _ _ _ _ l _ ?_ hn ?_ hm).mono ?_); ((exact M.rd HR.out (Nat.le_refl _)); (exact M.rd HL.out (Nat.le_refl _))); rintro e wc ⟨rfl, hb⟩; replace M := M.call hb; clear hb)))
    go_ret2
    rw [HW.out]
    exact ⟨rfl, M.below⟩

set_option maxRecDepth 100000 in
set_option maxHeartbeats 1000000 in
theorem Spoiled_any (j : Jb) (A : Option Addr) (c : Nat) (B : Option Addr) (d n : Nat) (l : List Int) (w : World) (hr : Rd w w.heap.size 2 A j.sh.length (rc j.sh)) (hn : j.sh.length ≤ 9223372036854775807) (hl : Rd w w.heap.size 1 B n (ic l)) (hm : n ≤ 9223372036854775807) :
    Calls Try.prog 44 #[jobV j A c, .slice B n d] w fun e w' => e = .returned (.tuple #[.int .i64 (spoiledT j l).1, .int .i64 (spoiledT j l).2]) ∧ Below w.heap.size w w' := by
  have HR := Lib.hid hr
  have HL := Lib.hid hl
  have HN := Lib.hid hl.len1
  clear hr hl
  by_cases h0 : checkStrokesJ j l = 0
  · obtain ⟨hc, h6, hk⟩ := strokes_of h0
    have HU := Lib.hid (good_of hc).st
    have HK := Lib.hid hk
    have h6' : n ≤ 6 := by have := HN.out; omega
    have HW : Hid (spoiledT j l = ((j.st.after l).spoiled, 0)) := by show _ = _; unfold spoiledT; rw [if_pos h0]
    have H0 := Lib.hid h0
    clear hc h6 hk h0
    generalize spoiledT j l = gj at *
    go_enter Try.func44, Try.ntmps44
    refine start noEx ?_
    intro wc M
    go_wp2_with (first | (refine m_ld1 M rfl rfl rfl (by (repeat' (first | exact List.mem_cons_self | refine List.mem_cons_of_mem _ ?_))) (by rfl) ?_) | (refine m_ldr M rfl rfl rfl (by (repeat' (first | exact List.mem_cons_self | refine List.mem_cons_of_mem _ ?_))) (by (try simp only [List.take_succ_cons, List.take_zero, List.take_nil, List.drop_succ_cons, List.drop_zero, List.drop_nil, List.cons_append, List.nil_append, List.append_nil, List.length_cons, List.length_nil, Nat.reduceAdd, Nat.zero_add, Nat.add_zero]); rfl) (by rfl) ?_) | (refine m_st M rfl rfl rfl (by first | exact (rfl : _ = Value.agg _) | exact (rfl : _ = Value.int _ _) | exact (rfl : _ = Value.bool _) | exact (rfl : _ = Value.slice _ _ _) | exact (rfl : _ = Value.pointer _) | exact (rfl : _ = Value.map _) | exact (rfl : _ = Value.func _ _ _) | exact (rfl : _ = Value.string _)) (by rfl) (by (repeat (first | exact Upd.head | apply Upd.tail))) (by (try simp only [List.take_succ_cons, List.take_zero, List.take_nil, List.drop_succ_cons, List.drop_zero, List.drop_nil, List.cons_append, List.nil_append, List.append_nil, List.length_cons, List.length_nil, Nat.reduceAdd, Nat.zero_add, Nat.add_zero]); rfl) (by simp) (by simp [Value.oneCell']) (by kernel_rfl) ?_; clear M; (try clear wc); intro wc M) | (refine m_al M rfl rfl ?_; clear M; (try clear wc); intro g wc M) | (refine m_bx M rfl rfl (by first | exact (rfl : _ = Value.agg _) | exact (rfl : _ = Value.int _ _) | exact (rfl : _ = Value.bool _) | exact (rfl : _ = Value.slice _ _ _) | exact (rfl : _ = Value.pointer _) | exact (rfl : _ = Value.map _) | exact (rfl : _ = Value.func _ _ _) | exact (rfl : _ = Value.string _)) (by rfl) ?_; clear M; (try clear wc); intro g wc M) | (go_at_call 83; ((with_reducible refine (checkStrokes_any j _ _ _ _ _ l _ ?_ hn ?_ hm).mono ?_); ((exact M.rd HR.out (Nat.le_refl _)); (exact M.rd HL.out (Nat.le_refl _))); rw [H0.out]; rintro e wc ⟨rfl, hb⟩; replace M := M.call hb; clear hb)) | (go_at_call 69; ((with_reducible refine (after_any j _ _ _ _ _ l _ ?_ (by omega) HU.out HK.out).mono ?_); (exact M.rd HL.out (Nat.le_refl _)); rintro e wc ⟨rfl, hb⟩; replace M := M.call hb; clear hb)) | (go_at_call 87; ((with_reducible refine (spoiled_any (j.st.after l) _).mono ?_); skip; rintro e wc ⟨rfl, hb⟩; replace M := M.call hb; clear hb)))
    go_ret2
    rw [HW.out]
    exact ⟨rfl, M.below⟩
  · have h1 : (checkStrokesJ j l != 0) = true := by simpa using h0
    have HW : Hid (spoiledT j l = (0, checkStrokesJ j l)) := by show _ = _; unfold spoiledT; rw [if_neg h0]
    clear h0
    generalize spoiledT j l = gj at *
    go_enter Try.func44, Try.ntmps44
    refine start noEx ?_
    intro wc M
    go_wp2_with (first | (refine m_ld1 M rfl rfl rfl (by (repeat' (first | exact List.mem_cons_self | refine List.mem_cons_of_mem _ ?_))) (by rfl) ?_) | (refine m_ldr M rfl rfl rfl (by (repeat' (first | exact List.mem_cons_self | refine List.mem_cons_of_mem _ ?_))) (by (try simp only [List.take_succ_cons, List.take_zero, List.take_nil, List.drop_succ_cons, List.drop_zero, List.drop_nil, List.cons_append, List.nil_append, List.append_nil, List.length_cons, List.length_nil, Nat.reduceAdd, Nat.zero_add, Nat.add_zero]); rfl) (by rfl) ?_) | (refine m_st M rfl rfl rfl (by first | exact (rfl : _ = Value.agg _) | exact (rfl : _ = Value.int _ _) | exact (rfl : _ = Value.bool _) | exact (rfl : _ = Value.slice _ _ _) | exact (rfl : _ = Value.pointer _) | exact (rfl : _ = Value.map _) | exact (rfl : _ = Value.func _ _ _) | exact (rfl : _ = Value.string _)) (by rfl) (by (repeat (first | exact Upd.head | apply Upd.tail))) (by (try simp only [List.take_succ_cons, List.take_zero, List.take_nil, List.drop_succ_cons, List.drop_zero, List.drop_nil, List.cons_append, List.nil_append, List.append_nil, List.length_cons, List.length_nil, Nat.reduceAdd, Nat.zero_add, Nat.add_zero]); rfl) (by simp) (by simp [Value.oneCell']) (by kernel_rfl) ?_; clear M; (try clear wc); intro wc M) | (refine m_al M rfl rfl ?_; clear M; (try clear wc); intro g wc M) | (refine m_bx M rfl rfl (by first | exact (rfl : _ = Value.agg _) | exact (rfl : _ = Value.int _ _) | exact (rfl : _ = Value.bool _) | exact (rfl : _ = Value.slice _ _ _) | exact (rfl : _ = Value.pointer _) | exact (rfl : _ = Value.map _) | exact (rfl : _ = Value.func _ _ _) | exact (rfl : _ = Value.string _)) (by rfl) ?_; clear M; (try clear wc); intro g wc M) | (go_at_call 83; ((with_reducible refine (checkStrokes_any j _ _ _ _ _ l _ ?_ hn ?_ hm).mono ?_); ((exact M.rd HR.out (Nat.le_refl _)); (exact M.rd HL.out (Nat.le_refl _))); rintro e wc ⟨rfl, hb⟩; replace M := M.call hb; clear hb)))
    go_ret2
    rw [HW.out]
    exact ⟨rfl, M.below⟩

end Go.Proofs.Ythlpceoajhcliaa
end

section
/-
  ref1: what passes, what is heard; strokes.
-/
namespace Go.Proofs.Ythlpceoajhcliaa
set_option linter.unusedSimpArgs false
set_option linter.unusedVariables false
open Go.RowKit

def rpassT (j : Jb) : Int × Int := if checkJ j = 0 then (rpass j j.p0 j.p1, 0) else (0, checkJ j)
def rheard (p0 p1 r m : Int) : Int × Int := (max p0 (r - m), min p1 (r + m))
def rhearT (j : Jb) (r : Int) : (Int × Int) × Int := if checkJ j = 0 then (if withinB r (j.p0 - j.me) (j.p1 + j.me) = true then (rheard j.p0 j.p1 r j.me, 0) else ((0, 0), 9)) else ((0, 0), checkJ j)


set_option maxRecDepth 100000 in
set_option maxHeartbeats 1000000 in
theorem rPasses_any (j : Jb) (A : Option Addr) (c : Nat) (w : World) (hr : Rd w w.heap.size 2 A j.sh.length (rc j.sh)) (hn : j.sh.length ≤ 9223372036854775807) :
    Calls Try.prog 47 #[jobV j A c] w fun e w' => e = .returned (.tuple #[.int .i64 ((rpassT j).1), .int .i64 ((rpassT j).2)]) ∧ Below w.heap.size w w' := by
  obtain ⟨bJ, oJ, SJ⟩ := Sp.old hr
  refine px_enter noEx Try.func47 rfl 15 rfl [.agg #[.int .i64 j.p0, .int .i64 j.p1, .int .i64 j.t0, .int .i64 j.t1, .int .i64 j.r0, .int .i64 j.r1, .int .i64 j.u0, .int .i64 j.u1, .int .i64 j.d0, .int .i64 j.d1, .int .i64 j.a0, .int .i64 j.a1, .int .i64 j.b0, .int .i64 j.b1, .int .i64 j.le, .slice A j.sh.length c, .int .i64 j.wi, .int .i64 j.me]] rfl rfl (Mem.init w _) ?_
  intro ac wc T M
  refine wp_seq ?_
  refine wp_region_lit ?_
  refine l_w rfl ?_; intro K hK
  refine ow_bx M T rfl rfl rfl rfl (T.ev 0 rfl) rfl ?_; clear M T; intro g1 wc ac M T
  refine sh_out hK _ _ ?_; clear hK K
  refine l_q T rfl rfl rfl rfl (rn_assign rfl evc) ?_; clear T ac; intro ac T
  refine l_q T rfl rfl rfl rfl (rn_assign rfl evc) ?_; clear T ac; intro ac T
  refine wpList_nil ?_
  replace T := T.pick [2] rfl
  refine nm_then ?_
  refine wp_seq ?_
  refine wp_seq ?_
  refine wp_region_lit ?_
  refine l_q T rfl rfl rfl rfl (rn_rowO (Mem.nth M 0 rfl) rfl (T.ev 0 rfl) rfl) ?_; clear T ac; intro ac T
  refine l_w rfl ?_; intro K hK
  refine ow_call (first := []) (cap := []) T rfl rfl rfl rfl evf (.cons (T.ev 0 rfl) .nil) Try.func50 rfl rfl ?_
  refine Calls.mono (rCheck_any j _ _ _ (SJ.rd M (List.nil_sublist _)) (by omega)) ?_
  clear T
  rintro e wc ⟨rfl, hb⟩
  intro ac T
  replace M := M.call hb; clear hb
  refine sh_out hK _ _ ?_; clear hK K
  refine l_q T rfl rfl rfl rfl (rn_assign rfl (T.ev 0 rfl)) ?_; clear T ac; intro ac T
  refine wpList_nil ?_
  replace T := T.pick [0, 3] rfl
  refine nm_then ?_
  refine wp_seq ?_
  refine wp_region_lit ?_
  refine l_q T rfl rfl rfl rfl (rn_move rfl (T.ev 0 rfl)) ?_; clear T ac; intro ac T
  refine l_q T rfl rfl rfl rfl (rn_neq rfl (T.ev 0 rfl) evc) ?_; clear T ac; intro ac T
  refine wpList_nil ?_
  replace T := T.pick [0, 2, 3] rfl
  refine nm_then ?_
  refine wp_ifn (T.ev 0 rfl) ?_ ?_
  · intro h1
    refine wp_seq ?_
    refine wp_region_lit ?_
    refine l_q T rfl rfl rfl rfl (rn_move rfl (T.ev 1 rfl)) ?_; clear T ac; intro ac T
    refine l_q T rfl rfl rfl rfl (rn_assign rfl evc) ?_; clear T ac; intro ac T
    refine l_q T rfl rfl rfl rfl (rn_assign rfl (T.ev 1 rfl)) ?_; clear T ac; intro ac T
    refine wpList_nil ?_
    replace T := T.pick [0, 1] rfl
    replace M := M.mask [false] rfl
    refine nm_then ?_
    refine wp_ret ?_
    refine rt_then ?_
    refine rt_2 T rfl (T.ev 1 rfl) (T.ev 0 rfl) ?_
    refine ⟨?_, M.below⟩
    unfold rpassT
    (repeat' split) <;> first | rfl | omega | contradiction | (simp_all; done) | (simp_all; omega)
  · intro h1
    have hj := good_of (show checkJ j = 0 by simpa using h1)
    have hp := hj.p
    have hme := hj.me
    refine wp_skip ?_
    refine nm_then ?_
    refine wp_seq ?_
    refine wp_region_lit ?_
    refine l_q T rfl rfl rfl rfl (rn_rowO (Mem.nth M 0 rfl) rfl (T.ev 2 rfl) rfl) ?_; clear T ac; intro ac T
    refine l_q (v := (.pointer (some ⟨g1, 0, none⟩))) T rfl rfl rfl rfl (rn_fieldAddr (off := 0) rfl (T.ev 3 rfl) (fun _ _ _ => by kernel_rfl)) ?_; clear T ac; intro ac T
    refine l_q (v := (.pointer (some ⟨g1, 0, none⟩))) T rfl rfl rfl rfl (rn_fieldAddr (off := 0) rfl (T.ev 0 rfl) (fun _ _ _ => by kernel_rfl)) ?_; clear T ac; intro ac T
    refine l_q T rfl rfl rfl rfl (rn_rowO (Mem.nth M 0 rfl) rfl (T.ev 0 rfl) rfl) ?_; clear T ac; intro ac T
    refine l_w rfl ?_; intro K hK
    refine ow_call (first := []) (cap := []) T rfl rfl rfl rfl evf (.cons (T.ev 3 rfl) (.cons (T.ev 0 rfl) .nil)) Try.func89 rfl rfl ?_
    refine Calls.mono (rpasses_any j _ _ j.p0 j.p1 _ (by assumption) (SJ.rd M (List.nil_sublist _)) (by omega) (by omega)) ?_
    clear T
    rintro e wc ⟨rfl, hb⟩
    intro ac T
    replace M := M.call hb; clear hb
    refine sh_out hK _ _ ?_; clear hK K
    refine l_q T rfl rfl rfl rfl (rn_assign rfl (T.ev 0 rfl)) ?_; clear T ac; intro ac T
    refine l_q T rfl rfl rfl rfl (rn_assign rfl evc) ?_; clear T ac; intro ac T
    refine wpList_nil ?_
    replace T := T.pick [0, 1] rfl
    replace M := M.mask [false] rfl
    refine nm_then ?_
    refine wp_ret ?_
    refine rt_2 T rfl (T.ev 1 rfl) (T.ev 0 rfl) ?_
    refine ⟨?_, M.below⟩
    unfold rpassT
    (repeat' split) <;> first | rfl | omega | contradiction | (simp_all; done) | (simp_all; omega)

set_option maxRecDepth 100000 in
set_option maxHeartbeats 1000000 in
theorem heard_any (p0 p1 r m : Int) (w : World) (h0 : -1000000 ≤ r ∧ r ≤ 1000000) (hm : -1000000 ≤ m ∧ m ≤ 1000000) :
    Calls Try.prog 91 #[.agg #[.int .i64 p0, .int .i64 p1], .int .i64 r, .int .i64 m] w fun e w' => e = .returned (.agg #[.int .i64 ((rheard p0 p1 r m).1), .int .i64 ((rheard p0 p1 r m).2)]) ∧ Below w.heap.size w w' := by
  refine px_enter noEx Try.func91 rfl 20 rfl [.agg #[.int .i64 p0, .int .i64 p1], .int .i64 r, .int .i64 m] rfl rfl (Mem.init w _) ?_
  intro ac wc T M
  refine wp_seq ?_
  refine wp_region_lit ?_
  refine l_w rfl ?_; intro K hK
  refine ow_bx M T rfl rfl rfl rfl (T.ev 0 rfl) rfl ?_; clear M T; intro g1 wc ac M T
  refine sh_out hK _ _ ?_; clear hK K
  refine l_w rfl ?_; intro K hK
  refine ow_al M T rfl rfl rfl rfl ?_; clear M T; intro g2 wc ac M T
  refine sh_out hK _ _ ?_; clear hK K
  refine wpList_nil ?_
  replace T := T.pick [0, 1, 3, 4] rfl
  refine nm_then ?_
  refine wp_seq ?_
  refine wp_region_lit ?_
  refine l_q (v := (.pointer (some ⟨g1, 0, none⟩))) T rfl rfl rfl rfl (rn_fieldAddr (off := 0) rfl (T.ev 1 rfl) (fun _ _ _ => by kernel_rfl)) ?_; clear T ac; intro ac T
  refine l_q T rfl rfl rfl rfl (rn_one (Mem.nth M 1 rfl) rfl (T.ev 0 rfl) rfl) ?_; clear T ac; intro ac T
  refine l_q T rfl rfl rfl rfl (rn_move rfl (T.ev 4 rfl)) ?_; clear T ac; intro ac T
  refine l_q T rfl rfl rfl rfl (rn_move rfl (T.ev 6 rfl)) ?_; clear T ac; intro ac T
  refine l_q T rfl rfl rfl rfl (rn_sub rfl (T.ev 1 rfl) (T.ev 0 rfl) (by omega)) ?_; clear T ac; intro ac T
  refine l_q T rfl rfl rfl rfl (rn_max2 rfl (T.ev 3 rfl) (T.ev 0 rfl)) ?_; clear T ac; intro ac T
  refine l_q (v := (.pointer (some ⟨g1, 1, none⟩))) T rfl rfl rfl rfl (rn_fieldAddr (off := 1) rfl (T.ev 7 rfl) (fun _ _ _ => by kernel_rfl)) ?_; clear T ac; intro ac T
  refine l_q T rfl rfl rfl rfl (rn_one (Mem.nth M 1 rfl) rfl (T.ev 0 rfl) rfl) ?_; clear T ac; intro ac T
  refine l_q T rfl rfl rfl rfl (rn_move rfl (T.ev 10 rfl)) ?_; clear T ac; intro ac T
  refine l_q T rfl rfl rfl rfl (rn_move rfl (T.ev 12 rfl)) ?_; clear T ac; intro ac T
  refine l_q T rfl rfl rfl rfl (rn_add rfl (T.ev 1 rfl) (T.ev 0 rfl) (by omega)) ?_; clear T ac; intro ac T
  refine l_q T rfl rfl rfl rfl (rn_min2 rfl (T.ev 3 rfl) (T.ev 0 rfl)) ?_; clear T ac; intro ac T
  refine l_q (v := (.agg #[.int .i64 (max p0 (r - m)), .int .i64 (min p1 (r + m))])) T rfl rfl rfl rfl (rn_build rfl (.cons (T.ev 6 rfl) (.cons (T.ev 0 rfl) .nil)) (fun _ => by kernel_rfl)) ?_; clear T ac; intro ac T
  refine l_w rfl ?_; intro K hK
  refine ow_stO M T rfl rfl (T.ev 13 rfl) (T.ev 0 rfl) rfl .head rfl (by simp) rfl (by kernel_rfl) ?_; clear M T; intro wc ac M T
  refine sh_out hK _ _ ?_; clear hK K
  refine wpList_nil ?_
  replace T := T.pick [13] rfl
  replace M := M.mask [true, false] rfl
  refine nm_then ?_
  refine wp_ret ?_
  refine rt_c M T rfl (T.ev 0 rfl) (nthE_mem (i := 0) rfl) rfl ?_
  exact ⟨rfl, M.below⟩

set_option maxRecDepth 100000 in
set_option maxHeartbeats 1000000 in
theorem rHear_any (j : Jb) (A : Option Addr) (c : Nat) (r : Int) (w : World) (hr : Rd w w.heap.size 2 A j.sh.length (rc j.sh)) (hn : j.sh.length ≤ 9223372036854775807) :
    Calls Try.prog 48 #[jobV j A c, .int .i64 r] w fun e w' => e = .returned (.tuple #[.agg #[.int .i64 ((rhearT j r).1.1), .int .i64 ((rhearT j r).1.2)], .int .i64 ((rhearT j r).2)]) ∧ Below w.heap.size w w' := by
  obtain ⟨bJ, oJ, SJ⟩ := Sp.old hr
  refine px_enter noEx Try.func48 rfl 38 rfl [.agg #[.int .i64 j.p0, .int .i64 j.p1, .int .i64 j.t0, .int .i64 j.t1, .int .i64 j.r0, .int .i64 j.r1, .int .i64 j.u0, .int .i64 j.u1, .int .i64 j.d0, .int .i64 j.d1, .int .i64 j.a0, .int .i64 j.a1, .int .i64 j.b0, .int .i64 j.b1, .int .i64 j.le, .slice A j.sh.length c, .int .i64 j.wi, .int .i64 j.me], .int .i64 r] rfl rfl (Mem.init w _) ?_
  intro ac wc T M
  refine wp_seq ?_
  refine wp_region_lit ?_
  refine l_w rfl ?_; intro K hK
  refine ow_bx M T rfl rfl rfl rfl (T.ev 0 rfl) rfl ?_; clear M T; intro g1 wc ac M T
  refine sh_out hK _ _ ?_; clear hK K
  refine l_w rfl ?_; intro K hK
  refine ow_al M T rfl rfl rfl rfl ?_; clear M T; intro g2 wc ac M T
  refine sh_out hK _ _ ?_; clear hK K
  refine l_q T rfl rfl rfl rfl (rn_assign rfl evc) ?_; clear T ac; intro ac T
  refine wpList_nil ?_
  replace T := T.pick [1, 2, 4] rfl
  refine nm_then ?_
  refine wp_seq ?_
  refine wp_seq ?_
  refine wp_region_lit ?_
  refine l_q T rfl rfl rfl rfl (rn_rowO (Mem.nth M 1 rfl) rfl (T.ev 1 rfl) rfl) ?_; clear T ac; intro ac T
  refine l_w rfl ?_; intro K hK
  refine ow_call (first := []) (cap := []) T rfl rfl rfl rfl evf (.cons (T.ev 0 rfl) .nil) Try.func50 rfl rfl ?_
  refine Calls.mono (rCheck_any j _ _ _ (SJ.rd M (List.nil_sublist _)) (by omega)) ?_
  clear T
  rintro e wc ⟨rfl, hb⟩
  intro ac T
  replace M := M.call hb; clear hb
  refine sh_out hK _ _ ?_; clear hK K
  refine l_q T rfl rfl rfl rfl (rn_assign rfl (T.ev 0 rfl)) ?_; clear T ac; intro ac T
  refine wpList_nil ?_
  replace T := T.pick [0, 3, 4, 5] rfl
  refine nm_then ?_
  refine wp_seq ?_
  refine wp_region_lit ?_
  refine l_q T rfl rfl rfl rfl (rn_move rfl (T.ev 0 rfl)) ?_; clear T ac; intro ac T
  refine l_q T rfl rfl rfl rfl (rn_neq rfl (T.ev 0 rfl) evc) ?_; clear T ac; intro ac T
  refine wpList_nil ?_
  replace T := T.pick [0, 2, 3, 4, 5] rfl
  refine nm_then ?_
  refine wp_ifn (T.ev 0 rfl) ?_ ?_
  · intro h1
    refine wp_seq ?_
    refine wp_region_lit ?_
    refine l_q (v := (.agg #[.int .i64 0, .int .i64 0])) T rfl rfl rfl rfl (rn_build rfl .nil (fun _ => by kernel_rfl)) ?_; clear T ac; intro ac T
    refine l_q T rfl rfl rfl rfl (rn_move rfl (T.ev 2 rfl)) ?_; clear T ac; intro ac T
    refine l_w rfl ?_; intro K hK
    refine ow_stO M T rfl rfl (T.ev 4 rfl) (T.ev 1 rfl) rfl .head rfl (by simp) rfl (by kernel_rfl) ?_; clear M T; intro wc ac M T
    refine sh_out hK _ _ ?_; clear hK K
    refine l_q T rfl rfl rfl rfl (rn_assign rfl (T.ev 0 rfl)) ?_; clear T ac; intro ac T
    refine wpList_nil ?_
    replace T := T.pick [0, 5] rfl
    replace M := M.mask [true, false] rfl
    refine nm_then ?_
    refine wp_ret ?_
    refine rt_then ?_
    refine rt_ct M T rfl (T.ev 1 rfl) (T.ev 0 rfl) (nthE_mem (i := 0) rfl) rfl ?_
    refine ⟨?_, M.below⟩
    unfold rhearT
    (repeat' split) <;> first | rfl | omega | contradiction | (simp_all; done) | (simp_all; omega)
  · intro h1
    have hj := good_of (show checkJ j = 0 by simpa using h1)
    have hp := hj.p
    have hme := hj.me
    refine wp_skip ?_
    refine nm_then ?_
    refine wp_seq ?_
    refine wp_seq ?_
    refine wp_region_lit ?_
    refine l_q T rfl rfl rfl rfl (rn_move rfl (T.ev 4 rfl)) ?_; clear T ac; intro ac T
    refine l_q (v := (.pointer (some ⟨g1, 0, none⟩))) T rfl rfl rfl rfl (rn_fieldAddr (off := 0) rfl (T.ev 4 rfl) (fun _ _ _ => by kernel_rfl)) ?_; clear T ac; intro ac T
    refine l_q (v := (.pointer (some ⟨g1, 0, none⟩))) T rfl rfl rfl rfl (rn_fieldAddr (off := 0) rfl (T.ev 0 rfl) (fun _ _ _ => by kernel_rfl)) ?_; clear T ac; intro ac T
    refine l_q (v := (.pointer (some ⟨g1, 0, none⟩))) T rfl rfl rfl rfl (rn_fieldAddr (off := 0) rfl (T.ev 0 rfl) (fun _ _ _ => by kernel_rfl)) ?_; clear T ac; intro ac T
    refine l_q T rfl rfl rfl rfl (rn_one (Mem.nth M 1 rfl) rfl (T.ev 0 rfl) rfl) ?_; clear T ac; intro ac T
    refine l_q (v := (.pointer (some ⟨g1, 17, none⟩))) T rfl rfl rfl rfl (rn_fieldAddr (off := 17) rfl (T.ev 8 rfl) (fun _ _ _ => by kernel_rfl)) ?_; clear T ac; intro ac T
    refine l_q T rfl rfl rfl rfl (rn_one (Mem.nth M 1 rfl) rfl (T.ev 0 rfl) rfl) ?_; clear T ac; intro ac T
    refine l_q T rfl rfl rfl rfl (rn_sub rfl (T.ev 2 rfl) (T.ev 0 rfl) (by omega)) ?_; clear T ac; intro ac T
    refine l_q (v := (.pointer (some ⟨g1, 0, none⟩))) T rfl rfl rfl rfl (rn_fieldAddr (off := 0) rfl (T.ev 11 rfl) (fun _ _ _ => by kernel_rfl)) ?_; clear T ac; intro ac T
    refine l_q (v := (.pointer (some ⟨g1, 0, none⟩))) T rfl rfl rfl rfl (rn_fieldAddr (off := 0) rfl (T.ev 0 rfl) (fun _ _ _ => by kernel_rfl)) ?_; clear T ac; intro ac T
    refine l_q (v := (.pointer (some ⟨g1, 1, none⟩))) T rfl rfl rfl rfl (rn_fieldAddr (off := 1) rfl (T.ev 0 rfl) (fun _ _ _ => by kernel_rfl)) ?_; clear T ac; intro ac T
    refine l_q T rfl rfl rfl rfl (rn_one (Mem.nth M 1 rfl) rfl (T.ev 0 rfl) rfl) ?_; clear T ac; intro ac T
    refine l_q (v := (.pointer (some ⟨g1, 17, none⟩))) T rfl rfl rfl rfl (rn_fieldAddr (off := 17) rfl (T.ev 15 rfl) (fun _ _ _ => by kernel_rfl)) ?_; clear T ac; intro ac T
    refine l_q T rfl rfl rfl rfl (rn_one (Mem.nth M 1 rfl) rfl (T.ev 0 rfl) rfl) ?_; clear T ac; intro ac T
    refine l_q T rfl rfl rfl rfl (rn_add rfl (T.ev 2 rfl) (T.ev 0 rfl) (by omega)) ?_; clear T ac; intro ac T
    refine l_w rfl ?_; intro K hK
    refine ow_call (first := []) (cap := []) T rfl rfl rfl rfl evf (.cons (T.ev 14 rfl) (.cons (T.ev 7 rfl) (.cons (T.ev 0 rfl) .nil))) Try.func90 rfl rfl ?_
    refine Calls.mono (among_any r (j.p0 - j.me) (j.p1 + j.me) _) ?_
    clear T
    rintro e wc ⟨rfl, hb⟩
    intro ac T
    replace M := M.call hb; clear hb
    refine sh_out hK _ _ ?_; clear hK K
    refine l_q T rfl rfl rfl rfl (rn_not rfl (T.ev 0 rfl)) ?_; clear T ac; intro ac T
    refine wpList_nil ?_
    replace T := T.pick [0, 19, 20, 21] rfl
    refine nm_then ?_
    refine wp_cond_split (T.ev 0 rfl) ?_ ?_
    · intro h2
      (try have h2' := h2; try simp only [Bool.and_eq_true, Bool.or_eq_true, Bool.not_eq_true', Bool.and_eq_false_imp, Bool.or_eq_false_iff, decide_eq_true_eq, decide_eq_false_iff_not] at h2')
      refine wp_seq ?_
      refine wp_region_lit ?_
      refine l_q (v := (.agg #[.int .i64 0, .int .i64 0])) T rfl rfl rfl rfl (rn_build rfl .nil (fun _ => by kernel_rfl)) ?_; clear T ac; intro ac T
      refine l_w rfl ?_; intro K hK
      refine ow_stO M T rfl rfl (T.ev 2 rfl) (T.ev 0 rfl) rfl .head rfl (by simp) rfl (by kernel_rfl) ?_; clear M T; intro wc ac M T
      refine sh_out hK _ _ ?_; clear hK K
      refine l_q T rfl rfl rfl rfl (rn_assign rfl evc) ?_; clear T ac; intro ac T
      refine wpList_nil ?_
      replace T := T.pick [0, 3] rfl
      replace M := M.mask [true, false] rfl
      refine nm_then ?_
      refine wp_ret ?_
      refine rt_then ?_
      refine rt_ct M T rfl (T.ev 1 rfl) (T.ev 0 rfl) (nthE_mem (i := 0) rfl) rfl ?_
      refine ⟨?_, M.below⟩
      unfold rhearT
      (repeat' split) <;> first | rfl | omega | contradiction | (simp_all; done) | (simp_all; omega)
    · intro h2
      (try have h2' := h2; try simp only [Bool.and_eq_true, Bool.or_eq_true, Bool.not_eq_true', Bool.and_eq_false_imp, Bool.or_eq_false_iff, decide_eq_true_eq, decide_eq_false_iff_not] at h2')
      have hw : j.p0 - j.me ≤ r ∧ r ≤ j.p1 + j.me := by simpa [withinB] using h2
      refine wp_skip ?_
      refine nm_then ?_
      refine wp_seq ?_
      refine wp_region_lit ?_
      refine l_q (v := (.pointer (some ⟨g1, 0, none⟩))) T rfl rfl rfl rfl (rn_fieldAddr (off := 0) rfl (T.ev 2 rfl) (fun _ _ _ => by kernel_rfl)) ?_; clear T ac; intro ac T
      refine l_q (v := (.pointer (some ⟨g1, 0, none⟩))) T rfl rfl rfl rfl (rn_fieldAddr (off := 0) rfl (T.ev 0 rfl) (fun _ _ _ => by kernel_rfl)) ?_; clear T ac; intro ac T
      refine l_q T rfl rfl rfl rfl (rn_rowO (Mem.nth M 1 rfl) rfl (T.ev 0 rfl) rfl) ?_; clear T ac; intro ac T
      refine l_q T rfl rfl rfl rfl (rn_move rfl (T.ev 6 rfl)) ?_; clear T ac; intro ac T
      refine l_q (v := (.pointer (some ⟨g1, 17, none⟩))) T rfl rfl rfl rfl (rn_fieldAddr (off := 17) rfl (T.ev 6 rfl) (fun _ _ _ => by kernel_rfl)) ?_; clear T ac; intro ac T
      refine l_q T rfl rfl rfl rfl (rn_one (Mem.nth M 1 rfl) rfl (T.ev 0 rfl) rfl) ?_; clear T ac; intro ac T
      refine l_w rfl ?_; intro K hK
      refine ow_call (first := []) (cap := []) T rfl rfl rfl rfl evf (.cons (T.ev 3 rfl) (.cons (T.ev 2 rfl) (.cons (T.ev 0 rfl) .nil))) Try.func91 rfl rfl ?_
      refine Calls.mono (heard_any j.p0 j.p1 r j.me _ (by first | omega | (simp [withinB] at *; omega)) (by omega)) ?_
      clear T
      rintro e wc ⟨rfl, hb⟩
      intro ac T
      replace M := M.call hb; clear hb
      refine sh_out hK _ _ ?_; clear hK K
      refine l_w rfl ?_; intro K hK
      refine ow_stO M T rfl rfl (T.ev 8 rfl) (T.ev 0 rfl) rfl .head rfl (by simp) rfl (by kernel_rfl) ?_; clear M T; intro wc ac M T
      refine sh_out hK _ _ ?_; clear hK K
      refine l_q T rfl rfl rfl rfl (rn_assign rfl evc) ?_; clear T ac; intro ac T
      refine wpList_nil ?_
      replace T := T.pick [0, 9] rfl
      replace M := M.mask [true, false] rfl
      refine nm_then ?_
      refine wp_ret ?_
      refine rt_ct M T rfl (T.ev 1 rfl) (T.ev 0 rfl) (nthE_mem (i := 0) rfl) rfl ?_
      refine ⟨?_, M.below⟩
      unfold rhearT
      (repeat' split) <;> first | rfl | omega | contradiction | (simp_all; done) | (simp_all; omega)

theorem filed_fields (s : St) (k : Int) : (s.filed k).u0 = s.u0 ∧ (s.filed k).u1 = s.u1 ∧ (s.filed k).d0 = s.d0 ∧ (s.filed k).d1 = s.d1 ∧ (s.filed k).a0 = s.a0 ∧ (s.filed k).a1 = s.a1 ∧ (s.filed k).b0 = s.b0 ∧ (s.filed k).b1 = s.b1 ∧ (s.filed k).le = s.le := by
  unfold St.filed
  split <;> exact ⟨rfl, rfl, rfl, rfl, rfl, rfl, rfl, rfl, rfl⟩


set_option maxRecDepth 100000 in
set_option maxHeartbeats 1000000 in
theorem stroke_any (s : St) (k : Int) (w : World) (hs : s.upTo 1000000) :
    Calls Try.prog 110 #[.agg #[.int .i64 s.u0, .int .i64 s.u1, .int .i64 s.d0, .int .i64 s.d1, .int .i64 s.a0, .int .i64 s.a1, .int .i64 s.b0, .int .i64 s.b1, .int .i64 s.le], .agg #[.int .i64 s.p0, .int .i64 s.p1, .int .i64 s.t0, .int .i64 s.t1, .int .i64 s.r0, .int .i64 s.r1], .int .i64 k] w fun e w' => e = .returned (.agg #[.int .i64 ((s.filed k).p0), .int .i64 ((s.filed k).p1), .int .i64 ((s.filed k).t0), .int .i64 ((s.filed k).t1), .int .i64 ((s.filed k).r0), .int .i64 ((s.filed k).r1)]) ∧ Below w.heap.size w w' := by
  obtain ⟨q1, q2, q3, q4, q5, q6, q7, q8, q9, q10, q11, q12, q13, q14⟩ := hs
  refine px_enter noEx Try.func110 rfl 74 rfl [.agg #[.int .i64 s.u0, .int .i64 s.u1, .int .i64 s.d0, .int .i64 s.d1, .int .i64 s.a0, .int .i64 s.a1, .int .i64 s.b0, .int .i64 s.b1, .int .i64 s.le], .agg #[.int .i64 s.p0, .int .i64 s.p1, .int .i64 s.t0, .int .i64 s.t1, .int .i64 s.r0, .int .i64 s.r1], .int .i64 k] rfl rfl (Mem.init w _) ?_
  intro ac wc T M
  refine wp_seq ?_
  refine wp_region_lit ?_
  refine l_w rfl ?_; intro K hK
  refine ow_bx M T rfl rfl rfl rfl (T.ev 0 rfl) rfl ?_; clear M T; intro g1 wc ac M T
  refine sh_out hK _ _ ?_; clear hK K
  refine l_w rfl ?_; intro K hK
  refine ow_bx M T rfl rfl rfl rfl (T.ev 2 rfl) rfl ?_; clear M T; intro g2 wc ac M T
  refine sh_out hK _ _ ?_; clear hK K
  refine l_w rfl ?_; intro K hK
  refine ow_al M T rfl rfl rfl rfl ?_; clear M T; intro g3 wc ac M T
  refine sh_out hK _ _ ?_; clear hK K
  refine wpList_nil ?_
  replace T := T.pick [0, 1, 2, 5] rfl
  refine nm_then ?_
  refine wp_seq ?_
  refine wp_seq ?_
  refine wp_region_lit ?_
  refine l_q T rfl rfl rfl rfl (rn_move rfl (T.ev 3 rfl)) ?_; clear T ac; intro ac T
  refine l_q T rfl rfl rfl rfl (rn_eql rfl (T.ev 0 rfl) evc) ?_; clear T ac; intro ac T
  refine wpList_nil ?_
  replace T := T.pick [0, 2, 3, 4] rfl
  refine nm_then ?_
  refine wp_if (T.ev 0 rfl) ?_ ?_
  · intro h1
    refine wp_seq ?_
    refine wp_region_lit ?_
    refine l_q (v := (.pointer (some ⟨g2, 0, none⟩))) T rfl rfl rfl rfl (rn_fieldAddr (off := 0) rfl (T.ev 2 rfl) (fun _ _ _ => by kernel_rfl)) ?_; clear T ac; intro ac T
    refine l_q (v := (.pointer (some ⟨g2, 0, none⟩))) T rfl rfl rfl rfl (rn_fieldAddr (off := 0) rfl (T.ev 0 rfl) (fun _ _ _ => by kernel_rfl)) ?_; clear T ac; intro ac T
    refine l_q T rfl rfl rfl rfl (rn_one (Mem.nth M 1 rfl) rfl (T.ev 0 rfl) rfl) ?_; clear T ac; intro ac T
    refine l_q (v := (.pointer (some ⟨g1, 0, none⟩))) T rfl rfl rfl rfl (rn_fieldAddr (off := 0) rfl (T.ev 6 rfl) (fun _ _ _ => by kernel_rfl)) ?_; clear T ac; intro ac T
    refine l_q (v := (.pointer (some ⟨g1, 0, none⟩))) T rfl rfl rfl rfl (rn_fieldAddr (off := 0) rfl (T.ev 0 rfl) (fun _ _ _ => by kernel_rfl)) ?_; clear T ac; intro ac T
    refine l_q T rfl rfl rfl rfl (rn_one (Mem.nth M 2 rfl) rfl (T.ev 0 rfl) rfl) ?_; clear T ac; intro ac T
    refine l_q T rfl rfl rfl rfl (rn_add rfl (T.ev 3 rfl) (T.ev 0 rfl) (by omega)) ?_; clear T ac; intro ac T
    refine l_q (v := (.pointer (some ⟨g2, 0, none⟩))) T rfl rfl rfl rfl (rn_fieldAddr (off := 0) rfl (T.ev 9 rfl) (fun _ _ _ => by kernel_rfl)) ?_; clear T ac; intro ac T
    refine l_q (v := (.pointer (some ⟨g2, 1, none⟩))) T rfl rfl rfl rfl (rn_fieldAddr (off := 1) rfl (T.ev 0 rfl) (fun _ _ _ => by kernel_rfl)) ?_; clear T ac; intro ac T
    refine l_q T rfl rfl rfl rfl (rn_one (Mem.nth M 1 rfl) rfl (T.ev 0 rfl) rfl) ?_; clear T ac; intro ac T
    refine l_q (v := (.pointer (some ⟨g1, 0, none⟩))) T rfl rfl rfl rfl (rn_fieldAddr (off := 0) rfl (T.ev 13 rfl) (fun _ _ _ => by kernel_rfl)) ?_; clear T ac; intro ac T
    refine l_q (v := (.pointer (some ⟨g1, 1, none⟩))) T rfl rfl rfl rfl (rn_fieldAddr (off := 1) rfl (T.ev 0 rfl) (fun _ _ _ => by kernel_rfl)) ?_; clear T ac; intro ac T
    refine l_q T rfl rfl rfl rfl (rn_one (Mem.nth M 2 rfl) rfl (T.ev 0 rfl) rfl) ?_; clear T ac; intro ac T
    refine l_q T rfl rfl rfl rfl (rn_add rfl (T.ev 3 rfl) (T.ev 0 rfl) (by omega)) ?_; clear T ac; intro ac T
    refine l_q (v := (.agg #[.int .i64 (s.p0 + s.u0), .int .i64 (s.p1 + s.u1)])) T rfl rfl rfl rfl (rn_build rfl (.cons (T.ev 7 rfl) (.cons (T.ev 0 rfl) .nil)) (fun _ => by kernel_rfl)) ?_; clear T ac; intro ac T
    refine l_q (v := (.pointer (some ⟨g2, 0, none⟩))) T rfl rfl rfl rfl (rn_fieldAddr (off := 0) rfl (T.ev 17 rfl) (fun _ _ _ => by kernel_rfl)) ?_; clear T ac; intro ac T
    refine l_w rfl ?_; intro K hK
    refine ow_stO M T rfl rfl (T.ev 0 rfl) (T.ev 1 rfl) rfl (.tail .head) rfl (by simp) rfl (by kernel_rfl) ?_; clear M T; intro wc ac M T
    refine sh_out hK _ _ ?_; clear hK K
    refine wpList_nil ?_
    replace T := T.pick [17, 18, 19] rfl
    refine nm_then ?_
    refine wp_region_lit ?_
    refine l_q (v := (.pointer (some ⟨g2, 2, none⟩))) T rfl rfl rfl rfl (rn_fieldAddr (off := 2) rfl (T.ev 1 rfl) (fun _ _ _ => by kernel_rfl)) ?_; clear T ac; intro ac T
    refine l_q (v := (.pointer (some ⟨g2, 2, none⟩))) T rfl rfl rfl rfl (rn_fieldAddr (off := 0) rfl (T.ev 0 rfl) (fun _ _ _ => by kernel_rfl)) ?_; clear T ac; intro ac T
    refine l_q T rfl rfl rfl rfl (rn_one (Mem.nth M 1 rfl) rfl (T.ev 0 rfl) rfl) ?_; clear T ac; intro ac T
    refine l_q (v := (.pointer (some ⟨g1, 4, none⟩))) T rfl rfl rfl rfl (rn_fieldAddr (off := 4) rfl (T.ev 5 rfl) (fun _ _ _ => by kernel_rfl)) ?_; clear T ac; intro ac T
    refine l_q (v := (.pointer (some ⟨g1, 5, none⟩))) T rfl rfl rfl rfl (rn_fieldAddr (off := 1) rfl (T.ev 0 rfl) (fun _ _ _ => by kernel_rfl)) ?_; clear T ac; intro ac T
    refine l_q T rfl rfl rfl rfl (rn_one (Mem.nth M 2 rfl) rfl (T.ev 0 rfl) rfl) ?_; clear T ac; intro ac T
    refine l_q T rfl rfl rfl rfl (rn_sub rfl (T.ev 3 rfl) (T.ev 0 rfl) (by omega)) ?_; clear T ac; intro ac T
    refine l_q (v := (.pointer (some ⟨g2, 2, none⟩))) T rfl rfl rfl rfl (rn_fieldAddr (off := 2) rfl (T.ev 8 rfl) (fun _ _ _ => by kernel_rfl)) ?_; clear T ac; intro ac T
    refine l_q (v := (.pointer (some ⟨g2, 3, none⟩))) T rfl rfl rfl rfl (rn_fieldAddr (off := 1) rfl (T.ev 0 rfl) (fun _ _ _ => by kernel_rfl)) ?_; clear T ac; intro ac T
    refine l_q T rfl rfl rfl rfl (rn_one (Mem.nth M 1 rfl) rfl (T.ev 0 rfl) rfl) ?_; clear T ac; intro ac T
    refine l_q (v := (.pointer (some ⟨g1, 4, none⟩))) T rfl rfl rfl rfl (rn_fieldAddr (off := 4) rfl (T.ev 12 rfl) (fun _ _ _ => by kernel_rfl)) ?_; clear T ac; intro ac T
    refine l_q (v := (.pointer (some ⟨g1, 4, none⟩))) T rfl rfl rfl rfl (rn_fieldAddr (off := 0) rfl (T.ev 0 rfl) (fun _ _ _ => by kernel_rfl)) ?_; clear T ac; intro ac T
    refine l_q T rfl rfl rfl rfl (rn_one (Mem.nth M 2 rfl) rfl (T.ev 0 rfl) rfl) ?_; clear T ac; intro ac T
    refine l_q T rfl rfl rfl rfl (rn_sub rfl (T.ev 3 rfl) (T.ev 0 rfl) (by omega)) ?_; clear T ac; intro ac T
    refine l_q (v := (.agg #[.int .i64 (s.t0 - s.a1), .int .i64 (s.t1 - s.a0)])) T rfl rfl rfl rfl (rn_build rfl (.cons (T.ev 7 rfl) (.cons (T.ev 0 rfl) .nil)) (fun _ => by kernel_rfl)) ?_; clear T ac; intro ac T
    refine l_q (v := (.pointer (some ⟨g2, 2, none⟩))) T rfl rfl rfl rfl (rn_fieldAddr (off := 2) rfl (T.ev 16 rfl) (fun _ _ _ => by kernel_rfl)) ?_; clear T ac; intro ac T
    refine l_w rfl ?_; intro K hK
    refine ow_stO M T rfl rfl (T.ev 0 rfl) (T.ev 1 rfl) rfl (.tail .head) rfl (by simp) rfl (by kernel_rfl) ?_; clear M T; intro wc ac M T
    refine sh_out hK _ _ ?_; clear hK K
    refine wpList_nil ?_
    replace T := T.pick [16, 17] rfl
    replace M := M.mask [true, true, false] rfl
    refine nm_then ?_
    refine wp_seq ?_
    refine wp_region_lit ?_
    refine l_q T rfl rfl rfl rfl (rn_rowO (Mem.nth M 1 rfl) rfl (T.ev 1 rfl) rfl) ?_; clear T ac; intro ac T
    refine l_w rfl ?_; intro K hK
    refine ow_stO M T rfl rfl (T.ev 1 rfl) (T.ev 0 rfl) rfl .head rfl (by simp) rfl (by kernel_rfl) ?_; clear M T; intro wc ac M T
    refine sh_out hK _ _ ?_; clear hK K
    refine wpList_nil ?_
    replace T := T.pick [1] rfl
    replace M := M.mask [true, false] rfl
    refine nm_then ?_
    refine wp_ret ?_
    refine rt_c M T rfl (T.ev 0 rfl) (nthE_mem (i := 0) rfl) rfl ?_
    unfold St.filed
    first | rw [if_pos h1] | rw [if_neg h1]
    exact ⟨rfl, M.below⟩
  · intro h1
    refine wp_seq ?_
    refine wp_region_lit ?_
    refine l_q (v := (.pointer (some ⟨g2, 0, none⟩))) T rfl rfl rfl rfl (rn_fieldAddr (off := 0) rfl (T.ev 2 rfl) (fun _ _ _ => by kernel_rfl)) ?_; clear T ac; intro ac T
    refine l_q (v := (.pointer (some ⟨g2, 0, none⟩))) T rfl rfl rfl rfl (rn_fieldAddr (off := 0) rfl (T.ev 0 rfl) (fun _ _ _ => by kernel_rfl)) ?_; clear T ac; intro ac T
    refine l_q T rfl rfl rfl rfl (rn_one (Mem.nth M 1 rfl) rfl (T.ev 0 rfl) rfl) ?_; clear T ac; intro ac T
    refine l_q (v := (.pointer (some ⟨g1, 2, none⟩))) T rfl rfl rfl rfl (rn_fieldAddr (off := 2) rfl (T.ev 6 rfl) (fun _ _ _ => by kernel_rfl)) ?_; clear T ac; intro ac T
    refine l_q (v := (.pointer (some ⟨g1, 3, none⟩))) T rfl rfl rfl rfl (rn_fieldAddr (off := 1) rfl (T.ev 0 rfl) (fun _ _ _ => by kernel_rfl)) ?_; clear T ac; intro ac T
    refine l_q T rfl rfl rfl rfl (rn_one (Mem.nth M 2 rfl) rfl (T.ev 0 rfl) rfl) ?_; clear T ac; intro ac T
    refine l_q T rfl rfl rfl rfl (rn_sub rfl (T.ev 3 rfl) (T.ev 0 rfl) (by omega)) ?_; clear T ac; intro ac T
    refine l_q (v := (.pointer (some ⟨g2, 0, none⟩))) T rfl rfl rfl rfl (rn_fieldAddr (off := 0) rfl (T.ev 9 rfl) (fun _ _ _ => by kernel_rfl)) ?_; clear T ac; intro ac T
    refine l_q (v := (.pointer (some ⟨g2, 1, none⟩))) T rfl rfl rfl rfl (rn_fieldAddr (off := 1) rfl (T.ev 0 rfl) (fun _ _ _ => by kernel_rfl)) ?_; clear T ac; intro ac T
    refine l_q T rfl rfl rfl rfl (rn_one (Mem.nth M 1 rfl) rfl (T.ev 0 rfl) rfl) ?_; clear T ac; intro ac T
    refine l_q (v := (.pointer (some ⟨g1, 2, none⟩))) T rfl rfl rfl rfl (rn_fieldAddr (off := 2) rfl (T.ev 13 rfl) (fun _ _ _ => by kernel_rfl)) ?_; clear T ac; intro ac T
    refine l_q (v := (.pointer (some ⟨g1, 2, none⟩))) T rfl rfl rfl rfl (rn_fieldAddr (off := 0) rfl (T.ev 0 rfl) (fun _ _ _ => by kernel_rfl)) ?_; clear T ac; intro ac T
    refine l_q T rfl rfl rfl rfl (rn_one (Mem.nth M 2 rfl) rfl (T.ev 0 rfl) rfl) ?_; clear T ac; intro ac T
    refine l_q T rfl rfl rfl rfl (rn_sub rfl (T.ev 3 rfl) (T.ev 0 rfl) (by omega)) ?_; clear T ac; intro ac T
    refine l_q (v := (.agg #[.int .i64 (s.p0 - s.d1), .int .i64 (s.p1 - s.d0)])) T rfl rfl rfl rfl (rn_build rfl (.cons (T.ev 7 rfl) (.cons (T.ev 0 rfl) .nil)) (fun _ => by kernel_rfl)) ?_; clear T ac; intro ac T
    refine l_q (v := (.pointer (some ⟨g2, 0, none⟩))) T rfl rfl rfl rfl (rn_fieldAddr (off := 0) rfl (T.ev 17 rfl) (fun _ _ _ => by kernel_rfl)) ?_; clear T ac; intro ac T
    refine l_w rfl ?_; intro K hK
    refine ow_stO M T rfl rfl (T.ev 0 rfl) (T.ev 1 rfl) rfl (.tail .head) rfl (by simp) rfl (by kernel_rfl) ?_; clear M T; intro wc ac M T
    refine sh_out hK _ _ ?_; clear hK K
    refine wpList_nil ?_
    replace T := T.pick [17, 18, 19] rfl
    refine nm_then ?_
    refine wp_region_lit ?_
    refine l_q (v := (.pointer (some ⟨g2, 4, none⟩))) T rfl rfl rfl rfl (rn_fieldAddr (off := 4) rfl (T.ev 1 rfl) (fun _ _ _ => by kernel_rfl)) ?_; clear T ac; intro ac T
    refine l_q (v := (.pointer (some ⟨g2, 4, none⟩))) T rfl rfl rfl rfl (rn_fieldAddr (off := 0) rfl (T.ev 0 rfl) (fun _ _ _ => by kernel_rfl)) ?_; clear T ac; intro ac T
    refine l_q T rfl rfl rfl rfl (rn_one (Mem.nth M 1 rfl) rfl (T.ev 0 rfl) rfl) ?_; clear T ac; intro ac T
    refine l_q (v := (.pointer (some ⟨g1, 6, none⟩))) T rfl rfl rfl rfl (rn_fieldAddr (off := 6) rfl (T.ev 5 rfl) (fun _ _ _ => by kernel_rfl)) ?_; clear T ac; intro ac T
    refine l_q (v := (.pointer (some ⟨g1, 7, none⟩))) T rfl rfl rfl rfl (rn_fieldAddr (off := 1) rfl (T.ev 0 rfl) (fun _ _ _ => by kernel_rfl)) ?_; clear T ac; intro ac T
    refine l_q T rfl rfl rfl rfl (rn_one (Mem.nth M 2 rfl) rfl (T.ev 0 rfl) rfl) ?_; clear T ac; intro ac T
    refine l_q T rfl rfl rfl rfl (rn_sub rfl (T.ev 3 rfl) (T.ev 0 rfl) (by omega)) ?_; clear T ac; intro ac T
    refine l_q (v := (.pointer (some ⟨g2, 4, none⟩))) T rfl rfl rfl rfl (rn_fieldAddr (off := 4) rfl (T.ev 8 rfl) (fun _ _ _ => by kernel_rfl)) ?_; clear T ac; intro ac T
    refine l_q (v := (.pointer (some ⟨g2, 5, none⟩))) T rfl rfl rfl rfl (rn_fieldAddr (off := 1) rfl (T.ev 0 rfl) (fun _ _ _ => by kernel_rfl)) ?_; clear T ac; intro ac T
    refine l_q T rfl rfl rfl rfl (rn_one (Mem.nth M 1 rfl) rfl (T.ev 0 rfl) rfl) ?_; clear T ac; intro ac T
    refine l_q (v := (.pointer (some ⟨g1, 6, none⟩))) T rfl rfl rfl rfl (rn_fieldAddr (off := 6) rfl (T.ev 12 rfl) (fun _ _ _ => by kernel_rfl)) ?_; clear T ac; intro ac T
    refine l_q (v := (.pointer (some ⟨g1, 6, none⟩))) T rfl rfl rfl rfl (rn_fieldAddr (off := 0) rfl (T.ev 0 rfl) (fun _ _ _ => by kernel_rfl)) ?_; clear T ac; intro ac T
    refine l_q T rfl rfl rfl rfl (rn_one (Mem.nth M 2 rfl) rfl (T.ev 0 rfl) rfl) ?_; clear T ac; intro ac T
    refine l_q T rfl rfl rfl rfl (rn_sub rfl (T.ev 3 rfl) (T.ev 0 rfl) (by omega)) ?_; clear T ac; intro ac T
    refine l_q (v := (.agg #[.int .i64 (s.r0 - s.b1), .int .i64 (s.r1 - s.b0)])) T rfl rfl rfl rfl (rn_build rfl (.cons (T.ev 7 rfl) (.cons (T.ev 0 rfl) .nil)) (fun _ => by kernel_rfl)) ?_; clear T ac; intro ac T
    refine l_q (v := (.pointer (some ⟨g2, 4, none⟩))) T rfl rfl rfl rfl (rn_fieldAddr (off := 4) rfl (T.ev 16 rfl) (fun _ _ _ => by kernel_rfl)) ?_; clear T ac; intro ac T
    refine l_w rfl ?_; intro K hK
    refine ow_stO M T rfl rfl (T.ev 0 rfl) (T.ev 1 rfl) rfl (.tail .head) rfl (by simp) rfl (by kernel_rfl) ?_; clear M T; intro wc ac M T
    refine sh_out hK _ _ ?_; clear hK K
    refine wpList_nil ?_
    replace T := T.pick [16, 17] rfl
    replace M := M.mask [true, true, false] rfl
    refine nm_then ?_
    refine wp_seq ?_
    refine wp_region_lit ?_
    refine l_q T rfl rfl rfl rfl (rn_rowO (Mem.nth M 1 rfl) rfl (T.ev 1 rfl) rfl) ?_; clear T ac; intro ac T
    refine l_w rfl ?_; intro K hK
    refine ow_stO M T rfl rfl (T.ev 1 rfl) (T.ev 0 rfl) rfl .head rfl (by simp) rfl (by kernel_rfl) ?_; clear M T; intro wc ac M T
    refine sh_out hK _ _ ?_; clear hK K
    refine wpList_nil ?_
    replace T := T.pick [1] rfl
    replace M := M.mask [true, false] rfl
    refine nm_then ?_
    refine wp_ret ?_
    refine rt_c M T rfl (T.ev 0 rfl) (nthE_mem (i := 0) rfl) rfl ?_
    unfold St.filed
    first | rw [if_pos h1] | rw [if_neg h1]
    exact ⟨rfl, M.below⟩

structure FileOf (s : St) (j : Jb) : Prop where
  u0 : s.u0 = j.u0
  u1 : s.u1 = j.u1
  d0 : s.d0 = j.d0
  d1 : s.d1 = j.d1
  a0 : s.a0 = j.a0
  a1 : s.a1 = j.a1
  b0 : s.b0 = j.b0
  b1 : s.b1 = j.b1
  le : s.le = j.le
theorem FileOf.of (j : Jb) : FileOf j.st j := ⟨rfl, rfl, rfl, rfl, rfl, rfl, rfl, rfl, rfl⟩
theorem FileOf.filed {s : St} {j : Jb} (h : FileOf s j) (k : Int) : FileOf (s.filed k) j := by
  obtain ⟨h1, h2, h3, h4, h5, h6, h7, h8, h9⟩ := h
  unfold St.filed
  split <;> exact ⟨h1, h2, h3, h4, h5, h6, h7, h8, h9⟩
theorem FileOf.after {j : Jb} : ∀ (l : List Int) {s : St}, FileOf s j → FileOf (s.after l) j
  | [], _, h => h
  | k :: l, _, h => FileOf.after l (h.filed k)
theorem file_eq {s : St} {j : Jb} (h : FileOf s j) : (.agg #[.int .i64 j.u0, .int .i64 j.u1, .int .i64 j.d0, .int .i64 j.d1, .int .i64 j.a0, .int .i64 j.a1, .int .i64 j.b0, .int .i64 j.b1, .int .i64 j.le] : Value) = .agg #[.int .i64 s.u0, .int .i64 s.u1, .int .i64 s.d0, .int .i64 s.d1, .int .i64 s.a0, .int .i64 s.a1, .int .i64 s.b0, .int .i64 s.b1, .int .i64 s.le] := by
  rw [h.u0, h.u1, h.d0, h.d1, h.a0, h.a1, h.b0, h.b1, h.le]


theorem stroke_of {s : St} {j : Jb} (h : FileOf s j) (k : Int) (w : World) (hs : s.upTo 1000000) :
    Calls Try.prog 110 #[.agg #[.int .i64 j.u0, .int .i64 j.u1, .int .i64 j.d0, .int .i64 j.d1, .int .i64 j.a0, .int .i64 j.a1, .int .i64 j.b0, .int .i64 j.b1, .int .i64 j.le], .agg #[.int .i64 s.p0, .int .i64 s.p1, .int .i64 s.t0, .int .i64 s.t1, .int .i64 s.r0, .int .i64 s.r1], .int .i64 k] w fun e w' => e = .returned (.agg #[.int .i64 ((s.filed k).p0), .int .i64 ((s.filed k).p1), .int .i64 ((s.filed k).t0), .int .i64 ((s.filed k).t1), .int .i64 ((s.filed k).r0), .int .i64 ((s.filed k).r1)]) ∧ Below w.heap.size w w' := by
  have := stroke_any s k w hs
  rw [← file_eq h] at this
  exact this

set_option maxRecDepth 100000 in
set_option maxHeartbeats 1000000 in
theorem rafter_any (j : Jb) (A : Option Addr) (c : Nat) (D : Option Addr) (d n : Nat) (l : List Int) (w : World) (hl : Rd w w.heap.size 1 D n (ic l)) (hn : n ≤ 20) (hs : j.st.upTo 1000) :
    Calls Try.prog 98 #[jobV j A c, .slice D n d] w fun e w' => e = .returned (.agg #[.int .i64 ((j.st.after l).p0), .int .i64 ((j.st.after l).p1), .int .i64 ((j.st.after l).t0), .int .i64 ((j.st.after l).t1), .int .i64 ((j.st.after l).r0), .int .i64 ((j.st.after l).r1)]) ∧ Below w.heap.size w w' := by
  have hll := hl.len1
  obtain ⟨bI, oI, SI⟩ := Sp.old hl
  refine px_enter noEx Try.func98 rfl 24 rfl [.agg #[.int .i64 j.p0, .int .i64 j.p1, .int .i64 j.t0, .int .i64 j.t1, .int .i64 j.r0, .int .i64 j.r1, .int .i64 j.u0, .int .i64 j.u1, .int .i64 j.d0, .int .i64 j.d1, .int .i64 j.a0, .int .i64 j.a1, .int .i64 j.b0, .int .i64 j.b1, .int .i64 j.le, .slice A j.sh.length c, .int .i64 j.wi, .int .i64 j.me], .slice D n d] rfl rfl (Mem.init w _) ?_
  intro ac wc T M
  refine wp_seq ?_
  refine wp_region_lit ?_
  refine l_w rfl ?_; intro K hK
  refine ow_bx M T rfl rfl rfl rfl (T.ev 0 rfl) rfl ?_; clear M T; intro g1 wc ac M T
  refine sh_out hK _ _ ?_; clear hK K
  refine l_w rfl ?_; intro K hK
  refine ow_al M T rfl rfl rfl rfl ?_; clear M T; intro g2 wc ac M T
  refine sh_out hK _ _ ?_; clear hK K
  refine wpList_nil ?_
  replace T := T.pick [0, 1, 3] rfl
  refine nm_then ?_
  refine wp_seq ?_
  refine wp_region_lit ?_
  refine l_q (v := (.pointer (some ⟨g1, 0, none⟩))) T rfl rfl rfl rfl (rn_fieldAddr (off := 0) rfl (T.ev 1 rfl) (fun _ _ _ => by kernel_rfl)) ?_; clear T ac; intro ac T
  refine l_q T rfl rfl rfl rfl (rn_rowO (Mem.nth M 1 rfl) rfl (T.ev 0 rfl) rfl) ?_; clear T ac; intro ac T
  refine l_w rfl ?_; intro K hK
  refine ow_al M T rfl rfl rfl rfl ?_; clear M T; intro g3 wc ac M T
  refine sh_out hK _ _ ?_; clear hK K
  refine l_w rfl ?_; intro K hK
  refine ow_stO M T rfl rfl (T.ev 0 rfl) (T.ev 1 rfl) rfl .head rfl (by simp) rfl (by kernel_rfl) ?_; clear M T; intro wc ac M T
  refine sh_out hK _ _ ?_; clear hK K
  refine wpList_nil ?_
  replace T := T.pick [0, 3, 4, 5] rfl
  refine nm_then ?_
  refine wp_seq ?_
  refine wp_seq ?_
  refine wp_region_lit ?_
  refine l_q T rfl rfl rfl rfl (rn_assign rfl evc) ?_; clear T ac; intro ac T
  refine wpList_nil ?_
  refine nm_then ?_
  refine wp_block ?_
  refine wp_loop_n (fun mz ac wc => ∃ (k : Nat) (s : St), mz = n - k ∧ (k ≤ n) ∧ (FileOf s j) ∧ (s.upTo (1000 + 100 * (k : Int))) ∧ (j.st.after l = s.after (l.drop k)) ∧ Tm ac 24 [(1, .slice D n d), (2, .pointer (some ⟨g1, 0, none⟩)), (4, .pointer (some ⟨g2, 0, none⟩)), (5, .pointer (some ⟨g3, 0, none⟩)), (6, .int .i64 (k : Int))] ∧ Mem w noEx wc [(g3, .cells [.int .i64 s.p0, .int .i64 s.p1, .int .i64 s.t0, .int .i64 s.t1, .int .i64 s.r0, .int .i64 s.r1]), (g2, .cells [.int .i64 0, .int .i64 0, .int .i64 0, .int .i64 0, .int .i64 0, .int .i64 0]), (g1, .cells (jobL j A c))]) ?_ ?_
  · exact ⟨_, 0, j.st, rfl, (by omega), FileOf.of j, (by simpa using hs), rfl, T.pick [4, 3, 2, 1, 0] rfl, M.mask [true, true, true] rfl⟩
  · clear T M
    rintro mz ac wc ⟨k, s, hmm1, hk, hf, hu, H, T, M⟩
    refine wp_seq ?_
    refine wp_seq ?_
    refine wp_region_lit ?_
    refine l_q T rfl rfl rfl rfl (rn_move rfl (T.ev 4 rfl)) ?_; clear T ac; intro ac T
    refine l_q T rfl rfl rfl rfl (rn_move rfl (T.ev 1 rfl)) ?_; clear T ac; intro ac T
    refine l_q T rfl rfl rfl rfl (rn_lenS rfl Try.underlying31 (T.ev 0 rfl)) ?_; clear T ac; intro ac T
    refine l_q T rfl rfl rfl rfl (rn_lss rfl (T.ev 2 rfl) (T.ev 0 rfl)) ?_; clear T ac; intro ac T
    refine wpList_nil ?_
    replace T := T.pick [0, 4, 5, 6, 7, 8] rfl
    refine nm_then ?_
    refine wp_if (T.ev 0 rfl) ?_ ?_
    · intro h1
      obtain ⟨x0, hk1, hd⟩ := ic_next (l := l) (k := k) (by omega)
      rw [hd] at H
      refine wp_skip ?_
      refine nm_then ?_
      refine wp_seq ?_
      refine wp_block ?_
      refine g_start2 M (M.perm [1, 2] rfl rfl) 9 (by kernel_rfl) rfl (by kernel_rfl) ?_
      clear M; intro wc M
      refine g_addG 8 M ?_
      refine g_q (v := (.pointer (some ⟨g1, 6, none⟩))) (T := T) (i := 0) rfl (by kernel_rfl) (by kernel_rfl : (pbits 9 0).setIfInBounds 0 true = pbits 9 1) (si_and (si_G rfl) si_U) (fun _ _ _ h => h) rfl rfl rfl rfl (fun _ _ _ _ _ => (rn_fieldAddr (off := 6) rfl (T.ev 2 rfl) (fun _ _ _ => by kernel_rfl))) ?_; clear T ac; intro ac T
      refine g_q (T := T) (i := 1) rfl (by kernel_rfl) (by kernel_rfl : (pbits 9 1).setIfInBounds 1 true = pbits 9 3) (si_and (si_G rfl) si_U) (fun _ _ _ h => h) rfl rfl rfl rfl (fun B w' hD hl hS => (rn_rowO (Mem.nth (show Mem w noEx w' _ from ((MA.lft hS) (hD.wait (i := 1) (m := 8) (by kernel_rfl) hl))) 2 rfl) rfl (T.ev 0 rfl) rfl)) ?_; clear T ac; intro ac T
      refine g_q (T := T) (i := 2) rfl (by kernel_rfl) (by kernel_rfl : (pbits 9 3).setIfInBounds 2 true = pbits 9 7) (si_and (si_G rfl) si_U) (fun _ _ _ h => h) rfl rfl rfl rfl (fun B w' hD hl hS => (rn_rowO (Mem.nth (show Mem w noEx w' _ from ((MA.lft hS) (hD.wait (i := 2) (m := 8) (by kernel_rfl) hl))) 0 rfl) rfl (T.ev 6 rfl) rfl)) ?_; clear T ac; intro ac T
      refine g_q (T := T) (i := 3) rfl (by kernel_rfl) (by kernel_rfl : (pbits 9 7).setIfInBounds 3 true = pbits 9 15) (si_and (si_G rfl) si_U) (fun _ _ _ h => h) rfl rfl rfl rfl (fun _ _ _ _ _ => (rn_move rfl (T.ev 4 rfl))) ?_; clear T ac; intro ac T
      refine g_q (T := T) (i := 4) rfl (by kernel_rfl) (by kernel_rfl : (pbits 9 15).setIfInBounds 4 true = pbits 9 31) (si_and (si_G rfl) si_U) (fun _ _ _ h => h) rfl rfl rfl rfl (fun _ _ _ _ _ => (rn_move rfl (T.ev 9 rfl))) ?_; clear T ac; intro ac T
      refine g_q (T := T) (i := 5) rfl (by kernel_rfl) (by kernel_rfl : (pbits 9 31).setIfInBounds 5 true = pbits 9 63) (si_and (si_G rfl) si_U) (fun _ _ _ h => h) rfl rfl rfl rfl (fun _ _ _ _ _ => (rn_indexAddr (size := 1) k rfl (T.ev 1 rfl) (T.ev 0 rfl) ⟨_, Try.underlying31, by kernel_rfl⟩ rfl (by omega) (SI.at0 (by omega)))) ?_; clear T ac; intro ac T
      refine g_q (T := T) (i := 6) rfl (by kernel_rfl) (by kernel_rfl : (pbits 9 63).setIfInBounds 6 true = pbits 9 127) (si_and (si_G rfl) si_U) (fun _ _ _ h => h) rfl rfl rfl rfl (fun B w' hD hl hS => (rn_cell (Sp.ic0 SI (show Mem w noEx w' _ from ((MA.lft hS) (hD.wait (i := 6) (m := 8) (by kernel_rfl) hl))) (List.nil_sublist _) hk1) rfl (T.ev 0 rfl))) ?_; clear T ac; intro ac T
      refine g_w (i := 7) (by kernel_rfl) rfl (by kernel_rfl : (pbits 9 127).setIfInBounds 7 true = pbits 9 255) rfl ?_; intro K hK
      refine ow_call (first := []) (cap := []) T rfl rfl rfl rfl evf (.cons (T.ev 5 rfl) (.cons (T.ev 4 rfl) (.cons (T.ev 0 rfl) .nil))) Try.func110 rfl rfl ?_
      refine Calls.mono (stroke_of (s := s) (j := j) hf x0 _ (by obtain ⟨q1, q2, q3, q4, q5, q6, q7, q8, q9, q10, q11, q12, q13, q14⟩ := hu; constructor <;> omega)) ?_
      clear T
      rintro e wc ⟨rfl, hb⟩
      intro ac T
      replace M := M.call hb; clear hb
      refine sh_out hK _ _ (MA.mk (fun _ => M.mask [true, true, true] rfl) (M.mask [false, true, true] rfl)) ?_; clear hK K
      refine g_w (i := 8) (by kernel_rfl) rfl (by kernel_rfl : (pbits 9 255).setIfInBounds 8 true = pbits 9 511) rfl ?_; intro K hK
      refine ow_stO M T rfl rfl (T.ev 12 rfl) (T.ev 0 rfl) rfl .head rfl (by simp) rfl (by kernel_rfl) ?_; clear M T; intro wc ac M T
      refine sh_out hK _ _ (MA.mk (fun h => (no_of (by kernel_rfl) h).elim) (M.mask [false, true, true] rfl)) ?_; clear hK K
      refine g_done (by kernel_rfl) ?_
      replace T := T.pick [9, 10, 11, 12, 13] rfl
      refine nm_blk ?_
      refine nm_then ?_
      refine wp_region_lit ?_
      refine l_q T rfl rfl rfl rfl (rn_move rfl (T.ev 4 rfl)) ?_; clear T ac; intro ac T
      refine l_q T rfl rfl rfl rfl (rn_add rfl (T.ev 0 rfl) evc (by omega)) ?_; clear T ac; intro ac T
      refine l_q (v := (.int .i64 ((k : Int) + 1))) (T.pick [0, 1, 2, 3, 4, 5] rfl) rfl rfl rfl rfl (rn_assign rfl (T.ev 0 rfl)) ?_; clear T ac; intro ac T
      refine wpList_nil ?_
      replace T := T.pick [0, 3, 4, 5, 6] rfl
      refine nm_then ?_
      exact ⟨_, by omega, k + 1, (s.filed x0), rfl, (by omega), hf.filed x0, (by have := hu.filed x0; rw [show (1000 + 100 * ((k + 1 : Nat) : Int)) = 1000 + 100 * (k : Int) + 100 by omega]; exact this), H, T.pick [1, 2, 3, 4, 0] rfl, M.mask [true, true, true] rfl⟩
    · intro h1
      rw [List.drop_of_length_le (by omega)] at H
      refine wp_exit ?_
      refine ex_then ?_
      refine ex_then ?_
      refine ex_hit ?_
      refine nm_then ?_
      refine wp_seq ?_
      refine wp_region_lit ?_
      refine l_q T rfl rfl rfl rfl (rn_rowO (Mem.nth M 0 rfl) rfl (T.ev 4 rfl) rfl) ?_; clear T ac; intro ac T
      refine l_w rfl ?_; intro K hK
      refine ow_stO M T rfl rfl (T.ev 4 rfl) (T.ev 0 rfl) rfl (.tail .head) rfl (by simp) rfl (by kernel_rfl) ?_; clear M T; intro wc ac M T
      refine sh_out hK _ _ ?_; clear hK K
      refine wpList_nil ?_
      replace T := T.pick [4] rfl
      replace M := M.mask [false, true, false] rfl
      refine nm_then ?_
      refine wp_ret ?_
      refine rt_c M T rfl (T.ev 0 rfl) (nthE_mem (i := 0) rfl) rfl ?_
      rw [H]
      exact ⟨rfl, M.below⟩

theorem chkS_next {x : Int} {r : List Int} : chkS (x :: r) = if okS x = true then chkS r else 8 := by
  rfl
theorem okS_yes {x : Int} (h : (!withinB x 1 2) = false) : okS x = true := by simp [withinB, okS] at *; omega
theorem okS_no {x : Int} (h : (!withinB x 1 2) = true) : ¬ okS x = true := by simp [withinB, okS] at *; omega

set_option maxRecDepth 100000 in
set_option maxHeartbeats 1000000 in
theorem rcheckStrokes_any (j : Jb) (A : Option Addr) (c : Nat) (D : Option Addr) (d n : Nat) (l : List Int) (w : World) (hr : Rd w w.heap.size 2 A j.sh.length (rc j.sh)) (hn : j.sh.length ≤ 9223372036854775807) (hl : Rd w w.heap.size 1 D n (ic l)) (hm : n ≤ 9223372036854775807) :
    Calls Try.prog 97 #[jobV j A c, .slice D n d] w fun e w' => e = .returned (.int .i64 (checkStrokesJ j l)) ∧ Below w.heap.size w w' := by
  obtain ⟨bJ, oJ, SJ⟩ := Sp.old hr
  have hll := hl.len1
  obtain ⟨bI, oI, SI⟩ := Sp.old hl
  refine px_enter noEx Try.func97 rfl 27 rfl [.agg #[.int .i64 j.p0, .int .i64 j.p1, .int .i64 j.t0, .int .i64 j.t1, .int .i64 j.r0, .int .i64 j.r1, .int .i64 j.u0, .int .i64 j.u1, .int .i64 j.d0, .int .i64 j.d1, .int .i64 j.a0, .int .i64 j.a1, .int .i64 j.b0, .int .i64 j.b1, .int .i64 j.le, .slice A j.sh.length c, .int .i64 j.wi, .int .i64 j.me], .slice D n d] rfl rfl (Mem.init w _) ?_
  intro ac wc T M
  refine wp_seq ?_
  refine wp_region_lit ?_
  refine l_w rfl ?_; intro K hK
  refine ow_bx M T rfl rfl rfl rfl (T.ev 0 rfl) rfl ?_; clear M T; intro g1 wc ac M T
  refine sh_out hK _ _ ?_; clear hK K
  refine l_q T rfl rfl rfl rfl (rn_assign rfl evc) ?_; clear T ac; intro ac T
  refine wpList_nil ?_
  replace T := T.pick [1, 3] rfl
  refine nm_then ?_
  refine wp_seq ?_
  refine wp_seq ?_
  refine wp_region_lit ?_
  refine l_q T rfl rfl rfl rfl (rn_rowO (Mem.nth M 0 rfl) rfl (T.ev 0 rfl) rfl) ?_; clear T ac; intro ac T
  refine l_w rfl ?_; intro K hK
  refine ow_call (first := []) (cap := []) T rfl rfl rfl rfl evf (.cons (T.ev 0 rfl) .nil) Try.func50 rfl rfl ?_
  refine Calls.mono (rCheck_any j _ _ _ (SJ.rd M (List.nil_sublist _)) (by omega)) ?_
  clear T
  rintro e wc ⟨rfl, hb⟩
  intro ac T
  replace M := M.call hb; clear hb
  refine sh_out hK _ _ ?_; clear hK K
  refine l_q T rfl rfl rfl rfl (rn_assign rfl (T.ev 0 rfl)) ?_; clear T ac; intro ac T
  refine wpList_nil ?_
  replace T := T.pick [0, 4] rfl
  replace M := M.mask [false] rfl
  refine nm_then ?_
  refine wp_seq ?_
  refine wp_region_lit ?_
  refine l_q T rfl rfl rfl rfl (rn_move rfl (T.ev 0 rfl)) ?_; clear T ac; intro ac T
  refine l_q T rfl rfl rfl rfl (rn_neq rfl (T.ev 0 rfl) evc) ?_; clear T ac; intro ac T
  refine wpList_nil ?_
  replace T := T.pick [0, 2, 3] rfl
  refine nm_then ?_
  refine wp_ifn (T.ev 0 rfl) ?_ ?_
  · intro h1
    refine wp_seq ?_
    refine wp_region_lit ?_
    refine l_q T rfl rfl rfl rfl (rn_move rfl (T.ev 1 rfl)) ?_; clear T ac; intro ac T
    refine l_q T rfl rfl rfl rfl (rn_assign rfl (T.ev 0 rfl)) ?_; clear T ac; intro ac T
    refine wpList_nil ?_
    replace T := T.pick [0] rfl
    refine nm_then ?_
    refine wp_ret ?_
    refine rt_then ?_
    refine rt_1 T rfl (T.ev 0 rfl) ?_
    refine ⟨ret_int ?_, M.below⟩
    unfold checkStrokesJ
    rw [if_pos (by simpa using h1)]
  · intro h1
    refine wp_skip ?_
    refine nm_then ?_
    refine wp_seq ?_
    refine wp_seq ?_
    refine wp_region_lit ?_
    refine l_q T rfl rfl rfl rfl (rn_move rfl (T.ev 2 rfl)) ?_; clear T ac; intro ac T
    refine l_q T rfl rfl rfl rfl (rn_lenS rfl Try.underlying31 (T.ev 0 rfl)) ?_; clear T ac; intro ac T
    refine l_q T rfl rfl rfl rfl (rn_gtr rfl (T.ev 0 rfl) evc) ?_; clear T ac; intro ac T
    refine wpList_nil ?_
    replace T := T.pick [0, 5] rfl
    refine nm_then ?_
    refine wp_if (T.ev 0 rfl) ?_ ?_
    · intro h2
      refine wp_seq ?_
      refine wp_region_lit ?_
      refine l_q T rfl rfl rfl rfl (rn_assign rfl evc) ?_; clear T ac; intro ac T
      refine wpList_nil ?_
      replace T := T.pick [0] rfl
      refine nm_then ?_
      refine wp_ret ?_
      refine rt_then ?_
      refine rt_1 T rfl (T.ev 0 rfl) ?_
      refine ⟨ret_int ?_, M.below⟩
      unfold checkStrokesJ
      rw [if_neg (by simpa using h1), if_pos (by omega)]
    · intro h2
      refine wp_skip ?_
      refine nm_then ?_
      refine wp_seq ?_
      refine wp_seq ?_
      refine wp_region_lit ?_
      refine l_q T rfl rfl rfl rfl (rn_assign rfl evc) ?_; clear T ac; intro ac T
      refine wpList_nil ?_
      replace T := T.pick [0, 2] rfl
      refine nm_then ?_
      refine wp_block ?_
      refine wp_loop_n (fun mz ac wc => ∃ (k : Nat), mz = n - k ∧ (k ≤ n) ∧ (chkS l = chkS (l.drop k)) ∧ Tm ac 27 [(1, .slice D n d), (6, .int .i64 (k : Int))] ∧ Mem w noEx wc []) ?_ ?_
      · exact ⟨_, 0, rfl, (by omega), rfl, T.pick [1, 0] rfl, M.mask [] rfl⟩
      · clear T M
        rintro mz ac wc ⟨k, hmm1, hk, H, T, M⟩
        refine wp_seq ?_
        refine wp_seq ?_
        refine wp_region_lit ?_
        refine l_q T rfl rfl rfl rfl (rn_move rfl (T.ev 1 rfl)) ?_; clear T ac; intro ac T
        refine l_q T rfl rfl rfl rfl (rn_move rfl (T.ev 1 rfl)) ?_; clear T ac; intro ac T
        refine l_q T rfl rfl rfl rfl (rn_lenS rfl Try.underlying31 (T.ev 0 rfl)) ?_; clear T ac; intro ac T
        refine l_q T rfl rfl rfl rfl (rn_lss rfl (T.ev 2 rfl) (T.ev 0 rfl)) ?_; clear T ac; intro ac T
        refine wpList_nil ?_
        replace T := T.pick [0, 4, 5] rfl
        refine nm_then ?_
        refine wp_if (T.ev 0 rfl) ?_ ?_
        · intro h3
          obtain ⟨x0, hk1, hd⟩ := ic_next (l := l) (k := k) (by omega)
          rw [hd, chkS_next] at H
          refine wp_skip ?_
          refine nm_then ?_
          refine wp_seq ?_
          refine wp_block ?_
          refine wp_seq ?_
          refine wp_region_lit ?_
          refine l_q T rfl rfl rfl rfl (rn_move rfl (T.ev 1 rfl)) ?_; clear T ac; intro ac T
          refine l_q T rfl rfl rfl rfl (rn_move rfl (T.ev 3 rfl)) ?_; clear T ac; intro ac T
          refine l_q T rfl rfl rfl rfl (rn_indexAddr (size := 1) k rfl (T.ev 1 rfl) (T.ev 0 rfl) ⟨_, Try.underlying31, by kernel_rfl⟩ rfl (by omega) (SI.at0 (by omega))) ?_; clear T ac; intro ac T
          refine l_q T rfl rfl rfl rfl (rn_cell (Sp.ic0 SI M (List.nil_sublist _) hk1) rfl (T.ev 0 rfl)) ?_; clear T ac; intro ac T
          refine l_w rfl ?_; intro K hK
          refine ow_call (first := []) (cap := []) T rfl rfl rfl rfl evf (.cons (T.ev 0 rfl) (.cons evc (.cons evc .nil))) Try.func90 rfl rfl ?_
          refine Calls.mono (among_any x0 1 2 _) ?_
          clear T
          rintro e wc ⟨rfl, hb⟩
          intro ac T
          replace M := M.call hb; clear hb
          refine sh_out hK _ _ ?_; clear hK K
          refine l_q T rfl rfl rfl rfl (rn_not rfl (T.ev 0 rfl)) ?_; clear T ac; intro ac T
          refine wpList_nil ?_
          replace T := T.pick [0, 7, 8] rfl
          refine nm_then ?_
          refine wp_cond_split (T.ev 0 rfl) ?_ ?_
          · intro h4
            (try have h4' := h4; try simp only [Bool.and_eq_true, Bool.or_eq_true, Bool.not_eq_true', Bool.and_eq_false_imp, Bool.or_eq_false_iff, decide_eq_true_eq, decide_eq_false_iff_not] at h4')
            refine wp_seq ?_
            refine wp_region_lit ?_
            refine l_q T rfl rfl rfl rfl (rn_assign rfl evc) ?_; clear T ac; intro ac T
            refine wpList_nil ?_
            replace T := T.pick [0] rfl
            refine nm_then ?_
            refine wp_ret ?_
            refine rt_blk ?_
            refine rt_then ?_
            refine rt_then ?_
            refine rt_blk ?_
            refine rt_then ?_
            refine rt_1 T rfl (T.ev 0 rfl) ?_
            rw [if_neg (okS_no h4)] at H
            refine ⟨ret_int ?_, M.below⟩
            unfold checkStrokesJ
            rw [if_neg (by simpa using h1), if_neg (by omega), H]
          · intro h4
            (try have h4' := h4; try simp only [Bool.and_eq_true, Bool.or_eq_true, Bool.not_eq_true', Bool.and_eq_false_imp, Bool.or_eq_false_iff, decide_eq_true_eq, decide_eq_false_iff_not] at h4')
            refine wp_skip ?_
            refine nm_blk ?_
            refine nm_then ?_
            refine wp_region_lit ?_
            refine l_q T rfl rfl rfl rfl (rn_move rfl (T.ev 2 rfl)) ?_; clear T ac; intro ac T
            refine l_q T rfl rfl rfl rfl (rn_add rfl (T.ev 0 rfl) evc (by omega)) ?_; clear T ac; intro ac T
            refine l_q (v := (.int .i64 ((k : Int) + 1))) (T.pick [0, 1, 2, 3] rfl) rfl rfl rfl rfl (rn_assign rfl (T.ev 0 rfl)) ?_; clear T ac; intro ac T
            refine wpList_nil ?_
            replace T := T.pick [0, 4] rfl
            refine nm_then ?_
            rw [if_pos (okS_yes h4)] at H
            exact ⟨_, by omega, k + 1, rfl, (by omega), H, T.pick [1, 0] rfl, M.mask [] rfl⟩
        · intro h3
          rw [List.drop_of_length_le (by omega), chkS] at H
          refine wp_exit ?_
          refine ex_then ?_
          refine ex_then ?_
          refine ex_hit ?_
          refine nm_then ?_
          refine wp_seq ?_
          refine wp_region_lit ?_
          refine l_q T rfl rfl rfl rfl (rn_assign rfl evc) ?_; clear T ac; intro ac T
          refine wpList_nil ?_
          replace T := T.pick [0] rfl
          refine nm_then ?_
          refine wp_ret ?_
          refine rt_1 T rfl (T.ev 0 rfl) ?_
          refine ⟨ret_int ?_, M.below⟩
          unfold checkStrokesJ
          rw [if_neg (by simpa using h1), if_neg (by omega), H]

end Go.Proofs.Ythlpceoajhcliaa
end

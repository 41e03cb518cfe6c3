/-
  The law ReedStrokes, walked.
-/
import Derived.Test.YthlpceoajhcliaaK6
namespace Go.Proofs.Ythlpceoajhcliaa
set_option linter.unusedSimpArgs false
set_option linter.unusedVariables false
open Go.RowKit

theorem Try.append1i (B : Option Addr) (d g : Nat) (ty : TypeId) (w : World) : (Builtin.append_ #[31, 31] ty #[.slice (some ⟨g, 0, none⟩) 1 1, .slice B 0 d]).run Try.prog w = .ok (.slice (some ⟨g, 0, none⟩) 1 1) w := by
  cases B <;> kernel_rfl
theorem ic_one (l : List Int) : ∀ u ∈ ic l, u.oneCell' = true := by
  intro u hu
  obtain ⟨p, _, rfl⟩ := List.mem_map.1 hu
  rfl


set_option maxRecDepth 100000 in
set_option maxHeartbeats 1000000 in
theorem ReedStrokes_any (j : Jb) (A : Option Addr) (c : Nat) (B : Option Addr) (b : Nat) (r : List Int) (x y : Int) (D : Option Addr) (d n : Nat) (l : List Int) (w : World) (hr : Rd w w.heap.size 2 A j.sh.length (rc j.sh)) (hn : j.sh.length ≤ 9223372036854775807) (hs : Rd w w.heap.size 1 B r.length (ic r)) (hrn : r.length ≤ 9223372036854775807) (hl : Rd w w.heap.size 1 D n (ic l)) (hm : n ≤ 9223372036854775807) :
    Calls Try.prog 12 #[jobV j A c, .slice B r.length b, .int .i64 x, .int .i64 y, .slice D n d] w fun e w' => e = .returned (.bool true) ∧ Below w.heap.size w w' := by
  obtain ⟨bJ, oJ, SJ⟩ := Sp.old hr
  have hll := hl.len1
  obtain ⟨bI, oI, SI⟩ := Sp.old hl
  obtain ⟨bR, oR, SR⟩ := Sp.old hs
  refine px_enter noEx Try.func12 rfl 231 rfl [.agg #[.int .i64 j.p0, .int .i64 j.p1, .int .i64 j.t0, .int .i64 j.t1, .int .i64 j.r0, .int .i64 j.r1, .int .i64 j.u0, .int .i64 j.u1, .int .i64 j.d0, .int .i64 j.d1, .int .i64 j.a0, .int .i64 j.a1, .int .i64 j.b0, .int .i64 j.b1, .int .i64 j.le, .slice A j.sh.length c, .int .i64 j.wi, .int .i64 j.me], .slice B r.length b, .int .i64 x, .int .i64 y, .slice D n d] rfl rfl (Mem.init w _) ?_
  intro ac wc T M
  refine wp_seq ?_
  refine wp_region_lit ?_
  refine l_w rfl ?_; intro K hK
  refine ow_bx M T rfl rfl rfl rfl (T.ev 0 rfl) rfl ?_; clear M T; intro g1 wc ac M T
  refine sh_out hK _ _ ?_; clear hK K
  refine l_q T rfl rfl rfl rfl (rn_assign rfl evc) ?_; clear T ac; intro ac T
  refine wpList_nil ?_
  replace T := T.pick [1, 3, 4, 5, 6] rfl
  refine nm_then ?_
  refine wp_seq ?_
  refine cut_seq (fun ac wc => Tm ac 231 [(1, .slice B r.length b), (2, .int .i64 x), (3, .int .i64 y), (4, .slice D n d), (5, .pointer (some ⟨g1, 0, none⟩)), (44, .bool ((decide (20 < ((j.sh.length : Nat) : Int))) || (decide (20 < ((r.length : Nat) : Int)))))] ∧ Mem w noEx wc [(g1, .cells (jobL j A c))]) ?_ ?_
  · refine wp_region_lit ?_
    refine l_q (v := (.pointer (some ⟨g1, 15, none⟩))) T rfl rfl rfl rfl (rn_fieldAddr (off := 15) rfl (T.ev 0 rfl) (fun _ _ _ => by kernel_rfl)) ?_; clear T ac; intro ac T
    refine l_q T rfl rfl rfl rfl (rn_one (Mem.nth M 0 rfl) rfl (T.ev 0 rfl) rfl) ?_; clear T ac; intro ac T
    refine l_q T rfl rfl rfl rfl (rn_lenS rfl Try.underlying28 (T.ev 0 rfl)) ?_; clear T ac; intro ac T
    refine l_q T rfl rfl rfl rfl (rn_gtr rfl (T.ev 0 rfl) evc) ?_; clear T ac; intro ac T
    refine l_q T rfl rfl rfl rfl (rn_move rfl (T.ev 0 rfl)) ?_; clear T ac; intro ac T
    rcases Bool.eq_false_or_eq_true (decide (20 < ((j.sh.length : Nat) : Int))) with h1 | h1
    · replace h1 := of_decide_eq_true h1
      refine l_pass T (wanted_no rfl rfl (T.ev 0 rfl) (decide_eq_true h1)) rfl rfl rfl ?_; clear T ac; intro ac T
      refine l_pass T (wanted_no rfl rfl (T.ev 1 rfl) (decide_eq_true h1)) rfl rfl rfl ?_; clear T ac; intro ac T
      refine l_pass T (wanted_no rfl rfl (T.ev 2 rfl) (decide_eq_true h1)) rfl rfl rfl ?_; clear T ac; intro ac T
      refine l_q T rfl rfl rfl rfl (rn_pick1 rfl (T.ev 3 rfl) (decide_eq_true h1) evc) ?_; clear T ac; intro ac T
      refine wpList_nil ?_
      replace T := T.pick [0, 9, 10, 11, 12, 13] rfl
      exact ⟨(T.pick (E' := [(1, .slice B r.length b), (2, .int .i64 x), (3, .int .i64 y), (4, .slice D n d), (5, .pointer (some ⟨g1, 0, none⟩)), (44, .bool true)]) [2, 3, 4, 5, 1, 0] rfl).as (by (try rw [show (decide (20 < ((j.sh.length : Nat) : Int))) = true from (decide_eq_true h1)]); rfl), M.mask [true] rfl⟩
    · replace h1 := of_decide_eq_false h1
      refine l_q T (wanted_yes rfl rfl (T.ev 0 rfl) (decide_eq_false h1)) rfl rfl rfl (rn_move rfl (T.ev 6 rfl)) ?_; clear T ac; intro ac T
      refine l_q T (wanted_yes rfl rfl (T.ev 1 rfl) (decide_eq_false h1)) rfl rfl rfl (rn_lenS rfl Try.underlying31 (T.ev 0 rfl)) ?_; clear T ac; intro ac T
      refine l_q T (wanted_yes rfl rfl (T.ev 2 rfl) (decide_eq_false h1)) rfl rfl rfl (rn_gtr rfl (T.ev 0 rfl) evc) ?_; clear T ac; intro ac T
      refine l_q T rfl rfl rfl rfl (rn_pick0 rfl (T.ev 3 rfl) (decide_eq_false h1) (T.ev 0 rfl)) ?_; clear T ac; intro ac T
      refine wpList_nil ?_
      replace T := T.pick [0, 9, 10, 11, 12, 13] rfl
      exact ⟨(T.pick (E' := [(1, .slice B r.length b), (2, .int .i64 x), (3, .int .i64 y), (4, .slice D n d), (5, .pointer (some ⟨g1, 0, none⟩)), (44, .bool (decide (20 < ((r.length : Nat) : Int))))]) [2, 3, 4, 5, 1, 0] rfl).as (by (try rw [show (decide (20 < ((j.sh.length : Nat) : Int))) = false from (decide_eq_false h1)]); rfl), M.mask [true] rfl⟩
  · clear T M
    rintro ac wc ⟨T, M⟩
    refine wp_cond_split (T.ev 5 rfl) ?_ ?_
    · intro h2
      (try have h2' := h2; try simp only [Bool.and_eq_true, Bool.or_eq_true, Bool.not_eq_true', Bool.and_eq_false_imp, Bool.or_eq_false_iff, decide_eq_true_eq, decide_eq_false_iff_not] at h2')
      refine wp_seq ?_
      refine wp_region_lit ?_
      refine l_w rfl ?_; intro K hK
      refine ow_call (first := []) (cap := []) T rfl rfl rfl rfl evf .nil Try.func15 rfl rfl ?_
      refine Calls.mono (tuned_any _) ?_
      clear T
      rintro e wc ⟨rfl, hb⟩
      intro ac T
      replace M := M.call hb; clear hb
      refine sh_out hK _ _ ?_; clear hK K
      refine l_q T rfl rfl rfl rfl (rn_assign rfl (T.ev 0 rfl)) ?_; clear T ac; intro ac T
      refine wpList_nil ?_
      replace T := T.pick [0] rfl
      replace M := M.mask [false] rfl
      refine nm_then ?_
      refine wp_ret ?_
      refine rt_then ?_
      refine rt_1 T rfl (T.ev 0 rfl) ?_
      exact ⟨rfl, M.below⟩
    · intro h2
      (try have h2' := h2; try simp only [Bool.and_eq_true, Bool.or_eq_true, Bool.not_eq_true', Bool.and_eq_false_imp, Bool.or_eq_false_iff, decide_eq_true_eq, decide_eq_false_iff_not] at h2')
      refine wp_skip ?_
      refine nm_then ?_
      refine wp_seq ?_
      refine wp_region_lit ?_
      refine l_q T rfl rfl rfl rfl (rn_move rfl (T.ev 3 rfl)) ?_; clear T ac; intro ac T
      refine l_w rfl ?_; intro K hK
      refine ow_call (first := []) (cap := []) T rfl rfl rfl rfl evf (.cons (T.ev 0 rfl) .nil) Try.func16 rfl rfl ?_
      refine Calls.mono (newPot_any _ _ _ l _ (SI.rd M (List.nil_sublist _)) (by omega)) ?_
      clear T
      rintro e wc ⟨bpu2, su2, hsu2, rfl, N⟩
      intro ac T
      replace M := M.join N; clear N
      replace M := M.mask [true, true] rfl
      refine sh_out hK _ _ ?_; clear hK K
      refine l_q T rfl rfl rfl rfl (rn_assign rfl (T.ev 0 rfl)) ?_; clear T ac; intro ac T
      refine wpList_nil ?_
      replace T := T.pick [0, 3, 4, 5, 7] rfl
      refine nm_then ?_
      refine wp_seq ?_
      refine wp_region_lit ?_
      refine l_q T rfl rfl rfl rfl (rn_move rfl (T.ev 0 rfl)) ?_; clear T ac; intro ac T
      refine l_w rfl ?_; intro K hK
      refine ow_call (first := []) (cap := []) T rfl rfl rfl rfl evf (.cons (T.ev 0 rfl) (.cons evc (.cons evc .nil))) Try.func17 rfl rfl ?_
      refine Calls.mono (jobOf_any _ bpu2 9 4 _ (by omega) (by omega) (by omega) (by omega) (M.nth 0 rfl) hsu2) ?_
      clear T
      rintro e wc ⟨ju3, Au3, cu3, su3, Iu3, rfl, hmu3, hsu3, hslu3, N⟩
      intro ac T
      obtain ⟨bu3, ou3, Su3⟩ := hslu3.sp (w := w) (ex := noEx) (rc_length _)
      replace M := (M.joinW .head N).swapI
      replace M := M.mask [true, true] rfl
      clear N hslu3
      have hgu3 := hmu3.good
      have hfewu3 := hgu3.few
      have hpu3 := hgu3.p
      have hmeu3 := hgu3.me
      refine sh_out hK _ _ ?_; clear hK K
      refine l_w rfl ?_; intro K hK
      refine ow_al M T rfl rfl rfl rfl ?_; clear M T; intro g2 wc ac M T
      refine sh_out hK _ _ ?_; clear hK K
      refine l_w rfl ?_; intro K hK
      refine ow_stO M T rfl rfl (T.ev 0 rfl) (T.ev 1 rfl) rfl .head rfl (by simp) rfl (by kernel_rfl) ?_; clear M T; intro wc ac M T
      refine sh_out hK _ _ ?_; clear hK K
      refine wpList_nil ?_
      replace T := T.pick [0, 3, 4, 5, 6, 7] rfl
      refine nm_then ?_
      refine wp_seq ?_
      refine wp_region_lit ?_
      refine l_q T rfl rfl rfl rfl (rn_move rfl (T.ev 1 rfl)) ?_; clear T ac; intro ac T
      refine l_w rfl ?_; intro K hK
      refine ow_call (first := []) (cap := []) T rfl rfl rfl rfl evf (.cons (T.ev 0 rfl) (.cons evc .nil)) Try.func32 rfl rfl ?_
      refine Calls.mono (strokesOf_any _ bpu2 6 _ (by omega) (by omega) (M.nth 1 rfl) hsu3) ?_
      clear T
      rintro e wc ⟨lu4, Au4, cu4, su4, Iu4, rfl, ⟨hfewu4, hqu4⟩, hsu4, hslu4, N⟩
      intro ac T
      obtain ⟨bu4, ou4, Su4⟩ := hslu4.sp (w := w) (ex := noEx) (by simp [ic_length])
      replace M := (M.joinW (.tail .head) N).swapI
      replace M := M.mask [true, true, true] rfl
      clear N hslu4
      refine sh_out hK _ _ ?_; clear hK K
      refine l_q T rfl rfl rfl rfl (rn_assign rfl (T.ev 0 rfl)) ?_; clear T ac; intro ac T
      refine wpList_nil ?_
      replace T := T.pick [0, 3, 5, 6, 7, 8] rfl
      replace M := M.mask [true, false, true] rfl
      refine nm_then ?_
      refine wp_seq ?_
      refine wp_region_lit ?_
      refine l_q T rfl rfl rfl rfl (rn_move rfl (T.ev 4 rfl)) ?_; clear T ac; intro ac T
      refine l_w rfl ?_; intro K hK
      refine ow_bsR (e := 3) (size := 1) [.int .i64 y] M T rfl rfl rfl rfl (.cons (T.ev 0 rfl) .nil) (fun _ => by kernel_rfl) rfl rfl rfl ?_; clear M T; intro g3 wc ac M T
      refine sh_out hK _ _ ?_; clear hK K
      refine l_q T rfl rfl rfl rfl (rn_move rfl (T.ev 2 rfl)) ?_; clear T ac; intro ac T
      refine l_w rfl ?_; intro K hK
      refine ow_appL Try.info3 M T rfl rfl rfl rfl (fun g w => Try.append1i _ _ g _ w) Try.underlying31 rfl rfl rfl (by omega) (T.ev 1 rfl) (T.ev 0 rfl) (Su4.rd M (.cons _ (.cons _ (.cons _ (List.sublist_append_right _ _))))) (ic_one _) ?_; clear M T; intro go1 cgo1 ysgo1 wc ac M T
      obtain ⟨lo1, hlo1⟩ : ∃ q : List Int, q = y :: lu4 := ⟨_, rfl⟩
      have lhlo1 : lo1.length = lu4.length + 1 := by rw [hlo1]; rfl
      replace M : Mem w noEx wc ((go1, .cells (ic lo1 ++ ysgo1)) :: (g2, .cells (jobL ju3 Au3 cu3)) :: (g1, .cells (jobL j A c)) :: (Iu3 ++ Iu4)) := by rw [hlo1]; exact M
      rw [show 1 + lu4.length = lo1.length by omega] at T
      have Sgo1 := Sp.pre (w := w) (ex := noEx) (size := 1) (n := lo1.length) (g := go1) (xs := ic lo1) (ys := ysgo1) (by simp [ic_length])
      obtain ⟨z0, hz0, -⟩ := ic_next (l := lo1) (k := 0) (by omega)
      refine sh_out hK _ _ ?_; clear hK K
      refine l_q T rfl rfl rfl rfl (rn_assign rfl (T.ev 0 rfl)) ?_; clear T ac; intro ac T
      refine wpList_nil ?_
      replace T := T.pick [0, 5, 6, 7, 8, 10] rfl
      refine nm_then ?_
      refine wp_seq ?_
      refine g_start2 M (M.mask [false, false, false] rfl) 20 (by kernel_rfl) rfl (by kernel_rfl) ?_
      clear M; intro wc M
      refine g_addG 17 M ?_
      refine g_q (T := T) (i := 0) rfl (by kernel_rfl) (by kernel_rfl : (pbits 20 0).setIfInBounds 0 true = pbits 20 1) (si_and (si_G rfl) si_U) (fun _ _ _ h => h) rfl rfl rfl rfl (fun _ _ _ _ _ => (rn_move rfl (T.ev 0 rfl))) ?_; clear T ac; intro ac T
      refine g_q (T := T) (i := 1) rfl (by kernel_rfl) (by kernel_rfl : (pbits 20 1).setIfInBounds 1 true = pbits 20 3) (si_and (si_G rfl) si_U) (fun _ _ _ h => h) rfl rfl rfl rfl (fun _ _ _ _ _ => (rn_move rfl (T.ev 1 rfl))) ?_; clear T ac; intro ac T
      refine g_q (T := T) (i := 2) rfl (by kernel_rfl) (by kernel_rfl : (pbits 20 3).setIfInBounds 2 true = pbits 20 7) (si_and (si_G rfl) si_U) (fun _ _ _ h => h) rfl rfl rfl rfl (fun _ _ _ _ _ => (rn_move rfl (T.ev 6 rfl))) ?_; clear T ac; intro ac T
      refine g_q (T := T) (i := 3) rfl (by kernel_rfl) (by kernel_rfl : (pbits 20 7).setIfInBounds 3 true = pbits 20 15) (si_and (si_G rfl) si_U) (fun _ _ _ h => h) rfl rfl rfl rfl (fun _ _ _ _ _ => (rn_move rfl (T.ev 3 rfl))) ?_; clear T ac; intro ac T
      refine g_q (T := T) (i := 4) rfl (by kernel_rfl) (by kernel_rfl : (pbits 20 15).setIfInBounds 4 true = pbits 20 31) (si_and (si_G rfl) si_U) (fun _ _ _ h => h) rfl rfl rfl rfl (fun _ _ _ _ _ => (rn_lenS rfl Try.underlying31 (T.ev 0 rfl))) ?_; clear T ac; intro ac T
      refine g_q (T := T) (i := 6) rfl (by kernel_rfl) (by kernel_rfl : (pbits 20 31).setIfInBounds 6 true = pbits 20 95) (si_and (si_G rfl) si_U) (fun _ _ _ h => h) rfl rfl rfl rfl (fun _ _ _ _ _ => (rn_move rfl (T.ev 5 rfl))) ?_; clear T ac; intro ac T
      refine g_q (T := T) (i := 7) rfl (by kernel_rfl) (by kernel_rfl : (pbits 20 95).setIfInBounds 7 true = pbits 20 223) (si_and (si_G rfl) si_U) (fun _ _ _ h => h) rfl rfl rfl rfl (fun _ _ _ _ _ => (rn_move rfl (T.ev 10 rfl))) ?_; clear T ac; intro ac T
      refine g_q (T := T) (i := 8) rfl (by kernel_rfl) (by kernel_rfl : (pbits 20 223).setIfInBounds 8 true = pbits 20 479) (si_and (si_G rfl) si_U) (fun _ _ _ h => h) rfl rfl rfl rfl (fun _ _ _ _ _ => (rn_move rfl (T.ev 7 rfl))) ?_; clear T ac; intro ac T
      refine g_q (T := T) (i := 9) rfl (by kernel_rfl) (by kernel_rfl : (pbits 20 479).setIfInBounds 9 true = pbits 20 991) (si_and (si_G rfl) si_U) (fun _ _ _ h => h) rfl rfl rfl rfl (fun _ _ _ _ _ => (rn_lenS rfl Try.underlying31 (T.ev 0 rfl))) ?_; clear T ac; intro ac T
      refine g_q (T := T) (i := 13) rfl (by kernel_rfl) (by kernel_rfl : (pbits 20 991).setIfInBounds 13 true = pbits 20 9183) (si_and (si_G rfl) si_U) (fun _ _ _ h => h) rfl rfl rfl rfl (fun _ _ _ _ _ => (rn_move rfl (T.ev 9 rfl))) ?_; clear T ac; intro ac T
      refine g_q (T := T) (i := 14) rfl (by kernel_rfl) (by kernel_rfl : (pbits 20 9183).setIfInBounds 14 true = pbits 20 25567) (si_and (si_G rfl) si_U) (fun _ _ _ h => h) rfl rfl rfl rfl (fun _ _ _ _ _ => (rn_indexAddr (size := 1) 0 rfl (T.ev 0 rfl) evc ⟨_, Try.underlying31, by kernel_rfl⟩ rfl (by omega) (Sgo1.at0 (by omega)))) ?_; clear T ac; intro ac T
      refine g_q (T := T) (i := 15) rfl (by kernel_rfl) (by kernel_rfl : (pbits 20 25567).setIfInBounds 15 true = pbits 20 58335) (si_and (si_G rfl) si_U) (fun _ _ _ h => h) rfl rfl rfl rfl (fun B w' hD hl hS => (rn_cell (Sp.ic0 Sgo1 (show Mem w noEx w' _ from ((MA.lft hS) (hD.wait (i := 15) (m := 17) (by kernel_rfl) hl))) (List.Sublist.cons_cons _ (List.nil_sublist _)) hz0) rfl (T.ev 0 rfl))) ?_; clear T ac; intro ac T
      refine g_w (i := 5) (by kernel_rfl) rfl (by kernel_rfl : (pbits 20 58335).setIfInBounds 5 true = pbits 20 58367) rfl ?_; intro K hK
      refine ow_call (first := []) (cap := []) T rfl rfl rfl rfl evf (.cons (T.ev 9 rfl) (.cons (T.ev 7 rfl) .nil)) Try.func52 rfl rfl ?_
      refine Calls.mono (turn_any x lo1.length _ (by omega) (by omega)) ?_
      clear T
      rintro e wc ⟨ku5, rfl, hku5, hb⟩
      intro ac T
      replace M := M.call hb; clear hb
      obtain ⟨yu5, hyu5, -⟩ := ic_next (l := lo1) (k := ku5) (by omega)
      refine sh_out hK _ _ (MA.mk (fun _ => M.mask [true, true, true] rfl) (M.mask [false, false, false] rfl)) ?_; clear hK K
      refine g_addG 17 M ?_
      refine g_w (i := 10) (by kernel_rfl) rfl (by kernel_rfl : (pbits 20 58367).setIfInBounds 10 true = pbits 20 59391) rfl ?_; intro K hK
      refine ow_call (first := []) (cap := []) T rfl rfl rfl rfl evf (.cons (T.ev 6 rfl) (.cons (T.ev 4 rfl) .nil)) Try.func52 rfl rfl ?_
      refine Calls.mono (turn_any x lo1.length _ (by omega) (by omega)) ?_
      clear T
      rintro e wc ⟨ku6, rfl, hku6, hb⟩
      intro ac T
      replace M := M.call hb; clear hb
      obtain ⟨yu6, hyu6, -⟩ := ic_next (l := lo1) (k := ku6) (by omega)
      refine sh_out hK _ _ (MA.mk (fun _ => M.mask [true, true, true] rfl) (MA.mk (fun _ => M.mask [true, true, true] rfl) (M.mask [false, false, false] rfl))) ?_; clear hK K
      refine g_addG 17 M ?_
      refine g_q (T := T) (i := 11) rfl (by kernel_rfl) (by kernel_rfl : (pbits 20 59391).setIfInBounds 11 true = pbits 20 61439) (si_and (si_G rfl) (si_and (si_G rfl) (si_and (si_G rfl) si_U))) (fun _ _ _ h => h) rfl rfl rfl rfl (fun _ _ _ _ _ => (rn_indexAddr (size := 1) ku6 rfl (T.ev 8 rfl) (T.ev 0 rfl) ⟨_, Try.underlying31, by kernel_rfl⟩ rfl (by omega) (Sgo1.at0 (by omega)))) ?_; clear T ac; intro ac T
      refine g_q (T := T) (i := 12) rfl (by kernel_rfl) (by kernel_rfl : (pbits 20 61439).setIfInBounds 12 true = pbits 20 65535) (si_and (si_G rfl) (si_and (si_G rfl) (si_and (si_G rfl) si_U))) (fun _ _ _ h => h) rfl rfl rfl rfl (fun B w' hD hl hS => (rn_cell (Sp.ic0 Sgo1 (show Mem w noEx w' _ from ((MA.lft hS) (hD.wait (i := 12) (m := 17) (by kernel_rfl) hl))) (List.Sublist.cons_cons _ (List.nil_sublist _)) hyu6) rfl (T.ev 0 rfl))) ?_; clear T ac; intro ac T
      refine g_q (T := T) (i := 16) rfl (by kernel_rfl) (by kernel_rfl : (pbits 20 65535).setIfInBounds 16 true = pbits 20 131071) (si_and (si_G rfl) (si_and (si_G rfl) (si_and (si_G rfl) si_U))) (fun _ _ _ h => h) rfl rfl rfl rfl (fun _ _ _ _ _ => (rn_indexAddr (size := 1) 0 rfl (T.ev 15 rfl) evc ⟨_, Try.underlying31, by kernel_rfl⟩ rfl (by omega) (Sgo1.at0 (by omega)))) ?_; clear T ac; intro ac T
      refine g_w (i := 17) (by kernel_rfl) rfl (by kernel_rfl : (pbits 20 131071).setIfInBounds 17 true = pbits 20 262143) rfl ?_; intro K hK
      refine ow_stI M T rfl rfl (T.ev 0 rfl) (T.ev 1 rfl) .head (by omega) rfl ?_; clear M T; intro wc ac M T
      obtain ⟨lo2, hlo2⟩ : ∃ q, q = lo1.set 0 yu6 := ⟨_, rfl⟩
      have lhlo2 : lo1.length = lo2.length := by rw [hlo2, List.length_set]
      rw [← hlo2] at M; (try rw [lhlo2] at M); (try rw [lhlo2] at T)
      have Ss1 := Sp.pre (w := w) (ex := noEx) (size := 1) (n := lo2.length) (g := go1) (xs := ic lo2) (ys := ysgo1) (by simp [ic_length])
      refine sh_out hK _ _ (MA.mk (fun h => (no_of (by kernel_rfl) h).elim) (MA.mk (fun h => (no_of (by kernel_rfl) h).elim) (MA.mk (fun h => (no_of (by kernel_rfl) h).elim) (M.mask [false, false, false] rfl)))) ?_; clear hK K
      refine g_q (T := T) (i := 18) rfl (by kernel_rfl) (by kernel_rfl : (pbits 20 262143).setIfInBounds 18 true = pbits 20 524287) (si_and (si_G rfl) (si_and (si_G rfl) (si_and (si_G rfl) si_U))) (fun _ _ _ h => h) rfl rfl rfl rfl (fun _ _ _ _ _ => (rn_indexAddr (size := 1) ku5 rfl (T.ev 15 rfl) (T.ev 4 rfl) ⟨_, Try.underlying31, by kernel_rfl⟩ rfl (by omega) (Ss1.at0 (by omega)))) ?_; clear T ac; intro ac T
      refine g_w (i := 19) (by kernel_rfl) rfl (by kernel_rfl : (pbits 20 524287).setIfInBounds 19 true = pbits 20 1048575) rfl ?_; intro K hK
      refine ow_stI M T rfl rfl (T.ev 0 rfl) (T.ev 6 rfl) .head (by omega) rfl ?_; clear M T; intro wc ac M T
      obtain ⟨lo3, hlo3⟩ : ∃ q, q = lo2.set ku5 z0 := ⟨_, rfl⟩
      have lhlo3 : lo2.length = lo3.length := by rw [hlo3, List.length_set]
      rw [← hlo3] at M; (try rw [lhlo3] at M); (try rw [lhlo3] at T)
      have Ss2 := Sp.pre (w := w) (ex := noEx) (size := 1) (n := lo3.length) (g := go1) (xs := ic lo3) (ys := ysgo1) (by simp [ic_length])
      refine sh_out hK _ _ (MA.mk (fun h => (no_of (by kernel_rfl) h).elim) (MA.mk (fun h => (no_of (by kernel_rfl) h).elim) (MA.mk (fun h => (no_of (by kernel_rfl) h).elim) (M.mask [false, false, false] rfl)))) ?_; clear hK K
      refine g_done (by kernel_rfl) ?_
      replace T := T.pick [18, 19, 20, 21, 23] rfl
      refine nm_then ?_
      refine wp_seq ?_
      refine wp_region_lit ?_
      refine l_q T rfl rfl rfl rfl (rn_rowO (Mem.nth M 2 rfl) rfl (T.ev 4 rfl) rfl) ?_; clear T ac; intro ac T
      refine l_q T rfl rfl rfl rfl (rn_rowO (Mem.nth M 1 rfl) rfl (T.ev 3 rfl) rfl) ?_; clear T ac; intro ac T
      refine l_q T rfl rfl rfl rfl (rn_rowO (Mem.nth M 1 rfl) rfl (T.ev 4 rfl) rfl) ?_; clear T ac; intro ac T
      refine l_q T rfl rfl rfl rfl (rn_rowO (Mem.nth M 1 rfl) rfl (T.ev 5 rfl) rfl) ?_; clear T ac; intro ac T
      refine l_q T rfl rfl rfl rfl (rn_rowO (Mem.nth M 2 rfl) rfl (T.ev 8 rfl) rfl) ?_; clear T ac; intro ac T
      refine l_w rfl ?_; intro K hK
      refine ow_bs (e := 30) [.int .i64 j.p0, .int .i64 j.p1, .int .i64 j.t0, .int .i64 j.t1, .int .i64 j.r0, .int .i64 j.r1, .int .i64 j.u0, .int .i64 j.u1, .int .i64 j.d0, .int .i64 j.d1, .int .i64 j.a0, .int .i64 j.a1, .int .i64 j.b0, .int .i64 j.b1, .int .i64 j.le, .slice A j.sh.length c, .int .i64 j.wi, .int .i64 j.me, .int .i64 ju3.p0, .int .i64 ju3.p1, .int .i64 ju3.t0, .int .i64 ju3.t1, .int .i64 ju3.r0, .int .i64 ju3.r1, .int .i64 ju3.u0, .int .i64 ju3.u1, .int .i64 ju3.d0, .int .i64 ju3.d1, .int .i64 ju3.a0, .int .i64 ju3.a1, .int .i64 ju3.b0, .int .i64 ju3.b1, .int .i64 ju3.le, .slice Au3 ju3.sh.length cu3, .int .i64 ju3.wi, .int .i64 ju3.me, .int .i64 ju3.p0, .int .i64 ju3.p1, .int .i64 ju3.t0, .int .i64 ju3.t1, .int .i64 ju3.r0, .int .i64 ju3.r1, .int .i64 ju3.u0, .int .i64 ju3.u1, .int .i64 ju3.d0, .int .i64 ju3.d1, .int .i64 ju3.a0, .int .i64 ju3.a1, .int .i64 ju3.b0, .int .i64 ju3.b1, .int .i64 ju3.le, .slice Au3 ju3.sh.length cu3, .int .i64 ju3.wi, .int .i64 ju3.me, .int .i64 ju3.p0, .int .i64 ju3.p1, .int .i64 ju3.t0, .int .i64 ju3.t1, .int .i64 ju3.r0, .int .i64 ju3.r1, .int .i64 ju3.u0, .int .i64 ju3.u1, .int .i64 ju3.d0, .int .i64 ju3.d1, .int .i64 ju3.a0, .int .i64 ju3.a1, .int .i64 ju3.b0, .int .i64 ju3.b1, .int .i64 ju3.le, .slice Au3 ju3.sh.length cu3, .int .i64 ju3.wi, .int .i64 ju3.me, .int .i64 j.p0, .int .i64 j.p1, .int .i64 j.t0, .int .i64 j.t1, .int .i64 j.r0, .int .i64 j.r1, .int .i64 j.u0, .int .i64 j.u1, .int .i64 j.d0, .int .i64 j.d1, .int .i64 j.a0, .int .i64 j.a1, .int .i64 j.b0, .int .i64 j.b1, .int .i64 j.le, .slice A j.sh.length c, .int .i64 j.wi, .int .i64 j.me] M T rfl rfl rfl rfl (.cons (T.ev 4 rfl) (.cons (T.ev 3 rfl) (.cons (T.ev 2 rfl) (.cons (T.ev 1 rfl) (.cons (T.ev 0 rfl) .nil))))) (fun _ => by kernel_rfl) ?_; clear M T; intro g4 wc ac M T
      refine sh_out hK _ _ ?_; clear hK K
      refine l_q T rfl rfl rfl rfl (rn_move rfl (T.ev 9 rfl)) ?_; clear T ac; intro ac T
      refine l_q T rfl rfl rfl rfl (rn_move rfl (T.ev 8 rfl)) ?_; clear T ac; intro ac T
      refine l_q T rfl rfl rfl rfl (rn_move rfl (T.ev 8 rfl)) ?_; clear T ac; intro ac T
      refine l_q T rfl rfl rfl rfl (rn_move rfl (T.ev 12 rfl)) ?_; clear T ac; intro ac T
      refine l_q T rfl rfl rfl rfl (rn_move rfl (T.ev 11 rfl)) ?_; clear T ac; intro ac T
      refine l_w rfl ?_; intro K hK
      refine ow_bs (e := 31) [.slice B r.length b, .slice Au4 lu4.length cu4, .slice (some ⟨go1, 0, none⟩) lo3.length cgo1, .slice B r.length b, .slice Au4 lu4.length cu4] M T rfl rfl rfl rfl (.cons (T.ev 4 rfl) (.cons (T.ev 3 rfl) (.cons (T.ev 2 rfl) (.cons (T.ev 1 rfl) (.cons (T.ev 0 rfl) .nil))))) (fun _ => by kernel_rfl) ?_; clear M T; intro g5 wc ac M T
      refine sh_out hK _ _ ?_; clear hK K
      refine l_q T rfl rfl rfl rfl (rn_assign rfl (T.ev 6 rfl)) ?_; clear T ac; intro ac T
      refine l_q T rfl rfl rfl rfl (rn_assign rfl (T.ev 1 rfl)) ?_; clear T ac; intro ac T
      refine wpList_nil ?_
      replace T := T.pick [0, 1] rfl
      replace M := M.mask [true, true, true, false, false] rfl
      refine nm_then ?_
      refine wp_seq ?_
      refine wp_seq ?_
      refine wp_region_lit ?_
      refine l_q T rfl rfl rfl rfl (rn_assign rfl evc) ?_; clear T ac; intro ac T
      refine wpList_nil ?_
      refine nm_then ?_
      refine wp_block ?_
      obtain ⟨IT, hIT⟩ : ∃ IT : List (Nat × BA), IT = ((g5, .cells [.slice B r.length b, .slice Au4 lu4.length cu4, .slice (some ⟨go1, 0, none⟩) lo3.length cgo1, .slice B r.length b, .slice Au4 lu4.length cu4]) :: (g4, .cells (jobL j A c ++ jobL ju3 Au3 cu3 ++ jobL ju3 Au3 cu3 ++ jobL ju3 Au3 cu3 ++ jobL j A c)) :: (go1, .cells (ic lo3 ++ ysgo1)) :: (Iu3 ++ Iu4)) := ⟨_, rfl⟩
      have S0 : Sp w noEx IT (some ⟨g4, 0, none⟩) 5 18 g4 0 (jc [(j, A, c), (ju3, Au3, cu3), (ju3, Au3, cu3), (ju3, Au3, cu3), (j, A, c)]) := (Sp.cells (w := w) (ex := noEx) (g := g4) (xs := jc [(j, A, c), (ju3, Au3, cu3), (ju3, Au3, cu3), (ju3, Au3, cu3), (j, A, c)]) (n := 5) (size := 18) (by rfl)).mono (by rw [hIT]; exact (.cons _ (List.Sublist.cons_cons _ (List.nil_sublist _))))
      have E0 : ∀ x ∈ ([(j, A, c), (ju3, Au3, cu3), (ju3, Au3, cu3), (ju3, Au3, cu3), (j, A, c)] : List JE), x.1.sh.length ≤ 20 ∧ ∃ b o, Sp w noEx IT x.2.1 x.1.sh.length 2 b o (rc x.1.sh) := by
        intro x hx
        simp only [List.mem_cons, List.not_mem_nil, or_false] at hx
        rcases hx with rfl | rfl | rfl | rfl | rfl
        · exact ⟨by dsimp only; omega, _, _, SJ.mono (by rw [hIT]; exact (List.nil_sublist _))⟩
        · exact ⟨by dsimp only; omega, _, _, Su3.mono (by rw [hIT]; exact (.cons _ (.cons _ (.cons _ (List.Sublist.trans (List.Sublist.refl _) (List.sublist_append_left _ _))))))⟩
        · exact ⟨by dsimp only; omega, _, _, Su3.mono (by rw [hIT]; exact (.cons _ (.cons _ (.cons _ (List.Sublist.trans (List.Sublist.refl _) (List.sublist_append_left _ _))))))⟩
        · exact ⟨by dsimp only; omega, _, _, Su3.mono (by rw [hIT]; exact (.cons _ (.cons _ (.cons _ (List.Sublist.trans (List.Sublist.refl _) (List.sublist_append_left _ _))))))⟩
        · exact ⟨by dsimp only; omega, _, _, SJ.mono (by rw [hIT]; exact (List.nil_sublist _))⟩
      obtain ⟨JL, hJL, SJL, EJL⟩ : ∃ JL : List JE, JL.length = 5 ∧ Sp w noEx IT (some ⟨g4, 0, none⟩) 5 18 g4 0 (jc JL) ∧ ∀ x ∈ JL, x.1.sh.length ≤ 20 ∧ ∃ b o, Sp w noEx IT x.2.1 x.1.sh.length 2 b o (rc x.1.sh) := ⟨_, rfl, S0, E0⟩
      clear S0 E0
      have S0 : Sp w noEx IT (some ⟨g5, 0, none⟩) 5 1 g5 0 (lc [(r, B, b), (lu4, Au4, cu4), (lo3, some ⟨go1, 0, none⟩, cgo1), (r, B, b), (lu4, Au4, cu4)]) := (Sp.cells (w := w) (ex := noEx) (g := g5) (xs := lc [(r, B, b), (lu4, Au4, cu4), (lo3, some ⟨go1, 0, none⟩, cgo1), (r, B, b), (lu4, Au4, cu4)]) (n := 5) (size := 1) (by rfl)).mono (by rw [hIT]; exact (List.Sublist.cons_cons _ (List.nil_sublist _)))
      have E0 : ∀ x ∈ ([(r, B, b), (lu4, Au4, cu4), (lo3, some ⟨go1, 0, none⟩, cgo1), (r, B, b), (lu4, Au4, cu4)] : List LE), x.1.length ≤ 20 ∧ ∃ b o, Sp w noEx IT x.2.1 x.1.length 1 b o (ic x.1) := by
        intro x hx
        simp only [List.mem_cons, List.not_mem_nil, or_false] at hx
        rcases hx with rfl | rfl | rfl | rfl | rfl
        · exact ⟨by dsimp only; omega, _, _, SR.mono (by rw [hIT]; exact (List.nil_sublist _))⟩
        · exact ⟨by dsimp only; omega, _, _, Su4.mono (by rw [hIT]; exact (.cons _ (.cons _ (.cons _ (List.sublist_append_right _ _)))))⟩
        · exact ⟨by dsimp only; omega, _, _, Ss2.mono (by rw [hIT]; exact (.cons _ (.cons _ (List.Sublist.cons_cons _ (List.nil_sublist _)))))⟩
        · exact ⟨by dsimp only; omega, _, _, SR.mono (by rw [hIT]; exact (List.nil_sublist _))⟩
        · exact ⟨by dsimp only; omega, _, _, Su4.mono (by rw [hIT]; exact (.cons _ (.cons _ (.cons _ (List.sublist_append_right _ _)))))⟩
      obtain ⟨LL, hLL, SLL, ELL⟩ : ∃ LL : List LE, LL.length = 5 ∧ Sp w noEx IT (some ⟨g5, 0, none⟩) 5 1 g5 0 (lc LL) ∧ ∀ x ∈ LL, x.1.length ≤ 20 ∧ ∃ b o, Sp w noEx IT x.2.1 x.1.length 1 b o (ic x.1) := ⟨_, rfl, S0, E0⟩
      clear S0 E0
      replace M : Mem w noEx wc IT := by rw [hIT]; exact M
      clear hIT
      refine wp_loop_n (fun mz ac wc => ∃ (i : Nat), mz = 5 - i ∧ Tm ac 231 [(15, .slice (some ⟨g4, 0, none⟩) 5 5), (16, .slice (some ⟨g5, 0, none⟩) 5 5), (17, .int .i64 (i : Int))] ∧ Mem w noEx wc (IT)) ?_ ?_
      · exact ⟨_, 0, rfl, T.pick [2, 1, 0] rfl, M⟩
      · clear T M
        rintro mz ac wc ⟨i, hmm1, T, M⟩
        refine wp_seq ?_
        refine wp_seq ?_
        refine wp_region_lit ?_
        refine l_q T rfl rfl rfl rfl (rn_move rfl (T.ev 2 rfl)) ?_; clear T ac; intro ac T
        refine l_q T rfl rfl rfl rfl (rn_move rfl (T.ev 1 rfl)) ?_; clear T ac; intro ac T
        refine l_q (v := (.int .i64 5)) T rfl rfl rfl rfl (rn_lenS rfl Try.underlying36 (T.ev 0 rfl)) ?_; clear T ac; intro ac T
        refine l_q T rfl rfl rfl rfl (rn_lss rfl (T.ev 2 rfl) (T.ev 0 rfl)) ?_; clear T ac; intro ac T
        refine wpList_nil ?_
        replace T := T.pick [0, 4, 5, 6] rfl
        refine nm_then ?_
        refine wp_if (T.ev 0 rfl) ?_ ?_
        · intro h3
          obtain ⟨⟨jx, Ax, cx⟩, hkx⟩ : ∃ x, JL[i]? = some x := ⟨_, List.getElem?_eq_getElem (by omega)⟩
          obtain ⟨hfx, bx, ox, Sx⟩ := EJL _ (List.mem_of_getElem? hkx)
          replace hfx : jx.sh.length ≤ 20 := hfx
          replace Sx : Sp w noEx IT Ax jx.sh.length 2 bx ox (rc jx.sh) := Sx
          obtain ⟨⟨lv, Av, cv⟩, hkv⟩ : ∃ x, LL[i]? = some x := ⟨_, List.getElem?_eq_getElem (by omega)⟩
          obtain ⟨hfv, bv, ov, Sv⟩ := ELL _ (List.mem_of_getElem? hkv)
          replace hfv : lv.length ≤ 20 := hfv
          replace Sv : Sp w noEx IT Av lv.length 1 bv ov (ic lv) := Sv
          refine wp_skip ?_
          refine nm_then ?_
          refine wp_seq ?_
          refine wp_block ?_
          refine wp_seq ?_
          refine g_start2 M (M.mask [] rfl) 13 (by kernel_rfl) rfl (by kernel_rfl) ?_
          clear M; intro wc M
          refine g_q (T := T) (i := 0) rfl (by kernel_rfl) (by kernel_rfl : (pbits 13 0).setIfInBounds 0 true = pbits 13 1) si_U (fun _ _ _ h => h) rfl rfl rfl rfl (fun _ _ _ _ _ => (rn_move rfl (T.ev 1 rfl))) ?_; clear T ac; intro ac T
          refine g_q (T := T) (i := 1) rfl (by kernel_rfl) (by kernel_rfl : (pbits 13 1).setIfInBounds 1 true = pbits 13 3) si_U (fun _ _ _ h => h) rfl rfl rfl rfl (fun _ _ _ _ _ => (rn_move rfl (T.ev 4 rfl))) ?_; clear T ac; intro ac T
          refine g_q (T := T) (i := 2) rfl (by kernel_rfl) (by kernel_rfl : (pbits 13 3).setIfInBounds 2 true = pbits 13 7) si_U (fun _ _ _ h => h) rfl rfl rfl rfl (fun _ _ _ _ _ => (rn_indexAddr (size := 18) i rfl (T.ev 1 rfl) (T.ev 0 rfl) ⟨_, Try.underlying36, by kernel_rfl⟩ rfl (by omega) (SJL.at0 (by omega)))) ?_; clear T ac; intro ac T
          refine g_q (v := (.agg #[.int .i64 jx.p0, .int .i64 jx.p1, .int .i64 jx.t0, .int .i64 jx.t1, .int .i64 jx.r0, .int .i64 jx.r1, .int .i64 jx.u0, .int .i64 jx.u1, .int .i64 jx.d0, .int .i64 jx.d1, .int .i64 jx.a0, .int .i64 jx.a1, .int .i64 jx.b0, .int .i64 jx.b1, .int .i64 jx.le, .slice Ax jx.sh.length cx, .int .i64 jx.wi, .int .i64 jx.me])) (T := T) (i := 3) rfl (by kernel_rfl) (by kernel_rfl : (pbits 13 7).setIfInBounds 3 true = pbits 13 15) si_U (fun _ _ _ h => h) rfl rfl rfl rfl (fun B w' hD hl hS => (rn_rowat (Sp.jcR SJL (show Mem w noEx w' _ from hS) (List.Sublist.refl _) hkx) rfl (T.ev 0 rfl) rfl)) ?_; clear T ac; intro ac T
          refine g_q (T := T) (i := 5) rfl (by kernel_rfl) (by kernel_rfl : (pbits 13 15).setIfInBounds 5 true = pbits 13 47) si_U (fun _ _ _ h => h) rfl rfl rfl rfl (fun _ _ _ _ _ => (rn_move rfl (T.ev 6 rfl))) ?_; clear T ac; intro ac T
          refine g_q (T := T) (i := 6) rfl (by kernel_rfl) (by kernel_rfl : (pbits 13 47).setIfInBounds 6 true = pbits 13 111) si_U (fun _ _ _ h => h) rfl rfl rfl rfl (fun _ _ _ _ _ => (rn_move rfl (T.ev 8 rfl))) ?_; clear T ac; intro ac T
          refine g_q (T := T) (i := 7) rfl (by kernel_rfl) (by kernel_rfl : (pbits 13 111).setIfInBounds 7 true = pbits 13 239) si_U (fun _ _ _ h => h) rfl rfl rfl rfl (fun _ _ _ _ _ => (rn_indexAddr (size := 1) i rfl (T.ev 1 rfl) (T.ev 0 rfl) ⟨_, Try.underlying51, by kernel_rfl⟩ rfl (by omega) (SLL.at0 (by omega)))) ?_; clear T ac; intro ac T
          refine g_q (v := (.slice Av lv.length cv)) (T := T) (i := 8) rfl (by kernel_rfl) (by kernel_rfl : (pbits 13 239).setIfInBounds 8 true = pbits 13 495) si_U (fun _ _ _ h => h) rfl rfl rfl rfl (fun B w' hD hl hS => (rn_cell (Sp.lc0 SLL (show Mem w noEx w' _ from hS) (List.Sublist.refl _) hkv) rfl (T.ev 0 rfl))) ?_; clear T ac; intro ac T
          refine g_m2 (i := 4) (j := 10) (by kernel_rfl) ?_ ?_
          · refine g_i rfl (by kernel_rfl : (pbits 13 495).setIfInBounds 4 true = pbits 13 511) rfl ?_; intro K hK
            refine ow_call (first := []) (cap := []) T rfl rfl rfl rfl evf (.cons (T.ev 4 rfl) .nil) Try.func18 rfl rfl ?_
            refine Calls.mono (copyJob_own jx _ _ _ (Sx.rd M (List.Sublist.refl _)) (by first | omega | (dsimp only [Jb.one]; omega))) ?_
            clear T
            rintro e wc ⟨Aur12_4, cur12_4, Iur12_4, rfl, hsnur12_4, N⟩
            intro ac T
            obtain ⟨bur12_4, our12_4, Sur12_4⟩ := hsnur12_4.sp (w := w) (ex := noEx) (rc_length _)
            replace M := (M.join N).swapI
            replace M := M.mask [] rfl
            clear N hsnur12_4
            refine sh_out hK _ _ ((M.mask [] rfl).sub (List.sublist_append_left _ _)) ?_; clear hK K
            refine g_m2 (i := 9) (j := 10) (by kernel_rfl) ?_ ?_
            · refine g_i rfl (by kernel_rfl : (pbits 13 511).setIfInBounds 9 true = pbits 13 1023) rfl ?_; intro K hK
              refine ow_call (first := []) (cap := []) T rfl rfl rfl rfl evf (.cons (T.ev 1 rfl) .nil) Try.func53 rfl rfl ?_
              refine Calls.mono (ints_own _ _ lv _ (Sv.rd M (List.Sublist.trans (List.Sublist.refl _) (List.sublist_append_left _ _))) (by first | omega | (simp only [List.length_cons, List.length_nil, List.length_set]; omega))) ?_
              clear T
              rintro e wc ⟨Aur12_9, cur12_9, Iur12_9, rfl, hsmur12_9, N⟩
              intro ac T
              obtain ⟨bur12_9, our12_9, Sur12_9⟩ := hsmur12_9.sp (w := w) (ex := noEx) (by simp [ic_length])
              replace M := (M.join N).swapI
              replace M := M.mask [] rfl
              clear N hsmur12_9
              refine sh_out hK _ _ ((M.mask [] rfl).sub (List.Sublist.trans (List.sublist_append_left _ _) (List.sublist_append_left _ _))) ?_; clear hK K
              refine g_w (i := 10) (by kernel_rfl) rfl (by kernel_rfl : (pbits 13 1023).setIfInBounds 10 true = pbits 13 2047) rfl ?_; intro K hK
              refine ow_al M T rfl rfl rfl rfl ?_; clear M T; intro gr12_10 wc ac M T
              refine sh_out hK _ _ ((M.mask [false] rfl).sub (List.Sublist.trans (List.sublist_append_left _ _) (List.sublist_append_left _ _))) ?_; clear hK K
              refine g_w (i := 11) (by kernel_rfl) rfl (by kernel_rfl : (pbits 13 2047).setIfInBounds 11 true = pbits 13 4095) rfl ?_; intro K hK
              refine ow_stO M T rfl rfl (T.ev 0 rfl) (T.ev 2 rfl) rfl .head rfl (by simp) rfl (by kernel_rfl) ?_; clear M T; intro wc ac M T
              refine sh_out hK _ _ ((M.mask [false] rfl).sub (List.Sublist.trans (List.sublist_append_left _ _) (List.sublist_append_left _ _))) ?_; clear hK K
              refine g_q (T := T) (i := 12) rfl (by kernel_rfl) (by kernel_rfl : (pbits 13 4095).setIfInBounds 12 true = pbits 13 8191) si_U (fun _ _ _ h => h) rfl rfl rfl rfl (fun _ _ _ _ _ => (rn_assign rfl (T.ev 1 rfl))) ?_; clear T ac; intro ac T
              refine g_done (by kernel_rfl) ?_
              replace T := T.pick [0, 1, 13, 14, 15] rfl
              refine nm_then ?_
              refine wp_seq ?_
              refine wp_region_lit ?_
              refine l_q T rfl rfl rfl rfl (rn_rowO (Mem.nth M 0 rfl) rfl (T.ev 1 rfl) rfl) ?_; clear T ac; intro ac T
              refine l_q T rfl rfl rfl rfl (rn_move rfl (T.ev 1 rfl)) ?_; clear T ac; intro ac T
              refine l_w rfl ?_; intro K hK
              refine ow_call (first := []) (cap := []) T rfl rfl rfl rfl evf (.cons (T.ev 1 rfl) (.cons (T.ev 0 rfl) .nil)) Try.func34 rfl rfl ?_
              refine Calls.mono (After_T jx _ _ _ _ _ lv _ (Sur12_4.rd M (.cons _ (List.Sublist.trans (List.sublist_append_right _ _) (List.sublist_append_left _ _)))) (by first | omega | (simp only [List.length_cons, List.length_nil, List.length_set]; omega)) (Sur12_9.rd M (.cons _ (List.sublist_append_right _ _))) (by first | omega | (simp only [List.length_cons, List.length_nil, List.length_set]; omega))) ?_
              clear T
              rintro e wc ⟨rfl, hb⟩
              intro ac T
              replace M := M.call hb; clear hb
              refine sh_out hK _ _ ?_; clear hK K
              refine l_q T rfl rfl rfl rfl (rn_move rfl (T.ev 0 rfl)) ?_; clear T ac; intro ac T
              refine l_q T rfl rfl rfl rfl (rn_extract rfl (T.ev 0 rfl) rfl) ?_; clear T ac; intro ac T
              refine l_q T rfl rfl rfl rfl (rn_extract rfl (T.ev 1 rfl) rfl) ?_; clear T ac; intro ac T
              refine l_w rfl ?_; intro K hK
              refine ow_al M T rfl rfl rfl rfl ?_; clear M T; intro g6 wc ac M T
              refine sh_out hK _ _ ?_; clear hK K
              refine l_w rfl ?_; intro K hK
              refine ow_stO M T rfl rfl (T.ev 0 rfl) (T.ev 2 rfl) rfl .head rfl (by simp) rfl (by kernel_rfl) ?_; clear M T; intro wc ac M T
              refine sh_out hK _ _ ?_; clear hK K
              refine l_q T rfl rfl rfl rfl (rn_assign rfl (T.ev 1 rfl)) ?_; clear T ac; intro ac T
              refine wpList_nil ?_
              replace T := T.pick [0, 1, 8, 9, 10, 11, 12] rfl
              refine nm_then ?_
              refine cut_seq (fun ac wc => ∃ (gr14_12 : Nat), Tm ac 231 [(15, .slice (some ⟨g4, 0, none⟩) 5 5), (16, .slice (some ⟨g5, 0, none⟩) 5 5), (17, .int .i64 (i : Int)), (18, .pointer (some ⟨gr12_10, 0, none⟩)), (19, .slice Aur12_9 lv.length cur12_9), (20, .pointer (some ⟨g6, 0, none⟩)), (21, .int .i64 (checkStrokesJ jx lv)), (22, .pointer (some ⟨gr14_12, 0, none⟩)), (23, .int .i64 (checkStrokesJ jx lv))] ∧ Mem w noEx wc ((gr14_12, .cells [.int .i64 ((afT jx lv).p0), .int .i64 ((afT jx lv).p1), .int .i64 ((afT jx lv).t0), .int .i64 ((afT jx lv).t1), .int .i64 ((afT jx lv).r0), .int .i64 ((afT jx lv).r1)]) :: (g6, .cells [.int .i64 ((afT jx lv).p0), .int .i64 ((afT jx lv).p1), .int .i64 ((afT jx lv).t0), .int .i64 ((afT jx lv).t1), .int .i64 ((afT jx lv).r0), .int .i64 ((afT jx lv).r1)]) :: (gr12_10, .cells (jobL jx Aur12_4 cur12_4)) :: (IT ++ Iur12_4 ++ Iur12_9))) ?_ ?_
              · refine g_start2 M (M.mask [true, true] rfl) 15 (by kernel_rfl) rfl (by kernel_rfl) ?_
                clear M; intro wc M
                refine g_q (T := T) (i := 0) rfl (by kernel_rfl) (by kernel_rfl : (pbits 15 0).setIfInBounds 0 true = pbits 15 1) si_U (fun _ _ _ h => h) rfl rfl rfl rfl (fun _ _ _ _ _ => (rn_move rfl (T.ev 4 rfl))) ?_; clear T ac; intro ac T
                refine g_q (T := T) (i := 1) rfl (by kernel_rfl) (by kernel_rfl : (pbits 15 1).setIfInBounds 1 true = pbits 15 3) si_U (fun _ _ _ h => h) rfl rfl rfl rfl (fun _ _ _ _ _ => (rn_move rfl (T.ev 7 rfl))) ?_; clear T ac; intro ac T
                refine g_q (T := T) (i := 2) rfl (by kernel_rfl) (by kernel_rfl : (pbits 15 3).setIfInBounds 2 true = pbits 15 7) si_U (fun _ _ _ h => h) rfl rfl rfl rfl (fun _ _ _ _ _ => (rn_indexAddr (size := 18) i rfl (T.ev 1 rfl) (T.ev 0 rfl) ⟨_, Try.underlying36, by kernel_rfl⟩ rfl (by omega) (SJL.at0 (by omega)))) ?_; clear T ac; intro ac T
                refine g_q (v := (.agg #[.int .i64 jx.p0, .int .i64 jx.p1, .int .i64 jx.t0, .int .i64 jx.t1, .int .i64 jx.r0, .int .i64 jx.r1, .int .i64 jx.u0, .int .i64 jx.u1, .int .i64 jx.d0, .int .i64 jx.d1, .int .i64 jx.a0, .int .i64 jx.a1, .int .i64 jx.b0, .int .i64 jx.b1, .int .i64 jx.le, .slice Ax jx.sh.length cx, .int .i64 jx.wi, .int .i64 jx.me])) (T := T) (i := 3) rfl (by kernel_rfl) (by kernel_rfl : (pbits 15 7).setIfInBounds 3 true = pbits 15 15) si_U (fun _ _ _ h => h) rfl rfl rfl rfl (fun B w' hD hl hS => (rn_rowat (Sp.jcR SJL (show Mem w noEx w' _ from hS) (.cons _ (.cons _ (List.Sublist.trans (List.Sublist.trans (List.Sublist.refl _) (List.sublist_append_left _ _)) (List.sublist_append_left _ _)))) hkx) rfl (T.ev 0 rfl) rfl)) ?_; clear T ac; intro ac T
                refine g_q (T := T) (i := 4) rfl (by kernel_rfl) (by kernel_rfl : (pbits 15 15).setIfInBounds 4 true = pbits 15 31) si_U (fun _ _ _ h => h) rfl rfl rfl rfl (fun _ _ _ _ _ => (rn_move rfl (T.ev 9 rfl))) ?_; clear T ac; intro ac T
                refine g_q (T := T) (i := 5) rfl (by kernel_rfl) (by kernel_rfl : (pbits 15 31).setIfInBounds 5 true = pbits 15 63) si_U (fun _ _ _ h => h) rfl rfl rfl rfl (fun _ _ _ _ _ => (rn_move rfl (T.ev 11 rfl))) ?_; clear T ac; intro ac T
                refine g_q (T := T) (i := 6) rfl (by kernel_rfl) (by kernel_rfl : (pbits 15 63).setIfInBounds 6 true = pbits 15 127) si_U (fun _ _ _ h => h) rfl rfl rfl rfl (fun _ _ _ _ _ => (rn_indexAddr (size := 1) i rfl (T.ev 1 rfl) (T.ev 0 rfl) ⟨_, Try.underlying51, by kernel_rfl⟩ rfl (by omega) (SLL.at0 (by omega)))) ?_; clear T ac; intro ac T
                refine g_q (v := (.slice Av lv.length cv)) (T := T) (i := 7) rfl (by kernel_rfl) (by kernel_rfl : (pbits 15 127).setIfInBounds 7 true = pbits 15 255) si_U (fun _ _ _ h => h) rfl rfl rfl rfl (fun B w' hD hl hS => (rn_cell (Sp.lc0 SLL (show Mem w noEx w' _ from hS) (.cons _ (.cons _ (List.Sublist.trans (List.Sublist.trans (List.Sublist.refl _) (List.sublist_append_left _ _)) (List.sublist_append_left _ _)))) hkv) rfl (T.ev 0 rfl))) ?_; clear T ac; intro ac T
                refine g_m2 (i := 8) (j := 12) (by kernel_rfl) ?_ ?_
                · refine g_i rfl (by kernel_rfl : (pbits 15 255).setIfInBounds 8 true = pbits 15 511) rfl ?_; intro K hK
                  refine ow_call (first := []) (cap := []) T rfl rfl rfl rfl evf (.cons (T.ev 4 rfl) (.cons (T.ev 0 rfl) .nil)) Try.func54 rfl rfl ?_
                  refine Calls.mono (rAfter_any jx _ _ _ _ _ lv _ (Sx.rd M (.cons _ (.cons _ (List.Sublist.trans (List.Sublist.trans (List.Sublist.refl _) (List.sublist_append_left _ _)) (List.sublist_append_left _ _))))) (by first | omega | (simp only [List.length_cons, List.length_nil, List.length_set]; omega)) (Sv.rd M (.cons _ (.cons _ (List.Sublist.trans (List.Sublist.trans (List.Sublist.refl _) (List.sublist_append_left _ _)) (List.sublist_append_left _ _))))) (by first | omega | (simp only [List.length_cons, List.length_nil, List.length_set]; omega))) ?_
                  clear T
                  rintro e wc ⟨rfl, hb⟩
                  intro ac T
                  replace M := M.call hb; clear hb
                  refine sh_out hK _ _ (M.mask [true, true] rfl) ?_; clear hK K
                  refine g_q (T := T) (i := 9) rfl (by kernel_rfl) (by kernel_rfl : (pbits 15 511).setIfInBounds 9 true = pbits 15 1023) si_U (fun _ _ _ h => h) rfl rfl rfl rfl (fun _ _ _ _ _ => (rn_move rfl (T.ev 0 rfl))) ?_; clear T ac; intro ac T
                  refine g_q (T := T) (i := 10) rfl (by kernel_rfl) (by kernel_rfl : (pbits 15 1023).setIfInBounds 10 true = pbits 15 2047) si_U (fun _ _ _ h => h) rfl rfl rfl rfl (fun _ _ _ _ _ => (rn_extract rfl (T.ev 0 rfl) rfl)) ?_; clear T ac; intro ac T
                  refine g_q (T := T) (i := 11) rfl (by kernel_rfl) (by kernel_rfl : (pbits 15 2047).setIfInBounds 11 true = pbits 15 4095) si_U (fun _ _ _ h => h) rfl rfl rfl rfl (fun _ _ _ _ _ => (rn_extract rfl (T.ev 1 rfl) rfl)) ?_; clear T ac; intro ac T
                  refine g_w (i := 12) (by kernel_rfl) rfl (by kernel_rfl : (pbits 15 4095).setIfInBounds 12 true = pbits 15 8191) rfl ?_; intro K hK
                  refine ow_al M T rfl rfl rfl rfl ?_; clear M T; intro gr14_12 wc ac M T
                  refine sh_out hK _ _ (M.mask [false, true, true] rfl) ?_; clear hK K
                  refine g_w (i := 13) (by kernel_rfl) rfl (by kernel_rfl : (pbits 15 8191).setIfInBounds 13 true = pbits 15 16383) rfl ?_; intro K hK
                  refine ow_stO M T rfl rfl (T.ev 0 rfl) (T.ev 2 rfl) rfl .head rfl (by simp) rfl (by kernel_rfl) ?_; clear M T; intro wc ac M T
                  refine sh_out hK _ _ (M.mask [false, true, true] rfl) ?_; clear hK K
                  refine g_q (T := T) (i := 14) rfl (by kernel_rfl) (by kernel_rfl : (pbits 15 16383).setIfInBounds 14 true = pbits 15 32767) si_U (fun _ _ _ h => h) rfl rfl rfl rfl (fun _ _ _ _ _ => (rn_assign rfl (T.ev 1 rfl))) ?_; clear T ac; intro ac T
                  refine g_done (by kernel_rfl) ?_
                  replace T := T.pick [0, 1, 14, 15, 16, 17, 18, 19, 20] rfl
                  exact ⟨gr14_12, (T.pick (E' := [(15, .slice (some ⟨g4, 0, none⟩) 5 5), (16, .slice (some ⟨g5, 0, none⟩) 5 5), (17, .int .i64 (i : Int)), (18, .pointer (some ⟨gr12_10, 0, none⟩)), (19, .slice Aur12_9 lv.length cur12_9), (20, .pointer (some ⟨g6, 0, none⟩)), (21, .int .i64 (checkStrokesJ jx lv)), (22, .pointer (some ⟨gr14_12, 0, none⟩)), (23, .int .i64 (checkStrokesJ jx lv))]) [6, 7, 8, 5, 4, 3, 2, 1, 0] rfl).as (by rfl), M.mask [true, true, true] rfl⟩
                · refine g_i rfl (by kernel_rfl : (pbits 15 255).setIfInBounds 12 true = pbits 15 4351) rfl ?_; intro K hK
                  refine ow_al M T rfl rfl rfl rfl ?_; clear M T; intro gr14_12 wc ac M T
                  refine sh_out hK _ _ (M.mask [false, true, true] rfl) ?_; clear hK K
                  refine g_w (i := 8) (by kernel_rfl) rfl (by kernel_rfl : (pbits 15 4351).setIfInBounds 8 true = pbits 15 4607) rfl ?_; intro K hK
                  refine ow_call (first := []) (cap := []) T rfl rfl rfl rfl evf (.cons (T.ev 5 rfl) (.cons (T.ev 1 rfl) .nil)) Try.func54 rfl rfl ?_
                  refine Calls.mono (rAfter_any jx _ _ _ _ _ lv _ (Sx.rd M (.cons _ (.cons _ (.cons _ (List.Sublist.trans (List.Sublist.trans (List.Sublist.refl _) (List.sublist_append_left _ _)) (List.sublist_append_left _ _)))))) (by first | omega | (simp only [List.length_cons, List.length_nil, List.length_set]; omega)) (Sv.rd M (.cons _ (.cons _ (.cons _ (List.Sublist.trans (List.Sublist.trans (List.Sublist.refl _) (List.sublist_append_left _ _)) (List.sublist_append_left _ _)))))) (by first | omega | (simp only [List.length_cons, List.length_nil, List.length_set]; omega))) ?_
                  clear T
                  rintro e wc ⟨rfl, hb⟩
                  intro ac T
                  replace M := M.call hb; clear hb
                  refine sh_out hK _ _ (M.mask [false, true, true] rfl) ?_; clear hK K
                  refine g_q (T := T) (i := 9) rfl (by kernel_rfl) (by kernel_rfl : (pbits 15 4607).setIfInBounds 9 true = pbits 15 5119) si_U (fun _ _ _ h => h) rfl rfl rfl rfl (fun _ _ _ _ _ => (rn_move rfl (T.ev 0 rfl))) ?_; clear T ac; intro ac T
                  refine g_q (T := T) (i := 10) rfl (by kernel_rfl) (by kernel_rfl : (pbits 15 5119).setIfInBounds 10 true = pbits 15 6143) si_U (fun _ _ _ h => h) rfl rfl rfl rfl (fun _ _ _ _ _ => (rn_extract rfl (T.ev 0 rfl) rfl)) ?_; clear T ac; intro ac T
                  refine g_q (T := T) (i := 11) rfl (by kernel_rfl) (by kernel_rfl : (pbits 15 6143).setIfInBounds 11 true = pbits 15 8191) si_U (fun _ _ _ h => h) rfl rfl rfl rfl (fun _ _ _ _ _ => (rn_extract rfl (T.ev 1 rfl) rfl)) ?_; clear T ac; intro ac T
                  refine g_w (i := 13) (by kernel_rfl) rfl (by kernel_rfl : (pbits 15 8191).setIfInBounds 13 true = pbits 15 16383) rfl ?_; intro K hK
                  refine ow_stO M T rfl rfl (T.ev 4 rfl) (T.ev 1 rfl) rfl .head rfl (by simp) rfl (by kernel_rfl) ?_; clear M T; intro wc ac M T
                  refine sh_out hK _ _ (M.mask [false, true, true] rfl) ?_; clear hK K
                  refine g_q (T := T) (i := 14) rfl (by kernel_rfl) (by kernel_rfl : (pbits 15 16383).setIfInBounds 14 true = pbits 15 32767) si_U (fun _ _ _ h => h) rfl rfl rfl rfl (fun _ _ _ _ _ => (rn_assign rfl (T.ev 0 rfl))) ?_; clear T ac; intro ac T
                  refine g_done (by kernel_rfl) ?_
                  replace T := T.pick [0, 5, 14, 15, 16, 17, 18, 19, 20] rfl
                  exact ⟨gr14_12, (T.pick (E' := [(15, .slice (some ⟨g4, 0, none⟩) 5 5), (16, .slice (some ⟨g5, 0, none⟩) 5 5), (17, .int .i64 (i : Int)), (18, .pointer (some ⟨gr12_10, 0, none⟩)), (19, .slice Aur12_9 lv.length cur12_9), (20, .pointer (some ⟨g6, 0, none⟩)), (21, .int .i64 (checkStrokesJ jx lv)), (22, .pointer (some ⟨gr14_12, 0, none⟩)), (23, .int .i64 (checkStrokesJ jx lv))]) [6, 7, 8, 5, 4, 3, 2, 1, 0] rfl).as (by rfl), M.mask [true, true, true] rfl⟩
              · clear T M
                rintro ac wc ⟨gr14_12, T, M⟩
                refine wp_seq ?_
                refine wp_region_lit ?_
                refine l_q T rfl rfl rfl rfl (rn_rowO (Mem.nth M 2 rfl) rfl (T.ev 3 rfl) rfl) ?_; clear T ac; intro ac T
                refine l_q T rfl rfl rfl rfl (rn_move rfl (T.ev 5 rfl)) ?_; clear T ac; intro ac T
                refine l_w rfl ?_; intro K hK
                refine ow_call (first := []) (cap := []) T rfl rfl rfl rfl evf (.cons (T.ev 1 rfl) (.cons (T.ev 0 rfl) .nil)) Try.func51 rfl rfl ?_
                refine Calls.mono (Worst_any jx _ _ _ _ _ lv _ (Sur12_4.rd M (.cons _ (.cons _ (.cons _ (List.Sublist.trans (List.sublist_append_right _ _) (List.sublist_append_left _ _)))))) (by first | omega | (simp only [List.length_cons, List.length_nil, List.length_set]; omega)) (Sur12_9.rd M (.cons _ (.cons _ (.cons _ (List.sublist_append_right _ _))))) (by first | omega | (simp only [List.length_cons, List.length_nil, List.length_set]; omega))) ?_
                clear T
                rintro e wc ⟨rfl, hb⟩
                intro ac T
                replace M := M.call hb; clear hb
                refine sh_out hK _ _ ?_; clear hK K
                refine l_q T rfl rfl rfl rfl (rn_move rfl (T.ev 0 rfl)) ?_; clear T ac; intro ac T
                refine l_q T rfl rfl rfl rfl (rn_extract rfl (T.ev 0 rfl) rfl) ?_; clear T ac; intro ac T
                refine l_q T rfl rfl rfl rfl (rn_extract rfl (T.ev 1 rfl) rfl) ?_; clear T ac; intro ac T
                refine l_q T rfl rfl rfl rfl (rn_assign rfl (T.ev 1 rfl)) ?_; clear T ac; intro ac T
                refine l_q T rfl rfl rfl rfl (rn_assign rfl (T.ev 1 rfl)) ?_; clear T ac; intro ac T
                refine wpList_nil ?_
                replace T := T.pick [0, 1, 8, 9, 10, 11, 12, 13, 14, 15, 16] rfl
                refine nm_then ?_
                refine wp_seq ?_
                refine g_start2 M (M.mask [true, true, true] rfl) 14 (by kernel_rfl) rfl (by kernel_rfl) ?_
                clear M; intro wc M
                refine g_q (T := T) (i := 0) rfl (by kernel_rfl) (by kernel_rfl : (pbits 14 0).setIfInBounds 0 true = pbits 14 1) si_U (fun _ _ _ h => h) rfl rfl rfl rfl (fun _ _ _ _ _ => (rn_move rfl (T.ev 2 rfl))) ?_; clear T ac; intro ac T
                refine g_q (T := T) (i := 1) rfl (by kernel_rfl) (by kernel_rfl : (pbits 14 1).setIfInBounds 1 true = pbits 14 3) si_U (fun _ _ _ h => h) rfl rfl rfl rfl (fun _ _ _ _ _ => (rn_move rfl (T.ev 5 rfl))) ?_; clear T ac; intro ac T
                refine g_q (T := T) (i := 2) rfl (by kernel_rfl) (by kernel_rfl : (pbits 14 3).setIfInBounds 2 true = pbits 14 7) si_U (fun _ _ _ h => h) rfl rfl rfl rfl (fun _ _ _ _ _ => (rn_indexAddr (size := 18) i rfl (T.ev 1 rfl) (T.ev 0 rfl) ⟨_, Try.underlying36, by kernel_rfl⟩ rfl (by omega) (SJL.at0 (by omega)))) ?_; clear T ac; intro ac T
                refine g_q (v := (.agg #[.int .i64 jx.p0, .int .i64 jx.p1, .int .i64 jx.t0, .int .i64 jx.t1, .int .i64 jx.r0, .int .i64 jx.r1, .int .i64 jx.u0, .int .i64 jx.u1, .int .i64 jx.d0, .int .i64 jx.d1, .int .i64 jx.a0, .int .i64 jx.a1, .int .i64 jx.b0, .int .i64 jx.b1, .int .i64 jx.le, .slice Ax jx.sh.length cx, .int .i64 jx.wi, .int .i64 jx.me])) (T := T) (i := 3) rfl (by kernel_rfl) (by kernel_rfl : (pbits 14 7).setIfInBounds 3 true = pbits 14 15) si_U (fun _ _ _ h => h) rfl rfl rfl rfl (fun B w' hD hl hS => (rn_rowat (Sp.jcR SJL (show Mem w noEx w' _ from hS) (.cons _ (.cons _ (.cons _ (List.Sublist.trans (List.Sublist.trans (List.Sublist.refl _) (List.sublist_append_left _ _)) (List.sublist_append_left _ _))))) hkx) rfl (T.ev 0 rfl) rfl)) ?_; clear T ac; intro ac T
                refine g_q (T := T) (i := 4) rfl (by kernel_rfl) (by kernel_rfl : (pbits 14 15).setIfInBounds 4 true = pbits 14 31) si_U (fun _ _ _ h => h) rfl rfl rfl rfl (fun _ _ _ _ _ => (rn_move rfl (T.ev 7 rfl))) ?_; clear T ac; intro ac T
                refine g_q (T := T) (i := 5) rfl (by kernel_rfl) (by kernel_rfl : (pbits 14 31).setIfInBounds 5 true = pbits 14 63) si_U (fun _ _ _ h => h) rfl rfl rfl rfl (fun _ _ _ _ _ => (rn_move rfl (T.ev 9 rfl))) ?_; clear T ac; intro ac T
                refine g_q (T := T) (i := 6) rfl (by kernel_rfl) (by kernel_rfl : (pbits 14 63).setIfInBounds 6 true = pbits 14 127) si_U (fun _ _ _ h => h) rfl rfl rfl rfl (fun _ _ _ _ _ => (rn_indexAddr (size := 1) i rfl (T.ev 1 rfl) (T.ev 0 rfl) ⟨_, Try.underlying51, by kernel_rfl⟩ rfl (by omega) (SLL.at0 (by omega)))) ?_; clear T ac; intro ac T
                refine g_q (v := (.slice Av lv.length cv)) (T := T) (i := 7) rfl (by kernel_rfl) (by kernel_rfl : (pbits 14 127).setIfInBounds 7 true = pbits 14 255) si_U (fun _ _ _ h => h) rfl rfl rfl rfl (fun B w' hD hl hS => (rn_cell (Sp.lc0 SLL (show Mem w noEx w' _ from hS) (.cons _ (.cons _ (.cons _ (List.Sublist.trans (List.Sublist.trans (List.Sublist.refl _) (List.sublist_append_left _ _)) (List.sublist_append_left _ _))))) hkv) rfl (T.ev 0 rfl))) ?_; clear T ac; intro ac T
                refine g_w (i := 8) (by kernel_rfl) rfl (by kernel_rfl : (pbits 14 255).setIfInBounds 8 true = pbits 14 511) rfl ?_; intro K hK
                refine ow_call (first := []) (cap := []) T rfl rfl rfl rfl evf (.cons (T.ev 4 rfl) (.cons (T.ev 0 rfl) .nil)) Try.func55 rfl rfl ?_
                refine Calls.mono (rWorst_T jx _ _ _ _ _ lv _ (Sx.rd M (.cons _ (.cons _ (.cons _ (List.Sublist.trans (List.Sublist.trans (List.Sublist.refl _) (List.sublist_append_left _ _)) (List.sublist_append_left _ _)))))) (by first | omega | (simp only [List.length_cons, List.length_nil, List.length_set]; omega)) (Sv.rd M (.cons _ (.cons _ (.cons _ (List.Sublist.trans (List.Sublist.trans (List.Sublist.refl _) (List.sublist_append_left _ _)) (List.sublist_append_left _ _)))))) (by first | omega | (simp only [List.length_cons, List.length_nil, List.length_set]; omega))) ?_
                clear T
                rintro e wc ⟨rfl, hb⟩
                intro ac T
                replace M := M.call hb; clear hb
                refine sh_out hK _ _ (M.mask [true, true, true] rfl) ?_; clear hK K
                refine g_q (T := T) (i := 9) rfl (by kernel_rfl) (by kernel_rfl : (pbits 14 511).setIfInBounds 9 true = pbits 14 1023) si_U (fun _ _ _ h => h) rfl rfl rfl rfl (fun _ _ _ _ _ => (rn_move rfl (T.ev 0 rfl))) ?_; clear T ac; intro ac T
                refine g_q (T := T) (i := 10) rfl (by kernel_rfl) (by kernel_rfl : (pbits 14 1023).setIfInBounds 10 true = pbits 14 2047) si_U (fun _ _ _ h => h) rfl rfl rfl rfl (fun _ _ _ _ _ => (rn_extract rfl (T.ev 0 rfl) rfl)) ?_; clear T ac; intro ac T
                refine g_q (T := T) (i := 11) rfl (by kernel_rfl) (by kernel_rfl : (pbits 14 2047).setIfInBounds 11 true = pbits 14 4095) si_U (fun _ _ _ h => h) rfl rfl rfl rfl (fun _ _ _ _ _ => (rn_extract rfl (T.ev 1 rfl) rfl)) ?_; clear T ac; intro ac T
                refine g_q (T := T) (i := 12) rfl (by kernel_rfl) (by kernel_rfl : (pbits 14 4095).setIfInBounds 12 true = pbits 14 8191) si_U (fun _ _ _ h => h) rfl rfl rfl rfl (fun _ _ _ _ _ => (rn_assign rfl (T.ev 1 rfl))) ?_; clear T ac; intro ac T
                refine g_q (T := T) (i := 13) rfl (by kernel_rfl) (by kernel_rfl : (pbits 14 8191).setIfInBounds 13 true = pbits 14 16383) si_U (fun _ _ _ h => h) rfl rfl rfl rfl (fun _ _ _ _ _ => (rn_assign rfl (T.ev 1 rfl))) ?_; clear T ac; intro ac T
                refine g_done (by kernel_rfl) ?_
                replace T := T.pick [0, 1, 14, 15, 16, 17, 18, 19, 20, 21, 22, 23, 24] rfl
                refine nm_then ?_
                refine wp_seq ?_
                refine wp_region_lit ?_
                refine l_q T rfl rfl rfl rfl (rn_rowO (Mem.nth M 2 rfl) rfl (T.ev 7 rfl) rfl) ?_; clear T ac; intro ac T
                refine l_q T rfl rfl rfl rfl (rn_move rfl (T.ev 9 rfl)) ?_; clear T ac; intro ac T
                refine l_w rfl ?_; intro K hK
                refine ow_call (first := []) (cap := []) T rfl rfl rfl rfl evf (.cons (T.ev 1 rfl) (.cons (T.ev 0 rfl) .nil)) Try.func44 rfl rfl ?_
                refine Calls.mono (Spoiled_any jx _ _ _ _ _ lv _ (Sur12_4.rd M (.cons _ (.cons _ (.cons _ (List.Sublist.trans (List.sublist_append_right _ _) (List.sublist_append_left _ _)))))) (by first | omega | (simp only [List.length_cons, List.length_nil, List.length_set]; omega)) (Sur12_9.rd M (.cons _ (.cons _ (.cons _ (List.sublist_append_right _ _))))) (by first | omega | (simp only [List.length_cons, List.length_nil, List.length_set]; omega))) ?_
                clear T
                rintro e wc ⟨rfl, hb⟩
                intro ac T
                replace M := M.call hb; clear hb
                refine sh_out hK _ _ ?_; clear hK K
                refine l_q T rfl rfl rfl rfl (rn_move rfl (T.ev 0 rfl)) ?_; clear T ac; intro ac T
                refine l_q T rfl rfl rfl rfl (rn_extract rfl (T.ev 0 rfl) rfl) ?_; clear T ac; intro ac T
                refine l_q T rfl rfl rfl rfl (rn_extract rfl (T.ev 1 rfl) rfl) ?_; clear T ac; intro ac T
                refine l_q T rfl rfl rfl rfl (rn_assign rfl (T.ev 1 rfl)) ?_; clear T ac; intro ac T
                refine l_q T rfl rfl rfl rfl (rn_assign rfl (T.ev 1 rfl)) ?_; clear T ac; intro ac T
                refine wpList_nil ?_
                replace T := T.pick [0, 1, 8, 9, 10, 11, 12, 13, 14, 15, 16, 17, 18, 19, 20] rfl
                refine nm_then ?_
                refine wp_seq ?_
                refine g_start2 M (M.mask [true, true, true] rfl) 14 (by kernel_rfl) rfl (by kernel_rfl) ?_
                clear M; intro wc M
                refine g_q (T := T) (i := 0) rfl (by kernel_rfl) (by kernel_rfl : (pbits 14 0).setIfInBounds 0 true = pbits 14 1) si_U (fun _ _ _ h => h) rfl rfl rfl rfl (fun _ _ _ _ _ => (rn_move rfl (T.ev 6 rfl))) ?_; clear T ac; intro ac T
                refine g_q (T := T) (i := 1) rfl (by kernel_rfl) (by kernel_rfl : (pbits 14 1).setIfInBounds 1 true = pbits 14 3) si_U (fun _ _ _ h => h) rfl rfl rfl rfl (fun _ _ _ _ _ => (rn_move rfl (T.ev 9 rfl))) ?_; clear T ac; intro ac T
                refine g_q (T := T) (i := 2) rfl (by kernel_rfl) (by kernel_rfl : (pbits 14 3).setIfInBounds 2 true = pbits 14 7) si_U (fun _ _ _ h => h) rfl rfl rfl rfl (fun _ _ _ _ _ => (rn_indexAddr (size := 18) i rfl (T.ev 1 rfl) (T.ev 0 rfl) ⟨_, Try.underlying36, by kernel_rfl⟩ rfl (by omega) (SJL.at0 (by omega)))) ?_; clear T ac; intro ac T
                refine g_q (v := (.agg #[.int .i64 jx.p0, .int .i64 jx.p1, .int .i64 jx.t0, .int .i64 jx.t1, .int .i64 jx.r0, .int .i64 jx.r1, .int .i64 jx.u0, .int .i64 jx.u1, .int .i64 jx.d0, .int .i64 jx.d1, .int .i64 jx.a0, .int .i64 jx.a1, .int .i64 jx.b0, .int .i64 jx.b1, .int .i64 jx.le, .slice Ax jx.sh.length cx, .int .i64 jx.wi, .int .i64 jx.me])) (T := T) (i := 3) rfl (by kernel_rfl) (by kernel_rfl : (pbits 14 7).setIfInBounds 3 true = pbits 14 15) si_U (fun _ _ _ h => h) rfl rfl rfl rfl (fun B w' hD hl hS => (rn_rowat (Sp.jcR SJL (show Mem w noEx w' _ from hS) (.cons _ (.cons _ (.cons _ (List.Sublist.trans (List.Sublist.trans (List.Sublist.refl _) (List.sublist_append_left _ _)) (List.sublist_append_left _ _))))) hkx) rfl (T.ev 0 rfl) rfl)) ?_; clear T ac; intro ac T
                refine g_q (T := T) (i := 4) rfl (by kernel_rfl) (by kernel_rfl : (pbits 14 15).setIfInBounds 4 true = pbits 14 31) si_U (fun _ _ _ h => h) rfl rfl rfl rfl (fun _ _ _ _ _ => (rn_move rfl (T.ev 11 rfl))) ?_; clear T ac; intro ac T
                refine g_q (T := T) (i := 5) rfl (by kernel_rfl) (by kernel_rfl : (pbits 14 31).setIfInBounds 5 true = pbits 14 63) si_U (fun _ _ _ h => h) rfl rfl rfl rfl (fun _ _ _ _ _ => (rn_move rfl (T.ev 13 rfl))) ?_; clear T ac; intro ac T
                refine g_q (T := T) (i := 6) rfl (by kernel_rfl) (by kernel_rfl : (pbits 14 63).setIfInBounds 6 true = pbits 14 127) si_U (fun _ _ _ h => h) rfl rfl rfl rfl (fun _ _ _ _ _ => (rn_indexAddr (size := 1) i rfl (T.ev 1 rfl) (T.ev 0 rfl) ⟨_, Try.underlying51, by kernel_rfl⟩ rfl (by omega) (SLL.at0 (by omega)))) ?_; clear T ac; intro ac T
                refine g_q (v := (.slice Av lv.length cv)) (T := T) (i := 7) rfl (by kernel_rfl) (by kernel_rfl : (pbits 14 127).setIfInBounds 7 true = pbits 14 255) si_U (fun _ _ _ h => h) rfl rfl rfl rfl (fun B w' hD hl hS => (rn_cell (Sp.lc0 SLL (show Mem w noEx w' _ from hS) (.cons _ (.cons _ (.cons _ (List.Sublist.trans (List.Sublist.trans (List.Sublist.refl _) (List.sublist_append_left _ _)) (List.sublist_append_left _ _))))) hkv) rfl (T.ev 0 rfl))) ?_; clear T ac; intro ac T
                refine g_w (i := 8) (by kernel_rfl) rfl (by kernel_rfl : (pbits 14 255).setIfInBounds 8 true = pbits 14 511) rfl ?_; intro K hK
                refine ow_call (first := []) (cap := []) T rfl rfl rfl rfl evf (.cons (T.ev 4 rfl) (.cons (T.ev 0 rfl) .nil)) Try.func56 rfl rfl ?_
                refine Calls.mono (rSpoiled_any jx _ _ _ _ _ lv _ (Sx.rd M (.cons _ (.cons _ (.cons _ (List.Sublist.trans (List.Sublist.trans (List.Sublist.refl _) (List.sublist_append_left _ _)) (List.sublist_append_left _ _)))))) (by first | omega | (simp only [List.length_cons, List.length_nil, List.length_set]; omega)) (Sv.rd M (.cons _ (.cons _ (.cons _ (List.Sublist.trans (List.Sublist.trans (List.Sublist.refl _) (List.sublist_append_left _ _)) (List.sublist_append_left _ _)))))) (by first | omega | (simp only [List.length_cons, List.length_nil, List.length_set]; omega))) ?_
                clear T
                rintro e wc ⟨rfl, hb⟩
                intro ac T
                replace M := M.call hb; clear hb
                refine sh_out hK _ _ (M.mask [true, true, true] rfl) ?_; clear hK K
                refine g_q (T := T) (i := 9) rfl (by kernel_rfl) (by kernel_rfl : (pbits 14 511).setIfInBounds 9 true = pbits 14 1023) si_U (fun _ _ _ h => h) rfl rfl rfl rfl (fun _ _ _ _ _ => (rn_move rfl (T.ev 0 rfl))) ?_; clear T ac; intro ac T
                refine g_q (T := T) (i := 10) rfl (by kernel_rfl) (by kernel_rfl : (pbits 14 1023).setIfInBounds 10 true = pbits 14 2047) si_U (fun _ _ _ h => h) rfl rfl rfl rfl (fun _ _ _ _ _ => (rn_extract rfl (T.ev 0 rfl) rfl)) ?_; clear T ac; intro ac T
                refine g_q (T := T) (i := 11) rfl (by kernel_rfl) (by kernel_rfl : (pbits 14 2047).setIfInBounds 11 true = pbits 14 4095) si_U (fun _ _ _ h => h) rfl rfl rfl rfl (fun _ _ _ _ _ => (rn_extract rfl (T.ev 1 rfl) rfl)) ?_; clear T ac; intro ac T
                refine g_q (T := T) (i := 12) rfl (by kernel_rfl) (by kernel_rfl : (pbits 14 4095).setIfInBounds 12 true = pbits 14 8191) si_U (fun _ _ _ h => h) rfl rfl rfl rfl (fun _ _ _ _ _ => (rn_assign rfl (T.ev 1 rfl))) ?_; clear T ac; intro ac T
                refine g_q (T := T) (i := 13) rfl (by kernel_rfl) (by kernel_rfl : (pbits 14 8191).setIfInBounds 13 true = pbits 14 16383) si_U (fun _ _ _ h => h) rfl rfl rfl rfl (fun _ _ _ _ _ => (rn_assign rfl (T.ev 1 rfl))) ?_; clear T ac; intro ac T
                refine g_done (by kernel_rfl) ?_
                replace T := T.pick [0, 1, 14, 15, 16, 17, 18, 19, 20, 21, 22, 23, 24, 25, 26, 27, 28] rfl
                refine nm_then ?_
                refine wp_seq ?_
                refine wp_region_lit ?_
                refine l_q T rfl rfl rfl rfl (rn_rowO (Mem.nth M 2 rfl) rfl (T.ev 11 rfl) rfl) ?_; clear T ac; intro ac T
                refine l_q T rfl rfl rfl rfl (rn_move rfl (T.ev 13 rfl)) ?_; clear T ac; intro ac T
                refine l_w rfl ?_; intro K hK
                refine ow_call (first := []) (cap := []) T rfl rfl rfl rfl evf (.cons (T.ev 1 rfl) (.cons (T.ev 0 rfl) .nil)) Try.func30 rfl rfl ?_
                refine Calls.mono (Fine_any jx _ _ _ _ _ lv _ (Sur12_4.rd M (.cons _ (.cons _ (.cons _ (List.Sublist.trans (List.sublist_append_right _ _) (List.sublist_append_left _ _)))))) (by first | omega | (simp only [List.length_cons, List.length_nil, List.length_set]; omega)) (Sur12_9.rd M (.cons _ (.cons _ (.cons _ (List.sublist_append_right _ _))))) (by first | omega | (simp only [List.length_cons, List.length_nil, List.length_set]; omega))) ?_
                clear T
                rintro e wc ⟨rfl, hb⟩
                intro ac T
                replace M := M.call hb; clear hb
                refine sh_out hK _ _ ?_; clear hK K
                refine l_q T rfl rfl rfl rfl (rn_move rfl (T.ev 0 rfl)) ?_; clear T ac; intro ac T
                refine l_q T rfl rfl rfl rfl (rn_extract rfl (T.ev 0 rfl) rfl) ?_; clear T ac; intro ac T
                refine l_q T rfl rfl rfl rfl (rn_extract rfl (T.ev 1 rfl) rfl) ?_; clear T ac; intro ac T
                refine l_q T rfl rfl rfl rfl (rn_assign rfl (T.ev 1 rfl)) ?_; clear T ac; intro ac T
                refine l_q T rfl rfl rfl rfl (rn_assign rfl (T.ev 1 rfl)) ?_; clear T ac; intro ac T
                refine wpList_nil ?_
                replace T := T.pick [0, 1, 8, 9, 10, 11, 12, 13, 14, 15, 16, 17, 18, 19, 20, 21, 22, 23, 24] rfl
                refine nm_then ?_
                refine wp_seq ?_
                refine g_start2 M (M.mask [true, true, true] rfl) 14 (by kernel_rfl) rfl (by kernel_rfl) ?_
                clear M; intro wc M
                refine g_q (T := T) (i := 0) rfl (by kernel_rfl) (by kernel_rfl : (pbits 14 0).setIfInBounds 0 true = pbits 14 1) si_U (fun _ _ _ h => h) rfl rfl rfl rfl (fun _ _ _ _ _ => (rn_move rfl (T.ev 10 rfl))) ?_; clear T ac; intro ac T
                refine g_q (T := T) (i := 1) rfl (by kernel_rfl) (by kernel_rfl : (pbits 14 1).setIfInBounds 1 true = pbits 14 3) si_U (fun _ _ _ h => h) rfl rfl rfl rfl (fun _ _ _ _ _ => (rn_move rfl (T.ev 13 rfl))) ?_; clear T ac; intro ac T
                refine g_q (T := T) (i := 2) rfl (by kernel_rfl) (by kernel_rfl : (pbits 14 3).setIfInBounds 2 true = pbits 14 7) si_U (fun _ _ _ h => h) rfl rfl rfl rfl (fun _ _ _ _ _ => (rn_indexAddr (size := 18) i rfl (T.ev 1 rfl) (T.ev 0 rfl) ⟨_, Try.underlying36, by kernel_rfl⟩ rfl (by omega) (SJL.at0 (by omega)))) ?_; clear T ac; intro ac T
                refine g_q (v := (.agg #[.int .i64 jx.p0, .int .i64 jx.p1, .int .i64 jx.t0, .int .i64 jx.t1, .int .i64 jx.r0, .int .i64 jx.r1, .int .i64 jx.u0, .int .i64 jx.u1, .int .i64 jx.d0, .int .i64 jx.d1, .int .i64 jx.a0, .int .i64 jx.a1, .int .i64 jx.b0, .int .i64 jx.b1, .int .i64 jx.le, .slice Ax jx.sh.length cx, .int .i64 jx.wi, .int .i64 jx.me])) (T := T) (i := 3) rfl (by kernel_rfl) (by kernel_rfl : (pbits 14 7).setIfInBounds 3 true = pbits 14 15) si_U (fun _ _ _ h => h) rfl rfl rfl rfl (fun B w' hD hl hS => (rn_rowat (Sp.jcR SJL (show Mem w noEx w' _ from hS) (.cons _ (.cons _ (.cons _ (List.Sublist.trans (List.Sublist.trans (List.Sublist.refl _) (List.sublist_append_left _ _)) (List.sublist_append_left _ _))))) hkx) rfl (T.ev 0 rfl) rfl)) ?_; clear T ac; intro ac T
                refine g_q (T := T) (i := 4) rfl (by kernel_rfl) (by kernel_rfl : (pbits 14 15).setIfInBounds 4 true = pbits 14 31) si_U (fun _ _ _ h => h) rfl rfl rfl rfl (fun _ _ _ _ _ => (rn_move rfl (T.ev 15 rfl))) ?_; clear T ac; intro ac T
                refine g_q (T := T) (i := 5) rfl (by kernel_rfl) (by kernel_rfl : (pbits 14 31).setIfInBounds 5 true = pbits 14 63) si_U (fun _ _ _ h => h) rfl rfl rfl rfl (fun _ _ _ _ _ => (rn_move rfl (T.ev 17 rfl))) ?_; clear T ac; intro ac T
                refine g_q (T := T) (i := 6) rfl (by kernel_rfl) (by kernel_rfl : (pbits 14 63).setIfInBounds 6 true = pbits 14 127) si_U (fun _ _ _ h => h) rfl rfl rfl rfl (fun _ _ _ _ _ => (rn_indexAddr (size := 1) i rfl (T.ev 1 rfl) (T.ev 0 rfl) ⟨_, Try.underlying51, by kernel_rfl⟩ rfl (by omega) (SLL.at0 (by omega)))) ?_; clear T ac; intro ac T
                refine g_q (v := (.slice Av lv.length cv)) (T := T) (i := 7) rfl (by kernel_rfl) (by kernel_rfl : (pbits 14 127).setIfInBounds 7 true = pbits 14 255) si_U (fun _ _ _ h => h) rfl rfl rfl rfl (fun B w' hD hl hS => (rn_cell (Sp.lc0 SLL (show Mem w noEx w' _ from hS) (.cons _ (.cons _ (.cons _ (List.Sublist.trans (List.Sublist.trans (List.Sublist.refl _) (List.sublist_append_left _ _)) (List.sublist_append_left _ _))))) hkv) rfl (T.ev 0 rfl))) ?_; clear T ac; intro ac T
                refine g_w (i := 8) (by kernel_rfl) rfl (by kernel_rfl : (pbits 14 255).setIfInBounds 8 true = pbits 14 511) rfl ?_; intro K hK
                refine ow_call (first := []) (cap := []) T rfl rfl rfl rfl evf (.cons (T.ev 4 rfl) (.cons (T.ev 0 rfl) .nil)) Try.func57 rfl rfl ?_
                refine Calls.mono (rFine_T jx _ _ _ _ _ lv _ (Sx.rd M (.cons _ (.cons _ (.cons _ (List.Sublist.trans (List.Sublist.trans (List.Sublist.refl _) (List.sublist_append_left _ _)) (List.sublist_append_left _ _)))))) (by first | omega | (simp only [List.length_cons, List.length_nil, List.length_set]; omega)) (Sv.rd M (.cons _ (.cons _ (.cons _ (List.Sublist.trans (List.Sublist.trans (List.Sublist.refl _) (List.sublist_append_left _ _)) (List.sublist_append_left _ _)))))) (by first | omega | (simp only [List.length_cons, List.length_nil, List.length_set]; omega))) ?_
                clear T
                rintro e wc ⟨rfl, hb⟩
                intro ac T
                replace M := M.call hb; clear hb
                refine sh_out hK _ _ (M.mask [true, true, true] rfl) ?_; clear hK K
                refine g_q (T := T) (i := 9) rfl (by kernel_rfl) (by kernel_rfl : (pbits 14 511).setIfInBounds 9 true = pbits 14 1023) si_U (fun _ _ _ h => h) rfl rfl rfl rfl (fun _ _ _ _ _ => (rn_move rfl (T.ev 0 rfl))) ?_; clear T ac; intro ac T
                refine g_q (T := T) (i := 10) rfl (by kernel_rfl) (by kernel_rfl : (pbits 14 1023).setIfInBounds 10 true = pbits 14 2047) si_U (fun _ _ _ h => h) rfl rfl rfl rfl (fun _ _ _ _ _ => (rn_extract rfl (T.ev 0 rfl) rfl)) ?_; clear T ac; intro ac T
                refine g_q (T := T) (i := 11) rfl (by kernel_rfl) (by kernel_rfl : (pbits 14 2047).setIfInBounds 11 true = pbits 14 4095) si_U (fun _ _ _ h => h) rfl rfl rfl rfl (fun _ _ _ _ _ => (rn_extract rfl (T.ev 1 rfl) rfl)) ?_; clear T ac; intro ac T
                refine g_q (T := T) (i := 12) rfl (by kernel_rfl) (by kernel_rfl : (pbits 14 4095).setIfInBounds 12 true = pbits 14 8191) si_U (fun _ _ _ h => h) rfl rfl rfl rfl (fun _ _ _ _ _ => (rn_assign rfl (T.ev 1 rfl))) ?_; clear T ac; intro ac T
                refine g_q (T := T) (i := 13) rfl (by kernel_rfl) (by kernel_rfl : (pbits 14 8191).setIfInBounds 13 true = pbits 14 16383) si_U (fun _ _ _ h => h) rfl rfl rfl rfl (fun _ _ _ _ _ => (rn_assign rfl (T.ev 1 rfl))) ?_; clear T ac; intro ac T
                refine g_done (by kernel_rfl) ?_
                replace T := T.pick [0, 1, 14, 15, 16, 17, 18, 19, 20, 21, 22, 23, 24, 25, 26, 27, 28, 29, 30, 31, 32] rfl
                refine nm_then ?_
                refine wp_seq ?_
                refine g_start2 M (M.mask [true, true, true] rfl) 56 (by kernel_rfl) rfl (by kernel_rfl) ?_
                clear M; intro wc M
                refine g_q (T := T) (i := 0) rfl (by kernel_rfl) (by kernel_rfl : (pbits 56 0).setIfInBounds 0 true = pbits 56 1) si_U (fun _ _ _ h => h) rfl rfl rfl rfl (fun B w' hD hl hS => (rn_rowO (Mem.nth (show Mem w noEx w' _ from hS) 1 rfl) rfl (T.ev 17 rfl) rfl)) ?_; clear T ac; intro ac T
                refine g_q (T := T) (i := 1) rfl (by kernel_rfl) (by kernel_rfl : (pbits 56 1).setIfInBounds 1 true = pbits 56 3) si_U (fun _ _ _ h => h) rfl rfl rfl rfl (fun B w' hD hl hS => (rn_rowO (Mem.nth (show Mem w noEx w' _ from hS) 0 rfl) rfl (T.ev 20 rfl) rfl)) ?_; clear T ac; intro ac T
                refine g_q (v := (.bool false)) (T := T) (i := 2) rfl (by kernel_rfl) (by kernel_rfl : (pbits 56 3).setIfInBounds 2 true = pbits 56 7) si_U (fun _ _ _ h => h) rfl rfl rfl rfl (fun _ _ _ _ _ => (rn_neqof (rn_bin rfl (T.ev 1 rfl) (T.ev 0 rfl) neT25) (by simp))) ?_; clear T ac; intro ac T
                refine g_q (T := T) (i := 3) rfl (by kernel_rfl) (by kernel_rfl : (pbits 56 7).setIfInBounds 3 true = pbits 56 15) si_U (fun _ _ _ h => h) rfl rfl rfl rfl (fun _ _ _ _ _ => (rn_move rfl (T.ev 0 rfl))) ?_; clear T ac; intro ac T
                refine g_q (T := T) (i := 4) rfl (by kernel_rfl) (by kernel_rfl : (pbits 56 15).setIfInBounds 4 true = pbits 56 31) si_U (fun _ _ _ h => h) (wanted_yes rfl rfl (T.ev 0 rfl) rfl) rfl rfl rfl (fun _ _ _ _ _ => (rn_move rfl (T.ev 22 rfl))) ?_; clear T ac; intro ac T
                refine g_q (T := T) (i := 5) rfl (by kernel_rfl) (by kernel_rfl : (pbits 56 31).setIfInBounds 5 true = pbits 56 63) si_U (fun _ _ _ h => h) (wanted_yes rfl rfl (T.ev 1 rfl) rfl) rfl rfl rfl (fun _ _ _ _ _ => (rn_move rfl (T.ev 25 rfl))) ?_; clear T ac; intro ac T
                refine g_q (v := (.bool false)) (T := T) (i := 6) rfl (by kernel_rfl) (by kernel_rfl : (pbits 56 63).setIfInBounds 6 true = pbits 56 127) si_U (fun _ _ _ h => h) (wanted_yes rfl rfl (T.ev 2 rfl) rfl) rfl rfl rfl (fun _ _ _ _ _ => (rn_neqof (rn_neq rfl (T.ev 1 rfl) (T.ev 0 rfl)) (by simp))) ?_; clear T ac; intro ac T
                refine g_q (T := T) (i := 7) rfl (by kernel_rfl) (by kernel_rfl : (pbits 56 127).setIfInBounds 7 true = pbits 56 255) si_U (fun _ _ _ h => h) rfl rfl rfl rfl (fun _ _ _ _ _ => (rn_pick0 rfl (T.ev 3 rfl) rfl (T.ev 0 rfl))) ?_; clear T ac; intro ac T
                refine g_q (T := T) (i := 8) rfl (by kernel_rfl) (by kernel_rfl : (pbits 56 255).setIfInBounds 8 true = pbits 56 511) si_U (fun _ _ _ h => h) rfl rfl rfl rfl (fun _ _ _ _ _ => (rn_move rfl (T.ev 0 rfl))) ?_; clear T ac; intro ac T
                refine g_q (T := T) (i := 9) rfl (by kernel_rfl) (by kernel_rfl : (pbits 56 511).setIfInBounds 9 true = pbits 56 1023) si_U (fun _ _ _ h => h) (wanted_yes rfl rfl (T.ev 0 rfl) rfl) rfl rfl rfl (fun _ _ _ _ _ => (rn_move rfl (T.ev 20 rfl))) ?_; clear T ac; intro ac T
                refine g_q (T := T) (i := 10) rfl (by kernel_rfl) (by kernel_rfl : (pbits 56 1023).setIfInBounds 10 true = pbits 56 2047) si_U (fun _ _ _ h => h) (wanted_yes rfl rfl (T.ev 1 rfl) rfl) rfl rfl rfl (fun _ _ _ _ _ => (rn_move rfl (T.ev 19 rfl))) ?_; clear T ac; intro ac T
                refine g_q (v := (.bool false)) (T := T) (i := 11) rfl (by kernel_rfl) (by kernel_rfl : (pbits 56 2047).setIfInBounds 11 true = pbits 56 4095) si_U (fun _ _ _ h => h) (wanted_yes rfl rfl (T.ev 2 rfl) rfl) rfl rfl rfl (fun _ _ _ _ _ => (rn_neqof (rn_neq rfl (T.ev 1 rfl) (T.ev 0 rfl)) (by simp))) ?_; clear T ac; intro ac T
                refine g_q (T := T) (i := 12) rfl (by kernel_rfl) (by kernel_rfl : (pbits 56 4095).setIfInBounds 12 true = pbits 56 8191) si_U (fun _ _ _ h => h) rfl rfl rfl rfl (fun _ _ _ _ _ => (rn_pick0 rfl (T.ev 3 rfl) rfl (T.ev 0 rfl))) ?_; clear T ac; intro ac T
                refine g_q (T := T) (i := 13) rfl (by kernel_rfl) (by kernel_rfl : (pbits 56 8191).setIfInBounds 13 true = pbits 56 16383) si_U (fun _ _ _ h => h) rfl rfl rfl rfl (fun _ _ _ _ _ => (rn_move rfl (T.ev 0 rfl))) ?_; clear T ac; intro ac T
                refine g_q (T := T) (i := 14) rfl (by kernel_rfl) (by kernel_rfl : (pbits 56 16383).setIfInBounds 14 true = pbits 56 32767) si_U (fun _ _ _ h => h) (wanted_yes rfl rfl (T.ev 0 rfl) rfl) rfl rfl rfl (fun _ _ _ _ _ => (rn_move rfl (T.ev 24 rfl))) ?_; clear T ac; intro ac T
                refine g_q (T := T) (i := 15) rfl (by kernel_rfl) (by kernel_rfl : (pbits 56 32767).setIfInBounds 15 true = pbits 56 65535) si_U (fun _ _ _ h => h) (wanted_yes rfl rfl (T.ev 1 rfl) rfl) rfl rfl rfl (fun _ _ _ _ _ => (rn_move rfl (T.ev 23 rfl))) ?_; clear T ac; intro ac T
                refine g_q (v := (.bool false)) (T := T) (i := 16) rfl (by kernel_rfl) (by kernel_rfl : (pbits 56 65535).setIfInBounds 16 true = pbits 56 131071) si_U (fun _ _ _ h => h) (wanted_yes rfl rfl (T.ev 2 rfl) rfl) rfl rfl rfl (fun _ _ _ _ _ => (rn_neqof (rn_neq rfl (T.ev 1 rfl) (T.ev 0 rfl)) (by simp))) ?_; clear T ac; intro ac T
                refine g_q (T := T) (i := 17) rfl (by kernel_rfl) (by kernel_rfl : (pbits 56 131071).setIfInBounds 17 true = pbits 56 262143) si_U (fun _ _ _ h => h) rfl rfl rfl rfl (fun _ _ _ _ _ => (rn_pick0 rfl (T.ev 3 rfl) rfl (T.ev 0 rfl))) ?_; clear T ac; intro ac T
                refine g_q (T := T) (i := 18) rfl (by kernel_rfl) (by kernel_rfl : (pbits 56 262143).setIfInBounds 18 true = pbits 56 524287) si_U (fun _ _ _ h => h) rfl rfl rfl rfl (fun _ _ _ _ _ => (rn_move rfl (T.ev 0 rfl))) ?_; clear T ac; intro ac T
                refine g_q (T := T) (i := 19) rfl (by kernel_rfl) (by kernel_rfl : (pbits 56 524287).setIfInBounds 19 true = pbits 56 1048575) si_U (fun _ _ _ h => h) (wanted_yes rfl rfl (T.ev 0 rfl) rfl) rfl rfl rfl (fun _ _ _ _ _ => (rn_move rfl (T.ev 26 rfl))) ?_; clear T ac; intro ac T
                refine g_q (T := T) (i := 20) rfl (by kernel_rfl) (by kernel_rfl : (pbits 56 1048575).setIfInBounds 20 true = pbits 56 2097151) si_U (fun _ _ _ h => h) (wanted_yes rfl rfl (T.ev 1 rfl) rfl) rfl rfl rfl (fun _ _ _ _ _ => (rn_move rfl (T.ev 25 rfl))) ?_; clear T ac; intro ac T
                refine g_q (v := (.bool false)) (T := T) (i := 21) rfl (by kernel_rfl) (by kernel_rfl : (pbits 56 2097151).setIfInBounds 21 true = pbits 56 4194303) si_U (fun _ _ _ h => h) (wanted_yes rfl rfl (T.ev 2 rfl) rfl) rfl rfl rfl (fun _ _ _ _ _ => (rn_neqof (rn_neq rfl (T.ev 1 rfl) (T.ev 0 rfl)) (by simp))) ?_; clear T ac; intro ac T
                refine g_q (T := T) (i := 22) rfl (by kernel_rfl) (by kernel_rfl : (pbits 56 4194303).setIfInBounds 22 true = pbits 56 8388607) si_U (fun _ _ _ h => h) rfl rfl rfl rfl (fun _ _ _ _ _ => (rn_pick0 rfl (T.ev 3 rfl) rfl (T.ev 0 rfl))) ?_; clear T ac; intro ac T
                refine g_q (T := T) (i := 23) rfl (by kernel_rfl) (by kernel_rfl : (pbits 56 8388607).setIfInBounds 23 true = pbits 56 16777215) si_U (fun _ _ _ h => h) rfl rfl rfl rfl (fun _ _ _ _ _ => (rn_move rfl (T.ev 0 rfl))) ?_; clear T ac; intro ac T
                refine g_q (T := T) (i := 24) rfl (by kernel_rfl) (by kernel_rfl : (pbits 56 16777215).setIfInBounds 24 true = pbits 56 33554431) si_U (fun _ _ _ h => h) (wanted_yes rfl rfl (T.ev 0 rfl) rfl) rfl rfl rfl (fun _ _ _ _ _ => (rn_move rfl (T.ev 30 rfl))) ?_; clear T ac; intro ac T
                refine g_q (T := T) (i := 25) rfl (by kernel_rfl) (by kernel_rfl : (pbits 56 33554431).setIfInBounds 25 true = pbits 56 67108863) si_U (fun _ _ _ h => h) (wanted_yes rfl rfl (T.ev 1 rfl) rfl) rfl rfl rfl (fun _ _ _ _ _ => (rn_move rfl (T.ev 29 rfl))) ?_; clear T ac; intro ac T
                refine g_q (v := (.bool false)) (T := T) (i := 26) rfl (by kernel_rfl) (by kernel_rfl : (pbits 56 67108863).setIfInBounds 26 true = pbits 56 134217727) si_U (fun _ _ _ h => h) (wanted_yes rfl rfl (T.ev 2 rfl) rfl) rfl rfl rfl (fun _ _ _ _ _ => (rn_neqof (rn_neq rfl (T.ev 1 rfl) (T.ev 0 rfl)) (by simp))) ?_; clear T ac; intro ac T
                refine g_q (T := T) (i := 27) rfl (by kernel_rfl) (by kernel_rfl : (pbits 56 134217727).setIfInBounds 27 true = pbits 56 268435455) si_U (fun _ _ _ h => h) rfl rfl rfl rfl (fun _ _ _ _ _ => (rn_pick0 rfl (T.ev 3 rfl) rfl (T.ev 0 rfl))) ?_; clear T ac; intro ac T
                refine g_q (T := T) (i := 28) rfl (by kernel_rfl) (by kernel_rfl : (pbits 56 268435455).setIfInBounds 28 true = pbits 56 536870911) si_U (fun _ _ _ h => h) rfl rfl rfl rfl (fun _ _ _ _ _ => (rn_move rfl (T.ev 0 rfl))) ?_; clear T ac; intro ac T
                refine g_q (T := T) (i := 29) rfl (by kernel_rfl) (by kernel_rfl : (pbits 56 536870911).setIfInBounds 29 true = pbits 56 1073741823) si_U (fun _ _ _ h => h) (wanted_yes rfl rfl (T.ev 0 rfl) rfl) rfl rfl rfl (fun _ _ _ _ _ => (rn_move rfl (T.ev 32 rfl))) ?_; clear T ac; intro ac T
                refine g_q (T := T) (i := 30) rfl (by kernel_rfl) (by kernel_rfl : (pbits 56 1073741823).setIfInBounds 30 true = pbits 56 2147483647) si_U (fun _ _ _ h => h) (wanted_yes rfl rfl (T.ev 1 rfl) rfl) rfl rfl rfl (fun _ _ _ _ _ => (rn_move rfl (T.ev 31 rfl))) ?_; clear T ac; intro ac T
                refine g_q (v := (.bool false)) (T := T) (i := 31) rfl (by kernel_rfl) (by kernel_rfl : (pbits 56 2147483647).setIfInBounds 31 true = pbits 56 4294967295) si_U (fun _ _ _ h => h) (wanted_yes rfl rfl (T.ev 2 rfl) rfl) rfl rfl rfl (fun _ _ _ _ _ => (rn_neqof (rn_neq rfl (T.ev 1 rfl) (T.ev 0 rfl)) (by simp))) ?_; clear T ac; intro ac T
                refine g_q (T := T) (i := 32) rfl (by kernel_rfl) (by kernel_rfl : (pbits 56 4294967295).setIfInBounds 32 true = pbits 56 8589934591) si_U (fun _ _ _ h => h) rfl rfl rfl rfl (fun _ _ _ _ _ => (rn_pick0 rfl (T.ev 3 rfl) rfl (T.ev 0 rfl))) ?_; clear T ac; intro ac T
                refine g_q (T := T) (i := 33) rfl (by kernel_rfl) (by kernel_rfl : (pbits 56 8589934591).setIfInBounds 33 true = pbits 56 17179869183) si_U (fun _ _ _ h => h) rfl rfl rfl rfl (fun _ _ _ _ _ => (rn_move rfl (T.ev 0 rfl))) ?_; clear T ac; intro ac T
                refine g_q (T := T) (i := 34) rfl (by kernel_rfl) (by kernel_rfl : (pbits 56 17179869183).setIfInBounds 34 true = pbits 56 34359738367) si_U (fun _ _ _ h => h) (wanted_yes rfl rfl (T.ev 0 rfl) rfl) rfl rfl rfl (fun _ _ _ _ _ => (rn_move rfl (T.ev 36 rfl))) ?_; clear T ac; intro ac T
                refine g_q (T := T) (i := 35) rfl (by kernel_rfl) (by kernel_rfl : (pbits 56 34359738367).setIfInBounds 35 true = pbits 56 68719476735) si_U (fun _ _ _ h => h) (wanted_yes rfl rfl (T.ev 1 rfl) rfl) rfl rfl rfl (fun _ _ _ _ _ => (rn_move rfl (T.ev 35 rfl))) ?_; clear T ac; intro ac T
                refine g_q (v := (.bool false)) (T := T) (i := 36) rfl (by kernel_rfl) (by kernel_rfl : (pbits 56 68719476735).setIfInBounds 36 true = pbits 56 137438953471) si_U (fun _ _ _ h => h) (wanted_yes rfl rfl (T.ev 2 rfl) rfl) rfl rfl rfl (fun _ _ _ _ _ => (rn_neqof (rn_neq rfl (T.ev 1 rfl) (T.ev 0 rfl)) (by simp))) ?_; clear T ac; intro ac T
                refine g_q (T := T) (i := 37) rfl (by kernel_rfl) (by kernel_rfl : (pbits 56 137438953471).setIfInBounds 37 true = pbits 56 274877906943) si_U (fun _ _ _ h => h) rfl rfl rfl rfl (fun _ _ _ _ _ => (rn_pick0 rfl (T.ev 3 rfl) rfl (T.ev 0 rfl))) ?_; clear T ac; intro ac T
                refine g_q (T := T) (i := 38) rfl (by kernel_rfl) (by kernel_rfl : (pbits 56 274877906943).setIfInBounds 38 true = pbits 56 549755813887) si_U (fun _ _ _ h => h) rfl rfl rfl rfl (fun _ _ _ _ _ => (rn_move rfl (T.ev 0 rfl))) ?_; clear T ac; intro ac T
                refine g_q (T := T) (i := 39) rfl (by kernel_rfl) (by kernel_rfl : (pbits 56 549755813887).setIfInBounds 39 true = pbits 56 1099511627775) si_U (fun _ _ _ h => h) (wanted_yes rfl rfl (T.ev 0 rfl) rfl) rfl rfl rfl (fun B w' hD hl hS => (rn_rowO (Mem.nth (show Mem w noEx w' _ from hS) 2 rfl) rfl (T.ev 54 rfl) rfl)) ?_; clear T ac; intro ac T
                refine g_q (T := T) (i := 40) rfl (by kernel_rfl) (by kernel_rfl : (pbits 56 1099511627775).setIfInBounds 40 true = pbits 56 2199023255551) si_U (fun _ _ _ h => h) (wanted_yes rfl rfl (T.ev 1 rfl) rfl) rfl rfl rfl (fun _ _ _ _ _ => (rn_move rfl (T.ev 52 rfl))) ?_; clear T ac; intro ac T
                refine g_q (T := T) (i := 41) rfl (by kernel_rfl) (by kernel_rfl : (pbits 56 2199023255551).setIfInBounds 41 true = pbits 56 4398046511103) si_U (fun _ _ _ h => h) (wanted_yes rfl rfl (T.ev 2 rfl) rfl) rfl rfl rfl (fun _ _ _ _ _ => (rn_move rfl (T.ev 55 rfl))) ?_; clear T ac; intro ac T
                refine g_q (T := T) (i := 42) rfl (by kernel_rfl) (by kernel_rfl : (pbits 56 4398046511103).setIfInBounds 42 true = pbits 56 8796093022207) si_U (fun _ _ _ h => h) (wanted_yes rfl rfl (T.ev 3 rfl) rfl) rfl rfl rfl (fun _ _ _ _ _ => (rn_indexAddr (size := 18) i rfl (T.ev 1 rfl) (T.ev 0 rfl) ⟨_, Try.underlying36, by kernel_rfl⟩ rfl (by omega) (SJL.at0 (by omega)))) ?_; clear T ac; intro ac T
                refine g_q (v := (.agg #[.int .i64 jx.p0, .int .i64 jx.p1, .int .i64 jx.t0, .int .i64 jx.t1, .int .i64 jx.r0, .int .i64 jx.r1, .int .i64 jx.u0, .int .i64 jx.u1, .int .i64 jx.d0, .int .i64 jx.d1, .int .i64 jx.a0, .int .i64 jx.a1, .int .i64 jx.b0, .int .i64 jx.b1, .int .i64 jx.le, .slice Ax jx.sh.length cx, .int .i64 jx.wi, .int .i64 jx.me])) (T := T) (i := 43) rfl (by kernel_rfl) (by kernel_rfl : (pbits 56 8796093022207).setIfInBounds 43 true = pbits 56 17592186044415) si_U (fun _ _ _ h => h) (wanted_yes rfl rfl (T.ev 4 rfl) rfl) rfl rfl rfl (fun B w' hD hl hS => (rn_rowat (Sp.jcR SJL (show Mem w noEx w' _ from hS) (.cons _ (.cons _ (.cons _ (List.Sublist.trans (List.Sublist.trans (List.Sublist.refl _) (List.sublist_append_left _ _)) (List.sublist_append_left _ _))))) hkx) rfl (T.ev 0 rfl) rfl)) ?_; clear T ac; intro ac T
                refine g_w (i := 44) (by kernel_rfl) rfl (by kernel_rfl : (pbits 56 17592186044415).setIfInBounds 44 true = pbits 56 35184372088831) (wanted_yes rfl rfl (T.ev 5 rfl) rfl) ?_; intro K hK
                refine ow_call (first := []) (cap := []) T rfl rfl rfl rfl evf (.cons (T.ev 4 rfl) (.cons (T.ev 0 rfl) .nil)) Try.func22 rfl rfl ?_
                refine Calls.mono (sameJobs_same jx _ _ _ _ _ (Sur12_4.rd M (.cons _ (.cons _ (.cons _ (List.Sublist.trans (List.sublist_append_right _ _) (List.sublist_append_left _ _)))))) (Sx.rd M (.cons _ (.cons _ (.cons _ (List.Sublist.trans (List.Sublist.trans (List.Sublist.refl _) (List.sublist_append_left _ _)) (List.sublist_append_left _ _)))))) (by omega)) ?_
                clear T
                rintro e wc ⟨rfl, hb⟩
                intro ac T
                replace M := M.call hb; clear hb
                refine sh_out hK _ _ (M.mask [true, true, true] rfl) ?_; clear hK K
                refine g_addU M ?_
                refine g_q (v := (.bool false)) (T := T) (i := 45) rfl (by kernel_rfl) (by kernel_rfl : (pbits 56 35184372088831).setIfInBounds 45 true = pbits 56 70368744177663) (si_and si_U si_U) (fun _ _ _ h => h) (wanted_yes rfl rfl (T.ev 6 rfl) rfl) rfl rfl rfl (fun _ _ _ _ _ => (rn_neqof (rn_not rfl (T.ev 0 rfl)) (by simp))) ?_; clear T ac; intro ac T
                refine g_q (T := T) (i := 46) rfl (by kernel_rfl) (by kernel_rfl : (pbits 56 70368744177663).setIfInBounds 46 true = pbits 56 140737488355327) (si_and si_U si_U) (fun _ _ _ h => h) rfl rfl rfl rfl (fun _ _ _ _ _ => (rn_pick0 rfl (T.ev 7 rfl) rfl (T.ev 0 rfl))) ?_; clear T ac; intro ac T
                refine g_q (T := T) (i := 47) rfl (by kernel_rfl) (by kernel_rfl : (pbits 56 140737488355327).setIfInBounds 47 true = pbits 56 281474976710655) (si_and si_U si_U) (fun _ _ _ h => h) rfl rfl rfl rfl (fun _ _ _ _ _ => (rn_move rfl (T.ev 0 rfl))) ?_; clear T ac; intro ac T
                refine g_q (T := T) (i := 48) rfl (by kernel_rfl) (by kernel_rfl : (pbits 56 281474976710655).setIfInBounds 48 true = pbits 56 562949953421311) (si_and si_U si_U) (fun _ _ _ h => h) (wanted_yes rfl rfl (T.ev 0 rfl) rfl) rfl rfl rfl (fun _ _ _ _ _ => (rn_move rfl (T.ev 64 rfl))) ?_; clear T ac; intro ac T
                refine g_q (T := T) (i := 49) rfl (by kernel_rfl) (by kernel_rfl : (pbits 56 562949953421311).setIfInBounds 49 true = pbits 56 1125899906842623) (si_and si_U si_U) (fun _ _ _ h => h) (wanted_yes rfl rfl (T.ev 1 rfl) rfl) rfl rfl rfl (fun _ _ _ _ _ => (rn_move rfl (T.ev 62 rfl))) ?_; clear T ac; intro ac T
                refine g_q (T := T) (i := 50) rfl (by kernel_rfl) (by kernel_rfl : (pbits 56 1125899906842623).setIfInBounds 50 true = pbits 56 2251799813685247) (si_and si_U si_U) (fun _ _ _ h => h) (wanted_yes rfl rfl (T.ev 2 rfl) rfl) rfl rfl rfl (fun _ _ _ _ _ => (rn_move rfl (T.ev 64 rfl))) ?_; clear T ac; intro ac T
                refine g_q (T := T) (i := 51) rfl (by kernel_rfl) (by kernel_rfl : (pbits 56 2251799813685247).setIfInBounds 51 true = pbits 56 4503599627370495) (si_and si_U si_U) (fun _ _ _ h => h) (wanted_yes rfl rfl (T.ev 3 rfl) rfl) rfl rfl rfl (fun _ _ _ _ _ => (rn_indexAddr (size := 1) i rfl (T.ev 1 rfl) (T.ev 0 rfl) ⟨_, Try.underlying51, by kernel_rfl⟩ rfl (by omega) (SLL.at0 (by omega)))) ?_; clear T ac; intro ac T
                refine g_q (v := (.slice Av lv.length cv)) (T := T) (i := 52) rfl (by kernel_rfl) (by kernel_rfl : (pbits 56 4503599627370495).setIfInBounds 52 true = pbits 56 9007199254740991) (si_and si_U si_U) (fun _ _ _ h => h) (wanted_yes rfl rfl (T.ev 4 rfl) rfl) rfl rfl rfl (fun B w' hD hl hS => (rn_cell (Sp.lc0 SLL (show Mem w noEx w' _ from (MA.lft hS)) (.cons _ (.cons _ (.cons _ (List.Sublist.trans (List.Sublist.trans (List.Sublist.refl _) (List.sublist_append_left _ _)) (List.sublist_append_left _ _))))) hkv) rfl (T.ev 0 rfl))) ?_; clear T ac; intro ac T
                refine g_w (i := 53) (by kernel_rfl) rfl (by kernel_rfl : (pbits 56 9007199254740991).setIfInBounds 53 true = pbits 56 18014398509481983) (wanted_yes rfl rfl (T.ev 5 rfl) rfl) ?_; intro K hK
                refine ow_call (first := []) (cap := []) T rfl rfl rfl rfl evf (.cons (T.ev 4 rfl) (.cons (T.ev 0 rfl) .nil)) Try.func21 rfl rfl ?_
                refine Calls.mono (sameInts_same _ _ _ _ _ _ lv _ (Sur12_9.rd M (.cons _ (.cons _ (.cons _ (List.sublist_append_right _ _))))) (Sv.rd M (.cons _ (.cons _ (.cons _ (List.Sublist.trans (List.Sublist.trans (List.Sublist.refl _) (List.sublist_append_left _ _)) (List.sublist_append_left _ _)))))) (by first | omega | decide | (simp; omega)) (by first | omega | decide | (simp; omega))) ?_
                clear T
                rintro e wc ⟨rfl, hb⟩
                intro ac T
                replace M := M.call hb; clear hb
                refine sh_out hK _ _ (MA.mk (M.mask [true, true, true] rfl) (M.mask [true, true, true] rfl)) ?_; clear hK K
                refine g_q (v := (.bool false)) (T := T) (i := 54) rfl (by kernel_rfl) (by kernel_rfl : (pbits 56 18014398509481983).setIfInBounds 54 true = pbits 56 36028797018963967) (si_and si_U si_U) (fun _ _ _ h => h) (wanted_yes rfl rfl (T.ev 6 rfl) rfl) rfl rfl rfl (fun _ _ _ _ _ => (rn_neqof (rn_not rfl (T.ev 0 rfl)) (by simp))) ?_; clear T ac; intro ac T
                refine g_q (T := T) (i := 55) rfl (by kernel_rfl) (by kernel_rfl : (pbits 56 36028797018963967).setIfInBounds 55 true = pbits 56 72057594037927935) (si_and si_U si_U) (fun _ _ _ h => h) rfl rfl rfl rfl (fun _ _ _ _ _ => (rn_pick0 rfl (T.ev 7 rfl) rfl (T.ev 0 rfl))) ?_; clear T ac; intro ac T
                refine g_done (by kernel_rfl) ?_
                replace T := T.pick [0, 1, 2, 3, 4, 5, 6, 7, 10, 11, 12, 13, 14, 15, 16, 19, 20, 21, 24, 25, 26, 29, 30, 31, 34, 35, 36, 39, 40, 41, 44, 45, 46, 49, 50, 51, 68, 69, 70] rfl
                replace M := M.mask [false, false, false] rfl
                refine nm_then ?_
                refine wp_cond_false (T.ev 0 rfl) ?_
                refine wp_skip ?_
                refine nm_blk ?_
                refine nm_then ?_
                refine wp_region_lit ?_
                refine l_q T rfl rfl rfl rfl (rn_move rfl (T.ev 38 rfl)) ?_; clear T ac; intro ac T
                refine l_q T rfl rfl rfl rfl (rn_add rfl (T.ev 0 rfl) evc (by omega)) ?_; clear T ac; intro ac T
                refine l_q (v := (.int .i64 ((i : Int) + 1))) (T.pick [0, 1, 2, 3, 4, 5, 6, 7, 8, 9, 10, 11, 12, 13, 14, 15, 16, 17, 18, 19, 20, 21, 22, 23, 24, 25, 26, 27, 28, 29, 30, 31, 32, 33, 34, 35, 36, 37, 38, 39] rfl) rfl rfl rfl rfl (rn_assign rfl (T.ev 0 rfl)) ?_; clear T ac; intro ac T
                refine wpList_nil ?_
                replace T := T.pick [0, 4, 5, 6, 7, 8, 9, 10, 11, 12, 13, 14, 15, 16, 17, 18, 19, 20, 21, 22, 23, 24, 25, 26, 27, 28, 29, 30, 31, 32, 33, 34, 35, 36, 37, 38, 39, 40] rfl
                refine nm_then ?_
                exact ⟨_, by omega, i + 1, rfl, T.pick [36, 37, 0] rfl, (M.mask [] rfl).sub (List.Sublist.trans (List.Sublist.trans (List.Sublist.refl _) (List.sublist_append_left _ _)) (List.sublist_append_left _ _))⟩
            · refine g_i rfl (by kernel_rfl : (pbits 13 511).setIfInBounds 10 true = pbits 13 1535) rfl ?_; intro K hK
              refine ow_al M T rfl rfl rfl rfl ?_; clear M T; intro gr12_10 wc ac M T
              refine sh_out hK _ _ ((M.mask [false] rfl).sub (List.sublist_append_left _ _)) ?_; clear hK K
              refine g_w (i := 9) (by kernel_rfl) rfl (by kernel_rfl : (pbits 13 1535).setIfInBounds 9 true = pbits 13 2047) rfl ?_; intro K hK
              refine ow_call (first := []) (cap := []) T rfl rfl rfl rfl evf (.cons (T.ev 2 rfl) .nil) Try.func53 rfl rfl ?_
              refine Calls.mono (ints_own _ _ lv _ (Sv.rd M (.cons _ (List.Sublist.trans (List.Sublist.refl _) (List.sublist_append_left _ _)))) (by first | omega | (simp only [List.length_cons, List.length_nil, List.length_set]; omega))) ?_
              clear T
              rintro e wc ⟨Aur12_9, cur12_9, Iur12_9, rfl, hsmur12_9, N⟩
              intro ac T
              obtain ⟨bur12_9, our12_9, Sur12_9⟩ := hsmur12_9.sp (w := w) (ex := noEx) (by simp [ic_length])
              replace M := (M.join N).swapI
              replace M := M.mask [true] rfl
              clear N hsmur12_9
              refine sh_out hK _ _ ((M.mask [false] rfl).sub (List.Sublist.trans (List.sublist_append_left _ _) (List.sublist_append_left _ _))) ?_; clear hK K
              refine g_w (i := 11) (by kernel_rfl) rfl (by kernel_rfl : (pbits 13 2047).setIfInBounds 11 true = pbits 13 4095) rfl ?_; intro K hK
              refine ow_stO M T rfl rfl (T.ev 1 rfl) (T.ev 2 rfl) rfl .head rfl (by simp) rfl (by kernel_rfl) ?_; clear M T; intro wc ac M T
              refine sh_out hK _ _ ((M.mask [false] rfl).sub (List.Sublist.trans (List.sublist_append_left _ _) (List.sublist_append_left _ _))) ?_; clear hK K
              refine g_q (T := T) (i := 12) rfl (by kernel_rfl) (by kernel_rfl : (pbits 13 4095).setIfInBounds 12 true = pbits 13 8191) si_U (fun _ _ _ h => h) rfl rfl rfl rfl (fun _ _ _ _ _ => (rn_assign rfl (T.ev 0 rfl))) ?_; clear T ac; intro ac T
              refine g_done (by kernel_rfl) ?_
              replace T := T.pick [0, 2, 13, 14, 15] rfl
              refine nm_then ?_
              refine wp_seq ?_
              refine wp_region_lit ?_
              refine l_q T rfl rfl rfl rfl (rn_rowO (Mem.nth M 0 rfl) rfl (T.ev 1 rfl) rfl) ?_; clear T ac; intro ac T
              refine l_q T rfl rfl rfl rfl (rn_move rfl (T.ev 1 rfl)) ?_; clear T ac; intro ac T
              refine l_w rfl ?_; intro K hK
              refine ow_call (first := []) (cap := []) T rfl rfl rfl rfl evf (.cons (T.ev 1 rfl) (.cons (T.ev 0 rfl) .nil)) Try.func34 rfl rfl ?_
              refine Calls.mono (After_T jx _ _ _ _ _ lv _ (Sur12_4.rd M (.cons _ (List.Sublist.trans (List.sublist_append_right _ _) (List.sublist_append_left _ _)))) (by first | omega | (simp only [List.length_cons, List.length_nil, List.length_set]; omega)) (Sur12_9.rd M (.cons _ (List.sublist_append_right _ _))) (by first | omega | (simp only [List.length_cons, List.length_nil, List.length_set]; omega))) ?_
              clear T
              rintro e wc ⟨rfl, hb⟩
              intro ac T
              replace M := M.call hb; clear hb
              refine sh_out hK _ _ ?_; clear hK K
              refine l_q T rfl rfl rfl rfl (rn_move rfl (T.ev 0 rfl)) ?_; clear T ac; intro ac T
              refine l_q T rfl rfl rfl rfl (rn_extract rfl (T.ev 0 rfl) rfl) ?_; clear T ac; intro ac T
              refine l_q T rfl rfl rfl rfl (rn_extract rfl (T.ev 1 rfl) rfl) ?_; clear T ac; intro ac T
              refine l_w rfl ?_; intro K hK
              refine ow_al M T rfl rfl rfl rfl ?_; clear M T; intro g7 wc ac M T
              refine sh_out hK _ _ ?_; clear hK K
              refine l_w rfl ?_; intro K hK
              refine ow_stO M T rfl rfl (T.ev 0 rfl) (T.ev 2 rfl) rfl .head rfl (by simp) rfl (by kernel_rfl) ?_; clear M T; intro wc ac M T
              refine sh_out hK _ _ ?_; clear hK K
              refine l_q T rfl rfl rfl rfl (rn_assign rfl (T.ev 1 rfl)) ?_; clear T ac; intro ac T
              refine wpList_nil ?_
              replace T := T.pick [0, 1, 8, 9, 10, 11, 12] rfl
              refine nm_then ?_
              refine cut_seq (fun ac wc => ∃ (gr14_12 : Nat), Tm ac 231 [(15, .slice (some ⟨g4, 0, none⟩) 5 5), (16, .slice (some ⟨g5, 0, none⟩) 5 5), (17, .int .i64 (i : Int)), (18, .pointer (some ⟨gr12_10, 0, none⟩)), (19, .slice Aur12_9 lv.length cur12_9), (20, .pointer (some ⟨g7, 0, none⟩)), (21, .int .i64 (checkStrokesJ jx lv)), (22, .pointer (some ⟨gr14_12, 0, none⟩)), (23, .int .i64 (checkStrokesJ jx lv))] ∧ Mem w noEx wc ((gr14_12, .cells [.int .i64 ((afT jx lv).p0), .int .i64 ((afT jx lv).p1), .int .i64 ((afT jx lv).t0), .int .i64 ((afT jx lv).t1), .int .i64 ((afT jx lv).r0), .int .i64 ((afT jx lv).r1)]) :: (g7, .cells [.int .i64 ((afT jx lv).p0), .int .i64 ((afT jx lv).p1), .int .i64 ((afT jx lv).t0), .int .i64 ((afT jx lv).t1), .int .i64 ((afT jx lv).r0), .int .i64 ((afT jx lv).r1)]) :: (gr12_10, .cells (jobL jx Aur12_4 cur12_4)) :: (IT ++ Iur12_4 ++ Iur12_9))) ?_ ?_
              · refine g_start2 M (M.mask [true, true] rfl) 15 (by kernel_rfl) rfl (by kernel_rfl) ?_
                clear M; intro wc M
                refine g_q (T := T) (i := 0) rfl (by kernel_rfl) (by kernel_rfl : (pbits 15 0).setIfInBounds 0 true = pbits 15 1) si_U (fun _ _ _ h => h) rfl rfl rfl rfl (fun _ _ _ _ _ => (rn_move rfl (T.ev 4 rfl))) ?_; clear T ac; intro ac T
                refine g_q (T := T) (i := 1) rfl (by kernel_rfl) (by kernel_rfl : (pbits 15 1).setIfInBounds 1 true = pbits 15 3) si_U (fun _ _ _ h => h) rfl rfl rfl rfl (fun _ _ _ _ _ => (rn_move rfl (T.ev 7 rfl))) ?_; clear T ac; intro ac T
                refine g_q (T := T) (i := 2) rfl (by kernel_rfl) (by kernel_rfl : (pbits 15 3).setIfInBounds 2 true = pbits 15 7) si_U (fun _ _ _ h => h) rfl rfl rfl rfl (fun _ _ _ _ _ => (rn_indexAddr (size := 18) i rfl (T.ev 1 rfl) (T.ev 0 rfl) ⟨_, Try.underlying36, by kernel_rfl⟩ rfl (by omega) (SJL.at0 (by omega)))) ?_; clear T ac; intro ac T
                refine g_q (v := (.agg #[.int .i64 jx.p0, .int .i64 jx.p1, .int .i64 jx.t0, .int .i64 jx.t1, .int .i64 jx.r0, .int .i64 jx.r1, .int .i64 jx.u0, .int .i64 jx.u1, .int .i64 jx.d0, .int .i64 jx.d1, .int .i64 jx.a0, .int .i64 jx.a1, .int .i64 jx.b0, .int .i64 jx.b1, .int .i64 jx.le, .slice Ax jx.sh.length cx, .int .i64 jx.wi, .int .i64 jx.me])) (T := T) (i := 3) rfl (by kernel_rfl) (by kernel_rfl : (pbits 15 7).setIfInBounds 3 true = pbits 15 15) si_U (fun _ _ _ h => h) rfl rfl rfl rfl (fun B w' hD hl hS => (rn_rowat (Sp.jcR SJL (show Mem w noEx w' _ from hS) (.cons _ (.cons _ (List.Sublist.trans (List.Sublist.trans (List.Sublist.refl _) (List.sublist_append_left _ _)) (List.sublist_append_left _ _)))) hkx) rfl (T.ev 0 rfl) rfl)) ?_; clear T ac; intro ac T
                refine g_q (T := T) (i := 4) rfl (by kernel_rfl) (by kernel_rfl : (pbits 15 15).setIfInBounds 4 true = pbits 15 31) si_U (fun _ _ _ h => h) rfl rfl rfl rfl (fun _ _ _ _ _ => (rn_move rfl (T.ev 9 rfl))) ?_; clear T ac; intro ac T
                refine g_q (T := T) (i := 5) rfl (by kernel_rfl) (by kernel_rfl : (pbits 15 31).setIfInBounds 5 true = pbits 15 63) si_U (fun _ _ _ h => h) rfl rfl rfl rfl (fun _ _ _ _ _ => (rn_move rfl (T.ev 11 rfl))) ?_; clear T ac; intro ac T
                refine g_q (T := T) (i := 6) rfl (by kernel_rfl) (by kernel_rfl : (pbits 15 63).setIfInBounds 6 true = pbits 15 127) si_U (fun _ _ _ h => h) rfl rfl rfl rfl (fun _ _ _ _ _ => (rn_indexAddr (size := 1) i rfl (T.ev 1 rfl) (T.ev 0 rfl) ⟨_, Try.underlying51, by kernel_rfl⟩ rfl (by omega) (SLL.at0 (by omega)))) ?_; clear T ac; intro ac T
                refine g_q (v := (.slice Av lv.length cv)) (T := T) (i := 7) rfl (by kernel_rfl) (by kernel_rfl : (pbits 15 127).setIfInBounds 7 true = pbits 15 255) si_U (fun _ _ _ h => h) rfl rfl rfl rfl (fun B w' hD hl hS => (rn_cell (Sp.lc0 SLL (show Mem w noEx w' _ from hS) (.cons _ (.cons _ (List.Sublist.trans (List.Sublist.trans (List.Sublist.refl _) (List.sublist_append_left _ _)) (List.sublist_append_left _ _)))) hkv) rfl (T.ev 0 rfl))) ?_; clear T ac; intro ac T
                refine g_m2 (i := 8) (j := 12) (by kernel_rfl) ?_ ?_
                · refine g_i rfl (by kernel_rfl : (pbits 15 255).setIfInBounds 8 true = pbits 15 511) rfl ?_; intro K hK
                  refine ow_call (first := []) (cap := []) T rfl rfl rfl rfl evf (.cons (T.ev 4 rfl) (.cons (T.ev 0 rfl) .nil)) Try.func54 rfl rfl ?_
                  refine Calls.mono (rAfter_any jx _ _ _ _ _ lv _ (Sx.rd M (.cons _ (.cons _ (List.Sublist.trans (List.Sublist.trans (List.Sublist.refl _) (List.sublist_append_left _ _)) (List.sublist_append_left _ _))))) (by first | omega | (simp only [List.length_cons, List.length_nil, List.length_set]; omega)) (Sv.rd M (.cons _ (.cons _ (List.Sublist.trans (List.Sublist.trans (List.Sublist.refl _) (List.sublist_append_left _ _)) (List.sublist_append_left _ _))))) (by first | omega | (simp only [List.length_cons, List.length_nil, List.length_set]; omega))) ?_
                  clear T
                  rintro e wc ⟨rfl, hb⟩
                  intro ac T
                  replace M := M.call hb; clear hb
                  refine sh_out hK _ _ (M.mask [true, true] rfl) ?_; clear hK K
                  refine g_q (T := T) (i := 9) rfl (by kernel_rfl) (by kernel_rfl : (pbits 15 511).setIfInBounds 9 true = pbits 15 1023) si_U (fun _ _ _ h => h) rfl rfl rfl rfl (fun _ _ _ _ _ => (rn_move rfl (T.ev 0 rfl))) ?_; clear T ac; intro ac T
                  refine g_q (T := T) (i := 10) rfl (by kernel_rfl) (by kernel_rfl : (pbits 15 1023).setIfInBounds 10 true = pbits 15 2047) si_U (fun _ _ _ h => h) rfl rfl rfl rfl (fun _ _ _ _ _ => (rn_extract rfl (T.ev 0 rfl) rfl)) ?_; clear T ac; intro ac T
                  refine g_q (T := T) (i := 11) rfl (by kernel_rfl) (by kernel_rfl : (pbits 15 2047).setIfInBounds 11 true = pbits 15 4095) si_U (fun _ _ _ h => h) rfl rfl rfl rfl (fun _ _ _ _ _ => (rn_extract rfl (T.ev 1 rfl) rfl)) ?_; clear T ac; intro ac T
                  refine g_w (i := 12) (by kernel_rfl) rfl (by kernel_rfl : (pbits 15 4095).setIfInBounds 12 true = pbits 15 8191) rfl ?_; intro K hK
                  refine ow_al M T rfl rfl rfl rfl ?_; clear M T; intro gr14_12 wc ac M T
                  refine sh_out hK _ _ (M.mask [false, true, true] rfl) ?_; clear hK K
                  refine g_w (i := 13) (by kernel_rfl) rfl (by kernel_rfl : (pbits 15 8191).setIfInBounds 13 true = pbits 15 16383) rfl ?_; intro K hK
                  refine ow_stO M T rfl rfl (T.ev 0 rfl) (T.ev 2 rfl) rfl .head rfl (by simp) rfl (by kernel_rfl) ?_; clear M T; intro wc ac M T
                  refine sh_out hK _ _ (M.mask [false, true, true] rfl) ?_; clear hK K
                  refine g_q (T := T) (i := 14) rfl (by kernel_rfl) (by kernel_rfl : (pbits 15 16383).setIfInBounds 14 true = pbits 15 32767) si_U (fun _ _ _ h => h) rfl rfl rfl rfl (fun _ _ _ _ _ => (rn_assign rfl (T.ev 1 rfl))) ?_; clear T ac; intro ac T
                  refine g_done (by kernel_rfl) ?_
                  replace T := T.pick [0, 1, 14, 15, 16, 17, 18, 19, 20] rfl
                  exact ⟨gr14_12, (T.pick (E' := [(15, .slice (some ⟨g4, 0, none⟩) 5 5), (16, .slice (some ⟨g5, 0, none⟩) 5 5), (17, .int .i64 (i : Int)), (18, .pointer (some ⟨gr12_10, 0, none⟩)), (19, .slice Aur12_9 lv.length cur12_9), (20, .pointer (some ⟨g7, 0, none⟩)), (21, .int .i64 (checkStrokesJ jx lv)), (22, .pointer (some ⟨gr14_12, 0, none⟩)), (23, .int .i64 (checkStrokesJ jx lv))]) [6, 7, 8, 5, 4, 3, 2, 1, 0] rfl).as (by rfl), M.mask [true, true, true] rfl⟩
                · refine g_i rfl (by kernel_rfl : (pbits 15 255).setIfInBounds 12 true = pbits 15 4351) rfl ?_; intro K hK
                  refine ow_al M T rfl rfl rfl rfl ?_; clear M T; intro gr14_12 wc ac M T
                  refine sh_out hK _ _ (M.mask [false, true, true] rfl) ?_; clear hK K
                  refine g_w (i := 8) (by kernel_rfl) rfl (by kernel_rfl : (pbits 15 4351).setIfInBounds 8 true = pbits 15 4607) rfl ?_; intro K hK
                  refine ow_call (first := []) (cap := []) T rfl rfl rfl rfl evf (.cons (T.ev 5 rfl) (.cons (T.ev 1 rfl) .nil)) Try.func54 rfl rfl ?_
                  refine Calls.mono (rAfter_any jx _ _ _ _ _ lv _ (Sx.rd M (.cons _ (.cons _ (.cons _ (List.Sublist.trans (List.Sublist.trans (List.Sublist.refl _) (List.sublist_append_left _ _)) (List.sublist_append_left _ _)))))) (by first | omega | (simp only [List.length_cons, List.length_nil, List.length_set]; omega)) (Sv.rd M (.cons _ (.cons _ (.cons _ (List.Sublist.trans (List.Sublist.trans (List.Sublist.refl _) (List.sublist_append_left _ _)) (List.sublist_append_left _ _)))))) (by first | omega | (simp only [List.length_cons, List.length_nil, List.length_set]; omega))) ?_
                  clear T
                  rintro e wc ⟨rfl, hb⟩
                  intro ac T
                  replace M := M.call hb; clear hb
                  refine sh_out hK _ _ (M.mask [false, true, true] rfl) ?_; clear hK K
                  refine g_q (T := T) (i := 9) rfl (by kernel_rfl) (by kernel_rfl : (pbits 15 4607).setIfInBounds 9 true = pbits 15 5119) si_U (fun _ _ _ h => h) rfl rfl rfl rfl (fun _ _ _ _ _ => (rn_move rfl (T.ev 0 rfl))) ?_; clear T ac; intro ac T
                  refine g_q (T := T) (i := 10) rfl (by kernel_rfl) (by kernel_rfl : (pbits 15 5119).setIfInBounds 10 true = pbits 15 6143) si_U (fun _ _ _ h => h) rfl rfl rfl rfl (fun _ _ _ _ _ => (rn_extract rfl (T.ev 0 rfl) rfl)) ?_; clear T ac; intro ac T
                  refine g_q (T := T) (i := 11) rfl (by kernel_rfl) (by kernel_rfl : (pbits 15 6143).setIfInBounds 11 true = pbits 15 8191) si_U (fun _ _ _ h => h) rfl rfl rfl rfl (fun _ _ _ _ _ => (rn_extract rfl (T.ev 1 rfl) rfl)) ?_; clear T ac; intro ac T
                  refine g_w (i := 13) (by kernel_rfl) rfl (by kernel_rfl : (pbits 15 8191).setIfInBounds 13 true = pbits 15 16383) rfl ?_; intro K hK
                  refine ow_stO M T rfl rfl (T.ev 4 rfl) (T.ev 1 rfl) rfl .head rfl (by simp) rfl (by kernel_rfl) ?_; clear M T; intro wc ac M T
                  refine sh_out hK _ _ (M.mask [false, true, true] rfl) ?_; clear hK K
                  refine g_q (T := T) (i := 14) rfl (by kernel_rfl) (by kernel_rfl : (pbits 15 16383).setIfInBounds 14 true = pbits 15 32767) si_U (fun _ _ _ h => h) rfl rfl rfl rfl (fun _ _ _ _ _ => (rn_assign rfl (T.ev 0 rfl))) ?_; clear T ac; intro ac T
                  refine g_done (by kernel_rfl) ?_
                  replace T := T.pick [0, 5, 14, 15, 16, 17, 18, 19, 20] rfl
                  exact ⟨gr14_12, (T.pick (E' := [(15, .slice (some ⟨g4, 0, none⟩) 5 5), (16, .slice (some ⟨g5, 0, none⟩) 5 5), (17, .int .i64 (i : Int)), (18, .pointer (some ⟨gr12_10, 0, none⟩)), (19, .slice Aur12_9 lv.length cur12_9), (20, .pointer (some ⟨g7, 0, none⟩)), (21, .int .i64 (checkStrokesJ jx lv)), (22, .pointer (some ⟨gr14_12, 0, none⟩)), (23, .int .i64 (checkStrokesJ jx lv))]) [6, 7, 8, 5, 4, 3, 2, 1, 0] rfl).as (by rfl), M.mask [true, true, true] rfl⟩
              · clear T M
                rintro ac wc ⟨gr14_12, T, M⟩
                refine wp_seq ?_
                refine wp_region_lit ?_
                refine l_q T rfl rfl rfl rfl (rn_rowO (Mem.nth M 2 rfl) rfl (T.ev 3 rfl) rfl) ?_; clear T ac; intro ac T
                refine l_q T rfl rfl rfl rfl (rn_move rfl (T.ev 5 rfl)) ?_; clear T ac; intro ac T
                refine l_w rfl ?_; intro K hK
                refine ow_call (first := []) (cap := []) T rfl rfl rfl rfl evf (.cons (T.ev 1 rfl) (.cons (T.ev 0 rfl) .nil)) Try.func51 rfl rfl ?_
                refine Calls.mono (Worst_any jx _ _ _ _ _ lv _ (Sur12_4.rd M (.cons _ (.cons _ (.cons _ (List.Sublist.trans (List.sublist_append_right _ _) (List.sublist_append_left _ _)))))) (by first | omega | (simp only [List.length_cons, List.length_nil, List.length_set]; omega)) (Sur12_9.rd M (.cons _ (.cons _ (.cons _ (List.sublist_append_right _ _))))) (by first | omega | (simp only [List.length_cons, List.length_nil, List.length_set]; omega))) ?_
                clear T
                rintro e wc ⟨rfl, hb⟩
                intro ac T
                replace M := M.call hb; clear hb
                refine sh_out hK _ _ ?_; clear hK K
                refine l_q T rfl rfl rfl rfl (rn_move rfl (T.ev 0 rfl)) ?_; clear T ac; intro ac T
                refine l_q T rfl rfl rfl rfl (rn_extract rfl (T.ev 0 rfl) rfl) ?_; clear T ac; intro ac T
                refine l_q T rfl rfl rfl rfl (rn_extract rfl (T.ev 1 rfl) rfl) ?_; clear T ac; intro ac T
                refine l_q T rfl rfl rfl rfl (rn_assign rfl (T.ev 1 rfl)) ?_; clear T ac; intro ac T
                refine l_q T rfl rfl rfl rfl (rn_assign rfl (T.ev 1 rfl)) ?_; clear T ac; intro ac T
                refine wpList_nil ?_
                replace T := T.pick [0, 1, 8, 9, 10, 11, 12, 13, 14, 15, 16] rfl
                refine nm_then ?_
                refine wp_seq ?_
                refine g_start2 M (M.mask [true, true, true] rfl) 14 (by kernel_rfl) rfl (by kernel_rfl) ?_
                clear M; intro wc M
                refine g_q (T := T) (i := 0) rfl (by kernel_rfl) (by kernel_rfl : (pbits 14 0).setIfInBounds 0 true = pbits 14 1) si_U (fun _ _ _ h => h) rfl rfl rfl rfl (fun _ _ _ _ _ => (rn_move rfl (T.ev 2 rfl))) ?_; clear T ac; intro ac T
                refine g_q (T := T) (i := 1) rfl (by kernel_rfl) (by kernel_rfl : (pbits 14 1).setIfInBounds 1 true = pbits 14 3) si_U (fun _ _ _ h => h) rfl rfl rfl rfl (fun _ _ _ _ _ => (rn_move rfl (T.ev 5 rfl))) ?_; clear T ac; intro ac T
                refine g_q (T := T) (i := 2) rfl (by kernel_rfl) (by kernel_rfl : (pbits 14 3).setIfInBounds 2 true = pbits 14 7) si_U (fun _ _ _ h => h) rfl rfl rfl rfl (fun _ _ _ _ _ => (rn_indexAddr (size := 18) i rfl (T.ev 1 rfl) (T.ev 0 rfl) ⟨_, Try.underlying36, by kernel_rfl⟩ rfl (by omega) (SJL.at0 (by omega)))) ?_; clear T ac; intro ac T
                refine g_q (v := (.agg #[.int .i64 jx.p0, .int .i64 jx.p1, .int .i64 jx.t0, .int .i64 jx.t1, .int .i64 jx.r0, .int .i64 jx.r1, .int .i64 jx.u0, .int .i64 jx.u1, .int .i64 jx.d0, .int .i64 jx.d1, .int .i64 jx.a0, .int .i64 jx.a1, .int .i64 jx.b0, .int .i64 jx.b1, .int .i64 jx.le, .slice Ax jx.sh.length cx, .int .i64 jx.wi, .int .i64 jx.me])) (T := T) (i := 3) rfl (by kernel_rfl) (by kernel_rfl : (pbits 14 7).setIfInBounds 3 true = pbits 14 15) si_U (fun _ _ _ h => h) rfl rfl rfl rfl (fun B w' hD hl hS => (rn_rowat (Sp.jcR SJL (show Mem w noEx w' _ from hS) (.cons _ (.cons _ (.cons _ (List.Sublist.trans (List.Sublist.trans (List.Sublist.refl _) (List.sublist_append_left _ _)) (List.sublist_append_left _ _))))) hkx) rfl (T.ev 0 rfl) rfl)) ?_; clear T ac; intro ac T
                refine g_q (T := T) (i := 4) rfl (by kernel_rfl) (by kernel_rfl : (pbits 14 15).setIfInBounds 4 true = pbits 14 31) si_U (fun _ _ _ h => h) rfl rfl rfl rfl (fun _ _ _ _ _ => (rn_move rfl (T.ev 7 rfl))) ?_; clear T ac; intro ac T
                refine g_q (T := T) (i := 5) rfl (by kernel_rfl) (by kernel_rfl : (pbits 14 31).setIfInBounds 5 true = pbits 14 63) si_U (fun _ _ _ h => h) rfl rfl rfl rfl (fun _ _ _ _ _ => (rn_move rfl (T.ev 9 rfl))) ?_; clear T ac; intro ac T
                refine g_q (T := T) (i := 6) rfl (by kernel_rfl) (by kernel_rfl : (pbits 14 63).setIfInBounds 6 true = pbits 14 127) si_U (fun _ _ _ h => h) rfl rfl rfl rfl (fun _ _ _ _ _ => (rn_indexAddr (size := 1) i rfl (T.ev 1 rfl) (T.ev 0 rfl) ⟨_, Try.underlying51, by kernel_rfl⟩ rfl (by omega) (SLL.at0 (by omega)))) ?_; clear T ac; intro ac T
                refine g_q (v := (.slice Av lv.length cv)) (T := T) (i := 7) rfl (by kernel_rfl) (by kernel_rfl : (pbits 14 127).setIfInBounds 7 true = pbits 14 255) si_U (fun _ _ _ h => h) rfl rfl rfl rfl (fun B w' hD hl hS => (rn_cell (Sp.lc0 SLL (show Mem w noEx w' _ from hS) (.cons _ (.cons _ (.cons _ (List.Sublist.trans (List.Sublist.trans (List.Sublist.refl _) (List.sublist_append_left _ _)) (List.sublist_append_left _ _))))) hkv) rfl (T.ev 0 rfl))) ?_; clear T ac; intro ac T
                refine g_w (i := 8) (by kernel_rfl) rfl (by kernel_rfl : (pbits 14 255).setIfInBounds 8 true = pbits 14 511) rfl ?_; intro K hK
                refine ow_call (first := []) (cap := []) T rfl rfl rfl rfl evf (.cons (T.ev 4 rfl) (.cons (T.ev 0 rfl) .nil)) Try.func55 rfl rfl ?_
                refine Calls.mono (rWorst_T jx _ _ _ _ _ lv _ (Sx.rd M (.cons _ (.cons _ (.cons _ (List.Sublist.trans (List.Sublist.trans (List.Sublist.refl _) (List.sublist_append_left _ _)) (List.sublist_append_left _ _)))))) (by first | omega | (simp only [List.length_cons, List.length_nil, List.length_set]; omega)) (Sv.rd M (.cons _ (.cons _ (.cons _ (List.Sublist.trans (List.Sublist.trans (List.Sublist.refl _) (List.sublist_append_left _ _)) (List.sublist_append_left _ _)))))) (by first | omega | (simp only [List.length_cons, List.length_nil, List.length_set]; omega))) ?_
                clear T
                rintro e wc ⟨rfl, hb⟩
                intro ac T
                replace M := M.call hb; clear hb
                refine sh_out hK _ _ (M.mask [true, true, true] rfl) ?_; clear hK K
                refine g_q (T := T) (i := 9) rfl (by kernel_rfl) (by kernel_rfl : (pbits 14 511).setIfInBounds 9 true = pbits 14 1023) si_U (fun _ _ _ h => h) rfl rfl rfl rfl (fun _ _ _ _ _ => (rn_move rfl (T.ev 0 rfl))) ?_; clear T ac; intro ac T
                refine g_q (T := T) (i := 10) rfl (by kernel_rfl) (by kernel_rfl : (pbits 14 1023).setIfInBounds 10 true = pbits 14 2047) si_U (fun _ _ _ h => h) rfl rfl rfl rfl (fun _ _ _ _ _ => (rn_extract rfl (T.ev 0 rfl) rfl)) ?_; clear T ac; intro ac T
                refine g_q (T := T) (i := 11) rfl (by kernel_rfl) (by kernel_rfl : (pbits 14 2047).setIfInBounds 11 true = pbits 14 4095) si_U (fun _ _ _ h => h) rfl rfl rfl rfl (fun _ _ _ _ _ => (rn_extract rfl (T.ev 1 rfl) rfl)) ?_; clear T ac; intro ac T
                refine g_q (T := T) (i := 12) rfl (by kernel_rfl) (by kernel_rfl : (pbits 14 4095).setIfInBounds 12 true = pbits 14 8191) si_U (fun _ _ _ h => h) rfl rfl rfl rfl (fun _ _ _ _ _ => (rn_assign rfl (T.ev 1 rfl))) ?_; clear T ac; intro ac T
                refine g_q (T := T) (i := 13) rfl (by kernel_rfl) (by kernel_rfl : (pbits 14 8191).setIfInBounds 13 true = pbits 14 16383) si_U (fun _ _ _ h => h) rfl rfl rfl rfl (fun _ _ _ _ _ => (rn_assign rfl (T.ev 1 rfl))) ?_; clear T ac; intro ac T
                refine g_done (by kernel_rfl) ?_
                replace T := T.pick [0, 1, 14, 15, 16, 17, 18, 19, 20, 21, 22, 23, 24] rfl
                refine nm_then ?_
                refine wp_seq ?_
                refine wp_region_lit ?_
                refine l_q T rfl rfl rfl rfl (rn_rowO (Mem.nth M 2 rfl) rfl (T.ev 7 rfl) rfl) ?_; clear T ac; intro ac T
                refine l_q T rfl rfl rfl rfl (rn_move rfl (T.ev 9 rfl)) ?_; clear T ac; intro ac T
                refine l_w rfl ?_; intro K hK
                refine ow_call (first := []) (cap := []) T rfl rfl rfl rfl evf (.cons (T.ev 1 rfl) (.cons (T.ev 0 rfl) .nil)) Try.func44 rfl rfl ?_
                refine Calls.mono (Spoiled_any jx _ _ _ _ _ lv _ (Sur12_4.rd M (.cons _ (.cons _ (.cons _ (List.Sublist.trans (List.sublist_append_right _ _) (List.sublist_append_left _ _)))))) (by first | omega | (simp only [List.length_cons, List.length_nil, List.length_set]; omega)) (Sur12_9.rd M (.cons _ (.cons _ (.cons _ (List.sublist_append_right _ _))))) (by first | omega | (simp only [List.length_cons, List.length_nil, List.length_set]; omega))) ?_
                clear T
                rintro e wc ⟨rfl, hb⟩
                intro ac T
                replace M := M.call hb; clear hb
                refine sh_out hK _ _ ?_; clear hK K
                refine l_q T rfl rfl rfl rfl (rn_move rfl (T.ev 0 rfl)) ?_; clear T ac; intro ac T
                refine l_q T rfl rfl rfl rfl (rn_extract rfl (T.ev 0 rfl) rfl) ?_; clear T ac; intro ac T
                refine l_q T rfl rfl rfl rfl (rn_extract rfl (T.ev 1 rfl) rfl) ?_; clear T ac; intro ac T
                refine l_q T rfl rfl rfl rfl (rn_assign rfl (T.ev 1 rfl)) ?_; clear T ac; intro ac T
                refine l_q T rfl rfl rfl rfl (rn_assign rfl (T.ev 1 rfl)) ?_; clear T ac; intro ac T
                refine wpList_nil ?_
                replace T := T.pick [0, 1, 8, 9, 10, 11, 12, 13, 14, 15, 16, 17, 18, 19, 20] rfl
                refine nm_then ?_
                refine wp_seq ?_
                refine g_start2 M (M.mask [true, true, true] rfl) 14 (by kernel_rfl) rfl (by kernel_rfl) ?_
                clear M; intro wc M
                refine g_q (T := T) (i := 0) rfl (by kernel_rfl) (by kernel_rfl : (pbits 14 0).setIfInBounds 0 true = pbits 14 1) si_U (fun _ _ _ h => h) rfl rfl rfl rfl (fun _ _ _ _ _ => (rn_move rfl (T.ev 6 rfl))) ?_; clear T ac; intro ac T
                refine g_q (T := T) (i := 1) rfl (by kernel_rfl) (by kernel_rfl : (pbits 14 1).setIfInBounds 1 true = pbits 14 3) si_U (fun _ _ _ h => h) rfl rfl rfl rfl (fun _ _ _ _ _ => (rn_move rfl (T.ev 9 rfl))) ?_; clear T ac; intro ac T
                refine g_q (T := T) (i := 2) rfl (by kernel_rfl) (by kernel_rfl : (pbits 14 3).setIfInBounds 2 true = pbits 14 7) si_U (fun _ _ _ h => h) rfl rfl rfl rfl (fun _ _ _ _ _ => (rn_indexAddr (size := 18) i rfl (T.ev 1 rfl) (T.ev 0 rfl) ⟨_, Try.underlying36, by kernel_rfl⟩ rfl (by omega) (SJL.at0 (by omega)))) ?_; clear T ac; intro ac T
                refine g_q (v := (.agg #[.int .i64 jx.p0, .int .i64 jx.p1, .int .i64 jx.t0, .int .i64 jx.t1, .int .i64 jx.r0, .int .i64 jx.r1, .int .i64 jx.u0, .int .i64 jx.u1, .int .i64 jx.d0, .int .i64 jx.d1, .int .i64 jx.a0, .int .i64 jx.a1, .int .i64 jx.b0, .int .i64 jx.b1, .int .i64 jx.le, .slice Ax jx.sh.length cx, .int .i64 jx.wi, .int .i64 jx.me])) (T := T) (i := 3) rfl (by kernel_rfl) (by kernel_rfl : (pbits 14 7).setIfInBounds 3 true = pbits 14 15) si_U (fun _ _ _ h => h) rfl rfl rfl rfl (fun B w' hD hl hS => (rn_rowat (Sp.jcR SJL (show Mem w noEx w' _ from hS) (.cons _ (.cons _ (.cons _ (List.Sublist.trans (List.Sublist.trans (List.Sublist.refl _) (List.sublist_append_left _ _)) (List.sublist_append_left _ _))))) hkx) rfl (T.ev 0 rfl) rfl)) ?_; clear T ac; intro ac T
                refine g_q (T := T) (i := 4) rfl (by kernel_rfl) (by kernel_rfl : (pbits 14 15).setIfInBounds 4 true = pbits 14 31) si_U (fun _ _ _ h => h) rfl rfl rfl rfl (fun _ _ _ _ _ => (rn_move rfl (T.ev 11 rfl))) ?_; clear T ac; intro ac T
                refine g_q (T := T) (i := 5) rfl (by kernel_rfl) (by kernel_rfl : (pbits 14 31).setIfInBounds 5 true = pbits 14 63) si_U (fun _ _ _ h => h) rfl rfl rfl rfl (fun _ _ _ _ _ => (rn_move rfl (T.ev 13 rfl))) ?_; clear T ac; intro ac T
                refine g_q (T := T) (i := 6) rfl (by kernel_rfl) (by kernel_rfl : (pbits 14 63).setIfInBounds 6 true = pbits 14 127) si_U (fun _ _ _ h => h) rfl rfl rfl rfl (fun _ _ _ _ _ => (rn_indexAddr (size := 1) i rfl (T.ev 1 rfl) (T.ev 0 rfl) ⟨_, Try.underlying51, by kernel_rfl⟩ rfl (by omega) (SLL.at0 (by omega)))) ?_; clear T ac; intro ac T
                refine g_q (v := (.slice Av lv.length cv)) (T := T) (i := 7) rfl (by kernel_rfl) (by kernel_rfl : (pbits 14 127).setIfInBounds 7 true = pbits 14 255) si_U (fun _ _ _ h => h) rfl rfl rfl rfl (fun B w' hD hl hS => (rn_cell (Sp.lc0 SLL (show Mem w noEx w' _ from hS) (.cons _ (.cons _ (.cons _ (List.Sublist.trans (List.Sublist.trans (List.Sublist.refl _) (List.sublist_append_left _ _)) (List.sublist_append_left _ _))))) hkv) rfl (T.ev 0 rfl))) ?_; clear T ac; intro ac T
                refine g_w (i := 8) (by kernel_rfl) rfl (by kernel_rfl : (pbits 14 255).setIfInBounds 8 true = pbits 14 511) rfl ?_; intro K hK
                refine ow_call (first := []) (cap := []) T rfl rfl rfl rfl evf (.cons (T.ev 4 rfl) (.cons (T.ev 0 rfl) .nil)) Try.func56 rfl rfl ?_
                refine Calls.mono (rSpoiled_any jx _ _ _ _ _ lv _ (Sx.rd M (.cons _ (.cons _ (.cons _ (List.Sublist.trans (List.Sublist.trans (List.Sublist.refl _) (List.sublist_append_left _ _)) (List.sublist_append_left _ _)))))) (by first | omega | (simp only [List.length_cons, List.length_nil, List.length_set]; omega)) (Sv.rd M (.cons _ (.cons _ (.cons _ (List.Sublist.trans (List.Sublist.trans (List.Sublist.refl _) (List.sublist_append_left _ _)) (List.sublist_append_left _ _)))))) (by first | omega | (simp only [List.length_cons, List.length_nil, List.length_set]; omega))) ?_
                clear T
                rintro e wc ⟨rfl, hb⟩
                intro ac T
                replace M := M.call hb; clear hb
                refine sh_out hK _ _ (M.mask [true, true, true] rfl) ?_; clear hK K
                refine g_q (T := T) (i := 9) rfl (by kernel_rfl) (by kernel_rfl : (pbits 14 511).setIfInBounds 9 true = pbits 14 1023) si_U (fun _ _ _ h => h) rfl rfl rfl rfl (fun _ _ _ _ _ => (rn_move rfl (T.ev 0 rfl))) ?_; clear T ac; intro ac T
                refine g_q (T := T) (i := 10) rfl (by kernel_rfl) (by kernel_rfl : (pbits 14 1023).setIfInBounds 10 true = pbits 14 2047) si_U (fun _ _ _ h => h) rfl rfl rfl rfl (fun _ _ _ _ _ => (rn_extract rfl (T.ev 0 rfl) rfl)) ?_; clear T ac; intro ac T
                refine g_q (T := T) (i := 11) rfl (by kernel_rfl) (by kernel_rfl : (pbits 14 2047).setIfInBounds 11 true = pbits 14 4095) si_U (fun _ _ _ h => h) rfl rfl rfl rfl (fun _ _ _ _ _ => (rn_extract rfl (T.ev 1 rfl) rfl)) ?_; clear T ac; intro ac T
                refine g_q (T := T) (i := 12) rfl (by kernel_rfl) (by kernel_rfl : (pbits 14 4095).setIfInBounds 12 true = pbits 14 8191) si_U (fun _ _ _ h => h) rfl rfl rfl rfl (fun _ _ _ _ _ => (rn_assign rfl (T.ev 1 rfl))) ?_; clear T ac; intro ac T
                refine g_q (T := T) (i := 13) rfl (by kernel_rfl) (by kernel_rfl : (pbits 14 8191).setIfInBounds 13 true = pbits 14 16383) si_U (fun _ _ _ h => h) rfl rfl rfl rfl (fun _ _ _ _ _ => (rn_assign rfl (T.ev 1 rfl))) ?_; clear T ac; intro ac T
                refine g_done (by kernel_rfl) ?_
                replace T := T.pick [0, 1, 14, 15, 16, 17, 18, 19, 20, 21, 22, 23, 24, 25, 26, 27, 28] rfl
                refine nm_then ?_
                refine wp_seq ?_
                refine wp_region_lit ?_
                refine l_q T rfl rfl rfl rfl (rn_rowO (Mem.nth M 2 rfl) rfl (T.ev 11 rfl) rfl) ?_; clear T ac; intro ac T
                refine l_q T rfl rfl rfl rfl (rn_move rfl (T.ev 13 rfl)) ?_; clear T ac; intro ac T
                refine l_w rfl ?_; intro K hK
                refine ow_call (first := []) (cap := []) T rfl rfl rfl rfl evf (.cons (T.ev 1 rfl) (.cons (T.ev 0 rfl) .nil)) Try.func30 rfl rfl ?_
                refine Calls.mono (Fine_any jx _ _ _ _ _ lv _ (Sur12_4.rd M (.cons _ (.cons _ (.cons _ (List.Sublist.trans (List.sublist_append_right _ _) (List.sublist_append_left _ _)))))) (by first | omega | (simp only [List.length_cons, List.length_nil, List.length_set]; omega)) (Sur12_9.rd M (.cons _ (.cons _ (.cons _ (List.sublist_append_right _ _))))) (by first | omega | (simp only [List.length_cons, List.length_nil, List.length_set]; omega))) ?_
                clear T
                rintro e wc ⟨rfl, hb⟩
                intro ac T
                replace M := M.call hb; clear hb
                refine sh_out hK _ _ ?_; clear hK K
                refine l_q T rfl rfl rfl rfl (rn_move rfl (T.ev 0 rfl)) ?_; clear T ac; intro ac T
                refine l_q T rfl rfl rfl rfl (rn_extract rfl (T.ev 0 rfl) rfl) ?_; clear T ac; intro ac T
                refine l_q T rfl rfl rfl rfl (rn_extract rfl (T.ev 1 rfl) rfl) ?_; clear T ac; intro ac T
                refine l_q T rfl rfl rfl rfl (rn_assign rfl (T.ev 1 rfl)) ?_; clear T ac; intro ac T
                refine l_q T rfl rfl rfl rfl (rn_assign rfl (T.ev 1 rfl)) ?_; clear T ac; intro ac T
                refine wpList_nil ?_
                replace T := T.pick [0, 1, 8, 9, 10, 11, 12, 13, 14, 15, 16, 17, 18, 19, 20, 21, 22, 23, 24] rfl
                refine nm_then ?_
                refine wp_seq ?_
                refine g_start2 M (M.mask [true, true, true] rfl) 14 (by kernel_rfl) rfl (by kernel_rfl) ?_
                clear M; intro wc M
                refine g_q (T := T) (i := 0) rfl (by kernel_rfl) (by kernel_rfl : (pbits 14 0).setIfInBounds 0 true = pbits 14 1) si_U (fun _ _ _ h => h) rfl rfl rfl rfl (fun _ _ _ _ _ => (rn_move rfl (T.ev 10 rfl))) ?_; clear T ac; intro ac T
                refine g_q (T := T) (i := 1) rfl (by kernel_rfl) (by kernel_rfl : (pbits 14 1).setIfInBounds 1 true = pbits 14 3) si_U (fun _ _ _ h => h) rfl rfl rfl rfl (fun _ _ _ _ _ => (rn_move rfl (T.ev 13 rfl))) ?_; clear T ac; intro ac T
                refine g_q (T := T) (i := 2) rfl (by kernel_rfl) (by kernel_rfl : (pbits 14 3).setIfInBounds 2 true = pbits 14 7) si_U (fun _ _ _ h => h) rfl rfl rfl rfl (fun _ _ _ _ _ => (rn_indexAddr (size := 18) i rfl (T.ev 1 rfl) (T.ev 0 rfl) ⟨_, Try.underlying36, by kernel_rfl⟩ rfl (by omega) (SJL.at0 (by omega)))) ?_; clear T ac; intro ac T
                refine g_q (v := (.agg #[.int .i64 jx.p0, .int .i64 jx.p1, .int .i64 jx.t0, .int .i64 jx.t1, .int .i64 jx.r0, .int .i64 jx.r1, .int .i64 jx.u0, .int .i64 jx.u1, .int .i64 jx.d0, .int .i64 jx.d1, .int .i64 jx.a0, .int .i64 jx.a1, .int .i64 jx.b0, .int .i64 jx.b1, .int .i64 jx.le, .slice Ax jx.sh.length cx, .int .i64 jx.wi, .int .i64 jx.me])) (T := T) (i := 3) rfl (by kernel_rfl) (by kernel_rfl : (pbits 14 7).setIfInBounds 3 true = pbits 14 15) si_U (fun _ _ _ h => h) rfl rfl rfl rfl (fun B w' hD hl hS => (rn_rowat (Sp.jcR SJL (show Mem w noEx w' _ from hS) (.cons _ (.cons _ (.cons _ (List.Sublist.trans (List.Sublist.trans (List.Sublist.refl _) (List.sublist_append_left _ _)) (List.sublist_append_left _ _))))) hkx) rfl (T.ev 0 rfl) rfl)) ?_; clear T ac; intro ac T
                refine g_q (T := T) (i := 4) rfl (by kernel_rfl) (by kernel_rfl : (pbits 14 15).setIfInBounds 4 true = pbits 14 31) si_U (fun _ _ _ h => h) rfl rfl rfl rfl (fun _ _ _ _ _ => (rn_move rfl (T.ev 15 rfl))) ?_; clear T ac; intro ac T
                refine g_q (T := T) (i := 5) rfl (by kernel_rfl) (by kernel_rfl : (pbits 14 31).setIfInBounds 5 true = pbits 14 63) si_U (fun _ _ _ h => h) rfl rfl rfl rfl (fun _ _ _ _ _ => (rn_move rfl (T.ev 17 rfl))) ?_; clear T ac; intro ac T
                refine g_q (T := T) (i := 6) rfl (by kernel_rfl) (by kernel_rfl : (pbits 14 63).setIfInBounds 6 true = pbits 14 127) si_U (fun _ _ _ h => h) rfl rfl rfl rfl (fun _ _ _ _ _ => (rn_indexAddr (size := 1) i rfl (T.ev 1 rfl) (T.ev 0 rfl) ⟨_, Try.underlying51, by kernel_rfl⟩ rfl (by omega) (SLL.at0 (by omega)))) ?_; clear T ac; intro ac T
                refine g_q (v := (.slice Av lv.length cv)) (T := T) (i := 7) rfl (by kernel_rfl) (by kernel_rfl : (pbits 14 127).setIfInBounds 7 true = pbits 14 255) si_U (fun _ _ _ h => h) rfl rfl rfl rfl (fun B w' hD hl hS => (rn_cell (Sp.lc0 SLL (show Mem w noEx w' _ from hS) (.cons _ (.cons _ (.cons _ (List.Sublist.trans (List.Sublist.trans (List.Sublist.refl _) (List.sublist_append_left _ _)) (List.sublist_append_left _ _))))) hkv) rfl (T.ev 0 rfl))) ?_; clear T ac; intro ac T
                refine g_w (i := 8) (by kernel_rfl) rfl (by kernel_rfl : (pbits 14 255).setIfInBounds 8 true = pbits 14 511) rfl ?_; intro K hK
                refine ow_call (first := []) (cap := []) T rfl rfl rfl rfl evf (.cons (T.ev 4 rfl) (.cons (T.ev 0 rfl) .nil)) Try.func57 rfl rfl ?_
                refine Calls.mono (rFine_T jx _ _ _ _ _ lv _ (Sx.rd M (.cons _ (.cons _ (.cons _ (List.Sublist.trans (List.Sublist.trans (List.Sublist.refl _) (List.sublist_append_left _ _)) (List.sublist_append_left _ _)))))) (by first | omega | (simp only [List.length_cons, List.length_nil, List.length_set]; omega)) (Sv.rd M (.cons _ (.cons _ (.cons _ (List.Sublist.trans (List.Sublist.trans (List.Sublist.refl _) (List.sublist_append_left _ _)) (List.sublist_append_left _ _)))))) (by first | omega | (simp only [List.length_cons, List.length_nil, List.length_set]; omega))) ?_
                clear T
                rintro e wc ⟨rfl, hb⟩
                intro ac T
                replace M := M.call hb; clear hb
                refine sh_out hK _ _ (M.mask [true, true, true] rfl) ?_; clear hK K
                refine g_q (T := T) (i := 9) rfl (by kernel_rfl) (by kernel_rfl : (pbits 14 511).setIfInBounds 9 true = pbits 14 1023) si_U (fun _ _ _ h => h) rfl rfl rfl rfl (fun _ _ _ _ _ => (rn_move rfl (T.ev 0 rfl))) ?_; clear T ac; intro ac T
                refine g_q (T := T) (i := 10) rfl (by kernel_rfl) (by kernel_rfl : (pbits 14 1023).setIfInBounds 10 true = pbits 14 2047) si_U (fun _ _ _ h => h) rfl rfl rfl rfl (fun _ _ _ _ _ => (rn_extract rfl (T.ev 0 rfl) rfl)) ?_; clear T ac; intro ac T
                refine g_q (T := T) (i := 11) rfl (by kernel_rfl) (by kernel_rfl : (pbits 14 2047).setIfInBounds 11 true = pbits 14 4095) si_U (fun _ _ _ h => h) rfl rfl rfl rfl (fun _ _ _ _ _ => (rn_extract rfl (T.ev 1 rfl) rfl)) ?_; clear T ac; intro ac T
                refine g_q (T := T) (i := 12) rfl (by kernel_rfl) (by kernel_rfl : (pbits 14 4095).setIfInBounds 12 true = pbits 14 8191) si_U (fun _ _ _ h => h) rfl rfl rfl rfl (fun _ _ _ _ _ => (rn_assign rfl (T.ev 1 rfl))) ?_; clear T ac; intro ac T
                refine g_q (T := T) (i := 13) rfl (by kernel_rfl) (by kernel_rfl : (pbits 14 8191).setIfInBounds 13 true = pbits 14 16383) si_U (fun _ _ _ h => h) rfl rfl rfl rfl (fun _ _ _ _ _ => (rn_assign rfl (T.ev 1 rfl))) ?_; clear T ac; intro ac T
                refine g_done (by kernel_rfl) ?_
                replace T := T.pick [0, 1, 14, 15, 16, 17, 18, 19, 20, 21, 22, 23, 24, 25, 26, 27, 28, 29, 30, 31, 32] rfl
                refine nm_then ?_
                refine wp_seq ?_
                refine g_start2 M (M.mask [true, true, true] rfl) 56 (by kernel_rfl) rfl (by kernel_rfl) ?_
                clear M; intro wc M
                refine g_q (T := T) (i := 0) rfl (by kernel_rfl) (by kernel_rfl : (pbits 56 0).setIfInBounds 0 true = pbits 56 1) si_U (fun _ _ _ h => h) rfl rfl rfl rfl (fun B w' hD hl hS => (rn_rowO (Mem.nth (show Mem w noEx w' _ from hS) 1 rfl) rfl (T.ev 17 rfl) rfl)) ?_; clear T ac; intro ac T
                refine g_q (T := T) (i := 1) rfl (by kernel_rfl) (by kernel_rfl : (pbits 56 1).setIfInBounds 1 true = pbits 56 3) si_U (fun _ _ _ h => h) rfl rfl rfl rfl (fun B w' hD hl hS => (rn_rowO (Mem.nth (show Mem w noEx w' _ from hS) 0 rfl) rfl (T.ev 20 rfl) rfl)) ?_; clear T ac; intro ac T
                refine g_q (v := (.bool false)) (T := T) (i := 2) rfl (by kernel_rfl) (by kernel_rfl : (pbits 56 3).setIfInBounds 2 true = pbits 56 7) si_U (fun _ _ _ h => h) rfl rfl rfl rfl (fun _ _ _ _ _ => (rn_neqof (rn_bin rfl (T.ev 1 rfl) (T.ev 0 rfl) neT25) (by simp))) ?_; clear T ac; intro ac T
                refine g_q (T := T) (i := 3) rfl (by kernel_rfl) (by kernel_rfl : (pbits 56 7).setIfInBounds 3 true = pbits 56 15) si_U (fun _ _ _ h => h) rfl rfl rfl rfl (fun _ _ _ _ _ => (rn_move rfl (T.ev 0 rfl))) ?_; clear T ac; intro ac T
                refine g_q (T := T) (i := 4) rfl (by kernel_rfl) (by kernel_rfl : (pbits 56 15).setIfInBounds 4 true = pbits 56 31) si_U (fun _ _ _ h => h) (wanted_yes rfl rfl (T.ev 0 rfl) rfl) rfl rfl rfl (fun _ _ _ _ _ => (rn_move rfl (T.ev 22 rfl))) ?_; clear T ac; intro ac T
                refine g_q (T := T) (i := 5) rfl (by kernel_rfl) (by kernel_rfl : (pbits 56 31).setIfInBounds 5 true = pbits 56 63) si_U (fun _ _ _ h => h) (wanted_yes rfl rfl (T.ev 1 rfl) rfl) rfl rfl rfl (fun _ _ _ _ _ => (rn_move rfl (T.ev 25 rfl))) ?_; clear T ac; intro ac T
                refine g_q (v := (.bool false)) (T := T) (i := 6) rfl (by kernel_rfl) (by kernel_rfl : (pbits 56 63).setIfInBounds 6 true = pbits 56 127) si_U (fun _ _ _ h => h) (wanted_yes rfl rfl (T.ev 2 rfl) rfl) rfl rfl rfl (fun _ _ _ _ _ => (rn_neqof (rn_neq rfl (T.ev 1 rfl) (T.ev 0 rfl)) (by simp))) ?_; clear T ac; intro ac T
                refine g_q (T := T) (i := 7) rfl (by kernel_rfl) (by kernel_rfl : (pbits 56 127).setIfInBounds 7 true = pbits 56 255) si_U (fun _ _ _ h => h) rfl rfl rfl rfl (fun _ _ _ _ _ => (rn_pick0 rfl (T.ev 3 rfl) rfl (T.ev 0 rfl))) ?_; clear T ac; intro ac T
                refine g_q (T := T) (i := 8) rfl (by kernel_rfl) (by kernel_rfl : (pbits 56 255).setIfInBounds 8 true = pbits 56 511) si_U (fun _ _ _ h => h) rfl rfl rfl rfl (fun _ _ _ _ _ => (rn_move rfl (T.ev 0 rfl))) ?_; clear T ac; intro ac T
                refine g_q (T := T) (i := 9) rfl (by kernel_rfl) (by kernel_rfl : (pbits 56 511).setIfInBounds 9 true = pbits 56 1023) si_U (fun _ _ _ h => h) (wanted_yes rfl rfl (T.ev 0 rfl) rfl) rfl rfl rfl (fun _ _ _ _ _ => (rn_move rfl (T.ev 20 rfl))) ?_; clear T ac; intro ac T
                refine g_q (T := T) (i := 10) rfl (by kernel_rfl) (by kernel_rfl : (pbits 56 1023).setIfInBounds 10 true = pbits 56 2047) si_U (fun _ _ _ h => h) (wanted_yes rfl rfl (T.ev 1 rfl) rfl) rfl rfl rfl (fun _ _ _ _ _ => (rn_move rfl (T.ev 19 rfl))) ?_; clear T ac; intro ac T
                refine g_q (v := (.bool false)) (T := T) (i := 11) rfl (by kernel_rfl) (by kernel_rfl : (pbits 56 2047).setIfInBounds 11 true = pbits 56 4095) si_U (fun _ _ _ h => h) (wanted_yes rfl rfl (T.ev 2 rfl) rfl) rfl rfl rfl (fun _ _ _ _ _ => (rn_neqof (rn_neq rfl (T.ev 1 rfl) (T.ev 0 rfl)) (by simp))) ?_; clear T ac; intro ac T
                refine g_q (T := T) (i := 12) rfl (by kernel_rfl) (by kernel_rfl : (pbits 56 4095).setIfInBounds 12 true = pbits 56 8191) si_U (fun _ _ _ h => h) rfl rfl rfl rfl (fun _ _ _ _ _ => (rn_pick0 rfl (T.ev 3 rfl) rfl (T.ev 0 rfl))) ?_; clear T ac; intro ac T
                refine g_q (T := T) (i := 13) rfl (by kernel_rfl) (by kernel_rfl : (pbits 56 8191).setIfInBounds 13 true = pbits 56 16383) si_U (fun _ _ _ h => h) rfl rfl rfl rfl (fun _ _ _ _ _ => (rn_move rfl (T.ev 0 rfl))) ?_; clear T ac; intro ac T
                refine g_q (T := T) (i := 14) rfl (by kernel_rfl) (by kernel_rfl : (pbits 56 16383).setIfInBounds 14 true = pbits 56 32767) si_U (fun _ _ _ h => h) (wanted_yes rfl rfl (T.ev 0 rfl) rfl) rfl rfl rfl (fun _ _ _ _ _ => (rn_move rfl (T.ev 24 rfl))) ?_; clear T ac; intro ac T
                refine g_q (T := T) (i := 15) rfl (by kernel_rfl) (by kernel_rfl : (pbits 56 32767).setIfInBounds 15 true = pbits 56 65535) si_U (fun _ _ _ h => h) (wanted_yes rfl rfl (T.ev 1 rfl) rfl) rfl rfl rfl (fun _ _ _ _ _ => (rn_move rfl (T.ev 23 rfl))) ?_; clear T ac; intro ac T
                refine g_q (v := (.bool false)) (T := T) (i := 16) rfl (by kernel_rfl) (by kernel_rfl : (pbits 56 65535).setIfInBounds 16 true = pbits 56 131071) si_U (fun _ _ _ h => h) (wanted_yes rfl rfl (T.ev 2 rfl) rfl) rfl rfl rfl (fun _ _ _ _ _ => (rn_neqof (rn_neq rfl (T.ev 1 rfl) (T.ev 0 rfl)) (by simp))) ?_; clear T ac; intro ac T
                refine g_q (T := T) (i := 17) rfl (by kernel_rfl) (by kernel_rfl : (pbits 56 131071).setIfInBounds 17 true = pbits 56 262143) si_U (fun _ _ _ h => h) rfl rfl rfl rfl (fun _ _ _ _ _ => (rn_pick0 rfl (T.ev 3 rfl) rfl (T.ev 0 rfl))) ?_; clear T ac; intro ac T
                refine g_q (T := T) (i := 18) rfl (by kernel_rfl) (by kernel_rfl : (pbits 56 262143).setIfInBounds 18 true = pbits 56 524287) si_U (fun _ _ _ h => h) rfl rfl rfl rfl (fun _ _ _ _ _ => (rn_move rfl (T.ev 0 rfl))) ?_; clear T ac; intro ac T
                refine g_q (T := T) (i := 19) rfl (by kernel_rfl) (by kernel_rfl : (pbits 56 524287).setIfInBounds 19 true = pbits 56 1048575) si_U (fun _ _ _ h => h) (wanted_yes rfl rfl (T.ev 0 rfl) rfl) rfl rfl rfl (fun _ _ _ _ _ => (rn_move rfl (T.ev 26 rfl))) ?_; clear T ac; intro ac T
                refine g_q (T := T) (i := 20) rfl (by kernel_rfl) (by kernel_rfl : (pbits 56 1048575).setIfInBounds 20 true = pbits 56 2097151) si_U (fun _ _ _ h => h) (wanted_yes rfl rfl (T.ev 1 rfl) rfl) rfl rfl rfl (fun _ _ _ _ _ => (rn_move rfl (T.ev 25 rfl))) ?_; clear T ac; intro ac T
                refine g_q (v := (.bool false)) (T := T) (i := 21) rfl (by kernel_rfl) (by kernel_rfl : (pbits 56 2097151).setIfInBounds 21 true = pbits 56 4194303) si_U (fun _ _ _ h => h) (wanted_yes rfl rfl (T.ev 2 rfl) rfl) rfl rfl rfl (fun _ _ _ _ _ => (rn_neqof (rn_neq rfl (T.ev 1 rfl) (T.ev 0 rfl)) (by simp))) ?_; clear T ac; intro ac T
                refine g_q (T := T) (i := 22) rfl (by kernel_rfl) (by kernel_rfl : (pbits 56 4194303).setIfInBounds 22 true = pbits 56 8388607) si_U (fun _ _ _ h => h) rfl rfl rfl rfl (fun _ _ _ _ _ => (rn_pick0 rfl (T.ev 3 rfl) rfl (T.ev 0 rfl))) ?_; clear T ac; intro ac T
                refine g_q (T := T) (i := 23) rfl (by kernel_rfl) (by kernel_rfl : (pbits 56 8388607).setIfInBounds 23 true = pbits 56 16777215) si_U (fun _ _ _ h => h) rfl rfl rfl rfl (fun _ _ _ _ _ => (rn_move rfl (T.ev 0 rfl))) ?_; clear T ac; intro ac T
                refine g_q (T := T) (i := 24) rfl (by kernel_rfl) (by kernel_rfl : (pbits 56 16777215).setIfInBounds 24 true = pbits 56 33554431) si_U (fun _ _ _ h => h) (wanted_yes rfl rfl (T.ev 0 rfl) rfl) rfl rfl rfl (fun _ _ _ _ _ => (rn_move rfl (T.ev 30 rfl))) ?_; clear T ac; intro ac T
                refine g_q (T := T) (i := 25) rfl (by kernel_rfl) (by kernel_rfl : (pbits 56 33554431).setIfInBounds 25 true = pbits 56 67108863) si_U (fun _ _ _ h => h) (wanted_yes rfl rfl (T.ev 1 rfl) rfl) rfl rfl rfl (fun _ _ _ _ _ => (rn_move rfl (T.ev 29 rfl))) ?_; clear T ac; intro ac T
                refine g_q (v := (.bool false)) (T := T) (i := 26) rfl (by kernel_rfl) (by kernel_rfl : (pbits 56 67108863).setIfInBounds 26 true = pbits 56 134217727) si_U (fun _ _ _ h => h) (wanted_yes rfl rfl (T.ev 2 rfl) rfl) rfl rfl rfl (fun _ _ _ _ _ => (rn_neqof (rn_neq rfl (T.ev 1 rfl) (T.ev 0 rfl)) (by simp))) ?_; clear T ac; intro ac T
                refine g_q (T := T) (i := 27) rfl (by kernel_rfl) (by kernel_rfl : (pbits 56 134217727).setIfInBounds 27 true = pbits 56 268435455) si_U (fun _ _ _ h => h) rfl rfl rfl rfl (fun _ _ _ _ _ => (rn_pick0 rfl (T.ev 3 rfl) rfl (T.ev 0 rfl))) ?_; clear T ac; intro ac T
                refine g_q (T := T) (i := 28) rfl (by kernel_rfl) (by kernel_rfl : (pbits 56 268435455).setIfInBounds 28 true = pbits 56 536870911) si_U (fun _ _ _ h => h) rfl rfl rfl rfl (fun _ _ _ _ _ => (rn_move rfl (T.ev 0 rfl))) ?_; clear T ac; intro ac T
                refine g_q (T := T) (i := 29) rfl (by kernel_rfl) (by kernel_rfl : (pbits 56 536870911).setIfInBounds 29 true = pbits 56 1073741823) si_U (fun _ _ _ h => h) (wanted_yes rfl rfl (T.ev 0 rfl) rfl) rfl rfl rfl (fun _ _ _ _ _ => (rn_move rfl (T.ev 32 rfl))) ?_; clear T ac; intro ac T
                refine g_q (T := T) (i := 30) rfl (by kernel_rfl) (by kernel_rfl : (pbits 56 1073741823).setIfInBounds 30 true = pbits 56 2147483647) si_U (fun _ _ _ h => h) (wanted_yes rfl rfl (T.ev 1 rfl) rfl) rfl rfl rfl (fun _ _ _ _ _ => (rn_move rfl (T.ev 31 rfl))) ?_; clear T ac; intro ac T
                refine g_q (v := (.bool false)) (T := T) (i := 31) rfl (by kernel_rfl) (by kernel_rfl : (pbits 56 2147483647).setIfInBounds 31 true = pbits 56 4294967295) si_U (fun _ _ _ h => h) (wanted_yes rfl rfl (T.ev 2 rfl) rfl) rfl rfl rfl (fun _ _ _ _ _ => (rn_neqof (rn_neq rfl (T.ev 1 rfl) (T.ev 0 rfl)) (by simp))) ?_; clear T ac; intro ac T
                refine g_q (T := T) (i := 32) rfl (by kernel_rfl) (by kernel_rfl : (pbits 56 4294967295).setIfInBounds 32 true = pbits 56 8589934591) si_U (fun _ _ _ h => h) rfl rfl rfl rfl (fun _ _ _ _ _ => (rn_pick0 rfl (T.ev 3 rfl) rfl (T.ev 0 rfl))) ?_; clear T ac; intro ac T
                refine g_q (T := T) (i := 33) rfl (by kernel_rfl) (by kernel_rfl : (pbits 56 8589934591).setIfInBounds 33 true = pbits 56 17179869183) si_U (fun _ _ _ h => h) rfl rfl rfl rfl (fun _ _ _ _ _ => (rn_move rfl (T.ev 0 rfl))) ?_; clear T ac; intro ac T
                refine g_q (T := T) (i := 34) rfl (by kernel_rfl) (by kernel_rfl : (pbits 56 17179869183).setIfInBounds 34 true = pbits 56 34359738367) si_U (fun _ _ _ h => h) (wanted_yes rfl rfl (T.ev 0 rfl) rfl) rfl rfl rfl (fun _ _ _ _ _ => (rn_move rfl (T.ev 36 rfl))) ?_; clear T ac; intro ac T
                refine g_q (T := T) (i := 35) rfl (by kernel_rfl) (by kernel_rfl : (pbits 56 34359738367).setIfInBounds 35 true = pbits 56 68719476735) si_U (fun _ _ _ h => h) (wanted_yes rfl rfl (T.ev 1 rfl) rfl) rfl rfl rfl (fun _ _ _ _ _ => (rn_move rfl (T.ev 35 rfl))) ?_; clear T ac; intro ac T
                refine g_q (v := (.bool false)) (T := T) (i := 36) rfl (by kernel_rfl) (by kernel_rfl : (pbits 56 68719476735).setIfInBounds 36 true = pbits 56 137438953471) si_U (fun _ _ _ h => h) (wanted_yes rfl rfl (T.ev 2 rfl) rfl) rfl rfl rfl (fun _ _ _ _ _ => (rn_neqof (rn_neq rfl (T.ev 1 rfl) (T.ev 0 rfl)) (by simp))) ?_; clear T ac; intro ac T
                refine g_q (T := T) (i := 37) rfl (by kernel_rfl) (by kernel_rfl : (pbits 56 137438953471).setIfInBounds 37 true = pbits 56 274877906943) si_U (fun _ _ _ h => h) rfl rfl rfl rfl (fun _ _ _ _ _ => (rn_pick0 rfl (T.ev 3 rfl) rfl (T.ev 0 rfl))) ?_; clear T ac; intro ac T
                refine g_q (T := T) (i := 38) rfl (by kernel_rfl) (by kernel_rfl : (pbits 56 274877906943).setIfInBounds 38 true = pbits 56 549755813887) si_U (fun _ _ _ h => h) rfl rfl rfl rfl (fun _ _ _ _ _ => (rn_move rfl (T.ev 0 rfl))) ?_; clear T ac; intro ac T
                refine g_q (T := T) (i := 39) rfl (by kernel_rfl) (by kernel_rfl : (pbits 56 549755813887).setIfInBounds 39 true = pbits 56 1099511627775) si_U (fun _ _ _ h => h) (wanted_yes rfl rfl (T.ev 0 rfl) rfl) rfl rfl rfl (fun B w' hD hl hS => (rn_rowO (Mem.nth (show Mem w noEx w' _ from hS) 2 rfl) rfl (T.ev 54 rfl) rfl)) ?_; clear T ac; intro ac T
                refine g_q (T := T) (i := 40) rfl (by kernel_rfl) (by kernel_rfl : (pbits 56 1099511627775).setIfInBounds 40 true = pbits 56 2199023255551) si_U (fun _ _ _ h => h) (wanted_yes rfl rfl (T.ev 1 rfl) rfl) rfl rfl rfl (fun _ _ _ _ _ => (rn_move rfl (T.ev 52 rfl))) ?_; clear T ac; intro ac T
                refine g_q (T := T) (i := 41) rfl (by kernel_rfl) (by kernel_rfl : (pbits 56 2199023255551).setIfInBounds 41 true = pbits 56 4398046511103) si_U (fun _ _ _ h => h) (wanted_yes rfl rfl (T.ev 2 rfl) rfl) rfl rfl rfl (fun _ _ _ _ _ => (rn_move rfl (T.ev 55 rfl))) ?_; clear T ac; intro ac T
                refine g_q (T := T) (i := 42) rfl (by kernel_rfl) (by kernel_rfl : (pbits 56 4398046511103).setIfInBounds 42 true = pbits 56 8796093022207) si_U (fun _ _ _ h => h) (wanted_yes rfl rfl (T.ev 3 rfl) rfl) rfl rfl rfl (fun _ _ _ _ _ => (rn_indexAddr (size := 18) i rfl (T.ev 1 rfl) (T.ev 0 rfl) ⟨_, Try.underlying36, by kernel_rfl⟩ rfl (by omega) (SJL.at0 (by omega)))) ?_; clear T ac; intro ac T
                refine g_q (v := (.agg #[.int .i64 jx.p0, .int .i64 jx.p1, .int .i64 jx.t0, .int .i64 jx.t1, .int .i64 jx.r0, .int .i64 jx.r1, .int .i64 jx.u0, .int .i64 jx.u1, .int .i64 jx.d0, .int .i64 jx.d1, .int .i64 jx.a0, .int .i64 jx.a1, .int .i64 jx.b0, .int .i64 jx.b1, .int .i64 jx.le, .slice Ax jx.sh.length cx, .int .i64 jx.wi, .int .i64 jx.me])) (T := T) (i := 43) rfl (by kernel_rfl) (by kernel_rfl : (pbits 56 8796093022207).setIfInBounds 43 true = pbits 56 17592186044415) si_U (fun _ _ _ h => h) (wanted_yes rfl rfl (T.ev 4 rfl) rfl) rfl rfl rfl (fun B w' hD hl hS => (rn_rowat (Sp.jcR SJL (show Mem w noEx w' _ from hS) (.cons _ (.cons _ (.cons _ (List.Sublist.trans (List.Sublist.trans (List.Sublist.refl _) (List.sublist_append_left _ _)) (List.sublist_append_left _ _))))) hkx) rfl (T.ev 0 rfl) rfl)) ?_; clear T ac; intro ac T
                refine g_w (i := 44) (by kernel_rfl) rfl (by kernel_rfl : (pbits 56 17592186044415).setIfInBounds 44 true = pbits 56 35184372088831) (wanted_yes rfl rfl (T.ev 5 rfl) rfl) ?_; intro K hK
                refine ow_call (first := []) (cap := []) T rfl rfl rfl rfl evf (.cons (T.ev 4 rfl) (.cons (T.ev 0 rfl) .nil)) Try.func22 rfl rfl ?_
                refine Calls.mono (sameJobs_same jx _ _ _ _ _ (Sur12_4.rd M (.cons _ (.cons _ (.cons _ (List.Sublist.trans (List.sublist_append_right _ _) (List.sublist_append_left _ _)))))) (Sx.rd M (.cons _ (.cons _ (.cons _ (List.Sublist.trans (List.Sublist.trans (List.Sublist.refl _) (List.sublist_append_left _ _)) (List.sublist_append_left _ _)))))) (by omega)) ?_
                clear T
                rintro e wc ⟨rfl, hb⟩
                intro ac T
                replace M := M.call hb; clear hb
                refine sh_out hK _ _ (M.mask [true, true, true] rfl) ?_; clear hK K
                refine g_addU M ?_
                refine g_q (v := (.bool false)) (T := T) (i := 45) rfl (by kernel_rfl) (by kernel_rfl : (pbits 56 35184372088831).setIfInBounds 45 true = pbits 56 70368744177663) (si_and si_U si_U) (fun _ _ _ h => h) (wanted_yes rfl rfl (T.ev 6 rfl) rfl) rfl rfl rfl (fun _ _ _ _ _ => (rn_neqof (rn_not rfl (T.ev 0 rfl)) (by simp))) ?_; clear T ac; intro ac T
                refine g_q (T := T) (i := 46) rfl (by kernel_rfl) (by kernel_rfl : (pbits 56 70368744177663).setIfInBounds 46 true = pbits 56 140737488355327) (si_and si_U si_U) (fun _ _ _ h => h) rfl rfl rfl rfl (fun _ _ _ _ _ => (rn_pick0 rfl (T.ev 7 rfl) rfl (T.ev 0 rfl))) ?_; clear T ac; intro ac T
                refine g_q (T := T) (i := 47) rfl (by kernel_rfl) (by kernel_rfl : (pbits 56 140737488355327).setIfInBounds 47 true = pbits 56 281474976710655) (si_and si_U si_U) (fun _ _ _ h => h) rfl rfl rfl rfl (fun _ _ _ _ _ => (rn_move rfl (T.ev 0 rfl))) ?_; clear T ac; intro ac T
                refine g_q (T := T) (i := 48) rfl (by kernel_rfl) (by kernel_rfl : (pbits 56 281474976710655).setIfInBounds 48 true = pbits 56 562949953421311) (si_and si_U si_U) (fun _ _ _ h => h) (wanted_yes rfl rfl (T.ev 0 rfl) rfl) rfl rfl rfl (fun _ _ _ _ _ => (rn_move rfl (T.ev 64 rfl))) ?_; clear T ac; intro ac T
                refine g_q (T := T) (i := 49) rfl (by kernel_rfl) (by kernel_rfl : (pbits 56 562949953421311).setIfInBounds 49 true = pbits 56 1125899906842623) (si_and si_U si_U) (fun _ _ _ h => h) (wanted_yes rfl rfl (T.ev 1 rfl) rfl) rfl rfl rfl (fun _ _ _ _ _ => (rn_move rfl (T.ev 62 rfl))) ?_; clear T ac; intro ac T
                refine g_q (T := T) (i := 50) rfl (by kernel_rfl) (by kernel_rfl : (pbits 56 1125899906842623).setIfInBounds 50 true = pbits 56 2251799813685247) (si_and si_U si_U) (fun _ _ _ h => h) (wanted_yes rfl rfl (T.ev 2 rfl) rfl) rfl rfl rfl (fun _ _ _ _ _ => (rn_move rfl (T.ev 64 rfl))) ?_; clear T ac; intro ac T
                refine g_q (T := T) (i := 51) rfl (by kernel_rfl) (by kernel_rfl : (pbits 56 2251799813685247).setIfInBounds 51 true = pbits 56 4503599627370495) (si_and si_U si_U) (fun _ _ _ h => h) (wanted_yes rfl rfl (T.ev 3 rfl) rfl) rfl rfl rfl (fun _ _ _ _ _ => (rn_indexAddr (size := 1) i rfl (T.ev 1 rfl) (T.ev 0 rfl) ⟨_, Try.underlying51, by kernel_rfl⟩ rfl (by omega) (SLL.at0 (by omega)))) ?_; clear T ac; intro ac T
                refine g_q (v := (.slice Av lv.length cv)) (T := T) (i := 52) rfl (by kernel_rfl) (by kernel_rfl : (pbits 56 4503599627370495).setIfInBounds 52 true = pbits 56 9007199254740991) (si_and si_U si_U) (fun _ _ _ h => h) (wanted_yes rfl rfl (T.ev 4 rfl) rfl) rfl rfl rfl (fun B w' hD hl hS => (rn_cell (Sp.lc0 SLL (show Mem w noEx w' _ from (MA.lft hS)) (.cons _ (.cons _ (.cons _ (List.Sublist.trans (List.Sublist.trans (List.Sublist.refl _) (List.sublist_append_left _ _)) (List.sublist_append_left _ _))))) hkv) rfl (T.ev 0 rfl))) ?_; clear T ac; intro ac T
                refine g_w (i := 53) (by kernel_rfl) rfl (by kernel_rfl : (pbits 56 9007199254740991).setIfInBounds 53 true = pbits 56 18014398509481983) (wanted_yes rfl rfl (T.ev 5 rfl) rfl) ?_; intro K hK
                refine ow_call (first := []) (cap := []) T rfl rfl rfl rfl evf (.cons (T.ev 4 rfl) (.cons (T.ev 0 rfl) .nil)) Try.func21 rfl rfl ?_
                refine Calls.mono (sameInts_same _ _ _ _ _ _ lv _ (Sur12_9.rd M (.cons _ (.cons _ (.cons _ (List.sublist_append_right _ _))))) (Sv.rd M (.cons _ (.cons _ (.cons _ (List.Sublist.trans (List.Sublist.trans (List.Sublist.refl _) (List.sublist_append_left _ _)) (List.sublist_append_left _ _)))))) (by first | omega | decide | (simp; omega)) (by first | omega | decide | (simp; omega))) ?_
                clear T
                rintro e wc ⟨rfl, hb⟩
                intro ac T
                replace M := M.call hb; clear hb
                refine sh_out hK _ _ (MA.mk (M.mask [true, true, true] rfl) (M.mask [true, true, true] rfl)) ?_; clear hK K
                refine g_q (v := (.bool false)) (T := T) (i := 54) rfl (by kernel_rfl) (by kernel_rfl : (pbits 56 18014398509481983).setIfInBounds 54 true = pbits 56 36028797018963967) (si_and si_U si_U) (fun _ _ _ h => h) (wanted_yes rfl rfl (T.ev 6 rfl) rfl) rfl rfl rfl (fun _ _ _ _ _ => (rn_neqof (rn_not rfl (T.ev 0 rfl)) (by simp))) ?_; clear T ac; intro ac T
                refine g_q (T := T) (i := 55) rfl (by kernel_rfl) (by kernel_rfl : (pbits 56 36028797018963967).setIfInBounds 55 true = pbits 56 72057594037927935) (si_and si_U si_U) (fun _ _ _ h => h) rfl rfl rfl rfl (fun _ _ _ _ _ => (rn_pick0 rfl (T.ev 7 rfl) rfl (T.ev 0 rfl))) ?_; clear T ac; intro ac T
                refine g_done (by kernel_rfl) ?_
                replace T := T.pick [0, 1, 2, 3, 4, 5, 6, 7, 10, 11, 12, 13, 14, 15, 16, 19, 20, 21, 24, 25, 26, 29, 30, 31, 34, 35, 36, 39, 40, 41, 44, 45, 46, 49, 50, 51, 68, 69, 70] rfl
                replace M := M.mask [false, false, false] rfl
                refine nm_then ?_
                refine wp_cond_false (T.ev 0 rfl) ?_
                refine wp_skip ?_
                refine nm_blk ?_
                refine nm_then ?_
                refine wp_region_lit ?_
                refine l_q T rfl rfl rfl rfl (rn_move rfl (T.ev 38 rfl)) ?_; clear T ac; intro ac T
                refine l_q T rfl rfl rfl rfl (rn_add rfl (T.ev 0 rfl) evc (by omega)) ?_; clear T ac; intro ac T
                refine l_q (v := (.int .i64 ((i : Int) + 1))) (T.pick [0, 1, 2, 3, 4, 5, 6, 7, 8, 9, 10, 11, 12, 13, 14, 15, 16, 17, 18, 19, 20, 21, 22, 23, 24, 25, 26, 27, 28, 29, 30, 31, 32, 33, 34, 35, 36, 37, 38, 39] rfl) rfl rfl rfl rfl (rn_assign rfl (T.ev 0 rfl)) ?_; clear T ac; intro ac T
                refine wpList_nil ?_
                replace T := T.pick [0, 4, 5, 6, 7, 8, 9, 10, 11, 12, 13, 14, 15, 16, 17, 18, 19, 20, 21, 22, 23, 24, 25, 26, 27, 28, 29, 30, 31, 32, 33, 34, 35, 36, 37, 38, 39, 40] rfl
                refine nm_then ?_
                exact ⟨_, by omega, i + 1, rfl, T.pick [36, 37, 0] rfl, (M.mask [] rfl).sub (List.Sublist.trans (List.Sublist.trans (List.Sublist.refl _) (List.sublist_append_left _ _)) (List.sublist_append_left _ _))⟩
          · refine g_i rfl (by kernel_rfl : (pbits 13 495).setIfInBounds 10 true = pbits 13 1519) rfl ?_; intro K hK
            refine ow_al M T rfl rfl rfl rfl ?_; clear M T; intro gr12_10 wc ac M T
            refine sh_out hK _ _ (M.mask [false] rfl) ?_; clear hK K
            refine g_w (i := 4) (by kernel_rfl) rfl (by kernel_rfl : (pbits 13 1519).setIfInBounds 4 true = pbits 13 1535) rfl ?_; intro K hK
            refine ow_call (first := []) (cap := []) T rfl rfl rfl rfl evf (.cons (T.ev 5 rfl) .nil) Try.func18 rfl rfl ?_
            refine Calls.mono (copyJob_own jx _ _ _ (Sx.rd M (.cons _ (List.Sublist.refl _))) (by first | omega | (dsimp only [Jb.one]; omega))) ?_
            clear T
            rintro e wc ⟨Aur12_4, cur12_4, Iur12_4, rfl, hsnur12_4, N⟩
            intro ac T
            obtain ⟨bur12_4, our12_4, Sur12_4⟩ := hsnur12_4.sp (w := w) (ex := noEx) (rc_length _)
            replace M := (M.join N).swapI
            replace M := M.mask [true] rfl
            clear N hsnur12_4
            refine sh_out hK _ _ ((M.mask [false] rfl).sub (List.sublist_append_left _ _)) ?_; clear hK K
            refine g_w (i := 9) (by kernel_rfl) rfl (by kernel_rfl : (pbits 13 1535).setIfInBounds 9 true = pbits 13 2047) rfl ?_; intro K hK
            refine ow_call (first := []) (cap := []) T rfl rfl rfl rfl evf (.cons (T.ev 2 rfl) .nil) Try.func53 rfl rfl ?_
            refine Calls.mono (ints_own _ _ lv _ (Sv.rd M (.cons _ (List.Sublist.trans (List.Sublist.refl _) (List.sublist_append_left _ _)))) (by first | omega | (simp only [List.length_cons, List.length_nil, List.length_set]; omega))) ?_
            clear T
            rintro e wc ⟨Aur12_9, cur12_9, Iur12_9, rfl, hsmur12_9, N⟩
            intro ac T
            obtain ⟨bur12_9, our12_9, Sur12_9⟩ := hsmur12_9.sp (w := w) (ex := noEx) (by simp [ic_length])
            replace M := (M.join N).swapI
            replace M := M.mask [true] rfl
            clear N hsmur12_9
            refine sh_out hK _ _ ((M.mask [false] rfl).sub (List.Sublist.trans (List.sublist_append_left _ _) (List.sublist_append_left _ _))) ?_; clear hK K
            refine g_w (i := 11) (by kernel_rfl) rfl (by kernel_rfl : (pbits 13 2047).setIfInBounds 11 true = pbits 13 4095) rfl ?_; intro K hK
            refine ow_stO M T rfl rfl (T.ev 2 rfl) (T.ev 1 rfl) rfl .head rfl (by simp) rfl (by kernel_rfl) ?_; clear M T; intro wc ac M T
            refine sh_out hK _ _ ((M.mask [false] rfl).sub (List.Sublist.trans (List.sublist_append_left _ _) (List.sublist_append_left _ _))) ?_; clear hK K
            refine g_q (T := T) (i := 12) rfl (by kernel_rfl) (by kernel_rfl : (pbits 13 4095).setIfInBounds 12 true = pbits 13 8191) si_U (fun _ _ _ h => h) rfl rfl rfl rfl (fun _ _ _ _ _ => (rn_assign rfl (T.ev 0 rfl))) ?_; clear T ac; intro ac T
            refine g_done (by kernel_rfl) ?_
            replace T := T.pick [0, 3, 13, 14, 15] rfl
            refine nm_then ?_
            refine wp_seq ?_
            refine wp_region_lit ?_
            refine l_q T rfl rfl rfl rfl (rn_rowO (Mem.nth M 0 rfl) rfl (T.ev 1 rfl) rfl) ?_; clear T ac; intro ac T
            refine l_q T rfl rfl rfl rfl (rn_move rfl (T.ev 1 rfl)) ?_; clear T ac; intro ac T
            refine l_w rfl ?_; intro K hK
            refine ow_call (first := []) (cap := []) T rfl rfl rfl rfl evf (.cons (T.ev 1 rfl) (.cons (T.ev 0 rfl) .nil)) Try.func34 rfl rfl ?_
            refine Calls.mono (After_T jx _ _ _ _ _ lv _ (Sur12_4.rd M (.cons _ (List.Sublist.trans (List.sublist_append_right _ _) (List.sublist_append_left _ _)))) (by first | omega | (simp only [List.length_cons, List.length_nil, List.length_set]; omega)) (Sur12_9.rd M (.cons _ (List.sublist_append_right _ _))) (by first | omega | (simp only [List.length_cons, List.length_nil, List.length_set]; omega))) ?_
            clear T
            rintro e wc ⟨rfl, hb⟩
            intro ac T
            replace M := M.call hb; clear hb
            refine sh_out hK _ _ ?_; clear hK K
            refine l_q T rfl rfl rfl rfl (rn_move rfl (T.ev 0 rfl)) ?_; clear T ac; intro ac T
            refine l_q T rfl rfl rfl rfl (rn_extract rfl (T.ev 0 rfl) rfl) ?_; clear T ac; intro ac T
            refine l_q T rfl rfl rfl rfl (rn_extract rfl (T.ev 1 rfl) rfl) ?_; clear T ac; intro ac T
            refine l_w rfl ?_; intro K hK
            refine ow_al M T rfl rfl rfl rfl ?_; clear M T; intro g8 wc ac M T
            refine sh_out hK _ _ ?_; clear hK K
            refine l_w rfl ?_; intro K hK
            refine ow_stO M T rfl rfl (T.ev 0 rfl) (T.ev 2 rfl) rfl .head rfl (by simp) rfl (by kernel_rfl) ?_; clear M T; intro wc ac M T
            refine sh_out hK _ _ ?_; clear hK K
            refine l_q T rfl rfl rfl rfl (rn_assign rfl (T.ev 1 rfl)) ?_; clear T ac; intro ac T
            refine wpList_nil ?_
            replace T := T.pick [0, 1, 8, 9, 10, 11, 12] rfl
            refine nm_then ?_
            refine cut_seq (fun ac wc => ∃ (gr14_12 : Nat), Tm ac 231 [(15, .slice (some ⟨g4, 0, none⟩) 5 5), (16, .slice (some ⟨g5, 0, none⟩) 5 5), (17, .int .i64 (i : Int)), (18, .pointer (some ⟨gr12_10, 0, none⟩)), (19, .slice Aur12_9 lv.length cur12_9), (20, .pointer (some ⟨g8, 0, none⟩)), (21, .int .i64 (checkStrokesJ jx lv)), (22, .pointer (some ⟨gr14_12, 0, none⟩)), (23, .int .i64 (checkStrokesJ jx lv))] ∧ Mem w noEx wc ((gr14_12, .cells [.int .i64 ((afT jx lv).p0), .int .i64 ((afT jx lv).p1), .int .i64 ((afT jx lv).t0), .int .i64 ((afT jx lv).t1), .int .i64 ((afT jx lv).r0), .int .i64 ((afT jx lv).r1)]) :: (g8, .cells [.int .i64 ((afT jx lv).p0), .int .i64 ((afT jx lv).p1), .int .i64 ((afT jx lv).t0), .int .i64 ((afT jx lv).t1), .int .i64 ((afT jx lv).r0), .int .i64 ((afT jx lv).r1)]) :: (gr12_10, .cells (jobL jx Aur12_4 cur12_4)) :: (IT ++ Iur12_4 ++ Iur12_9))) ?_ ?_
            · refine g_start2 M (M.mask [true, true] rfl) 15 (by kernel_rfl) rfl (by kernel_rfl) ?_
              clear M; intro wc M
              refine g_q (T := T) (i := 0) rfl (by kernel_rfl) (by kernel_rfl : (pbits 15 0).setIfInBounds 0 true = pbits 15 1) si_U (fun _ _ _ h => h) rfl rfl rfl rfl (fun _ _ _ _ _ => (rn_move rfl (T.ev 4 rfl))) ?_; clear T ac; intro ac T
              refine g_q (T := T) (i := 1) rfl (by kernel_rfl) (by kernel_rfl : (pbits 15 1).setIfInBounds 1 true = pbits 15 3) si_U (fun _ _ _ h => h) rfl rfl rfl rfl (fun _ _ _ _ _ => (rn_move rfl (T.ev 7 rfl))) ?_; clear T ac; intro ac T
              refine g_q (T := T) (i := 2) rfl (by kernel_rfl) (by kernel_rfl : (pbits 15 3).setIfInBounds 2 true = pbits 15 7) si_U (fun _ _ _ h => h) rfl rfl rfl rfl (fun _ _ _ _ _ => (rn_indexAddr (size := 18) i rfl (T.ev 1 rfl) (T.ev 0 rfl) ⟨_, Try.underlying36, by kernel_rfl⟩ rfl (by omega) (SJL.at0 (by omega)))) ?_; clear T ac; intro ac T
              refine g_q (v := (.agg #[.int .i64 jx.p0, .int .i64 jx.p1, .int .i64 jx.t0, .int .i64 jx.t1, .int .i64 jx.r0, .int .i64 jx.r1, .int .i64 jx.u0, .int .i64 jx.u1, .int .i64 jx.d0, .int .i64 jx.d1, .int .i64 jx.a0, .int .i64 jx.a1, .int .i64 jx.b0, .int .i64 jx.b1, .int .i64 jx.le, .slice Ax jx.sh.length cx, .int .i64 jx.wi, .int .i64 jx.me])) (T := T) (i := 3) rfl (by kernel_rfl) (by kernel_rfl : (pbits 15 7).setIfInBounds 3 true = pbits 15 15) si_U (fun _ _ _ h => h) rfl rfl rfl rfl (fun B w' hD hl hS => (rn_rowat (Sp.jcR SJL (show Mem w noEx w' _ from hS) (.cons _ (.cons _ (List.Sublist.trans (List.Sublist.trans (List.Sublist.refl _) (List.sublist_append_left _ _)) (List.sublist_append_left _ _)))) hkx) rfl (T.ev 0 rfl) rfl)) ?_; clear T ac; intro ac T
              refine g_q (T := T) (i := 4) rfl (by kernel_rfl) (by kernel_rfl : (pbits 15 15).setIfInBounds 4 true = pbits 15 31) si_U (fun _ _ _ h => h) rfl rfl rfl rfl (fun _ _ _ _ _ => (rn_move rfl (T.ev 9 rfl))) ?_; clear T ac; intro ac T
              refine g_q (T := T) (i := 5) rfl (by kernel_rfl) (by kernel_rfl : (pbits 15 31).setIfInBounds 5 true = pbits 15 63) si_U (fun _ _ _ h => h) rfl rfl rfl rfl (fun _ _ _ _ _ => (rn_move rfl (T.ev 11 rfl))) ?_; clear T ac; intro ac T
              refine g_q (T := T) (i := 6) rfl (by kernel_rfl) (by kernel_rfl : (pbits 15 63).setIfInBounds 6 true = pbits 15 127) si_U (fun _ _ _ h => h) rfl rfl rfl rfl (fun _ _ _ _ _ => (rn_indexAddr (size := 1) i rfl (T.ev 1 rfl) (T.ev 0 rfl) ⟨_, Try.underlying51, by kernel_rfl⟩ rfl (by omega) (SLL.at0 (by omega)))) ?_; clear T ac; intro ac T
              refine g_q (v := (.slice Av lv.length cv)) (T := T) (i := 7) rfl (by kernel_rfl) (by kernel_rfl : (pbits 15 127).setIfInBounds 7 true = pbits 15 255) si_U (fun _ _ _ h => h) rfl rfl rfl rfl (fun B w' hD hl hS => (rn_cell (Sp.lc0 SLL (show Mem w noEx w' _ from hS) (.cons _ (.cons _ (List.Sublist.trans (List.Sublist.trans (List.Sublist.refl _) (List.sublist_append_left _ _)) (List.sublist_append_left _ _)))) hkv) rfl (T.ev 0 rfl))) ?_; clear T ac; intro ac T
              refine g_m2 (i := 8) (j := 12) (by kernel_rfl) ?_ ?_
              · refine g_i rfl (by kernel_rfl : (pbits 15 255).setIfInBounds 8 true = pbits 15 511) rfl ?_; intro K hK
                refine ow_call (first := []) (cap := []) T rfl rfl rfl rfl evf (.cons (T.ev 4 rfl) (.cons (T.ev 0 rfl) .nil)) Try.func54 rfl rfl ?_
                refine Calls.mono (rAfter_any jx _ _ _ _ _ lv _ (Sx.rd M (.cons _ (.cons _ (List.Sublist.trans (List.Sublist.trans (List.Sublist.refl _) (List.sublist_append_left _ _)) (List.sublist_append_left _ _))))) (by first | omega | (simp only [List.length_cons, List.length_nil, List.length_set]; omega)) (Sv.rd M (.cons _ (.cons _ (List.Sublist.trans (List.Sublist.trans (List.Sublist.refl _) (List.sublist_append_left _ _)) (List.sublist_append_left _ _))))) (by first | omega | (simp only [List.length_cons, List.length_nil, List.length_set]; omega))) ?_
                clear T
                rintro e wc ⟨rfl, hb⟩
                intro ac T
                replace M := M.call hb; clear hb
                refine sh_out hK _ _ (M.mask [true, true] rfl) ?_; clear hK K
                refine g_q (T := T) (i := 9) rfl (by kernel_rfl) (by kernel_rfl : (pbits 15 511).setIfInBounds 9 true = pbits 15 1023) si_U (fun _ _ _ h => h) rfl rfl rfl rfl (fun _ _ _ _ _ => (rn_move rfl (T.ev 0 rfl))) ?_; clear T ac; intro ac T
                refine g_q (T := T) (i := 10) rfl (by kernel_rfl) (by kernel_rfl : (pbits 15 1023).setIfInBounds 10 true = pbits 15 2047) si_U (fun _ _ _ h => h) rfl rfl rfl rfl (fun _ _ _ _ _ => (rn_extract rfl (T.ev 0 rfl) rfl)) ?_; clear T ac; intro ac T
                refine g_q (T := T) (i := 11) rfl (by kernel_rfl) (by kernel_rfl : (pbits 15 2047).setIfInBounds 11 true = pbits 15 4095) si_U (fun _ _ _ h => h) rfl rfl rfl rfl (fun _ _ _ _ _ => (rn_extract rfl (T.ev 1 rfl) rfl)) ?_; clear T ac; intro ac T
                refine g_w (i := 12) (by kernel_rfl) rfl (by kernel_rfl : (pbits 15 4095).setIfInBounds 12 true = pbits 15 8191) rfl ?_; intro K hK
                refine ow_al M T rfl rfl rfl rfl ?_; clear M T; intro gr14_12 wc ac M T
                refine sh_out hK _ _ (M.mask [false, true, true] rfl) ?_; clear hK K
                refine g_w (i := 13) (by kernel_rfl) rfl (by kernel_rfl : (pbits 15 8191).setIfInBounds 13 true = pbits 15 16383) rfl ?_; intro K hK
                refine ow_stO M T rfl rfl (T.ev 0 rfl) (T.ev 2 rfl) rfl .head rfl (by simp) rfl (by kernel_rfl) ?_; clear M T; intro wc ac M T
                refine sh_out hK _ _ (M.mask [false, true, true] rfl) ?_; clear hK K
                refine g_q (T := T) (i := 14) rfl (by kernel_rfl) (by kernel_rfl : (pbits 15 16383).setIfInBounds 14 true = pbits 15 32767) si_U (fun _ _ _ h => h) rfl rfl rfl rfl (fun _ _ _ _ _ => (rn_assign rfl (T.ev 1 rfl))) ?_; clear T ac; intro ac T
                refine g_done (by kernel_rfl) ?_
                replace T := T.pick [0, 1, 14, 15, 16, 17, 18, 19, 20] rfl
                exact ⟨gr14_12, (T.pick (E' := [(15, .slice (some ⟨g4, 0, none⟩) 5 5), (16, .slice (some ⟨g5, 0, none⟩) 5 5), (17, .int .i64 (i : Int)), (18, .pointer (some ⟨gr12_10, 0, none⟩)), (19, .slice Aur12_9 lv.length cur12_9), (20, .pointer (some ⟨g8, 0, none⟩)), (21, .int .i64 (checkStrokesJ jx lv)), (22, .pointer (some ⟨gr14_12, 0, none⟩)), (23, .int .i64 (checkStrokesJ jx lv))]) [6, 7, 8, 5, 4, 3, 2, 1, 0] rfl).as (by rfl), M.mask [true, true, true] rfl⟩
              · refine g_i rfl (by kernel_rfl : (pbits 15 255).setIfInBounds 12 true = pbits 15 4351) rfl ?_; intro K hK
                refine ow_al M T rfl rfl rfl rfl ?_; clear M T; intro gr14_12 wc ac M T
                refine sh_out hK _ _ (M.mask [false, true, true] rfl) ?_; clear hK K
                refine g_w (i := 8) (by kernel_rfl) rfl (by kernel_rfl : (pbits 15 4351).setIfInBounds 8 true = pbits 15 4607) rfl ?_; intro K hK
                refine ow_call (first := []) (cap := []) T rfl rfl rfl rfl evf (.cons (T.ev 5 rfl) (.cons (T.ev 1 rfl) .nil)) Try.func54 rfl rfl ?_
                refine Calls.mono (rAfter_any jx _ _ _ _ _ lv _ (Sx.rd M (.cons _ (.cons _ (.cons _ (List.Sublist.trans (List.Sublist.trans (List.Sublist.refl _) (List.sublist_append_left _ _)) (List.sublist_append_left _ _)))))) (by first | omega | (simp only [List.length_cons, List.length_nil, List.length_set]; omega)) (Sv.rd M (.cons _ (.cons _ (.cons _ (List.Sublist.trans (List.Sublist.trans (List.Sublist.refl _) (List.sublist_append_left _ _)) (List.sublist_append_left _ _)))))) (by first | omega | (simp only [List.length_cons, List.length_nil, List.length_set]; omega))) ?_
                clear T
                rintro e wc ⟨rfl, hb⟩
                intro ac T
                replace M := M.call hb; clear hb
                refine sh_out hK _ _ (M.mask [false, true, true] rfl) ?_; clear hK K
                refine g_q (T := T) (i := 9) rfl (by kernel_rfl) (by kernel_rfl : (pbits 15 4607).setIfInBounds 9 true = pbits 15 5119) si_U (fun _ _ _ h => h) rfl rfl rfl rfl (fun _ _ _ _ _ => (rn_move rfl (T.ev 0 rfl))) ?_; clear T ac; intro ac T
                refine g_q (T := T) (i := 10) rfl (by kernel_rfl) (by kernel_rfl : (pbits 15 5119).setIfInBounds 10 true = pbits 15 6143) si_U (fun _ _ _ h => h) rfl rfl rfl rfl (fun _ _ _ _ _ => (rn_extract rfl (T.ev 0 rfl) rfl)) ?_; clear T ac; intro ac T
                refine g_q (T := T) (i := 11) rfl (by kernel_rfl) (by kernel_rfl : (pbits 15 6143).setIfInBounds 11 true = pbits 15 8191) si_U (fun _ _ _ h => h) rfl rfl rfl rfl (fun _ _ _ _ _ => (rn_extract rfl (T.ev 1 rfl) rfl)) ?_; clear T ac; intro ac T
                refine g_w (i := 13) (by kernel_rfl) rfl (by kernel_rfl : (pbits 15 8191).setIfInBounds 13 true = pbits 15 16383) rfl ?_; intro K hK
                refine ow_stO M T rfl rfl (T.ev 4 rfl) (T.ev 1 rfl) rfl .head rfl (by simp) rfl (by kernel_rfl) ?_; clear M T; intro wc ac M T
                refine sh_out hK _ _ (M.mask [false, true, true] rfl) ?_; clear hK K
                refine g_q (T := T) (i := 14) rfl (by kernel_rfl) (by kernel_rfl : (pbits 15 16383).setIfInBounds 14 true = pbits 15 32767) si_U (fun _ _ _ h => h) rfl rfl rfl rfl (fun _ _ _ _ _ => (rn_assign rfl (T.ev 0 rfl))) ?_; clear T ac; intro ac T
                refine g_done (by kernel_rfl) ?_
                replace T := T.pick [0, 5, 14, 15, 16, 17, 18, 19, 20] rfl
                exact ⟨gr14_12, (T.pick (E' := [(15, .slice (some ⟨g4, 0, none⟩) 5 5), (16, .slice (some ⟨g5, 0, none⟩) 5 5), (17, .int .i64 (i : Int)), (18, .pointer (some ⟨gr12_10, 0, none⟩)), (19, .slice Aur12_9 lv.length cur12_9), (20, .pointer (some ⟨g8, 0, none⟩)), (21, .int .i64 (checkStrokesJ jx lv)), (22, .pointer (some ⟨gr14_12, 0, none⟩)), (23, .int .i64 (checkStrokesJ jx lv))]) [6, 7, 8, 5, 4, 3, 2, 1, 0] rfl).as (by rfl), M.mask [true, true, true] rfl⟩
            · clear T M
              rintro ac wc ⟨gr14_12, T, M⟩
              refine wp_seq ?_
              refine wp_region_lit ?_
              refine l_q T rfl rfl rfl rfl (rn_rowO (Mem.nth M 2 rfl) rfl (T.ev 3 rfl) rfl) ?_; clear T ac; intro ac T
              refine l_q T rfl rfl rfl rfl (rn_move rfl (T.ev 5 rfl)) ?_; clear T ac; intro ac T
              refine l_w rfl ?_; intro K hK
              refine ow_call (first := []) (cap := []) T rfl rfl rfl rfl evf (.cons (T.ev 1 rfl) (.cons (T.ev 0 rfl) .nil)) Try.func51 rfl rfl ?_
              refine Calls.mono (Worst_any jx _ _ _ _ _ lv _ (Sur12_4.rd M (.cons _ (.cons _ (.cons _ (List.Sublist.trans (List.sublist_append_right _ _) (List.sublist_append_left _ _)))))) (by first | omega | (simp only [List.length_cons, List.length_nil, List.length_set]; omega)) (Sur12_9.rd M (.cons _ (.cons _ (.cons _ (List.sublist_append_right _ _))))) (by first | omega | (simp only [List.length_cons, List.length_nil, List.length_set]; omega))) ?_
              clear T
              rintro e wc ⟨rfl, hb⟩
              intro ac T
              replace M := M.call hb; clear hb
              refine sh_out hK _ _ ?_; clear hK K
              refine l_q T rfl rfl rfl rfl (rn_move rfl (T.ev 0 rfl)) ?_; clear T ac; intro ac T
              refine l_q T rfl rfl rfl rfl (rn_extract rfl (T.ev 0 rfl) rfl) ?_; clear T ac; intro ac T
              refine l_q T rfl rfl rfl rfl (rn_extract rfl (T.ev 1 rfl) rfl) ?_; clear T ac; intro ac T
              refine l_q T rfl rfl rfl rfl (rn_assign rfl (T.ev 1 rfl)) ?_; clear T ac; intro ac T
              refine l_q T rfl rfl rfl rfl (rn_assign rfl (T.ev 1 rfl)) ?_; clear T ac; intro ac T
              refine wpList_nil ?_
              replace T := T.pick [0, 1, 8, 9, 10, 11, 12, 13, 14, 15, 16] rfl
              refine nm_then ?_
              refine wp_seq ?_
              refine g_start2 M (M.mask [true, true, true] rfl) 14 (by kernel_rfl) rfl (by kernel_rfl) ?_
              clear M; intro wc M
              refine g_q (T := T) (i := 0) rfl (by kernel_rfl) (by kernel_rfl : (pbits 14 0).setIfInBounds 0 true = pbits 14 1) si_U (fun _ _ _ h => h) rfl rfl rfl rfl (fun _ _ _ _ _ => (rn_move rfl (T.ev 2 rfl))) ?_; clear T ac; intro ac T
              refine g_q (T := T) (i := 1) rfl (by kernel_rfl) (by kernel_rfl : (pbits 14 1).setIfInBounds 1 true = pbits 14 3) si_U (fun _ _ _ h => h) rfl rfl rfl rfl (fun _ _ _ _ _ => (rn_move rfl (T.ev 5 rfl))) ?_; clear T ac; intro ac T
              refine g_q (T := T) (i := 2) rfl (by kernel_rfl) (by kernel_rfl : (pbits 14 3).setIfInBounds 2 true = pbits 14 7) si_U (fun _ _ _ h => h) rfl rfl rfl rfl (fun _ _ _ _ _ => (rn_indexAddr (size := 18) i rfl (T.ev 1 rfl) (T.ev 0 rfl) ⟨_, Try.underlying36, by kernel_rfl⟩ rfl (by omega) (SJL.at0 (by omega)))) ?_; clear T ac; intro ac T
              refine g_q (v := (.agg #[.int .i64 jx.p0, .int .i64 jx.p1, .int .i64 jx.t0, .int .i64 jx.t1, .int .i64 jx.r0, .int .i64 jx.r1, .int .i64 jx.u0, .int .i64 jx.u1, .int .i64 jx.d0, .int .i64 jx.d1, .int .i64 jx.a0, .int .i64 jx.a1, .int .i64 jx.b0, .int .i64 jx.b1, .int .i64 jx.le, .slice Ax jx.sh.length cx, .int .i64 jx.wi, .int .i64 jx.me])) (T := T) (i := 3) rfl (by kernel_rfl) (by kernel_rfl : (pbits 14 7).setIfInBounds 3 true = pbits 14 15) si_U (fun _ _ _ h => h) rfl rfl rfl rfl (fun B w' hD hl hS => (rn_rowat (Sp.jcR SJL (show Mem w noEx w' _ from hS) (.cons _ (.cons _ (.cons _ (List.Sublist.trans (List.Sublist.trans (List.Sublist.refl _) (List.sublist_append_left _ _)) (List.sublist_append_left _ _))))) hkx) rfl (T.ev 0 rfl) rfl)) ?_; clear T ac; intro ac T
              refine g_q (T := T) (i := 4) rfl (by kernel_rfl) (by kernel_rfl : (pbits 14 15).setIfInBounds 4 true = pbits 14 31) si_U (fun _ _ _ h => h) rfl rfl rfl rfl (fun _ _ _ _ _ => (rn_move rfl (T.ev 7 rfl))) ?_; clear T ac; intro ac T
              refine g_q (T := T) (i := 5) rfl (by kernel_rfl) (by kernel_rfl : (pbits 14 31).setIfInBounds 5 true = pbits 14 63) si_U (fun _ _ _ h => h) rfl rfl rfl rfl (fun _ _ _ _ _ => (rn_move rfl (T.ev 9 rfl))) ?_; clear T ac; intro ac T
              refine g_q (T := T) (i := 6) rfl (by kernel_rfl) (by kernel_rfl : (pbits 14 63).setIfInBounds 6 true = pbits 14 127) si_U (fun _ _ _ h => h) rfl rfl rfl rfl (fun _ _ _ _ _ => (rn_indexAddr (size := 1) i rfl (T.ev 1 rfl) (T.ev 0 rfl) ⟨_, Try.underlying51, by kernel_rfl⟩ rfl (by omega) (SLL.at0 (by omega)))) ?_; clear T ac; intro ac T
              refine g_q (v := (.slice Av lv.length cv)) (T := T) (i := 7) rfl (by kernel_rfl) (by kernel_rfl : (pbits 14 127).setIfInBounds 7 true = pbits 14 255) si_U (fun _ _ _ h => h) rfl rfl rfl rfl (fun B w' hD hl hS => (rn_cell (Sp.lc0 SLL (show Mem w noEx w' _ from hS) (.cons _ (.cons _ (.cons _ (List.Sublist.trans (List.Sublist.trans (List.Sublist.refl _) (List.sublist_append_left _ _)) (List.sublist_append_left _ _))))) hkv) rfl (T.ev 0 rfl))) ?_; clear T ac; intro ac T
              refine g_w (i := 8) (by kernel_rfl) rfl (by kernel_rfl : (pbits 14 255).setIfInBounds 8 true = pbits 14 511) rfl ?_; intro K hK
              refine ow_call (first := []) (cap := []) T rfl rfl rfl rfl evf (.cons (T.ev 4 rfl) (.cons (T.ev 0 rfl) .nil)) Try.func55 rfl rfl ?_
              refine Calls.mono (rWorst_T jx _ _ _ _ _ lv _ (Sx.rd M (.cons _ (.cons _ (.cons _ (List.Sublist.trans (List.Sublist.trans (List.Sublist.refl _) (List.sublist_append_left _ _)) (List.sublist_append_left _ _)))))) (by first | omega | (simp only [List.length_cons, List.length_nil, List.length_set]; omega)) (Sv.rd M (.cons _ (.cons _ (.cons _ (List.Sublist.trans (List.Sublist.trans (List.Sublist.refl _) (List.sublist_append_left _ _)) (List.sublist_append_left _ _)))))) (by first | omega | (simp only [List.length_cons, List.length_nil, List.length_set]; omega))) ?_
              clear T
              rintro e wc ⟨rfl, hb⟩
              intro ac T
              replace M := M.call hb; clear hb
              refine sh_out hK _ _ (M.mask [true, true, true] rfl) ?_; clear hK K
              refine g_q (T := T) (i := 9) rfl (by kernel_rfl) (by kernel_rfl : (pbits 14 511).setIfInBounds 9 true = pbits 14 1023) si_U (fun _ _ _ h => h) rfl rfl rfl rfl (fun _ _ _ _ _ => (rn_move rfl (T.ev 0 rfl))) ?_; clear T ac; intro ac T
              refine g_q (T := T) (i := 10) rfl (by kernel_rfl) (by kernel_rfl : (pbits 14 1023).setIfInBounds 10 true = pbits 14 2047) si_U (fun _ _ _ h => h) rfl rfl rfl rfl (fun _ _ _ _ _ => (rn_extract rfl (T.ev 0 rfl) rfl)) ?_; clear T ac; intro ac T
              refine g_q (T := T) (i := 11) rfl (by kernel_rfl) (by kernel_rfl : (pbits 14 2047).setIfInBounds 11 true = pbits 14 4095) si_U (fun _ _ _ h => h) rfl rfl rfl rfl (fun _ _ _ _ _ => (rn_extract rfl (T.ev 1 rfl) rfl)) ?_; clear T ac; intro ac T
              refine g_q (T := T) (i := 12) rfl (by kernel_rfl) (by kernel_rfl : (pbits 14 4095).setIfInBounds 12 true = pbits 14 8191) si_U (fun _ _ _ h => h) rfl rfl rfl rfl (fun _ _ _ _ _ => (rn_assign rfl (T.ev 1 rfl))) ?_; clear T ac; intro ac T
              refine g_q (T := T) (i := 13) rfl (by kernel_rfl) (by kernel_rfl : (pbits 14 8191).setIfInBounds 13 true = pbits 14 16383) si_U (fun _ _ _ h => h) rfl rfl rfl rfl (fun _ _ _ _ _ => (rn_assign rfl (T.ev 1 rfl))) ?_; clear T ac; intro ac T
              refine g_done (by kernel_rfl) ?_
              replace T := T.pick [0, 1, 14, 15, 16, 17, 18, 19, 20, 21, 22, 23, 24] rfl
              refine nm_then ?_
              refine wp_seq ?_
              refine wp_region_lit ?_
              refine l_q T rfl rfl rfl rfl (rn_rowO (Mem.nth M 2 rfl) rfl (T.ev 7 rfl) rfl) ?_; clear T ac; intro ac T
              refine l_q T rfl rfl rfl rfl (rn_move rfl (T.ev 9 rfl)) ?_; clear T ac; intro ac T
              refine l_w rfl ?_; intro K hK
              refine ow_call (first := []) (cap := []) T rfl rfl rfl rfl evf (.cons (T.ev 1 rfl) (.cons (T.ev 0 rfl) .nil)) Try.func44 rfl rfl ?_
              refine Calls.mono (Spoiled_any jx _ _ _ _ _ lv _ (Sur12_4.rd M (.cons _ (.cons _ (.cons _ (List.Sublist.trans (List.sublist_append_right _ _) (List.sublist_append_left _ _)))))) (by first | omega | (simp only [List.length_cons, List.length_nil, List.length_set]; omega)) (Sur12_9.rd M (.cons _ (.cons _ (.cons _ (List.sublist_append_right _ _))))) (by first | omega | (simp only [List.length_cons, List.length_nil, List.length_set]; omega))) ?_
              clear T
              rintro e wc ⟨rfl, hb⟩
              intro ac T
              replace M := M.call hb; clear hb
              refine sh_out hK _ _ ?_; clear hK K
              refine l_q T rfl rfl rfl rfl (rn_move rfl (T.ev 0 rfl)) ?_; clear T ac; intro ac T
              refine l_q T rfl rfl rfl rfl (rn_extract rfl (T.ev 0 rfl) rfl) ?_; clear T ac; intro ac T
              refine l_q T rfl rfl rfl rfl (rn_extract rfl (T.ev 1 rfl) rfl) ?_; clear T ac; intro ac T
              refine l_q T rfl rfl rfl rfl (rn_assign rfl (T.ev 1 rfl)) ?_; clear T ac; intro ac T
              refine l_q T rfl rfl rfl rfl (rn_assign rfl (T.ev 1 rfl)) ?_; clear T ac; intro ac T
              refine wpList_nil ?_
              replace T := T.pick [0, 1, 8, 9, 10, 11, 12, 13, 14, 15, 16, 17, 18, 19, 20] rfl
              refine nm_then ?_
              refine wp_seq ?_
              refine g_start2 M (M.mask [true, true, true] rfl) 14 (by kernel_rfl) rfl (by kernel_rfl) ?_
              clear M; intro wc M
              refine g_q (T := T) (i := 0) rfl (by kernel_rfl) (by kernel_rfl : (pbits 14 0).setIfInBounds 0 true = pbits 14 1) si_U (fun _ _ _ h => h) rfl rfl rfl rfl (fun _ _ _ _ _ => (rn_move rfl (T.ev 6 rfl))) ?_; clear T ac; intro ac T
              refine g_q (T := T) (i := 1) rfl (by kernel_rfl) (by kernel_rfl : (pbits 14 1).setIfInBounds 1 true = pbits 14 3) si_U (fun _ _ _ h => h) rfl rfl rfl rfl (fun _ _ _ _ _ => (rn_move rfl (T.ev 9 rfl))) ?_; clear T ac; intro ac T
              refine g_q (T := T) (i := 2) rfl (by kernel_rfl) (by kernel_rfl : (pbits 14 3).setIfInBounds 2 true = pbits 14 7) si_U (fun _ _ _ h => h) rfl rfl rfl rfl (fun _ _ _ _ _ => (rn_indexAddr (size := 18) i rfl (T.ev 1 rfl) (T.ev 0 rfl) ⟨_, Try.underlying36, by kernel_rfl⟩ rfl (by omega) (SJL.at0 (by omega)))) ?_; clear T ac; intro ac T
              refine g_q (v := (.agg #[.int .i64 jx.p0, .int .i64 jx.p1, .int .i64 jx.t0, .int .i64 jx.t1, .int .i64 jx.r0, .int .i64 jx.r1, .int .i64 jx.u0, .int .i64 jx.u1, .int .i64 jx.d0, .int .i64 jx.d1, .int .i64 jx.a0, .int .i64 jx.a1, .int .i64 jx.b0, .int .i64 jx.b1, .int .i64 jx.le, .slice Ax jx.sh.length cx, .int .i64 jx.wi, .int .i64 jx.me])) (T := T) (i := 3) rfl (by kernel_rfl) (by kernel_rfl : (pbits 14 7).setIfInBounds 3 true = pbits 14 15) si_U (fun _ _ _ h => h) rfl rfl rfl rfl (fun B w' hD hl hS => (rn_rowat (Sp.jcR SJL (show Mem w noEx w' _ from hS) (.cons _ (.cons _ (.cons _ (List.Sublist.trans (List.Sublist.trans (List.Sublist.refl _) (List.sublist_append_left _ _)) (List.sublist_append_left _ _))))) hkx) rfl (T.ev 0 rfl) rfl)) ?_; clear T ac; intro ac T
              refine g_q (T := T) (i := 4) rfl (by kernel_rfl) (by kernel_rfl : (pbits 14 15).setIfInBounds 4 true = pbits 14 31) si_U (fun _ _ _ h => h) rfl rfl rfl rfl (fun _ _ _ _ _ => (rn_move rfl (T.ev 11 rfl))) ?_; clear T ac; intro ac T
              refine g_q (T := T) (i := 5) rfl (by kernel_rfl) (by kernel_rfl : (pbits 14 31).setIfInBounds 5 true = pbits 14 63) si_U (fun _ _ _ h => h) rfl rfl rfl rfl (fun _ _ _ _ _ => (rn_move rfl (T.ev 13 rfl))) ?_; clear T ac; intro ac T
              refine g_q (T := T) (i := 6) rfl (by kernel_rfl) (by kernel_rfl : (pbits 14 63).setIfInBounds 6 true = pbits 14 127) si_U (fun _ _ _ h => h) rfl rfl rfl rfl (fun _ _ _ _ _ => (rn_indexAddr (size := 1) i rfl (T.ev 1 rfl) (T.ev 0 rfl) ⟨_, Try.underlying51, by kernel_rfl⟩ rfl (by omega) (SLL.at0 (by omega)))) ?_; clear T ac; intro ac T
              refine g_q (v := (.slice Av lv.length cv)) (T := T) (i := 7) rfl (by kernel_rfl) (by kernel_rfl : (pbits 14 127).setIfInBounds 7 true = pbits 14 255) si_U (fun _ _ _ h => h) rfl rfl rfl rfl (fun B w' hD hl hS => (rn_cell (Sp.lc0 SLL (show Mem w noEx w' _ from hS) (.cons _ (.cons _ (.cons _ (List.Sublist.trans (List.Sublist.trans (List.Sublist.refl _) (List.sublist_append_left _ _)) (List.sublist_append_left _ _))))) hkv) rfl (T.ev 0 rfl))) ?_; clear T ac; intro ac T
              refine g_w (i := 8) (by kernel_rfl) rfl (by kernel_rfl : (pbits 14 255).setIfInBounds 8 true = pbits 14 511) rfl ?_; intro K hK
              refine ow_call (first := []) (cap := []) T rfl rfl rfl rfl evf (.cons (T.ev 4 rfl) (.cons (T.ev 0 rfl) .nil)) Try.func56 rfl rfl ?_
              refine Calls.mono (rSpoiled_any jx _ _ _ _ _ lv _ (Sx.rd M (.cons _ (.cons _ (.cons _ (List.Sublist.trans (List.Sublist.trans (List.Sublist.refl _) (List.sublist_append_left _ _)) (List.sublist_append_left _ _)))))) (by first | omega | (simp only [List.length_cons, List.length_nil, List.length_set]; omega)) (Sv.rd M (.cons _ (.cons _ (.cons _ (List.Sublist.trans (List.Sublist.trans (List.Sublist.refl _) (List.sublist_append_left _ _)) (List.sublist_append_left _ _)))))) (by first | omega | (simp only [List.length_cons, List.length_nil, List.length_set]; omega))) ?_
              clear T
              rintro e wc ⟨rfl, hb⟩
              intro ac T
              replace M := M.call hb; clear hb
              refine sh_out hK _ _ (M.mask [true, true, true] rfl) ?_; clear hK K
              refine g_q (T := T) (i := 9) rfl (by kernel_rfl) (by kernel_rfl : (pbits 14 511).setIfInBounds 9 true = pbits 14 1023) si_U (fun _ _ _ h => h) rfl rfl rfl rfl (fun _ _ _ _ _ => (rn_move rfl (T.ev 0 rfl))) ?_; clear T ac; intro ac T
              refine g_q (T := T) (i := 10) rfl (by kernel_rfl) (by kernel_rfl : (pbits 14 1023).setIfInBounds 10 true = pbits 14 2047) si_U (fun _ _ _ h => h) rfl rfl rfl rfl (fun _ _ _ _ _ => (rn_extract rfl (T.ev 0 rfl) rfl)) ?_; clear T ac; intro ac T
              refine g_q (T := T) (i := 11) rfl (by kernel_rfl) (by kernel_rfl : (pbits 14 2047).setIfInBounds 11 true = pbits 14 4095) si_U (fun _ _ _ h => h) rfl rfl rfl rfl (fun _ _ _ _ _ => (rn_extract rfl (T.ev 1 rfl) rfl)) ?_; clear T ac; intro ac T
              refine g_q (T := T) (i := 12) rfl (by kernel_rfl) (by kernel_rfl : (pbits 14 4095).setIfInBounds 12 true = pbits 14 8191) si_U (fun _ _ _ h => h) rfl rfl rfl rfl (fun _ _ _ _ _ => (rn_assign rfl (T.ev 1 rfl))) ?_; clear T ac; intro ac T
              refine g_q (T := T) (i := 13) rfl (by kernel_rfl) (by kernel_rfl : (pbits 14 8191).setIfInBounds 13 true = pbits 14 16383) si_U (fun _ _ _ h => h) rfl rfl rfl rfl (fun _ _ _ _ _ => (rn_assign rfl (T.ev 1 rfl))) ?_; clear T ac; intro ac T
              refine g_done (by kernel_rfl) ?_
              replace T := T.pick [0, 1, 14, 15, 16, 17, 18, 19, 20, 21, 22, 23, 24, 25, 26, 27, 28] rfl
              refine nm_then ?_
              refine wp_seq ?_
              refine wp_region_lit ?_
              refine l_q T rfl rfl rfl rfl (rn_rowO (Mem.nth M 2 rfl) rfl (T.ev 11 rfl) rfl) ?_; clear T ac; intro ac T
              refine l_q T rfl rfl rfl rfl (rn_move rfl (T.ev 13 rfl)) ?_; clear T ac; intro ac T
              refine l_w rfl ?_; intro K hK
              refine ow_call (first := []) (cap := []) T rfl rfl rfl rfl evf (.cons (T.ev 1 rfl) (.cons (T.ev 0 rfl) .nil)) Try.func30 rfl rfl ?_
              refine Calls.mono (Fine_any jx _ _ _ _ _ lv _ (Sur12_4.rd M (.cons _ (.cons _ (.cons _ (List.Sublist.trans (List.sublist_append_right _ _) (List.sublist_append_left _ _)))))) (by first | omega | (simp only [List.length_cons, List.length_nil, List.length_set]; omega)) (Sur12_9.rd M (.cons _ (.cons _ (.cons _ (List.sublist_append_right _ _))))) (by first | omega | (simp only [List.length_cons, List.length_nil, List.length_set]; omega))) ?_
              clear T
              rintro e wc ⟨rfl, hb⟩
              intro ac T
              replace M := M.call hb; clear hb
              refine sh_out hK _ _ ?_; clear hK K
              refine l_q T rfl rfl rfl rfl (rn_move rfl (T.ev 0 rfl)) ?_; clear T ac; intro ac T
              refine l_q T rfl rfl rfl rfl (rn_extract rfl (T.ev 0 rfl) rfl) ?_; clear T ac; intro ac T
              refine l_q T rfl rfl rfl rfl (rn_extract rfl (T.ev 1 rfl) rfl) ?_; clear T ac; intro ac T
              refine l_q T rfl rfl rfl rfl (rn_assign rfl (T.ev 1 rfl)) ?_; clear T ac; intro ac T
              refine l_q T rfl rfl rfl rfl (rn_assign rfl (T.ev 1 rfl)) ?_; clear T ac; intro ac T
              refine wpList_nil ?_
              replace T := T.pick [0, 1, 8, 9, 10, 11, 12, 13, 14, 15, 16, 17, 18, 19, 20, 21, 22, 23, 24] rfl
              refine nm_then ?_
              refine wp_seq ?_
              refine g_start2 M (M.mask [true, true, true] rfl) 14 (by kernel_rfl) rfl (by kernel_rfl) ?_
              clear M; intro wc M
              refine g_q (T := T) (i := 0) rfl (by kernel_rfl) (by kernel_rfl : (pbits 14 0).setIfInBounds 0 true = pbits 14 1) si_U (fun _ _ _ h => h) rfl rfl rfl rfl (fun _ _ _ _ _ => (rn_move rfl (T.ev 10 rfl))) ?_; clear T ac; intro ac T
              refine g_q (T := T) (i := 1) rfl (by kernel_rfl) (by kernel_rfl : (pbits 14 1).setIfInBounds 1 true = pbits 14 3) si_U (fun _ _ _ h => h) rfl rfl rfl rfl (fun _ _ _ _ _ => (rn_move rfl (T.ev 13 rfl))) ?_; clear T ac; intro ac T
              refine g_q (T := T) (i := 2) rfl (by kernel_rfl) (by kernel_rfl : (pbits 14 3).setIfInBounds 2 true = pbits 14 7) si_U (fun _ _ _ h => h) rfl rfl rfl rfl (fun _ _ _ _ _ => (rn_indexAddr (size := 18) i rfl (T.ev 1 rfl) (T.ev 0 rfl) ⟨_, Try.underlying36, by kernel_rfl⟩ rfl (by omega) (SJL.at0 (by omega)))) ?_; clear T ac; intro ac T
              refine g_q (v := (.agg #[.int .i64 jx.p0, .int .i64 jx.p1, .int .i64 jx.t0, .int .i64 jx.t1, .int .i64 jx.r0, .int .i64 jx.r1, .int .i64 jx.u0, .int .i64 jx.u1, .int .i64 jx.d0, .int .i64 jx.d1, .int .i64 jx.a0, .int .i64 jx.a1, .int .i64 jx.b0, .int .i64 jx.b1, .int .i64 jx.le, .slice Ax jx.sh.length cx, .int .i64 jx.wi, .int .i64 jx.me])) (T := T) (i := 3) rfl (by kernel_rfl) (by kernel_rfl : (pbits 14 7).setIfInBounds 3 true = pbits 14 15) si_U (fun _ _ _ h => h) rfl rfl rfl rfl (fun B w' hD hl hS => (rn_rowat (Sp.jcR SJL (show Mem w noEx w' _ from hS) (.cons _ (.cons _ (.cons _ (List.Sublist.trans (List.Sublist.trans (List.Sublist.refl _) (List.sublist_append_left _ _)) (List.sublist_append_left _ _))))) hkx) rfl (T.ev 0 rfl) rfl)) ?_; clear T ac; intro ac T
              refine g_q (T := T) (i := 4) rfl (by kernel_rfl) (by kernel_rfl : (pbits 14 15).setIfInBounds 4 true = pbits 14 31) si_U (fun _ _ _ h => h) rfl rfl rfl rfl (fun _ _ _ _ _ => (rn_move rfl (T.ev 15 rfl))) ?_; clear T ac; intro ac T
              refine g_q (T := T) (i := 5) rfl (by kernel_rfl) (by kernel_rfl : (pbits 14 31).setIfInBounds 5 true = pbits 14 63) si_U (fun _ _ _ h => h) rfl rfl rfl rfl (fun _ _ _ _ _ => (rn_move rfl (T.ev 17 rfl))) ?_; clear T ac; intro ac T
              refine g_q (T := T) (i := 6) rfl (by kernel_rfl) (by kernel_rfl : (pbits 14 63).setIfInBounds 6 true = pbits 14 127) si_U (fun _ _ _ h => h) rfl rfl rfl rfl (fun _ _ _ _ _ => (rn_indexAddr (size := 1) i rfl (T.ev 1 rfl) (T.ev 0 rfl) ⟨_, Try.underlying51, by kernel_rfl⟩ rfl (by omega) (SLL.at0 (by omega)))) ?_; clear T ac; intro ac T
              refine g_q (v := (.slice Av lv.length cv)) (T := T) (i := 7) rfl (by kernel_rfl) (by kernel_rfl : (pbits 14 127).setIfInBounds 7 true = pbits 14 255) si_U (fun _ _ _ h => h) rfl rfl rfl rfl (fun B w' hD hl hS => (rn_cell (Sp.lc0 SLL (show Mem w noEx w' _ from hS) (.cons _ (.cons _ (.cons _ (List.Sublist.trans (List.Sublist.trans (List.Sublist.refl _) (List.sublist_append_left _ _)) (List.sublist_append_left _ _))))) hkv) rfl (T.ev 0 rfl))) ?_; clear T ac; intro ac T
              refine g_w (i := 8) (by kernel_rfl) rfl (by kernel_rfl : (pbits 14 255).setIfInBounds 8 true = pbits 14 511) rfl ?_; intro K hK
              refine ow_call (first := []) (cap := []) T rfl rfl rfl rfl evf (.cons (T.ev 4 rfl) (.cons (T.ev 0 rfl) .nil)) Try.func57 rfl rfl ?_
              refine Calls.mono (rFine_T jx _ _ _ _ _ lv _ (Sx.rd M (.cons _ (.cons _ (.cons _ (List.Sublist.trans (List.Sublist.trans (List.Sublist.refl _) (List.sublist_append_left _ _)) (List.sublist_append_left _ _)))))) (by first | omega | (simp only [List.length_cons, List.length_nil, List.length_set]; omega)) (Sv.rd M (.cons _ (.cons _ (.cons _ (List.Sublist.trans (List.Sublist.trans (List.Sublist.refl _) (List.sublist_append_left _ _)) (List.sublist_append_left _ _)))))) (by first | omega | (simp only [List.length_cons, List.length_nil, List.length_set]; omega))) ?_
              clear T
              rintro e wc ⟨rfl, hb⟩
              intro ac T
              replace M := M.call hb; clear hb
              refine sh_out hK _ _ (M.mask [true, true, true] rfl) ?_; clear hK K
              refine g_q (T := T) (i := 9) rfl (by kernel_rfl) (by kernel_rfl : (pbits 14 511).setIfInBounds 9 true = pbits 14 1023) si_U (fun _ _ _ h => h) rfl rfl rfl rfl (fun _ _ _ _ _ => (rn_move rfl (T.ev 0 rfl))) ?_; clear T ac; intro ac T
              refine g_q (T := T) (i := 10) rfl (by kernel_rfl) (by kernel_rfl : (pbits 14 1023).setIfInBounds 10 true = pbits 14 2047) si_U (fun _ _ _ h => h) rfl rfl rfl rfl (fun _ _ _ _ _ => (rn_extract rfl (T.ev 0 rfl) rfl)) ?_; clear T ac; intro ac T
              refine g_q (T := T) (i := 11) rfl (by kernel_rfl) (by kernel_rfl : (pbits 14 2047).setIfInBounds 11 true = pbits 14 4095) si_U (fun _ _ _ h => h) rfl rfl rfl rfl (fun _ _ _ _ _ => (rn_extract rfl (T.ev 1 rfl) rfl)) ?_; clear T ac; intro ac T
              refine g_q (T := T) (i := 12) rfl (by kernel_rfl) (by kernel_rfl : (pbits 14 4095).setIfInBounds 12 true = pbits 14 8191) si_U (fun _ _ _ h => h) rfl rfl rfl rfl (fun _ _ _ _ _ => (rn_assign rfl (T.ev 1 rfl))) ?_; clear T ac; intro ac T
              refine g_q (T := T) (i := 13) rfl (by kernel_rfl) (by kernel_rfl : (pbits 14 8191).setIfInBounds 13 true = pbits 14 16383) si_U (fun _ _ _ h => h) rfl rfl rfl rfl (fun _ _ _ _ _ => (rn_assign rfl (T.ev 1 rfl))) ?_; clear T ac; intro ac T
              refine g_done (by kernel_rfl) ?_
              replace T := T.pick [0, 1, 14, 15, 16, 17, 18, 19, 20, 21, 22, 23, 24, 25, 26, 27, 28, 29, 30, 31, 32] rfl
              refine nm_then ?_
              refine wp_seq ?_
              refine g_start2 M (M.mask [true, true, true] rfl) 56 (by kernel_rfl) rfl (by kernel_rfl) ?_
              clear M; intro wc M
              refine g_q (T := T) (i := 0) rfl (by kernel_rfl) (by kernel_rfl : (pbits 56 0).setIfInBounds 0 true = pbits 56 1) si_U (fun _ _ _ h => h) rfl rfl rfl rfl (fun B w' hD hl hS => (rn_rowO (Mem.nth (show Mem w noEx w' _ from hS) 1 rfl) rfl (T.ev 17 rfl) rfl)) ?_; clear T ac; intro ac T
              refine g_q (T := T) (i := 1) rfl (by kernel_rfl) (by kernel_rfl : (pbits 56 1).setIfInBounds 1 true = pbits 56 3) si_U (fun _ _ _ h => h) rfl rfl rfl rfl (fun B w' hD hl hS => (rn_rowO (Mem.nth (show Mem w noEx w' _ from hS) 0 rfl) rfl (T.ev 20 rfl) rfl)) ?_; clear T ac; intro ac T
              refine g_q (v := (.bool false)) (T := T) (i := 2) rfl (by kernel_rfl) (by kernel_rfl : (pbits 56 3).setIfInBounds 2 true = pbits 56 7) si_U (fun _ _ _ h => h) rfl rfl rfl rfl (fun _ _ _ _ _ => (rn_neqof (rn_bin rfl (T.ev 1 rfl) (T.ev 0 rfl) neT25) (by simp))) ?_; clear T ac; intro ac T
              refine g_q (T := T) (i := 3) rfl (by kernel_rfl) (by kernel_rfl : (pbits 56 7).setIfInBounds 3 true = pbits 56 15) si_U (fun _ _ _ h => h) rfl rfl rfl rfl (fun _ _ _ _ _ => (rn_move rfl (T.ev 0 rfl))) ?_; clear T ac; intro ac T
              refine g_q (T := T) (i := 4) rfl (by kernel_rfl) (by kernel_rfl : (pbits 56 15).setIfInBounds 4 true = pbits 56 31) si_U (fun _ _ _ h => h) (wanted_yes rfl rfl (T.ev 0 rfl) rfl) rfl rfl rfl (fun _ _ _ _ _ => (rn_move rfl (T.ev 22 rfl))) ?_; clear T ac; intro ac T
              refine g_q (T := T) (i := 5) rfl (by kernel_rfl) (by kernel_rfl : (pbits 56 31).setIfInBounds 5 true = pbits 56 63) si_U (fun _ _ _ h => h) (wanted_yes rfl rfl (T.ev 1 rfl) rfl) rfl rfl rfl (fun _ _ _ _ _ => (rn_move rfl (T.ev 25 rfl))) ?_; clear T ac; intro ac T
              refine g_q (v := (.bool false)) (T := T) (i := 6) rfl (by kernel_rfl) (by kernel_rfl : (pbits 56 63).setIfInBounds 6 true = pbits 56 127) si_U (fun _ _ _ h => h) (wanted_yes rfl rfl (T.ev 2 rfl) rfl) rfl rfl rfl (fun _ _ _ _ _ => (rn_neqof (rn_neq rfl (T.ev 1 rfl) (T.ev 0 rfl)) (by simp))) ?_; clear T ac; intro ac T
              refine g_q (T := T) (i := 7) rfl (by kernel_rfl) (by kernel_rfl : (pbits 56 127).setIfInBounds 7 true = pbits 56 255) si_U (fun _ _ _ h => h) rfl rfl rfl rfl (fun _ _ _ _ _ => (rn_pick0 rfl (T.ev 3 rfl) rfl (T.ev 0 rfl))) ?_; clear T ac; intro ac T
              refine g_q (T := T) (i := 8) rfl (by kernel_rfl) (by kernel_rfl : (pbits 56 255).setIfInBounds 8 true = pbits 56 511) si_U (fun _ _ _ h => h) rfl rfl rfl rfl (fun _ _ _ _ _ => (rn_move rfl (T.ev 0 rfl))) ?_; clear T ac; intro ac T
              refine g_q (T := T) (i := 9) rfl (by kernel_rfl) (by kernel_rfl : (pbits 56 511).setIfInBounds 9 true = pbits 56 1023) si_U (fun _ _ _ h => h) (wanted_yes rfl rfl (T.ev 0 rfl) rfl) rfl rfl rfl (fun _ _ _ _ _ => (rn_move rfl (T.ev 20 rfl))) ?_; clear T ac; intro ac T
              refine g_q (T := T) (i := 10) rfl (by kernel_rfl) (by kernel_rfl : (pbits 56 1023).setIfInBounds 10 true = pbits 56 2047) si_U (fun _ _ _ h => h) (wanted_yes rfl rfl (T.ev 1 rfl) rfl) rfl rfl rfl (fun _ _ _ _ _ => (rn_move rfl (T.ev 19 rfl))) ?_; clear T ac; intro ac T
              refine g_q (v := (.bool false)) (T := T) (i := 11) rfl (by kernel_rfl) (by kernel_rfl : (pbits 56 2047).setIfInBounds 11 true = pbits 56 4095) si_U (fun _ _ _ h => h) (wanted_yes rfl rfl (T.ev 2 rfl) rfl) rfl rfl rfl (fun _ _ _ _ _ => (rn_neqof (rn_neq rfl (T.ev 1 rfl) (T.ev 0 rfl)) (by simp))) ?_; clear T ac; intro ac T
              refine g_q (T := T) (i := 12) rfl (by kernel_rfl) (by kernel_rfl : (pbits 56 4095).setIfInBounds 12 true = pbits 56 8191) si_U (fun _ _ _ h => h) rfl rfl rfl rfl (fun _ _ _ _ _ => (rn_pick0 rfl (T.ev 3 rfl) rfl (T.ev 0 rfl))) ?_; clear T ac; intro ac T
              refine g_q (T := T) (i := 13) rfl (by kernel_rfl) (by kernel_rfl : (pbits 56 8191).setIfInBounds 13 true = pbits 56 16383) si_U (fun _ _ _ h => h) rfl rfl rfl rfl (fun _ _ _ _ _ => (rn_move rfl (T.ev 0 rfl))) ?_; clear T ac; intro ac T
              refine g_q (T := T) (i := 14) rfl (by kernel_rfl) (by kernel_rfl : (pbits 56 16383).setIfInBounds 14 true = pbits 56 32767) si_U (fun _ _ _ h => h) (wanted_yes rfl rfl (T.ev 0 rfl) rfl) rfl rfl rfl (fun _ _ _ _ _ => (rn_move rfl (T.ev 24 rfl))) ?_; clear T ac; intro ac T
              refine g_q (T := T) (i := 15) rfl (by kernel_rfl) (by kernel_rfl : (pbits 56 32767).setIfInBounds 15 true = pbits 56 65535) si_U (fun _ _ _ h => h) (wanted_yes rfl rfl (T.ev 1 rfl) rfl) rfl rfl rfl (fun _ _ _ _ _ => (rn_move rfl (T.ev 23 rfl))) ?_; clear T ac; intro ac T
              refine g_q (v := (.bool false)) (T := T) (i := 16) rfl (by kernel_rfl) (by kernel_rfl : (pbits 56 65535).setIfInBounds 16 true = pbits 56 131071) si_U (fun _ _ _ h => h) (wanted_yes rfl rfl (T.ev 2 rfl) rfl) rfl rfl rfl (fun _ _ _ _ _ => (rn_neqof (rn_neq rfl (T.ev 1 rfl) (T.ev 0 rfl)) (by simp))) ?_; clear T ac; intro ac T
              refine g_q (T := T) (i := 17) rfl (by kernel_rfl) (by kernel_rfl : (pbits 56 131071).setIfInBounds 17 true = pbits 56 262143) si_U (fun _ _ _ h => h) rfl rfl rfl rfl (fun _ _ _ _ _ => (rn_pick0 rfl (T.ev 3 rfl) rfl (T.ev 0 rfl))) ?_; clear T ac; intro ac T
              refine g_q (T := T) (i := 18) rfl (by kernel_rfl) (by kernel_rfl : (pbits 56 262143).setIfInBounds 18 true = pbits 56 524287) si_U (fun _ _ _ h => h) rfl rfl rfl rfl (fun _ _ _ _ _ => (rn_move rfl (T.ev 0 rfl))) ?_; clear T ac; intro ac T
              refine g_q (T := T) (i := 19) rfl (by kernel_rfl) (by kernel_rfl : (pbits 56 524287).setIfInBounds 19 true = pbits 56 1048575) si_U (fun _ _ _ h => h) (wanted_yes rfl rfl (T.ev 0 rfl) rfl) rfl rfl rfl (fun _ _ _ _ _ => (rn_move rfl (T.ev 26 rfl))) ?_; clear T ac; intro ac T
              refine g_q (T := T) (i := 20) rfl (by kernel_rfl) (by kernel_rfl : (pbits 56 1048575).setIfInBounds 20 true = pbits 56 2097151) si_U (fun _ _ _ h => h) (wanted_yes rfl rfl (T.ev 1 rfl) rfl) rfl rfl rfl (fun _ _ _ _ _ => (rn_move rfl (T.ev 25 rfl))) ?_; clear T ac; intro ac T
              refine g_q (v := (.bool false)) (T := T) (i := 21) rfl (by kernel_rfl) (by kernel_rfl : (pbits 56 2097151).setIfInBounds 21 true = pbits 56 4194303) si_U (fun _ _ _ h => h) (wanted_yes rfl rfl (T.ev 2 rfl) rfl) rfl rfl rfl (fun _ _ _ _ _ => (rn_neqof (rn_neq rfl (T.ev 1 rfl) (T.ev 0 rfl)) (by simp))) ?_; clear T ac; intro ac T
              refine g_q (T := T) (i := 22) rfl (by kernel_rfl) (by kernel_rfl : (pbits 56 4194303).setIfInBounds 22 true = pbits 56 8388607) si_U (fun _ _ _ h => h) rfl rfl rfl rfl (fun _ _ _ _ _ => (rn_pick0 rfl (T.ev 3 rfl) rfl (T.ev 0 rfl))) ?_; clear T ac; intro ac T
              refine g_q (T := T) (i := 23) rfl (by kernel_rfl) (by kernel_rfl : (pbits 56 8388607).setIfInBounds 23 true = pbits 56 16777215) si_U (fun _ _ _ h => h) rfl rfl rfl rfl (fun _ _ _ _ _ => (rn_move rfl (T.ev 0 rfl))) ?_; clear T ac; intro ac T
              refine g_q (T := T) (i := 24) rfl (by kernel_rfl) (by kernel_rfl : (pbits 56 16777215).setIfInBounds 24 true = pbits 56 33554431) si_U (fun _ _ _ h => h) (wanted_yes rfl rfl (T.ev 0 rfl) rfl) rfl rfl rfl (fun _ _ _ _ _ => (rn_move rfl (T.ev 30 rfl))) ?_; clear T ac; intro ac T
              refine g_q (T := T) (i := 25) rfl (by kernel_rfl) (by kernel_rfl : (pbits 56 33554431).setIfInBounds 25 true = pbits 56 67108863) si_U (fun _ _ _ h => h) (wanted_yes rfl rfl (T.ev 1 rfl) rfl) rfl rfl rfl (fun _ _ _ _ _ => (rn_move rfl (T.ev 29 rfl))) ?_; clear T ac; intro ac T
              refine g_q (v := (.bool false)) (T := T) (i := 26) rfl (by kernel_rfl) (by kernel_rfl : (pbits 56 67108863).setIfInBounds 26 true = pbits 56 134217727) si_U (fun _ _ _ h => h) (wanted_yes rfl rfl (T.ev 2 rfl) rfl) rfl rfl rfl (fun _ _ _ _ _ => (rn_neqof (rn_neq rfl (T.ev 1 rfl) (T.ev 0 rfl)) (by simp))) ?_; clear T ac; intro ac T
              refine g_q (T := T) (i := 27) rfl (by kernel_rfl) (by kernel_rfl : (pbits 56 134217727).setIfInBounds 27 true = pbits 56 268435455) si_U (fun _ _ _ h => h) rfl rfl rfl rfl (fun _ _ _ _ _ => (rn_pick0 rfl (T.ev 3 rfl) rfl (T.ev 0 rfl))) ?_; clear T ac; intro ac T
              refine g_q (T := T) (i := 28) rfl (by kernel_rfl) (by kernel_rfl : (pbits 56 268435455).setIfInBounds 28 true = pbits 56 536870911) si_U (fun _ _ _ h => h) rfl rfl rfl rfl (fun _ _ _ _ _ => (rn_move rfl (T.ev 0 rfl))) ?_; clear T ac; intro ac T
              refine g_q (T := T) (i := 29) rfl (by kernel_rfl) (by kernel_rfl : (pbits 56 536870911).setIfInBounds 29 true = pbits 56 1073741823) si_U (fun _ _ _ h => h) (wanted_yes rfl rfl (T.ev 0 rfl) rfl) rfl rfl rfl (fun _ _ _ _ _ => (rn_move rfl (T.ev 32 rfl))) ?_; clear T ac; intro ac T
              refine g_q (T := T) (i := 30) rfl (by kernel_rfl) (by kernel_rfl : (pbits 56 1073741823).setIfInBounds 30 true = pbits 56 2147483647) si_U (fun _ _ _ h => h) (wanted_yes rfl rfl (T.ev 1 rfl) rfl) rfl rfl rfl (fun _ _ _ _ _ => (rn_move rfl (T.ev 31 rfl))) ?_; clear T ac; intro ac T
              refine g_q (v := (.bool false)) (T := T) (i := 31) rfl (by kernel_rfl) (by kernel_rfl : (pbits 56 2147483647).setIfInBounds 31 true = pbits 56 4294967295) si_U (fun _ _ _ h => h) (wanted_yes rfl rfl (T.ev 2 rfl) rfl) rfl rfl rfl (fun _ _ _ _ _ => (rn_neqof (rn_neq rfl (T.ev 1 rfl) (T.ev 0 rfl)) (by simp))) ?_; clear T ac; intro ac T
              refine g_q (T := T) (i := 32) rfl (by kernel_rfl) (by kernel_rfl : (pbits 56 4294967295).setIfInBounds 32 true = pbits 56 8589934591) si_U (fun _ _ _ h => h) rfl rfl rfl rfl (fun _ _ _ _ _ => (rn_pick0 rfl (T.ev 3 rfl) rfl (T.ev 0 rfl))) ?_; clear T ac; intro ac T
              refine g_q (T := T) (i := 33) rfl (by kernel_rfl) (by kernel_rfl : (pbits 56 8589934591).setIfInBounds 33 true = pbits 56 17179869183) si_U (fun _ _ _ h => h) rfl rfl rfl rfl (fun _ _ _ _ _ => (rn_move rfl (T.ev 0 rfl))) ?_; clear T ac; intro ac T
              refine g_q (T := T) (i := 34) rfl (by kernel_rfl) (by kernel_rfl : (pbits 56 17179869183).setIfInBounds 34 true = pbits 56 34359738367) si_U (fun _ _ _ h => h) (wanted_yes rfl rfl (T.ev 0 rfl) rfl) rfl rfl rfl (fun _ _ _ _ _ => (rn_move rfl (T.ev 36 rfl))) ?_; clear T ac; intro ac T
              refine g_q (T := T) (i := 35) rfl (by kernel_rfl) (by kernel_rfl : (pbits 56 34359738367).setIfInBounds 35 true = pbits 56 68719476735) si_U (fun _ _ _ h => h) (wanted_yes rfl rfl (T.ev 1 rfl) rfl) rfl rfl rfl (fun _ _ _ _ _ => (rn_move rfl (T.ev 35 rfl))) ?_; clear T ac; intro ac T
              refine g_q (v := (.bool false)) (T := T) (i := 36) rfl (by kernel_rfl) (by kernel_rfl : (pbits 56 68719476735).setIfInBounds 36 true = pbits 56 137438953471) si_U (fun _ _ _ h => h) (wanted_yes rfl rfl (T.ev 2 rfl) rfl) rfl rfl rfl (fun _ _ _ _ _ => (rn_neqof (rn_neq rfl (T.ev 1 rfl) (T.ev 0 rfl)) (by simp))) ?_; clear T ac; intro ac T
              refine g_q (T := T) (i := 37) rfl (by kernel_rfl) (by kernel_rfl : (pbits 56 137438953471).setIfInBounds 37 true = pbits 56 274877906943) si_U (fun _ _ _ h => h) rfl rfl rfl rfl (fun _ _ _ _ _ => (rn_pick0 rfl (T.ev 3 rfl) rfl (T.ev 0 rfl))) ?_; clear T ac; intro ac T
              refine g_q (T := T) (i := 38) rfl (by kernel_rfl) (by kernel_rfl : (pbits 56 274877906943).setIfInBounds 38 true = pbits 56 549755813887) si_U (fun _ _ _ h => h) rfl rfl rfl rfl (fun _ _ _ _ _ => (rn_move rfl (T.ev 0 rfl))) ?_; clear T ac; intro ac T
              refine g_q (T := T) (i := 39) rfl (by kernel_rfl) (by kernel_rfl : (pbits 56 549755813887).setIfInBounds 39 true = pbits 56 1099511627775) si_U (fun _ _ _ h => h) (wanted_yes rfl rfl (T.ev 0 rfl) rfl) rfl rfl rfl (fun B w' hD hl hS => (rn_rowO (Mem.nth (show Mem w noEx w' _ from hS) 2 rfl) rfl (T.ev 54 rfl) rfl)) ?_; clear T ac; intro ac T
              refine g_q (T := T) (i := 40) rfl (by kernel_rfl) (by kernel_rfl : (pbits 56 1099511627775).setIfInBounds 40 true = pbits 56 2199023255551) si_U (fun _ _ _ h => h) (wanted_yes rfl rfl (T.ev 1 rfl) rfl) rfl rfl rfl (fun _ _ _ _ _ => (rn_move rfl (T.ev 52 rfl))) ?_; clear T ac; intro ac T
              refine g_q (T := T) (i := 41) rfl (by kernel_rfl) (by kernel_rfl : (pbits 56 2199023255551).setIfInBounds 41 true = pbits 56 4398046511103) si_U (fun _ _ _ h => h) (wanted_yes rfl rfl (T.ev 2 rfl) rfl) rfl rfl rfl (fun _ _ _ _ _ => (rn_move rfl (T.ev 55 rfl))) ?_; clear T ac; intro ac T
              refine g_q (T := T) (i := 42) rfl (by kernel_rfl) (by kernel_rfl : (pbits 56 4398046511103).setIfInBounds 42 true = pbits 56 8796093022207) si_U (fun _ _ _ h => h) (wanted_yes rfl rfl (T.ev 3 rfl) rfl) rfl rfl rfl (fun _ _ _ _ _ => (rn_indexAddr (size := 18) i rfl (T.ev 1 rfl) (T.ev 0 rfl) ⟨_, Try.underlying36, by kernel_rfl⟩ rfl (by omega) (SJL.at0 (by omega)))) ?_; clear T ac; intro ac T
              refine g_q (v := (.agg #[.int .i64 jx.p0, .int .i64 jx.p1, .int .i64 jx.t0, .int .i64 jx.t1, .int .i64 jx.r0, .int .i64 jx.r1, .int .i64 jx.u0, .int .i64 jx.u1, .int .i64 jx.d0, .int .i64 jx.d1, .int .i64 jx.a0, .int .i64 jx.a1, .int .i64 jx.b0, .int .i64 jx.b1, .int .i64 jx.le, .slice Ax jx.sh.length cx, .int .i64 jx.wi, .int .i64 jx.me])) (T := T) (i := 43) rfl (by kernel_rfl) (by kernel_rfl : (pbits 56 8796093022207).setIfInBounds 43 true = pbits 56 17592186044415) si_U (fun _ _ _ h => h) (wanted_yes rfl rfl (T.ev 4 rfl) rfl) rfl rfl rfl (fun B w' hD hl hS => (rn_rowat (Sp.jcR SJL (show Mem w noEx w' _ from hS) (.cons _ (.cons _ (.cons _ (List.Sublist.trans (List.Sublist.trans (List.Sublist.refl _) (List.sublist_append_left _ _)) (List.sublist_append_left _ _))))) hkx) rfl (T.ev 0 rfl) rfl)) ?_; clear T ac; intro ac T
              refine g_w (i := 44) (by kernel_rfl) rfl (by kernel_rfl : (pbits 56 17592186044415).setIfInBounds 44 true = pbits 56 35184372088831) (wanted_yes rfl rfl (T.ev 5 rfl) rfl) ?_; intro K hK
              refine ow_call (first := []) (cap := []) T rfl rfl rfl rfl evf (.cons (T.ev 4 rfl) (.cons (T.ev 0 rfl) .nil)) Try.func22 rfl rfl ?_
              refine Calls.mono (sameJobs_same jx _ _ _ _ _ (Sur12_4.rd M (.cons _ (.cons _ (.cons _ (List.Sublist.trans (List.sublist_append_right _ _) (List.sublist_append_left _ _)))))) (Sx.rd M (.cons _ (.cons _ (.cons _ (List.Sublist.trans (List.Sublist.trans (List.Sublist.refl _) (List.sublist_append_left _ _)) (List.sublist_append_left _ _)))))) (by omega)) ?_
              clear T
              rintro e wc ⟨rfl, hb⟩
              intro ac T
              replace M := M.call hb; clear hb
              refine sh_out hK _ _ (M.mask [true, true, true] rfl) ?_; clear hK K
              refine g_addU M ?_
              refine g_q (v := (.bool false)) (T := T) (i := 45) rfl (by kernel_rfl) (by kernel_rfl : (pbits 56 35184372088831).setIfInBounds 45 true = pbits 56 70368744177663) (si_and si_U si_U) (fun _ _ _ h => h) (wanted_yes rfl rfl (T.ev 6 rfl) rfl) rfl rfl rfl (fun _ _ _ _ _ => (rn_neqof (rn_not rfl (T.ev 0 rfl)) (by simp))) ?_; clear T ac; intro ac T
              refine g_q (T := T) (i := 46) rfl (by kernel_rfl) (by kernel_rfl : (pbits 56 70368744177663).setIfInBounds 46 true = pbits 56 140737488355327) (si_and si_U si_U) (fun _ _ _ h => h) rfl rfl rfl rfl (fun _ _ _ _ _ => (rn_pick0 rfl (T.ev 7 rfl) rfl (T.ev 0 rfl))) ?_; clear T ac; intro ac T
              refine g_q (T := T) (i := 47) rfl (by kernel_rfl) (by kernel_rfl : (pbits 56 140737488355327).setIfInBounds 47 true = pbits 56 281474976710655) (si_and si_U si_U) (fun _ _ _ h => h) rfl rfl rfl rfl (fun _ _ _ _ _ => (rn_move rfl (T.ev 0 rfl))) ?_; clear T ac; intro ac T
              refine g_q (T := T) (i := 48) rfl (by kernel_rfl) (by kernel_rfl : (pbits 56 281474976710655).setIfInBounds 48 true = pbits 56 562949953421311) (si_and si_U si_U) (fun _ _ _ h => h) (wanted_yes rfl rfl (T.ev 0 rfl) rfl) rfl rfl rfl (fun _ _ _ _ _ => (rn_move rfl (T.ev 64 rfl))) ?_; clear T ac; intro ac T
              refine g_q (T := T) (i := 49) rfl (by kernel_rfl) (by kernel_rfl : (pbits 56 562949953421311).setIfInBounds 49 true = pbits 56 1125899906842623) (si_and si_U si_U) (fun _ _ _ h => h) (wanted_yes rfl rfl (T.ev 1 rfl) rfl) rfl rfl rfl (fun _ _ _ _ _ => (rn_move rfl (T.ev 62 rfl))) ?_; clear T ac; intro ac T
              refine g_q (T := T) (i := 50) rfl (by kernel_rfl) (by kernel_rfl : (pbits 56 1125899906842623).setIfInBounds 50 true = pbits 56 2251799813685247) (si_and si_U si_U) (fun _ _ _ h => h) (wanted_yes rfl rfl (T.ev 2 rfl) rfl) rfl rfl rfl (fun _ _ _ _ _ => (rn_move rfl (T.ev 64 rfl))) ?_; clear T ac; intro ac T
              refine g_q (T := T) (i := 51) rfl (by kernel_rfl) (by kernel_rfl : (pbits 56 2251799813685247).setIfInBounds 51 true = pbits 56 4503599627370495) (si_and si_U si_U) (fun _ _ _ h => h) (wanted_yes rfl rfl (T.ev 3 rfl) rfl) rfl rfl rfl (fun _ _ _ _ _ => (rn_indexAddr (size := 1) i rfl (T.ev 1 rfl) (T.ev 0 rfl) ⟨_, Try.underlying51, by kernel_rfl⟩ rfl (by omega) (SLL.at0 (by omega)))) ?_; clear T ac; intro ac T
              refine g_q (v := (.slice Av lv.length cv)) (T := T) (i := 52) rfl (by kernel_rfl) (by kernel_rfl : (pbits 56 4503599627370495).setIfInBounds 52 true = pbits 56 9007199254740991) (si_and si_U si_U) (fun _ _ _ h => h) (wanted_yes rfl rfl (T.ev 4 rfl) rfl) rfl rfl rfl (fun B w' hD hl hS => (rn_cell (Sp.lc0 SLL (show Mem w noEx w' _ from (MA.lft hS)) (.cons _ (.cons _ (.cons _ (List.Sublist.trans (List.Sublist.trans (List.Sublist.refl _) (List.sublist_append_left _ _)) (List.sublist_append_left _ _))))) hkv) rfl (T.ev 0 rfl))) ?_; clear T ac; intro ac T
              refine g_w (i := 53) (by kernel_rfl) rfl (by kernel_rfl : (pbits 56 9007199254740991).setIfInBounds 53 true = pbits 56 18014398509481983) (wanted_yes rfl rfl (T.ev 5 rfl) rfl) ?_; intro K hK
              refine ow_call (first := []) (cap := []) T rfl rfl rfl rfl evf (.cons (T.ev 4 rfl) (.cons (T.ev 0 rfl) .nil)) Try.func21 rfl rfl ?_
              refine Calls.mono (sameInts_same _ _ _ _ _ _ lv _ (Sur12_9.rd M (.cons _ (.cons _ (.cons _ (List.sublist_append_right _ _))))) (Sv.rd M (.cons _ (.cons _ (.cons _ (List.Sublist.trans (List.Sublist.trans (List.Sublist.refl _) (List.sublist_append_left _ _)) (List.sublist_append_left _ _)))))) (by first | omega | decide | (simp; omega)) (by first | omega | decide | (simp; omega))) ?_
              clear T
              rintro e wc ⟨rfl, hb⟩
              intro ac T
              replace M := M.call hb; clear hb
              refine sh_out hK _ _ (MA.mk (M.mask [true, true, true] rfl) (M.mask [true, true, true] rfl)) ?_; clear hK K
              refine g_q (v := (.bool false)) (T := T) (i := 54) rfl (by kernel_rfl) (by kernel_rfl : (pbits 56 18014398509481983).setIfInBounds 54 true = pbits 56 36028797018963967) (si_and si_U si_U) (fun _ _ _ h => h) (wanted_yes rfl rfl (T.ev 6 rfl) rfl) rfl rfl rfl (fun _ _ _ _ _ => (rn_neqof (rn_not rfl (T.ev 0 rfl)) (by simp))) ?_; clear T ac; intro ac T
              refine g_q (T := T) (i := 55) rfl (by kernel_rfl) (by kernel_rfl : (pbits 56 36028797018963967).setIfInBounds 55 true = pbits 56 72057594037927935) (si_and si_U si_U) (fun _ _ _ h => h) rfl rfl rfl rfl (fun _ _ _ _ _ => (rn_pick0 rfl (T.ev 7 rfl) rfl (T.ev 0 rfl))) ?_; clear T ac; intro ac T
              refine g_done (by kernel_rfl) ?_
              replace T := T.pick [0, 1, 2, 3, 4, 5, 6, 7, 10, 11, 12, 13, 14, 15, 16, 19, 20, 21, 24, 25, 26, 29, 30, 31, 34, 35, 36, 39, 40, 41, 44, 45, 46, 49, 50, 51, 68, 69, 70] rfl
              replace M := M.mask [false, false, false] rfl
              refine nm_then ?_
              refine wp_cond_false (T.ev 0 rfl) ?_
              refine wp_skip ?_
              refine nm_blk ?_
              refine nm_then ?_
              refine wp_region_lit ?_
              refine l_q T rfl rfl rfl rfl (rn_move rfl (T.ev 38 rfl)) ?_; clear T ac; intro ac T
              refine l_q T rfl rfl rfl rfl (rn_add rfl (T.ev 0 rfl) evc (by omega)) ?_; clear T ac; intro ac T
              refine l_q (v := (.int .i64 ((i : Int) + 1))) (T.pick [0, 1, 2, 3, 4, 5, 6, 7, 8, 9, 10, 11, 12, 13, 14, 15, 16, 17, 18, 19, 20, 21, 22, 23, 24, 25, 26, 27, 28, 29, 30, 31, 32, 33, 34, 35, 36, 37, 38, 39] rfl) rfl rfl rfl rfl (rn_assign rfl (T.ev 0 rfl)) ?_; clear T ac; intro ac T
              refine wpList_nil ?_
              replace T := T.pick [0, 4, 5, 6, 7, 8, 9, 10, 11, 12, 13, 14, 15, 16, 17, 18, 19, 20, 21, 22, 23, 24, 25, 26, 27, 28, 29, 30, 31, 32, 33, 34, 35, 36, 37, 38, 39, 40] rfl
              refine nm_then ?_
              exact ⟨_, by omega, i + 1, rfl, T.pick [36, 37, 0] rfl, (M.mask [] rfl).sub (List.Sublist.trans (List.Sublist.trans (List.Sublist.refl _) (List.sublist_append_left _ _)) (List.sublist_append_left _ _))⟩
        · intro h3
          refine wp_exit ?_
          refine ex_then ?_
          refine ex_then ?_
          refine ex_hit ?_
          refine nm_then ?_
          refine wp_seq ?_
          refine wp_region_lit ?_
          refine l_w rfl ?_; intro K hK
          refine ow_call (first := []) (cap := []) T rfl rfl rfl rfl evf .nil Try.func15 rfl rfl ?_
          refine Calls.mono (tuned_any _) ?_
          clear T
          rintro e wc ⟨rfl, hb⟩
          intro ac T
          replace M := M.call hb; clear hb
          refine sh_out hK _ _ ?_; clear hK K
          refine l_q T rfl rfl rfl rfl (rn_assign rfl (T.ev 0 rfl)) ?_; clear T ac; intro ac T
          refine wpList_nil ?_
          replace T := T.pick [0] rfl
          refine nm_then ?_
          refine wp_ret ?_
          refine rt_1 T rfl (T.ev 0 rfl) ?_
          exact ⟨rfl, M.below⟩

theorem ReedStrokes_law (j : Jb) (A : Option Addr) (c : Nat) (B : Option Addr) (b m : Nat) (r : List Int) (x y : Int) (D : Option Addr) (d n : Nat) (l : List Int) (w : World) (hr : Rd w w.heap.size 2 A j.sh.length (rc j.sh)) (hn : j.sh.length ≤ 9223372036854775807) (hs : Rd w w.heap.size 1 B m (ic r)) (hrn : m ≤ 9223372036854775807) (hl : Rd w w.heap.size 1 D n (ic l)) (hm : n ≤ 9223372036854775807) :
    Calls Try.prog 12 #[jobV j A c, .slice B m b, .int .i64 x, .int .i64 y, .slice D n d] w fun e w' => e = .returned (.bool true) ∧ Below w.heap.size w w' := by
  have e := hs.len1
  obtain rfl : r.length = m := by omega
  exact ReedStrokes_any j A c B b r x y D d n l w hr hn hs hrn hl hm

end Go.Proofs.Ythlpceoajhcliaa
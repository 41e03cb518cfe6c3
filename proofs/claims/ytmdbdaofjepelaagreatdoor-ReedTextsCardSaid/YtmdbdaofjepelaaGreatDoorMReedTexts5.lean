/-
  Walks of functions, and plain laws (texts put together). No condition.
-/
import Derived.Laws.BytesArg
import Derived.Test.YtmdbdaofjepelaaGreatDoorMReedTexts1
import Derived.Test.YtmdbdaofjepelaaGreatDoorMReedTexts2
import Derived.Test.YtmdbdaofjepelaaGreatDoorMReedTexts3
import Derived.Test.YtmdbdaofjepelaaGreatDoorMReedTexts4
set_option maxRecDepth 100000
set_option maxHeartbeats 1000000
set_option linter.unusedSimpArgs false
set_option linter.unusedVariables false
namespace Go.Proofs.YtmdbdaofjepelaaGreatDoor
open Go.RowKit
theorem Mem.fore {w0 w : World} {ex : Nat → Prop} {b g : Nat × BA} {X Y Z : List (Nat × BA)} (M : Mem w0 ex w (b :: g :: (X ++ Y ++ Z))) : Mem w0 ex w ((b :: X) ++ (g :: (Y ++ Z))) :=
 have hp : (b :: g :: (X ++ Y ++ Z)).Perm ((b :: X) ++ (g :: (Y ++ Z))) := by
  rw [List.append_assoc]
  exact List.Perm.cons _ (List.perm_middle (a := g) (l₁ := X) (l₂ := Y ++ Z)).symm
 ⟨M.os, M.tape, M.output, M.size, M.block, fun p h => M.blk p (hp.mem_iff.2 h), (hp.map _).nodup_iff.1 M.nd⟩
theorem len1r {xs : List (Int × Int)} (h : xs.length = 1) : ∃ a b, xs = [(a, b)] := by
 match xs, h with
 | [(a, b)], _ => exact ⟨a, b, rfl⟩
theorem read2_any (s : List UInt8) (bj : Nat) (j : Jb) (A : Option Addr) (c : Nat) (I0 : List (Nat × BA)) (exq : Nat → Prop) (w : World) (hs : s.length ≤ 800000) (hj : j.sh.length ≤ 800000) (hT : ∀ wc L, Mem w exq wc L → StrW wc) (hsl : Sl 23 2 (.slice A j.sh.length c) j.sh.length (rc j.sh) I0) (M0 : Mem w exq w ((bj, .cells [.int .i64 j.p0, .int .i64 j.p1, .int .i64 j.t0, .int .i64 j.t1, .int .i64 j.r0, .int .i64 j.r1, .int .i64 j.u0, .int .i64 j.u1, .int .i64 j.d0, .int .i64 j.d1, .int .i64 j.a0, .int .i64 j.a1, .int .i64 j.b0, .int .i64 j.b1, .int .i64 j.le, .slice A j.sh.length c, .int .i64 j.wi, .int .i64 j.me]) :: I0)) :
   Calls Tryz.prog 55 #[.agg #[sv shiftW, .int .i64 1, .int .i64 0, .func (.func 125) #[] #[]], .pointer (some ⟨bj, 0, none⟩), sv s] w (LineP (lineA shiftW 1 0 s) w exq bj 2 j) := by
 refine Zpx exq Tryz.func55 rfl 102 rfl [.agg #[sv shiftW, .int .i64 1, .int .i64 0, .func (.func 125) #[] #[]], .pointer (some ⟨bj, 0, none⟩), sv s] rfl rfl M0 ?_
 intro ac wc T M
 refine Zsr ?_
 refine Zl2 ?_
 refine Zob M T rfl rfl rfl rfl (T.e 0 rfl) rfl ?_; clear M T; intro g1 wc ac M T
 refine lq T (Zra rfl evc) ?_; clear T ac; intro ac T
 replace T := T.pick [1, 3, 4] rfl
 refine Zln ?_
 refine Zsr ?_
 refine lq T (Zrm rfl (T.e 2 rfl)) ?_; clear T ac; intro ac T
 refine Zl2 ?_
 refine Zoc (first := []) (cap := []) T rfl rfl rfl rfl evf (.cons (T.e 0 rfl) (.cons evc .nil)) Tryz.func52 rfl rfl ?_
 refine Calls.mono (Split2_any s 32 _ (by omega) (hT _ _ M)) ?_
 clear T; rintro e wc ⟨Au1, cu1, bu1, ou1, Iu1, rfl, hc9u1, SVu1, N⟩ ac T
 obtain ⟨lsu1, hlsu1⟩ : ∃ q, q = spl 32 s := ⟨_, rfl⟩
 rw [← hlsu1] at hc9u1 SVu1 T
 have Su1 := SVu1 w exq
 replace M := (M.join N).swapI
 clear N
 replace M : Mem w exq wc ((g1, .cells [sv shiftW, .int .i64 1, .int .i64 0, .func (.func 125) #[] #[]]) :: (bj, .cells (jobL j A c)) :: (I0 ++ Iu1)) := M
 have hlenu1 : lsu1.length ≤ s.length + 1 := by rw [hlsu1]; exact spl_len _ _
 have hposu1 : 0 < lsu1.length := by rw [hlsu1]; exact spl_pos _ _
 obtain ⟨w0u1, hzu1⟩ : ∃ q, lsu1[0]? = some q := ⟨_, List.getElem?_eq_getElem hposu1⟩
 refine lq T (Zra rfl (T.e 0 rfl)) ?_; clear T ac; intro ac T
 replace T := T.pick [0, 3, 4] rfl
 refine Zln ?_
 refine wp_seq ?_
 refine cut_seq (fun ac wc => Tm ac 102 [(1, .pointer (some ⟨bj, 0, none⟩)), (3, .pointer (some ⟨g1, 0, none⟩)), (7, .slice Au1 lsu1.length cu1), (39, .bool ((!(decide (w0u1 = shiftW))) || (!(decide (((lsu1.length : Nat) : Int) = 2)))))] ∧ Mem w exq wc ((g1, .cells [sv shiftW, .int .i64 1, .int .i64 0, .func (.func 125) #[] #[]]) :: (bj, .cells (jobL j A c)) :: (I0 ++ Iu1))) ?_ ?_
 ·refine Zgs M (M.mask [true, true] rfl) 17 (by kernel_rfl) rfl (by kernel_rfl) ?_
  clear M; intro wc M
  refine gq T 0 1 rfl (fun _ _ _ _ _ => (Zrm rfl (T.e 0 rfl))) ?_; clear T ac; intro ac T
  refine gq T 1 3 rfl (fun _ _ _ _ _ => (Zri (size := 1) 0 rfl (T.e 0 rfl) evc ⟨_, Tryz.underlying37, by kernel_rfl⟩ rfl (by omega) (Su1.at0 (by omega)))) ?_; clear T ac; intro ac T
  refine gq T 2 7 rfl (fun B w' hD hl hS => (rn_cell (Sp.stC0 Su1 (show Mem w exq w' _ from hS) (.cons _ (.cons _ (Zsq _ _))) hzu1) rfl (T.e 0 rfl))) ?_; clear T ac; intro ac T
  refine gq (v := (.pointer (some ⟨g1, 0, none⟩))) T 3 15 rfl (fun _ _ _ _ _ => (Zrf (off := 0) rfl (T.e 4 rfl) (fun _ _ _ => by kernel_rfl))) ?_; clear T ac; intro ac T
  refine gq T 4 31 rfl (fun B w' hD hl hS => (Zro (Mem.nth (show Mem w exq w' _ from hS) 0 rfl) rfl (T.e 0 rfl) rfl)) ?_; clear T ac; intro ac T
  refine gq T 5 63 rfl (fun _ _ _ _ _ => (rn_sneq rfl (T.e 2 rfl) (T.e 0 rfl))) ?_; clear T ac; intro ac T
  refine gq T 6 127 rfl (fun _ _ _ _ _ => (Zrm rfl (T.e 0 rfl))) ?_; clear T ac; intro ac T
  rcases Bool.eq_false_or_eq_true (!(decide (w0u1 = shiftW))) with h1 | h1
  ·replace h1 : ¬ (w0u1 = shiftW) := by first | (rw [Bool.not_eq_true'] at h1; exact of_decide_eq_false h1) | simpa using h1
   refine g_pass (T := T) (i := 7) rfl (by kernel_rfl) (by kernel_rfl : (Zpb 17 127).setIfInBounds 7 true = Zpb 17 255) si_U (fun _ _ _ h => h) (Zwn rfl rfl (T.e 0 rfl) (by simp [h1])) rfl rfl rfl ?_; clear T ac; intro ac T
   refine g_pass (T := T) (i := 8) rfl (by kernel_rfl) (by kernel_rfl : (Zpb 17 255).setIfInBounds 8 true = Zpb 17 511) si_U (fun _ _ _ h => h) (Zwn rfl rfl (T.e 1 rfl) (by simp [h1])) rfl rfl rfl ?_; clear T ac; intro ac T
   refine g_pass (T := T) (i := 9) rfl (by kernel_rfl) (by kernel_rfl : (Zpb 17 511).setIfInBounds 9 true = Zpb 17 1023) si_U (fun _ _ _ h => h) (Zwn rfl rfl (T.e 2 rfl) (by simp [h1])) rfl rfl rfl ?_; clear T ac; intro ac T
   refine g_pass (T := T) (i := 10) rfl (by kernel_rfl) (by kernel_rfl : (Zpb 17 1023).setIfInBounds 10 true = Zpb 17 2047) si_U (fun _ _ _ h => h) (Zwn rfl rfl (T.e 3 rfl) (by simp [h1])) rfl rfl rfl ?_; clear T ac; intro ac T
   refine g_pass (T := T) (i := 11) rfl (by kernel_rfl) (by kernel_rfl : (Zpb 17 2047).setIfInBounds 11 true = Zpb 17 4095) si_U (fun _ _ _ h => h) (Zwn rfl rfl (T.e 4 rfl) (by simp [h1])) rfl rfl rfl ?_; clear T ac; intro ac T
   refine g_pass (T := T) (i := 12) rfl (by kernel_rfl) (by kernel_rfl : (Zpb 17 4095).setIfInBounds 12 true = Zpb 17 8191) si_U (fun _ _ _ h => h) (Zwn rfl rfl (T.e 5 rfl) (by simp [h1])) rfl rfl rfl ?_; clear T ac; intro ac T
   refine g_pass (T := T) (i := 13) rfl (by kernel_rfl) (by kernel_rfl : (Zpb 17 8191).setIfInBounds 13 true = Zpb 17 16383) si_U (fun _ _ _ h => h) (Zwn rfl rfl (T.e 6 rfl) (by simp [h1])) rfl rfl rfl ?_; clear T ac; intro ac T
   refine g_pass (T := T) (i := 14) rfl (by kernel_rfl) (by kernel_rfl : (Zpb 17 16383).setIfInBounds 14 true = Zpb 17 32767) si_U (fun _ _ _ h => h) (Zwn rfl rfl (T.e 7 rfl) (by simp [h1])) rfl rfl rfl ?_; clear T ac; intro ac T
   refine g_pass (T := T) (i := 15) rfl (by kernel_rfl) (by kernel_rfl : (Zpb 17 32767).setIfInBounds 15 true = Zpb 17 65535) si_U (fun _ _ _ h => h) (Zwn rfl rfl (T.e 8 rfl) (by simp [h1])) rfl rfl rfl ?_; clear T ac; intro ac T
   refine gq T 16 131071 rfl (fun _ _ _ _ _ => (Zr1 rfl (T.e 9 rfl) (by simp [h1]) evc)) ?_; clear T ac; intro ac T
   refine Zgd (by kernel_rfl) ?_
   replace T := T.pick [0, 17, 18, 19] rfl
   exact ⟨(T.pick (E' := [(1, .pointer (some ⟨bj, 0, none⟩)), (3, .pointer (some ⟨g1, 0, none⟩)), (7, .slice Au1 lsu1.length cu1), (39, .bool true)]) [3, 2, 1, 0] rfl).as (by (try rw [show (!(decide (w0u1 = shiftW))) = true from (by simp [h1])]); (try rfl)), M.mask [true, true] rfl⟩
  replace h1 : w0u1 = shiftW := by first | (rw [Bool.not_eq_false'] at h1; exact of_decide_eq_true h1) | simpa using h1
  refine g_q (T := T) (i := 7) rfl (by kernel_rfl) (by kernel_rfl : (Zpb 17 127).setIfInBounds 7 true = Zpb 17 255) si_U (fun _ _ _ h => h) (Zwy rfl rfl (T.e 0 rfl) (by simp [h1])) rfl rfl rfl (fun _ _ _ _ _ => (Zrm rfl (T.e 7 rfl))) ?_; clear T ac; intro ac T
  refine g_q (T := T) (i := 8) rfl (by kernel_rfl) (by kernel_rfl : (Zpb 17 255).setIfInBounds 8 true = Zpb 17 511) si_U (fun _ _ _ h => h) (Zwy rfl rfl (T.e 1 rfl) (by simp [h1])) rfl rfl rfl (fun _ _ _ _ _ => (Zrl rfl Tryz.underlying37 (T.e 0 rfl))) ?_; clear T ac; intro ac T
  refine g_q (v := (.pointer (some ⟨g1, 1, none⟩))) (T := T) (i := 9) rfl (by kernel_rfl) (by kernel_rfl : (Zpb 17 511).setIfInBounds 9 true = Zpb 17 1023) si_U (fun _ _ _ h => h) (Zwy rfl rfl (T.e 2 rfl) (by simp [h1])) rfl rfl rfl (fun _ _ _ _ _ => (Zrf (off := 1) rfl (T.e 10 rfl) (fun _ _ _ => by kernel_rfl))) ?_; clear T ac; intro ac T
  refine g_q (T := T) (i := 10) rfl (by kernel_rfl) (by kernel_rfl : (Zpb 17 1023).setIfInBounds 10 true = Zpb 17 2047) si_U (fun _ _ _ h => h) (Zwy rfl rfl (T.e 3 rfl) (by simp [h1])) rfl rfl rfl (fun B w' hD hl hS => (Zro (Mem.nth (show Mem w exq w' _ from hS) 0 rfl) rfl (T.e 0 rfl) rfl)) ?_; clear T ac; intro ac T
  refine g_q (v := (.int .i64 2)) (T := T) (i := 11) rfl (by kernel_rfl) (by kernel_rfl : (Zpb 17 2047).setIfInBounds 11 true = Zpb 17 4095) si_U (fun _ _ _ h => h) (Zwy rfl rfl (T.e 4 rfl) (by simp [h1])) rfl rfl rfl (fun _ _ _ _ _ => (rn_ofI (rn_add rfl evc (T.e 0 rfl) (by omega)) (by rfl))) ?_; clear T ac; intro ac T
  refine g_q (v := (.pointer (some ⟨g1, 2, none⟩))) (T := T) (i := 12) rfl (by kernel_rfl) (by kernel_rfl : (Zpb 17 4095).setIfInBounds 12 true = Zpb 17 8191) si_U (fun _ _ _ h => h) (Zwy rfl rfl (T.e 5 rfl) (by simp [h1])) rfl rfl rfl (fun _ _ _ _ _ => (Zrf (off := 2) rfl (T.e 13 rfl) (fun _ _ _ => by kernel_rfl))) ?_; clear T ac; intro ac T
  refine g_q (T := T) (i := 13) rfl (by kernel_rfl) (by kernel_rfl : (Zpb 17 8191).setIfInBounds 13 true = Zpb 17 16383) si_U (fun _ _ _ h => h) (Zwy rfl rfl (T.e 6 rfl) (by simp [h1])) rfl rfl rfl (fun B w' hD hl hS => (Zro (Mem.nth (show Mem w exq w' _ from hS) 0 rfl) rfl (T.e 0 rfl) rfl)) ?_; clear T ac; intro ac T
  refine g_q (v := (.int .i64 2)) (T := T) (i := 14) rfl (by kernel_rfl) (by kernel_rfl : (Zpb 17 16383).setIfInBounds 14 true = Zpb 17 32767) si_U (fun _ _ _ h => h) (Zwy rfl rfl (T.e 7 rfl) (by simp [h1])) rfl rfl rfl (fun _ _ _ _ _ => (rn_ofI (rn_add rfl (T.e 2 rfl) (T.e 0 rfl) (by omega)) (by rfl))) ?_; clear T ac; intro ac T
  refine g_q (T := T) (i := 15) rfl (by kernel_rfl) (by kernel_rfl : (Zpb 17 32767).setIfInBounds 15 true = Zpb 17 65535) si_U (fun _ _ _ h => h) (Zwy rfl rfl (T.e 8 rfl) (by simp [h1])) rfl rfl rfl (fun _ _ _ _ _ => (rn_neq rfl (T.e 6 rfl) (T.e 0 rfl))) ?_; clear T ac; intro ac T
  refine gq T 16 131071 rfl (fun _ _ _ _ _ => (Zr0 rfl (T.e 9 rfl) (by simp [h1]) (T.e 0 rfl))) ?_; clear T ac; intro ac T
  refine Zgd (by kernel_rfl) ?_
  replace T := T.pick [0, 17, 18, 19] rfl
  exact ⟨(T.pick (E' := [(1, .pointer (some ⟨bj, 0, none⟩)), (3, .pointer (some ⟨g1, 0, none⟩)), (7, .slice Au1 lsu1.length cu1), (39, .bool (!(decide (((lsu1.length : Nat) : Int) = 2))))]) [3, 2, 1, 0] rfl).as (by (try rw [show (!(decide (w0u1 = shiftW))) = false from (by simp [h1])]); (try rfl)), M.mask [true, true] rfl⟩
 clear T M
 rintro ac wc ⟨T, M⟩
 refine wp_cond_split (T.e 3 rfl) ?_ ?_
 ·intro h2
  (have h2' := h2; try simp only [Zb1, Zb2, Zb3, Zb4, Zb5, Zb6, Zb7] at h2')
  refine Zsr ?_
  refine lq T (Zra rfl evc) ?_; clear T ac; intro ac T
  refine wpList_nil ?_
  replace T := T.pick [0] rfl
  replace M := M.mask [false, true] rfl
  refine Znr ?_
  refine Zrt ?_
  refine rt_1 T rfl (T.e 0 rfl) ?_
  have hno : (lineA shiftW 1 0 s) = none := by
    refine lineA_no (w0 := w0u1) (by rw [← hlsu1]; exact hzu1) ?_
    rintro ⟨h8, h9⟩
    rw [← hlsu1] at h9
    exact cond_bad (a := w0u1) (w := shiftW) (x := ((lsu1.length : Nat) : Int)) (y := 2) (by assumption) ⟨h8, by omega⟩
  exact LineP.none (L := (bj, .cells (jobL j A c)) :: I0) hno ((show Mem w exq wc ((bj, .cells (jobL j A c)) :: (I0 ++ Iu1)) from M.permT [0] 1 rfl rfl rfl rfl).sub (List.Sublist.cons_cons _ (subL (List.Sublist.refl _)))) ⟨A, c, I0, rfl, hsl⟩
 intro h2
 (have h2' := h2; try simp only [Zb1, Zb2, Zb3, Zb4, Zb5, Zb6, Zb7] at h2')
 refine Zsk ?_
 refine Zsr ?_
 refine lq T (Zra rfl evc) ?_; clear T ac; intro ac T
 replace T := T.pick [0, 1, 2, 3] rfl
 refine Zln ?_
 refine Zsr ?_
 refine lq T (Zra rfl evc) ?_; clear T ac; intro ac T
 refine Zln ?_
 refine wp_seq ?_
 refine Zsr ?_
 refine Zg2 T (Zq (Zrm rfl (T.e 4 rfl))) rfl (fun _ T => Zq (rn_slice (size := 1) (l := 1) (h := lsu1.length) rfl Tryz.underlying37 (by kernel_rfl) (T.e 0 rfl) evc rfl (by omega) (by omega))) rfl ?_; clear T ac; intro ac T
 obtain ⟨Aq1, hAq1⟩ : ∃ q : Option Addr, q = (if cu1 = 1 then Au1 else Option.map (fun x : Addr => x.add (1 * 1)) Au1) := ⟨_, rfl⟩
 rw [← hAq1] at T
 obtain ⟨lq1, hlq1⟩ : ∃ q, q = (lsu1.drop 1).take (lsu1.length - 1) := ⟨_, rfl⟩
 have nlq1 : lq1.length = lsu1.length - 1 := by rw [hlq1, List.length_take, List.length_drop]; (try simp only [List.length_cons, List.length_append, List.length_nil]); omega
 rw [← nlq1] at T
 have SAq1 : Sp w exq Iu1 Aq1 lq1.length 1 bu1 (ou1 + 1 * 1) (st lq1) := by rw [nlq1, hAq1, hlq1, ← st_part]; exact Su1.sub (by omega) (by omega) (by omega)
 refine Zg2 T (Zq (Zrl rfl Tryz.underlying37 (T.e 0 rfl))) rfl (fun _ T => Zq (Zrm rfl evc)) rfl ?_; clear T ac; intro ac T
 replace T := T.pick [0, 1, 2, 4, 5, 6, 7] rfl
 refine Zln ?_
 refine wp_block ?_
 have hcond := cond_ok (a := w0u1) (w := shiftW) (x := ((lsu1.length : Nat) : Int)) (y := 2) (by assumption)
 replace hcond : w0u1 = shiftW ∧ lsu1.length = 1 + 1 + 0 := ⟨hcond.1, by have := hcond.2; omega⟩
 refine wp_loop_n (fun mz ac wc => ∃ (i : Nat) (xs : List (Int × Int)) (At : Option Addr) (ct : Nat) (It : List (Nat × BA)), mz = 1 - i ∧ (i ≤ 1) ∧ ((lineA shiftW 1 0 s) = andR (some (flatR xs)) (wordsA (1 - i) ((lsu1.drop 1).drop i))) ∧ (Sl 23 2 (.slice At xs.length ct) xs.length (rc xs) It) ∧ (xs.length = i) ∧ Tm ac 102 [(1, .pointer (some ⟨bj, 0, none⟩)), (3, .pointer (some ⟨g1, 0, none⟩)), (8, .slice At xs.length ct), (9, .slice none 0 0), (41, .slice Aq1 lq1.length (cu1 - 1)), (42, .int .i64 ((lq1.length : Nat) : Int)), (43, .int .i64 (i : Int))] ∧ Mem w exq wc ((g1, .cells [sv shiftW, .int .i64 1, .int .i64 0, .func (.func 125) #[] #[]]) :: (bj, .cells (jobL j A c)) :: (I0 ++ Iu1 ++ It))) ?_ ?_
 ·exact ⟨_, 0, [], none, 0, [], rfl, (by omega), (by rw [hlsu1, lineA_prog (by rw [← hlsu1]; exact hzu1) hcond.1 (by rw [← hlsu1]; exact hcond.2)]; exact (andR_zero _).symm), (Sl.nil _ _), rfl, T.pick [5, 6, 4, 3, 2, 1, 0] rfl, (by simp only [List.append_nil]; exact M)⟩
 clear T M
 rintro mz ac wc ⟨i, xs, At, ct, It, hmm1, hi, H, hslx, hxl, T, M⟩
 refine Zsr ?_
 refine lq T (rn_lss rfl (T.e 6 rfl) (T.e 5 rfl)) ?_; clear T ac; intro ac T
 refine Zln ?_
 refine wp_seq ?_
 refine wp_if (T.e 0 rfl) ?_ ?_
 ·intro h3
  have hq9 : lq1 = lsu1.drop 1 := by rw [hlq1]; exact List.take_of_length_le (by rw [List.length_drop]; exact Nat.le_refl _)
  obtain ⟨p, hkp⟩ : ∃ q, lq1[i]? = some q := ⟨_, List.getElem?_eq_getElem (by omega)⟩
  have hkq : (lsu1.drop 1)[i]? = some p := by rw [← hq9]; exact hkp
  have hpl : p.length ≤ s.length := spl_mem_len (c := 32) (by rw [← hlsu1]; exact List.mem_of_mem_drop (List.mem_of_getElem? hkq))
  rw [wordsP_step (R := 1) hkq] at H
  refine Zsk ?_
  refine wp_seq ?_
  refine wp_block ?_
  refine Zsr ?_
  refine Zg5 T (Zq (Zrm rfl (T.e 7 rfl))) rfl (fun _ T => Zq (Zri (size := 1) i rfl (T.e 6 rfl) (T.e 8 rfl) ⟨_, Tryz.underlying37, by kernel_rfl⟩ rfl (by omega) (SAq1.at0 (by omega)))) rfl (fun _ T => Zq (rn_cell (Sp.stC0 SAq1 M (.cons _ (.cons _ (subL (Zsq _ _)))) hkp) rfl (T.e 0 rfl))) rfl (Za 2 rfl rfl) rfl (Za 1 rfl rfl) rfl ?_; clear T ac; intro ac T
  replace T := T.pick [0, 1, 6, 7, 8, 9, 10, 11, 12] rfl
  refine Zln ?_
  refine wp_seq ?_
  refine Zsr ?_
  refine Zg4 (v2 := (.pointer (some ⟨g1, 1, none⟩))) T (Zq (Zrm rfl (T.e 1 rfl))) rfl (Zf 1 4 rfl rfl) rfl (Zo M 0 0 rfl rfl rfl rfl) rfl (fun _ T => Zq (rn_geq rfl (T.e 2 rfl) (T.e 0 rfl))) rfl ?_; clear T ac; intro ac T
  replace T := T.pick [0, 4, 6, 7, 8, 9, 10, 11, 12] rfl
  refine Zln ?_
  refine wp_if (T.e 0 rfl) ?_ ?_
  ·intro h4
   exfalso
   omega
  intro h4
  refine Zsk ?_
  refine Zsr ?_
  refine lq T (Zrm rfl (T.e 1 rfl)) ?_; clear T ac; intro ac T
  refine Zl2 ?_
  refine Zoc (first := []) (cap := []) T rfl rfl rfl rfl evf (.cons (T.e 0 rfl) (.cons evc .nil)) Tryz.func129 rfl rfl ?_
  refine Calls.mono (Cut_any p [58] _ (by omega) (hT _ _ M)) ?_
  clear T; rintro e wc ⟨rfl, hb⟩ ac T
  replace M := M.call hb; clear hb
  have hcl := cut_len p
  refine Zg7 T (Zq (Zrm rfl (T.e 0 rfl))) rfl (Ze 0 rfl rfl rfl) rfl (Ze 1 rfl rfl rfl) rfl (Ze 2 rfl rfl rfl) rfl (Za 2 rfl rfl) rfl (Za 2 rfl rfl) rfl (Za 2 rfl rfl) rfl ?_; clear T ac; intro ac T
  replace T := T.pick [0, 1, 2, 11, 12, 13, 14, 15, 16, 17] rfl
  refine Zln ?_
  refine Zsr ?_
  refine lq T (Zrm rfl (T.e 2 rfl)) ?_; clear T ac; intro ac T
  refine Zl2 ?_
  refine Zoc (first := []) (cap := []) T rfl rfl rfl rfl evf (.cons (T.e 0 rfl) .nil) Tryz.func128 rfl rfl ?_
  refine Calls.mono (number_any ((Lib.cut p [58]).1) _ (by omega) (hT _ _ M)) ?_
  clear T; rintro e wc ⟨nu3, rfl, hvu3, hb⟩ ac T
  replace M := M.call hb; clear hb
  refine Zg5 T (Zq (Zrm rfl (T.e 0 rfl))) rfl (Ze 0 rfl rfl rfl) rfl (Ze 1 rfl rfl rfl) rfl (Za 1 rfl rfl) rfl (Za 1 rfl rfl) rfl ?_; clear T ac; intro ac T
  replace T := T.pick [0, 1, 7, 8, 10, 11, 12, 13, 14, 15, 16] rfl
  refine Zln ?_
  refine Zsr ?_
  refine lq T (Zrm rfl (T.e 3 rfl)) ?_; clear T ac; intro ac T
  refine Zl2 ?_
  refine Zoc (first := []) (cap := []) T rfl rfl rfl rfl evf (.cons (T.e 0 rfl) .nil) Tryz.func128 rfl rfl ?_
  refine Calls.mono (number_any ((Lib.cut p [58]).2.1) _ (by omega) (hT _ _ M)) ?_
  clear T; rintro e wc ⟨nu4, rfl, hvu4, hb⟩ ac T
  replace M := M.call hb; clear hb
  refine Zg5 T (Zq (Zrm rfl (T.e 0 rfl))) rfl (Ze 0 rfl rfl rfl) rfl (Ze 1 rfl rfl rfl) rfl (Za 1 rfl rfl) rfl (Za 1 rfl rfl) rfl ?_; clear T ac; intro ac T
  replace T := T.pick [0, 1, 7, 8, 9, 11, 12, 13, 14, 15, 16, 17] rfl
  refine Zln ?_
  refine wp_seq ?_
  refine cut_seq (fun ac wc => Tm ac 102 [(1, .pointer (some ⟨bj, 0, none⟩)), (3, .pointer (some ⟨g1, 0, none⟩)), (8, .slice At xs.length ct), (9, .slice none 0 0), (17, .int .i64 nu3), (19, .int .i64 nu4), (41, .slice Aq1 lq1.length (cu1 - 1)), (42, .int .i64 ((lq1.length : Nat) : Int)), (43, .int .i64 (i : Int)), (88, .bool ((!((Lib.cut p [58]).2.2)) || ((!((numP ((Lib.cut p [58]).1)).isSome)) || (!((numP ((Lib.cut p [58]).2.1)).isSome)))))] ∧ Mem w exq wc ((g1, .cells [sv shiftW, .int .i64 1, .int .i64 0, .func (.func 125) #[] #[]]) :: (bj, .cells (jobL j A c)) :: (I0 ++ Iu1 ++ It))) ?_ ?_
  ·refine wp_region_lit ?_
   refine Zg3 T (Zq (Zrm rfl (T.e 4 rfl))) rfl (fun _ T => Zq (rn_not rfl (T.e 0 rfl))) rfl (Zm 0 rfl rfl) rfl ?_; clear T ac; intro ac T
   rcases Bool.eq_false_or_eq_true (!((Lib.cut p [58]).2.2)) with h5 | h5
   ·refine Zg7 T (Zp (Zwn rfl rfl (T.e 0 rfl) h5)) rfl (fun _ T => Zp (Zwn rfl rfl (T.e 1 rfl) h5)) rfl (fun _ T => Zq (Zr1 rfl (T.e 2 rfl) h5 evc)) rfl (Zm 0 rfl rfl) rfl (fun _ T => Zp (Zwn rfl rfl (T.e 0 rfl) rfl)) rfl (fun _ T => Zp (Zwn rfl rfl (T.e 1 rfl) rfl)) rfl (fun _ T => Zq (Zr1 rfl (T.e 2 rfl) rfl evc)) rfl ?_; clear T ac; intro ac T
    refine wpList_nil ?_
    replace T := T.pick [0, 1, 2, 5, 6, 11, 13, 15, 16, 17, 18, 19, 20, 21] rfl
    exact ⟨(T.pick (E' := [(1, .pointer (some ⟨bj, 0, none⟩)), (3, .pointer (some ⟨g1, 0, none⟩)), (8, .slice At xs.length ct), (9, .slice none 0 0), (17, .int .i64 nu3), (19, .int .i64 nu4), (41, .slice Aq1 lq1.length (cu1 - 1)), (42, .int .i64 ((lq1.length : Nat) : Int)), (43, .int .i64 (i : Int)), (88, .bool true)]) [7, 8, 9, 10, 6, 5, 11, 12, 13, 0] rfl).as (by (try rw [show (!((Lib.cut p [58]).2.2)) = true from h5]); (try rfl)), M.mask [true, true] rfl⟩
   refine Zg4 T (Zw (Zwy rfl rfl (T.e 0 rfl) h5) (Zrm rfl (T.e 5 rfl))) rfl (fun _ T => Zw (Zwy rfl rfl (T.e 1 rfl) h5) (rn_not rfl (T.e 0 rfl))) rfl (fun _ T => Zq (Zr0 rfl (T.e 2 rfl) h5 (T.e 0 rfl))) rfl (Zm 0 rfl rfl) rfl ?_; clear T ac; intro ac T
   rcases Bool.eq_false_or_eq_true (!((numP ((Lib.cut p [58]).1)).isSome)) with h6 | h6
   ·refine Zg3 T (Zp (Zwn rfl rfl (T.e 0 rfl) h6)) rfl (fun _ T => Zp (Zwn rfl rfl (T.e 1 rfl) h6)) rfl (fun _ T => Zq (Zr1 rfl (T.e 2 rfl) h6 evc)) rfl ?_; clear T ac; intro ac T
    refine wpList_nil ?_
    replace T := T.pick [0, 1, 2, 5, 6, 11, 13, 15, 16, 17, 18, 19, 20, 21] rfl
    exact ⟨(T.pick (E' := [(1, .pointer (some ⟨bj, 0, none⟩)), (3, .pointer (some ⟨g1, 0, none⟩)), (8, .slice At xs.length ct), (9, .slice none 0 0), (17, .int .i64 nu3), (19, .int .i64 nu4), (41, .slice Aq1 lq1.length (cu1 - 1)), (42, .int .i64 ((lq1.length : Nat) : Int)), (43, .int .i64 (i : Int)), (88, .bool true)]) [7, 8, 9, 10, 6, 5, 11, 12, 13, 0] rfl).as (by (try rw [show (!((Lib.cut p [58]).2.2)) = false from h5]); (try rw [show (!((numP ((Lib.cut p [58]).1)).isSome)) = true from h6]); (try rfl)), M.mask [true, true] rfl⟩
   refine Zg3 T (Zw (Zwy rfl rfl (T.e 0 rfl) h6) (Zrm rfl (T.e 7 rfl))) rfl (fun _ T => Zw (Zwy rfl rfl (T.e 1 rfl) h6) (rn_not rfl (T.e 0 rfl))) rfl (fun _ T => Zq (Zr0 rfl (T.e 2 rfl) h6 (T.e 0 rfl))) rfl ?_; clear T ac; intro ac T
   refine wpList_nil ?_
   replace T := T.pick [0, 1, 2, 5, 6, 11, 13, 15, 16, 17, 18, 19, 20, 21] rfl
   exact ⟨(T.pick (E' := [(1, .pointer (some ⟨bj, 0, none⟩)), (3, .pointer (some ⟨g1, 0, none⟩)), (8, .slice At xs.length ct), (9, .slice none 0 0), (17, .int .i64 nu3), (19, .int .i64 nu4), (41, .slice Aq1 lq1.length (cu1 - 1)), (42, .int .i64 ((lq1.length : Nat) : Int)), (43, .int .i64 (i : Int)), (88, .bool (!((numP ((Lib.cut p [58]).2.1)).isSome)))]) [7, 8, 9, 10, 6, 5, 11, 12, 13, 0] rfl).as (by (try rw [show (!((Lib.cut p [58]).2.2)) = false from h5]); (try rw [show (!((numP ((Lib.cut p [58]).1)).isSome)) = false from h6]); (try rfl)), M.mask [true, true] rfl⟩
  clear T M
  rintro ac wc ⟨T, M⟩
  refine wp_cond_split (T.e 9 rfl) ?_ ?_
  ·intro h7
   (have h7' := h7; try simp only [Zb1, Zb2, Zb3, Zb4, Zb5, Zb6, Zb7] at h7')
   refine Zsr ?_
   refine lq T (Zra rfl evc) ?_; clear T ac; intro ac T
   refine wpList_nil ?_
   replace T := T.pick [0] rfl
   replace M := M.mask [false, true] rfl
   replace M : Mem w exq wc ((bj, .cells (jobL j A c)) :: (I0 ++ Iu1 ++ It)) := M
   refine Znr ?_
   refine Zrt ?_
   refine Zrb ?_
   refine Zrt ?_
   refine Zrt ?_
   refine Zrb ?_
   refine Zrt ?_
   refine rt_1 T rfl (T.e 0 rfl) ?_
   have hwp := word_norg2 (p := p) (by assumption)
   rw [Zdt (by omega : i < 1), hwp] at H
   exact LineP.none (L := (bj, .cells (jobL j A c)) :: I0) (H.trans rfl) ((show Mem w exq wc ((bj, .cells (jobL j A c)) :: (I0 ++ Iu1 ++ It)) from M.permT [0] 1 rfl rfl rfl rfl).sub (List.Sublist.cons_cons _ (subL (subL (List.Sublist.refl _))))) ⟨A, c, I0, rfl, hsl⟩
  intro h7
  (have h7' := h7; try simp only [Zb1, Zb2, Zb3, Zb4, Zb5, Zb6, Zb7] at h7')
  refine Zsk ?_
  refine wp_region_lit ?_
  refine Zg4 (v4 := (.agg #[.int .i64 nu3, .int .i64 nu4])) T (Zq (Zrm rfl (T.e 2 rfl))) rfl (Zm 5 rfl rfl) rfl (Zm 7 rfl rfl) rfl (fun _ T => Zq (rn_build rfl (.cons (T.e 1 rfl) (.cons (T.e 0 rfl) .nil)) (fun _ => by kernel_rfl))) rfl ?_; clear T ac; intro ac T
  refine Zl2 ?_
  refine ow_bs (e := 23) [.int .i64 nu3, .int .i64 nu4] M T rfl rfl rfl rfl (.cons (T.e 0 rfl) .nil) (fun _ => by kernel_rfl) ?_; clear M T; intro g2 wc ac M T
  refine Zl2 ?_
  refine ow_app (((g2, .cells [.int .i64 nu3, .int .i64 nu4]) :: (g1, .cells [sv shiftW, .int .i64 1, .int .i64 0, .func (.func 125) #[] #[]]) :: (bj, .cells (jobL j A c)) :: (I0 ++ Iu1))) Tryz.info23 hslx M (by first | rfl | simp) T rfl rfl rfl rfl Tryz.underlying28 rfl rfl rfl (by omega) (T.e 4 rfl) (T.e 0 rfl) (Zne (i := 0) rfl) rfl rfl ?_; clear M T; intro ga1 cga1 wc ac M T
  refine l_q (v := (.slice (some ⟨ga1, 0, none⟩) (xs.length + 1) cga1)) (T.pick [0, 1, 2, 3, 4, 5, 6, 7, 9, 10, 11, 12, 13, 14, 15] rfl) rfl rfl rfl rfl (Zra rfl (T.e 0 rfl)) ?_; clear T ac; intro ac T
  refine wpList_nil ?_
  replace T := T.pick [0, 7, 8, 9, 12, 13, 14] rfl
  replace M := M.mask [true, false, true, true] rfl
  refine Znb ?_
  refine nm_then ?_
  refine wp_region_lit ?_
  refine lq T (rn_add rfl (T.e 6 rfl) evc (by omega)) ?_; clear T ac; intro ac T
  refine l_q (v := (.int .i64 ((i : Int) + 1))) (T.pick [0, 1, 2, 3, 4, 5, 6] rfl) rfl rfl rfl rfl (Zrm rfl (T.e 0 rfl)) ?_; clear T ac; intro ac T
  replace T := T.pick [0, 2, 3, 4, 5, 6, 7] rfl
  refine Zln ?_
  have e9 : xs.length + 1 = (xs ++ [(nu3, nu4)]).length := by simp
  have e8 : ((rc xs) ++ [.int .i64 nu3, .int .i64 nu4]) = rc (xs ++ [(nu3, nu4)]) := by first | rw [rc_snoc] | rw [← rc_snoc]
  rw [e9, e8] at M
  rw [e9] at T
  clear e9 e8
  have hwp := word_rgok (p := p) (by assumption) hvu3 hvu4
  rw [Zdt (by omega : i < 1), hwp, andR_put, ← flatR_snoc] at H
  exact ⟨_, by omega, i + 1, (xs ++ [(nu3, nu4)]), _, _, [(ga1, .row 23 2 (xs ++ [(nu3, nu4)]).length (rc (xs ++ [(nu3, nu4)])) cga1)], rfl, (by omega), H, (Sl.row _ _ _ _ _ _), (by simp only [List.length_append, List.length_cons, List.length_nil]; omega), T.pick [2, 3, 1, 4, 5, 6, 0] rfl, (Mem.spinW [(g1, .cells [sv shiftW, .int .i64 1, .int .i64 0, .func (.func 125) #[] #[]]), (bj, .cells (jobL j A c))] [(ga1, .row 23 2 (xs ++ [(nu3, nu4)]).length (rc (xs ++ [(nu3, nu4)])) cga1)] (I0 ++ Iu1) (M.permT [1, 2, 0] 3 rfl rfl rfl rfl))⟩
 intro h3
 refine wp_exit ?_
 refine Zet ?_
 refine Zet ?_
 refine ex_hit ?_
 refine nm_then ?_
 refine Zsr ?_
 refine Zg5 (v1 := (.pointer (some ⟨g1, 3, none⟩))) T (Zq (Zrf (off := 3) rfl (T.e 2 rfl) (fun _ _ _ => by kernel_rfl))) rfl (Zo M 0 0 rfl rfl rfl rfl) rfl (Zm 3 rfl rfl) rfl (Zm 6 rfl rfl) rfl (Zm 8 rfl rfl) rfl ?_; clear T ac; intro ac T
 refine Zl2 ?_
 have hx1 : xs.length = 1 := by omega
 obtain ⟨s0, s1, rfl⟩ := len1r hx1
 obtain ⟨bx, ox, SVx⟩ := hslx.spW rfl
 have Mq := Mem.fore (b := (bj, .cells (jobL j A c))) (M.permT [1, 0] 2 rfl rfl rfl rfl)
 have My : Mem w exq wc ((bj, .cells (jobL j A c)) :: I0) := Mq.sub (Zsl _ _)
 have Sx := Sp.of (ex' := inL ((bj, .cells (jobL j A c)) :: I0)) Mq (fun _ h => h) (SVx w exq) (.cons _ (Zsq _ _))
 refine Zoc (first := []) (cap := []) T rfl rfl rfl rfl (T.e 3 rfl) (.cons (T.e 2 rfl) (.cons (T.e 1 rfl) (.cons (T.e 0 rfl) .nil))) Tryz.func125 rfl rfl ?_
 refine Calls.mono (take2_any bj j A c I0 (inL ((bj, .cells (jobL j A c)) :: I0)) At ct none 0 0 bx ox s0 s1 _ (by omega) hsl Sx My.rebase) ?_
 clear T; rintro e wc ⟨gs, cs, rfl, N⟩ ac T
 have e9 : j.sh.length + 1 = (j.sh ++ [(s0, s1)]).length := by simp
 have e8 : rc j.sh ++ rc [(s0, s1)] = rc (j.sh ++ [(s0, s1)]) := (rc_append _ _).symm
 rw [e9, e8] at N
 replace M := Mem.joinX (X := ((bj, .cells (jobL j A c)) :: I0)) Mq N (fun b h => h)
 clear N Mq My Sx
 replace M : Mem w exq wc ((bj, .cells [.int .i64 j.p0, .int .i64 j.p1, .int .i64 j.t0, .int .i64 j.t1, .int .i64 j.r0, .int .i64 j.r1, .int .i64 j.u0, .int .i64 j.u1, .int .i64 j.d0, .int .i64 j.d1, .int .i64 j.a0, .int .i64 j.a1, .int .i64 j.b0, .int .i64 j.b1, .int .i64 j.le, .slice (some ⟨gs, 0, none⟩) ((j.sh ++ [(s0, s1)]).length) cs, .int .i64 j.wi, .int .i64 j.me]) :: (gs, .row 23 2 (j.sh ++ [(s0, s1)]).length (rc (j.sh ++ [(s0, s1)])) cs) :: (g1, .cells [sv shiftW, .int .i64 1, .int .i64 0, .func (.func 125) #[] #[]]) :: (Iu1 ++ It)) := M
 refine wpList_nil ?_
 replace T := T.pick [] rfl
 replace M := M.mask [true, true, false] rfl
 refine nm_then ?_
 refine Zsr ?_
 refine lq T (Zra rfl evc) ?_; clear T ac; intro ac T
 refine Zln ?_
 refine wp_ret ?_
 refine rt_1 T rfl (T.e 0 rfl) ?_
 rw [List.drop_of_length_le (by rw [List.length_drop]; omega)] at H
 have hs9 : (lineA shiftW 1 0 s) = some (flatR [(s0, s1)]) := by rw [H]; cases 1 - i <;> simp [wordsA, andR]
 exact ⟨by rw [hs9]; rfl, (bj, .cells (jobL (putK 2 (flatR [(s0, s1)]) j) (some ⟨gs, 0, none⟩) cs)) :: [(gs, .row 23 2 (j.sh ++ [(s0, s1)]).length (rc (j.sh ++ [(s0, s1)])) cs)], M.sub (.cons_cons _ (.cons_cons _ (Zz9 _))), by rw [hs9]; exact ⟨_, _, _, rfl, Sl.row _ _ _ _ _ _⟩⟩
theorem andR_zero2 (o : Option (List Int)) : andR (some []) o = o := by cases o <;> rfl
theorem len2i {xs : List Int} (h : xs.length = 2) : ∃ a b, xs = [a, b] := by
 match xs, h with
 | [a, b], _ => exact ⟨a, b, rfl⟩
theorem read3_any (s : List UInt8) (bj : Nat) (j : Jb) (A : Option Addr) (c : Nat) (I0 : List (Nat × BA)) (exq : Nat → Prop) (w : World) (hs : s.length ≤ 800000) (hT : ∀ wc L, Mem w exq wc L → StrW wc) (hsl : Sl 23 2 (.slice A j.sh.length c) j.sh.length (rc j.sh) I0) (M0 : Mem w exq w ((bj, .cells [.int .i64 j.p0, .int .i64 j.p1, .int .i64 j.t0, .int .i64 j.t1, .int .i64 j.r0, .int .i64 j.r1, .int .i64 j.u0, .int .i64 j.u1, .int .i64 j.d0, .int .i64 j.d1, .int .i64 j.a0, .int .i64 j.a1, .int .i64 j.b0, .int .i64 j.b1, .int .i64 j.le, .slice A j.sh.length c, .int .i64 j.wi, .int .i64 j.me]) :: I0)) :
   Calls Tryz.prog 55 #[.agg #[sv passW, .int .i64 0, .int .i64 2, .func (.func 126) #[] #[]], .pointer (some ⟨bj, 0, none⟩), sv s] w (LineP (lineA passW 0 2 s) w exq bj 3 j) := by
 refine Zpx exq Tryz.func55 rfl 102 rfl [.agg #[sv passW, .int .i64 0, .int .i64 2, .func (.func 126) #[] #[]], .pointer (some ⟨bj, 0, none⟩), sv s] rfl rfl M0 ?_
 intro ac wc T M
 refine Zsr ?_
 refine Zl2 ?_
 refine Zob M T rfl rfl rfl rfl (T.e 0 rfl) rfl ?_; clear M T; intro g1 wc ac M T
 refine lq T (Zra rfl evc) ?_; clear T ac; intro ac T
 replace T := T.pick [1, 3, 4] rfl
 refine Zln ?_
 refine Zsr ?_
 refine lq T (Zrm rfl (T.e 2 rfl)) ?_; clear T ac; intro ac T
 refine Zl2 ?_
 refine Zoc (first := []) (cap := []) T rfl rfl rfl rfl evf (.cons (T.e 0 rfl) (.cons evc .nil)) Tryz.func52 rfl rfl ?_
 refine Calls.mono (Split2_any s 32 _ (by omega) (hT _ _ M)) ?_
 clear T; rintro e wc ⟨Au1, cu1, bu1, ou1, Iu1, rfl, hc9u1, SVu1, N⟩ ac T
 obtain ⟨lsu1, hlsu1⟩ : ∃ q, q = spl 32 s := ⟨_, rfl⟩
 rw [← hlsu1] at hc9u1 SVu1 T
 have Su1 := SVu1 w exq
 replace M := (M.join N).swapI
 clear N
 replace M : Mem w exq wc ((g1, .cells [sv passW, .int .i64 0, .int .i64 2, .func (.func 126) #[] #[]]) :: (bj, .cells (jobL j A c)) :: (I0 ++ Iu1)) := M
 have hlenu1 : lsu1.length ≤ s.length + 1 := by rw [hlsu1]; exact spl_len _ _
 have hposu1 : 0 < lsu1.length := by rw [hlsu1]; exact spl_pos _ _
 obtain ⟨w0u1, hzu1⟩ : ∃ q, lsu1[0]? = some q := ⟨_, List.getElem?_eq_getElem hposu1⟩
 refine lq T (Zra rfl (T.e 0 rfl)) ?_; clear T ac; intro ac T
 replace T := T.pick [0, 3, 4] rfl
 refine Zln ?_
 refine wp_seq ?_
 refine cut_seq (fun ac wc => Tm ac 102 [(1, .pointer (some ⟨bj, 0, none⟩)), (3, .pointer (some ⟨g1, 0, none⟩)), (7, .slice Au1 lsu1.length cu1), (39, .bool ((!(decide (w0u1 = passW))) || (!(decide (((lsu1.length : Nat) : Int) = 3)))))] ∧ Mem w exq wc ((g1, .cells [sv passW, .int .i64 0, .int .i64 2, .func (.func 126) #[] #[]]) :: (bj, .cells (jobL j A c)) :: (I0 ++ Iu1))) ?_ ?_
 ·refine Zgs M (M.mask [true, true] rfl) 17 (by kernel_rfl) rfl (by kernel_rfl) ?_
  clear M; intro wc M
  refine gq T 0 1 rfl (fun _ _ _ _ _ => (Zrm rfl (T.e 0 rfl))) ?_; clear T ac; intro ac T
  refine gq T 1 3 rfl (fun _ _ _ _ _ => (Zri (size := 1) 0 rfl (T.e 0 rfl) evc ⟨_, Tryz.underlying37, by kernel_rfl⟩ rfl (by omega) (Su1.at0 (by omega)))) ?_; clear T ac; intro ac T
  refine gq T 2 7 rfl (fun B w' hD hl hS => (rn_cell (Sp.stC0 Su1 (show Mem w exq w' _ from hS) (.cons _ (.cons _ (Zsq _ _))) hzu1) rfl (T.e 0 rfl))) ?_; clear T ac; intro ac T
  refine gq (v := (.pointer (some ⟨g1, 0, none⟩))) T 3 15 rfl (fun _ _ _ _ _ => (Zrf (off := 0) rfl (T.e 4 rfl) (fun _ _ _ => by kernel_rfl))) ?_; clear T ac; intro ac T
  refine gq T 4 31 rfl (fun B w' hD hl hS => (Zro (Mem.nth (show Mem w exq w' _ from hS) 0 rfl) rfl (T.e 0 rfl) rfl)) ?_; clear T ac; intro ac T
  refine gq T 5 63 rfl (fun _ _ _ _ _ => (rn_sneq rfl (T.e 2 rfl) (T.e 0 rfl))) ?_; clear T ac; intro ac T
  refine gq T 6 127 rfl (fun _ _ _ _ _ => (Zrm rfl (T.e 0 rfl))) ?_; clear T ac; intro ac T
  rcases Bool.eq_false_or_eq_true (!(decide (w0u1 = passW))) with h1 | h1
  ·replace h1 : ¬ (w0u1 = passW) := by first | (rw [Bool.not_eq_true'] at h1; exact of_decide_eq_false h1) | simpa using h1
   refine g_pass (T := T) (i := 7) rfl (by kernel_rfl) (by kernel_rfl : (Zpb 17 127).setIfInBounds 7 true = Zpb 17 255) si_U (fun _ _ _ h => h) (Zwn rfl rfl (T.e 0 rfl) (by simp [h1])) rfl rfl rfl ?_; clear T ac; intro ac T
   refine g_pass (T := T) (i := 8) rfl (by kernel_rfl) (by kernel_rfl : (Zpb 17 255).setIfInBounds 8 true = Zpb 17 511) si_U (fun _ _ _ h => h) (Zwn rfl rfl (T.e 1 rfl) (by simp [h1])) rfl rfl rfl ?_; clear T ac; intro ac T
   refine g_pass (T := T) (i := 9) rfl (by kernel_rfl) (by kernel_rfl : (Zpb 17 511).setIfInBounds 9 true = Zpb 17 1023) si_U (fun _ _ _ h => h) (Zwn rfl rfl (T.e 2 rfl) (by simp [h1])) rfl rfl rfl ?_; clear T ac; intro ac T
   refine g_pass (T := T) (i := 10) rfl (by kernel_rfl) (by kernel_rfl : (Zpb 17 1023).setIfInBounds 10 true = Zpb 17 2047) si_U (fun _ _ _ h => h) (Zwn rfl rfl (T.e 3 rfl) (by simp [h1])) rfl rfl rfl ?_; clear T ac; intro ac T
   refine g_pass (T := T) (i := 11) rfl (by kernel_rfl) (by kernel_rfl : (Zpb 17 2047).setIfInBounds 11 true = Zpb 17 4095) si_U (fun _ _ _ h => h) (Zwn rfl rfl (T.e 4 rfl) (by simp [h1])) rfl rfl rfl ?_; clear T ac; intro ac T
   refine g_pass (T := T) (i := 12) rfl (by kernel_rfl) (by kernel_rfl : (Zpb 17 4095).setIfInBounds 12 true = Zpb 17 8191) si_U (fun _ _ _ h => h) (Zwn rfl rfl (T.e 5 rfl) (by simp [h1])) rfl rfl rfl ?_; clear T ac; intro ac T
   refine g_pass (T := T) (i := 13) rfl (by kernel_rfl) (by kernel_rfl : (Zpb 17 8191).setIfInBounds 13 true = Zpb 17 16383) si_U (fun _ _ _ h => h) (Zwn rfl rfl (T.e 6 rfl) (by simp [h1])) rfl rfl rfl ?_; clear T ac; intro ac T
   refine g_pass (T := T) (i := 14) rfl (by kernel_rfl) (by kernel_rfl : (Zpb 17 16383).setIfInBounds 14 true = Zpb 17 32767) si_U (fun _ _ _ h => h) (Zwn rfl rfl (T.e 7 rfl) (by simp [h1])) rfl rfl rfl ?_; clear T ac; intro ac T
   refine g_pass (T := T) (i := 15) rfl (by kernel_rfl) (by kernel_rfl : (Zpb 17 32767).setIfInBounds 15 true = Zpb 17 65535) si_U (fun _ _ _ h => h) (Zwn rfl rfl (T.e 8 rfl) (by simp [h1])) rfl rfl rfl ?_; clear T ac; intro ac T
   refine gq T 16 131071 rfl (fun _ _ _ _ _ => (Zr1 rfl (T.e 9 rfl) (by simp [h1]) evc)) ?_; clear T ac; intro ac T
   refine Zgd (by kernel_rfl) ?_
   replace T := T.pick [0, 17, 18, 19] rfl
   exact ⟨(T.pick (E' := [(1, .pointer (some ⟨bj, 0, none⟩)), (3, .pointer (some ⟨g1, 0, none⟩)), (7, .slice Au1 lsu1.length cu1), (39, .bool true)]) [3, 2, 1, 0] rfl).as (by (try rw [show (!(decide (w0u1 = passW))) = true from (by simp [h1])]); (try rfl)), M.mask [true, true] rfl⟩
  replace h1 : w0u1 = passW := by first | (rw [Bool.not_eq_false'] at h1; exact of_decide_eq_true h1) | simpa using h1
  refine g_q (T := T) (i := 7) rfl (by kernel_rfl) (by kernel_rfl : (Zpb 17 127).setIfInBounds 7 true = Zpb 17 255) si_U (fun _ _ _ h => h) (Zwy rfl rfl (T.e 0 rfl) (by simp [h1])) rfl rfl rfl (fun _ _ _ _ _ => (Zrm rfl (T.e 7 rfl))) ?_; clear T ac; intro ac T
  refine g_q (T := T) (i := 8) rfl (by kernel_rfl) (by kernel_rfl : (Zpb 17 255).setIfInBounds 8 true = Zpb 17 511) si_U (fun _ _ _ h => h) (Zwy rfl rfl (T.e 1 rfl) (by simp [h1])) rfl rfl rfl (fun _ _ _ _ _ => (Zrl rfl Tryz.underlying37 (T.e 0 rfl))) ?_; clear T ac; intro ac T
  refine g_q (v := (.pointer (some ⟨g1, 1, none⟩))) (T := T) (i := 9) rfl (by kernel_rfl) (by kernel_rfl : (Zpb 17 511).setIfInBounds 9 true = Zpb 17 1023) si_U (fun _ _ _ h => h) (Zwy rfl rfl (T.e 2 rfl) (by simp [h1])) rfl rfl rfl (fun _ _ _ _ _ => (Zrf (off := 1) rfl (T.e 10 rfl) (fun _ _ _ => by kernel_rfl))) ?_; clear T ac; intro ac T
  refine g_q (T := T) (i := 10) rfl (by kernel_rfl) (by kernel_rfl : (Zpb 17 1023).setIfInBounds 10 true = Zpb 17 2047) si_U (fun _ _ _ h => h) (Zwy rfl rfl (T.e 3 rfl) (by simp [h1])) rfl rfl rfl (fun B w' hD hl hS => (Zro (Mem.nth (show Mem w exq w' _ from hS) 0 rfl) rfl (T.e 0 rfl) rfl)) ?_; clear T ac; intro ac T
  refine g_q (v := (.int .i64 1)) (T := T) (i := 11) rfl (by kernel_rfl) (by kernel_rfl : (Zpb 17 2047).setIfInBounds 11 true = Zpb 17 4095) si_U (fun _ _ _ h => h) (Zwy rfl rfl (T.e 4 rfl) (by simp [h1])) rfl rfl rfl (fun _ _ _ _ _ => (rn_ofI (rn_add rfl evc (T.e 0 rfl) (by omega)) (by rfl))) ?_; clear T ac; intro ac T
  refine g_q (v := (.pointer (some ⟨g1, 2, none⟩))) (T := T) (i := 12) rfl (by kernel_rfl) (by kernel_rfl : (Zpb 17 4095).setIfInBounds 12 true = Zpb 17 8191) si_U (fun _ _ _ h => h) (Zwy rfl rfl (T.e 5 rfl) (by simp [h1])) rfl rfl rfl (fun _ _ _ _ _ => (Zrf (off := 2) rfl (T.e 13 rfl) (fun _ _ _ => by kernel_rfl))) ?_; clear T ac; intro ac T
  refine g_q (T := T) (i := 13) rfl (by kernel_rfl) (by kernel_rfl : (Zpb 17 8191).setIfInBounds 13 true = Zpb 17 16383) si_U (fun _ _ _ h => h) (Zwy rfl rfl (T.e 6 rfl) (by simp [h1])) rfl rfl rfl (fun B w' hD hl hS => (Zro (Mem.nth (show Mem w exq w' _ from hS) 0 rfl) rfl (T.e 0 rfl) rfl)) ?_; clear T ac; intro ac T
  refine g_q (v := (.int .i64 3)) (T := T) (i := 14) rfl (by kernel_rfl) (by kernel_rfl : (Zpb 17 16383).setIfInBounds 14 true = Zpb 17 32767) si_U (fun _ _ _ h => h) (Zwy rfl rfl (T.e 7 rfl) (by simp [h1])) rfl rfl rfl (fun _ _ _ _ _ => (rn_ofI (rn_add rfl (T.e 2 rfl) (T.e 0 rfl) (by omega)) (by rfl))) ?_; clear T ac; intro ac T
  refine g_q (T := T) (i := 15) rfl (by kernel_rfl) (by kernel_rfl : (Zpb 17 32767).setIfInBounds 15 true = Zpb 17 65535) si_U (fun _ _ _ h => h) (Zwy rfl rfl (T.e 8 rfl) (by simp [h1])) rfl rfl rfl (fun _ _ _ _ _ => (rn_neq rfl (T.e 6 rfl) (T.e 0 rfl))) ?_; clear T ac; intro ac T
  refine gq T 16 131071 rfl (fun _ _ _ _ _ => (Zr0 rfl (T.e 9 rfl) (by simp [h1]) (T.e 0 rfl))) ?_; clear T ac; intro ac T
  refine Zgd (by kernel_rfl) ?_
  replace T := T.pick [0, 17, 18, 19] rfl
  exact ⟨(T.pick (E' := [(1, .pointer (some ⟨bj, 0, none⟩)), (3, .pointer (some ⟨g1, 0, none⟩)), (7, .slice Au1 lsu1.length cu1), (39, .bool (!(decide (((lsu1.length : Nat) : Int) = 3))))]) [3, 2, 1, 0] rfl).as (by (try rw [show (!(decide (w0u1 = passW))) = false from (by simp [h1])]); (try rfl)), M.mask [true, true] rfl⟩
 clear T M
 rintro ac wc ⟨T, M⟩
 refine wp_cond_split (T.e 3 rfl) ?_ ?_
 ·intro h2
  (have h2' := h2; try simp only [Zb1, Zb2, Zb3, Zb4, Zb5, Zb6, Zb7] at h2')
  refine Zsr ?_
  refine lq T (Zra rfl evc) ?_; clear T ac; intro ac T
  refine wpList_nil ?_
  replace T := T.pick [0] rfl
  replace M := M.mask [false, true] rfl
  refine Znr ?_
  refine Zrt ?_
  refine rt_1 T rfl (T.e 0 rfl) ?_
  have hno : (lineA passW 0 2 s) = none := by
    refine lineA_no (w0 := w0u1) (by rw [← hlsu1]; exact hzu1) ?_
    rintro ⟨h8, h9⟩
    rw [← hlsu1] at h9
    exact cond_bad (a := w0u1) (w := passW) (x := ((lsu1.length : Nat) : Int)) (y := 3) (by assumption) ⟨h8, by omega⟩
  exact LineP.none (L := (bj, .cells (jobL j A c)) :: I0) hno ((show Mem w exq wc ((bj, .cells (jobL j A c)) :: (I0 ++ Iu1)) from M.permT [0] 1 rfl rfl rfl rfl).sub (List.Sublist.cons_cons _ (subL (List.Sublist.refl _)))) ⟨A, c, I0, rfl, hsl⟩
 intro h2
 (have h2' := h2; try simp only [Zb1, Zb2, Zb3, Zb4, Zb5, Zb6, Zb7] at h2')
 refine Zsk ?_
 refine Zsr ?_
 refine lq T (Zra rfl evc) ?_; clear T ac; intro ac T
 replace T := T.pick [0, 1, 2, 3] rfl
 refine Zln ?_
 refine Zsr ?_
 refine lq T (Zra rfl evc) ?_; clear T ac; intro ac T
 refine Zln ?_
 refine wp_seq ?_
 refine Zsr ?_
 refine Zg2 T (Zq (Zrm rfl (T.e 4 rfl))) rfl (fun _ T => Zq (rn_slice (size := 1) (l := 1) (h := lsu1.length) rfl Tryz.underlying37 (by kernel_rfl) (T.e 0 rfl) evc rfl (by omega) (by omega))) rfl ?_; clear T ac; intro ac T
 obtain ⟨Aq1, hAq1⟩ : ∃ q : Option Addr, q = (if cu1 = 1 then Au1 else Option.map (fun x : Addr => x.add (1 * 1)) Au1) := ⟨_, rfl⟩
 rw [← hAq1] at T
 obtain ⟨lq1, hlq1⟩ : ∃ q, q = (lsu1.drop 1).take (lsu1.length - 1) := ⟨_, rfl⟩
 have nlq1 : lq1.length = lsu1.length - 1 := by rw [hlq1, List.length_take, List.length_drop]; (try simp only [List.length_cons, List.length_append, List.length_nil]); omega
 rw [← nlq1] at T
 have SAq1 : Sp w exq Iu1 Aq1 lq1.length 1 bu1 (ou1 + 1 * 1) (st lq1) := by rw [nlq1, hAq1, hlq1, ← st_part]; exact Su1.sub (by omega) (by omega) (by omega)
 refine Zg2 T (Zq (Zrl rfl Tryz.underlying37 (T.e 0 rfl))) rfl (fun _ T => Zq (Zrm rfl evc)) rfl ?_; clear T ac; intro ac T
 replace T := T.pick [0, 1, 2, 4, 5, 6, 7] rfl
 refine Zln ?_
 refine wp_block ?_
 have hcond := cond_ok (a := w0u1) (w := passW) (x := ((lsu1.length : Nat) : Int)) (y := 3) (by assumption)
 replace hcond : w0u1 = passW ∧ lsu1.length = 1 + 0 + 2 := ⟨hcond.1, by have := hcond.2; omega⟩
 refine wp_loop_n (fun mz ac wc => ∃ (i : Nat) (xs : List Int) (At : Option Addr) (ct : Nat) (It : List (Nat × BA)), mz = 2 - i ∧ (i ≤ 2) ∧ ((lineA passW 0 2 s) = andR (some xs) (wordsA (0 - i) ((lsu1.drop 1).drop i))) ∧ (Sl 3 1 (.slice At xs.length ct) xs.length (ic xs) It) ∧ (xs.length = i) ∧ Tm ac 102 [(1, .pointer (some ⟨bj, 0, none⟩)), (3, .pointer (some ⟨g1, 0, none⟩)), (8, .slice none 0 0), (9, .slice At xs.length ct), (41, .slice Aq1 lq1.length (cu1 - 1)), (42, .int .i64 ((lq1.length : Nat) : Int)), (43, .int .i64 (i : Int))] ∧ Mem w exq wc ((g1, .cells [sv passW, .int .i64 0, .int .i64 2, .func (.func 126) #[] #[]]) :: (bj, .cells (jobL j A c)) :: (I0 ++ Iu1 ++ It))) ?_ ?_
 ·exact ⟨_, 0, [], none, 0, [], rfl, (by omega), (by rw [hlsu1, lineA_prog (by rw [← hlsu1]; exact hzu1) hcond.1 (by rw [← hlsu1]; exact hcond.2)]; exact (andR_zero2 _).symm), (Sl.nil _ _), rfl, T.pick [5, 6, 4, 3, 2, 1, 0] rfl, (by simp only [List.append_nil]; exact M)⟩
 clear T M
 rintro mz ac wc ⟨i, xs, At, ct, It, hmm1, hi, H, hslx, hxl, T, M⟩
 refine Zsr ?_
 refine lq T (rn_lss rfl (T.e 6 rfl) (T.e 5 rfl)) ?_; clear T ac; intro ac T
 refine Zln ?_
 refine wp_seq ?_
 refine wp_if (T.e 0 rfl) ?_ ?_
 ·intro h3
  have hq9 : lq1 = lsu1.drop 1 := by rw [hlq1]; exact List.take_of_length_le (by rw [List.length_drop]; exact Nat.le_refl _)
  obtain ⟨p, hkp⟩ : ∃ q, lq1[i]? = some q := ⟨_, List.getElem?_eq_getElem (by omega)⟩
  have hkq : (lsu1.drop 1)[i]? = some p := by rw [← hq9]; exact hkp
  have hpl : p.length ≤ s.length := spl_mem_len (c := 32) (by rw [← hlsu1]; exact List.mem_of_mem_drop (List.mem_of_getElem? hkq))
  rw [wordsP_step (R := 0) hkq] at H
  refine Zsk ?_
  refine wp_seq ?_
  refine wp_block ?_
  refine Zsr ?_
  refine Zg5 T (Zq (Zrm rfl (T.e 7 rfl))) rfl (fun _ T => Zq (Zri (size := 1) i rfl (T.e 6 rfl) (T.e 8 rfl) ⟨_, Tryz.underlying37, by kernel_rfl⟩ rfl (by omega) (SAq1.at0 (by omega)))) rfl (fun _ T => Zq (rn_cell (Sp.stC0 SAq1 M (.cons _ (.cons _ (subL (Zsq _ _)))) hkp) rfl (T.e 0 rfl))) rfl (Za 2 rfl rfl) rfl (Za 1 rfl rfl) rfl ?_; clear T ac; intro ac T
  replace T := T.pick [0, 1, 6, 7, 8, 9, 10, 11, 12] rfl
  refine Zln ?_
  refine wp_seq ?_
  refine Zsr ?_
  refine Zg4 (v2 := (.pointer (some ⟨g1, 1, none⟩))) T (Zq (Zrm rfl (T.e 1 rfl))) rfl (Zf 1 4 rfl rfl) rfl (Zo M 0 0 rfl rfl rfl rfl) rfl (fun _ T => Zq (rn_geq rfl (T.e 2 rfl) (T.e 0 rfl))) rfl ?_; clear T ac; intro ac T
  replace T := T.pick [0, 4, 6, 7, 8, 9, 10, 11, 12] rfl
  refine Zln ?_
  refine wp_if (T.e 0 rfl) ?_ ?_
  ·intro h4
   refine Zsr ?_
   refine lq T (Zrm rfl (T.e 1 rfl)) ?_; clear T ac; intro ac T
   refine Zl2 ?_
   refine Zoc (first := []) (cap := []) T rfl rfl rfl rfl evf (.cons (T.e 0 rfl) .nil) Tryz.func128 rfl rfl ?_
   refine Calls.mono (number_any p _ (by omega) (hT _ _ M)) ?_
   clear T; rintro e wc ⟨nu2, rfl, hvu2, hb⟩ ac T
   replace M := M.call hb; clear hb
   refine Zg5 T (Zq (Zrm rfl (T.e 0 rfl))) rfl (Ze 0 rfl rfl rfl) rfl (Ze 1 rfl rfl rfl) rfl (Za 1 rfl rfl) rfl (Za 1 rfl rfl) rfl ?_; clear T ac; intro ac T
   replace T := T.pick [0, 1, 9, 10, 11, 12, 13, 14, 15] rfl
   refine Zln ?_
   refine wp_seq ?_
   refine Zsr ?_
   refine Zg2 T (Zq (Zrm rfl (T.e 0 rfl))) rfl (fun _ T => Zq (rn_not rfl (T.e 0 rfl))) rfl ?_; clear T ac; intro ac T
   replace T := T.pick [0, 3, 4, 5, 6, 7, 8, 9, 10] rfl
   refine Zln ?_
   refine wp_cond_split (T.e 0 rfl) ?_ ?_
   ·intro h5
    (have h5' := h5; try simp only [Zb1, Zb2, Zb3, Zb4, Zb5, Zb6, Zb7] at h5')
    refine Zsr ?_
    refine lq T (Zra rfl evc) ?_; clear T ac; intro ac T
    refine wpList_nil ?_
    replace T := T.pick [0] rfl
    replace M := M.mask [false, true] rfl
    replace M : Mem w exq wc ((bj, .cells (jobL j A c)) :: (I0 ++ Iu1 ++ It)) := M
    refine Znr ?_
    refine Zrt ?_
    refine Zrt ?_
    refine Zrb ?_
    refine Zrt ?_
    refine Zrt ?_
    refine Zrb ?_
    refine Zrt ?_
    refine rt_1 T rfl (T.e 0 rfl) ?_
    have hwp := word_bad (isSome_not (o := numP p) (by assumption))
    rw [Zdf (by omega : ¬ i < 0), hwp] at H
    exact LineP.none (L := (bj, .cells (jobL j A c)) :: I0) (H.trans rfl) ((show Mem w exq wc ((bj, .cells (jobL j A c)) :: (I0 ++ Iu1 ++ It)) from M.permT [0] 1 rfl rfl rfl rfl).sub (List.Sublist.cons_cons _ (subL (subL (List.Sublist.refl _))))) ⟨A, c, I0, rfl, hsl⟩
   intro h5
   (have h5' := h5; try simp only [Zb1, Zb2, Zb3, Zb4, Zb5, Zb6, Zb7] at h5')
   refine Zsk ?_
   refine Zsr ?_
   refine Zg2 T (Zq (Zrm rfl (T.e 5 rfl))) rfl (Zm 2 rfl rfl) rfl ?_; clear T ac; intro ac T
   refine Zl2 ?_
   refine ow_bs (e := 3) [.int .i64 nu2] M T rfl rfl rfl rfl (.cons (T.e 0 rfl) .nil) (fun _ => by kernel_rfl) ?_; clear M T; intro g2 wc ac M T
   refine Zl2 ?_
   refine ow_app (((g2, .cells [.int .i64 nu2]) :: (g1, .cells [sv passW, .int .i64 0, .int .i64 2, .func (.func 126) #[] #[]]) :: (bj, .cells (jobL j A c)) :: (I0 ++ Iu1))) Tryz.info3 hslx M (by first | rfl | simp) T rfl rfl rfl rfl Tryz.underlying31 rfl rfl rfl (by omega) (T.e 2 rfl) (T.e 0 rfl) (Zne (i := 0) rfl) rfl rfl ?_; clear M T; intro ga1 cga1 wc ac M T
   refine l_q (v := (.slice (some ⟨ga1, 0, none⟩) (xs.length + 1) cga1)) (T.pick [0, 1, 2, 3, 4, 5, 6, 7, 8, 10, 11, 12] rfl) rfl rfl rfl rfl (Zra rfl (T.e 0 rfl)) ?_; clear T ac; intro ac T
   refine wpList_nil ?_
   replace T := T.pick [0, 7, 8, 9, 10, 11, 12] rfl
   replace M := M.mask [true, false, true, true] rfl
   refine nm_then ?_
   refine wp_exit ?_
   refine Zet ?_
   refine ex_hit ?_
   refine nm_then ?_
   refine wp_region_lit ?_
   refine lq T (rn_add rfl (T.e 6 rfl) evc (by omega)) ?_; clear T ac; intro ac T
   refine l_q (v := (.int .i64 ((i : Int) + 1))) (T.pick [0, 1, 2, 3, 4, 5, 6] rfl) rfl rfl rfl rfl (Zrm rfl (T.e 0 rfl)) ?_; clear T ac; intro ac T
   replace T := T.pick [0, 2, 3, 4, 5, 6, 7] rfl
   refine Zln ?_
   have e9 : xs.length + 1 = (xs ++ [nu2]).length := by simp
   have e8 : ((ic xs) ++ [.int .i64 nu2]) = ic (xs ++ [nu2]) := by rw [← ic_snoc]
   rw [e9, e8] at M
   rw [e9] at T
   clear e9 e8
   have hwp := word_num (isSome_val (hvu2) (by assumption))
   rw [Zdf (by omega : ¬ i < 0), hwp, andR_put] at H
   exact ⟨_, by omega, i + 1, (xs ++ [nu2]), _, _, [(ga1, .row 3 1 (xs ++ [nu2]).length (ic (xs ++ [nu2])) cga1)], rfl, (by omega), H, (Sl.row _ _ _ _ _ _), (by simp only [List.length_append, List.length_cons, List.length_nil]; omega), T.pick [2, 3, 4, 1, 5, 6, 0] rfl, (Mem.spinW [(g1, .cells [sv passW, .int .i64 0, .int .i64 2, .func (.func 126) #[] #[]]), (bj, .cells (jobL j A c))] [(ga1, .row 3 1 (xs ++ [nu2]).length (ic (xs ++ [nu2])) cga1)] (I0 ++ Iu1) (M.permT [1, 2, 0] 3 rfl rfl rfl rfl))⟩
  intro h4
  exfalso
  omega
 intro h3
 refine wp_exit ?_
 refine Zet ?_
 refine Zet ?_
 refine ex_hit ?_
 refine nm_then ?_
 refine Zsr ?_
 refine Zg5 (v1 := (.pointer (some ⟨g1, 3, none⟩))) T (Zq (Zrf (off := 3) rfl (T.e 2 rfl) (fun _ _ _ => by kernel_rfl))) rfl (Zo M 0 0 rfl rfl rfl rfl) rfl (Zm 3 rfl rfl) rfl (Zm 6 rfl rfl) rfl (Zm 8 rfl rfl) rfl ?_; clear T ac; intro ac T
 refine Zl2 ?_
 have hx3 : xs.length = 2 := by omega
 obtain ⟨wi, me, rfl⟩ := len2i hx3
 obtain ⟨bx, ox, SVx⟩ := hslx.spW rfl
 have hne := hslx.ne (M.sub (.cons _ (.cons_cons _ (Zsq _ _))))
 refine Zoc (first := []) (cap := []) T rfl rfl rfl rfl (T.e 3 rfl) (.cons (T.e 2 rfl) (.cons (T.e 1 rfl) (.cons (T.e 0 rfl) .nil))) Tryz.func126 rfl rfl ?_
 refine Calls.mono (take3_any bj j A c none 0 At ct wi me _ (M.nth 1 rfl) ⟨rfl, fun h => (by cases h)⟩ (fun _ _ h => by cases h) ((SVx w exq).rd M (.cons _ (.cons _ (Zsq _ _)))) hne) ?_
 clear T; rintro e wc ⟨rfl, N⟩ ac T
 replace M := Mem.joinX (X := [(bj, .cells [.int .i64 j.p0, .int .i64 j.p1, .int .i64 j.t0, .int .i64 j.t1, .int .i64 j.r0, .int .i64 j.r1, .int .i64 j.u0, .int .i64 j.u1, .int .i64 j.d0, .int .i64 j.d1, .int .i64 j.a0, .int .i64 j.a1, .int .i64 j.b0, .int .i64 j.b1, .int .i64 j.le, .slice A j.sh.length c, .int .i64 j.wi, .int .i64 j.me])]) (F := ((g1, .cells [sv passW, .int .i64 0, .int .i64 2, .func (.func 126) #[] #[]]) :: (I0 ++ Iu1 ++ It))) (M.permT [1, 0] 2 rfl rfl rfl rfl) N (fun b h => by subst h; exact Zz2)
 clear N
 replace M : Mem w exq wc ((bj, .cells [.int .i64 j.p0, .int .i64 j.p1, .int .i64 j.t0, .int .i64 j.t1, .int .i64 j.r0, .int .i64 j.r1, .int .i64 j.u0, .int .i64 j.u1, .int .i64 j.d0, .int .i64 j.d1, .int .i64 j.a0, .int .i64 j.a1, .int .i64 j.b0, .int .i64 j.b1, .int .i64 j.le, .slice A j.sh.length c, .int .i64 wi, .int .i64 me]) :: (g1, .cells [sv passW, .int .i64 0, .int .i64 2, .func (.func 126) #[] #[]]) :: (I0 ++ Iu1 ++ It)) := M
 refine wpList_nil ?_
 replace T := T.pick [] rfl
 replace M := M.mask [true, false] rfl
 replace M : Mem w exq wc ((bj, .cells [.int .i64 j.p0, .int .i64 j.p1, .int .i64 j.t0, .int .i64 j.t1, .int .i64 j.r0, .int .i64 j.r1, .int .i64 j.u0, .int .i64 j.u1, .int .i64 j.d0, .int .i64 j.d1, .int .i64 j.a0, .int .i64 j.a1, .int .i64 j.b0, .int .i64 j.b1, .int .i64 j.le, .slice A j.sh.length c, .int .i64 wi, .int .i64 me]) :: (I0 ++ Iu1 ++ It)) := M
 refine nm_then ?_
 refine Zsr ?_
 refine lq T (Zra rfl evc) ?_; clear T ac; intro ac T
 refine Zln ?_
 refine wp_ret ?_
 refine rt_1 T rfl (T.e 0 rfl) ?_
 rw [List.drop_of_length_le (by rw [List.length_drop]; omega)] at H
 have hs9 : (lineA passW 0 2 s) = some [wi, me] := by rw [H]; cases 0 - i <;> simp [wordsA, andR]
 exact ⟨by rw [hs9]; rfl, (bj, .cells (jobL (putK 3 [wi, me] j) A c)) :: I0, M.sub (((Zsl I0 Iu1).trans (Zsl _ It)).cons_cons _), by rw [hs9]; exact ⟨A, c, I0, rfl, hsl⟩⟩
theorem len4 {xs : List (Int × Int)} (h : xs.length = 4) : ∃ a b c d e f g k, xs = [(a, b), (c, d), (e, f), (g, k)] := by
 match xs, h with
 | [(a, b), (c, d), (e, f), (g, k)], _ => exact ⟨a, b, c, d, e, f, g, k, rfl⟩
theorem len1i {xs : List Int} (h : xs.length = 1) : ∃ a, xs = [a] := by
 match xs, h with
 | [a], _ => exact ⟨a, rfl⟩
theorem flatR_more {xs : List (Int × Int)} {ns : List Int} (a b : Int) (h : ns.length = 0) : flatR xs ++ ns ++ [a, b] = flatR (xs ++ [(a, b)]) ++ ns := by
 rw [List.eq_nil_of_length_eq_zero h, flatR_snoc]
 simp
theorem andR_zero3 (o : Option (List Int)) : andR (some (flatR [] ++ [])) o = o := by cases o <;> rfl
theorem read1_any (s : List UInt8) (bj : Nat) (j : Jb) (A : Option Addr) (c : Nat) (I0 : List (Nat × BA)) (exq : Nat → Prop) (w : World) (hs : s.length ≤ 800000) (hT : ∀ wc L, Mem w exq wc L → StrW wc) (hsl : Sl 23 2 (.slice A j.sh.length c) j.sh.length (rc j.sh) I0) (M0 : Mem w exq w ((bj, .cells [.int .i64 j.p0, .int .i64 j.p1, .int .i64 j.t0, .int .i64 j.t1, .int .i64 j.r0, .int .i64 j.r1, .int .i64 j.u0, .int .i64 j.u1, .int .i64 j.d0, .int .i64 j.d1, .int .i64 j.a0, .int .i64 j.a1, .int .i64 j.b0, .int .i64 j.b1, .int .i64 j.le, .slice A j.sh.length c, .int .i64 j.wi, .int .i64 j.me]) :: I0)) :
   Calls Tryz.prog 55 #[.agg #[sv fileW, .int .i64 4, .int .i64 1, .func (.func 124) #[] #[]], .pointer (some ⟨bj, 0, none⟩), sv s] w (LineP (lineA fileW 4 1 s) w exq bj 1 j) := by
 refine Zpx exq Tryz.func55 rfl 102 rfl [.agg #[sv fileW, .int .i64 4, .int .i64 1, .func (.func 124) #[] #[]], .pointer (some ⟨bj, 0, none⟩), sv s] rfl rfl M0 ?_
 intro ac wc T M
 refine Zsr ?_
 refine Zl2 ?_
 refine Zob M T rfl rfl rfl rfl (T.e 0 rfl) rfl ?_; clear M T; intro g1 wc ac M T
 refine lq T (Zra rfl evc) ?_; clear T ac; intro ac T
 replace T := T.pick [1, 3, 4] rfl
 refine Zln ?_
 refine Zsr ?_
 refine lq T (Zrm rfl (T.e 2 rfl)) ?_; clear T ac; intro ac T
 refine Zl2 ?_
 refine Zoc (first := []) (cap := []) T rfl rfl rfl rfl evf (.cons (T.e 0 rfl) (.cons evc .nil)) Tryz.func52 rfl rfl ?_
 refine Calls.mono (Split2_any s 32 _ (by omega) (hT _ _ M)) ?_
 clear T; rintro e wc ⟨Au1, cu1, bu1, ou1, Iu1, rfl, hc9u1, SVu1, N⟩ ac T
 obtain ⟨lsu1, hlsu1⟩ : ∃ q, q = spl 32 s := ⟨_, rfl⟩
 rw [← hlsu1] at hc9u1 SVu1 T
 have Su1 := SVu1 w exq
 replace M := (M.join N).swapI
 clear N
 replace M : Mem w exq wc ((g1, .cells [sv fileW, .int .i64 4, .int .i64 1, .func (.func 124) #[] #[]]) :: (bj, .cells (jobL j A c)) :: (I0 ++ Iu1)) := M
 have hlenu1 : lsu1.length ≤ s.length + 1 := by rw [hlsu1]; exact spl_len _ _
 have hposu1 : 0 < lsu1.length := by rw [hlsu1]; exact spl_pos _ _
 obtain ⟨w0u1, hzu1⟩ : ∃ q, lsu1[0]? = some q := ⟨_, List.getElem?_eq_getElem hposu1⟩
 refine lq T (Zra rfl (T.e 0 rfl)) ?_; clear T ac; intro ac T
 replace T := T.pick [0, 3, 4] rfl
 refine Zln ?_
 refine wp_seq ?_
 refine cut_seq (fun ac wc => Tm ac 102 [(1, .pointer (some ⟨bj, 0, none⟩)), (3, .pointer (some ⟨g1, 0, none⟩)), (7, .slice Au1 lsu1.length cu1), (39, .bool ((!(decide (w0u1 = fileW))) || (!(decide (((lsu1.length : Nat) : Int) = 6)))))] ∧ Mem w exq wc ((g1, .cells [sv fileW, .int .i64 4, .int .i64 1, .func (.func 124) #[] #[]]) :: (bj, .cells (jobL j A c)) :: (I0 ++ Iu1))) ?_ ?_
 ·refine Zgs M (M.mask [true, true] rfl) 17 (by kernel_rfl) rfl (by kernel_rfl) ?_
  clear M; intro wc M
  refine gq T 0 1 rfl (fun _ _ _ _ _ => (Zrm rfl (T.e 0 rfl))) ?_; clear T ac; intro ac T
  refine gq T 1 3 rfl (fun _ _ _ _ _ => (Zri (size := 1) 0 rfl (T.e 0 rfl) evc ⟨_, Tryz.underlying37, by kernel_rfl⟩ rfl (by omega) (Su1.at0 (by omega)))) ?_; clear T ac; intro ac T
  refine gq T 2 7 rfl (fun B w' hD hl hS => (rn_cell (Sp.stC0 Su1 (show Mem w exq w' _ from hS) (.cons _ (.cons _ (Zsq _ _))) hzu1) rfl (T.e 0 rfl))) ?_; clear T ac; intro ac T
  refine gq (v := (.pointer (some ⟨g1, 0, none⟩))) T 3 15 rfl (fun _ _ _ _ _ => (Zrf (off := 0) rfl (T.e 4 rfl) (fun _ _ _ => by kernel_rfl))) ?_; clear T ac; intro ac T
  refine gq T 4 31 rfl (fun B w' hD hl hS => (Zro (Mem.nth (show Mem w exq w' _ from hS) 0 rfl) rfl (T.e 0 rfl) rfl)) ?_; clear T ac; intro ac T
  refine gq T 5 63 rfl (fun _ _ _ _ _ => (rn_sneq rfl (T.e 2 rfl) (T.e 0 rfl))) ?_; clear T ac; intro ac T
  refine gq T 6 127 rfl (fun _ _ _ _ _ => (Zrm rfl (T.e 0 rfl))) ?_; clear T ac; intro ac T
  rcases Bool.eq_false_or_eq_true (!(decide (w0u1 = fileW))) with h1 | h1
  ·replace h1 : ¬ (w0u1 = fileW) := by first | (rw [Bool.not_eq_true'] at h1; exact of_decide_eq_false h1) | simpa using h1
   refine g_pass (T := T) (i := 7) rfl (by kernel_rfl) (by kernel_rfl : (Zpb 17 127).setIfInBounds 7 true = Zpb 17 255) si_U (fun _ _ _ h => h) (Zwn rfl rfl (T.e 0 rfl) (by simp [h1])) rfl rfl rfl ?_; clear T ac; intro ac T
   refine g_pass (T := T) (i := 8) rfl (by kernel_rfl) (by kernel_rfl : (Zpb 17 255).setIfInBounds 8 true = Zpb 17 511) si_U (fun _ _ _ h => h) (Zwn rfl rfl (T.e 1 rfl) (by simp [h1])) rfl rfl rfl ?_; clear T ac; intro ac T
   refine g_pass (T := T) (i := 9) rfl (by kernel_rfl) (by kernel_rfl : (Zpb 17 511).setIfInBounds 9 true = Zpb 17 1023) si_U (fun _ _ _ h => h) (Zwn rfl rfl (T.e 2 rfl) (by simp [h1])) rfl rfl rfl ?_; clear T ac; intro ac T
   refine g_pass (T := T) (i := 10) rfl (by kernel_rfl) (by kernel_rfl : (Zpb 17 1023).setIfInBounds 10 true = Zpb 17 2047) si_U (fun _ _ _ h => h) (Zwn rfl rfl (T.e 3 rfl) (by simp [h1])) rfl rfl rfl ?_; clear T ac; intro ac T
   refine g_pass (T := T) (i := 11) rfl (by kernel_rfl) (by kernel_rfl : (Zpb 17 2047).setIfInBounds 11 true = Zpb 17 4095) si_U (fun _ _ _ h => h) (Zwn rfl rfl (T.e 4 rfl) (by simp [h1])) rfl rfl rfl ?_; clear T ac; intro ac T
   refine g_pass (T := T) (i := 12) rfl (by kernel_rfl) (by kernel_rfl : (Zpb 17 4095).setIfInBounds 12 true = Zpb 17 8191) si_U (fun _ _ _ h => h) (Zwn rfl rfl (T.e 5 rfl) (by simp [h1])) rfl rfl rfl ?_; clear T ac; intro ac T
   refine g_pass (T := T) (i := 13) rfl (by kernel_rfl) (by kernel_rfl : (Zpb 17 8191).setIfInBounds 13 true = Zpb 17 16383) si_U (fun _ _ _ h => h) (Zwn rfl rfl (T.e 6 rfl) (by simp [h1])) rfl rfl rfl ?_; clear T ac; intro ac T
   refine g_pass (T := T) (i := 14) rfl (by kernel_rfl) (by kernel_rfl : (Zpb 17 16383).setIfInBounds 14 true = Zpb 17 32767) si_U (fun _ _ _ h => h) (Zwn rfl rfl (T.e 7 rfl) (by simp [h1])) rfl rfl rfl ?_; clear T ac; intro ac T
   refine g_pass (T := T) (i := 15) rfl (by kernel_rfl) (by kernel_rfl : (Zpb 17 32767).setIfInBounds 15 true = Zpb 17 65535) si_U (fun _ _ _ h => h) (Zwn rfl rfl (T.e 8 rfl) (by simp [h1])) rfl rfl rfl ?_; clear T ac; intro ac T
   refine gq T 16 131071 rfl (fun _ _ _ _ _ => (Zr1 rfl (T.e 9 rfl) (by simp [h1]) evc)) ?_; clear T ac; intro ac T
   refine Zgd (by kernel_rfl) ?_
   replace T := T.pick [0, 17, 18, 19] rfl
   exact ⟨(T.pick (E' := [(1, .pointer (some ⟨bj, 0, none⟩)), (3, .pointer (some ⟨g1, 0, none⟩)), (7, .slice Au1 lsu1.length cu1), (39, .bool true)]) [3, 2, 1, 0] rfl).as (by (try rw [show (!(decide (w0u1 = fileW))) = true from (by simp [h1])]); (try rfl)), M.mask [true, true] rfl⟩
  replace h1 : w0u1 = fileW := by first | (rw [Bool.not_eq_false'] at h1; exact of_decide_eq_true h1) | simpa using h1
  refine g_q (T := T) (i := 7) rfl (by kernel_rfl) (by kernel_rfl : (Zpb 17 127).setIfInBounds 7 true = Zpb 17 255) si_U (fun _ _ _ h => h) (Zwy rfl rfl (T.e 0 rfl) (by simp [h1])) rfl rfl rfl (fun _ _ _ _ _ => (Zrm rfl (T.e 7 rfl))) ?_; clear T ac; intro ac T
  refine g_q (T := T) (i := 8) rfl (by kernel_rfl) (by kernel_rfl : (Zpb 17 255).setIfInBounds 8 true = Zpb 17 511) si_U (fun _ _ _ h => h) (Zwy rfl rfl (T.e 1 rfl) (by simp [h1])) rfl rfl rfl (fun _ _ _ _ _ => (Zrl rfl Tryz.underlying37 (T.e 0 rfl))) ?_; clear T ac; intro ac T
  refine g_q (v := (.pointer (some ⟨g1, 1, none⟩))) (T := T) (i := 9) rfl (by kernel_rfl) (by kernel_rfl : (Zpb 17 511).setIfInBounds 9 true = Zpb 17 1023) si_U (fun _ _ _ h => h) (Zwy rfl rfl (T.e 2 rfl) (by simp [h1])) rfl rfl rfl (fun _ _ _ _ _ => (Zrf (off := 1) rfl (T.e 10 rfl) (fun _ _ _ => by kernel_rfl))) ?_; clear T ac; intro ac T
  refine g_q (T := T) (i := 10) rfl (by kernel_rfl) (by kernel_rfl : (Zpb 17 1023).setIfInBounds 10 true = Zpb 17 2047) si_U (fun _ _ _ h => h) (Zwy rfl rfl (T.e 3 rfl) (by simp [h1])) rfl rfl rfl (fun B w' hD hl hS => (Zro (Mem.nth (show Mem w exq w' _ from hS) 0 rfl) rfl (T.e 0 rfl) rfl)) ?_; clear T ac; intro ac T
  refine g_q (v := (.int .i64 5)) (T := T) (i := 11) rfl (by kernel_rfl) (by kernel_rfl : (Zpb 17 2047).setIfInBounds 11 true = Zpb 17 4095) si_U (fun _ _ _ h => h) (Zwy rfl rfl (T.e 4 rfl) (by simp [h1])) rfl rfl rfl (fun _ _ _ _ _ => (rn_ofI (rn_add rfl evc (T.e 0 rfl) (by omega)) (by rfl))) ?_; clear T ac; intro ac T
  refine g_q (v := (.pointer (some ⟨g1, 2, none⟩))) (T := T) (i := 12) rfl (by kernel_rfl) (by kernel_rfl : (Zpb 17 4095).setIfInBounds 12 true = Zpb 17 8191) si_U (fun _ _ _ h => h) (Zwy rfl rfl (T.e 5 rfl) (by simp [h1])) rfl rfl rfl (fun _ _ _ _ _ => (Zrf (off := 2) rfl (T.e 13 rfl) (fun _ _ _ => by kernel_rfl))) ?_; clear T ac; intro ac T
  refine g_q (T := T) (i := 13) rfl (by kernel_rfl) (by kernel_rfl : (Zpb 17 8191).setIfInBounds 13 true = Zpb 17 16383) si_U (fun _ _ _ h => h) (Zwy rfl rfl (T.e 6 rfl) (by simp [h1])) rfl rfl rfl (fun B w' hD hl hS => (Zro (Mem.nth (show Mem w exq w' _ from hS) 0 rfl) rfl (T.e 0 rfl) rfl)) ?_; clear T ac; intro ac T
  refine g_q (v := (.int .i64 6)) (T := T) (i := 14) rfl (by kernel_rfl) (by kernel_rfl : (Zpb 17 16383).setIfInBounds 14 true = Zpb 17 32767) si_U (fun _ _ _ h => h) (Zwy rfl rfl (T.e 7 rfl) (by simp [h1])) rfl rfl rfl (fun _ _ _ _ _ => (rn_ofI (rn_add rfl (T.e 2 rfl) (T.e 0 rfl) (by omega)) (by rfl))) ?_; clear T ac; intro ac T
  refine g_q (T := T) (i := 15) rfl (by kernel_rfl) (by kernel_rfl : (Zpb 17 32767).setIfInBounds 15 true = Zpb 17 65535) si_U (fun _ _ _ h => h) (Zwy rfl rfl (T.e 8 rfl) (by simp [h1])) rfl rfl rfl (fun _ _ _ _ _ => (rn_neq rfl (T.e 6 rfl) (T.e 0 rfl))) ?_; clear T ac; intro ac T
  refine gq T 16 131071 rfl (fun _ _ _ _ _ => (Zr0 rfl (T.e 9 rfl) (by simp [h1]) (T.e 0 rfl))) ?_; clear T ac; intro ac T
  refine Zgd (by kernel_rfl) ?_
  replace T := T.pick [0, 17, 18, 19] rfl
  exact ⟨(T.pick (E' := [(1, .pointer (some ⟨bj, 0, none⟩)), (3, .pointer (some ⟨g1, 0, none⟩)), (7, .slice Au1 lsu1.length cu1), (39, .bool (!(decide (((lsu1.length : Nat) : Int) = 6))))]) [3, 2, 1, 0] rfl).as (by (try rw [show (!(decide (w0u1 = fileW))) = false from (by simp [h1])]); (try rfl)), M.mask [true, true] rfl⟩
 clear T M
 rintro ac wc ⟨T, M⟩
 refine wp_cond_split (T.e 3 rfl) ?_ ?_
 ·intro h2
  (have h2' := h2; try simp only [Zb1, Zb2, Zb3, Zb4, Zb5, Zb6, Zb7] at h2')
  refine Zsr ?_
  refine lq T (Zra rfl evc) ?_; clear T ac; intro ac T
  refine wpList_nil ?_
  replace T := T.pick [0] rfl
  replace M := M.mask [false, true] rfl
  refine Znr ?_
  refine Zrt ?_
  refine rt_1 T rfl (T.e 0 rfl) ?_
  have hno : (lineA fileW 4 1 s) = none := by
    refine lineA_no (w0 := w0u1) (by rw [← hlsu1]; exact hzu1) ?_
    rintro ⟨h8, h9⟩
    rw [← hlsu1] at h9
    exact cond_bad (a := w0u1) (w := fileW) (x := ((lsu1.length : Nat) : Int)) (y := 6) (by assumption) ⟨h8, by omega⟩
  exact LineP.none (L := (bj, .cells (jobL j A c)) :: I0) hno ((show Mem w exq wc ((bj, .cells (jobL j A c)) :: (I0 ++ Iu1)) from M.permT [0] 1 rfl rfl rfl rfl).sub (List.Sublist.cons_cons _ (subL (List.Sublist.refl _)))) ⟨A, c, I0, rfl, hsl⟩
 intro h2
 (have h2' := h2; try simp only [Zb1, Zb2, Zb3, Zb4, Zb5, Zb6, Zb7] at h2')
 refine Zsk ?_
 refine Zsr ?_
 refine lq T (Zra rfl evc) ?_; clear T ac; intro ac T
 replace T := T.pick [0, 1, 2, 3] rfl
 refine Zln ?_
 refine Zsr ?_
 refine lq T (Zra rfl evc) ?_; clear T ac; intro ac T
 refine Zln ?_
 refine wp_seq ?_
 refine Zsr ?_
 refine Zg2 T (Zq (Zrm rfl (T.e 4 rfl))) rfl (fun _ T => Zq (rn_slice (size := 1) (l := 1) (h := lsu1.length) rfl Tryz.underlying37 (by kernel_rfl) (T.e 0 rfl) evc rfl (by omega) (by omega))) rfl ?_; clear T ac; intro ac T
 obtain ⟨Aq1, hAq1⟩ : ∃ q : Option Addr, q = (if cu1 = 1 then Au1 else Option.map (fun x : Addr => x.add (1 * 1)) Au1) := ⟨_, rfl⟩
 rw [← hAq1] at T
 obtain ⟨lq1, hlq1⟩ : ∃ q, q = (lsu1.drop 1).take (lsu1.length - 1) := ⟨_, rfl⟩
 have nlq1 : lq1.length = lsu1.length - 1 := by rw [hlq1, List.length_take, List.length_drop]; (try simp only [List.length_cons, List.length_append, List.length_nil]); omega
 rw [← nlq1] at T
 have SAq1 : Sp w exq Iu1 Aq1 lq1.length 1 bu1 (ou1 + 1 * 1) (st lq1) := by rw [nlq1, hAq1, hlq1, ← st_part]; exact Su1.sub (by omega) (by omega) (by omega)
 refine Zg2 T (Zq (Zrl rfl Tryz.underlying37 (T.e 0 rfl))) rfl (fun _ T => Zq (Zrm rfl evc)) rfl ?_; clear T ac; intro ac T
 replace T := T.pick [0, 1, 2, 4, 5, 6, 7] rfl
 refine Zln ?_
 refine wp_block ?_
 have hcond := cond_ok (a := w0u1) (w := fileW) (x := ((lsu1.length : Nat) : Int)) (y := 6) (by assumption)
 replace hcond : w0u1 = fileW ∧ lsu1.length = 1 + 4 + 1 := ⟨hcond.1, by have := hcond.2; omega⟩
 refine wp_loop_n (fun mz ac wc => ∃ (i : Nat) (xs : List (Int × Int)) (ns : List Int) (At : Option Addr) (ct : Nat) (It : List (Nat × BA)) (Bt : Option Addr) (dt : Nat) (Jt : List (Nat × BA)), mz = 5 - i ∧ (i ≤ 5) ∧ ((lineA fileW 4 1 s) = andR (some (flatR xs ++ ns)) (wordsA (4 - i) ((lsu1.drop 1).drop i))) ∧ (Sl 23 2 (.slice At xs.length ct) xs.length (rc xs) It) ∧ (Sl 3 1 (.slice Bt ns.length dt) ns.length (ic ns) Jt) ∧ (xs.length + ns.length = i) ∧ (i ≤ 4 → ns.length = 0) ∧ (4 ≤ i → xs.length = 4) ∧ Tm ac 102 [(1, .pointer (some ⟨bj, 0, none⟩)), (3, .pointer (some ⟨g1, 0, none⟩)), (8, .slice At xs.length ct), (9, .slice Bt ns.length dt), (41, .slice Aq1 lq1.length (cu1 - 1)), (42, .int .i64 ((lq1.length : Nat) : Int)), (43, .int .i64 (i : Int))] ∧ Mem w exq wc ((g1, .cells [sv fileW, .int .i64 4, .int .i64 1, .func (.func 124) #[] #[]]) :: (bj, .cells (jobL j A c)) :: (I0 ++ Iu1 ++ It ++ Jt))) ?_ ?_
 ·exact ⟨_, 0, [], [], none, 0, [], none, 0, [], rfl, (by omega), (by rw [hlsu1, lineA_prog (by rw [← hlsu1]; exact hzu1) hcond.1 (by rw [← hlsu1]; exact hcond.2)]; exact (andR_zero3 _).symm), (Sl.nil _ _), (Sl.nil _ _), rfl, (fun _ => rfl), (fun h => by omega), T.pick [5, 6, 4, 3, 2, 1, 0] rfl, (by simp only [List.append_nil]; exact M)⟩
 clear T M
 rintro mz ac wc ⟨i, xs, ns, At, ct, It, Bt, dt, Jt, hmm1, hi, H, hslx, hsln, hxl, hx4, hx5, T, M⟩
 refine Zsr ?_
 refine lq T (rn_lss rfl (T.e 6 rfl) (T.e 5 rfl)) ?_; clear T ac; intro ac T
 refine Zln ?_
 refine wp_seq ?_
 refine wp_if (T.e 0 rfl) ?_ ?_
 ·intro h3
  have hq9 : lq1 = lsu1.drop 1 := by rw [hlq1]; exact List.take_of_length_le (by rw [List.length_drop]; exact Nat.le_refl _)
  obtain ⟨p, hkp⟩ : ∃ q, lq1[i]? = some q := ⟨_, List.getElem?_eq_getElem (by omega)⟩
  have hkq : (lsu1.drop 1)[i]? = some p := by rw [← hq9]; exact hkp
  have hpl : p.length ≤ s.length := spl_mem_len (c := 32) (by rw [← hlsu1]; exact List.mem_of_mem_drop (List.mem_of_getElem? hkq))
  rw [wordsP_step (R := 4) hkq] at H
  refine Zsk ?_
  refine wp_seq ?_
  refine wp_block ?_
  refine Zsr ?_
  refine Zg5 T (Zq (Zrm rfl (T.e 7 rfl))) rfl (fun _ T => Zq (Zri (size := 1) i rfl (T.e 6 rfl) (T.e 8 rfl) ⟨_, Tryz.underlying37, by kernel_rfl⟩ rfl (by omega) (SAq1.at0 (by omega)))) rfl (fun _ T => Zq (rn_cell (Sp.stC0 SAq1 M (.cons _ (.cons _ (subL (subL (Zsq _ _))))) hkp) rfl (T.e 0 rfl))) rfl (Za 2 rfl rfl) rfl (Za 1 rfl rfl) rfl ?_; clear T ac; intro ac T
  replace T := T.pick [0, 1, 6, 7, 8, 9, 10, 11, 12] rfl
  refine Zln ?_
  refine wp_seq ?_
  refine Zsr ?_
  refine Zg4 (v2 := (.pointer (some ⟨g1, 1, none⟩))) T (Zq (Zrm rfl (T.e 1 rfl))) rfl (Zf 1 4 rfl rfl) rfl (Zo M 0 0 rfl rfl rfl rfl) rfl (fun _ T => Zq (rn_geq rfl (T.e 2 rfl) (T.e 0 rfl))) rfl ?_; clear T ac; intro ac T
  replace T := T.pick [0, 4, 6, 7, 8, 9, 10, 11, 12] rfl
  refine Zln ?_
  refine wp_if (T.e 0 rfl) ?_ ?_
  ·intro h4
   refine Zsr ?_
   refine lq T (Zrm rfl (T.e 1 rfl)) ?_; clear T ac; intro ac T
   refine Zl2 ?_
   refine Zoc (first := []) (cap := []) T rfl rfl rfl rfl evf (.cons (T.e 0 rfl) .nil) Tryz.func128 rfl rfl ?_
   refine Calls.mono (number_any p _ (by omega) (hT _ _ M)) ?_
   clear T; rintro e wc ⟨nu2, rfl, hvu2, hb⟩ ac T
   replace M := M.call hb; clear hb
   refine Zg5 T (Zq (Zrm rfl (T.e 0 rfl))) rfl (Ze 0 rfl rfl rfl) rfl (Ze 1 rfl rfl rfl) rfl (Za 1 rfl rfl) rfl (Za 1 rfl rfl) rfl ?_; clear T ac; intro ac T
   replace T := T.pick [0, 1, 9, 10, 11, 12, 13, 14, 15] rfl
   refine Zln ?_
   refine wp_seq ?_
   refine Zsr ?_
   refine Zg2 T (Zq (Zrm rfl (T.e 0 rfl))) rfl (fun _ T => Zq (rn_not rfl (T.e 0 rfl))) rfl ?_; clear T ac; intro ac T
   replace T := T.pick [0, 3, 4, 5, 6, 7, 8, 9, 10] rfl
   refine Zln ?_
   refine wp_cond_split (T.e 0 rfl) ?_ ?_
   ·intro h5
    (have h5' := h5; try simp only [Zb1, Zb2, Zb3, Zb4, Zb5, Zb6, Zb7] at h5')
    refine Zsr ?_
    refine lq T (Zra rfl evc) ?_; clear T ac; intro ac T
    refine wpList_nil ?_
    replace T := T.pick [0] rfl
    replace M := M.mask [false, true] rfl
    replace M : Mem w exq wc ((bj, .cells (jobL j A c)) :: (I0 ++ Iu1 ++ It ++ Jt)) := M
    refine Znr ?_
    refine Zrt ?_
    refine Zrt ?_
    refine Zrb ?_
    refine Zrt ?_
    refine Zrt ?_
    refine Zrb ?_
    refine Zrt ?_
    refine rt_1 T rfl (T.e 0 rfl) ?_
    have hwp := word_bad (isSome_not (o := numP p) (by assumption))
    rw [Zdf (by omega : ¬ i < 4), hwp] at H
    exact LineP.none (L := (bj, .cells (jobL j A c)) :: I0) (H.trans rfl) ((show Mem w exq wc ((bj, .cells (jobL j A c)) :: (I0 ++ Iu1 ++ It ++ Jt)) from M.permT [0] 1 rfl rfl rfl rfl).sub (List.Sublist.cons_cons _ (subL (subL (subL (List.Sublist.refl _)))))) ⟨A, c, I0, rfl, hsl⟩
   intro h5
   (have h5' := h5; try simp only [Zb1, Zb2, Zb3, Zb4, Zb5, Zb6, Zb7] at h5')
   refine Zsk ?_
   refine Zsr ?_
   refine Zg2 T (Zq (Zrm rfl (T.e 5 rfl))) rfl (Zm 2 rfl rfl) rfl ?_; clear T ac; intro ac T
   refine Zl2 ?_
   refine ow_bs (e := 3) [.int .i64 nu2] M T rfl rfl rfl rfl (.cons (T.e 0 rfl) .nil) (fun _ => by kernel_rfl) ?_; clear M T; intro g2 wc ac M T
   refine Zl2 ?_
   refine ow_app (((g2, .cells [.int .i64 nu2]) :: (g1, .cells [sv fileW, .int .i64 4, .int .i64 1, .func (.func 124) #[] #[]]) :: (bj, .cells (jobL j A c)) :: (I0 ++ Iu1 ++ It))) Tryz.info3 hsln M (by first | rfl | simp) T rfl rfl rfl rfl Tryz.underlying31 rfl rfl rfl (by omega) (T.e 2 rfl) (T.e 0 rfl) (Zne (i := 0) rfl) rfl rfl ?_; clear M T; intro ga1 cga1 wc ac M T
   refine l_q (v := (.slice (some ⟨ga1, 0, none⟩) (ns.length + 1) cga1)) (T.pick [0, 1, 2, 3, 4, 5, 6, 7, 8, 10, 11, 12] rfl) rfl rfl rfl rfl (Zra rfl (T.e 0 rfl)) ?_; clear T ac; intro ac T
   refine wpList_nil ?_
   replace T := T.pick [0, 7, 8, 9, 10, 11, 12] rfl
   replace M := M.mask [true, false, true, true] rfl
   replace M : Mem w exq wc ((ga1, .row 3 1 (ns.length + 1) ((ic ns) ++ [.int .i64 nu2]) cga1) :: (g1, .cells [sv fileW, .int .i64 4, .int .i64 1, .func (.func 124) #[] #[]]) :: (bj, .cells (jobL j A c)) :: (I0 ++ Iu1 ++ It)) := M
   refine nm_then ?_
   refine wp_exit ?_
   refine Zet ?_
   refine ex_hit ?_
   refine nm_then ?_
   refine wp_region_lit ?_
   refine lq T (rn_add rfl (T.e 6 rfl) evc (by omega)) ?_; clear T ac; intro ac T
   refine l_q (v := (.int .i64 ((i : Int) + 1))) (T.pick [0, 1, 2, 3, 4, 5, 6] rfl) rfl rfl rfl rfl (Zrm rfl (T.e 0 rfl)) ?_; clear T ac; intro ac T
   replace T := T.pick [0, 2, 3, 4, 5, 6, 7] rfl
   refine Zln ?_
   have e9 : ns.length + 1 = (ns ++ [nu2]).length := by simp
   have e8 : ((ic ns) ++ [.int .i64 nu2]) = ic (ns ++ [nu2]) := by rw [← ic_snoc]
   rw [e9, e8] at M
   rw [e9] at T
   clear e9 e8
   have hwp := word_num (isSome_val (hvu2) (by assumption))
   rw [Zdf (by omega : ¬ i < 4), hwp, andR_put, List.append_assoc] at H
   exact ⟨_, by omega, i + 1, xs, (ns ++ [nu2]), At, ct, It, _, _, [(ga1, .row 3 1 (ns ++ [nu2]).length (ic (ns ++ [nu2])) cga1)], rfl, (by omega), H, hslx, (Sl.row _ _ _ _ _ _), (by simp only [List.length_append, List.length_cons, List.length_nil]; omega), (fun h => by omega), (fun h => by omega), T.pick [2, 3, 4, 1, 5, 6, 0] rfl, (Mem.spinW [(g1, .cells [sv fileW, .int .i64 4, .int .i64 1, .func (.func 124) #[] #[]]), (bj, .cells (jobL j A c))] [(ga1, .row 3 1 (ns ++ [nu2]).length (ic (ns ++ [nu2])) cga1)] (I0 ++ Iu1 ++ It) (M.permT [1, 2, 0] 3 rfl rfl rfl rfl))⟩
  intro h4
  replace M : Mem w exq wc ((g1, .cells [sv fileW, .int .i64 4, .int .i64 1, .func (.func 124) #[] #[]]) :: (bj, .cells (jobL j A c)) :: (I0 ++ Iu1 ++ Jt ++ It)) := Mem.lastTwo (X := [(g1, .cells [sv fileW, .int .i64 4, .int .i64 1, .func (.func 124) #[] #[]]), (bj, .cells (jobL j A c))] ++ (I0 ++ Iu1)) (Y := It) (Z := Jt) M
  refine Zsk ?_
  refine Zsr ?_
  refine lq T (Zrm rfl (T.e 1 rfl)) ?_; clear T ac; intro ac T
  refine Zl2 ?_
  refine Zoc (first := []) (cap := []) T rfl rfl rfl rfl evf (.cons (T.e 0 rfl) (.cons evc .nil)) Tryz.func129 rfl rfl ?_
  refine Calls.mono (Cut_any p [58] _ (by omega) (hT _ _ M)) ?_
  clear T; rintro e wc ⟨rfl, hb⟩ ac T
  replace M := M.call hb; clear hb
  have hcl := cut_len p
  refine Zg7 T (Zq (Zrm rfl (T.e 0 rfl))) rfl (Ze 0 rfl rfl rfl) rfl (Ze 1 rfl rfl rfl) rfl (Ze 2 rfl rfl rfl) rfl (Za 2 rfl rfl) rfl (Za 2 rfl rfl) rfl (Za 2 rfl rfl) rfl ?_; clear T ac; intro ac T
  replace T := T.pick [0, 1, 2, 11, 12, 13, 14, 15, 16, 17] rfl
  refine Zln ?_
  refine Zsr ?_
  refine lq T (Zrm rfl (T.e 2 rfl)) ?_; clear T ac; intro ac T
  refine Zl2 ?_
  refine Zoc (first := []) (cap := []) T rfl rfl rfl rfl evf (.cons (T.e 0 rfl) .nil) Tryz.func128 rfl rfl ?_
  refine Calls.mono (number_any ((Lib.cut p [58]).1) _ (by omega) (hT _ _ M)) ?_
  clear T; rintro e wc ⟨nu4, rfl, hvu4, hb⟩ ac T
  replace M := M.call hb; clear hb
  refine Zg5 T (Zq (Zrm rfl (T.e 0 rfl))) rfl (Ze 0 rfl rfl rfl) rfl (Ze 1 rfl rfl rfl) rfl (Za 1 rfl rfl) rfl (Za 1 rfl rfl) rfl ?_; clear T ac; intro ac T
  replace T := T.pick [0, 1, 7, 8, 10, 11, 12, 13, 14, 15, 16] rfl
  refine Zln ?_
  refine Zsr ?_
  refine lq T (Zrm rfl (T.e 3 rfl)) ?_; clear T ac; intro ac T
  refine Zl2 ?_
  refine Zoc (first := []) (cap := []) T rfl rfl rfl rfl evf (.cons (T.e 0 rfl) .nil) Tryz.func128 rfl rfl ?_
  refine Calls.mono (number_any ((Lib.cut p [58]).2.1) _ (by omega) (hT _ _ M)) ?_
  clear T; rintro e wc ⟨nu5, rfl, hvu5, hb⟩ ac T
  replace M := M.call hb; clear hb
  refine Zg5 T (Zq (Zrm rfl (T.e 0 rfl))) rfl (Ze 0 rfl rfl rfl) rfl (Ze 1 rfl rfl rfl) rfl (Za 1 rfl rfl) rfl (Za 1 rfl rfl) rfl ?_; clear T ac; intro ac T
  replace T := T.pick [0, 1, 7, 8, 9, 11, 12, 13, 14, 15, 16, 17] rfl
  refine Zln ?_
  refine wp_seq ?_
  refine cut_seq (fun ac wc => Tm ac 102 [(1, .pointer (some ⟨bj, 0, none⟩)), (3, .pointer (some ⟨g1, 0, none⟩)), (8, .slice At xs.length ct), (9, .slice Bt ns.length dt), (17, .int .i64 nu4), (19, .int .i64 nu5), (41, .slice Aq1 lq1.length (cu1 - 1)), (42, .int .i64 ((lq1.length : Nat) : Int)), (43, .int .i64 (i : Int)), (88, .bool ((!((Lib.cut p [58]).2.2)) || ((!((numP ((Lib.cut p [58]).1)).isSome)) || (!((numP ((Lib.cut p [58]).2.1)).isSome)))))] ∧ Mem w exq wc ((g1, .cells [sv fileW, .int .i64 4, .int .i64 1, .func (.func 124) #[] #[]]) :: (bj, .cells (jobL j A c)) :: (I0 ++ Iu1 ++ Jt ++ It))) ?_ ?_
  ·refine wp_region_lit ?_
   refine Zg3 T (Zq (Zrm rfl (T.e 4 rfl))) rfl (fun _ T => Zq (rn_not rfl (T.e 0 rfl))) rfl (Zm 0 rfl rfl) rfl ?_; clear T ac; intro ac T
   rcases Bool.eq_false_or_eq_true (!((Lib.cut p [58]).2.2)) with h6 | h6
   ·refine Zg7 T (Zp (Zwn rfl rfl (T.e 0 rfl) h6)) rfl (fun _ T => Zp (Zwn rfl rfl (T.e 1 rfl) h6)) rfl (fun _ T => Zq (Zr1 rfl (T.e 2 rfl) h6 evc)) rfl (Zm 0 rfl rfl) rfl (fun _ T => Zp (Zwn rfl rfl (T.e 0 rfl) rfl)) rfl (fun _ T => Zp (Zwn rfl rfl (T.e 1 rfl) rfl)) rfl (fun _ T => Zq (Zr1 rfl (T.e 2 rfl) rfl evc)) rfl ?_; clear T ac; intro ac T
    refine wpList_nil ?_
    replace T := T.pick [0, 1, 2, 5, 6, 11, 13, 15, 16, 17, 18, 19, 20, 21] rfl
    exact ⟨(T.pick (E' := [(1, .pointer (some ⟨bj, 0, none⟩)), (3, .pointer (some ⟨g1, 0, none⟩)), (8, .slice At xs.length ct), (9, .slice Bt ns.length dt), (17, .int .i64 nu4), (19, .int .i64 nu5), (41, .slice Aq1 lq1.length (cu1 - 1)), (42, .int .i64 ((lq1.length : Nat) : Int)), (43, .int .i64 (i : Int)), (88, .bool true)]) [7, 8, 9, 10, 6, 5, 11, 12, 13, 0] rfl).as (by (try rw [show (!((Lib.cut p [58]).2.2)) = true from h6]); (try rfl)), M.mask [true, true] rfl⟩
   refine Zg4 T (Zw (Zwy rfl rfl (T.e 0 rfl) h6) (Zrm rfl (T.e 5 rfl))) rfl (fun _ T => Zw (Zwy rfl rfl (T.e 1 rfl) h6) (rn_not rfl (T.e 0 rfl))) rfl (fun _ T => Zq (Zr0 rfl (T.e 2 rfl) h6 (T.e 0 rfl))) rfl (Zm 0 rfl rfl) rfl ?_; clear T ac; intro ac T
   rcases Bool.eq_false_or_eq_true (!((numP ((Lib.cut p [58]).1)).isSome)) with h7 | h7
   ·refine Zg3 T (Zp (Zwn rfl rfl (T.e 0 rfl) h7)) rfl (fun _ T => Zp (Zwn rfl rfl (T.e 1 rfl) h7)) rfl (fun _ T => Zq (Zr1 rfl (T.e 2 rfl) h7 evc)) rfl ?_; clear T ac; intro ac T
    refine wpList_nil ?_
    replace T := T.pick [0, 1, 2, 5, 6, 11, 13, 15, 16, 17, 18, 19, 20, 21] rfl
    exact ⟨(T.pick (E' := [(1, .pointer (some ⟨bj, 0, none⟩)), (3, .pointer (some ⟨g1, 0, none⟩)), (8, .slice At xs.length ct), (9, .slice Bt ns.length dt), (17, .int .i64 nu4), (19, .int .i64 nu5), (41, .slice Aq1 lq1.length (cu1 - 1)), (42, .int .i64 ((lq1.length : Nat) : Int)), (43, .int .i64 (i : Int)), (88, .bool true)]) [7, 8, 9, 10, 6, 5, 11, 12, 13, 0] rfl).as (by (try rw [show (!((Lib.cut p [58]).2.2)) = false from h6]); (try rw [show (!((numP ((Lib.cut p [58]).1)).isSome)) = true from h7]); (try rfl)), M.mask [true, true] rfl⟩
   refine Zg3 T (Zw (Zwy rfl rfl (T.e 0 rfl) h7) (Zrm rfl (T.e 7 rfl))) rfl (fun _ T => Zw (Zwy rfl rfl (T.e 1 rfl) h7) (rn_not rfl (T.e 0 rfl))) rfl (fun _ T => Zq (Zr0 rfl (T.e 2 rfl) h7 (T.e 0 rfl))) rfl ?_; clear T ac; intro ac T
   refine wpList_nil ?_
   replace T := T.pick [0, 1, 2, 5, 6, 11, 13, 15, 16, 17, 18, 19, 20, 21] rfl
   exact ⟨(T.pick (E' := [(1, .pointer (some ⟨bj, 0, none⟩)), (3, .pointer (some ⟨g1, 0, none⟩)), (8, .slice At xs.length ct), (9, .slice Bt ns.length dt), (17, .int .i64 nu4), (19, .int .i64 nu5), (41, .slice Aq1 lq1.length (cu1 - 1)), (42, .int .i64 ((lq1.length : Nat) : Int)), (43, .int .i64 (i : Int)), (88, .bool (!((numP ((Lib.cut p [58]).2.1)).isSome)))]) [7, 8, 9, 10, 6, 5, 11, 12, 13, 0] rfl).as (by (try rw [show (!((Lib.cut p [58]).2.2)) = false from h6]); (try rw [show (!((numP ((Lib.cut p [58]).1)).isSome)) = false from h7]); (try rfl)), M.mask [true, true] rfl⟩
  clear T M
  rintro ac wc ⟨T, M⟩
  refine wp_cond_split (T.e 9 rfl) ?_ ?_
  ·intro h8
   (have h8' := h8; try simp only [Zb1, Zb2, Zb3, Zb4, Zb5, Zb6, Zb7] at h8')
   refine Zsr ?_
   refine lq T (Zra rfl evc) ?_; clear T ac; intro ac T
   refine wpList_nil ?_
   replace T := T.pick [0] rfl
   replace M := M.mask [false, true] rfl
   replace M : Mem w exq wc ((bj, .cells (jobL j A c)) :: (I0 ++ Iu1 ++ Jt ++ It)) := M
   refine Znr ?_
   refine Zrt ?_
   refine Zrb ?_
   refine Zrt ?_
   refine Zrt ?_
   refine Zrb ?_
   refine Zrt ?_
   refine rt_1 T rfl (T.e 0 rfl) ?_
   have hwp := word_norg2 (p := p) (by assumption)
   rw [Zdt (by omega : i < 4), hwp] at H
   exact LineP.none (L := (bj, .cells (jobL j A c)) :: I0) (H.trans rfl) ((show Mem w exq wc ((bj, .cells (jobL j A c)) :: (I0 ++ Iu1 ++ Jt ++ It)) from M.permT [0] 1 rfl rfl rfl rfl).sub (List.Sublist.cons_cons _ (subL (subL (subL (List.Sublist.refl _)))))) ⟨A, c, I0, rfl, hsl⟩
  intro h8
  (have h8' := h8; try simp only [Zb1, Zb2, Zb3, Zb4, Zb5, Zb6, Zb7] at h8')
  refine Zsk ?_
  refine wp_region_lit ?_
  refine Zg4 (v4 := (.agg #[.int .i64 nu4, .int .i64 nu5])) T (Zq (Zrm rfl (T.e 2 rfl))) rfl (Zm 5 rfl rfl) rfl (Zm 7 rfl rfl) rfl (fun _ T => Zq (rn_build rfl (.cons (T.e 1 rfl) (.cons (T.e 0 rfl) .nil)) (fun _ => by kernel_rfl))) rfl ?_; clear T ac; intro ac T
  refine Zl2 ?_
  refine ow_bs (e := 23) [.int .i64 nu4, .int .i64 nu5] M T rfl rfl rfl rfl (.cons (T.e 0 rfl) .nil) (fun _ => by kernel_rfl) ?_; clear M T; intro g3 wc ac M T
  refine Zl2 ?_
  refine ow_app (((g3, .cells [.int .i64 nu4, .int .i64 nu5]) :: (g1, .cells [sv fileW, .int .i64 4, .int .i64 1, .func (.func 124) #[] #[]]) :: (bj, .cells (jobL j A c)) :: (I0 ++ Iu1 ++ Jt))) Tryz.info23 hslx M (by first | rfl | simp) T rfl rfl rfl rfl Tryz.underlying28 rfl rfl rfl (by omega) (T.e 4 rfl) (T.e 0 rfl) (Zne (i := 0) rfl) rfl rfl ?_; clear M T; intro ga2 cga2 wc ac M T
  refine l_q (v := (.slice (some ⟨ga2, 0, none⟩) (xs.length + 1) cga2)) (T.pick [0, 1, 2, 3, 4, 5, 6, 7, 9, 10, 11, 12, 13, 14, 15] rfl) rfl rfl rfl rfl (Zra rfl (T.e 0 rfl)) ?_; clear T ac; intro ac T
  refine wpList_nil ?_
  replace T := T.pick [0, 7, 8, 9, 12, 13, 14] rfl
  replace M := M.mask [true, false, true, true] rfl
  replace M : Mem w exq wc ((ga2, .row 23 2 (xs.length + 1) ((rc xs) ++ [.int .i64 nu4, .int .i64 nu5]) cga2) :: (g1, .cells [sv fileW, .int .i64 4, .int .i64 1, .func (.func 124) #[] #[]]) :: (bj, .cells (jobL j A c)) :: (I0 ++ Iu1 ++ Jt)) := M
  refine Znb ?_
  refine nm_then ?_
  refine wp_region_lit ?_
  refine lq T (rn_add rfl (T.e 6 rfl) evc (by omega)) ?_; clear T ac; intro ac T
  refine l_q (v := (.int .i64 ((i : Int) + 1))) (T.pick [0, 1, 2, 3, 4, 5, 6] rfl) rfl rfl rfl rfl (Zrm rfl (T.e 0 rfl)) ?_; clear T ac; intro ac T
  replace T := T.pick [0, 2, 3, 4, 5, 6, 7] rfl
  refine Zln ?_
  have e9 : xs.length + 1 = (xs ++ [(nu4, nu5)]).length := by simp
  have e8 : ((rc xs) ++ [.int .i64 nu4, .int .i64 nu5]) = rc (xs ++ [(nu4, nu5)]) := by first | rw [rc_snoc] | rw [← rc_snoc]
  rw [e9, e8] at M
  rw [e9] at T
  clear e9 e8
  have hwp := word_rgok (p := p) (by assumption) hvu4 hvu5
  rw [Zdt (by omega : i < 4), hwp, andR_put, flatR_more nu4 nu5 (by omega)] at H
  exact ⟨_, by omega, i + 1, (xs ++ [(nu4, nu5)]), ns, _, _, [(ga2, .row 23 2 (xs ++ [(nu4, nu5)]).length (rc (xs ++ [(nu4, nu5)])) cga2)], Bt, dt, Jt, rfl, (by omega), H, (Sl.row _ _ _ _ _ _), hsln, (by simp only [List.length_append, List.length_cons, List.length_nil]; omega), (fun h => by omega), (fun h => by simp only [List.length_append, List.length_cons, List.length_nil]; omega), T.pick [2, 3, 1, 4, 5, 6, 0] rfl, (Mem.lastTwo (X := [(g1, .cells [sv fileW, .int .i64 4, .int .i64 1, .func (.func 124) #[] #[]]), (bj, .cells (jobL j A c))] ++ (I0 ++ Iu1)) (Y := Jt) (Z := [(ga2, .row 23 2 (xs ++ [(nu4, nu5)]).length (rc (xs ++ [(nu4, nu5)])) cga2)]) (Mem.spinW [(g1, .cells [sv fileW, .int .i64 4, .int .i64 1, .func (.func 124) #[] #[]]), (bj, .cells (jobL j A c))] [(ga2, .row 23 2 (xs ++ [(nu4, nu5)]).length (rc (xs ++ [(nu4, nu5)])) cga2)] (I0 ++ Iu1 ++ Jt) (M.permT [1, 2, 0] 3 rfl rfl rfl rfl)))⟩
 intro h3
 refine wp_exit ?_
 refine Zet ?_
 refine Zet ?_
 refine ex_hit ?_
 refine nm_then ?_
 refine Zsr ?_
 refine Zg5 (v1 := (.pointer (some ⟨g1, 3, none⟩))) T (Zq (Zrf (off := 3) rfl (T.e 2 rfl) (fun _ _ _ => by kernel_rfl))) rfl (Zo M 0 0 rfl rfl rfl rfl) rfl (Zm 3 rfl rfl) rfl (Zm 6 rfl rfl) rfl (Zm 8 rfl rfl) rfl ?_; clear T ac; intro ac T
 refine Zl2 ?_
 have hx3 : xs.length = 4 := by omega
 have hn3 : ns.length = 1 := by omega
 obtain ⟨u0, u1, d0, d1, a0, a1, b0, b1, rfl⟩ := len4 hx3
 obtain ⟨le, rfl⟩ := len1i hn3
 obtain ⟨bx, ox, SVx⟩ := hslx.spW rfl
 obtain ⟨by2, oy, SVy⟩ := hsln.spW rfl
 have hne := hslx.ne (M.sub (.cons _ (.cons_cons _ ((Zsq _ _).trans (Zsl _ Jt)))))
 have hne2 := hsln.ne (M.sub (.cons _ (.cons_cons _ (Zsq _ _))))
 refine Zoc (first := []) (cap := []) T rfl rfl rfl rfl (T.e 3 rfl) (.cons (T.e 2 rfl) (.cons (T.e 1 rfl) (.cons (T.e 0 rfl) .nil))) Tryz.func124 rfl rfl ?_
 refine Calls.mono (take1_any bj j A c At ct Bt dt u0 u1 d0 d1 a0 a1 b0 b1 le _ (M.nth 1 rfl) ((SVx w exq).rd M (.cons _ (.cons _ (subL (Zsq _ _))))) hne ((SVy w exq).rd M (.cons _ (.cons _ (Zsq _ _)))) hne2) ?_
 clear T; rintro e wc ⟨rfl, N⟩ ac T
 replace M := Mem.joinX (X := [(bj, .cells [.int .i64 j.p0, .int .i64 j.p1, .int .i64 j.t0, .int .i64 j.t1, .int .i64 j.r0, .int .i64 j.r1, .int .i64 j.u0, .int .i64 j.u1, .int .i64 j.d0, .int .i64 j.d1, .int .i64 j.a0, .int .i64 j.a1, .int .i64 j.b0, .int .i64 j.b1, .int .i64 j.le, .slice A j.sh.length c, .int .i64 j.wi, .int .i64 j.me])]) (F := ((g1, .cells [sv fileW, .int .i64 4, .int .i64 1, .func (.func 124) #[] #[]]) :: (I0 ++ Iu1 ++ It ++ Jt))) (M.permT [1, 0] 2 rfl rfl rfl rfl) N (fun b h => by subst h; exact Zz2)
 clear N
 replace M : Mem w exq wc ((bj, .cells [.int .i64 j.p0, .int .i64 j.p1, .int .i64 j.t0, .int .i64 j.t1, .int .i64 j.r0, .int .i64 j.r1, .int .i64 u0, .int .i64 u1, .int .i64 d0, .int .i64 d1, .int .i64 a0, .int .i64 a1, .int .i64 b0, .int .i64 b1, .int .i64 le, .slice A j.sh.length c, .int .i64 j.wi, .int .i64 j.me]) :: (g1, .cells [sv fileW, .int .i64 4, .int .i64 1, .func (.func 124) #[] #[]]) :: (I0 ++ Iu1 ++ It ++ Jt)) := M
 refine wpList_nil ?_
 replace T := T.pick [] rfl
 replace M := M.mask [true, false] rfl
 replace M : Mem w exq wc ((bj, .cells [.int .i64 j.p0, .int .i64 j.p1, .int .i64 j.t0, .int .i64 j.t1, .int .i64 j.r0, .int .i64 j.r1, .int .i64 u0, .int .i64 u1, .int .i64 d0, .int .i64 d1, .int .i64 a0, .int .i64 a1, .int .i64 b0, .int .i64 b1, .int .i64 le, .slice A j.sh.length c, .int .i64 j.wi, .int .i64 j.me]) :: (I0 ++ Iu1 ++ It ++ Jt)) := M
 refine nm_then ?_
 refine Zsr ?_
 refine lq T (Zra rfl evc) ?_; clear T ac; intro ac T
 refine Zln ?_
 refine wp_ret ?_
 refine rt_1 T rfl (T.e 0 rfl) ?_
 rw [List.drop_of_length_le (by rw [List.length_drop]; omega)] at H
 have hs9 : (lineA fileW 4 1 s) = some (flatR [(u0, u1), (d0, d1), (a0, a1), (b0, b1)] ++ [le]) := by rw [H]; cases 4 - i <;> simp [wordsA, andR]
 exact ⟨by rw [hs9]; rfl, (bj, .cells (jobL (putK 1 (flatR [(u0, u1), (d0, d1), (a0, a1), (b0, b1)] ++ [le]) j) A c)) :: I0, M.sub ((((Zsl I0 Iu1).trans (Zsl _ It)).trans (Zsl _ Jt)).cons_cons _), by rw [hs9]; exact ⟨A, c, I0, rfl, hsl⟩⟩
def kindC : List Value := [sv tongueW, .int .i64 3, .int .i64 0, .func (.func 123) #[] #[], sv fileW, .int .i64 4, .int .i64 1, .func (.func 124) #[] #[], sv shiftW, .int .i64 1, .int .i64 0, .func (.func 125) #[] #[], sv passW, .int .i64 0, .int .i64 2, .func (.func 126) #[] #[]]
theorem lines_any  (w : World)  :
  Calls Tryz.prog 53 #[] w fun e w' => ∃ g, e = .returned (.slice (some ⟨g, 0, none⟩) 4 4) ∧ Mem w noEx w' [(g, .cells kindC)] := by
 refine Zpx noEx Tryz.func53 rfl 6 rfl [] rfl rfl (Mem.init w _) ?_
 intro ac wc T M
 refine Zsr ?_
 refine lq T (Zra rfl evc) ?_; clear T ac; intro ac T
 replace T := T.pick [] rfl
 refine Zln ?_
 refine Zsr ?_
 refine Zg4 (v1 := (.agg #[sv ([116, 111, 110, 103, 117, 101]), .int .i64 3, .int .i64 0, .func (.func 123) #[] #[]])) (v2 := (.agg #[sv ([102, 105, 108, 101]), .int .i64 4, .int .i64 1, .func (.func 124) #[] #[]])) (v3 := (.agg #[sv ([115, 104, 105, 102, 116]), .int .i64 1, .int .i64 0, .func (.func 125) #[] #[]])) (v4 := (.agg #[sv ([112, 97, 115, 115]), .int .i64 0, .int .i64 2, .func (.func 126) #[] #[]])) T (Zq (rn_build rfl (.cons evc (.cons evc (.cons evc (.cons evf .nil)))) (fun _ => by kernel_rfl))) rfl (fun _ T => Zq (rn_build rfl (.cons evc (.cons evc (.cons evc (.cons evf .nil)))) (fun _ => by kernel_rfl))) rfl (fun _ T => Zq (rn_build rfl (.cons evc (.cons evc (.cons evc (.cons evf .nil)))) (fun _ => by kernel_rfl))) rfl (fun _ T => Zq (rn_build rfl (.cons evc (.cons evc (.cons evc (.cons evf .nil)))) (fun _ => by kernel_rfl))) rfl ?_; clear T ac; intro ac T
 refine Zl2 ?_
 refine ow_bs (e := 102) [sv ([116, 111, 110, 103, 117, 101]), .int .i64 3, .int .i64 0, .func (.func 123) #[] #[], sv ([102, 105, 108, 101]), .int .i64 4, .int .i64 1, .func (.func 124) #[] #[], sv ([115, 104, 105, 102, 116]), .int .i64 1, .int .i64 0, .func (.func 125) #[] #[], sv ([112, 97, 115, 115]), .int .i64 0, .int .i64 2, .func (.func 126) #[] #[]] M T rfl rfl rfl rfl (.cons (T.e 3 rfl) (.cons (T.e 2 rfl) (.cons (T.e 1 rfl) (.cons (T.e 0 rfl) .nil)))) (fun _ => by kernel_rfl) ?_; clear M T; intro g1 wc ac M T
 refine lq T (Zra rfl (T.e 0 rfl)) ?_; clear T ac; intro ac T
 replace T := T.pick [0] rfl
 refine Zln ?_
 refine wp_ret ?_
 refine rt_1 T rfl (T.e 0 rfl) ?_
 exact ⟨g1, rfl, M⟩
def kindV : Nat → Value
 | 0 => (.agg #[sv tongueW, .int .i64 3, .int .i64 0, .func (.func 123) #[] #[]])
 | 1 => (.agg #[sv fileW, .int .i64 4, .int .i64 1, .func (.func 124) #[] #[]])
 | 2 => (.agg #[sv shiftW, .int .i64 1, .int .i64 0, .func (.func 125) #[] #[]])
 | _ => (.agg #[sv passW, .int .i64 0, .int .i64 2, .func (.func 126) #[] #[]])
theorem readK_any (k : Nat) (hk : k < 4) (s : List UInt8) (bj : Nat) (j : Jb) (A : Option Addr) (c : Nat) (I0 : List (Nat × BA)) (exq : Nat → Prop) (w : World) (hs : s.length ≤ 800000) (hj : j.sh.length ≤ 800000) (hT : ∀ wc L, Mem w exq wc L → StrW wc) (hsl : Sl 23 2 (.slice A j.sh.length c) j.sh.length (rc j.sh) I0) (M0 : Mem w exq w ((bj, .cells (jobL j A c)) :: I0)) :
  Calls Tryz.prog 55 #[kindV k, .pointer (some ⟨bj, 0, none⟩), sv s] w (LineP ((kdAt KT KF KS KP k).rd s) w exq bj k j) := by
 match k, hk with
 | 0, _ => exact read0_any s bj j A c I0 exq w hs hT hsl M0
 | 1, _ => exact read1_any s bj j A c I0 exq w hs hT hsl M0
 | 2, _ => exact read2_any s bj j A c I0 exq w hs hj hT hsl M0
 | 3, _ => exact read3_any s bj j A c I0 exq w hs hT hsl M0
def RdE.app (l : List (Nat × List Int)) (r : RdE) : RdE := l.foldr (fun x r => r.cons x) r
theorem app_bad (l : List (Nat × List Int)) (q : Nat) : (RdE.bad q).app l = .bad q := by
 induction l with
 | nil => rfl
 | cons x l ih => show RdE.cons x (RdE.app l (RdE.bad q)) = _; rw [ih]; rfl
theorem app_ok (l m : List (Nat × List Int)) (d : Bool) : (RdE.ok d m).app l = .ok d (l ++ m) := by
 induction l with
 | nil => rfl
 | cons x l ih => show RdE.cons x (RdE.app l (RdE.ok d m)) = _; rw [ih]; rfl
theorem app_cons (l : List (Nat × List Int)) (x : Nat × List Int) (r : RdE) : (r.cons x).app l = r.app (l ++ [x]) := by
 unfold RdE.app
 rw [List.foldr_append]
 rfl
theorem foldK_snoc (l : List (Nat × List Int)) (k : Nat) (x : List Int) (j : Jb) : foldK (l ++ [(k, x)]) j = putK k x (foldK l j) := by
 unfold foldK
 rw [List.foldl_append]
 rfl
theorem progL_at {K0 K1 K2 K3 : Kd} {sh : List UInt8} {at' i : Nat} {ls : List (List UInt8)} {s : List UInt8} (h : ls[i]? = some s) : progL K0 K1 K2 K3 sh at' i (ls.drop i) = if 4 ≤ nextAt sh at' s then .bad (i + 1) else match (kdAt K0 K1 K2 K3 (nextAt sh at' s)).rd s with
   | none => .bad (i + 1)
   | some x => (progL K0 K1 K2 K3 sh (if nextAt sh at' s ≠ 2 then nextAt sh at' s + 1 else nextAt sh at' s) (i + 1) (ls.drop (i + 1))).cons (nextAt sh at' s, x) := by
 rw [List.drop_eq_getElem_cons (List.getElem?_eq_some_iff.1 h).1, (List.getElem?_eq_some_iff.1 h).2]
 rfl
theorem putK_len (k : Nat) (x : List Int) (j : Jb) : (putK k x j).sh.length ≤ j.sh.length + 1 := by
 unfold putK
 split <;> simp
abbrev kR (p : Nat) : Int := ((kdAt KT KF KS KP p).rg : Int)
abbrev kN (p : Nat) : Int := ((kdAt KT KF KS KP p).nm : Int)
abbrev kW (p : Nat) : List UInt8 := (kdAt KT KF KS KP p).word
def kF : Nat → Value
 | 0 => (.func (.func 123) #[] #[])
 | 1 => (.func (.func 124) #[] #[])
 | 2 => (.func (.func 125) #[] #[])
 | _ => (.func (.func 126) #[] #[])
def kdE (p : Nat) : List Value := [sv (kW p), .int .i64 (kR p), .int .i64 (kN p), kF p]
def kd (l : List Nat) : List Value := l.flatMap kdE
theorem kd_get : ∀ (l : List Nat) (k : Nat) {x : Nat}, l[k]? = some x → ∀ (i : Nat) (v : Value), (kdE x)[i]? = some v → (kd l)[k * 4 + i]? = some v
 | [], k, x, h => by simp at h
 | y :: l, 0, x, h => by
  intro i v hv
  simp only [List.getElem?_cons_zero, Option.some.injEq] at h
  subst h
  show (kdE y ++ kd l)[0 * 4 + i]? = some v
  rw [Nat.zero_mul, Nat.zero_add, List.getElem?_append_left (List.getElem?_eq_some_iff.1 hv).1]
  exact hv
 | y :: l, k + 1, x, h => by
  intro i v hv
  have := kd_get l k (by simpa using h) i v hv
  show (kdE y ++ kd l)[(k + 1) * 4 + i]? = some v
  have e : (kdE y).length = 4 := rfl
  rw [List.getElem?_append_right (by rw [e]; omega), e, show (k + 1) * 4 + i - 4 = k * 4 + i by omega]
  exact this
section
variable {w w' : World} {ex : Nat → Prop} {I L : List (Nat × BA)} {n b o k : Nat} {A : Option Addr} {l : List Nat} {p : Nat}
theorem Sp.kdA (S : Sp w ex I A n 4 b o (kd l)) (M : Mem w ex w' L) (hI : I.Sublist L) (h : l[k]? = some p) (f : Nat) (v : Value) (hv : (kdE p)[f]? = some v) : w'.cell? ⟨b, o + k * 4 + f, none⟩ = some v := by
 have := S.cell w' L M hI _ _ (kd_get l k h f v hv)
 rwa [← Nat.add_assoc] at this
theorem Sp.kdR (S : Sp w ex I A n 4 b o (kd l)) (M : Mem w ex w' L) (hI : I.Sublist L) (h : l[k]? = some p) : w'.rangeAt b (o + k * 4) [sv (kW p), .int .i64 (kR p), .int .i64 (kN p), kF p] := fun j v hv => S.kdA M hI h j v hv
end
theorem kd_val (k : Nat) (hk : k < 4) : Value.agg #[sv (kW k), .int .i64 (kR k), .int .i64 (kN k), kF k] = kindV k := by
 match k, hk with
 | 0, _ => rfl
 | 1, _ => rfl
 | 2, _ => rfl
 | 3, _ => rfl
theorem readV_any (q : Nat) (hk : q < 4) (s : List UInt8) (bj : Nat) (j : Jb) (A : Option Addr) (c : Nat) (I0 : List (Nat × BA)) (exq : Nat → Prop) (w : World) (hs : s.length ≤ 800000) (hj : j.sh.length ≤ 800000) (hT : ∀ wc L, Mem w exq wc L → StrW wc) (hsl : Sl 23 2 (.slice A j.sh.length c) j.sh.length (rc j.sh) I0) (M0 : Mem w exq w ((bj, .cells (jobL j A c)) :: I0)) :
  Calls Tryz.prog 55 #[.agg #[sv (kW q), .int .i64 (kR q), .int .i64 (kN q), kF q], .pointer (some ⟨bj, 0, none⟩), sv s] w (LineP ((kdAt KT KF KS KP q).rd s) w exq bj q j) := by
 rw [kd_val q hk]
 exact readK_any q hk s bj j A c I0 exq w hs hj hT hsl M0
theorem kd_at {q : Nat} (h : q < 4) : ([0, 1, 2, 3] : List Nat)[q]? = some q := by
 match q, h with
 | 0, _ => rfl
 | 1, _ => rfl
 | 2, _ => rfl
 | 3, _ => rfl
section
variable {P : Program} {fn : Func} {R : Ending → World → Prop} {a : Act} {w0 w : World} {ex : Nat → Prop} {L : List (Nat × BA)} {n : Nat} {E : List (Nat × Value)}
theorem rt_ctt {t t' t2 : Tmp} {ty : TypeId} {m g : Nat} [hT : RowTy P ty m] {v v2 : Value} {cs : List Value} (M : Mem w0 ex w L) (T : Tm a n E) (hr : fn.results = #[.cell t ty, .tmp t', .tmp t2])
  (hx : a.eval (.tmp t) = .pointer (some ⟨g, 0, none⟩)) (hx' : a.eval (.tmp t') = v) (hx2 : a.eval (.tmp t2) = v2) (hm : (g, BA.cells cs) ∈ L) (hn : cs.length = m) (h : R (.returned (.tuple #[.agg cs.toArray, v, v2])) w) : bodyPost P fn R .ret a w := by
 obtain ⟨d, hu, hw⟩ := hT.row
 refine ⟨T.defers, .tuple #[.agg cs.toArray, v, v2], ?_, h⟩
 have hB := M.get hm
 have hl := run_loadVar_mid w g 0 ty cs d hB.range hu hw (by rw [hn]; exact hT.size)
 have e : a.tmps[t]?.getD undef = .pointer (some ⟨g, 0, none⟩) := by simpa [Act.eval] using hx
 have e' : a.tmps[t']?.getD undef = v := by simpa [Act.eval] using hx'
 have e2 : a.tmps[t2]?.getD undef = v2 := by simpa [Act.eval] using hx2
 simp [results, hr, e, e', e2, asAddr, hl, Sem.run_bind]
theorem Mem.fore2 {b g : Nat × BA} {X Y : List (Nat × BA)} (M : Mem w0 ex w (b :: g :: (X ++ Y))) : Mem w0 ex w ((b :: X) ++ (g :: Y)) :=
 have hp : (b :: g :: (X ++ Y)).Perm ((b :: X) ++ (g :: Y)) := List.Perm.cons _ (List.perm_middle (a := g) (l₁ := X) (l₂ := Y)).symm
 ⟨M.os, M.tape, M.output, M.size, M.block, fun p h => M.blk p (hp.mem_iff.2 h), (hp.map _).nodup_iff.1 M.nd⟩
theorem Mem.hind2 {b g : Nat × BA} {X Y : List (Nat × BA)} (M : Mem w0 ex w ((b :: X) ++ (g :: Y))) : Mem w0 ex w (b :: g :: (X ++ Y)) :=
 have hp : ((b :: X) ++ (g :: Y)).Perm (b :: g :: (X ++ Y)) := List.Perm.cons _ (List.perm_middle (a := g) (l₁ := X) (l₂ := Y))
 ⟨M.os, M.tape, M.output, M.size, M.block, fun p h => M.blk p (hp.mem_iff.2 h), (hp.map _).nodup_iff.1 M.nd⟩
end
def ReadP (r : Jb × Int × Int) (w : World) (e : Ending) (w' : World) : Prop := ∃ (A : Option Addr) (c : Nat) (I : List (Nat × BA)), e = .returned (.tuple #[jobV r.1 A c, .int .i64 r.2.1, .int .i64 r.2.2]) ∧ Sl 23 2 (.slice A r.1.sh.length c) r.1.sh.length (rc r.1.sh) I ∧ Mem w noEx w' I
theorem ReadP.zero {r : Jb × Int × Int} {w w' : World} {L : List (Nat × BA)} {r1 e1 : Int} (h : r = (zeroJ, r1, e1)) (M : Mem w noEx w' L) : ReadP r w (.returned (.tuple #[jobV zeroJ none 0, .int .i64 r1, .int .i64 e1])) w' := by
 subst h
 exact ⟨none, 0, [], rfl, Sl.nil _ _, M.sub (Zz9 _)⟩
theorem next_sh {p : Nat} {s : List UInt8} (h : (decide ((p : Int) = 2) && (!(List.isPrefixOf shiftW s))) = true) : 3 = nextAt shiftW p s := by
 simp only [Bool.and_eq_true, decide_eq_true_eq, Bool.not_eq_true'] at h
 unfold nextAt
 rw [if_pos ⟨by omega, h.2⟩]
theorem next_no {p : Nat} {s : List UInt8} (h : (decide ((p : Int) = 2) && (!(List.isPrefixOf shiftW s))) = false) : p = nextAt shiftW p s := by
 unfold nextAt
 rw [if_neg]
 rintro ⟨rfl, h2⟩
 rw [h2] at h
 simp at h
section
variable {q i : Nat} {s : List UInt8} {R : RdE} {l : List (Nat × List Int)} {r : RdE}
theorem bad_at {o : Option (List Int)} {f : List Int → RdE} (H : r = RdE.app l (if 4 ≤ q then .bad (i + 1) else match o with | none => .bad (i + 1) | some x => f x)) (h : 4 ≤ (q : Int)) : r = .bad (i + 1) := by
 rw [if_pos (by omega), app_bad] at H
 exact H
theorem bad_line {o : Option (List Int)} {f : List Int → RdE} (H : r = RdE.app l (if 4 ≤ q then .bad (i + 1) else match o with | none => .bad (i + 1) | some x => f x)) (h4 : ¬ 4 ≤ (q : Int)) (h : (!o.isSome) = true) : r = .bad (i + 1) := by
 rw [if_neg (by omega)] at H
 cases o with
 | none => rw [app_bad] at H; exact H
 | some x => cases h
theorem good_line {o : Option (List Int)} {f : List Int → RdE} (H : r = RdE.app l (if 4 ≤ q then .bad (i + 1) else match o with | none => .bad (i + 1) | some x => (f x).cons (q, x))) (h4 : ¬ 4 ≤ (q : Int)) (h : (!o.isSome) = false) : ∃ x, o = some x ∧ r = RdE.app (l ++ [(q, x)]) (f x) := by
 rw [if_neg (by omega)] at H
 cases o with
 | none => cases h
 | some x =>
  refine ⟨x, rfl, ?_⟩
  rw [← app_cons]
  exact H
end
theorem endR_bad {rows : List (List UInt8)} {l : List (Nat × List Int)} {d : Bool} {zl : List UInt8} (hz : rows[rows.length - 1]? = some zl) (h : d = false ∨ zl ≠ []) : endR rows (.ok d l) = (zeroJ, (rows.length : Int), 2) := by
 unfold endR
 dsimp only
 rw [if_pos]
 rcases h with h | h
 ·exact .inl h
 ·refine .inr fun e => h ?_
  rw [List.getLast?_eq_getElem?, hz] at e
  injection e
theorem endR_go {rows : List (List UInt8)} {l : List (Nat × List Int)} {d : Bool} {zl : List UInt8} (hz : rows[rows.length - 1]? = some zl) (h : d = true ∧ zl = []) : endR rows (.ok d l) = if checkJ (foldK l zeroJ) ≠ 0 then (zeroJ, 0, checkJ (foldK l zeroJ)) else (foldK l zeroJ, 0, 0) := by
 unfold endR
 dsimp only
 rw [if_neg]
 rintro (h1 | h1)
 ·rw [h.1] at h1; cases h1
 ·rw [List.getLast?_eq_getElem?, hz, h.2] at h1
  exact h1 rfl
theorem or_bad {p : Nat} {zl : List UInt8} (h : (decide ((p : Int) < 4) || (!decide (zl = []))) = true) : decide (4 ≤ p) = false ∨ zl ≠ [] := by
 simp only [Bool.or_eq_true, decide_eq_true_eq, Bool.not_eq_true', decide_eq_false_iff_not] at h
 rcases h with h | h
 · exact .inl (Zdf (by omega))
 · exact .inr h
theorem or_go {p : Nat} {zl : List UInt8} (h : (decide ((p : Int) < 4) || (!decide (zl = []))) = false) : decide (4 ≤ p) = true ∧ zl = [] := by
 simp only [Bool.or_eq_false_iff, decide_eq_false_iff_not, Bool.not_eq_false', decide_eq_true_eq] at h
 exact ⟨Zdt (by omega), h.2⟩
theorem readT_long {t : List UInt8} (h : 300 < t.length) : readT t = (zeroJ, 0, 10) := by unfold readT; rw [if_pos h]
theorem readT_short {t : List UInt8} (h : ¬ 300 < t.length) : readT t = endR (spl 10 t) (progL KT KF KS KP shiftW 0 0 (spl 10 t).dropLast) := by unfold readT; rw [if_neg h]
theorem read_any (text : List UInt8) (w : World) (hT : StrW w)  :
   Calls Tryz.prog 15 #[sv text] w (ReadP (readT text) w) := by
 refine Zpx noEx Tryz.func15 rfl 80 rfl [sv text] rfl rfl (Mem.init w _) ?_
 intro ac wc T M
 refine Zsr ?_
 refine Zl2 ?_
 refine Zoa M T rfl rfl rfl rfl ?_; clear M T; intro g1 wc ac M T
 refine Zg2 T (Zq (Zra rfl evc)) rfl (Zc rfl) rfl ?_; clear T ac; intro ac T
 replace T := T.pick [2, 3] rfl
 refine Zln ?_
 refine wp_seq ?_
 refine Zsr ?_
 refine Zg3 T (Zq (Zrm rfl (T.e 1 rfl))) rfl (fun _ T => Zq (rn_slen rfl Tryz.underlying9 (T.e 0 rfl))) rfl (fun _ T => Zq (rn_gtr rfl (T.e 0 rfl) evc)) rfl ?_; clear T ac; intro ac T
 replace T := T.pick [0, 3, 4] rfl
 refine Zln ?_
 refine wp_if (T.e 0 rfl) ?_ ?_
 ·intro h1
  refine Zsr ?_
  refine lq (v := (.agg #[.int .i64 0, .int .i64 0, .int .i64 0, .int .i64 0, .int .i64 0, .int .i64 0, .int .i64 0, .int .i64 0, .int .i64 0, .int .i64 0, .int .i64 0, .int .i64 0, .int .i64 0, .int .i64 0, .int .i64 0, .slice none 0 0, .int .i64 0, .int .i64 0])) T (rn_build rfl .nil (fun _ => by kernel_rfl)) ?_; clear T ac; intro ac T
  refine Zl2 ?_
  refine Zos M T rfl rfl (T.e 2 rfl) (T.e 0 rfl) rfl .head rfl (by simp) rfl (by kernel_rfl) ?_; clear M T; intro wc ac M T
  refine Zg2 T (Zq (Zra rfl evc)) rfl (Zc rfl) rfl ?_; clear T ac; intro ac T
  replace T := T.pick [0, 1, 4] rfl
  refine Zln ?_
  refine wp_ret ?_
  refine Zrt ?_
  refine rt_ctt M T rfl (T.e 2 rfl) (T.e 1 rfl) (T.e 0 rfl) (Zne (i := 0) rfl) rfl ?_
  exact ReadP.zero (readT_long (by omega)) M
 intro h1
 refine Zsk ?_
 refine Zsr ?_
 refine lq T (Zrm rfl (T.e 2 rfl)) ?_; clear T ac; intro ac T
 refine Zl2 ?_
 refine Zoc (first := []) (cap := []) T rfl rfl rfl rfl evf (.cons (T.e 0 rfl) (.cons evc .nil)) Tryz.func52 rfl rfl ?_
 refine Calls.mono (Split2_any text 10 _ (by omega) (hT.mem0 M)) ?_
 clear T; rintro e wc ⟨Au1, cu1, bu1, ou1, Iu1, rfl, hc9u1, SVu1, N⟩ ac T
 obtain ⟨lsu1, hlsu1⟩ : ∃ q, q = spl 10 text := ⟨_, rfl⟩
 rw [← hlsu1] at hc9u1 SVu1 T
 have Su1 := SVu1 w noEx
 replace M := (M.join N).swapI
 clear N
 replace M : Mem w noEx wc ((g1, .cells [.int .i64 0, .int .i64 0, .int .i64 0, .int .i64 0, .int .i64 0, .int .i64 0, .int .i64 0, .int .i64 0, .int .i64 0, .int .i64 0, .int .i64 0, .int .i64 0, .int .i64 0, .int .i64 0, .int .i64 0, .slice none 0 0, .int .i64 0, .int .i64 0]) :: Iu1) := M
 have hlenu1 : lsu1.length ≤ text.length + 1 := by rw [hlsu1]; exact spl_len _ _
 have hposu1 : 0 < lsu1.length := by rw [hlsu1]; exact spl_pos _ _
 refine lq T (Zra rfl (T.e 0 rfl)) ?_; clear T ac; intro ac T
 replace T := T.pick [0, 4] rfl
 refine Zln ?_
 refine Zsr ?_
 refine Zg4 T (Zq (Zrm rfl (T.e 0 rfl))) rfl (Zl Tryz.underlying37 0 rfl rfl) rfl (fun _ T => Zq (rn_sub rfl (T.e 0 rfl) evc (by omega))) rfl (Za 0 rfl rfl) rfl ?_; clear T ac; intro ac T
 replace T := T.pick [0, 4, 5] rfl
 refine Zln ?_
 refine Zsr ?_
 refine Zl2 ?_
 refine Zoc (first := []) (cap := []) T rfl rfl rfl rfl evf .nil Tryz.func53 rfl rfl ?_
 refine Calls.mono (lines_any _) ?_
 clear T; rintro e wc ⟨gk, rfl, N⟩ ac T
 replace N : Mem _ noEx _ [(gk, .cells (kd [0, 1, 2, 3] ++ []))] := N
 replace M := M.join N
 clear N
 replace M : Mem w noEx wc ((gk, .cells (kd [0, 1, 2, 3] ++ [])) :: (g1, .cells [.int .i64 0, .int .i64 0, .int .i64 0, .int .i64 0, .int .i64 0, .int .i64 0, .int .i64 0, .int .i64 0, .int .i64 0, .int .i64 0, .int .i64 0, .int .i64 0, .int .i64 0, .int .i64 0, .int .i64 0, .slice none 0 0, .int .i64 0, .int .i64 0]) :: Iu1) := M
 have Sk := Sp.pre (w := w) (ex := noEx) (size := 4) (n := 4) (g := gk) (xs := kd [0, 1, 2, 3]) (ys := []) (by rfl)
 refine lq T (Zra rfl (T.e 0 rfl)) ?_; clear T ac; intro ac T
 replace T := T.pick [0, 2, 3, 4] rfl
 refine Zln ?_
 refine Zsr ?_
 refine lq T (Zra rfl evc) ?_; clear T ac; intro ac T
 refine Zln ?_
 refine wp_seq ?_
 refine Zsr ?_
 refine Zg3 T (Zq (Zrm rfl (T.e 3 rfl))) rfl (Zm 3 rfl rfl) rfl (fun _ T => Zq (rn_slice (size := 1) (l := 0) (h := (lsu1.length - 1)) rfl Tryz.underlying37 (by kernel_rfl) (T.e 1 rfl) rfl ((T.e 0 rfl).trans (congrArg (Value.int .i64) (by omega))) (by omega) (by omega))) rfl ?_; clear T ac; intro ac T
 obtain ⟨Aq1, hAq1⟩ : ∃ q : Option Addr, q = (if cu1 = 0 then Au1 else Option.map (fun x : Addr => x.add (0 * 1)) Au1) := ⟨_, rfl⟩
 rw [← hAq1] at T
 obtain ⟨lq1, hlq1⟩ : ∃ q, q = (lsu1.drop 0).take ((lsu1.length - 1) - 0) := ⟨_, rfl⟩
 have nlq1 : lq1.length = (lsu1.length - 1) - 0 := by rw [hlq1, List.length_take, List.length_drop]; (try simp only [List.length_cons, List.length_append, List.length_nil]); omega
 rw [← nlq1] at T
 have SAq1 : Sp w noEx Iu1 Aq1 lq1.length 1 bu1 (ou1 + 0 * 1) (st lq1) := by rw [nlq1, hAq1, hlq1, ← st_part]; exact Su1.sub (by omega) (by omega) (by omega)
 refine Zg2 T (Zq (Zrl rfl Tryz.underlying37 (T.e 0 rfl))) rfl (fun _ T => Zq (Zrm rfl evc)) rfl ?_; clear T ac; intro ac T
 replace T := T.pick [0, 1, 2, 5, 6, 7, 8, 9] rfl
 refine Zln ?_
 refine wp_block ?_
 have hdl : lq1 = lsu1.dropLast := by rw [hlq1, List.dropLast_eq_take]; rfl
 refine wp_loop_n (fun mz ac wc => ∃ (i p : Nat) (j : Jb) (A : Option Addr) (c : Nat) (It : List (Nat × BA)) (l : List (Nat × List Int)), mz = lq1.length - i ∧ (i ≤ lq1.length) ∧ (p ≤ 4) ∧ (progL KT KF KS KP shiftW 0 0 lq1 = RdE.app l (progL KT KF KS KP shiftW p i (lq1.drop i))) ∧ (j = foldK l zeroJ) ∧ (Sl 23 2 (.slice A j.sh.length c) j.sh.length (rc j.sh) It) ∧ (j.sh.length ≤ i) ∧ Tm ac 80 [(2, .pointer (some ⟨g1, 0, none⟩)), (5, .slice Au1 lsu1.length cu1), (6, .int .i64 (((lsu1.length : Nat) : Int) - 1)), (7, .slice (some ⟨gk, 0, none⟩) 4 4), (8, .int .i64 (p : Int)), (24, .slice Aq1 lq1.length (cu1 - 0)), (25, .int .i64 ((lq1.length : Nat) : Int)), (26, .int .i64 (i : Int))] ∧ Mem w noEx wc ((gk, .cells (kd [0, 1, 2, 3] ++ [])) :: (g1, .cells (jobL j A c)) :: (It ++ Iu1))) ?_ ?_
 ·exact ⟨_, 0, 0, zeroJ, none, 0, [], [], rfl, (Nat.zero_le _), (Nat.zero_le _), rfl, rfl, (Sl.nil _ _), (Nat.zero_le _), T.pick [7, 6, 5, 4, 3, 2, 1, 0] rfl, M⟩
 clear T M
 rintro mz ac wc ⟨i, p, j, A, c, It, l, hmm1, hi, hp, H, hj, hsl, hjl, T, M⟩
 refine Zsr ?_
 refine lq T (rn_lss rfl (T.e 7 rfl) (T.e 6 rfl)) ?_; clear T ac; intro ac T
 refine Zln ?_
 refine wp_seq ?_
 refine wp_if (T.e 0 rfl) ?_ ?_
 ·intro h2
  obtain ⟨s, hks⟩ : ∃ q, lq1[i]? = some q := ⟨_, List.getElem?_eq_getElem (by omega)⟩
  have hsm : s ∈ lsu1 := by have h9 := List.mem_of_getElem? hks; rw [hdl] at h9; exact (List.dropLast_sublist _).subset h9
  have hsl8 : s.length ≤ text.length := spl_mem_len (c := 10) (by rw [← hlsu1]; exact hsm)
  rw [progL_at hks] at H
  refine Zsk ?_
  refine wp_seq ?_
  refine wp_block ?_
  refine Zsr ?_
  refine Zg5 T (Zq (Zrm rfl (T.e 8 rfl))) rfl (fun _ T => Zq (Zri (size := 1) i rfl (T.e 7 rfl) (T.e 9 rfl) ⟨_, Tryz.underlying37, by kernel_rfl⟩ rfl (by omega) (SAq1.at0 (by omega)))) rfl (fun _ T => Zq (rn_cell (Sp.stC0 SAq1 M (.cons _ (.cons _ (Zsq _ _))) hks) rfl (T.e 0 rfl))) rfl (Za 2 rfl rfl) rfl (Za 1 rfl rfl) rfl ?_; clear T ac; intro ac T
  replace T := T.pick [0, 1, 6, 7, 8, 9, 10, 11, 12, 13] rfl
  refine Zln ?_
  refine cut_seq (fun ac wc => ∃ (q : Nat), (q = nextAt shiftW p s) ∧ Tm ac 80 [(2, .pointer (some ⟨g1, 0, none⟩)), (5, .slice Au1 lsu1.length cu1), (6, .int .i64 (((lsu1.length : Nat) : Int) - 1)), (7, .slice (some ⟨gk, 0, none⟩) 4 4), (8, .int .i64 (q : Int)), (9, .int .i64 (i : Int)), (10, sv s), (24, .slice Aq1 lq1.length (cu1 - 0)), (25, .int .i64 ((lq1.length : Nat) : Int)), (26, .int .i64 (i : Int))] ∧ Mem w noEx wc ((gk, .cells (kd [0, 1, 2, 3] ++ [])) :: (g1, .cells (jobL j A c)) :: (It ++ Iu1))) ?_ ?_
  ·refine cut_seq (fun ac wc => Tm ac 80 [(2, .pointer (some ⟨g1, 0, none⟩)), (5, .slice Au1 lsu1.length cu1), (6, .int .i64 (((lsu1.length : Nat) : Int) - 1)), (7, .slice (some ⟨gk, 0, none⟩) 4 4), (8, .int .i64 (p : Int)), (9, .int .i64 (i : Int)), (10, sv s), (24, .slice Aq1 lq1.length (cu1 - 0)), (25, .int .i64 ((lq1.length : Nat) : Int)), (26, .int .i64 (i : Int)), (37, .bool ((decide ((p : Int) = 2)) && (!(List.isPrefixOf shiftW s))))] ∧ Mem w noEx wc ((gk, .cells (kd [0, 1, 2, 3] ++ [])) :: (g1, .cells (jobL j A c)) :: (It ++ Iu1))) ?_ ?_
   ·refine wp_region_lit ?_
    refine Zg3 T (Zq (Zrm rfl (T.e 6 rfl))) rfl (fun _ T => Zq (rn_eql rfl (T.e 0 rfl) evc)) rfl (Zm 0 rfl rfl) rfl ?_; clear T ac; intro ac T
    rcases Bool.eq_false_or_eq_true (decide ((p : Int) = 2)) with h3 | h3
    ·replace h3 := of_decide_eq_true h3
     refine lw T (Zwy rfl rfl (T.e 0 rfl) (Zdt h3)) (Zrm rfl (T.e 3 rfl)) ?_; clear T ac; intro ac T
     refine l_w (Zwy rfl rfl (T.e 1 rfl) (Zdt h3)) ?_; intro K hK
     refine Zoc (first := []) (cap := []) T rfl rfl rfl rfl evf (.cons (T.e 0 rfl) (.cons evc .nil)) Tryz.func54 rfl rfl ?_
     refine Calls.mono (HasPrefix_any s shiftW _) ?_
     clear T; rintro e wc ⟨rfl, hb⟩ ac T
     replace M := M.call hb; clear hb
     refine Zso hK _ _ ?_; clear hK K
     refine Zg2 T (Zw (Zwy rfl rfl (T.e 2 rfl) (Zdt h3)) (rn_not rfl (T.e 0 rfl))) rfl (fun _ T => Zq (Zr1 rfl (T.e 3 rfl) (Zdt h3) (T.e 0 rfl))) rfl ?_; clear T ac; intro ac T
     refine wpList_nil ?_
     replace T := T.pick [0, 1, 2, 3, 7, 8, 9, 10, 11, 12, 13, 14, 15, 16] rfl
     exact ⟨(T.pick (E' := [(2, .pointer (some ⟨g1, 0, none⟩)), (5, .slice Au1 lsu1.length cu1), (6, .int .i64 (((lsu1.length : Nat) : Int) - 1)), (7, .slice (some ⟨gk, 0, none⟩) 4 4), (8, .int .i64 (p : Int)), (9, .int .i64 (i : Int)), (10, sv s), (24, .slice Aq1 lq1.length (cu1 - 0)), (25, .int .i64 ((lq1.length : Nat) : Int)), (26, .int .i64 (i : Int)), (37, .bool (!(List.isPrefixOf shiftW s)))]) [6, 7, 8, 9, 10, 5, 4, 11, 12, 13, 0] rfl).as (by (try rw [show (decide ((p : Int) = 2)) = true from (Zdt h3)]); (try rfl)), M.mask [true, true] rfl⟩
    replace h3 := of_decide_eq_false h3
    refine Zg4 T (Zp (Zwn rfl rfl (T.e 0 rfl) (Zdf h3))) rfl (fun _ T => Zp (Zwn rfl rfl (T.e 1 rfl) (Zdf h3))) rfl (fun _ T => Zp (Zwn rfl rfl (T.e 2 rfl) (Zdf h3))) rfl (fun _ T => Zq (Zr0 rfl (T.e 3 rfl) (Zdf h3) evc)) rfl ?_; clear T ac; intro ac T
    refine wpList_nil ?_
    replace T := T.pick [0, 1, 2, 3, 7, 8, 9, 10, 11, 12, 13, 14, 15, 16] rfl
    exact ⟨(T.pick (E' := [(2, .pointer (some ⟨g1, 0, none⟩)), (5, .slice Au1 lsu1.length cu1), (6, .int .i64 (((lsu1.length : Nat) : Int) - 1)), (7, .slice (some ⟨gk, 0, none⟩) 4 4), (8, .int .i64 (p : Int)), (9, .int .i64 (i : Int)), (10, sv s), (24, .slice Aq1 lq1.length (cu1 - 0)), (25, .int .i64 ((lq1.length : Nat) : Int)), (26, .int .i64 (i : Int)), (37, .bool false)]) [6, 7, 8, 9, 10, 5, 4, 11, 12, 13, 0] rfl).as (by (try rw [show (decide ((p : Int) = 2)) = false from (Zdf h3)]); (try rfl)), M.mask [true, true] rfl⟩
   clear T M
   rintro ac wc ⟨T, M⟩
   refine wp_cond_split (T.e 10 rfl) ?_ ?_
   ·intro h4
    (have h4' := h4; try simp only [Zb1, Zb2, Zb3, Zb4, Zb5, Zb6, Zb7] at h4')
    refine wp_region_lit ?_
    refine l_q (v := (.int .i64 3)) (T.pick [0, 1, 2, 3, 5, 6, 7, 8, 9, 10] rfl) rfl rfl rfl rfl (Zra rfl evc) ?_; clear T ac; intro ac T
    refine wpList_nil ?_
    replace T := T.pick [0, 1, 2, 3, 4, 5, 6, 7, 8, 9] rfl
    exact ⟨3, (next_sh h4), T.pick [1, 2, 3, 4, 0, 5, 6, 7, 8, 9] rfl, M⟩
   intro h4
   (have h4' := h4; try simp only [Zb1, Zb2, Zb3, Zb4, Zb5, Zb6, Zb7] at h4')
   refine wp_skip ?_
   exact ⟨p, (next_no h4), T.pick [0, 1, 2, 3, 4, 5, 6, 7, 8, 9] rfl, M⟩
  clear T M
  rintro ac wc ⟨q, hq, T, M⟩
  have hq4 : q ≤ 4 := by rw [hq]; unfold nextAt; split <;> omega
  rw [← hq] at H
  refine wp_seq ?_
  refine Zsr ?_
  refine Zg5 (v3 := (.int .i64 4)) T (Zq (Zrm rfl (T.e 4 rfl))) rfl (Zm 4 rfl rfl) rfl (Zl Tryz.underlying97 0 rfl rfl) rfl (fun _ T => Zq (rn_geq rfl (T.e 2 rfl) (T.e 0 rfl))) rfl (Zm 0 rfl rfl) rfl ?_; clear T ac; intro ac T
  rcases Bool.eq_false_or_eq_true (decide (4 ≤ (q : Int))) with h5 | h5
  ·replace h5 := of_decide_eq_true h5
   refine Zg8 T (Zp (Zwn rfl rfl (T.e 0 rfl) (Zdt h5))) rfl (fun _ T => Zp (Zwn rfl rfl (T.e 1 rfl) (Zdt h5))) rfl (fun _ T => Zp (Zwn rfl rfl (T.e 2 rfl) (Zdt h5))) rfl (fun _ T => Zp (Zwn rfl rfl (T.e 3 rfl) (Zdt h5))) rfl (fun _ T => Zp (Zwn rfl rfl (T.e 4 rfl) (Zdt h5))) rfl (fun _ T => Zp (Zwn rfl rfl (T.e 5 rfl) (Zdt h5))) rfl (fun _ T => Zp (Zwn rfl rfl (T.e 6 rfl) (Zdt h5))) rfl (fun _ T => Zq (Zr1 rfl (T.e 7 rfl) (Zdt h5) evc)) rfl ?_; clear T ac; intro ac T
   replace T := T.pick [0, 1, 2, 3, 4, 5, 6, 7, 13, 14, 15, 16, 17, 18, 20, 21, 22] rfl
   refine Zln ?_
   refine wp_cond_true (T.e 0 rfl) ?_
   refine Zsr ?_
   refine Zg3 (v1 := (.agg #[.int .i64 0, .int .i64 0, .int .i64 0, .int .i64 0, .int .i64 0, .int .i64 0, .int .i64 0, .int .i64 0, .int .i64 0, .int .i64 0, .int .i64 0, .int .i64 0, .int .i64 0, .int .i64 0, .int .i64 0, .slice none 0 0, .int .i64 0, .int .i64 0])) T (Zq (rn_build rfl .nil (fun _ => by kernel_rfl))) rfl (Zm 14 rfl rfl) rfl (fun _ T => Zq (rn_add rfl (T.e 0 rfl) evc (by omega))) rfl ?_; clear T ac; intro ac T
   refine Zl2 ?_
   refine Zos M T rfl rfl (T.e 11 rfl) (T.e 2 rfl) rfl (.tail .head) rfl (by simp) rfl (by kernel_rfl) ?_; clear M T; intro wc ac M T
   refine Zg2 T (Zq (Zra rfl (T.e 0 rfl))) rfl (Zc rfl) rfl ?_; clear T ac; intro ac T
   replace T := T.pick [0, 1, 13] rfl
   refine Zln ?_
   refine wp_ret ?_
   refine Zrt ?_
   refine Zrb ?_
   refine Zrt ?_
   refine Zrt ?_
   refine Zrb ?_
   refine Zrt ?_
   refine rt_ctt M T rfl (T.e 2 rfl) (T.e 1 rfl) (T.e 0 rfl) (Zne (i := 1) rfl) rfl ?_
   have hb9 := by first | exact bad_at H (by assumption) | exact bad_line H (by assumption) (by assumption)
   exact ReadP.zero (by rw [readT_short (by omega), ← hlsu1, ← hdl, hb9]; rfl) M
  replace h5 := of_decide_eq_false h5
  refine Zg5 (v4 := (.agg #[sv (kW q), .int .i64 (kR q), .int .i64 (kN q), kF q])) T (Zw (Zwy rfl rfl (T.e 0 rfl) (Zdf h5)) (Zrm rfl (T.e 8 rfl))) rfl (fun _ T => Zw (Zwy rfl rfl (T.e 1 rfl) (Zdf h5)) (Zrm rfl (T.e 10 rfl))) rfl (fun _ T => Zw (Zwy rfl rfl (T.e 2 rfl) (Zdf h5)) (Zri (size := 4) q rfl (T.e 1 rfl) (T.e 0 rfl) ⟨_, Tryz.underlying97, by kernel_rfl⟩ rfl (by omega) rfl)) rfl (fun _ T => Zw (Zwy rfl rfl (T.e 3 rfl) (Zdf h5)) (rn_rowat (Sp.kdR Sk M (List.Sublist.cons_cons _ (Zz9 _)) (kd_at (by omega))) rfl (T.e 0 rfl) rfl)) rfl (fun _ T => Zw (Zwy rfl rfl (T.e 4 rfl) (Zdf h5)) (Zrm rfl (T.e 15 rfl))) rfl ?_; clear T ac; intro ac T
  refine l_w (Zwy rfl rfl (T.e 5 rfl) (Zdf h5)) ?_; intro K hK
  have Mq := Mem.fore2 (b := (g1, .cells (jobL j A c))) (g := (gk, .cells (kd [0, 1, 2, 3] ++ []))) (X := It) (Y := Iu1) (M.permT [1, 0] 2 rfl rfl rfl rfl)
  have My : Mem w noEx wc ((g1, .cells (jobL j A c)) :: It) := Mq.sub (Zsl _ _)
  refine Zoc (first := []) (cap := []) T rfl rfl rfl rfl evf (.cons (T.e 1 rfl) (.cons (T.e 10 rfl) (.cons (T.e 0 rfl) .nil))) Tryz.func55 rfl rfl ?_
  refine Calls.mono (readV_any q (by omega) s g1 j A c It (inL ((g1, .cells (jobL j A c)) :: It)) _ (by omega) (by omega) (fun wq Lq Mx => hT.mem0 (Mem.joinX (X := ((g1, .cells (jobL j A c)) :: It)) (F := ((gk, .cells (kd [0, 1, 2, 3] ++ [])) :: Iu1)) Mq Mx (fun b h => h))) hsl My.rebase) ?_
  clear T; rintro e wc ⟨rfl, Lqu4, N, Acu4, ccu4, Iqu4, rfl, hslqu4⟩ ac T
  obtain ⟨jqu4, hjqu4⟩ : ∃ x, x = putO q ((kdAt KT KF KS KP q).rd s) j := ⟨_, rfl⟩
  rw [← hjqu4] at N hslqu4
  replace M := Mem.joinX (X := ((g1, .cells (jobL j A c)) :: It)) (F := ((gk, .cells (kd [0, 1, 2, 3] ++ [])) :: Iu1)) Mq N (fun b h => h)
  clear N Mq My
  replace M : Mem w noEx wc ((g1, .cells (jobL jqu4 Acu4 ccu4)) :: (gk, .cells (kd [0, 1, 2, 3] ++ [])) :: (Iqu4 ++ Iu1)) := Mem.hind2 M
  refine Zso hK _ _ ?_; clear hK K
  refine Zg2 T (Zw (Zwy rfl rfl (T.e 6 rfl) (Zdf h5)) (rn_not rfl (T.e 0 rfl))) rfl (fun _ T => Zq (Zr0 rfl (T.e 7 rfl) (Zdf h5) (T.e 0 rfl))) rfl ?_; clear T ac; intro ac T
  replace T := T.pick [0, 1, 2, 3, 4, 5, 6, 7, 13, 14, 15, 16, 17, 18, 20, 21, 22] rfl
  refine Zln ?_
  refine wp_cond_split (T.e 0 rfl) ?_ ?_
  ·intro h6
   (have h6' := h6; try simp only [Zb1, Zb2, Zb3, Zb4, Zb5, Zb6, Zb7] at h6')
   refine Zsr ?_
   refine Zg3 (v1 := (.agg #[.int .i64 0, .int .i64 0, .int .i64 0, .int .i64 0, .int .i64 0, .int .i64 0, .int .i64 0, .int .i64 0, .int .i64 0, .int .i64 0, .int .i64 0, .int .i64 0, .int .i64 0, .int .i64 0, .int .i64 0, .slice none 0 0, .int .i64 0, .int .i64 0])) T (Zq (rn_build rfl .nil (fun _ => by kernel_rfl))) rfl (Zm 14 rfl rfl) rfl (fun _ T => Zq (rn_add rfl (T.e 0 rfl) evc (by omega))) rfl ?_; clear T ac; intro ac T
   refine Zl2 ?_
   refine Zos M T rfl rfl (T.e 11 rfl) (T.e 2 rfl) rfl .head rfl (by simp) rfl (by kernel_rfl) ?_; clear M T; intro wc ac M T
   refine Zg2 T (Zq (Zra rfl (T.e 0 rfl))) rfl (Zc rfl) rfl ?_; clear T ac; intro ac T
   replace T := T.pick [0, 1, 13] rfl
   refine Zln ?_
   refine wp_ret ?_
   refine Zrt ?_
   refine Zrb ?_
   refine Zrt ?_
   refine Zrt ?_
   refine Zrb ?_
   refine Zrt ?_
   refine rt_ctt M T rfl (T.e 2 rfl) (T.e 1 rfl) (T.e 0 rfl) (Zne (i := 0) rfl) rfl ?_
   have hb9 := by first | exact bad_at H (by assumption) | exact bad_line H (by assumption) (by assumption)
   exact ReadP.zero (by rw [readT_short (by omega), ← hlsu1, ← hdl, hb9]; rfl) M
  intro h6
  (have h6' := h6; try simp only [Zb1, Zb2, Zb3, Zb4, Zb5, Zb6, Zb7] at h6')
  refine Zsk ?_
  refine Zsr ?_
  refine Zg2 T (Zq (Zrm rfl (T.e 12 rfl))) rfl (fun _ T => Zq (rn_neq rfl (T.e 0 rfl) evc)) rfl ?_; clear T ac; intro ac T
  replace T := T.pick [0, 3, 4, 5, 6, 7, 8, 9, 10, 11, 12, 13, 14, 16, 17, 18] rfl
  refine Zln ?_
  refine wp_ifn (T.e 0 rfl) ?_ ?_
  ·intro h7
   refine wp_region_lit ?_
   refine Zg2 T (Zq (Zrm rfl (T.e 12 rfl))) rfl (fun _ T => Zq (rn_add rfl (T.e 0 rfl) evc (by omega))) rfl ?_; clear T ac; intro ac T
   refine l_q (v := (.int .i64 ((q : Int) + 1))) (T.pick [0, 1, 2, 3, 4, 5, 6, 7, 8, 9, 10, 11, 12, 13, 15, 16, 17] rfl) rfl rfl rfl rfl (Zra rfl (T.e 0 rfl)) ?_; clear T ac; intro ac T
   refine wpList_nil ?_
   replace T := T.pick [0, 4, 5, 6, 7, 8, 9, 10, 11, 12, 13, 14, 15, 16, 17] rfl
   refine Znb ?_
   refine nm_then ?_
   refine wp_region_lit ?_
   refine lq T (rn_add rfl (T.e 14 rfl) evc (by omega)) ?_; clear T ac; intro ac T
   refine l_q (v := (.int .i64 ((i : Int) + 1))) (T.pick [0, 1, 2, 3, 4, 5, 6, 7, 8, 9, 10, 11, 12, 13, 14] rfl) rfl rfl rfl rfl (Zrm rfl (T.e 0 rfl)) ?_; clear T ac; intro ac T
   replace T := T.pick [0, 2, 3, 4, 5, 6, 7, 8, 9, 10, 11, 12, 13, 14, 15] rfl
   refine Zln ?_
   obtain ⟨xq, hxq, hH⟩ := good_line H (by assumption) (by assumption)
   have hjn : jqu4 = foldK (l ++ [(q, xq)]) zeroJ := by rw [hjqu4, hxq, foldK_snoc, ← hj]; rfl
   have hjm : jqu4.sh.length ≤ j.sh.length + 1 := by rw [hjqu4, hxq]; exact putK_len _ _ _
   exact ⟨_, by omega, i + 1, q + 1, jqu4, Acu4, ccu4, Iqu4, (l ++ [(q, xq)]), rfl, (by omega), (by omega), (by rw [if_pos (show q ≠ 2 by omega)] at hH; exact hH), hjn, hslqu4, (by omega), T.pick [9, 10, 11, 12, 1, 13, 14, 0] rfl, (M.permT [1, 0] 2 rfl rfl rfl rfl)⟩
  intro h7
  refine wp_skip ?_
  refine Znb ?_
  refine nm_then ?_
  refine wp_region_lit ?_
  refine lq T (rn_add rfl (T.e 15 rfl) evc (by omega)) ?_; clear T ac; intro ac T
  refine l_q (v := (.int .i64 ((i : Int) + 1))) (T.pick [0, 1, 2, 3, 4, 5, 6, 7, 8, 9, 10, 11, 12, 13, 14, 15] rfl) rfl rfl rfl rfl (Zrm rfl (T.e 0 rfl)) ?_; clear T ac; intro ac T
  replace T := T.pick [0, 3, 4, 5, 6, 7, 8, 9, 10, 11, 12, 13, 14, 15, 16] rfl
  refine Zln ?_
  obtain ⟨xq, hxq, hH⟩ := good_line H (by assumption) (by assumption)
  have hjn : jqu4 = foldK (l ++ [(q, xq)]) zeroJ := by rw [hjqu4, hxq, foldK_snoc, ← hj]; rfl
  have hjm : jqu4.sh.length ≤ j.sh.length + 1 := by rw [hjqu4, hxq]; exact putK_len _ _ _
  exact ⟨_, by omega, i + 1, q, jqu4, Acu4, ccu4, Iqu4, (l ++ [(q, xq)]), rfl, (by omega), (by omega), (by rw [if_neg (show ¬ q ≠ 2 by omega)] at hH; exact hH), hjn, hslqu4, (by omega), T.pick [8, 9, 10, 11, 12, 13, 14, 0] rfl, (M.permT [1, 0] 2 rfl rfl rfl rfl)⟩
 intro h2
 obtain ⟨zl, hzl⟩ : ∃ q, lsu1[lsu1.length - 1]? = some q := ⟨_, List.getElem?_eq_getElem (by omega)⟩
 have hzm : zl.length ≤ text.length := spl_mem_len (c := 10) (by rw [← hlsu1]; exact List.mem_of_getElem? hzl)
 obtain ⟨bJ, oJ, SJ0⟩ := hsl.spW (rc_length _)
 have SJ := SJ0 w noEx
 rw [List.drop_of_length_le (by omega)] at H
 replace H : progL KT KF KS KP shiftW 0 0 lq1 = .ok (decide (4 ≤ p)) l := by rw [H]; exact (app_ok l [] _).trans (by rw [List.append_nil])
 refine wp_exit ?_
 refine Zet ?_
 refine Zet ?_
 refine ex_hit ?_
 refine Zns ?_
 refine cut_seq (fun ac wc => Tm ac 80 [(2, .pointer (some ⟨g1, 0, none⟩)), (6, .int .i64 (((lsu1.length : Nat) : Int) - 1)), (69, .bool ((decide ((p : Int) < 4)) || (!(decide (zl = ([]))))))] ∧ Mem w noEx wc ((gk, .cells (kd [0, 1, 2, 3] ++ [])) :: (g1, .cells (jobL j A c)) :: (It ++ Iu1))) ?_ ?_
 ·refine wp_region_lit ?_
  refine Zg5 (v3 := (.int .i64 4)) T (Zq (Zrm rfl (T.e 5 rfl))) rfl (Zm 5 rfl rfl) rfl (Zl Tryz.underlying97 0 rfl rfl) rfl (fun _ T => Zq (rn_lss rfl (T.e 2 rfl) (T.e 0 rfl))) rfl (Zm 0 rfl rfl) rfl ?_; clear T ac; intro ac T
  rcases Bool.eq_false_or_eq_true (decide ((p : Int) < 4)) with h8 | h8
  ·replace h8 := of_decide_eq_true h8
   refine Zg6 T (Zp (Zwn rfl rfl (T.e 0 rfl) (Zdt h8))) rfl (fun _ T => Zp (Zwn rfl rfl (T.e 1 rfl) (Zdt h8))) rfl (fun _ T => Zp (Zwn rfl rfl (T.e 2 rfl) (Zdt h8))) rfl (fun _ T => Zp (Zwn rfl rfl (T.e 3 rfl) (Zdt h8))) rfl (fun _ T => Zp (Zwn rfl rfl (T.e 4 rfl) (Zdt h8))) rfl (fun _ T => Zq (Zr1 rfl (T.e 5 rfl) (Zdt h8) evc)) rfl ?_; clear T ac; intro ac T
   refine wpList_nil ?_
   replace T := T.pick [0, 12, 14] rfl
   exact ⟨(T.pick (E' := [(2, .pointer (some ⟨g1, 0, none⟩)), (6, .int .i64 (((lsu1.length : Nat) : Int) - 1)), (69, .bool true)]) [1, 2, 0] rfl).as (by (try rw [show (decide ((p : Int) < 4)) = true from (Zdt h8)]); (try rfl)), M.mask [true, true] rfl⟩
  replace h8 := of_decide_eq_false h8
  refine Zg6 T (Zw (Zwy rfl rfl (T.e 0 rfl) (Zdf h8)) (Zrm rfl (T.e 7 rfl))) rfl (fun _ T => Zw (Zwy rfl rfl (T.e 1 rfl) (Zdf h8)) (Zrm rfl (T.e 9 rfl))) rfl (fun _ T => Zw (Zwy rfl rfl (T.e 2 rfl) (Zdf h8)) (Zri (size := 1) (lsu1.length - 1) rfl (T.e 1 rfl) (T.e 0 rfl) ⟨_, Tryz.underlying37, by kernel_rfl⟩ (by omega) (by omega) (Su1.at0 (by omega)))) rfl (fun _ T => Zw (Zwy rfl rfl (T.e 3 rfl) (Zdf h8)) (rn_cell (Sp.stC0 Su1 M (.cons _ (.cons _ (Zsq _ _))) hzl) rfl (T.e 0 rfl))) rfl (fun _ T => Zw (Zwy rfl rfl (T.e 4 rfl) (Zdf h8)) (rn_sneq rfl (T.e 0 rfl) evc)) rfl (fun _ T => Zq (Zr0 rfl (T.e 5 rfl) (Zdf h8) (T.e 0 rfl))) rfl ?_; clear T ac; intro ac T
  refine wpList_nil ?_
  replace T := T.pick [0, 12, 14] rfl
  exact ⟨(T.pick (E' := [(2, .pointer (some ⟨g1, 0, none⟩)), (6, .int .i64 (((lsu1.length : Nat) : Int) - 1)), (69, .bool (!(decide (zl = ([])))))]) [1, 2, 0] rfl).as (by (try rw [show (decide ((p : Int) < 4)) = false from (Zdf h8)]); (try rfl)), M.mask [true, true] rfl⟩
 clear T M
 rintro ac wc ⟨T, M⟩
 refine wp_cond_split (T.e 2 rfl) ?_ ?_
 ·intro h9
  (have h9' := h9; try simp only [Zb1, Zb2, Zb3, Zb4, Zb5, Zb6, Zb7] at h9')
  refine Zsr ?_
  refine Zg3 (v1 := (.agg #[.int .i64 0, .int .i64 0, .int .i64 0, .int .i64 0, .int .i64 0, .int .i64 0, .int .i64 0, .int .i64 0, .int .i64 0, .int .i64 0, .int .i64 0, .int .i64 0, .int .i64 0, .int .i64 0, .int .i64 0, .slice none 0 0, .int .i64 0, .int .i64 0])) T (Zq (rn_build rfl .nil (fun _ => by kernel_rfl))) rfl (Zm 2 rfl rfl) rfl (fun _ T => Zq (rn_add rfl (T.e 0 rfl) evc (by omega))) rfl ?_; clear T ac; intro ac T
  refine Zl2 ?_
  refine Zos M T rfl rfl (T.e 3 rfl) (T.e 2 rfl) rfl (.tail .head) rfl (by simp) rfl (by kernel_rfl) ?_; clear M T; intro wc ac M T
  refine Zg2 T (Zq (Zra rfl (T.e 0 rfl))) rfl (Zc rfl) rfl ?_; clear T ac; intro ac T
  replace T := T.pick [0, 1, 5] rfl
  refine Zln ?_
  refine wp_ret ?_
  refine Zrt ?_
  refine rt_ctt M T rfl (T.e 2 rfl) (T.e 1 rfl) (T.e 0 rfl) (Zne (i := 1) rfl) rfl ?_
  have hb9 := endR_bad (l := l) hzl (or_bad (p := p) (by assumption))
  exact ReadP.zero (by rw [readT_short (by omega), ← hlsu1, ← hdl, H, hb9, show (((lsu1.length : Nat) : Int) - 1 + 1) = ((lsu1.length : Nat) : Int) by omega]) M
 intro h9
 (have h9' := h9; try simp only [Zb1, Zb2, Zb3, Zb4, Zb5, Zb6, Zb7] at h9')
 refine Zsk ?_
 refine wp_seq ?_
 refine Zsr ?_
 refine lq T (Zrr (Mem.nth M 1 rfl) rfl (T.e 0 rfl) rfl) ?_; clear T ac; intro ac T
 refine Zl2 ?_
 refine Zoc (first := []) (cap := []) T rfl rfl rfl rfl evf (.cons (T.e 0 rfl) .nil) Tryz.func46 rfl rfl ?_
 refine Calls.mono (check_any j _ _ _ (SJ.rd M (.cons _ (.cons _ (subL (List.Sublist.refl _))))) (by omega)) ?_
 clear T; rintro e wc ⟨rfl, hb⟩ ac T
 replace M := M.call hb; clear hb
 refine lq T (Zra rfl (T.e 0 rfl)) ?_; clear T ac; intro ac T
 replace T := T.pick [0, 3] rfl
 refine Zln ?_
 refine Zsr ?_
 refine Zg2 T (Zq (Zrm rfl (T.e 0 rfl))) rfl (fun _ T => Zq (rn_neq rfl (T.e 0 rfl) evc)) rfl ?_; clear T ac; intro ac T
 replace T := T.pick [0, 2, 3] rfl
 refine Zln ?_
 refine wp_ifn (T.e 0 rfl) ?_ ?_
 ·intro h10
  refine Zsr ?_
  refine Zg2 (v1 := (.agg #[.int .i64 0, .int .i64 0, .int .i64 0, .int .i64 0, .int .i64 0, .int .i64 0, .int .i64 0, .int .i64 0, .int .i64 0, .int .i64 0, .int .i64 0, .int .i64 0, .int .i64 0, .int .i64 0, .int .i64 0, .slice none 0 0, .int .i64 0, .int .i64 0])) T (Zq (rn_build rfl .nil (fun _ => by kernel_rfl))) rfl (Zm 2 rfl rfl) rfl ?_; clear T ac; intro ac T
  refine Zl2 ?_
  refine Zos M T rfl rfl (T.e 4 rfl) (T.e 1 rfl) rfl (.tail .head) rfl (by simp) rfl (by kernel_rfl) ?_; clear M T; intro wc ac M T
  refine Zg2 T (Zq (Zra rfl evc)) rfl (Za 1 rfl rfl) rfl ?_; clear T ac; intro ac T
  replace T := T.pick [0, 1, 6] rfl
  refine Zln ?_
  refine wp_ret ?_
  refine Zrt ?_
  refine rt_ctt M T rfl (T.e 2 rfl) (T.e 1 rfl) (T.e 0 rfl) (Zne (i := 1) rfl) rfl ?_
  have hb9 := endR_go (l := l) hzl (or_go (p := p) (by assumption))
  rw [← hj] at hb9
  have hr9 : readT text = if checkJ j ≠ 0 then (zeroJ, 0, checkJ j) else (j, 0, 0) := by rw [readT_short (by omega), ← hlsu1, ← hdl, H]; exact hb9
  rw [if_pos (by assumption)] at hr9
  exact ReadP.zero hr9 M
 intro h10
 refine Zsk ?_
 refine Zsr ?_
 refine lq T (Zrr (Mem.nth M 1 rfl) rfl (T.e 2 rfl) rfl) ?_; clear T ac; intro ac T
 refine Zl2 ?_
 refine Zos M T rfl rfl (T.e 3 rfl) (T.e 0 rfl) rfl (.tail .head) rfl (by simp) rfl (by kernel_rfl) ?_; clear M T; intro wc ac M T
 refine Zg2 T (Zq (Zra rfl evc)) rfl (Zc rfl) rfl ?_; clear T ac; intro ac T
 replace T := T.pick [0, 1, 5] rfl
 refine Zln ?_
 refine wp_ret ?_
 refine rt_ctt M T rfl (T.e 2 rfl) (T.e 1 rfl) (T.e 0 rfl) (Zne (i := 1) rfl) rfl ?_
 have hb9 := endR_go (l := l) hzl (or_go (p := p) (by assumption))
 rw [← hj] at hb9
 have hr9 : readT text = if checkJ j ≠ 0 then (zeroJ, 0, checkJ j) else (j, 0, 0) := by rw [readT_short (by omega), ← hlsu1, ← hdl, H]; exact hb9
 rw [if_neg (fun h => h (by assumption))] at hr9
 rw [hr9]
 exact ⟨A, c, It, rfl, hsl, M.sub (.cons _ (.cons _ (subL (List.Sublist.refl _))))⟩
theorem rd_len {k : Nat} {s : List UInt8} {xs : List Int} (hk : k ≤ 3) (h : lineA (kdAt KT KF KS KP k).word (kdAt KT KF KS KP k).rg (kdAt KT KF KS KP k).nm s = some xs) : xs.length = 2 * (kdAt KT KF KS KP k).rg + (kdAt KT KF KS KP k).nm := ((rd_iff hk).1 h).2.2.2.1
theorem six_of {o : Option (List Int)} {xs : List Int} (h : ∀ ys, o = some ys → xs = ys) (hl : ∀ ys, o = some ys → ys.length = 6) : ∃ a b c d e f, o.isSome = true → o = some [a, b, c, d, e, f] ∧ xs = [a, b, c, d, e, f] := by
 cases o with
 | none => exact ⟨0, 0, 0, 0, 0, 0, fun h => by cases h⟩
 | some ys =>
  have h1 := hl ys rfl
  match ys, h1, h ys rfl with
  | [a, b, c, d, e, f], _, h2 => exact ⟨a, b, c, d, e, f, fun _ => ⟨rfl, h2⟩⟩
theorem nine_of {o : Option (List Int)} {xs : List Int} (h : ∀ ys, o = some ys → xs = ys) (hl : ∀ ys, o = some ys → ys.length = 9) : ∃ a b c d e f g i k, o.isSome = true → o = some [a, b, c, d, e, f, g, i, k] ∧ xs = [a, b, c, d, e, f, g, i, k] := by
 cases o with
 | none => exact ⟨0, 0, 0, 0, 0, 0, 0, 0, 0, fun h => by cases h⟩
 | some ys =>
  have h1 := hl ys rfl
  match ys, h1, h ys rfl with
  | [a, b, c, d, e, f, g, i, k], _, h2 => exact ⟨a, b, c, d, e, f, g, i, k, fun _ => ⟨rfl, h2⟩⟩
theorem two_of {o : Option (List Int)} {xs : List Int} (h : ∀ ys, o = some ys → xs = ys) (hl : ∀ ys, o = some ys → ys.length = 2) : ∃ a b, o.isSome = true → o = some [a, b] ∧ xs = [a, b] := by
 cases o with
 | none => exact ⟨0, 0, fun h => by cases h⟩
 | some ys =>
  have h1 := hl ys rfl
  match ys, h1, h ys rfl with
  | [a, b], _, h2 => exact ⟨a, b, fun _ => ⟨rfl, h2⟩⟩
theorem drop_get {l : List (List UInt8)} {i : Nat} {s : List UInt8} (h : l[i]? = some s) (hi : i + 1 < l.length) : l.dropLast[i]? = some s := by
 rw [List.dropLast_eq_take, List.getElem?_take_of_lt (by omega), h]
theorem refL_at {K0 K1 K2 K3 : Kd} {en : Bool} {i : Nat} {ls : List (List UInt8)} {s : List UInt8} (h : ls[i]? = some s) : refL K0 K1 K2 K3 en i (ls.drop i) = if en = true then .bad (i + 1)
  else if i = 0 then (match K0.rd s with | some x => (refL K0 K1 K2 K3 false 1 (ls.drop (i + 1))).cons (0, x) | none => .bad (i + 1))
  else if i = 1 then (match K1.rd s with | some x => (refL K0 K1 K2 K3 false 2 (ls.drop (i + 1))).cons (1, x) | none => .bad (i + 1))
  else match K2.rd s with
   | some x => (refL K0 K1 K2 K3 false (i + 1) (ls.drop (i + 1))).cons (2, x)
   | none => match K3.rd s with
    | some x => (refL K0 K1 K2 K3 true (i + 1) (ls.drop (i + 1))).cons (3, x)
    | none => .bad (i + 1) := by
 rw [List.drop_eq_getElem_cons (List.getElem?_eq_some_iff.1 h).1, (List.getElem?_eq_some_iff.1 h).2]
 rfl
abbrev RL (en : Bool) (i : Nat) (ls : List (List UInt8)) : RdE := refL KT KF KS KP en i ls
section
variable {en : Bool} {i : Nat} {ls : List (List UInt8)} {s : List UInt8} {l : List (Nat × List Int)} {r : RdE} {x : List Int}
theorem rl_en (h : ls[i]? = some s) (H : r = RdE.app l (RL en i (ls.drop i))) (he : en = true) : r = .bad (i + 1) := by
 rw [RL, refL_at h, if_pos he, app_bad] at H
 exact H
theorem rl_0 (h : ls[i]? = some s) (H : r = RdE.app l (RL en i (ls.drop i))) (he : en = false) (hi : i = 0) (hx : lineA tongueW 3 0 s = some x) : r = RdE.app (l ++ [(0, x)]) (RL false (i + 1) (ls.drop (i + 1))) := by
 rw [RL, refL_at h, if_neg (by rw [he]; decide), if_pos hi, show KT.rd s = some x from hx] at H
 rw [H, ← app_cons, hi]
theorem rl_0n (h : ls[i]? = some s) (H : r = RdE.app l (RL en i (ls.drop i))) (he : en = false) (hi : i = 0) (hx : lineA tongueW 3 0 s = none) : r = .bad (i + 1) := by
 rw [RL, refL_at h, if_neg (by rw [he]; decide), if_pos hi, show KT.rd s = none from hx, app_bad] at H
 exact H
theorem rl_1 (h : ls[i]? = some s) (H : r = RdE.app l (RL en i (ls.drop i))) (he : en = false) (hi : i = 1) (hx : lineA fileW 4 1 s = some x) : r = RdE.app (l ++ [(1, x)]) (RL false (i + 1) (ls.drop (i + 1))) := by
 rw [RL, refL_at h, if_neg (by rw [he]; decide), if_neg (by omega), if_pos hi, show KF.rd s = some x from hx] at H
 rw [H, ← app_cons, hi]
theorem rl_1n (h : ls[i]? = some s) (H : r = RdE.app l (RL en i (ls.drop i))) (he : en = false) (hi : i = 1) (hx : lineA fileW 4 1 s = none) : r = .bad (i + 1) := by
 rw [RL, refL_at h, if_neg (by rw [he]; decide), if_neg (by omega), if_pos hi, show KF.rd s = none from hx, app_bad] at H
 exact H
theorem rl_2 (h : ls[i]? = some s) (H : r = RdE.app l (RL en i (ls.drop i))) (he : en = false) (h0 : ¬ i = 0) (h1 : ¬ i = 1) (hx : lineA shiftW 1 0 s = some x) : r = RdE.app (l ++ [(2, x)]) (RL false (i + 1) (ls.drop (i + 1))) := by
 rw [RL, refL_at h, if_neg (by rw [he]; decide), if_neg h0, if_neg h1, show KS.rd s = some x from hx] at H
 rw [H, ← app_cons]
theorem rl_3 (h : ls[i]? = some s) (H : r = RdE.app l (RL en i (ls.drop i))) (he : en = false) (h0 : ¬ i = 0) (h1 : ¬ i = 1) (h2 : lineA shiftW 1 0 s = none) (hx : lineA passW 0 2 s = some x) : r = RdE.app (l ++ [(3, x)]) (RL true (i + 1) (ls.drop (i + 1))) := by
 rw [RL, refL_at h, if_neg (by rw [he]; decide), if_neg h0, if_neg h1, show KS.rd s = none from h2, show KP.rd s = some x from hx] at H
 rw [H, ← app_cons]
theorem rl_3n (h : ls[i]? = some s) (H : r = RdE.app l (RL en i (ls.drop i))) (he : en = false) (h0 : ¬ i = 0) (h1 : ¬ i = 1) (h2 : lineA shiftW 1 0 s = none) (hx : lineA passW 0 2 s = none) : r = .bad (i + 1) := by
 rw [RL, refL_at h, if_neg (by rw [he]; decide), if_neg h0, if_neg h1, show KS.rd s = none from h2, show KP.rd s = none from hx, app_bad] at H
 exact H
end
theorem no_some {o : Option (List Int)} (h : o.isSome = false) : o = none := by
 cases o with
 | none => rfl
 | some x => cases h
theorem readR_long {t : List UInt8} (h : 300 < t.length) : readR t = (zeroJ, 0, 10) := by unfold readR; rw [if_pos h]
theorem readR_short {t : List UInt8} (h : ¬ 300 < t.length) : readR t = endR (spl 10 t) (RL false 0 (spl 10 t).dropLast) := by unfold readR; rw [if_neg h]
theorem or_bad2 {en : Bool} {zl : List UInt8} (h : ((!en) || (!decide (zl = []))) = true) : en = false ∨ zl ≠ [] := by
 simp only [Bool.or_eq_true, Bool.not_eq_true', decide_eq_false_iff_not] at h
 exact h
theorem or_go2 {en : Bool} {zl : List UInt8} (h : ((!en) || (!decide (zl = []))) = false) : en = true ∧ zl = [] := by
 simp only [Bool.or_eq_false_iff, Bool.not_eq_false', decide_eq_true_eq] at h
 exact h
theorem at_any (A : Option Addr) (c k : Nat) (xs : List Int) (a b : Int) (w : World) (hr : Rd w w.heap.size 1 A xs.length (ic xs)) (ha : xs[k]? = some a) (hb : xs[k + 1]? = some b) (hk9 : k ≤ 1000) :
  Calls Tryz.prog 58 #[.slice A xs.length c, .int .i64 (k : Int)] w fun e w' => e = .returned (.agg #[.int .i64 a, .int .i64 b]) ∧ Below w.heap.size w w' := by
 obtain ⟨bI, oI, SI⟩ := Sp.old hr
 have hk1 := (List.getElem?_eq_some_iff.1 hb).1
 refine Zpx noEx Tryz.func58 rfl 15 rfl [.slice A xs.length c, .int .i64 (k : Int)] rfl rfl (Mem.init w _) ?_
 intro ac wc T M
 refine Zsr ?_
 refine Zl2 ?_
 refine Zoa M T rfl rfl rfl rfl ?_; clear M T; intro g1 wc ac M T
 refine Zln ?_
 refine wp_seq ?_
 refine Zgs M (M.perm [] rfl rfl) 11 (by kernel_rfl) rfl (by kernel_rfl) ?_
 clear M; intro wc M
 refine g_addG 10 M ?_
 refine gq T 0 1 rfl (fun _ _ _ _ _ => (Zrm rfl (T.e 1 rfl))) ?_; clear T ac; intro ac T
 refine gq T 1 3 rfl (fun _ _ _ _ _ => (Zrm rfl (T.e 3 rfl))) ?_; clear T ac; intro ac T
 refine gq T 2 7 rfl (fun _ _ _ _ _ => (Zri (size := 1) k rfl (T.e 1 rfl) (T.e 0 rfl) ⟨_, Tryz.underlying31, by kernel_rfl⟩ rfl (by omega) (SI.at0 (by omega)))) ?_; clear T ac; intro ac T
 refine gq T 3 15 rfl (fun B w' hD hl hS => (rn_cell (Sp.ic0 SI (show Mem w noEx w' _ from ((MA.lft hS) (hD.wait (i := 3) (m := 10) (by kernel_rfl) hl))) (Zz9 _) ha) rfl (T.e 0 rfl))) ?_; clear T ac; intro ac T
 refine gq T 4 31 rfl (fun _ _ _ _ _ => (Zrm rfl (T.e 5 rfl))) ?_; clear T ac; intro ac T
 refine gq T 5 63 rfl (fun _ _ _ _ _ => (Zrm rfl (T.e 7 rfl))) ?_; clear T ac; intro ac T
 refine gq T 6 127 rfl (fun _ _ _ _ _ => (rn_add rfl (T.e 0 rfl) evc (by omega))) ?_; clear T ac; intro ac T
 refine gq T 7 255 rfl (fun _ _ _ _ _ => (Zri (size := 1) (k + 1) rfl (T.e 2 rfl) (T.e 0 rfl) ⟨_, Tryz.underlying31, by kernel_rfl⟩ (by omega) (by omega) (SI.at0 (by omega)))) ?_; clear T ac; intro ac T
 refine gq T 8 511 rfl (fun B w' hD hl hS => (rn_cell (Sp.ic0 SI (show Mem w noEx w' _ from ((MA.lft hS) (hD.wait (i := 8) (m := 10) (by kernel_rfl) hl))) (Zz9 _) hb) rfl (T.e 0 rfl))) ?_; clear T ac; intro ac T
 refine gq (v := (.agg #[.int .i64 a, .int .i64 b])) T 9 1023 rfl (fun _ _ _ _ _ => (rn_build rfl (.cons (T.e 5 rfl) (.cons (T.e 0 rfl) .nil)) (fun _ => by kernel_rfl))) ?_; clear T ac; intro ac T
 refine gw 10 2047 ?_; intro K hK
 refine Zos M T rfl rfl (T.e 10 rfl) (T.e 0 rfl) rfl .head rfl (by simp) rfl (by kernel_rfl) ?_; clear M T; intro wc ac M T
 refine Zso hK _ _ (MA.mk (fun h => (no_of (by kernel_rfl) h).elim) (M.mask [false] rfl)) ?_; clear hK K
 refine Zgd (by kernel_rfl) ?_
 replace T := T.pick [10] rfl
 refine Znr ?_
 refine rt_c M T rfl (T.e 0 rfl) (Zne (i := 0) rfl) rfl ?_
 exact ⟨rfl, M.below⟩
theorem rread_any (text : List UInt8) (w : World)  :
   Calls Tryz.prog 16 #[sv text] w (ReadP (readR text) w) := by
 refine Zpx noEx Tryz.func16 rfl 143 rfl [sv text] rfl rfl (Mem.init w _) ?_
 intro ac wc T M
 refine Zsr ?_
 refine Zl2 ?_
 refine Zoa M T rfl rfl rfl rfl ?_; clear M T; intro g1 wc ac M T
 refine Zg2 T (Zq (Zra rfl evc)) rfl (Zc rfl) rfl ?_; clear T ac; intro ac T
 replace T := T.pick [2, 3] rfl
 refine Zln ?_
 refine wp_seq ?_
 refine Zsr ?_
 refine Zg3 T (Zq (Zrm rfl (T.e 1 rfl))) rfl (fun _ T => Zq (rn_slen rfl Tryz.underlying9 (T.e 0 rfl))) rfl (fun _ T => Zq (rn_gtr rfl (T.e 0 rfl) evc)) rfl ?_; clear T ac; intro ac T
 replace T := T.pick [0, 3, 4] rfl
 refine Zln ?_
 refine wp_if (T.e 0 rfl) ?_ ?_
 ·intro h1
  refine Zsr ?_
  refine lq (v := (.agg #[.int .i64 0, .int .i64 0, .int .i64 0, .int .i64 0, .int .i64 0, .int .i64 0, .int .i64 0, .int .i64 0, .int .i64 0, .int .i64 0, .int .i64 0, .int .i64 0, .int .i64 0, .int .i64 0, .int .i64 0, .slice none 0 0, .int .i64 0, .int .i64 0])) T (rn_build rfl .nil (fun _ => by kernel_rfl)) ?_; clear T ac; intro ac T
  refine Zl2 ?_
  refine Zos M T rfl rfl (T.e 2 rfl) (T.e 0 rfl) rfl .head rfl (by simp) rfl (by kernel_rfl) ?_; clear M T; intro wc ac M T
  refine Zg2 T (Zq (Zra rfl evc)) rfl (Zc rfl) rfl ?_; clear T ac; intro ac T
  replace T := T.pick [0, 1, 4] rfl
  refine Zln ?_
  refine wp_ret ?_
  refine Zrt ?_
  refine rt_ctt M T rfl (T.e 2 rfl) (T.e 1 rfl) (T.e 0 rfl) (Zne (i := 0) rfl) rfl ?_
  exact ReadP.zero (readR_long (by omega)) M
 intro h1
 refine Zsk ?_
 refine Zsr ?_
 refine lq T (Zrm rfl (T.e 2 rfl)) ?_; clear T ac; intro ac T
 refine Zl2 ?_
 refine Zoc (first := []) (cap := []) T rfl rfl rfl rfl evf (.cons (T.e 0 rfl) (.cons evc .nil)) Tryz.func56 rfl rfl ?_
 refine Calls.mono (rsplit_any text 10 _ (by omega)) ?_
 clear T; rintro e wc ⟨Au1, cu1, Iu1, rfl, hslu1, N⟩ ac T
 obtain ⟨lsu1, hlsu1⟩ : ∃ q, q = spl 10 text := ⟨_, rfl⟩
 rw [← hlsu1] at hslu1 T
 obtain ⟨bu1, ou1, SVu1⟩ := hslu1.spW (by rw [st_length, Nat.mul_one])
 have Su1 := SVu1 w noEx
 replace M := (M.join N).swapI
 clear N
 replace M : Mem w noEx wc ((g1, .cells [.int .i64 0, .int .i64 0, .int .i64 0, .int .i64 0, .int .i64 0, .int .i64 0, .int .i64 0, .int .i64 0, .int .i64 0, .int .i64 0, .int .i64 0, .int .i64 0, .int .i64 0, .int .i64 0, .int .i64 0, .slice none 0 0, .int .i64 0, .int .i64 0]) :: Iu1) := M
 have hlenu1 : lsu1.length ≤ text.length + 1 := by rw [hlsu1]; exact spl_len _ _
 have hposu1 : 0 < lsu1.length := by rw [hlsu1]; exact spl_pos _ _
 refine lq T (Zra rfl (T.e 0 rfl)) ?_; clear T ac; intro ac T
 replace T := T.pick [0, 4] rfl
 refine Zln ?_
 refine Zsr ?_
 refine Zl2 ?_
 refine Zoa M T rfl rfl rfl rfl ?_; clear M T; intro g2 wc ac M T
 refine Zln ?_
 refine Zsr ?_
 refine lq T (Zra rfl evc) ?_; clear T ac; intro ac T
 refine Zln ?_
 refine wp_seq ?_
 refine Zsr ?_
 refine lq T (Zra rfl evc) ?_; clear T ac; intro ac T
 refine Zln ?_
 refine wp_block ?_
 refine wp_loop_n (fun mz ac wc => ∃ (i : Nat) (en : Bool) (j : Jb) (A : Option Addr) (c : Nat) (It : List (Nat × BA)) (l : List (Nat × List Int)), mz = lsu1.length - i ∧ (i + 1 ≤ lsu1.length) ∧ (RL false 0 lsu1.dropLast = RdE.app l (RL en i (lsu1.dropLast.drop i))) ∧ (j = foldK l zeroJ) ∧ (Sl 23 2 (.slice A j.sh.length c) j.sh.length (rc j.sh) It) ∧ (j.sh.length ≤ i) ∧ Tm ac 143 [(2, .pointer (some ⟨g1, 0, none⟩)), (5, .slice Au1 lsu1.length cu1), (6, .pointer (some ⟨g2, 0, none⟩)), (7, .bool en), (8, .int .i64 (i : Int))] ∧ Mem w noEx wc ((g2, .cells (jobL j A c)) :: (g1, .cells [.int .i64 0, .int .i64 0, .int .i64 0, .int .i64 0, .int .i64 0, .int .i64 0, .int .i64 0, .int .i64 0, .int .i64 0, .int .i64 0, .int .i64 0, .int .i64 0, .int .i64 0, .int .i64 0, .int .i64 0, .slice none 0 0, .int .i64 0, .int .i64 0]) :: (Iu1 ++ It))) ?_ ?_
 ·exact ⟨_, 0, false, zeroJ, none, 0, [], [], rfl, (by omega), rfl, rfl, (Sl.nil _ _), (Nat.zero_le _), T.pick [4, 3, 2, 1, 0] rfl, (by simp only [List.append_nil]; exact M)⟩
 clear T M
 rintro mz ac wc ⟨i, en, j, A, c, It, l, hmm1, hi, H, hj, hsl, hjl, T, M⟩
 refine wp_seq ?_
 refine Zsr ?_
 refine Zg5 T (Zq (Zrm rfl (T.e 4 rfl))) rfl (Zm 2 rfl rfl) rfl (Zl Tryz.underlying37 0 rfl rfl) rfl (fun _ T => Zq (rn_sub rfl (T.e 0 rfl) evc (by omega))) rfl (fun _ T => Zq (rn_lss rfl (T.e 3 rfl) (T.e 0 rfl))) rfl ?_; clear T ac; intro ac T
 replace T := T.pick [0, 5, 6, 7, 8, 9] rfl
 refine Zln ?_
 refine wp_if (T.e 0 rfl) ?_ ?_
 ·intro h2
  obtain ⟨s, hks⟩ : ∃ q, lsu1[i]? = some q := ⟨_, List.getElem?_eq_getElem (by omega)⟩
  have hkd := drop_get hks (by omega)
  have hsl8 : s.length ≤ text.length := spl_mem_len (c := 10) (by rw [← hlsu1]; exact List.mem_of_getElem? hks)
  refine Zsk ?_
  refine wp_seq ?_
  refine wp_block ?_
  refine Zsr ?_
  refine lq T (Zra rfl evc) ?_; clear T ac; intro ac T
  replace T := T.pick [0, 2, 3, 4, 5, 6] rfl
  refine Zln ?_
  refine Zsr ?_
  refine lq T (Zra rfl evc) ?_; clear T ac; intro ac T
  replace T := T.pick [1, 2, 3, 4, 5, 6] rfl
  refine Zln ?_
  refine wp_seq ?_
  refine wp_block ?_
  refine Zsr ?_
  refine Zg2 T (Zq (Zrm rfl (T.e 4 rfl))) rfl (Za 0 rfl rfl) rfl ?_; clear T ac; intro ac T
  replace T := T.pick [0, 2, 3, 4, 5, 6, 7] rfl
  refine Zln ?_
  refine wp_cond_split (T.e 0 rfl) ?_ ?_
  ·intro h3
   refine wp_skip ?_
   refine Znb ?_
   refine nm_then ?_
   refine Zsr ?_
   refine Zg2 (v2 := (.bool true)) T (Zq (Zrm rfl (T.e 1 rfl))) rfl (fun _ T => Zq (Zrq (rn_not rfl (T.e 0 rfl)) (by simp))) rfl ?_; clear T ac; intro ac T
   replace T := T.pick [0, 4, 5, 6, 7, 8] rfl
   refine Zln ?_
   refine wp_cond_true (T.e 0 rfl) ?_
   refine Zsr ?_
   refine Zg3 (v1 := (.agg #[.int .i64 0, .int .i64 0, .int .i64 0, .int .i64 0, .int .i64 0, .int .i64 0, .int .i64 0, .int .i64 0, .int .i64 0, .int .i64 0, .int .i64 0, .int .i64 0, .int .i64 0, .int .i64 0, .int .i64 0, .slice none 0 0, .int .i64 0, .int .i64 0])) T (Zq (rn_build rfl .nil (fun _ => by kernel_rfl))) rfl (Zm 6 rfl rfl) rfl (fun _ T => Zq (rn_add rfl (T.e 0 rfl) evc (by omega))) rfl ?_; clear T ac; intro ac T
   refine Zl2 ?_
   refine Zos M T rfl rfl (T.e 4 rfl) (T.e 2 rfl) rfl (.tail .head) rfl (by simp) rfl (by kernel_rfl) ?_; clear M T; intro wc ac M T
   refine Zg2 T (Zq (Zra rfl (T.e 0 rfl))) rfl (Zc rfl) rfl ?_; clear T ac; intro ac T
   refine wpList_nil ?_
   replace T := T.pick [0, 1, 6] rfl
   replace M := M.mask [false, true] rfl
   refine Znr ?_
   refine Zrb ?_
   refine Zrt ?_
   refine Zrt ?_
   refine Zrb ?_
   refine Zrt ?_
   refine rt_ctt M T rfl (T.e 2 rfl) (T.e 1 rfl) (T.e 0 rfl) (Zne (i := 0) rfl) rfl ?_
   have hb9 := by first | exact rl_en hkd H (by assumption) | exact rl_0n hkd H (by assumption) (by omega) (no_some (by assumption)) | exact rl_1n hkd H (by assumption) (by omega) (no_some (by assumption)) | exact rl_3n hkd H (by assumption) (by omega) (by omega) (no_some (by assumption)) (no_some (by assumption))
   exact ReadP.zero (by rw [readR_short (by omega), ← hlsu1, hb9]; rfl) M
  intro h3
  refine Zsr ?_
  refine Zg3 T (Zq (Zrm rfl (T.e 6 rfl))) rfl (fun _ T => Zq (rn_eql rfl (T.e 0 rfl) evc)) rfl (Za 0 rfl rfl) rfl ?_; clear T ac; intro ac T
  replace T := T.pick [0, 5, 6, 7, 8, 9] rfl
  refine Zln ?_
  refine wp_if (T.e 0 rfl) ?_ ?_
  ·intro h4
   refine Zsr ?_
   refine Zg4 T (Zq (Zrm rfl (T.e 2 rfl))) rfl (Zm 6 rfl rfl) rfl (fun _ T => Zq (Zri (size := 1) i rfl (T.e 1 rfl) (T.e 0 rfl) ⟨_, Tryz.underlying37, by kernel_rfl⟩ rfl (by omega) (Su1.at0 (by omega)))) rfl (fun _ T => Zq (rn_cell (Sp.stC0 Su1 M (.cons _ (.cons _ (subL (List.Sublist.refl _)))) hks) rfl (T.e 0 rfl))) rfl ?_; clear T ac; intro ac T
   refine Zl2 ?_
   refine Zoc (first := []) (cap := []) T rfl rfl rfl rfl evf (.cons (T.e 0 rfl) (.cons evc (.cons evc (.cons evc .nil)))) Tryz.func57 rfl rfl ?_
   refine Calls.mono (rnumbers_any s tongueW 3 0 _ (by omega) (by omega) (by omega)) ?_
   clear T; rintro e wc ⟨Au2, cu2, xsu2, Iu2, rfl, hvu2, hslu2, N⟩ ac T
   obtain ⟨bu2, ou2, SVu2⟩ := hslu2.spW (by rw [ic_length, Nat.mul_one])
   have Su2 := SVu2 w noEx
   replace M := (M.join N).swapI
   clear N
   replace M : Mem w noEx wc ((g2, .cells (jobL j A c)) :: (g1, .cells [.int .i64 0, .int .i64 0, .int .i64 0, .int .i64 0, .int .i64 0, .int .i64 0, .int .i64 0, .int .i64 0, .int .i64 0, .int .i64 0, .int .i64 0, .int .i64 0, .int .i64 0, .int .i64 0, .int .i64 0, .slice none 0 0, .int .i64 0, .int .i64 0]) :: (Iu1 ++ Iu2 ++ It)) := Mem.lastTwo (X := [(g2, .cells (jobL j A c)), (g1, .cells [.int .i64 0, .int .i64 0, .int .i64 0, .int .i64 0, .int .i64 0, .int .i64 0, .int .i64 0, .int .i64 0, .int .i64 0, .int .i64 0, .int .i64 0, .int .i64 0, .int .i64 0, .int .i64 0, .int .i64 0, .slice none 0 0, .int .i64 0, .int .i64 0])] ++ (Iu1)) (Y := It) (Z := Iu2) M
   obtain ⟨x0u2, x1u2, x2u2, x3u2, x4u2, x5u2, hNu2⟩ := six_of (o := (lineA tongueW 3 0 s)) hvu2 (fun ys hy => rd_len (k := 0) (by omega) hy)
   have hLu2 : (lineA tongueW 3 0 s).isSome = true → xsu2.length = 6 := fun h => by rw [(hNu2 h).2]; rfl
   have heu20 : (lineA tongueW 3 0 s).isSome = true → xsu2[0]? = some x0u2 := fun h => by rw [(hNu2 h).2]; rfl
   have heu21 : (lineA tongueW 3 0 s).isSome = true → xsu2[1]? = some x1u2 := fun h => by rw [(hNu2 h).2]; rfl
   have heu22 : (lineA tongueW 3 0 s).isSome = true → xsu2[2]? = some x2u2 := fun h => by rw [(hNu2 h).2]; rfl
   have heu23 : (lineA tongueW 3 0 s).isSome = true → xsu2[3]? = some x3u2 := fun h => by rw [(hNu2 h).2]; rfl
   have heu24 : (lineA tongueW 3 0 s).isSome = true → xsu2[4]? = some x4u2 := fun h => by rw [(hNu2 h).2]; rfl
   have heu25 : (lineA tongueW 3 0 s).isSome = true → xsu2[5]? = some x5u2 := fun h => by rw [(hNu2 h).2]; rfl
   refine Zg5 T (Zq (Zrm rfl (T.e 0 rfl))) rfl (Ze 0 rfl rfl rfl) rfl (Ze 1 rfl rfl rfl) rfl (Za 1 rfl rfl) rfl (Za 1 rfl rfl) rfl ?_; clear T ac; intro ac T
   replace T := T.pick [0, 1, 11, 12, 13, 14, 15] rfl
   refine Zln ?_
   refine Zsr ?_
   refine lq T (Zrm rfl (T.e 0 rfl)) ?_; clear T ac; intro ac T
   refine Zln ?_
   refine wp_cond_split (T.e 0 rfl) ?_ ?_
   ·intro h5
    have hLL := hLu2 h5
    refine wp_region_lit ?_
    refine lq T (Zrm rfl (T.e 2 rfl)) ?_; clear T ac; intro ac T
    refine Zl2 ?_
    refine Zoc (first := []) (cap := []) T rfl rfl rfl rfl evf (.cons (T.e 0 rfl) (.cons evc .nil)) Tryz.func58 rfl rfl ?_
    refine Calls.mono (at_any Au2 cu2 0 xsu2 x0u2 x1u2 _ (Su2.rd M (.cons _ (.cons _ (subL (Zsq _ _))))) (heu20 (by assumption)) (heu21 (by assumption)) (by omega)) ?_
    clear T; rintro e wc ⟨rfl, hb⟩ ac T
    replace M := M.call hb; clear hb
    refine lq T (Zrm rfl (T.e 4 rfl)) ?_; clear T ac; intro ac T
    refine Zl2 ?_
    refine Zoc (first := []) (cap := []) T rfl rfl rfl rfl evf (.cons (T.e 0 rfl) (.cons evc .nil)) Tryz.func58 rfl rfl ?_
    refine Calls.mono (at_any Au2 cu2 2 xsu2 x2u2 x3u2 _ (Su2.rd M (.cons _ (.cons _ (subL (Zsq _ _))))) (heu22 (by assumption)) (heu23 (by assumption)) (by omega)) ?_
    clear T; rintro e wc ⟨rfl, hb⟩ ac T
    replace M := M.call hb; clear hb
    refine lq T (Zrm rfl (T.e 6 rfl)) ?_; clear T ac; intro ac T
    refine Zl2 ?_
    refine Zoc (first := []) (cap := []) T rfl rfl rfl rfl evf (.cons (T.e 0 rfl) (.cons evc .nil)) Tryz.func58 rfl rfl ?_
    refine Calls.mono (at_any Au2 cu2 4 xsu2 x4u2 x5u2 _ (Su2.rd M (.cons _ (.cons _ (subL (Zsq _ _))))) (heu24 (by assumption)) (heu25 (by assumption)) (by omega)) ?_
    clear T; rintro e wc ⟨rfl, hb⟩ ac T
    replace M := M.call hb; clear hb
    refine Zg2 (v1 := (.pointer (some ⟨g2, 0, none⟩))) (v2 := (.pointer (some ⟨g2, 0, none⟩))) T (Zq (Zrf (off := 0) rfl (T.e 11 rfl) (fun _ _ _ => by kernel_rfl))) rfl (Zf 0 0 rfl rfl) rfl ?_; clear T ac; intro ac T
    refine Zl2 ?_
    refine Zos M T rfl rfl (T.e 0 rfl) (T.e 6 rfl) rfl .head rfl (by simp) rfl (by kernel_rfl) ?_; clear M T; intro wc ac M T
    refine Zg2 (v1 := (.pointer (some ⟨g2, 0, none⟩))) (v2 := (.pointer (some ⟨g2, 2, none⟩))) T (Zq (Zrf (off := 0) rfl (T.e 13 rfl) (fun _ _ _ => by kernel_rfl))) rfl (Zf 2 0 rfl rfl) rfl ?_; clear T ac; intro ac T
    refine Zl2 ?_
    refine Zos M T rfl rfl (T.e 0 rfl) (T.e 6 rfl) rfl .head rfl (by simp) rfl (by kernel_rfl) ?_; clear M T; intro wc ac M T
    refine Zg2 (v1 := (.pointer (some ⟨g2, 0, none⟩))) (v2 := (.pointer (some ⟨g2, 4, none⟩))) T (Zq (Zrf (off := 0) rfl (T.e 15 rfl) (fun _ _ _ => by kernel_rfl))) rfl (Zf 4 0 rfl rfl) rfl ?_; clear T ac; intro ac T
    refine Zl2 ?_
    refine Zos M T rfl rfl (T.e 0 rfl) (T.e 6 rfl) rfl .head rfl (by simp) rfl (by kernel_rfl) ?_; clear M T; intro wc ac M T
    refine wpList_nil ?_
    replace T := T.pick [13, 15, 16, 17, 18, 19] rfl
    refine Znb ?_
    refine nm_then ?_
    refine Zsr ?_
    refine Zg2 T (Zq (Zrm rfl (T.e 0 rfl))) rfl (fun _ T => Zq (rn_not rfl (T.e 0 rfl))) rfl ?_; clear T ac; intro ac T
    replace T := T.pick [0, 3, 4, 5, 6, 7] rfl
    refine Zln ?_
    refine wp_cond_false ((T.e 0 rfl).trans (congrArg Value.bool (by rw [show ((lineA tongueW 3 0 s).isSome) = true from h5]; try rfl))) ?_
    refine wp_skip ?_
    refine Znb ?_
    refine nm_then ?_
    refine wp_region_lit ?_
    refine Zg2 T (Zq (Zrm rfl (T.e 5 rfl))) rfl (fun _ T => Zq (rn_add rfl (T.e 0 rfl) evc (by omega))) rfl ?_; clear T ac; intro ac T
    refine l_q (v := (.int .i64 ((i : Int) + 1))) (T.pick [0, 1, 2, 3, 4, 5, 6] rfl) rfl rfl rfl rfl (Zra rfl (T.e 0 rfl)) ?_; clear T ac; intro ac T
    replace T := T.pick [0, 4, 5, 6, 7] rfl
    refine Zln ?_
    have hs9 := (hNu2 (by assumption)).1
    have hen : en = false := by assumption
    have hH := rl_0 hkd H hen (by omega) hs9
    have hjn : putK 0 [x0u2, x1u2, x2u2, x3u2, x4u2, x5u2] j = foldK (l ++ [(0, [x0u2, x1u2, x2u2, x3u2, x4u2, x5u2])]) zeroJ := by rw [foldK_snoc, ← hj]
    exact ⟨_, by omega, i + 1, en, (putK 0 [x0u2, x1u2, x2u2, x3u2, x4u2, x5u2] j), A, c, It, (l ++ [(0, [x0u2, x1u2, x2u2, x3u2, x4u2, x5u2])]), rfl, (by omega), (by rw [hen]; exact hH), hjn, hsl, (by show j.sh.length ≤ _; omega), T.pick [1, 2, 3, 4, 0] rfl, ((M.permT [0, 1] 2 rfl rfl rfl rfl).sub (.cons_cons _ (.cons_cons _ (((List.Sublist.refl _).trans (Zsl _ _)).append (List.Sublist.refl _)))))⟩
   intro h5
   refine wp_skip ?_
   refine Znb ?_
   refine nm_then ?_
   refine Zsr ?_
   refine Zg2 T (Zq (Zrm rfl (T.e 1 rfl))) rfl (fun _ T => Zq (rn_not rfl (T.e 0 rfl))) rfl ?_; clear T ac; intro ac T
   replace T := T.pick [0, 5, 6, 7, 8, 9] rfl
   refine Zln ?_
   refine wp_cond_true ((T.e 0 rfl).trans (congrArg Value.bool (by rw [show ((lineA tongueW 3 0 s).isSome) = false from h5]; try rfl))) ?_
   refine Zsr ?_
   refine Zg3 (v1 := (.agg #[.int .i64 0, .int .i64 0, .int .i64 0, .int .i64 0, .int .i64 0, .int .i64 0, .int .i64 0, .int .i64 0, .int .i64 0, .int .i64 0, .int .i64 0, .int .i64 0, .int .i64 0, .int .i64 0, .int .i64 0, .slice none 0 0, .int .i64 0, .int .i64 0])) T (Zq (rn_build rfl .nil (fun _ => by kernel_rfl))) rfl (Zm 6 rfl rfl) rfl (fun _ T => Zq (rn_add rfl (T.e 0 rfl) evc (by omega))) rfl ?_; clear T ac; intro ac T
   refine Zl2 ?_
   refine Zos M T rfl rfl (T.e 4 rfl) (T.e 2 rfl) rfl (.tail .head) rfl (by simp) rfl (by kernel_rfl) ?_; clear M T; intro wc ac M T
   refine Zg2 T (Zq (Zra rfl (T.e 0 rfl))) rfl (Zc rfl) rfl ?_; clear T ac; intro ac T
   refine wpList_nil ?_
   replace T := T.pick [0, 1, 6] rfl
   replace M := M.mask [false, true] rfl
   replace M : Mem w noEx wc ((g1, .cells [.int .i64 0, .int .i64 0, .int .i64 0, .int .i64 0, .int .i64 0, .int .i64 0, .int .i64 0, .int .i64 0, .int .i64 0, .int .i64 0, .int .i64 0, .int .i64 0, .int .i64 0, .int .i64 0, .int .i64 0, .slice none 0 0, .int .i64 0, .int .i64 0]) :: (Iu1 ++ Iu2 ++ It)) := M
   refine Znr ?_
   refine Zrb ?_
   refine Zrt ?_
   refine Zrt ?_
   refine Zrb ?_
   refine Zrt ?_
   refine rt_ctt M T rfl (T.e 2 rfl) (T.e 1 rfl) (T.e 0 rfl) (Zne (i := 0) rfl) rfl ?_
   have hb9 := by first | exact rl_en hkd H (by assumption) | exact rl_0n hkd H (by assumption) (by omega) (no_some (by assumption)) | exact rl_1n hkd H (by assumption) (by omega) (no_some (by assumption)) | exact rl_3n hkd H (by assumption) (by omega) (by omega) (no_some (by assumption)) (no_some (by assumption))
   exact ReadP.zero (by rw [readR_short (by omega), ← hlsu1, hb9]; rfl) M
  intro h4
  refine Zsr ?_
  refine Zg3 T (Zq (Zrm rfl (T.e 5 rfl))) rfl (fun _ T => Zq (rn_eql rfl (T.e 0 rfl) evc)) rfl (Za 0 rfl rfl) rfl ?_; clear T ac; intro ac T
  replace T := T.pick [0, 4, 5, 6, 7, 8] rfl
  refine Zln ?_
  refine wp_if (T.e 0 rfl) ?_ ?_
  ·intro h6
   refine Zsr ?_
   refine Zg4 T (Zq (Zrm rfl (T.e 2 rfl))) rfl (Zm 6 rfl rfl) rfl (fun _ T => Zq (Zri (size := 1) i rfl (T.e 1 rfl) (T.e 0 rfl) ⟨_, Tryz.underlying37, by kernel_rfl⟩ rfl (by omega) (Su1.at0 (by omega)))) rfl (fun _ T => Zq (rn_cell (Sp.stC0 Su1 M (.cons _ (.cons _ (subL (List.Sublist.refl _)))) hks) rfl (T.e 0 rfl))) rfl ?_; clear T ac; intro ac T
   refine Zl2 ?_
   refine Zoc (first := []) (cap := []) T rfl rfl rfl rfl evf (.cons (T.e 0 rfl) (.cons evc (.cons evc (.cons evc .nil)))) Tryz.func57 rfl rfl ?_
   refine Calls.mono (rnumbers_any s fileW 4 1 _ (by omega) (by omega) (by omega)) ?_
   clear T; rintro e wc ⟨Au6, cu6, xsu6, Iu6, rfl, hvu6, hslu6, N⟩ ac T
   obtain ⟨bu6, ou6, SVu6⟩ := hslu6.spW (by rw [ic_length, Nat.mul_one])
   have Su6 := SVu6 w noEx
   replace M := (M.join N).swapI
   clear N
   replace M : Mem w noEx wc ((g2, .cells (jobL j A c)) :: (g1, .cells [.int .i64 0, .int .i64 0, .int .i64 0, .int .i64 0, .int .i64 0, .int .i64 0, .int .i64 0, .int .i64 0, .int .i64 0, .int .i64 0, .int .i64 0, .int .i64 0, .int .i64 0, .int .i64 0, .int .i64 0, .slice none 0 0, .int .i64 0, .int .i64 0]) :: (Iu1 ++ Iu6 ++ It)) := Mem.lastTwo (X := [(g2, .cells (jobL j A c)), (g1, .cells [.int .i64 0, .int .i64 0, .int .i64 0, .int .i64 0, .int .i64 0, .int .i64 0, .int .i64 0, .int .i64 0, .int .i64 0, .int .i64 0, .int .i64 0, .int .i64 0, .int .i64 0, .int .i64 0, .int .i64 0, .slice none 0 0, .int .i64 0, .int .i64 0])] ++ (Iu1)) (Y := It) (Z := Iu6) M
   obtain ⟨x0u6, x1u6, x2u6, x3u6, x4u6, x5u6, x6u6, x7u6, x8u6, hNu6⟩ := nine_of (o := (lineA fileW 4 1 s)) hvu6 (fun ys hy => rd_len (k := 1) (by omega) hy)
   have hLu6 : (lineA fileW 4 1 s).isSome = true → xsu6.length = 9 := fun h => by rw [(hNu6 h).2]; rfl
   have heu60 : (lineA fileW 4 1 s).isSome = true → xsu6[0]? = some x0u6 := fun h => by rw [(hNu6 h).2]; rfl
   have heu61 : (lineA fileW 4 1 s).isSome = true → xsu6[1]? = some x1u6 := fun h => by rw [(hNu6 h).2]; rfl
   have heu62 : (lineA fileW 4 1 s).isSome = true → xsu6[2]? = some x2u6 := fun h => by rw [(hNu6 h).2]; rfl
   have heu63 : (lineA fileW 4 1 s).isSome = true → xsu6[3]? = some x3u6 := fun h => by rw [(hNu6 h).2]; rfl
   have heu64 : (lineA fileW 4 1 s).isSome = true → xsu6[4]? = some x4u6 := fun h => by rw [(hNu6 h).2]; rfl
   have heu65 : (lineA fileW 4 1 s).isSome = true → xsu6[5]? = some x5u6 := fun h => by rw [(hNu6 h).2]; rfl
   have heu66 : (lineA fileW 4 1 s).isSome = true → xsu6[6]? = some x6u6 := fun h => by rw [(hNu6 h).2]; rfl
   have heu67 : (lineA fileW 4 1 s).isSome = true → xsu6[7]? = some x7u6 := fun h => by rw [(hNu6 h).2]; rfl
   have heu68 : (lineA fileW 4 1 s).isSome = true → xsu6[8]? = some x8u6 := fun h => by rw [(hNu6 h).2]; rfl
   refine Zg5 T (Zq (Zrm rfl (T.e 0 rfl))) rfl (Ze 0 rfl rfl rfl) rfl (Ze 1 rfl rfl rfl) rfl (Za 1 rfl rfl) rfl (Za 1 rfl rfl) rfl ?_; clear T ac; intro ac T
   replace T := T.pick [0, 1, 11, 12, 13, 14, 15] rfl
   refine Zln ?_
   refine Zsr ?_
   refine lq T (Zrm rfl (T.e 0 rfl)) ?_; clear T ac; intro ac T
   refine Zln ?_
   refine wp_cond_split (T.e 0 rfl) ?_ ?_
   ·intro h7
    have hLL := hLu6 h7
    refine Zgs M (M.mask [false, true] rfl) 26 (by kernel_rfl) rfl (by kernel_rfl) ?_
    clear M; intro wc M
    refine g_addG 13 M ?_
    refine gq T 0 1 rfl (fun _ _ _ _ _ => (Zrm rfl (T.e 2 rfl))) ?_; clear T ac; intro ac T
    refine gq T 2 5 rfl (fun _ _ _ _ _ => (Zrm rfl (T.e 3 rfl))) ?_; clear T ac; intro ac T
    refine gq T 4 21 rfl (fun _ _ _ _ _ => (Zrm rfl (T.e 4 rfl))) ?_; clear T ac; intro ac T
    refine gq T 6 85 rfl (fun _ _ _ _ _ => (Zrm rfl (T.e 5 rfl))) ?_; clear T ac; intro ac T
    refine gq T 8 341 rfl (fun _ _ _ _ _ => (Zrm rfl (T.e 6 rfl))) ?_; clear T ac; intro ac T
    refine gq T 9 853 rfl (fun _ _ _ _ _ => (Zri (size := 1) 8 rfl (T.e 0 rfl) evc ⟨_, Tryz.underlying31, by kernel_rfl⟩ rfl (by omega) (Su6.at0 (by omega)))) ?_; clear T ac; intro ac T
    refine gq T 10 1877 rfl (fun B w' hD hl hS => (rn_cell (Sp.ic0 Su6 (show Mem w noEx w' _ from (MA.rgt hS)) (.cons _ (subL (Zsq _ _))) (heu68 (by assumption))) rfl (T.e 0 rfl))) ?_; clear T ac; intro ac T
    refine gw 1 1879 ?_; intro K hK
    refine Zoc (first := []) (cap := []) T rfl rfl rfl rfl evf (.cons (T.e 6 rfl) (.cons evc .nil)) Tryz.func58 rfl rfl ?_
    refine Calls.mono (at_any Au6 cu6 0 xsu6 x0u6 x1u6 _ (Su6.rd M (.cons _ (.cons _ (subL (Zsq _ _))))) (heu60 (by assumption)) (heu61 (by assumption)) (by omega)) ?_
    clear T; rintro e wc ⟨rfl, hb⟩ ac T
    replace M := M.call hb; clear hb
    refine Zso hK _ _ (MA.mk (fun _ => M.mask [true, true] rfl) (M.mask [false, true] rfl)) ?_; clear hK K
    refine gq (v := (.pointer (some ⟨g2, 6, none⟩))) T 11 3927 rfl (fun _ _ _ _ _ => (Zrf (off := 6) rfl (T.e 13 rfl) (fun _ _ _ => by kernel_rfl))) ?_; clear T ac; intro ac T
    refine gq (v := (.pointer (some ⟨g2, 6, none⟩))) T 12 8023 rfl (fun _ _ _ _ _ => (Zrf (off := 0) rfl (T.e 0 rfl) (fun _ _ _ => by kernel_rfl))) ?_; clear T ac; intro ac T
    refine gw 3 8031 ?_; intro K hK
    refine Zoc (first := []) (cap := []) T rfl rfl rfl rfl evf (.cons (T.e 8 rfl) (.cons evc .nil)) Tryz.func58 rfl rfl ?_
    refine Calls.mono (at_any Au6 cu6 2 xsu6 x2u6 x3u6 _ (Su6.rd M (.cons _ (.cons _ (subL (Zsq _ _))))) (heu62 (by assumption)) (heu63 (by assumption)) (by omega)) ?_
    clear T; rintro e wc ⟨rfl, hb⟩ ac T
    replace M := M.call hb; clear hb
    refine Zso hK _ _ (MA.mk (fun _ => M.mask [true, true] rfl) (M.mask [false, true] rfl)) ?_; clear hK K
    refine gw 5 8063 ?_; intro K hK
    refine Zoc (first := []) (cap := []) T rfl rfl rfl rfl evf (.cons (T.e 8 rfl) (.cons evc .nil)) Tryz.func58 rfl rfl ?_
    refine Calls.mono (at_any Au6 cu6 4 xsu6 x4u6 x5u6 _ (Su6.rd M (.cons _ (.cons _ (subL (Zsq _ _))))) (heu64 (by assumption)) (heu65 (by assumption)) (by omega)) ?_
    clear T; rintro e wc ⟨rfl, hb⟩ ac T
    replace M := M.call hb; clear hb
    refine Zso hK _ _ (MA.mk (fun _ => M.mask [true, true] rfl) (M.mask [false, true] rfl)) ?_; clear hK K
    refine gw 7 8191 ?_; intro K hK
    refine Zoc (first := []) (cap := []) T rfl rfl rfl rfl evf (.cons (T.e 8 rfl) (.cons evc .nil)) Tryz.func58 rfl rfl ?_
    refine Calls.mono (at_any Au6 cu6 6 xsu6 x6u6 x7u6 _ (Su6.rd M (.cons _ (.cons _ (subL (Zsq _ _))))) (heu66 (by assumption)) (heu67 (by assumption)) (by omega)) ?_
    clear T; rintro e wc ⟨rfl, hb⟩ ac T
    replace M := M.call hb; clear hb
    refine Zso hK _ _ (MA.mk (fun _ => M.mask [true, true] rfl) (M.mask [false, true] rfl)) ?_; clear hK K
    refine gw 13 16383 ?_; intro K hK
    refine Zos M T rfl rfl (T.e 3 rfl) (T.e 5 rfl) rfl .head rfl (by simp) rfl (by kernel_rfl) ?_; clear M T; intro wc ac M T
    refine Zso hK _ _ (MA.mk (fun h => (no_of (by kernel_rfl) h).elim) (M.mask [false, true] rfl)) ?_; clear hK K
    refine gq (v := (.pointer (some ⟨g2, 6, none⟩))) T 14 32767 rfl (fun _ _ _ _ _ => (Zrf (off := 6) rfl (T.e 18 rfl) (fun _ _ _ => by kernel_rfl))) ?_; clear T ac; intro ac T
    refine gq (v := (.pointer (some ⟨g2, 8, none⟩))) T 15 65535 rfl (fun _ _ _ _ _ => (Zrf (off := 2) rfl (T.e 0 rfl) (fun _ _ _ => by kernel_rfl))) ?_; clear T ac; intro ac T
    refine gw 16 131071 ?_; intro K hK
    refine Zos M T rfl rfl (T.e 0 rfl) (T.e 4 rfl) rfl .head rfl (by simp) rfl (by kernel_rfl) ?_; clear M T; intro wc ac M T
    refine Zso hK _ _ (MA.mk (fun h => (no_of (by kernel_rfl) h).elim) (M.mask [false, true] rfl)) ?_; clear hK K
    refine gq (v := (.pointer (some ⟨g2, 6, none⟩))) T 17 262143 rfl (fun _ _ _ _ _ => (Zrf (off := 6) rfl (T.e 20 rfl) (fun _ _ _ => by kernel_rfl))) ?_; clear T ac; intro ac T
    refine gq (v := (.pointer (some ⟨g2, 10, none⟩))) T 18 524287 rfl (fun _ _ _ _ _ => (Zrf (off := 4) rfl (T.e 0 rfl) (fun _ _ _ => by kernel_rfl))) ?_; clear T ac; intro ac T
    refine gw 19 1048575 ?_; intro K hK
    refine Zos M T rfl rfl (T.e 0 rfl) (T.e 5 rfl) rfl .head rfl (by simp) rfl (by kernel_rfl) ?_; clear M T; intro wc ac M T
    refine Zso hK _ _ (MA.mk (fun h => (no_of (by kernel_rfl) h).elim) (M.mask [false, true] rfl)) ?_; clear hK K
    refine gq (v := (.pointer (some ⟨g2, 6, none⟩))) T 20 2097151 rfl (fun _ _ _ _ _ => (Zrf (off := 6) rfl (T.e 22 rfl) (fun _ _ _ => by kernel_rfl))) ?_; clear T ac; intro ac T
    refine gq (v := (.pointer (some ⟨g2, 12, none⟩))) T 21 4194303 rfl (fun _ _ _ _ _ => (Zrf (off := 6) rfl (T.e 0 rfl) (fun _ _ _ => by kernel_rfl))) ?_; clear T ac; intro ac T
    refine gw 22 8388607 ?_; intro K hK
    refine Zos M T rfl rfl (T.e 0 rfl) (T.e 6 rfl) rfl .head rfl (by simp) rfl (by kernel_rfl) ?_; clear M T; intro wc ac M T
    refine Zso hK _ _ (MA.mk (fun h => (no_of (by kernel_rfl) h).elim) (M.mask [false, true] rfl)) ?_; clear hK K
    refine gq (v := (.pointer (some ⟨g2, 6, none⟩))) T 23 16777215 rfl (fun _ _ _ _ _ => (Zrf (off := 6) rfl (T.e 24 rfl) (fun _ _ _ => by kernel_rfl))) ?_; clear T ac; intro ac T
    refine gq (v := (.pointer (some ⟨g2, 14, none⟩))) T 24 33554431 rfl (fun _ _ _ _ _ => (Zrf (off := 8) rfl (T.e 0 rfl) (fun _ _ _ => by kernel_rfl))) ?_; clear T ac; intro ac T
    refine gw 25 67108863 ?_; intro K hK
    refine Zos M T rfl rfl (T.e 0 rfl) (T.e 14 rfl) rfl .head rfl (by simp) rfl (by kernel_rfl) ?_; clear M T; intro wc ac M T
    refine Zso hK _ _ (MA.mk (fun h => (no_of (by kernel_rfl) h).elim) (M.mask [false, true] rfl)) ?_; clear hK K
    refine Zgd (by kernel_rfl) ?_
    replace T := T.pick [22, 24, 25, 26, 27, 28] rfl
    refine Znb ?_
    refine nm_then ?_
    refine Zsr ?_
    refine Zg2 T (Zq (Zrm rfl (T.e 0 rfl))) rfl (fun _ T => Zq (rn_not rfl (T.e 0 rfl))) rfl ?_; clear T ac; intro ac T
    replace T := T.pick [0, 3, 4, 5, 6, 7] rfl
    refine Zln ?_
    refine wp_cond_false ((T.e 0 rfl).trans (congrArg Value.bool (by rw [show ((lineA fileW 4 1 s).isSome) = true from h7]; try rfl))) ?_
    refine wp_skip ?_
    refine Znb ?_
    refine nm_then ?_
    refine wp_region_lit ?_
    refine Zg2 T (Zq (Zrm rfl (T.e 5 rfl))) rfl (fun _ T => Zq (rn_add rfl (T.e 0 rfl) evc (by omega))) rfl ?_; clear T ac; intro ac T
    refine l_q (v := (.int .i64 ((i : Int) + 1))) (T.pick [0, 1, 2, 3, 4, 5, 6] rfl) rfl rfl rfl rfl (Zra rfl (T.e 0 rfl)) ?_; clear T ac; intro ac T
    replace T := T.pick [0, 4, 5, 6, 7] rfl
    refine Zln ?_
    have hs9 := (hNu6 (by assumption)).1
    have hen : en = false := by assumption
    have hH := rl_1 hkd H hen (by omega) hs9
    have hjn : putK 1 [x0u6, x1u6, x2u6, x3u6, x4u6, x5u6, x6u6, x7u6, x8u6] j = foldK (l ++ [(1, [x0u6, x1u6, x2u6, x3u6, x4u6, x5u6, x6u6, x7u6, x8u6])]) zeroJ := by rw [foldK_snoc, ← hj]
    exact ⟨_, by omega, i + 1, en, (putK 1 [x0u6, x1u6, x2u6, x3u6, x4u6, x5u6, x6u6, x7u6, x8u6] j), A, c, It, (l ++ [(1, [x0u6, x1u6, x2u6, x3u6, x4u6, x5u6, x6u6, x7u6, x8u6])]), rfl, (by omega), (by rw [hen]; exact hH), hjn, hsl, (by show j.sh.length ≤ _; omega), T.pick [1, 2, 3, 4, 0] rfl, ((M.permT [0, 1] 2 rfl rfl rfl rfl).sub (.cons_cons _ (.cons_cons _ (((List.Sublist.refl _).trans (Zsl _ _)).append (List.Sublist.refl _)))))⟩
   intro h7
   refine wp_skip ?_
   refine Znb ?_
   refine nm_then ?_
   refine Zsr ?_
   refine Zg2 T (Zq (Zrm rfl (T.e 1 rfl))) rfl (fun _ T => Zq (rn_not rfl (T.e 0 rfl))) rfl ?_; clear T ac; intro ac T
   replace T := T.pick [0, 5, 6, 7, 8, 9] rfl
   refine Zln ?_
   refine wp_cond_true ((T.e 0 rfl).trans (congrArg Value.bool (by rw [show ((lineA fileW 4 1 s).isSome) = false from h7]; try rfl))) ?_
   refine Zsr ?_
   refine Zg3 (v1 := (.agg #[.int .i64 0, .int .i64 0, .int .i64 0, .int .i64 0, .int .i64 0, .int .i64 0, .int .i64 0, .int .i64 0, .int .i64 0, .int .i64 0, .int .i64 0, .int .i64 0, .int .i64 0, .int .i64 0, .int .i64 0, .slice none 0 0, .int .i64 0, .int .i64 0])) T (Zq (rn_build rfl .nil (fun _ => by kernel_rfl))) rfl (Zm 6 rfl rfl) rfl (fun _ T => Zq (rn_add rfl (T.e 0 rfl) evc (by omega))) rfl ?_; clear T ac; intro ac T
   refine Zl2 ?_
   refine Zos M T rfl rfl (T.e 4 rfl) (T.e 2 rfl) rfl (.tail .head) rfl (by simp) rfl (by kernel_rfl) ?_; clear M T; intro wc ac M T
   refine Zg2 T (Zq (Zra rfl (T.e 0 rfl))) rfl (Zc rfl) rfl ?_; clear T ac; intro ac T
   refine wpList_nil ?_
   replace T := T.pick [0, 1, 6] rfl
   replace M := M.mask [false, true] rfl
   replace M : Mem w noEx wc ((g1, .cells [.int .i64 0, .int .i64 0, .int .i64 0, .int .i64 0, .int .i64 0, .int .i64 0, .int .i64 0, .int .i64 0, .int .i64 0, .int .i64 0, .int .i64 0, .int .i64 0, .int .i64 0, .int .i64 0, .int .i64 0, .slice none 0 0, .int .i64 0, .int .i64 0]) :: (Iu1 ++ Iu6 ++ It)) := M
   refine Znr ?_
   refine Zrb ?_
   refine Zrt ?_
   refine Zrt ?_
   refine Zrb ?_
   refine Zrt ?_
   refine rt_ctt M T rfl (T.e 2 rfl) (T.e 1 rfl) (T.e 0 rfl) (Zne (i := 0) rfl) rfl ?_
   have hb9 := by first | exact rl_en hkd H (by assumption) | exact rl_0n hkd H (by assumption) (by omega) (no_some (by assumption)) | exact rl_1n hkd H (by assumption) (by omega) (no_some (by assumption)) | exact rl_3n hkd H (by assumption) (by omega) (by omega) (no_some (by assumption)) (no_some (by assumption))
   exact ReadP.zero (by rw [readR_short (by omega), ← hlsu1, hb9]; rfl) M
  intro h6
  refine Zsr ?_
  refine Zg4 T (Zq (Zrm rfl (T.e 2 rfl))) rfl (Zm 6 rfl rfl) rfl (fun _ T => Zq (Zri (size := 1) i rfl (T.e 1 rfl) (T.e 0 rfl) ⟨_, Tryz.underlying37, by kernel_rfl⟩ rfl (by omega) (Su1.at0 (by omega)))) rfl (fun _ T => Zq (rn_cell (Sp.stC0 Su1 M (.cons _ (.cons _ (subL (List.Sublist.refl _)))) hks) rfl (T.e 0 rfl))) rfl ?_; clear T ac; intro ac T
  refine Zl2 ?_
  refine Zoc (first := []) (cap := []) T rfl rfl rfl rfl evf (.cons (T.e 0 rfl) (.cons evc (.cons evc (.cons evc .nil)))) Tryz.func57 rfl rfl ?_
  refine Calls.mono (rnumbers_any s shiftW 1 0 _ (by omega) (by omega) (by omega)) ?_
  clear T; rintro e wc ⟨Au11, cu11, xsu11, Iu11, rfl, hvu11, hslu11, N⟩ ac T
  obtain ⟨bu11, ou11, SVu11⟩ := hslu11.spW (by rw [ic_length, Nat.mul_one])
  have Su11 := SVu11 w noEx
  replace M := (M.join N).swapI
  clear N
  replace M : Mem w noEx wc ((g2, .cells (jobL j A c)) :: (g1, .cells [.int .i64 0, .int .i64 0, .int .i64 0, .int .i64 0, .int .i64 0, .int .i64 0, .int .i64 0, .int .i64 0, .int .i64 0, .int .i64 0, .int .i64 0, .int .i64 0, .int .i64 0, .int .i64 0, .int .i64 0, .slice none 0 0, .int .i64 0, .int .i64 0]) :: (Iu1 ++ Iu11 ++ It)) := Mem.lastTwo (X := [(g2, .cells (jobL j A c)), (g1, .cells [.int .i64 0, .int .i64 0, .int .i64 0, .int .i64 0, .int .i64 0, .int .i64 0, .int .i64 0, .int .i64 0, .int .i64 0, .int .i64 0, .int .i64 0, .int .i64 0, .int .i64 0, .int .i64 0, .int .i64 0, .slice none 0 0, .int .i64 0, .int .i64 0])] ++ (Iu1)) (Y := It) (Z := Iu11) M
  obtain ⟨x0u11, x1u11, hNu11⟩ := two_of (o := (lineA shiftW 1 0 s)) hvu11 (fun ys hy => rd_len (k := 2) (by omega) hy)
  have hLu11 : (lineA shiftW 1 0 s).isSome = true → xsu11.length = 2 := fun h => by rw [(hNu11 h).2]; rfl
  have heu110 : (lineA shiftW 1 0 s).isSome = true → xsu11[0]? = some x0u11 := fun h => by rw [(hNu11 h).2]; rfl
  have heu111 : (lineA shiftW 1 0 s).isSome = true → xsu11[1]? = some x1u11 := fun h => by rw [(hNu11 h).2]; rfl
  refine Zg5 T (Zq (Zrm rfl (T.e 0 rfl))) rfl (Ze 0 rfl rfl rfl) rfl (Ze 1 rfl rfl rfl) rfl (Za 1 rfl rfl) rfl (Za 1 rfl rfl) rfl ?_; clear T ac; intro ac T
  replace T := T.pick [0, 1, 11, 12, 13, 14, 15] rfl
  refine Zln ?_
  refine Zsr ?_
  refine lq T (Zrm rfl (T.e 0 rfl)) ?_; clear T ac; intro ac T
  refine Zln ?_
  refine wp_cond_split (T.e 0 rfl) ?_ ?_
  ·intro h8
   have hLL := hLu11 h8
   refine Zgs M (M.perm [1] rfl rfl) 8 (by kernel_rfl) rfl (by kernel_rfl) ?_
   clear M; intro wc M
   refine g_addG 7 ((M.mask [true, true] rfl).sub (List.Sublist.cons_cons _ (List.Sublist.cons_cons _ (Zsl _ _)))) ?_
   refine gq (v := (.pointer (some ⟨g2, 15, none⟩))) T 0 1 rfl (fun _ _ _ _ _ => (Zrf (off := 15) rfl (T.e 5 rfl) (fun _ _ _ => by kernel_rfl))) ?_; clear T ac; intro ac T
   refine gq T 1 3 rfl (fun B w' hD hl hS => (Zro (Mem.nth (show Mem w noEx w' _ from ((MA.lft hS) (hD.wait (i := 1) (m := 7) (by kernel_rfl) hl))) 0 rfl) rfl (T.e 0 rfl) rfl)) ?_; clear T ac; intro ac T
   refine gq T 2 7 rfl (fun _ _ _ _ _ => (Zrm rfl (T.e 4 rfl))) ?_; clear T ac; intro ac T
   refine gw 3 15 ?_; intro K hK
   refine Zoc (first := []) (cap := []) T rfl rfl rfl rfl evf (.cons (T.e 0 rfl) (.cons evc .nil)) Tryz.func58 rfl rfl ?_
   refine Calls.mono (at_any Au11 cu11 0 xsu11 x0u11 x1u11 _ (Su11.rd M (.cons _ (.cons _ (subL (Zsq _ _))))) (heu110 (by assumption)) (heu111 (by assumption)) (by omega)) ?_
   clear T; rintro e wc ⟨rfl, hb⟩ ac T
   replace M := M.call hb; clear hb
   refine Zso hK _ _ (MA.mk (fun _ => (M.mask [true, true] rfl).sub (List.Sublist.cons_cons _ (List.Sublist.cons_cons _ (Zsl _ _)))) (M.perm [1] rfl rfl)) ?_; clear hK K
   refine gw 4 31 ?_; intro K hK
   refine ow_bs (e := 23) [.int .i64 x0u11, .int .i64 x1u11] M T rfl rfl rfl rfl (.cons (T.e 0 rfl) .nil) (fun _ => by kernel_rfl) ?_; clear M T; intro g3 wc ac M T
   refine Zso hK _ _ (MA.mk (fun _ => (M.mask [false, true, true] rfl).sub (List.Sublist.cons_cons _ (List.Sublist.cons_cons _ (Zsl _ _)))) (M.perm [2] rfl rfl)) ?_; clear hK K
   refine gw 5 63 ?_; intro K hK
   refine ow_app (((g3, .cells [.int .i64 x0u11, .int .i64 x1u11]) :: (g2, .cells (jobL j A c)) :: (g1, .cells [.int .i64 0, .int .i64 0, .int .i64 0, .int .i64 0, .int .i64 0, .int .i64 0, .int .i64 0, .int .i64 0, .int .i64 0, .int .i64 0, .int .i64 0, .int .i64 0, .int .i64 0, .int .i64 0, .int .i64 0, .slice none 0 0, .int .i64 0, .int .i64 0]) :: (Iu1 ++ Iu11))) Tryz.info23 hsl M (by first | rfl | simp) T rfl rfl rfl rfl Tryz.underlying28 rfl rfl rfl (by omega) (T.e 3 rfl) (T.e 0 rfl) (Zne (i := 0) rfl) rfl rfl ?_; clear M T; intro ga1 cga1 wc ac M T
   refine Zso hK _ _ (MA.mk (fun _ => M.mask [false, false, true, true] rfl) (M.perm [3] rfl rfl)) ?_; clear hK K
   refine gq (v := (.pointer (some ⟨g2, 15, none⟩))) T 6 127 rfl (fun _ _ _ _ _ => (Zrf (off := 15) rfl (T.e 11 rfl) (fun _ _ _ => by kernel_rfl))) ?_; clear T ac; intro ac T
   refine gw 7 255 ?_; intro K hK
   refine Zos M T rfl rfl (T.e 0 rfl) (T.e 1 rfl) rfl (.tail (.tail .head)) rfl (by simp) rfl (by kernel_rfl) ?_; clear M T; intro wc ac M T
   refine Zso hK _ _ (MA.mk (fun h => (no_of (by kernel_rfl) h).elim) (M.perm [3] rfl rfl)) ?_; clear hK K
   refine Zgd (by kernel_rfl) ?_
   replace T := T.pick [8, 10, 11, 12, 13, 14] rfl
   replace M := M.mask [true, false, true, true] rfl
   refine Znb ?_
   refine nm_then ?_
   refine Zsr ?_
   refine Zg2 T (Zq (Zrm rfl (T.e 0 rfl))) rfl (fun _ T => Zq (rn_not rfl (T.e 0 rfl))) rfl ?_; clear T ac; intro ac T
   replace T := T.pick [0, 3, 4, 5, 6, 7] rfl
   refine Zln ?_
   refine wp_cond_false ((T.e 0 rfl).trans (congrArg Value.bool (by rw [show ((lineA shiftW 1 0 s).isSome) = true from h8]; try rfl))) ?_
   refine wp_skip ?_
   refine Znb ?_
   refine nm_then ?_
   refine wp_region_lit ?_
   refine Zg2 T (Zq (Zrm rfl (T.e 5 rfl))) rfl (fun _ T => Zq (rn_add rfl (T.e 0 rfl) evc (by omega))) rfl ?_; clear T ac; intro ac T
   refine l_q (v := (.int .i64 ((i : Int) + 1))) (T.pick [0, 1, 2, 3, 4, 5, 6] rfl) rfl rfl rfl rfl (Zra rfl (T.e 0 rfl)) ?_; clear T ac; intro ac T
   replace T := T.pick [0, 4, 5, 6, 7] rfl
   refine Zln ?_
   have hs9 := (hNu11 (by assumption)).1
   have hen : en = false := by assumption
   have hH := rl_2 hkd H hen (by omega) (by omega) hs9
   have hjn : putK 2 [x0u11, x1u11] j = foldK (l ++ [(2, [x0u11, x1u11])]) zeroJ := by rw [foldK_snoc, ← hj]
   have e9 : j.sh.length + 1 = (j.sh ++ [(x0u11, x1u11)]).length := by simp
   have e8 : ((rc j.sh) ++ [.int .i64 x0u11, .int .i64 x1u11]) = rc (j.sh ++ [(x0u11, x1u11)]) := by first | rw [rc_snoc] | rw [← rc_snoc]
   rw [e9, e8] at M
   clear e9 e8
   exact ⟨_, by omega, i + 1, en, (putK 2 [x0u11, x1u11] j), (some ⟨ga1, 0, none⟩), _, [(ga1, .row 23 2 (j.sh ++ [(x0u11, x1u11)]).length (rc (j.sh ++ [(x0u11, x1u11)])) cga1)], (l ++ [(2, [x0u11, x1u11])]), rfl, (by omega), (by rw [hen]; exact hH), hjn, (Sl.row _ _ _ _ _ _), (by show (j.sh ++ [_]).length ≤ _; rw [List.length_append, List.length_cons, List.length_nil]; omega), T.pick [1, 2, 3, 4, 0] rfl, ((Mem.spinW [(g2, .cells [.int .i64 j.p0, .int .i64 j.p1, .int .i64 j.t0, .int .i64 j.t1, .int .i64 j.r0, .int .i64 j.r1, .int .i64 j.u0, .int .i64 j.u1, .int .i64 j.d0, .int .i64 j.d1, .int .i64 j.a0, .int .i64 j.a1, .int .i64 j.b0, .int .i64 j.b1, .int .i64 j.le, .slice (some ⟨ga1, 0, none⟩) (j.sh ++ [(x0u11, x1u11)]).length cga1, .int .i64 j.wi, .int .i64 j.me]), (g1, .cells [.int .i64 0, .int .i64 0, .int .i64 0, .int .i64 0, .int .i64 0, .int .i64 0, .int .i64 0, .int .i64 0, .int .i64 0, .int .i64 0, .int .i64 0, .int .i64 0, .int .i64 0, .int .i64 0, .int .i64 0, .slice none 0 0, .int .i64 0, .int .i64 0])] [(ga1, .row 23 2 (j.sh ++ [(x0u11, x1u11)]).length (rc (j.sh ++ [(x0u11, x1u11)])) cga1)] (Iu1 ++ Iu11) (M.permT [1, 2, 0] 3 rfl rfl rfl rfl)).sub (.cons_cons _ (.cons_cons _ (((List.Sublist.refl _).trans (Zsl _ _)).append (List.Sublist.refl _)))))⟩
  intro h8
  refine Zsr ?_
  refine Zg4 T (Zq (Zrm rfl (T.e 4 rfl))) rfl (Zm 8 rfl rfl) rfl (fun _ T => Zq (Zri (size := 1) i rfl (T.e 1 rfl) (T.e 0 rfl) ⟨_, Tryz.underlying37, by kernel_rfl⟩ rfl (by omega) (Su1.at0 (by omega)))) rfl (fun _ T => Zq (rn_cell (Sp.stC0 Su1 M (.cons _ (.cons _ (subL (subL (List.Sublist.refl _))))) hks) rfl (T.e 0 rfl))) rfl ?_; clear T ac; intro ac T
  refine Zl2 ?_
  refine Zoc (first := []) (cap := []) T rfl rfl rfl rfl evf (.cons (T.e 0 rfl) (.cons evc (.cons evc (.cons evc .nil)))) Tryz.func57 rfl rfl ?_
  refine Calls.mono (rnumbers_any s passW 0 2 _ (by omega) (by omega) (by omega)) ?_
  clear T; rintro e wc ⟨Au13, cu13, xsu13, Iu13, rfl, hvu13, hslu13, N⟩ ac T
  obtain ⟨bu13, ou13, SVu13⟩ := hslu13.spW (by rw [ic_length, Nat.mul_one])
  have Su13 := SVu13 w noEx
  replace M := (M.join N).swapI
  clear N
  replace M : Mem w noEx wc ((g2, .cells (jobL j A c)) :: (g1, .cells [.int .i64 0, .int .i64 0, .int .i64 0, .int .i64 0, .int .i64 0, .int .i64 0, .int .i64 0, .int .i64 0, .int .i64 0, .int .i64 0, .int .i64 0, .int .i64 0, .int .i64 0, .int .i64 0, .int .i64 0, .slice none 0 0, .int .i64 0, .int .i64 0]) :: (Iu1 ++ Iu11 ++ Iu13 ++ It)) := Mem.lastTwo (X := [(g2, .cells (jobL j A c)), (g1, .cells [.int .i64 0, .int .i64 0, .int .i64 0, .int .i64 0, .int .i64 0, .int .i64 0, .int .i64 0, .int .i64 0, .int .i64 0, .int .i64 0, .int .i64 0, .int .i64 0, .int .i64 0, .int .i64 0, .int .i64 0, .slice none 0 0, .int .i64 0, .int .i64 0])] ++ (Iu1 ++ Iu11)) (Y := It) (Z := Iu13) M
  obtain ⟨x0u13, x1u13, hNu13⟩ := two_of (o := (lineA passW 0 2 s)) hvu13 (fun ys hy => rd_len (k := 3) (by omega) hy)
  have hLu13 : (lineA passW 0 2 s).isSome = true → xsu13.length = 2 := fun h => by rw [(hNu13 h).2]; rfl
  have heu130 : (lineA passW 0 2 s).isSome = true → xsu13[0]? = some x0u13 := fun h => by rw [(hNu13 h).2]; rfl
  have heu131 : (lineA passW 0 2 s).isSome = true → xsu13[1]? = some x1u13 := fun h => by rw [(hNu13 h).2]; rfl
  refine Zg3 T (Zq (Zrm rfl (T.e 0 rfl))) rfl (Ze 0 rfl rfl rfl) rfl (Ze 1 rfl rfl rfl) rfl ?_; clear T ac; intro ac T
  refine l_q (v := (.slice Au13 xsu13.length cu13)) (T.pick [0, 1, 2, 3, 4, 5, 6, 7, 8, 9, 11, 12, 13, 14, 15] rfl) rfl rfl rfl rfl (Zra rfl (T.e 1 rfl)) ?_; clear T ac; intro ac T
  refine l_q (v := (.bool ((lineA passW 0 2 s).isSome))) (T.pick [0, 1, 2, 3, 4, 5, 6, 7, 8, 9, 11, 12, 13, 14, 15] rfl) rfl rfl rfl rfl (Zra rfl (T.e 1 rfl)) ?_; clear T ac; intro ac T
  replace T := T.pick [0, 1, 11, 12, 13, 14, 15] rfl
  refine Zln ?_
  refine Zsr ?_
  refine lq T (Zrm rfl (T.e 0 rfl)) ?_; clear T ac; intro ac T
  refine Zln ?_
  refine wp_cond_split (T.e 0 rfl) ?_ ?_
  ·intro h9
   have hLL := hLu13 h9
   refine wp_seq ?_
   refine Zgs M (M.mask [false, true] rfl) 10 (by kernel_rfl) rfl (by kernel_rfl) ?_
   clear M; intro wc M
   refine g_addG 7 M ?_
   refine gq T 0 1 rfl (fun _ _ _ _ _ => (Zrm rfl (T.e 2 rfl))) ?_; clear T ac; intro ac T
   refine gq T 1 3 rfl (fun _ _ _ _ _ => (Zri (size := 1) 0 rfl (T.e 0 rfl) evc ⟨_, Tryz.underlying31, by kernel_rfl⟩ rfl (by omega) (Su13.at0 (by omega)))) ?_; clear T ac; intro ac T
   refine gq T 2 7 rfl (fun B w' hD hl hS => (rn_cell (Sp.ic0 Su13 (show Mem w noEx w' _ from ((MA.lft hS) (hD.wait (i := 2) (m := 7) (by kernel_rfl) hl))) (.cons _ (.cons _ (subL (Zsq _ _)))) (heu130 (by assumption))) rfl (T.e 0 rfl))) ?_; clear T ac; intro ac T
   refine gq T 3 15 rfl (fun _ _ _ _ _ => (Zrm rfl (T.e 5 rfl))) ?_; clear T ac; intro ac T
   refine gq T 4 31 rfl (fun _ _ _ _ _ => (Zri (size := 1) 1 rfl (T.e 0 rfl) evc ⟨_, Tryz.underlying31, by kernel_rfl⟩ rfl (by omega) (Su13.at0 (by omega)))) ?_; clear T ac; intro ac T
   refine gq T 5 63 rfl (fun B w' hD hl hS => (rn_cell (Sp.ic0 Su13 (show Mem w noEx w' _ from (MA.rgt hS)) (.cons _ (subL (Zsq _ _))) (heu131 (by assumption))) rfl (T.e 0 rfl))) ?_; clear T ac; intro ac T
   refine gq (v := (.pointer (some ⟨g2, 16, none⟩))) T 6 127 rfl (fun _ _ _ _ _ => (Zrf (off := 16) rfl (T.e 11 rfl) (fun _ _ _ => by kernel_rfl))) ?_; clear T ac; intro ac T
   refine gw 7 255 ?_; intro K hK
   refine Zos M T rfl rfl (T.e 0 rfl) (T.e 4 rfl) rfl .head rfl (by simp) rfl (by kernel_rfl) ?_; clear M T; intro wc ac M T
   refine Zso hK _ _ (MA.mk (fun h => (no_of (by kernel_rfl) h).elim) (M.mask [false, true] rfl)) ?_; clear hK K
   refine gq (v := (.pointer (some ⟨g2, 17, none⟩))) T 8 511 rfl (fun _ _ _ _ _ => (Zrf (off := 17) rfl (T.e 12 rfl) (fun _ _ _ => by kernel_rfl))) ?_; clear T ac; intro ac T
   refine gw 9 1023 ?_; intro K hK
   refine Zos M T rfl rfl (T.e 0 rfl) (T.e 2 rfl) rfl .head rfl (by simp) rfl (by kernel_rfl) ?_; clear M T; intro wc ac M T
   refine Zso hK _ _ (MA.mk (fun h => (no_of (by kernel_rfl) h).elim) (M.mask [false, true] rfl)) ?_; clear hK K
   refine Zgd (by kernel_rfl) ?_
   replace T := T.pick [9, 11, 12, 13, 15] rfl
   refine nm_then ?_
   refine wp_region_lit ?_
   refine lq T (Zra rfl evc) ?_; clear T ac; intro ac T
   refine wpList_nil ?_
   refine Znb ?_
   refine nm_then ?_
   refine Zsr ?_
   refine Zg2 T (Zq (Zrm rfl (T.e 1 rfl))) rfl (fun _ T => Zq (rn_not rfl (T.e 0 rfl))) rfl ?_; clear T ac; intro ac T
   replace T := T.pick [0, 2, 4, 5, 6, 7] rfl
   refine Zln ?_
   refine wp_cond_false ((T.e 0 rfl).trans (congrArg Value.bool (by rw [show ((lineA passW 0 2 s).isSome) = true from h9]; try rfl))) ?_
   refine wp_skip ?_
   refine Znb ?_
   refine nm_then ?_
   refine wp_region_lit ?_
   refine Zg2 T (Zq (Zrm rfl (T.e 5 rfl))) rfl (fun _ T => Zq (rn_add rfl (T.e 0 rfl) evc (by omega))) rfl ?_; clear T ac; intro ac T
   refine l_q (v := (.int .i64 ((i : Int) + 1))) (T.pick [0, 1, 2, 3, 4, 5, 6] rfl) rfl rfl rfl rfl (Zra rfl (T.e 0 rfl)) ?_; clear T ac; intro ac T
   replace T := T.pick [0, 4, 5, 6, 7] rfl
   refine Zln ?_
   have hs9 := (hNu13 (by assumption)).1
   have hen : en = false := by assumption
   have hH := rl_3 hkd H hen (by omega) (by omega) (no_some (by assumption)) hs9
   have hjn : putK 3 [x0u13, x1u13] j = foldK (l ++ [(3, [x0u13, x1u13])]) zeroJ := by rw [foldK_snoc, ← hj]
   exact ⟨_, by omega, i + 1, true, (putK 3 [x0u13, x1u13] j), A, c, It, (l ++ [(3, [x0u13, x1u13])]), rfl, (by omega), hH, hjn, hsl, (by show j.sh.length ≤ _; omega), T.pick [2, 3, 4, 1, 0] rfl, ((M.permT [0, 1] 2 rfl rfl rfl rfl).sub (.cons_cons _ (.cons_cons _ ((((List.Sublist.refl _).trans (Zsl _ _)).trans (Zsl _ _)).append (List.Sublist.refl _)))))⟩
  intro h9
  refine wp_skip ?_
  refine Znb ?_
  refine nm_then ?_
  refine Zsr ?_
  refine Zg2 T (Zq (Zrm rfl (T.e 1 rfl))) rfl (fun _ T => Zq (rn_not rfl (T.e 0 rfl))) rfl ?_; clear T ac; intro ac T
  replace T := T.pick [0, 5, 6, 7, 8, 9] rfl
  refine Zln ?_
  refine wp_cond_true ((T.e 0 rfl).trans (congrArg Value.bool (by rw [show ((lineA passW 0 2 s).isSome) = false from h9]; try rfl))) ?_
  refine Zsr ?_
  refine Zg3 (v1 := (.agg #[.int .i64 0, .int .i64 0, .int .i64 0, .int .i64 0, .int .i64 0, .int .i64 0, .int .i64 0, .int .i64 0, .int .i64 0, .int .i64 0, .int .i64 0, .int .i64 0, .int .i64 0, .int .i64 0, .int .i64 0, .slice none 0 0, .int .i64 0, .int .i64 0])) T (Zq (rn_build rfl .nil (fun _ => by kernel_rfl))) rfl (Zm 6 rfl rfl) rfl (fun _ T => Zq (rn_add rfl (T.e 0 rfl) evc (by omega))) rfl ?_; clear T ac; intro ac T
  refine Zl2 ?_
  refine Zos M T rfl rfl (T.e 4 rfl) (T.e 2 rfl) rfl (.tail .head) rfl (by simp) rfl (by kernel_rfl) ?_; clear M T; intro wc ac M T
  refine Zg2 T (Zq (Zra rfl (T.e 0 rfl))) rfl (Zc rfl) rfl ?_; clear T ac; intro ac T
  refine wpList_nil ?_
  replace T := T.pick [0, 1, 6] rfl
  replace M := M.mask [false, true] rfl
  replace M : Mem w noEx wc ((g1, .cells [.int .i64 0, .int .i64 0, .int .i64 0, .int .i64 0, .int .i64 0, .int .i64 0, .int .i64 0, .int .i64 0, .int .i64 0, .int .i64 0, .int .i64 0, .int .i64 0, .int .i64 0, .int .i64 0, .int .i64 0, .slice none 0 0, .int .i64 0, .int .i64 0]) :: (Iu1 ++ Iu11 ++ Iu13 ++ It)) := M
  refine Znr ?_
  refine Zrb ?_
  refine Zrt ?_
  refine Zrt ?_
  refine Zrb ?_
  refine Zrt ?_
  refine rt_ctt M T rfl (T.e 2 rfl) (T.e 1 rfl) (T.e 0 rfl) (Zne (i := 0) rfl) rfl ?_
  have hb9 := by first | exact rl_en hkd H (by assumption) | exact rl_0n hkd H (by assumption) (by omega) (no_some (by assumption)) | exact rl_1n hkd H (by assumption) (by omega) (no_some (by assumption)) | exact rl_3n hkd H (by assumption) (by omega) (by omega) (no_some (by assumption)) (no_some (by assumption))
  exact ReadP.zero (by rw [readR_short (by omega), ← hlsu1, hb9]; rfl) M
 intro h2
 obtain ⟨zl, hzl⟩ : ∃ q, lsu1[lsu1.length - 1]? = some q := ⟨_, List.getElem?_eq_getElem (by omega)⟩
 obtain ⟨bJ, oJ, SJ0⟩ := hsl.spW (rc_length _)
 have SJ := SJ0 w noEx
 rw [List.drop_of_length_le (by rw [List.length_dropLast]; omega)] at H
 replace H : RL false 0 lsu1.dropLast = .ok en l := by rw [H]; exact (app_ok l [] _).trans (by rw [List.append_nil])
 refine wp_exit ?_
 refine Zet ?_
 refine Zet ?_
 refine ex_hit ?_
 refine Zns ?_
 refine cut_seq (fun ac wc => Tm ac 143 [(2, .pointer (some ⟨g1, 0, none⟩)), (5, .slice Au1 lsu1.length cu1), (6, .pointer (some ⟨g2, 0, none⟩)), (132, .bool ((!en) || (!(decide (zl = ([]))))))] ∧ Mem w noEx wc ((g2, .cells (jobL j A c)) :: (g1, .cells [.int .i64 0, .int .i64 0, .int .i64 0, .int .i64 0, .int .i64 0, .int .i64 0, .int .i64 0, .int .i64 0, .int .i64 0, .int .i64 0, .int .i64 0, .int .i64 0, .int .i64 0, .int .i64 0, .int .i64 0, .slice none 0 0, .int .i64 0, .int .i64 0]) :: (Iu1 ++ It))) ?_ ?_
 ·refine wp_region_lit ?_
  refine Zg3 T (Zq (Zrm rfl (T.e 4 rfl))) rfl (fun _ T => Zq (rn_not rfl (T.e 0 rfl))) rfl (Zm 0 rfl rfl) rfl ?_; clear T ac; intro ac T
  rcases Bool.eq_false_or_eq_true (!en) with h10 | h10
  ·refine Zg8 T (Zp (Zwn rfl rfl (T.e 0 rfl) h10)) rfl (fun _ T => Zp (Zwn rfl rfl (T.e 1 rfl) h10)) rfl (fun _ T => Zp (Zwn rfl rfl (T.e 2 rfl) h10)) rfl (fun _ T => Zp (Zwn rfl rfl (T.e 3 rfl) h10)) rfl (fun _ T => Zp (Zwn rfl rfl (T.e 4 rfl) h10)) rfl (fun _ T => Zp (Zwn rfl rfl (T.e 5 rfl) h10)) rfl (fun _ T => Zp (Zwn rfl rfl (T.e 6 rfl) h10)) rfl (fun _ T => Zq (Zr1 rfl (T.e 7 rfl) h10 evc)) rfl ?_; clear T ac; intro ac T
   refine wpList_nil ?_
   replace T := T.pick [0, 12, 13, 14] rfl
   exact ⟨(T.pick (E' := [(2, .pointer (some ⟨g1, 0, none⟩)), (5, .slice Au1 lsu1.length cu1), (6, .pointer (some ⟨g2, 0, none⟩)), (132, .bool true)]) [1, 2, 3, 0] rfl).as (by (try rw [show (!en) = true from h10]); (try rfl)), M.mask [true, true] rfl⟩
  refine Zg8 T (Zw (Zwy rfl rfl (T.e 0 rfl) h10) (Zrm rfl (T.e 5 rfl))) rfl (fun _ T => Zw (Zwy rfl rfl (T.e 1 rfl) h10) (Zrm rfl (T.e 6 rfl))) rfl (fun _ T => Zw (Zwy rfl rfl (T.e 2 rfl) h10) (Zrl rfl Tryz.underlying37 (T.e 0 rfl))) rfl (fun _ T => Zw (Zwy rfl rfl (T.e 3 rfl) h10) (rn_sub rfl (T.e 0 rfl) evc (by omega))) rfl (fun _ T => Zw (Zwy rfl rfl (T.e 4 rfl) h10) (Zri (size := 1) (lsu1.length - 1) rfl (T.e 3 rfl) (T.e 0 rfl) ⟨_, Tryz.underlying37, by kernel_rfl⟩ (by omega) (by omega) (Su1.at0 (by omega)))) rfl (fun _ T => Zw (Zwy rfl rfl (T.e 5 rfl) h10) (rn_cell (Sp.stC0 Su1 M (.cons _ (.cons _ (subL (List.Sublist.refl _)))) hzl) rfl (T.e 0 rfl))) rfl (fun _ T => Zw (Zwy rfl rfl (T.e 6 rfl) h10) (rn_sneq rfl (T.e 0 rfl) evc)) rfl (fun _ T => Zq (Zr0 rfl (T.e 7 rfl) h10 (T.e 0 rfl))) rfl ?_; clear T ac; intro ac T
  refine wpList_nil ?_
  replace T := T.pick [0, 12, 13, 14] rfl
  exact ⟨(T.pick (E' := [(2, .pointer (some ⟨g1, 0, none⟩)), (5, .slice Au1 lsu1.length cu1), (6, .pointer (some ⟨g2, 0, none⟩)), (132, .bool (!(decide (zl = ([])))))]) [1, 2, 3, 0] rfl).as (by (try rw [show (!en) = false from h10]); (try rfl)), M.mask [true, true] rfl⟩
 clear T M
 rintro ac wc ⟨T, M⟩
 refine wp_cond_split (T.e 3 rfl) ?_ ?_
 ·intro h11
  (have h11' := h11; try simp only [Zb1, Zb2, Zb3, Zb4, Zb5, Zb6, Zb7] at h11')
  refine Zsr ?_
  refine Zg3 (v1 := (.agg #[.int .i64 0, .int .i64 0, .int .i64 0, .int .i64 0, .int .i64 0, .int .i64 0, .int .i64 0, .int .i64 0, .int .i64 0, .int .i64 0, .int .i64 0, .int .i64 0, .int .i64 0, .int .i64 0, .int .i64 0, .slice none 0 0, .int .i64 0, .int .i64 0])) T (Zq (rn_build rfl .nil (fun _ => by kernel_rfl))) rfl (Zm 2 rfl rfl) rfl (Zl Tryz.underlying37 0 rfl rfl) rfl ?_; clear T ac; intro ac T
  refine Zl2 ?_
  refine Zos M T rfl rfl (T.e 3 rfl) (T.e 2 rfl) rfl (.tail .head) rfl (by simp) rfl (by kernel_rfl) ?_; clear M T; intro wc ac M T
  refine Zg2 T (Zq (Zra rfl (T.e 0 rfl))) rfl (Zc rfl) rfl ?_; clear T ac; intro ac T
  refine wpList_nil ?_
  replace T := T.pick [0, 1, 5] rfl
  replace M := M.mask [false, true] rfl
  refine Znr ?_
  refine Zrt ?_
  refine rt_ctt M T rfl (T.e 2 rfl) (T.e 1 rfl) (T.e 0 rfl) (Zne (i := 0) rfl) rfl ?_
  have hb9 := endR_bad (l := l) hzl (or_bad2 (by assumption))
  exact ReadP.zero (by rw [readR_short (by omega), ← hlsu1, H, hb9]) M
 intro h11
 (have h11' := h11; try simp only [Zb1, Zb2, Zb3, Zb4, Zb5, Zb6, Zb7] at h11')
 refine Zsk ?_
 refine wp_seq ?_
 refine Zsr ?_
 refine lq T (Zrr (Mem.nth M 0 rfl) rfl (T.e 2 rfl) rfl) ?_; clear T ac; intro ac T
 refine Zl2 ?_
 refine Zoc (first := []) (cap := []) T rfl rfl rfl rfl evf (.cons (T.e 0 rfl) .nil) Tryz.func49 rfl rfl ?_
 refine Calls.mono (rCheck_any j _ _ _ (SJ.rd M (.cons _ (.cons _ (Zsq _ _)))) (by omega)) ?_
 clear T; rintro e wc ⟨rfl, hb⟩ ac T
 replace M := M.call hb; clear hb
 refine lq T (Zra rfl (T.e 0 rfl)) ?_; clear T ac; intro ac T
 replace T := T.pick [0, 3, 5] rfl
 refine Zln ?_
 refine Zsr ?_
 refine Zg2 T (Zq (Zrm rfl (T.e 0 rfl))) rfl (fun _ T => Zq (rn_neq rfl (T.e 0 rfl) evc)) rfl ?_; clear T ac; intro ac T
 replace T := T.pick [0, 2, 3, 4] rfl
 refine Zln ?_
 refine wp_ifn (T.e 0 rfl) ?_ ?_
 ·intro h12
  refine Zsr ?_
  refine Zg2 (v1 := (.agg #[.int .i64 0, .int .i64 0, .int .i64 0, .int .i64 0, .int .i64 0, .int .i64 0, .int .i64 0, .int .i64 0, .int .i64 0, .int .i64 0, .int .i64 0, .int .i64 0, .int .i64 0, .int .i64 0, .int .i64 0, .slice none 0 0, .int .i64 0, .int .i64 0])) T (Zq (rn_build rfl .nil (fun _ => by kernel_rfl))) rfl (Zm 2 rfl rfl) rfl ?_; clear T ac; intro ac T
  refine Zl2 ?_
  refine Zos M T rfl rfl (T.e 4 rfl) (T.e 1 rfl) rfl (.tail .head) rfl (by simp) rfl (by kernel_rfl) ?_; clear M T; intro wc ac M T
  refine Zg2 T (Zq (Zra rfl evc)) rfl (Za 1 rfl rfl) rfl ?_; clear T ac; intro ac T
  refine wpList_nil ?_
  replace T := T.pick [0, 1, 6] rfl
  replace M := M.mask [false, true] rfl
  refine Znr ?_
  refine Zrt ?_
  refine rt_ctt M T rfl (T.e 2 rfl) (T.e 1 rfl) (T.e 0 rfl) (Zne (i := 0) rfl) rfl ?_
  have hb9 := endR_go (l := l) hzl (or_go2 (by assumption))
  rw [← hj] at hb9
  have hr9 : readR text = if checkJ j ≠ 0 then (zeroJ, 0, checkJ j) else (j, 0, 0) := by rw [readR_short (by omega), ← hlsu1, H]; exact hb9
  rw [if_pos (by assumption)] at hr9
  exact ReadP.zero hr9 M
 intro h12
 refine Zsk ?_
 refine Zsr ?_
 refine lq T (Zrr (Mem.nth M 0 rfl) rfl (T.e 3 rfl) rfl) ?_; clear T ac; intro ac T
 refine Zl2 ?_
 refine Zos M T rfl rfl (T.e 3 rfl) (T.e 0 rfl) rfl (.tail .head) rfl (by simp) rfl (by kernel_rfl) ?_; clear M T; intro wc ac M T
 refine Zg2 T (Zq (Zra rfl evc)) rfl (Zc rfl) rfl ?_; clear T ac; intro ac T
 refine wpList_nil ?_
 replace T := T.pick [0, 1, 5] rfl
 replace M := M.mask [false, true] rfl
 refine Znr ?_
 refine rt_ctt M T rfl (T.e 2 rfl) (T.e 1 rfl) (T.e 0 rfl) (Zne (i := 0) rfl) rfl ?_
 have hb9 := endR_go (l := l) hzl (or_go2 (by assumption))
 rw [← hj] at hb9
 have hr9 : readR text = if checkJ j ≠ 0 then (zeroJ, 0, checkJ j) else (j, 0, 0) := by rw [readR_short (by omega), ← hlsu1, H]; exact hb9
 rw [if_neg (fun h => h (by assumption))] at hr9
 rw [hr9]
 exact ⟨A, c, It, rfl, hsl, M.sub (.cons _ (Zsq _ _))⟩
section
variable {P : Program} {op : Oper} {a : Act} {w w0 : World} {ex : Nat → Prop} {L : List (Nat × BA)} {df : List Deferred} {nn : Nat} {E : List (Nat × Value)} {t : Tmp} {K : Act → World → Prop} {Q : Exit → Act → World → Prop}
theorem ow_b2s {src dst e : TypeId} {x : Operand} {g c : Nat} {b : UInt8} (M : Mem w0 ex w L) (T : TmD df a nn E) (hm : (g, BA.cells [.int .u8 ((b.toNat : Nat) : Int)]) ∈ L) (ho : op.op = .convert src dst x) (hd : op.dst = some t) (hf : freshE E t = true) (hn : Nat.blt t nn = true) (hx : a.eval x = .slice (some ⟨g, 0, none⟩) 1 c)
  (hs : P.underlying src = some (.slice e)) (he : P.underlying e = some (.int .u8)) (ht : P.underlying dst = some .string) (h : ∀ a', TmD df a' nn ((t, sv [b]) :: E) → K a' w) : op.wp P a w K Q := by
 have hr := (M.get hm).range
 have hcv := run_convert_bytes_arg (P := P) w src e hs he g 0 1 c [((b.toNat : Nat) : Int)] rfl (fun i hi => by
  obtain rfl : i = 0 := by omega
  exact hr 0 _ rfl) dst ht
 have hv : Value.string (strOfNums [((b.toNat : Nat) : Int)]) = sv [b] := by
  show Value.string ⟨([((b.toNat : Nat) : Int)].map fun n => UInt8.ofNat n.toNat).toArray⟩ = Value.string ⟨[b].toArray⟩
  simp
 unfold Oper.wp execOp
 simp only [ho, hx, hcv, Sem.run_bind, Result.andThen_ok, Sem.run_pure]
 rw [Oper.upon_value, hd, hv]
 exact h _ (T.put hn hf _)
end
theorem cutS_len {l : List UInt8} {p q : Nat} (h : p ≤ q) (h2 : q ≤ l.length) : (cutS l p q).length = q - p := by
 unfold cutS
 rw [List.length_take, List.length_drop]
 omega
def HarmP (s : List UInt8) (w : World) (e : Ending) (w' : World) : Prop := ∃ h : List UInt8, h.length ≤ s.length + 1 ∧ e = .returned (sv h) ∧ Below w.heap.size w w'
def ReadJ (j : Jb) (l err : Int) (w : World) (e : Ending) (w' : World) : Prop := ∃ (A : Option Addr) (c : Nat) (I : List (Nat × BA)), e = .returned (.tuple #[jobV j A c, .int .i64 l, .int .i64 err]) ∧ Sl 23 2 (.slice A j.sh.length c) j.sh.length (rc j.sh) I ∧ Mem w noEx w' I
theorem readJ_any {s : List UInt8} {j : Jb} {l err : Int} (h : readT s = (j, l, err)) (w : World) (hT : StrW w) : Calls Tryz.prog 15 #[sv s] w (ReadJ j l err w) := by
 have h2 := read_any s w hT
 rw [h] at h2
 exact h2
theorem rreadJ_any {s : List UInt8} {j : Jb} {l err : Int} (h : readT s = (j, l, err)) (w : World) : Calls Tryz.prog 16 #[sv s] w (ReadJ j l err w) := by
 have h2 := rread_any s w
 rw [← read_eq, h] at h2
 exact h2
theorem wrT_len (j : Jb) : (wrT j).length ≤ 300 := by
 unfold wrT
 split
 ·rename_i h
  have g := good_of h
  exact write_len g.sm g.few
 ·exact Nat.zero_le _
theorem readT_sh (s : List UInt8) : (readT s).1.sh.length ≤ 4 := by
 have key : ∀ rows r, (endR rows r).1.sh.length ≤ 4 := by
  intro rows r
  unfold endR
  split
  ·exact Nat.zero_le _
  ·split
   ·exact Nat.zero_le _
   ·split
    ·exact Nat.zero_le _
    ·rename_i h
     exact (good_of (by simpa using h)).few
 unfold readT
 split
 ·exact Nat.zero_le _
 ·exact key _ _
theorem harmed_any (s : List UInt8) (x y : Int) (b : UInt8) (w : World) (hs : s.length ≤ 1000) :
   Calls Tryz.prog 14 #[sv s, .int .i64 x, .int .i64 y, .int .u8 ((b.toNat : Nat) : Int)] w (HarmP s w) := by
 refine Zpx noEx Tryz.func14 rfl 53 rfl [sv s, .int .i64 x, .int .i64 y, .int .u8 ((b.toNat : Nat) : Int)] rfl rfl (Mem.init w _) ?_
 intro ac wc T M
 refine Zsr ?_
 refine lq T (Zra rfl evc) ?_; clear T ac; intro ac T
 replace T := T.pick [1, 2, 3, 4] rfl
 refine Zln ?_
 refine wp_seq ?_
 refine Zsr ?_
 refine Zg2 T (Zq (Zrm rfl (T.e 0 rfl))) rfl (fun _ T => Zq (rn_seql rfl (T.e 0 rfl) evc)) rfl ?_; clear T ac; intro ac T
 replace T := T.pick [0, 2, 3, 4, 5] rfl
 refine Zln ?_
 refine wp_if (T.e 0 rfl) ?_ ?_
 ·intro h1
  refine Zsr ?_
  refine Zg2 T (Zq (Zrm rfl (T.e 1 rfl))) rfl (Za 0 rfl rfl) rfl ?_; clear T ac; intro ac T
  replace T := T.pick [0] rfl
  refine Zln ?_
  refine wp_ret ?_
  refine Zrt ?_
  refine rt_1 T rfl (T.e 0 rfl) ?_
  exact ⟨s, (by omega), rfl, M.below⟩
 intro h1
 have hpos : 0 < s.length := List.length_pos_iff.2 (by assumption)
 refine Zsk ?_
 refine Zsr ?_
 refine Zg3 T (Zq (Zrm rfl (T.e 2 rfl))) rfl (Zm 2 rfl rfl) rfl (fun _ T => Zq (rn_slen rfl Tryz.underlying9 (T.e 0 rfl))) rfl ?_; clear T ac; intro ac T
 refine Zl2 ?_
 refine Zoc (first := []) (cap := []) T rfl rfl rfl rfl evf (.cons (T.e 2 rfl) (.cons (T.e 0 rfl) .nil)) Tryz.func51 rfl rfl ?_
 refine Calls.mono (turn_any x s.length _ (by omega) (by omega)) ?_
 clear T; rintro e wc ⟨ku1, rfl, hku1, hb⟩ ac T
 replace M := M.call hb; clear hb
 have hc1 := cutS_len (l := s) (p := 0) (q := ku1) (by omega) (by omega)
 have hc2 := cutS_len (l := s) (p := ku1 + 1) (q := s.length) (by omega) (by omega)
 have hc3 := cutS_len (l := s) (p := ku1) (q := s.length) (by omega) (by omega)
 refine lq T (Zra rfl (T.e 0 rfl)) ?_; clear T ac; intro ac T
 replace T := T.pick [0, 6, 8, 9] rfl
 refine Zln ?_
 refine wp_seq ?_
 refine Zsr ?_
 refine lq T (Zrm rfl (T.e 2 rfl)) ?_; clear T ac; intro ac T
 replace T := T.pick [0, 1, 2, 4] rfl
 refine Zln ?_
 refine wp_block ?_
 refine Zsr ?_
 refine Zg2 T (Zq (rn_eql rfl (T.e 0 rfl) evc)) rfl (Za 0 rfl rfl) rfl ?_; clear T ac; intro ac T
 replace T := T.pick [0, 2, 3, 4, 5] rfl
 refine Zln ?_
 refine wp_if (T.e 0 rfl) ?_ ?_
 ·intro h2
  refine wp_seq ?_
  refine Zgs M (M.mask [] rfl) 13 (by kernel_rfl) rfl (by kernel_rfl) ?_
  clear M; intro wc M
  refine gq T 0 1 rfl (fun _ _ _ _ _ => (Zrm rfl (T.e 3 rfl))) ?_; clear T ac; intro ac T
  refine gq T 1 3 rfl (fun _ _ _ _ _ => (Zrm rfl (T.e 3 rfl))) ?_; clear T ac; intro ac T
  refine gq T 2 7 rfl (fun _ _ _ _ _ => (rn_sslice (p := 0) (q := ku1) rfl Tryz.underlying9 (T.e 1 rfl) rfl (T.e 0 rfl) (by omega) (by omega))) ?_; clear T ac; intro ac T
  refine gq T 3 15 rfl (fun _ _ _ _ _ => (Zrm rfl (T.e 7 rfl))) ?_; clear T ac; intro ac T
  refine gq T 7 143 rfl (fun _ _ _ _ _ => (Zrm rfl (T.e 7 rfl))) ?_; clear T ac; intro ac T
  refine gq T 8 399 rfl (fun _ _ _ _ _ => (Zrm rfl (T.e 7 rfl))) ?_; clear T ac; intro ac T
  refine gq T 9 911 rfl (fun _ _ _ _ _ => (rn_add rfl (T.e 0 rfl) evc (by omega))) ?_; clear T ac; intro ac T
  refine gq T 10 1935 rfl (fun _ _ _ _ _ => (rn_sslice (p := (ku1 + 1)) (q := s.length) rfl Tryz.underlying9 (T.e 2 rfl) ((T.e 0 rfl).trans (congrArg (Value.int .i64) (by omega))) rfl (by omega) (by omega))) ?_; clear T ac; intro ac T
  refine gw 4 1951 ?_; intro K hK
  refine ow_bs (e := 5) [.int .u8 ((b.toNat : Nat) : Int)] M T rfl rfl rfl rfl (.cons (T.e 4 rfl) .nil) (fun _ => by kernel_rfl) ?_; clear M T; intro g1 wc ac M T
  refine Zso hK _ _ (M.mask [false] rfl) ?_; clear hK K
  refine gw 5 1983 ?_; intro K hK
  refine ow_b2s (b := b) (c := 1) M T (Zne (i := 0) rfl) rfl rfl rfl rfl (T.e 0 rfl) Tryz.underlying95 Tryz.underlying5 Tryz.underlying9 ?_; clear T; intro ac T
  refine Zso hK _ _ (M.mask [false] rfl) ?_; clear hK K
  refine gq T 6 2047 rfl (fun _ _ _ _ _ => (rn_sadd rfl (T.e 7 rfl) (T.e 0 rfl) (by (try simp only [List.length_append, List.length_cons, List.length_nil]); omega))) ?_; clear T ac; intro ac T
  refine gq T 11 4095 rfl (fun _ _ _ _ _ => (rn_sadd rfl (T.e 0 rfl) (T.e 3 rfl) (by (try simp only [List.length_append, List.length_cons, List.length_nil]); omega))) ?_; clear T ac; intro ac T
  refine gq T 12 8191 rfl (fun _ _ _ _ _ => (Zra rfl (T.e 0 rfl))) ?_; clear T ac; intro ac T
  refine Zgd (by kernel_rfl) ?_
  replace T := T.pick [0] rfl
  replace M := M.mask [false] rfl
  refine Znr ?_
  refine Zrb ?_
  refine Zrt ?_
  refine rt_1 T rfl (T.e 0 rfl) ?_
  exact ⟨(((cutS s 0 ku1) ++ ([b])) ++ (cutS s (ku1 + 1) s.length)), (by simp only [List.length_append, List.length_cons, List.length_nil]; omega), rfl, M.below⟩
 intro h2
 refine Zsr ?_
 refine Zg2 T (Zq (rn_eql rfl (T.e 1 rfl) evc)) rfl (Za 0 rfl rfl) rfl ?_; clear T ac; intro ac T
 replace T := T.pick [0, 4, 5, 6] rfl
 refine Zln ?_
 refine wp_if (T.e 0 rfl) ?_ ?_
 ·intro h3
  refine wp_seq ?_
  refine Zgs M (M.mask [] rfl) 9 (by kernel_rfl) rfl (by kernel_rfl) ?_
  clear M; intro wc M
  refine gq T 0 1 rfl (fun _ _ _ _ _ => (Zrm rfl (T.e 2 rfl))) ?_; clear T ac; intro ac T
  refine gq T 1 3 rfl (fun _ _ _ _ _ => (Zrm rfl (T.e 2 rfl))) ?_; clear T ac; intro ac T
  refine gq T 2 7 rfl (fun _ _ _ _ _ => (rn_sslice (p := 0) (q := ku1) rfl Tryz.underlying9 (T.e 1 rfl) rfl (T.e 0 rfl) (by omega) (by omega))) ?_; clear T ac; intro ac T
  refine gq T 3 15 rfl (fun _ _ _ _ _ => (Zrm rfl (T.e 5 rfl))) ?_; clear T ac; intro ac T
  refine gq T 4 31 rfl (fun _ _ _ _ _ => (Zrm rfl (T.e 5 rfl))) ?_; clear T ac; intro ac T
  refine gq T 5 63 rfl (fun _ _ _ _ _ => (rn_add rfl (T.e 0 rfl) evc (by omega))) ?_; clear T ac; intro ac T
  refine gq T 6 127 rfl (fun _ _ _ _ _ => (rn_sslice (p := (ku1 + 1)) (q := s.length) rfl Tryz.underlying9 (T.e 2 rfl) ((T.e 0 rfl).trans (congrArg (Value.int .i64) (by omega))) rfl (by omega) (by omega))) ?_; clear T ac; intro ac T
  refine gq T 7 255 rfl (fun _ _ _ _ _ => (rn_sadd rfl (T.e 4 rfl) (T.e 0 rfl) (by (try simp only [List.length_append, List.length_cons, List.length_nil]); omega))) ?_; clear T ac; intro ac T
  refine gq T 8 511 rfl (fun _ _ _ _ _ => (Zra rfl (T.e 0 rfl))) ?_; clear T ac; intro ac T
  refine Zgd (by kernel_rfl) ?_
  replace T := T.pick [0] rfl
  refine Znr ?_
  refine Zrb ?_
  refine Zrt ?_
  refine rt_1 T rfl (T.e 0 rfl) ?_
  exact ⟨((cutS s 0 ku1) ++ (cutS s (ku1 + 1) s.length)), (by simp only [List.length_append, List.length_cons, List.length_nil]; omega), rfl, M.below⟩
 intro h3
 refine wp_skip ?_
 refine Znb ?_
 refine Zns ?_
 refine Zgs M (M.mask [] rfl) 12 (by kernel_rfl) rfl (by kernel_rfl) ?_
 clear M; intro wc M
 refine gq T 0 1 rfl (fun _ _ _ _ _ => (Zrm rfl (T.e 2 rfl))) ?_; clear T ac; intro ac T
 refine gq T 1 3 rfl (fun _ _ _ _ _ => (Zrm rfl (T.e 2 rfl))) ?_; clear T ac; intro ac T
 refine gq T 2 7 rfl (fun _ _ _ _ _ => (rn_sslice (p := 0) (q := ku1) rfl Tryz.underlying9 (T.e 1 rfl) rfl (T.e 0 rfl) (by omega) (by omega))) ?_; clear T ac; intro ac T
 refine gq T 3 15 rfl (fun _ _ _ _ _ => (Zrm rfl (T.e 6 rfl))) ?_; clear T ac; intro ac T
 refine gq T 7 143 rfl (fun _ _ _ _ _ => (Zrm rfl (T.e 6 rfl))) ?_; clear T ac; intro ac T
 refine gq T 8 399 rfl (fun _ _ _ _ _ => (Zrm rfl (T.e 6 rfl))) ?_; clear T ac; intro ac T
 refine gq T 9 911 rfl (fun _ _ _ _ _ => (rn_sslice (p := ku1) (q := s.length) rfl Tryz.underlying9 (T.e 1 rfl) (T.e 0 rfl) rfl (by omega) (by omega))) ?_; clear T ac; intro ac T
 refine gw 4 927 ?_; intro K hK
 refine ow_bs (e := 5) [.int .u8 ((b.toNat : Nat) : Int)] M T rfl rfl rfl rfl (.cons (T.e 3 rfl) .nil) (fun _ => by kernel_rfl) ?_; clear M T; intro g2 wc ac M T
 refine Zso hK _ _ (M.mask [false] rfl) ?_; clear hK K
 refine gw 5 959 ?_; intro K hK
 refine ow_b2s (b := b) (c := 1) M T (Zne (i := 0) rfl) rfl rfl rfl rfl (T.e 0 rfl) Tryz.underlying95 Tryz.underlying5 Tryz.underlying9 ?_; clear T; intro ac T
 refine Zso hK _ _ (M.mask [false] rfl) ?_; clear hK K
 refine gq T 6 1023 rfl (fun _ _ _ _ _ => (rn_sadd rfl (T.e 6 rfl) (T.e 0 rfl) (by (try simp only [List.length_append, List.length_cons, List.length_nil]); omega))) ?_; clear T ac; intro ac T
 refine gq T 10 2047 rfl (fun _ _ _ _ _ => (rn_sadd rfl (T.e 0 rfl) (T.e 3 rfl) (by (try simp only [List.length_append, List.length_cons, List.length_nil]); omega))) ?_; clear T ac; intro ac T
 refine gq T 11 4095 rfl (fun _ _ _ _ _ => (Zra rfl (T.e 0 rfl))) ?_; clear T ac; intro ac T
 refine Zgd (by kernel_rfl) ?_
 replace T := T.pick [0] rfl
 replace M := M.mask [false] rfl
 refine Znr ?_
 refine rt_1 T rfl (T.e 0 rfl) ?_
 exact ⟨(((cutS s 0 ku1) ++ ([b])) ++ (cutS s ku1 s.length)), (by simp only [List.length_append, List.length_cons, List.length_nil]; omega), rfl, M.below⟩
theorem snoc_short {ls : List (List UInt8)} {s : List UInt8} (h : ∀ k, 1 ≤ k → ∀ z, ls[k]? = some z → z.length ≤ 300) (hs : s.length ≤ 300) : ∀ k, 1 ≤ k → ∀ z, (ls ++ [s])[k]? = some z → z.length ≤ 300 := by
 intro k hk z hz
 rcases Nat.lt_or_ge k ls.length with h8 | h8
 ·rw [List.getElem?_append_left h8] at hz
  exact h k hk z hz
 ·rw [List.getElem?_append_right h8] at hz
  have h7 := List.mem_of_getElem? hz
  rcases List.mem_singleton.1 h7 with rfl
  exact hs
theorem ReedTexts_any (j : Jb) (A : Option Addr) (c : Nat) (text : List UInt8) (D : Option Addr) (d n : Nat) (l : List Int) (x y : Int) (bb : UInt8) (w : World) (hr : Rd w w.heap.size 2 A j.sh.length (rc j.sh)) (hn : j.sh.length ≤ 9223372036854775807) (hl : Rd w w.heap.size 1 D n (ic l)) (hm : n ≤ 9223372036854775807) (hT : StrW w)  :
   Calls Tryz.prog 3 #[jobV j A c, sv text, .slice D n d, .int .i64 x, .int .i64 y, .int .u8 ((bb.toNat : Nat) : Int)] w fun e w' => e = .returned (.bool true) ∧ Below w.heap.size w w' := by
 obtain ⟨bJ, oJ, SJ⟩ := Sp.old hr
 have hll := hl.len1
 obtain ⟨bI, oI, SI⟩ := Sp.old hl
 refine Zpx noEx Tryz.func3 rfl 132 rfl [.agg #[.int .i64 j.p0, .int .i64 j.p1, .int .i64 j.t0, .int .i64 j.t1, .int .i64 j.r0, .int .i64 j.r1, .int .i64 j.u0, .int .i64 j.u1, .int .i64 j.d0, .int .i64 j.d1, .int .i64 j.a0, .int .i64 j.a1, .int .i64 j.b0, .int .i64 j.b1, .int .i64 j.le, .slice A j.sh.length c, .int .i64 j.wi, .int .i64 j.me], sv text, .slice D n d, .int .i64 x, .int .i64 y, .int .u8 ((bb.toNat : Nat) : Int)] rfl rfl (Mem.init w _) ?_
 intro ac wc T M
 refine Zsr ?_
 refine Zl2 ?_
 refine Zob M T rfl rfl rfl rfl (T.e 0 rfl) rfl ?_; clear M T; intro g1 wc ac M T
 refine lq T (Zra rfl evc) ?_; clear T ac; intro ac T
 replace T := T.pick [1, 3, 4, 5, 6, 7] rfl
 refine Zln ?_
 refine wp_seq ?_
 refine cut_seq (fun ac wc => Tm ac 132 [(1, sv text), (2, .slice D n d), (3, .int .i64 x), (4, .int .i64 y), (5, .int .u8 ((bb.toNat : Nat) : Int)), (6, .pointer (some ⟨g1, 0, none⟩)), (40, .bool ((decide (20 < ((j.sh.length : Nat) : Int))) || ((decide (250 < ((text.length : Nat) : Int))) && (decide (((text.length : Nat) : Int) ≤ 300)))))] ∧ Mem w noEx wc [(g1, .cells (jobL j A c))]) ?_ ?_
 ·refine wp_region_lit ?_
  refine Zg5 (v1 := (.pointer (some ⟨g1, 15, none⟩))) T (Zq (Zrf (off := 15) rfl (T.e 0 rfl) (fun _ _ _ => by kernel_rfl))) rfl (Zo M 0 0 rfl rfl rfl rfl) rfl (Zl Tryz.underlying28 0 rfl rfl) rfl (fun _ T => Zq (rn_gtr rfl (T.e 0 rfl) evc)) rfl (Zm 0 rfl rfl) rfl ?_; clear T ac; intro ac T
  rcases Bool.eq_false_or_eq_true (decide (20 < ((j.sh.length : Nat) : Int))) with h1 | h1
  ·replace h1 := of_decide_eq_true h1
   refine Zg8 T (Zp (Zwn rfl rfl (T.e 0 rfl) (Zdt h1))) rfl (fun _ T => Zp (Zwn rfl rfl (T.e 1 rfl) (Zdt h1))) rfl (fun _ T => Zp (Zwn rfl rfl (T.e 2 rfl) (Zdt h1))) rfl (fun _ T => Zp (Zwn rfl rfl (T.e 3 rfl) (Zdt h1))) rfl (fun _ T => Zp (Zwu rfl rfl (T.e 0 rfl))) rfl (fun _ T => Zp (Zwu rfl rfl (T.e 1 rfl))) rfl (fun _ T => Zp (Zwu rfl rfl (T.e 2 rfl))) rfl (fun _ T => Zp (Zwn rfl rfl (T.e 7 rfl) (Zdt h1))) rfl ?_; clear T ac; intro ac T
   refine lq T (Zr1 rfl (T.e 8 rfl) (Zdt h1) evc) ?_; clear T ac; intro ac T
   refine wpList_nil ?_
   replace T := T.pick [0, 14, 15, 16, 17, 18, 19] rfl
   exact ⟨(T.pick (E' := [(1, sv text), (2, .slice D n d), (3, .int .i64 x), (4, .int .i64 y), (5, .int .u8 ((bb.toNat : Nat) : Int)), (6, .pointer (some ⟨g1, 0, none⟩)), (40, .bool true)]) [2, 3, 4, 5, 6, 1, 0] rfl).as (by (try rw [show (decide (20 < ((j.sh.length : Nat) : Int))) = true from (Zdt h1)]); (try rfl)), M.mask [true] rfl⟩
  replace h1 := of_decide_eq_false h1
  refine Zg4 T (Zw (Zwy rfl rfl (T.e 0 rfl) (Zdf h1)) (Zrm rfl (T.e 6 rfl))) rfl (fun _ T => Zw (Zwy rfl rfl (T.e 1 rfl) (Zdf h1)) (rn_slen rfl Tryz.underlying9 (T.e 0 rfl))) rfl (fun _ T => Zw (Zwy rfl rfl (T.e 2 rfl) (Zdf h1)) (rn_gtr rfl (T.e 0 rfl) evc)) rfl (fun _ T => Zw (Zwy rfl rfl (T.e 3 rfl) (Zdf h1)) (Zrm rfl (T.e 0 rfl))) rfl ?_; clear T ac; intro ac T
  rcases Bool.eq_false_or_eq_true (decide (250 < ((text.length : Nat) : Int))) with h2 | h2
  ·replace h2 := of_decide_eq_true h2
   refine Zg5 T (Zw (Zwy rfl rfl (T.e 0 rfl) (Zdt h2)) (Zrm rfl (T.e 10 rfl))) rfl (fun _ T => Zw (Zwy rfl rfl (T.e 1 rfl) (Zdt h2)) (rn_slen rfl Tryz.underlying9 (T.e 0 rfl))) rfl (fun _ T => Zw (Zwy rfl rfl (T.e 2 rfl) (Zdt h2)) (rn_leq rfl (T.e 0 rfl) evc)) rfl (fun _ T => Zw (Zwy rfl rfl (T.e 7 rfl) (Zdf h1)) (Zr1 rfl (T.e 3 rfl) (Zdt h2) (T.e 0 rfl))) rfl (fun _ T => Zq (Zr0 rfl (T.e 8 rfl) (Zdf h1) (T.e 0 rfl))) rfl ?_; clear T ac; intro ac T
   refine wpList_nil ?_
   replace T := T.pick [0, 14, 15, 16, 17, 18, 19] rfl
   exact ⟨(T.pick (E' := [(1, sv text), (2, .slice D n d), (3, .int .i64 x), (4, .int .i64 y), (5, .int .u8 ((bb.toNat : Nat) : Int)), (6, .pointer (some ⟨g1, 0, none⟩)), (40, .bool (decide (((text.length : Nat) : Int) ≤ 300)))]) [2, 3, 4, 5, 6, 1, 0] rfl).as (by (try rw [show (decide (20 < ((j.sh.length : Nat) : Int))) = false from (Zdf h1)]); (try rw [show (decide (250 < ((text.length : Nat) : Int))) = true from (Zdt h2)]); (try rfl)), M.mask [true] rfl⟩
  replace h2 := of_decide_eq_false h2
  refine Zg5 T (Zp (Zwn rfl rfl (T.e 0 rfl) (Zdf h2))) rfl (fun _ T => Zp (Zwn rfl rfl (T.e 1 rfl) (Zdf h2))) rfl (fun _ T => Zp (Zwn rfl rfl (T.e 2 rfl) (Zdf h2))) rfl (fun _ T => Zw (Zwy rfl rfl (T.e 7 rfl) (Zdf h1)) (Zr0 rfl (T.e 3 rfl) (Zdf h2) evc)) rfl (fun _ T => Zq (Zr0 rfl (T.e 8 rfl) (Zdf h1) (T.e 0 rfl))) rfl ?_; clear T ac; intro ac T
  refine wpList_nil ?_
  replace T := T.pick [0, 14, 15, 16, 17, 18, 19] rfl
  exact ⟨(T.pick (E' := [(1, sv text), (2, .slice D n d), (3, .int .i64 x), (4, .int .i64 y), (5, .int .u8 ((bb.toNat : Nat) : Int)), (6, .pointer (some ⟨g1, 0, none⟩)), (40, .bool false)]) [2, 3, 4, 5, 6, 1, 0] rfl).as (by (try rw [show (decide (20 < ((j.sh.length : Nat) : Int))) = false from (Zdf h1)]); (try rw [show (decide (250 < ((text.length : Nat) : Int))) = false from (Zdf h2)]); (try rfl)), M.mask [true] rfl⟩
 clear T M
 rintro ac wc ⟨T, M⟩
 refine wp_cond_split (T.e 6 rfl) ?_ ?_
 ·intro h3
  (have h3' := h3; try simp only [Zb1, Zb2, Zb3, Zb4, Zb5, Zb6, Zb7] at h3')
  refine Zsr ?_
  refine Zl2 ?_
  refine Zoc (first := []) (cap := []) T rfl rfl rfl rfl evf .nil Tryz.func9 rfl rfl ?_
  refine Calls.mono (tuned_any _) ?_
  clear T; rintro e wc ⟨rfl, hb⟩ ac T
  replace M := M.call hb; clear hb
  refine lq T (Zra rfl (T.e 0 rfl)) ?_; clear T ac; intro ac T
  refine wpList_nil ?_
  replace T := T.pick [0] rfl
  replace M := M.mask [false] rfl
  refine Znr ?_
  refine Zrt ?_
  refine rt_1 T rfl (T.e 0 rfl) ?_
  exact ⟨rfl, M.below⟩
 intro h3
 (have h3' := h3; try simp only [Zb1, Zb2, Zb3, Zb4, Zb5, Zb6, Zb7] at h3')
 refine Zsk ?_
 refine wp_seq ?_
 refine Zgs M (M.mask [true] rfl) 9 (by kernel_rfl) rfl (by kernel_rfl) ?_
 clear M; intro wc M
 refine g_have (fun ac wc => ∃ (sur3_2 : Int), ∃ (jur3_3 : Jb), ∃ (Aur3_3 : Option Addr), ∃ (cur3_3 : Nat), ∃ (sur3_3 : Int), ∃ (Iur3_3 : List (Nat × BA)), ∃ (bur3_3 : Nat), ∃ (our3_3 : Nat), (u64ok sur3_2) ∧ (u64ok sur3_3) ∧ (Sp w noEx Iur3_3 Aur3_3 jur3_3.sh.length 2 bur3_3 our3_3 (rc jur3_3.sh)) ∧ jur3_3.good ∧ (jur3_3.sh.length ≤ 4) ∧ ∃ (gr3_6 gr3_4 bpur3_2 : Nat), Tm ac 132 [(48, .slice (some ⟨gr3_6, 0, none⟩) 1 1), (13, .slice (some ⟨gr3_4, 0, none⟩) 2 2), (46, .slice (some ⟨gr3_4, 0, none⟩) 2 2), (45, .agg #[.int .i64 jur3_3.p0, .int .i64 jur3_3.p1, .int .i64 jur3_3.t0, .int .i64 jur3_3.t1, .int .i64 jur3_3.r0, .int .i64 jur3_3.r1, .int .i64 jur3_3.u0, .int .i64 jur3_3.u1, .int .i64 jur3_3.d0, .int .i64 jur3_3.d1, .int .i64 jur3_3.a0, .int .i64 jur3_3.a1, .int .i64 jur3_3.b0, .int .i64 jur3_3.b1, .int .i64 jur3_3.le, .slice Aur3_3 jur3_3.sh.length cur3_3, .int .i64 jur3_3.wi, .int .i64 jur3_3.me]), (44, .pointer (some ⟨bpur3_2, 0, none⟩)), (47, sv text), (43, .slice D n d), (42, .agg #[.int .i64 j.p0, .int .i64 j.p1, .int .i64 j.t0, .int .i64 j.t1, .int .i64 j.r0, .int .i64 j.r1, .int .i64 j.u0, .int .i64 j.u1, .int .i64 j.d0, .int .i64 j.d1, .int .i64 j.a0, .int .i64 j.a1, .int .i64 j.b0, .int .i64 j.b1, .int .i64 j.le, .slice A j.sh.length c, .int .i64 j.wi, .int .i64 j.me]), (1, sv text), (2, .slice D n d), (3, .int .i64 x), (4, .int .i64 y), (5, .int .u8 ((bb.toNat : Nat) : Int)), (6, .pointer (some ⟨g1, 0, none⟩)), (40, .bool ((decide (20 < ((j.sh.length : Nat) : Int))) || ((decide (250 < ((text.length : Nat) : Int))) && (decide (((text.length : Nat) : Int) ≤ 300)))))] ∧ Mem w noEx wc ((gr3_6, .row 9 1 1 [sv text] 1) :: (gr3_4, .cells (jobL j A c ++ jobL jur3_3 Aur3_3 cur3_3)) :: (bpur3_2, .cells [.int .u64 sur3_3]) :: (g1, .cells (jobL j A c)) :: Iur3_3)) (Zpb 9 255) 1 ?_ ?_
 ·clear T M
  rintro ac wc ⟨sur3_2, jur3_3, Aur3_3, cur3_3, sur3_3, Iur3_3, bur3_3, our3_3, hsur3_2, hsur3_3, Sur3_3, hgur3_3, hfewur3_3, gr3_6, gr3_4, bpur3_2, T, M⟩
  refine gq T 8 511 rfl (fun _ _ _ _ _ => (Zra rfl (T.e 0 rfl))) ?_; clear T ac; intro ac T
  refine Zgd (by kernel_rfl) ?_
  replace T := T.pick [0, 2, 11, 12, 13] rfl
  replace M := M.mask [true, true, false, false] rfl
  refine Zns ?_
  refine Zsr ?_
  refine lq T (Zra rfl evc) ?_; clear T ac; intro ac T
  refine Zln ?_
  refine wp_block ?_
  replace M : Mem w noEx wc ((gr3_6, .row 9 1 1 [sv text] 1) :: (gr3_4, .cells (jobL j A c ++ jobL jur3_3 Aur3_3 cur3_3)) :: Iur3_3) := M.permT [0, 1] 2 rfl rfl rfl rfl
  obtain ⟨IT, hIT⟩ : ∃ IT : List (Nat × BA), IT = ((gr3_4, .cells (jobL j A c ++ jobL jur3_3 Aur3_3 cur3_3)) :: Iur3_3) := ⟨_, rfl⟩
  have S0 : Sp w noEx IT (some ⟨gr3_4, 0, none⟩) 2 18 gr3_4 0 (jc [(j, A, c), (jur3_3, Aur3_3, cur3_3)]) := (Sp.cells (w := w) (ex := noEx) (g := gr3_4) (xs := jc [(j, A, c), (jur3_3, Aur3_3, cur3_3)]) (n := 2) (size := 18) (by rfl)).mono (by rw [hIT]; exact (List.Sublist.cons_cons _ (Zz9 _)))
  have E0 : ∀ x ∈ ([(j, A, c), (jur3_3, Aur3_3, cur3_3)] : List JE), x.1.sh.length ≤ 20 ∧ ∃ b o, Sp w noEx IT x.2.1 x.1.sh.length 2 b o (rc x.1.sh) := by
    intro x hx
    simp only [List.mem_cons, List.not_mem_nil, or_false] at hx
    rcases hx with rfl | rfl
    · exact ⟨by dsimp only; omega, _, _, SJ.mono (by rw [hIT]; exact (Zz9 _))⟩
    · exact ⟨by dsimp only; omega, _, _, Sur3_3.mono (by rw [hIT]; exact (.cons _ (List.Sublist.refl _)))⟩
  obtain ⟨JL, hJL, SJL, EJL⟩ : ∃ JL : List JE, JL.length = 2 ∧ Sp w noEx IT (some ⟨gr3_4, 0, none⟩) 2 18 gr3_4 0 (jc JL) ∧ ∀ x ∈ JL, x.1.sh.length ≤ 20 ∧ ∃ b o, Sp w noEx IT x.2.1 x.1.sh.length 2 b o (rc x.1.sh) := ⟨_, rfl, S0, E0⟩
  clear S0 E0
  replace M : Mem w noEx wc ((gr3_6, .row 9 1 1 [sv text] 1) :: IT) := by rw [hIT]; exact M
  clear hIT
  refine wp_loop_n (fun mz ac wc => ∃ (i : Nat) (ls : List (List UInt8)) (At : Option Addr) (ct : Nat) (It : List (Nat × BA)), mz = 2 - i ∧ (i ≤ 2) ∧ (ls.length = i + 1) ∧ (∀ k, 1 ≤ k → ∀ z, ls[k]? = some z → z.length ≤ 300) ∧ (Sl 9 1 (.slice At ls.length ct) ls.length (st ls) It) ∧ Tm ac 132 [(3, .int .i64 x), (4, .int .i64 y), (5, .int .u8 ((bb.toNat : Nat) : Int)), (13, .slice (some ⟨gr3_4, 0, none⟩) 2 2), (14, .slice At ls.length ct), (15, .int .i64 (i : Int))] ∧ Mem w noEx wc ((IT ++ It))) ?_ ?_
  ·exact ⟨_, 0, [text], _, _, _, rfl, (by omega), rfl, (fun k hk z hz => by rw [List.getElem?_eq_none (by simpa using hk)] at hz; cases hz), (Sl.row _ _ _ _ _ _), T.pick [3, 4, 5, 2, 1, 0] rfl, (show Mem w noEx wc ([(gr3_6, .row 9 1 1 [sv text] 1)] ++ IT) from M).swapI⟩
  clear T M
  rintro mz ac wc ⟨i, ls, At, ct, It, hmm1, hi, hll, hsh, hslt, T, M⟩
  refine wp_seq ?_
  refine Zsr ?_
  refine Zg4 (v3 := (.int .i64 2)) T (Zq (Zrm rfl (T.e 5 rfl))) rfl (Zm 4 rfl rfl) rfl (Zl Tryz.underlying36 0 rfl rfl) rfl (fun _ T => Zq (rn_lss rfl (T.e 2 rfl) (T.e 0 rfl))) rfl ?_; clear T ac; intro ac T
  replace T := T.pick [0, 4, 5, 6, 7, 8, 9] rfl
  refine Zln ?_
  refine wp_if (T.e 0 rfl) ?_ ?_
  ·intro h4
   obtain ⟨⟨jx, Ax, cx⟩, hkx⟩ : ∃ x, JL[i]? = some x := ⟨_, List.getElem?_eq_getElem (by omega)⟩
   obtain ⟨hfx, bx, ox, Sx⟩ := EJL _ (List.mem_of_getElem? hkx)
   replace hfx : jx.sh.length ≤ 20 := hfx
   replace Sx : Sp w noEx IT Ax jx.sh.length 2 bx ox (rc jx.sh) := Sx
   refine Zsk ?_
   refine wp_seq ?_
   refine wp_block ?_
   refine Zsr ?_
   refine Zg4 (v4 := (.agg #[.int .i64 jx.p0, .int .i64 jx.p1, .int .i64 jx.t0, .int .i64 jx.t1, .int .i64 jx.r0, .int .i64 jx.r1, .int .i64 jx.u0, .int .i64 jx.u1, .int .i64 jx.d0, .int .i64 jx.d1, .int .i64 jx.a0, .int .i64 jx.a1, .int .i64 jx.b0, .int .i64 jx.b1, .int .i64 jx.le, .slice Ax jx.sh.length cx, .int .i64 jx.wi, .int .i64 jx.me])) T (Zq (Zrm rfl (T.e 4 rfl))) rfl (Zm 7 rfl rfl) rfl (fun _ T => Zq (Zri (size := 18) i rfl (T.e 1 rfl) (T.e 0 rfl) ⟨_, Tryz.underlying36, by kernel_rfl⟩ rfl (by omega) (SJL.at0 (by omega)))) rfl (fun _ T => Zq (rn_rowat (Sp.jcR SJL M (subL (List.Sublist.refl _)) hkx) rfl (T.e 0 rfl) rfl)) rfl ?_; clear T ac; intro ac T
   refine Zl2 ?_
   refine Zoc (first := []) (cap := []) T rfl rfl rfl rfl evf (.cons (T.e 0 rfl) .nil) Tryz.func12 rfl rfl ?_
   refine Calls.mono (write_any jx _ _ _ (Sx.rd M (subL (List.Sublist.refl _))) (by omega) (hT.mem0 M)) ?_
   clear T; rintro e wc ⟨rfl, hb⟩ ac T
   replace M := M.call hb; clear hb
   have hwu2 := wrT_len jx
   refine Zg5 T (Zq (Zrm rfl (T.e 0 rfl))) rfl (Ze 0 rfl rfl rfl) rfl (Ze 1 rfl rfl rfl) rfl (Za 1 rfl rfl) rfl (Za 1 rfl rfl) rfl ?_; clear T ac; intro ac T
   replace T := T.pick [0, 1, 11, 12, 13, 14, 15, 16] rfl
   refine Zln ?_
   refine Zsr ?_
   refine Zg4 (v4 := (.agg #[.int .i64 jx.p0, .int .i64 jx.p1, .int .i64 jx.t0, .int .i64 jx.t1, .int .i64 jx.r0, .int .i64 jx.r1, .int .i64 jx.u0, .int .i64 jx.u1, .int .i64 jx.d0, .int .i64 jx.d1, .int .i64 jx.a0, .int .i64 jx.a1, .int .i64 jx.b0, .int .i64 jx.b1, .int .i64 jx.le, .slice Ax jx.sh.length cx, .int .i64 jx.wi, .int .i64 jx.me])) T (Zq (Zrm rfl (T.e 5 rfl))) rfl (Zm 8 rfl rfl) rfl (fun _ T => Zq (Zri (size := 18) i rfl (T.e 1 rfl) (T.e 0 rfl) ⟨_, Tryz.underlying36, by kernel_rfl⟩ rfl (by omega) (SJL.at0 (by omega)))) rfl (fun _ T => Zq (rn_rowat (Sp.jcR SJL M (subL (List.Sublist.refl _)) hkx) rfl (T.e 0 rfl) rfl)) rfl ?_; clear T ac; intro ac T
   refine Zl2 ?_
   refine Zoc (first := []) (cap := []) T rfl rfl rfl rfl evf (.cons (T.e 0 rfl) .nil) Tryz.func13 rfl rfl ?_
   refine Calls.mono (rWrite_any jx _ _ _ (Sx.rd M (subL (List.Sublist.refl _))) (by omega) (hT.mem0 M)) ?_
   clear T; rintro e wc ⟨rfl, hb⟩ ac T
   replace M := M.call hb; clear hb
   have hwu3 := wrT_len jx
   refine Zg5 T (Zq (Zrm rfl (T.e 0 rfl))) rfl (Ze 0 rfl rfl rfl) rfl (Ze 1 rfl rfl rfl) rfl (Za 1 rfl rfl) rfl (Za 1 rfl rfl) rfl ?_; clear T ac; intro ac T
   replace T := T.pick [0, 1, 10, 11, 12, 13, 14, 15, 16, 17] rfl
   refine Zln ?_
   refine wp_seq ?_
   refine Zsr ?_
   refine Zg8 (v3 := (.bool false)) (v7 := (.bool false)) T (Zq (Zrm rfl (T.e 3 rfl))) rfl (Zm 2 rfl rfl) rfl (fun _ T => Zq (Zrq (rn_sneq rfl (T.e 1 rfl) (T.e 0 rfl)) (by simp))) rfl (Zm 0 rfl rfl) rfl (fun _ T => Zw (Zwy rfl rfl (T.e 0 rfl) rfl) (Zrm rfl (T.e 6 rfl))) rfl (fun _ T => Zw (Zwy rfl rfl (T.e 1 rfl) rfl) (Zrm rfl (T.e 5 rfl))) rfl (fun _ T => Zw (Zwy rfl rfl (T.e 2 rfl) rfl) (Zrq (rn_neq rfl (T.e 1 rfl) (T.e 0 rfl)) (by simp))) rfl (fun _ T => Zq (Zr0 rfl (T.e 3 rfl) rfl (T.e 0 rfl))) rfl ?_; clear T ac; intro ac T
   replace T := T.pick [0, 1, 2, 3, 9, 12, 13, 14, 15, 16, 17] rfl
   refine Zln ?_
   refine wp_cond_false (T.e 0 rfl) ?_
   refine Zsk ?_
   refine wp_region_lit ?_
   refine Zg2 T (Zq (Zrm rfl (T.e 9 rfl))) rfl (Zm 5 rfl rfl) rfl ?_; clear T ac; intro ac T
   refine Zl2 ?_
   refine ow_bs (e := 9) [sv (wrT jx)] M T rfl rfl rfl rfl (.cons (T.e 0 rfl) .nil) (fun _ => by kernel_rfl) ?_; clear M T; intro g2 wc ac M T
   refine Zl2 ?_
   refine ow_app (((g2, .cells [sv (wrT jx)]) :: IT)) Tryz.info9 hslt M (by first | rfl | simp) T rfl rfl rfl rfl Tryz.underlying37 rfl rfl rfl (by omega) (T.e 2 rfl) (T.e 0 rfl) (Zne (i := 0) rfl) rfl rfl ?_; clear M T; intro ga1 cga1 wc ac M T
   refine l_q (v := (.slice (some ⟨ga1, 0, none⟩) (ls.length + 1) cga1)) (T.pick [0, 1, 2, 3, 4, 5, 6, 7, 8, 9, 10, 11, 12, 14] rfl) rfl rfl rfl rfl (Zra rfl (T.e 0 rfl)) ?_; clear T ac; intro ac T
   refine wpList_nil ?_
   replace T := T.pick [0, 6, 7, 8, 10, 11, 12, 13, 14] rfl
   replace M := M.mask [true, false] rfl
   refine Znb ?_
   refine nm_then ?_
   refine wp_region_lit ?_
   refine Zg2 T (Zq (Zrm rfl (T.e 8 rfl))) rfl (fun _ T => Zq (rn_add rfl (T.e 0 rfl) evc (by omega))) rfl ?_; clear T ac; intro ac T
   refine l_q (v := (.int .i64 ((i : Int) + 1))) (T.pick [0, 1, 2, 3, 4, 5, 6, 7, 8, 9] rfl) rfl rfl rfl rfl (Zra rfl (T.e 0 rfl)) ?_; clear T ac; intro ac T
   replace T := T.pick [0, 3, 4, 5, 6, 7, 8, 9, 10] rfl
   refine Zln ?_
   have e9 : ls.length + 1 = (ls ++ [wrT jx]).length := by simp
   have e8 : ((st ls) ++ [sv (wrT jx)]) = st (ls ++ [wrT jx]) := by rw [← st_snoc]
   rw [e9, e8] at M
   rw [e9] at T
   clear e9 e8
   exact ⟨_, by omega, i + 1, (ls ++ [wrT jx]), _, _, [(ga1, .row 9 1 (ls ++ [wrT jx]).length (st (ls ++ [wrT jx])) cga1)], rfl, (by omega), (by rw [List.length_append, hll]; rfl), (snoc_short hsh (wrT_len jx)), (Sl.row _ _ _ _ _ _), T.pick [5, 6, 7, 8, 1, 0] rfl, (show Mem w noEx wc ([(ga1, .row 9 1 (ls ++ [wrT jx]).length (st (ls ++ [wrT jx])) cga1)] ++ IT) from M.permT [0] 1 rfl rfl rfl rfl).swapI⟩
  intro h4
  obtain ⟨z2, hz2⟩ : ∃ q, ls[2]? = some q := ⟨_, List.getElem?_eq_getElem (by omega)⟩
  have hz2l := hsh 2 (by omega) z2 hz2
  obtain ⟨bt, ot, SVt⟩ := hslt.spW (by rw [st_length, Nat.mul_one])
  have St := SVt w noEx
  refine wp_exit ?_
  refine Zet ?_
  refine Zet ?_
  refine ex_hit ?_
  refine nm_then ?_
  refine Zsr ?_
  refine Zg7 T (Zq (Zrm rfl (T.e 5 rfl))) rfl (Zm 6 rfl rfl) rfl (fun _ T => Zq (Zri (size := 1) 2 rfl (T.e 0 rfl) evc ⟨_, Tryz.underlying37, by kernel_rfl⟩ rfl (by omega) (St.at0 (by omega)))) rfl (fun _ T => Zq (rn_cell (Sp.stC0 St M (Zsq _ _) hz2) rfl (T.e 0 rfl))) rfl (Zm 5 rfl rfl) rfl (Zm 7 rfl rfl) rfl (Zm 9 rfl rfl) rfl ?_; clear T ac; intro ac T
  refine Zl2 ?_
  refine Zoc (first := []) (cap := []) T rfl rfl rfl rfl evf (.cons (T.e 3 rfl) (.cons (T.e 2 rfl) (.cons (T.e 1 rfl) (.cons (T.e 0 rfl) .nil)))) Tryz.func14 rfl rfl ?_
  refine Calls.mono (harmed_any z2 x y bb _ (by omega)) ?_
  clear T; rintro e wc ⟨h9, hh9, rfl, hb⟩ ac T
  replace M := M.call hb; clear hb
  refine Zl2 ?_
  refine ow_bs (e := 9) [sv h9] M T rfl rfl rfl rfl (.cons (T.e 0 rfl) .nil) (fun _ => by kernel_rfl) ?_; clear M T; intro g3 wc ac M T
  refine Zl2 ?_
  refine ow_app (((g3, .cells [sv h9]) :: IT)) Tryz.info9 hslt M (by first | rfl | simp) T rfl rfl rfl rfl Tryz.underlying37 rfl rfl rfl (by omega) (T.e 8 rfl) (T.e 0 rfl) (Zne (i := 0) rfl) rfl rfl ?_; clear M T; intro ga2 cga2 wc ac M T
  refine l_q (v := (.slice (some ⟨ga2, 0, none⟩) (ls.length + 1) cga2)) (T.pick [0, 1, 2, 3, 4, 5, 6, 7, 8, 9, 10, 11, 12, 13, 14, 16] rfl) rfl rfl rfl rfl (Zra rfl (T.e 0 rfl)) ?_; clear T ac; intro ac T
  refine wpList_nil ?_
  replace T := T.pick [0] rfl
  replace M := M.mask [true, false] rfl
  refine Zns ?_
  refine Zsr ?_
  refine lq T (Zra rfl evc) ?_; clear T ac; intro ac T
  refine Zln ?_
  refine wp_block ?_
  obtain ⟨ls2, hls2⟩ : ∃ q, q = ls ++ [h9] := ⟨_, rfl⟩
  have e9 : ls.length + 1 = ls2.length := by rw [hls2]; simp
  have e8 : ((st ls) ++ [sv h9]) = st ls2 := by rw [hls2, ← st_snoc]
  rw [e9, e8] at M
  rw [e9] at T
  have S2 : Sp w noEx [(ga2, .row 9 1 ls2.length (st ls2) cga2)] (some ⟨ga2, 0, none⟩) ls2.length 1 ga2 0 (st ls2) := Sp.row (by rw [st_length, Nat.mul_one])
  refine wp_loop_n (fun mz ac wc => ∃ (q : Nat), mz = ls2.length - q ∧ (q ≤ ls2.length) ∧ Tm ac 132 [(14, .slice (some ⟨ga2, 0, none⟩) ls2.length cga2), (20, .int .i64 (q : Int))] ∧ Mem w noEx wc ((ga2, .row 9 1 ls2.length (st ls2) cga2) :: IT)) ?_ ?_
  ·exact ⟨_, 0, rfl, (Nat.zero_le _), T.pick [1, 0] rfl, M.mask [true] rfl⟩
  clear T M
  rintro mz ac wc ⟨q, hmm2, hq, T, M⟩
  refine wp_seq ?_
  refine Zsr ?_
  refine Zg4 T (Zq (Zrm rfl (T.e 1 rfl))) rfl (Zm 1 rfl rfl) rfl (Zl Tryz.underlying37 0 rfl rfl) rfl (fun _ T => Zq (rn_lss rfl (T.e 2 rfl) (T.e 0 rfl))) rfl ?_; clear T ac; intro ac T
  replace T := T.pick [0, 4, 5] rfl
  refine Zln ?_
  refine wp_if (T.e 0 rfl) ?_ ?_
  ·intro h5
   obtain ⟨s, hks⟩ : ∃ x, ls2[q]? = some x := ⟨_, List.getElem?_eq_getElem (by omega)⟩
   obtain ⟨jr, lr, er, hr9⟩ : ∃ j l e, readT s = (j, l, e) := ⟨_, _, _, rfl⟩
   have hjr4 : jr.sh.length ≤ 4 := by have h8 := readT_sh s; rw [hr9] at h8; exact h8
   refine Zsk ?_
   refine wp_seq ?_
   refine wp_block ?_
   refine Zsr ?_
   refine Zg4 T (Zq (Zrm rfl (T.e 1 rfl))) rfl (Zm 3 rfl rfl) rfl (fun _ T => Zq (Zri (size := 1) q rfl (T.e 1 rfl) (T.e 0 rfl) ⟨_, Tryz.underlying37, by kernel_rfl⟩ rfl (by omega) (S2.at0 (by omega)))) rfl (fun _ T => Zq (rn_cell (Sp.stC0 S2 M (List.Sublist.cons_cons _ (Zz9 _)) hks) rfl (T.e 0 rfl))) rfl ?_; clear T ac; intro ac T
   refine Zl2 ?_
   refine Zoc (first := []) (cap := []) T rfl rfl rfl rfl evf (.cons (T.e 0 rfl) .nil) Tryz.func15 rfl rfl ?_
   refine Calls.mono (readJ_any hr9 _ (hT.mem0 M)) ?_
   clear T; rintro e wc ⟨Au5, cu5, Iu5, rfl, hslu5, N⟩ ac T
   obtain ⟨bu5, ou5, SVu5⟩ := hslu5.spW (rc_length _)
   have Su5 := SVu5 w noEx
   replace M := (M.join N).swapI
   clear N
   replace M : Mem w noEx wc ((ga2, .row 9 1 ls2.length (st ls2) cga2) :: (IT ++ Iu5)) := M
   refine Zg4 T (Zq (Zrm rfl (T.e 0 rfl))) rfl (Ze 0 rfl rfl rfl) rfl (Ze 1 rfl rfl rfl) rfl (Ze 2 rfl rfl rfl) rfl ?_; clear T ac; intro ac T
   refine Zl2 ?_
   refine Zoa M T rfl rfl rfl rfl ?_; clear M T; intro g4 wc ac M T
   refine Zl2 ?_
   refine Zos M T rfl rfl (T.e 0 rfl) (T.e 3 rfl) rfl .head rfl (by simp) rfl (by kernel_rfl) ?_; clear M T; intro wc ac M T
   refine Zg2 T (Zq (Zra rfl (T.e 2 rfl))) rfl (Za 2 rfl rfl) rfl ?_; clear T ac; intro ac T
   replace T := T.pick [0, 1, 2, 13, 14] rfl
   refine Zln ?_
   refine Zsr ?_
   refine Zg4 T (Zq (Zrm rfl (T.e 3 rfl))) rfl (Zm 5 rfl rfl) rfl (fun _ T => Zq (Zri (size := 1) q rfl (T.e 1 rfl) (T.e 0 rfl) ⟨_, Tryz.underlying37, by kernel_rfl⟩ rfl (by omega) (S2.at0 (by omega)))) rfl (fun _ T => Zq (rn_cell (Sp.stC0 S2 M (.cons _ (List.Sublist.cons_cons _ (Zz9 _))) hks) rfl (T.e 0 rfl))) rfl ?_; clear T ac; intro ac T
   refine Zl2 ?_
   refine Zoc (first := []) (cap := []) T rfl rfl rfl rfl evf (.cons (T.e 0 rfl) .nil) Tryz.func16 rfl rfl ?_
   refine Calls.mono (rreadJ_any hr9 _) ?_
   clear T; rintro e wc ⟨Au6, cu6, Iu6, rfl, hslu6, N⟩ ac T
   obtain ⟨bu6, ou6, SVu6⟩ := hslu6.spW (rc_length _)
   have Su6 := SVu6 w noEx
   replace M := (M.join N).swapI
   clear N
   replace M : Mem w noEx wc ((g4, .cells (jobL jr Au5 cu5)) :: (ga2, .row 9 1 ls2.length (st ls2) cga2) :: (IT ++ Iu5 ++ Iu6)) := M
   refine Zg4 T (Zq (Zrm rfl (T.e 0 rfl))) rfl (Ze 0 rfl rfl rfl) rfl (Ze 1 rfl rfl rfl) rfl (Ze 2 rfl rfl rfl) rfl ?_; clear T ac; intro ac T
   refine Zl2 ?_
   refine Zoa M T rfl rfl rfl rfl ?_; clear M T; intro g5 wc ac M T
   refine Zl2 ?_
   refine Zos M T rfl rfl (T.e 0 rfl) (T.e 3 rfl) rfl .head rfl (by simp) rfl (by kernel_rfl) ?_; clear M T; intro wc ac M T
   refine Zg2 T (Zq (Zra rfl (T.e 2 rfl))) rfl (Za 2 rfl rfl) rfl ?_; clear T ac; intro ac T
   replace T := T.pick [0, 1, 2, 12, 13, 14, 15, 16] rfl
   refine Zln ?_
   refine Zsr ?_
   refine Zg8 (v3 := (.bool false)) (v7 := (.bool false)) T (Zq (Zrm rfl (T.e 4 rfl))) rfl (Zm 2 rfl rfl) rfl (fun _ T => Zq (Zrq (rn_neq rfl (T.e 1 rfl) (T.e 0 rfl)) (by simp))) rfl (Zm 0 rfl rfl) rfl (fun _ T => Zw (Zwy rfl rfl (T.e 0 rfl) rfl) (Zrm rfl (T.e 7 rfl))) rfl (fun _ T => Zw (Zwy rfl rfl (T.e 1 rfl) rfl) (Zrm rfl (T.e 5 rfl))) rfl (fun _ T => Zw (Zwy rfl rfl (T.e 2 rfl) rfl) (Zrq (rn_neq rfl (T.e 1 rfl) (T.e 0 rfl)) (by simp))) rfl (fun _ T => Zq (Zr0 rfl (T.e 3 rfl) rfl (T.e 0 rfl))) rfl ?_; clear T ac; intro ac T
   refine Zg3 T (Zq (Zrm rfl (T.e 0 rfl))) rfl (fun _ T => Zw (Zwy rfl rfl (T.e 0 rfl) rfl) (Zrr (Mem.nth M 1 rfl) rfl (T.e 14 rfl) rfl)) rfl (fun _ T => Zw (Zwy rfl rfl (T.e 1 rfl) rfl) (Zrr (Mem.nth M 0 rfl) rfl (T.e 12 rfl) rfl)) rfl ?_; clear T ac; intro ac T
   refine l_w (Zwy rfl rfl (T.e 2 rfl) rfl) ?_; intro K hK
   refine Zoc (first := []) (cap := []) T rfl rfl rfl rfl evf (.cons (T.e 1 rfl) (.cons (T.e 0 rfl) .nil)) Tryz.func17 rfl rfl ?_
   refine Calls.mono (sameJobs_same jr _ _ _ _ _ (Su5.rd M (.cons _ (.cons _ (.cons _ (subL (Zsq _ _)))))) (Su6.rd M (.cons _ (.cons _ (.cons _ (Zsq _ _))))) (by omega)) ?_
   clear T; rintro e wc ⟨rfl, hb⟩ ac T
   replace M := M.call hb; clear hb
   refine Zso hK _ _ ?_; clear hK K
   refine Zg2 (v1 := (.bool false)) T (Zw (Zwy rfl rfl (T.e 3 rfl) rfl) (Zrq (rn_not rfl (T.e 0 rfl)) (by simp))) rfl (fun _ T => Zq (Zr0 rfl (T.e 4 rfl) rfl (T.e 0 rfl))) rfl ?_; clear T ac; intro ac T
   refine wpList_nil ?_
   replace T := T.pick [0, 1, 2, 3, 4, 7, 8, 9, 20, 21] rfl
   replace M := M.mask [false, false, true] rfl
   replace M : Mem w noEx wc ((ga2, .row 9 1 ls2.length (st ls2) cga2) :: (IT ++ Iu5 ++ Iu6)) := M
   refine nm_then ?_
   refine wp_cond_false (T.e 0 rfl) ?_
   refine wp_skip ?_
   refine Znb ?_
   refine nm_then ?_
   refine wp_region_lit ?_
   refine Zg2 T (Zq (Zrm rfl (T.e 9 rfl))) rfl (fun _ T => Zq (rn_add rfl (T.e 0 rfl) evc (by omega))) rfl ?_; clear T ac; intro ac T
   refine l_q (v := (.int .i64 ((q : Int) + 1))) (T.pick [0, 1, 2, 3, 4, 5, 6, 7, 8, 9, 10] rfl) rfl rfl rfl rfl (Zra rfl (T.e 0 rfl)) ?_; clear T ac; intro ac T
   replace T := T.pick [0, 4, 5, 6, 7, 8, 9, 10, 11] rfl
   refine Zln ?_
   exact ⟨_, by omega, q + 1, rfl, (by omega), T.pick [8, 0] rfl, ((show Mem w noEx wc ((ga2, .row 9 1 ls2.length (st ls2) cga2) :: (IT ++ Iu5 ++ Iu6)) from M.permT [0] 1 rfl rfl rfl rfl).sub (.cons_cons _ (subL (subL (List.Sublist.refl _)))))⟩
  intro h5
  refine wp_exit ?_
  refine Zet ?_
  refine Zet ?_
  refine ex_hit ?_
  refine nm_then ?_
  refine Zsr ?_
  refine Zl2 ?_
  refine Zoc (first := []) (cap := []) T rfl rfl rfl rfl evf .nil Tryz.func9 rfl rfl ?_
  refine Calls.mono (tuned_any _) ?_
  clear T; rintro e wc ⟨rfl, hb⟩ ac T
  replace M := M.call hb; clear hb
  refine lq T (Zra rfl (T.e 0 rfl)) ?_; clear T ac; intro ac T
  replace T := T.pick [0] rfl
  refine Zln ?_
  refine wp_ret ?_
  refine rt_1 T rfl (T.e 0 rfl) ?_
  exact ⟨rfl, M.below⟩
 intro H2
 refine g_have (fun ac wc => ∃ (sur3_2 : Int), ∃ (jur3_3 : Jb), ∃ (Aur3_3 : Option Addr), ∃ (cur3_3 : Nat), ∃ (sur3_3 : Int), ∃ (Iur3_3 : List (Nat × BA)), ∃ (bur3_3 : Nat), ∃ (our3_3 : Nat), (u64ok sur3_2) ∧ (u64ok sur3_3) ∧ (Sp w noEx Iur3_3 Aur3_3 jur3_3.sh.length 2 bur3_3 our3_3 (rc jur3_3.sh)) ∧ jur3_3.good ∧ (jur3_3.sh.length ≤ 4) ∧ ∃ (gr3_6 bpur3_2 : Nat), Tm ac 132 [(48, .slice (some ⟨gr3_6, 0, none⟩) 1 1), (45, .agg #[.int .i64 jur3_3.p0, .int .i64 jur3_3.p1, .int .i64 jur3_3.t0, .int .i64 jur3_3.t1, .int .i64 jur3_3.r0, .int .i64 jur3_3.r1, .int .i64 jur3_3.u0, .int .i64 jur3_3.u1, .int .i64 jur3_3.d0, .int .i64 jur3_3.d1, .int .i64 jur3_3.a0, .int .i64 jur3_3.a1, .int .i64 jur3_3.b0, .int .i64 jur3_3.b1, .int .i64 jur3_3.le, .slice Aur3_3 jur3_3.sh.length cur3_3, .int .i64 jur3_3.wi, .int .i64 jur3_3.me]), (44, .pointer (some ⟨bpur3_2, 0, none⟩)), (47, sv text), (43, .slice D n d), (42, .agg #[.int .i64 j.p0, .int .i64 j.p1, .int .i64 j.t0, .int .i64 j.t1, .int .i64 j.r0, .int .i64 j.r1, .int .i64 j.u0, .int .i64 j.u1, .int .i64 j.d0, .int .i64 j.d1, .int .i64 j.a0, .int .i64 j.a1, .int .i64 j.b0, .int .i64 j.b1, .int .i64 j.le, .slice A j.sh.length c, .int .i64 j.wi, .int .i64 j.me]), (1, sv text), (2, .slice D n d), (3, .int .i64 x), (4, .int .i64 y), (5, .int .u8 ((bb.toNat : Nat) : Int)), (6, .pointer (some ⟨g1, 0, none⟩)), (40, .bool ((decide (20 < ((j.sh.length : Nat) : Int))) || ((decide (250 < ((text.length : Nat) : Int))) && (decide (((text.length : Nat) : Int) ≤ 300)))))] ∧ Mem w noEx wc ((gr3_6, .row 9 1 1 [sv text] 1) :: (bpur3_2, .cells [.int .u64 sur3_3]) :: (g1, .cells (jobL j A c)) :: Iur3_3)) (Zpb 9 111) 3 ?_ ?_
 ·clear T M
  rintro ac wc ⟨sur3_2, jur3_3, Aur3_3, cur3_3, sur3_3, Iur3_3, bur3_3, our3_3, hsur3_2, hsur3_3, Sur3_3, hgur3_3, hfewur3_3, gr3_6, bpur3_2, T, M⟩
  refine gw 4 127 ?_; intro K hK
  refine ow_bs (e := 30) [.int .i64 j.p0, .int .i64 j.p1, .int .i64 j.t0, .int .i64 j.t1, .int .i64 j.r0, .int .i64 j.r1, .int .i64 j.u0, .int .i64 j.u1, .int .i64 j.d0, .int .i64 j.d1, .int .i64 j.a0, .int .i64 j.a1, .int .i64 j.b0, .int .i64 j.b1, .int .i64 j.le, .slice A j.sh.length c, .int .i64 j.wi, .int .i64 j.me, .int .i64 jur3_3.p0, .int .i64 jur3_3.p1, .int .i64 jur3_3.t0, .int .i64 jur3_3.t1, .int .i64 jur3_3.r0, .int .i64 jur3_3.r1, .int .i64 jur3_3.u0, .int .i64 jur3_3.u1, .int .i64 jur3_3.d0, .int .i64 jur3_3.d1, .int .i64 jur3_3.a0, .int .i64 jur3_3.a1, .int .i64 jur3_3.b0, .int .i64 jur3_3.b1, .int .i64 jur3_3.le, .slice Aur3_3 jur3_3.sh.length cur3_3, .int .i64 jur3_3.wi, .int .i64 jur3_3.me] M T rfl rfl rfl rfl (.cons (T.e 5 rfl) (.cons (T.e 1 rfl) .nil)) (fun _ => by kernel_rfl) ?_; clear M T; intro gr3_4 wc ac M T
  refine Zso hK _ _ (M.perm [3] rfl rfl) ?_; clear hK K
  refine gq T 7 255 rfl (fun _ _ _ _ _ => (Zra rfl (T.e 0 rfl))) ?_; clear T ac; intro ac T
  exact H2 _ _ ⟨sur3_2, jur3_3, Aur3_3, cur3_3, sur3_3, Iur3_3, bur3_3, our3_3, hsur3_2, hsur3_3, Sur3_3, hgur3_3, hfewur3_3, gr3_6, gr3_4, bpur3_2, T.pick [2, 0, 1, 3, 4, 5, 6, 7, 8, 9, 10, 11, 12, 13, 14] rfl, M.permT [1, 0, 2, 3] 4 rfl rfl rfl rfl⟩
 intro H1
 refine g_have (fun ac wc => ∃ (sur3_2 : Int), (u64ok sur3_2) ∧ ∃ (gr3_6 bpur3_2 : Nat), Tm ac 132 [(48, .slice (some ⟨gr3_6, 0, none⟩) 1 1), (44, .pointer (some ⟨bpur3_2, 0, none⟩)), (47, sv text), (43, .slice D n d), (42, .agg #[.int .i64 j.p0, .int .i64 j.p1, .int .i64 j.t0, .int .i64 j.t1, .int .i64 j.r0, .int .i64 j.r1, .int .i64 j.u0, .int .i64 j.u1, .int .i64 j.d0, .int .i64 j.d1, .int .i64 j.a0, .int .i64 j.a1, .int .i64 j.b0, .int .i64 j.b1, .int .i64 j.le, .slice A j.sh.length c, .int .i64 j.wi, .int .i64 j.me]), (1, sv text), (2, .slice D n d), (3, .int .i64 x), (4, .int .i64 y), (5, .int .u8 ((bb.toNat : Nat) : Int)), (6, .pointer (some ⟨g1, 0, none⟩)), (40, .bool ((decide (20 < ((j.sh.length : Nat) : Int))) || ((decide (250 < ((text.length : Nat) : Int))) && (decide (((text.length : Nat) : Int) ≤ 300)))))] ∧ Mem w noEx wc [(gr3_6, .row 9 1 1 [sv text] 1), (bpur3_2, .cells [.int .u64 sur3_2]), (g1, .cells (jobL j A c))]) (Zpb 9 103) 4 ?_ ?_
 ·clear T M
  rintro ac wc ⟨sur3_2, hsur3_2, gr3_6, bpur3_2, T, M⟩
  refine gw 3 111 ?_; intro K hK
  refine Zoc (first := []) (cap := []) T rfl rfl rfl rfl evf (.cons (T.e 1 rfl) (.cons evc (.cons evc .nil))) Tryz.func10 rfl rfl ?_
  refine Calls.mono (jobOf_any _ bpur3_2 20 5 _ (by omega) (by omega) (by omega) (by omega) (M.nth 1 rfl) hsur3_2) ?_
  clear T; rintro e wc ⟨jur3_3, Aur3_3, cur3_3, sur3_3, Iur3_3, rfl, hmur3_3, hsur3_3, hslur3_3, N⟩ ac T
  obtain ⟨bur3_3, our3_3, Sur3_3⟩ := hslur3_3.sp (w := w) (ex := noEx) (rc_length _)
  replace M := (M.joinW (.tail .head) N).swapI
  replace M := M.mask [true, true, true] rfl
  clear N hslur3_3
  have hgur3_3 := hmur3_3.good
  have hfewur3_3 := hgur3_3.few
  have hpur3_3 := hgur3_3.p
  have hmeur3_3 := hgur3_3.me
  refine Zso hK _ _ (M.perm [2] rfl rfl) ?_; clear hK K
  exact H1 _ _ ⟨sur3_2, jur3_3, Aur3_3, cur3_3, sur3_3, Iur3_3, bur3_3, our3_3, hsur3_2, hsur3_3, Sur3_3, hgur3_3, hfewur3_3, gr3_6, bpur3_2, T.pick [1, 0, 2, 3, 4, 5, 6, 7, 8, 9, 10, 11, 12] rfl, M⟩
 intro H0
 refine gq T 0 1 rfl (fun B w' hD hl hS => (Zrr (Mem.nth (show Mem w noEx w' _ from hS) 0 rfl) rfl (T.e 5 rfl) rfl)) ?_; clear T ac; intro ac T
 refine gq T 1 3 rfl (fun _ _ _ _ _ => (Zrm rfl (T.e 2 rfl))) ?_; clear T ac; intro ac T
 refine gq T 5 35 rfl (fun _ _ _ _ _ => (Zrm rfl (T.e 2 rfl))) ?_; clear T ac; intro ac T
 refine g_m2 (i := 2) (j := 6) (by kernel_rfl) ?_ ?_
 ·refine gi 39 ?_; intro K hK
  refine Zoc (first := []) (cap := []) T rfl rfl rfl rfl evf (.cons (T.e 1 rfl) .nil) Tryz.func11 rfl rfl ?_
  refine Calls.mono (newPot_any _ _ _ l _ (SI.rd M (Zz9 _)) (by omega)) ?_
  clear T; rintro e wc ⟨bpur3_2, sur3_2, hsur3_2, rfl, N⟩ ac T
  replace M := M.join N; clear N
  replace M := M.mask [true, true] rfl
  refine Zso hK _ _ (M.mask [false, true] rfl) ?_; clear hK K
  refine g_m2 (i := 3) (j := 6) (by kernel_rfl) ?_ ?_
  ·refine gi 47 ?_; intro K hK
   refine Zoc (first := []) (cap := []) T rfl rfl rfl rfl evf (.cons (T.e 0 rfl) (.cons evc (.cons evc .nil))) Tryz.func10 rfl rfl ?_
   refine Calls.mono (jobOf_any _ bpur3_2 20 5 _ (by omega) (by omega) (by omega) (by omega) (M.nth 0 rfl) hsur3_2) ?_
   clear T; rintro e wc ⟨jur3_3, Aur3_3, cur3_3, sur3_3, Iur3_3, rfl, hmur3_3, hsur3_3, hslur3_3, N⟩ ac T
   obtain ⟨bur3_3, our3_3, Sur3_3⟩ := hslur3_3.sp (w := w) (ex := noEx) (rc_length _)
   replace M := (M.joinW .head N).swapI
   replace M := M.mask [true, true] rfl
   clear N hslur3_3
   have hgur3_3 := hmur3_3.good
   have hfewur3_3 := hgur3_3.few
   have hpur3_3 := hgur3_3.p
   have hmeur3_3 := hgur3_3.me
   refine Zso hK _ _ (M.perm [1] rfl rfl) ?_; clear hK K
   refine g_m2 (i := 4) (j := 6) (by kernel_rfl) ?_ ?_
   ·refine gi 63 ?_; intro K hK
    refine ow_bs (e := 30) [.int .i64 j.p0, .int .i64 j.p1, .int .i64 j.t0, .int .i64 j.t1, .int .i64 j.r0, .int .i64 j.r1, .int .i64 j.u0, .int .i64 j.u1, .int .i64 j.d0, .int .i64 j.d1, .int .i64 j.a0, .int .i64 j.a1, .int .i64 j.b0, .int .i64 j.b1, .int .i64 j.le, .slice A j.sh.length c, .int .i64 j.wi, .int .i64 j.me, .int .i64 jur3_3.p0, .int .i64 jur3_3.p1, .int .i64 jur3_3.t0, .int .i64 jur3_3.t1, .int .i64 jur3_3.r0, .int .i64 jur3_3.r1, .int .i64 jur3_3.u0, .int .i64 jur3_3.u1, .int .i64 jur3_3.d0, .int .i64 jur3_3.d1, .int .i64 jur3_3.a0, .int .i64 jur3_3.a1, .int .i64 jur3_3.b0, .int .i64 jur3_3.b1, .int .i64 jur3_3.le, .slice Aur3_3 jur3_3.sh.length cur3_3, .int .i64 jur3_3.wi, .int .i64 jur3_3.me] M T rfl rfl rfl rfl (.cons (T.e 4 rfl) (.cons (T.e 0 rfl) .nil)) (fun _ => by kernel_rfl) ?_; clear M T; intro gr3_4 wc ac M T
    refine Zso hK _ _ (M.perm [2] rfl rfl) ?_; clear hK K
    refine gq T 7 191 rfl (fun _ _ _ _ _ => (Zra rfl (T.e 0 rfl))) ?_; clear T ac; intro ac T
    refine gw 6 255 ?_; intro K hK
    refine ow_bsR (e := 9) (size := 1) [sv text] M T rfl rfl rfl rfl (.cons (T.e 4 rfl) .nil) (fun _ => by kernel_rfl) rfl rfl rfl ?_; clear M T; intro gr3_6 wc ac M T
    refine Zso hK _ _ (M.perm [3] rfl rfl) ?_; clear hK K
    exact H2 _ _ ⟨sur3_2, jur3_3, Aur3_3, cur3_3, sur3_3, Iur3_3, bur3_3, our3_3, hsur3_2, hsur3_3, Sur3_3, hgur3_3, hfewur3_3, gr3_6, gr3_4, bpur3_2, T, M⟩
   refine gi 111 ?_; intro K hK
   refine ow_bsR (e := 9) (size := 1) [sv text] M T rfl rfl rfl rfl (.cons (T.e 2 rfl) .nil) (fun _ => by kernel_rfl) rfl rfl rfl ?_; clear M T; intro gr3_6 wc ac M T
   refine Zso hK _ _ (M.perm [2] rfl rfl) ?_; clear hK K
   exact H1 _ _ ⟨sur3_2, jur3_3, Aur3_3, cur3_3, sur3_3, Iur3_3, bur3_3, our3_3, hsur3_2, hsur3_3, Sur3_3, hgur3_3, hfewur3_3, gr3_6, bpur3_2, T, M⟩
  refine gi 103 ?_; intro K hK
  refine ow_bsR (e := 9) (size := 1) [sv text] M T rfl rfl rfl rfl (.cons (T.e 1 rfl) .nil) (fun _ => by kernel_rfl) rfl rfl rfl ?_; clear M T; intro gr3_6 wc ac M T
  refine Zso hK _ _ (M.mask [false, false, true] rfl) ?_; clear hK K
  exact H0 _ _ ⟨sur3_2, hsur3_2, gr3_6, bpur3_2, T, M⟩
 refine gi 99 ?_; intro K hK
 refine ow_bsR (e := 9) (size := 1) [sv text] M T rfl rfl rfl rfl (.cons (T.e 0 rfl) .nil) (fun _ => by kernel_rfl) rfl rfl rfl ?_; clear M T; intro gr3_6 wc ac M T
 refine Zso hK _ _ (M.mask [false, true] rfl) ?_; clear hK K
 refine gw 2 103 ?_; intro K hK
 refine Zoc (first := []) (cap := []) T rfl rfl rfl rfl evf (.cons (T.e 2 rfl) .nil) Tryz.func11 rfl rfl ?_
 refine Calls.mono (newPot_any _ _ _ l _ (SI.rd M (Zz9 _)) (by omega)) ?_
 clear T; rintro e wc ⟨bpur3_2, sur3_2, hsur3_2, rfl, N⟩ ac T
 replace M := M.join N; clear N
 replace M := M.mask [true, true, true] rfl
 refine Zso hK _ _ (M.mask [false, false, true] rfl) ?_; clear hK K
 exact H0 _ _ ⟨sur3_2, hsur3_2, gr3_6, bpur3_2, T.pick [1, 0, 2, 3, 4, 5, 6, 7, 8, 9, 10, 11] rfl, M.perm [1, 0, 2] rfl rfl⟩
end Go.Proofs.YtmdbdaofjepelaaGreatDoor


/-
  Walks of functions, and plain laws (texts put together). No condition.
-/
import Derived.Laws.BytesArg
import Derived.Test.YtaikhendogcflaaGreatDoorMVoiceRead1
import Derived.Test.YtaikhendogcflaaGreatDoorMVoiceRead2
import Derived.Test.YtaikhendogcflaaGreatDoorMVoiceRead3
import Derived.Test.YtaikhendogcflaaGreatDoorMVoiceRead4
import Derived.Test.YtaikhendogcflaaGreatDoorMVoiceRead5
import Derived.Test.YtaikhendogcflaaGreatDoorMVoiceRead6
set_option maxRecDepth 100000
set_option maxHeartbeats 1000000
set_option linter.unusedSimpArgs false
set_option linter.unusedVariables false
namespace Go.Proofs.YtaikhendogcflaaGreatDoor
open Go.RowKit
theorem Sl.spW {e n c size : Nat} {A : Option Addr} {xs : List Value} {I : List (Nat × BA)} (h : Sl e size (.slice A n c) n xs I) (hl : xs.length = n * size) : ∃ b o, ∀ (w : World) (ex : Nat → Prop), Sp w ex I A n size b o xs := by
 rcases h with ⟨h1, rfl, rfl, rfl⟩ | ⟨g, cap, h1, rfl⟩
 ·exact ⟨0, 0, fun w ex => Sp.nil⟩
 ·injection h1 with h1 _ h2
  subst h1
  exact ⟨g, 0, fun w ex => Sp.row (by omega)⟩
theorem inL_left {X F : List (Nat × BA)} : ∀ b, inL X b → inL (X ++ F) b := fun b h => by
 obtain ⟨q, hq, rfl⟩ := List.mem_map.1 h
 exact List.mem_map.2 ⟨q, List.mem_append_left _ hq, rfl⟩
def TakeH (k : Nat) (fm : List UInt8) (F : Nat) (cap : List Value) (bb : Nat) (b : Bx) (A : Option Addr) (c : Nat) (B : Option Addr) (d : Nat) (Ia Ib : List (Nat × BA)) (exq : Nat → Prop) (w : World) : Prop := ∀ (R : List (Int × Int)) (N xs : List Int) (X : Option Addr) (cx : Nat) (Y : Option Addr) (cy : Nat) (It Iu Fr : List (Nat × BA)) (wc : World), MixQ fm fm.length xs R N → Sl 26 2 (.slice X R.length cx) R.length (rc R) It → Sl 3 1 (.slice Y N.length cy) N.length (ic N) Iu → Mem w exq wc ((bb, .cells (bxM b (.slice A b.lows.length c) (.slice B b.highs.length d))) :: (Ia ++ Ib ++ (It ++ Iu ++ Fr))) →
  Calls Tryz.prog F ([Value.pointer (some ⟨bb, 0, none⟩), Value.agg #[.slice X R.length cx, .slice Y N.length cy]] ++ cap).toArray wc fun e w' => e = .returned (.tuple #[]) ∧ ∃ L, Mem w exq w' L ∧ KeptB bb (putV k xs b) L
theorem vreadG_any (kv : Kv) (fm : List UInt8) (k F : Nat) (fnF : Func) (cap : List Value) (s : List UInt8) (bb : Nat) (b : Bx) (A : Option Addr) (c : Nat) (B : Option Addr) (d : Nat) (Ia Ib : List (Nat × BA)) (exq : Nat → Prop) (w : World) (hk : kv.form = fm.map fb) (hfl9 : fm.length ≤ 8) (hF : Tryz.prog.funcs[F]? = some fnF) (hnm9 : (fnF.name == "runtime.NumGoroutine") = false) (hbF : fnF.body.isNone = false) (hs : s.length ≤ 800000) (hT : ∀ wc L, Mem w exq wc L → StrW wc) (hsA : Sl 77 4 (.slice A b.lows.length c) b.lows.length (sc b.lows) Ia) (hsB : Sl 77 4 (.slice B b.highs.length d) b.highs.length (sc b.highs) Ib) (M0 : Mem w exq w ((bb, .cells (bxM b (.slice A b.lows.length c) (.slice B b.highs.length d))) :: (Ia ++ Ib))) (htake : TakeH k fm F cap bb b A c B d Ia Ib exq w) :
   Calls Tryz.prog 49 #[.agg #[sv kv.word, sv fm, .func (.func F) #[] cap.toArray], Zj bb, sv s] w (LineB (kv.rd s) w exq bb k b) := by
 refine Zpx exq Tryz.func49 rfl 103 rfl [.agg #[sv kv.word, sv fm, .func (.func F) #[] cap.toArray], Zj bb, sv s] rfl rfl M0 ?_
 intro ac wc T M
 refine Zsr ?_
 refine Zl2 ?_
 refine Zob M T rfl rfl rfl rfl (T.e 0 rfl) rfl ?_; clear M T; intro g1 wc ac M T
 refine lq T (Zra rfl evc) ?_; clear T ac; intro ac T
 replace T := T.pick [1, 3, 4] rfl
 refine Zln ?_
 refine Zsr ?_
 refine lq T (Zrm rfl (T.e 2 rfl)) ?_; clear T ac; intro ac T
 refine Zl2 ?_
 refine Zoc (first := []) (cap := []) T rfl rfl rfl rfl evf (.cons (T.e 0 rfl) (.cons evc .nil)) Tryz.func46 rfl rfl ?_
 refine Calls.mono (Split2_any s 44 _ (by omega) (hT _ _ M)) ?_
 clear T; rintro e wc ⟨Au1, cu1, bu1, ou1, Iu1, rfl, hc9u1, SVu1, N⟩ ac T
 obtain ⟨lsu1, hlsu1⟩ : ∃ q, q = spl 44 s := ⟨_, rfl⟩
 rw [← hlsu1] at hc9u1 SVu1 T
 have Su1 := SVu1 w exq
 replace M := (M.join N).swapI
 clear N
 replace M : Mem w exq wc ((g1, .cells [sv kv.word, sv fm, .func (.func F) #[] cap.toArray]) :: (bb, .cells (bxM b (.slice A b.lows.length c) (.slice B b.highs.length d))) :: (Ia ++ Ib ++ Iu1)) := (Mem.permS (L' := ((g1, .cells [sv kv.word, sv fm, .func (.func F) #[] cap.toArray]) :: (bb, .cells (bxM b (.slice A b.lows.length c) (.slice B b.highs.length d))) :: (Ia ++ Ib ++ Iu1))) M (fun f => by simp only [bxM, boxL, sumF_app, sumF_cons, sumF_nil, List.cons_append, List.nil_append, List.append_nil, Nat.add_zero, Nat.zero_add] <;> omega))
 have hlenu1 : lsu1.length ≤ s.length + 1 := by rw [hlsu1]; exact spl_len _ _
 have hposu1 : 0 < lsu1.length := by rw [hlsu1]; exact spl_pos _ _
 obtain ⟨w0u1, hzu1⟩ : ∃ q, lsu1[0]? = some q := ⟨_, List.getElem?_eq_getElem hposu1⟩
 refine lq T (Zra rfl (T.e 0 rfl)) ?_; clear T ac; intro ac T
 replace T := T.pick [0, 3, 4] rfl
 refine Zln ?_
 refine wp_seq ?_
 refine cut_seq (fun ac wc => Tm ac 103 [(1, Zj bb), (3, Zj g1), (7, .slice Au1 lsu1.length cu1), (36, .bool ((!(decide (w0u1 = kv.word))) || (!(decide (((lsu1.length : Nat) : Int) = (1 + ((fm.length : Nat) : Int)))))))] ∧ Mem w exq wc ((g1, .cells [sv kv.word, sv fm, .func (.func F) #[] cap.toArray]) :: (bb, .cells (bxM b (.slice A b.lows.length c) (.slice B b.highs.length d))) :: (Ia ++ Ib ++ Iu1))) ?_ ?_
 ·refine Zgs M (M.mask [true, true] rfl) 15 (by kernel_rfl) rfl (by kernel_rfl) ?_
  clear M; intro wc M
  refine gq T 0 1 rfl (fun _ _ _ _ _ => (Zrm rfl (T.e 0 rfl))) ?_; clear T ac; intro ac T
  refine gq T 1 3 rfl (fun _ _ _ _ _ => (Zri (size := 1) 0 rfl (T.e 0 rfl) evc ⟨_, Tryz.underlying37, by kernel_rfl⟩ rfl (by omega) (Su1.at0 (by omega)))) ?_; clear T ac; intro ac T
  refine gq T 2 7 rfl (fun B w' hD hl hS => (rn_cell (Sp.stC0 Su1 (show Mem w exq w' _ from hS) (.cons _ (.cons _ (Zsq _ _))) hzu1) rfl (T.e 0 rfl))) ?_; clear T ac; intro ac T
  refine gq (v := (Zj g1)) T 3 15 rfl (fun _ _ _ _ _ => (Zrf (off := 0) rfl (T.e 4 rfl) (fun _ _ _ => by kernel_rfl))) ?_; clear T ac; intro ac T
  refine gq T 4 31 rfl (fun B w' hD hl hS => (Zro (Mem.nth (show Mem w exq w' _ from hS) 0 rfl) rfl (T.e 0 rfl) rfl)) ?_; clear T ac; intro ac T
  refine gq T 5 63 rfl (fun _ _ _ _ _ => (rn_sneq rfl (T.e 2 rfl) (T.e 0 rfl))) ?_; clear T ac; intro ac T
  refine gq T 6 127 rfl (fun _ _ _ _ _ => (Zrm rfl (T.e 0 rfl))) ?_; clear T ac; intro ac T
  rcases Bool.eq_false_or_eq_true (!(decide (w0u1 = kv.word))) with h1 | h1
  ·replace h1 : ¬ (w0u1 = kv.word) := by first | (rw [Bool.not_eq_true'] at h1; exact of_decide_eq_false h1) | simpa using h1
   refine g_pass (T := T) (i := 7) rfl (by kernel_rfl) (by kernel_rfl : (Zpb 15 127).setIfInBounds 7 true = Zpb 15 255) si_U (fun _ _ _ h => h) (Zwn rfl rfl (T.e 0 rfl) (by simp [h1])) rfl rfl rfl ?_; clear T ac; intro ac T
   refine g_pass (T := T) (i := 8) rfl (by kernel_rfl) (by kernel_rfl : (Zpb 15 255).setIfInBounds 8 true = Zpb 15 511) si_U (fun _ _ _ h => h) (Zwn rfl rfl (T.e 1 rfl) (by simp [h1])) rfl rfl rfl ?_; clear T ac; intro ac T
   refine g_pass (T := T) (i := 9) rfl (by kernel_rfl) (by kernel_rfl : (Zpb 15 511).setIfInBounds 9 true = Zpb 15 1023) si_U (fun _ _ _ h => h) (Zwn rfl rfl (T.e 2 rfl) (by simp [h1])) rfl rfl rfl ?_; clear T ac; intro ac T
   refine g_pass (T := T) (i := 10) rfl (by kernel_rfl) (by kernel_rfl : (Zpb 15 1023).setIfInBounds 10 true = Zpb 15 2047) si_U (fun _ _ _ h => h) (Zwn rfl rfl (T.e 3 rfl) (by simp [h1])) rfl rfl rfl ?_; clear T ac; intro ac T
   refine g_pass (T := T) (i := 11) rfl (by kernel_rfl) (by kernel_rfl : (Zpb 15 2047).setIfInBounds 11 true = Zpb 15 4095) si_U (fun _ _ _ h => h) (Zwn rfl rfl (T.e 4 rfl) (by simp [h1])) rfl rfl rfl ?_; clear T ac; intro ac T
   refine g_pass (T := T) (i := 12) rfl (by kernel_rfl) (by kernel_rfl : (Zpb 15 4095).setIfInBounds 12 true = Zpb 15 8191) si_U (fun _ _ _ h => h) (Zwn rfl rfl (T.e 5 rfl) (by simp [h1])) rfl rfl rfl ?_; clear T ac; intro ac T
   refine g_pass (T := T) (i := 13) rfl (by kernel_rfl) (by kernel_rfl : (Zpb 15 8191).setIfInBounds 13 true = Zpb 15 16383) si_U (fun _ _ _ h => h) (Zwn rfl rfl (T.e 6 rfl) (by simp [h1])) rfl rfl rfl ?_; clear T ac; intro ac T
   refine gq T 14 32767 rfl (fun _ _ _ _ _ => (Zr1 rfl (T.e 7 rfl) (by simp [h1]) evc)) ?_; clear T ac; intro ac T
   refine Zgd (by kernel_rfl) ?_
   replace T := T.pick [0, 15, 16, 17] rfl
   exact ⟨(T.pick (E' := [(1, Zj bb), (3, Zj g1), (7, .slice Au1 lsu1.length cu1), (36, .bool true)]) [3, 2, 1, 0] rfl).as (by (try rw [show (!(decide (w0u1 = kv.word))) = true from (by simp [h1])]); (try rfl)), M.mask [true, true] rfl⟩
  replace h1 : w0u1 = kv.word := by first | (rw [Bool.not_eq_false'] at h1; exact of_decide_eq_true h1) | simpa using h1
  refine g_q (T := T) (i := 7) rfl (by kernel_rfl) (by kernel_rfl : (Zpb 15 127).setIfInBounds 7 true = Zpb 15 255) si_U (fun _ _ _ h => h) (Zwy rfl rfl (T.e 0 rfl) (by simp [h1])) rfl rfl rfl (fun _ _ _ _ _ => (Zrm rfl (T.e 7 rfl))) ?_; clear T ac; intro ac T
  refine g_q (T := T) (i := 8) rfl (by kernel_rfl) (by kernel_rfl : (Zpb 15 255).setIfInBounds 8 true = Zpb 15 511) si_U (fun _ _ _ h => h) (Zwy rfl rfl (T.e 1 rfl) (by simp [h1])) rfl rfl rfl (fun _ _ _ _ _ => (Zrl rfl Tryz.underlying37 (T.e 0 rfl))) ?_; clear T ac; intro ac T
  refine g_q (v := (.pointer (some ⟨g1, 1, none⟩))) (T := T) (i := 9) rfl (by kernel_rfl) (by kernel_rfl : (Zpb 15 511).setIfInBounds 9 true = Zpb 15 1023) si_U (fun _ _ _ h => h) (Zwy rfl rfl (T.e 2 rfl) (by simp [h1])) rfl rfl rfl (fun _ _ _ _ _ => (Zrf (off := 1) rfl (T.e 10 rfl) (fun _ _ _ => by kernel_rfl))) ?_; clear T ac; intro ac T
  refine g_q (T := T) (i := 10) rfl (by kernel_rfl) (by kernel_rfl : (Zpb 15 1023).setIfInBounds 10 true = Zpb 15 2047) si_U (fun _ _ _ h => h) (Zwy rfl rfl (T.e 3 rfl) (by simp [h1])) rfl rfl rfl (fun B w' hD hl hS => (Zro (Mem.nth (show Mem w exq w' _ from hS) 0 rfl) rfl (T.e 0 rfl) rfl)) ?_; clear T ac; intro ac T
  refine g_q (T := T) (i := 11) rfl (by kernel_rfl) (by kernel_rfl : (Zpb 15 2047).setIfInBounds 11 true = Zpb 15 4095) si_U (fun _ _ _ h => h) (Zwy rfl rfl (T.e 4 rfl) (by simp [h1])) rfl rfl rfl (fun _ _ _ _ _ => (rn_slen rfl Tryz.underlying9 (T.e 0 rfl))) ?_; clear T ac; intro ac T
  refine g_q (T := T) (i := 12) rfl (by kernel_rfl) (by kernel_rfl : (Zpb 15 4095).setIfInBounds 12 true = Zpb 15 8191) si_U (fun _ _ _ h => h) (Zwy rfl rfl (T.e 5 rfl) (by simp [h1])) rfl rfl rfl (fun _ _ _ _ _ => (rn_add rfl evc (T.e 0 rfl) (by omega))) ?_; clear T ac; intro ac T
  refine g_q (T := T) (i := 13) rfl (by kernel_rfl) (by kernel_rfl : (Zpb 15 8191).setIfInBounds 13 true = Zpb 15 16383) si_U (fun _ _ _ h => h) (Zwy rfl rfl (T.e 6 rfl) (by simp [h1])) rfl rfl rfl (fun _ _ _ _ _ => (rn_neq rfl (T.e 4 rfl) (T.e 0 rfl))) ?_; clear T ac; intro ac T
  refine gq T 14 32767 rfl (fun _ _ _ _ _ => (Zr0 rfl (T.e 7 rfl) (by simp [h1]) (T.e 0 rfl))) ?_; clear T ac; intro ac T
  refine Zgd (by kernel_rfl) ?_
  replace T := T.pick [0, 15, 16, 17] rfl
  exact ⟨(T.pick (E' := [(1, Zj bb), (3, Zj g1), (7, .slice Au1 lsu1.length cu1), (36, .bool (!(decide (((lsu1.length : Nat) : Int) = (1 + ((fm.length : Nat) : Int))))))]) [3, 2, 1, 0] rfl).as (by (try rw [show (!(decide (w0u1 = kv.word))) = false from (by simp [h1])]); (try rfl)), M.mask [true, true] rfl⟩
 clear T M
 rintro ac wc ⟨T, M⟩
 refine wp_cond_split (T.e 3 rfl) ?_ ?_
 ·intro h2
  (have h2' := h2; try simp only [Zb1, Zb2, Zb3, Zb4, Zb5, Zb6, Zb7] at h2')
  refine Zsr ?_
  refine lq T (Zra rfl evc) ?_; clear T ac; intro ac T
  refine wpList_nil ?_
  replace T := T.pick [0] rfl
  replace M := M.mask [false, true] rfl
  replace M : Mem w exq wc ((bb, .cells (bxM b (.slice A b.lows.length c) (.slice B b.highs.length d))) :: (Ia ++ Ib ++ Iu1)) := M
  refine Znr ?_
  refine Zrt ?_
  refine rt_1 T rfl (T.e 0 rfl) ?_
  have hno : (kv.rd s) = none := by
    refine kv_no (fm := fm) (w0 := w0u1) hk (by rw [← hlsu1]; exact hzu1) ?_
    rintro ⟨h8, h9⟩
    rw [← hlsu1] at h9
    exact condV_bad (a := w0u1) (w := kv.word) (x := ((lsu1.length : Nat) : Int)) (y := 1 + ((fm.length : Nat) : Int)) (by assumption) ⟨h8, by omega⟩
  exact LineB.none (L := ((bb, .cells (boxL b A c B d)) :: (Ia ++ Ib))) hno (Mem.subS (L' := ((bb, .cells (bxM b (.slice A b.lows.length c) (.slice B b.highs.length d))) :: (Ia ++ Ib))) (Iu1) M (fun f => by simp only [bxM, boxL, sumF_app, sumF_cons, sumF_nil, List.cons_append, List.nil_append, List.append_nil, Nat.add_zero, Nat.zero_add] <;> omega)) ⟨A, c, B, d, Ia, Ib, rfl, hsA, hsB⟩
 intro h2
 (have h2' := h2; try simp only [Zb1, Zb2, Zb3, Zb4, Zb5, Zb6, Zb7] at h2')
 refine Zsk ?_
 refine Zsr ?_
 refine Zl2 ?_
 refine Zoa M T rfl rfl rfl rfl ?_; clear M T; intro g2 wc ac M T
 replace T := T.pick [0, 1, 2, 3] rfl
 refine Zln ?_
 refine wp_seq ?_
 refine Zsr ?_
 refine Zg2 T (Zq (Zrm rfl (T.e 3 rfl))) rfl (fun _ T => Zq (rn_slice (size := 1) (l := 1) (h := lsu1.length) rfl Tryz.underlying37 (by kernel_rfl) (T.e 0 rfl) evc rfl (by omega) (by omega))) rfl ?_; clear T ac; intro ac T
 obtain ⟨Aq1, hAq1⟩ : ∃ q : Option Addr, q = (if cu1 = 1 then Au1 else Option.map (fun x : Addr => x.add (1 * 1)) Au1) := ⟨_, rfl⟩
 rw [← hAq1] at T
 obtain ⟨lq1, hlq1⟩ : ∃ q, q = (lsu1.drop 1).take (lsu1.length - 1) := ⟨_, rfl⟩
 have nlq1 : lq1.length = lsu1.length - 1 := by rw [hlq1, List.length_take, List.length_drop]; (try simp only [List.length_cons, List.length_append, List.length_nil]); omega
 rw [← nlq1] at T
 have SAq1 : Sp w exq Iu1 Aq1 lq1.length 1 bu1 (ou1 + 1 * 1) (st lq1) := by rw [nlq1, hAq1, hlq1, ← st_part]; exact Su1.sub (by omega) (by omega) (by omega)
 refine Zg2 T (Zq (Zrl rfl Tryz.underlying37 (T.e 0 rfl))) rfl (fun _ T => Zq (Zrm rfl evc)) rfl ?_; clear T ac; intro ac T
 replace T := T.pick [0, 1, 2, 4, 5, 6] rfl
 refine Zln ?_
 refine wp_block ?_
 have hcond := condV_ok (a := w0u1) (w := kv.word) (x := ((lsu1.length : Nat) : Int)) (y := 1 + ((fm.length : Nat) : Int)) (by assumption)
 have hnl9 : lsu1.length = fm.length + 1 := by have := hcond.2; omega
 refine wp_loop_n (fun mz ac wc => ∃ (i : Nat) (xs : List Int) (R : List (Int × Int)) (N : List Int) (At : Option Addr) (ct : Nat) (Bt : Option Addr) (dt : Nat) (It Iu : List (Nat × BA)), mz = fm.length - i ∧ (i ≤ fm.length) ∧ ((kv.rd s) = andQ (some xs) (valsQ ((fm.map fb).drop i) ((lsu1.drop 1).drop i))) ∧ (MixQ fm i xs R N) ∧ (Sl 26 2 (.slice At R.length ct) R.length (rc R) It) ∧ (Sl 3 1 (.slice Bt N.length dt) N.length (ic N) Iu) ∧ (R.length + N.length = i) ∧ Tm ac 103 [(1, Zj bb), (3, Zj g1), (8, Zj g2), (38, .slice Aq1 lq1.length (cu1 - 1)), (39, Zi ((lq1.length : Nat) : Int)), (40, Zi (i : Int))] ∧ Mem w exq wc ((g2, .cells [.slice At R.length ct, .slice Bt N.length dt]) :: (g1, .cells [sv kv.word, sv fm, .func (.func F) #[] cap.toArray]) :: (bb, .cells (bxM b (.slice A b.lows.length c) (.slice B b.highs.length d))) :: (Ia ++ Ib ++ Iu1 ++ It ++ Iu))) ?_ ?_
 ·exact ⟨_, 0, [], [], [], none, 0, none, 0, [], [], rfl, (by omega), (by rw [hlsu1, kv_prog (fm := fm) hk (by rw [← hlsu1]; exact hzu1) hcond.1]; exact (andQ_zero _).symm), (MixQ.start _), (Sl.nil _ _), (Sl.nil _ _), rfl, T.pick [4, 5, 3, 2, 1, 0] rfl, (by simp only [List.append_nil]; exact M)⟩
 clear T M
 rintro mz ac wc ⟨i, xs, R, N, At, ct, Bt, dt, It, Iu, hmm1, hi, H, hmix, hslR, hslN, hrn, T, M⟩
 refine Zsr ?_
 refine lq T (rn_lss rfl (T.e 5 rfl) (T.e 4 rfl)) ?_; clear T ac; intro ac T
 refine Zln ?_
 refine wp_seq ?_
 refine wp_if (T.e 0 rfl) ?_ ?_
 ·intro h3
  have hq9 : lq1 = lsu1.drop 1 := by rw [hlq1]; exact List.take_of_length_le (by rw [List.length_drop]; exact Nat.le_refl _)
  obtain ⟨p, hkp⟩ : ∃ q, lq1[i]? = some q := ⟨_, List.getElem?_eq_getElem (by omega)⟩
  have hkq : (lsu1.drop 1)[i]? = some p := by rw [← hq9]; exact hkp
  have hpl : p.length ≤ s.length := spl_mem_len (c := 44) (by rw [← hlsu1]; exact List.mem_of_mem_drop (List.mem_of_getElem? hkq))
  obtain ⟨f, hfi⟩ : ∃ q, fm[i]? = some q := ⟨_, List.getElem?_eq_getElem (by omega)⟩
  rw [valsQ_step hfi hkq] at H
  refine Zsk ?_
  refine wp_seq ?_
  refine wp_block ?_
  refine Zsr ?_
  refine Zg5 T (Zq (Zrm rfl (T.e 6 rfl))) rfl (fun _ T => Zq (Zri (size := 1) i rfl (T.e 5 rfl) (T.e 7 rfl) ⟨_, Tryz.underlying37, by kernel_rfl⟩ rfl (by omega) (SAq1.at0 (by omega)))) rfl (fun _ T => Zq (rn_cell (Sp.stC0 SAq1 M (.cons _ (.cons _ (.cons _ (subL (subL (Zsq _ _)))))) hkp) rfl (T.e 0 rfl))) rfl (Za 2 rfl rfl) rfl (Za 1 rfl rfl) rfl ?_; clear T ac; intro ac T
  replace T := T.pick [0, 1, 6, 7, 8, 9, 10, 11] rfl
  refine Zln ?_
  refine wp_seq ?_
  refine Zsr ?_
  refine Zg5 (v1 := (.pointer (some ⟨g1, 1, none⟩))) T (Zq (Zrf (off := 1) rfl (T.e 3 rfl) (fun _ _ _ => by kernel_rfl))) rfl (Zo M 1 0 rfl rfl rfl rfl) rfl (Zm 3 rfl rfl) rfl (fun _ T => Zq (rn_sidx i rfl Tryz.underlying9 (T.e 1 rfl) (T.e 0 rfl) rfl hfi)) rfl (fun _ T => Zq (rn_eql rfl (T.e 0 rfl) evc)) rfl ?_; clear T ac; intro ac T
  replace T := T.pick [0, 5, 7, 8, 9, 10, 11, 12] rfl
  refine Zln ?_
  refine wp_if (T.e 0 rfl) ?_ ?_
  ·intro h4
   refine Zsr ?_
   refine lq T (Zrm rfl (T.e 1 rfl)) ?_; clear T ac; intro ac T
   refine Zl2 ?_
   refine Zoc (first := []) (cap := []) T rfl rfl rfl rfl evf (.cons (T.e 0 rfl) .nil) Tryz.func117 rfl rfl ?_
   refine Calls.mono (number_any p _ (by omega) (hT _ _ M)) ?_
   clear T; rintro e wc ⟨nu2, rfl, hvu2, hb⟩ ac T
   replace M := M.call hb; clear hb
   refine Zg5 T (Zq (Zrm rfl (T.e 0 rfl))) rfl (Ze 0 rfl rfl rfl) rfl (Ze 1 rfl rfl rfl) rfl (Za 1 rfl rfl) rfl (Za 1 rfl rfl) rfl ?_; clear T ac; intro ac T
   replace T := T.pick [0, 1, 9, 10, 11, 12, 13, 14] rfl
   refine Zln ?_
   refine wp_seq ?_
   refine Zsr ?_
   refine Zg2 T (Zq (Zrm rfl (T.e 0 rfl))) rfl (fun _ T => Zq (rn_not rfl (T.e 0 rfl))) rfl ?_; clear T ac; intro ac T
   replace T := T.pick [0, 3, 4, 5, 6, 7, 8, 9] rfl
   refine Zln ?_
   refine wp_cond_split (T.e 0 rfl) ?_ ?_
   ·intro h5
    (have h5' := h5; try simp only [Zb1, Zb2, Zb3, Zb4, Zb5, Zb6, Zb7] at h5')
    refine Zsr ?_
    refine lq T (Zra rfl evc) ?_; clear T ac; intro ac T
    refine wpList_nil ?_
    replace T := T.pick [0] rfl
    replace M := M.mask [false, false, true] rfl
    replace M : Mem w exq wc ((bb, .cells (bxM b (.slice A b.lows.length c) (.slice B b.highs.length d))) :: (Ia ++ Ib ++ Iu1 ++ It ++ Iu)) := M
    refine Znr ?_
    refine Zrt ?_
    refine Zrt ?_
    refine Zrb ?_
    refine Zrt ?_
    refine Zrt ?_
    refine Zrb ?_
    refine Zrt ?_
    refine rt_1 T rfl (T.e 0 rfl) ?_
    have hwp := wordQ_nonum (p := p) (by first | assumption | simp_all)
    rw [fb_n (c := f) (by first | assumption | omega), hwp] at H
    exact LineB.none (L := ((bb, .cells (boxL b A c B d)) :: (Ia ++ Ib))) (H.trans rfl) (Mem.subS (L' := ((bb, .cells (bxM b (.slice A b.lows.length c) (.slice B b.highs.length d))) :: (Ia ++ Ib))) ((Iu1 ++ It ++ Iu)) M (fun f => by simp only [bxM, boxL, sumF_app, sumF_cons, sumF_nil, List.cons_append, List.nil_append, List.append_nil, Nat.add_zero, Nat.zero_add] <;> omega)) ⟨A, c, B, d, Ia, Ib, rfl, hsA, hsB⟩
   intro h5
   (have h5' := h5; try simp only [Zb1, Zb2, Zb3, Zb4, Zb5, Zb6, Zb7] at h5')
   refine Zsk ?_
   refine Zsr ?_
   refine Zg3 (v1 := (.pointer (some ⟨g2, 1, none⟩))) T (Zq (Zrf (off := 1) rfl (T.e 4 rfl) (fun _ _ _ => by kernel_rfl))) rfl (Zo M 0 0 rfl rfl rfl rfl) rfl (Zm 3 rfl rfl) rfl ?_; clear T ac; intro ac T
   refine Zl2 ?_
   refine ow_bs (e := 3) [Zi nu2] M T rfl rfl rfl rfl (.cons (T.e 0 rfl) .nil) (fun _ => by kernel_rfl) ?_; clear M T; intro g3 wc ac M T
   refine Zl2 ?_
   refine ow_app (((g3, .cells [Zi nu2]) :: (g2, .cells [.slice At R.length ct, .slice Bt N.length dt]) :: (g1, .cells [sv kv.word, sv fm, .func (.func F) #[] cap.toArray]) :: (bb, .cells (bxM b (.slice A b.lows.length c) (.slice B b.highs.length d))) :: (Ia ++ Ib ++ Iu1 ++ It))) Tryz.info3 hslN M (by first | rfl | simp) T rfl rfl rfl rfl Tryz.underlying31 rfl rfl rfl (by omega) (T.e 2 rfl) (T.e 0 rfl) (Zne (i := 0) rfl) rfl rfl ?_; clear M T; intro ga1 cga1 wc ac M T
   refine lq (v := (.pointer (some ⟨g2, 1, none⟩))) T (Zrf (off := 1) rfl (T.e 9 rfl) (fun _ _ _ => by kernel_rfl)) ?_; clear T ac; intro ac T
   refine Zl2 ?_
   refine Zos M T rfl rfl (T.e 0 rfl) (T.e 1 rfl) rfl (.tail (.tail .head)) rfl (by simp) rfl (by kernel_rfl) ?_; clear M T; intro wc ac M T
   refine wpList_nil ?_
   replace T := T.pick [8, 9, 10, 11, 12, 13] rfl
   replace M := M.mask [true, false, true, true, true] rfl
   replace M : Mem w exq wc ((ga1, .row 3 1 (N.length + 1) ((ic N) ++ [Zi nu2]) cga1) :: (g2, .cells [.slice At R.length ct, .slice (some ⟨ga1, 0, none⟩) (N.length + 1) cga1]) :: (g1, .cells [sv kv.word, sv fm, .func (.func F) #[] cap.toArray]) :: (bb, .cells (bxM b (.slice A b.lows.length c) (.slice B b.highs.length d))) :: (Ia ++ Ib ++ Iu1 ++ It)) := M
   refine nm_then ?_
   refine wp_exit ?_
   refine Zet ?_
   refine ex_hit ?_
   refine nm_then ?_
   refine wp_region_lit ?_
   refine lq T (rn_add rfl (T.e 5 rfl) evc (by omega)) ?_; clear T ac; intro ac T
   refine l_q (v := (Zi ((i : Int) + 1))) (T.pick [0, 1, 2, 3, 4, 5] rfl) rfl rfl rfl rfl (Zrm rfl (T.e 0 rfl)) ?_; clear T ac; intro ac T
   replace T := T.pick [0, 2, 3, 4, 5, 6] rfl
   refine Zln ?_
   have hff := fb_n (c := f) (by first | assumption | omega)
   have e9 : N.length + 1 = (N ++ [nu2]).length := by simp
   have e8 : ((ic N) ++ [Zi nu2]) = ic (N ++ [nu2]) := by first | rw [ic_snoc] | rw [← ic_snoc]
   rw [e9, e8] at M
   clear e9 e8
   have hwp := wordQ_num (p := p) hvu2 (by first | assumption | simp_all)
   rw [hff, hwp, andQ_put] at H
   replace hmix := hmix.num hfi hff nu2
   exact ⟨_, by omega, i + 1, (xs ++ [nu2]), R, (N ++ [nu2]), At, ct, some ⟨ga1, 0, none⟩, cga1, It, [(ga1, .row 3 1 (N ++ [nu2]).length (ic (N ++ [nu2])) cga1)], rfl, (by omega), H, hmix, hslR, (Sl.row _ _ _ _ _ _), (by simp only [List.length_append, List.length_cons, List.length_nil]; omega), T.pick [1, 2, 3, 4, 5, 0] rfl, (Mem.subS ([]) M (fun f => by simp only [bxM, boxL, sumF_app, sumF_cons, sumF_nil, List.cons_append, List.nil_append, List.append_nil, Nat.add_zero, Nat.zero_add] <;> omega))⟩
  intro h4
  refine Zsk ?_
  refine Zsr ?_
  refine lq T (Zrm rfl (T.e 1 rfl)) ?_; clear T ac; intro ac T
  refine Zl2 ?_
  refine Zoc (first := []) (cap := []) T rfl rfl rfl rfl evf (.cons (T.e 0 rfl) (.cons evc .nil)) Tryz.func118 rfl rfl ?_
  refine Calls.mono (Cut_any p [46, 46] _ (by omega) (hT _ _ M)) ?_
  clear T; rintro e wc ⟨rfl, hb⟩ ac T
  replace M := M.call hb; clear hb
  replace M : Mem w exq wc ((g2, .cells [.slice At R.length ct, .slice Bt N.length dt]) :: (g1, .cells [sv kv.word, sv fm, .func (.func F) #[] cap.toArray]) :: (bb, .cells (bxM b (.slice A b.lows.length c) (.slice B b.highs.length d))) :: (Ia ++ Ib ++ Iu1 ++ Iu ++ It)) := (Mem.permS (L' := ((g2, .cells [.slice At R.length ct, .slice Bt N.length dt]) :: (g1, .cells [sv kv.word, sv fm, .func (.func F) #[] cap.toArray]) :: (bb, .cells (bxM b (.slice A b.lows.length c) (.slice B b.highs.length d))) :: (Ia ++ Ib ++ Iu1 ++ Iu ++ It))) M (fun f => by simp only [bxM, boxL, sumF_app, sumF_cons, sumF_nil, List.cons_append, List.nil_append, List.append_nil, Nat.add_zero, Nat.zero_add] <;> omega))
  have hcl := cut2_len p
  refine Zg7 T (Zq (Zrm rfl (T.e 0 rfl))) rfl (Ze 0 rfl rfl rfl) rfl (Ze 1 rfl rfl rfl) rfl (Ze 2 rfl rfl rfl) rfl (Za 2 rfl rfl) rfl (Za 2 rfl rfl) rfl (Za 2 rfl rfl) rfl ?_; clear T ac; intro ac T
  replace T := T.pick [0, 1, 2, 11, 12, 13, 14, 15, 16] rfl
  refine Zln ?_
  refine Zsr ?_
  refine lq T (Zrm rfl (T.e 2 rfl)) ?_; clear T ac; intro ac T
  refine Zl2 ?_
  refine Zoc (first := []) (cap := []) T rfl rfl rfl rfl evf (.cons (T.e 0 rfl) .nil) Tryz.func117 rfl rfl ?_
  refine Calls.mono (number_any ((Lib.cut p [46, 46]).1) _ (by omega) (hT _ _ M)) ?_
  clear T; rintro e wc ⟨nu4, rfl, hvu4, hb⟩ ac T
  replace M := M.call hb; clear hb
  refine Zg5 T (Zq (Zrm rfl (T.e 0 rfl))) rfl (Ze 0 rfl rfl rfl) rfl (Ze 1 rfl rfl rfl) rfl (Za 1 rfl rfl) rfl (Za 1 rfl rfl) rfl ?_; clear T ac; intro ac T
  replace T := T.pick [0, 1, 7, 8, 10, 11, 12, 13, 14, 15] rfl
  refine Zln ?_
  refine Zsr ?_
  refine lq T (Zrm rfl (T.e 3 rfl)) ?_; clear T ac; intro ac T
  refine Zl2 ?_
  refine Zoc (first := []) (cap := []) T rfl rfl rfl rfl evf (.cons (T.e 0 rfl) .nil) Tryz.func117 rfl rfl ?_
  refine Calls.mono (number_any ((Lib.cut p [46, 46]).2.1) _ (by omega) (hT _ _ M)) ?_
  clear T; rintro e wc ⟨nu5, rfl, hvu5, hb⟩ ac T
  replace M := M.call hb; clear hb
  refine Zg5 T (Zq (Zrm rfl (T.e 0 rfl))) rfl (Ze 0 rfl rfl rfl) rfl (Ze 1 rfl rfl rfl) rfl (Za 1 rfl rfl) rfl (Za 1 rfl rfl) rfl ?_; clear T ac; intro ac T
  replace T := T.pick [0, 1, 7, 8, 9, 11, 12, 13, 14, 15, 16] rfl
  refine Zln ?_
  refine wp_seq ?_
  refine cut_seq (fun ac wc => Tm ac 103 [(1, Zj bb), (3, Zj g1), (8, Zj g2), (16, Zi nu4), (18, Zi nu5), (38, .slice Aq1 lq1.length (cu1 - 1)), (39, Zi ((lq1.length : Nat) : Int)), (40, Zi (i : Int)), (88, .bool ((!((Lib.cut p [46, 46]).2.2)) || ((!((numP ((Lib.cut p [46, 46]).1)).isSome)) || (!((numP ((Lib.cut p [46, 46]).2.1)).isSome)))))] ∧ Mem w exq wc ((g2, .cells [.slice At R.length ct, .slice Bt N.length dt]) :: (g1, .cells [sv kv.word, sv fm, .func (.func F) #[] cap.toArray]) :: (bb, .cells (bxM b (.slice A b.lows.length c) (.slice B b.highs.length d))) :: (Ia ++ Ib ++ Iu1 ++ Iu ++ It))) ?_ ?_
  ·refine wp_region_lit ?_
   refine Zg3 T (Zq (Zrm rfl (T.e 4 rfl))) rfl (fun _ T => Zq (rn_not rfl (T.e 0 rfl))) rfl (Zm 0 rfl rfl) rfl ?_; clear T ac; intro ac T
   rcases Bool.eq_false_or_eq_true (!((Lib.cut p [46, 46]).2.2)) with h6 | h6
   ·refine Zg7 T (Zp (Zwn rfl rfl (T.e 0 rfl) h6)) rfl (fun _ T => Zp (Zwn rfl rfl (T.e 1 rfl) h6)) rfl (fun _ T => Zq (Zr1 rfl (T.e 2 rfl) h6 evc)) rfl (Zm 0 rfl rfl) rfl (fun _ T => Zp (Zwn rfl rfl (T.e 0 rfl) rfl)) rfl (fun _ T => Zp (Zwn rfl rfl (T.e 1 rfl) rfl)) rfl (fun _ T => Zq (Zr1 rfl (T.e 2 rfl) rfl evc)) rfl ?_; clear T ac; intro ac T
    refine wpList_nil ?_
    replace T := T.pick [0, 1, 2, 5, 6, 11, 13, 15, 16, 17, 18, 19, 20] rfl
    exact ⟨(T.pick (E' := [(1, Zj bb), (3, Zj g1), (8, Zj g2), (16, Zi nu4), (18, Zi nu5), (38, .slice Aq1 lq1.length (cu1 - 1)), (39, Zi ((lq1.length : Nat) : Int)), (40, Zi (i : Int)), (88, .bool true)]) [7, 8, 9, 6, 5, 10, 11, 12, 0] rfl).as (by (try rw [show (!((Lib.cut p [46, 46]).2.2)) = true from h6]); (try rfl)), M.mask [true, true, true] rfl⟩
   refine Zg4 T (Zw (Zwy rfl rfl (T.e 0 rfl) h6) (Zrm rfl (T.e 5 rfl))) rfl (fun _ T => Zw (Zwy rfl rfl (T.e 1 rfl) h6) (rn_not rfl (T.e 0 rfl))) rfl (fun _ T => Zq (Zr0 rfl (T.e 2 rfl) h6 (T.e 0 rfl))) rfl (Zm 0 rfl rfl) rfl ?_; clear T ac; intro ac T
   rcases Bool.eq_false_or_eq_true (!((numP ((Lib.cut p [46, 46]).1)).isSome)) with h7 | h7
   ·refine Zg3 T (Zp (Zwn rfl rfl (T.e 0 rfl) h7)) rfl (fun _ T => Zp (Zwn rfl rfl (T.e 1 rfl) h7)) rfl (fun _ T => Zq (Zr1 rfl (T.e 2 rfl) h7 evc)) rfl ?_; clear T ac; intro ac T
    refine wpList_nil ?_
    replace T := T.pick [0, 1, 2, 5, 6, 11, 13, 15, 16, 17, 18, 19, 20] rfl
    exact ⟨(T.pick (E' := [(1, Zj bb), (3, Zj g1), (8, Zj g2), (16, Zi nu4), (18, Zi nu5), (38, .slice Aq1 lq1.length (cu1 - 1)), (39, Zi ((lq1.length : Nat) : Int)), (40, Zi (i : Int)), (88, .bool true)]) [7, 8, 9, 6, 5, 10, 11, 12, 0] rfl).as (by (try rw [show (!((Lib.cut p [46, 46]).2.2)) = false from h6]); (try rw [show (!((numP ((Lib.cut p [46, 46]).1)).isSome)) = true from h7]); (try rfl)), M.mask [true, true, true] rfl⟩
   refine Zg3 T (Zw (Zwy rfl rfl (T.e 0 rfl) h7) (Zrm rfl (T.e 7 rfl))) rfl (fun _ T => Zw (Zwy rfl rfl (T.e 1 rfl) h7) (rn_not rfl (T.e 0 rfl))) rfl (fun _ T => Zq (Zr0 rfl (T.e 2 rfl) h7 (T.e 0 rfl))) rfl ?_; clear T ac; intro ac T
   refine wpList_nil ?_
   replace T := T.pick [0, 1, 2, 5, 6, 11, 13, 15, 16, 17, 18, 19, 20] rfl
   exact ⟨(T.pick (E' := [(1, Zj bb), (3, Zj g1), (8, Zj g2), (16, Zi nu4), (18, Zi nu5), (38, .slice Aq1 lq1.length (cu1 - 1)), (39, Zi ((lq1.length : Nat) : Int)), (40, Zi (i : Int)), (88, .bool (!((numP ((Lib.cut p [46, 46]).2.1)).isSome)))]) [7, 8, 9, 6, 5, 10, 11, 12, 0] rfl).as (by (try rw [show (!((Lib.cut p [46, 46]).2.2)) = false from h6]); (try rw [show (!((numP ((Lib.cut p [46, 46]).1)).isSome)) = false from h7]); (try rfl)), M.mask [true, true, true] rfl⟩
  clear T M
  rintro ac wc ⟨T, M⟩
  refine wp_cond_split (T.e 8 rfl) ?_ ?_
  ·intro h8
   (have h8' := h8; try simp only [Zb1, Zb2, Zb3, Zb4, Zb5, Zb6, Zb7] at h8')
   refine Zsr ?_
   refine lq T (Zra rfl evc) ?_; clear T ac; intro ac T
   refine wpList_nil ?_
   replace T := T.pick [0] rfl
   replace M := M.mask [false, false, true] rfl
   replace M : Mem w exq wc ((bb, .cells (bxM b (.slice A b.lows.length c) (.slice B b.highs.length d))) :: (Ia ++ Ib ++ Iu1 ++ Iu ++ It)) := M
   refine Znr ?_
   refine Zrt ?_
   refine Zrb ?_
   refine Zrt ?_
   refine Zrt ?_
   refine Zrb ?_
   refine Zrt ?_
   refine rt_1 T rfl (T.e 0 rfl) ?_
   have hwp := wordQ_norg (p := p) (by assumption)
   rw [fb_r (c := f) (by first | assumption | omega), hwp] at H
   exact LineB.none (L := ((bb, .cells (boxL b A c B d)) :: (Ia ++ Ib))) (H.trans rfl) (Mem.subS (L' := ((bb, .cells (bxM b (.slice A b.lows.length c) (.slice B b.highs.length d))) :: (Ia ++ Ib))) ((Iu1 ++ Iu ++ It)) M (fun f => by simp only [bxM, boxL, sumF_app, sumF_cons, sumF_nil, List.cons_append, List.nil_append, List.append_nil, Nat.add_zero, Nat.zero_add] <;> omega)) ⟨A, c, B, d, Ia, Ib, rfl, hsA, hsB⟩
  intro h8
  (have h8' := h8; try simp only [Zb1, Zb2, Zb3, Zb4, Zb5, Zb6, Zb7] at h8')
  refine Zsk ?_
  refine wp_region_lit ?_
  refine Zg5 (v1 := (Zj g2)) (v5 := (.agg #[Zi nu4, Zi nu5])) T (Zq (Zrf (off := 0) rfl (T.e 2 rfl) (fun _ _ _ => by kernel_rfl))) rfl (Zo M 0 0 rfl rfl rfl rfl) rfl (Zm 5 rfl rfl) rfl (Zm 7 rfl rfl) rfl (fun _ T => Zq (rn_build rfl (.cons (T.e 1 rfl) (.cons (T.e 0 rfl) .nil)) (fun _ => by kernel_rfl))) rfl ?_; clear T ac; intro ac T
  refine Zl2 ?_
  refine ow_bs (e := 26) [Zi nu4, Zi nu5] M T rfl rfl rfl rfl (.cons (T.e 0 rfl) .nil) (fun _ => by kernel_rfl) ?_; clear M T; intro g4 wc ac M T
  refine Zl2 ?_
  refine ow_app (((g4, .cells [Zi nu4, Zi nu5]) :: (g2, .cells [.slice At R.length ct, .slice Bt N.length dt]) :: (g1, .cells [sv kv.word, sv fm, .func (.func F) #[] cap.toArray]) :: (bb, .cells (bxM b (.slice A b.lows.length c) (.slice B b.highs.length d))) :: (Ia ++ Ib ++ Iu1 ++ Iu))) Tryz.info26 hslR M (by first | rfl | simp) T rfl rfl rfl rfl Tryz.underlying57 rfl rfl rfl (by omega) (T.e 4 rfl) (T.e 0 rfl) (Zne (i := 0) rfl) rfl rfl ?_; clear M T; intro ga2 cga2 wc ac M T
  refine lq (v := (Zj g2)) T (Zrf (off := 0) rfl (T.e 9 rfl) (fun _ _ _ => by kernel_rfl)) ?_; clear T ac; intro ac T
  refine Zl2 ?_
  refine Zos M T rfl rfl (T.e 0 rfl) (T.e 1 rfl) rfl (.tail (.tail .head)) rfl (by simp) rfl (by kernel_rfl) ?_; clear M T; intro wc ac M T
  refine wpList_nil ?_
  replace T := T.pick [8, 9, 10, 13, 14, 15] rfl
  replace M := M.mask [true, false, true, true, true] rfl
  replace M : Mem w exq wc ((ga2, .row 26 2 (R.length + 1) ((rc R) ++ [Zi nu4, Zi nu5]) cga2) :: (g2, .cells [.slice (some ⟨ga2, 0, none⟩) (R.length + 1) cga2, .slice Bt N.length dt]) :: (g1, .cells [sv kv.word, sv fm, .func (.func F) #[] cap.toArray]) :: (bb, .cells (bxM b (.slice A b.lows.length c) (.slice B b.highs.length d))) :: (Ia ++ Ib ++ Iu1 ++ Iu)) := M
  refine Znb ?_
  refine nm_then ?_
  refine wp_region_lit ?_
  refine lq T (rn_add rfl (T.e 5 rfl) evc (by omega)) ?_; clear T ac; intro ac T
  refine l_q (v := (Zi ((i : Int) + 1))) (T.pick [0, 1, 2, 3, 4, 5] rfl) rfl rfl rfl rfl (Zrm rfl (T.e 0 rfl)) ?_; clear T ac; intro ac T
  replace T := T.pick [0, 2, 3, 4, 5, 6] rfl
  refine Zln ?_
  have hft := fb_r (c := f) (by first | assumption | omega)
  have e9 : R.length + 1 = (R ++ [(nu4, nu5)]).length := by simp
  have e8 : ((rc R) ++ [Zi nu4, Zi nu5]) = rc (R ++ [(nu4, nu5)]) := by first | rw [rc_snoc] | rw [← rc_snoc]
  rw [e9, e8] at M
  clear e9 e8
  have hwp := wordQ_rg (p := p) (by assumption) hvu4 hvu5
  rw [hft, hwp, andQ_put] at H
  replace hmix := hmix.rg hfi hft nu4 nu5
  exact ⟨_, by omega, i + 1, (xs ++ [nu4, nu5]), (R ++ [(nu4, nu5)]), N, some ⟨ga2, 0, none⟩, cga2, Bt, dt, [(ga2, .row 26 2 (R ++ [(nu4, nu5)]).length (rc (R ++ [(nu4, nu5)])) cga2)], Iu, rfl, (by omega), H, hmix, (Sl.row _ _ _ _ _ _), hslN, (by simp only [List.length_append, List.length_cons, List.length_nil]; omega), T.pick [1, 2, 3, 4, 5, 0] rfl, (Mem.subS ([]) M (fun f => by simp only [bxM, boxL, sumF_app, sumF_cons, sumF_nil, List.cons_append, List.nil_append, List.append_nil, Nat.add_zero, Nat.zero_add] <;> omega))⟩
 intro h3
 refine wp_exit ?_
 refine Zet ?_
 refine Zet ?_
 refine ex_hit ?_
 refine nm_then ?_
 refine Zsr ?_
 refine Zg4 (v1 := (.pointer (some ⟨g1, 2, none⟩))) T (Zq (Zrf (off := 2) rfl (T.e 2 rfl) (fun _ _ _ => by kernel_rfl))) rfl (Zo M 1 0 rfl rfl rfl rfl) rfl (Zm 3 rfl rfl) rfl (Zr M 0 6 rfl rfl rfl rfl) rfl ?_; clear T ac; intro ac T
 refine Zl2 ?_
 have hi9 : i = fm.length := by omega
 have hm9 := hmix
 rw [hi9] at hm9
 have Mq : Mem w exq wc ((bb, .cells (bxM b (.slice A b.lows.length c) (.slice B b.highs.length d))) :: (Ia ++ Ib ++ (It ++ Iu ++ ((g2, .cells [.slice At R.length ct, .slice Bt N.length dt]) :: (g1, .cells [sv kv.word, sv fm, .func (.func F) #[] cap.toArray]) :: Iu1)))) := M.permS (fun f => by simp only [bxM, boxL, sumF_app, sumF_cons, sumF_nil, List.cons_append, List.nil_append, List.append_nil, Nat.add_zero, Nat.zero_add] <;> omega)
 refine Zoc (first := []) (cap := cap) T rfl rfl rfl rfl (T.e 2 rfl) (.cons (T.e 1 rfl) (.cons (T.e 0 rfl) .nil)) hF hnm9 hbF ?_
 refine Calls.mono (htake R N xs At ct Bt dt It Iu ((g2, .cells [.slice At R.length ct, .slice Bt N.length dt]) :: (g1, .cells [sv kv.word, sv fm, .func (.func F) #[] cap.toArray]) :: Iu1) _ hm9 hslR hslN Mq) ?_
 clear T; rintro e wc ⟨rfl, L9, N9, hk9⟩ ac T
 replace M : Mem w exq wc (L9) := N9
 clear N9
 replace T := T.pick [] rfl
 refine Zln ?_
 refine Zsr ?_
 refine lq T (Zra rfl evc) ?_; clear T ac; intro ac T
 refine Zln ?_
 refine wp_ret ?_
 refine rt_1 T rfl (T.e 0 rfl) ?_
 rw [List.drop_of_length_le (l := fm.map fb) (by rw [List.length_map]; omega), List.drop_of_length_le (l := lsu1.drop 1) (by rw [List.length_drop]; omega)] at H
 replace H : kv.rd s = some xs := H.trans (by show some (xs ++ []) = some xs; rw [List.append_nil])
 exact ⟨by rw [H]; rfl, L9, M, by rw [H]; exact hk9⟩
theorem vread0_any (s : List UInt8) (bb : Nat) (b : Bx) (A : Option Addr) (c : Nat) (B : Option Addr) (d : Nat) (Ia Ib : List (Nat × BA)) (exq : Nat → Prop) (w : World) (hs : s.length ≤ 800000) (hT : ∀ wc L, Mem w exq wc L → StrW wc) (hsA : Sl 77 4 (.slice A b.lows.length c) b.lows.length (sc b.lows) Ia) (hsB : Sl 77 4 (.slice B b.highs.length d) b.highs.length (sc b.highs) Ib) (M0 : Mem w exq w ((bb, .cells (bxM b (.slice A b.lows.length c) (.slice B b.highs.length d))) :: (Ia ++ Ib))) : Calls Tryz.prog 49 #[.agg #[sv KL.word, sv fmL, .func (.func 112) #[] #[]], Zj bb, sv s] w (LineB (KL.rd s) w exq bb 0 b) := by
 refine vreadG_any KL fmL 0 112 _ [] s bb b A c B d Ia Ib exq w rfl (by decide) Tryz.func112 (by kernel_rfl) (by kernel_rfl) hs hT hsA hsB M0 ?_
 intro R N xs X cx Y cy It Iu Fr wc hm sR sN M
 obtain ⟨qm, qt, qf⟩ := hm
 replace qt : R.length = 0 := qt
 replace qf : N.length = 5 := qf
 obtain ⟨bx, ox, SVx⟩ := Sl.spW sR (rc_length _)
 have hR := List.length_eq_zero_iff.1 qt
 obtain ⟨n0, n1, n2, n3, n4, hN⟩ := len5 qf
 have hx9 : xs = [n0, n1, n2, n3, n4] := by rw [qm, hR, hN]; rfl
 rw [hx9]
 obtain ⟨by9, oy, SVy⟩ := Sl.spW sN (by rw [ic_length, Nat.mul_one])
 have MR : Mem w exq wc (It ++ ((bb, .cells (bxM b (.slice A b.lows.length c) (.slice B b.highs.length d))) :: (Ia ++ Ib ++ (Iu ++ Fr)))) := M.permS (fun f => by simp only [bxM, boxL, sumF_app, sumF_cons, sumF_nil, List.cons_append, List.nil_append, List.append_nil, Nat.add_zero, Nat.zero_add] <;> omega)
 have MN : Mem w exq wc (Iu ++ ((bb, .cells (bxM b (.slice A b.lows.length c) (.slice B b.highs.length d))) :: (Ia ++ Ib ++ (It ++ Fr)))) := M.permS (fun f => by simp only [bxM, boxL, sumF_app, sumF_cons, sumF_nil, List.cons_append, List.nil_append, List.append_nil, Nat.add_zero, Nat.zero_add] <;> omega)
 have nR := Sl.ne sR (Mem.subS (L' := (bb, .cells (bxM b (.slice A b.lows.length c) (.slice B b.highs.length d))) :: It) (Ia ++ Ib ++ (Iu ++ Fr)) M (fun f => by simp only [bxM, boxL, sumF_app, sumF_cons, sumF_nil, List.cons_append, List.nil_append, List.append_nil, Nat.add_zero, Nat.zero_add] <;> omega))
 have nN := Sl.ne sN (Mem.subS (L' := (bb, .cells (bxM b (.slice A b.lows.length c) (.slice B b.highs.length d))) :: Iu) (Ia ++ Ib ++ (It ++ Fr)) M (fun f => by simp only [bxM, boxL, sumF_app, sumF_cons, sumF_nil, List.cons_append, List.nil_append, List.append_nil, Nat.add_zero, Nat.zero_add] <;> omega))
 refine Calls.mono (vtq0 bb b A c B d X cx Y cy R N n0 n1 n2 n3 n4 hR hN wc (M.nth 0 rfl) ((SVx w exq).rd MR (Zsl _ _)) nR ((SVy w exq).rd MN (Zsl _ _)) nN) ?_
 rintro e w9 ⟨rfl, N9⟩
 have M9 := Mem.joinX (X := [(bb, .cells (bxM b (.slice A b.lows.length c) (.slice B b.highs.length d)))]) (F := Ia ++ Ib ++ (It ++ Iu ++ Fr)) M N9 (fun b h => by subst h; exact Zz2)
 exact ⟨rfl, (bb, .cells [Zi n0, Zi n1, Zi n2, Zi n3, Zi n4, .slice A b.lows.length c, .slice B b.highs.length d, Zi b.t0, Zi b.t1, Zi b.r0, Zi b.r1, Zi b.u0, Zi b.u1, Zi b.d0, Zi b.d1, Zi b.a0, Zi b.a1, Zi b.b0, Zi b.b1, Zi b.le, Zi b.me]) :: (Ia ++ Ib), Mem.subS (It ++ Iu ++ Fr) M9 (fun f => by simp only [bxM, boxL, sumF_app, sumF_cons, sumF_nil, List.cons_append, List.nil_append, List.append_nil, Nat.add_zero, Nat.zero_add] <;> omega), A, c, B, d, Ia, Ib, rfl, hsA, hsB⟩
theorem vread1_any (s : List UInt8) (bb gs : Nat) (b : Bx) (A : Option Addr) (c : Nat) (B : Option Addr) (d : Nat) (Ia Ib : List (Nat × BA)) (exq : Nat → Prop) (w : World) (hs : s.length ≤ 800000) (hT : ∀ wc L, Mem w exq wc L → StrW wc) (hsA : Sl 77 4 (.slice A b.lows.length c) b.lows.length (sc b.lows) Ia) (hsB : Sl 77 4 (.slice B b.highs.length d) b.highs.length (sc b.highs) Ib) (M0 : Mem w exq w ((bb, .cells (bxM b (.slice A b.lows.length c) (.slice B b.highs.length d))) :: (Ia ++ Ib))) (hl : b.lows.length ≤ 800000) (qs : Bk w gs #[.func (.func 111) #[] #[]]) (hgs : ¬ exq gs) : Calls Tryz.prog 49 #[.agg #[sv KA.word, sv fmA, .func (.func 113) #[] #[Zj gs]], Zj bb, sv s] w (LineB (KA.rd s) w exq bb 1 b) := by
 refine vreadG_any KA fmA 1 113 _ [Zj gs] s bb b A c B d Ia Ib exq w rfl (by decide) Tryz.func113 (by kernel_rfl) (by kernel_rfl) hs hT hsA hsB M0 ?_
 intro R N xs X cx Y cy It Iu Fr wc hm sR sN M
 obtain ⟨qm, qt, qf⟩ := hm
 replace qt : R.length = 2 := qt
 replace qf : N.length = 0 := qf
 obtain ⟨bx, ox, SVx⟩ := Sl.spW sR (rc_length _)
 have hN := List.length_eq_zero_iff.1 qf
 obtain ⟨s0, s1, s2, s3, hR⟩ := len2r qt
 have hx9 : xs = [s0, s1, s2, s3] := by rw [qm, hR, hN]; rfl
 rw [hx9]
 have Mq : Mem w exq wc (((bb, .cells (bxM b (.slice A b.lows.length c) (.slice B b.highs.length d))) :: (Ib ++ Ia)) ++ (It ++ Iu ++ Fr)) := M.permS (fun f => by simp only [bxM, boxL, sumF_app, sumF_cons, sumF_nil, List.cons_append, List.nil_append, List.append_nil, Nat.add_zero, Nat.zero_add] <;> omega)
 have My : Mem w exq wc ((bb, .cells (bxM b (.slice A b.lows.length c) (.slice B b.highs.length d))) :: (Ib ++ Ia)) := Mq.sub (Zsl _ _)
 have Sx := Sp.of (ex' := inL ((bb, .cells (bxM b (.slice A b.lows.length c) (.slice B b.highs.length d))) :: (Ib ++ Ia))) Mq (fun _ h => h) (SVx w exq) ((Zsl It Iu).trans (Zsl _ _))
 have hO := Old.move (ex' := inL ((bb, .cells (bxM b (.slice A b.lows.length c) (.slice B b.highs.length d))) :: (Ib ++ Ia))) (cs := [.func (.func 111) #[] #[]]) Mq inL_left ⟨qs, hgs⟩
 refine Calls.mono (vtq1 bb gs b A c B d Ia Ib (inL ((bb, .cells (bxM b (.slice A b.lows.length c) (.slice B b.highs.length d))) :: (Ib ++ Ia))) X cx Y cy N.length bx ox R s0 s1 s2 s3 hR wc (by omega) hsA Sx My.rebase hO.1 hO.2) ?_
 rintro e w9 ⟨g9, c9, rfl, N9⟩
 have e9 : b.lows.length + 1 = (b.lows ++ [(⟨s0, s1, s2, s3⟩ : Snd)]).length := by simp
 have e8 : sc b.lows ++ sc [⟨s0, s1, s2, s3⟩] = sc (b.lows ++ [(⟨s0, s1, s2, s3⟩ : Snd)]) := by simp [sc]
 rw [e9, e8] at N9
 have M9 := Mem.joinX (X := ((bb, .cells (bxM b (.slice A b.lows.length c) (.slice B b.highs.length d))) :: (Ib ++ Ia))) Mq N9 (fun b h => h)
 exact ⟨rfl, (bb, .cells [Zi b.first, Zi b.step, Zi b.span, Zi b.press, Zi b.note, .slice (some ⟨g9, 0, none⟩) ((b.lows ++ [(⟨s0, s1, s2, s3⟩ : Snd)]).length) c9, .slice B b.highs.length d, Zi b.t0, Zi b.t1, Zi b.r0, Zi b.r1, Zi b.u0, Zi b.u1, Zi b.d0, Zi b.d1, Zi b.a0, Zi b.a1, Zi b.b0, Zi b.b1, Zi b.le, Zi b.me]) :: ([(g9, .row 77 4 (b.lows ++ [(⟨s0, s1, s2, s3⟩ : Snd)]).length (sc (b.lows ++ [(⟨s0, s1, s2, s3⟩ : Snd)])) c9)] ++ Ib), Mem.subS (It ++ Iu ++ Fr) M9 (fun f => by simp only [bxM, boxL, sumF_app, sumF_cons, sumF_nil, List.cons_append, List.nil_append, List.append_nil, Nat.add_zero, Nat.zero_add] <;> omega), some ⟨g9, 0, none⟩, c9, B, d, [(g9, .row 77 4 (b.lows ++ [(⟨s0, s1, s2, s3⟩ : Snd)]).length (sc (b.lows ++ [(⟨s0, s1, s2, s3⟩ : Snd)])) c9)], Ib, rfl, Sl.row _ _ _ _ _ _, hsB⟩
theorem vread2_any (s : List UInt8) (bb gs : Nat) (b : Bx) (A : Option Addr) (c : Nat) (B : Option Addr) (d : Nat) (Ia Ib : List (Nat × BA)) (exq : Nat → Prop) (w : World) (hs : s.length ≤ 800000) (hT : ∀ wc L, Mem w exq wc L → StrW wc) (hsA : Sl 77 4 (.slice A b.lows.length c) b.lows.length (sc b.lows) Ia) (hsB : Sl 77 4 (.slice B b.highs.length d) b.highs.length (sc b.highs) Ib) (M0 : Mem w exq w ((bb, .cells (bxM b (.slice A b.lows.length c) (.slice B b.highs.length d))) :: (Ia ++ Ib))) (hl : b.highs.length ≤ 800000) (qs : Bk w gs #[.func (.func 111) #[] #[]]) (hgs : ¬ exq gs) : Calls Tryz.prog 49 #[.agg #[sv KB.word, sv fmA, .func (.func 114) #[] #[Zj gs]], Zj bb, sv s] w (LineB (KB.rd s) w exq bb 2 b) := by
 refine vreadG_any KB fmA 2 114 _ [Zj gs] s bb b A c B d Ia Ib exq w rfl (by decide) Tryz.func114 (by kernel_rfl) (by kernel_rfl) hs hT hsA hsB M0 ?_
 intro R N xs X cx Y cy It Iu Fr wc hm sR sN M
 obtain ⟨qm, qt, qf⟩ := hm
 replace qt : R.length = 2 := qt
 replace qf : N.length = 0 := qf
 obtain ⟨bx, ox, SVx⟩ := Sl.spW sR (rc_length _)
 have hN := List.length_eq_zero_iff.1 qf
 obtain ⟨s0, s1, s2, s3, hR⟩ := len2r qt
 have hx9 : xs = [s0, s1, s2, s3] := by rw [qm, hR, hN]; rfl
 rw [hx9]
 have Mq : Mem w exq wc (((bb, .cells (bxM b (.slice A b.lows.length c) (.slice B b.highs.length d))) :: (Ia ++ Ib)) ++ (It ++ Iu ++ Fr)) := M.permS (fun f => by simp only [bxM, boxL, sumF_app, sumF_cons, sumF_nil, List.cons_append, List.nil_append, List.append_nil, Nat.add_zero, Nat.zero_add] <;> omega)
 have My : Mem w exq wc ((bb, .cells (bxM b (.slice A b.lows.length c) (.slice B b.highs.length d))) :: (Ia ++ Ib)) := Mq.sub (Zsl _ _)
 have Sx := Sp.of (ex' := inL ((bb, .cells (bxM b (.slice A b.lows.length c) (.slice B b.highs.length d))) :: (Ia ++ Ib))) Mq (fun _ h => h) (SVx w exq) ((Zsl It Iu).trans (Zsl _ _))
 have hO := Old.move (ex' := inL ((bb, .cells (bxM b (.slice A b.lows.length c) (.slice B b.highs.length d))) :: (Ia ++ Ib))) (cs := [.func (.func 111) #[] #[]]) Mq inL_left ⟨qs, hgs⟩
 refine Calls.mono (vtq2 bb gs b A c B d Ia Ib (inL ((bb, .cells (bxM b (.slice A b.lows.length c) (.slice B b.highs.length d))) :: (Ia ++ Ib))) X cx Y cy N.length bx ox R s0 s1 s2 s3 hR wc (by omega) hsB Sx My.rebase hO.1 hO.2) ?_
 rintro e w9 ⟨g9, c9, rfl, N9⟩
 have e9 : b.highs.length + 1 = (b.highs ++ [(⟨s0, s1, s2, s3⟩ : Snd)]).length := by simp
 have e8 : sc b.highs ++ sc [⟨s0, s1, s2, s3⟩] = sc (b.highs ++ [(⟨s0, s1, s2, s3⟩ : Snd)]) := by simp [sc]
 rw [e9, e8] at N9
 have M9 := Mem.joinX (X := ((bb, .cells (bxM b (.slice A b.lows.length c) (.slice B b.highs.length d))) :: (Ia ++ Ib))) Mq N9 (fun b h => h)
 exact ⟨rfl, (bb, .cells [Zi b.first, Zi b.step, Zi b.span, Zi b.press, Zi b.note, .slice A b.lows.length c, .slice (some ⟨g9, 0, none⟩) ((b.highs ++ [(⟨s0, s1, s2, s3⟩ : Snd)]).length) c9, Zi b.t0, Zi b.t1, Zi b.r0, Zi b.r1, Zi b.u0, Zi b.u1, Zi b.d0, Zi b.d1, Zi b.a0, Zi b.a1, Zi b.b0, Zi b.b1, Zi b.le, Zi b.me]) :: (Ia ++ [(g9, .row 77 4 (b.highs ++ [(⟨s0, s1, s2, s3⟩ : Snd)]).length (sc (b.highs ++ [(⟨s0, s1, s2, s3⟩ : Snd)])) c9)]), Mem.subS (It ++ Iu ++ Fr) M9 (fun f => by simp only [bxM, boxL, sumF_app, sumF_cons, sumF_nil, List.cons_append, List.nil_append, List.append_nil, Nat.add_zero, Nat.zero_add] <;> omega), A, c, some ⟨g9, 0, none⟩, c9, Ia, [(g9, .row 77 4 (b.highs ++ [(⟨s0, s1, s2, s3⟩ : Snd)]).length (sc (b.highs ++ [(⟨s0, s1, s2, s3⟩ : Snd)])) c9)], rfl, hsA, Sl.row _ _ _ _ _ _⟩
theorem vread3_any (s : List UInt8) (bb : Nat) (b : Bx) (A : Option Addr) (c : Nat) (B : Option Addr) (d : Nat) (Ia Ib : List (Nat × BA)) (exq : Nat → Prop) (w : World) (hs : s.length ≤ 800000) (hT : ∀ wc L, Mem w exq wc L → StrW wc) (hsA : Sl 77 4 (.slice A b.lows.length c) b.lows.length (sc b.lows) Ia) (hsB : Sl 77 4 (.slice B b.highs.length d) b.highs.length (sc b.highs) Ib) (M0 : Mem w exq w ((bb, .cells (bxM b (.slice A b.lows.length c) (.slice B b.highs.length d))) :: (Ia ++ Ib))) : Calls Tryz.prog 49 #[.agg #[sv KF.word, sv fmF, .func (.func 115) #[] #[]], Zj bb, sv s] w (LineB (KF.rd s) w exq bb 3 b) := by
 refine vreadG_any KF fmF 3 115 _ [] s bb b A c B d Ia Ib exq w rfl (by decide) Tryz.func115 (by kernel_rfl) (by kernel_rfl) hs hT hsA hsB M0 ?_
 intro R N xs X cx Y cy It Iu Fr wc hm sR sN M
 obtain ⟨qm, qt, qf⟩ := hm
 replace qt : R.length = 6 := qt
 replace qf : N.length = 2 := qf
 obtain ⟨bx, ox, SVx⟩ := Sl.spW sR (rc_length _)
 obtain ⟨u0, u1, d0, d1, a0, a1, b0, b1, t0, t1, r0, r1, hR⟩ := len6r qt
 obtain ⟨le, me, hN⟩ := len2 qf
 have hx9 : xs = [u0, u1, d0, d1, a0, a1, b0, b1, le, t0, t1, r0, r1, me] := by rw [qm, hR, hN]; rfl
 rw [hx9]
 obtain ⟨by9, oy, SVy⟩ := Sl.spW sN (by rw [ic_length, Nat.mul_one])
 have MR : Mem w exq wc (It ++ ((bb, .cells (bxM b (.slice A b.lows.length c) (.slice B b.highs.length d))) :: (Ia ++ Ib ++ (Iu ++ Fr)))) := M.permS (fun f => by simp only [bxM, boxL, sumF_app, sumF_cons, sumF_nil, List.cons_append, List.nil_append, List.append_nil, Nat.add_zero, Nat.zero_add] <;> omega)
 have MN : Mem w exq wc (Iu ++ ((bb, .cells (bxM b (.slice A b.lows.length c) (.slice B b.highs.length d))) :: (Ia ++ Ib ++ (It ++ Fr)))) := M.permS (fun f => by simp only [bxM, boxL, sumF_app, sumF_cons, sumF_nil, List.cons_append, List.nil_append, List.append_nil, Nat.add_zero, Nat.zero_add] <;> omega)
 have nR := Sl.ne sR (Mem.subS (L' := (bb, .cells (bxM b (.slice A b.lows.length c) (.slice B b.highs.length d))) :: It) (Ia ++ Ib ++ (Iu ++ Fr)) M (fun f => by simp only [bxM, boxL, sumF_app, sumF_cons, sumF_nil, List.cons_append, List.nil_append, List.append_nil, Nat.add_zero, Nat.zero_add] <;> omega))
 have nN := Sl.ne sN (Mem.subS (L' := (bb, .cells (bxM b (.slice A b.lows.length c) (.slice B b.highs.length d))) :: Iu) (Ia ++ Ib ++ (It ++ Fr)) M (fun f => by simp only [bxM, boxL, sumF_app, sumF_cons, sumF_nil, List.cons_append, List.nil_append, List.append_nil, Nat.add_zero, Nat.zero_add] <;> omega))
 refine Calls.mono (vtq3 bb b A c B d X cx Y cy R N u0 u1 d0 d1 a0 a1 b0 b1 t0 t1 r0 r1 le me hR hN wc (M.nth 0 rfl) ((SVx w exq).rd MR (Zsl _ _)) nR ((SVy w exq).rd MN (Zsl _ _)) nN) ?_
 rintro e w9 ⟨rfl, N9⟩
 have M9 := Mem.joinX (X := [(bb, .cells (bxM b (.slice A b.lows.length c) (.slice B b.highs.length d)))]) (F := Ia ++ Ib ++ (It ++ Iu ++ Fr)) M N9 (fun b h => by subst h; exact Zz2)
 exact ⟨rfl, (bb, .cells [Zi b.first, Zi b.step, Zi b.span, Zi b.press, Zi b.note, .slice A b.lows.length c, .slice B b.highs.length d, Zi t0, Zi t1, Zi r0, Zi r1, Zi u0, Zi u1, Zi d0, Zi d1, Zi a0, Zi a1, Zi b0, Zi b1, Zi le, Zi me]) :: (Ia ++ Ib), Mem.subS (It ++ Iu ++ Fr) M9 (fun f => by simp only [bxM, boxL, sumF_app, sumF_cons, sumF_nil, List.cons_append, List.nil_append, List.append_nil, Nat.add_zero, Nat.zero_add] <;> omega), A, c, B, d, Ia, Ib, rfl, hsA, hsB⟩
abbrev KpV := Nat × Nat
abbrev kW (p : KpV) : List UInt8 := (kvAt KL KA KB KF p.1).word
def kM (p : KpV) : List UInt8 := match p.1 with
 | 0 => fmL
 | 1 => fmA
 | 2 => fmA
 | _ => fmF
def kG (p : KpV) : Value := match p.1 with
 | 0 => .func (.func 112) #[] #[]
 | 1 => .func (.func 113) #[] #[.pointer (some ⟨p.2, 0, none⟩)]
 | 2 => .func (.func 114) #[] #[.pointer (some ⟨p.2, 0, none⟩)]
 | _ => .func (.func 115) #[] #[]
def kvE (p : KpV) : List Value := [sv (kW p), sv (kM p), kG p]
def kv (l : List KpV) : List Value := l.flatMap kvE
theorem kv_get : ∀ (l : List KpV) (k : Nat) {x : KpV}, l[k]? = some x → ∀ (i : Nat) (v : Value), (kvE x)[i]? = some v → (kv l)[k * 3 + i]? = some v
 | [], k, x, h => by simp at h
 | y :: l, 0, x, h => by
  intro i v hv
  simp only [List.getElem?_cons_zero, Option.some.injEq] at h
  subst h
  show (kvE y ++ kv l)[0 * 3 + i]? = some v
  rw [Nat.zero_mul, Nat.zero_add, List.getElem?_append_left (List.getElem?_eq_some_iff.1 hv).1]
  exact hv
 | y :: l, k + 1, x, h => by
  intro i v hv
  have := kv_get l k (by simpa using h) i v hv
  show (kvE y ++ kv l)[(k + 1) * 3 + i]? = some v
  have e : (kvE y).length = 3 := rfl
  rw [List.getElem?_append_right (by rw [e]; omega), e, show (k + 1) * 3 + i - 3 = k * 3 + i by omega]
  exact this
section
variable {w w' : World} {ex : Nat → Prop} {I L : List (Nat × BA)} {n b o k : Nat} {A : Option Addr} {l : List KpV} {p : KpV}
theorem Sp.kvA (S : Sp w ex I A n 3 b o (kv l)) (M : Mem w ex w' L) (hI : I.Sublist L) (h : l[k]? = some p) (f : Nat) (v : Value) (hv : (kvE p)[f]? = some v) : w'.cell? ⟨b, o + k * 3 + f, none⟩ = some v := by
 have := S.cell w' L M hI _ _ (kv_get l k h f v hv)
 rwa [← Nat.add_assoc] at this
theorem Sp.kvR (S : Sp w ex I A n 3 b o (kv l)) (M : Mem w ex w' L) (hI : I.Sublist L) (h : l[k]? = some p) : w'.rangeAt b (o + k * 3) [sv (kW p), sv (kM p), kG p] := fun j v hv => S.kvA M hI h j v hv
theorem Sp.kvC0 (S : Sp w ex I A n 3 b o (kv l)) (M : Mem w ex w' L) (hI : I.Sublist L) (h : l[k]? = some p) : w'.cell? ⟨b, o + k * 3 + 0, none⟩ = some (sv (kW p)) := S.kvA M hI h 0 _ rfl
end
def kvs (gs : Nat) : List KpV := [(0, gs), (1, gs), (2, gs), (3, gs)]
theorem kv_at {gs q : Nat} (h : q < 4) : (kvs gs)[q]? = some (q, gs) := by
 match q, h with
 | 0, _ => rfl
 | 1, _ => rfl
 | 2, _ => rfl
 | 3, _ => rfl
theorem readQ_any (q : Nat) (hq : q < 4) (s : List UInt8) (bb gs : Nat) (b : Bx) (A : Option Addr) (c : Nat) (B : Option Addr) (d : Nat) (Ia Ib : List (Nat × BA)) (exq : Nat → Prop) (w : World) (hs : s.length ≤ 800000) (hl : b.lows.length ≤ 800000) (hh : b.highs.length ≤ 800000) (hT : ∀ wc L, Mem w exq wc L → StrW wc)
  (hsA : Sl 77 4 (.slice A b.lows.length c) b.lows.length (sc b.lows) Ia) (hsB : Sl 77 4 (.slice B b.highs.length d) b.highs.length (sc b.highs) Ib) (M0 : Mem w exq w ((bb, .cells (boxL b A c B d)) :: (Ia ++ Ib))) (hO : Old w exq gs [.func (.func 111) #[] #[]]) :
  Calls Tryz.prog 49 #[.agg #[sv (kW (q, gs)), sv (kM (q, gs)), kG (q, gs)], Zj bb, sv s] w (LineB ((kvAt KL KA KB KF q).rd s) w exq bb q b) := by
 match q, hq with
 | 0, _ => exact vread0_any s bb b A c B d Ia Ib exq w hs hT hsA hsB M0
 | 1, _ => exact vread1_any s bb gs b A c B d Ia Ib exq w hs hT hsA hsB M0 hl hO.1 hO.2
 | 2, _ => exact vread2_any s bb gs b A c B d Ia Ib exq w hs hT hsA hsB M0 hh hO.1 hO.2
 | 3, _ => exact vread3_any s bb b A c B d Ia Ib exq w hs hT hsA hsB M0
def RdE.app (l : List (Nat × List Int)) (r : RdE) : RdE := l.foldr (fun x r => r.cons x) r
theorem app_bad (l : List (Nat × List Int)) (q : Nat) : (RdE.bad q).app l = .bad q := by
 induction l with
 | nil => rfl
 | cons x l ih => show RdE.cons x (RdE.app l (RdE.bad q)) = _; rw [ih]; rfl
theorem app_ok (l m : List (Nat × List Int)) (d : Bool) : (RdE.ok d m).app l = .ok d (l ++ m) := by
 induction l with
 | nil => rfl
 | cons x l ih => show RdE.cons x (RdE.app l (RdE.ok d m)) = _; rw [ih]; rfl
theorem app_cons (l : List (Nat × List Int)) (x : Nat × List Int) (r : RdE) : (r.cons x).app l = r.app (l ++ [x]) := by
 unfold RdE.app
 rw [List.foldr_append]
 rfl
theorem foldV_snoc (l : List (Nat × List Int)) (k : Nat) (x : List Int) (b : Bx) : foldV (l ++ [(k, x)]) b = putV k x (foldV l b) := by
 unfold foldV
 rw [List.foldl_append]
 rfl
theorem putV_len (k : Nat) (x : List Int) (b : Bx) : (putV k x b).lows.length + (putV k x b).highs.length ≤ b.lows.length + b.highs.length + 1 := by
 unfold putV
 split <;> simp <;> omega
theorem progV_at {at' i : Nat} {ls : List (List UInt8)} {s : List UInt8} (h : ls[i]? = some s) : progV KL KA KB KF at' i (ls.drop i) = if 4 ≤ nxV KA KB at' s then .bad (i + 1) else match (kvAt KL KA KB KF (nxV KA KB at' s)).rd s with
   | none => .bad (i + 1)
   | some x => (progV KL KA KB KF (if nxV KA KB at' s = 0 ∨ nxV KA KB at' s = 3 then nxV KA KB at' s + 1 else nxV KA KB at' s) (i + 1) (ls.drop (i + 1))).cons (nxV KA KB at' s, x) := by
 rw [List.drop_eq_getElem_cons (List.getElem?_eq_some_iff.1 h).1, (List.getElem?_eq_some_iff.1 h).2]
 rfl
theorem nx_stay {p gs : Nat} {s : List UInt8} (h : ((decide ((p : Int) = 1) || decide ((p : Int) = 2)) && !(List.isPrefixOf (kW (p, gs) ++ [44]) s)) = false) : nxV KA KB p s = p := by
 unfold nxV
 by_cases h1 : p = 1
 ·subst h1
  rw [if_pos rfl, if_pos]
  cases e : preV KA s with
  | true => rfl
  | false => rw [show List.isPrefixOf (kW (1, gs) ++ [44]) s = false from e] at h; simp at h
 ·rw [if_neg h1]
  by_cases h2 : p = 2
  ·subst h2
   rw [if_pos rfl, if_pos]
   cases e : preV KB s with
   | true => rfl
   | false => rw [show List.isPrefixOf (kW (2, gs) ++ [44]) s = false from e] at h; simp at h
  ·rw [if_neg h2]
theorem nx_go {p gs : Nat} {s : List UInt8} (h : ((decide ((p : Int) = 1) || decide ((p : Int) = 2)) && !(List.isPrefixOf (kW (p, gs) ++ [44]) s)) = true) : nxV KA KB (p + 1) s = nxV KA KB p s ∧ p < 3 := by
 simp only [Bool.and_eq_true, Bool.or_eq_true, decide_eq_true_eq, Bool.not_eq_true'] at h
 obtain ⟨h1, h2⟩ := h
 unfold nxV
 rcases h1 with h1 | h1
 ·obtain rfl : p = 1 := by omega
  refine ⟨?_, by omega⟩
  rw [if_neg (by omega), if_pos rfl, if_pos rfl, if_neg (show ¬ preV KA s = true by rw [show preV KA s = false from h2]; decide)]
 ·obtain rfl : p = 2 := by omega
  refine ⟨?_, by omega⟩
  rw [if_neg (by omega), if_neg (by omega), if_neg (by omega), if_pos rfl, if_neg (show ¬ preV KB s = true by rw [show preV KB s = false from h2]; decide)]
section
variable {q i : Nat} {s : List UInt8} {l : List (Nat × List Int)} {r : RdE}
theorem bad_at {o : Option (List Int)} {f : List Int → RdE} (H : r = RdE.app l (if 4 ≤ q then .bad (i + 1) else match o with | none => .bad (i + 1) | some x => f x)) (h : 4 ≤ (q : Int)) : r = .bad (i + 1) := by
 rw [if_pos (by omega), app_bad] at H
 exact H
theorem bad_line {o : Option (List Int)} {f : List Int → RdE} (H : r = RdE.app l (if 4 ≤ q then .bad (i + 1) else match o with | none => .bad (i + 1) | some x => f x)) (h4 : ¬ 4 ≤ (q : Int)) (h : (!o.isSome) = true) : r = .bad (i + 1) := by
 rw [if_neg (by omega)] at H
 cases o with
 | none => rw [app_bad] at H; exact H
 | some x => cases h
theorem good_line {o : Option (List Int)} {f : List Int → RdE} (H : r = RdE.app l (if 4 ≤ q then .bad (i + 1) else match o with | none => .bad (i + 1) | some x => (f x).cons (q, x))) (h4 : ¬ 4 ≤ (q : Int)) (h : (!o.isSome) = false) : ∃ x, o = some x ∧ r = RdE.app (l ++ [(q, x)]) (f x) := by
 rw [if_neg (by omega)] at H
 cases o with
 | none => cases h
 | some x =>
  refine ⟨x, rfl, ?_⟩
  rw [← app_cons]
  exact H
end
theorem endV_bad {rows : List (List UInt8)} {l : List (Nat × List Int)} {d : Bool} {zl : List UInt8} (hz : rows[rows.length - 1]? = some zl) (h : d = false ∨ zl ≠ []) : endV rows (.ok d l) = (zeroB, (rows.length : Int), 2) := by
 unfold endV
 dsimp only
 rw [if_pos]
 rcases h with h | h
 ·exact .inl h
 ·refine .inr fun e => h ?_
  rw [List.getLast?_eq_getElem?, hz] at e
  injection e
theorem endV_go {rows : List (List UInt8)} {l : List (Nat × List Int)} {d : Bool} {zl : List UInt8} (hz : rows[rows.length - 1]? = some zl) (h : d = true ∧ zl = []) : endV rows (.ok d l) = if checkB (foldV l zeroB) ≠ 0 then (zeroB, 0, checkB (foldV l zeroB)) else (foldV l zeroB, 0, 0) := by
 unfold endV
 dsimp only
 rw [if_neg]
 rintro (h1 | h1)
 ·rw [h.1] at h1; cases h1
 ·rw [List.getLast?_eq_getElem?, hz, h.2] at h1
  exact h1 rfl
theorem or_bad {p : Nat} {zl : List UInt8} (h : (decide ((p : Int) < 4) || (!decide (zl = []))) = true) : decide (4 ≤ p) = false ∨ zl ≠ [] := by
 simp only [Bool.or_eq_true, decide_eq_true_eq, Bool.not_eq_true', decide_eq_false_iff_not] at h
 rcases h with h | h
 · exact .inl (Zdf (by omega))
 · exact .inr h
theorem or_go {p : Nat} {zl : List UInt8} (h : (decide ((p : Int) < 4) || (!decide (zl = []))) = false) : decide (4 ≤ p) = true ∧ zl = [] := by
 simp only [Bool.or_eq_false_iff, decide_eq_false_iff_not, Bool.not_eq_false', decide_eq_true_eq] at h
 exact ⟨Zdt (by omega), h.2⟩
theorem readV_long {t : List UInt8} (h : 500 < t.length) : readV t = (zeroB, 0, 10) := by unfold readV; rw [if_pos h]
theorem readV_short {t : List UInt8} (h : ¬ 500 < t.length) : readV t = endV (spl 10 t) (progV KL KA KB KF 0 0 (spl 10 t).dropLast) := by unfold readV; rw [if_neg h]
section
variable {P : Program} {fn : Func} {R : Ending → World → Prop} {a : Act} {w0 w : World} {ex : Nat → Prop} {L : List (Nat × BA)} {n : Nat} {E : List (Nat × Value)}
theorem rt_ctt {t t' t2 : Tmp} {ty : TypeId} {m g : Nat} [hT : RowTy P ty m] {v v2 : Value} {cs : List Value} (M : Mem w0 ex w L) (T : Tm a n E) (hr : fn.results = #[.cell t ty, .tmp t', .tmp t2])
  (hx : a.eval (.tmp t) = Zj g) (hx' : a.eval (.tmp t') = v) (hx2 : a.eval (.tmp t2) = v2) (hm : (g, BA.cells cs) ∈ L) (hn : cs.length = m) (h : R (.returned (.tuple #[.agg cs.toArray, v, v2])) w) : bodyPost P fn R .ret a w := by
 obtain ⟨d, hu, hw⟩ := hT.row
 refine ⟨T.defers, .tuple #[.agg cs.toArray, v, v2], ?_, h⟩
 have hB := M.get hm
 have hl := run_loadVar_mid w g 0 ty cs d hB.range hu hw (by rw [hn]; exact hT.size)
 have e : a.tmps[t]?.getD undef = Zj g := by simpa [Act.eval] using hx
 have e' : a.tmps[t']?.getD undef = v := by simpa [Act.eval] using hx'
 have e2 : a.tmps[t2]?.getD undef = v2 := by simpa [Act.eval] using hx2
 simp [results, hr, e, e', e2, asAddr, hl, Sem.run_bind]
end
def ReadB (r : Bx × Int × Int) (w : World) (e : Ending) (w' : World) : Prop := ∃ (A : Option Addr) (c : Nat) (B : Option Addr) (d : Nat) (Ia Ib : List (Nat × BA)), e = .returned (.tuple #[bxV r.1 A c B d, Zi r.2.1, Zi r.2.2]) ∧ Sl 77 4 (.slice A r.1.lows.length c) r.1.lows.length (sc r.1.lows) Ia ∧ Sl 77 4 (.slice B r.1.highs.length d) r.1.highs.length (sc r.1.highs) Ib ∧ Mem w noEx w' (Ia ++ Ib)
theorem ReadB.zero {r : Bx × Int × Int} {w w' : World} {L : List (Nat × BA)} {r1 e1 : Int} (h : r = (zeroB, r1, e1)) (M : Mem w noEx w' L) : ReadB r w (.returned (.tuple #[bxV zeroB none 0 none 0, Zi r1, Zi e1])) w' := by
 subst h
 exact ⟨none, 0, none, 0, [], [], rfl, Sl.nil _ _, Sl.nil _ _, M.sub (Zz9 _)⟩
theorem kinds_any  (w : World)  :
  Calls Tryz.prog 47 #[] w fun e w' => ∃ gk gs, e = .returned (.slice (some ⟨gk, 0, none⟩) 4 4) ∧ Mem w noEx w' [(gk, .cells (kv (kvs gs))), (gs, .cells [.func (.func 111) #[] #[]])] := by
 refine Zpx noEx Tryz.func47 rfl 9 rfl [] rfl rfl (Mem.init w _) ?_
 intro ac wc T M
 refine Zsr ?_
 refine lq T (Zra rfl evc) ?_; clear T ac; intro ac T
 replace T := T.pick [] rfl
 refine Zln ?_
 refine Zsr ?_
 refine Zl2 ?_
 refine Zoa M T rfl rfl rfl rfl ?_; clear M T; intro g1 wc ac M T
 refine Zl2 ?_
 refine Zos M T rfl rfl (T.e 0 rfl) evf rfl .head rfl (by simp) rfl (by kernel_rfl) ?_; clear M T; intro wc ac M T
 refine Zln ?_
 refine Zsr ?_
 refine Zg6 (v1 := (.agg #[sv ([108, 97, 119]), sv ([110, 110, 110, 110, 110]), .func (.func 112) #[] #[]])) (v2 := (.func (.func 113) #[] #[Zj g1])) (v3 := (.agg #[sv ([108, 111, 119]), sv ([114, 114]), .func (.func 113) #[] #[Zj g1]])) (v4 := (.func (.func 114) #[] #[Zj g1])) (v5 := (.agg #[sv ([104, 105, 103, 104]), sv ([114, 114]), .func (.func 114) #[] #[Zj g1]])) (v6 := (.agg #[sv ([102, 105, 108, 101]), sv ([114, 114, 114, 114, 110, 114, 114, 110]), .func (.func 115) #[] #[]])) T (Zq (rn_build rfl (.cons evc (.cons evc (.cons evf .nil))) (fun _ => by kernel_rfl))) rfl (fun _ T => Zq (rn_makeFunc rfl .nil (.cons (T.e 1 rfl) .nil))) rfl (fun _ T => Zq (rn_build rfl (.cons evc (.cons evc (.cons (T.e 0 rfl) .nil))) (fun _ => by kernel_rfl))) rfl (fun _ T => Zq (rn_makeFunc rfl .nil (.cons (T.e 3 rfl) .nil))) rfl (fun _ T => Zq (rn_build rfl (.cons evc (.cons evc (.cons (T.e 0 rfl) .nil))) (fun _ => by kernel_rfl))) rfl (fun _ T => Zq (rn_build rfl (.cons evc (.cons evc (.cons evf .nil))) (fun _ => by kernel_rfl))) rfl ?_; clear T ac; intro ac T
 refine Zl2 ?_
 refine ow_bs (e := 100) [sv ([108, 97, 119]), sv ([110, 110, 110, 110, 110]), .func (.func 112) #[] #[], sv ([108, 111, 119]), sv ([114, 114]), .func (.func 113) #[] #[Zj g1], sv ([104, 105, 103, 104]), sv ([114, 114]), .func (.func 114) #[] #[Zj g1], sv ([102, 105, 108, 101]), sv ([114, 114, 114, 114, 110, 114, 114, 110]), .func (.func 115) #[] #[]] M T rfl rfl rfl rfl (.cons (T.e 5 rfl) (.cons (T.e 3 rfl) (.cons (T.e 1 rfl) (.cons (T.e 0 rfl) .nil)))) (fun _ => by kernel_rfl) ?_; clear M T; intro g2 wc ac M T
 refine lq T (Zra rfl (T.e 0 rfl)) ?_; clear T ac; intro ac T
 replace T := T.pick [0] rfl
 refine Zln ?_
 refine wp_ret ?_
 refine rt_1 T rfl (T.e 0 rfl) ?_
 exact ⟨g2, g1, rfl, M.perm [0, 1] rfl rfl⟩
theorem kW_len (q gs : Nat) : (kW (q, gs)).length ≤ 4 := by
 unfold kW
 match q with
 | 0 => exact (by decide : lawW.length ≤ 4)
 | 1 => exact (by decide : lowW.length ≤ 4)
 | 2 => exact (by decide : highW.length ≤ 4)
 | _ + 3 => exact (by decide : fileV.length ≤ 4)
theorem nx_cond (a b c : Bool) : (bif a then c else b && c) = ((a || b) && c) := by cases a <;> rfl
theorem vread_any (text : List UInt8) (w : World) (hT : StrW w)  :
   Calls Tryz.prog 13 #[sv text] w (ReadB (readV text) w) := by
 refine Zpx noEx Tryz.func13 rfl 96 rfl [sv text] rfl rfl (Mem.init w _) ?_
 intro ac wc T M
 refine Zsr ?_
 refine Zl2 ?_
 refine Zoa M T rfl rfl rfl rfl ?_; clear M T; intro g1 wc ac M T
 refine Zg2 T (Zq (Zra rfl evc)) rfl (Zc rfl) rfl ?_; clear T ac; intro ac T
 replace T := T.pick [2, 3] rfl
 refine Zln ?_
 refine wp_seq ?_
 refine Zsr ?_
 refine Zg3 T (Zq (Zrm rfl (T.e 1 rfl))) rfl (fun _ T => Zq (rn_slen rfl Tryz.underlying9 (T.e 0 rfl))) rfl (fun _ T => Zq (rn_gtr rfl (T.e 0 rfl) evc)) rfl ?_; clear T ac; intro ac T
 replace T := T.pick [0, 3, 4] rfl
 refine Zln ?_
 refine wp_if (T.e 0 rfl) ?_ ?_
 ·intro h1
  refine Zsr ?_
  refine lq (v := (.agg #[Zi 0, Zi 0, Zi 0, Zi 0, Zi 0, .slice none 0 0, .slice none 0 0, Zi 0, Zi 0, Zi 0, Zi 0, Zi 0, Zi 0, Zi 0, Zi 0, Zi 0, Zi 0, Zi 0, Zi 0, Zi 0, Zi 0])) T (rn_build rfl .nil (fun _ => by kernel_rfl)) ?_; clear T ac; intro ac T
  refine Zl2 ?_
  refine Zos M T rfl rfl (T.e 2 rfl) (T.e 0 rfl) rfl .head rfl (by simp) rfl (by kernel_rfl) ?_; clear M T; intro wc ac M T
  refine Zg2 T (Zq (Zra rfl evc)) rfl (Zc rfl) rfl ?_; clear T ac; intro ac T
  replace T := T.pick [0, 1, 4] rfl
  refine Zln ?_
  refine wp_ret ?_
  refine Zrt ?_
  refine rt_ctt M T rfl (T.e 2 rfl) (T.e 1 rfl) (T.e 0 rfl) (Zne (i := 0) rfl) rfl ?_
  exact ReadB.zero (readV_long (by omega)) M
 intro h1
 refine Zsk ?_
 refine Zsr ?_
 refine lq T (Zrm rfl (T.e 2 rfl)) ?_; clear T ac; intro ac T
 refine Zl2 ?_
 refine Zoc (first := []) (cap := []) T rfl rfl rfl rfl evf (.cons (T.e 0 rfl) (.cons evc .nil)) Tryz.func46 rfl rfl ?_
 refine Calls.mono (Split2_any text 10 _ (by omega) (hT.mem0 M)) ?_
 clear T; rintro e wc ⟨Au1, cu1, bu1, ou1, Iu1, rfl, hc9u1, SVu1, N⟩ ac T
 obtain ⟨lsu1, hlsu1⟩ : ∃ q, q = spl 10 text := ⟨_, rfl⟩
 rw [← hlsu1] at hc9u1 SVu1 T
 have Su1 := SVu1 w noEx
 replace M := (M.join N).swapI
 clear N
 replace M : Mem w noEx wc ((g1, .cells [Zi 0, Zi 0, Zi 0, Zi 0, Zi 0, .slice none 0 0, .slice none 0 0, Zi 0, Zi 0, Zi 0, Zi 0, Zi 0, Zi 0, Zi 0, Zi 0, Zi 0, Zi 0, Zi 0, Zi 0, Zi 0, Zi 0]) :: Iu1) := M
 have hlenu1 : lsu1.length ≤ text.length + 1 := by rw [hlsu1]; exact spl_len _ _
 have hposu1 : 0 < lsu1.length := by rw [hlsu1]; exact spl_pos _ _
 refine lq T (Zra rfl (T.e 0 rfl)) ?_; clear T ac; intro ac T
 replace T := T.pick [0, 4] rfl
 refine Zln ?_
 refine Zsr ?_
 refine Zg4 T (Zq (Zrm rfl (T.e 0 rfl))) rfl (Zl Tryz.underlying37 0 rfl rfl) rfl (fun _ T => Zq (rn_sub rfl (T.e 0 rfl) evc (by omega))) rfl (Za 0 rfl rfl) rfl ?_; clear T ac; intro ac T
 replace T := T.pick [0, 4, 5] rfl
 refine Zln ?_
 refine Zsr ?_
 refine Zl2 ?_
 refine Zoc (first := []) (cap := []) T rfl rfl rfl rfl evf .nil Tryz.func47 rfl rfl ?_
 refine Calls.mono (kinds_any _) ?_
 clear T; rintro e wc ⟨gk, gs, rfl, N⟩ ac T
 replace N : Mem _ noEx _ [(gk, .cells (kv (kvs gs) ++ [])), (gs, .cells [.func (.func 111) #[] #[]])] := N
 replace M := M.join N
 clear N
 replace M : Mem w noEx wc ((gk, .cells (kv (kvs gs) ++ [])) :: (gs, .cells [.func (.func 111) #[] #[]]) :: (g1, .cells [Zi 0, Zi 0, Zi 0, Zi 0, Zi 0, .slice none 0 0, .slice none 0 0, Zi 0, Zi 0, Zi 0, Zi 0, Zi 0, Zi 0, Zi 0, Zi 0, Zi 0, Zi 0, Zi 0, Zi 0, Zi 0, Zi 0]) :: Iu1) := M
 have Sk := Sp.pre (w := w) (ex := noEx) (size := 3) (n := 4) (g := gk) (xs := kv (kvs gs)) (ys := []) (by rfl)
 refine lq T (Zra rfl (T.e 0 rfl)) ?_; clear T ac; intro ac T
 replace T := T.pick [0, 2, 3, 4] rfl
 refine Zln ?_
 refine Zsr ?_
 refine lq T (Zra rfl evc) ?_; clear T ac; intro ac T
 refine Zln ?_
 refine wp_seq ?_
 refine Zsr ?_
 refine Zg3 T (Zq (Zrm rfl (T.e 3 rfl))) rfl (Zm 3 rfl rfl) rfl (fun _ T => Zq (rn_slice (size := 1) (l := 0) (h := (lsu1.length - 1)) rfl Tryz.underlying37 (by kernel_rfl) (T.e 1 rfl) rfl ((T.e 0 rfl).trans (congrArg (Value.int .i64) (by omega))) (by omega) (by omega))) rfl ?_; clear T ac; intro ac T
 obtain ⟨Aq1, hAq1⟩ : ∃ q : Option Addr, q = (if cu1 = 0 then Au1 else Option.map (fun x : Addr => x.add (0 * 1)) Au1) := ⟨_, rfl⟩
 rw [← hAq1] at T
 obtain ⟨lq1, hlq1⟩ : ∃ q, q = (lsu1.drop 0).take ((lsu1.length - 1) - 0) := ⟨_, rfl⟩
 have nlq1 : lq1.length = (lsu1.length - 1) - 0 := by rw [hlq1, List.length_take, List.length_drop]; (try simp only [List.length_cons, List.length_append, List.length_nil]); omega
 rw [← nlq1] at T
 have SAq1 : Sp w noEx Iu1 Aq1 lq1.length 1 bu1 (ou1 + 0 * 1) (st lq1) := by rw [nlq1, hAq1, hlq1, ← st_part]; exact Su1.sub (by omega) (by omega) (by omega)
 refine Zg2 T (Zq (Zrl rfl Tryz.underlying37 (T.e 0 rfl))) rfl (fun _ T => Zq (Zrm rfl evc)) rfl ?_; clear T ac; intro ac T
 replace T := T.pick [0, 1, 2, 5, 6, 7, 8, 9] rfl
 refine Zln ?_
 refine wp_block ?_
 have hdl : lq1 = lsu1.dropLast := by rw [hlq1, List.dropLast_eq_take]; rfl
 refine wp_loop_n (fun mz ac wc => ∃ (i p : Nat) (b : Bx) (A : Option Addr) (c : Nat) (B : Option Addr) (d : Nat) (Ia Ib : List (Nat × BA)) (l : List (Nat × List Int)), mz = lq1.length - i ∧ (i ≤ lq1.length) ∧ (p ≤ 4) ∧ (progV KL KA KB KF 0 0 lq1 = RdE.app l (progV KL KA KB KF p i (lq1.drop i))) ∧ (b = foldV l zeroB) ∧ (Sl 77 4 (.slice A b.lows.length c) b.lows.length (sc b.lows) Ia) ∧ (Sl 77 4 (.slice B b.highs.length d) b.highs.length (sc b.highs) Ib) ∧ (b.lows.length + b.highs.length ≤ i) ∧ Tm ac 96 [(2, Zj g1), (5, .slice Au1 lsu1.length cu1), (6, Zi (((lsu1.length : Nat) : Int) - 1)), (7, .slice (some ⟨gk, 0, none⟩) 4 4), (8, Zi (p : Int)), (24, .slice Aq1 lq1.length (cu1 - 0)), (25, Zi ((lq1.length : Nat) : Int)), (26, Zi (i : Int))] ∧ Mem w noEx wc ((gk, .cells (kv (kvs gs) ++ [])) :: (gs, .cells [.func (.func 111) #[] #[]]) :: (g1, .cells (bxM b (.slice A b.lows.length c) (.slice B b.highs.length d))) :: (Ia ++ Ib ++ Iu1))) ?_ ?_
 ·exact ⟨_, 0, 0, zeroB, none, 0, none, 0, [], [], [], rfl, (Nat.zero_le _), (Nat.zero_le _), rfl, rfl, (Sl.nil _ _), (Sl.nil _ _), (Nat.zero_le _), T.pick [7, 6, 5, 4, 3, 2, 1, 0] rfl, M⟩
 clear T M
 rintro mz ac wc ⟨i, p, b, A, c, B, d, Ia, Ib, l, hmm1, hi, hp, H, hj, hsA, hsB, hjl, T, M⟩
 refine Zsr ?_
 refine lq T (rn_lss rfl (T.e 7 rfl) (T.e 6 rfl)) ?_; clear T ac; intro ac T
 refine Zln ?_
 refine wp_seq ?_
 refine wp_if (T.e 0 rfl) ?_ ?_
 ·intro h2
  obtain ⟨s, hks⟩ : ∃ q, lq1[i]? = some q := ⟨_, List.getElem?_eq_getElem (by omega)⟩
  have hsm : s ∈ lsu1 := by have h9 := List.mem_of_getElem? hks; rw [hdl] at h9; exact (List.dropLast_sublist _).subset h9
  have hsl8 : s.length ≤ text.length := spl_mem_len (c := 10) (by rw [← hlsu1]; exact hsm)
  rw [progV_at hks] at H
  refine Zsk ?_
  refine wp_seq ?_
  refine wp_block ?_
  refine Zsr ?_
  refine Zg5 T (Zq (Zrm rfl (T.e 8 rfl))) rfl (fun _ T => Zq (Zri (size := 1) i rfl (T.e 7 rfl) (T.e 9 rfl) ⟨_, Tryz.underlying37, by kernel_rfl⟩ rfl (by omega) (SAq1.at0 (by omega)))) rfl (fun _ T => Zq (rn_cell (Sp.stC0 SAq1 M (.cons _ (.cons _ (.cons _ (Zsq _ _)))) hks) rfl (T.e 0 rfl))) rfl (Za 2 rfl rfl) rfl (Za 1 rfl rfl) rfl ?_; clear T ac; intro ac T
  replace T := T.pick [0, 1, 6, 7, 8, 9, 10, 11, 12, 13] rfl
  refine Zln ?_
  refine wp_seq ?_
  refine wp_block ?_
  refine wp_loop_n (fun mz ac wc => ∃ (q : Nat), mz = 4 - q ∧ (q ≤ 4) ∧ (nxV KA KB q s = nxV KA KB p s) ∧ Tm ac 96 [(2, Zj g1), (5, .slice Au1 lsu1.length cu1), (6, Zi (((lsu1.length : Nat) : Int) - 1)), (7, .slice (some ⟨gk, 0, none⟩) 4 4), (8, Zi (q : Int)), (9, Zi (i : Int)), (10, sv s), (24, .slice Aq1 lq1.length (cu1 - 0)), (25, Zi ((lq1.length : Nat) : Int)), (26, Zi (i : Int))] ∧ Mem w noEx wc ((gk, .cells (kv (kvs gs) ++ [])) :: (gs, .cells [.func (.func 111) #[] #[]]) :: (g1, .cells (bxM b (.slice A b.lows.length c) (.slice B b.highs.length d))) :: (Ia ++ Ib ++ Iu1))) ?_ ?_
  ·exact ⟨_, p, rfl, (by omega), rfl, T.pick [2, 3, 4, 5, 6, 1, 0, 7, 8, 9] rfl, M.mask [true, true, true] rfl⟩
  clear T M
  rintro mz ac wc ⟨q, hmm2, hq4, hnx, T, M⟩
  have hkl := kW_len q gs
  refine wp_seq ?_
  refine cut_seq (fun ac wc => Tm ac 96 [(2, Zj g1), (5, .slice Au1 lsu1.length cu1), (6, Zi (((lsu1.length : Nat) : Int) - 1)), (7, .slice (some ⟨gk, 0, none⟩) 4 4), (8, Zi (q : Int)), (9, Zi (i : Int)), (10, sv s), (24, .slice Aq1 lq1.length (cu1 - 0)), (25, Zi ((lq1.length : Nat) : Int)), (26, Zi (i : Int)), (47, .bool (bif (decide ((q : Int) = 1)) then (!(List.isPrefixOf ((kW (q, gs)) ++ ([44])) s)) else ((decide ((q : Int) = 2)) && (!(List.isPrefixOf ((kW (q, gs)) ++ ([44])) s)))))] ∧ Mem w noEx wc ((gk, .cells (kv (kvs gs) ++ [])) :: (gs, .cells [.func (.func 111) #[] #[]]) :: (g1, .cells (bxM b (.slice A b.lows.length c) (.slice B b.highs.length d))) :: (Ia ++ Ib ++ Iu1))) ?_ ?_
  ·refine wp_region_lit ?_
   refine Zg3 T (Zq (Zrm rfl (T.e 4 rfl))) rfl (fun _ T => Zq (rn_eql rfl (T.e 0 rfl) evc)) rfl (Zm 0 rfl rfl) rfl ?_; clear T ac; intro ac T
   rcases Bool.eq_false_or_eq_true (decide ((q : Int) = 1)) with h3 | h3
   ·replace h3 := of_decide_eq_true h3
    refine Zg8 T (Zp (Zwn rfl rfl (T.e 0 rfl) (Zdt h3))) rfl (fun _ T => Zp (Zwn rfl rfl (T.e 1 rfl) (Zdt h3))) rfl (fun _ T => Zq (Zr1 rfl (T.e 2 rfl) (Zdt h3) evc)) rfl (Zm 0 rfl rfl) rfl (fun _ T => Zw (Zwy rfl rfl (T.e 0 rfl) rfl) (Zrm rfl (T.e 13 rfl))) rfl (fun _ T => Zw (Zwy rfl rfl (T.e 1 rfl) rfl) (Zrm rfl (T.e 11 rfl))) rfl (fun _ T => Zw (Zwy rfl rfl (T.e 2 rfl) rfl) (Zrm rfl (T.e 13 rfl))) rfl (fun _ T => Zw (Zwy rfl rfl (T.e 3 rfl) rfl) (Zri (size := 3) q rfl (T.e 1 rfl) (T.e 0 rfl) ⟨_, Tryz.underlying95, by kernel_rfl⟩ rfl (by omega) rfl)) rfl ?_; clear T ac; intro ac T
    refine Zg3 T (Zw (Zwy rfl rfl (T.e 4 rfl) rfl) (Zrf (off := 0) rfl (T.e 0 rfl) (fun _ _ _ => by kernel_rfl))) rfl (fun _ T => Zw (Zwy rfl rfl (T.e 5 rfl) rfl) (rn_cell (Sp.kvC0 Sk M (List.Sublist.cons_cons _ (Zz9 _)) (kv_at (by omega))) rfl (T.e 0 rfl))) rfl (fun _ T => Zw (Zwy rfl rfl (T.e 6 rfl) rfl) (rn_sadd rfl (T.e 0 rfl) evc (by (try simp only [List.length_append, List.length_cons, List.length_nil]); omega))) rfl ?_; clear T ac; intro ac T
    refine l_w (Zwy rfl rfl (T.e 7 rfl) rfl) ?_; intro K hK
    refine Zoc (first := []) (cap := []) T rfl rfl rfl rfl evf (.cons (T.e 6 rfl) (.cons (T.e 0 rfl) .nil)) Tryz.func48 rfl rfl ?_
    refine Calls.mono (HasPrefix_any s ((kW (q, gs)) ++ ([44])) _) ?_
    clear T; rintro e wc ⟨rfl, hb⟩ ac T
    replace M := M.call hb; clear hb
    refine Zso hK _ _ ?_; clear hK K
    refine Zg2 T (Zw (Zwy rfl rfl (T.e 8 rfl) rfl) (rn_not rfl (T.e 0 rfl))) rfl (fun _ T => Zq (Zr1 rfl (T.e 9 rfl) rfl (T.e 0 rfl))) rfl ?_; clear T ac; intro ac T
    refine wpList_nil ?_
    replace T := T.pick [0, 1, 2, 3, 4, 5, 6, 7, 8, 9, 12, 13, 17, 18, 19, 20, 21, 22, 23, 24, 25, 26] rfl
    exact ⟨(T.pick (E' := [(2, Zj g1), (5, .slice Au1 lsu1.length cu1), (6, Zi (((lsu1.length : Nat) : Int) - 1)), (7, .slice (some ⟨gk, 0, none⟩) 4 4), (8, Zi (q : Int)), (9, Zi (i : Int)), (10, sv s), (24, .slice Aq1 lq1.length (cu1 - 0)), (25, Zi ((lq1.length : Nat) : Int)), (26, Zi (i : Int)), (47, .bool (!(List.isPrefixOf ((kW (q, gs)) ++ ([44])) s)))]) [12, 13, 14, 15, 16, 17, 18, 19, 20, 21, 0] rfl).as (by (try rw [show (decide ((q : Int) = 1)) = true from (Zdt h3)]); (try rfl)), M.mask [true, true, true] rfl⟩
   replace h3 := of_decide_eq_false h3
   refine Zg4 T (Zw (Zwy rfl rfl (T.e 0 rfl) (Zdf h3)) (Zrm rfl (T.e 7 rfl))) rfl (fun _ T => Zw (Zwy rfl rfl (T.e 1 rfl) (Zdf h3)) (rn_eql rfl (T.e 0 rfl) evc)) rfl (fun _ T => Zq (Zr0 rfl (T.e 2 rfl) (Zdf h3) (T.e 0 rfl))) rfl (Zm 0 rfl rfl) rfl ?_; clear T ac; intro ac T
   rcases Bool.eq_false_or_eq_true (decide ((q : Int) = 2)) with h4 | h4
   ·replace h4 := of_decide_eq_true h4
    refine Zg7 T (Zw (Zwy rfl rfl (T.e 0 rfl) (Zdt h4)) (Zrm rfl (T.e 13 rfl))) rfl (fun _ T => Zw (Zwy rfl rfl (T.e 1 rfl) (Zdt h4)) (Zrm rfl (T.e 11 rfl))) rfl (fun _ T => Zw (Zwy rfl rfl (T.e 2 rfl) (Zdt h4)) (Zrm rfl (T.e 13 rfl))) rfl (fun _ T => Zw (Zwy rfl rfl (T.e 3 rfl) (Zdt h4)) (Zri (size := 3) q rfl (T.e 1 rfl) (T.e 0 rfl) ⟨_, Tryz.underlying95, by kernel_rfl⟩ rfl (by omega) rfl)) rfl (fun _ T => Zw (Zwy rfl rfl (T.e 4 rfl) (Zdt h4)) (Zrf (off := 0) rfl (T.e 0 rfl) (fun _ _ _ => by kernel_rfl))) rfl (fun _ T => Zw (Zwy rfl rfl (T.e 5 rfl) (Zdt h4)) (rn_cell (Sp.kvC0 Sk M (List.Sublist.cons_cons _ (Zz9 _)) (kv_at (by omega))) rfl (T.e 0 rfl))) rfl (fun _ T => Zw (Zwy rfl rfl (T.e 6 rfl) (Zdt h4)) (rn_sadd rfl (T.e 0 rfl) evc (by (try simp only [List.length_append, List.length_cons, List.length_nil]); omega))) rfl ?_; clear T ac; intro ac T
    refine l_w (Zwy rfl rfl (T.e 7 rfl) (Zdt h4)) ?_; intro K hK
    refine Zoc (first := []) (cap := []) T rfl rfl rfl rfl evf (.cons (T.e 6 rfl) (.cons (T.e 0 rfl) .nil)) Tryz.func48 rfl rfl ?_
    refine Calls.mono (HasPrefix_any s ((kW (q, gs)) ++ ([44])) _) ?_
    clear T; rintro e wc ⟨rfl, hb⟩ ac T
    replace M := M.call hb; clear hb
    refine Zso hK _ _ ?_; clear hK K
    refine Zg2 T (Zw (Zwy rfl rfl (T.e 8 rfl) (Zdt h4)) (rn_not rfl (T.e 0 rfl))) rfl (fun _ T => Zq (Zr1 rfl (T.e 9 rfl) (Zdt h4) (T.e 0 rfl))) rfl ?_; clear T ac; intro ac T
    refine wpList_nil ?_
    replace T := T.pick [0, 1, 2, 3, 4, 5, 6, 7, 8, 9, 12, 13, 17, 18, 19, 20, 21, 22, 23, 24, 25, 26] rfl
    exact ⟨(T.pick (E' := [(2, Zj g1), (5, .slice Au1 lsu1.length cu1), (6, Zi (((lsu1.length : Nat) : Int) - 1)), (7, .slice (some ⟨gk, 0, none⟩) 4 4), (8, Zi (q : Int)), (9, Zi (i : Int)), (10, sv s), (24, .slice Aq1 lq1.length (cu1 - 0)), (25, Zi ((lq1.length : Nat) : Int)), (26, Zi (i : Int)), (47, .bool (!(List.isPrefixOf ((kW (q, gs)) ++ ([44])) s)))]) [12, 13, 14, 15, 16, 17, 18, 19, 20, 21, 0] rfl).as (by (try rw [show (decide ((q : Int) = 1)) = false from (Zdf h3)]); (try rw [show (decide ((q : Int) = 2)) = true from (Zdt h4)]); (try rfl)), M.mask [true, true, true] rfl⟩
   replace h4 := of_decide_eq_false h4
   refine Zg8 T (Zp (Zwn rfl rfl (T.e 0 rfl) (Zdf h4))) rfl (fun _ T => Zp (Zwn rfl rfl (T.e 1 rfl) (Zdf h4))) rfl (fun _ T => Zp (Zwn rfl rfl (T.e 2 rfl) (Zdf h4))) rfl (fun _ T => Zp (Zwn rfl rfl (T.e 3 rfl) (Zdf h4))) rfl (fun _ T => Zp (Zwn rfl rfl (T.e 4 rfl) (Zdf h4))) rfl (fun _ T => Zp (Zwn rfl rfl (T.e 5 rfl) (Zdf h4))) rfl (fun _ T => Zp (Zwn rfl rfl (T.e 6 rfl) (Zdf h4))) rfl (fun _ T => Zp (Zwn rfl rfl (T.e 7 rfl) (Zdf h4))) rfl ?_; clear T ac; intro ac T
   refine Zg2 T (Zp (Zwn rfl rfl (T.e 8 rfl) (Zdf h4))) rfl (fun _ T => Zq (Zr0 rfl (T.e 9 rfl) (Zdf h4) evc)) rfl ?_; clear T ac; intro ac T
   refine wpList_nil ?_
   replace T := T.pick [0, 1, 2, 3, 4, 5, 6, 7, 8, 9, 12, 13, 17, 18, 19, 20, 21, 22, 23, 24, 25, 26] rfl
   exact ⟨(T.pick (E' := [(2, Zj g1), (5, .slice Au1 lsu1.length cu1), (6, Zi (((lsu1.length : Nat) : Int) - 1)), (7, .slice (some ⟨gk, 0, none⟩) 4 4), (8, Zi (q : Int)), (9, Zi (i : Int)), (10, sv s), (24, .slice Aq1 lq1.length (cu1 - 0)), (25, Zi ((lq1.length : Nat) : Int)), (26, Zi (i : Int)), (47, .bool false)]) [12, 13, 14, 15, 16, 17, 18, 19, 20, 21, 0] rfl).as (by (try rw [show (decide ((q : Int) = 1)) = false from (Zdf h3)]); (try rw [show (decide ((q : Int) = 2)) = false from (Zdf h4)]); (try rfl)), M.mask [true, true, true] rfl⟩
  clear T M
  rintro ac wc ⟨T, M⟩
  refine wp_cond_split (T.e 10 rfl) ?_ ?_
  ·intro h5
   (have h5' := h5; try simp only [Zb1, Zb2, Zb3, Zb4, Zb5, Zb6, Zb7] at h5')
   refine Zsk ?_
   refine wp_block ?_
   refine wp_region_lit ?_
   refine Zg2 T (Zq (Zrm rfl (T.e 4 rfl))) rfl (fun _ T => Zq (rn_add rfl (T.e 0 rfl) evc (by omega))) rfl ?_; clear T ac; intro ac T
   refine l_q (v := (Zi ((q : Int) + 1))) (T.pick [0, 1, 2, 3, 4, 5, 7, 8, 9, 10, 11, 12] rfl) rfl rfl rfl rfl (Zra rfl (T.e 0 rfl)) ?_; clear T ac; intro ac T
   refine wpList_nil ?_
   replace T := T.pick [0, 3, 4, 5, 6, 7, 8, 9, 10, 11] rfl
   refine Znb ?_
   refine nm_then ?_
   obtain ⟨hg1, hg2⟩ := nx_go (gs := gs) (by first | exact h5 | (rw [← nx_cond]; exact h5))
   exact ⟨_, by omega, q + 1, rfl, (by omega), (hg1.trans hnx), T.pick [1, 2, 3, 4, 0, 5, 6, 7, 8, 9] rfl, M.mask [true, true, true] rfl⟩
  intro h5
  (have h5' := h5; try simp only [Zb1, Zb2, Zb3, Zb4, Zb5, Zb6, Zb7] at h5')
  have hqq : nxV KA KB p s = q := hnx.symm.trans (nx_stay (gs := gs) (by first | exact h5 | (rw [← nx_cond]; exact h5)))
  rw [hqq] at H
  refine wp_exit ?_
  refine Zet ?_
  refine Zet ?_
  refine ex_hit ?_
  refine Zns ?_
  refine Zsr ?_
  refine Zg5 (v3 := (Zi 4)) T (Zq (Zrm rfl (T.e 4 rfl))) rfl (Zm 4 rfl rfl) rfl (Zl Tryz.underlying95 0 rfl rfl) rfl (fun _ T => Zq (rn_geq rfl (T.e 2 rfl) (T.e 0 rfl))) rfl (Zm 0 rfl rfl) rfl ?_; clear T ac; intro ac T
  rcases Bool.eq_false_or_eq_true (decide (4 ≤ (q : Int))) with h6 | h6
  ·replace h6 := of_decide_eq_true h6
   refine Zg8 T (Zp (Zwn rfl rfl (T.e 0 rfl) (Zdt h6))) rfl (fun _ T => Zp (Zwn rfl rfl (T.e 1 rfl) (Zdt h6))) rfl (fun _ T => Zp (Zwn rfl rfl (T.e 2 rfl) (Zdt h6))) rfl (fun _ T => Zp (Zwn rfl rfl (T.e 3 rfl) (Zdt h6))) rfl (fun _ T => Zp (Zwn rfl rfl (T.e 4 rfl) (Zdt h6))) rfl (fun _ T => Zp (Zwn rfl rfl (T.e 5 rfl) (Zdt h6))) rfl (fun _ T => Zp (Zwn rfl rfl (T.e 6 rfl) (Zdt h6))) rfl (fun _ T => Zq (Zr1 rfl (T.e 7 rfl) (Zdt h6) evc)) rfl ?_; clear T ac; intro ac T
   replace T := T.pick [0, 1, 2, 3, 4, 5, 6, 7, 13, 14, 15, 16, 17, 18, 20, 21, 22] rfl
   refine Zln ?_
   refine wp_cond_true (T.e 0 rfl) ?_
   refine Zsr ?_
   refine Zg3 (v1 := (.agg #[Zi 0, Zi 0, Zi 0, Zi 0, Zi 0, .slice none 0 0, .slice none 0 0, Zi 0, Zi 0, Zi 0, Zi 0, Zi 0, Zi 0, Zi 0, Zi 0, Zi 0, Zi 0, Zi 0, Zi 0, Zi 0, Zi 0])) T (Zq (rn_build rfl .nil (fun _ => by kernel_rfl))) rfl (Zm 14 rfl rfl) rfl (fun _ T => Zq (rn_add rfl (T.e 0 rfl) evc (by omega))) rfl ?_; clear T ac; intro ac T
   refine Zl2 ?_
   refine Zos M T rfl rfl (T.e 11 rfl) (T.e 2 rfl) rfl (.tail (.tail .head)) rfl (by simp) rfl (by kernel_rfl) ?_; clear M T; intro wc ac M T
   refine Zg2 T (Zq (Zra rfl (T.e 0 rfl))) rfl (Zc rfl) rfl ?_; clear T ac; intro ac T
   replace T := T.pick [0, 1, 13] rfl
   refine Zln ?_
   refine wp_ret ?_
   refine Zrt ?_
   refine Zrb ?_
   refine Zrt ?_
   refine Zrt ?_
   refine Zrb ?_
   refine Zrt ?_
   refine rt_ctt M T rfl (T.e 2 rfl) (T.e 1 rfl) (T.e 0 rfl) (Zne (i := 2) rfl) rfl ?_
   have hb9 := by first | exact bad_at H (by assumption) | exact bad_line H (by assumption) (by assumption)
   exact ReadB.zero (by rw [readV_short (by omega), ← hlsu1, ← hdl, hb9]; rfl) M
  replace h6 := of_decide_eq_false h6
  refine Zg5 (v4 := (.agg #[sv (kW (q, gs)), sv (kM (q, gs)), kG (q, gs)])) T (Zw (Zwy rfl rfl (T.e 0 rfl) (Zdf h6)) (Zrm rfl (T.e 8 rfl))) rfl (fun _ T => Zw (Zwy rfl rfl (T.e 1 rfl) (Zdf h6)) (Zrm rfl (T.e 10 rfl))) rfl (fun _ T => Zw (Zwy rfl rfl (T.e 2 rfl) (Zdf h6)) (Zri (size := 3) q rfl (T.e 1 rfl) (T.e 0 rfl) ⟨_, Tryz.underlying95, by kernel_rfl⟩ rfl (by omega) rfl)) rfl (fun _ T => Zw (Zwy rfl rfl (T.e 3 rfl) (Zdf h6)) (rn_rowat (Sp.kvR Sk M (List.Sublist.cons_cons _ (Zz9 _)) (kv_at (by omega))) rfl (T.e 0 rfl) rfl)) rfl (fun _ T => Zw (Zwy rfl rfl (T.e 4 rfl) (Zdf h6)) (Zrm rfl (T.e 15 rfl))) rfl ?_; clear T ac; intro ac T
  refine l_w (Zwy rfl rfl (T.e 5 rfl) (Zdf h6)) ?_; intro K hK
  have Mq : Mem w noEx wc (((g1, .cells (bxM b (.slice A b.lows.length c) (.slice B b.highs.length d))) :: (Ia ++ Ib)) ++ ((gk, .cells (kv (kvs gs) ++ [])) :: (gs, .cells [.func (.func 111) #[] #[]]) :: Iu1)) := M.permS (fun f => by simp only [bxM, boxL, sumF_app, sumF_cons, sumF_nil, List.cons_append, List.nil_append, List.append_nil, Nat.add_zero, Nat.zero_add] <;> omega)
  have My : Mem w noEx wc ((g1, .cells (bxM b (.slice A b.lows.length c) (.slice B b.highs.length d))) :: (Ia ++ Ib)) := Mq.sub (Zsl _ _)
  refine Zoc (first := []) (cap := []) T rfl rfl rfl rfl evf (.cons (T.e 1 rfl) (.cons (T.e 10 rfl) (.cons (T.e 0 rfl) .nil))) Tryz.func49 rfl rfl ?_
  refine Calls.mono (readQ_any q (by omega) s g1 gs b A c B d Ia Ib (inL ((g1, .cells (bxM b (.slice A b.lows.length c) (.slice B b.highs.length d))) :: (Ia ++ Ib))) _ (by omega) (by omega) (by omega) (fun wq Lq Mx => hT.mem0 (Mem.joinX (X := ((g1, .cells (bxM b (.slice A b.lows.length c) (.slice B b.highs.length d))) :: (Ia ++ Ib))) (F := ((gk, .cells (kv (kvs gs) ++ [])) :: (gs, .cells [.func (.func 111) #[] #[]]) :: Iu1)) Mq Mx (fun b h => h))) hsA hsB My.rebase (Old.of (cs := [.func (.func 111) #[] #[]]) Mq (fun b h => h) (by simp))) ?_
  clear T; rintro e wc ⟨rfl, Lqu5, N9, Acu5, ccu5, Bcu5, ddu5, Iaqu5, Ibqu5, rfl, hsau5, hsbu5⟩ ac T
  obtain ⟨bqu5, hbqu5⟩ : ∃ x, x = putQ q ((kvAt KL KA KB KF q).rd s) b := ⟨_, rfl⟩
  rw [← hbqu5] at N9 hsau5 hsbu5
  replace M := Mem.joinX (X := ((g1, .cells (bxM b (.slice A b.lows.length c) (.slice B b.highs.length d))) :: (Ia ++ Ib))) (X' := ((g1, .cells (bxM bqu5 (.slice Acu5 bqu5.lows.length ccu5) (.slice Bcu5 bqu5.highs.length ddu5))) :: (Iaqu5 ++ Ibqu5))) (F := ((gk, .cells (kv (kvs gs) ++ [])) :: (gs, .cells [.func (.func 111) #[] #[]]) :: Iu1)) Mq N9 (fun b h => h)
  clear N9 Mq My
  replace M : Mem w noEx wc ((g1, .cells (bxM bqu5 (.slice Acu5 bqu5.lows.length ccu5) (.slice Bcu5 bqu5.highs.length ddu5))) :: (gk, .cells (kv (kvs gs) ++ [])) :: (gs, .cells [.func (.func 111) #[] #[]]) :: (Iaqu5 ++ Ibqu5 ++ Iu1)) := (Mem.permS (L' := ((g1, .cells (bxM bqu5 (.slice Acu5 bqu5.lows.length ccu5) (.slice Bcu5 bqu5.highs.length ddu5))) :: (gk, .cells (kv (kvs gs) ++ [])) :: (gs, .cells [.func (.func 111) #[] #[]]) :: (Iaqu5 ++ Ibqu5 ++ Iu1))) M (fun f => by simp only [bxM, boxL, sumF_app, sumF_cons, sumF_nil, List.cons_append, List.nil_append, List.append_nil, Nat.add_zero, Nat.zero_add] <;> omega))
  refine Zso hK _ _ ?_; clear hK K
  refine Zg2 T (Zw (Zwy rfl rfl (T.e 6 rfl) (Zdf h6)) (rn_not rfl (T.e 0 rfl))) rfl (fun _ T => Zq (Zr0 rfl (T.e 7 rfl) (Zdf h6) (T.e 0 rfl))) rfl ?_; clear T ac; intro ac T
  replace T := T.pick [0, 1, 2, 3, 4, 5, 6, 7, 13, 14, 15, 16, 17, 18, 20, 21, 22] rfl
  refine Zln ?_
  refine wp_cond_split (T.e 0 rfl) ?_ ?_
  ·intro h7
   (have h7' := h7; try simp only [Zb1, Zb2, Zb3, Zb4, Zb5, Zb6, Zb7] at h7')
   refine Zsr ?_
   refine Zg3 (v1 := (.agg #[Zi 0, Zi 0, Zi 0, Zi 0, Zi 0, .slice none 0 0, .slice none 0 0, Zi 0, Zi 0, Zi 0, Zi 0, Zi 0, Zi 0, Zi 0, Zi 0, Zi 0, Zi 0, Zi 0, Zi 0, Zi 0, Zi 0])) T (Zq (rn_build rfl .nil (fun _ => by kernel_rfl))) rfl (Zm 14 rfl rfl) rfl (fun _ T => Zq (rn_add rfl (T.e 0 rfl) evc (by omega))) rfl ?_; clear T ac; intro ac T
   refine Zl2 ?_
   refine Zos M T rfl rfl (T.e 11 rfl) (T.e 2 rfl) rfl .head rfl (by simp) rfl (by kernel_rfl) ?_; clear M T; intro wc ac M T
   refine Zg2 T (Zq (Zra rfl (T.e 0 rfl))) rfl (Zc rfl) rfl ?_; clear T ac; intro ac T
   replace T := T.pick [0, 1, 13] rfl
   refine Zln ?_
   refine wp_ret ?_
   refine Zrt ?_
   refine Zrb ?_
   refine Zrt ?_
   refine Zrt ?_
   refine Zrb ?_
   refine Zrt ?_
   refine rt_ctt M T rfl (T.e 2 rfl) (T.e 1 rfl) (T.e 0 rfl) (Zne (i := 0) rfl) rfl ?_
   have hb9 := by first | exact bad_at H (by assumption) | exact bad_line H (by assumption) (by assumption)
   exact ReadB.zero (by rw [readV_short (by omega), ← hlsu1, ← hdl, hb9]; rfl) M
  intro h7
  (have h7' := h7; try simp only [Zb1, Zb2, Zb3, Zb4, Zb5, Zb6, Zb7] at h7')
  refine Zsk ?_
  refine cut_seq (fun ac wc => Tm ac 96 [(2, Zj g1), (5, .slice Au1 lsu1.length cu1), (6, Zi (((lsu1.length : Nat) : Int) - 1)), (7, .slice (some ⟨gk, 0, none⟩) 4 4), (8, Zi (q : Int)), (24, .slice Aq1 lq1.length (cu1 - 0)), (25, Zi ((lq1.length : Nat) : Int)), (26, Zi (i : Int)), (55, .slice (some ⟨gk, 0, none⟩) 4 4), (56, Zi (q : Int)), (57, .pointer (some ⟨gk, 0 + q * 3, none⟩)), (58, .agg #[sv (kW (q, gs)), sv (kM (q, gs)), kG (q, gs)]), (59, sv s), (60, .bool (((kvAt KL KA KB KF q).rd s).isSome)), (61, .bool (!(((kvAt KL KA KB KF q).rd s).isSome))), (71, .bool ((decide ((q : Int) = 0)) || (decide ((q : Int) = 3))))] ∧ Mem w noEx wc ((g1, .cells (bxM bqu5 (.slice Acu5 bqu5.lows.length ccu5) (.slice Bcu5 bqu5.highs.length ddu5))) :: (gk, .cells (kv (kvs gs) ++ [])) :: (gs, .cells [.func (.func 111) #[] #[]]) :: (Iaqu5 ++ Ibqu5 ++ Iu1))) ?_ ?_
  ·refine wp_region_lit ?_
   refine Zg3 T (Zq (Zrm rfl (T.e 12 rfl))) rfl (fun _ T => Zq (rn_eql rfl (T.e 0 rfl) evc)) rfl (Zm 0 rfl rfl) rfl ?_; clear T ac; intro ac T
   rcases Bool.eq_false_or_eq_true (decide ((q : Int) = 0)) with h8 | h8
   ·replace h8 := of_decide_eq_true h8
    refine Zg3 T (Zp (Zwn rfl rfl (T.e 0 rfl) (Zdt h8))) rfl (fun _ T => Zp (Zwn rfl rfl (T.e 1 rfl) (Zdt h8))) rfl (fun _ T => Zq (Zr1 rfl (T.e 2 rfl) (Zdt h8) evc)) rfl ?_; clear T ac; intro ac T
    refine wpList_nil ?_
    replace T := T.pick [0, 1, 2, 7, 8, 9, 10, 11, 12, 13, 14, 15, 16, 17, 18, 20, 21, 22] rfl
    exact ⟨(T.pick (E' := [(2, Zj g1), (5, .slice Au1 lsu1.length cu1), (6, Zi (((lsu1.length : Nat) : Int) - 1)), (7, .slice (some ⟨gk, 0, none⟩) 4 4), (8, Zi (q : Int)), (24, .slice Aq1 lq1.length (cu1 - 0)), (25, Zi ((lq1.length : Nat) : Int)), (26, Zi (i : Int)), (55, .slice (some ⟨gk, 0, none⟩) 4 4), (56, Zi (q : Int)), (57, .pointer (some ⟨gk, 0 + q * 3, none⟩)), (58, .agg #[sv (kW (q, gs)), sv (kM (q, gs)), kG (q, gs)]), (59, sv s), (60, .bool (((kvAt KL KA KB KF q).rd s).isSome)), (61, .bool (!(((kvAt KL KA KB KF q).rd s).isSome))), (71, .bool true)]) [10, 11, 12, 13, 14, 15, 16, 17, 9, 8, 7, 6, 5, 4, 3, 0] rfl).as (by (try rw [show (decide ((q : Int) = 0)) = true from (Zdt h8)]); (try rfl)), M.mask [true, true, true] rfl⟩
   replace h8 := of_decide_eq_false h8
   refine Zg3 T (Zw (Zwy rfl rfl (T.e 0 rfl) (Zdf h8)) (Zrm rfl (T.e 15 rfl))) rfl (fun _ T => Zw (Zwy rfl rfl (T.e 1 rfl) (Zdf h8)) (rn_eql rfl (T.e 0 rfl) evc)) rfl (fun _ T => Zq (Zr0 rfl (T.e 2 rfl) (Zdf h8) (T.e 0 rfl))) rfl ?_; clear T ac; intro ac T
   refine wpList_nil ?_
   replace T := T.pick [0, 1, 2, 7, 8, 9, 10, 11, 12, 13, 14, 15, 16, 17, 18, 20, 21, 22] rfl
   exact ⟨(T.pick (E' := [(2, Zj g1), (5, .slice Au1 lsu1.length cu1), (6, Zi (((lsu1.length : Nat) : Int) - 1)), (7, .slice (some ⟨gk, 0, none⟩) 4 4), (8, Zi (q : Int)), (24, .slice Aq1 lq1.length (cu1 - 0)), (25, Zi ((lq1.length : Nat) : Int)), (26, Zi (i : Int)), (55, .slice (some ⟨gk, 0, none⟩) 4 4), (56, Zi (q : Int)), (57, .pointer (some ⟨gk, 0 + q * 3, none⟩)), (58, .agg #[sv (kW (q, gs)), sv (kM (q, gs)), kG (q, gs)]), (59, sv s), (60, .bool (((kvAt KL KA KB KF q).rd s).isSome)), (61, .bool (!(((kvAt KL KA KB KF q).rd s).isSome))), (71, .bool (decide ((q : Int) = 3)))]) [10, 11, 12, 13, 14, 15, 16, 17, 9, 8, 7, 6, 5, 4, 3, 0] rfl).as (by (try rw [show (decide ((q : Int) = 0)) = false from (Zdf h8)]); (try rfl)), M.mask [true, true, true] rfl⟩
  clear T M
  rintro ac wc ⟨T, M⟩
  refine wp_cond_split (T.e 15 rfl) ?_ ?_
  ·intro h9
   (have h9' := h9; try simp only [Zb1, Zb2, Zb3, Zb4, Zb5, Zb6, Zb7] at h9')
   refine wp_region_lit ?_
   refine Zg2 T (Zq (Zrm rfl (T.e 4 rfl))) rfl (fun _ T => Zq (rn_add rfl (T.e 0 rfl) evc (by omega))) rfl ?_; clear T ac; intro ac T
   refine l_q (v := (Zi ((q : Int) + 1))) (T.pick [0, 1, 2, 3, 4, 5, 7, 8, 9, 10, 11, 12, 13, 14, 15, 16, 17] rfl) rfl rfl rfl rfl (Zra rfl (T.e 0 rfl)) ?_; clear T ac; intro ac T
   refine wpList_nil ?_
   replace T := T.pick [0, 3, 4, 5, 6, 7, 8, 9, 10, 11, 12, 13, 14, 15, 16] rfl
   refine Znb ?_
   refine nm_then ?_
   refine wp_region_lit ?_
   refine lq T (rn_add rfl (T.e 7 rfl) evc (by omega)) ?_; clear T ac; intro ac T
   refine l_q (v := (Zi ((i : Int) + 1))) (T.pick [0, 1, 2, 3, 4, 5, 6, 7, 9, 10, 11, 12, 13, 14, 15] rfl) rfl rfl rfl rfl (Zrm rfl (T.e 0 rfl)) ?_; clear T ac; intro ac T
   replace T := T.pick [0, 2, 3, 4, 5, 6, 7, 8, 9, 10, 11, 12, 13, 14, 15] rfl
   refine Zln ?_
   obtain ⟨xq, hxq, hH⟩ := good_line H (by assumption) (by assumption)
   have hjn : bqu5 = foldV (l ++ [(q, xq)]) zeroB := by rw [hbqu5, hxq, foldV_snoc, ← hj]; rfl
   have hjm : bqu5.lows.length + bqu5.highs.length ≤ b.lows.length + b.highs.length + 1 := by rw [hbqu5, hxq]; exact putV_len _ _ _
   exact ⟨_, by omega, i + 1, q + 1, bqu5, Acu5, ccu5, Bcu5, ddu5, Iaqu5, Ibqu5, (l ++ [(q, xq)]), rfl, (by omega), (by omega), (by rw [if_pos (show q = 0 ∨ q = 3 from (by have h9 := h9; simp only [Bool.or_eq_true, Bool.or_eq_false_iff, decide_eq_true_eq, decide_eq_false_iff_not] at h9; omega))] at hH; exact hH), hjn, hsau5, hsbu5, (by omega), T.pick [2, 3, 4, 5, 1, 6, 7, 0] rfl, (M.permS (fun f => by simp only [bxM, boxL, sumF_app, sumF_cons, sumF_nil, List.cons_append, List.nil_append, List.append_nil, Nat.add_zero, Nat.zero_add] <;> omega))⟩
  intro h9
  (have h9' := h9; try simp only [Zb1, Zb2, Zb3, Zb4, Zb5, Zb6, Zb7] at h9')
  refine wp_skip ?_
  refine Znb ?_
  refine nm_then ?_
  refine wp_region_lit ?_
  refine lq T (rn_add rfl (T.e 7 rfl) evc (by omega)) ?_; clear T ac; intro ac T
  refine l_q (v := (Zi ((i : Int) + 1))) (T.pick [0, 1, 2, 3, 4, 5, 6, 7, 9, 10, 11, 12, 13, 14, 15, 16] rfl) rfl rfl rfl rfl (Zrm rfl (T.e 0 rfl)) ?_; clear T ac; intro ac T
  replace T := T.pick [0, 2, 3, 4, 5, 6, 7, 8, 9, 10, 11, 12, 13, 14, 15] rfl
  refine Zln ?_
  obtain ⟨xq, hxq, hH⟩ := good_line H (by assumption) (by assumption)
  have hjn : bqu5 = foldV (l ++ [(q, xq)]) zeroB := by rw [hbqu5, hxq, foldV_snoc, ← hj]; rfl
  have hjm : bqu5.lows.length + bqu5.highs.length ≤ b.lows.length + b.highs.length + 1 := by rw [hbqu5, hxq]; exact putV_len _ _ _
  exact ⟨_, by omega, i + 1, q, bqu5, Acu5, ccu5, Bcu5, ddu5, Iaqu5, Ibqu5, (l ++ [(q, xq)]), rfl, (by omega), (by omega), (by rw [if_neg (show ¬ (q = 0 ∨ q = 3) from (by have h9 := h9; simp only [Bool.or_eq_true, Bool.or_eq_false_iff, decide_eq_true_eq, decide_eq_false_iff_not] at h9; omega))] at hH; exact hH), hjn, hsau5, hsbu5, (by omega), T.pick [1, 2, 3, 4, 5, 6, 7, 0] rfl, (M.permS (fun f => by simp only [bxM, boxL, sumF_app, sumF_cons, sumF_nil, List.cons_append, List.nil_append, List.append_nil, Nat.add_zero, Nat.zero_add] <;> omega))⟩
 intro h2
 obtain ⟨zl, hzl⟩ : ∃ q, lsu1[lsu1.length - 1]? = some q := ⟨_, List.getElem?_eq_getElem (by omega)⟩
 have hzm : zl.length ≤ text.length := spl_mem_len (c := 10) (by rw [← hlsu1]; exact List.mem_of_getElem? hzl)
 obtain ⟨bA, oA, SA0⟩ := Sl.spW hsA (sc_length _)
 have SA9 := SA0 w noEx
 obtain ⟨bB, oB, SB0⟩ := Sl.spW hsB (sc_length _)
 have SB9 := SB0 w noEx
 rw [List.drop_of_length_le (by omega)] at H
 replace H : progV KL KA KB KF 0 0 lq1 = .ok (decide (4 ≤ p)) l := by rw [H]; exact (app_ok l [] _).trans (by rw [List.append_nil])
 refine wp_exit ?_
 refine Zet ?_
 refine Zet ?_
 refine ex_hit ?_
 refine Zns ?_
 refine cut_seq (fun ac wc => Tm ac 96 [(2, Zj g1), (6, Zi (((lsu1.length : Nat) : Int) - 1)), (85, .bool ((decide ((p : Int) < 4)) || (!(decide (zl = ([]))))))] ∧ Mem w noEx wc ((gk, .cells (kv (kvs gs) ++ [])) :: (gs, .cells [.func (.func 111) #[] #[]]) :: (g1, .cells (bxM b (.slice A b.lows.length c) (.slice B b.highs.length d))) :: (Ia ++ Ib ++ Iu1))) ?_ ?_
 ·refine wp_region_lit ?_
  refine Zg5 (v3 := (Zi 4)) T (Zq (Zrm rfl (T.e 5 rfl))) rfl (Zm 5 rfl rfl) rfl (Zl Tryz.underlying95 0 rfl rfl) rfl (fun _ T => Zq (rn_lss rfl (T.e 2 rfl) (T.e 0 rfl))) rfl (Zm 0 rfl rfl) rfl ?_; clear T ac; intro ac T
  rcases Bool.eq_false_or_eq_true (decide ((p : Int) < 4)) with h10 | h10
  ·replace h10 := of_decide_eq_true h10
   refine Zg6 T (Zp (Zwn rfl rfl (T.e 0 rfl) (Zdt h10))) rfl (fun _ T => Zp (Zwn rfl rfl (T.e 1 rfl) (Zdt h10))) rfl (fun _ T => Zp (Zwn rfl rfl (T.e 2 rfl) (Zdt h10))) rfl (fun _ T => Zp (Zwn rfl rfl (T.e 3 rfl) (Zdt h10))) rfl (fun _ T => Zp (Zwn rfl rfl (T.e 4 rfl) (Zdt h10))) rfl (fun _ T => Zq (Zr1 rfl (T.e 5 rfl) (Zdt h10) evc)) rfl ?_; clear T ac; intro ac T
   refine wpList_nil ?_
   replace T := T.pick [0, 12, 14] rfl
   exact ⟨(T.pick (E' := [(2, Zj g1), (6, Zi (((lsu1.length : Nat) : Int) - 1)), (85, .bool true)]) [1, 2, 0] rfl).as (by (try rw [show (decide ((p : Int) < 4)) = true from (Zdt h10)]); (try rfl)), M.mask [true, true, true] rfl⟩
  replace h10 := of_decide_eq_false h10
  refine Zg6 T (Zw (Zwy rfl rfl (T.e 0 rfl) (Zdf h10)) (Zrm rfl (T.e 7 rfl))) rfl (fun _ T => Zw (Zwy rfl rfl (T.e 1 rfl) (Zdf h10)) (Zrm rfl (T.e 9 rfl))) rfl (fun _ T => Zw (Zwy rfl rfl (T.e 2 rfl) (Zdf h10)) (Zri (size := 1) (lsu1.length - 1) rfl (T.e 1 rfl) (T.e 0 rfl) ⟨_, Tryz.underlying37, by kernel_rfl⟩ (by omega) (by omega) (Su1.at0 (by omega)))) rfl (fun _ T => Zw (Zwy rfl rfl (T.e 3 rfl) (Zdf h10)) (rn_cell (Sp.stC0 Su1 M (.cons _ (.cons _ (.cons _ (Zsq _ _)))) hzl) rfl (T.e 0 rfl))) rfl (fun _ T => Zw (Zwy rfl rfl (T.e 4 rfl) (Zdf h10)) (rn_sneq rfl (T.e 0 rfl) evc)) rfl (fun _ T => Zq (Zr0 rfl (T.e 5 rfl) (Zdf h10) (T.e 0 rfl))) rfl ?_; clear T ac; intro ac T
  refine wpList_nil ?_
  replace T := T.pick [0, 12, 14] rfl
  exact ⟨(T.pick (E' := [(2, Zj g1), (6, Zi (((lsu1.length : Nat) : Int) - 1)), (85, .bool (!(decide (zl = ([])))))]) [1, 2, 0] rfl).as (by (try rw [show (decide ((p : Int) < 4)) = false from (Zdf h10)]); (try rfl)), M.mask [true, true, true] rfl⟩
 clear T M
 rintro ac wc ⟨T, M⟩
 refine wp_cond_split (T.e 2 rfl) ?_ ?_
 ·intro h11
  (have h11' := h11; try simp only [Zb1, Zb2, Zb3, Zb4, Zb5, Zb6, Zb7] at h11')
  refine Zsr ?_
  refine Zg3 (v1 := (.agg #[Zi 0, Zi 0, Zi 0, Zi 0, Zi 0, .slice none 0 0, .slice none 0 0, Zi 0, Zi 0, Zi 0, Zi 0, Zi 0, Zi 0, Zi 0, Zi 0, Zi 0, Zi 0, Zi 0, Zi 0, Zi 0, Zi 0])) T (Zq (rn_build rfl .nil (fun _ => by kernel_rfl))) rfl (Zm 2 rfl rfl) rfl (fun _ T => Zq (rn_add rfl (T.e 0 rfl) evc (by omega))) rfl ?_; clear T ac; intro ac T
  refine Zl2 ?_
  refine Zos M T rfl rfl (T.e 3 rfl) (T.e 2 rfl) rfl (.tail (.tail .head)) rfl (by simp) rfl (by kernel_rfl) ?_; clear M T; intro wc ac M T
  refine Zg2 T (Zq (Zra rfl (T.e 0 rfl))) rfl (Zc rfl) rfl ?_; clear T ac; intro ac T
  replace T := T.pick [0, 1, 5] rfl
  refine Zln ?_
  refine wp_ret ?_
  refine Zrt ?_
  refine rt_ctt M T rfl (T.e 2 rfl) (T.e 1 rfl) (T.e 0 rfl) (Zne (i := 2) rfl) rfl ?_
  have hb9 := endV_bad (l := l) hzl (or_bad (p := p) (by assumption))
  exact ReadB.zero (by rw [readV_short (by omega), ← hlsu1, ← hdl, H, hb9, show (((lsu1.length : Nat) : Int) - 1 + 1) = ((lsu1.length : Nat) : Int) by omega]) M
 intro h11
 (have h11' := h11; try simp only [Zb1, Zb2, Zb3, Zb4, Zb5, Zb6, Zb7] at h11')
 refine Zsk ?_
 refine wp_seq ?_
 refine Zsr ?_
 refine lq T (Zrr (Mem.nth M 2 rfl) rfl (T.e 0 rfl) rfl) ?_; clear T ac; intro ac T
 refine Zl2 ?_
 refine Zoc (first := []) (cap := []) T rfl rfl rfl rfl evf (.cons (T.e 0 rfl) .nil) Tryz.func39 rfl rfl ?_
 refine Calls.mono (vCheck_any b _ _ _ _ _ (SA9.rd M (.cons _ (.cons _ (.cons _ (subL (subL (List.Sublist.refl _))))))) (SB9.rd M (.cons _ (.cons _ (.cons _ (subL (Zsq _ _)))))) (by omega) (by omega)) ?_
 clear T; rintro e wc ⟨rfl, hb⟩ ac T
 replace M := M.call hb; clear hb
 refine lq T (Zra rfl (T.e 0 rfl)) ?_; clear T ac; intro ac T
 replace T := T.pick [0, 3] rfl
 refine Zln ?_
 refine Zsr ?_
 refine Zg2 T (Zq (Zrm rfl (T.e 0 rfl))) rfl (fun _ T => Zq (rn_neq rfl (T.e 0 rfl) evc)) rfl ?_; clear T ac; intro ac T
 replace T := T.pick [0, 2, 3] rfl
 refine Zln ?_
 refine wp_ifn (T.e 0 rfl) ?_ ?_
 ·intro h12
  refine Zsr ?_
  refine Zg2 (v1 := (.agg #[Zi 0, Zi 0, Zi 0, Zi 0, Zi 0, .slice none 0 0, .slice none 0 0, Zi 0, Zi 0, Zi 0, Zi 0, Zi 0, Zi 0, Zi 0, Zi 0, Zi 0, Zi 0, Zi 0, Zi 0, Zi 0, Zi 0])) T (Zq (rn_build rfl .nil (fun _ => by kernel_rfl))) rfl (Zm 2 rfl rfl) rfl ?_; clear T ac; intro ac T
  refine Zl2 ?_
  refine Zos M T rfl rfl (T.e 4 rfl) (T.e 1 rfl) rfl (.tail (.tail .head)) rfl (by simp) rfl (by kernel_rfl) ?_; clear M T; intro wc ac M T
  refine Zg2 T (Zq (Zra rfl evc)) rfl (Za 1 rfl rfl) rfl ?_; clear T ac; intro ac T
  replace T := T.pick [0, 1, 6] rfl
  refine Zln ?_
  refine wp_ret ?_
  refine Zrt ?_
  refine rt_ctt M T rfl (T.e 2 rfl) (T.e 1 rfl) (T.e 0 rfl) (Zne (i := 2) rfl) rfl ?_
  have hb9 := endV_go (l := l) hzl (or_go (p := p) (by assumption))
  rw [← hj] at hb9
  have hr9 : readV text = if checkB b ≠ 0 then (zeroB, 0, checkB b) else (b, 0, 0) := by rw [readV_short (by omega), ← hlsu1, ← hdl, H]; exact hb9
  rw [if_pos (by assumption)] at hr9
  exact ReadB.zero hr9 M
 intro h12
 refine Zsk ?_
 refine Zsr ?_
 refine lq T (Zrr (Mem.nth M 2 rfl) rfl (T.e 2 rfl) rfl) ?_; clear T ac; intro ac T
 refine Zl2 ?_
 refine Zos M T rfl rfl (T.e 3 rfl) (T.e 0 rfl) rfl (.tail (.tail .head)) rfl (by simp) rfl (by kernel_rfl) ?_; clear M T; intro wc ac M T
 refine Zg2 T (Zq (Zra rfl evc)) rfl (Zc rfl) rfl ?_; clear T ac; intro ac T
 replace T := T.pick [0, 1, 5] rfl
 refine Zln ?_
 refine wp_ret ?_
 refine rt_ctt M T rfl (T.e 2 rfl) (T.e 1 rfl) (T.e 0 rfl) (Zne (i := 2) rfl) rfl ?_
 have hb9 := endV_go (l := l) hzl (or_go (p := p) (by assumption))
 rw [← hj] at hb9
 have hr9 : readV text = if checkB b ≠ 0 then (zeroB, 0, checkB b) else (b, 0, 0) := by rw [readV_short (by omega), ← hlsu1, ← hdl, H]; exact hb9
 rw [if_neg (fun h => h (by assumption))] at hr9
 rw [hr9]
 exact ⟨A, c, B, d, Ia, Ib, rfl, hsA, hsB, (Mem.subS (L' := ((Ia ++ Ib))) ((gk, .cells (kv (kvs gs) ++ [])) :: (gs, .cells [.func (.func 111) #[] #[]]) :: (g1, .cells (bxM b (.slice A b.lows.length c) (.slice B b.highs.length d))) :: Iu1) M (fun f => by simp only [bxM, boxL, sumF_app, sumF_cons, sumF_nil, List.cons_append, List.nil_append, List.append_nil, Nat.add_zero, Nat.zero_add] <;> omega))⟩
open Go.RowKit
open Go.RowKit
section
variable {bf : Int} {i : Nat} {ls : List (List UInt8)} {s w0 : List UInt8} {ws : List (List UInt8)} {l : List (Nat × List Int)} {r : RdE} {x : List Int}
end
theorem eqT77 {x y : Operand} {a0 a1 a2 a3 b0 b1 b2 b3 : Int} {w : World} : (do eqGuard .eql 77 x y (.agg #[Zi a0, Zi a1, Zi a2, Zi a3]) (.agg #[Zi b0, Zi b1, Zi b2, Zi b3]); binOp .eql 77 (.agg #[Zi a0, Zi a1, Zi a2, Zi a3]) (.agg #[Zi b0, Zi b1, Zi b2, Zi b3]) : Sem Value).run Tryz.prog w = .ok (.bool ((decide (a0 = b0) && (decide (a1 = b1) && (decide (a2 = b2) && decide (a3 = b3)))))) w := by
 go_simp
 (repeat' split) <;> simp_all
theorem eqT23 {x y : Operand} {a0 a1 a2 a3 b0 b1 b2 b3 : Int} {w : World} : (do eqGuard .eql 23 x y (.agg #[Zi a0, Zi a1, Zi a2, Zi a3]) (.agg #[Zi b0, Zi b1, Zi b2, Zi b3]); binOp .eql 23 (.agg #[Zi a0, Zi a1, Zi a2, Zi a3]) (.agg #[Zi b0, Zi b1, Zi b2, Zi b3]) : Sem Value).run Tryz.prog w = .ok (.bool ((decide (a0 = b0) && (decide (a1 = b1) && (decide (a2 = b2) && decide (a3 = b3)))))) w := by
 go_simp
 (repeat' split) <;> simp_all
theorem sameSounds_same (A D : Option Addr) (n c d : Nat) (l : List Snd) (w : World) (hr : Rd w w.heap.size 4 A n (sc l)) (hs : Rd w w.heap.size 4 D n (sc l)) (hn : n ≤ 1000000) :
   Calls Tryz.prog 54 #[.slice A n c, .slice D n d] w fun e w' => e = .returned (.bool true) ∧ Below w.heap.size w w' := by
 have hl := hr.len4
 obtain ⟨bJ, oJ, SJ⟩ := Sp.old hr
 obtain ⟨bI, oI, SI⟩ := Sp.old hs
 refine Zpx noEx Tryz.func54 rfl 31 rfl [.slice A n c, .slice D n d] rfl rfl (Mem.init w _) ?_
 intro ac wc T M
 refine Zsr ?_
 refine lq T (Zra rfl evc) ?_; clear T ac; intro ac T
 replace T := T.pick [1, 2] rfl
 refine Zln ?_
 refine Zsr ?_
 refine Zg6 (v5 := (.bool true)) T (Zq (Zrm rfl (T.e 0 rfl))) rfl (Zl Tryz.underlying24 0 rfl rfl) rfl (Zm 3 rfl rfl) rfl (Zl Tryz.underlying24 0 rfl rfl) rfl (fun _ T => Zq (Zrq (rn_eql rfl (T.e 2 rfl) (T.e 0 rfl)) (by simp))) rfl (Za 0 rfl rfl) rfl ?_; clear T ac; intro ac T
 replace T := T.pick [0, 6, 7] rfl
 refine Zln ?_
 refine wp_seq ?_
 refine Zsr ?_
 refine lq T (Zra rfl evc) ?_; clear T ac; intro ac T
 refine Zln ?_
 refine wp_block ?_
 refine wp_loop_n (fun mz ac wc => ∃ (k : Nat), mz = n - k ∧ (k ≤ n) ∧ Tm ac 31 [(0, .slice A n c), (1, .slice D n d), (5, .bool true), (6, Zi (k : Int))] ∧ Mem w noEx wc []) ?_ ?_
 ·exact ⟨_, 0, rfl, (Nat.zero_le _), T.pick [2, 3, 1, 0] rfl, M.mask [] rfl⟩
 clear T M
 rintro mz ac wc ⟨k, hmm1, hk, T, M⟩
 refine wp_seq ?_
 refine Zsr ?_
 refine Zg7 T (Zq (Zrm rfl (T.e 2 rfl))) rfl (Zm 0 rfl rfl) rfl (fun _ T => Zw (Zwy rfl rfl (T.e 0 rfl) rfl) (Zrm rfl (T.e 5 rfl))) rfl (fun _ T => Zw (Zwy rfl rfl (T.e 1 rfl) rfl) (Zrm rfl (T.e 3 rfl))) rfl (fun _ T => Zw (Zwy rfl rfl (T.e 2 rfl) rfl) (Zrl rfl Tryz.underlying24 (T.e 0 rfl))) rfl (fun _ T => Zw (Zwy rfl rfl (T.e 3 rfl) rfl) (rn_lss rfl (T.e 2 rfl) (T.e 0 rfl))) rfl (fun _ T => Zq (Zr1 rfl (T.e 4 rfl) rfl (T.e 0 rfl))) rfl ?_; clear T ac; intro ac T
 replace T := T.pick [0, 1, 2, 3, 4, 7, 8, 9, 10] rfl
 refine Zln ?_
 refine wp_if (T.e 0 rfl) ?_ ?_
 ·intro h1
  obtain ⟨x, hkx, -⟩ := sc_next (l := l) (k := k) (by omega)
  refine Zsk ?_
  refine wp_seq ?_
  refine wp_block ?_
  refine Zgs M (M.mask [] rfl) 10 (by kernel_rfl) rfl (by kernel_rfl) ?_
  clear M; intro wc M
  refine gq T 0 1 rfl (fun _ _ _ _ _ => (Zrm rfl (T.e 5 rfl))) ?_; clear T ac; intro ac T
  refine gq T 1 3 rfl (fun _ _ _ _ _ => (Zrm rfl (T.e 9 rfl))) ?_; clear T ac; intro ac T
  refine gq T 2 7 rfl (fun _ _ _ _ _ => (Zri (size := 4) k rfl (T.e 1 rfl) (T.e 0 rfl) ⟨_, Tryz.underlying24, by kernel_rfl⟩ rfl (by omega) (SJ.at0 (by omega)))) ?_; clear T ac; intro ac T
  refine gq (v := (.agg #[Zi x.t0, Zi x.t1, Zi x.s0, Zi x.s1])) T 3 15 rfl (fun B w' hD hl hS => (rn_rowat (Sp.scR4 SJ (show Mem w noEx w' _ from hS) (Zz9 _) hkx) rfl (T.e 0 rfl) rfl)) ?_; clear T ac; intro ac T
  refine gq T 4 31 rfl (fun _ _ _ _ _ => (Zrm rfl (T.e 10 rfl))) ?_; clear T ac; intro ac T
  refine gq T 5 63 rfl (fun _ _ _ _ _ => (Zrm rfl (T.e 13 rfl))) ?_; clear T ac; intro ac T
  refine gq T 6 127 rfl (fun _ _ _ _ _ => (Zri (size := 4) k rfl (T.e 1 rfl) (T.e 0 rfl) ⟨_, Tryz.underlying24, by kernel_rfl⟩ rfl (by omega) (SI.at0 (by omega)))) ?_; clear T ac; intro ac T
  refine gq (v := (.agg #[Zi x.t0, Zi x.t1, Zi x.s0, Zi x.s1])) T 7 255 rfl (fun B w' hD hl hS => (rn_rowat (Sp.scR4 SI (show Mem w noEx w' _ from hS) (Zz9 _) hkx) rfl (T.e 0 rfl) rfl)) ?_; clear T ac; intro ac T
  refine gq (v := (.bool true)) T 8 511 rfl (fun _ _ _ _ _ => (Zrq (rn_bin rfl (T.e 4 rfl) (T.e 0 rfl) eqT77) (by simp))) ?_; clear T ac; intro ac T
  refine g_q (v := (.bool true)) (T := T.pick [0, 1, 2, 3, 4, 5, 6, 7, 8, 9, 10, 11, 12, 13, 14, 15, 17] rfl) (i := 9) rfl (by kernel_rfl) (by kernel_rfl : (Zpb 10 511).setIfInBounds 9 true = Zpb 10 1023) si_U (fun _ _ _ h => h) rfl rfl rfl rfl (fun _ _ _ _ _ => (Zra rfl (T.e 0 rfl))) ?_; clear T ac; intro ac T
  refine Zgd (by kernel_rfl) ?_
  replace T := T.pick [0, 11, 12, 13, 14, 15, 16, 17] rfl
  refine Znb ?_
  refine nm_then ?_
  refine wp_region_lit ?_
  refine Zg2 T (Zq (Zrm rfl (T.e 7 rfl))) rfl (fun _ T => Zq (rn_add rfl (T.e 0 rfl) evc (by omega))) rfl ?_; clear T ac; intro ac T
  refine l_q (v := (Zi ((k : Int) + 1))) (T.pick [0, 1, 2, 3, 4, 5, 6, 7, 8] rfl) rfl rfl rfl rfl (Zra rfl (T.e 0 rfl)) ?_; clear T ac; intro ac T
  replace T := T.pick [0, 3, 4, 5, 6, 7, 8, 9] rfl
  refine Zln ?_
  exact ⟨_, by omega, k + 1, rfl, (by omega), T.pick [6, 7, 1, 0] rfl, M.mask [] rfl⟩
 intro h1
 refine wp_exit ?_
 refine Zet ?_
 refine Zet ?_
 refine ex_hit ?_
 refine nm_then ?_
 refine Zsr ?_
 refine Zg2 T (Zq (Zrm rfl (T.e 7 rfl))) rfl (Za 0 rfl rfl) rfl ?_; clear T ac; intro ac T
 replace T := T.pick [0] rfl
 refine Zln ?_
 refine wp_ret ?_
 refine rt_1 T rfl (T.e 0 rfl) ?_
 exact ⟨rfl, M.below⟩
theorem sameBoxes_same (b : Bx) (A : Option Addr) (c : Nat) (B : Option Addr) (d : Nat) (A2 : Option Addr) (c2 : Nat) (B2 : Option Addr) (d2 : Nat) (w : World) (hA : Rd w w.heap.size 4 A b.lows.length (sc b.lows)) (hB : Rd w w.heap.size 4 B b.highs.length (sc b.highs)) (hA2 : Rd w w.heap.size 4 A2 b.lows.length (sc b.lows)) (hB2 : Rd w w.heap.size 4 B2 b.highs.length (sc b.highs)) (nA : b.lows.length ≤ 1000000) (nB : b.highs.length ≤ 1000000)  :
  Calls Tryz.prog 15 #[bxV b A c B d, bxV b A2 c2 B2 d2] w fun e w' => e = .returned (.bool true) ∧ Below w.heap.size w w' := by
 have hlA := hA.len4
 have hlB := hB.len4
 obtain ⟨bA, oA, SA⟩ := Sp.old hA
 obtain ⟨bB, oB, SB⟩ := Sp.old hB
 obtain ⟨bA2, oA2, SA2⟩ := Sp.old hA2
 obtain ⟨bB2, oB2, SB2⟩ := Sp.old hB2
 refine Zpx noEx Tryz.func15 rfl 59 rfl [.agg #[Zi b.first, Zi b.step, Zi b.span, Zi b.press, Zi b.note, .slice A b.lows.length c, .slice B b.highs.length d, Zi b.t0, Zi b.t1, Zi b.r0, Zi b.r1, Zi b.u0, Zi b.u1, Zi b.d0, Zi b.d1, Zi b.a0, Zi b.a1, Zi b.b0, Zi b.b1, Zi b.le, Zi b.me], .agg #[Zi b.first, Zi b.step, Zi b.span, Zi b.press, Zi b.note, .slice A2 b.lows.length c2, .slice B2 b.highs.length d2, Zi b.t0, Zi b.t1, Zi b.r0, Zi b.r1, Zi b.u0, Zi b.u1, Zi b.d0, Zi b.d1, Zi b.a0, Zi b.a1, Zi b.b0, Zi b.b1, Zi b.le, Zi b.me]] rfl rfl (Mem.init w _) ?_
 intro ac wc T M
 refine Zsr ?_
 refine Zl2 ?_
 refine Zob M T rfl rfl rfl rfl (T.e 0 rfl) rfl ?_; clear M T; intro g1 wc ac M T
 refine Zl2 ?_
 refine Zob M T rfl rfl rfl rfl (T.e 2 rfl) rfl ?_; clear M T; intro g2 wc ac M T
 refine lq T (Zra rfl evc) ?_; clear T ac; intro ac T
 replace T := T.pick [1, 2] rfl
 refine Zln ?_
 refine Zsr ?_
 refine Zg8 (v1 := (Zj g1)) (v3 := (Zj g2)) (v5 := (.bool true)) (v7 := (.pointer (some ⟨g1, 4, none⟩))) T (Zq (Zrf (off := 0) rfl (T.e 1 rfl) (fun _ _ _ => by kernel_rfl))) rfl (Zr M 1 0 rfl rfl rfl rfl) rfl (Zf 0 2 rfl rfl) rfl (Zr M 0 0 rfl rfl rfl rfl) rfl (fun _ T => Zq (Zrq (rn_bin rfl (T.e 2 rfl) (T.e 0 rfl) eqT23) (by simp))) rfl (Zm 0 rfl rfl) rfl (fun _ T => Zw (Zwy rfl rfl (T.e 0 rfl) rfl) (Zrf (off := 4) rfl (T.e 7 rfl) (fun _ _ _ => by kernel_rfl))) rfl (fun _ T => Zw (Zwy rfl rfl (T.e 1 rfl) rfl) (Zro (Mem.nth M 1 rfl) rfl (T.e 0 rfl) rfl)) rfl ?_; clear T ac; intro ac T
 refine Zg8 (v1 := (.pointer (some ⟨g2, 4, none⟩))) (v3 := (.bool true)) (v6 := (.pointer (some ⟨g1, 7, none⟩))) (v8 := (.pointer (some ⟨g2, 7, none⟩))) T (Zw (Zwy rfl rfl (T.e 2 rfl) rfl) (Zrf (off := 4) rfl (T.e 8 rfl) (fun _ _ _ => by kernel_rfl))) rfl (fun _ T => Zw (Zwy rfl rfl (T.e 3 rfl) rfl) (Zro (Mem.nth M 0 rfl) rfl (T.e 0 rfl) rfl)) rfl (fun _ T => Zw (Zwy rfl rfl (T.e 4 rfl) rfl) (Zrq (rn_eql rfl (T.e 2 rfl) (T.e 0 rfl)) (by simp))) rfl (fun _ T => Zq (Zr1 rfl (T.e 5 rfl) rfl (T.e 0 rfl))) rfl (Zm 0 rfl rfl) rfl (fun _ T => Zw (Zwy rfl rfl (T.e 0 rfl) rfl) (Zrf (off := 7) rfl (T.e 14 rfl) (fun _ _ _ => by kernel_rfl))) rfl (fun _ T => Zw (Zwy rfl rfl (T.e 1 rfl) rfl) (Zrr (Mem.nth M 1 rfl) rfl (T.e 0 rfl) rfl)) rfl (fun _ T => Zw (Zwy rfl rfl (T.e 2 rfl) rfl) (Zrf (off := 7) rfl (T.e 15 rfl) (fun _ _ _ => by kernel_rfl))) rfl ?_; clear T ac; intro ac T
 refine Zg8 (v2 := (.bool true)) (v5 := (.pointer (some ⟨g1, 9, none⟩))) (v7 := (.pointer (some ⟨g2, 9, none⟩))) T (Zw (Zwy rfl rfl (T.e 3 rfl) rfl) (Zrr (Mem.nth M 0 rfl) rfl (T.e 0 rfl) rfl)) rfl (fun _ T => Zw (Zwy rfl rfl (T.e 4 rfl) rfl) (Zrq (rn_bin rfl (T.e 2 rfl) (T.e 0 rfl) eqT26) (by simp))) rfl (fun _ T => Zq (Zr1 rfl (T.e 5 rfl) rfl (T.e 0 rfl))) rfl (Zm 0 rfl rfl) rfl (fun _ T => Zw (Zwy rfl rfl (T.e 0 rfl) rfl) (Zrf (off := 9) rfl (T.e 21 rfl) (fun _ _ _ => by kernel_rfl))) rfl (fun _ T => Zw (Zwy rfl rfl (T.e 1 rfl) rfl) (Zrr (Mem.nth M 1 rfl) rfl (T.e 0 rfl) rfl)) rfl (fun _ T => Zw (Zwy rfl rfl (T.e 2 rfl) rfl) (Zrf (off := 9) rfl (T.e 22 rfl) (fun _ _ _ => by kernel_rfl))) rfl (fun _ T => Zw (Zwy rfl rfl (T.e 3 rfl) rfl) (Zrr (Mem.nth M 0 rfl) rfl (T.e 0 rfl) rfl)) rfl ?_; clear T ac; intro ac T
 refine Zg8 (v1 := (.bool true)) (v4 := (.pointer (some ⟨g1, 11, none⟩))) (v6 := (.pointer (some ⟨g2, 11, none⟩))) (v8 := (.bool true)) T (Zw (Zwy rfl rfl (T.e 4 rfl) rfl) (Zrq (rn_bin rfl (T.e 2 rfl) (T.e 0 rfl) eqT26) (by simp))) rfl (fun _ T => Zq (Zr1 rfl (T.e 5 rfl) rfl (T.e 0 rfl))) rfl (Zm 0 rfl rfl) rfl (fun _ T => Zw (Zwy rfl rfl (T.e 0 rfl) rfl) (Zrf (off := 11) rfl (T.e 28 rfl) (fun _ _ _ => by kernel_rfl))) rfl (fun _ T => Zw (Zwy rfl rfl (T.e 1 rfl) rfl) (Zrr (Mem.nth M 1 rfl) rfl (T.e 0 rfl) rfl)) rfl (fun _ T => Zw (Zwy rfl rfl (T.e 2 rfl) rfl) (Zrf (off := 11) rfl (T.e 29 rfl) (fun _ _ _ => by kernel_rfl))) rfl (fun _ T => Zw (Zwy rfl rfl (T.e 3 rfl) rfl) (Zrr (Mem.nth M 0 rfl) rfl (T.e 0 rfl) rfl)) rfl (fun _ T => Zw (Zwy rfl rfl (T.e 4 rfl) rfl) (Zrq (rn_bin rfl (T.e 2 rfl) (T.e 0 rfl) eqT28) (by simp))) rfl ?_; clear T ac; intro ac T
 refine Zg8 (v3 := (.pointer (some ⟨g1, 20, none⟩))) (v5 := (.pointer (some ⟨g2, 20, none⟩))) (v7 := (.bool true)) T (Zq (Zr1 rfl (T.e 5 rfl) rfl (T.e 0 rfl))) rfl (Zm 0 rfl rfl) rfl (fun _ T => Zw (Zwy rfl rfl (T.e 0 rfl) rfl) (Zrf (off := 20) rfl (T.e 35 rfl) (fun _ _ _ => by kernel_rfl))) rfl (fun _ T => Zw (Zwy rfl rfl (T.e 1 rfl) rfl) (Zro (Mem.nth M 1 rfl) rfl (T.e 0 rfl) rfl)) rfl (fun _ T => Zw (Zwy rfl rfl (T.e 2 rfl) rfl) (Zrf (off := 20) rfl (T.e 36 rfl) (fun _ _ _ => by kernel_rfl))) rfl (fun _ T => Zw (Zwy rfl rfl (T.e 3 rfl) rfl) (Zro (Mem.nth M 0 rfl) rfl (T.e 0 rfl) rfl)) rfl (fun _ T => Zw (Zwy rfl rfl (T.e 4 rfl) rfl) (Zrq (rn_eql rfl (T.e 2 rfl) (T.e 0 rfl)) (by simp))) rfl (fun _ T => Zq (Zr1 rfl (T.e 5 rfl) rfl (T.e 0 rfl))) rfl ?_; clear T ac; intro ac T
 refine Zg5 (v2 := (.pointer (some ⟨g1, 5, none⟩))) (v4 := (.pointer (some ⟨g2, 5, none⟩))) T (Zq (Zrm rfl (T.e 0 rfl))) rfl (fun _ T => Zw (Zwy rfl rfl (T.e 0 rfl) rfl) (Zrf (off := 5) rfl (T.e 42 rfl) (fun _ _ _ => by kernel_rfl))) rfl (fun _ T => Zw (Zwy rfl rfl (T.e 1 rfl) rfl) (Zro (Mem.nth M 1 rfl) rfl (T.e 0 rfl) rfl)) rfl (fun _ T => Zw (Zwy rfl rfl (T.e 2 rfl) rfl) (Zrf (off := 5) rfl (T.e 43 rfl) (fun _ _ _ => by kernel_rfl))) rfl (fun _ T => Zw (Zwy rfl rfl (T.e 3 rfl) rfl) (Zro (Mem.nth M 0 rfl) rfl (T.e 0 rfl) rfl)) rfl ?_; clear T ac; intro ac T
 refine l_w (Zwy rfl rfl (T.e 4 rfl) rfl) ?_; intro K hK
 refine Zoc (first := []) (cap := []) T rfl rfl rfl rfl evf (.cons (T.e 2 rfl) (.cons (T.e 0 rfl) .nil)) Tryz.func54 rfl rfl ?_
 refine Calls.mono (sameSounds_same _ _ _ _ _ b.lows _ (SA.rd M (Zz9 _)) (SA2.rd M (Zz9 _)) (by omega)) ?_
 clear T; rintro e wc ⟨rfl, hb⟩ ac T
 replace M := M.call hb; clear hb
 refine Zso hK _ _ ?_; clear hK K
 refine Zg6 (v3 := (.pointer (some ⟨g1, 6, none⟩))) (v5 := (.pointer (some ⟨g2, 6, none⟩))) T (Zq (Zr1 rfl (T.e 5 rfl) rfl (T.e 0 rfl))) rfl (Zm 0 rfl rfl) rfl (fun _ T => Zw (Zwy rfl rfl (T.e 0 rfl) rfl) (Zrf (off := 6) rfl (T.e 49 rfl) (fun _ _ _ => by kernel_rfl))) rfl (fun _ T => Zw (Zwy rfl rfl (T.e 1 rfl) rfl) (Zro (Mem.nth M 1 rfl) rfl (T.e 0 rfl) rfl)) rfl (fun _ T => Zw (Zwy rfl rfl (T.e 2 rfl) rfl) (Zrf (off := 6) rfl (T.e 50 rfl) (fun _ _ _ => by kernel_rfl))) rfl (fun _ T => Zw (Zwy rfl rfl (T.e 3 rfl) rfl) (Zro (Mem.nth M 0 rfl) rfl (T.e 0 rfl) rfl)) rfl ?_; clear T ac; intro ac T
 refine l_w (Zwy rfl rfl (T.e 4 rfl) rfl) ?_; intro K hK
 refine Zoc (first := []) (cap := []) T rfl rfl rfl rfl evf (.cons (T.e 2 rfl) (.cons (T.e 0 rfl) .nil)) Tryz.func54 rfl rfl ?_
 refine Calls.mono (sameSounds_same _ _ _ _ _ b.highs _ (SB.rd M (Zz9 _)) (SB2.rd M (Zz9 _)) (by omega)) ?_
 clear T; rintro e wc ⟨rfl, hb⟩ ac T
 replace M := M.call hb; clear hb
 refine Zso hK _ _ ?_; clear hK K
 refine Zg2 T (Zq (Zr1 rfl (T.e 5 rfl) rfl (T.e 0 rfl))) rfl (Za 0 rfl rfl) rfl ?_; clear T ac; intro ac T
 refine wpList_nil ?_
 replace T := T.pick [0] rfl
 replace M := M.mask [false, false] rfl
 refine Znr ?_
 refine rt_1 T rfl (T.e 0 rfl) ?_
 exact ⟨rfl, M.below⟩
section
variable {P : Program} {op : Oper} {a : Act} {w w0 : World} {ex : Nat → Prop} {L : List (Nat × BA)} {df : List Deferred} {nn : Nat} {E : List (Nat × Value)} {t : Tmp} {K : Act → World → Prop} {Q : Exit → Act → World → Prop}
end
def ReadX (b : Bx) (l err : Int) (w : World) (e : Ending) (w' : World) : Prop := ∃ (A : Option Addr) (c : Nat) (B : Option Addr) (d : Nat) (Ia Ib : List (Nat × BA)), e = .returned (.tuple #[bxV b A c B d, Zi l, Zi err]) ∧ Sl 77 4 (.slice A b.lows.length c) b.lows.length (sc b.lows) Ia ∧ Sl 77 4 (.slice B b.highs.length d) b.highs.length (sc b.highs) Ib ∧ Mem w noEx w' (Ia ++ Ib)
theorem readX_any {s : List UInt8} {b : Bx} {l err : Int} (h : readV s = (b, l, err)) (w : World) (hT : StrW w) : Calls Tryz.prog 13 #[sv s] w (ReadX b l err w) := by
 have h2 := vread_any s w hT
 rw [h] at h2
 exact h2
theorem readV_sh (s : List UInt8) : (readV s).1.lows.length ≤ 4 ∧ (readV s).1.highs.length ≤ 5 := by
 have key : ∀ rows r, (endV rows r).1.lows.length ≤ 4 ∧ (endV rows r).1.highs.length ≤ 5 := by
  intro rows r
  unfold endV
  split
  ·exact ⟨Nat.zero_le _, Nat.zero_le _⟩
  ·split
   ·exact ⟨Nat.zero_le _, Nat.zero_le _⟩
   ·split
    ·exact ⟨Nat.zero_le _, Nat.zero_le _⟩
    ·rename_i h
     have g := checkB_good.1 (by simpa using h)
     exact ⟨g.lows.1, g.highs.1⟩
 unfold readV
 split
 ·exact ⟨Nat.zero_le _, Nat.zero_le _⟩
 ·exact key _ _
theorem writeX_any {b : Bx} {A : Option Addr} {c : Nat} {B : Option Addr} {d : Nat} (t : List UInt8) (h0 : checkB b = 0) (ht : writeV b = t) (w : World) (hA : Rd w w.heap.size 4 A b.lows.length (sc b.lows)) (hB : Rd w w.heap.size 4 B b.highs.length (sc b.highs)) (nA : b.lows.length ≤ 1000000) (nB : b.highs.length ≤ 1000000) (hT : StrW w) : Calls Tryz.prog 10 #[bxV b A c B d] w fun e w' => e = .returned (.tuple #[sv t, Zi 0]) ∧ Below w.heap.size w w' := by
 have h := vwrite_any b A c B d w hA hB nA nB hT
 have e : wrV b = t := by unfold wrV; rw [if_pos h0, ht]
 rw [h0, e] at h
 exact h
theorem VoiceRead_any (D : Option Addr) (d n : Nat) (l : List Int) (text : List UInt8) (w : World) (hl : Rd w w.heap.size 1 D n (ic l)) (hm : n ≤ 9223372036854775807) (hT : StrW w)  :
   Calls Tryz.prog 4 #[.slice D n d, sv text] w fun e w' => e = .returned (.bool true) ∧ Below w.heap.size w w' := by
 have hll := hl.len1
 obtain ⟨bI, oI, SI⟩ := Sp.old hl
 obtain ⟨jr, lr, er, hr9⟩ : ∃ j l e, readV text = (j, l, e) := ⟨_, _, _, rfl⟩
 have ⟨hjr4, hjr5⟩ : jr.lows.length ≤ 4 ∧ jr.highs.length ≤ 5 := by have h8 := readV_sh text; rw [hr9] at h8; exact h8
 refine Zpx noEx Tryz.func4 rfl 74 rfl [.slice D n d, sv text] rfl rfl (Mem.init w _) ?_
 intro ac wc T M
 refine Zsr ?_
 refine lq T (Zra rfl evc) ?_; clear T ac; intro ac T
 replace T := T.pick [1, 2] rfl
 refine Zln ?_
 refine wp_seq ?_
 refine Zsr ?_
 refine Zg3 T (Zq (Zrm rfl (T.e 1 rfl))) rfl (fun _ T => Zq (rn_slen rfl Tryz.underlying9 (T.e 0 rfl))) rfl (fun _ T => Zq (rn_gtr rfl (T.e 0 rfl) evc)) rfl ?_; clear T ac; intro ac T
 replace T := T.pick [0, 3, 4] rfl
 refine Zln ?_
 refine wp_if (T.e 0 rfl) ?_ ?_
 ·intro h1
  refine Zsr ?_
  refine Zl2 ?_
  refine Zoc (first := []) (cap := []) T rfl rfl rfl rfl evf .nil Tryz.func7 rfl rfl ?_
  refine Calls.mono (trembling_any _) ?_
  clear T; rintro e wc ⟨rfl, hb⟩ ac T
  replace M := M.call hb; clear hb
  refine lq T (Zra rfl (T.e 0 rfl)) ?_; clear T ac; intro ac T
  replace T := T.pick [0] rfl
  refine Zln ?_
  refine wp_ret ?_
  refine Zrt ?_
  refine rt_1 T rfl (T.e 0 rfl) ?_
  exact ⟨rfl, M.below⟩
 intro h1
 refine Zsk ?_
 refine Zsr ?_
 refine lq T (Zrm rfl (T.e 1 rfl)) ?_; clear T ac; intro ac T
 refine Zl2 ?_
 refine Zoc (first := []) (cap := []) T rfl rfl rfl rfl evf (.cons (T.e 0 rfl) .nil) Tryz.func9 rfl rfl ?_
 refine Calls.mono (newPot_any _ _ _ l _ (SI.rd M (Zz9 _)) (by omega)) ?_
 clear T; rintro e wc ⟨bpu2, su2, hsu2, rfl, N⟩ ac T
 replace M := M.join N; clear N
 replace M := M.mask [true] rfl
 refine Zl2 ?_
 refine Zoc (first := []) (cap := []) T rfl rfl rfl rfl evf (.cons (T.e 0 rfl) (.cons evc (.cons evc (.cons evc .nil)))) Tryz.func8 rfl rfl ?_
 refine Calls.mono (boxOf_any _ bpu2 4 5 5 _ (by omega) (by omega) (by omega) (M.nth 0 rfl) hsu2) ?_
 clear T; rintro e wc ⟨bu3, Au3, cu3, Bu3, du3, su3, Iu3, rfl, hmu3, hsu3, SAu3, SBu3, N⟩ ac T
 obtain ⟨b1u3, o1u3, SAu3⟩ := SAu3
 replace SAu3 := SAu3 w noEx
 obtain ⟨b2u3, o2u3, SBu3⟩ := SBu3
 replace SBu3 := SBu3 w noEx
 replace M := (M.joinW .head N).swapI
 clear N
 replace M : Mem w noEx wc ((bpu2, .cells [.int .u64 su3]) :: Iu3) := M
 have hgu3 := hmu3.good
 have nlu3 := hgu3.lows.1
 have nhu3 := hgu3.highs.1
 have hstu3 := step_bd (notes := 3) hmu3.law.step hmu3.note
 have hnou3 := hmu3.note
 have ⟨hfu3, hzu3, hpu3, hqu3⟩ := hmu3.law
 dsimp only at hstu3 hfu3 hpu3 hqu3
 refine Zl2 ?_
 refine Zoa M T rfl rfl rfl rfl ?_; clear M T; intro g1 wc ac M T
 refine Zl2 ?_
 refine Zos M T rfl rfl (T.e 0 rfl) (T.e 1 rfl) rfl .head rfl (by simp) rfl (by kernel_rfl) ?_; clear M T; intro wc ac M T
 refine wpList_nil ?_
 replace T := T.pick [0, 6] rfl
 replace M := M.mask [true, false] rfl
 refine nm_then ?_
 refine Zsr ?_
 refine lq T (Zrr (Mem.nth M 0 rfl) rfl (T.e 0 rfl) rfl) ?_; clear T ac; intro ac T
 refine Zl2 ?_
 refine Zoc (first := []) (cap := []) T rfl rfl rfl rfl evf (.cons (T.e 0 rfl) .nil) Tryz.func10 rfl rfl ?_
 refine Calls.mono (writeX_any (writeV bu3) (checkB_good.2 hgu3) rfl _ (SAu3.rd M (.cons _ (List.Sublist.refl _))) (SBu3.rd M (.cons _ (List.Sublist.refl _))) (by omega) (by omega) (hT.mem0 M)) ?_
 clear T; rintro e wc ⟨rfl, hb⟩ ac T
 replace M := M.call hb; clear hb
 refine Zg5 T (Zq (Zrm rfl (T.e 0 rfl))) rfl (Ze 0 rfl rfl rfl) rfl (Ze 1 rfl rfl rfl) rfl (Za 1 rfl rfl) rfl (Za 1 rfl rfl) rfl ?_; clear T ac; intro ac T
 replace T := T.pick [0, 1, 7, 8] rfl
 refine Zln ?_
 refine Zsr ?_
 refine lq T (Zrm rfl (T.e 1 rfl)) ?_; clear T ac; intro ac T
 refine Zl2 ?_
 refine Zoc (first := []) (cap := []) T rfl rfl rfl rfl evf (.cons (T.e 0 rfl) .nil) Tryz.func13 rfl rfl ?_
 refine Calls.mono (readX_any (writeV_read (checkB_good.2 hgu3)) _ (hT.mem0 M)) ?_
 clear T; rintro e wc ⟨Au5, cu5, Bu5, du5, Iau5, Ibu5, rfl, hsAu5, hsBu5, N⟩ ac T
 obtain ⟨bAu5, oAu5, SVAu5⟩ := Sl.spW hsAu5 (sc_length _)
 have SAu5 := SVAu5 w noEx
 obtain ⟨bBu5, oBu5, SVBu5⟩ := Sl.spW hsBu5 (sc_length _)
 have SBu5 := SVBu5 w noEx
 replace M := M.join N
 clear N
 replace M : Mem w noEx wc ((g1, .cells (bxM bu3 (.slice Au3 bu3.lows.length cu3) (.slice Bu3 bu3.highs.length du3))) :: (Iau5 ++ Ibu5 ++ Iu3)) := (Mem.permS (L' := ((g1, .cells (bxM bu3 (.slice Au3 bu3.lows.length cu3) (.slice Bu3 bu3.highs.length du3))) :: (Iau5 ++ Ibu5 ++ Iu3))) M (fun f => by simp only [bxM, boxL, sumF_app, sumF_cons, sumF_nil, List.cons_append, List.nil_append, List.append_nil, Nat.add_zero, Nat.zero_add] <;> omega))
 refine Zg4 T (Zq (Zrm rfl (T.e 0 rfl))) rfl (Ze 0 rfl rfl rfl) rfl (Ze 1 rfl rfl rfl) rfl (Ze 2 rfl rfl rfl) rfl ?_; clear T ac; intro ac T
 refine Zl2 ?_
 refine Zoa M T rfl rfl rfl rfl ?_; clear M T; intro g2 wc ac M T
 refine Zl2 ?_
 refine Zos M T rfl rfl (T.e 0 rfl) (T.e 3 rfl) rfl .head rfl (by simp) rfl (by kernel_rfl) ?_; clear M T; intro wc ac M T
 refine Zg2 T (Zq (Zra rfl (T.e 2 rfl))) rfl (Za 2 rfl rfl) rfl ?_; clear T ac; intro ac T
 replace T := T.pick [0, 1, 2, 9, 11, 12] rfl
 refine Zln ?_
 refine wp_seq ?_
 refine Zsr ?_
 refine Zg8 (v2 := (.bool false)) (v5 := (.bool false)) T (Zq (Zrm rfl (T.e 3 rfl))) rfl (fun _ T => Zq (Zrq (rn_neq rfl (T.e 0 rfl) evc) (by simp))) rfl (Zm 0 rfl rfl) rfl (fun _ T => Zw (Zwy rfl rfl (T.e 0 rfl) rfl) (Zrm rfl (T.e 3 rfl))) rfl (fun _ T => Zw (Zwy rfl rfl (T.e 1 rfl) rfl) (Zrq (rn_neq rfl (T.e 0 rfl) evc) (by simp))) rfl (fun _ T => Zq (Zr0 rfl (T.e 2 rfl) rfl (T.e 0 rfl))) rfl (Zm 0 rfl rfl) rfl (fun _ T => Zw (Zwy rfl rfl (T.e 0 rfl) rfl) (Zrm rfl (T.e 8 rfl))) rfl ?_; clear T ac; intro ac T
 refine Zg5 (v1 := (.bool false)) T (Zw (Zwy rfl rfl (T.e 1 rfl) rfl) (Zrq (rn_neq rfl (T.e 0 rfl) evc) (by simp))) rfl (fun _ T => Zq (Zr0 rfl (T.e 2 rfl) rfl (T.e 0 rfl))) rfl (Zm 0 rfl rfl) rfl (fun _ T => Zw (Zwy rfl rfl (T.e 0 rfl) rfl) (Zrr (Mem.nth M 1 rfl) rfl (T.e 15 rfl) rfl)) rfl (fun _ T => Zw (Zwy rfl rfl (T.e 1 rfl) rfl) (Zrr (Mem.nth M 0 rfl) rfl (T.e 14 rfl) rfl)) rfl ?_; clear T ac; intro ac T
 refine l_w (Zwy rfl rfl (T.e 2 rfl) rfl) ?_; intro K hK
 refine Zoc (first := []) (cap := []) T rfl rfl rfl rfl evf (.cons (T.e 1 rfl) (.cons (T.e 0 rfl) .nil)) Tryz.func15 rfl rfl ?_
 refine Calls.mono (sameBoxes_same bu3 _ _ _ _ _ _ _ _ _ (SAu3.rd M (.cons _ (.cons _ (Zsq _ _)))) (SBu3.rd M (.cons _ (.cons _ (Zsq _ _)))) (SAu5.rd M (.cons _ (.cons _ (subL (subL (List.Sublist.refl _)))))) (SBu5.rd M (.cons _ (.cons _ (subL (Zsq _ _))))) (by omega) (by omega)) ?_
 clear T; rintro e wc ⟨rfl, hb⟩ ac T
 replace M := M.call hb; clear hb
 refine Zso hK _ _ ?_; clear hK K
 refine Zg2 (v1 := (.bool false)) T (Zw (Zwy rfl rfl (T.e 3 rfl) rfl) (Zrq (rn_not rfl (T.e 0 rfl)) (by simp))) rfl (fun _ T => Zq (Zr0 rfl (T.e 4 rfl) rfl (T.e 0 rfl))) rfl ?_; clear T ac; intro ac T
 refine wpList_nil ?_
 replace T := T.pick [0, 21] rfl
 replace M := M.mask [false, false] rfl
 replace M : Mem w noEx wc ((Iau5 ++ Ibu5 ++ Iu3)) := M
 refine nm_then ?_
 refine wp_cond_false (T.e 0 rfl) ?_
 refine Zsk ?_
 refine Zsr ?_
 refine lq T (Zrm rfl (T.e 1 rfl)) ?_; clear T ac; intro ac T
 refine Zl2 ?_
 refine Zoc (first := []) (cap := []) T rfl rfl rfl rfl evf (.cons (T.e 0 rfl) .nil) Tryz.func13 rfl rfl ?_
 refine Calls.mono (readX_any hr9 _ (hT.mem0 M)) ?_
 clear T; rintro e wc ⟨Au7, cu7, Bu7, du7, Iau7, Ibu7, rfl, hsAu7, hsBu7, N⟩ ac T
 obtain ⟨bAu7, oAu7, SVAu7⟩ := Sl.spW hsAu7 (sc_length _)
 have SAu7 := SVAu7 w noEx
 obtain ⟨bBu7, oBu7, SVBu7⟩ := Sl.spW hsBu7 (sc_length _)
 have SBu7 := SVBu7 w noEx
 replace M := M.join N
 clear N
 replace M : Mem w noEx wc ((Iau7 ++ Ibu7 ++ Iau5 ++ Ibu5 ++ Iu3)) := (Mem.permS (L' := ((Iau7 ++ Ibu7 ++ Iau5 ++ Ibu5 ++ Iu3))) M (fun f => by simp only [bxM, boxL, sumF_app, sumF_cons, sumF_nil, List.cons_append, List.nil_append, List.append_nil, Nat.add_zero, Nat.zero_add] <;> omega))
 refine Zg4 T (Zq (Zrm rfl (T.e 0 rfl))) rfl (Ze 0 rfl rfl rfl) rfl (Ze 1 rfl rfl rfl) rfl (Ze 2 rfl rfl rfl) rfl ?_; clear T ac; intro ac T
 refine Zl2 ?_
 refine Zoa M T rfl rfl rfl rfl ?_; clear M T; intro g3 wc ac M T
 refine Zl2 ?_
 refine Zos M T rfl rfl (T.e 0 rfl) (T.e 3 rfl) rfl .head rfl (by simp) rfl (by kernel_rfl) ?_; clear M T; intro wc ac M T
 refine Zg2 T (Zq (Zra rfl (T.e 2 rfl))) rfl (Za 2 rfl rfl) rfl ?_; clear T ac; intro ac T
 replace T := T.pick [0, 2, 10] rfl
 refine Zln ?_
 refine wp_seq ?_
 refine Zsr ?_
 refine Zg2 T (Zq (Zrm rfl (T.e 0 rfl))) rfl (fun _ T => Zq (rn_neq rfl (T.e 0 rfl) evc)) rfl ?_; clear T ac; intro ac T
 replace T := T.pick [0, 3, 4] rfl
 refine Zln ?_
 refine wp_ifn (T.e 0 rfl) ?_ ?_
 ·intro h2
  refine Zsr ?_
  refine Zl2 ?_
  refine Zoc (first := []) (cap := []) T rfl rfl rfl rfl evf .nil Tryz.func7 rfl rfl ?_
  refine Calls.mono (trembling_any _) ?_
  clear T; rintro e wc ⟨rfl, hb⟩ ac T
  replace M := M.call hb; clear hb
  refine lq T (Zra rfl (T.e 0 rfl)) ?_; clear T ac; intro ac T
  refine wpList_nil ?_
  replace T := T.pick [0] rfl
  replace M := M.mask [false] rfl
  replace M : Mem w noEx wc ((Iau7 ++ Ibu7 ++ Iau5 ++ Ibu5 ++ Iu3)) := M
  refine Znr ?_
  refine Zrt ?_
  refine rt_1 T rfl (T.e 0 rfl) ?_
  exact ⟨rfl, M.below⟩
 intro h2
 refine Zsk ?_
 refine Zsr ?_
 refine lq T (Zrr (Mem.nth M 0 rfl) rfl (T.e 1 rfl) rfl) ?_; clear T ac; intro ac T
 refine Zl2 ?_
 refine Zoc (first := []) (cap := []) T rfl rfl rfl rfl evf (.cons (T.e 0 rfl) .nil) Tryz.func10 rfl rfl ?_
 refine Calls.mono (writeX_any text (readV_write (by rw [hr9, (by assumption : er = 0)])).1 (readV_write (by rw [hr9, (by assumption : er = 0)])).2.1 _ (SAu7.rd M (.cons _ (subL (subL (subL (subL (List.Sublist.refl _))))))) (SBu7.rd M (.cons _ (subL (subL (subL (Zsq _ _)))))) (by omega) (by omega) (hT.mem0 M)) ?_
 clear T; rintro e wc ⟨rfl, hb⟩ ac T
 replace M := M.call hb; clear hb
 refine Zg5 T (Zq (Zrm rfl (T.e 0 rfl))) rfl (Ze 0 rfl rfl rfl) rfl (Ze 1 rfl rfl rfl) rfl (Za 1 rfl rfl) rfl (Za 1 rfl rfl) rfl ?_; clear T ac; intro ac T
 refine wpList_nil ?_
 replace T := T.pick [0, 1, 9] rfl
 replace M := M.mask [false] rfl
 replace M : Mem w noEx wc ((Iau7 ++ Ibu7 ++ Iau5 ++ Ibu5 ++ Iu3)) := M
 refine nm_then ?_
 refine Zsr ?_
 refine Zg8 (v2 := (.bool true)) (v6 := (.bool true)) T (Zq (Zrm rfl (T.e 0 rfl))) rfl (fun _ T => Zq (Zrq (rn_eql rfl (T.e 0 rfl) evc) (by simp))) rfl (Zm 0 rfl rfl) rfl (fun _ T => Zw (Zwy rfl rfl (T.e 0 rfl) rfl) (Zrm rfl (T.e 4 rfl))) rfl (fun _ T => Zw (Zwy rfl rfl (T.e 1 rfl) rfl) (Zrm rfl (T.e 6 rfl))) rfl (fun _ T => Zw (Zwy rfl rfl (T.e 2 rfl) rfl) (Zrq (rn_seql rfl (T.e 1 rfl) (T.e 0 rfl)) (by simp))) rfl (fun _ T => Zq (Zr1 rfl (T.e 3 rfl) rfl (T.e 0 rfl))) rfl (Zm 0 rfl rfl) rfl ?_; clear T ac; intro ac T
 refine l_w (Zwy rfl rfl (T.e 0 rfl) rfl) ?_; intro K hK
 refine Zoc (first := []) (cap := []) T rfl rfl rfl rfl evf .nil Tryz.func7 rfl rfl ?_
 refine Calls.mono (trembling_any _) ?_
 clear T; rintro e wc ⟨rfl, hb⟩ ac T
 replace M := M.call hb; clear hb
 refine Zso hK _ _ ?_; clear hK K
 refine Zg2 T (Zq (Zr1 rfl (T.e 1 rfl) rfl (T.e 0 rfl))) rfl (Za 0 rfl rfl) rfl ?_; clear T ac; intro ac T
 replace T := T.pick [0] rfl
 refine Zln ?_
 refine wp_ret ?_
 refine rt_1 T rfl (T.e 0 rfl) ?_
 exact ⟨rfl, M.below⟩
end Go.Proofs.YtaikhendogcflaaGreatDoor


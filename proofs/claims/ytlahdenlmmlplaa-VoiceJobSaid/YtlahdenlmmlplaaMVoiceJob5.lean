/-
  Walks of functions, and plain laws (texts put together). No condition.
-/
import Derived.Test.YtlahdenlmmlplaaMVoiceJob1
import Derived.Test.YtlahdenlmmlplaaMVoiceJob2
import Derived.Test.YtlahdenlmmlplaaMVoiceJob3
import Derived.Test.YtlahdenlmmlplaaMVoiceJob4

section
/-
 voice: the job of a pair, and its strokes.
-/
namespace Go.Proofs.Ytlahdenlmmlplaa
set_option linter.unusedSimpArgs false
set_option linter.unusedVariables false
open Go.RowKit
def shL (b : Bx) (x y : Snd) : List (Int × Int) := (List.range (b.press + 1).toNat).map fun (p : Nat) => riseP x y (p : Int)
def jobP (b : Bx) (x y : Snd) : Jb := { blankJ b with p0 := y.t0 - b.due, p1 := y.t1 - b.due, sh := shL b x y }
theorem shL_take {b : Bx} {x y : Snd} {k : Nat} (h : (k : Int) ≤ b.press) : (shL b x y).take (k + 1) = (shL b x y).take k ++ [riseP x y (k : Int)] := by
 unfold shL
 rw [List.take_add_one, List.getElem?_map, List.getElem?_range (by omega)]
 rfl
theorem shL_length (b : Bx) (x y : Snd) : (shL b x y).length = (b.press + 1).toNat := by simp [shL]
def JobPost (j : Jb) (w : World) (e : Ending) (w' : World) : Prop := ∃ A c I, e = .returned (jobV j A c) ∧ (∃ b o, ∀ (w : World) (ex : Nat → Prop), Sp w ex I A j.sh.length 2 b o (rc j.sh)) ∧ Mem w noEx w' I
def JEPost (j : Jb) (er : Int) (w : World) (e : Ending) (w' : World) : Prop := ∃ A c I, e = .returned (.tuple #[jobV j A c, .int .i64 er]) ∧ (∃ b o, ∀ (w : World) (ex : Nat → Prop), Sp w ex I A j.sh.length 2 b o (rc j.sh)) ∧ Mem w noEx w' I
def zeroJ : Jb := ⟨0, 0, 0, 0, 0, 0, 0, 0, 0, 0, 0, 0, 0, 0, 0, [], 0, 0⟩
def jobE (b : Bx) (i k : Int) : Jb := if checkPB b i k = 0 then jobP b (b.low i) (b.high k) else zeroJ
def strokesE (b : Bx) (i k : Int) : Int × Int := if checkPB b i k = 0 then guidedJ (jobP b (b.low i) (b.high k)) else (0, checkPB b i k)
set_option maxRecDepth 100000 in
set_option maxHeartbeats 1000000 in
theorem vjob_any (b : Bx) (A : Option Addr) (c : Nat) (B : Option Addr) (d : Nat) (i k : Int) (il kl : Nat) (x y : Snd) (w : World) (hA : Rd w w.heap.size 4 A b.lows.length (sc b.lows)) (hB : Rd w w.heap.size 4 B b.highs.length (sc b.highs)) (gb : b.good) (hil : i = (il : Nat)) (hkl : k = (kl : Nat)) (hkx : b.lows[il]? = some x) (hky : b.highs[kl]? = some y) :
   Calls Try.prog 83 #[bxV b A c B d, .int .i64 i, .int .i64 k] w (JobPost (jobP b x y) w) := by
 have hlA := hA.len4
 have hlB := hB.len4
 obtain ⟨bA, oA, SA⟩ := Sp.old hA
 obtain ⟨bB, oB, SB⟩ := Sp.old hB
 have hil9 := (List.getElem?_eq_some_iff.1 hkx).1
 have hkl9 := (List.getElem?_eq_some_iff.1 hky).1
 have gl3 := gb.law.span
 have gl4 := gb.law.press
 have gn := gb.note
 have gf := gb.law.first
 have gs := gb.law.step
 have gd := gb.due
 unfold Bx.due at gd
 dsimp only at gl3 gl4 gf gs
 have nA := gb.lows.1
 have nB := gb.highs.1
 have gx := gb.lows.2 x (List.mem_of_getElem? hkx)
 have gy := gb.highs.2 y (List.mem_of_getElem? hky)
 obtain ⟨⟨gx1, gx2⟩, gy1, gy2⟩ := And.intro gx gy
 refine px_enter noEx Try.func83 rfl 55 rfl [.agg #[.int .i64 b.first, .int .i64 b.step, .int .i64 b.span, .int .i64 b.press, .int .i64 b.note, .slice A b.lows.length c, .slice B b.highs.length d, .int .i64 b.t0, .int .i64 b.t1, .int .i64 b.r0, .int .i64 b.r1, .int .i64 b.u0, .int .i64 b.u1, .int .i64 b.d0, .int .i64 b.d1, .int .i64 b.a0, .int .i64 b.a1, .int .i64 b.b0, .int .i64 b.b1, .int .i64 b.le, .int .i64 b.me], .int .i64 i, .int .i64 k] rfl rfl (Mem.init w _) ?_
 intro ac wc T M
 refine wp_seq ?_
 refine wp_region_lit ?_
 refine l_w rfl ?_; intro K hK
 refine ow_bx M T rfl rfl rfl rfl (T.ev 0 rfl) rfl ?_; clear M T; intro g1 wc ac M T
 refine sh_out hK _ _ ?_; clear hK K
 refine l_w rfl ?_; intro K hK
 refine ow_al M T rfl rfl rfl rfl ?_; clear M T; intro g2 wc ac M T
 refine sh_out hK _ _ ?_; clear hK K
 refine wpList_nil ?_
 replace T := T.pick [0, 1, 3, 4] rfl
 refine nm_then ?_
 refine wp_seq ?_
 refine g_start2 M (M.mask [true, true] rfl) 10 (by kernel_rfl) rfl (by kernel_rfl) ?_
 clear M; intro wc M
 refine g_have (fun ac wc => ∃ (gr1_7 : Nat), Tm ac 55 [(7, .pointer (some ⟨gr1_7, 0, none⟩)), (16, .int .i64 (b.first + b.step * b.note)), (11, .agg #[.int .i64 0, .int .i64 0, .int .i64 b.t0, .int .i64 b.t1, .int .i64 b.r0, .int .i64 b.r1, .int .i64 b.u0, .int .i64 b.u1, .int .i64 b.d0, .int .i64 b.d1, .int .i64 b.a0, .int .i64 b.a1, .int .i64 b.b0, .int .i64 b.b1, .int .i64 b.le, .slice none 0 0, .int .i64 b.span, .int .i64 b.me]), (15, .int .i64 b.note), (14, .pointer (some ⟨g1, 4, none⟩)), (13, .agg #[.int .i64 b.first, .int .i64 b.step, .int .i64 b.span, .int .i64 b.press]), (12, .pointer (some ⟨g1, 0, none⟩)), (10, .agg #[.int .i64 b.first, .int .i64 b.step, .int .i64 b.span, .int .i64 b.press, .int .i64 b.note, .slice A b.lows.length c, .slice B b.highs.length d, .int .i64 b.t0, .int .i64 b.t1, .int .i64 b.r0, .int .i64 b.r1, .int .i64 b.u0, .int .i64 b.u1, .int .i64 b.d0, .int .i64 b.d1, .int .i64 b.a0, .int .i64 b.a1, .int .i64 b.b0, .int .i64 b.b1, .int .i64 b.le, .int .i64 b.me]), (6, .pointer (some ⟨g2, 0, none⟩)), (3, .pointer (some ⟨g1, 0, none⟩)), (1, .int .i64 i), (2, .int .i64 k)] ∧ Mem w noEx wc [(gr1_7, .cells [.int .i64 0, .int .i64 0, .int .i64 0, .int .i64 0, .int .i64 0, .int .i64 0, .int .i64 0, .int .i64 0, .int .i64 0, .int .i64 0, .int .i64 0, .int .i64 0, .int .i64 0, .int .i64 0, .int .i64 0, .slice none 0 0, .int .i64 0, .int .i64 0]), (g2, .cells [.int .i64 0, .int .i64 0, .int .i64 0, .int .i64 0, .int .i64 0, .int .i64 0, .int .i64 0, .int .i64 0, .int .i64 0, .int .i64 0, .int .i64 0, .int .i64 0, .int .i64 0, .int .i64 0, .int .i64 0, .slice none 0 0, .int .i64 0, .int .i64 0]), (g1, .cells [.int .i64 b.first, .int .i64 b.step, .int .i64 b.span, .int .i64 b.press, .int .i64 b.note, .slice A b.lows.length c, .slice B b.highs.length d, .int .i64 b.t0, .int .i64 b.t1, .int .i64 b.r0, .int .i64 b.r1, .int .i64 b.u0, .int .i64 b.u1, .int .i64 b.d0, .int .i64 b.d1, .int .i64 b.a0, .int .i64 b.a1, .int .i64 b.b0, .int .i64 b.b1, .int .i64 b.le, .int .i64 b.me])]) (pbits 10 255) 2 ?_ ?_
 ·clear T M
  rintro ac wc ⟨gr1_7, T, M⟩
  refine gw 8 511 ?_; intro K hK
  refine ow_stO M T rfl rfl (T.ev 0 rfl) (T.ev 2 rfl) rfl .head rfl (by simp) rfl (by kernel_rfl) ?_; clear M T; intro wc ac M T
  refine sh_out hK _ _ (M.mask [false, true, true] rfl) ?_; clear hK K
  refine gq T 9 1023 rfl (fun _ _ _ _ _ => (rn_assign rfl (T.ev 1 rfl))) ?_; clear T ac; intro ac T
  refine g_done (by kernel_rfl) ?_
  replace T := T.pick [0, 1, 9, 10, 11, 12] rfl
  refine nm_then ?_
  refine wp_seq ?_
  refine wp_region_lit ?_
  refine lq (v := (.pointer (some ⟨g1, 6, none⟩))) T (rn_fieldAddr (off := 6) rfl (T.ev 3 rfl) (fun _ _ _ => by kernel_rfl)) ?_; clear T ac; intro ac T
  refine lq T (rn_one (Mem.nth M 2 rfl) rfl (T.ev 0 rfl) rfl) ?_; clear T ac; intro ac T
  refine lq T (rn_move rfl (T.ev 7 rfl)) ?_; clear T ac; intro ac T
  refine lq T (rn_indexAddr (size := 4) kl rfl (T.ev 1 rfl) (T.ev 0 rfl) ⟨_, Try.underlying38, by kernel_rfl⟩ hkl (by omega) (SB.at0 (by omega))) ?_; clear T ac; intro ac T
  refine lq T (rn_fieldAddr (off := 0) rfl (T.ev 0 rfl) (fun _ _ _ => by kernel_rfl)) ?_; clear T ac; intro ac T
  refine lq (v := (.agg #[.int .i64 y.t0, .int .i64 y.t1])) T (rn_rowat (Sp.scR02 SB M (List.nil_sublist _) hky) rfl (T.ev 0 rfl) rfl) ?_; clear T ac; intro ac T
  refine lq T (rn_move rfl (T.ev 6 rfl)) ?_; clear T ac; intro ac T
  refine lq T (rn_move rfl (T.ev 7 rfl)) ?_; clear T ac; intro ac T
  refine lq (v := (.agg #[.int .i64 (b.first + b.step * b.note), .int .i64 (b.first + b.step * b.note)])) T (rn_build rfl (.cons (T.ev 1 rfl) (.cons (T.ev 0 rfl) .nil)) (fun _ => by kernel_rfl)) ?_; clear T ac; intro ac T
  refine l_w rfl ?_; intro K hK
  refine ow_call (first := []) (cap := []) T rfl rfl rfl rfl evf (.cons (T.ev 3 rfl) (.cons (T.ev 0 rfl) .nil)) Try.func106 rfl rfl ?_
  refine Calls.mono (vless_any y.t0 y.t1 (b.first + b.step * b.note) (b.first + b.step * b.note) _ (by omega) (by omega) (by omega) (by omega)) ?_
  clear T
  rintro e wc ⟨rfl, hb⟩
  intro ac T
  replace M := M.call hb; clear hb
  refine sh_out hK _ _ ?_; clear hK K
  refine lq (v := (.pointer (some ⟨gr1_7, 0, none⟩))) T (rn_fieldAddr (off := 0) rfl (T.ev 11 rfl) (fun _ _ _ => by kernel_rfl)) ?_; clear T ac; intro ac T
  refine lq (v := (.pointer (some ⟨gr1_7, 0, none⟩))) T (rn_fieldAddr (off := 0) rfl (T.ev 0 rfl) (fun _ _ _ => by kernel_rfl)) ?_; clear T ac; intro ac T
  refine l_w rfl ?_; intro K hK
  refine ow_stO M T rfl rfl (T.ev 0 rfl) (T.ev 2 rfl) rfl .head rfl (by simp) rfl (by kernel_rfl) ?_; clear M T; intro wc ac M T
  refine sh_out hK _ _ ?_; clear hK K
  refine wpList_nil ?_
  replace T := T.pick [13, 14, 15, 16, 17] rfl
  refine nm_then ?_
  refine wp_seq ?_
  refine wp_seq ?_
  refine wp_region_lit ?_
  refine lq (v := (.pointer (some ⟨g1, 0, none⟩))) T (rn_fieldAddr (off := 0) rfl (T.ev 2 rfl) (fun _ _ _ => by kernel_rfl)) ?_; clear T ac; intro ac T
  refine lq (v := (.pointer (some ⟨g1, 3, none⟩))) T (rn_fieldAddr (off := 3) rfl (T.ev 0 rfl) (fun _ _ _ => by kernel_rfl)) ?_; clear T ac; intro ac T
  refine lq T (rn_one (Mem.nth M 2 rfl) rfl (T.ev 0 rfl) rfl) ?_; clear T ac; intro ac T
  refine lq T (rn_add rfl (T.ev 0 rfl) evc (by omega)) ?_; clear T ac; intro ac T
  refine lq T (rn_move rfl evc) ?_; clear T ac; intro ac T
  refine wpList_nil ?_
  replace T := T.pick [0, 1, 5, 6, 7, 8, 9] rfl
  refine nm_then ?_
  refine wp_block ?_
  refine wp_loop_n (fun mz ac wc => ∃ (q : Nat) (A3 : Option Addr) (c3 : Nat) (Io : List (Nat × BA)), mz = (b.press + 1 - q).toNat ∧ ((q : Int) ≤ b.press + 1) ∧ (((shL b x y).take q).length ≤ 4) ∧ (Sl 40 2 (.slice A3 ((shL b x y).take q).length c3) ((shL b x y).take q).length (rc ((shL b x y).take q)) Io) ∧ Tm ac 55 [(1, .int .i64 i), (2, .int .i64 k), (3, .pointer (some ⟨g1, 0, none⟩)), (6, .pointer (some ⟨g2, 0, none⟩)), (7, .pointer (some ⟨gr1_7, 0, none⟩)), (32, .int .i64 (b.press + 1)), (33, .int .i64 (q : Int))] ∧ Mem w noEx wc ((gr1_7, .cells [.int .i64 (y.t0 - (b.first + b.step * b.note)), .int .i64 (y.t1 - (b.first + b.step * b.note)), .int .i64 b.t0, .int .i64 b.t1, .int .i64 b.r0, .int .i64 b.r1, .int .i64 b.u0, .int .i64 b.u1, .int .i64 b.d0, .int .i64 b.d1, .int .i64 b.a0, .int .i64 b.a1, .int .i64 b.b0, .int .i64 b.b1, .int .i64 b.le, .slice A3 (((shL b x y).take q).length) c3, .int .i64 b.span, .int .i64 b.me]) :: (g2, .cells [.int .i64 0, .int .i64 0, .int .i64 0, .int .i64 0, .int .i64 0, .int .i64 0, .int .i64 0, .int .i64 0, .int .i64 0, .int .i64 0, .int .i64 0, .int .i64 0, .int .i64 0, .int .i64 0, .int .i64 0, .slice none 0 0, .int .i64 0, .int .i64 0]) :: (g1, .cells [.int .i64 b.first, .int .i64 b.step, .int .i64 b.span, .int .i64 b.press, .int .i64 b.note, .slice A b.lows.length c, .slice B b.highs.length d, .int .i64 b.t0, .int .i64 b.t1, .int .i64 b.r0, .int .i64 b.r1, .int .i64 b.u0, .int .i64 b.u1, .int .i64 b.d0, .int .i64 b.d1, .int .i64 b.a0, .int .i64 b.a1, .int .i64 b.b0, .int .i64 b.b1, .int .i64 b.le, .int .i64 b.me]) :: Io)) ?_ ?_
  ·exact ⟨_, 0, none, 0, [], rfl, (by omega), (by simp), (Sl.nil _ _), T.pick [5, 6, 4, 3, 2, 1, 0] rfl, M.mask [true, true, true] rfl⟩
  clear T M
  rintro mz ac wc ⟨q, A3, c3, Io, hmm1, hq, hlq, hsl, T, M⟩
  refine wp_seq ?_
  refine wp_region_lit ?_
  refine lq T (rn_lss rfl (T.ev 6 rfl) (T.ev 5 rfl)) ?_; clear T ac; intro ac T
  refine wpList_nil ?_
  refine nm_then ?_
  refine wp_seq ?_
  refine wp_if (T.ev 0 rfl) ?_ ?_
  ·intro h1
   refine wp_skip ?_
   refine nm_then ?_
   refine wp_seq ?_
   refine wp_block ?_
   refine wp_seq ?_
   refine wp_region_lit ?_
   refine lq T (rn_move rfl (T.ev 7 rfl)) ?_; clear T ac; intro ac T
   refine lq T (rn_assign rfl (T.ev 0 rfl)) ?_; clear T ac; intro ac T
   refine wpList_nil ?_
   replace T := T.pick [0, 3, 4, 5, 6, 7, 8, 9] rfl
   refine nm_then ?_
   refine g_start2 M (M.perm [1, 2] rfl rfl) 18 (by kernel_rfl) rfl (by kernel_rfl) ?_
   clear M; intro wc M
   refine g_addG 17 (M.perm [0, 1, 2] rfl rfl) ?_
   refine gq (v := (.pointer (some ⟨gr1_7, 15, none⟩))) T 0 1 rfl (fun _ _ _ _ _ => (rn_fieldAddr (off := 15) rfl (T.ev 5 rfl) (fun _ _ _ => by kernel_rfl))) ?_; clear T ac; intro ac T
   refine gq T 1 3 rfl (fun B w' hD hl hS => (rn_one (Mem.nth (show Mem w noEx w' _ from ((MA.lft hS) (hD.wait (i := 1) (m := 17) (by kernel_rfl) hl))) 0 rfl) rfl (T.ev 0 rfl) rfl)) ?_; clear T ac; intro ac T
   refine gq (v := (.pointer (some ⟨g1, 5, none⟩))) T 2 7 rfl (fun _ _ _ _ _ => (rn_fieldAddr (off := 5) rfl (T.ev 5 rfl) (fun _ _ _ => by kernel_rfl))) ?_; clear T ac; intro ac T
   refine gq T 3 15 rfl (fun B w' hD hl hS => (rn_one (Mem.nth (show Mem w noEx w' _ from ((MA.lft hS) (hD.wait (i := 3) (m := 17) (by kernel_rfl) hl))) 2 rfl) rfl (T.ev 0 rfl) rfl)) ?_; clear T ac; intro ac T
   refine gq T 4 31 rfl (fun _ _ _ _ _ => (rn_move rfl (T.ev 5 rfl))) ?_; clear T ac; intro ac T
   refine gq T 5 63 rfl (fun _ _ _ _ _ => (rn_indexAddr (size := 4) il rfl (T.ev 1 rfl) (T.ev 0 rfl) ⟨_, Try.underlying38, by kernel_rfl⟩ hil (by omega) (SA.at0 (by omega)))) ?_; clear T ac; intro ac T
   refine gq (v := (.agg #[.int .i64 x.t0, .int .i64 x.t1, .int .i64 x.s0, .int .i64 x.s1])) T 6 127 rfl (fun B w' hD hl hS => (rn_rowat (Sp.scR4 SA (show Mem w noEx w' _ from ((MA.lft hS) (hD.wait (i := 6) (m := 17) (by kernel_rfl) hl))) (List.nil_sublist _) hkx) rfl (T.ev 0 rfl) rfl)) ?_; clear T ac; intro ac T
   refine gq (v := (.pointer (some ⟨g1, 6, none⟩))) T 7 255 rfl (fun _ _ _ _ _ => (rn_fieldAddr (off := 6) rfl (T.ev 10 rfl) (fun _ _ _ => by kernel_rfl))) ?_; clear T ac; intro ac T
   refine gq T 8 511 rfl (fun B w' hD hl hS => (rn_one (Mem.nth (show Mem w noEx w' _ from ((MA.lft hS) (hD.wait (i := 8) (m := 17) (by kernel_rfl) hl))) 2 rfl) rfl (T.ev 0 rfl) rfl)) ?_; clear T ac; intro ac T
   refine gq T 9 1023 rfl (fun _ _ _ _ _ => (rn_move rfl (T.ev 11 rfl))) ?_; clear T ac; intro ac T
   refine gq T 10 2047 rfl (fun _ _ _ _ _ => (rn_indexAddr (size := 4) kl rfl (T.ev 1 rfl) (T.ev 0 rfl) ⟨_, Try.underlying38, by kernel_rfl⟩ hkl (by omega) (SB.at0 (by omega)))) ?_; clear T ac; intro ac T
   refine gq (v := (.agg #[.int .i64 y.t0, .int .i64 y.t1, .int .i64 y.s0, .int .i64 y.s1])) T 11 4095 rfl (fun B w' hD hl hS => (rn_rowat (Sp.scR4 SB (show Mem w noEx w' _ from ((MA.lft hS) (hD.wait (i := 11) (m := 17) (by kernel_rfl) hl))) (List.nil_sublist _) hky) rfl (T.ev 0 rfl) rfl)) ?_; clear T ac; intro ac T
   refine gq T 12 8191 rfl (fun _ _ _ _ _ => (rn_move rfl (T.ev 12 rfl))) ?_; clear T ac; intro ac T
   refine gw 13 16383 ?_; intro K hK
   refine ow_call (first := []) (cap := []) T rfl rfl rfl rfl evf (.cons (T.ev 6 rfl) (.cons (T.ev 1 rfl) (.cons (T.ev 0 rfl) .nil))) Try.func97 rfl rfl ?_
   refine Calls.mono (rise_any x y (q : Int) _ gx gy (by (try dsimp only); omega)) ?_
   clear T
   rintro e wc ⟨rfl, hb⟩
   intro ac T
   replace M := M.call hb; clear hb
   refine sh_out hK _ _ (MA.mk (fun _ => M.perm [0, 1, 2] rfl rfl) (M.perm [1, 2] rfl rfl)) ?_; clear hK K
   refine gw 14 32767 ?_; intro K hK
   refine ow_bs (e := 40) [.int .i64 ((riseP x y (q : Int)).1), .int .i64 ((riseP x y (q : Int)).2)] M T rfl rfl rfl rfl (.cons (T.ev 0 rfl) .nil) (fun _ => by kernel_rfl) ?_; clear M T; intro g3 wc ac M T
   refine sh_out hK _ _ (MA.mk (fun _ => M.perm [1, 2, 3] rfl rfl) (M.perm [2, 3] rfl rfl)) ?_; clear hK K
   refine gw 15 65535 ?_; intro K hK
   refine ow_app ([(g3, .cells [.int .i64 ((riseP x y (q : Int)).1), .int .i64 ((riseP x y (q : Int)).2)]), (gr1_7, .cells [.int .i64 (y.t0 - (b.first + b.step * b.note)), .int .i64 (y.t1 - (b.first + b.step * b.note)), .int .i64 b.t0, .int .i64 b.t1, .int .i64 b.r0, .int .i64 b.r1, .int .i64 b.u0, .int .i64 b.u1, .int .i64 b.d0, .int .i64 b.d1, .int .i64 b.a0, .int .i64 b.a1, .int .i64 b.b0, .int .i64 b.b1, .int .i64 b.le, .slice A3 (((shL b x y).take q).length) c3, .int .i64 b.span, .int .i64 b.me]), (g2, .cells [.int .i64 0, .int .i64 0, .int .i64 0, .int .i64 0, .int .i64 0, .int .i64 0, .int .i64 0, .int .i64 0, .int .i64 0, .int .i64 0, .int .i64 0, .int .i64 0, .int .i64 0, .int .i64 0, .int .i64 0, .slice none 0 0, .int .i64 0, .int .i64 0]), (g1, .cells [.int .i64 b.first, .int .i64 b.step, .int .i64 b.span, .int .i64 b.press, .int .i64 b.note, .slice A b.lows.length c, .slice B b.highs.length d, .int .i64 b.t0, .int .i64 b.t1, .int .i64 b.r0, .int .i64 b.r1, .int .i64 b.u0, .int .i64 b.u1, .int .i64 b.d0, .int .i64 b.d1, .int .i64 b.a0, .int .i64 b.a1, .int .i64 b.b0, .int .i64 b.b1, .int .i64 b.le, .int .i64 b.me])]) Try.info40 hsl M (by first | rfl | simp) T rfl rfl rfl rfl Try.underlying50 rfl rfl rfl (by omega) (T.ev 13 rfl) (T.ev 0 rfl) (nthE_mem (i := 0) rfl) rfl rfl ?_; clear M T; intro ga1 cga1 wc ac M T
   refine sh_out hK _ _ (MA.mk (fun _ => M.mask [false, false, true, true, true] rfl) (M.mask [false, false, false, true, true] rfl)) ?_; clear hK K
   refine gq (v := (.pointer (some ⟨gr1_7, 15, none⟩))) T 16 131071 rfl (fun _ _ _ _ _ => (rn_fieldAddr (off := 15) rfl (T.ev 21 rfl) (fun _ _ _ => by kernel_rfl))) ?_; clear T ac; intro ac T
   refine gw 17 262143 ?_; intro K hK
   refine ow_stO M T rfl rfl (T.ev 0 rfl) (T.ev 1 rfl) rfl (.tail (.tail .head)) rfl (by simp) rfl (by kernel_rfl) ?_; clear M T; intro wc ac M T
   refine sh_out hK _ _ (MA.mk (fun h => (no_of (by kernel_rfl) h).elim) (M.mask [false, false, false, true, true] rfl)) ?_; clear hK K
   refine g_done (by kernel_rfl) ?_
   replace T := T.pick [18, 19, 20, 21, 22, 23, 24] rfl
   replace M := M.mask [true, false, true, true, true] rfl
   refine nm_blk ?_
   refine nm_then ?_
   refine wp_region_lit ?_
   refine lq T (rn_add rfl (T.ev 6 rfl) evc (by omega)) ?_; clear T ac; intro ac T
   refine l_q (v := (.int .i64 ((q : Int) + 1))) (T.pick [0, 1, 2, 3, 4, 5, 6] rfl) rfl rfl rfl rfl (rn_move rfl (T.ev 0 rfl)) ?_; clear T ac; intro ac T
   refine wpList_nil ?_
   replace T := T.pick [0, 2, 3, 4, 5, 6, 7] rfl
   refine nm_then ?_
   have e9 : ((shL b x y).take q).length + 1 = ((shL b x y).take (q + 1)).length := by rw [shL_take (by omega), List.length_append]; rfl
   have e8 : ((rc ((shL b x y).take q)) ++ [.int .i64 ((riseP x y (q : Int)).1), .int .i64 ((riseP x y (q : Int)).2)]) = rc ((shL b x y).take (q + 1)) := by rw [shL_take (by omega), ← rc_snoc]
   rw [e9, e8] at M
   clear e9 e8
   exact ⟨_, by omega, q + 1, _, _, [(ga1, .row 40 2 ((shL b x y).take (q + 1)).length (rc ((shL b x y).take (q + 1))) cga1)], rfl, (by omega), (by rw [List.length_take, shL_length]; omega), (Sl.row _ _ _ _ _ _), T.pick [1, 2, 3, 4, 5, 6, 0] rfl, M.perm [1, 2, 3, 0] rfl rfl⟩
  intro h1
  have e9 : (shL b x y).take q = shL b x y := List.take_of_length_le (by rw [shL_length]; omega)
  rw [e9] at hsl M
  refine wp_exit ?_
  refine ex_then ?_
  refine ex_then ?_
  refine ex_hit ?_
  refine nm_then ?_
  refine wp_seq ?_
  refine wp_region_lit ?_
  refine lq T (rn_rowO (Mem.nth M 0 rfl) rfl (T.ev 5 rfl) rfl) ?_; clear T ac; intro ac T
  refine l_w rfl ?_; intro K hK
  refine ow_stO M T rfl rfl (T.ev 5 rfl) (T.ev 0 rfl) rfl (.tail .head) rfl (by simp) rfl (by kernel_rfl) ?_; clear M T; intro wc ac M T
  refine sh_out hK _ _ ?_; clear hK K
  refine wpList_nil ?_
  replace T := T.pick [5] rfl
  replace M := M.mask [false, true, false] rfl
  refine nm_then ?_
  refine wp_ret ?_
  refine rt_c M T rfl (T.ev 0 rfl) (nthE_mem (i := 0) rfl) rfl ?_
  obtain ⟨b9, o9, h9⟩ := hsl.spV (rc_length _)
  exact ⟨A3, c3, Io, rfl, ⟨b9, o9, h9⟩, M.mask [false] rfl⟩
 intro H1
 refine g_have (fun ac wc => ∃ (gr1_7 : Nat), Tm ac 55 [(7, .pointer (some ⟨gr1_7, 0, none⟩)), (11, .agg #[.int .i64 0, .int .i64 0, .int .i64 b.t0, .int .i64 b.t1, .int .i64 b.r0, .int .i64 b.r1, .int .i64 b.u0, .int .i64 b.u1, .int .i64 b.d0, .int .i64 b.d1, .int .i64 b.a0, .int .i64 b.a1, .int .i64 b.b0, .int .i64 b.b1, .int .i64 b.le, .slice none 0 0, .int .i64 b.span, .int .i64 b.me]), (15, .int .i64 b.note), (14, .pointer (some ⟨g1, 4, none⟩)), (13, .agg #[.int .i64 b.first, .int .i64 b.step, .int .i64 b.span, .int .i64 b.press]), (12, .pointer (some ⟨g1, 0, none⟩)), (10, .agg #[.int .i64 b.first, .int .i64 b.step, .int .i64 b.span, .int .i64 b.press, .int .i64 b.note, .slice A b.lows.length c, .slice B b.highs.length d, .int .i64 b.t0, .int .i64 b.t1, .int .i64 b.r0, .int .i64 b.r1, .int .i64 b.u0, .int .i64 b.u1, .int .i64 b.d0, .int .i64 b.d1, .int .i64 b.a0, .int .i64 b.a1, .int .i64 b.b0, .int .i64 b.b1, .int .i64 b.le, .int .i64 b.me]), (6, .pointer (some ⟨g2, 0, none⟩)), (3, .pointer (some ⟨g1, 0, none⟩)), (1, .int .i64 i), (2, .int .i64 k)] ∧ Mem w noEx wc [(gr1_7, .cells [.int .i64 0, .int .i64 0, .int .i64 0, .int .i64 0, .int .i64 0, .int .i64 0, .int .i64 0, .int .i64 0, .int .i64 0, .int .i64 0, .int .i64 0, .int .i64 0, .int .i64 0, .int .i64 0, .int .i64 0, .slice none 0 0, .int .i64 0, .int .i64 0]), (g2, .cells [.int .i64 0, .int .i64 0, .int .i64 0, .int .i64 0, .int .i64 0, .int .i64 0, .int .i64 0, .int .i64 0, .int .i64 0, .int .i64 0, .int .i64 0, .int .i64 0, .int .i64 0, .int .i64 0, .int .i64 0, .slice none 0 0, .int .i64 0, .int .i64 0]), (g1, .cells [.int .i64 b.first, .int .i64 b.step, .int .i64 b.span, .int .i64 b.press, .int .i64 b.note, .slice A b.lows.length c, .slice B b.highs.length d, .int .i64 b.t0, .int .i64 b.t1, .int .i64 b.r0, .int .i64 b.r1, .int .i64 b.u0, .int .i64 b.u1, .int .i64 b.d0, .int .i64 b.d1, .int .i64 b.a0, .int .i64 b.a1, .int .i64 b.b0, .int .i64 b.b1, .int .i64 b.le, .int .i64 b.me])]) (pbits 10 191) 3 ?_ ?_
 ·clear T M
  rintro ac wc ⟨gr1_7, T, M⟩
  refine gw 6 255 ?_; intro K hK
  refine ow_call (first := []) (cap := []) T rfl rfl rfl rfl evf (.cons (T.ev 4 rfl) (.cons (T.ev 2 rfl) .nil)) Try.func56 rfl rfl ?_
  refine Calls.mono (vdue_any b.law b.note _ (by (try dsimp only); omega) (by (try dsimp only); omega) (by (try dsimp only); omega)) ?_
  clear T
  rintro e wc ⟨rfl, hb⟩
  intro ac T
  replace M := M.call hb; clear hb
  refine sh_out hK _ _ (M.mask [false, true, true] rfl) ?_; clear hK K
  exact H1 _ _ ⟨gr1_7, T.pick [1, 0, 2, 3, 4, 5, 6, 7, 8, 9, 10, 11] rfl, M⟩
 intro H0
 refine gq T 0 1 rfl (fun B w' hD hl hS => (rn_rowO (Mem.nth (show Mem w noEx w' _ from hS) 1 rfl) rfl (T.ev 1 rfl) rfl)) ?_; clear T ac; intro ac T
 refine gq (v := (.pointer (some ⟨g1, 0, none⟩))) T 2 5 rfl (fun _ _ _ _ _ => (rn_fieldAddr (off := 0) rfl (T.ev 2 rfl) (fun _ _ _ => by kernel_rfl))) ?_; clear T ac; intro ac T
 refine gq T 3 13 rfl (fun B w' hD hl hS => (rn_rowO (Mem.nth (show Mem w noEx w' _ from hS) 1 rfl) rfl (T.ev 0 rfl) rfl)) ?_; clear T ac; intro ac T
 refine gq (v := (.pointer (some ⟨g1, 4, none⟩))) T 4 29 rfl (fun _ _ _ _ _ => (rn_fieldAddr (off := 4) rfl (T.ev 4 rfl) (fun _ _ _ => by kernel_rfl))) ?_; clear T ac; intro ac T
 refine gq T 5 61 rfl (fun B w' hD hl hS => (rn_one (Mem.nth (show Mem w noEx w' _ from hS) 1 rfl) rfl (T.ev 0 rfl) rfl)) ?_; clear T ac; intro ac T
 refine g_m2 (i := 1) (j := 7) (by kernel_rfl) ?_ ?_
 ·refine gi 63 ?_; intro K hK
  refine ow_call (first := []) (cap := []) T rfl rfl rfl rfl evf (.cons (T.ev 4 rfl) .nil) Try.func99 rfl rfl ?_
  refine Calls.mono (blank_any b A c B d _) ?_
  clear T
  rintro e wc ⟨rfl, hb⟩
  intro ac T
  replace M := M.call hb; clear hb
  refine sh_out hK _ _ (M.mask [true, true] rfl) ?_; clear hK K
  refine g_m2 (i := 6) (j := 7) (by kernel_rfl) ?_ ?_
  ·refine gi 127 ?_; intro K hK
   refine ow_call (first := []) (cap := []) T rfl rfl rfl rfl evf (.cons (T.ev 3 rfl) (.cons (T.ev 1 rfl) .nil)) Try.func56 rfl rfl ?_
   refine Calls.mono (vdue_any b.law b.note _ (by (try dsimp only); omega) (by (try dsimp only); omega) (by (try dsimp only); omega)) ?_
   clear T
   rintro e wc ⟨rfl, hb⟩
   intro ac T
   replace M := M.call hb; clear hb
   refine sh_out hK _ _ (M.mask [true, true] rfl) ?_; clear hK K
   refine gw 7 255 ?_; intro K hK
   refine ow_al M T rfl rfl rfl rfl ?_; clear M T; intro gr1_7 wc ac M T
   refine sh_out hK _ _ (M.mask [false, true, true] rfl) ?_; clear hK K
   exact H1 _ _ ⟨gr1_7, T, M⟩
  refine gi 191 ?_; intro K hK
  refine ow_al M T rfl rfl rfl rfl ?_; clear M T; intro gr1_7 wc ac M T
  refine sh_out hK _ _ (M.mask [false, true, true] rfl) ?_; clear hK K
  exact H0 _ _ ⟨gr1_7, T, M⟩
 refine gi 189 ?_; intro K hK
 refine ow_al M T rfl rfl rfl rfl ?_; clear M T; intro gr1_7 wc ac M T
 refine sh_out hK _ _ (M.mask [false, true, true] rfl) ?_; clear hK K
 refine gw 1 191 ?_; intro K hK
 refine ow_call (first := []) (cap := []) T rfl rfl rfl rfl evf (.cons (T.ev 5 rfl) .nil) Try.func99 rfl rfl ?_
 refine Calls.mono (blank_any b A c B d _) ?_
 clear T
 rintro e wc ⟨rfl, hb⟩
 intro ac T
 replace M := M.call hb; clear hb
 refine sh_out hK _ _ (M.mask [false, true, true] rfl) ?_; clear hK K
 exact H0 _ _ ⟨gr1_7, T.pick [1, 0, 2, 3, 4, 5, 6, 7, 8, 9, 10] rfl, M⟩
set_option maxRecDepth 100000 in
set_option maxHeartbeats 1000000 in
theorem Job_any (b : Bx) (A : Option Addr) (c : Nat) (B : Option Addr) (d : Nat) (i k : Int) (w : World) (hA : Rd w w.heap.size 4 A b.lows.length (sc b.lows)) (hB : Rd w w.heap.size 4 B b.highs.length (sc b.highs)) (nA : b.lows.length ≤ 1000000) (nB : b.highs.length ≤ 1000000)  :
   Calls Try.prog 47 #[bxV b A c B d, .int .i64 i, .int .i64 k] w (JEPost (jobE b i k) (checkPB b i k) w) := by
 have hlA := hA.len4
 have hlB := hB.len4
 obtain ⟨bA, oA, SA⟩ := Sp.old hA
 obtain ⟨bB, oB, SB⟩ := Sp.old hB
 refine px_enter noEx Try.func47 rfl 21 rfl [.agg #[.int .i64 b.first, .int .i64 b.step, .int .i64 b.span, .int .i64 b.press, .int .i64 b.note, .slice A b.lows.length c, .slice B b.highs.length d, .int .i64 b.t0, .int .i64 b.t1, .int .i64 b.r0, .int .i64 b.r1, .int .i64 b.u0, .int .i64 b.u1, .int .i64 b.d0, .int .i64 b.d1, .int .i64 b.a0, .int .i64 b.a1, .int .i64 b.b0, .int .i64 b.b1, .int .i64 b.le, .int .i64 b.me], .int .i64 i, .int .i64 k] rfl rfl (Mem.init w _) ?_
 intro ac wc T M
 refine wp_seq ?_
 refine wp_region_lit ?_
 refine l_w rfl ?_; intro K hK
 refine ow_bx M T rfl rfl rfl rfl (T.ev 0 rfl) rfl ?_; clear M T; intro g1 wc ac M T
 refine sh_out hK _ _ ?_; clear hK K
 refine l_w rfl ?_; intro K hK
 refine ow_al M T rfl rfl rfl rfl ?_; clear M T; intro g2 wc ac M T
 refine sh_out hK _ _ ?_; clear hK K
 refine lq T (rn_assign rfl evc) ?_; clear T ac; intro ac T
 refine wpList_nil ?_
 replace T := T.pick [1, 2, 4, 5] rfl
 refine nm_then ?_
 refine wp_seq ?_
 refine wp_seq ?_
 refine wp_region_lit ?_
 refine lq T (rn_rowO (Mem.nth M 1 rfl) rfl (T.ev 1 rfl) rfl) ?_; clear T ac; intro ac T
 refine lq T (rn_move rfl (T.ev 3 rfl)) ?_; clear T ac; intro ac T
 refine lq T (rn_move rfl (T.ev 5 rfl)) ?_; clear T ac; intro ac T
 refine l_w rfl ?_; intro K hK
 refine ow_call (first := []) (cap := []) T rfl rfl rfl rfl evf (.cons (T.ev 2 rfl) (.cons (T.ev 1 rfl) (.cons (T.ev 0 rfl) .nil))) Try.func65 rfl rfl ?_
 refine Calls.mono (vcheckPair_any b _ _ _ _ i k _ (SA.rd M (List.nil_sublist _)) (SB.rd M (List.nil_sublist _)) (by omega) (by omega)) ?_
 clear T
 rintro e wc ⟨rfl, hb⟩
 intro ac T
 replace M := M.call hb; clear hb
 refine sh_out hK _ _ ?_; clear hK K
 refine lq T (rn_assign rfl (T.ev 0 rfl)) ?_; clear T ac; intro ac T
 refine wpList_nil ?_
 replace T := T.pick [0, 5, 6, 7, 8] rfl
 refine nm_then ?_
 refine wp_seq ?_
 refine wp_region_lit ?_
 refine lq T (rn_move rfl (T.ev 0 rfl)) ?_; clear T ac; intro ac T
 refine lq T (rn_neq rfl (T.ev 0 rfl) evc) ?_; clear T ac; intro ac T
 refine wpList_nil ?_
 replace T := T.pick [0, 2, 3, 4, 5, 6] rfl
 refine nm_then ?_
 refine wp_ifn (T.ev 0 rfl) ?_ ?_
 ·intro h1
  refine wp_seq ?_
  refine wp_region_lit ?_
  refine lq (v := (.agg #[.int .i64 0, .int .i64 0, .int .i64 0, .int .i64 0, .int .i64 0, .int .i64 0, .int .i64 0, .int .i64 0, .int .i64 0, .int .i64 0, .int .i64 0, .int .i64 0, .int .i64 0, .int .i64 0, .int .i64 0, .slice none 0 0, .int .i64 0, .int .i64 0])) T (rn_build rfl .nil (fun _ => by kernel_rfl)) ?_; clear T ac; intro ac T
  refine lq T (rn_move rfl (T.ev 2 rfl)) ?_; clear T ac; intro ac T
  refine l_w rfl ?_; intro K hK
  refine ow_stO M T rfl rfl (T.ev 4 rfl) (T.ev 1 rfl) rfl .head rfl (by simp) rfl (by kernel_rfl) ?_; clear M T; intro wc ac M T
  refine sh_out hK _ _ ?_; clear hK K
  refine lq T (rn_assign rfl (T.ev 0 rfl)) ?_; clear T ac; intro ac T
  refine wpList_nil ?_
  replace T := T.pick [0, 5] rfl
  replace M := M.mask [true, false] rfl
  refine nm_then ?_
  refine wp_ret ?_
  refine rt_then ?_
  refine rt_ct M T rfl (T.ev 1 rfl) (T.ev 0 rfl) (nthE_mem (i := 0) rfl) rfl ?_
  have e9 : jobE b i k = zeroJ := by unfold jobE; rw [if_neg (by assumption)]
  rw [e9]
  exact ⟨none, 0, [], rfl, ⟨0, 0, fun _ _ => Sp.nil⟩, M.mask [false] rfl⟩
 intro h1
 obtain ⟨gb, ⟨i0, i1⟩, k0, k1⟩ := checkPB_good (b := b) (i := i) (k := k) (by simpa using h1)
 obtain ⟨il, hil⟩ : ∃ q : Nat, i = (q : Int) := ⟨i.toNat, by omega⟩
 obtain ⟨kl, hkl⟩ : ∃ q : Nat, k = (q : Int) := ⟨k.toNat, by omega⟩
 obtain ⟨x, hx9⟩ : ∃ q, q = b.low i := ⟨_, rfl⟩
 obtain ⟨y, hy9⟩ : ∃ q, q = b.high k := ⟨_, rfl⟩
 have hkx : b.lows[il]? = some x := by rw [hx9, ← Bx.low_get ⟨i0, i1⟩, hil]; rfl
 have hky : b.highs[kl]? = some y := by rw [hy9, ← Bx.high_get ⟨k0, k1⟩, hkl]; rfl
 refine wp_skip ?_
 refine nm_then ?_
 refine wp_seq ?_
 refine wp_region_lit ?_
 refine lq T (rn_rowO (Mem.nth M 1 rfl) rfl (T.ev 3 rfl) rfl) ?_; clear T ac; intro ac T
 refine lq T (rn_move rfl (T.ev 5 rfl)) ?_; clear T ac; intro ac T
 refine lq T (rn_move rfl (T.ev 7 rfl)) ?_; clear T ac; intro ac T
 refine l_w rfl ?_; intro K hK
 refine ow_call (first := []) (cap := []) T rfl rfl rfl rfl evf (.cons (T.ev 2 rfl) (.cons (T.ev 1 rfl) (.cons (T.ev 0 rfl) .nil))) Try.func83 rfl rfl ?_
 refine Calls.mono (vjob_any b A c B d i k il kl x y _ (SA.rd M (List.nil_sublist _)) (SB.rd M (List.nil_sublist _)) gb hil hkl hkx hky) ?_
 clear T
 rintro e wc ⟨Au2, cu2, Iu2, rfl, SVu2, N⟩
 intro ac T
 obtain ⟨bu2, ou2, SVu2⟩ := SVu2
 obtain ⟨jqu2, hjqu2⟩ : ∃ q, q = jobP b x y := ⟨_, rfl⟩
 rw [← hjqu2] at SVu2
 have Su2 := SVu2 w noEx
 have nqu2 : jqu2.sh.length ≤ 4 := by rw [hjqu2]; show (shL b x y).length ≤ 4; rw [shL_length]; have := gb.law.press; dsimp only at this; omega
 replace M := (M.join N).swapI
 replace M : Mem w noEx wc ((g2, .cells [.int .i64 0, .int .i64 0, .int .i64 0, .int .i64 0, .int .i64 0, .int .i64 0, .int .i64 0, .int .i64 0, .int .i64 0, .int .i64 0, .int .i64 0, .int .i64 0, .int .i64 0, .int .i64 0, .int .i64 0, .slice none 0 0, .int .i64 0, .int .i64 0]) :: (g1, .cells [.int .i64 b.first, .int .i64 b.step, .int .i64 b.span, .int .i64 b.press, .int .i64 b.note, .slice A b.lows.length c, .slice B b.highs.length d, .int .i64 b.t0, .int .i64 b.t1, .int .i64 b.r0, .int .i64 b.r1, .int .i64 b.u0, .int .i64 b.u1, .int .i64 b.d0, .int .i64 b.d1, .int .i64 b.a0, .int .i64 b.a1, .int .i64 b.b0, .int .i64 b.b1, .int .i64 b.le, .int .i64 b.me]) :: Iu2) := M
 clear N
 rw [← hjqu2] at T
 refine sh_out hK _ _ ?_; clear hK K
 refine l_w rfl ?_; intro K hK
 refine ow_stO M T rfl rfl (T.ev 6 rfl) (T.ev 0 rfl) rfl .head rfl (by simp) rfl (by kernel_rfl) ?_; clear M T; intro wc ac M T
 refine sh_out hK _ _ ?_; clear hK K
 refine lq T (rn_assign rfl evc) ?_; clear T ac; intro ac T
 refine wpList_nil ?_
 replace T := T.pick [0, 7] rfl
 replace M := M.mask [true, false] rfl
 refine nm_then ?_
 refine wp_ret ?_
 refine rt_ct M T rfl (T.ev 1 rfl) (T.ev 0 rfl) (nthE_mem (i := 0) rfl) rfl ?_
 have e9 : jobE b i k = jqu2 := by unfold jobE; rw [if_pos (by simpa using h1), ← hx9, ← hy9]; exact hjqu2.symm
 rw [e9, show checkPB b i k = 0 by simpa using h1]
 exact ⟨Au2, cu2, Iu2, rfl, ⟨_, _, SVu2⟩, M.mask [false] rfl⟩
set_option maxRecDepth 100000 in
set_option maxHeartbeats 1000000 in
theorem VStrokes_any (b : Bx) (A : Option Addr) (c : Nat) (B : Option Addr) (d : Nat) (i k : Int) (w : World) (hA : Rd w w.heap.size 4 A b.lows.length (sc b.lows)) (hB : Rd w w.heap.size 4 B b.highs.length (sc b.highs)) (nA : b.lows.length ≤ 1000000) (nB : b.highs.length ≤ 1000000)  :
   Calls Try.prog 60 #[bxV b A c B d, .int .i64 i, .int .i64 k] w fun e w' => e = .returned (.tuple #[.int .i64 ((strokesE b i k).1), .int .i64 ((strokesE b i k).2)]) ∧ Below w.heap.size w w' := by
 have hlA := hA.len4
 have hlB := hB.len4
 obtain ⟨bA, oA, SA⟩ := Sp.old hA
 obtain ⟨bB, oB, SB⟩ := Sp.old hB
 refine px_enter noEx Try.func60 rfl 23 rfl [.agg #[.int .i64 b.first, .int .i64 b.step, .int .i64 b.span, .int .i64 b.press, .int .i64 b.note, .slice A b.lows.length c, .slice B b.highs.length d, .int .i64 b.t0, .int .i64 b.t1, .int .i64 b.r0, .int .i64 b.r1, .int .i64 b.u0, .int .i64 b.u1, .int .i64 b.d0, .int .i64 b.d1, .int .i64 b.a0, .int .i64 b.a1, .int .i64 b.b0, .int .i64 b.b1, .int .i64 b.le, .int .i64 b.me], .int .i64 i, .int .i64 k] rfl rfl (Mem.init w _) ?_
 intro ac wc T M
 refine wp_seq ?_
 refine wp_region_lit ?_
 refine l_w rfl ?_; intro K hK
 refine ow_bx M T rfl rfl rfl rfl (T.ev 0 rfl) rfl ?_; clear M T; intro g1 wc ac M T
 refine sh_out hK _ _ ?_; clear hK K
 refine lq T (rn_assign rfl evc) ?_; clear T ac; intro ac T
 refine lq T (rn_assign rfl evc) ?_; clear T ac; intro ac T
 refine wpList_nil ?_
 replace T := T.pick [2, 4, 5] rfl
 refine nm_then ?_
 refine wp_seq ?_
 refine wp_seq ?_
 refine wp_region_lit ?_
 refine lq T (rn_rowO (Mem.nth M 0 rfl) rfl (T.ev 0 rfl) rfl) ?_; clear T ac; intro ac T
 refine lq T (rn_move rfl (T.ev 2 rfl)) ?_; clear T ac; intro ac T
 refine lq T (rn_move rfl (T.ev 4 rfl)) ?_; clear T ac; intro ac T
 refine l_w rfl ?_; intro K hK
 refine ow_call (first := []) (cap := []) T rfl rfl rfl rfl evf (.cons (T.ev 2 rfl) (.cons (T.ev 1 rfl) (.cons (T.ev 0 rfl) .nil))) Try.func65 rfl rfl ?_
 refine Calls.mono (vcheckPair_any b _ _ _ _ i k _ (SA.rd M (List.nil_sublist _)) (SB.rd M (List.nil_sublist _)) (by omega) (by omega)) ?_
 clear T
 rintro e wc ⟨rfl, hb⟩
 intro ac T
 replace M := M.call hb; clear hb
 refine sh_out hK _ _ ?_; clear hK K
 refine lq T (rn_assign rfl (T.ev 0 rfl)) ?_; clear T ac; intro ac T
 refine wpList_nil ?_
 replace T := T.pick [0, 5, 6, 7] rfl
 refine nm_then ?_
 refine wp_seq ?_
 refine wp_region_lit ?_
 refine lq T (rn_move rfl (T.ev 0 rfl)) ?_; clear T ac; intro ac T
 refine lq T (rn_neq rfl (T.ev 0 rfl) evc) ?_; clear T ac; intro ac T
 refine wpList_nil ?_
 replace T := T.pick [0, 2, 3, 4, 5] rfl
 refine nm_then ?_
 refine wp_ifn (T.ev 0 rfl) ?_ ?_
 ·intro h1
  refine wp_seq ?_
  refine wp_region_lit ?_
  refine lq T (rn_move rfl (T.ev 1 rfl)) ?_; clear T ac; intro ac T
  refine lq T (rn_assign rfl evc) ?_; clear T ac; intro ac T
  refine lq T (rn_assign rfl (T.ev 1 rfl)) ?_; clear T ac; intro ac T
  refine wpList_nil ?_
  replace T := T.pick [0, 1] rfl
  replace M := M.mask [false] rfl
  refine nm_then ?_
  refine wp_ret ?_
  refine rt_then ?_
  refine rt_2 T rfl (T.ev 1 rfl) (T.ev 0 rfl) ?_
  have e9 : strokesE b i k = (0, checkPB b i k) := by unfold strokesE; rw [if_neg (by assumption)]
  rw [e9]
  exact ⟨rfl, M.below⟩
 intro h1
 obtain ⟨gb, ⟨i0, i1⟩, k0, k1⟩ := checkPB_good (b := b) (i := i) (k := k) (by simpa using h1)
 obtain ⟨il, hil⟩ : ∃ q : Nat, i = (q : Int) := ⟨i.toNat, by omega⟩
 obtain ⟨kl, hkl⟩ : ∃ q : Nat, k = (q : Int) := ⟨k.toNat, by omega⟩
 obtain ⟨x, hx9⟩ : ∃ q, q = b.low i := ⟨_, rfl⟩
 obtain ⟨y, hy9⟩ : ∃ q, q = b.high k := ⟨_, rfl⟩
 have hkx : b.lows[il]? = some x := by rw [hx9, ← Bx.low_get ⟨i0, i1⟩, hil]; rfl
 have hky : b.highs[kl]? = some y := by rw [hy9, ← Bx.high_get ⟨k0, k1⟩, hkl]; rfl
 refine wp_skip ?_
 refine nm_then ?_
 refine wp_seq ?_
 refine wp_region_lit ?_
 refine lq T (rn_rowO (Mem.nth M 0 rfl) rfl (T.ev 2 rfl) rfl) ?_; clear T ac; intro ac T
 refine lq T (rn_move rfl (T.ev 4 rfl)) ?_; clear T ac; intro ac T
 refine lq T (rn_move rfl (T.ev 6 rfl)) ?_; clear T ac; intro ac T
 refine l_w rfl ?_; intro K hK
 refine ow_call (first := []) (cap := []) T rfl rfl rfl rfl evf (.cons (T.ev 2 rfl) (.cons (T.ev 1 rfl) (.cons (T.ev 0 rfl) .nil))) Try.func83 rfl rfl ?_
 refine Calls.mono (vjob_any b A c B d i k il kl x y _ (SA.rd M (List.nil_sublist _)) (SB.rd M (List.nil_sublist _)) gb hil hkl hkx hky) ?_
 clear T
 rintro e wc ⟨Au2, cu2, Iu2, rfl, SVu2, N⟩
 intro ac T
 obtain ⟨bu2, ou2, SVu2⟩ := SVu2
 obtain ⟨jqu2, hjqu2⟩ : ∃ q, q = jobP b x y := ⟨_, rfl⟩
 rw [← hjqu2] at SVu2
 have Su2 := SVu2 w noEx
 have nqu2 : jqu2.sh.length ≤ 4 := by rw [hjqu2]; show (shL b x y).length ≤ 4; rw [shL_length]; have := gb.law.press; dsimp only at this; omega
 replace M := (M.join N).swapI
 replace M : Mem w noEx wc ((g1, .cells [.int .i64 b.first, .int .i64 b.step, .int .i64 b.span, .int .i64 b.press, .int .i64 b.note, .slice A b.lows.length c, .slice B b.highs.length d, .int .i64 b.t0, .int .i64 b.t1, .int .i64 b.r0, .int .i64 b.r1, .int .i64 b.u0, .int .i64 b.u1, .int .i64 b.d0, .int .i64 b.d1, .int .i64 b.a0, .int .i64 b.a1, .int .i64 b.b0, .int .i64 b.b1, .int .i64 b.le, .int .i64 b.me]) :: Iu2) := M
 clear N
 rw [← hjqu2] at T
 refine sh_out hK _ _ ?_; clear hK K
 refine l_w rfl ?_; intro K hK
 refine ow_call (first := []) (cap := []) T rfl rfl rfl rfl evf (.cons (T.ev 0 rfl) .nil) Try.func94 rfl rfl ?_
 refine Calls.mono (Guided_any jqu2 _ _ _ (Su2.rd M (.cons _ (List.Sublist.refl _))) (by omega)) ?_
 clear T
 rintro e wc ⟨rfl, hb⟩
 intro ac T
 replace M := M.call hb; clear hb
 refine sh_out hK _ _ ?_; clear hK K
 refine lq T (rn_extract rfl (T.ev 0 rfl) rfl) ?_; clear T ac; intro ac T
 refine lq T (rn_extract rfl (T.ev 1 rfl) rfl) ?_; clear T ac; intro ac T
 refine lq T (rn_assign rfl (T.ev 1 rfl)) ?_; clear T ac; intro ac T
 refine lq T (rn_assign rfl (T.ev 1 rfl)) ?_; clear T ac; intro ac T
 refine wpList_nil ?_
 replace T := T.pick [0, 1] rfl
 replace M := M.mask [false] rfl
 refine nm_then ?_
 refine wp_ret ?_
 refine rt_2 T rfl (T.ev 1 rfl) (T.ev 0 rfl) ?_
 have e9 : strokesE b i k = guidedJ jqu2 := by unfold strokesE; rw [if_pos (by simpa using h1), ← hx9, ← hy9]; rw [hjqu2]
 rw [e9]
 exact ⟨rfl, M.below⟩
end Go.Proofs.Ytlahdenlmmlplaa
end

section
/-
 law05: the chapter's examples.
-/
namespace Go.Proofs.Ytlahdenlmmlplaa
set_option linter.unusedSimpArgs false
set_option linter.unusedVariables false
open Go.RowKit
def lawX : Lw := ⟨20, -2, 4, 2⟩
def lowsX : List Snd := [⟨-1, 1, 0, 0⟩, ⟨5, 5, 1, 1⟩]
def boxX (hs : List Snd) : Bx := { first := 20, step := -2, span := 4, press := 2, note := 3, lows := lowsX, highs := hs, t0 := 30, t1 := 32, r0 := 40, r1 := 41, u0 := 3, u1 := 4, d0 := 2, d1 := 3, a0 := 1, a1 := 2, b0 := 1, b1 := 1, le := 20, me := 1 }
def fullH : List Snd := [⟨14, 15, 0, 1⟩, ⟨20, 20, 0, 0⟩, ⟨30, 30, 0, 0⟩]
def lessH : List Snd := [⟨14, 15, 0, 1⟩, ⟨30, 30, 0, 0⟩]
def fullX : Bx := boxX fullH
def lessX : Bx := boxX lessH
def rowsX : List (List Snd) := [[⟨-1, 1, 0, 0⟩, ⟨0, 0, 0, 0⟩], [⟨20, 20, 0, 0⟩, ⟨13, 15, 0, 0⟩], [⟨30, 30, 0, 0⟩, ⟨30, 30, 0, 0⟩]]
def BoxPost (b : Bx) (w : World) (e : Ending) (w' : World) : Prop := ∃ A c B d I, e = .returned (bxV b A c B d) ∧ (∃ b1 o1, ∀ (w : World) (ex : Nat → Prop), Sp w ex I A b.lows.length 4 b1 o1 (sc b.lows)) ∧ (∃ b1 o1, ∀ (w : World) (ex : Nat → Prop), Sp w ex I B b.highs.length 4 b1 o1 (sc b.highs)) ∧ Mem w noEx w' I
theorem sameInts_eq (A B : Option Addr) (n m c d : Nat) (l : List Int) (w : World) (ha : Rd w w.heap.size 1 A n (ic l)) (hb : Rd w w.heap.size 1 B m (ic l)) (hn : n ≤ 9223372036854775807) (hm : m ≤ 9223372036854775807) :
   Calls Try.prog 35 #[.slice A n c, .slice B m d] w fun e w' => e = .returned (.bool true) ∧ Below w.heap.size w w' := by
 have := sameInts_any A B n m c d l l w ha hb hn hm
 simpa using this
set_option maxRecDepth 100000 in
theorem x_beat : beatE fullX 1 0 = [(9, 10), (8, 10), (7, 10)] ∧ checkPB fullX 1 0 = 0 := by decide +kernel
set_option maxRecDepth 100000 in
theorem x_match : matchE lessX = ([0, -1], 0) := by decide +kernel
set_option maxRecDepth 100000 in
theorem x_strokes : strokesE fullX 0 1 = (2, 0) := by decide +kernel
set_option maxRecDepth 100000 in
theorem x_trem : tremE lawX rowsX [0, 1] = ([1, 3], 0) := by decide +kernel
set_option maxRecDepth 100000 in
theorem x_short : shortE lessX = ([1], 0) := by decide +kernel
set_option maxRecDepth 100000 in
set_option maxHeartbeats 1000000 in
theorem to5_any (p0 p1 : Int) (w : World)  :
   Calls Try.prog 24 #[.int .i64 p0, .int .i64 p1] w fun e w' => e = .returned (.agg #[.int .i64 p0, .int .i64 p1]) ∧ Below w.heap.size w w' := by
 refine px_enter noEx Try.func24 rfl 8 rfl [.int .i64 p0, .int .i64 p1] rfl rfl (Mem.init w _) ?_
 intro ac wc T M
 refine wp_seq ?_
 refine wp_region_lit ?_
 refine l_w rfl ?_; intro K hK
 refine ow_al M T rfl rfl rfl rfl ?_; clear M T; intro g1 wc ac M T
 refine sh_out hK _ _ ?_; clear hK K
 refine wpList_nil ?_
 refine nm_then ?_
 refine wp_seq ?_
 refine wp_region_lit ?_
 refine lq T (rn_move rfl (T.ev 1 rfl)) ?_; clear T ac; intro ac T
 refine lq T (rn_move rfl (T.ev 3 rfl)) ?_; clear T ac; intro ac T
 refine lq (v := (.agg #[.int .i64 p0, .int .i64 p1])) T (rn_build rfl (.cons (T.ev 1 rfl) (.cons (T.ev 0 rfl) .nil)) (fun _ => by kernel_rfl)) ?_; clear T ac; intro ac T
 refine l_w rfl ?_; intro K hK
 refine ow_stO M T rfl rfl (T.ev 3 rfl) (T.ev 0 rfl) rfl .head rfl (by simp) rfl (by kernel_rfl) ?_; clear M T; intro wc ac M T
 refine sh_out hK _ _ ?_; clear hK K
 refine wpList_nil ?_
 replace T := T.pick [3] rfl
 refine nm_then ?_
 refine wp_ret ?_
 refine rt_c M T rfl (T.ev 0 rfl) (nthE_mem (i := 0) rfl) rfl ?_
 exact ⟨rfl, M.below⟩
set_option maxRecDepth 100000 in
set_option maxHeartbeats 1000000 in
theorem sound5_any (p0 p1 q0 q1 : Int) (w : World)  :
   Calls Try.prog 36 #[.agg #[.int .i64 p0, .int .i64 p1], .agg #[.int .i64 q0, .int .i64 q1]] w fun e w' => e = .returned (.agg #[.int .i64 p0, .int .i64 p1, .int .i64 q0, .int .i64 q1]) ∧ Below w.heap.size w w' := by
 refine px_enter noEx Try.func36 rfl 8 rfl [.agg #[.int .i64 p0, .int .i64 p1], .agg #[.int .i64 q0, .int .i64 q1]] rfl rfl (Mem.init w _) ?_
 intro ac wc T M
 refine wp_seq ?_
 refine wp_region_lit ?_
 refine l_w rfl ?_; intro K hK
 refine ow_bx M T rfl rfl rfl rfl (T.ev 0 rfl) rfl ?_; clear M T; intro g1 wc ac M T
 refine sh_out hK _ _ ?_; clear hK K
 refine l_w rfl ?_; intro K hK
 refine ow_bx M T rfl rfl rfl rfl (T.ev 2 rfl) rfl ?_; clear M T; intro g2 wc ac M T
 refine sh_out hK _ _ ?_; clear hK K
 refine l_w rfl ?_; intro K hK
 refine ow_al M T rfl rfl rfl rfl ?_; clear M T; intro g3 wc ac M T
 refine sh_out hK _ _ ?_; clear hK K
 refine wpList_nil ?_
 replace T := T.pick [0, 1, 2] rfl
 refine nm_then ?_
 refine wp_seq ?_
 refine wp_region_lit ?_
 refine lq T (rn_rowO (Mem.nth M 2 rfl) rfl (T.ev 2 rfl) rfl) ?_; clear T ac; intro ac T
 refine lq T (rn_rowO (Mem.nth M 1 rfl) rfl (T.ev 2 rfl) rfl) ?_; clear T ac; intro ac T
 refine lq (v := (.agg #[.int .i64 p0, .int .i64 p1, .int .i64 q0, .int .i64 q1])) T (rn_build rfl (.cons (T.ev 1 rfl) (.cons (T.ev 0 rfl) .nil)) (fun _ => by kernel_rfl)) ?_; clear T ac; intro ac T
 refine l_w rfl ?_; intro K hK
 refine ow_stO M T rfl rfl (T.ev 3 rfl) (T.ev 0 rfl) rfl .head rfl (by simp) rfl (by kernel_rfl) ?_; clear M T; intro wc ac M T
 refine sh_out hK _ _ ?_; clear hK K
 refine wpList_nil ?_
 replace T := T.pick [3] rfl
 replace M := M.mask [true, false, false] rfl
 refine nm_then ?_
 refine wp_ret ?_
 refine rt_c M T rfl (T.ev 0 rfl) (nthE_mem (i := 0) rfl) rfl ?_
 exact ⟨rfl, M.below⟩
set_option maxRecDepth 100000 in
set_option maxHeartbeats 1000000 in
theorem law5_any  (w : World)  :
   Calls Try.prog 95 #[] w fun e w' => e = .returned (.agg #[.int .i64 20, .int .i64 (-2), .int .i64 4, .int .i64 2]) ∧ Below w.heap.size w w' := by
 refine px_enter noEx Try.func95 rfl 2 rfl [] rfl rfl (Mem.init w _) ?_
 intro ac wc T M
 refine wp_seq ?_
 refine wp_region_lit ?_
 refine l_w rfl ?_; intro K hK
 refine ow_al M T rfl rfl rfl rfl ?_; clear M T; intro g1 wc ac M T
 refine sh_out hK _ _ ?_; clear hK K
 refine wpList_nil ?_
 refine nm_then ?_
 refine wp_seq ?_
 refine wp_region_lit ?_
 refine lq (v := (.agg #[.int .i64 20, .int .i64 (-2), .int .i64 4, .int .i64 2])) T (rn_build rfl (.cons evc (.cons evc (.cons evc (.cons evc .nil)))) (fun _ => by kernel_rfl)) ?_; clear T ac; intro ac T
 refine l_w rfl ?_; intro K hK
 refine ow_stO M T rfl rfl (T.ev 1 rfl) (T.ev 0 rfl) rfl .head rfl (by simp) rfl (by kernel_rfl) ?_; clear M T; intro wc ac M T
 refine sh_out hK _ _ ?_; clear hK K
 refine wpList_nil ?_
 replace T := T.pick [1] rfl
 refine nm_then ?_
 refine wp_ret ?_
 refine rt_c M T rfl (T.ev 0 rfl) (nthE_mem (i := 0) rfl) rfl ?_
 exact ⟨rfl, M.below⟩
def Box1Post (hs : List Snd) (H : Option Addr) (d : Nat) (w : World) (e : Ending) (w' : World) : Prop := ∃ g, e = .returned (bxV (boxX hs) (some ⟨g, 0, none⟩) 2 H d) ∧ Mem w noEx w' [(g, .cells (sc lowsX))]
set_option maxRecDepth 100000 in
set_option maxHeartbeats 1000000 in
theorem box5_any (H : Option Addr) (d : Nat) (hs : List Snd) (w : World)  :
   Calls Try.prog 93 #[.slice H hs.length d] w (Box1Post hs H d w) := by
 refine px_enter noEx Try.func93 rfl 20 rfl [.slice H hs.length d] rfl rfl (Mem.init w _) ?_
 intro ac wc T M
 refine wp_seq ?_
 refine wp_region_lit ?_
 refine l_w rfl ?_; intro K hK
 refine ow_al M T rfl rfl rfl rfl ?_; clear M T; intro g1 wc ac M T
 refine sh_out hK _ _ ?_; clear hK K
 refine wpList_nil ?_
 refine nm_then ?_
 refine wp_seq ?_
 refine wp_region_lit ?_
 refine l_w rfl ?_; intro K hK
 refine ow_call (first := []) (cap := []) T rfl rfl rfl rfl evf .nil Try.func95 rfl rfl ?_
 refine Calls.mono (law5_any _) ?_
 clear T
 rintro e wc ⟨rfl, hb⟩
 intro ac T
 replace M := M.call hb; clear hb
 refine sh_out hK _ _ ?_; clear hK K
 refine l_w rfl ?_; intro K hK
 refine ow_call (first := []) (cap := []) T rfl rfl rfl rfl evf (.cons evc (.cons evc .nil)) Try.func24 rfl rfl ?_
 refine Calls.mono (to5_any (-1) 1 _) ?_
 clear T
 rintro e wc ⟨rfl, hb⟩
 intro ac T
 replace M := M.call hb; clear hb
 refine sh_out hK _ _ ?_; clear hK K
 refine l_w rfl ?_; intro K hK
 refine ow_call (first := []) (cap := []) T rfl rfl rfl rfl evf (.cons evc (.cons evc .nil)) Try.func24 rfl rfl ?_
 refine Calls.mono (to5_any 0 0 _) ?_
 clear T
 rintro e wc ⟨rfl, hb⟩
 intro ac T
 replace M := M.call hb; clear hb
 refine sh_out hK _ _ ?_; clear hK K
 refine l_w rfl ?_; intro K hK
 refine ow_call (first := []) (cap := []) T rfl rfl rfl rfl evf (.cons (T.ev 1 rfl) (.cons (T.ev 0 rfl) .nil)) Try.func36 rfl rfl ?_
 refine Calls.mono (sound5_any (-1) 1 0 0 _) ?_
 clear T
 rintro e wc ⟨rfl, hb⟩
 intro ac T
 replace M := M.call hb; clear hb
 refine sh_out hK _ _ ?_; clear hK K
 refine l_w rfl ?_; intro K hK
 refine ow_call (first := []) (cap := []) T rfl rfl rfl rfl evf (.cons evc (.cons evc .nil)) Try.func24 rfl rfl ?_
 refine Calls.mono (to5_any 5 5 _) ?_
 clear T
 rintro e wc ⟨rfl, hb⟩
 intro ac T
 replace M := M.call hb; clear hb
 refine sh_out hK _ _ ?_; clear hK K
 refine l_w rfl ?_; intro K hK
 refine ow_call (first := []) (cap := []) T rfl rfl rfl rfl evf (.cons evc (.cons evc .nil)) Try.func24 rfl rfl ?_
 refine Calls.mono (to5_any 1 1 _) ?_
 clear T
 rintro e wc ⟨rfl, hb⟩
 intro ac T
 replace M := M.call hb; clear hb
 refine sh_out hK _ _ ?_; clear hK K
 refine l_w rfl ?_; intro K hK
 refine ow_call (first := []) (cap := []) T rfl rfl rfl rfl evf (.cons (T.ev 1 rfl) (.cons (T.ev 0 rfl) .nil)) Try.func36 rfl rfl ?_
 refine Calls.mono (sound5_any 5 5 1 1 _) ?_
 clear T
 rintro e wc ⟨rfl, hb⟩
 intro ac T
 replace M := M.call hb; clear hb
 refine sh_out hK _ _ ?_; clear hK K
 refine l_w rfl ?_; intro K hK
 refine ow_bs (e := 48) [.int .i64 (-1), .int .i64 1, .int .i64 0, .int .i64 0, .int .i64 5, .int .i64 5, .int .i64 1, .int .i64 1] M T rfl rfl rfl rfl (.cons (T.ev 3 rfl) (.cons (T.ev 0 rfl) .nil)) (fun _ => by kernel_rfl) ?_; clear M T; intro g2 wc ac M T
 refine sh_out hK _ _ ?_; clear hK K
 refine lq T (rn_move rfl (T.ev 9 rfl)) ?_; clear T ac; intro ac T
 refine l_w rfl ?_; intro K hK
 refine ow_call (first := []) (cap := []) T rfl rfl rfl rfl evf (.cons evc (.cons evc .nil)) Try.func24 rfl rfl ?_
 refine Calls.mono (to5_any 30 32 _) ?_
 clear T
 rintro e wc ⟨rfl, hb⟩
 intro ac T
 replace M := M.call hb; clear hb
 refine sh_out hK _ _ ?_; clear hK K
 refine l_w rfl ?_; intro K hK
 refine ow_call (first := []) (cap := []) T rfl rfl rfl rfl evf (.cons evc (.cons evc .nil)) Try.func24 rfl rfl ?_
 refine Calls.mono (to5_any 40 41 _) ?_
 clear T
 rintro e wc ⟨rfl, hb⟩
 intro ac T
 replace M := M.call hb; clear hb
 refine sh_out hK _ _ ?_; clear hK K
 refine l_w rfl ?_; intro K hK
 refine ow_call (first := []) (cap := []) T rfl rfl rfl rfl evf (.cons evc (.cons evc .nil)) Try.func24 rfl rfl ?_
 refine Calls.mono (to5_any 3 4 _) ?_
 clear T
 rintro e wc ⟨rfl, hb⟩
 intro ac T
 replace M := M.call hb; clear hb
 refine sh_out hK _ _ ?_; clear hK K
 refine l_w rfl ?_; intro K hK
 refine ow_call (first := []) (cap := []) T rfl rfl rfl rfl evf (.cons evc (.cons evc .nil)) Try.func24 rfl rfl ?_
 refine Calls.mono (to5_any 2 3 _) ?_
 clear T
 rintro e wc ⟨rfl, hb⟩
 intro ac T
 replace M := M.call hb; clear hb
 refine sh_out hK _ _ ?_; clear hK K
 refine l_w rfl ?_; intro K hK
 refine ow_call (first := []) (cap := []) T rfl rfl rfl rfl evf (.cons evc (.cons evc .nil)) Try.func24 rfl rfl ?_
 refine Calls.mono (to5_any 1 2 _) ?_
 clear T
 rintro e wc ⟨rfl, hb⟩
 intro ac T
 replace M := M.call hb; clear hb
 refine sh_out hK _ _ ?_; clear hK K
 refine l_w rfl ?_; intro K hK
 refine ow_call (first := []) (cap := []) T rfl rfl rfl rfl evf (.cons evc (.cons evc .nil)) Try.func24 rfl rfl ?_
 refine Calls.mono (to5_any 1 1 _) ?_
 clear T
 rintro e wc ⟨rfl, hb⟩
 intro ac T
 replace M := M.call hb; clear hb
 refine sh_out hK _ _ ?_; clear hK K
 refine lq (v := (.agg #[.int .i64 3, .int .i64 4, .int .i64 2, .int .i64 3, .int .i64 1, .int .i64 2, .int .i64 1, .int .i64 1, .int .i64 20])) T (rn_build rfl (.cons (T.ev 3 rfl) (.cons (T.ev 2 rfl) (.cons (T.ev 1 rfl) (.cons (T.ev 0 rfl) (.cons evc .nil))))) (fun _ => by kernel_rfl)) ?_; clear T ac; intro ac T
 refine lq (v := (.agg #[.int .i64 20, .int .i64 (-2), .int .i64 4, .int .i64 2, .int .i64 3, .slice (some ⟨g2, 0, none⟩) 2 2, .slice H hs.length d, .int .i64 30, .int .i64 32, .int .i64 40, .int .i64 41, .int .i64 3, .int .i64 4, .int .i64 2, .int .i64 3, .int .i64 1, .int .i64 2, .int .i64 1, .int .i64 1, .int .i64 20, .int .i64 1])) T (rn_build rfl (.cons (T.ev 15 rfl) (.cons evc (.cons (T.ev 8 rfl) (.cons (T.ev 7 rfl) (.cons (T.ev 6 rfl) (.cons (T.ev 5 rfl) (.cons (T.ev 0 rfl) (.cons evc .nil)))))))) (fun _ => by kernel_rfl)) ?_; clear T ac; intro ac T
 refine l_w rfl ?_; intro K hK
 refine ow_stO M T rfl rfl (T.ev 17 rfl) (T.ev 0 rfl) rfl (.tail .head) rfl (by simp) rfl (by kernel_rfl) ?_; clear M T; intro wc ac M T
 refine sh_out hK _ _ ?_; clear hK K
 refine wpList_nil ?_
 replace T := T.pick [17] rfl
 refine nm_then ?_
 refine wp_ret ?_
 refine rt_c M T rfl (T.ev 0 rfl) (nthE_mem (i := 1) rfl) rfl ?_
 exact ⟨g2, rfl, M.perm [0] rfl rfl⟩
set_option maxRecDepth 100000 in
set_option maxHeartbeats 1000000 in
theorem full5_any  (w : World)  :
   Calls Try.prog 58 #[] w (BoxPost fullX w) := by
 refine px_enter noEx Try.func58 rfl 12 rfl [] rfl rfl (Mem.init w _) ?_
 intro ac wc T M
 refine wp_seq ?_
 refine wp_region_lit ?_
 refine l_w rfl ?_; intro K hK
 refine ow_al M T rfl rfl rfl rfl ?_; clear M T; intro g1 wc ac M T
 refine sh_out hK _ _ ?_; clear hK K
 refine wpList_nil ?_
 refine nm_then ?_
 refine wp_seq ?_
 refine wp_region_lit ?_
 refine l_w rfl ?_; intro K hK
 refine ow_call (first := []) (cap := []) T rfl rfl rfl rfl evf (.cons evc (.cons evc .nil)) Try.func24 rfl rfl ?_
 refine Calls.mono (to5_any 14 15 _) ?_
 clear T
 rintro e wc ⟨rfl, hb⟩
 intro ac T
 replace M := M.call hb; clear hb
 refine sh_out hK _ _ ?_; clear hK K
 refine l_w rfl ?_; intro K hK
 refine ow_call (first := []) (cap := []) T rfl rfl rfl rfl evf (.cons evc (.cons evc .nil)) Try.func24 rfl rfl ?_
 refine Calls.mono (to5_any 0 1 _) ?_
 clear T
 rintro e wc ⟨rfl, hb⟩
 intro ac T
 replace M := M.call hb; clear hb
 refine sh_out hK _ _ ?_; clear hK K
 refine l_w rfl ?_; intro K hK
 refine ow_call (first := []) (cap := []) T rfl rfl rfl rfl evf (.cons (T.ev 1 rfl) (.cons (T.ev 0 rfl) .nil)) Try.func36 rfl rfl ?_
 refine Calls.mono (sound5_any 14 15 0 1 _) ?_
 clear T
 rintro e wc ⟨rfl, hb⟩
 intro ac T
 replace M := M.call hb; clear hb
 refine sh_out hK _ _ ?_; clear hK K
 refine l_w rfl ?_; intro K hK
 refine ow_call (first := []) (cap := []) T rfl rfl rfl rfl evf (.cons evc (.cons evc .nil)) Try.func24 rfl rfl ?_
 refine Calls.mono (to5_any 20 20 _) ?_
 clear T
 rintro e wc ⟨rfl, hb⟩
 intro ac T
 replace M := M.call hb; clear hb
 refine sh_out hK _ _ ?_; clear hK K
 refine l_w rfl ?_; intro K hK
 refine ow_call (first := []) (cap := []) T rfl rfl rfl rfl evf (.cons evc (.cons evc .nil)) Try.func24 rfl rfl ?_
 refine Calls.mono (to5_any 0 0 _) ?_
 clear T
 rintro e wc ⟨rfl, hb⟩
 intro ac T
 replace M := M.call hb; clear hb
 refine sh_out hK _ _ ?_; clear hK K
 refine l_w rfl ?_; intro K hK
 refine ow_call (first := []) (cap := []) T rfl rfl rfl rfl evf (.cons (T.ev 1 rfl) (.cons (T.ev 0 rfl) .nil)) Try.func36 rfl rfl ?_
 refine Calls.mono (sound5_any 20 20 0 0 _) ?_
 clear T
 rintro e wc ⟨rfl, hb⟩
 intro ac T
 replace M := M.call hb; clear hb
 refine sh_out hK _ _ ?_; clear hK K
 refine l_w rfl ?_; intro K hK
 refine ow_call (first := []) (cap := []) T rfl rfl rfl rfl evf (.cons evc (.cons evc .nil)) Try.func24 rfl rfl ?_
 refine Calls.mono (to5_any 30 30 _) ?_
 clear T
 rintro e wc ⟨rfl, hb⟩
 intro ac T
 replace M := M.call hb; clear hb
 refine sh_out hK _ _ ?_; clear hK K
 refine l_w rfl ?_; intro K hK
 refine ow_call (first := []) (cap := []) T rfl rfl rfl rfl evf (.cons evc (.cons evc .nil)) Try.func24 rfl rfl ?_
 refine Calls.mono (to5_any 0 0 _) ?_
 clear T
 rintro e wc ⟨rfl, hb⟩
 intro ac T
 replace M := M.call hb; clear hb
 refine sh_out hK _ _ ?_; clear hK K
 refine l_w rfl ?_; intro K hK
 refine ow_call (first := []) (cap := []) T rfl rfl rfl rfl evf (.cons (T.ev 1 rfl) (.cons (T.ev 0 rfl) .nil)) Try.func36 rfl rfl ?_
 refine Calls.mono (sound5_any 30 30 0 0 _) ?_
 clear T
 rintro e wc ⟨rfl, hb⟩
 intro ac T
 replace M := M.call hb; clear hb
 refine sh_out hK _ _ ?_; clear hK K
 refine l_w rfl ?_; intro K hK
 refine ow_bs (e := 48) [.int .i64 14, .int .i64 15, .int .i64 0, .int .i64 1, .int .i64 20, .int .i64 20, .int .i64 0, .int .i64 0, .int .i64 30, .int .i64 30, .int .i64 0, .int .i64 0] M T rfl rfl rfl rfl (.cons (T.ev 6 rfl) (.cons (T.ev 3 rfl) (.cons (T.ev 0 rfl) .nil))) (fun _ => by kernel_rfl) ?_; clear M T; intro g2 wc ac M T
 refine sh_out hK _ _ ?_; clear hK K
 refine l_w rfl ?_; intro K hK
 refine ow_call (first := []) (cap := []) T rfl rfl rfl rfl evf (.cons (T.ev 0 rfl) .nil) Try.func93 rfl rfl ?_
 refine Calls.mono (box5_any _ 3 fullH _) ?_
 clear T
 rintro e wc ⟨gu10, rfl, N⟩
 intro ac T
 replace M := M.join N; clear N
 replace M := M.mask [true, true, true] rfl
 refine sh_out hK _ _ ?_; clear hK K
 refine l_w rfl ?_; intro K hK
 refine ow_stO M T rfl rfl (T.ev 11 rfl) (T.ev 0 rfl) rfl (.tail (.tail .head)) rfl (by simp) rfl (by kernel_rfl) ?_; clear M T; intro wc ac M T
 refine sh_out hK _ _ ?_; clear hK K
 refine wpList_nil ?_
 replace T := T.pick [11] rfl
 refine nm_then ?_
 refine wp_ret ?_
 refine rt_c M T rfl (T.ev 0 rfl) (nthE_mem (i := 2) rfl) rfl ?_
 exact ⟨_, _, _, _, _, rfl, ⟨gu10, 0, fun w ex => (Sp.cells (xs := sc fullX.lows) rfl).mono (List.Sublist.cons_cons _ (List.nil_sublist _))⟩, ⟨g2, 0, fun w ex => (Sp.cells (xs := sc fullX.highs) rfl).mono (.cons _ (List.Sublist.refl _))⟩, M.perm [0, 1] rfl rfl⟩
set_option maxRecDepth 100000 in
set_option maxHeartbeats 1000000 in
theorem less5_any  (w : World)  :
   Calls Try.prog 59 #[] w (BoxPost lessX w) := by
 refine px_enter noEx Try.func59 rfl 9 rfl [] rfl rfl (Mem.init w _) ?_
 intro ac wc T M
 refine wp_seq ?_
 refine wp_region_lit ?_
 refine l_w rfl ?_; intro K hK
 refine ow_al M T rfl rfl rfl rfl ?_; clear M T; intro g1 wc ac M T
 refine sh_out hK _ _ ?_; clear hK K
 refine wpList_nil ?_
 refine nm_then ?_
 refine wp_seq ?_
 refine wp_region_lit ?_
 refine l_w rfl ?_; intro K hK
 refine ow_call (first := []) (cap := []) T rfl rfl rfl rfl evf (.cons evc (.cons evc .nil)) Try.func24 rfl rfl ?_
 refine Calls.mono (to5_any 14 15 _) ?_
 clear T
 rintro e wc ⟨rfl, hb⟩
 intro ac T
 replace M := M.call hb; clear hb
 refine sh_out hK _ _ ?_; clear hK K
 refine l_w rfl ?_; intro K hK
 refine ow_call (first := []) (cap := []) T rfl rfl rfl rfl evf (.cons evc (.cons evc .nil)) Try.func24 rfl rfl ?_
 refine Calls.mono (to5_any 0 1 _) ?_
 clear T
 rintro e wc ⟨rfl, hb⟩
 intro ac T
 replace M := M.call hb; clear hb
 refine sh_out hK _ _ ?_; clear hK K
 refine l_w rfl ?_; intro K hK
 refine ow_call (first := []) (cap := []) T rfl rfl rfl rfl evf (.cons (T.ev 1 rfl) (.cons (T.ev 0 rfl) .nil)) Try.func36 rfl rfl ?_
 refine Calls.mono (sound5_any 14 15 0 1 _) ?_
 clear T
 rintro e wc ⟨rfl, hb⟩
 intro ac T
 replace M := M.call hb; clear hb
 refine sh_out hK _ _ ?_; clear hK K
 refine l_w rfl ?_; intro K hK
 refine ow_call (first := []) (cap := []) T rfl rfl rfl rfl evf (.cons evc (.cons evc .nil)) Try.func24 rfl rfl ?_
 refine Calls.mono (to5_any 30 30 _) ?_
 clear T
 rintro e wc ⟨rfl, hb⟩
 intro ac T
 replace M := M.call hb; clear hb
 refine sh_out hK _ _ ?_; clear hK K
 refine l_w rfl ?_; intro K hK
 refine ow_call (first := []) (cap := []) T rfl rfl rfl rfl evf (.cons evc (.cons evc .nil)) Try.func24 rfl rfl ?_
 refine Calls.mono (to5_any 0 0 _) ?_
 clear T
 rintro e wc ⟨rfl, hb⟩
 intro ac T
 replace M := M.call hb; clear hb
 refine sh_out hK _ _ ?_; clear hK K
 refine l_w rfl ?_; intro K hK
 refine ow_call (first := []) (cap := []) T rfl rfl rfl rfl evf (.cons (T.ev 1 rfl) (.cons (T.ev 0 rfl) .nil)) Try.func36 rfl rfl ?_
 refine Calls.mono (sound5_any 30 30 0 0 _) ?_
 clear T
 rintro e wc ⟨rfl, hb⟩
 intro ac T
 replace M := M.call hb; clear hb
 refine sh_out hK _ _ ?_; clear hK K
 refine l_w rfl ?_; intro K hK
 refine ow_bs (e := 48) [.int .i64 14, .int .i64 15, .int .i64 0, .int .i64 1, .int .i64 30, .int .i64 30, .int .i64 0, .int .i64 0] M T rfl rfl rfl rfl (.cons (T.ev 3 rfl) (.cons (T.ev 0 rfl) .nil)) (fun _ => by kernel_rfl) ?_; clear M T; intro g2 wc ac M T
 refine sh_out hK _ _ ?_; clear hK K
 refine l_w rfl ?_; intro K hK
 refine ow_call (first := []) (cap := []) T rfl rfl rfl rfl evf (.cons (T.ev 0 rfl) .nil) Try.func93 rfl rfl ?_
 refine Calls.mono (box5_any _ 2 lessH _) ?_
 clear T
 rintro e wc ⟨gu7, rfl, N⟩
 intro ac T
 replace M := M.join N; clear N
 replace M := M.mask [true, true, true] rfl
 refine sh_out hK _ _ ?_; clear hK K
 refine l_w rfl ?_; intro K hK
 refine ow_stO M T rfl rfl (T.ev 8 rfl) (T.ev 0 rfl) rfl (.tail (.tail .head)) rfl (by simp) rfl (by kernel_rfl) ?_; clear M T; intro wc ac M T
 refine sh_out hK _ _ ?_; clear hK K
 refine wpList_nil ?_
 replace T := T.pick [8] rfl
 refine nm_then ?_
 refine wp_ret ?_
 refine rt_c M T rfl (T.ev 0 rfl) (nthE_mem (i := 2) rfl) rfl ?_
 exact ⟨_, _, _, _, _, rfl, ⟨gu7, 0, fun w ex => (Sp.cells (xs := sc lessX.lows) rfl).mono (List.Sublist.cons_cons _ (List.nil_sublist _))⟩, ⟨g2, 0, fun w ex => (Sp.cells (xs := sc lessX.highs) rfl).mono (.cons _ (List.Sublist.refl _))⟩, M.perm [0, 1] rfl rfl⟩
theorem Beat_x (A : Option Addr) (c : Nat) (B : Option Addr) (d : Nat) (w : World) (hA : Rd w w.heap.size 4 A fullX.lows.length (sc fullX.lows)) (hB : Rd w w.heap.size 4 B fullX.highs.length (sc fullX.highs)) :
   Calls Try.prog 21 #[bxV fullX A c B d, .int .i64 1, .int .i64 0] w fun e w' => ∃ A' c' I, e = .returned (.tuple #[.slice A' 3 c', .int .i64 0]) ∧ (∃ b o, ∀ (w : World) (ex : Nat → Prop), Sp w ex I A' 3 2 b o (rc [(9, 10), (8, 10), (7, 10)])) ∧ Mem w noEx w' I :=
 Calls.mono (Beat_any fullX A c B d 1 0 w hA hB (by decide) (by decide)) fun e w' h => by
   obtain ⟨A', c', I, rfl, h2, h3⟩ := h
   rw [x_beat.1] at h2
   rw [x_beat.1, x_beat.2]
   exact ⟨A', c', I, rfl, h2.spV rfl, h3⟩
theorem Match_x (A : Option Addr) (c : Nat) (B : Option Addr) (d : Nat) (w : World) (hA : Rd w w.heap.size 4 A lessX.lows.length (sc lessX.lows)) (hB : Rd w w.heap.size 4 B lessX.highs.length (sc lessX.highs)) :
   Calls Try.prog 27 #[bxV lessX A c B d] w fun e w' => ∃ A' c' I, e = .returned (.tuple #[.slice A' 2 c', .int .i64 0]) ∧ (∃ b o, ∀ (w : World) (ex : Nat → Prop), Sp w ex I A' 2 1 b o (ic [0, -1])) ∧ Mem w noEx w' I :=
 Calls.mono (Match_any lessX A c B d w hA hB (by decide) (by decide)) fun e w' h => by
   rw [x_match] at h
   obtain ⟨A', c', I, rfl, _, h2, h3⟩ := h
   exact ⟨A', c', I, rfl, h2, h3⟩
theorem Short_x (A : Option Addr) (c : Nat) (B : Option Addr) (d : Nat) (w : World) (hA : Rd w w.heap.size 4 A lessX.lows.length (sc lessX.lows)) (hB : Rd w w.heap.size 4 B lessX.highs.length (sc lessX.highs)) :
   Calls Try.prog 28 #[bxV lessX A c B d] w fun e w' => ∃ A' c' I, e = .returned (.tuple #[.slice A' 1 c', .int .i64 0]) ∧ (∃ b o, ∀ (w : World) (ex : Nat → Prop), Sp w ex I A' 1 1 b o (ic [1])) ∧ Mem w noEx w' I :=
 Calls.mono (Short_any lessX A c B d w hA hB (by decide) (by decide)) fun e w' h => by
   rw [x_short] at h
   obtain ⟨A', c', I, rfl, _, h2, h3⟩ := h
   exact ⟨A', c', I, rfl, h2, h3⟩
theorem Strokes_x (A : Option Addr) (c : Nat) (B : Option Addr) (d : Nat) (w : World) (hA : Rd w w.heap.size 4 A fullX.lows.length (sc fullX.lows)) (hB : Rd w w.heap.size 4 B fullX.highs.length (sc fullX.highs)) :
   Calls Try.prog 60 #[bxV fullX A c B d, .int .i64 0, .int .i64 1] w fun e w' => e = .returned (.tuple #[.int .i64 2, .int .i64 0]) ∧ Below w.heap.size w w' := by
 have h := VStrokes_any fullX A c B d 0 1 w hA hB (by decide) (by decide)
 rw [x_strokes] at h
 exact h
theorem Tremolo_x (A : Option Addr) (c : Nat) (LL : List LS) (G : Option Addr) (d : Nat) (w : World) (hR : rowsOf LL = rowsX) (hA : Rd w w.heap.size 1 A LL.length (lsC LL)) (hE : ElsS w LL) (hG : Rd w w.heap.size 1 G 2 (ic [0, 1])) :
   Calls Try.prog 15 #[.agg #[.int .i64 20, .int .i64 (-2), .int .i64 4, .int .i64 2, .slice A LL.length c], .slice G 2 d] w fun e w' => ∃ A' c' I, e = .returned (.tuple #[.slice A' 2 c', .int .i64 0]) ∧ (∃ b o, ∀ (w : World) (ex : Nat → Prop), Sp w ex I A' 2 1 b o (ic [1, 3])) ∧ Mem w noEx w' I := by
 have hl : LL.length = 3 := by have := congrArg List.length hR; simpa [rowsX] using this
 have hx : ∀ x ∈ LL, x.1.length ≤ 1000000 := fun x hx => by
   have : x.1 ∈ rowsX := by rw [← hR]; exact List.mem_map.2 ⟨x, hx, rfl⟩
   have h9 : ∀ y ∈ rowsX, y.length ≤ 1000000 := by decide
   exact h9 _ this
 have h := Tremolo_any lawX A c LL G d [0, 1] w hA hE (by omega) hx hG (by decide)
 refine Calls.mono h fun e w' h => ?_
 rw [hR, x_trem] at h
 obtain ⟨A', c', I, rfl, _, h2, h3⟩ := h
 exact ⟨A', c', I, rfl, h2, h3⟩
end Go.Proofs.Ytlahdenlmmlplaa
end

section
/-
 law05: trembling, the check with which each law ends.
-/
namespace Go.Proofs.Ytlahdenlmmlplaa
set_option linter.unusedSimpArgs false
set_option linter.unusedVariables false
open Go.RowKit
def ElsR (LL : List LS) (I : List (Nat × BA)) : Prop := ∀ x ∈ LL, ∃ b o, ∀ (w : World) (ex : Nat → Prop), Sp w ex I x.2.1 x.1.length 4 b o (sc x.1)
def ScalePost (l : Lw) (R : List (List Snd)) (w : World) (e : Ending) (w' : World) : Prop := ∃ A c LL I, rowsOf LL = R ∧ e = .returned (.agg #[.int .i64 l.first, .int .i64 l.step, .int .i64 l.span, .int .i64 l.press, .slice A LL.length c]) ∧ (∃ b o, ∀ (w : World) (ex : Nat → Prop), Sp w ex I A LL.length 1 b o (lsC LL)) ∧ ElsR LL I ∧ Mem w noEx w' I
set_option maxRecDepth 100000 in
set_option maxHeartbeats 8000000 in
theorem scale5_any  (w : World)  :
   Calls Try.prog 61 #[] w (ScalePost lawX rowsX w) := by
 refine px_enter noEx Try.func61 rfl 27 rfl [] rfl rfl (Mem.init w _) ?_
 intro ac wc T M
 refine wp_seq ?_
 refine wp_region_lit ?_
 refine l_w rfl ?_; intro K hK
 refine ow_al M T rfl rfl rfl rfl ?_; clear M T; intro g1 wc ac M T
 refine sh_out hK _ _ ?_; clear hK K
 refine wpList_nil ?_
 refine nm_then ?_
 refine wp_seq ?_
 refine wp_region_lit ?_
 refine l_w rfl ?_; intro K hK
 refine ow_call (first := []) (cap := []) T rfl rfl rfl rfl evf (.cons evc (.cons evc .nil)) Try.func24 rfl rfl ?_
 refine Calls.mono (to5_any 0 0 _) ?_
 clear T
 rintro e wc ⟨rfl, hb⟩
 intro ac T
 replace M := M.call hb; clear hb
 refine sh_out hK _ _ ?_; clear hK K
 refine l_w rfl ?_; intro K hK
 refine ow_al M T rfl rfl rfl rfl ?_; clear M T; intro g2 wc ac M T
 refine sh_out hK _ _ ?_; clear hK K
 refine l_w rfl ?_; intro K hK
 refine ow_stO M T rfl rfl (T.ev 0 rfl) (T.ev 1 rfl) rfl .head rfl (by simp) rfl (by kernel_rfl) ?_; clear M T; intro wc ac M T
 refine sh_out hK _ _ ?_; clear hK K
 refine wpList_nil ?_
 replace T := T.pick [0, 2] rfl
 refine nm_then ?_
 refine wp_seq ?_
 refine g_start2 M (M.perm [0] rfl rfl) 25 (by kernel_rfl) rfl (by kernel_rfl) ?_
 clear M; intro wc M
 refine g_addG 24 M ?_
 refine g_have (fun ac wc => ∃ (gr2_14 gr2_7 gr2_21 : Nat), Tm ac 27 [(17, .slice (some ⟨gr2_14, 0, none⟩) 2 2), (10, .slice (some ⟨gr2_7, 0, none⟩) 2 2), (24, .slice (some ⟨gr2_21, 0, none⟩) 2 2), (23, .agg #[.int .i64 30, .int .i64 30, .int .i64 0, .int .i64 0]), (21, .agg #[.int .i64 30, .int .i64 30]), (20, .agg #[.int .i64 30, .int .i64 30, .int .i64 0, .int .i64 0]), (18, .agg #[.int .i64 30, .int .i64 30]), (16, .agg #[.int .i64 13, .int .i64 15, .int .i64 0, .int .i64 0]), (14, .agg #[.int .i64 13, .int .i64 15]), (13, .agg #[.int .i64 20, .int .i64 20, .int .i64 0, .int .i64 0]), (11, .agg #[.int .i64 20, .int .i64 20]), (9, .agg #[.int .i64 0, .int .i64 0, .int .i64 0, .int .i64 0]), (7, .agg #[.int .i64 0, .int .i64 0]), (6, .agg #[.int .i64 (-1), .int .i64 1, .int .i64 0, .int .i64 0]), (4, .agg #[.int .i64 (-1), .int .i64 1]), (3, .agg #[.int .i64 20, .int .i64 (-2), .int .i64 4, .int .i64 2]), (22, .agg #[.int .i64 0, .int .i64 0]), (19, .agg #[.int .i64 0, .int .i64 0]), (15, .agg #[.int .i64 0, .int .i64 0]), (12, .agg #[.int .i64 0, .int .i64 0]), (8, .agg #[.int .i64 0, .int .i64 0]), (5, .agg #[.int .i64 0, .int .i64 0]), (1, .pointer (some ⟨g2, 0, none⟩)), (0, .pointer (some ⟨g1, 0, none⟩))] ∧ Mem w noEx wc [(gr2_14, .cells [.int .i64 20, .int .i64 20, .int .i64 0, .int .i64 0, .int .i64 13, .int .i64 15, .int .i64 0, .int .i64 0]), (gr2_7, .cells [.int .i64 (-1), .int .i64 1, .int .i64 0, .int .i64 0, .int .i64 0, .int .i64 0, .int .i64 0, .int .i64 0]), (gr2_21, .cells [.int .i64 30, .int .i64 30, .int .i64 0, .int .i64 0, .int .i64 30, .int .i64 30, .int .i64 0, .int .i64 0]), (g2, .cells [.int .i64 0, .int .i64 0]), (g1, .cells [.int .i64 0, .int .i64 0, .int .i64 0, .int .i64 0, .slice none 0 0])]) (pbits 25 4194303) 3 ?_ ?_
 ·clear T M
  rintro ac wc ⟨gr2_14, gr2_7, gr2_21, T, M⟩
  refine gw 22 8388607 ?_; intro K hK
  refine ow_bs (e := 38) [.slice (some ⟨gr2_7, 0, none⟩) 2 2, .slice (some ⟨gr2_14, 0, none⟩) 2 2, .slice (some ⟨gr2_21, 0, none⟩) 2 2] M T rfl rfl rfl rfl (.cons (T.ev 1 rfl) (.cons (T.ev 0 rfl) (.cons (T.ev 2 rfl) .nil))) (fun _ => by kernel_rfl) ?_; clear M T; intro gr2_22 wc ac M T
  refine sh_out hK _ _ (MA.mk (fun _ => M.mask [false, false, false, false, true, true] rfl) (M.mask [false, false, false, false, true, false] rfl)) ?_; clear hK K
  refine gq (v := (.agg #[.int .i64 20, .int .i64 (-2), .int .i64 4, .int .i64 2, .slice (some ⟨gr2_22, 0, none⟩) 3 3])) T 23 16777215 rfl (fun _ _ _ _ _ => (rn_build rfl (.cons (T.ev 16 rfl) (.cons (T.ev 0 rfl) .nil)) (fun _ => by kernel_rfl))) ?_; clear T ac; intro ac T
  refine gw 24 33554431 ?_; intro K hK
  refine ow_stO M T rfl rfl (T.ev 25 rfl) (T.ev 0 rfl) rfl (.tail (.tail (.tail (.tail (.tail .head))))) rfl (by simp) rfl (by kernel_rfl) ?_; clear M T; intro wc ac M T
  refine sh_out hK _ _ (MA.mk (fun h => (no_of (by kernel_rfl) h).elim) (M.mask [false, false, false, false, true, false] rfl)) ?_; clear hK K
  refine g_done (by kernel_rfl) ?_
  replace T := T.pick [25] rfl
  replace M := M.mask [true, true, true, true, false, true] rfl
  refine nm_then ?_
  refine wp_ret ?_
  refine rt_c M T rfl (T.ev 0 rfl) (nthE_mem (i := 4) rfl) rfl ?_
  refine ⟨some ⟨gr2_22, 0, none⟩, 3, [([⟨-1, 1, 0, 0⟩, ⟨0, 0, 0, 0⟩], some ⟨gr2_7, 0, none⟩, 2), ([⟨20, 20, 0, 0⟩, ⟨13, 15, 0, 0⟩], some ⟨gr2_14, 0, none⟩, 2), ([⟨30, 30, 0, 0⟩, ⟨30, 30, 0, 0⟩], some ⟨gr2_21, 0, none⟩, 2)], _, rfl, rfl, ⟨gr2_22, 0, fun w ex => (Sp.cells (xs := lsC [([⟨-1, 1, 0, 0⟩, ⟨0, 0, 0, 0⟩], some ⟨gr2_7, 0, none⟩, 2), ([⟨20, 20, 0, 0⟩, ⟨13, 15, 0, 0⟩], some ⟨gr2_14, 0, none⟩, 2), ([⟨30, 30, 0, 0⟩, ⟨30, 30, 0, 0⟩], some ⟨gr2_21, 0, none⟩, 2)]) rfl).mono (List.Sublist.cons_cons _ (List.nil_sublist _))⟩, ?_, M.perm [0, 2, 1, 3] rfl rfl⟩
  intro x hx
  simp only [List.mem_cons, List.not_mem_nil, or_false] at hx
  rcases hx with rfl | rfl | rfl
  · exact ⟨gr2_7, 0, fun w ex => (Sp.cells (xs := sc [⟨-1, 1, 0, 0⟩, ⟨0, 0, 0, 0⟩]) rfl).mono (.cons _ (.cons_cons _ (List.nil_sublist _)))⟩
  · exact ⟨gr2_14, 0, fun w ex => (Sp.cells (xs := sc [⟨20, 20, 0, 0⟩, ⟨13, 15, 0, 0⟩]) rfl).mono (.cons _ (.cons _ (.cons_cons _ (List.nil_sublist _))))⟩
  · exact ⟨gr2_21, 0, fun w ex => (Sp.cells (xs := sc [⟨30, 30, 0, 0⟩, ⟨30, 30, 0, 0⟩]) rfl).mono (.cons _ (.cons _ (.cons _ (.cons_cons _ (List.nil_sublist _)))))⟩
 intro H19
 refine g_have (fun ac wc => ∃ (gr2_14 gr2_7 : Nat), Tm ac 27 [(17, .slice (some ⟨gr2_14, 0, none⟩) 2 2), (10, .slice (some ⟨gr2_7, 0, none⟩) 2 2), (23, .agg #[.int .i64 30, .int .i64 30, .int .i64 0, .int .i64 0]), (21, .agg #[.int .i64 30, .int .i64 30]), (20, .agg #[.int .i64 30, .int .i64 30, .int .i64 0, .int .i64 0]), (18, .agg #[.int .i64 30, .int .i64 30]), (16, .agg #[.int .i64 13, .int .i64 15, .int .i64 0, .int .i64 0]), (14, .agg #[.int .i64 13, .int .i64 15]), (13, .agg #[.int .i64 20, .int .i64 20, .int .i64 0, .int .i64 0]), (11, .agg #[.int .i64 20, .int .i64 20]), (9, .agg #[.int .i64 0, .int .i64 0, .int .i64 0, .int .i64 0]), (7, .agg #[.int .i64 0, .int .i64 0]), (6, .agg #[.int .i64 (-1), .int .i64 1, .int .i64 0, .int .i64 0]), (4, .agg #[.int .i64 (-1), .int .i64 1]), (3, .agg #[.int .i64 20, .int .i64 (-2), .int .i64 4, .int .i64 2]), (22, .agg #[.int .i64 0, .int .i64 0]), (19, .agg #[.int .i64 0, .int .i64 0]), (15, .agg #[.int .i64 0, .int .i64 0]), (12, .agg #[.int .i64 0, .int .i64 0]), (8, .agg #[.int .i64 0, .int .i64 0]), (5, .agg #[.int .i64 0, .int .i64 0]), (1, .pointer (some ⟨g2, 0, none⟩)), (0, .pointer (some ⟨g1, 0, none⟩))] ∧ Mem w noEx wc [(gr2_14, .cells [.int .i64 20, .int .i64 20, .int .i64 0, .int .i64 0, .int .i64 13, .int .i64 15, .int .i64 0, .int .i64 0]), (gr2_7, .cells [.int .i64 (-1), .int .i64 1, .int .i64 0, .int .i64 0, .int .i64 0, .int .i64 0, .int .i64 0, .int .i64 0]), (g2, .cells [.int .i64 0, .int .i64 0]), (g1, .cells [.int .i64 0, .int .i64 0, .int .i64 0, .int .i64 0, .slice none 0 0])]) (pbits 25 2097151) 4 ?_ ?_
 ·clear T M
  rintro ac wc ⟨gr2_14, gr2_7, T, M⟩
  refine gw 21 4194303 ?_; intro K hK
  refine ow_bs (e := 48) [.int .i64 30, .int .i64 30, .int .i64 0, .int .i64 0, .int .i64 30, .int .i64 30, .int .i64 0, .int .i64 0] M T rfl rfl rfl rfl (.cons (T.ev 4 rfl) (.cons (T.ev 2 rfl) .nil)) (fun _ => by kernel_rfl) ?_; clear M T; intro gr2_21 wc ac M T
  refine sh_out hK _ _ (MA.mk (fun _ => M.mask [false, false, false, true, true] rfl) (M.mask [false, false, false, true, false] rfl)) ?_; clear hK K
  exact H19 _ _ ⟨gr2_14, gr2_7, gr2_21, T.pick [1, 2, 0, 3, 4, 5, 6, 7, 8, 9, 10, 11, 12, 13, 14, 15, 16, 17, 18, 19, 20, 21, 22, 23] rfl, M.perm [1, 2, 0, 3, 4] rfl rfl⟩
 intro H18
 refine g_have (fun ac wc => ∃ (gr2_14 gr2_21 : Nat), Tm ac 27 [(17, .slice (some ⟨gr2_14, 0, none⟩) 2 2), (24, .slice (some ⟨gr2_21, 0, none⟩) 2 2), (23, .agg #[.int .i64 30, .int .i64 30, .int .i64 0, .int .i64 0]), (21, .agg #[.int .i64 30, .int .i64 30]), (20, .agg #[.int .i64 30, .int .i64 30, .int .i64 0, .int .i64 0]), (18, .agg #[.int .i64 30, .int .i64 30]), (16, .agg #[.int .i64 13, .int .i64 15, .int .i64 0, .int .i64 0]), (14, .agg #[.int .i64 13, .int .i64 15]), (13, .agg #[.int .i64 20, .int .i64 20, .int .i64 0, .int .i64 0]), (11, .agg #[.int .i64 20, .int .i64 20]), (9, .agg #[.int .i64 0, .int .i64 0, .int .i64 0, .int .i64 0]), (7, .agg #[.int .i64 0, .int .i64 0]), (6, .agg #[.int .i64 (-1), .int .i64 1, .int .i64 0, .int .i64 0]), (4, .agg #[.int .i64 (-1), .int .i64 1]), (3, .agg #[.int .i64 20, .int .i64 (-2), .int .i64 4, .int .i64 2]), (22, .agg #[.int .i64 0, .int .i64 0]), (19, .agg #[.int .i64 0, .int .i64 0]), (15, .agg #[.int .i64 0, .int .i64 0]), (12, .agg #[.int .i64 0, .int .i64 0]), (8, .agg #[.int .i64 0, .int .i64 0]), (5, .agg #[.int .i64 0, .int .i64 0]), (1, .pointer (some ⟨g2, 0, none⟩)), (0, .pointer (some ⟨g1, 0, none⟩))] ∧ Mem w noEx wc [(gr2_14, .cells [.int .i64 20, .int .i64 20, .int .i64 0, .int .i64 0, .int .i64 13, .int .i64 15, .int .i64 0, .int .i64 0]), (gr2_21, .cells [.int .i64 30, .int .i64 30, .int .i64 0, .int .i64 0, .int .i64 30, .int .i64 30, .int .i64 0, .int .i64 0]), (g2, .cells [.int .i64 0, .int .i64 0]), (g1, .cells [.int .i64 0, .int .i64 0, .int .i64 0, .int .i64 0, .slice none 0 0])]) (pbits 25 4194175) 4 ?_ ?_
 ·clear T M
  rintro ac wc ⟨gr2_14, gr2_21, T, M⟩
  refine gw 7 4194303 ?_; intro K hK
  refine ow_bs (e := 48) [.int .i64 (-1), .int .i64 1, .int .i64 0, .int .i64 0, .int .i64 0, .int .i64 0, .int .i64 0, .int .i64 0] M T rfl rfl rfl rfl (.cons (T.ev 12 rfl) (.cons (T.ev 10 rfl) .nil)) (fun _ => by kernel_rfl) ?_; clear M T; intro gr2_7 wc ac M T
  refine sh_out hK _ _ (MA.mk (fun _ => M.mask [false, false, false, true, true] rfl) (M.mask [false, false, false, true, false] rfl)) ?_; clear hK K
  exact H19 _ _ ⟨gr2_14, gr2_7, gr2_21, T.pick [1, 0, 2, 3, 4, 5, 6, 7, 8, 9, 10, 11, 12, 13, 14, 15, 16, 17, 18, 19, 20, 21, 22, 23] rfl, M.perm [1, 0, 2, 3, 4] rfl rfl⟩
 intro H17
 refine g_have (fun ac wc => ∃ (gr2_7 gr2_21 : Nat), Tm ac 27 [(10, .slice (some ⟨gr2_7, 0, none⟩) 2 2), (24, .slice (some ⟨gr2_21, 0, none⟩) 2 2), (23, .agg #[.int .i64 30, .int .i64 30, .int .i64 0, .int .i64 0]), (21, .agg #[.int .i64 30, .int .i64 30]), (20, .agg #[.int .i64 30, .int .i64 30, .int .i64 0, .int .i64 0]), (18, .agg #[.int .i64 30, .int .i64 30]), (16, .agg #[.int .i64 13, .int .i64 15, .int .i64 0, .int .i64 0]), (14, .agg #[.int .i64 13, .int .i64 15]), (13, .agg #[.int .i64 20, .int .i64 20, .int .i64 0, .int .i64 0]), (11, .agg #[.int .i64 20, .int .i64 20]), (9, .agg #[.int .i64 0, .int .i64 0, .int .i64 0, .int .i64 0]), (7, .agg #[.int .i64 0, .int .i64 0]), (6, .agg #[.int .i64 (-1), .int .i64 1, .int .i64 0, .int .i64 0]), (4, .agg #[.int .i64 (-1), .int .i64 1]), (3, .agg #[.int .i64 20, .int .i64 (-2), .int .i64 4, .int .i64 2]), (22, .agg #[.int .i64 0, .int .i64 0]), (19, .agg #[.int .i64 0, .int .i64 0]), (15, .agg #[.int .i64 0, .int .i64 0]), (12, .agg #[.int .i64 0, .int .i64 0]), (8, .agg #[.int .i64 0, .int .i64 0]), (5, .agg #[.int .i64 0, .int .i64 0]), (1, .pointer (some ⟨g2, 0, none⟩)), (0, .pointer (some ⟨g1, 0, none⟩))] ∧ Mem w noEx wc [(gr2_7, .cells [.int .i64 (-1), .int .i64 1, .int .i64 0, .int .i64 0, .int .i64 0, .int .i64 0, .int .i64 0, .int .i64 0]), (gr2_21, .cells [.int .i64 30, .int .i64 30, .int .i64 0, .int .i64 0, .int .i64 30, .int .i64 30, .int .i64 0, .int .i64 0]), (g2, .cells [.int .i64 0, .int .i64 0]), (g1, .cells [.int .i64 0, .int .i64 0, .int .i64 0, .int .i64 0, .slice none 0 0])]) (pbits 25 4177919) 4 ?_ ?_
 ·clear T M
  rintro ac wc ⟨gr2_7, gr2_21, T, M⟩
  refine gw 14 4194303 ?_; intro K hK
  refine ow_bs (e := 48) [.int .i64 20, .int .i64 20, .int .i64 0, .int .i64 0, .int .i64 13, .int .i64 15, .int .i64 0, .int .i64 0] M T rfl rfl rfl rfl (.cons (T.ev 8 rfl) (.cons (T.ev 6 rfl) .nil)) (fun _ => by kernel_rfl) ?_; clear M T; intro gr2_14 wc ac M T
  refine sh_out hK _ _ (MA.mk (fun _ => M.mask [false, false, false, true, true] rfl) (M.mask [false, false, false, true, false] rfl)) ?_; clear hK K
  exact H19 _ _ ⟨gr2_14, gr2_7, gr2_21, T, M⟩
 intro H16
 refine g_have (fun ac wc => ∃ (gr2_14 gr2_7 : Nat), Tm ac 27 [(17, .slice (some ⟨gr2_14, 0, none⟩) 2 2), (10, .slice (some ⟨gr2_7, 0, none⟩) 2 2), (21, .agg #[.int .i64 30, .int .i64 30]), (20, .agg #[.int .i64 30, .int .i64 30, .int .i64 0, .int .i64 0]), (18, .agg #[.int .i64 30, .int .i64 30]), (16, .agg #[.int .i64 13, .int .i64 15, .int .i64 0, .int .i64 0]), (14, .agg #[.int .i64 13, .int .i64 15]), (13, .agg #[.int .i64 20, .int .i64 20, .int .i64 0, .int .i64 0]), (11, .agg #[.int .i64 20, .int .i64 20]), (9, .agg #[.int .i64 0, .int .i64 0, .int .i64 0, .int .i64 0]), (7, .agg #[.int .i64 0, .int .i64 0]), (6, .agg #[.int .i64 (-1), .int .i64 1, .int .i64 0, .int .i64 0]), (4, .agg #[.int .i64 (-1), .int .i64 1]), (3, .agg #[.int .i64 20, .int .i64 (-2), .int .i64 4, .int .i64 2]), (22, .agg #[.int .i64 0, .int .i64 0]), (19, .agg #[.int .i64 0, .int .i64 0]), (15, .agg #[.int .i64 0, .int .i64 0]), (12, .agg #[.int .i64 0, .int .i64 0]), (8, .agg #[.int .i64 0, .int .i64 0]), (5, .agg #[.int .i64 0, .int .i64 0]), (1, .pointer (some ⟨g2, 0, none⟩)), (0, .pointer (some ⟨g1, 0, none⟩))] ∧ Mem w noEx wc [(gr2_14, .cells [.int .i64 20, .int .i64 20, .int .i64 0, .int .i64 0, .int .i64 13, .int .i64 15, .int .i64 0, .int .i64 0]), (gr2_7, .cells [.int .i64 (-1), .int .i64 1, .int .i64 0, .int .i64 0, .int .i64 0, .int .i64 0, .int .i64 0, .int .i64 0]), (g2, .cells [.int .i64 0, .int .i64 0]), (g1, .cells [.int .i64 0, .int .i64 0, .int .i64 0, .int .i64 0, .slice none 0 0])]) (pbits 25 1048575) 5 ?_ ?_
 ·clear T M
  rintro ac wc ⟨gr2_14, gr2_7, T, M⟩
  refine gw 20 2097151 ?_; intro K hK
  refine ow_call (first := []) (cap := []) T rfl rfl rfl rfl evf (.cons (T.ev 2 rfl) (.cons (T.ev 14 rfl) .nil)) Try.func36 rfl rfl ?_
  refine Calls.mono (sound5_any 30 30 0 0 _) ?_
  clear T
  rintro e wc ⟨rfl, hb⟩
  intro ac T
  replace M := M.call hb; clear hb
  refine sh_out hK _ _ (MA.mk (fun _ => M.mask [false, false, true, true] rfl) (M.mask [false, false, true, false] rfl)) ?_; clear hK K
  exact H18 _ _ ⟨gr2_14, gr2_7, T.pick [1, 2, 0, 3, 4, 5, 6, 7, 8, 9, 10, 11, 12, 13, 14, 15, 16, 17, 18, 19, 20, 21, 22] rfl, M⟩
 intro H15
 refine g_have (fun ac wc => ∃ (gr2_14 : Nat), Tm ac 27 [(17, .slice (some ⟨gr2_14, 0, none⟩) 2 2), (23, .agg #[.int .i64 30, .int .i64 30, .int .i64 0, .int .i64 0]), (21, .agg #[.int .i64 30, .int .i64 30]), (20, .agg #[.int .i64 30, .int .i64 30, .int .i64 0, .int .i64 0]), (18, .agg #[.int .i64 30, .int .i64 30]), (16, .agg #[.int .i64 13, .int .i64 15, .int .i64 0, .int .i64 0]), (14, .agg #[.int .i64 13, .int .i64 15]), (13, .agg #[.int .i64 20, .int .i64 20, .int .i64 0, .int .i64 0]), (11, .agg #[.int .i64 20, .int .i64 20]), (9, .agg #[.int .i64 0, .int .i64 0, .int .i64 0, .int .i64 0]), (7, .agg #[.int .i64 0, .int .i64 0]), (6, .agg #[.int .i64 (-1), .int .i64 1, .int .i64 0, .int .i64 0]), (4, .agg #[.int .i64 (-1), .int .i64 1]), (3, .agg #[.int .i64 20, .int .i64 (-2), .int .i64 4, .int .i64 2]), (22, .agg #[.int .i64 0, .int .i64 0]), (19, .agg #[.int .i64 0, .int .i64 0]), (15, .agg #[.int .i64 0, .int .i64 0]), (12, .agg #[.int .i64 0, .int .i64 0]), (8, .agg #[.int .i64 0, .int .i64 0]), (5, .agg #[.int .i64 0, .int .i64 0]), (1, .pointer (some ⟨g2, 0, none⟩)), (0, .pointer (some ⟨g1, 0, none⟩))] ∧ Mem w noEx wc [(gr2_14, .cells [.int .i64 20, .int .i64 20, .int .i64 0, .int .i64 0, .int .i64 13, .int .i64 15, .int .i64 0, .int .i64 0]), (g2, .cells [.int .i64 0, .int .i64 0]), (g1, .cells [.int .i64 0, .int .i64 0, .int .i64 0, .int .i64 0, .slice none 0 0])]) (pbits 25 2097023) 5 ?_ ?_
 ·clear T M
  rintro ac wc ⟨gr2_14, T, M⟩
  refine g_m2 (i := 7) (j := 21) (by kernel_rfl) ?_ ?_
  ·refine gi 2097151 ?_; intro K hK
   refine ow_bs (e := 48) [.int .i64 (-1), .int .i64 1, .int .i64 0, .int .i64 0, .int .i64 0, .int .i64 0, .int .i64 0, .int .i64 0] M T rfl rfl rfl rfl (.cons (T.ev 11 rfl) (.cons (T.ev 9 rfl) .nil)) (fun _ => by kernel_rfl) ?_; clear M T; intro gr2_7 wc ac M T
   refine sh_out hK _ _ (MA.mk (fun _ => M.mask [false, false, true, true] rfl) (M.mask [false, false, true, false] rfl)) ?_; clear hK K
   exact H18 _ _ ⟨gr2_14, gr2_7, T.pick [1, 0, 2, 3, 4, 5, 6, 7, 8, 9, 10, 11, 12, 13, 14, 15, 16, 17, 18, 19, 20, 21, 22] rfl, M.perm [1, 0, 2, 3] rfl rfl⟩
  refine gi 4194175 ?_; intro K hK
  refine ow_bs (e := 48) [.int .i64 30, .int .i64 30, .int .i64 0, .int .i64 0, .int .i64 30, .int .i64 30, .int .i64 0, .int .i64 0] M T rfl rfl rfl rfl (.cons (T.ev 3 rfl) (.cons (T.ev 1 rfl) .nil)) (fun _ => by kernel_rfl) ?_; clear M T; intro gr2_21 wc ac M T
  refine sh_out hK _ _ (MA.mk (fun _ => M.mask [false, false, true, true] rfl) (M.mask [false, false, true, false] rfl)) ?_; clear hK K
  exact H17 _ _ ⟨gr2_14, gr2_21, T.pick [1, 0, 2, 3, 4, 5, 6, 7, 8, 9, 10, 11, 12, 13, 14, 15, 16, 17, 18, 19, 20, 21, 22] rfl, M.perm [1, 0, 2, 3] rfl rfl⟩
 intro H14
 refine g_have (fun ac wc => ∃ (gr2_7 : Nat), Tm ac 27 [(10, .slice (some ⟨gr2_7, 0, none⟩) 2 2), (23, .agg #[.int .i64 30, .int .i64 30, .int .i64 0, .int .i64 0]), (21, .agg #[.int .i64 30, .int .i64 30]), (20, .agg #[.int .i64 30, .int .i64 30, .int .i64 0, .int .i64 0]), (18, .agg #[.int .i64 30, .int .i64 30]), (16, .agg #[.int .i64 13, .int .i64 15, .int .i64 0, .int .i64 0]), (14, .agg #[.int .i64 13, .int .i64 15]), (13, .agg #[.int .i64 20, .int .i64 20, .int .i64 0, .int .i64 0]), (11, .agg #[.int .i64 20, .int .i64 20]), (9, .agg #[.int .i64 0, .int .i64 0, .int .i64 0, .int .i64 0]), (7, .agg #[.int .i64 0, .int .i64 0]), (6, .agg #[.int .i64 (-1), .int .i64 1, .int .i64 0, .int .i64 0]), (4, .agg #[.int .i64 (-1), .int .i64 1]), (3, .agg #[.int .i64 20, .int .i64 (-2), .int .i64 4, .int .i64 2]), (22, .agg #[.int .i64 0, .int .i64 0]), (19, .agg #[.int .i64 0, .int .i64 0]), (15, .agg #[.int .i64 0, .int .i64 0]), (12, .agg #[.int .i64 0, .int .i64 0]), (8, .agg #[.int .i64 0, .int .i64 0]), (5, .agg #[.int .i64 0, .int .i64 0]), (1, .pointer (some ⟨g2, 0, none⟩)), (0, .pointer (some ⟨g1, 0, none⟩))] ∧ Mem w noEx wc [(gr2_7, .cells [.int .i64 (-1), .int .i64 1, .int .i64 0, .int .i64 0, .int .i64 0, .int .i64 0, .int .i64 0, .int .i64 0]), (g2, .cells [.int .i64 0, .int .i64 0]), (g1, .cells [.int .i64 0, .int .i64 0, .int .i64 0, .int .i64 0, .slice none 0 0])]) (pbits 25 2080767) 5 ?_ ?_
 ·clear T M
  rintro ac wc ⟨gr2_7, T, M⟩
  refine g_m2 (i := 14) (j := 21) (by kernel_rfl) ?_ ?_
  ·refine gi 2097151 ?_; intro K hK
   refine ow_bs (e := 48) [.int .i64 20, .int .i64 20, .int .i64 0, .int .i64 0, .int .i64 13, .int .i64 15, .int .i64 0, .int .i64 0] M T rfl rfl rfl rfl (.cons (T.ev 7 rfl) (.cons (T.ev 5 rfl) .nil)) (fun _ => by kernel_rfl) ?_; clear M T; intro gr2_14 wc ac M T
   refine sh_out hK _ _ (MA.mk (fun _ => M.mask [false, false, true, true] rfl) (M.mask [false, false, true, false] rfl)) ?_; clear hK K
   exact H18 _ _ ⟨gr2_14, gr2_7, T, M⟩
  refine gi 4177919 ?_; intro K hK
  refine ow_bs (e := 48) [.int .i64 30, .int .i64 30, .int .i64 0, .int .i64 0, .int .i64 30, .int .i64 30, .int .i64 0, .int .i64 0] M T rfl rfl rfl rfl (.cons (T.ev 3 rfl) (.cons (T.ev 1 rfl) .nil)) (fun _ => by kernel_rfl) ?_; clear M T; intro gr2_21 wc ac M T
  refine sh_out hK _ _ (MA.mk (fun _ => M.mask [false, false, true, true] rfl) (M.mask [false, false, true, false] rfl)) ?_; clear hK K
  exact H16 _ _ ⟨gr2_7, gr2_21, T.pick [1, 0, 2, 3, 4, 5, 6, 7, 8, 9, 10, 11, 12, 13, 14, 15, 16, 17, 18, 19, 20, 21, 22] rfl, M.perm [1, 0, 2, 3] rfl rfl⟩
 intro H13
 refine g_have (fun ac wc => ∃ (gr2_14 gr2_7 : Nat), Tm ac 27 [(17, .slice (some ⟨gr2_14, 0, none⟩) 2 2), (10, .slice (some ⟨gr2_7, 0, none⟩) 2 2), (20, .agg #[.int .i64 30, .int .i64 30, .int .i64 0, .int .i64 0]), (18, .agg #[.int .i64 30, .int .i64 30]), (16, .agg #[.int .i64 13, .int .i64 15, .int .i64 0, .int .i64 0]), (14, .agg #[.int .i64 13, .int .i64 15]), (13, .agg #[.int .i64 20, .int .i64 20, .int .i64 0, .int .i64 0]), (11, .agg #[.int .i64 20, .int .i64 20]), (9, .agg #[.int .i64 0, .int .i64 0, .int .i64 0, .int .i64 0]), (7, .agg #[.int .i64 0, .int .i64 0]), (6, .agg #[.int .i64 (-1), .int .i64 1, .int .i64 0, .int .i64 0]), (4, .agg #[.int .i64 (-1), .int .i64 1]), (3, .agg #[.int .i64 20, .int .i64 (-2), .int .i64 4, .int .i64 2]), (22, .agg #[.int .i64 0, .int .i64 0]), (19, .agg #[.int .i64 0, .int .i64 0]), (15, .agg #[.int .i64 0, .int .i64 0]), (12, .agg #[.int .i64 0, .int .i64 0]), (8, .agg #[.int .i64 0, .int .i64 0]), (5, .agg #[.int .i64 0, .int .i64 0]), (1, .pointer (some ⟨g2, 0, none⟩)), (0, .pointer (some ⟨g1, 0, none⟩))] ∧ Mem w noEx wc [(gr2_14, .cells [.int .i64 20, .int .i64 20, .int .i64 0, .int .i64 0, .int .i64 13, .int .i64 15, .int .i64 0, .int .i64 0]), (gr2_7, .cells [.int .i64 (-1), .int .i64 1, .int .i64 0, .int .i64 0, .int .i64 0, .int .i64 0, .int .i64 0, .int .i64 0]), (g2, .cells [.int .i64 0, .int .i64 0]), (g1, .cells [.int .i64 0, .int .i64 0, .int .i64 0, .int .i64 0, .slice none 0 0])]) (pbits 25 786431) 6 ?_ ?_
 ·clear T M
  rintro ac wc ⟨gr2_14, gr2_7, T, M⟩
  refine gw 18 1048575 ?_; intro K hK
  refine ow_call (first := []) (cap := []) T rfl rfl rfl rfl evf (.cons evc (.cons evc .nil)) Try.func24 rfl rfl ?_
  refine Calls.mono (to5_any 30 30 _) ?_
  clear T
  rintro e wc ⟨rfl, hb⟩
  intro ac T
  replace M := M.call hb; clear hb
  refine sh_out hK _ _ (MA.mk (fun _ => M.mask [false, false, true, true] rfl) (M.mask [false, false, true, false] rfl)) ?_; clear hK K
  exact H15 _ _ ⟨gr2_14, gr2_7, T.pick [1, 2, 0, 3, 4, 5, 6, 7, 8, 9, 10, 11, 12, 13, 14, 15, 16, 17, 18, 19, 20, 21] rfl, M⟩
 intro H12
 refine g_have (fun ac wc => ∃ (gr2_14 : Nat), Tm ac 27 [(17, .slice (some ⟨gr2_14, 0, none⟩) 2 2), (21, .agg #[.int .i64 30, .int .i64 30]), (20, .agg #[.int .i64 30, .int .i64 30, .int .i64 0, .int .i64 0]), (18, .agg #[.int .i64 30, .int .i64 30]), (16, .agg #[.int .i64 13, .int .i64 15, .int .i64 0, .int .i64 0]), (14, .agg #[.int .i64 13, .int .i64 15]), (13, .agg #[.int .i64 20, .int .i64 20, .int .i64 0, .int .i64 0]), (11, .agg #[.int .i64 20, .int .i64 20]), (9, .agg #[.int .i64 0, .int .i64 0, .int .i64 0, .int .i64 0]), (7, .agg #[.int .i64 0, .int .i64 0]), (6, .agg #[.int .i64 (-1), .int .i64 1, .int .i64 0, .int .i64 0]), (4, .agg #[.int .i64 (-1), .int .i64 1]), (3, .agg #[.int .i64 20, .int .i64 (-2), .int .i64 4, .int .i64 2]), (22, .agg #[.int .i64 0, .int .i64 0]), (19, .agg #[.int .i64 0, .int .i64 0]), (15, .agg #[.int .i64 0, .int .i64 0]), (12, .agg #[.int .i64 0, .int .i64 0]), (8, .agg #[.int .i64 0, .int .i64 0]), (5, .agg #[.int .i64 0, .int .i64 0]), (1, .pointer (some ⟨g2, 0, none⟩)), (0, .pointer (some ⟨g1, 0, none⟩))] ∧ Mem w noEx wc [(gr2_14, .cells [.int .i64 20, .int .i64 20, .int .i64 0, .int .i64 0, .int .i64 13, .int .i64 15, .int .i64 0, .int .i64 0]), (g2, .cells [.int .i64 0, .int .i64 0]), (g1, .cells [.int .i64 0, .int .i64 0, .int .i64 0, .int .i64 0, .slice none 0 0])]) (pbits 25 1048447) 6 ?_ ?_
 ·clear T M
  rintro ac wc ⟨gr2_14, T, M⟩
  refine g_m2 (i := 7) (j := 20) (by kernel_rfl) ?_ ?_
  ·refine gi 1048575 ?_; intro K hK
   refine ow_bs (e := 48) [.int .i64 (-1), .int .i64 1, .int .i64 0, .int .i64 0, .int .i64 0, .int .i64 0, .int .i64 0, .int .i64 0] M T rfl rfl rfl rfl (.cons (T.ev 10 rfl) (.cons (T.ev 8 rfl) .nil)) (fun _ => by kernel_rfl) ?_; clear M T; intro gr2_7 wc ac M T
   refine sh_out hK _ _ (MA.mk (fun _ => M.mask [false, false, true, true] rfl) (M.mask [false, false, true, false] rfl)) ?_; clear hK K
   exact H15 _ _ ⟨gr2_14, gr2_7, T.pick [1, 0, 2, 3, 4, 5, 6, 7, 8, 9, 10, 11, 12, 13, 14, 15, 16, 17, 18, 19, 20, 21] rfl, M.perm [1, 0, 2, 3] rfl rfl⟩
  refine gi 2097023 ?_; intro K hK
  refine ow_call (first := []) (cap := []) T rfl rfl rfl rfl evf (.cons (T.ev 1 rfl) (.cons (T.ev 13 rfl) .nil)) Try.func36 rfl rfl ?_
  refine Calls.mono (sound5_any 30 30 0 0 _) ?_
  clear T
  rintro e wc ⟨rfl, hb⟩
  intro ac T
  replace M := M.call hb; clear hb
  refine sh_out hK _ _ (MA.mk (fun _ => M.mask [false, true, true] rfl) (M.mask [false, true, false] rfl)) ?_; clear hK K
  exact H14 _ _ ⟨gr2_14, T.pick [1, 0, 2, 3, 4, 5, 6, 7, 8, 9, 10, 11, 12, 13, 14, 15, 16, 17, 18, 19, 20, 21] rfl, M⟩
 intro H11
 refine g_have (fun ac wc => ∃ (gr2_7 : Nat), Tm ac 27 [(10, .slice (some ⟨gr2_7, 0, none⟩) 2 2), (21, .agg #[.int .i64 30, .int .i64 30]), (20, .agg #[.int .i64 30, .int .i64 30, .int .i64 0, .int .i64 0]), (18, .agg #[.int .i64 30, .int .i64 30]), (16, .agg #[.int .i64 13, .int .i64 15, .int .i64 0, .int .i64 0]), (14, .agg #[.int .i64 13, .int .i64 15]), (13, .agg #[.int .i64 20, .int .i64 20, .int .i64 0, .int .i64 0]), (11, .agg #[.int .i64 20, .int .i64 20]), (9, .agg #[.int .i64 0, .int .i64 0, .int .i64 0, .int .i64 0]), (7, .agg #[.int .i64 0, .int .i64 0]), (6, .agg #[.int .i64 (-1), .int .i64 1, .int .i64 0, .int .i64 0]), (4, .agg #[.int .i64 (-1), .int .i64 1]), (3, .agg #[.int .i64 20, .int .i64 (-2), .int .i64 4, .int .i64 2]), (22, .agg #[.int .i64 0, .int .i64 0]), (19, .agg #[.int .i64 0, .int .i64 0]), (15, .agg #[.int .i64 0, .int .i64 0]), (12, .agg #[.int .i64 0, .int .i64 0]), (8, .agg #[.int .i64 0, .int .i64 0]), (5, .agg #[.int .i64 0, .int .i64 0]), (1, .pointer (some ⟨g2, 0, none⟩)), (0, .pointer (some ⟨g1, 0, none⟩))] ∧ Mem w noEx wc [(gr2_7, .cells [.int .i64 (-1), .int .i64 1, .int .i64 0, .int .i64 0, .int .i64 0, .int .i64 0, .int .i64 0, .int .i64 0]), (g2, .cells [.int .i64 0, .int .i64 0]), (g1, .cells [.int .i64 0, .int .i64 0, .int .i64 0, .int .i64 0, .slice none 0 0])]) (pbits 25 1032191) 6 ?_ ?_
 ·clear T M
  rintro ac wc ⟨gr2_7, T, M⟩
  refine g_m2 (i := 14) (j := 20) (by kernel_rfl) ?_ ?_
  ·refine gi 1048575 ?_; intro K hK
   refine ow_bs (e := 48) [.int .i64 20, .int .i64 20, .int .i64 0, .int .i64 0, .int .i64 13, .int .i64 15, .int .i64 0, .int .i64 0] M T rfl rfl rfl rfl (.cons (T.ev 6 rfl) (.cons (T.ev 4 rfl) .nil)) (fun _ => by kernel_rfl) ?_; clear M T; intro gr2_14 wc ac M T
   refine sh_out hK _ _ (MA.mk (fun _ => M.mask [false, false, true, true] rfl) (M.mask [false, false, true, false] rfl)) ?_; clear hK K
   exact H15 _ _ ⟨gr2_14, gr2_7, T, M⟩
  refine gi 2080767 ?_; intro K hK
  refine ow_call (first := []) (cap := []) T rfl rfl rfl rfl evf (.cons (T.ev 1 rfl) (.cons (T.ev 13 rfl) .nil)) Try.func36 rfl rfl ?_
  refine Calls.mono (sound5_any 30 30 0 0 _) ?_
  clear T
  rintro e wc ⟨rfl, hb⟩
  intro ac T
  replace M := M.call hb; clear hb
  refine sh_out hK _ _ (MA.mk (fun _ => M.mask [false, true, true] rfl) (M.mask [false, true, false] rfl)) ?_; clear hK K
  exact H13 _ _ ⟨gr2_7, T.pick [1, 0, 2, 3, 4, 5, 6, 7, 8, 9, 10, 11, 12, 13, 14, 15, 16, 17, 18, 19, 20, 21] rfl, M⟩
 intro H10
 refine g_have (fun ac wc => ∃ (gr2_14 gr2_7 : Nat), Tm ac 27 [(17, .slice (some ⟨gr2_14, 0, none⟩) 2 2), (10, .slice (some ⟨gr2_7, 0, none⟩) 2 2), (18, .agg #[.int .i64 30, .int .i64 30]), (16, .agg #[.int .i64 13, .int .i64 15, .int .i64 0, .int .i64 0]), (14, .agg #[.int .i64 13, .int .i64 15]), (13, .agg #[.int .i64 20, .int .i64 20, .int .i64 0, .int .i64 0]), (11, .agg #[.int .i64 20, .int .i64 20]), (9, .agg #[.int .i64 0, .int .i64 0, .int .i64 0, .int .i64 0]), (7, .agg #[.int .i64 0, .int .i64 0]), (6, .agg #[.int .i64 (-1), .int .i64 1, .int .i64 0, .int .i64 0]), (4, .agg #[.int .i64 (-1), .int .i64 1]), (3, .agg #[.int .i64 20, .int .i64 (-2), .int .i64 4, .int .i64 2]), (22, .agg #[.int .i64 0, .int .i64 0]), (19, .agg #[.int .i64 0, .int .i64 0]), (15, .agg #[.int .i64 0, .int .i64 0]), (12, .agg #[.int .i64 0, .int .i64 0]), (8, .agg #[.int .i64 0, .int .i64 0]), (5, .agg #[.int .i64 0, .int .i64 0]), (1, .pointer (some ⟨g2, 0, none⟩)), (0, .pointer (some ⟨g1, 0, none⟩))] ∧ Mem w noEx wc [(gr2_14, .cells [.int .i64 20, .int .i64 20, .int .i64 0, .int .i64 0, .int .i64 13, .int .i64 15, .int .i64 0, .int .i64 0]), (gr2_7, .cells [.int .i64 (-1), .int .i64 1, .int .i64 0, .int .i64 0, .int .i64 0, .int .i64 0, .int .i64 0, .int .i64 0]), (g2, .cells [.int .i64 0, .int .i64 0]), (g1, .cells [.int .i64 0, .int .i64 0, .int .i64 0, .int .i64 0, .slice none 0 0])]) (pbits 25 655359) 7 ?_ ?_
 ·clear T M
  rintro ac wc ⟨gr2_14, gr2_7, T, M⟩
  refine gw 17 786431 ?_; intro K hK
  refine ow_call (first := []) (cap := []) T rfl rfl rfl rfl evf (.cons (T.ev 2 rfl) (.cons (T.ev 13 rfl) .nil)) Try.func36 rfl rfl ?_
  refine Calls.mono (sound5_any 30 30 0 0 _) ?_
  clear T
  rintro e wc ⟨rfl, hb⟩
  intro ac T
  replace M := M.call hb; clear hb
  refine sh_out hK _ _ (MA.mk (fun _ => M.mask [false, false, true, true] rfl) (M.mask [false, false, true, false] rfl)) ?_; clear hK K
  exact H12 _ _ ⟨gr2_14, gr2_7, T.pick [1, 2, 0, 3, 4, 5, 6, 7, 8, 9, 10, 11, 12, 13, 14, 15, 16, 17, 18, 19, 20] rfl, M⟩
 intro H9
 refine g_have (fun ac wc => ∃ (gr2_14 : Nat), Tm ac 27 [(17, .slice (some ⟨gr2_14, 0, none⟩) 2 2), (20, .agg #[.int .i64 30, .int .i64 30, .int .i64 0, .int .i64 0]), (18, .agg #[.int .i64 30, .int .i64 30]), (16, .agg #[.int .i64 13, .int .i64 15, .int .i64 0, .int .i64 0]), (14, .agg #[.int .i64 13, .int .i64 15]), (13, .agg #[.int .i64 20, .int .i64 20, .int .i64 0, .int .i64 0]), (11, .agg #[.int .i64 20, .int .i64 20]), (9, .agg #[.int .i64 0, .int .i64 0, .int .i64 0, .int .i64 0]), (7, .agg #[.int .i64 0, .int .i64 0]), (6, .agg #[.int .i64 (-1), .int .i64 1, .int .i64 0, .int .i64 0]), (4, .agg #[.int .i64 (-1), .int .i64 1]), (3, .agg #[.int .i64 20, .int .i64 (-2), .int .i64 4, .int .i64 2]), (22, .agg #[.int .i64 0, .int .i64 0]), (19, .agg #[.int .i64 0, .int .i64 0]), (15, .agg #[.int .i64 0, .int .i64 0]), (12, .agg #[.int .i64 0, .int .i64 0]), (8, .agg #[.int .i64 0, .int .i64 0]), (5, .agg #[.int .i64 0, .int .i64 0]), (1, .pointer (some ⟨g2, 0, none⟩)), (0, .pointer (some ⟨g1, 0, none⟩))] ∧ Mem w noEx wc [(gr2_14, .cells [.int .i64 20, .int .i64 20, .int .i64 0, .int .i64 0, .int .i64 13, .int .i64 15, .int .i64 0, .int .i64 0]), (g2, .cells [.int .i64 0, .int .i64 0]), (g1, .cells [.int .i64 0, .int .i64 0, .int .i64 0, .int .i64 0, .slice none 0 0])]) (pbits 25 786303) 7 ?_ ?_
 ·clear T M
  rintro ac wc ⟨gr2_14, T, M⟩
  refine g_m2 (i := 7) (j := 18) (by kernel_rfl) ?_ ?_
  ·refine gi 786431 ?_; intro K hK
   refine ow_bs (e := 48) [.int .i64 (-1), .int .i64 1, .int .i64 0, .int .i64 0, .int .i64 0, .int .i64 0, .int .i64 0, .int .i64 0] M T rfl rfl rfl rfl (.cons (T.ev 9 rfl) (.cons (T.ev 7 rfl) .nil)) (fun _ => by kernel_rfl) ?_; clear M T; intro gr2_7 wc ac M T
   refine sh_out hK _ _ (MA.mk (fun _ => M.mask [false, false, true, true] rfl) (M.mask [false, false, true, false] rfl)) ?_; clear hK K
   exact H12 _ _ ⟨gr2_14, gr2_7, T.pick [1, 0, 2, 3, 4, 5, 6, 7, 8, 9, 10, 11, 12, 13, 14, 15, 16, 17, 18, 19, 20] rfl, M.perm [1, 0, 2, 3] rfl rfl⟩
  refine gi 1048447 ?_; intro K hK
  refine ow_call (first := []) (cap := []) T rfl rfl rfl rfl evf (.cons evc (.cons evc .nil)) Try.func24 rfl rfl ?_
  refine Calls.mono (to5_any 30 30 _) ?_
  clear T
  rintro e wc ⟨rfl, hb⟩
  intro ac T
  replace M := M.call hb; clear hb
  refine sh_out hK _ _ (MA.mk (fun _ => M.mask [false, true, true] rfl) (M.mask [false, true, false] rfl)) ?_; clear hK K
  exact H11 _ _ ⟨gr2_14, T.pick [1, 0, 2, 3, 4, 5, 6, 7, 8, 9, 10, 11, 12, 13, 14, 15, 16, 17, 18, 19, 20] rfl, M⟩
 intro H8
 refine g_have (fun ac wc => ∃ (gr2_7 : Nat), Tm ac 27 [(10, .slice (some ⟨gr2_7, 0, none⟩) 2 2), (20, .agg #[.int .i64 30, .int .i64 30, .int .i64 0, .int .i64 0]), (18, .agg #[.int .i64 30, .int .i64 30]), (16, .agg #[.int .i64 13, .int .i64 15, .int .i64 0, .int .i64 0]), (14, .agg #[.int .i64 13, .int .i64 15]), (13, .agg #[.int .i64 20, .int .i64 20, .int .i64 0, .int .i64 0]), (11, .agg #[.int .i64 20, .int .i64 20]), (9, .agg #[.int .i64 0, .int .i64 0, .int .i64 0, .int .i64 0]), (7, .agg #[.int .i64 0, .int .i64 0]), (6, .agg #[.int .i64 (-1), .int .i64 1, .int .i64 0, .int .i64 0]), (4, .agg #[.int .i64 (-1), .int .i64 1]), (3, .agg #[.int .i64 20, .int .i64 (-2), .int .i64 4, .int .i64 2]), (22, .agg #[.int .i64 0, .int .i64 0]), (19, .agg #[.int .i64 0, .int .i64 0]), (15, .agg #[.int .i64 0, .int .i64 0]), (12, .agg #[.int .i64 0, .int .i64 0]), (8, .agg #[.int .i64 0, .int .i64 0]), (5, .agg #[.int .i64 0, .int .i64 0]), (1, .pointer (some ⟨g2, 0, none⟩)), (0, .pointer (some ⟨g1, 0, none⟩))] ∧ Mem w noEx wc [(gr2_7, .cells [.int .i64 (-1), .int .i64 1, .int .i64 0, .int .i64 0, .int .i64 0, .int .i64 0, .int .i64 0, .int .i64 0]), (g2, .cells [.int .i64 0, .int .i64 0]), (g1, .cells [.int .i64 0, .int .i64 0, .int .i64 0, .int .i64 0, .slice none 0 0])]) (pbits 25 770047) 7 ?_ ?_
 ·clear T M
  rintro ac wc ⟨gr2_7, T, M⟩
  refine g_m2 (i := 14) (j := 18) (by kernel_rfl) ?_ ?_
  ·refine gi 786431 ?_; intro K hK
   refine ow_bs (e := 48) [.int .i64 20, .int .i64 20, .int .i64 0, .int .i64 0, .int .i64 13, .int .i64 15, .int .i64 0, .int .i64 0] M T rfl rfl rfl rfl (.cons (T.ev 5 rfl) (.cons (T.ev 3 rfl) .nil)) (fun _ => by kernel_rfl) ?_; clear M T; intro gr2_14 wc ac M T
   refine sh_out hK _ _ (MA.mk (fun _ => M.mask [false, false, true, true] rfl) (M.mask [false, false, true, false] rfl)) ?_; clear hK K
   exact H12 _ _ ⟨gr2_14, gr2_7, T, M⟩
  refine gi 1032191 ?_; intro K hK
  refine ow_call (first := []) (cap := []) T rfl rfl rfl rfl evf (.cons evc (.cons evc .nil)) Try.func24 rfl rfl ?_
  refine Calls.mono (to5_any 30 30 _) ?_
  clear T
  rintro e wc ⟨rfl, hb⟩
  intro ac T
  replace M := M.call hb; clear hb
  refine sh_out hK _ _ (MA.mk (fun _ => M.mask [false, true, true] rfl) (M.mask [false, true, false] rfl)) ?_; clear hK K
  exact H10 _ _ ⟨gr2_7, T.pick [1, 0, 2, 3, 4, 5, 6, 7, 8, 9, 10, 11, 12, 13, 14, 15, 16, 17, 18, 19, 20] rfl, M⟩
 intro H7
 refine g_have (fun ac wc => ∃ (gr2_7 gr2_14 : Nat), Tm ac 27 [(10, .slice (some ⟨gr2_7, 0, none⟩) 2 2), (17, .slice (some ⟨gr2_14, 0, none⟩) 2 2), (16, .agg #[.int .i64 13, .int .i64 15, .int .i64 0, .int .i64 0]), (14, .agg #[.int .i64 13, .int .i64 15]), (13, .agg #[.int .i64 20, .int .i64 20, .int .i64 0, .int .i64 0]), (11, .agg #[.int .i64 20, .int .i64 20]), (9, .agg #[.int .i64 0, .int .i64 0, .int .i64 0, .int .i64 0]), (7, .agg #[.int .i64 0, .int .i64 0]), (6, .agg #[.int .i64 (-1), .int .i64 1, .int .i64 0, .int .i64 0]), (4, .agg #[.int .i64 (-1), .int .i64 1]), (3, .agg #[.int .i64 20, .int .i64 (-2), .int .i64 4, .int .i64 2]), (22, .agg #[.int .i64 0, .int .i64 0]), (19, .agg #[.int .i64 0, .int .i64 0]), (15, .agg #[.int .i64 0, .int .i64 0]), (12, .agg #[.int .i64 0, .int .i64 0]), (8, .agg #[.int .i64 0, .int .i64 0]), (5, .agg #[.int .i64 0, .int .i64 0]), (1, .pointer (some ⟨g2, 0, none⟩)), (0, .pointer (some ⟨g1, 0, none⟩))] ∧ Mem w noEx wc [(gr2_7, .cells [.int .i64 (-1), .int .i64 1, .int .i64 0, .int .i64 0, .int .i64 0, .int .i64 0, .int .i64 0, .int .i64 0]), (gr2_14, .cells [.int .i64 20, .int .i64 20, .int .i64 0, .int .i64 0, .int .i64 13, .int .i64 15, .int .i64 0, .int .i64 0]), (g2, .cells [.int .i64 0, .int .i64 0]), (g1, .cells [.int .i64 0, .int .i64 0, .int .i64 0, .int .i64 0, .slice none 0 0])]) (pbits 25 622591) 8 ?_ ?_
 ·clear T M
  rintro ac wc ⟨gr2_7, gr2_14, T, M⟩
  refine gw 15 655359 ?_; intro K hK
  refine ow_call (first := []) (cap := []) T rfl rfl rfl rfl evf (.cons evc (.cons evc .nil)) Try.func24 rfl rfl ?_
  refine Calls.mono (to5_any 30 30 _) ?_
  clear T
  rintro e wc ⟨rfl, hb⟩
  intro ac T
  replace M := M.call hb; clear hb
  refine sh_out hK _ _ (MA.mk (fun _ => M.mask [false, false, true, true] rfl) (M.mask [false, false, true, false] rfl)) ?_; clear hK K
  exact H9 _ _ ⟨gr2_14, gr2_7, T.pick [2, 1, 0, 3, 4, 5, 6, 7, 8, 9, 10, 11, 12, 13, 14, 15, 16, 17, 18, 19] rfl, M.perm [1, 0, 2, 3] rfl rfl⟩
 intro H6
 refine g_have (fun ac wc => ∃ (gr2_14 : Nat), Tm ac 27 [(18, .agg #[.int .i64 30, .int .i64 30]), (17, .slice (some ⟨gr2_14, 0, none⟩) 2 2), (16, .agg #[.int .i64 13, .int .i64 15, .int .i64 0, .int .i64 0]), (14, .agg #[.int .i64 13, .int .i64 15]), (13, .agg #[.int .i64 20, .int .i64 20, .int .i64 0, .int .i64 0]), (11, .agg #[.int .i64 20, .int .i64 20]), (9, .agg #[.int .i64 0, .int .i64 0, .int .i64 0, .int .i64 0]), (7, .agg #[.int .i64 0, .int .i64 0]), (6, .agg #[.int .i64 (-1), .int .i64 1, .int .i64 0, .int .i64 0]), (4, .agg #[.int .i64 (-1), .int .i64 1]), (3, .agg #[.int .i64 20, .int .i64 (-2), .int .i64 4, .int .i64 2]), (22, .agg #[.int .i64 0, .int .i64 0]), (19, .agg #[.int .i64 0, .int .i64 0]), (15, .agg #[.int .i64 0, .int .i64 0]), (12, .agg #[.int .i64 0, .int .i64 0]), (8, .agg #[.int .i64 0, .int .i64 0]), (5, .agg #[.int .i64 0, .int .i64 0]), (1, .pointer (some ⟨g2, 0, none⟩)), (0, .pointer (some ⟨g1, 0, none⟩))] ∧ Mem w noEx wc [(gr2_14, .cells [.int .i64 20, .int .i64 20, .int .i64 0, .int .i64 0, .int .i64 13, .int .i64 15, .int .i64 0, .int .i64 0]), (g2, .cells [.int .i64 0, .int .i64 0]), (g1, .cells [.int .i64 0, .int .i64 0, .int .i64 0, .int .i64 0, .slice none 0 0])]) (pbits 25 655231) 8 ?_ ?_
 ·clear T M
  rintro ac wc ⟨gr2_14, T, M⟩
  refine g_m2 (i := 7) (j := 17) (by kernel_rfl) ?_ ?_
  ·refine gi 655359 ?_; intro K hK
   refine ow_bs (e := 48) [.int .i64 (-1), .int .i64 1, .int .i64 0, .int .i64 0, .int .i64 0, .int .i64 0, .int .i64 0, .int .i64 0] M T rfl rfl rfl rfl (.cons (T.ev 8 rfl) (.cons (T.ev 6 rfl) .nil)) (fun _ => by kernel_rfl) ?_; clear M T; intro gr2_7 wc ac M T
   refine sh_out hK _ _ (MA.mk (fun _ => M.mask [false, false, true, true] rfl) (M.mask [false, false, true, false] rfl)) ?_; clear hK K
   exact H9 _ _ ⟨gr2_14, gr2_7, T.pick [2, 0, 1, 3, 4, 5, 6, 7, 8, 9, 10, 11, 12, 13, 14, 15, 16, 17, 18, 19] rfl, M.perm [1, 0, 2, 3] rfl rfl⟩
  refine gi 786303 ?_; intro K hK
  refine ow_call (first := []) (cap := []) T rfl rfl rfl rfl evf (.cons (T.ev 0 rfl) (.cons (T.ev 12 rfl) .nil)) Try.func36 rfl rfl ?_
  refine Calls.mono (sound5_any 30 30 0 0 _) ?_
  clear T
  rintro e wc ⟨rfl, hb⟩
  intro ac T
  replace M := M.call hb; clear hb
  refine sh_out hK _ _ (MA.mk (fun _ => M.mask [false, true, true] rfl) (M.mask [false, true, false] rfl)) ?_; clear hK K
  exact H8 _ _ ⟨gr2_14, T.pick [2, 0, 1, 3, 4, 5, 6, 7, 8, 9, 10, 11, 12, 13, 14, 15, 16, 17, 18, 19] rfl, M⟩
 intro H5
 refine g_have (fun ac wc => ∃ (gr2_7 : Nat), Tm ac 27 [(10, .slice (some ⟨gr2_7, 0, none⟩) 2 2), (18, .agg #[.int .i64 30, .int .i64 30]), (16, .agg #[.int .i64 13, .int .i64 15, .int .i64 0, .int .i64 0]), (14, .agg #[.int .i64 13, .int .i64 15]), (13, .agg #[.int .i64 20, .int .i64 20, .int .i64 0, .int .i64 0]), (11, .agg #[.int .i64 20, .int .i64 20]), (9, .agg #[.int .i64 0, .int .i64 0, .int .i64 0, .int .i64 0]), (7, .agg #[.int .i64 0, .int .i64 0]), (6, .agg #[.int .i64 (-1), .int .i64 1, .int .i64 0, .int .i64 0]), (4, .agg #[.int .i64 (-1), .int .i64 1]), (3, .agg #[.int .i64 20, .int .i64 (-2), .int .i64 4, .int .i64 2]), (22, .agg #[.int .i64 0, .int .i64 0]), (19, .agg #[.int .i64 0, .int .i64 0]), (15, .agg #[.int .i64 0, .int .i64 0]), (12, .agg #[.int .i64 0, .int .i64 0]), (8, .agg #[.int .i64 0, .int .i64 0]), (5, .agg #[.int .i64 0, .int .i64 0]), (1, .pointer (some ⟨g2, 0, none⟩)), (0, .pointer (some ⟨g1, 0, none⟩))] ∧ Mem w noEx wc [(gr2_7, .cells [.int .i64 (-1), .int .i64 1, .int .i64 0, .int .i64 0, .int .i64 0, .int .i64 0, .int .i64 0, .int .i64 0]), (g2, .cells [.int .i64 0, .int .i64 0]), (g1, .cells [.int .i64 0, .int .i64 0, .int .i64 0, .int .i64 0, .slice none 0 0])]) (pbits 25 638975) 8 ?_ ?_
 ·clear T M
  rintro ac wc ⟨gr2_7, T, M⟩
  refine g_m2 (i := 14) (j := 17) (by kernel_rfl) ?_ ?_
  ·refine gi 655359 ?_; intro K hK
   refine ow_bs (e := 48) [.int .i64 20, .int .i64 20, .int .i64 0, .int .i64 0, .int .i64 13, .int .i64 15, .int .i64 0, .int .i64 0] M T rfl rfl rfl rfl (.cons (T.ev 4 rfl) (.cons (T.ev 2 rfl) .nil)) (fun _ => by kernel_rfl) ?_; clear M T; intro gr2_14 wc ac M T
   refine sh_out hK _ _ (MA.mk (fun _ => M.mask [false, false, true, true] rfl) (M.mask [false, false, true, false] rfl)) ?_; clear hK K
   exact H9 _ _ ⟨gr2_14, gr2_7, T, M⟩
  refine gi 770047 ?_; intro K hK
  refine ow_call (first := []) (cap := []) T rfl rfl rfl rfl evf (.cons (T.ev 1 rfl) (.cons (T.ev 12 rfl) .nil)) Try.func36 rfl rfl ?_
  refine Calls.mono (sound5_any 30 30 0 0 _) ?_
  clear T
  rintro e wc ⟨rfl, hb⟩
  intro ac T
  replace M := M.call hb; clear hb
  refine sh_out hK _ _ (MA.mk (fun _ => M.mask [false, true, true] rfl) (M.mask [false, true, false] rfl)) ?_; clear hK K
  exact H7 _ _ ⟨gr2_7, T.pick [1, 0, 2, 3, 4, 5, 6, 7, 8, 9, 10, 11, 12, 13, 14, 15, 16, 17, 18, 19] rfl, M⟩
 intro H4
 refine g_have (fun ac wc => ∃ (gr2_7 : Nat), Tm ac 27 [(10, .slice (some ⟨gr2_7, 0, none⟩) 2 2), (16, .agg #[.int .i64 13, .int .i64 15, .int .i64 0, .int .i64 0]), (14, .agg #[.int .i64 13, .int .i64 15]), (13, .agg #[.int .i64 20, .int .i64 20, .int .i64 0, .int .i64 0]), (11, .agg #[.int .i64 20, .int .i64 20]), (9, .agg #[.int .i64 0, .int .i64 0, .int .i64 0, .int .i64 0]), (7, .agg #[.int .i64 0, .int .i64 0]), (6, .agg #[.int .i64 (-1), .int .i64 1, .int .i64 0, .int .i64 0]), (4, .agg #[.int .i64 (-1), .int .i64 1]), (3, .agg #[.int .i64 20, .int .i64 (-2), .int .i64 4, .int .i64 2]), (22, .agg #[.int .i64 0, .int .i64 0]), (19, .agg #[.int .i64 0, .int .i64 0]), (15, .agg #[.int .i64 0, .int .i64 0]), (12, .agg #[.int .i64 0, .int .i64 0]), (8, .agg #[.int .i64 0, .int .i64 0]), (5, .agg #[.int .i64 0, .int .i64 0]), (1, .pointer (some ⟨g2, 0, none⟩)), (0, .pointer (some ⟨g1, 0, none⟩))] ∧ Mem w noEx wc [(gr2_7, .cells [.int .i64 (-1), .int .i64 1, .int .i64 0, .int .i64 0, .int .i64 0, .int .i64 0, .int .i64 0, .int .i64 0]), (g2, .cells [.int .i64 0, .int .i64 0]), (g1, .cells [.int .i64 0, .int .i64 0, .int .i64 0, .int .i64 0, .slice none 0 0])]) (pbits 25 606207) 9 ?_ ?_
 ·clear T M
  rintro ac wc ⟨gr2_7, T, M⟩
  refine g_m2 (i := 14) (j := 15) (by kernel_rfl) ?_ ?_
  ·refine gi 622591 ?_; intro K hK
   refine ow_bs (e := 48) [.int .i64 20, .int .i64 20, .int .i64 0, .int .i64 0, .int .i64 13, .int .i64 15, .int .i64 0, .int .i64 0] M T rfl rfl rfl rfl (.cons (T.ev 3 rfl) (.cons (T.ev 1 rfl) .nil)) (fun _ => by kernel_rfl) ?_; clear M T; intro gr2_14 wc ac M T
   refine sh_out hK _ _ (MA.mk (fun _ => M.mask [false, false, true, true] rfl) (M.mask [false, false, true, false] rfl)) ?_; clear hK K
   exact H6 _ _ ⟨gr2_7, gr2_14, T.pick [1, 0, 2, 3, 4, 5, 6, 7, 8, 9, 10, 11, 12, 13, 14, 15, 16, 17, 18] rfl, M.perm [1, 0, 2, 3] rfl rfl⟩
  refine gi 638975 ?_; intro K hK
  refine ow_call (first := []) (cap := []) T rfl rfl rfl rfl evf (.cons evc (.cons evc .nil)) Try.func24 rfl rfl ?_
  refine Calls.mono (to5_any 30 30 _) ?_
  clear T
  rintro e wc ⟨rfl, hb⟩
  intro ac T
  replace M := M.call hb; clear hb
  refine sh_out hK _ _ (MA.mk (fun _ => M.mask [false, true, true] rfl) (M.mask [false, true, false] rfl)) ?_; clear hK K
  exact H4 _ _ ⟨gr2_7, T.pick [1, 0, 2, 3, 4, 5, 6, 7, 8, 9, 10, 11, 12, 13, 14, 15, 16, 17, 18] rfl, M⟩
 intro H3
 refine g_have (fun ac wc => ∃ (gr2_7 : Nat), Tm ac 27 [(10, .slice (some ⟨gr2_7, 0, none⟩) 2 2), (14, .agg #[.int .i64 13, .int .i64 15]), (13, .agg #[.int .i64 20, .int .i64 20, .int .i64 0, .int .i64 0]), (11, .agg #[.int .i64 20, .int .i64 20]), (9, .agg #[.int .i64 0, .int .i64 0, .int .i64 0, .int .i64 0]), (7, .agg #[.int .i64 0, .int .i64 0]), (6, .agg #[.int .i64 (-1), .int .i64 1, .int .i64 0, .int .i64 0]), (4, .agg #[.int .i64 (-1), .int .i64 1]), (3, .agg #[.int .i64 20, .int .i64 (-2), .int .i64 4, .int .i64 2]), (22, .agg #[.int .i64 0, .int .i64 0]), (19, .agg #[.int .i64 0, .int .i64 0]), (15, .agg #[.int .i64 0, .int .i64 0]), (12, .agg #[.int .i64 0, .int .i64 0]), (8, .agg #[.int .i64 0, .int .i64 0]), (5, .agg #[.int .i64 0, .int .i64 0]), (1, .pointer (some ⟨g2, 0, none⟩)), (0, .pointer (some ⟨g1, 0, none⟩))] ∧ Mem w noEx wc [(gr2_7, .cells [.int .i64 (-1), .int .i64 1, .int .i64 0, .int .i64 0, .int .i64 0, .int .i64 0, .int .i64 0, .int .i64 0]), (g2, .cells [.int .i64 0, .int .i64 0]), (g1, .cells [.int .i64 0, .int .i64 0, .int .i64 0, .int .i64 0, .slice none 0 0])]) (pbits 25 598015) 10 ?_ ?_
 ·clear T M
  rintro ac wc ⟨gr2_7, T, M⟩
  refine gw 13 606207 ?_; intro K hK
  refine ow_call (first := []) (cap := []) T rfl rfl rfl rfl evf (.cons (T.ev 1 rfl) (.cons (T.ev 11 rfl) .nil)) Try.func36 rfl rfl ?_
  refine Calls.mono (sound5_any 13 15 0 0 _) ?_
  clear T
  rintro e wc ⟨rfl, hb⟩
  intro ac T
  replace M := M.call hb; clear hb
  refine sh_out hK _ _ (MA.mk (fun _ => M.mask [false, true, true] rfl) (M.mask [false, true, false] rfl)) ?_; clear hK K
  exact H3 _ _ ⟨gr2_7, T.pick [1, 0, 2, 3, 4, 5, 6, 7, 8, 9, 10, 11, 12, 13, 14, 15, 16, 17] rfl, M⟩
 intro H2
 refine g_have (fun ac wc => ∃ (gr2_7 : Nat), Tm ac 27 [(10, .slice (some ⟨gr2_7, 0, none⟩) 2 2), (13, .agg #[.int .i64 20, .int .i64 20, .int .i64 0, .int .i64 0]), (11, .agg #[.int .i64 20, .int .i64 20]), (9, .agg #[.int .i64 0, .int .i64 0, .int .i64 0, .int .i64 0]), (7, .agg #[.int .i64 0, .int .i64 0]), (6, .agg #[.int .i64 (-1), .int .i64 1, .int .i64 0, .int .i64 0]), (4, .agg #[.int .i64 (-1), .int .i64 1]), (3, .agg #[.int .i64 20, .int .i64 (-2), .int .i64 4, .int .i64 2]), (22, .agg #[.int .i64 0, .int .i64 0]), (19, .agg #[.int .i64 0, .int .i64 0]), (15, .agg #[.int .i64 0, .int .i64 0]), (12, .agg #[.int .i64 0, .int .i64 0]), (8, .agg #[.int .i64 0, .int .i64 0]), (5, .agg #[.int .i64 0, .int .i64 0]), (1, .pointer (some ⟨g2, 0, none⟩)), (0, .pointer (some ⟨g1, 0, none⟩))] ∧ Mem w noEx wc [(gr2_7, .cells [.int .i64 (-1), .int .i64 1, .int .i64 0, .int .i64 0, .int .i64 0, .int .i64 0, .int .i64 0, .int .i64 0]), (g2, .cells [.int .i64 0, .int .i64 0]), (g1, .cells [.int .i64 0, .int .i64 0, .int .i64 0, .int .i64 0, .slice none 0 0])]) (pbits 25 595967) 11 ?_ ?_
 ·clear T M
  rintro ac wc ⟨gr2_7, T, M⟩
  refine gw 11 598015 ?_; intro K hK
  refine ow_call (first := []) (cap := []) T rfl rfl rfl rfl evf (.cons evc (.cons evc .nil)) Try.func24 rfl rfl ?_
  refine Calls.mono (to5_any 13 15 _) ?_
  clear T
  rintro e wc ⟨rfl, hb⟩
  intro ac T
  replace M := M.call hb; clear hb
  refine sh_out hK _ _ (MA.mk (fun _ => M.mask [false, true, true] rfl) (M.mask [false, true, false] rfl)) ?_; clear hK K
  exact H2 _ _ ⟨gr2_7, T.pick [1, 0, 2, 3, 4, 5, 6, 7, 8, 9, 10, 11, 12, 13, 14, 15, 16] rfl, M⟩
 intro H1
 refine g_have (fun ac wc => ∃ (gr2_7 : Nat), Tm ac 27 [(11, .agg #[.int .i64 20, .int .i64 20]), (10, .slice (some ⟨gr2_7, 0, none⟩) 2 2), (9, .agg #[.int .i64 0, .int .i64 0, .int .i64 0, .int .i64 0]), (7, .agg #[.int .i64 0, .int .i64 0]), (6, .agg #[.int .i64 (-1), .int .i64 1, .int .i64 0, .int .i64 0]), (4, .agg #[.int .i64 (-1), .int .i64 1]), (3, .agg #[.int .i64 20, .int .i64 (-2), .int .i64 4, .int .i64 2]), (22, .agg #[.int .i64 0, .int .i64 0]), (19, .agg #[.int .i64 0, .int .i64 0]), (15, .agg #[.int .i64 0, .int .i64 0]), (12, .agg #[.int .i64 0, .int .i64 0]), (8, .agg #[.int .i64 0, .int .i64 0]), (5, .agg #[.int .i64 0, .int .i64 0]), (1, .pointer (some ⟨g2, 0, none⟩)), (0, .pointer (some ⟨g1, 0, none⟩))] ∧ Mem w noEx wc [(gr2_7, .cells [.int .i64 (-1), .int .i64 1, .int .i64 0, .int .i64 0, .int .i64 0, .int .i64 0, .int .i64 0, .int .i64 0]), (g2, .cells [.int .i64 0, .int .i64 0]), (g1, .cells [.int .i64 0, .int .i64 0, .int .i64 0, .int .i64 0, .slice none 0 0])]) (pbits 25 594943) 12 ?_ ?_
 ·clear T M
  rintro ac wc ⟨gr2_7, T, M⟩
  refine gw 10 595967 ?_; intro K hK
  refine ow_call (first := []) (cap := []) T rfl rfl rfl rfl evf (.cons (T.ev 0 rfl) (.cons (T.ev 10 rfl) .nil)) Try.func36 rfl rfl ?_
  refine Calls.mono (sound5_any 20 20 0 0 _) ?_
  clear T
  rintro e wc ⟨rfl, hb⟩
  intro ac T
  replace M := M.call hb; clear hb
  refine sh_out hK _ _ (MA.mk (fun _ => M.mask [false, true, true] rfl) (M.mask [false, true, false] rfl)) ?_; clear hK K
  exact H1 _ _ ⟨gr2_7, T.pick [2, 0, 1, 3, 4, 5, 6, 7, 8, 9, 10, 11, 12, 13, 14, 15] rfl, M⟩
 intro H0
 refine gq T 2 4 rfl (fun B w' hD hl hS => (rn_rowO (Mem.nth (show Mem w noEx w' _ from ((MA.lft hS) (hD.wait (i := 2) (m := 24) (by kernel_rfl) hl))) 0 rfl) rfl (T.ev 0 rfl) rfl)) ?_; clear T ac; intro ac T
 refine gq T 5 36 rfl (fun B w' hD hl hS => (rn_rowO (Mem.nth (show Mem w noEx w' _ from ((MA.lft hS) (hD.wait (i := 5) (m := 24) (by kernel_rfl) hl))) 0 rfl) rfl (T.ev 1 rfl) rfl)) ?_; clear T ac; intro ac T
 refine gq T 9 548 rfl (fun B w' hD hl hS => (rn_rowO (Mem.nth (show Mem w noEx w' _ from ((MA.lft hS) (hD.wait (i := 9) (m := 24) (by kernel_rfl) hl))) 0 rfl) rfl (T.ev 2 rfl) rfl)) ?_; clear T ac; intro ac T
 refine gq T 12 4644 rfl (fun B w' hD hl hS => (rn_rowO (Mem.nth (show Mem w noEx w' _ from ((MA.lft hS) (hD.wait (i := 12) (m := 24) (by kernel_rfl) hl))) 0 rfl) rfl (T.ev 3 rfl) rfl)) ?_; clear T ac; intro ac T
 refine gq T 16 70180 rfl (fun B w' hD hl hS => (rn_rowO (Mem.nth (show Mem w noEx w' _ from ((MA.lft hS) (hD.wait (i := 16) (m := 24) (by kernel_rfl) hl))) 0 rfl) rfl (T.ev 4 rfl) rfl)) ?_; clear T ac; intro ac T
 refine gq T 19 594468 rfl (fun B w' hD hl hS => (rn_rowO (Mem.nth (show Mem w noEx w' _ from ((MA.lft hS) (hD.wait (i := 19) (m := 24) (by kernel_rfl) hl))) 0 rfl) rfl (T.ev 5 rfl) rfl)) ?_; clear T ac; intro ac T
 refine gw 0 594469 ?_; intro K hK
 refine ow_call (first := []) (cap := []) T rfl rfl rfl rfl evf .nil Try.func95 rfl rfl ?_
 refine Calls.mono (law5_any _) ?_
 clear T
 rintro e wc ⟨rfl, hb⟩
 intro ac T
 replace M := M.call hb; clear hb
 refine sh_out hK _ _ (MA.mk (fun _ => M.mask [true, true] rfl) (M.mask [true, false] rfl)) ?_; clear hK K
 refine gw 1 594471 ?_; intro K hK
 refine ow_call (first := []) (cap := []) T rfl rfl rfl rfl evf (.cons evc (.cons evc .nil)) Try.func24 rfl rfl ?_
 refine Calls.mono (to5_any (-1) 1 _) ?_
 clear T
 rintro e wc ⟨rfl, hb⟩
 intro ac T
 replace M := M.call hb; clear hb
 refine sh_out hK _ _ (MA.mk (fun _ => M.mask [true, true] rfl) (M.mask [true, false] rfl)) ?_; clear hK K
 refine gw 3 594479 ?_; intro K hK
 refine ow_call (first := []) (cap := []) T rfl rfl rfl rfl evf (.cons (T.ev 0 rfl) (.cons (T.ev 7 rfl) .nil)) Try.func36 rfl rfl ?_
 refine Calls.mono (sound5_any (-1) 1 0 0 _) ?_
 clear T
 rintro e wc ⟨rfl, hb⟩
 intro ac T
 replace M := M.call hb; clear hb
 refine sh_out hK _ _ (MA.mk (fun _ => M.mask [true, true] rfl) (M.mask [true, false] rfl)) ?_; clear hK K
 refine gw 4 594495 ?_; intro K hK
 refine ow_call (first := []) (cap := []) T rfl rfl rfl rfl evf (.cons evc (.cons evc .nil)) Try.func24 rfl rfl ?_
 refine Calls.mono (to5_any 0 0 _) ?_
 clear T
 rintro e wc ⟨rfl, hb⟩
 intro ac T
 replace M := M.call hb; clear hb
 refine sh_out hK _ _ (MA.mk (fun _ => M.mask [true, true] rfl) (M.mask [true, false] rfl)) ?_; clear hK K
 refine gw 6 594559 ?_; intro K hK
 refine ow_call (first := []) (cap := []) T rfl rfl rfl rfl evf (.cons (T.ev 0 rfl) (.cons (T.ev 8 rfl) .nil)) Try.func36 rfl rfl ?_
 refine Calls.mono (sound5_any 0 0 0 0 _) ?_
 clear T
 rintro e wc ⟨rfl, hb⟩
 intro ac T
 replace M := M.call hb; clear hb
 refine sh_out hK _ _ (MA.mk (fun _ => M.mask [true, true] rfl) (M.mask [true, false] rfl)) ?_; clear hK K
 refine g_m2 (i := 7) (j := 8) (by kernel_rfl) ?_ ?_
 ·refine gi 594687 ?_; intro K hK
  refine ow_bs (e := 48) [.int .i64 (-1), .int .i64 1, .int .i64 0, .int .i64 0, .int .i64 0, .int .i64 0, .int .i64 0, .int .i64 0] M T rfl rfl rfl rfl (.cons (T.ev 2 rfl) (.cons (T.ev 0 rfl) .nil)) (fun _ => by kernel_rfl) ?_; clear M T; intro gr2_7 wc ac M T
  refine sh_out hK _ _ (MA.mk (fun _ => M.mask [false, true, true] rfl) (M.mask [false, true, false] rfl)) ?_; clear hK K
  refine gw 8 594943 ?_; intro K hK
  refine ow_call (first := []) (cap := []) T rfl rfl rfl rfl evf (.cons evc (.cons evc .nil)) Try.func24 rfl rfl ?_
  refine Calls.mono (to5_any 20 20 _) ?_
  clear T
  rintro e wc ⟨rfl, hb⟩
  intro ac T
  replace M := M.call hb; clear hb
  refine sh_out hK _ _ (MA.mk (fun _ => M.mask [false, true, true] rfl) (M.mask [false, true, false] rfl)) ?_; clear hK K
  exact H0 _ _ ⟨gr2_7, T, M⟩
 refine gi 594815 ?_; intro K hK
 refine ow_call (first := []) (cap := []) T rfl rfl rfl rfl evf (.cons evc (.cons evc .nil)) Try.func24 rfl rfl ?_
 refine Calls.mono (to5_any 20 20 _) ?_
 clear T
 rintro e wc ⟨rfl, hb⟩
 intro ac T
 replace M := M.call hb; clear hb
 refine sh_out hK _ _ (MA.mk (fun _ => M.mask [true, true] rfl) (M.mask [true, false] rfl)) ?_; clear hK K
 refine g_m2 (i := 7) (j := 10) (by kernel_rfl) ?_ ?_
 ·refine gi 594943 ?_; intro K hK
  refine ow_bs (e := 48) [.int .i64 (-1), .int .i64 1, .int .i64 0, .int .i64 0, .int .i64 0, .int .i64 0, .int .i64 0, .int .i64 0] M T rfl rfl rfl rfl (.cons (T.ev 3 rfl) (.cons (T.ev 1 rfl) .nil)) (fun _ => by kernel_rfl) ?_; clear M T; intro gr2_7 wc ac M T
  refine sh_out hK _ _ (MA.mk (fun _ => M.mask [false, true, true] rfl) (M.mask [false, true, false] rfl)) ?_; clear hK K
  exact H0 _ _ ⟨gr2_7, T.pick [1, 0, 2, 3, 4, 5, 6, 7, 8, 9, 10, 11, 12, 13, 14] rfl, M⟩
 refine gi 595839 ?_; intro K hK
 refine ow_call (first := []) (cap := []) T rfl rfl rfl rfl evf (.cons (T.ev 0 rfl) (.cons (T.ev 9 rfl) .nil)) Try.func36 rfl rfl ?_
 refine Calls.mono (sound5_any 20 20 0 0 _) ?_
 clear T
 rintro e wc ⟨rfl, hb⟩
 intro ac T
 replace M := M.call hb; clear hb
 refine sh_out hK _ _ (MA.mk (fun _ => M.mask [true, true] rfl) (M.mask [true, false] rfl)) ?_; clear hK K
 refine g_m2 (i := 7) (j := 11) (by kernel_rfl) ?_ ?_
 ·refine gi 595967 ?_; intro K hK
  refine ow_bs (e := 48) [.int .i64 (-1), .int .i64 1, .int .i64 0, .int .i64 0, .int .i64 0, .int .i64 0, .int .i64 0, .int .i64 0] M T rfl rfl rfl rfl (.cons (T.ev 4 rfl) (.cons (T.ev 2 rfl) .nil)) (fun _ => by kernel_rfl) ?_; clear M T; intro gr2_7 wc ac M T
  refine sh_out hK _ _ (MA.mk (fun _ => M.mask [false, true, true] rfl) (M.mask [false, true, false] rfl)) ?_; clear hK K
  exact H1 _ _ ⟨gr2_7, T, M⟩
 refine gi 597887 ?_; intro K hK
 refine ow_call (first := []) (cap := []) T rfl rfl rfl rfl evf (.cons evc (.cons evc .nil)) Try.func24 rfl rfl ?_
 refine Calls.mono (to5_any 13 15 _) ?_
 clear T
 rintro e wc ⟨rfl, hb⟩
 intro ac T
 replace M := M.call hb; clear hb
 refine sh_out hK _ _ (MA.mk (fun _ => M.mask [true, true] rfl) (M.mask [true, false] rfl)) ?_; clear hK K
 refine g_m2 (i := 7) (j := 13) (by kernel_rfl) ?_ ?_
 ·refine gi 598015 ?_; intro K hK
  refine ow_bs (e := 48) [.int .i64 (-1), .int .i64 1, .int .i64 0, .int .i64 0, .int .i64 0, .int .i64 0, .int .i64 0, .int .i64 0] M T rfl rfl rfl rfl (.cons (T.ev 5 rfl) (.cons (T.ev 3 rfl) .nil)) (fun _ => by kernel_rfl) ?_; clear M T; intro gr2_7 wc ac M T
  refine sh_out hK _ _ (MA.mk (fun _ => M.mask [false, true, true] rfl) (M.mask [false, true, false] rfl)) ?_; clear hK K
  exact H2 _ _ ⟨gr2_7, T, M⟩
 refine gi 606079 ?_; intro K hK
 refine ow_call (first := []) (cap := []) T rfl rfl rfl rfl evf (.cons (T.ev 0 rfl) (.cons (T.ev 10 rfl) .nil)) Try.func36 rfl rfl ?_
 refine Calls.mono (sound5_any 13 15 0 0 _) ?_
 clear T
 rintro e wc ⟨rfl, hb⟩
 intro ac T
 replace M := M.call hb; clear hb
 refine sh_out hK _ _ (MA.mk (fun _ => M.mask [true, true] rfl) (M.mask [true, false] rfl)) ?_; clear hK K
 refine g_m3 (i := 7) (j := 14) (k := 15) (by kernel_rfl) ?_ ?_ ?_
 ·refine gi 606207 ?_; intro K hK
  refine ow_bs (e := 48) [.int .i64 (-1), .int .i64 1, .int .i64 0, .int .i64 0, .int .i64 0, .int .i64 0, .int .i64 0, .int .i64 0] M T rfl rfl rfl rfl (.cons (T.ev 6 rfl) (.cons (T.ev 4 rfl) .nil)) (fun _ => by kernel_rfl) ?_; clear M T; intro gr2_7 wc ac M T
  refine sh_out hK _ _ (MA.mk (fun _ => M.mask [false, true, true] rfl) (M.mask [false, true, false] rfl)) ?_; clear hK K
  exact H3 _ _ ⟨gr2_7, T, M⟩
 ·refine gi 622463 ?_; intro K hK
  refine ow_bs (e := 48) [.int .i64 20, .int .i64 20, .int .i64 0, .int .i64 0, .int .i64 13, .int .i64 15, .int .i64 0, .int .i64 0] M T rfl rfl rfl rfl (.cons (T.ev 2 rfl) (.cons (T.ev 0 rfl) .nil)) (fun _ => by kernel_rfl) ?_; clear M T; intro gr2_14 wc ac M T
  refine sh_out hK _ _ (MA.mk (fun _ => M.mask [false, true, true] rfl) (M.mask [false, true, false] rfl)) ?_; clear hK K
  refine g_m2 (i := 7) (j := 15) (by kernel_rfl) ?_ ?_
  ·refine gi 622591 ?_; intro K hK
   refine ow_bs (e := 48) [.int .i64 (-1), .int .i64 1, .int .i64 0, .int .i64 0, .int .i64 0, .int .i64 0, .int .i64 0, .int .i64 0] M T rfl rfl rfl rfl (.cons (T.ev 7 rfl) (.cons (T.ev 5 rfl) .nil)) (fun _ => by kernel_rfl) ?_; clear M T; intro gr2_7 wc ac M T
   refine sh_out hK _ _ (MA.mk (fun _ => M.mask [false, false, true, true] rfl) (M.mask [false, false, true, false] rfl)) ?_; clear hK K
   exact H6 _ _ ⟨gr2_7, gr2_14, T, M⟩
  refine gi 655231 ?_; intro K hK
  refine ow_call (first := []) (cap := []) T rfl rfl rfl rfl evf (.cons evc (.cons evc .nil)) Try.func24 rfl rfl ?_
  refine Calls.mono (to5_any 30 30 _) ?_
  clear T
  rintro e wc ⟨rfl, hb⟩
  intro ac T
  replace M := M.call hb; clear hb
  refine sh_out hK _ _ (MA.mk (fun _ => M.mask [false, true, true] rfl) (M.mask [false, true, false] rfl)) ?_; clear hK K
  exact H5 _ _ ⟨gr2_14, T, M⟩
 refine gi 638847 ?_; intro K hK
 refine ow_call (first := []) (cap := []) T rfl rfl rfl rfl evf (.cons evc (.cons evc .nil)) Try.func24 rfl rfl ?_
 refine Calls.mono (to5_any 30 30 _) ?_
 clear T
 rintro e wc ⟨rfl, hb⟩
 intro ac T
 replace M := M.call hb; clear hb
 refine sh_out hK _ _ (MA.mk (fun _ => M.mask [true, true] rfl) (M.mask [true, false] rfl)) ?_; clear hK K
 refine g_m3 (i := 7) (j := 14) (k := 17) (by kernel_rfl) ?_ ?_ ?_
 ·refine gi 638975 ?_; intro K hK
  refine ow_bs (e := 48) [.int .i64 (-1), .int .i64 1, .int .i64 0, .int .i64 0, .int .i64 0, .int .i64 0, .int .i64 0, .int .i64 0] M T rfl rfl rfl rfl (.cons (T.ev 7 rfl) (.cons (T.ev 5 rfl) .nil)) (fun _ => by kernel_rfl) ?_; clear M T; intro gr2_7 wc ac M T
  refine sh_out hK _ _ (MA.mk (fun _ => M.mask [false, true, true] rfl) (M.mask [false, true, false] rfl)) ?_; clear hK K
  exact H4 _ _ ⟨gr2_7, T, M⟩
 ·refine gi 655231 ?_; intro K hK
  refine ow_bs (e := 48) [.int .i64 20, .int .i64 20, .int .i64 0, .int .i64 0, .int .i64 13, .int .i64 15, .int .i64 0, .int .i64 0] M T rfl rfl rfl rfl (.cons (T.ev 3 rfl) (.cons (T.ev 1 rfl) .nil)) (fun _ => by kernel_rfl) ?_; clear M T; intro gr2_14 wc ac M T
  refine sh_out hK _ _ (MA.mk (fun _ => M.mask [false, true, true] rfl) (M.mask [false, true, false] rfl)) ?_; clear hK K
  exact H5 _ _ ⟨gr2_14, T.pick [1, 0, 2, 3, 4, 5, 6, 7, 8, 9, 10, 11, 12, 13, 14, 15, 16, 17, 18] rfl, M⟩
 refine gi 769919 ?_; intro K hK
 refine ow_call (first := []) (cap := []) T rfl rfl rfl rfl evf (.cons (T.ev 0 rfl) (.cons (T.ev 11 rfl) .nil)) Try.func36 rfl rfl ?_
 refine Calls.mono (sound5_any 30 30 0 0 _) ?_
 clear T
 rintro e wc ⟨rfl, hb⟩
 intro ac T
 replace M := M.call hb; clear hb
 refine sh_out hK _ _ (MA.mk (fun _ => M.mask [true, true] rfl) (M.mask [true, false] rfl)) ?_; clear hK K
 refine g_m3 (i := 7) (j := 14) (k := 18) (by kernel_rfl) ?_ ?_ ?_
 ·refine gi 770047 ?_; intro K hK
  refine ow_bs (e := 48) [.int .i64 (-1), .int .i64 1, .int .i64 0, .int .i64 0, .int .i64 0, .int .i64 0, .int .i64 0, .int .i64 0] M T rfl rfl rfl rfl (.cons (T.ev 8 rfl) (.cons (T.ev 6 rfl) .nil)) (fun _ => by kernel_rfl) ?_; clear M T; intro gr2_7 wc ac M T
  refine sh_out hK _ _ (MA.mk (fun _ => M.mask [false, true, true] rfl) (M.mask [false, true, false] rfl)) ?_; clear hK K
  exact H7 _ _ ⟨gr2_7, T, M⟩
 ·refine gi 786303 ?_; intro K hK
  refine ow_bs (e := 48) [.int .i64 20, .int .i64 20, .int .i64 0, .int .i64 0, .int .i64 13, .int .i64 15, .int .i64 0, .int .i64 0] M T rfl rfl rfl rfl (.cons (T.ev 4 rfl) (.cons (T.ev 2 rfl) .nil)) (fun _ => by kernel_rfl) ?_; clear M T; intro gr2_14 wc ac M T
  refine sh_out hK _ _ (MA.mk (fun _ => M.mask [false, true, true] rfl) (M.mask [false, true, false] rfl)) ?_; clear hK K
  exact H8 _ _ ⟨gr2_14, T, M⟩
 refine gi 1032063 ?_; intro K hK
 refine ow_call (first := []) (cap := []) T rfl rfl rfl rfl evf (.cons evc (.cons evc .nil)) Try.func24 rfl rfl ?_
 refine Calls.mono (to5_any 30 30 _) ?_
 clear T
 rintro e wc ⟨rfl, hb⟩
 intro ac T
 replace M := M.call hb; clear hb
 refine sh_out hK _ _ (MA.mk (fun _ => M.mask [true, true] rfl) (M.mask [true, false] rfl)) ?_; clear hK K
 refine g_m3 (i := 7) (j := 14) (k := 20) (by kernel_rfl) ?_ ?_ ?_
 ·refine gi 1032191 ?_; intro K hK
  refine ow_bs (e := 48) [.int .i64 (-1), .int .i64 1, .int .i64 0, .int .i64 0, .int .i64 0, .int .i64 0, .int .i64 0, .int .i64 0] M T rfl rfl rfl rfl (.cons (T.ev 9 rfl) (.cons (T.ev 7 rfl) .nil)) (fun _ => by kernel_rfl) ?_; clear M T; intro gr2_7 wc ac M T
  refine sh_out hK _ _ (MA.mk (fun _ => M.mask [false, true, true] rfl) (M.mask [false, true, false] rfl)) ?_; clear hK K
  exact H10 _ _ ⟨gr2_7, T, M⟩
 ·refine gi 1048447 ?_; intro K hK
  refine ow_bs (e := 48) [.int .i64 20, .int .i64 20, .int .i64 0, .int .i64 0, .int .i64 13, .int .i64 15, .int .i64 0, .int .i64 0] M T rfl rfl rfl rfl (.cons (T.ev 5 rfl) (.cons (T.ev 3 rfl) .nil)) (fun _ => by kernel_rfl) ?_; clear M T; intro gr2_14 wc ac M T
  refine sh_out hK _ _ (MA.mk (fun _ => M.mask [false, true, true] rfl) (M.mask [false, true, false] rfl)) ?_; clear hK K
  exact H11 _ _ ⟨gr2_14, T, M⟩
 refine gi 2080639 ?_; intro K hK
 refine ow_call (first := []) (cap := []) T rfl rfl rfl rfl evf (.cons (T.ev 0 rfl) (.cons (T.ev 12 rfl) .nil)) Try.func36 rfl rfl ?_
 refine Calls.mono (sound5_any 30 30 0 0 _) ?_
 clear T
 rintro e wc ⟨rfl, hb⟩
 intro ac T
 replace M := M.call hb; clear hb
 refine sh_out hK _ _ (MA.mk (fun _ => M.mask [true, true] rfl) (M.mask [true, false] rfl)) ?_; clear hK K
 refine g_m3 (i := 7) (j := 14) (k := 21) (by kernel_rfl) ?_ ?_ ?_
 ·refine gi 2080767 ?_; intro K hK
  refine ow_bs (e := 48) [.int .i64 (-1), .int .i64 1, .int .i64 0, .int .i64 0, .int .i64 0, .int .i64 0, .int .i64 0, .int .i64 0] M T rfl rfl rfl rfl (.cons (T.ev 10 rfl) (.cons (T.ev 8 rfl) .nil)) (fun _ => by kernel_rfl) ?_; clear M T; intro gr2_7 wc ac M T
  refine sh_out hK _ _ (MA.mk (fun _ => M.mask [false, true, true] rfl) (M.mask [false, true, false] rfl)) ?_; clear hK K
  exact H13 _ _ ⟨gr2_7, T, M⟩
 ·refine gi 2097023 ?_; intro K hK
  refine ow_bs (e := 48) [.int .i64 20, .int .i64 20, .int .i64 0, .int .i64 0, .int .i64 13, .int .i64 15, .int .i64 0, .int .i64 0] M T rfl rfl rfl rfl (.cons (T.ev 6 rfl) (.cons (T.ev 4 rfl) .nil)) (fun _ => by kernel_rfl) ?_; clear M T; intro gr2_14 wc ac M T
  refine sh_out hK _ _ (MA.mk (fun _ => M.mask [false, true, true] rfl) (M.mask [false, true, false] rfl)) ?_; clear hK K
  exact H14 _ _ ⟨gr2_14, T, M⟩
 refine gi 4177791 ?_; intro K hK
 refine ow_bs (e := 48) [.int .i64 30, .int .i64 30, .int .i64 0, .int .i64 0, .int .i64 30, .int .i64 30, .int .i64 0, .int .i64 0] M T rfl rfl rfl rfl (.cons (T.ev 2 rfl) (.cons (T.ev 0 rfl) .nil)) (fun _ => by kernel_rfl) ?_; clear M T; intro gr2_21 wc ac M T
 refine sh_out hK _ _ (MA.mk (fun _ => M.mask [false, true, true] rfl) (M.mask [false, true, false] rfl)) ?_; clear hK K
 refine g_m2 (i := 7) (j := 14) (by kernel_rfl) ?_ ?_
 ·refine gi 4177919 ?_; intro K hK
  refine ow_bs (e := 48) [.int .i64 (-1), .int .i64 1, .int .i64 0, .int .i64 0, .int .i64 0, .int .i64 0, .int .i64 0, .int .i64 0] M T rfl rfl rfl rfl (.cons (T.ev 11 rfl) (.cons (T.ev 9 rfl) .nil)) (fun _ => by kernel_rfl) ?_; clear M T; intro gr2_7 wc ac M T
  refine sh_out hK _ _ (MA.mk (fun _ => M.mask [false, false, true, true] rfl) (M.mask [false, false, true, false] rfl)) ?_; clear hK K
  exact H16 _ _ ⟨gr2_7, gr2_21, T, M⟩
 refine gi 4194175 ?_; intro K hK
 refine ow_bs (e := 48) [.int .i64 20, .int .i64 20, .int .i64 0, .int .i64 0, .int .i64 13, .int .i64 15, .int .i64 0, .int .i64 0] M T rfl rfl rfl rfl (.cons (T.ev 7 rfl) (.cons (T.ev 5 rfl) .nil)) (fun _ => by kernel_rfl) ?_; clear M T; intro gr2_14 wc ac M T
 refine sh_out hK _ _ (MA.mk (fun _ => M.mask [false, false, true, true] rfl) (M.mask [false, false, true, false] rfl)) ?_; clear hK K
 exact H17 _ _ ⟨gr2_14, gr2_21, T, M⟩
end Go.Proofs.Ytlahdenlmmlplaa
end

section
/-
 law05: trembling.
-/
namespace Go.Proofs.Ytlahdenlmmlplaa
set_option linter.unusedSimpArgs false
set_option linter.unusedVariables false
open Go.RowKit
set_option maxRecDepth 100000 in
set_option maxHeartbeats 1000000 in
theorem trembling_any  (w : World)  :
   Calls Try.prog 17 #[] w fun e w' => e = .returned (.bool true) ∧ Below w.heap.size w w' := by
 refine px_enter noEx Try.func17 rfl 82 rfl [] rfl rfl (Mem.init w _) ?_
 intro ac wc T M
 refine wp_seq ?_
 refine wp_region_lit ?_
 refine lq T (rn_assign rfl evc) ?_; clear T ac; intro ac T
 refine wpList_nil ?_
 replace T := T.pick [] rfl
 refine nm_then ?_
 refine wp_seq ?_
 refine wp_region_lit ?_
 refine l_w rfl ?_; intro K hK
 refine ow_call (first := []) (cap := []) T rfl rfl rfl rfl evf .nil Try.func58 rfl rfl ?_
 refine Calls.mono (full5_any _) ?_
 clear T
 rintro e wc ⟨Au1, cu1, Bu1, du1, Iu1, rfl, SAu1, SBu1, N⟩
 intro ac T
 obtain ⟨b1u1, o1u1, SAu1⟩ := SAu1
 replace SAu1 := SAu1 w noEx
 obtain ⟨b2u1, o2u1, SBu1⟩ := SBu1
 replace SBu1 := SBu1 w noEx
 replace M := (M.join N).swapI
 clear N
 replace M : Mem w noEx wc (Iu1) := M
 refine sh_out hK _ _ ?_; clear hK K
 refine l_w rfl ?_; intro K hK
 refine ow_call (first := []) (cap := []) T rfl rfl rfl rfl evf (.cons (T.ev 0 rfl) (.cons evc (.cons evc .nil))) Try.func21 rfl rfl ?_
 refine Calls.mono (Beat_x _ _ _ _ _ (SAu1.rd M (List.Sublist.refl _)) (SBu1.rd M (List.Sublist.refl _))) ?_
 clear T
 rintro e wc ⟨Au2, cu2, Iu2, rfl, Su2, N⟩
 intro ac T
 obtain ⟨bu2, ou2, Su2⟩ := Su2
 replace Su2 := Su2 w noEx
 replace M := (M.join N).swapI
 clear N
 replace M : Mem w noEx wc ((Iu1 ++ Iu2)) := M
 refine sh_out hK _ _ ?_; clear hK K
 refine lq T (rn_move rfl (T.ev 0 rfl)) ?_; clear T ac; intro ac T
 refine lq T (rn_extract rfl (T.ev 0 rfl) rfl) ?_; clear T ac; intro ac T
 refine lq T (rn_extract rfl (T.ev 1 rfl) rfl) ?_; clear T ac; intro ac T
 refine lq T (rn_assign rfl (T.ev 1 rfl)) ?_; clear T ac; intro ac T
 refine lq T (rn_assign rfl (T.ev 1 rfl)) ?_; clear T ac; intro ac T
 refine wpList_nil ?_
 replace T := T.pick [0, 1] rfl
 refine nm_then ?_
 refine wp_seq ?_
 refine wp_region_lit ?_
 refine l_w rfl ?_; intro K hK
 refine ow_call (first := []) (cap := []) T rfl rfl rfl rfl evf .nil Try.func59 rfl rfl ?_
 refine Calls.mono (less5_any _) ?_
 clear T
 rintro e wc ⟨Au3, cu3, Bu3, du3, Iu3, rfl, SAu3, SBu3, N⟩
 intro ac T
 obtain ⟨b1u3, o1u3, SAu3⟩ := SAu3
 replace SAu3 := SAu3 w noEx
 obtain ⟨b2u3, o2u3, SBu3⟩ := SBu3
 replace SBu3 := SBu3 w noEx
 replace M := (M.join N).swapI
 clear N
 replace M : Mem w noEx wc ((Iu1 ++ Iu2 ++ Iu3)) := M
 refine sh_out hK _ _ ?_; clear hK K
 refine l_w rfl ?_; intro K hK
 refine ow_call (first := []) (cap := []) T rfl rfl rfl rfl evf (.cons (T.ev 0 rfl) .nil) Try.func27 rfl rfl ?_
 refine Calls.mono (Match_x _ _ _ _ _ (SAu3.rd M (List.sublist_append_right _ _)) (SBu3.rd M (List.sublist_append_right _ _))) ?_
 clear T
 rintro e wc ⟨Au4, cu4, Iu4, rfl, Su4, N⟩
 intro ac T
 obtain ⟨bu4, ou4, Su4⟩ := Su4
 replace Su4 := Su4 w noEx
 replace M := (M.join N).swapI
 clear N
 replace M : Mem w noEx wc ((Iu1 ++ Iu2 ++ Iu3 ++ Iu4)) := M
 refine sh_out hK _ _ ?_; clear hK K
 refine lq T (rn_move rfl (T.ev 0 rfl)) ?_; clear T ac; intro ac T
 refine lq T (rn_extract rfl (T.ev 0 rfl) rfl) ?_; clear T ac; intro ac T
 refine lq T (rn_extract rfl (T.ev 1 rfl) rfl) ?_; clear T ac; intro ac T
 refine lq T (rn_assign rfl (T.ev 1 rfl)) ?_; clear T ac; intro ac T
 refine lq T (rn_assign rfl (T.ev 1 rfl)) ?_; clear T ac; intro ac T
 refine wpList_nil ?_
 replace T := T.pick [0, 1, 7, 8] rfl
 refine nm_then ?_
 refine wp_seq ?_
 refine wp_region_lit ?_
 refine l_w rfl ?_; intro K hK
 refine ow_call (first := []) (cap := []) T rfl rfl rfl rfl evf .nil Try.func58 rfl rfl ?_
 refine Calls.mono (full5_any _) ?_
 clear T
 rintro e wc ⟨Au5, cu5, Bu5, du5, Iu5, rfl, SAu5, SBu5, N⟩
 intro ac T
 obtain ⟨b1u5, o1u5, SAu5⟩ := SAu5
 replace SAu5 := SAu5 w noEx
 obtain ⟨b2u5, o2u5, SBu5⟩ := SBu5
 replace SBu5 := SBu5 w noEx
 replace M := (M.join N).swapI
 clear N
 replace M : Mem w noEx wc ((Iu1 ++ Iu2 ++ Iu3 ++ Iu4 ++ Iu5)) := M
 refine sh_out hK _ _ ?_; clear hK K
 refine l_w rfl ?_; intro K hK
 refine ow_call (first := []) (cap := []) T rfl rfl rfl rfl evf (.cons (T.ev 0 rfl) (.cons evc (.cons evc .nil))) Try.func60 rfl rfl ?_
 refine Calls.mono (Strokes_x _ _ _ _ _ (SAu5.rd M (List.sublist_append_right _ _)) (SBu5.rd M (List.sublist_append_right _ _))) ?_
 clear T
 rintro e wc ⟨rfl, hb⟩
 intro ac T
 replace M := M.call hb; clear hb
 refine sh_out hK _ _ ?_; clear hK K
 refine lq T (rn_move rfl (T.ev 0 rfl)) ?_; clear T ac; intro ac T
 refine lq T (rn_extract rfl (T.ev 0 rfl) rfl) ?_; clear T ac; intro ac T
 refine lq T (rn_extract rfl (T.ev 1 rfl) rfl) ?_; clear T ac; intro ac T
 refine lq T (rn_assign rfl (T.ev 1 rfl)) ?_; clear T ac; intro ac T
 refine lq T (rn_assign rfl (T.ev 1 rfl)) ?_; clear T ac; intro ac T
 refine wpList_nil ?_
 replace T := T.pick [0, 1, 7, 8, 9, 10] rfl
 refine nm_then ?_
 refine wp_seq ?_
 refine wp_region_lit ?_
 refine l_w rfl ?_; intro K hK
 refine ow_call (first := []) (cap := []) T rfl rfl rfl rfl evf .nil Try.func61 rfl rfl ?_
 refine Calls.mono (scale5_any _) ?_
 clear T
 rintro e wc ⟨Au7, cu7, LLu7, Iu7, hRu7, rfl, Su7, Eu7, N⟩
 intro ac T
 obtain ⟨bu7, ou7, Su7⟩ := Su7
 replace Su7 := Su7 w noEx
 replace M := (M.join N).swapI
 clear N
 replace M : Mem w noEx wc ((Iu1 ++ Iu2 ++ Iu3 ++ Iu4 ++ Iu5 ++ Iu7)) := M
 refine sh_out hK _ _ ?_; clear hK K
 refine l_w rfl ?_; intro K hK
 refine ow_bs (e := 3) [.int .i64 0, .int .i64 1] M T rfl rfl rfl rfl (.cons evc (.cons evc .nil)) (fun _ => by kernel_rfl) ?_; clear M T; intro g1 wc ac M T
 refine sh_out hK _ _ ?_; clear hK K
 refine l_w rfl ?_; intro K hK
 refine ow_call (first := []) (cap := []) T rfl rfl rfl rfl evf (.cons (T.ev 1 rfl) (.cons (T.ev 0 rfl) .nil)) Try.func15 rfl rfl ?_
 refine Calls.mono (Tremolo_x _ _ LLu7 _ _ _ hRu7 (Su7.rd M (.cons _ (List.sublist_append_right _ _))) (fun x hx => by obtain ⟨b9, o9, h9⟩ := Eu7 x hx; exact (h9 w noEx).rd M (.cons _ (List.sublist_append_right _ _))) (M.rdOwn (nthE_mem (i := 0) rfl) rfl rfl)) ?_
 clear T
 rintro e wc ⟨Au8, cu8, Iu8, rfl, Su8, N⟩
 intro ac T
 obtain ⟨bu8, ou8, Su8⟩ := Su8
 replace Su8 := Su8 w noEx
 replace M := (M.join N).swapI
 clear N
 replace M : Mem w noEx wc ((g1, .cells [.int .i64 0, .int .i64 1]) :: (Iu1 ++ Iu2 ++ Iu3 ++ Iu4 ++ Iu5 ++ Iu7 ++ Iu8)) := M
 refine sh_out hK _ _ ?_; clear hK K
 refine lq T (rn_move rfl (T.ev 0 rfl)) ?_; clear T ac; intro ac T
 refine lq T (rn_extract rfl (T.ev 0 rfl) rfl) ?_; clear T ac; intro ac T
 refine lq T (rn_extract rfl (T.ev 1 rfl) rfl) ?_; clear T ac; intro ac T
 refine lq T (rn_assign rfl (T.ev 1 rfl)) ?_; clear T ac; intro ac T
 refine lq T (rn_assign rfl (T.ev 1 rfl)) ?_; clear T ac; intro ac T
 refine wpList_nil ?_
 replace T := T.pick [0, 1, 8, 9, 10, 11, 12, 13] rfl
 replace M := M.mask [false] rfl
 refine nm_then ?_
 refine wp_seq ?_
 refine wp_region_lit ?_
 refine l_w rfl ?_; intro K hK
 refine ow_call (first := []) (cap := []) T rfl rfl rfl rfl evf .nil Try.func59 rfl rfl ?_
 refine Calls.mono (less5_any _) ?_
 clear T
 rintro e wc ⟨Au9, cu9, Bu9, du9, Iu9, rfl, SAu9, SBu9, N⟩
 intro ac T
 obtain ⟨b1u9, o1u9, SAu9⟩ := SAu9
 replace SAu9 := SAu9 w noEx
 obtain ⟨b2u9, o2u9, SBu9⟩ := SBu9
 replace SBu9 := SBu9 w noEx
 replace M := (M.join N).swapI
 clear N
 replace M : Mem w noEx wc ((Iu1 ++ Iu2 ++ Iu3 ++ Iu4 ++ Iu5 ++ Iu7 ++ Iu8 ++ Iu9)) := M
 refine sh_out hK _ _ ?_; clear hK K
 refine l_w rfl ?_; intro K hK
 refine ow_call (first := []) (cap := []) T rfl rfl rfl rfl evf (.cons (T.ev 0 rfl) .nil) Try.func28 rfl rfl ?_
 refine Calls.mono (Short_x _ _ _ _ _ (SAu9.rd M (List.sublist_append_right _ _)) (SBu9.rd M (List.sublist_append_right _ _))) ?_
 clear T
 rintro e wc ⟨Au10, cu10, Iu10, rfl, Su10, N⟩
 intro ac T
 obtain ⟨bu10, ou10, Su10⟩ := Su10
 replace Su10 := Su10 w noEx
 replace M := (M.join N).swapI
 clear N
 replace M : Mem w noEx wc ((Iu1 ++ Iu2 ++ Iu3 ++ Iu4 ++ Iu5 ++ Iu7 ++ Iu8 ++ Iu9 ++ Iu10)) := M
 refine sh_out hK _ _ ?_; clear hK K
 refine lq T (rn_move rfl (T.ev 0 rfl)) ?_; clear T ac; intro ac T
 refine lq T (rn_extract rfl (T.ev 0 rfl) rfl) ?_; clear T ac; intro ac T
 refine lq T (rn_extract rfl (T.ev 1 rfl) rfl) ?_; clear T ac; intro ac T
 refine lq T (rn_assign rfl (T.ev 1 rfl)) ?_; clear T ac; intro ac T
 refine lq T (rn_assign rfl (T.ev 1 rfl)) ?_; clear T ac; intro ac T
 refine wpList_nil ?_
 replace T := T.pick [0, 1, 7, 8, 9, 10, 11, 12, 13, 14] rfl
 refine nm_then ?_
 refine wp_seq ?_
 refine wp_region_lit ?_
 refine lq T (rn_move rfl (T.ev 8 rfl)) ?_; clear T ac; intro ac T
 refine lq (v := (.bool true)) T (rn_neqof (rn_eql rfl (T.ev 0 rfl) evc) (by simp)) ?_; clear T ac; intro ac T
 refine lq T (rn_move rfl (T.ev 0 rfl)) ?_; clear T ac; intro ac T
 refine lw T (wanted_yes rfl rfl (T.ev 0 rfl) rfl) (rn_move rfl (T.ev 9 rfl)) ?_; clear T ac; intro ac T
 refine lw (v := (.bool true)) T (wanted_yes rfl rfl (T.ev 1 rfl) rfl) (rn_neqof (rn_eql rfl (T.ev 0 rfl) evc) (by simp)) ?_; clear T ac; intro ac T
 refine lq T (rn_pick1 rfl (T.ev 2 rfl) rfl (T.ev 0 rfl)) ?_; clear T ac; intro ac T
 refine lq T (rn_move rfl (T.ev 0 rfl)) ?_; clear T ac; intro ac T
 refine lw T (wanted_yes rfl rfl (T.ev 0 rfl) rfl) (rn_move rfl (T.ev 11 rfl)) ?_; clear T ac; intro ac T
 refine lw (v := (.bool true)) T (wanted_yes rfl rfl (T.ev 1 rfl) rfl) (rn_neqof (rn_eql rfl (T.ev 0 rfl) evc) (by simp)) ?_; clear T ac; intro ac T
 refine lq T (rn_pick1 rfl (T.ev 2 rfl) rfl (T.ev 0 rfl)) ?_; clear T ac; intro ac T
 refine lq T (rn_move rfl (T.ev 0 rfl)) ?_; clear T ac; intro ac T
 refine lw T (wanted_yes rfl rfl (T.ev 0 rfl) rfl) (rn_move rfl (T.ev 13 rfl)) ?_; clear T ac; intro ac T
 refine lw (v := (.bool true)) T (wanted_yes rfl rfl (T.ev 1 rfl) rfl) (rn_neqof (rn_eql rfl (T.ev 0 rfl) evc) (by simp)) ?_; clear T ac; intro ac T
 refine lq T (rn_pick1 rfl (T.ev 2 rfl) rfl (T.ev 0 rfl)) ?_; clear T ac; intro ac T
 refine lq T (rn_move rfl (T.ev 0 rfl)) ?_; clear T ac; intro ac T
 refine lw T (wanted_yes rfl rfl (T.ev 0 rfl) rfl) (rn_move rfl (T.ev 15 rfl)) ?_; clear T ac; intro ac T
 refine lw (v := (.bool true)) T (wanted_yes rfl rfl (T.ev 1 rfl) rfl) (rn_neqof (rn_eql rfl (T.ev 0 rfl) evc) (by simp)) ?_; clear T ac; intro ac T
 refine lq T (rn_pick1 rfl (T.ev 2 rfl) rfl (T.ev 0 rfl)) ?_; clear T ac; intro ac T
 refine lq T (rn_move rfl (T.ev 0 rfl)) ?_; clear T ac; intro ac T
 refine lw T (wanted_yes rfl rfl (T.ev 0 rfl) rfl) (rn_move rfl (T.ev 24 rfl)) ?_; clear T ac; intro ac T
 refine lw (v := (.bool true)) T (wanted_yes rfl rfl (T.ev 1 rfl) rfl) (rn_neqof (rn_eql rfl (T.ev 0 rfl) evc) (by simp)) ?_; clear T ac; intro ac T
 refine lq T (rn_pick1 rfl (T.ev 2 rfl) rfl (T.ev 0 rfl)) ?_; clear T ac; intro ac T
 refine lq T (rn_move rfl (T.ev 0 rfl)) ?_; clear T ac; intro ac T
 refine lw T (wanted_yes rfl rfl (T.ev 0 rfl) rfl) (rn_move rfl (T.ev 32 rfl)) ?_; clear T ac; intro ac T
 refine l_w (wanted_yes rfl rfl (T.ev 1 rfl) rfl) ?_; intro K hK
 refine ow_call (first := []) (cap := []) T rfl rfl rfl rfl evf (.cons evc (.cons evc .nil)) Try.func24 rfl rfl ?_
 refine Calls.mono (to5_any 9 10 _) ?_
 clear T
 rintro e wc ⟨rfl, hb⟩
 intro ac T
 replace M := M.call hb; clear hb
 refine sh_out hK _ _ ?_; clear hK K
 refine l_w (wanted_yes rfl rfl (T.ev 2 rfl) rfl) ?_; intro K hK
 refine ow_call (first := []) (cap := []) T rfl rfl rfl rfl evf (.cons evc (.cons evc .nil)) Try.func24 rfl rfl ?_
 refine Calls.mono (to5_any 8 10 _) ?_
 clear T
 rintro e wc ⟨rfl, hb⟩
 intro ac T
 replace M := M.call hb; clear hb
 refine sh_out hK _ _ ?_; clear hK K
 refine l_w (wanted_yes rfl rfl (T.ev 3 rfl) rfl) ?_; intro K hK
 refine ow_call (first := []) (cap := []) T rfl rfl rfl rfl evf (.cons evc (.cons evc .nil)) Try.func24 rfl rfl ?_
 refine Calls.mono (to5_any 7 10 _) ?_
 clear T
 rintro e wc ⟨rfl, hb⟩
 intro ac T
 replace M := M.call hb; clear hb
 refine sh_out hK _ _ ?_; clear hK K
 refine l_w (wanted_yes rfl rfl (T.ev 4 rfl) rfl) ?_; intro K hK
 refine ow_bs (e := 40) [.int .i64 9, .int .i64 10, .int .i64 8, .int .i64 10, .int .i64 7, .int .i64 10] M T rfl rfl rfl rfl (.cons (T.ev 2 rfl) (.cons (T.ev 1 rfl) (.cons (T.ev 0 rfl) .nil))) (fun _ => by kernel_rfl) ?_; clear M T; intro g2 wc ac M T
 refine sh_out hK _ _ ?_; clear hK K
 refine l_w (wanted_yes rfl rfl (T.ev 5 rfl) rfl) ?_; intro K hK
 refine ow_call (first := []) (cap := []) T rfl rfl rfl rfl evf (.cons (T.ev 4 rfl) (.cons (T.ev 0 rfl) .nil)) Try.func26 rfl rfl ?_
 refine Calls.mono (sameRanges_same _ _ _ _ _ _ [(9, 10), (8, 10), (7, 10)] _ (Su2.rd M (.cons _ (subL (subL (subL (subL (subL (subL (subL (List.sublist_append_right _ _)))))))))) (M.rdOwn (nthE_mem (i := 0) rfl) rfl rfl) (by omega) (by omega)) ?_
 clear T
 rintro e wc ⟨rfl, hb⟩
 intro ac T
 replace M := M.call hb; clear hb
 refine sh_out hK _ _ ?_; clear hK K
 refine lq T (rn_pick1 rfl (T.ev 6 rfl) rfl (T.ev 0 rfl)) ?_; clear T ac; intro ac T
 refine lq T (rn_move rfl (T.ev 0 rfl)) ?_; clear T ac; intro ac T
 refine lw T (wanted_yes rfl rfl (T.ev 0 rfl) rfl) (rn_move rfl (T.ev 38 rfl)) ?_; clear T ac; intro ac T
 refine l_w (wanted_yes rfl rfl (T.ev 1 rfl) rfl) ?_; intro K hK
 refine ow_bs (e := 3) [.int .i64 0, .int .i64 (-1)] M T rfl rfl rfl rfl (.cons evc (.cons evc .nil)) (fun _ => by kernel_rfl) ?_; clear M T; intro g3 wc ac M T
 refine sh_out hK _ _ ?_; clear hK K
 refine l_w (wanted_yes rfl rfl (T.ev 2 rfl) rfl) ?_; intro K hK
 refine ow_call (first := []) (cap := []) T rfl rfl rfl rfl evf (.cons (T.ev 1 rfl) (.cons (T.ev 0 rfl) .nil)) Try.func35 rfl rfl ?_
 refine Calls.mono (sameInts_eq _ _ _ _ _ _ [0, -1] _ (Su4.rd M (.cons _ (.cons _ (subL (subL (subL (subL (subL (List.sublist_append_right _ _))))))))) (M.rdOwn (nthE_mem (i := 0) rfl) rfl rfl) (by omega) (by omega)) ?_
 clear T
 rintro e wc ⟨rfl, hb⟩
 intro ac T
 replace M := M.call hb; clear hb
 refine sh_out hK _ _ ?_; clear hK K
 refine lq T (rn_pick1 rfl (T.ev 3 rfl) rfl (T.ev 0 rfl)) ?_; clear T ac; intro ac T
 refine lq T (rn_move rfl (T.ev 0 rfl)) ?_; clear T ac; intro ac T
 refine lw T (wanted_yes rfl rfl (T.ev 0 rfl) rfl) (rn_move rfl (T.ev 39 rfl)) ?_; clear T ac; intro ac T
 refine l_w (wanted_yes rfl rfl (T.ev 1 rfl) rfl) ?_; intro K hK
 refine ow_bs (e := 3) [.int .i64 1, .int .i64 3] M T rfl rfl rfl rfl (.cons evc (.cons evc .nil)) (fun _ => by kernel_rfl) ?_; clear M T; intro g4 wc ac M T
 refine sh_out hK _ _ ?_; clear hK K
 refine l_w (wanted_yes rfl rfl (T.ev 2 rfl) rfl) ?_; intro K hK
 refine ow_call (first := []) (cap := []) T rfl rfl rfl rfl evf (.cons (T.ev 1 rfl) (.cons (T.ev 0 rfl) .nil)) Try.func35 rfl rfl ?_
 refine Calls.mono (sameInts_eq _ _ _ _ _ _ [1, 3] _ (Su8.rd M (.cons _ (.cons _ (.cons _ (subL (subL (List.sublist_append_right _ _))))))) (M.rdOwn (nthE_mem (i := 0) rfl) rfl rfl) (by omega) (by omega)) ?_
 clear T
 rintro e wc ⟨rfl, hb⟩
 intro ac T
 replace M := M.call hb; clear hb
 refine sh_out hK _ _ ?_; clear hK K
 refine lq T (rn_pick1 rfl (T.ev 3 rfl) rfl (T.ev 0 rfl)) ?_; clear T ac; intro ac T
 refine lq T (rn_move rfl (T.ev 0 rfl)) ?_; clear T ac; intro ac T
 refine lw T (wanted_yes rfl rfl (T.ev 0 rfl) rfl) (rn_move rfl (T.ev 42 rfl)) ?_; clear T ac; intro ac T
 refine l_w (wanted_yes rfl rfl (T.ev 1 rfl) rfl) ?_; intro K hK
 refine ow_bs (e := 3) [.int .i64 1] M T rfl rfl rfl rfl (.cons evc .nil) (fun _ => by kernel_rfl) ?_; clear M T; intro g5 wc ac M T
 refine sh_out hK _ _ ?_; clear hK K
 refine l_w (wanted_yes rfl rfl (T.ev 2 rfl) rfl) ?_; intro K hK
 refine ow_call (first := []) (cap := []) T rfl rfl rfl rfl evf (.cons (T.ev 1 rfl) (.cons (T.ev 0 rfl) .nil)) Try.func35 rfl rfl ?_
 refine Calls.mono (sameInts_eq _ _ _ _ _ _ [1] _ (Su10.rd M (.cons _ (.cons _ (.cons _ (.cons _ (List.sublist_append_right _ _)))))) (M.rdOwn (nthE_mem (i := 0) rfl) rfl rfl) (by omega) (by omega)) ?_
 clear T
 rintro e wc ⟨rfl, hb⟩
 intro ac T
 replace M := M.call hb; clear hb
 refine sh_out hK _ _ ?_; clear hK K
 refine lq T (rn_pick1 rfl (T.ev 3 rfl) rfl (T.ev 0 rfl)) ?_; clear T ac; intro ac T
 refine lq T (rn_assign rfl (T.ev 0 rfl)) ?_; clear T ac; intro ac T
 refine wpList_nil ?_
 replace T := T.pick [0] rfl
 replace M := M.mask [false, false, false, false] rfl
 refine nm_then ?_
 refine wp_ret ?_
 refine rt_1 T rfl (T.ev 0 rfl) ?_
 exact ⟨rfl, M.below⟩
end Go.Proofs.Ytlahdenlmmlplaa
end

section
/-
 kit: sounds and laws out of a pot; what tongues truly are.
-/
namespace Go.Proofs.Ytlahdenlmmlplaa
set_option linter.unusedSimpArgs false
set_option linter.unusedVariables false
open Go.RowKit
theorem rn_quo {P : Program} {op : Oper} {a : Act} {w : World} {ty ty' : TypeId} {x y : Operand} {p q : Int} (ho : op.op = .binOp .quo ty x y ty') (hx : a.eval x = .int .i64 p) (hy : a.eval y = .int .i64 q) (hq : q ≠ 0) (hb : -9223372036854775808 ≤ p.tdiv q ∧ p.tdiv q ≤ 9223372036854775807) : Runs P op a (.int .i64 (p.tdiv q)) w := by
 refine rn_bin ho hx hy ?_
 rw [eqGuard_quo, binOp_quo]
 unfold Op.intDiv
 rw [if_neg (by simpa using hq)]
 show Result.ok (Value.int .i64 (IntKind.i64.wrap (p.tdiv q))) w = _
 rw [IntWalk.i64_in _ hb]
def mostD (notes : Int) : Int := min 5 ((5 : Int).tdiv (max 1 notes))
theorem tdiv_bd {q : Int} (h : 1 ≤ q) : 0 ≤ (5 : Int).tdiv q ∧ (5 : Int).tdiv q ≤ 5 ∧ (5 : Int).tdiv q * q ≤ 5 := by
 rw [Int.tdiv_eq_ediv_of_nonneg (by omega)]
 refine ⟨Int.ediv_nonneg (by omega) (by omega), ?_, Int.ediv_mul_le 5 (by omega)⟩
 have h1 := Int.ediv_mul_le 5 (show q ≠ 0 by omega)
 have h2 : 0 ≤ 5 / q := Int.ediv_nonneg (by omega) (by omega)
 have h3 : 5 / q * 1 ≤ 5 / q * q := Int.mul_le_mul_of_nonneg_left h h2
 omega
theorem mostD_bd (notes : Int) : 0 ≤ mostD notes ∧ mostD notes ≤ 5 ∧ ∀ k : Int, 0 ≤ k ∧ k ≤ notes → mostD notes * k ≤ 5 := by
 have h := tdiv_bd (q := max 1 notes) (by omega)
 unfold mostD
 refine ⟨by omega, by omega, fun k hk => ?_⟩
 have e : min 5 ((5 : Int).tdiv (max 1 notes)) = (5 : Int).tdiv (max 1 notes) := by omega
 rw [e]
 exact Int.le_trans (Int.mul_le_mul_of_nonneg_left (by omega) h.1) h.2.2
theorem step_bd {notes st k : Int} (hs : -mostD notes ≤ st ∧ st ≤ mostD notes) (hk : 0 ≤ k ∧ k ≤ notes) : -5 ≤ st * k ∧ st * k ≤ 5 := by
 have h := (mostD_bd notes).2.2 k hk
 have h1 : st * k ≤ mostD notes * k := Int.mul_le_mul_of_nonneg_right hs.2 hk.1
 have h2 : -mostD notes * k ≤ st * k := Int.mul_le_mul_of_nonneg_right hs.1 hk.1
 rw [Int.neg_mul] at h2
 omega
structure Lw.made (l : Lw) (notes : Int) : Prop where
 first : 5 ≤ l.first ∧ l.first ≤ 25
 step : -mostD notes ≤ l.step ∧ l.step ≤ mostD notes
 span : 1 ≤ l.span ∧ l.span ≤ 8
 press : 0 ≤ l.press ∧ l.press ≤ 3
def LawPost (bp : Nat) (notes : Int) (w : World) (e : Ending) (w' : World) : Prop := ∃ (l : Lw) (s' : Int), l.made notes ∧ u64ok s' ∧ e = .returned (.agg #[.int .i64 l.first, .int .i64 l.step, .int .i64 l.span, .int .i64 l.press]) ∧ w.grownBy w' (some bp) ∧ Bk w' bp #[.int .u64 s']
def SoundPost (bp : Nat) (w : World) (e : Ending) (w' : World) : Prop := ∃ (x : Snd) (s' : Int), x.good ∧ u64ok s' ∧ e = .returned (.agg #[.int .i64 x.t0, .int .i64 x.t1, .int .i64 x.s0, .int .i64 x.s1]) ∧ w.grownBy w' (some bp) ∧ Bk w' bp #[.int .u64 s']
def beatT (t0 s0 t1 s1 p : Int) : Int := t1 + s1 * p - t0 - s0 * p
theorem beatT_eq (t0 s0 t1 s1 p : Int) : beatT t0 s0 t1 s1 p = t1 - t0 + p * (s1 - s0) := by
 unfold beatT
 rw [Int.mul_sub, Int.mul_comm p s1, Int.mul_comm p s0]
 omega
set_option maxRecDepth 100000 in
set_option maxHeartbeats 1000000 in
theorem lawOf_any (s : Int) (bp : Nat) (notes : Int) (w : World) (hn : 0 ≤ notes ∧ notes ≤ 1000) (hp : Bk w bp #[.int .u64 s]) (hs : u64ok s) :
   Calls Try.prog 51 #[.pointer (some ⟨bp, 0, none⟩), .int .i64 notes] w (LawPost bp notes w) := by
 have hq := tdiv_bd (q := max 1 notes) (by omega)
 refine px_enter (fun b => b = bp) Try.func51 rfl 27 rfl [.pointer (some ⟨bp, 0, none⟩), .int .i64 notes] rfl rfl (Mem.initEx (p := .cells [.int .u64 s]) hp) ?_
 intro ac wc T M
 refine wp_seq ?_
 refine wp_region_lit ?_
 refine l_w rfl ?_; intro K hK
 refine ow_al M T rfl rfl rfl rfl ?_; clear M T; intro g1 wc ac M T
 refine sh_out hK _ _ ?_; clear hK K
 refine wpList_nil ?_
 refine nm_then ?_
 refine wp_seq ?_
 refine wp_region_lit ?_
 refine lq T (rn_move rfl (T.ev 1 rfl)) ?_; clear T ac; intro ac T
 refine l_w rfl ?_; intro K hK
 refine ow_call (first := []) (cap := []) T rfl rfl rfl rfl evf (.cons (T.ev 0 rfl) (.cons evc (.cons evc .nil))) Try.func19 rfl rfl ?_
 refine Calls.mono (within_pot _ bp 5 25 _ (by omega) (by omega) (by omega) (M.nth 1 rfl) hs) ?_
 clear T
 rintro e wc ⟨xu1, su1, hxu1, hsu1, rfl, hgr, hbk⟩
 intro ac T
 replace M := M.callC (cs' := [.int .u64 su1]) (.tail .head) hgr hbk
 clear hgr hbk
 refine sh_out hK _ _ ?_; clear hK K
 refine lq T (rn_move rfl (T.ev 3 rfl)) ?_; clear T ac; intro ac T
 refine l_w rfl ?_; intro K hK
 refine ow_call (first := []) (cap := []) T rfl rfl rfl rfl evf (.cons (T.ev 0 rfl) (.cons evc (.cons evc .nil))) Try.func19 rfl rfl ?_
 refine Calls.mono (within_pot _ bp 1 8 _ (by omega) (by omega) (by omega) (M.nth 1 rfl) hsu1) ?_
 clear T
 rintro e wc ⟨xu2, su2, hxu2, hsu2, rfl, hgr, hbk⟩
 intro ac T
 replace M := M.callC (cs' := [.int .u64 su2]) (.tail .head) hgr hbk
 clear hgr hbk
 refine sh_out hK _ _ ?_; clear hK K
 refine lq T (rn_move rfl (T.ev 5 rfl)) ?_; clear T ac; intro ac T
 refine l_w rfl ?_; intro K hK
 refine ow_call (first := []) (cap := []) T rfl rfl rfl rfl evf (.cons (T.ev 0 rfl) (.cons evc .nil)) Try.func39 rfl rfl ?_
 refine Calls.mono (upto_any _ bp 3 _ (by omega) (by omega) (M.nth 1 rfl) hsu2) ?_
 clear T
 rintro e wc ⟨xu3, su3, hxu3, hsu3, rfl, hgr, hbk⟩
 intro ac T
 replace M := M.callC (cs' := [.int .u64 su3]) (.tail .head) hgr hbk
 clear hgr hbk
 refine sh_out hK _ _ ?_; clear hK K
 refine lq (v := (.agg #[.int .i64 xu1, .int .i64 0, .int .i64 xu2, .int .i64 xu3])) T (rn_build rfl (.cons (T.ev 4 rfl) (.cons (T.ev 2 rfl) (.cons (T.ev 0 rfl) .nil))) (fun _ => by kernel_rfl)) ?_; clear T ac; intro ac T
 refine l_w rfl ?_; intro K hK
 refine ow_al M T rfl rfl rfl rfl ?_; clear M T; intro g2 wc ac M T
 refine sh_out hK _ _ ?_; clear hK K
 refine l_w rfl ?_; intro K hK
 refine ow_stO M T rfl rfl (T.ev 0 rfl) (T.ev 1 rfl) rfl .head rfl (by simp) rfl (by kernel_rfl) ?_; clear M T; intro wc ac M T
 refine sh_out hK _ _ ?_; clear hK K
 refine wpList_nil ?_
 replace T := T.pick [0, 8, 9, 10] rfl
 refine nm_then ?_
 refine wp_seq ?_
 refine wp_seq ?_
 refine wp_region_lit ?_
 refine lq T (rn_move rfl (T.ev 3 rfl)) ?_; clear T ac; intro ac T
 refine lq T (rn_max2 rfl evc (T.ev 0 rfl)) ?_; clear T ac; intro ac T
 refine lq T (rn_quo rfl evc (T.ev 0 rfl) (by omega) (by omega)) ?_; clear T ac; intro ac T
 refine lq T (rn_min2 rfl evc (T.ev 0 rfl)) ?_; clear T ac; intro ac T
 refine lq T (rn_assign rfl (T.ev 0 rfl)) ?_; clear T ac; intro ac T
 refine wpList_nil ?_
 replace T := T.pick [0, 5, 6, 7] rfl
 refine nm_then ?_
 refine wp_seq ?_
 refine wp_region_lit ?_
 refine lq T (rn_move rfl (T.ev 0 rfl)) ?_; clear T ac; intro ac T
 refine lq T (rn_gtr rfl (T.ev 0 rfl) evc) ?_; clear T ac; intro ac T
 refine wpList_nil ?_
 replace T := T.pick [0, 2, 3, 4, 5] rfl
 refine nm_then ?_
 refine wp_if (T.ev 0 rfl) ?_ ?_
 ·intro h1
  refine wp_region_lit ?_
  refine lq T (rn_move rfl (T.ev 4 rfl)) ?_; clear T ac; intro ac T
  refine lq T (rn_move rfl (T.ev 2 rfl)) ?_; clear T ac; intro ac T
  refine lq T (rn_neg rfl (T.ev 0 rfl) (by omega)) ?_; clear T ac; intro ac T
  refine lq T (rn_move rfl (T.ev 4 rfl)) ?_; clear T ac; intro ac T
  refine l_w rfl ?_; intro K hK
  refine ow_call (first := []) (cap := []) T rfl rfl rfl rfl evf (.cons (T.ev 3 rfl) (.cons (T.ev 1 rfl) (.cons (T.ev 0 rfl) .nil))) Try.func19 rfl rfl ?_
  refine Calls.mono (within_pot _ bp (-(min 5 (Int.tdiv 5 (max 1 notes)))) (min 5 (Int.tdiv 5 (max 1 notes))) _ (by omega) (by omega) (by omega) (M.nth 2 rfl) hsu3) ?_
  clear T
  rintro e wc ⟨xu4, su4, hxu4, hsu4, rfl, hgr, hbk⟩
  intro ac T
  replace M := M.callC (cs' := [.int .u64 su4]) (.tail (.tail .head)) hgr hbk
  clear hgr hbk
  refine sh_out hK _ _ ?_; clear hK K
  refine lq (v := (.pointer (some ⟨g2, 1, none⟩))) T (rn_fieldAddr (off := 1) rfl (T.ev 7 rfl) (fun _ _ _ => by kernel_rfl)) ?_; clear T ac; intro ac T
  refine l_w rfl ?_; intro K hK
  refine ow_stO M T rfl rfl (T.ev 0 rfl) (T.ev 1 rfl) rfl .head rfl (by simp) rfl (by kernel_rfl) ?_; clear M T; intro wc ac M T
  refine sh_out hK _ _ ?_; clear hK K
  refine wpList_nil ?_
  replace T := T.pick [8, 9] rfl
  refine nm_then ?_
  refine wp_seq ?_
  refine wp_region_lit ?_
  refine lq T (rn_rowO (Mem.nth M 0 rfl) rfl (T.ev 0 rfl) rfl) ?_; clear T ac; intro ac T
  refine l_w rfl ?_; intro K hK
  refine ow_stO M T rfl rfl (T.ev 2 rfl) (T.ev 0 rfl) rfl (.tail .head) rfl (by simp) rfl (by kernel_rfl) ?_; clear M T; intro wc ac M T
  refine sh_out hK _ _ ?_; clear hK K
  refine wpList_nil ?_
  replace T := T.pick [2] rfl
  replace M := M.mask [false, true, true] rfl
  refine nm_then ?_
  refine wp_ret ?_
  refine rt_c M T rfl (T.ev 0 rfl) (nthE_mem (i := 0) rfl) rfl ?_
  exact ⟨⟨xu1, xu4, xu2, xu3⟩, _, ⟨by (try dsimp only); omega, by (try dsimp only); unfold mostD; omega, by (try dsimp only); omega, by (try dsimp only); omega⟩, hsu4, rfl, M.grown, M.nth 1 rfl⟩
 intro h1
 refine wp_skip ?_
 refine nm_then ?_
 refine wp_seq ?_
 refine wp_region_lit ?_
 refine lq T (rn_rowO (Mem.nth M 0 rfl) rfl (T.ev 2 rfl) rfl) ?_; clear T ac; intro ac T
 refine l_w rfl ?_; intro K hK
 refine ow_stO M T rfl rfl (T.ev 4 rfl) (T.ev 0 rfl) rfl (.tail .head) rfl (by simp) rfl (by kernel_rfl) ?_; clear M T; intro wc ac M T
 refine sh_out hK _ _ ?_; clear hK K
 refine wpList_nil ?_
 replace T := T.pick [4] rfl
 replace M := M.mask [false, true, true] rfl
 refine nm_then ?_
 refine wp_ret ?_
 refine rt_c M T rfl (T.ev 0 rfl) (nthE_mem (i := 0) rfl) rfl ?_
 exact ⟨⟨xu1, 0, xu2, xu3⟩, _, ⟨by (try dsimp only); omega, by (try dsimp only); unfold mostD; omega, by (try dsimp only); omega, by (try dsimp only); omega⟩, hsu3, rfl, M.grown, M.nth 1 rfl⟩
set_option maxRecDepth 100000 in
set_option maxHeartbeats 1000000 in
theorem soundOf_any (s : Int) (bp : Nat) (tone wide : Int) (w : World) (ht : -1000 ≤ tone ∧ tone ≤ 1000) (hw : 0 ≤ wide ∧ wide ≤ 40) (hp : Bk w bp #[.int .u64 s]) (hs : u64ok s) :
   Calls Try.prog 20 #[.pointer (some ⟨bp, 0, none⟩), .int .i64 tone, .int .i64 wide] w (SoundPost bp w) := by
 refine px_enter (fun b => b = bp) Try.func20 rfl 24 rfl [.pointer (some ⟨bp, 0, none⟩), .int .i64 tone, .int .i64 wide] rfl rfl (Mem.initEx (p := .cells [.int .u64 s]) hp) ?_
 intro ac wc T M
 refine wp_seq ?_
 refine wp_region_lit ?_
 refine l_w rfl ?_; intro K hK
 refine ow_al M T rfl rfl rfl rfl ?_; clear M T; intro g1 wc ac M T
 refine sh_out hK _ _ ?_; clear hK K
 refine wpList_nil ?_
 refine nm_then ?_
 refine wp_seq ?_
 refine wp_region_lit ?_
 refine lq T (rn_move rfl (T.ev 2 rfl)) ?_; clear T ac; intro ac T
 refine lq T (rn_min2 rfl evc (T.ev 0 rfl)) ?_; clear T ac; intro ac T
 refine lq T (rn_max2 rfl evc (T.ev 0 rfl)) ?_; clear T ac; intro ac T
 refine l_q (v := (.int .i64 (max (-30) (min 30 tone)))) (T.pick [0, 1, 2, 3, 4, 6] rfl) rfl rfl rfl rfl (rn_assign rfl (T.ev 0 rfl)) ?_; clear T ac; intro ac T
 refine wpList_nil ?_
 replace T := T.pick [0, 4, 5, 6] rfl
 refine nm_then ?_
 refine wp_seq ?_
 refine wp_region_lit ?_
 refine lq T (rn_move rfl (T.ev 2 rfl)) ?_; clear T ac; intro ac T
 refine lq T (rn_move rfl (T.ev 1 rfl)) ?_; clear T ac; intro ac T
 refine lq T (rn_move rfl (T.ev 5 rfl)) ?_; clear T ac; intro ac T
 refine l_w rfl ?_; intro K hK
 refine ow_call (first := []) (cap := []) T rfl rfl rfl rfl evf (.cons (T.ev 2 rfl) (.cons (T.ev 1 rfl) (.cons evc (.cons evc (.cons (T.ev 0 rfl) .nil))))) Try.func63 rfl rfl ?_
 refine Calls.mono (near_pot _ bp (max (-30) (min 30 tone)) (-30) 30 wide _ (by omega) (by omega) (by omega) (by omega) (by omega) (by omega) (M.nth 1 rfl) hs) ?_
 clear T
 rintro e wc ⟨xu1, yu1, su1, hxu1, hsu1, rfl, hgr, hbk⟩
 intro ac T
 replace M := M.callC (cs' := [.int .u64 su1]) (.tail .head) hgr hbk
 clear hgr hbk
 refine sh_out hK _ _ ?_; clear hK K
 refine lq T (rn_move rfl (T.ev 6 rfl)) ?_; clear T ac; intro ac T
 refine lq T (rn_move rfl (T.ev 7 rfl)) ?_; clear T ac; intro ac T
 refine lq T (rn_move rfl (T.ev 8 rfl)) ?_; clear T ac; intro ac T
 refine l_w rfl ?_; intro K hK
 refine ow_call (first := []) (cap := []) T rfl rfl rfl rfl evf (.cons (T.ev 0 rfl) (.cons evc (.cons evc .nil))) Try.func19 rfl rfl ?_
 refine Calls.mono (within_pot _ bp (-2) 2 _ (by omega) (by omega) (by omega) (M.nth 1 rfl) hsu1) ?_
 clear T
 rintro e wc ⟨xu2, su2, hxu2, hsu2, rfl, hgr, hbk⟩
 intro ac T
 replace M := M.callC (cs' := [.int .u64 su2]) (.tail .head) hgr hbk
 clear hgr hbk
 refine sh_out hK _ _ ?_; clear hK K
 refine l_w rfl ?_; intro K hK
 refine ow_bs (e := 3) [.int .i64 0, .int .i64 0, .int .i64 xu2] M T rfl rfl rfl rfl (.cons evc (.cons evc (.cons (T.ev 0 rfl) .nil))) (fun _ => by kernel_rfl) ?_; clear M T; intro g2 wc ac M T
 refine sh_out hK _ _ ?_; clear hK K
 refine l_w rfl ?_; intro K hK
 refine ow_call (first := []) (cap := []) T rfl rfl rfl rfl evf (.cons (T.ev 3 rfl) (.cons (T.ev 0 rfl) .nil)) Try.func64 rfl rfl ?_
 refine Calls.mono (of_any _ bp _ 3 3 [0, 0, xu2] _ (M.rdOwn (nthE_mem (i := 0) rfl) rfl rfl) (M.nee 0 2 rfl rfl rfl) (by decide) (by decide) (M.nth 2 rfl) hsu2) ?_
 clear T
 rintro e wc ⟨xu3, su3, hxu3, hsu3, rfl, hgr, hbk⟩
 intro ac T
 replace M := M.callC (cs' := [.int .u64 su3]) (.tail (.tail .head)) hgr hbk
 clear hgr hbk
 simp only [List.mem_cons, List.not_mem_nil, or_false] at hxu3
 refine sh_out hK _ _ ?_; clear hK K
 refine lq T (rn_move rfl (T.ev 13 rfl)) ?_; clear T ac; intro ac T
 refine lq T (rn_min2 rfl (T.ev 0 rfl) evc) ?_; clear T ac; intro ac T
 refine l_w rfl ?_; intro K hK
 refine ow_call (first := []) (cap := []) T rfl rfl rfl rfl evf (.cons (T.ev 7 rfl) (.cons (T.ev 2 rfl) (.cons evc (.cons evc (.cons (T.ev 0 rfl) .nil))))) Try.func63 rfl rfl ?_
 refine Calls.mono (near_pot _ bp xu3 (-3) 3 (min wide 1) _ (by omega) (by omega) (by omega) (by omega) (by omega) (by omega) (M.nth 2 rfl) hsu3) ?_
 clear T
 rintro e wc ⟨xu4, yu4, su4, hxu4, hsu4, rfl, hgr, hbk⟩
 intro ac T
 replace M := M.callC (cs' := [.int .u64 su4]) (.tail (.tail .head)) hgr hbk
 clear hgr hbk
 refine sh_out hK _ _ ?_; clear hK K
 refine lq (v := (.agg #[.int .i64 xu1, .int .i64 yu1, .int .i64 xu4, .int .i64 yu4])) T (rn_build rfl (.cons (T.ev 9 rfl) (.cons (T.ev 0 rfl) .nil)) (fun _ => by kernel_rfl)) ?_; clear T ac; intro ac T
 refine l_w rfl ?_; intro K hK
 refine ow_stO M T rfl rfl (T.ev 15 rfl) (T.ev 0 rfl) rfl (.tail .head) rfl (by simp) rfl (by kernel_rfl) ?_; clear M T; intro wc ac M T
 refine sh_out hK _ _ ?_; clear hK K
 refine wpList_nil ?_
 replace T := T.pick [15] rfl
 replace M := M.mask [false, true, true] rfl
 refine nm_then ?_
 refine wp_ret ?_
 refine rt_c M T rfl (T.ev 0 rfl) (nthE_mem (i := 0) rfl) rfl ?_
 exact ⟨⟨xu1, yu1, xu4, yu4⟩, _, ⟨by (try dsimp only); omega, by (try dsimp only); omega⟩, hsu4, rfl, M.grown, M.nth 1 rfl⟩
end Go.Proofs.Ytlahdenlmmlplaa
end

section
/-
 kit: boxes out of a pot.
-/
namespace Go.Proofs.Ytlahdenlmmlplaa
set_option linter.unusedSimpArgs false
set_option linter.unusedVariables false
open Go.RowKit
theorem Mem.joinW {w0 w w' : World} {ex : Nat → Prop} {L L' I : List (Nat × BA)} {g : Nat} {p p' : BA} (M : Mem w0 ex w L) (hu : Upd L g p p' L') (N : Mem w (fun b => b = g) w' (I ++ [(g, p')])) : Mem w0 ex w' (I ++ L') := by
 have hg := M.blk _ hu.mem
 have hgl := BA.lt hg.2
 have hnd := N.nd
 rw [List.map_append] at hnd
 obtain ⟨n1, n2, n3⟩ := List.nodup_append.1 hnd
 have hI : ∀ q ∈ I, w.heap.size ≤ q.1 := fun q hq => by
   rcases (N.blk q (List.mem_append_left _ hq)).1 with h | h
   · exact h
   · exact absurd h (n3 q.1 (List.mem_map.2 ⟨q, hq, rfl⟩) g (by simp))
 refine ⟨N.os.trans M.os, N.tape.trans M.tape, N.output.trans M.output, Nat.le_trans M.size N.size, fun b hb hx => ?_, fun q hq => ?_, ?_⟩
 · refine (N.block b (Nat.lt_of_lt_of_le hb M.size) fun e => ?_).trans (M.block b hb hx)
   have e : b = g := e
   subst e
   rcases hg.1 with h | h
   · have h : w0.heap.size ≤ b := h
     omega
   · exact hx h
 · rcases List.mem_append.1 hq with hq | hq
   · exact ⟨.inl (Nat.le_trans M.size (hI q hq)), (N.blk q (List.mem_append_left _ hq)).2⟩
   · rcases hu.all M.nd q hq with rfl | ⟨h1, h2⟩
     · exact ⟨hg.1, (N.blk _ (List.mem_append_right _ List.mem_cons_self)).2⟩
     · have h3 := M.blk q h1
       exact ⟨h3.1, BA.same h3.2 N.size (N.block _ (BA.lt h3.2) h2)⟩
 · rw [List.map_append, hu.keys]
   refine List.nodup_append.2 ⟨n1, M.nd, fun a ha b hb e => ?_⟩
   obtain ⟨q, hq, rfl⟩ := List.mem_map.1 ha
   obtain ⟨r, hr, rfl⟩ := List.mem_map.1 hb
   have h1 := hI q hq
   have h2 := BA.lt (M.blk r hr).2
   omega
structure Bx.made (b : Bx) (lo hi : Int) : Prop where
 law : b.law.made 3
 note : 0 ≤ b.note ∧ b.note ≤ 3
 nlo : (b.lows.length : Int) ≤ lo
 nhi : (b.highs.length : Int) ≤ hi
 good : b.good
theorem boxMade {b : Bx} {j : Jb} {lo hi : Int} (hl : b.law.made 3) (hn : 0 ≤ b.note ∧ b.note ≤ 3) (hlo : (b.lows.length : Int) ≤ lo ∧ b.lows.length ≤ 4) (hhi : (b.highs.length : Int) ≤ hi ∧ b.highs.length ≤ 5) (gl : ∀ x ∈ b.lows, x.good) (gh : ∀ x ∈ b.highs, x.good) (hme : 0 ≤ b.me ∧ b.me ≤ 1)
   (hj : j.made 0 1) (e : b.t0 = j.t0 ∧ b.t1 = j.t1 ∧ b.r0 = j.r0 ∧ b.r1 = j.r1 ∧ b.u0 = j.u0 ∧ b.u1 = j.u1 ∧ b.d0 = j.d0 ∧ b.d1 = j.d1 ∧ b.a0 = j.a0 ∧ b.a1 = j.a1 ∧ b.b0 = j.b0 ∧ b.b1 = j.b1 ∧ b.le = j.le) : b.made lo hi := by
 have gj := hj.good
 have hs := step_bd (notes := 3) hl.step hn
 have h1 := hl.first
 have h2 := hl.step
 have h3 := hl.span
 have h4 := hl.press
 have h5 := mostD_bd 3
 dsimp only at h1 h2 h3 h4 hs
 refine ⟨hl, hn, hlo.1, hhi.1, ⟨⟨by dsimp only; omega, by dsimp only; omega, by dsimp only; omega, by dsimp only; omega⟩, by omega, by unfold Bx.due; omega, ⟨hlo.2, gl⟩, ⟨hhi.2, gh⟩, check_of_good ?_⟩⟩
 obtain ⟨e1, e2, e3, e4, e5, e6, e7, e8, e9, e10, e11, e12, e13⟩ := e
 have k1 := gj.t
 have k2 := gj.r
 have k3 := gj.u
 have k4 := gj.d
 have k5 := gj.a
 have k6 := gj.b
 have k7 := gj.le
 exact ⟨by show (-60 : Int) ≤ 0 ∧ (0 : Int) ≤ 0 ∧ (0 : Int) ≤ 60; omega, by show 0 ≤ b.t0 ∧ b.t0 ≤ b.t1 ∧ b.t1 ≤ 100; omega, by show 0 ≤ b.r0 ∧ b.r0 ≤ b.r1 ∧ b.r1 ≤ 100; omega, by show 0 ≤ b.u0 ∧ b.u0 ≤ b.u1 ∧ b.u1 ≤ 12; omega, by show 0 ≤ b.d0 ∧ b.d0 ≤ b.d1 ∧ b.d1 ≤ 12; omega, by show 0 ≤ b.a0 ∧ b.a0 ≤ b.a1 ∧ b.a1 ≤ 12; omega, by show 0 ≤ b.b0 ∧ b.b0 ≤ b.b1 ∧ b.b1 ≤ 12; omega, by show 0 ≤ b.le ∧ b.le ≤ 100; omega, by show ([] : List (Int × Int)).length ≤ 4; simp, fun p hp => (by cases hp), by show 0 ≤ b.span ∧ b.span ≤ 60; omega, by show 0 ≤ b.me ∧ b.me ≤ 6; omega⟩
def BoxOfPost (bp : Nat) (lo hi : Int) (w : World) (e : Ending) (w' : World) : Prop :=
 ∃ (b : Bx) (A : Option Addr) (c : Nat) (B : Option Addr) (d : Nat) (s : Int) (I : List (Nat × BA)), e = .returned (bxV b A c B d) ∧ b.made lo hi ∧ u64ok s ∧ (∃ b1 o1, ∀ (w : World) (ex : Nat → Prop), Sp w ex I A b.lows.length 4 b1 o1 (sc b.lows)) ∧ (∃ b1 o1, ∀ (w : World) (ex : Nat → Prop), Sp w ex I B b.highs.length 4 b1 o1 (sc b.highs)) ∧ Mem w (fun b => b = bp) w' (I ++ [(bp, .cells [.int .u64 s])])
set_option maxRecDepth 100000 in
set_option maxHeartbeats 1000000 in
theorem boxOf_any (s : Int) (bp : Nat) (nlo nhi wide : Int) (w : World) (hlo : 0 ≤ nlo ∧ nlo ≤ 40) (hhi : 0 ≤ nhi ∧ nhi ≤ 40) (hw : 0 ≤ wide ∧ wide ≤ 40) (hp : Bk w bp #[.int .u64 s]) (hs : u64ok s) :
   Calls Try.prog 18 #[.pointer (some ⟨bp, 0, none⟩), .int .i64 nlo, .int .i64 nhi, .int .i64 wide] w (BoxOfPost bp nlo nhi w) := by
 refine px_enter (fun b => b = bp) Try.func18 rfl 115 rfl [.pointer (some ⟨bp, 0, none⟩), .int .i64 nlo, .int .i64 nhi, .int .i64 wide] rfl rfl (Mem.initEx (p := .cells [.int .u64 s]) hp) ?_
 intro ac wc T M
 refine wp_seq ?_
 refine wp_region_lit ?_
 refine l_w rfl ?_; intro K hK
 refine ow_al M T rfl rfl rfl rfl ?_; clear M T; intro g1 wc ac M T
 refine sh_out hK _ _ ?_; clear hK K
 refine wpList_nil ?_
 refine nm_then ?_
 refine wp_seq ?_
 refine wp_region_lit ?_
 refine lq T (rn_move rfl (T.ev 1 rfl)) ?_; clear T ac; intro ac T
 refine l_w rfl ?_; intro K hK
 refine ow_call (first := []) (cap := []) T rfl rfl rfl rfl evf (.cons (T.ev 0 rfl) (.cons evc .nil)) Try.func51 rfl rfl ?_
 refine Calls.mono (lawOf_any _ bp 3 _ (by omega) (M.nth 1 rfl) hs) ?_
 clear T
 rintro e wc ⟨lu1, su1, hlu1, hsu1, rfl, hgr, hbk⟩
 intro ac T
 replace M := M.callC (cs' := [.int .u64 su1]) (.tail .head) hgr hbk
 clear hgr hbk
 have hlfu1 := hlu1.first
 have hlsu1 := hlu1.step
 have hlpu1 := hlu1.span
 have hlqu1 := hlu1.press
 have hmdu1 := mostD_bd 3
 refine sh_out hK _ _ ?_; clear hK K
 refine lq T (rn_move rfl (T.ev 3 rfl)) ?_; clear T ac; intro ac T
 refine l_w rfl ?_; intro K hK
 refine ow_call (first := []) (cap := []) T rfl rfl rfl rfl evf (.cons (T.ev 0 rfl) (.cons evc .nil)) Try.func39 rfl rfl ?_
 refine Calls.mono (upto_any _ bp 3 _ (by omega) (by omega) (M.nth 1 rfl) hsu1) ?_
 clear T
 rintro e wc ⟨xu2, su2, hxu2, hsu2, rfl, hgr, hbk⟩
 intro ac T
 replace M := M.callC (cs' := [.int .u64 su2]) (.tail .head) hgr hbk
 clear hgr hbk
 have hst := step_bd (notes := 3) (k := xu2) hlu1.step (by omega)
 refine sh_out hK _ _ ?_; clear hK K
 refine lq T (rn_move rfl (T.ev 5 rfl)) ?_; clear T ac; intro ac T
 refine l_w rfl ?_; intro K hK
 refine ow_call (first := []) (cap := []) T rfl rfl rfl rfl evf (.cons (T.ev 0 rfl) (.cons evc .nil)) Try.func39 rfl rfl ?_
 refine Calls.mono (upto_any _ bp 1 _ (by omega) (by omega) (M.nth 1 rfl) hsu2) ?_
 clear T
 rintro e wc ⟨xu3, su3, hxu3, hsu3, rfl, hgr, hbk⟩
 intro ac T
 replace M := M.callC (cs' := [.int .u64 su3]) (.tail .head) hgr hbk
 clear hgr hbk
 refine sh_out hK _ _ ?_; clear hK K
 refine lq (v := (.agg #[.int .i64 lu1.first, .int .i64 lu1.step, .int .i64 lu1.span, .int .i64 lu1.press, .int .i64 xu2, .slice none 0 0, .slice none 0 0, .int .i64 0, .int .i64 0, .int .i64 0, .int .i64 0, .int .i64 0, .int .i64 0, .int .i64 0, .int .i64 0, .int .i64 0, .int .i64 0, .int .i64 0, .int .i64 0, .int .i64 0, .int .i64 xu3])) T (rn_build rfl (.cons (T.ev 4 rfl) (.cons (T.ev 2 rfl) (.cons (T.ev 0 rfl) .nil))) (fun _ => by kernel_rfl)) ?_; clear T ac; intro ac T
 refine l_w rfl ?_; intro K hK
 refine ow_al M T rfl rfl rfl rfl ?_; clear M T; intro g2 wc ac M T
 refine sh_out hK _ _ ?_; clear hK K
 refine l_w rfl ?_; intro K hK
 refine ow_stO M T rfl rfl (T.ev 0 rfl) (T.ev 1 rfl) rfl .head rfl (by simp) rfl (by kernel_rfl) ?_; clear M T; intro wc ac M T
 refine sh_out hK _ _ ?_; clear hK K
 refine wpList_nil ?_
 replace T := T.pick [0, 8, 9, 10, 11, 12] rfl
 refine nm_then ?_
 refine wp_seq ?_
 refine wp_region_lit ?_
 refine lq (v := (.pointer (some ⟨g2, 0, none⟩))) T (rn_fieldAddr (off := 0) rfl (T.ev 0 rfl) (fun _ _ _ => by kernel_rfl)) ?_; clear T ac; intro ac T
 refine lq (v := (.pointer (some ⟨g2, 0, none⟩))) T (rn_fieldAddr (off := 0) rfl (T.ev 0 rfl) (fun _ _ _ => by kernel_rfl)) ?_; clear T ac; intro ac T
 refine lq T (rn_one (Mem.nth M 0 rfl) rfl (T.ev 0 rfl) rfl) ?_; clear T ac; intro ac T
 refine lq (v := (.pointer (some ⟨g2, 0, none⟩))) T (rn_fieldAddr (off := 0) rfl (T.ev 3 rfl) (fun _ _ _ => by kernel_rfl)) ?_; clear T ac; intro ac T
 refine lq (v := (.pointer (some ⟨g2, 1, none⟩))) T (rn_fieldAddr (off := 1) rfl (T.ev 0 rfl) (fun _ _ _ => by kernel_rfl)) ?_; clear T ac; intro ac T
 refine lq T (rn_one (Mem.nth M 0 rfl) rfl (T.ev 0 rfl) rfl) ?_; clear T ac; intro ac T
 refine lq (v := (.pointer (some ⟨g2, 4, none⟩))) T (rn_fieldAddr (off := 4) rfl (T.ev 6 rfl) (fun _ _ _ => by kernel_rfl)) ?_; clear T ac; intro ac T
 refine lq T (rn_one (Mem.nth M 0 rfl) rfl (T.ev 0 rfl) rfl) ?_; clear T ac; intro ac T
 refine lq T (rn_mul rfl (T.ev 2 rfl) (T.ev 0 rfl) (by omega)) ?_; clear T ac; intro ac T
 refine lq T (rn_add rfl (T.ev 6 rfl) (T.ev 0 rfl) (by omega)) ?_; clear T ac; intro ac T
 refine lq T (rn_assign rfl (T.ev 0 rfl)) ?_; clear T ac; intro ac T
 refine wpList_nil ?_
 replace T := T.pick [0, 11, 12, 13, 14, 15, 16] rfl
 refine nm_then ?_
 refine wp_seq ?_
 refine wp_region_lit ?_
 refine lq T (rn_assign rfl evc) ?_; clear T ac; intro ac T
 refine wpList_nil ?_
 refine nm_then ?_
 refine wp_seq ?_
 refine wp_seq ?_
 refine wp_region_lit ?_
 refine lq T (rn_move rfl (T.ev 4 rfl)) ?_; clear T ac; intro ac T
 refine lq T (rn_move rfl (T.ev 6 rfl)) ?_; clear T ac; intro ac T
 refine lq T (rn_min2 rfl (T.ev 0 rfl) evc) ?_; clear T ac; intro ac T
 refine l_w rfl ?_; intro K hK
 refine ow_call (first := []) (cap := []) T rfl rfl rfl rfl evf (.cons (T.ev 2 rfl) (.cons (T.ev 0 rfl) .nil)) Try.func39 rfl rfl ?_
 refine Calls.mono (upto_any _ bp (min nlo 4) _ (by omega) (by omega) (M.nth 2 rfl) hsu3) ?_
 clear T
 rintro e wc ⟨xu4, su4, hxu4, hsu4, rfl, hgr, hbk⟩
 intro ac T
 replace M := M.callC (cs' := [.int .u64 su4]) (.tail (.tail .head)) hgr hbk
 clear hgr hbk
 refine sh_out hK _ _ ?_; clear hK K
 refine lq T (rn_assign rfl (T.ev 0 rfl)) ?_; clear T ac; intro ac T
 refine wpList_nil ?_
 replace T := T.pick [0, 5, 6, 7, 8, 9, 11, 12] rfl
 refine nm_then ?_
 refine wp_block ?_
 refine wp_loop_n (fun mz ac wc => ∃ (i : Int) (ol : List Snd) (A3 : Option Addr) (c3 : Nat) (tn : List Int) (A4 : Option Addr) (c4 : Nat) (s : Int) (Ii Io : List (Nat × BA)), mz = i.toNat ∧ (0 ≤ i) ∧ ((ol.length : Int) + i = xu4) ∧ (tn.length = ol.length) ∧ (∀ z ∈ ol, z.good) ∧ (∀ z ∈ tn, -6 ≤ z ∧ z ≤ 6) ∧ (u64ok s) ∧ (Sl 48 4 (.slice A3 ol.length c3) ol.length (sc ol) Io) ∧ (Sl 3 1 (.slice A4 tn.length c4) tn.length (ic tn) Ii) ∧ Tm ac 115 [(0, .pointer (some ⟨bp, 0, none⟩)), (2, .int .i64 nhi), (3, .int .i64 wide), (8, .pointer (some ⟨g1, 0, none⟩)), (9, .pointer (some ⟨g2, 0, none⟩)), (10, .int .i64 (lu1.first + (lu1.step * xu2))), (11, .slice A4 tn.length c4), (12, .int .i64 i)] ∧ Mem w (fun b => b = bp) wc ((g2, .cells [.int .i64 lu1.first, .int .i64 lu1.step, .int .i64 lu1.span, .int .i64 lu1.press, .int .i64 xu2, .slice A3 ol.length c3, .slice none 0 0, .int .i64 0, .int .i64 0, .int .i64 0, .int .i64 0, .int .i64 0, .int .i64 0, .int .i64 0, .int .i64 0, .int .i64 0, .int .i64 0, .int .i64 0, .int .i64 0, .int .i64 0, .int .i64 xu3]) :: (g1, .cells [.int .i64 0, .int .i64 0, .int .i64 0, .int .i64 0, .int .i64 0, .slice none 0 0, .slice none 0 0, .int .i64 0, .int .i64 0, .int .i64 0, .int .i64 0, .int .i64 0, .int .i64 0, .int .i64 0, .int .i64 0, .int .i64 0, .int .i64 0, .int .i64 0, .int .i64 0, .int .i64 0, .int .i64 0]) :: (bp, .cells [.int .u64 s]) :: (Ii ++ Io))) ?_ ?_
 ·exact ⟨_, _, [], none, 0, [], none, 0, _, [], [], rfl, (by omega), (by simp), rfl, (fun z hz => by cases hz), (fun z hz => by cases hz), hsu4, (Sl.nil _ _), (Sl.nil _ _), T.pick [5, 6, 7, 4, 3, 2, 1, 0] rfl, M.mask [true, true, true] rfl⟩
 clear T M
 rintro mz ac wc ⟨i, ol, A3, c3, tn, A4, c4, s, Ii, Io, hmm1, hi, hol, htl, hgo, htn, hs, hsl, hsm, T, M⟩
 refine wp_seq ?_
 refine wp_seq ?_
 refine wp_region_lit ?_
 refine lq T (rn_move rfl (T.ev 7 rfl)) ?_; clear T ac; intro ac T
 refine lq T (rn_gtr rfl (T.ev 0 rfl) evc) ?_; clear T ac; intro ac T
 refine wpList_nil ?_
 replace T := T.pick [0, 2, 3, 4, 5, 6, 7, 8, 9] rfl
 refine nm_then ?_
 refine wp_if (T.ev 0 rfl) ?_ ?_
 ·intro h1
  refine wp_skip ?_
  refine nm_then ?_
  refine wp_seq ?_
  refine wp_block ?_
  refine wp_seq ?_
  refine wp_region_lit ?_
  refine lq T (rn_move rfl (T.ev 1 rfl)) ?_; clear T ac; intro ac T
  refine l_w rfl ?_; intro K hK
  refine ow_call (first := []) (cap := []) T rfl rfl rfl rfl evf (.cons (T.ev 0 rfl) (.cons evc (.cons evc .nil))) Try.func19 rfl rfl ?_
  refine Calls.mono (within_pot _ bp (-6) 6 _ (by omega) (by omega) (by omega) (M.nth 2 rfl) hs) ?_
  clear T
  rintro e wc ⟨xu5, su5, hxu5, hsu5, rfl, hgr, hbk⟩
  intro ac T
  replace M := M.callC (cs' := [.int .u64 su5]) (.tail (.tail .head)) hgr hbk
  clear hgr hbk
  refine sh_out hK _ _ ?_; clear hK K
  refine lq T (rn_assign rfl (T.ev 0 rfl)) ?_; clear T ac; intro ac T
  refine wpList_nil ?_
  replace T := T.pick [0, 4, 5, 6, 7, 8, 9, 10, 11] rfl
  refine nm_then ?_
  refine g_start2 M (M.perm [1] rfl rfl) 15 (by kernel_rfl) rfl (by kernel_rfl) ?_
  clear M; intro wc M
  refine g_addG 5 (M.perm [0, 1, 2] rfl rfl) ?_
  refine g_addG 13 (M.perm [0, 1] rfl rfl) ?_
  refine gq (v := (.pointer (some ⟨g2, 5, none⟩))) T 0 1 rfl (fun _ _ _ _ _ => (rn_fieldAddr (off := 5) rfl (T.ev 5 rfl) (fun _ _ _ => by kernel_rfl))) ?_; clear T ac; intro ac T
  refine gq T 1 3 rfl (fun B w' hD hl hS => (rn_one (Mem.nth (show Mem w (fun b => b = bp) w' _ from ((MA.lft hS) (hD.wait (i := 1) (m := 13) (by kernel_rfl) hl))) 0 rfl) rfl (T.ev 0 rfl) rfl)) ?_; clear T ac; intro ac T
  refine gq T 2 7 rfl (fun _ _ _ _ _ => (rn_move rfl (T.ev 3 rfl))) ?_; clear T ac; intro ac T
  refine gq T 3 15 rfl (fun _ _ _ _ _ => (rn_move rfl (T.ev 3 rfl))) ?_; clear T ac; intro ac T
  refine gq T 4 31 rfl (fun _ _ _ _ _ => (rn_move rfl (T.ev 7 rfl))) ?_; clear T ac; intro ac T
  refine gq T 8 287 rfl (fun _ _ _ _ _ => (rn_move rfl (T.ev 12 rfl))) ?_; clear T ac; intro ac T
  refine gq T 9 799 rfl (fun _ _ _ _ _ => (rn_move rfl (T.ev 6 rfl))) ?_; clear T ac; intro ac T
  refine g_m2 (i := 5) (j := 10) (by kernel_rfl) ?_ ?_
  ·refine gi 831 ?_; intro K hK
   refine ow_call (first := []) (cap := []) T rfl rfl rfl rfl evf (.cons (T.ev 4 rfl) (.cons (T.ev 3 rfl) (.cons (T.ev 2 rfl) .nil))) Try.func20 rfl rfl ?_
   refine Calls.mono (soundOf_any _ bp xu5 wide _ (by omega) (by omega) (M.nth 2 rfl) hsu5) ?_
   clear T
   rintro e wc ⟨xur8_5, sur8_5, hxur8_5, hsur8_5, rfl, hgr, hbk⟩
   intro ac T
   replace M := M.callC (cs' := [.int .u64 sur8_5]) (.tail (.tail .head)) hgr hbk
   clear hgr hbk
   refine sh_out hK _ _ (MA.mk (fun _ => M.perm [0, 1] rfl rfl) (MA.mk (fun h => (no_of (by kernel_rfl) h).elim) (M.perm [1] rfl rfl))) ?_; clear hK K
   refine g_m2 (i := 6) (j := 10) (by kernel_rfl) ?_ ?_
   ·refine gi 895 ?_; intro K hK
    refine ow_bs (e := 48) [.int .i64 xur8_5.t0, .int .i64 xur8_5.t1, .int .i64 xur8_5.s0, .int .i64 xur8_5.s1] M T rfl rfl rfl rfl (.cons (T.ev 0 rfl) .nil) (fun _ => by kernel_rfl) ?_; clear M T; intro gr8_6 wc ac M T
    refine sh_out hK _ _ (MA.mk (fun _ => M.perm [1, 2] rfl rfl) (MA.mk (fun h => (no_of (by kernel_rfl) h).elim) (M.perm [2] rfl rfl))) ?_; clear hK K
    refine g_m2 (i := 7) (j := 10) (by kernel_rfl) ?_ ?_
    ·refine gi 1023 ?_; intro K hK
     refine ow_app (((gr8_6, .cells [.int .i64 xur8_5.t0, .int .i64 xur8_5.t1, .int .i64 xur8_5.s0, .int .i64 xur8_5.s1]) :: (g2, .cells [.int .i64 lu1.first, .int .i64 lu1.step, .int .i64 lu1.span, .int .i64 lu1.press, .int .i64 xu2, .slice A3 ol.length c3, .slice none 0 0, .int .i64 0, .int .i64 0, .int .i64 0, .int .i64 0, .int .i64 0, .int .i64 0, .int .i64 0, .int .i64 0, .int .i64 0, .int .i64 0, .int .i64 0, .int .i64 0, .int .i64 0, .int .i64 xu3]) :: (g1, .cells [.int .i64 0, .int .i64 0, .int .i64 0, .int .i64 0, .int .i64 0, .slice none 0 0, .slice none 0 0, .int .i64 0, .int .i64 0, .int .i64 0, .int .i64 0, .int .i64 0, .int .i64 0, .int .i64 0, .int .i64 0, .int .i64 0, .int .i64 0, .int .i64 0, .int .i64 0, .int .i64 0, .int .i64 0]) :: (bp, .cells [.int .u64 sur8_5]) :: Ii)) Try.info48 hsl M (by first | rfl | simp) T rfl rfl rfl rfl Try.underlying38 rfl rfl rfl (by omega) (T.ev 7 rfl) (T.ev 0 rfl) (nthE_mem (i := 0) rfl) rfl rfl ?_; clear M T; intro ga1 cga1 wc ac M T
     refine sh_out hK _ _ (MA.mk (fun _ => M.perm [2, 3] rfl rfl) (MA.mk (fun h => (no_of (by kernel_rfl) h).elim) (M.perm [3] rfl rfl))) ?_; clear hK K
     refine gq (v := (.pointer (some ⟨g2, 5, none⟩))) T 12 5119 rfl (fun _ _ _ _ _ => (rn_fieldAddr (off := 5) rfl (T.ev 15 rfl) (fun _ _ _ => by kernel_rfl))) ?_; clear T ac; intro ac T
     refine gw 10 6143 ?_; intro K hK
     refine ow_bs (e := 3) [.int .i64 xu5] M T rfl rfl rfl rfl (.cons (T.ev 4 rfl) .nil) (fun _ => by kernel_rfl) ?_; clear M T; intro gr8_10 wc ac M T
     refine sh_out hK _ _ (MA.mk (fun _ => M.perm [3, 4] rfl rfl) (MA.mk (fun h => (no_of (by kernel_rfl) h).elim) (M.perm [4] rfl rfl))) ?_; clear hK K
     refine gw 11 8191 ?_; intro K hK
     refine ow_app ([(gr8_10, .cells [.int .i64 xu5]), (ga1, .row 48 4 (ol.length + 1) ((sc ol) ++ [.int .i64 xur8_5.t0, .int .i64 xur8_5.t1, .int .i64 xur8_5.s0, .int .i64 xur8_5.s1]) cga1), (gr8_6, .cells [.int .i64 xur8_5.t0, .int .i64 xur8_5.t1, .int .i64 xur8_5.s0, .int .i64 xur8_5.s1]), (g2, .cells [.int .i64 lu1.first, .int .i64 lu1.step, .int .i64 lu1.span, .int .i64 lu1.press, .int .i64 xu2, .slice A3 ol.length c3, .slice none 0 0, .int .i64 0, .int .i64 0, .int .i64 0, .int .i64 0, .int .i64 0, .int .i64 0, .int .i64 0, .int .i64 0, .int .i64 0, .int .i64 0, .int .i64 0, .int .i64 0, .int .i64 0, .int .i64 xu3]), (g1, .cells [.int .i64 0, .int .i64 0, .int .i64 0, .int .i64 0, .int .i64 0, .slice none 0 0, .slice none 0 0, .int .i64 0, .int .i64 0, .int .i64 0, .int .i64 0, .int .i64 0, .int .i64 0, .int .i64 0, .int .i64 0, .int .i64 0, .int .i64 0, .int .i64 0, .int .i64 0, .int .i64 0, .int .i64 0]), (bp, .cells [.int .u64 sur8_5])]) Try.info3 hsm M (by first | rfl | simp) T rfl rfl rfl rfl Try.underlying22 rfl rfl rfl (by omega) (T.ev 6 rfl) (T.ev 0 rfl) (nthE_mem (i := 0) rfl) rfl rfl ?_; clear M T; intro ga2 cga2 wc ac M T
     refine sh_out hK _ _ (MA.mk (fun _ => M.mask [false, false, false, false, true, true, false] rfl) (MA.mk (fun h => (no_of (by kernel_rfl) h).elim) (M.mask [false, false, false, false, false, true, false] rfl))) ?_; clear hK K
     refine gw 13 16383 ?_; intro K hK
     refine ow_stO M T rfl rfl (T.ev 2 rfl) (T.ev 3 rfl) rfl (.tail (.tail (.tail (.tail .head)))) rfl (by simp) rfl (by kernel_rfl) ?_; clear M T; intro wc ac M T
     refine sh_out hK _ _ (MA.mk (fun h => (no_of (by kernel_rfl) h).elim) (MA.mk (fun h => (no_of (by kernel_rfl) h).elim) (M.mask [false, false, false, false, false, true, false] rfl))) ?_; clear hK K
     refine g_q (v := (.slice (some ⟨ga2, 0, none⟩) (tn.length + 1) cga2)) (T := T.pick [0, 1, 2, 3, 4, 5, 6, 7, 8, 9, 10, 11, 12, 13, 14, 15, 16, 17, 18, 19, 21] rfl) (i := 14) rfl (by kernel_rfl) (by kernel_rfl : (pbits 15 16383).setIfInBounds 14 true = pbits 15 32767) (si_and (si_G rfl) (si_and (si_G rfl) si_U)) (fun _ _ _ h => h) rfl rfl rfl rfl (fun _ _ _ _ _ => (rn_assign rfl (T.ev 0 rfl))) ?_; clear T ac; intro ac T
     refine g_done (by kernel_rfl) ?_
     replace T := T.pick [0, 15, 16, 17, 18, 19, 20, 21] rfl
     replace M := M.mask [true, false, true, false, true, true, true] rfl
     refine nm_blk ?_
     refine nm_then ?_
     refine wp_region_lit ?_
     refine lq T (rn_move rfl (T.ev 7 rfl)) ?_; clear T ac; intro ac T
     refine lq T (rn_sub rfl (T.ev 0 rfl) evc (by omega)) ?_; clear T ac; intro ac T
     refine l_q (v := (.int .i64 (i - 1))) (T.pick [0, 1, 2, 3, 4, 5, 6, 7, 8] rfl) rfl rfl rfl rfl (rn_assign rfl (T.ev 0 rfl)) ?_; clear T ac; intro ac T
     refine wpList_nil ?_
     replace T := T.pick [0, 3, 4, 5, 6, 7, 8, 9] rfl
     refine nm_then ?_
     have e9a : ol.length + 1 = (ol ++ [xur8_5]).length := by simp
     have e8a : ((sc ol) ++ [.int .i64 xur8_5.t0, .int .i64 xur8_5.t1, .int .i64 xur8_5.s0, .int .i64 xur8_5.s1]) = sc (ol ++ [xur8_5]) := by rw [← sc_snoc]
     rw [e9a, e8a] at M
     (try rw [e9a] at T)
     have e9b : tn.length + 1 = (tn ++ [xu5]).length := by simp
     have e8b : ((ic tn) ++ [.int .i64 xu5]) = ic (tn ++ [xu5]) := by rw [← ic_snoc]
     rw [e9b, e8b] at M
     (try rw [e9b] at T)
     exact ⟨_, by omega, (i - 1), (ol ++ [xur8_5]), _, _, (tn ++ [xu5]), _, _, sur8_5, [(ga2, .row 3 1 (tn ++ [xu5]).length (ic (tn ++ [xu5])) cga2)], [(ga1, .row 48 4 (ol ++ [xur8_5]).length (sc (ol ++ [xur8_5])) cga1)], rfl, (by omega), (by simp only [List.length_append, List.length_cons, List.length_nil]; omega), (by simp only [List.length_append, List.length_cons, List.length_nil]; omega), (fun z hz => by rcases List.mem_append.1 hz with h9 | h9; exact hgo z h9; simp only [List.mem_cons, List.not_mem_nil, or_false] at h9; subst h9; exact hxur8_5), (fun z hz => by rcases List.mem_append.1 hz with h9 | h9; exact htn z h9; simp only [List.mem_cons, List.not_mem_nil, or_false] at h9; subst h9; omega), hsur8_5, (Sl.row _ _ _ _ _ _), (Sl.row _ _ _ _ _ _), T.pick [2, 3, 4, 5, 6, 7, 1, 0] rfl, M.perm [2, 3, 4, 0, 1] rfl rfl⟩
    refine gi 1919 ?_; intro K hK
    refine ow_bs (e := 3) [.int .i64 xu5] M T rfl rfl rfl rfl (.cons (T.ev 2 rfl) .nil) (fun _ => by kernel_rfl) ?_; clear M T; intro gr8_10 wc ac M T
    refine sh_out hK _ _ (MA.mk (fun _ => M.perm [2, 3] rfl rfl) (MA.mk (fun h => (no_of (by kernel_rfl) h).elim) (M.perm [3] rfl rfl))) ?_; clear hK K
    refine gw 7 2047 ?_; intro K hK
    refine ow_app (((gr8_10, .cells [.int .i64 xu5]) :: (gr8_6, .cells [.int .i64 xur8_5.t0, .int .i64 xur8_5.t1, .int .i64 xur8_5.s0, .int .i64 xur8_5.s1]) :: (g2, .cells [.int .i64 lu1.first, .int .i64 lu1.step, .int .i64 lu1.span, .int .i64 lu1.press, .int .i64 xu2, .slice A3 ol.length c3, .slice none 0 0, .int .i64 0, .int .i64 0, .int .i64 0, .int .i64 0, .int .i64 0, .int .i64 0, .int .i64 0, .int .i64 0, .int .i64 0, .int .i64 0, .int .i64 0, .int .i64 0, .int .i64 0, .int .i64 xu3]) :: (g1, .cells [.int .i64 0, .int .i64 0, .int .i64 0, .int .i64 0, .int .i64 0, .slice none 0 0, .slice none 0 0, .int .i64 0, .int .i64 0, .int .i64 0, .int .i64 0, .int .i64 0, .int .i64 0, .int .i64 0, .int .i64 0, .int .i64 0, .int .i64 0, .int .i64 0, .int .i64 0, .int .i64 0, .int .i64 0]) :: (bp, .cells [.int .u64 sur8_5]) :: Ii)) Try.info48 hsl M (by first | rfl | simp) T rfl rfl rfl rfl Try.underlying38 rfl rfl rfl (by omega) (T.ev 8 rfl) (T.ev 1 rfl) (nthE_mem (i := 1) rfl) rfl rfl ?_; clear M T; intro ga3 cga3 wc ac M T
    refine sh_out hK _ _ (MA.mk (fun _ => M.perm [3, 4] rfl rfl) (MA.mk (fun h => (no_of (by kernel_rfl) h).elim) (M.perm [4] rfl rfl))) ?_; clear hK K
    refine gq (v := (.pointer (some ⟨g2, 5, none⟩))) T 12 6143 rfl (fun _ _ _ _ _ => (rn_fieldAddr (off := 5) rfl (T.ev 16 rfl) (fun _ _ _ => by kernel_rfl))) ?_; clear T ac; intro ac T
    refine gw 11 8191 ?_; intro K hK
    refine ow_app ([(ga3, .row 48 4 (ol.length + 1) ((sc ol) ++ [.int .i64 xur8_5.t0, .int .i64 xur8_5.t1, .int .i64 xur8_5.s0, .int .i64 xur8_5.s1]) cga3), (gr8_10, .cells [.int .i64 xu5]), (gr8_6, .cells [.int .i64 xur8_5.t0, .int .i64 xur8_5.t1, .int .i64 xur8_5.s0, .int .i64 xur8_5.s1]), (g2, .cells [.int .i64 lu1.first, .int .i64 lu1.step, .int .i64 lu1.span, .int .i64 lu1.press, .int .i64 xu2, .slice A3 ol.length c3, .slice none 0 0, .int .i64 0, .int .i64 0, .int .i64 0, .int .i64 0, .int .i64 0, .int .i64 0, .int .i64 0, .int .i64 0, .int .i64 0, .int .i64 0, .int .i64 0, .int .i64 0, .int .i64 0, .int .i64 xu3]), (g1, .cells [.int .i64 0, .int .i64 0, .int .i64 0, .int .i64 0, .int .i64 0, .slice none 0 0, .slice none 0 0, .int .i64 0, .int .i64 0, .int .i64 0, .int .i64 0, .int .i64 0, .int .i64 0, .int .i64 0, .int .i64 0, .int .i64 0, .int .i64 0, .int .i64 0, .int .i64 0, .int .i64 0, .int .i64 0]), (bp, .cells [.int .u64 sur8_5])]) Try.info3 hsm M (by first | rfl | simp) T rfl rfl rfl rfl Try.underlying22 rfl rfl rfl (by omega) (T.ev 6 rfl) (T.ev 2 rfl) (nthE_mem (i := 1) rfl) rfl rfl ?_; clear M T; intro ga4 cga4 wc ac M T
    refine sh_out hK _ _ (MA.mk (fun _ => M.mask [false, false, false, false, true, true, false] rfl) (MA.mk (fun h => (no_of (by kernel_rfl) h).elim) (M.mask [false, false, false, false, false, true, false] rfl))) ?_; clear hK K
    refine gw 13 16383 ?_; intro K hK
    refine ow_stO M T rfl rfl (T.ev 1 rfl) (T.ev 2 rfl) rfl (.tail (.tail (.tail (.tail .head)))) rfl (by simp) rfl (by kernel_rfl) ?_; clear M T; intro wc ac M T
    refine sh_out hK _ _ (MA.mk (fun h => (no_of (by kernel_rfl) h).elim) (MA.mk (fun h => (no_of (by kernel_rfl) h).elim) (M.mask [false, false, false, false, false, true, false] rfl))) ?_; clear hK K
    refine g_q (v := (.slice (some ⟨ga4, 0, none⟩) (tn.length + 1) cga4)) (T := T.pick [0, 1, 2, 3, 4, 5, 6, 7, 8, 9, 10, 11, 12, 13, 14, 15, 16, 17, 18, 19, 21] rfl) (i := 14) rfl (by kernel_rfl) (by kernel_rfl : (pbits 15 16383).setIfInBounds 14 true = pbits 15 32767) (si_and (si_G rfl) (si_and (si_G rfl) si_U)) (fun _ _ _ h => h) rfl rfl rfl rfl (fun _ _ _ _ _ => (rn_assign rfl (T.ev 0 rfl))) ?_; clear T ac; intro ac T
    refine g_done (by kernel_rfl) ?_
    replace T := T.pick [0, 15, 16, 17, 18, 19, 20, 21] rfl
    replace M := M.mask [true, true, false, false, true, true, true] rfl
    refine nm_blk ?_
    refine nm_then ?_
    refine wp_region_lit ?_
    refine lq T (rn_move rfl (T.ev 7 rfl)) ?_; clear T ac; intro ac T
    refine lq T (rn_sub rfl (T.ev 0 rfl) evc (by omega)) ?_; clear T ac; intro ac T
    refine l_q (v := (.int .i64 (i - 1))) (T.pick [0, 1, 2, 3, 4, 5, 6, 7, 8] rfl) rfl rfl rfl rfl (rn_assign rfl (T.ev 0 rfl)) ?_; clear T ac; intro ac T
    refine wpList_nil ?_
    replace T := T.pick [0, 3, 4, 5, 6, 7, 8, 9] rfl
    refine nm_then ?_
    have e9a : ol.length + 1 = (ol ++ [xur8_5]).length := by simp
    have e8a : ((sc ol) ++ [.int .i64 xur8_5.t0, .int .i64 xur8_5.t1, .int .i64 xur8_5.s0, .int .i64 xur8_5.s1]) = sc (ol ++ [xur8_5]) := by rw [← sc_snoc]
    rw [e9a, e8a] at M
    (try rw [e9a] at T)
    have e9b : tn.length + 1 = (tn ++ [xu5]).length := by simp
    have e8b : ((ic tn) ++ [.int .i64 xu5]) = ic (tn ++ [xu5]) := by rw [← ic_snoc]
    rw [e9b, e8b] at M
    (try rw [e9b] at T)
    exact ⟨_, by omega, (i - 1), (ol ++ [xur8_5]), _, _, (tn ++ [xu5]), _, _, sur8_5, [(ga4, .row 3 1 (tn ++ [xu5]).length (ic (tn ++ [xu5])) cga4)], [(ga3, .row 48 4 (ol ++ [xur8_5]).length (sc (ol ++ [xur8_5])) cga3)], rfl, (by omega), (by simp only [List.length_append, List.length_cons, List.length_nil]; omega), (by simp only [List.length_append, List.length_cons, List.length_nil]; omega), (fun z hz => by rcases List.mem_append.1 hz with h9 | h9; exact hgo z h9; simp only [List.mem_cons, List.not_mem_nil, or_false] at h9; subst h9; exact hxur8_5), (fun z hz => by rcases List.mem_append.1 hz with h9 | h9; exact htn z h9; simp only [List.mem_cons, List.not_mem_nil, or_false] at h9; subst h9; omega), hsur8_5, (Sl.row _ _ _ _ _ _), (Sl.row _ _ _ _ _ _), T.pick [2, 3, 4, 5, 6, 7, 1, 0] rfl, M.perm [2, 3, 4, 0, 1] rfl rfl⟩
   refine gi 1855 ?_; intro K hK
   refine ow_bs (e := 3) [.int .i64 xu5] M T rfl rfl rfl rfl (.cons (T.ev 1 rfl) .nil) (fun _ => by kernel_rfl) ?_; clear M T; intro gr8_10 wc ac M T
   refine sh_out hK _ _ (MA.mk (fun _ => M.perm [1, 2] rfl rfl) (MA.mk (fun h => (no_of (by kernel_rfl) h).elim) (M.perm [2] rfl rfl))) ?_; clear hK K
   refine gw 6 1919 ?_; intro K hK
   refine ow_bs (e := 48) [.int .i64 xur8_5.t0, .int .i64 xur8_5.t1, .int .i64 xur8_5.s0, .int .i64 xur8_5.s1] M T rfl rfl rfl rfl (.cons (T.ev 1 rfl) .nil) (fun _ => by kernel_rfl) ?_; clear M T; intro gr8_6 wc ac M T
   refine sh_out hK _ _ (MA.mk (fun _ => M.perm [2, 3] rfl rfl) (MA.mk (fun h => (no_of (by kernel_rfl) h).elim) (M.perm [3] rfl rfl))) ?_; clear hK K
   refine gw 7 2047 ?_; intro K hK
   refine ow_app (((gr8_6, .cells [.int .i64 xur8_5.t0, .int .i64 xur8_5.t1, .int .i64 xur8_5.s0, .int .i64 xur8_5.s1]) :: (gr8_10, .cells [.int .i64 xu5]) :: (g2, .cells [.int .i64 lu1.first, .int .i64 lu1.step, .int .i64 lu1.span, .int .i64 lu1.press, .int .i64 xu2, .slice A3 ol.length c3, .slice none 0 0, .int .i64 0, .int .i64 0, .int .i64 0, .int .i64 0, .int .i64 0, .int .i64 0, .int .i64 0, .int .i64 0, .int .i64 0, .int .i64 0, .int .i64 0, .int .i64 0, .int .i64 0, .int .i64 xu3]) :: (g1, .cells [.int .i64 0, .int .i64 0, .int .i64 0, .int .i64 0, .int .i64 0, .slice none 0 0, .slice none 0 0, .int .i64 0, .int .i64 0, .int .i64 0, .int .i64 0, .int .i64 0, .int .i64 0, .int .i64 0, .int .i64 0, .int .i64 0, .int .i64 0, .int .i64 0, .int .i64 0, .int .i64 0, .int .i64 0]) :: (bp, .cells [.int .u64 sur8_5]) :: Ii)) Try.info48 hsl M (by first | rfl | simp) T rfl rfl rfl rfl Try.underlying38 rfl rfl rfl (by omega) (T.ev 8 rfl) (T.ev 0 rfl) (nthE_mem (i := 0) rfl) rfl rfl ?_; clear M T; intro ga5 cga5 wc ac M T
   refine sh_out hK _ _ (MA.mk (fun _ => M.perm [3, 4] rfl rfl) (MA.mk (fun h => (no_of (by kernel_rfl) h).elim) (M.perm [4] rfl rfl))) ?_; clear hK K
   refine gq (v := (.pointer (some ⟨g2, 5, none⟩))) T 12 6143 rfl (fun _ _ _ _ _ => (rn_fieldAddr (off := 5) rfl (T.ev 16 rfl) (fun _ _ _ => by kernel_rfl))) ?_; clear T ac; intro ac T
   refine gw 11 8191 ?_; intro K hK
   refine ow_app ([(ga5, .row 48 4 (ol.length + 1) ((sc ol) ++ [.int .i64 xur8_5.t0, .int .i64 xur8_5.t1, .int .i64 xur8_5.s0, .int .i64 xur8_5.s1]) cga5), (gr8_6, .cells [.int .i64 xur8_5.t0, .int .i64 xur8_5.t1, .int .i64 xur8_5.s0, .int .i64 xur8_5.s1]), (gr8_10, .cells [.int .i64 xu5]), (g2, .cells [.int .i64 lu1.first, .int .i64 lu1.step, .int .i64 lu1.span, .int .i64 lu1.press, .int .i64 xu2, .slice A3 ol.length c3, .slice none 0 0, .int .i64 0, .int .i64 0, .int .i64 0, .int .i64 0, .int .i64 0, .int .i64 0, .int .i64 0, .int .i64 0, .int .i64 0, .int .i64 0, .int .i64 0, .int .i64 0, .int .i64 0, .int .i64 xu3]), (g1, .cells [.int .i64 0, .int .i64 0, .int .i64 0, .int .i64 0, .int .i64 0, .slice none 0 0, .slice none 0 0, .int .i64 0, .int .i64 0, .int .i64 0, .int .i64 0, .int .i64 0, .int .i64 0, .int .i64 0, .int .i64 0, .int .i64 0, .int .i64 0, .int .i64 0, .int .i64 0, .int .i64 0, .int .i64 0]), (bp, .cells [.int .u64 sur8_5])]) Try.info3 hsm M (by first | rfl | simp) T rfl rfl rfl rfl Try.underlying22 rfl rfl rfl (by omega) (T.ev 6 rfl) (T.ev 3 rfl) (nthE_mem (i := 2) rfl) rfl rfl ?_; clear M T; intro ga6 cga6 wc ac M T
   refine sh_out hK _ _ (MA.mk (fun _ => M.mask [false, false, false, false, true, true, false] rfl) (MA.mk (fun h => (no_of (by kernel_rfl) h).elim) (M.mask [false, false, false, false, false, true, false] rfl))) ?_; clear hK K
   refine gw 13 16383 ?_; intro K hK
   refine ow_stO M T rfl rfl (T.ev 1 rfl) (T.ev 2 rfl) rfl (.tail (.tail (.tail (.tail .head)))) rfl (by simp) rfl (by kernel_rfl) ?_; clear M T; intro wc ac M T
   refine sh_out hK _ _ (MA.mk (fun h => (no_of (by kernel_rfl) h).elim) (MA.mk (fun h => (no_of (by kernel_rfl) h).elim) (M.mask [false, false, false, false, false, true, false] rfl))) ?_; clear hK K
   refine g_q (v := (.slice (some ⟨ga6, 0, none⟩) (tn.length + 1) cga6)) (T := T.pick [0, 1, 2, 3, 4, 5, 6, 7, 8, 9, 10, 11, 12, 13, 14, 15, 16, 17, 18, 19, 21] rfl) (i := 14) rfl (by kernel_rfl) (by kernel_rfl : (pbits 15 16383).setIfInBounds 14 true = pbits 15 32767) (si_and (si_G rfl) (si_and (si_G rfl) si_U)) (fun _ _ _ h => h) rfl rfl rfl rfl (fun _ _ _ _ _ => (rn_assign rfl (T.ev 0 rfl))) ?_; clear T ac; intro ac T
   refine g_done (by kernel_rfl) ?_
   replace T := T.pick [0, 15, 16, 17, 18, 19, 20, 21] rfl
   replace M := M.mask [true, true, false, false, true, true, true] rfl
   refine nm_blk ?_
   refine nm_then ?_
   refine wp_region_lit ?_
   refine lq T (rn_move rfl (T.ev 7 rfl)) ?_; clear T ac; intro ac T
   refine lq T (rn_sub rfl (T.ev 0 rfl) evc (by omega)) ?_; clear T ac; intro ac T
   refine l_q (v := (.int .i64 (i - 1))) (T.pick [0, 1, 2, 3, 4, 5, 6, 7, 8] rfl) rfl rfl rfl rfl (rn_assign rfl (T.ev 0 rfl)) ?_; clear T ac; intro ac T
   refine wpList_nil ?_
   replace T := T.pick [0, 3, 4, 5, 6, 7, 8, 9] rfl
   refine nm_then ?_
   have e9a : ol.length + 1 = (ol ++ [xur8_5]).length := by simp
   have e8a : ((sc ol) ++ [.int .i64 xur8_5.t0, .int .i64 xur8_5.t1, .int .i64 xur8_5.s0, .int .i64 xur8_5.s1]) = sc (ol ++ [xur8_5]) := by rw [← sc_snoc]
   rw [e9a, e8a] at M
   (try rw [e9a] at T)
   have e9b : tn.length + 1 = (tn ++ [xu5]).length := by simp
   have e8b : ((ic tn) ++ [.int .i64 xu5]) = ic (tn ++ [xu5]) := by rw [← ic_snoc]
   rw [e9b, e8b] at M
   (try rw [e9b] at T)
   exact ⟨_, by omega, (i - 1), (ol ++ [xur8_5]), _, _, (tn ++ [xu5]), _, _, sur8_5, [(ga6, .row 3 1 (tn ++ [xu5]).length (ic (tn ++ [xu5])) cga6)], [(ga5, .row 48 4 (ol ++ [xur8_5]).length (sc (ol ++ [xur8_5])) cga5)], rfl, (by omega), (by simp only [List.length_append, List.length_cons, List.length_nil]; omega), (by simp only [List.length_append, List.length_cons, List.length_nil]; omega), (fun z hz => by rcases List.mem_append.1 hz with h9 | h9; exact hgo z h9; simp only [List.mem_cons, List.not_mem_nil, or_false] at h9; subst h9; exact hxur8_5), (fun z hz => by rcases List.mem_append.1 hz with h9 | h9; exact htn z h9; simp only [List.mem_cons, List.not_mem_nil, or_false] at h9; subst h9; omega), hsur8_5, (Sl.row _ _ _ _ _ _), (Sl.row _ _ _ _ _ _), T.pick [2, 3, 4, 5, 6, 7, 1, 0] rfl, M.perm [2, 3, 4, 0, 1] rfl rfl⟩
  refine gi 1823 ?_; intro K hK
  refine ow_bs (e := 3) [.int .i64 xu5] M T rfl rfl rfl rfl (.cons (T.ev 0 rfl) .nil) (fun _ => by kernel_rfl) ?_; clear M T; intro gr8_10 wc ac M T
  refine sh_out hK _ _ (MA.mk (fun _ => M.perm [1, 2] rfl rfl) (MA.mk (fun _ => M.perm [1, 2, 3] rfl rfl) (M.perm [2] rfl rfl))) ?_; clear hK K
  refine gw 5 1855 ?_; intro K hK
  refine ow_call (first := []) (cap := []) T rfl rfl rfl rfl evf (.cons (T.ev 5 rfl) (.cons (T.ev 4 rfl) (.cons (T.ev 3 rfl) .nil))) Try.func20 rfl rfl ?_
  refine Calls.mono (soundOf_any _ bp xu5 wide _ (by omega) (by omega) (M.nth 3 rfl) hsu5) ?_
  clear T
  rintro e wc ⟨xur8_5, sur8_5, hxur8_5, hsur8_5, rfl, hgr, hbk⟩
  intro ac T
  replace M := M.callC (cs' := [.int .u64 sur8_5]) (.tail (.tail (.tail .head))) hgr hbk
  clear hgr hbk
  refine sh_out hK _ _ (MA.mk (fun _ => M.perm [1, 2] rfl rfl) (MA.mk (fun h => (no_of (by kernel_rfl) h).elim) (M.perm [2] rfl rfl))) ?_; clear hK K
  refine gw 6 1919 ?_; intro K hK
  refine ow_bs (e := 48) [.int .i64 xur8_5.t0, .int .i64 xur8_5.t1, .int .i64 xur8_5.s0, .int .i64 xur8_5.s1] M T rfl rfl rfl rfl (.cons (T.ev 0 rfl) .nil) (fun _ => by kernel_rfl) ?_; clear M T; intro gr8_6 wc ac M T
  refine sh_out hK _ _ (MA.mk (fun _ => M.perm [2, 3] rfl rfl) (MA.mk (fun h => (no_of (by kernel_rfl) h).elim) (M.perm [3] rfl rfl))) ?_; clear hK K
  refine gw 7 2047 ?_; intro K hK
  refine ow_app (((gr8_6, .cells [.int .i64 xur8_5.t0, .int .i64 xur8_5.t1, .int .i64 xur8_5.s0, .int .i64 xur8_5.s1]) :: (gr8_10, .cells [.int .i64 xu5]) :: (g2, .cells [.int .i64 lu1.first, .int .i64 lu1.step, .int .i64 lu1.span, .int .i64 lu1.press, .int .i64 xu2, .slice A3 ol.length c3, .slice none 0 0, .int .i64 0, .int .i64 0, .int .i64 0, .int .i64 0, .int .i64 0, .int .i64 0, .int .i64 0, .int .i64 0, .int .i64 0, .int .i64 0, .int .i64 0, .int .i64 0, .int .i64 0, .int .i64 xu3]) :: (g1, .cells [.int .i64 0, .int .i64 0, .int .i64 0, .int .i64 0, .int .i64 0, .slice none 0 0, .slice none 0 0, .int .i64 0, .int .i64 0, .int .i64 0, .int .i64 0, .int .i64 0, .int .i64 0, .int .i64 0, .int .i64 0, .int .i64 0, .int .i64 0, .int .i64 0, .int .i64 0, .int .i64 0, .int .i64 0]) :: (bp, .cells [.int .u64 sur8_5]) :: Ii)) Try.info48 hsl M (by first | rfl | simp) T rfl rfl rfl rfl Try.underlying38 rfl rfl rfl (by omega) (T.ev 8 rfl) (T.ev 0 rfl) (nthE_mem (i := 0) rfl) rfl rfl ?_; clear M T; intro ga7 cga7 wc ac M T
  refine sh_out hK _ _ (MA.mk (fun _ => M.perm [3, 4] rfl rfl) (MA.mk (fun h => (no_of (by kernel_rfl) h).elim) (M.perm [4] rfl rfl))) ?_; clear hK K
  refine gq (v := (.pointer (some ⟨g2, 5, none⟩))) T 12 6143 rfl (fun _ _ _ _ _ => (rn_fieldAddr (off := 5) rfl (T.ev 16 rfl) (fun _ _ _ => by kernel_rfl))) ?_; clear T ac; intro ac T
  refine gw 11 8191 ?_; intro K hK
  refine ow_app ([(ga7, .row 48 4 (ol.length + 1) ((sc ol) ++ [.int .i64 xur8_5.t0, .int .i64 xur8_5.t1, .int .i64 xur8_5.s0, .int .i64 xur8_5.s1]) cga7), (gr8_6, .cells [.int .i64 xur8_5.t0, .int .i64 xur8_5.t1, .int .i64 xur8_5.s0, .int .i64 xur8_5.s1]), (gr8_10, .cells [.int .i64 xu5]), (g2, .cells [.int .i64 lu1.first, .int .i64 lu1.step, .int .i64 lu1.span, .int .i64 lu1.press, .int .i64 xu2, .slice A3 ol.length c3, .slice none 0 0, .int .i64 0, .int .i64 0, .int .i64 0, .int .i64 0, .int .i64 0, .int .i64 0, .int .i64 0, .int .i64 0, .int .i64 0, .int .i64 0, .int .i64 0, .int .i64 0, .int .i64 0, .int .i64 xu3]), (g1, .cells [.int .i64 0, .int .i64 0, .int .i64 0, .int .i64 0, .int .i64 0, .slice none 0 0, .slice none 0 0, .int .i64 0, .int .i64 0, .int .i64 0, .int .i64 0, .int .i64 0, .int .i64 0, .int .i64 0, .int .i64 0, .int .i64 0, .int .i64 0, .int .i64 0, .int .i64 0, .int .i64 0, .int .i64 0]), (bp, .cells [.int .u64 sur8_5])]) Try.info3 hsm M (by first | rfl | simp) T rfl rfl rfl rfl Try.underlying22 rfl rfl rfl (by omega) (T.ev 6 rfl) (T.ev 4 rfl) (nthE_mem (i := 2) rfl) rfl rfl ?_; clear M T; intro ga8 cga8 wc ac M T
  refine sh_out hK _ _ (MA.mk (fun _ => M.mask [false, false, false, false, true, true, false] rfl) (MA.mk (fun h => (no_of (by kernel_rfl) h).elim) (M.mask [false, false, false, false, false, true, false] rfl))) ?_; clear hK K
  refine gw 13 16383 ?_; intro K hK
  refine ow_stO M T rfl rfl (T.ev 1 rfl) (T.ev 2 rfl) rfl (.tail (.tail (.tail (.tail .head)))) rfl (by simp) rfl (by kernel_rfl) ?_; clear M T; intro wc ac M T
  refine sh_out hK _ _ (MA.mk (fun h => (no_of (by kernel_rfl) h).elim) (MA.mk (fun h => (no_of (by kernel_rfl) h).elim) (M.mask [false, false, false, false, false, true, false] rfl))) ?_; clear hK K
  refine g_q (v := (.slice (some ⟨ga8, 0, none⟩) (tn.length + 1) cga8)) (T := T.pick [0, 1, 2, 3, 4, 5, 6, 7, 8, 9, 10, 11, 12, 13, 14, 15, 16, 17, 18, 19, 21] rfl) (i := 14) rfl (by kernel_rfl) (by kernel_rfl : (pbits 15 16383).setIfInBounds 14 true = pbits 15 32767) (si_and (si_G rfl) (si_and (si_G rfl) si_U)) (fun _ _ _ h => h) rfl rfl rfl rfl (fun _ _ _ _ _ => (rn_assign rfl (T.ev 0 rfl))) ?_; clear T ac; intro ac T
  refine g_done (by kernel_rfl) ?_
  replace T := T.pick [0, 15, 16, 17, 18, 19, 20, 21] rfl
  replace M := M.mask [true, true, false, false, true, true, true] rfl
  refine nm_blk ?_
  refine nm_then ?_
  refine wp_region_lit ?_
  refine lq T (rn_move rfl (T.ev 7 rfl)) ?_; clear T ac; intro ac T
  refine lq T (rn_sub rfl (T.ev 0 rfl) evc (by omega)) ?_; clear T ac; intro ac T
  refine l_q (v := (.int .i64 (i - 1))) (T.pick [0, 1, 2, 3, 4, 5, 6, 7, 8] rfl) rfl rfl rfl rfl (rn_assign rfl (T.ev 0 rfl)) ?_; clear T ac; intro ac T
  refine wpList_nil ?_
  replace T := T.pick [0, 3, 4, 5, 6, 7, 8, 9] rfl
  refine nm_then ?_
  have e9a : ol.length + 1 = (ol ++ [xur8_5]).length := by simp
  have e8a : ((sc ol) ++ [.int .i64 xur8_5.t0, .int .i64 xur8_5.t1, .int .i64 xur8_5.s0, .int .i64 xur8_5.s1]) = sc (ol ++ [xur8_5]) := by rw [← sc_snoc]
  rw [e9a, e8a] at M
  (try rw [e9a] at T)
  have e9b : tn.length + 1 = (tn ++ [xu5]).length := by simp
  have e8b : ((ic tn) ++ [.int .i64 xu5]) = ic (tn ++ [xu5]) := by rw [← ic_snoc]
  rw [e9b, e8b] at M
  (try rw [e9b] at T)
  exact ⟨_, by omega, (i - 1), (ol ++ [xur8_5]), _, _, (tn ++ [xu5]), _, _, sur8_5, [(ga8, .row 3 1 (tn ++ [xu5]).length (ic (tn ++ [xu5])) cga8)], [(ga7, .row 48 4 (ol ++ [xur8_5]).length (sc (ol ++ [xur8_5])) cga7)], rfl, (by omega), (by simp only [List.length_append, List.length_cons, List.length_nil]; omega), (by simp only [List.length_append, List.length_cons, List.length_nil]; omega), (fun z hz => by rcases List.mem_append.1 hz with h9 | h9; exact hgo z h9; simp only [List.mem_cons, List.not_mem_nil, or_false] at h9; subst h9; exact hxur8_5), (fun z hz => by rcases List.mem_append.1 hz with h9 | h9; exact htn z h9; simp only [List.mem_cons, List.not_mem_nil, or_false] at h9; subst h9; omega), hsur8_5, (Sl.row _ _ _ _ _ _), (Sl.row _ _ _ _ _ _), T.pick [2, 3, 4, 5, 6, 7, 1, 0] rfl, M.perm [2, 3, 4, 0, 1] rfl rfl⟩
 intro h1
 refine wp_exit ?_
 refine ex_then ?_
 refine ex_then ?_
 refine ex_hit ?_
 refine nm_then ?_
 refine wp_seq ?_
 refine wp_seq ?_
 refine wp_region_lit ?_
 refine lq T (rn_move rfl (T.ev 1 rfl)) ?_; clear T ac; intro ac T
 refine lq T (rn_move rfl (T.ev 3 rfl)) ?_; clear T ac; intro ac T
 refine lq T (rn_min2 rfl (T.ev 0 rfl) evc) ?_; clear T ac; intro ac T
 refine l_w rfl ?_; intro K hK
 refine ow_call (first := []) (cap := []) T rfl rfl rfl rfl evf (.cons (T.ev 2 rfl) (.cons (T.ev 0 rfl) .nil)) Try.func39 rfl rfl ?_
 refine Calls.mono (upto_any _ bp (min nhi 5) _ (by omega) (by omega) (M.nth 2 rfl) hs) ?_
 clear T
 rintro e wc ⟨xu6, su6, hxu6, hsu6, rfl, hgr, hbk⟩
 intro ac T
 replace M := M.callC (cs' := [.int .u64 su6]) (.tail (.tail .head)) hgr hbk
 clear hgr hbk
 refine sh_out hK _ _ ?_; clear hK K
 refine lq T (rn_assign rfl (T.ev 0 rfl)) ?_; clear T ac; intro ac T
 refine wpList_nil ?_
 replace T := T.pick [0, 6, 8, 9, 10, 11, 12] rfl
 refine nm_then ?_
 refine wp_block ?_
 obtain ⟨bt, ot, St0⟩ := hsm.spV (by rw [ic_length]; omega)
 have St := St0 w (fun b => b = bp)
 refine wp_loop_n (fun mz ac wc => ∃ (q : Int) (oh : List Snd) (A5 : Option Addr) (c5 : Nat) (s : Int) (Ih : List (Nat × BA)), mz = q.toNat ∧ (0 ≤ q) ∧ ((oh.length : Int) + q = xu6) ∧ (∀ z ∈ oh, z.good) ∧ (u64ok s) ∧ (Sl 48 4 (.slice A5 oh.length c5) oh.length (sc oh) Ih) ∧ Tm ac 115 [(0, .pointer (some ⟨bp, 0, none⟩)), (3, .int .i64 wide), (8, .pointer (some ⟨g1, 0, none⟩)), (9, .pointer (some ⟨g2, 0, none⟩)), (10, .int .i64 (lu1.first + (lu1.step * xu2))), (11, .slice A4 tn.length c4), (14, .int .i64 q)] ∧ Mem w (fun b => b = bp) wc ((g2, .cells [.int .i64 lu1.first, .int .i64 lu1.step, .int .i64 lu1.span, .int .i64 lu1.press, .int .i64 xu2, .slice A3 ol.length c3, .slice A5 oh.length c5, .int .i64 0, .int .i64 0, .int .i64 0, .int .i64 0, .int .i64 0, .int .i64 0, .int .i64 0, .int .i64 0, .int .i64 0, .int .i64 0, .int .i64 0, .int .i64 0, .int .i64 0, .int .i64 xu3]) :: (g1, .cells [.int .i64 0, .int .i64 0, .int .i64 0, .int .i64 0, .int .i64 0, .slice none 0 0, .slice none 0 0, .int .i64 0, .int .i64 0, .int .i64 0, .int .i64 0, .int .i64 0, .int .i64 0, .int .i64 0, .int .i64 0, .int .i64 0, .int .i64 0, .int .i64 0, .int .i64 0, .int .i64 0, .int .i64 0]) :: (bp, .cells [.int .u64 s]) :: (Ii ++ Io ++ Ih))) ?_ ?_
 ·exact ⟨_, _, [], none, 0, _, [], rfl, (by omega), (by simp), (fun z hz => by cases hz), hsu6, (Sl.nil _ _), T.pick [1, 2, 3, 4, 5, 6, 0] rfl, (by simp only [List.append_nil]; exact M)⟩
 clear T M
 rintro mz ac wc ⟨q, oh, A5, c5, s, Ih, hmm2, hi2, hoh, hgh, hs2, hsh, T, M⟩
 refine wp_seq ?_
 refine wp_seq ?_
 refine wp_region_lit ?_
 refine lq T (rn_move rfl (T.ev 6 rfl)) ?_; clear T ac; intro ac T
 refine lq T (rn_gtr rfl (T.ev 0 rfl) evc) ?_; clear T ac; intro ac T
 refine wpList_nil ?_
 replace T := T.pick [0, 2, 3, 4, 5, 6, 7, 8] rfl
 refine nm_then ?_
 refine wp_if (T.ev 0 rfl) ?_ ?_
 ·intro h2
  refine wp_skip ?_
  refine nm_then ?_
  refine wp_seq ?_
  refine wp_block ?_
  refine wp_seq ?_
  refine wp_region_lit ?_
  refine lq T (rn_move rfl (T.ev 1 rfl)) ?_; clear T ac; intro ac T
  refine l_w rfl ?_; intro K hK
  refine ow_call (first := []) (cap := []) T rfl rfl rfl rfl evf (.cons (T.ev 0 rfl) (.cons evc (.cons evc .nil))) Try.func19 rfl rfl ?_
  refine Calls.mono (within_pot _ bp (-5) 5 _ (by omega) (by omega) (by omega) (M.nth 2 rfl) hs2) ?_
  clear T
  rintro e wc ⟨xu7, su7, hxu7, hsu7, rfl, hgr, hbk⟩
  intro ac T
  replace M := M.callC (cs' := [.int .u64 su7]) (.tail (.tail .head)) hgr hbk
  clear hgr hbk
  refine sh_out hK _ _ ?_; clear hK K
  refine lq T (rn_assign rfl (T.ev 0 rfl)) ?_; clear T ac; intro ac T
  refine wpList_nil ?_
  replace T := T.pick [0, 4, 5, 6, 7, 8, 9, 10] rfl
  refine nm_then ?_
  refine wp_seq ?_
  refine wp_seq ?_
  refine wp_region_lit ?_
  refine lq T (rn_move rfl (T.ev 6 rfl)) ?_; clear T ac; intro ac T
  refine lq T (rn_lenS rfl Try.underlying22 (T.ev 0 rfl)) ?_; clear T ac; intro ac T
  refine lq T (rn_gtr rfl (T.ev 0 rfl) evc) ?_; clear T ac; intro ac T
  refine wpList_nil ?_
  replace T := T.pick [0, 3, 4, 5, 6, 7, 8, 9, 10] rfl
  refine nm_then ?_
  refine wp_if (T.ev 0 rfl) ?_ ?_
  ·intro h3
   refine g_start2 M (M.mask [true, true, false] rfl) 21 (by kernel_rfl) rfl (by kernel_rfl) ?_
   clear M; intro wc M
   refine g_addG 5 M ?_
   refine gq T 0 1 rfl (fun _ _ _ _ _ => (rn_move rfl (T.ev 7 rfl))) ?_; clear T ac; intro ac T
   refine gq T 1 3 rfl (fun _ _ _ _ _ => (rn_move rfl (T.ev 3 rfl))) ?_; clear T ac; intro ac T
   refine gq T 2 7 rfl (fun _ _ _ _ _ => (rn_move rfl (T.ev 9 rfl))) ?_; clear T ac; intro ac T
   refine gq T 3 15 rfl (fun _ _ _ _ _ => (rn_lenS rfl Try.underlying22 (T.ev 0 rfl))) ?_; clear T ac; intro ac T
   refine gq T 4 31 rfl (fun _ _ _ _ _ => (rn_sub rfl (T.ev 0 rfl) evc (by omega))) ?_; clear T ac; intro ac T
   refine gq T 8 287 rfl (fun _ _ _ _ _ => (rn_move rfl (T.ev 7 rfl))) ?_; clear T ac; intro ac T
   refine gq (v := (.pointer (some ⟨g2, 0, none⟩))) T 9 799 rfl (fun _ _ _ _ _ => (rn_fieldAddr (off := 0) rfl (T.ev 11 rfl) (fun _ _ _ => by kernel_rfl))) ?_; clear T ac; intro ac T
   refine gq (v := (.pointer (some ⟨g2, 2, none⟩))) T 10 1823 rfl (fun _ _ _ _ _ => (rn_fieldAddr (off := 2) rfl (T.ev 0 rfl) (fun _ _ _ => by kernel_rfl))) ?_; clear T ac; intro ac T
   refine gq T 11 3871 rfl (fun B w' hD hl hS => (rn_one (Mem.nth (show Mem w (fun b => b = bp) w' _ from (MA.rgt hS)) 0 rfl) rfl (T.ev 0 rfl) rfl)) ?_; clear T ac; intro ac T
   refine gq T 12 7967 rfl (fun _ _ _ _ _ => (rn_neg rfl (T.ev 0 rfl) (by omega))) ?_; clear T ac; intro ac T
   refine gq T 13 16159 rfl (fun _ _ _ _ _ => (rn_sub rfl (T.ev 0 rfl) evc (by omega))) ?_; clear T ac; intro ac T
   refine gq (v := (.pointer (some ⟨g2, 0, none⟩))) T 14 32543 rfl (fun _ _ _ _ _ => (rn_fieldAddr (off := 0) rfl (T.ev 16 rfl) (fun _ _ _ => by kernel_rfl))) ?_; clear T ac; intro ac T
   refine gq (v := (.pointer (some ⟨g2, 2, none⟩))) T 15 65311 rfl (fun _ _ _ _ _ => (rn_fieldAddr (off := 2) rfl (T.ev 0 rfl) (fun _ _ _ => by kernel_rfl))) ?_; clear T ac; intro ac T
   refine gq T 16 130847 rfl (fun B w' hD hl hS => (rn_one (Mem.nth (show Mem w (fun b => b = bp) w' _ from (MA.rgt hS)) 0 rfl) rfl (T.ev 0 rfl) rfl)) ?_; clear T ac; intro ac T
   refine gq T 17 261919 rfl (fun _ _ _ _ _ => (rn_add rfl (T.ev 0 rfl) evc (by omega))) ?_; clear T ac; intro ac T
   refine gw 5 261951 ?_; intro K hK
   refine ow_call (first := []) (cap := []) T rfl rfl rfl rfl evf (.cons (T.ev 13 rfl) (.cons (T.ev 10 rfl) .nil)) Try.func39 rfl rfl ?_
   refine Calls.mono (upto_any _ bp (((tn.length : Nat) : Int) - 1) _ (by omega) (by omega) (M.nth 2 rfl) hsu7) ?_
   clear T
   rintro e wc ⟨xu8, su8, hxu8, hsu8, rfl, hgr, hbk⟩
   intro ac T
   replace M := M.callC (cs' := [.int .u64 su8]) (.tail (.tail .head)) hgr hbk
   clear hgr hbk
   obtain ⟨kuu8, hkuu8⟩ : ∃ k : Nat, xu8 = (k : Int) := ⟨xu8.toNat, by omega⟩
   obtain ⟨ntu8, hntu8, -⟩ := ic_next (l := tn) (k := kuu8) (by omega)
   have hntbu8 := htn _ (List.mem_of_getElem? hntu8)
   refine sh_out hK _ _ (MA.mk (fun h => (no_of (by kernel_rfl) h).elim) (M.mask [true, true, false] rfl)) ?_; clear hK K
   refine g_addG 18 M ?_
   refine gq T 6 262015 rfl (fun _ _ _ _ _ => (rn_indexAddr (size := 1) kuu8 rfl (T.ev 15 rfl) (T.ev 0 rfl) ⟨_, Try.underlying22, by kernel_rfl⟩ hkuu8 (by omega) (St.at0 (by omega)))) ?_; clear T ac; intro ac T
   refine gq T 7 262143 rfl (fun B w' hD hl hS => (rn_cell (Sp.ic0 St (show Mem w (fun b => b = bp) w' _ from (MA.rgt (MA.rgt hS))) (.cons _ (.cons _ (subL (subL (List.Sublist.refl _))))) hntu8) rfl (T.ev 0 rfl))) ?_; clear T ac; intro ac T
   refine gw 18 524287 ?_; intro K hK
   refine ow_call (first := []) (cap := []) T rfl rfl rfl rfl evf (.cons (T.ev 12 rfl) (.cons (T.ev 7 rfl) (.cons (T.ev 3 rfl) .nil))) Try.func19 rfl rfl ?_
   refine Calls.mono (within_pot _ bp ((-lu1.span) - 3) (lu1.span + 3) _ (by omega) (by omega) (by omega) (M.nth 2 rfl) hsu8) ?_
   clear T
   rintro e wc ⟨xu9, su9, hxu9, hsu9, rfl, hgr, hbk⟩
   intro ac T
   replace M := M.callC (cs' := [.int .u64 su9]) (.tail (.tail .head)) hgr hbk
   clear hgr hbk
   refine sh_out hK _ _ (MA.mk (fun h => (no_of (by kernel_rfl) h).elim) (MA.mk (fun h => (no_of (by kernel_rfl) h).elim) (M.mask [true, true, false] rfl))) ?_; clear hK K
   refine gq T 19 1048575 rfl (fun _ _ _ _ _ => (rn_add rfl (T.ev 1 rfl) (T.ev 0 rfl) (by omega))) ?_; clear T ac; intro ac T
   refine g_q (v := (.int .i64 (ntu8 + xu9))) (T := T.pick [0, 1, 2, 3, 4, 5, 6, 7, 8, 9, 10, 11, 12, 13, 14, 15, 16, 17, 18, 19, 20, 22, 23, 24, 25, 26, 27, 28] rfl) (i := 20) rfl (by kernel_rfl) (by kernel_rfl : (pbits 21 1048575).setIfInBounds 20 true = pbits 21 2097151) (si_and (si_G rfl) (si_and (si_G rfl) si_U)) (fun _ _ _ h => h) rfl rfl rfl rfl (fun _ _ _ _ _ => (rn_assign rfl (T.ev 0 rfl))) ?_; clear T ac; intro ac T
   refine g_done (by kernel_rfl) ?_
   replace T := T.pick [0, 22, 23, 24, 25, 26, 27, 28] rfl
   refine nm_then ?_
   refine g_start2 M (M.perm [1] rfl rfl) 12 (by kernel_rfl) rfl (by kernel_rfl) ?_
   clear M; intro wc M
   refine g_addG 7 (M.perm [0, 1, 2] rfl rfl) ?_
   refine g_addG 11 (M.perm [0, 1] rfl rfl) ?_
   refine gq (v := (.pointer (some ⟨g2, 6, none⟩))) T 0 1 rfl (fun _ _ _ _ _ => (rn_fieldAddr (off := 6) rfl (T.ev 4 rfl) (fun _ _ _ => by kernel_rfl))) ?_; clear T ac; intro ac T
   refine gq T 1 3 rfl (fun B w' hD hl hS => (rn_one (Mem.nth (show Mem w (fun b => b = bp) w' _ from ((MA.lft hS) (hD.wait (i := 1) (m := 11) (by kernel_rfl) hl))) 0 rfl) rfl (T.ev 0 rfl) rfl)) ?_; clear T ac; intro ac T
   refine gq T 2 7 rfl (fun _ _ _ _ _ => (rn_move rfl (T.ev 3 rfl))) ?_; clear T ac; intro ac T
   refine gq T 3 15 rfl (fun _ _ _ _ _ => (rn_move rfl (T.ev 3 rfl))) ?_; clear T ac; intro ac T
   refine gq T 4 31 rfl (fun _ _ _ _ _ => (rn_move rfl (T.ev 9 rfl))) ?_; clear T ac; intro ac T
   refine gq T 5 63 rfl (fun _ _ _ _ _ => (rn_add rfl (T.ev 1 rfl) (T.ev 0 rfl) (by omega))) ?_; clear T ac; intro ac T
   refine gq T 6 127 rfl (fun _ _ _ _ _ => (rn_move rfl (T.ev 8 rfl))) ?_; clear T ac; intro ac T
   refine gw 7 255 ?_; intro K hK
   refine ow_call (first := []) (cap := []) T rfl rfl rfl rfl evf (.cons (T.ev 4 rfl) (.cons (T.ev 1 rfl) (.cons (T.ev 0 rfl) .nil))) Try.func20 rfl rfl ?_
   refine Calls.mono (soundOf_any _ bp ((ntu8 + xu9) + (lu1.first + (lu1.step * xu2))) wide _ (by omega) (by omega) (M.nth 2 rfl) hsu9) ?_
   clear T
   rintro e wc ⟨xu10, su10, hxu10, hsu10, rfl, hgr, hbk⟩
   intro ac T
   replace M := M.callC (cs' := [.int .u64 su10]) (.tail (.tail .head)) hgr hbk
   clear hgr hbk
   refine sh_out hK _ _ (MA.mk (fun _ => M.perm [0, 1] rfl rfl) (MA.mk (fun h => (no_of (by kernel_rfl) h).elim) (M.perm [1] rfl rfl))) ?_; clear hK K
   refine gw 8 511 ?_; intro K hK
   refine ow_bs (e := 48) [.int .i64 xu10.t0, .int .i64 xu10.t1, .int .i64 xu10.s0, .int .i64 xu10.s1] M T rfl rfl rfl rfl (.cons (T.ev 0 rfl) .nil) (fun _ => by kernel_rfl) ?_; clear M T; intro g3 wc ac M T
   refine sh_out hK _ _ (MA.mk (fun _ => M.perm [1, 2] rfl rfl) (MA.mk (fun h => (no_of (by kernel_rfl) h).elim) (M.perm [2] rfl rfl))) ?_; clear hK K
   refine gw 9 1023 ?_; intro K hK
   refine ow_app (((g3, .cells [.int .i64 xu10.t0, .int .i64 xu10.t1, .int .i64 xu10.s0, .int .i64 xu10.s1]) :: (g2, .cells [.int .i64 lu1.first, .int .i64 lu1.step, .int .i64 lu1.span, .int .i64 lu1.press, .int .i64 xu2, .slice A3 ol.length c3, .slice A5 oh.length c5, .int .i64 0, .int .i64 0, .int .i64 0, .int .i64 0, .int .i64 0, .int .i64 0, .int .i64 0, .int .i64 0, .int .i64 0, .int .i64 0, .int .i64 0, .int .i64 0, .int .i64 0, .int .i64 xu3]) :: (g1, .cells [.int .i64 0, .int .i64 0, .int .i64 0, .int .i64 0, .int .i64 0, .slice none 0 0, .slice none 0 0, .int .i64 0, .int .i64 0, .int .i64 0, .int .i64 0, .int .i64 0, .int .i64 0, .int .i64 0, .int .i64 0, .int .i64 0, .int .i64 0, .int .i64 0, .int .i64 0, .int .i64 0, .int .i64 0]) :: (bp, .cells [.int .u64 su10]) :: (Ii ++ Io))) Try.info48 hsh M (by first | rfl | simp) T rfl rfl rfl rfl Try.underlying38 rfl rfl rfl (by omega) (T.ev 7 rfl) (T.ev 0 rfl) (nthE_mem (i := 0) rfl) rfl rfl ?_; clear M T; intro ga9 cga9 wc ac M T
   refine sh_out hK _ _ (MA.mk (fun _ => M.perm [2, 3] rfl rfl) (MA.mk (fun h => (no_of (by kernel_rfl) h).elim) (M.perm [3] rfl rfl))) ?_; clear hK K
   refine gq (v := (.pointer (some ⟨g2, 6, none⟩))) T 10 2047 rfl (fun _ _ _ _ _ => (rn_fieldAddr (off := 6) rfl (T.ev 14 rfl) (fun _ _ _ => by kernel_rfl))) ?_; clear T ac; intro ac T
   refine gw 11 4095 ?_; intro K hK
   refine ow_stO M T rfl rfl (T.ev 0 rfl) (T.ev 1 rfl) rfl (.tail (.tail .head)) rfl (by simp) rfl (by kernel_rfl) ?_; clear M T; intro wc ac M T
   refine sh_out hK _ _ (MA.mk (fun h => (no_of (by kernel_rfl) h).elim) (MA.mk (fun h => (no_of (by kernel_rfl) h).elim) (M.perm [3] rfl rfl))) ?_; clear hK K
   refine g_done (by kernel_rfl) ?_
   replace T := T.pick [12, 13, 14, 15, 16, 17, 18] rfl
   replace M := M.mask [true, false, true, true, true] rfl
   refine nm_blk ?_
   refine nm_then ?_
   refine wp_region_lit ?_
   refine lq T (rn_move rfl (T.ev 6 rfl)) ?_; clear T ac; intro ac T
   refine lq T (rn_sub rfl (T.ev 0 rfl) evc (by omega)) ?_; clear T ac; intro ac T
   refine l_q (v := (.int .i64 (q - 1))) (T.pick [0, 1, 2, 3, 4, 5, 6, 7] rfl) rfl rfl rfl rfl (rn_assign rfl (T.ev 0 rfl)) ?_; clear T ac; intro ac T
   refine wpList_nil ?_
   replace T := T.pick [0, 3, 4, 5, 6, 7, 8] rfl
   refine nm_then ?_
   have e9a : oh.length + 1 = (oh ++ [xu10]).length := by simp
   have e8a : ((sc oh) ++ [.int .i64 xu10.t0, .int .i64 xu10.t1, .int .i64 xu10.s0, .int .i64 xu10.s1]) = sc (oh ++ [xu10]) := by rw [← sc_snoc]
   rw [e9a, e8a] at M
   (try rw [e9a] at T)
   exact ⟨_, by omega, (q - 1), (oh ++ [xu10]), _, _, su10, [(ga9, .row 48 4 (oh ++ [xu10]).length (sc (oh ++ [xu10])) cga9)], rfl, (by omega), (by simp only [List.length_append, List.length_cons, List.length_nil]; omega), (fun z hz => by rcases List.mem_append.1 hz with h9 | h9; exact hgh z h9; simp only [List.mem_cons, List.not_mem_nil, or_false] at h9; subst h9; exact hxu10), hsu10, (Sl.row _ _ _ _ _ _), T.pick [1, 2, 3, 4, 5, 6, 0] rfl, (Mem.spin [(g2, .cells [.int .i64 lu1.first, .int .i64 lu1.step, .int .i64 lu1.span, .int .i64 lu1.press, .int .i64 xu2, .slice A3 ol.length c3, .slice (some ⟨ga9, 0, none⟩) ((oh ++ [xu10]).length) cga9, .int .i64 0, .int .i64 0, .int .i64 0, .int .i64 0, .int .i64 0, .int .i64 0, .int .i64 0, .int .i64 0, .int .i64 0, .int .i64 0, .int .i64 0, .int .i64 0, .int .i64 0, .int .i64 xu3]), (g1, .cells [.int .i64 0, .int .i64 0, .int .i64 0, .int .i64 0, .int .i64 0, .slice none 0 0, .slice none 0 0, .int .i64 0, .int .i64 0, .int .i64 0, .int .i64 0, .int .i64 0, .int .i64 0, .int .i64 0, .int .i64 0, .int .i64 0, .int .i64 0, .int .i64 0, .int .i64 0, .int .i64 0, .int .i64 0]), (bp, .cells [.int .u64 su10])] [(ga9, .row 48 4 (oh ++ [xu10]).length (sc (oh ++ [xu10])) cga9)] (Ii ++ Io) (M.permT [1, 2, 3, 0] 4 rfl rfl rfl rfl))⟩
  intro h3
  refine wp_skip ?_
  refine nm_then ?_
  refine g_start2 M (M.perm [1] rfl rfl) 12 (by kernel_rfl) rfl (by kernel_rfl) ?_
  clear M; intro wc M
  refine g_addG 7 (M.perm [0, 1, 2] rfl rfl) ?_
  refine g_addG 11 (M.perm [0, 1] rfl rfl) ?_
  refine gq (v := (.pointer (some ⟨g2, 6, none⟩))) T 0 1 rfl (fun _ _ _ _ _ => (rn_fieldAddr (off := 6) rfl (T.ev 5 rfl) (fun _ _ _ => by kernel_rfl))) ?_; clear T ac; intro ac T
  refine gq T 1 3 rfl (fun B w' hD hl hS => (rn_one (Mem.nth (show Mem w (fun b => b = bp) w' _ from ((MA.lft hS) (hD.wait (i := 1) (m := 11) (by kernel_rfl) hl))) 0 rfl) rfl (T.ev 0 rfl) rfl)) ?_; clear T ac; intro ac T
  refine gq T 2 7 rfl (fun _ _ _ _ _ => (rn_move rfl (T.ev 4 rfl))) ?_; clear T ac; intro ac T
  refine gq T 3 15 rfl (fun _ _ _ _ _ => (rn_move rfl (T.ev 4 rfl))) ?_; clear T ac; intro ac T
  refine gq T 4 31 rfl (fun _ _ _ _ _ => (rn_move rfl (T.ev 10 rfl))) ?_; clear T ac; intro ac T
  refine gq T 5 63 rfl (fun _ _ _ _ _ => (rn_add rfl (T.ev 1 rfl) (T.ev 0 rfl) (by omega))) ?_; clear T ac; intro ac T
  refine gq T 6 127 rfl (fun _ _ _ _ _ => (rn_move rfl (T.ev 9 rfl))) ?_; clear T ac; intro ac T
  refine gw 7 255 ?_; intro K hK
  refine ow_call (first := []) (cap := []) T rfl rfl rfl rfl evf (.cons (T.ev 4 rfl) (.cons (T.ev 1 rfl) (.cons (T.ev 0 rfl) .nil))) Try.func20 rfl rfl ?_
  refine Calls.mono (soundOf_any _ bp (xu7 + (lu1.first + (lu1.step * xu2))) wide _ (by omega) (by omega) (M.nth 2 rfl) hsu7) ?_
  clear T
  rintro e wc ⟨xu11, su11, hxu11, hsu11, rfl, hgr, hbk⟩
  intro ac T
  replace M := M.callC (cs' := [.int .u64 su11]) (.tail (.tail .head)) hgr hbk
  clear hgr hbk
  refine sh_out hK _ _ (MA.mk (fun _ => M.perm [0, 1] rfl rfl) (MA.mk (fun h => (no_of (by kernel_rfl) h).elim) (M.perm [1] rfl rfl))) ?_; clear hK K
  refine gw 8 511 ?_; intro K hK
  refine ow_bs (e := 48) [.int .i64 xu11.t0, .int .i64 xu11.t1, .int .i64 xu11.s0, .int .i64 xu11.s1] M T rfl rfl rfl rfl (.cons (T.ev 0 rfl) .nil) (fun _ => by kernel_rfl) ?_; clear M T; intro g4 wc ac M T
  refine sh_out hK _ _ (MA.mk (fun _ => M.perm [1, 2] rfl rfl) (MA.mk (fun h => (no_of (by kernel_rfl) h).elim) (M.perm [2] rfl rfl))) ?_; clear hK K
  refine gw 9 1023 ?_; intro K hK
  refine ow_app (((g4, .cells [.int .i64 xu11.t0, .int .i64 xu11.t1, .int .i64 xu11.s0, .int .i64 xu11.s1]) :: (g2, .cells [.int .i64 lu1.first, .int .i64 lu1.step, .int .i64 lu1.span, .int .i64 lu1.press, .int .i64 xu2, .slice A3 ol.length c3, .slice A5 oh.length c5, .int .i64 0, .int .i64 0, .int .i64 0, .int .i64 0, .int .i64 0, .int .i64 0, .int .i64 0, .int .i64 0, .int .i64 0, .int .i64 0, .int .i64 0, .int .i64 0, .int .i64 0, .int .i64 xu3]) :: (g1, .cells [.int .i64 0, .int .i64 0, .int .i64 0, .int .i64 0, .int .i64 0, .slice none 0 0, .slice none 0 0, .int .i64 0, .int .i64 0, .int .i64 0, .int .i64 0, .int .i64 0, .int .i64 0, .int .i64 0, .int .i64 0, .int .i64 0, .int .i64 0, .int .i64 0, .int .i64 0, .int .i64 0, .int .i64 0]) :: (bp, .cells [.int .u64 su11]) :: (Ii ++ Io))) Try.info48 hsh M (by first | rfl | simp) T rfl rfl rfl rfl Try.underlying38 rfl rfl rfl (by omega) (T.ev 7 rfl) (T.ev 0 rfl) (nthE_mem (i := 0) rfl) rfl rfl ?_; clear M T; intro ga10 cga10 wc ac M T
  refine sh_out hK _ _ (MA.mk (fun _ => M.perm [2, 3] rfl rfl) (MA.mk (fun h => (no_of (by kernel_rfl) h).elim) (M.perm [3] rfl rfl))) ?_; clear hK K
  refine gq (v := (.pointer (some ⟨g2, 6, none⟩))) T 10 2047 rfl (fun _ _ _ _ _ => (rn_fieldAddr (off := 6) rfl (T.ev 15 rfl) (fun _ _ _ => by kernel_rfl))) ?_; clear T ac; intro ac T
  refine gw 11 4095 ?_; intro K hK
  refine ow_stO M T rfl rfl (T.ev 0 rfl) (T.ev 1 rfl) rfl (.tail (.tail .head)) rfl (by simp) rfl (by kernel_rfl) ?_; clear M T; intro wc ac M T
  refine sh_out hK _ _ (MA.mk (fun h => (no_of (by kernel_rfl) h).elim) (MA.mk (fun h => (no_of (by kernel_rfl) h).elim) (M.perm [3] rfl rfl))) ?_; clear hK K
  refine g_done (by kernel_rfl) ?_
  replace T := T.pick [13, 14, 15, 16, 17, 18, 19] rfl
  replace M := M.mask [true, false, true, true, true] rfl
  refine nm_blk ?_
  refine nm_then ?_
  refine wp_region_lit ?_
  refine lq T (rn_move rfl (T.ev 6 rfl)) ?_; clear T ac; intro ac T
  refine lq T (rn_sub rfl (T.ev 0 rfl) evc (by omega)) ?_; clear T ac; intro ac T
  refine l_q (v := (.int .i64 (q - 1))) (T.pick [0, 1, 2, 3, 4, 5, 6, 7] rfl) rfl rfl rfl rfl (rn_assign rfl (T.ev 0 rfl)) ?_; clear T ac; intro ac T
  refine wpList_nil ?_
  replace T := T.pick [0, 3, 4, 5, 6, 7, 8] rfl
  refine nm_then ?_
  have e9a : oh.length + 1 = (oh ++ [xu11]).length := by simp
  have e8a : ((sc oh) ++ [.int .i64 xu11.t0, .int .i64 xu11.t1, .int .i64 xu11.s0, .int .i64 xu11.s1]) = sc (oh ++ [xu11]) := by rw [← sc_snoc]
  rw [e9a, e8a] at M
  (try rw [e9a] at T)
  exact ⟨_, by omega, (q - 1), (oh ++ [xu11]), _, _, su11, [(ga10, .row 48 4 (oh ++ [xu11]).length (sc (oh ++ [xu11])) cga10)], rfl, (by omega), (by simp only [List.length_append, List.length_cons, List.length_nil]; omega), (fun z hz => by rcases List.mem_append.1 hz with h9 | h9; exact hgh z h9; simp only [List.mem_cons, List.not_mem_nil, or_false] at h9; subst h9; exact hxu11), hsu11, (Sl.row _ _ _ _ _ _), T.pick [1, 2, 3, 4, 5, 6, 0] rfl, (Mem.spin [(g2, .cells [.int .i64 lu1.first, .int .i64 lu1.step, .int .i64 lu1.span, .int .i64 lu1.press, .int .i64 xu2, .slice A3 ol.length c3, .slice (some ⟨ga10, 0, none⟩) ((oh ++ [xu11]).length) cga10, .int .i64 0, .int .i64 0, .int .i64 0, .int .i64 0, .int .i64 0, .int .i64 0, .int .i64 0, .int .i64 0, .int .i64 0, .int .i64 0, .int .i64 0, .int .i64 0, .int .i64 0, .int .i64 xu3]), (g1, .cells [.int .i64 0, .int .i64 0, .int .i64 0, .int .i64 0, .int .i64 0, .slice none 0 0, .slice none 0 0, .int .i64 0, .int .i64 0, .int .i64 0, .int .i64 0, .int .i64 0, .int .i64 0, .int .i64 0, .int .i64 0, .int .i64 0, .int .i64 0, .int .i64 0, .int .i64 0, .int .i64 0, .int .i64 0]), (bp, .cells [.int .u64 su11])] [(ga10, .row 48 4 (oh ++ [xu11]).length (sc (oh ++ [xu11])) cga10)] (Ii ++ Io) (M.permT [1, 2, 3, 0] 4 rfl rfl rfl rfl))⟩
 intro h2
 refine wp_exit ?_
 refine ex_then ?_
 refine ex_then ?_
 refine ex_hit ?_
 refine nm_then ?_
 refine wp_seq ?_
 refine wp_region_lit ?_
 refine lq T (rn_move rfl (T.ev 1 rfl)) ?_; clear T ac; intro ac T
 refine l_w rfl ?_; intro K hK
 refine ow_call (first := []) (cap := []) T rfl rfl rfl rfl evf (.cons (T.ev 0 rfl) (.cons evc (.cons evc .nil))) Try.func62 rfl rfl ?_
 refine Calls.mono (jobOf_any _ bp 0 1 _ (by omega) (by omega) (by omega) (by omega) (M.nth 2 rfl) hs2) ?_
 clear T
 rintro e wc ⟨ju12, Au12, cu12, su12, Iu12, rfl, hmu12, hsu12, hslu12, N⟩
 intro ac T
 obtain ⟨bu12, ou12, SVu12⟩ := hslu12.spV (rc_length _)
 have Su12 := SVu12 w (fun b => b = bp)
 replace M := (M.joinW (.tail (.tail .head)) N).swapI
 replace M := M.mask [true, true, true] rfl
 clear N hslu12
 have hgu12 := hmu12.good
 have hfewu12 := hgu12.few
 have hpu12 := hgu12.p
 have hmeu12 := hgu12.me
 refine sh_out hK _ _ ?_; clear hK K
 refine l_w rfl ?_; intro K hK
 refine ow_al M T rfl rfl rfl rfl ?_; clear M T; intro g5 wc ac M T
 refine sh_out hK _ _ ?_; clear hK K
 refine l_w rfl ?_; intro K hK
 refine ow_stO M T rfl rfl (T.ev 0 rfl) (T.ev 1 rfl) rfl .head rfl (by simp) rfl (by kernel_rfl) ?_; clear M T; intro wc ac M T
 refine sh_out hK _ _ ?_; clear hK K
 refine wpList_nil ?_
 replace T := T.pick [0, 6, 7] rfl
 refine nm_then ?_
 refine wp_seq ?_
 refine g_start2 M (M.mask [true, false, true, true] rfl) 14 (by kernel_rfl) rfl (by kernel_rfl) ?_
 clear M; intro wc M
 refine g_addG 9 M ?_
 refine gq (v := (.pointer (some ⟨g5, 0, none⟩))) T 0 1 rfl (fun _ _ _ _ _ => (rn_fieldAddr (off := 0) rfl (T.ev 0 rfl) (fun _ _ _ => by kernel_rfl))) ?_; clear T ac; intro ac T
 refine gq (v := (.pointer (some ⟨g5, 2, none⟩))) T 1 3 rfl (fun _ _ _ _ _ => (rn_fieldAddr (off := 2) rfl (T.ev 0 rfl) (fun _ _ _ => by kernel_rfl))) ?_; clear T ac; intro ac T
 refine gq T 2 7 rfl (fun B w' hD hl hS => (rn_rowO (Mem.nth (show Mem w (fun b => b = bp) w' _ from ((MA.lft hS) (hD.wait (i := 2) (m := 9) (by kernel_rfl) hl))) 0 rfl) rfl (T.ev 0 rfl) rfl)) ?_; clear T ac; intro ac T
 refine gq (v := (.pointer (some ⟨g5, 0, none⟩))) T 3 15 rfl (fun _ _ _ _ _ => (rn_fieldAddr (off := 0) rfl (T.ev 3 rfl) (fun _ _ _ => by kernel_rfl))) ?_; clear T ac; intro ac T
 refine gq (v := (.pointer (some ⟨g5, 4, none⟩))) T 4 31 rfl (fun _ _ _ _ _ => (rn_fieldAddr (off := 4) rfl (T.ev 0 rfl) (fun _ _ _ => by kernel_rfl))) ?_; clear T ac; intro ac T
 refine gq T 5 63 rfl (fun B w' hD hl hS => (rn_rowO (Mem.nth (show Mem w (fun b => b = bp) w' _ from (MA.rgt hS)) 0 rfl) rfl (T.ev 0 rfl) rfl)) ?_; clear T ac; intro ac T
 refine gq (v := (.pointer (some ⟨g5, 6, none⟩))) T 6 127 rfl (fun _ _ _ _ _ => (rn_fieldAddr (off := 6) rfl (T.ev 6 rfl) (fun _ _ _ => by kernel_rfl))) ?_; clear T ac; intro ac T
 refine gq T 7 255 rfl (fun B w' hD hl hS => (rn_rowO (Mem.nth (show Mem w (fun b => b = bp) w' _ from (MA.rgt hS)) 0 rfl) rfl (T.ev 0 rfl) rfl)) ?_; clear T ac; intro ac T
 refine gq (v := (.pointer (some ⟨g2, 7, none⟩))) T 8 511 rfl (fun _ _ _ _ _ => (rn_fieldAddr (off := 7) rfl (T.ev 10 rfl) (fun _ _ _ => by kernel_rfl))) ?_; clear T ac; intro ac T
 refine gw 9 1023 ?_; intro K hK
 refine ow_stO M T rfl rfl (T.ev 0 rfl) (T.ev 6 rfl) rfl (.tail .head) rfl (by simp) rfl (by kernel_rfl) ?_; clear M T; intro wc ac M T
 refine sh_out hK _ _ (MA.mk (fun h => (no_of (by kernel_rfl) h).elim) (M.mask [true, false, true, true] rfl)) ?_; clear hK K
 refine gq (v := (.pointer (some ⟨g2, 9, none⟩))) T 10 2047 rfl (fun _ _ _ _ _ => (rn_fieldAddr (off := 9) rfl (T.ev 11 rfl) (fun _ _ _ => by kernel_rfl))) ?_; clear T ac; intro ac T
 refine gw 11 4095 ?_; intro K hK
 refine ow_stO M T rfl rfl (T.ev 0 rfl) (T.ev 4 rfl) rfl (.tail .head) rfl (by simp) rfl (by kernel_rfl) ?_; clear M T; intro wc ac M T
 refine sh_out hK _ _ (MA.mk (fun h => (no_of (by kernel_rfl) h).elim) (M.mask [true, false, true, true] rfl)) ?_; clear hK K
 refine gq (v := (.pointer (some ⟨g2, 11, none⟩))) T 12 8191 rfl (fun _ _ _ _ _ => (rn_fieldAddr (off := 11) rfl (T.ev 12 rfl) (fun _ _ _ => by kernel_rfl))) ?_; clear T ac; intro ac T
 refine gw 13 16383 ?_; intro K hK
 refine ow_stO M T rfl rfl (T.ev 0 rfl) (T.ev 3 rfl) rfl (.tail .head) rfl (by simp) rfl (by kernel_rfl) ?_; clear M T; intro wc ac M T
 refine sh_out hK _ _ (MA.mk (fun h => (no_of (by kernel_rfl) h).elim) (M.mask [true, false, true, true] rfl)) ?_; clear hK K
 refine g_done (by kernel_rfl) ?_
 replace T := T.pick [12, 13] rfl
 replace M := M.mask [false, true, true, true] rfl
 refine nm_then ?_
 refine wp_seq ?_
 refine wp_region_lit ?_
 refine lq T (rn_rowO (Mem.nth M 0 rfl) rfl (T.ev 1 rfl) rfl) ?_; clear T ac; intro ac T
 refine l_w rfl ?_; intro K hK
 refine ow_stO M T rfl rfl (T.ev 1 rfl) (T.ev 0 rfl) rfl (.tail .head) rfl (by simp) rfl (by kernel_rfl) ?_; clear M T; intro wc ac M T
 refine sh_out hK _ _ ?_; clear hK K
 refine wpList_nil ?_
 replace T := T.pick [1] rfl
 replace M := M.mask [false, true, true] rfl
 refine nm_then ?_
 refine wp_ret ?_
 refine rt_c M T rfl (T.ev 0 rfl) (nthE_mem (i := 0) rfl) rfl ?_
 obtain ⟨bs1, os1, hS1⟩ := hsl.spV (sc_length _)
 obtain ⟨bs2, os2, hS2⟩ := hsh.spV (sc_length _)
 have hmd := boxMade (b := ({ first := lu1.first, step := lu1.step, span := lu1.span, press := lu1.press, note := xu2, lows := ol, highs := oh, t0 := ju12.t0, t1 := ju12.t1, r0 := ju12.r0, r1 := ju12.r1, u0 := ju12.u0, u1 := ju12.u1, d0 := ju12.d0, d1 := ju12.d1, a0 := ju12.a0, a1 := ju12.a1, b0 := ju12.b0, b1 := ju12.b1, le := ju12.le, me := xu3 } : Bx)) (lo := nlo) (hi := nhi) (j := ju12) hlu1 (by dsimp only; omega) (by dsimp only; omega) (by dsimp only; omega) hgo hgh (by dsimp only; omega) hmu12 ⟨rfl, rfl, rfl, rfl, rfl, rfl, rfl, rfl, rfl, rfl, rfl, rfl, rfl⟩
 refine ⟨_, A3, c3, A5, c5, _, Io ++ Ih, rfl, hmd, hsu12, ⟨bs1, os1, fun w ex => (hS1 w ex).mono (List.sublist_append_left _ _)⟩, ⟨bs2, os2, fun w ex => (hS2 w ex).mono (List.sublist_append_right _ _)⟩, Mem.swapI (I := [(bp, .cells [.int .u64 su12])]) (L := Io ++ Ih) ?_⟩
 have M9 : Mem w (fun b => b = bp) wc ((bp, .cells [.int .u64 su12]) :: (Ii ++ Io ++ Ih ++ Iu12)) := M.permT [1] 2 rfl rfl rfl rfl
 refine M9.sub (.cons_cons _ ?_)
 refine List.Sublist.trans ?_ (List.sublist_append_left _ _)
 rw [List.append_assoc]
 exact List.sublist_append_right _ _
end Go.Proofs.Ytlahdenlmmlplaa
end

section
/-
 kit: scales and registers out of a pot; law05's own checks.
-/
namespace Go.Proofs.Ytlahdenlmmlplaa
set_option linter.unusedSimpArgs false
set_option linter.unusedVariables false
open Go.RowKit
def OddsPost (bp : Nat) (w : World) (e : Ending) (w' : World) : Prop := ∃ (b : Bool) (s' : Int), u64ok s' ∧ e = .returned (.bool b) ∧ w.grownBy w' (some bp) ∧ Bk w' bp #[.int .u64 s']
def SungPost (bp : Nat) (x : Snd) (w : World) (e : Ending) (w' : World) : Prop := ∃ t u s' : Int, (x.t0 ≤ t ∧ t ≤ x.t1 ∧ x.s0 ≤ u ∧ u ≤ x.s1) ∧ u64ok s' ∧ e = .returned (.agg #[.int .i64 t, .int .i64 u]) ∧ w.grownBy w' (some bp) ∧ Bk w' bp #[.int .u64 s']
def Asc (n : Int) (l : List Int) : Prop := l.Pairwise (· < ·) ∧ ∀ x ∈ l, 0 ≤ x ∧ x < n
theorem Asc.nil (n : Int) : Asc n [] := ⟨List.Pairwise.nil, fun x hx => by cases hx⟩
theorem Asc.snoc {n : Int} {l : List Int} (h : Asc n l) (hn : 0 ≤ n) : Asc (n + 1) (l ++ [n]) := by
 refine ⟨List.pairwise_append.2 ⟨h.1, List.pairwise_singleton _ _, fun a ha b hb => ?_⟩, fun x hx => ?_⟩
 · simp only [List.mem_cons, List.not_mem_nil, or_false] at hb
   subst hb
   exact (h.2 a ha).2
 · rcases List.mem_append.1 hx with hx | hx
   · have := h.2 x hx
     omega
   · simp only [List.mem_cons, List.not_mem_nil, or_false] at hx
     omega
theorem Asc.more {n m : Int} {l : List Int} (h : Asc n l) (hm : n ≤ m) : Asc m l := ⟨h.1, fun x hx => by have := h.2 x hx; omega⟩
theorem Asc.sub {n : Int} {l l' : List Int} (h : Asc n l) (hs : l'.Sublist l) : Asc n l' := ⟨h.1.sublist hs, fun x hx => h.2 x (hs.subset hx)⟩
theorem Asc.reg : ∀ {n : Int} {l : List Int} {p : Option Int}, Asc n l → (∀ q, p = some q → ∀ x ∈ l, q < x) → regE n p l = 0
 | n, [], p, _, _ => rfl
 | n, r :: l, p, h, hp => by
   have h1 := h.2 r List.mem_cons_self
   have h2 := List.pairwise_cons.1 h.1
   unfold regE
   rw [if_neg (by omega), if_neg]
   · exact Asc.reg ⟨h2.2, fun x hx => h.2 x (List.mem_cons_of_mem _ hx)⟩ fun q hq x hx => by injection hq with hq; subst hq; exact h2.1 x hx
   · cases p with
     | none => simp [leO]
     | some q =>
       have := hp q rfl r List.mem_cons_self
       simp only [leO, decide_eq_true_eq]
       omega
theorem Asc.check {l : Lw} {R : List (List Snd)} {g : List Int} (hS : SGood l R) (h : Asc R.length g) : checkR l R g = 0 := by
 unfold checkR
 rw [if_neg (by rw [checkS_good.2 hS]; simp)]
 exact h.reg fun q hq => by cases hq
theorem Sl.cap {w0 w : World} {ex : Nat → Prop} {e n c size : Nat} {A : Option Addr} {xs : List Value} {I L : List (Nat × BA)} (h : Sl e size (.slice A n c) n xs I) (M : Mem w0 ex w L) (hI : I.Sublist L) : n ≤ c := by
 rcases h with ⟨h1, rfl, _, _⟩ | ⟨g, cap, h1, rfl⟩
 · omega
 · injection h1 with h1 _ h2
   subst h1 h2
   obtain ⟨hb, hn⟩ := (M.blk _ (hI.subset List.mem_cons_self)).2
   obtain ⟨g', cap', e1, h3, _⟩ := own_form hb hn
   injection e1 with _ _ e3
   omega
def PickPost (bp : Nat) (n : Int) (w : World) (e : Ending) (w' : World) : Prop := ∃ (l : List Int) (A : Option Addr) (c : Nat) (s : Int) (I : List (Nat × BA)), e = .returned (.slice A l.length c) ∧ Asc n l ∧ u64ok s ∧ l.length ≤ c ∧ (∃ b o, ∀ (w : World) (ex : Nat → Prop), Sp w ex I A l.length 1 b o (ic l)) ∧ Mem w (fun b => b = bp) w' (I ++ [(bp, .cells [.int .u64 s])])
theorem ElsR.mono {LL : List LS} {I I' : List (Nat × BA)} (h : ElsR LL I) (hs : I.Sublist I') : ElsR LL I' := fun x hx => by
 obtain ⟨b, o, h1⟩ := h x hx
 exact ⟨b, o, fun w ex => (h1 w ex).mono hs⟩
theorem ElsR.snoc {LL : List LS} {I I' : List (Nat × BA)} (h : ElsR LL I) {l : List Snd} {A : Option Addr} {c : Nat} (hs : ∃ b o, ∀ (w : World) (ex : Nat → Prop), Sp w ex I' A l.length 4 b o (sc l)) : ElsR (LL ++ [(l, A, c)]) (I ++ I') := fun x hx => by
 rcases List.mem_append.1 hx with hx | hx
 · exact h.mono (List.sublist_append_left _ _) x hx
 · simp only [List.mem_cons, List.not_mem_nil, or_false] at hx
   subst hx
   obtain ⟨b, o, h1⟩ := hs
   exact ⟨b, o, fun w ex => (h1 w ex).mono (List.sublist_append_right _ _)⟩
def ScaleOfPost (bp : Nat) (w : World) (e : Ending) (w' : World) : Prop :=
 ∃ (l : Lw) (LL : List LS) (A : Option Addr) (c : Nat) (s : Int) (I : List (Nat × BA)), e = .returned (.agg #[.int .i64 l.first, .int .i64 l.step, .int .i64 l.span, .int .i64 l.press, .slice A LL.length c]) ∧ SGood l (rowsOf LL) ∧ u64ok s ∧ (∃ b o, ∀ (w : World) (ex : Nat → Prop), Sp w ex I A LL.length 1 b o (lsC LL)) ∧ ElsR LL I ∧ Mem w (fun b => b = bp) w' (I ++ [(bp, .cells [.int .u64 s])])
end Go.Proofs.Ytlahdenlmmlplaa
end

section
/-
 Plain law: verdicts on parts of a register.
-/
namespace Go.Proofs.Ytlahdenlmmlplaa
set_option linter.unusedSimpArgs false
set_option linter.unusedVariables false
open Go.RowKit
theorem surelyL_cons (l : Lw) (due : Int) (a b : Snd) (r : List Snd) : surelyL l due (a :: b :: r) = (decide (offP l due a b ≤ l.span) && surelyL l due (b :: r)) := rfl
theorem surelyL_iff {l : Lw} {due : Int} : ∀ {ts : List Snd}, surelyL l due ts = true ↔ ∀ (i : Nat) (a b : Snd), ts[i]? = some a → ts[i + 1]? = some b → offP l due a b ≤ l.span
 | [] => by simp [surelyL]
 | [x] => by simp [surelyL]
 | x :: y :: r => by
   rw [surelyL_cons, Bool.and_eq_true, decide_eq_true_eq, surelyL_iff (ts := y :: r)]
   constructor
   · rintro ⟨h1, h2⟩ i a b ha hb
     cases i with
     | zero =>
       simp at ha hb
       subst ha hb
       exact h1
     | succ i => exact h2 i a b (by simpa using ha) (by simpa using hb)
   · intro h
     exact ⟨h 0 x y rfl rfl, fun i a b ha hb => h (i + 1) a b (by simpa using ha) (by simpa using hb)⟩
theorem keepsP_one {l : Lw} {due : Int} {ts : List Snd} : keepsP l due ts = 1 ↔ surelyL l due ts = true := by
 unfold keepsP
 constructor
 · intro h
   split at h
   · assumption
   · split at h <;> omega
 · intro h
   rw [if_pos h]
theorem keepsP_two {l : Lw} {due : Int} {ts : List Snd} : keepsP l due ts = 2 ↔ surelyL l due ts = false ∧ nowL l due ts = [] := by
 unfold keepsP
 constructor
 · intro h
   split at h
   · omega
   · split at h
     · rename_i h1 h2
       exact ⟨by simpa using h1, by simpa using h2⟩
     · omega
 · rintro ⟨h1, h2⟩
   rw [if_neg (by simp [h1]), if_pos (by simp [h2])]
end Go.Proofs.Ytlahdenlmmlplaa
end

section
/-
 law05: what the laws about scales use.
-/
namespace Go.Proofs.Ytlahdenlmmlplaa
set_option linter.unusedSimpArgs false
set_option linter.unusedVariables false
open Go.RowKit
def onlyB (l : List Int) (n : Int) : Bool := l.all fun u => decide (u = n)
end Go.Proofs.Ytlahdenlmmlplaa
end

section
/-
 Plain law: Beat and Keeps are just what all truths say.
-/
namespace Go.Proofs.Ytlahdenlmmlplaa
set_option linter.unusedSimpArgs false
set_option linter.unusedVariables false
open Go.RowKit
abbrev Q4 := Int × Int × Int × Int
def inQ (x y : Snd) (q : Q4) : Prop := (x.t0 ≤ q.1 ∧ q.1 ≤ x.t1) ∧ (x.s0 ≤ q.2.1 ∧ q.2.1 ≤ x.s1) ∧ (y.t0 ≤ q.2.2.1 ∧ q.2.2.1 ≤ y.t1) ∧ (y.s0 ≤ q.2.2.2 ∧ q.2.2.2 ≤ y.s1)
def befQ (t s u r : Int) (q : Q4) : Prop := q.1 < t ∨ (q.1 = t ∧ (q.2.1 < s ∨ (q.2.1 = s ∧ (q.2.2.1 < u ∨ (q.2.2.1 = u ∧ q.2.2.2 < r)))))
def PQ (x y : Snd) (t s u r : Int) (P : List Q4) : Prop := ∀ q, q ∈ P ↔ inQ x y q ∧ befQ t s u r q
theorem PQ.start (x y : Snd) : PQ x y x.t0 x.s0 y.t0 y.s0 [] := fun q => by
 unfold inQ befQ
 simp only [List.not_mem_nil, false_iff]
 omega
theorem PQ.as {x y : Snd} {t s u r t' s' u' r' : Int} {P : List Q4} (h : PQ x y t s u r P) (he : ∀ q : Q4, inQ x y q → (befQ t s u r q ↔ befQ t' s' u' r' q)) : PQ x y t' s' u' r' P := fun q => by
 rw [h q]
 constructor
 · rintro ⟨a, b⟩; exact ⟨a, (he q a).1 b⟩
 · rintro ⟨a, b⟩; exact ⟨a, (he q a).2 b⟩
theorem PQ.next {x y : Snd} {t s u r : Int} {P : List Q4} (h : PQ x y t s u r P) (hq : inQ x y (t, s, u, r)) : PQ x y t s u (r + 1) (P ++ [(t, s, u, r)]) := fun q => by
 obtain ⟨a, b, c, d⟩ := q
 rw [List.mem_append, h, List.mem_singleton]
 unfold inQ befQ at *
 simp only [Prod.mk.injEq]
 dsimp only at *
 omega
theorem PQ.done {x y : Snd} {t : Int} {P : List Q4} (h : PQ x y t x.s0 y.t0 y.s0 P) (ht : x.t1 < t) : ∀ q, q ∈ P ↔ inQ x y q := fun q => by
 rw [h q]
 constructor
 · exact fun a => a.1
 · intro a
   refine ⟨a, ?_⟩
   unfold inQ at a
   unfold befQ
   omega
def kQ (l : Lw) (due : Int) (q : Q4) : Bool := agreeP l due (q.2.2.1 - q.1) (q.2.2.2 - q.2.1)
def bQ (q : Q4) (p : Int) : Int := beatT q.1 q.2.1 q.2.2.1 q.2.2.2 p
structure FQ (l : Lw) (due : Int) (P : List Q4) (kept all : Int) (bl : List (Int × Int)) : Prop where
 n : bl.length = (l.press + 1).toNat
 ka : 0 ≤ kept ∧ kept ≤ all ∧ all = P.length
 kall : kept = all ↔ ∀ q ∈ P, kQ l due q = true
 k0 : kept = 0 ↔ ∀ q ∈ P, kQ l due q = false
 bd : ∀ (k : Nat) (v : Int × Int), bl[k]? = some v → P ≠ [] → (∀ q ∈ P, v.1 ≤ bQ q k ∧ bQ q k ≤ v.2) ∧ (∃ q ∈ P, bQ q k = v.1) ∧ ∃ q ∈ P, bQ q k = v.2
theorem FQ.start {l : Lw} {due : Int} {bl : List (Int × Int)} (h : bl.length = (l.press + 1).toNat) : FQ l due [] 0 0 bl :=
 ⟨h, by simp, by simp, by simp, fun k v _ h => absurd rfl h⟩
def newV (all : Int) (v : Int × Int) (n : Int) : Int × Int := (min (if all = 0 then n else v.1) n, max (if all = 0 then n else v.2) n)
theorem FQ.step {l : Lw} {due : Int} {P : List Q4} {kept all kept' : Int} {bl bl' : List (Int × Int)} (h : FQ l due P kept all bl) (q : Q4) (hk : kept' = kept + if kQ l due q = true then 1 else 0) (hn : bl'.length = bl.length)
   (hb : ∀ (k : Nat) (v : Int × Int), bl[k]? = some v → bl'[k]? = some (newV all v (bQ q k))) : FQ l due (P ++ [q]) kept' (all + 1) bl' := by
 obtain ⟨h1, ⟨h2, h3, h4⟩, h5, h6, h7⟩ := h
 refine ⟨by rw [hn, h1], ⟨by split at hk <;> omega, by split at hk <;> omega, by rw [List.length_append]; simp; omega⟩, ?_, ?_, ?_⟩
 · simp only [List.mem_append, List.mem_singleton]
   constructor
   · intro e z hz
     split at hk
     · rename_i hq
       rcases hz with hz | rfl
       · exact h5.1 (by omega) z hz
       · exact hq
     · omega
   · intro e
     rw [hk, if_pos (e q (.inr rfl)), h5.2 fun z hz => e z (.inl hz)]
 · simp only [List.mem_append, List.mem_singleton]
   constructor
   · intro e z hz
     split at hk
     · omega
     · rename_i hq
       rcases hz with hz | rfl
       · exact h6.1 (by omega) z hz
       · simpa using hq
   · intro e
     rw [hk, if_neg (by rw [e q (.inr rfl)]; simp), h6.2 fun z hz => e z (.inl hz)]
     rfl
 · intro k v' hv' _
   obtain ⟨v, hv⟩ : ∃ v, bl[k]? = some v := ⟨_, List.getElem?_eq_getElem (by have := (List.getElem?_eq_some_iff.1 hv').1; omega)⟩
   have e := hb k v hv
   rw [hv'] at e
   injection e with e
   subst e
   simp only [List.mem_append, List.mem_singleton]
   by_cases hP : P = []
   · subst hP
     have h0 : all = 0 := by simpa using h4
     unfold newV
     rw [if_pos h0, if_pos h0]
     refine ⟨fun z hz => ?_, ⟨q, .inr rfl, by dsimp only; omega⟩, ⟨q, .inr rfl, by dsimp only; omega⟩⟩
     rcases hz with hz | rfl
     · cases hz
     · dsimp only; omega
   · have h0 : all ≠ 0 := by
       have := List.length_pos_iff.2 hP
       omega
     obtain ⟨g1, ⟨qa, qa1, qa2⟩, qb, qb1, qb2⟩ := h7 k v hv hP
     unfold newV
     rw [if_neg h0, if_neg h0]
     refine ⟨fun z hz => ?_, ?_, ?_⟩
     · rcases hz with hz | rfl
       · have := g1 z hz
         dsimp only
         omega
       · dsimp only
         omega
     · dsimp only
       by_cases hm : v.1 ≤ bQ q k
       · exact ⟨qa, .inl qa1, by omega⟩
       · exact ⟨q, .inr rfl, by omega⟩
     · dsimp only
       by_cases hm : bQ q k ≤ v.2
       · exact ⟨qb, .inl qb1, by omega⟩
       · exact ⟨q, .inr rfl, by omega⟩
structure NB (all : Int) (q : Q4) (bl b : List (Int × Int)) (k : Nat) : Prop where
 n : b.length = bl.length
 a : ∀ (i : Nat) (v : Int × Int), i < k → bl[i]? = some v → b[i]? = some (newV all v (bQ q i))
 b : ∀ i : Nat, k ≤ i → b[i]? = bl[i]?
theorem NB.start (all : Int) (q : Q4) (bl : List (Int × Int)) : NB all q bl bl 0 := ⟨rfl, fun _ _ h => absurd h (Nat.not_lt_zero _), fun _ _ => rfl⟩
theorem NB.step {all : Int} {q : Q4} {bl b b' : List (Int × Int)} {k : Nat} {v v' : Int × Int} (h : NB all q bl b k) (hk : k < b.length) (hv : b[k]? = some v) (hb : b' = b.set k v') (he : v' = newV all v (bQ q k)) : NB all q bl b' (k + 1) := by
 subst hb he
 refine ⟨by rw [List.length_set, h.n], fun i u hi hu => ?_, fun i hi => ?_⟩
 · rcases Nat.lt_or_ge i k with h1 | h1
   · rw [List.getElem?_set_ne (by omega)]
     exact h.a i u h1 hu
   · obtain rfl : i = k := by omega
     rw [List.getElem?_set_self hk]
     rw [h.b i (Nat.le_refl _), hu] at hv
     injection hv with hv
     rw [hv]
 · rw [List.getElem?_set_ne (by omega)]
   exact h.b i (by omega)
theorem NB.done {all : Int} {q : Q4} {bl b : List (Int × Int)} {k : Nat} (h : NB all q bl b k) (hk : bl.length ≤ k) : ∀ (i : Nat) (v : Int × Int), bl[i]? = some v → b[i]? = some (newV all v (bQ q i)) := fun i v hv =>
 h.a i v (by have := (List.getElem?_eq_some_iff.1 hv).1; omega) hv
theorem bQ_in {x y : Snd} {q : Q4} (h : inQ x y q) {p : Int} (hp : 0 ≤ p) : (beatP x y p).1 ≤ bQ q p ∧ bQ q p ≤ (beatP x y p).2 := by
 obtain ⟨⟨a1, a2⟩, ⟨b1, b2⟩, ⟨c1, c2⟩, d1, d2⟩ := h
 have m1 : x.s0 * p ≤ q.2.1 * p := Int.mul_le_mul_of_nonneg_right b1 hp
 have m2 : q.2.1 * p ≤ x.s1 * p := Int.mul_le_mul_of_nonneg_right b2 hp
 have m3 : y.s0 * p ≤ q.2.2.2 * p := Int.mul_le_mul_of_nonneg_right d1 hp
 have m4 : q.2.2.2 * p ≤ y.s1 * p := Int.mul_le_mul_of_nonneg_right d2 hp
 unfold beatP riseP bQ beatT
 rw [Int.mul_comm p y.s0, Int.mul_comm p y.s1, Int.mul_comm p x.s0, Int.mul_comm p x.s1]
 dsimp only
 omega
theorem bQ_lo (x y : Snd) (p : Int) : bQ (x.t1, x.s1, y.t0, y.s0) p = (beatP x y p).1 := by
 unfold beatP riseP bQ beatT
 rw [Int.mul_comm p y.s0, Int.mul_comm p x.s1]
 dsimp only
 omega
theorem bQ_hi (x y : Snd) (p : Int) : bQ (x.t0, x.s0, y.t1, y.s1) p = (beatP x y p).2 := by
 unfold beatP riseP bQ beatT
 rw [Int.mul_comm p y.s1, Int.mul_comm p x.s0]
 dsimp only
 omega
theorem kQ_iff {l : Lw} {due : Int} {q : Q4} : kQ l due q = true ↔ ∀ p : Int, 0 ≤ p → p ≤ l.press → -l.span ≤ bQ q p - due ∧ bQ q p - due ≤ l.span := by
 unfold kQ agreeP
 rw [List.all_eq_true]
 constructor
 · intro h p h1 h2
   have h3 := h p.toNat (List.mem_range.2 (by omega))
   rw [show ((p.toNat : Nat) : Int) = p by omega, ← beatT_eq] at h3
   simpa [withinB, bQ] using h3
 · intro h k hk
   have h3 := h k (by omega) (by have := List.mem_range.1 hk; omega)
   rw [← beatT_eq]
   simpa [withinB, bQ] using h3
theorem offL_le (due b : Int) : ∀ (l : List (Int × Int)) (n : Int), offL due l n ≤ b ↔ n ≤ b ∧ ∀ x ∈ l, due - x.1 ≤ b ∧ x.2 - due ≤ b
 | [], n => by simp [offL]
 | x :: r, n => by
   unfold offL
   rw [offL_le due b r]
   constructor
   · rintro ⟨h1, h2⟩
     refine ⟨by omega, fun z hz => ?_⟩
     rcases List.mem_cons.1 hz with rfl | hz
     · omega
     · exact h2 z hz
   · rintro ⟨h1, h2⟩
     have := h2 x List.mem_cons_self
     exact ⟨by omega, fun z hz => h2 z (List.mem_cons_of_mem _ hz)⟩
theorem offP_le {l : Lw} {due b : Int} {x y : Snd} (hb : 0 ≤ b) : offP l due x y ≤ b ↔ ∀ p : Int, 0 ≤ p → p ≤ l.press → due - (beatP x y p).1 ≤ b ∧ (beatP x y p).2 - due ≤ b := by
 unfold offP
 rw [offL_le]
 constructor
 · rintro ⟨_, h⟩ p h1 h2
   exact h _ (beatsL_mem.2 ⟨p, h1, h2, rfl⟩)
 · intro h
   refine ⟨hb, fun z hz => ?_⟩
   obtain ⟨p, h1, h2, rfl⟩ := beatsL_mem.1 hz
   exact h p h1 h2
theorem inQ_lo {x y : Snd} (gx : x.good) (gy : y.good) : inQ x y (x.t1, x.s1, y.t0, y.s0) ∧ inQ x y (x.t0, x.s0, y.t1, y.s1) := by
 obtain ⟨a1, a2⟩ := gx
 obtain ⟨b1, b2⟩ := gy
 unfold inQ
 dsimp only
 omega
theorem sure_iff {l : Lw} {due : Int} {x y : Snd} (gx : x.good) (gy : y.good) (hs : 0 ≤ l.span) : offP l due x y ≤ l.span ↔ ∀ q, inQ x y q → kQ l due q = true := by
 rw [offP_le hs]
 constructor
 · intro h q hq
   rw [kQ_iff]
   intro p h1 h2
   have h3 := h p h1 h2
   have h4 := bQ_in hq h1
   omega
 · intro h p h1 h2
   obtain ⟨e1, e2⟩ := inQ_lo gx gy
   have h3 := kQ_iff.1 (h _ e1) p h1 h2
   have h4 := kQ_iff.1 (h _ e2) p h1 h2
   rw [bQ_lo] at h3
   rw [bQ_hi] at h4
   omega
theorem mem_allOf {x : Snd} {v : Int × Int} : v ∈ allOf x ↔ (x.t0 ≤ v.1 ∧ v.1 ≤ x.t1) ∧ x.s0 ≤ v.2 ∧ v.2 ≤ x.s1 := mem_allL
theorem never_iff {l : Lw} {due : Int} {x y : Snd} : (nowL l due [x, y]).isEmpty = true ↔ ∀ q, inQ x y q → kQ l due q = false := by
 show ((allOf y).filter fun v => (allOf x).any fun z => agreeP l due (v.1 - z.1) (v.2 - z.2)).isEmpty = true ↔ _
 rw [List.isEmpty_iff, List.filter_eq_nil_iff]
 constructor
 · intro h q hq
   obtain ⟨t, s, u, r⟩ := q
   unfold inQ at hq
   dsimp only at hq
   have h1 := h (u, r) (mem_allOf.2 ⟨hq.2.2.1, hq.2.2.2⟩)
   unfold kQ
   dsimp only
   rcases Bool.eq_false_or_eq_true (agreeP l due (u - t) (r - s)) with h2 | h2
   · exact absurd (List.any_eq_true.2 ⟨(t, s), mem_allOf.2 ⟨hq.1, hq.2.1⟩, h2⟩) h1
   · exact h2
 · intro h v hv hn
   obtain ⟨z, hz, ha⟩ := List.any_eq_true.1 hn
   have h1 := h (z.1, z.2, v.1, v.2) ⟨(mem_allOf.1 hz).1, (mem_allOf.1 hz).2, (mem_allOf.1 hv).1, (mem_allOf.1 hv).2⟩
   unfold kQ at h1
   dsimp only at h1
   rw [h1] at ha
   cases ha
theorem surelyL_two (l : Lw) (due : Int) (x y : Snd) : surelyL l due [x, y] = decide (offP l due x y ≤ l.span) := by simp [surelyL]
theorem keeps_always {l : Lw} {due : Int} {x y : Snd} (gx : x.good) (gy : y.good) (hs : 0 ≤ l.span) : keepsP l due [x, y] = 1 ↔ ∀ q, inQ x y q → kQ l due q = true := by
 rw [← sure_iff gx gy hs]
 unfold keepsP
 rw [surelyL_two]
 constructor
 · intro h
   split at h
   · rename_i h1; simpa using h1
   · split at h <;> omega
 · intro h
   rw [if_pos (by simpa using h)]
theorem keeps_never {l : Lw} {due : Int} {x y : Snd} (gx : x.good) (gy : y.good) (hs : 0 ≤ l.span) : keepsP l due [x, y] = 2 ↔ ∀ q, inQ x y q → kQ l due q = false := by
 have h0 := sure_iff (l := l) (due := due) gx gy hs
 rw [← never_iff]
 unfold keepsP
 rw [surelyL_two]
 constructor
 · intro h
   split at h
   · omega
   · split at h
     · rename_i h1; exact h1
     · omega
 · intro h
   rw [if_neg, if_pos h]
   simp only [decide_eq_true_eq]
   intro h1
   have h2 := h0.1 h1 _ (inQ_lo gx gy).1
   rw [never_iff.1 h _ (inQ_lo gx gy).1] at h2
   cases h2
theorem FQ.keeps {l : Lw} {due : Int} {x y : Snd} {P : List Q4} {kept all : Int} {bl : List (Int × Int)} (h : FQ l due P kept all bl) (hP : ∀ q, q ∈ P ↔ inQ x y q) (gx : x.good) (gy : y.good) (hs : 0 ≤ l.span) :
   (keepsP l due [x, y] = 1 ↔ kept = all) ∧ (keepsP l due [x, y] = 2 ↔ kept = 0) := by
 rw [keeps_always gx gy hs, keeps_never gx gy hs, h.kall, h.k0]
 simp only [hP]
 constructor <;> first | exact Iff.rfl | trivial
theorem FQ.beats {l : Lw} {due : Int} {x y : Snd} {P : List Q4} {kept all : Int} {bl : List (Int × Int)} (h : FQ l due P kept all bl) (hP : ∀ q, q ∈ P ↔ inQ x y q) (gx : x.good) (gy : y.good) : bl = beatsL l x y := by
 apply List.ext_getElem?
 intro k
 rcases Nat.lt_or_ge k (l.press + 1).toNat with hk | hk
 · obtain ⟨v, hv⟩ : ∃ v, bl[k]? = some v := ⟨_, List.getElem?_eq_getElem (by rw [h.n]; exact hk)⟩
   have e : (beatsL l x y)[k]? = some (beatP x y (k : Int)) := by
     unfold beatsL
     rw [List.getElem?_map, List.getElem?_range hk]
     rfl
   rw [hv, e]
   obtain ⟨e1, e2⟩ := inQ_lo gx gy
   have m1 := (hP _).2 e1
   have m2 := (hP _).2 e2
   obtain ⟨g1, ⟨qa, qa1, qa2⟩, qb, qb1, qb2⟩ := h.bd k v hv (List.ne_nil_of_mem m1)
   have b1 := (g1 _ m1).1
   have b2 := (g1 _ m2).2
   rw [bQ_lo] at b1
   rw [bQ_hi] at b2
   have b3 := bQ_in ((hP _).1 qa1) (p := (k : Int)) (by omega)
   have b4 := bQ_in ((hP _).1 qb1) (p := (k : Int)) (by omega)
   congr 1
   apply Prod.ext
   · show v.1 = (beatP x y k).1
     omega
   · show v.2 = (beatP x y k).2
     omega
 · rw [List.getElem?_eq_none (by rw [h.n]; exact hk), List.getElem?_eq_none (by rw [beatsL_length]; exact hk)]
end Go.Proofs.Ytlahdenlmmlplaa
end

section
/-
 law05: VoiceAll, walked.
-/
namespace Go.Proofs.Ytlahdenlmmlplaa
set_option linter.unusedSimpArgs false
set_option linter.unusedVariables false
open Go.RowKit
section
variable {P : Program} {op : Oper} {a : Act} {K : Act → World → Prop} {Q : Exit → Act → World → Prop} {w0 w : World} {ex : Nat → Prop} {L : List (Nat × BA)} {E : List (Nat × Value)} {df : List Deferred} {t n : Nat}
end
def allB (b : Bx) (x y : Snd) : Bx := { b with lows := [x], highs := [y] }
end Go.Proofs.Ytlahdenlmmlplaa
end

section
/-
 Plain law: whatever the tongues truly are, the verdicts are right.
-/
namespace Go.Proofs.Ytlahdenlmmlplaa
set_option linter.unusedSimpArgs false
set_option linter.unusedVariables false
open Go.RowKit
def rightB (v : Int) (is : Bool) : Bool := (decide (v = 3) || (decide (v = 1) && is)) || (decide (v = 2) && !is)
theorem keepsP_or (l : Lw) (due : Int) (ts : List Snd) : keepsP l due ts = 1 ∨ keepsP l due ts = 2 ∨ keepsP l due ts = 3 := by
 unfold keepsP
 split
 · exact .inl rfl
 · split
   · exact .inr (.inl rfl)
   · exact .inr (.inr rfl)
theorem rightB_of {l : Lw} {due : Int} {ts : List Snd} {is : Bool} (h1 : keepsP l due ts = 1 → is = true) (h2 : keepsP l due ts = 2 → is = false) : rightB (keepsP l due ts) is = true := by
 unfold rightB
 rcases keepsP_or l due ts with h | h | h
 · rw [h1 h, h]; rfl
 · rw [h2 h, h]; rfl
 · rw [h]; rfl
structure ChQ (l : Lw) (due : Int) (ts : List Snd) (i : Nat) (v : Int × Int) (is : Bool) : Prop where
 a : surelyL l due ts = true → is = true
 b : is = true → i = 0 ∨ v ∈ nowL l due (ts.take i)
 c : i = 0 ∨ ∃ y, ts[i - 1]? = some y ∧ v ∈ allOf y
theorem ChQ.start (l : Lw) (due : Int) (ts : List Snd) (v : Int × Int) : ChQ l due ts 0 v true := ⟨fun _ => rfl, fun _ => .inl rfl, .inl rfl⟩
theorem ChQ.step {l : Lw} {due : Int} {ts : List Snd} {i : Nat} {v v' : Int × Int} {is : Bool} {y : Snd} (h : ChQ l due ts i v is) (hy : ts[i]? = some y) (gs : ∀ z ∈ ts, z.good) (hs : 0 ≤ l.span) (hv : v' ∈ allOf y) :
   ChQ l due ts (i + 1) v' (is && (decide ((i : Int) = 0) || agreeP l due (v'.1 - v.1) (v'.2 - v.2))) := by
 obtain ⟨h1, h2, h3⟩ := h
 refine ⟨fun hsu => ?_, fun hi => ?_, .inr ⟨y, by simpa using hy, hv⟩⟩
 · rw [h1 hsu, Bool.true_and, Bool.or_eq_true, decide_eq_true_eq]
   rcases Nat.eq_zero_or_pos i with hi | hi
   · exact .inl (by omega)
   · right
     rcases h3 with h3 | ⟨x, hx, hvx⟩
     · omega
     · have hof := surelyL_iff.1 hsu (i - 1) x y hx (by rw [show i - 1 + 1 = i by omega]; exact hy)
       have gx := gs x (List.mem_of_getElem? hx)
       have gy := gs y (List.mem_of_getElem? hy)
       have hk := (sure_iff gx gy hs).1 hof (v.1, v.2, v'.1, v'.2) ⟨(mem_allOf.1 hvx).1, (mem_allOf.1 hvx).2, (mem_allOf.1 hv).1, (mem_allOf.1 hv).2⟩
       exact hk
 · right
   rw [Bool.and_eq_true, Bool.or_eq_true, decide_eq_true_eq] at hi
   obtain ⟨hi1, hi2⟩ := hi
   cases i with
   | zero =>
     cases ts with
     | nil => simp at hy
     | cons a r =>
       simp at hy
       subst hy
       simpa [nowL] using hv
   | succ k =>
     rw [nowL_take hy]
     rcases hi2 with hi2 | hi2
     · omega
     · rcases h2 hi1 with h5 | h5
       · omega
       · unfold stepN
         rw [List.mem_filter]
         exact ⟨hv, List.any_eq_true.2 ⟨v, h5, hi2⟩⟩
theorem ChQ.right {l : Lw} {due : Int} {ts : List Snd} {i : Nat} {v : Int × Int} {is : Bool} (h : ChQ l due ts i v is) (hi : ts.length ≤ i) : rightB (keepsP l due ts) is = true := by
 refine rightB_of (fun h1 => h.a (keepsP_one.1 h1)) fun h2 => ?_
 rcases Bool.eq_false_or_eq_true is with h3 | h3
 · obtain ⟨h4, h5⟩ := keepsP_two.1 h2
   rcases h.b h3 with h6 | h6
   · subst h6
     have : ts = [] := List.eq_nil_of_length_eq_zero (by omega)
     subst this
     simp [surelyL] at h4
   · rw [List.take_of_length_le hi, h5] at h6
     cases h6
 · exact h3
end Go.Proofs.Ytlahdenlmmlplaa
end

section
/-
 law05: what the laws about boxes use.
-/
namespace Go.Proofs.Ytlahdenlmmlplaa
set_option linter.unusedSimpArgs false
set_option linter.unusedVariables false
open Go.RowKit
def placeF (v : Int) : List Int → Nat → Int
 | [], _ => -1
 | x :: r, k => if x = v then (k : Int) else placeF v r (k + 1)
def placeP (l : List Int) (v : Int) : Int := placeF v l 0
theorem Due_good (l : Lw) (n : Int) (w : World) (gl : l.good) (hn : 0 ≤ n ∧ n ≤ 11) : Calls Try.prog 41 #[.agg #[.int .i64 l.first, .int .i64 l.step, .int .i64 l.span, .int .i64 l.press], .int .i64 n] w fun e w' => e = .returned (.tuple #[.int .i64 (l.first + l.step * n), .int .i64 0]) ∧ Below w.heap.size w w' := by
 have h9 := Due_any l n w
 rw [show dueE l n = (l.first + l.step * n, 0) by unfold dueE; rw [if_neg (by simp [good_lawE gl]), if_neg (by simp [hn])]] at h9
 exact h9
theorem pair_at {b : Bx} {i k : Nat} {x y : Snd} (gb : b.good) (hx : b.lows[i]? = some x) (hy : b.highs[k]? = some y) : checkPB b i k = 0 ∧ b.low i = x ∧ b.high k = y := by
 have h1 := (List.getElem?_eq_some_iff.1 hx).1
 have h2 := (List.getElem?_eq_some_iff.1 hy).1
 refine ⟨?_, ?_, ?_⟩
 · unfold checkPB
   rw [if_neg (by rw [checkB_good.2 gb]; simp), if_neg (by simp; omega)]
 · unfold Bx.low
   rw [List.getD_eq_getElem?_getD, Int.toNat_natCast, hx]
   rfl
 · unfold Bx.high
   rw [List.getD_eq_getElem?_getD, Int.toNat_natCast, hy]
   rfl
theorem Beat_at (b : Bx) (A : Option Addr) (c : Nat) (B : Option Addr) (d : Nat) (i k : Nat) (x y : Snd) (w : World) (hA : Rd w w.heap.size 4 A b.lows.length (sc b.lows)) (hB : Rd w w.heap.size 4 B b.highs.length (sc b.highs)) (gb : b.good) (hx : b.lows[i]? = some x) (hy : b.highs[k]? = some y) :
   Calls Try.prog 21 #[bxV b A c B d, .int .i64 (i : Int), .int .i64 (k : Int)] w fun e w' => ∃ A' c' I, e = .returned (.tuple #[.slice A' (beatsL b.law x y).length c', .int .i64 0]) ∧ (∃ b1 o1, ∀ (w : World) (ex : Nat → Prop), Sp w ex I A' (beatsL b.law x y).length 2 b1 o1 (rc (beatsL b.law x y))) ∧ Mem w noEx w' I := by
 have h4 := gb.lows.1
 have h5 := gb.highs.1
 refine Calls.mono (Beat_any b A c B d i k w hA hB (by omega) (by omega)) fun e w' h => ?_
 obtain ⟨A', c', I, rfl, h2, h3⟩ := h
 obtain ⟨e1, e2, e3⟩ := pair_at gb hx hy
 have hb : beatE b i k = beatsL b.law x y := by unfold beatE; rw [if_pos e1, e2, e3]
 rw [hb] at h2
 rw [hb, e1]
 exact ⟨A', c', I, rfl, h2.spV (rc_length _), h3⟩
theorem Keeps_at (b : Bx) (A : Option Addr) (c : Nat) (B : Option Addr) (d : Nat) (i k : Nat) (x y : Snd) (w : World) (hA : Rd w w.heap.size 4 A b.lows.length (sc b.lows)) (hB : Rd w w.heap.size 4 B b.highs.length (sc b.highs)) (gb : b.good) (hx : b.lows[i]? = some x) (hy : b.highs[k]? = some y) :
   Calls Try.prog 22 #[bxV b A c B d, .int .i64 (i : Int), .int .i64 (k : Int)] w fun e w' => e = .returned (.tuple #[.int .i64 (keepsP b.law b.due [x, y]), .int .i64 0]) ∧ Below w.heap.size w w' := by
 have h4 := gb.lows.1
 have h5 := gb.highs.1
 have h9 := Keeps_any b A c B d i k w hA hB (by omega) (by omega)
 obtain ⟨e1, e2, e3⟩ := pair_at gb hx hy
 rw [show keepsE b i k = keepsP b.law b.due [x, y] by unfold keepsE; rw [if_pos e1, e2, e3], e1] at h9
 exact h9
def PairsPost (b : Bx) (w : World) (e : Ending) (w' : World) : Prop := ∃ (A : Option Addr) (c : Nat) (LL : List LE) (I : List (Nat × BA)), e = .returned (.tuple #[.slice A LL.length c, .int .i64 0]) ∧ LL.map (·.1) = tableP b ∧ (∃ b o, ∀ (w : World) (ex : Nat → Prop), Sp w ex I A LL.length 1 b o (lc LL)) ∧ Els LL I ∧ Mem w noEx w' I
end Go.Proofs.Ytlahdenlmmlplaa
end

section
/-
 kit: boxes copied, and their tongues written in place.
-/
namespace Go.Proofs.Ytlahdenlmmlplaa
set_option linter.unusedSimpArgs false
set_option linter.unusedVariables false
open Go.RowKit
theorem Try.append0s (B : Option Addr) (d g : Nat) (ty : TypeId) (w : World) : (Builtin.append_ #[38, 38] ty #[.slice (some ⟨g, 0, none⟩) 0 0, .slice B 0 d]).run Try.prog w = .ok (.slice (some ⟨g, 0, none⟩) 0 0) w := by
 cases B <;> kernel_rfl
theorem sc_one (l : List Snd) : ∀ u ∈ sc l, u.oneCell' = true := by
 intro u hu
 obtain ⟨p, _, hp⟩ := List.mem_flatMap.1 hu
 simp only [sndC, List.mem_cons, List.not_mem_nil, or_false] at hp
 rcases hp with rfl | rfl | rfl | rfl <;> rfl
theorem sc_put (f : Nat) (x' : Snd) (ds : List Value) : ∀ (l : List Snd) (k : Nat) (x : Snd), l[k]? = some x → sndC x' = (sndC x).take f ++ ds ++ (sndC x).drop (f + ds.length) → f + ds.length ≤ 4 → (sc l).take (k * 4 + f) ++ ds ++ (sc l).drop (k * 4 + f + ds.length) = sc (l.set k x')
 | [], k, x, h, _, _ => by simp at h
 | y :: l, 0, x, h, he, hf => by
   simp at h
   subst h
   have h4 : (sndC y).length = 4 := rfl
   show (sndC y ++ sc l).take (0 * 4 + f) ++ ds ++ (sndC y ++ sc l).drop (0 * 4 + f + ds.length) = sndC x' ++ sc l
   rw [Nat.zero_mul, Nat.zero_add, List.take_append_of_le_length (by omega), List.drop_append_of_le_length (by omega), he]
   simp
 | y :: l, k + 1, x, h, he, hf => by
   have h4 : (sndC y).length = 4 := rfl
   have ih := sc_put f x' ds l k x (by simpa using h) he hf
   show (sndC y ++ sc l).take ((k + 1) * 4 + f) ++ ds ++ (sndC y ++ sc l).drop ((k + 1) * 4 + f + ds.length) = sndC y ++ sc (l.set k x')
   rw [show (k + 1) * 4 + f = (sndC y).length + (k * 4 + f) by omega, List.take_length_add_append, show (sndC y).length + (k * 4 + f) + ds.length = (sndC y).length + (k * 4 + f + ds.length) by omega, List.drop_length_add_append, ← ih]
   simp
section
variable {P : Program} {op : Oper} {a : Act} {K : Act → World → Prop} {Q : Exit → Act → World → Prop} {w0 w : World} {ex : Nat → Prop} {L0 L : List (Nat × BA)} {E : List (Nat × Value)} {t n : Nat}
theorem ow_appE {s x : Operand} {ty e size bytes b m d : Nat} {B : Option Addr} {z : Value} {cs : List Value}
   (hinfo : (P.info? e).map (fun i => (i.zero, i.size, i.bytes)) = some (some z, size, bytes)) (M : Mem w0 ex w ((b, .any fun o => o = .cells #[] e) :: L)) (T : Tm a n E)
   (ho : op.op = .call { callee := .builtin .append, args := #[s, x], argTypes := #[ty, ty] }) (hd : op.dst = some t) (hf : freshE E t = true) (hnn : Nat.blt t n = true)
   (h0 : ∀ g (w : World), (Builtin.append_ #[ty, ty] op.type #[.slice (some ⟨g, 0, none⟩) 0 0, .slice B 0 d]).run P w = .ok (.slice (some ⟨g, 0, none⟩) 0 0) w)
   (ht : P.underlying ty = some (.slice e)) (hzs : z.cells.size = size) (hsz : Nat.blt 0 size = true) (hby : Nat.ble bytes 1000 = true) (hm : m ≤ 1000000)
   (hs : a.eval s = .slice (some ⟨b, 0, none⟩) 0 0) (hx : a.eval x = .slice B m d) (hr : Rd w w.heap.size size B m cs) (h1 : ∀ u ∈ cs, u.oneCell' = true)
   (h : ∀ g cap' ys w' a', Mem w0 ex w' ((g, .cells (cs ++ ys)) :: L) → Tm a' n ((t, .slice (some ⟨g, 0, none⟩) m cap') :: E) → K a' w') : op.wp P a w K Q := by
 rcases Nat.eq_zero_or_pos m with rfl | hm0
 · obtain rfl : cs = [] := List.eq_nil_of_length_eq_zero (by have := hr.1; omega)
   unfold Oper.wp execOp
   simp only [ho, resolve, invoke, builtin, Sem.run_bind, Sem.run_pure, Result.andThen_ok, List.map_toArray, List.map_cons, List.map_nil, hs, hx, h0]
   refine h b 0 [] w _ ⟨M.os, M.tape, M.output, M.size, M.block, ?_, M.nd⟩ (by rw [hd]; exact T.put hnn hf _)
   intro p hp
   rcases List.mem_cons.1 hp with rfl | hp
   · obtain ⟨h2, o, ho2, rfl⟩ := M.blk _ List.mem_cons_self
     exact ⟨h2, Bk.of_heap (cur := #[]) ho2⟩
   · exact M.blk p (List.mem_cons_of_mem _ hp)
 · obtain ⟨i, hi, hz0, hz1, hz2⟩ := info_parts hinfo
   obtain ⟨g2, o2, rfl, hlt, hc⟩ := hr.cells hm0
   have hby := Nat.le_of_ble_eq_true hby
   have hsz := Nat.le_of_ble_eq_true hsz
   have hbb : (0 + m) * bytes ≤ 140737488355328 := by
     have : (0 + m) * bytes ≤ 1000000 * 1000 := Nat.mul_le_mul (by omega) hby
     omega
   obtain ⟨h2, o, hge, rfl⟩ := M.blk (b, .any fun o => o = .cells #[] e) List.mem_cons_self
   have hgl : b < w.heap.size := (Array.getElem?_eq_some_iff.1 hge).1
   refine wp_append_lies w s x ty ho b e i z size bytes ht hi hz0 hz1 hz2 hzs hsz _ 0 [] hs ⟨by simp, .inr ⟨b, 0, #[], rfl, Nat.le_refl _, hge, by omega, by unfold maxLen; omega, by simp, by simp⟩⟩ ⟨g2, o2, none⟩ m d cs hx hr.1 (fun j u hu => by rw [Addr.add_mid]; exact hc j u hu) h1 hm0 (by unfold maxLen; omega) hbb (Nat.le_of_lt hgl) w.heap.size rfl ?_
   intro g cap' w' hown hgr hat hlt2
   have hgr : w.grownBy w' (some b) := hgr
   simp only [Nat.zero_add, List.nil_append] at hown
   have key : Mem w0 ex w' ((g, .row e size m cs cap') :: L) := by
     rcases hat with h3 | h3
     · have h3 : some b = some g := h3
       injection h3 with h3
       subst h3
       exact M.callW (L' := (b, .row e size m cs cap') :: L) .head hgr (own_rebase hown hm0)
     · have M1 := M.callW (L' := (b, .any (fun _ => True)) :: L) .head hgr (by
         have hl0 : b < w'.heap.size := Nat.lt_of_lt_of_le hgl hgr.size
         exact ⟨w'.heap[b], Array.getElem?_eq_getElem hl0, trivial⟩)
       exact M1.forget.add (by rw [h3]; exact M.size) (own_rebase hown hm0) (fun q hq e => by have := BA.lt (M.blk q (List.mem_cons_of_mem _ hq)).2; omega)
   obtain ⟨⟨hl, hb⟩, hk⟩ := (key.blk _ List.mem_cons_self).2
   rcases hb with ⟨hb, _⟩ | ⟨g', cap2, cur, e1, _, hg, hc1, hc2, hc3, hc4⟩
   · cases hb
   · injection e1 with e1 _ _
     injection e1 with e1
     injection e1 with e1 _ _
     subst e1
     refine h g cap' (cur.toList.drop (m * size)) w' _ ⟨key.os, key.tape, key.output, key.size, key.block, ?_, key.nd⟩ (by rw [hd, Nat.zero_add]; exact T.put hnn hf _)
     intro p hp
     rcases List.mem_cons.1 hp with rfl | hp
     · refine ⟨(key.blk _ List.mem_cons_self).1, ?_⟩
       rw [← hc4, List.take_append_drop]
       exact Bk.of_heap hg
     · exact key.blk p (List.mem_cons_of_mem _ hp)
theorem ow_stS {ty : TypeId} {x y : Operand} {g k : Nat} {v0 v1 v2 v3 : Int} {l : List Snd} {ys : List Value} {L' : List (Nat × BA)} (M : Mem w0 ex w L) (T : Tm a n E) (ho : op.op = .store ty x y) (hd : op.dst = none) (hx : a.eval x = .pointer (some ⟨g, 0 + k * 4, none⟩)) (hy : a.eval y = .agg #[.int .i64 v0, .int .i64 v1, .int .i64 v2, .int .i64 v3])
   (hu : Upd L g (.cells (sc l ++ ys)) (.cells (sc (l.set k ⟨v0, v1, v2, v3⟩) ++ ys)) L') (hk : k < l.length) (hi : (P.info? ty).map (·.size) = some 4)
   (h : ∀ w' a', Mem w0 ex w' L' → Tm a' n E → K a' w') : op.wp P a w K Q := by
 refine m_stw (ds := [.int .i64 v0, .int .i64 v1, .int .i64 v2, .int .i64 v3]) M ho hx hy rfl hu ?_ (by simp only [List.length_append, List.length_cons, List.length_nil, sc_length]; omega) rfl hi fun w' M' => h w' _ M' (by rw [hd]; exact T)
 have hp := sc_put 0 ⟨v0, v1, v2, v3⟩ [.int .i64 v0, .int .i64 v1, .int .i64 v2, .int .i64 v3] l k l[k] (List.getElem?_eq_getElem hk) rfl (by simp)
 rw [Nat.zero_add, List.take_append_of_le_length (by rw [sc_length]; omega), List.drop_append_of_le_length (by rw [sc_length]; simp; omega), ← List.append_assoc, ← hp]
 simp
theorem ow_stS2 {ty : TypeId} {x y : Operand} {g k : Nat} {v0 v1 : Int} {l : List Snd} {z : Snd} {ys : List Value} {L' : List (Nat × BA)} (M : Mem w0 ex w L) (T : Tm a n E) (ho : op.op = .store ty x y) (hd : op.dst = none) (hx : a.eval x = .pointer (some ⟨g, 0 + k * 4 + 0, none⟩)) (hy : a.eval y = .agg #[.int .i64 v0, .int .i64 v1])
   (hz : l[k]? = some z) (hu : Upd L g (.cells (sc l ++ ys)) (.cells (sc (l.set k { z with t0 := v0, t1 := v1 }) ++ ys)) L') (hk : k < l.length) (hi : (P.info? ty).map (·.size) = some 2)
   (h : ∀ w' a', Mem w0 ex w' L' → Tm a' n E → K a' w') : op.wp P a w K Q := by
 refine m_stw (ds := [.int .i64 v0, .int .i64 v1]) M ho hx hy rfl hu ?_ (by simp only [List.length_append, List.length_cons, List.length_nil, sc_length]; omega) rfl hi fun w' M' => h w' _ M' (by rw [hd]; exact T)
 have hp := sc_put 0 { z with t0 := v0, t1 := v1 } [.int .i64 v0, .int .i64 v1] l k z hz rfl (by simp)
 rw [Nat.zero_add, Nat.add_zero, List.take_append_of_le_length (by rw [sc_length]; omega), List.drop_append_of_le_length (by rw [sc_length]; simp; omega), ← List.append_assoc, ← hp]
 simp
end
def CopyBPost (b : Bx) (w : World) (e : Ending) (w' : World) : Prop := ∃ g1 c1 ys1 g2 c2 ys2, e = .returned (bxV b (some ⟨g1, 0, none⟩) c1 (some ⟨g2, 0, none⟩) c2) ∧ Mem w noEx w' [(g1, .cells (sc b.lows ++ ys1)), (g2, .cells (sc b.highs ++ ys2))]
set_option maxRecDepth 100000 in
set_option maxHeartbeats 1000000 in
theorem copyBox_any (b : Bx) (A : Option Addr) (c : Nat) (B : Option Addr) (d : Nat) (w : World) (hA : Rd w w.heap.size 4 A b.lows.length (sc b.lows)) (hB : Rd w w.heap.size 4 B b.highs.length (sc b.highs)) (nA : b.lows.length ≤ 1000000) (nB : b.highs.length ≤ 1000000)  :
   Calls Try.prog 31 #[bxV b A c B d] w (CopyBPost b w) := by
 have hlA := hA.len4
 have hlB := hB.len4
 obtain ⟨bA, oA, SA⟩ := Sp.old hA
 obtain ⟨bB, oB, SB⟩ := Sp.old hB
 refine px_enter noEx Try.func31 rfl 14 rfl [.agg #[.int .i64 b.first, .int .i64 b.step, .int .i64 b.span, .int .i64 b.press, .int .i64 b.note, .slice A b.lows.length c, .slice B b.highs.length d, .int .i64 b.t0, .int .i64 b.t1, .int .i64 b.r0, .int .i64 b.r1, .int .i64 b.u0, .int .i64 b.u1, .int .i64 b.d0, .int .i64 b.d1, .int .i64 b.a0, .int .i64 b.a1, .int .i64 b.b0, .int .i64 b.b1, .int .i64 b.le, .int .i64 b.me]] rfl rfl (Mem.init w _) ?_
 intro ac wc T M
 refine wp_seq ?_
 refine wp_region_lit ?_
 refine l_w rfl ?_; intro K hK
 refine ow_bx M T rfl rfl rfl rfl (T.ev 0 rfl) rfl ?_; clear M T; intro g1 wc ac M T
 refine sh_out hK _ _ ?_; clear hK K
 refine l_w rfl ?_; intro K hK
 refine ow_al M T rfl rfl rfl rfl ?_; clear M T; intro g2 wc ac M T
 refine sh_out hK _ _ ?_; clear hK K
 refine wpList_nil ?_
 replace T := T.pick [0, 1] rfl
 refine nm_then ?_
 refine wp_seq ?_
 refine g_start2 M (M.perm [0] rfl rfl) 12 (by kernel_rfl) rfl (by kernel_rfl) ?_
 clear M; intro wc M
 refine g_addG 9 M ?_
 refine gq (v := (.pointer (some ⟨g1, 5, none⟩))) T 1 2 rfl (fun _ _ _ _ _ => (rn_fieldAddr (off := 5) rfl (T.ev 1 rfl) (fun _ _ _ => by kernel_rfl))) ?_; clear T ac; intro ac T
 refine gq T 2 6 rfl (fun B w' hD hl hS => (rn_one (Mem.nth (show Mem w noEx w' _ from ((MA.lft hS) (hD.wait (i := 2) (m := 9) (by kernel_rfl) hl))) 1 rfl) rfl (T.ev 0 rfl) rfl)) ?_; clear T ac; intro ac T
 refine gq (v := (.pointer (some ⟨g1, 6, none⟩))) T 5 38 rfl (fun _ _ _ _ _ => (rn_fieldAddr (off := 6) rfl (T.ev 3 rfl) (fun _ _ _ => by kernel_rfl))) ?_; clear T ac; intro ac T
 refine gq T 6 102 rfl (fun B w' hD hl hS => (rn_one (Mem.nth (show Mem w noEx w' _ from ((MA.lft hS) (hD.wait (i := 6) (m := 9) (by kernel_rfl) hl))) 1 rfl) rfl (T.ev 0 rfl) rfl)) ?_; clear T ac; intro ac T
 refine g_m2 (i := 0) (j := 4) (by kernel_rfl) ?_ ?_
 ·refine gi 103 ?_; intro K hK
  refine ow_bs0 (e := 48) M T rfl rfl rfl rfl (fun _ => by kernel_rfl) ?_; clear M T; intro gr1_0 wc ac M T
  refine sh_out hK _ _ (MA.mk (fun _ => M.mask [false, true, true] rfl) (M.mask [false, true, false] rfl)) ?_; clear hK K
  refine g_m2 (i := 3) (j := 4) (by kernel_rfl) ?_ ?_
  ·refine gi 111 ?_; intro K hK
   refine ow_appE Try.info48 M T rfl rfl rfl rfl (fun g w => Try.append0s _ _ g _ w) Try.underlying38 rfl rfl rfl (by omega) (T.ev 0 rfl) (T.ev 3 rfl) (SA.rd M (List.nil_sublist _)) (sc_one _) ?_; clear M T; intro ge1_3 ce1_3 ys1_3 wc ac M T
   refine sh_out hK _ _ (MA.mk (fun _ => M.mask [false, true, true] rfl) (M.mask [false, true, false] rfl)) ?_; clear hK K
   refine gq (v := (.pointer (some ⟨g1, 5, none⟩))) T 8 367 rfl (fun _ _ _ _ _ => (rn_fieldAddr (off := 5) rfl (T.ev 7 rfl) (fun _ _ _ => by kernel_rfl))) ?_; clear T ac; intro ac T
   refine gw 4 383 ?_; intro K hK
   refine ow_bs0 (e := 48) M T rfl rfl rfl rfl (fun _ => by kernel_rfl) ?_; clear M T; intro gr1_4 wc ac M T
   refine sh_out hK _ _ (MA.mk (fun _ => M.mask [false, false, true, true] rfl) (M.mask [false, false, true, false] rfl)) ?_; clear hK K
   refine gw 7 511 ?_; intro K hK
   refine ow_appE Try.info48 M T rfl rfl rfl rfl (fun g w => Try.append0s _ _ g _ w) Try.underlying38 rfl rfl rfl (by omega) (T.ev 0 rfl) (T.ev 4 rfl) (SB.rd M (List.nil_sublist _)) (sc_one _) ?_; clear M T; intro ge1_7 ce1_7 ys1_7 wc ac M T
   refine sh_out hK _ _ (MA.mk (fun _ => M.mask [false, false, true, true] rfl) (M.mask [false, false, true, false] rfl)) ?_; clear hK K
   refine gw 9 1023 ?_; intro K hK
   refine ow_stO M T rfl rfl (T.ev 2 rfl) (T.ev 3 rfl) rfl (.tail (.tail (.tail .head))) rfl (by simp) rfl (by kernel_rfl) ?_; clear M T; intro wc ac M T
   refine sh_out hK _ _ (MA.mk (fun h => (no_of (by kernel_rfl) h).elim) (M.mask [false, false, true, false] rfl)) ?_; clear hK K
   refine gq (v := (.pointer (some ⟨g1, 6, none⟩))) T 10 2047 rfl (fun _ _ _ _ _ => (rn_fieldAddr (off := 6) rfl (T.ev 10 rfl) (fun _ _ _ => by kernel_rfl))) ?_; clear T ac; intro ac T
   refine gw 11 4095 ?_; intro K hK
   refine ow_stO M T rfl rfl (T.ev 0 rfl) (T.ev 1 rfl) rfl (.tail (.tail (.tail .head))) rfl (by simp) rfl (by kernel_rfl) ?_; clear M T; intro wc ac M T
   refine sh_out hK _ _ (MA.mk (fun h => (no_of (by kernel_rfl) h).elim) (M.mask [false, false, true, false] rfl)) ?_; clear hK K
   refine g_done (by kernel_rfl) ?_
   replace T := T.pick [10, 11] rfl
   refine nm_then ?_
   refine wp_seq ?_
   refine wp_region_lit ?_
   refine lq T (rn_rowO (Mem.nth M 3 rfl) rfl (T.ev 1 rfl) rfl) ?_; clear T ac; intro ac T
   refine l_w rfl ?_; intro K hK
   refine ow_stO M T rfl rfl (T.ev 1 rfl) (T.ev 0 rfl) rfl (.tail (.tail .head)) rfl (by simp) rfl (by kernel_rfl) ?_; clear M T; intro wc ac M T
   refine sh_out hK _ _ ?_; clear hK K
   refine wpList_nil ?_
   replace T := T.pick [1] rfl
   replace M := M.mask [true, true, true, false] rfl
   refine nm_then ?_
   refine wp_ret ?_
   refine rt_c M T rfl (T.ev 0 rfl) (nthE_mem (i := 2) rfl) rfl ?_
   exact ⟨ge1_3, ce1_3, ys1_3, ge1_7, ce1_7, ys1_7, rfl, M.perm [1, 0] rfl rfl⟩
  refine gi 119 ?_; intro K hK
  refine ow_bs0 (e := 48) M T rfl rfl rfl rfl (fun _ => by kernel_rfl) ?_; clear M T; intro gr1_4 wc ac M T
  refine sh_out hK _ _ (MA.mk (fun _ => M.mask [false, false, true, true] rfl) (M.mask [false, false, true, false] rfl)) ?_; clear hK K
  refine gw 3 127 ?_; intro K hK
  replace M := M.permT [1, 0, 2, 3] 4 rfl rfl rfl rfl
  refine ow_appE Try.info48 M T rfl rfl rfl rfl (fun g w => Try.append0s _ _ g _ w) Try.underlying38 rfl rfl rfl (by omega) (T.ev 1 rfl) (T.ev 4 rfl) (SA.rd M (List.nil_sublist _)) (sc_one _) ?_; clear M T; intro ge1_3 ce1_3 ys1_3 wc ac M T
  refine sh_out hK _ _ (MA.mk (fun _ => M.mask [false, false, true, true] rfl) (M.mask [false, false, true, false] rfl)) ?_; clear hK K
  refine gq (v := (.pointer (some ⟨g1, 5, none⟩))) T 8 383 rfl (fun _ _ _ _ _ => (rn_fieldAddr (off := 5) rfl (T.ev 8 rfl) (fun _ _ _ => by kernel_rfl))) ?_; clear T ac; intro ac T
  refine gw 7 511 ?_; intro K hK
  replace M := M.permT [1, 0, 2, 3] 4 rfl rfl rfl rfl
  refine ow_appE Try.info48 M T rfl rfl rfl rfl (fun g w => Try.append0s _ _ g _ w) Try.underlying38 rfl rfl rfl (by omega) (T.ev 2 rfl) (T.ev 4 rfl) (SB.rd M (List.nil_sublist _)) (sc_one _) ?_; clear M T; intro ge1_7 ce1_7 ys1_7 wc ac M T
  refine sh_out hK _ _ (MA.mk (fun _ => M.mask [false, false, true, true] rfl) (M.mask [false, false, true, false] rfl)) ?_; clear hK K
  refine gw 9 1023 ?_; intro K hK
  refine ow_stO M T rfl rfl (T.ev 1 rfl) (T.ev 2 rfl) rfl (.tail (.tail (.tail .head))) rfl (by simp) rfl (by kernel_rfl) ?_; clear M T; intro wc ac M T
  refine sh_out hK _ _ (MA.mk (fun h => (no_of (by kernel_rfl) h).elim) (M.mask [false, false, true, false] rfl)) ?_; clear hK K
  refine gq (v := (.pointer (some ⟨g1, 6, none⟩))) T 10 2047 rfl (fun _ _ _ _ _ => (rn_fieldAddr (off := 6) rfl (T.ev 10 rfl) (fun _ _ _ => by kernel_rfl))) ?_; clear T ac; intro ac T
  refine gw 11 4095 ?_; intro K hK
  refine ow_stO M T rfl rfl (T.ev 0 rfl) (T.ev 1 rfl) rfl (.tail (.tail (.tail .head))) rfl (by simp) rfl (by kernel_rfl) ?_; clear M T; intro wc ac M T
  refine sh_out hK _ _ (MA.mk (fun h => (no_of (by kernel_rfl) h).elim) (M.mask [false, false, true, false] rfl)) ?_; clear hK K
  refine g_done (by kernel_rfl) ?_
  replace T := T.pick [10, 11] rfl
  refine nm_then ?_
  refine wp_seq ?_
  refine wp_region_lit ?_
  refine lq T (rn_rowO (Mem.nth M 3 rfl) rfl (T.ev 1 rfl) rfl) ?_; clear T ac; intro ac T
  refine l_w rfl ?_; intro K hK
  refine ow_stO M T rfl rfl (T.ev 1 rfl) (T.ev 0 rfl) rfl (.tail (.tail .head)) rfl (by simp) rfl (by kernel_rfl) ?_; clear M T; intro wc ac M T
  refine sh_out hK _ _ ?_; clear hK K
  refine wpList_nil ?_
  replace T := T.pick [1] rfl
  replace M := M.mask [true, true, true, false] rfl
  refine nm_then ?_
  refine wp_ret ?_
  refine rt_c M T rfl (T.ev 0 rfl) (nthE_mem (i := 2) rfl) rfl ?_
  exact ⟨ge1_3, ce1_3, ys1_3, ge1_7, ce1_7, ys1_7, rfl, M.perm [1, 0] rfl rfl⟩
 refine gi 118 ?_; intro K hK
 refine ow_bs0 (e := 48) M T rfl rfl rfl rfl (fun _ => by kernel_rfl) ?_; clear M T; intro gr1_4 wc ac M T
 refine sh_out hK _ _ (MA.mk (fun _ => M.mask [false, true, true] rfl) (M.mask [false, true, false] rfl)) ?_; clear hK K
 refine gw 0 119 ?_; intro K hK
 refine ow_bs0 (e := 48) M T rfl rfl rfl rfl (fun _ => by kernel_rfl) ?_; clear M T; intro gr1_0 wc ac M T
 refine sh_out hK _ _ (MA.mk (fun _ => M.mask [false, false, true, true] rfl) (M.mask [false, false, true, false] rfl)) ?_; clear hK K
 refine gw 3 127 ?_; intro K hK
 refine ow_appE Try.info48 M T rfl rfl rfl rfl (fun g w => Try.append0s _ _ g _ w) Try.underlying38 rfl rfl rfl (by omega) (T.ev 0 rfl) (T.ev 4 rfl) (SA.rd M (List.nil_sublist _)) (sc_one _) ?_; clear M T; intro ge1_3 ce1_3 ys1_3 wc ac M T
 refine sh_out hK _ _ (MA.mk (fun _ => M.mask [false, false, true, true] rfl) (M.mask [false, false, true, false] rfl)) ?_; clear hK K
 refine gq (v := (.pointer (some ⟨g1, 5, none⟩))) T 8 383 rfl (fun _ _ _ _ _ => (rn_fieldAddr (off := 5) rfl (T.ev 8 rfl) (fun _ _ _ => by kernel_rfl))) ?_; clear T ac; intro ac T
 refine gw 7 511 ?_; intro K hK
 replace M := M.permT [1, 0, 2, 3] 4 rfl rfl rfl rfl
 refine ow_appE Try.info48 M T rfl rfl rfl rfl (fun g w => Try.append0s _ _ g _ w) Try.underlying38 rfl rfl rfl (by omega) (T.ev 3 rfl) (T.ev 4 rfl) (SB.rd M (List.nil_sublist _)) (sc_one _) ?_; clear M T; intro ge1_7 ce1_7 ys1_7 wc ac M T
 refine sh_out hK _ _ (MA.mk (fun _ => M.mask [false, false, true, true] rfl) (M.mask [false, false, true, false] rfl)) ?_; clear hK K
 refine gw 9 1023 ?_; intro K hK
 refine ow_stO M T rfl rfl (T.ev 1 rfl) (T.ev 2 rfl) rfl (.tail (.tail (.tail .head))) rfl (by simp) rfl (by kernel_rfl) ?_; clear M T; intro wc ac M T
 refine sh_out hK _ _ (MA.mk (fun h => (no_of (by kernel_rfl) h).elim) (M.mask [false, false, true, false] rfl)) ?_; clear hK K
 refine gq (v := (.pointer (some ⟨g1, 6, none⟩))) T 10 2047 rfl (fun _ _ _ _ _ => (rn_fieldAddr (off := 6) rfl (T.ev 10 rfl) (fun _ _ _ => by kernel_rfl))) ?_; clear T ac; intro ac T
 refine gw 11 4095 ?_; intro K hK
 refine ow_stO M T rfl rfl (T.ev 0 rfl) (T.ev 1 rfl) rfl (.tail (.tail (.tail .head))) rfl (by simp) rfl (by kernel_rfl) ?_; clear M T; intro wc ac M T
 refine sh_out hK _ _ (MA.mk (fun h => (no_of (by kernel_rfl) h).elim) (M.mask [false, false, true, false] rfl)) ?_; clear hK K
 refine g_done (by kernel_rfl) ?_
 replace T := T.pick [10, 11] rfl
 refine nm_then ?_
 refine wp_seq ?_
 refine wp_region_lit ?_
 refine lq T (rn_rowO (Mem.nth M 3 rfl) rfl (T.ev 1 rfl) rfl) ?_; clear T ac; intro ac T
 refine l_w rfl ?_; intro K hK
 refine ow_stO M T rfl rfl (T.ev 1 rfl) (T.ev 0 rfl) rfl (.tail (.tail .head)) rfl (by simp) rfl (by kernel_rfl) ?_; clear M T; intro wc ac M T
 refine sh_out hK _ _ ?_; clear hK K
 refine wpList_nil ?_
 replace T := T.pick [1] rfl
 replace M := M.mask [true, true, true, false] rfl
 refine nm_then ?_
 refine wp_ret ?_
 refine rt_c M T rfl (T.ev 0 rfl) (nthE_mem (i := 2) rfl) rfl ?_
 exact ⟨ge1_3, ce1_3, ys1_3, ge1_7, ce1_7, ys1_7, rfl, M.perm [1, 0] rfl rfl⟩
end Go.Proofs.Ytlahdenlmmlplaa
end

section
/-
 reed: Shortest.
-/
namespace Go.Proofs.Ytlahdenlmmlplaa
set_option linter.unusedSimpArgs false
set_option linter.unusedVariables false
open Go.RowKit
def plan (n r : Nat) : List Int := List.replicate (n - r) 1 ++ List.replicate r 2
theorem plan_length {n r : Nat} (h : r ≤ n) : (plan n r).length = n := by simp [plan]; omega
theorem plan_ok (n r : Nat) : ∀ k ∈ plan n r, okS k = true := by
 intro k hk
 rcases List.mem_append.1 hk with h | h
 · rw [(List.mem_replicate.1 h).2]; rfl
 · rw [(List.mem_replicate.1 h).2]; rfl
theorem plan_at {n r i : Nat} (hr : r ≤ n) (hi : i < n) : (plan n r)[i]? = some (if i < n - r then 1 else 2) := by
 unfold plan
 rw [List.getElem?_append]
 split
 · rename_i h; simp only [List.length_replicate] at h; rw [if_pos h]; simp [h]
 · rename_i h; simp only [List.length_replicate] at h; rw [if_neg h]; simp only [List.length_replicate, List.getElem?_replicate]; rw [if_pos (by omega)]
theorem plan_take {n r i : Nat} (hr : r ≤ n) (hi : i < n) (x : Int) (hx : x = if i < n - r then 1 else 2) : ic ((plan n r).take (i + 1)) = ic ((plan n r).take i) ++ [.int .i64 x] := by
 have hl : i < (plan n r).length := by rw [plan_length hr]; exact hi
 have h := plan_at hr hi
 rw [List.getElem?_eq_getElem hl] at h
 rw [List.take_succ_eq_append_getElem hl, ic_append, hx]
 injection h with h
 rw [h]
 rfl
def isFine (j : Jb) (l : List Int) : Bool := fineJ j (j.st.after l) == 1
def rootsFrom (j : Jb) (n : Nat) : Nat → Nat → Option (List Int)
 | 0, _ => none
 | k + 1, r => if isFine j (plan n r) then some (plan n r) else rootsFrom j n k (r + 1)
def plansFrom (j : Jb) : Nat → Nat → Option (List Int)
 | 0, _ => none
 | k + 1, n => match rootsFrom j n (n + 1) 0 with | some l => some l | none => plansFrom j k (n + 1)
theorem roots_hit {j : Jb} {n r : Nat} (hr : r < n + 1) (h : isFine j (plan n r) = true) : rootsFrom j n (n + 1 - r) r = some (plan n r) := by
 obtain ⟨k, hk⟩ : ∃ k, n + 1 - r = k + 1 := ⟨n - r, by omega⟩
 rw [hk, rootsFrom, if_pos h]
theorem roots_miss {j : Jb} {n r : Nat} (hr : r < n + 1) (h : isFine j (plan n r) = false) : rootsFrom j n (n + 1 - r) r = rootsFrom j n (n + 1 - (r + 1)) (r + 1) := by
 obtain ⟨k, hk⟩ : ∃ k, n + 1 - r = k + 1 := ⟨n - r, by omega⟩
 have hk2 : n + 1 - (r + 1) = k := by omega
 rw [hk, rootsFrom, if_neg (by rw [h]; simp), hk2]
theorem plans_hit {j : Jb} {n : Nat} {l : List Int} (hn : n < 7) (h : rootsFrom j n (n + 1) 0 = some l) : plansFrom j (7 - n) n = some l := by
 obtain ⟨k, hk⟩ : ∃ k, 7 - n = k + 1 := ⟨6 - n, by omega⟩
 rw [hk, plansFrom, h]
theorem plans_miss {j : Jb} {n : Nat} (hn : n < 7) (h : rootsFrom j n (n + 1) 0 = none) : plansFrom j (7 - n) n = plansFrom j (7 - (n + 1)) (n + 1) := by
 obtain ⟨k, hk⟩ : ∃ k, 7 - n = k + 1 := ⟨6 - n, by omega⟩
 have hk2 : 7 - (n + 1) = k := by omega
 rw [hk, plansFrom, h, hk2]
theorem roots_end {j : Jb} {n r : Nat} (hr : n + 1 ≤ r) : rootsFrom j n (n + 1 - r) r = none := by
 have : n + 1 - r = 0 := by omega
 rw [this]; rfl
theorem plans_end {j : Jb} {n : Nat} (hn : 7 ≤ n) : plansFrom j (7 - n) n = none := by
 have : 7 - n = 0 := by omega
 rw [this]; rfl
def shortL (j : Jb) : List Int := if checkJ j = 0 then (plansFrom j 7 0).getD [] else []
def shortJE (j : Jb) : Int := if checkJ j = 0 then (if (plansFrom j 7 0).isSome then 0 else 11) else checkJ j
def ShortPost (l : List Int) (err : Int) (w : World) (e : Ending) (w' : World) : Prop :=
 ∃ (A : Option Addr) (c : Nat), e = .returned (.tuple #[.slice A l.length c, .int .i64 err]) ∧ Rd w' w'.heap.size 1 A l.length (ic l) ∧ Below w.heap.size w w'
end Go.Proofs.Ytlahdenlmmlplaa
end

/-
  Walks of functions, and plain laws (texts put together). No condition.
-/
import Derived.Test.YtdnbljihhimijaaGreatMVoicePairs1
import Derived.Test.YtdnbljihhimijaaGreatMVoicePairs2
import Derived.Test.YtdnbljihhimijaaGreatMVoicePairs3
import Derived.Test.YtdnbljihhimijaaGreatMVoicePairs4
set_option maxRecDepth 100000
set_option maxHeartbeats 1000000
set_option linter.unusedSimpArgs false
set_option linter.unusedVariables false
namespace Go.Proofs.YtdnbljihhimijaaGreat
open Go.RowKit
def shL (b : Bx) (x y : Snd) : List (Int × Int) := (List.range (b.press + 1).toNat).map fun (p : Nat) => riseP x y (p : Int)
def jobP (b : Bx) (x y : Snd) : Jb := { blankJ b with p0 := y.t0 - b.due, p1 := y.t1 - b.due, sh := shL b x y }
theorem shL_take {b : Bx} {x y : Snd} {k : Nat} (h : (k : Int) ≤ b.press) : (shL b x y).take (k + 1) = (shL b x y).take k ++ [riseP x y (k : Int)] := by
 unfold shL
 rw [List.take_add_one, List.getElem?_map, List.getElem?_range (by omega)]
 rfl
theorem shL_length (b : Bx) (x y : Snd) : (shL b x y).length = (b.press + 1).toNat := by simp [shL]
def JobPost (j : Jb) (w : World) (e : Ending) (w' : World) : Prop := ∃ A c I, e = .returned (jobV j A c) ∧ (∃ b o, ∀ (w : World) (ex : Nat → Prop), Sp w ex I A j.sh.length 2 b o (rc j.sh)) ∧ Mem w noEx w' I
def strokesE (b : Bx) (i k : Int) : Int × Int := if checkPB b i k = 0 then guidedJ (jobP b (b.low i) (b.high k)) else (0, checkPB b i k)
theorem vjob_any (b : Bx) (A : Option Addr) (c : Nat) (B : Option Addr) (d : Nat) (i k : Int) (il kl : Nat) (x y : Snd) (w : World) (hA : Rd w w.heap.size 4 A b.lows.length (sc b.lows)) (hB : Rd w w.heap.size 4 B b.highs.length (sc b.highs)) (gb : b.good) (hil : i = (il : Nat)) (hkl : k = (kl : Nat)) (hkx : b.lows[il]? = some x) (hky : b.highs[kl]? = some y) :
   Calls Tryz.prog 100 #[bxV b A c B d, .int .i64 i, .int .i64 k] w (JobPost (jobP b x y) w) := by
 have hlA := hA.len4
 have hlB := hB.len4
 obtain ⟨bA, oA, SA⟩ := Sp.old hA
 obtain ⟨bB, oB, SB⟩ := Sp.old hB
 have hil9 := (List.getElem?_eq_some_iff.1 hkx).1
 have hkl9 := (List.getElem?_eq_some_iff.1 hky).1
 have gl3 := gb.law.span
 have gl4 := gb.law.press
 have gn := gb.note
 have gf := gb.law.first
 have gs := gb.law.step
 have gd := gb.due
 unfold Bx.due at gd
 dsimp only at gl3 gl4 gf gs
 have nA := gb.lows.1
 have nB := gb.highs.1
 have gx := gb.lows.2 x (List.mem_of_getElem? hkx)
 have gy := gb.highs.2 y (List.mem_of_getElem? hky)
 obtain ⟨⟨gx1, gx2⟩, gy1, gy2⟩ := And.intro gx gy
 refine Zpx noEx Tryz.func100 rfl 55 rfl [.agg #[.int .i64 b.first, .int .i64 b.step, .int .i64 b.span, .int .i64 b.press, .int .i64 b.note, .slice A b.lows.length c, .slice B b.highs.length d, .int .i64 b.t0, .int .i64 b.t1, .int .i64 b.r0, .int .i64 b.r1, .int .i64 b.u0, .int .i64 b.u1, .int .i64 b.d0, .int .i64 b.d1, .int .i64 b.a0, .int .i64 b.a1, .int .i64 b.b0, .int .i64 b.b1, .int .i64 b.le, .int .i64 b.me], .int .i64 i, .int .i64 k] rfl rfl (Mem.init w _) ?_
 intro ac wc T M
 refine Zsr ?_
 refine Zl2 ?_
 refine Zob M T rfl rfl rfl rfl (T.e 0 rfl) rfl ?_; clear M T; intro g1 wc ac M T
 refine Zl2 ?_
 refine Zoa M T rfl rfl rfl rfl ?_; clear M T; intro g2 wc ac M T
 replace T := T.pick [0, 1, 3, 4] rfl
 refine Zln ?_
 refine wp_seq ?_
 refine Zgs M (M.mask [true, true] rfl) 10 (by kernel_rfl) rfl (by kernel_rfl) ?_
 clear M; intro wc M
 refine g_have (fun ac wc => ∃ (gr1_7 : Nat), Tm ac 55 [(7, .pointer (some ⟨gr1_7, 0, none⟩)), (16, .int .i64 (b.first + b.step * b.note)), (11, .agg #[.int .i64 0, .int .i64 0, .int .i64 b.t0, .int .i64 b.t1, .int .i64 b.r0, .int .i64 b.r1, .int .i64 b.u0, .int .i64 b.u1, .int .i64 b.d0, .int .i64 b.d1, .int .i64 b.a0, .int .i64 b.a1, .int .i64 b.b0, .int .i64 b.b1, .int .i64 b.le, .slice none 0 0, .int .i64 b.span, .int .i64 b.me]), (15, .int .i64 b.note), (14, .pointer (some ⟨g1, 4, none⟩)), (13, .agg #[.int .i64 b.first, .int .i64 b.step, .int .i64 b.span, .int .i64 b.press]), (12, .pointer (some ⟨g1, 0, none⟩)), (10, .agg #[.int .i64 b.first, .int .i64 b.step, .int .i64 b.span, .int .i64 b.press, .int .i64 b.note, .slice A b.lows.length c, .slice B b.highs.length d, .int .i64 b.t0, .int .i64 b.t1, .int .i64 b.r0, .int .i64 b.r1, .int .i64 b.u0, .int .i64 b.u1, .int .i64 b.d0, .int .i64 b.d1, .int .i64 b.a0, .int .i64 b.a1, .int .i64 b.b0, .int .i64 b.b1, .int .i64 b.le, .int .i64 b.me]), (6, .pointer (some ⟨g2, 0, none⟩)), (3, .pointer (some ⟨g1, 0, none⟩)), (1, .int .i64 i), (2, .int .i64 k)] ∧ Mem w noEx wc [(gr1_7, .cells [.int .i64 0, .int .i64 0, .int .i64 0, .int .i64 0, .int .i64 0, .int .i64 0, .int .i64 0, .int .i64 0, .int .i64 0, .int .i64 0, .int .i64 0, .int .i64 0, .int .i64 0, .int .i64 0, .int .i64 0, .slice none 0 0, .int .i64 0, .int .i64 0]), (g2, .cells [.int .i64 0, .int .i64 0, .int .i64 0, .int .i64 0, .int .i64 0, .int .i64 0, .int .i64 0, .int .i64 0, .int .i64 0, .int .i64 0, .int .i64 0, .int .i64 0, .int .i64 0, .int .i64 0, .int .i64 0, .slice none 0 0, .int .i64 0, .int .i64 0]), (g1, .cells [.int .i64 b.first, .int .i64 b.step, .int .i64 b.span, .int .i64 b.press, .int .i64 b.note, .slice A b.lows.length c, .slice B b.highs.length d, .int .i64 b.t0, .int .i64 b.t1, .int .i64 b.r0, .int .i64 b.r1, .int .i64 b.u0, .int .i64 b.u1, .int .i64 b.d0, .int .i64 b.d1, .int .i64 b.a0, .int .i64 b.a1, .int .i64 b.b0, .int .i64 b.b1, .int .i64 b.le, .int .i64 b.me])]) (Zpb 10 255) 2 ?_ ?_
 ·clear T M
  rintro ac wc ⟨gr1_7, T, M⟩
  refine gw 8 511 ?_; intro K hK
  refine Zos M T rfl rfl (T.e 0 rfl) (T.e 2 rfl) rfl .head rfl (by simp) rfl (by kernel_rfl) ?_; clear M T; intro wc ac M T
  refine Zso hK _ _ (M.mask [false, true, true] rfl) ?_; clear hK K
  refine gq T 9 1023 rfl (fun _ _ _ _ _ => (Zra rfl (T.e 1 rfl))) ?_; clear T ac; intro ac T
  refine Zgd (by kernel_rfl) ?_
  replace T := T.pick [0, 1, 9, 10, 11, 12] rfl
  refine nm_then ?_
  refine Zsr ?_
  refine Zg8 (v1 := (.pointer (some ⟨g1, 6, none⟩))) (v6 := (.agg #[.int .i64 y.t0, .int .i64 y.t1])) T (Zq (Zrf (off := 6) rfl (T.e 3 rfl) (fun _ _ _ => by kernel_rfl))) rfl (Zo M 2 0 rfl rfl rfl rfl) rfl (Zm 7 rfl rfl) rfl (fun _ T => Zq (Zri (size := 4) kl rfl (T.e 1 rfl) (T.e 0 rfl) ⟨_, Tryz.underlying24, by kernel_rfl⟩ hkl (by omega) (SB.at0 (by omega)))) rfl (Zf 0 0 rfl rfl) rfl (fun _ T => Zq (rn_rowat (Sp.scR02 SB M (Zz9 _) hky) rfl (T.e 0 rfl) rfl)) rfl (Zm 6 rfl rfl) rfl (Zm 7 rfl rfl) rfl ?_; clear T ac; intro ac T
  refine lq (v := (.agg #[.int .i64 (b.first + b.step * b.note), .int .i64 (b.first + b.step * b.note)])) T (rn_build rfl (.cons (T.e 1 rfl) (.cons (T.e 0 rfl) .nil)) (fun _ => by kernel_rfl)) ?_; clear T ac; intro ac T
  refine Zl2 ?_
  refine Zoc (first := []) (cap := []) T rfl rfl rfl rfl evf (.cons (T.e 3 rfl) (.cons (T.e 0 rfl) .nil)) Tryz.func131 rfl rfl ?_
  refine Calls.mono (vless_any y.t0 y.t1 (b.first + b.step * b.note) (b.first + b.step * b.note) _ (by omega) (by omega) (by omega) (by omega)) ?_
  clear T; rintro e wc ⟨rfl, hb⟩ ac T
  replace M := M.call hb; clear hb
  refine Zg2 (v1 := (.pointer (some ⟨gr1_7, 0, none⟩))) (v2 := (.pointer (some ⟨gr1_7, 0, none⟩))) T (Zq (Zrf (off := 0) rfl (T.e 11 rfl) (fun _ _ _ => by kernel_rfl))) rfl (Zf 0 0 rfl rfl) rfl ?_; clear T ac; intro ac T
  refine Zl2 ?_
  refine Zos M T rfl rfl (T.e 0 rfl) (T.e 2 rfl) rfl .head rfl (by simp) rfl (by kernel_rfl) ?_; clear M T; intro wc ac M T
  replace T := T.pick [13, 14, 15, 16, 17] rfl
  refine Zln ?_
  refine wp_seq ?_
  refine Zsr ?_
  refine Zg5 (v1 := (.pointer (some ⟨g1, 0, none⟩))) (v2 := (.pointer (some ⟨g1, 3, none⟩))) T (Zq (Zrf (off := 0) rfl (T.e 2 rfl) (fun _ _ _ => by kernel_rfl))) rfl (Zf 3 0 rfl rfl) rfl (Zo M 2 0 rfl rfl rfl rfl) rfl (fun _ T => Zq (rn_add rfl (T.e 0 rfl) evc (by omega))) rfl (fun _ T => Zq (Zrm rfl evc)) rfl ?_; clear T ac; intro ac T
  replace T := T.pick [0, 1, 5, 6, 7, 8, 9] rfl
  refine Zln ?_
  refine wp_block ?_
  refine wp_loop_n (fun mz ac wc => ∃ (q : Nat) (A3 : Option Addr) (c3 : Nat) (Io : List (Nat × BA)), mz = (b.press + 1 - q).toNat ∧ ((q : Int) ≤ b.press + 1) ∧ (((shL b x y).take q).length ≤ 4) ∧ (Sl 26 2 (.slice A3 ((shL b x y).take q).length c3) ((shL b x y).take q).length (rc ((shL b x y).take q)) Io) ∧ Tm ac 55 [(1, .int .i64 i), (2, .int .i64 k), (3, .pointer (some ⟨g1, 0, none⟩)), (6, .pointer (some ⟨g2, 0, none⟩)), (7, .pointer (some ⟨gr1_7, 0, none⟩)), (32, .int .i64 (b.press + 1)), (33, .int .i64 (q : Int))] ∧ Mem w noEx wc ((gr1_7, .cells [.int .i64 (y.t0 - (b.first + b.step * b.note)), .int .i64 (y.t1 - (b.first + b.step * b.note)), .int .i64 b.t0, .int .i64 b.t1, .int .i64 b.r0, .int .i64 b.r1, .int .i64 b.u0, .int .i64 b.u1, .int .i64 b.d0, .int .i64 b.d1, .int .i64 b.a0, .int .i64 b.a1, .int .i64 b.b0, .int .i64 b.b1, .int .i64 b.le, .slice A3 (((shL b x y).take q).length) c3, .int .i64 b.span, .int .i64 b.me]) :: (g2, .cells [.int .i64 0, .int .i64 0, .int .i64 0, .int .i64 0, .int .i64 0, .int .i64 0, .int .i64 0, .int .i64 0, .int .i64 0, .int .i64 0, .int .i64 0, .int .i64 0, .int .i64 0, .int .i64 0, .int .i64 0, .slice none 0 0, .int .i64 0, .int .i64 0]) :: (g1, .cells [.int .i64 b.first, .int .i64 b.step, .int .i64 b.span, .int .i64 b.press, .int .i64 b.note, .slice A b.lows.length c, .slice B b.highs.length d, .int .i64 b.t0, .int .i64 b.t1, .int .i64 b.r0, .int .i64 b.r1, .int .i64 b.u0, .int .i64 b.u1, .int .i64 b.d0, .int .i64 b.d1, .int .i64 b.a0, .int .i64 b.a1, .int .i64 b.b0, .int .i64 b.b1, .int .i64 b.le, .int .i64 b.me]) :: Io)) ?_ ?_
  ·exact ⟨_, 0, none, 0, [], rfl, (by omega), (by simp), (Sl.nil _ _), T.pick [5, 6, 4, 3, 2, 1, 0] rfl, M.mask [true, true, true] rfl⟩
  clear T M
  rintro mz ac wc ⟨q, A3, c3, Io, hmm1, hq, hlq, hsl, T, M⟩
  refine Zsr ?_
  refine lq T (rn_lss rfl (T.e 6 rfl) (T.e 5 rfl)) ?_; clear T ac; intro ac T
  refine Zln ?_
  refine wp_seq ?_
  refine wp_if (T.e 0 rfl) ?_ ?_
  ·intro h1
   refine Zsk ?_
   refine wp_seq ?_
   refine wp_block ?_
   refine Zsr ?_
   refine Zg2 T (Zq (Zrm rfl (T.e 7 rfl))) rfl (Za 0 rfl rfl) rfl ?_; clear T ac; intro ac T
   replace T := T.pick [0, 3, 4, 5, 6, 7, 8, 9] rfl
   refine Zln ?_
   refine Zgs M (M.perm [1, 2] rfl rfl) 18 (by kernel_rfl) rfl (by kernel_rfl) ?_
   clear M; intro wc M
   refine g_addG 17 (M.perm [0, 1, 2] rfl rfl) ?_
   refine gq (v := (.pointer (some ⟨gr1_7, 15, none⟩))) T 0 1 rfl (fun _ _ _ _ _ => (Zrf (off := 15) rfl (T.e 5 rfl) (fun _ _ _ => by kernel_rfl))) ?_; clear T ac; intro ac T
   refine gq T 1 3 rfl (fun B w' hD hl hS => (Zro (Mem.nth (show Mem w noEx w' _ from ((MA.lft hS) (hD.wait (i := 1) (m := 17) (by kernel_rfl) hl))) 0 rfl) rfl (T.e 0 rfl) rfl)) ?_; clear T ac; intro ac T
   refine gq (v := (.pointer (some ⟨g1, 5, none⟩))) T 2 7 rfl (fun _ _ _ _ _ => (Zrf (off := 5) rfl (T.e 5 rfl) (fun _ _ _ => by kernel_rfl))) ?_; clear T ac; intro ac T
   refine gq T 3 15 rfl (fun B w' hD hl hS => (Zro (Mem.nth (show Mem w noEx w' _ from ((MA.lft hS) (hD.wait (i := 3) (m := 17) (by kernel_rfl) hl))) 2 rfl) rfl (T.e 0 rfl) rfl)) ?_; clear T ac; intro ac T
   refine gq T 4 31 rfl (fun _ _ _ _ _ => (Zrm rfl (T.e 5 rfl))) ?_; clear T ac; intro ac T
   refine gq T 5 63 rfl (fun _ _ _ _ _ => (Zri (size := 4) il rfl (T.e 1 rfl) (T.e 0 rfl) ⟨_, Tryz.underlying24, by kernel_rfl⟩ hil (by omega) (SA.at0 (by omega)))) ?_; clear T ac; intro ac T
   refine gq (v := (.agg #[.int .i64 x.t0, .int .i64 x.t1, .int .i64 x.s0, .int .i64 x.s1])) T 6 127 rfl (fun B w' hD hl hS => (rn_rowat (Sp.scR4 SA (show Mem w noEx w' _ from ((MA.lft hS) (hD.wait (i := 6) (m := 17) (by kernel_rfl) hl))) (Zz9 _) hkx) rfl (T.e 0 rfl) rfl)) ?_; clear T ac; intro ac T
   refine gq (v := (.pointer (some ⟨g1, 6, none⟩))) T 7 255 rfl (fun _ _ _ _ _ => (Zrf (off := 6) rfl (T.e 10 rfl) (fun _ _ _ => by kernel_rfl))) ?_; clear T ac; intro ac T
   refine gq T 8 511 rfl (fun B w' hD hl hS => (Zro (Mem.nth (show Mem w noEx w' _ from ((MA.lft hS) (hD.wait (i := 8) (m := 17) (by kernel_rfl) hl))) 2 rfl) rfl (T.e 0 rfl) rfl)) ?_; clear T ac; intro ac T
   refine gq T 9 1023 rfl (fun _ _ _ _ _ => (Zrm rfl (T.e 11 rfl))) ?_; clear T ac; intro ac T
   refine gq T 10 2047 rfl (fun _ _ _ _ _ => (Zri (size := 4) kl rfl (T.e 1 rfl) (T.e 0 rfl) ⟨_, Tryz.underlying24, by kernel_rfl⟩ hkl (by omega) (SB.at0 (by omega)))) ?_; clear T ac; intro ac T
   refine gq (v := (.agg #[.int .i64 y.t0, .int .i64 y.t1, .int .i64 y.s0, .int .i64 y.s1])) T 11 4095 rfl (fun B w' hD hl hS => (rn_rowat (Sp.scR4 SB (show Mem w noEx w' _ from ((MA.lft hS) (hD.wait (i := 11) (m := 17) (by kernel_rfl) hl))) (Zz9 _) hky) rfl (T.e 0 rfl) rfl)) ?_; clear T ac; intro ac T
   refine gq T 12 8191 rfl (fun _ _ _ _ _ => (Zrm rfl (T.e 12 rfl))) ?_; clear T ac; intro ac T
   refine gw 13 16383 ?_; intro K hK
   refine Zoc (first := []) (cap := []) T rfl rfl rfl rfl evf (.cons (T.e 6 rfl) (.cons (T.e 1 rfl) (.cons (T.e 0 rfl) .nil))) Tryz.func112 rfl rfl ?_
   refine Calls.mono (rise_any x y (q : Int) _ gx gy (by (try dsimp only); omega)) ?_
   clear T; rintro e wc ⟨rfl, hb⟩ ac T
   replace M := M.call hb; clear hb
   refine Zso hK _ _ (MA.mk (fun _ => M.perm [0, 1, 2] rfl rfl) (M.perm [1, 2] rfl rfl)) ?_; clear hK K
   refine gw 14 32767 ?_; intro K hK
   refine ow_bs (e := 26) [.int .i64 ((riseP x y (q : Int)).1), .int .i64 ((riseP x y (q : Int)).2)] M T rfl rfl rfl rfl (.cons (T.e 0 rfl) .nil) (fun _ => by kernel_rfl) ?_; clear M T; intro g3 wc ac M T
   refine Zso hK _ _ (MA.mk (fun _ => M.perm [1, 2, 3] rfl rfl) (M.perm [2, 3] rfl rfl)) ?_; clear hK K
   refine gw 15 65535 ?_; intro K hK
   refine ow_app ([(g3, .cells [.int .i64 ((riseP x y (q : Int)).1), .int .i64 ((riseP x y (q : Int)).2)]), (gr1_7, .cells [.int .i64 (y.t0 - (b.first + b.step * b.note)), .int .i64 (y.t1 - (b.first + b.step * b.note)), .int .i64 b.t0, .int .i64 b.t1, .int .i64 b.r0, .int .i64 b.r1, .int .i64 b.u0, .int .i64 b.u1, .int .i64 b.d0, .int .i64 b.d1, .int .i64 b.a0, .int .i64 b.a1, .int .i64 b.b0, .int .i64 b.b1, .int .i64 b.le, .slice A3 (((shL b x y).take q).length) c3, .int .i64 b.span, .int .i64 b.me]), (g2, .cells [.int .i64 0, .int .i64 0, .int .i64 0, .int .i64 0, .int .i64 0, .int .i64 0, .int .i64 0, .int .i64 0, .int .i64 0, .int .i64 0, .int .i64 0, .int .i64 0, .int .i64 0, .int .i64 0, .int .i64 0, .slice none 0 0, .int .i64 0, .int .i64 0]), (g1, .cells [.int .i64 b.first, .int .i64 b.step, .int .i64 b.span, .int .i64 b.press, .int .i64 b.note, .slice A b.lows.length c, .slice B b.highs.length d, .int .i64 b.t0, .int .i64 b.t1, .int .i64 b.r0, .int .i64 b.r1, .int .i64 b.u0, .int .i64 b.u1, .int .i64 b.d0, .int .i64 b.d1, .int .i64 b.a0, .int .i64 b.a1, .int .i64 b.b0, .int .i64 b.b1, .int .i64 b.le, .int .i64 b.me])]) Tryz.info26 hsl M (by first | rfl | simp) T rfl rfl rfl rfl Tryz.underlying51 rfl rfl rfl (by omega) (T.e 13 rfl) (T.e 0 rfl) (Zne (i := 0) rfl) rfl rfl ?_; clear M T; intro ga1 cga1 wc ac M T
   refine Zso hK _ _ (MA.mk (fun _ => M.mask [false, false, true, true, true] rfl) (M.mask [false, false, false, true, true] rfl)) ?_; clear hK K
   refine gq (v := (.pointer (some ⟨gr1_7, 15, none⟩))) T 16 131071 rfl (fun _ _ _ _ _ => (Zrf (off := 15) rfl (T.e 21 rfl) (fun _ _ _ => by kernel_rfl))) ?_; clear T ac; intro ac T
   refine gw 17 262143 ?_; intro K hK
   refine Zos M T rfl rfl (T.e 0 rfl) (T.e 1 rfl) rfl (.tail (.tail .head)) rfl (by simp) rfl (by kernel_rfl) ?_; clear M T; intro wc ac M T
   refine Zso hK _ _ (MA.mk (fun h => (no_of (by kernel_rfl) h).elim) (M.mask [false, false, false, true, true] rfl)) ?_; clear hK K
   refine Zgd (by kernel_rfl) ?_
   replace T := T.pick [18, 19, 20, 21, 22, 23, 24] rfl
   replace M := M.mask [true, false, true, true, true] rfl
   refine Znb ?_
   refine nm_then ?_
   refine wp_region_lit ?_
   refine lq T (rn_add rfl (T.e 6 rfl) evc (by omega)) ?_; clear T ac; intro ac T
   refine l_q (v := (.int .i64 ((q : Int) + 1))) (T.pick [0, 1, 2, 3, 4, 5, 6] rfl) rfl rfl rfl rfl (Zrm rfl (T.e 0 rfl)) ?_; clear T ac; intro ac T
   replace T := T.pick [0, 2, 3, 4, 5, 6, 7] rfl
   refine Zln ?_
   have e9 : ((shL b x y).take q).length + 1 = ((shL b x y).take (q + 1)).length := by rw [shL_take (by omega), List.length_append]; rfl
   have e8 : ((rc ((shL b x y).take q)) ++ [.int .i64 ((riseP x y (q : Int)).1), .int .i64 ((riseP x y (q : Int)).2)]) = rc ((shL b x y).take (q + 1)) := by rw [shL_take (by omega), ← rc_snoc]
   rw [e9, e8] at M
   clear e9 e8
   exact ⟨_, by omega, q + 1, _, _, [(ga1, .row 26 2 ((shL b x y).take (q + 1)).length (rc ((shL b x y).take (q + 1))) cga1)], rfl, (by omega), (by rw [List.length_take, shL_length]; omega), (Sl.row _ _ _ _ _ _), T.pick [1, 2, 3, 4, 5, 6, 0] rfl, M.perm [1, 2, 3, 0] rfl rfl⟩
  intro h1
  have e9 : (shL b x y).take q = shL b x y := List.take_of_length_le (by rw [shL_length]; omega)
  rw [e9] at hsl M
  refine wp_exit ?_
  refine Zet ?_
  refine Zet ?_
  refine ex_hit ?_
  refine nm_then ?_
  refine Zsr ?_
  refine lq T (Zrr (Mem.nth M 0 rfl) rfl (T.e 5 rfl) rfl) ?_; clear T ac; intro ac T
  refine Zl2 ?_
  refine Zos M T rfl rfl (T.e 5 rfl) (T.e 0 rfl) rfl (.tail .head) rfl (by simp) rfl (by kernel_rfl) ?_; clear M T; intro wc ac M T
  refine wpList_nil ?_
  replace T := T.pick [5] rfl
  replace M := M.mask [false, true, false] rfl
  refine Znr ?_
  refine rt_c M T rfl (T.e 0 rfl) (Zne (i := 0) rfl) rfl ?_
  obtain ⟨b9, o9, h9⟩ := hsl.spV (rc_length _)
  exact ⟨A3, c3, Io, rfl, ⟨b9, o9, h9⟩, M.mask [false] rfl⟩
 intro H1
 refine g_have (fun ac wc => ∃ (gr1_7 : Nat), Tm ac 55 [(7, .pointer (some ⟨gr1_7, 0, none⟩)), (11, .agg #[.int .i64 0, .int .i64 0, .int .i64 b.t0, .int .i64 b.t1, .int .i64 b.r0, .int .i64 b.r1, .int .i64 b.u0, .int .i64 b.u1, .int .i64 b.d0, .int .i64 b.d1, .int .i64 b.a0, .int .i64 b.a1, .int .i64 b.b0, .int .i64 b.b1, .int .i64 b.le, .slice none 0 0, .int .i64 b.span, .int .i64 b.me]), (15, .int .i64 b.note), (14, .pointer (some ⟨g1, 4, none⟩)), (13, .agg #[.int .i64 b.first, .int .i64 b.step, .int .i64 b.span, .int .i64 b.press]), (12, .pointer (some ⟨g1, 0, none⟩)), (10, .agg #[.int .i64 b.first, .int .i64 b.step, .int .i64 b.span, .int .i64 b.press, .int .i64 b.note, .slice A b.lows.length c, .slice B b.highs.length d, .int .i64 b.t0, .int .i64 b.t1, .int .i64 b.r0, .int .i64 b.r1, .int .i64 b.u0, .int .i64 b.u1, .int .i64 b.d0, .int .i64 b.d1, .int .i64 b.a0, .int .i64 b.a1, .int .i64 b.b0, .int .i64 b.b1, .int .i64 b.le, .int .i64 b.me]), (6, .pointer (some ⟨g2, 0, none⟩)), (3, .pointer (some ⟨g1, 0, none⟩)), (1, .int .i64 i), (2, .int .i64 k)] ∧ Mem w noEx wc [(gr1_7, .cells [.int .i64 0, .int .i64 0, .int .i64 0, .int .i64 0, .int .i64 0, .int .i64 0, .int .i64 0, .int .i64 0, .int .i64 0, .int .i64 0, .int .i64 0, .int .i64 0, .int .i64 0, .int .i64 0, .int .i64 0, .slice none 0 0, .int .i64 0, .int .i64 0]), (g2, .cells [.int .i64 0, .int .i64 0, .int .i64 0, .int .i64 0, .int .i64 0, .int .i64 0, .int .i64 0, .int .i64 0, .int .i64 0, .int .i64 0, .int .i64 0, .int .i64 0, .int .i64 0, .int .i64 0, .int .i64 0, .slice none 0 0, .int .i64 0, .int .i64 0]), (g1, .cells [.int .i64 b.first, .int .i64 b.step, .int .i64 b.span, .int .i64 b.press, .int .i64 b.note, .slice A b.lows.length c, .slice B b.highs.length d, .int .i64 b.t0, .int .i64 b.t1, .int .i64 b.r0, .int .i64 b.r1, .int .i64 b.u0, .int .i64 b.u1, .int .i64 b.d0, .int .i64 b.d1, .int .i64 b.a0, .int .i64 b.a1, .int .i64 b.b0, .int .i64 b.b1, .int .i64 b.le, .int .i64 b.me])]) (Zpb 10 191) 3 ?_ ?_
 ·clear T M
  rintro ac wc ⟨gr1_7, T, M⟩
  refine gw 6 255 ?_; intro K hK
  refine Zoc (first := []) (cap := []) T rfl rfl rfl rfl evf (.cons (T.e 4 rfl) (.cons (T.e 2 rfl) .nil)) Tryz.func71 rfl rfl ?_
  refine Calls.mono (vdue_any b.law b.note _ (by (try dsimp only); omega) (by (try dsimp only); omega) (by (try dsimp only); omega)) ?_
  clear T; rintro e wc ⟨rfl, hb⟩ ac T
  replace M := M.call hb; clear hb
  refine Zso hK _ _ (M.mask [false, true, true] rfl) ?_; clear hK K
  exact H1 _ _ ⟨gr1_7, T.pick [1, 0, 2, 3, 4, 5, 6, 7, 8, 9, 10, 11] rfl, M⟩
 intro H0
 refine gq T 0 1 rfl (fun B w' hD hl hS => (Zrr (Mem.nth (show Mem w noEx w' _ from hS) 1 rfl) rfl (T.e 1 rfl) rfl)) ?_; clear T ac; intro ac T
 refine gq (v := (.pointer (some ⟨g1, 0, none⟩))) T 2 5 rfl (fun _ _ _ _ _ => (Zrf (off := 0) rfl (T.e 2 rfl) (fun _ _ _ => by kernel_rfl))) ?_; clear T ac; intro ac T
 refine gq T 3 13 rfl (fun B w' hD hl hS => (Zrr (Mem.nth (show Mem w noEx w' _ from hS) 1 rfl) rfl (T.e 0 rfl) rfl)) ?_; clear T ac; intro ac T
 refine gq (v := (.pointer (some ⟨g1, 4, none⟩))) T 4 29 rfl (fun _ _ _ _ _ => (Zrf (off := 4) rfl (T.e 4 rfl) (fun _ _ _ => by kernel_rfl))) ?_; clear T ac; intro ac T
 refine gq T 5 61 rfl (fun B w' hD hl hS => (Zro (Mem.nth (show Mem w noEx w' _ from hS) 1 rfl) rfl (T.e 0 rfl) rfl)) ?_; clear T ac; intro ac T
 refine g_m2 (i := 1) (j := 7) (by kernel_rfl) ?_ ?_
 ·refine gi 63 ?_; intro K hK
  refine Zoc (first := []) (cap := []) T rfl rfl rfl rfl evf (.cons (T.e 4 rfl) .nil) Tryz.func84 rfl rfl ?_
  refine Calls.mono (blank_any b A c B d _) ?_
  clear T; rintro e wc ⟨rfl, hb⟩ ac T
  replace M := M.call hb; clear hb
  refine Zso hK _ _ (M.mask [true, true] rfl) ?_; clear hK K
  refine g_m2 (i := 6) (j := 7) (by kernel_rfl) ?_ ?_
  ·refine gi 127 ?_; intro K hK
   refine Zoc (first := []) (cap := []) T rfl rfl rfl rfl evf (.cons (T.e 3 rfl) (.cons (T.e 1 rfl) .nil)) Tryz.func71 rfl rfl ?_
   refine Calls.mono (vdue_any b.law b.note _ (by (try dsimp only); omega) (by (try dsimp only); omega) (by (try dsimp only); omega)) ?_
   clear T; rintro e wc ⟨rfl, hb⟩ ac T
   replace M := M.call hb; clear hb
   refine Zso hK _ _ (M.mask [true, true] rfl) ?_; clear hK K
   refine gw 7 255 ?_; intro K hK
   refine Zoa M T rfl rfl rfl rfl ?_; clear M T; intro gr1_7 wc ac M T
   refine Zso hK _ _ (M.mask [false, true, true] rfl) ?_; clear hK K
   exact H1 _ _ ⟨gr1_7, T, M⟩
  refine gi 191 ?_; intro K hK
  refine Zoa M T rfl rfl rfl rfl ?_; clear M T; intro gr1_7 wc ac M T
  refine Zso hK _ _ (M.mask [false, true, true] rfl) ?_; clear hK K
  exact H0 _ _ ⟨gr1_7, T, M⟩
 refine gi 189 ?_; intro K hK
 refine Zoa M T rfl rfl rfl rfl ?_; clear M T; intro gr1_7 wc ac M T
 refine Zso hK _ _ (M.mask [false, true, true] rfl) ?_; clear hK K
 refine gw 1 191 ?_; intro K hK
 refine Zoc (first := []) (cap := []) T rfl rfl rfl rfl evf (.cons (T.e 5 rfl) .nil) Tryz.func84 rfl rfl ?_
 refine Calls.mono (blank_any b A c B d _) ?_
 clear T; rintro e wc ⟨rfl, hb⟩ ac T
 replace M := M.call hb; clear hb
 refine Zso hK _ _ (M.mask [false, true, true] rfl) ?_; clear hK K
 exact H0 _ _ ⟨gr1_7, T.pick [1, 0, 2, 3, 4, 5, 6, 7, 8, 9, 10] rfl, M⟩
theorem VStrokes_any (b : Bx) (A : Option Addr) (c : Nat) (B : Option Addr) (d : Nat) (i k : Int) (w : World) (hA : Rd w w.heap.size 4 A b.lows.length (sc b.lows)) (hB : Rd w w.heap.size 4 B b.highs.length (sc b.highs)) (nA : b.lows.length ≤ 1000000) (nB : b.highs.length ≤ 1000000)  :
   Calls Tryz.prog 48 #[bxV b A c B d, .int .i64 i, .int .i64 k] w fun e w' => e = .returned (.tuple #[.int .i64 ((strokesE b i k).1), .int .i64 ((strokesE b i k).2)]) ∧ Below w.heap.size w w' := by
 have hlA := hA.len4
 have hlB := hB.len4
 obtain ⟨bA, oA, SA⟩ := Sp.old hA
 obtain ⟨bB, oB, SB⟩ := Sp.old hB
 refine Zpx noEx Tryz.func48 rfl 23 rfl [.agg #[.int .i64 b.first, .int .i64 b.step, .int .i64 b.span, .int .i64 b.press, .int .i64 b.note, .slice A b.lows.length c, .slice B b.highs.length d, .int .i64 b.t0, .int .i64 b.t1, .int .i64 b.r0, .int .i64 b.r1, .int .i64 b.u0, .int .i64 b.u1, .int .i64 b.d0, .int .i64 b.d1, .int .i64 b.a0, .int .i64 b.a1, .int .i64 b.b0, .int .i64 b.b1, .int .i64 b.le, .int .i64 b.me], .int .i64 i, .int .i64 k] rfl rfl (Mem.init w _) ?_
 intro ac wc T M
 refine Zsr ?_
 refine Zl2 ?_
 refine Zob M T rfl rfl rfl rfl (T.e 0 rfl) rfl ?_; clear M T; intro g1 wc ac M T
 refine Zg2 T (Zq (Zra rfl evc)) rfl (Zc rfl) rfl ?_; clear T ac; intro ac T
 replace T := T.pick [2, 4, 5] rfl
 refine Zln ?_
 refine wp_seq ?_
 refine Zsr ?_
 refine Zg3 T (Zq (Zrr (Mem.nth M 0 rfl) rfl (T.e 0 rfl) rfl)) rfl (Zm 2 rfl rfl) rfl (Zm 4 rfl rfl) rfl ?_; clear T ac; intro ac T
 refine Zl2 ?_
 refine Zoc (first := []) (cap := []) T rfl rfl rfl rfl evf (.cons (T.e 2 rfl) (.cons (T.e 1 rfl) (.cons (T.e 0 rfl) .nil))) Tryz.func76 rfl rfl ?_
 refine Calls.mono (vcheckPair_any b _ _ _ _ i k _ (SA.rd M (Zz9 _)) (SB.rd M (Zz9 _)) (by omega) (by omega)) ?_
 clear T; rintro e wc ⟨rfl, hb⟩ ac T
 replace M := M.call hb; clear hb
 refine lq T (Zra rfl (T.e 0 rfl)) ?_; clear T ac; intro ac T
 replace T := T.pick [0, 5, 6, 7] rfl
 refine Zln ?_
 refine Zsr ?_
 refine Zg2 T (Zq (Zrm rfl (T.e 0 rfl))) rfl (fun _ T => Zq (rn_neq rfl (T.e 0 rfl) evc)) rfl ?_; clear T ac; intro ac T
 replace T := T.pick [0, 2, 3, 4, 5] rfl
 refine Zln ?_
 refine wp_ifn (T.e 0 rfl) ?_ ?_
 ·intro h1
  refine Zsr ?_
  refine Zg3 T (Zq (Zrm rfl (T.e 1 rfl))) rfl (Zc rfl) rfl (Za 1 rfl rfl) rfl ?_; clear T ac; intro ac T
  refine wpList_nil ?_
  replace T := T.pick [0, 1] rfl
  replace M := M.mask [false] rfl
  refine Znr ?_
  refine Zrt ?_
  refine rt_2 T rfl (T.e 1 rfl) (T.e 0 rfl) ?_
  have e9 : strokesE b i k = (0, checkPB b i k) := by unfold strokesE; rw [if_neg (by assumption)]
  rw [e9]
  exact ⟨rfl, M.below⟩
 intro h1
 obtain ⟨gb, ⟨i0, i1⟩, k0, k1⟩ := checkPB_good (b := b) (i := i) (k := k) (by simpa using h1)
 obtain ⟨il, hil⟩ : ∃ q : Nat, i = (q : Int) := ⟨i.toNat, by omega⟩
 obtain ⟨kl, hkl⟩ : ∃ q : Nat, k = (q : Int) := ⟨k.toNat, by omega⟩
 obtain ⟨x, hx9⟩ : ∃ q, q = b.low i := ⟨_, rfl⟩
 obtain ⟨y, hy9⟩ : ∃ q, q = b.high k := ⟨_, rfl⟩
 have hkx : b.lows[il]? = some x := by rw [hx9, ← Bx.low_get ⟨i0, i1⟩, hil]; rfl
 have hky : b.highs[kl]? = some y := by rw [hy9, ← Bx.high_get ⟨k0, k1⟩, hkl]; rfl
 refine Zsk ?_
 refine Zsr ?_
 refine Zg3 T (Zq (Zrr (Mem.nth M 0 rfl) rfl (T.e 2 rfl) rfl)) rfl (Zm 4 rfl rfl) rfl (Zm 6 rfl rfl) rfl ?_; clear T ac; intro ac T
 refine Zl2 ?_
 refine Zoc (first := []) (cap := []) T rfl rfl rfl rfl evf (.cons (T.e 2 rfl) (.cons (T.e 1 rfl) (.cons (T.e 0 rfl) .nil))) Tryz.func100 rfl rfl ?_
 refine Calls.mono (vjob_any b A c B d i k il kl x y _ (SA.rd M (Zz9 _)) (SB.rd M (Zz9 _)) gb hil hkl hkx hky) ?_
 clear T; rintro e wc ⟨Au2, cu2, Iu2, rfl, SVu2, N⟩ ac T
 obtain ⟨bu2, ou2, SVu2⟩ := SVu2
 obtain ⟨jqu2, hjqu2⟩ : ∃ q, q = jobP b x y := ⟨_, rfl⟩
 rw [← hjqu2] at SVu2
 have Su2 := SVu2 w noEx
 have nqu2 : jqu2.sh.length ≤ 4 := by rw [hjqu2]; show (shL b x y).length ≤ 4; rw [shL_length]; have := gb.law.press; dsimp only at this; omega
 replace M := (M.join N).swapI
 replace M : Mem w noEx wc ((g1, .cells [.int .i64 b.first, .int .i64 b.step, .int .i64 b.span, .int .i64 b.press, .int .i64 b.note, .slice A b.lows.length c, .slice B b.highs.length d, .int .i64 b.t0, .int .i64 b.t1, .int .i64 b.r0, .int .i64 b.r1, .int .i64 b.u0, .int .i64 b.u1, .int .i64 b.d0, .int .i64 b.d1, .int .i64 b.a0, .int .i64 b.a1, .int .i64 b.b0, .int .i64 b.b1, .int .i64 b.le, .int .i64 b.me]) :: Iu2) := M
 clear N
 rw [← hjqu2] at T
 refine Zl2 ?_
 refine Zoc (first := []) (cap := []) T rfl rfl rfl rfl evf (.cons (T.e 0 rfl) .nil) Tryz.func99 rfl rfl ?_
 refine Calls.mono (Guided_any jqu2 _ _ _ (Su2.rd M (.cons _ (List.Sublist.refl _))) (by omega)) ?_
 clear T; rintro e wc ⟨rfl, hb⟩ ac T
 replace M := M.call hb; clear hb
 refine Zg4 T (Zq (Zre rfl (T.e 0 rfl) rfl)) rfl (Ze 1 rfl rfl rfl) rfl (Za 1 rfl rfl) rfl (Za 1 rfl rfl) rfl ?_; clear T ac; intro ac T
 refine wpList_nil ?_
 replace T := T.pick [0, 1] rfl
 replace M := M.mask [false] rfl
 refine Znr ?_
 refine rt_2 T rfl (T.e 1 rfl) (T.e 0 rfl) ?_
 have e9 : strokesE b i k = guidedJ jqu2 := by unfold strokesE; rw [if_pos (by simpa using h1), ← hx9, ← hy9]; rw [hjqu2]
 rw [e9]
 exact ⟨rfl, M.below⟩
def lawX : Lw := ⟨20, -2, 4, 2⟩
def lowsX : List Snd := [⟨-1, 1, 0, 0⟩, ⟨5, 5, 1, 1⟩]
def boxX (hs : List Snd) : Bx := { first := 20, step := -2, span := 4, press := 2, note := 3, lows := lowsX, highs := hs, t0 := 30, t1 := 32, r0 := 40, r1 := 41, u0 := 3, u1 := 4, d0 := 2, d1 := 3, a0 := 1, a1 := 2, b0 := 1, b1 := 1, le := 20, me := 1 }
def fullH : List Snd := [⟨14, 15, 0, 1⟩, ⟨20, 20, 0, 0⟩, ⟨30, 30, 0, 0⟩]
def lessH : List Snd := [⟨14, 15, 0, 1⟩, ⟨30, 30, 0, 0⟩]
def fullX : Bx := boxX fullH
def lessX : Bx := boxX lessH
def rowsX : List (List Snd) := [[⟨-1, 1, 0, 0⟩, ⟨0, 0, 0, 0⟩], [⟨20, 20, 0, 0⟩, ⟨13, 15, 0, 0⟩], [⟨30, 30, 0, 0⟩, ⟨30, 30, 0, 0⟩]]
def BoxPost (b : Bx) (w : World) (e : Ending) (w' : World) : Prop := ∃ A c B d I, e = .returned (bxV b A c B d) ∧ (∃ b1 o1, ∀ (w : World) (ex : Nat → Prop), Sp w ex I A b.lows.length 4 b1 o1 (sc b.lows)) ∧ (∃ b1 o1, ∀ (w : World) (ex : Nat → Prop), Sp w ex I B b.highs.length 4 b1 o1 (sc b.highs)) ∧ Mem w noEx w' I
theorem sameInts_eq (A B : Option Addr) (n m c d : Nat) (l : List Int) (w : World) (ha : Rd w w.heap.size 1 A n (ic l)) (hb : Rd w w.heap.size 1 B m (ic l)) (hn : n ≤ 9223372036854775807) (hm : m ≤ 9223372036854775807) :
  Calls Tryz.prog 16 #[.slice A n c, .slice B m d] w fun e w' => e = .returned (.bool true) ∧ Below w.heap.size w w' := by
 have := sameInts_any A B n m c d l l w ha hb hn hm
 simpa using this
theorem x_beat : beatE fullX 1 0 = [(9, 10), (8, 10), (7, 10)] ∧ checkPB fullX 1 0 = 0 := by decide +kernel
theorem x_match : matchE lessX = ([0, -1], 0) := by decide +kernel
theorem x_strokes : strokesE fullX 0 1 = (2, 0) := by decide +kernel
theorem x_trem : tremE lawX rowsX [0, 1] = ([1, 3], 0) := by decide +kernel
theorem x_short : shortE lessX = ([1], 0) := by decide +kernel
theorem to5_any (p0 p1 : Int) (w : World)  :
  Calls Tryz.prog 50 #[.int .i64 p0, .int .i64 p1] w fun e w' => e = .returned (.agg #[.int .i64 p0, .int .i64 p1]) ∧ Below w.heap.size w w' := by
 refine Zpx noEx Tryz.func50 rfl 8 rfl [.int .i64 p0, .int .i64 p1] rfl rfl (Mem.init w _) ?_
 intro ac wc T M
 refine Zsr ?_
 refine Zl2 ?_
 refine Zoa M T rfl rfl rfl rfl ?_; clear M T; intro g1 wc ac M T
 refine Zln ?_
 refine Zsr ?_
 refine Zg3 (v3 := (.agg #[.int .i64 p0, .int .i64 p1])) T (Zq (Zrm rfl (T.e 1 rfl))) rfl (Zm 3 rfl rfl) rfl (fun _ T => Zq (rn_build rfl (.cons (T.e 1 rfl) (.cons (T.e 0 rfl) .nil)) (fun _ => by kernel_rfl))) rfl ?_; clear T ac; intro ac T
 refine Zl2 ?_
 refine Zos M T rfl rfl (T.e 3 rfl) (T.e 0 rfl) rfl .head rfl (by simp) rfl (by kernel_rfl) ?_; clear M T; intro wc ac M T
 replace T := T.pick [3] rfl
 refine Zln ?_
 refine wp_ret ?_
 refine rt_c M T rfl (T.e 0 rfl) (Zne (i := 0) rfl) rfl ?_
 exact ⟨rfl, M.below⟩
theorem sound5_any (p0 p1 q0 q1 : Int) (w : World)  :
  Calls Tryz.prog 98 #[.agg #[.int .i64 p0, .int .i64 p1], .agg #[.int .i64 q0, .int .i64 q1]] w fun e w' => e = .returned (.agg #[.int .i64 p0, .int .i64 p1, .int .i64 q0, .int .i64 q1]) ∧ Below w.heap.size w w' := by
 refine Zpx noEx Tryz.func98 rfl 8 rfl [.agg #[.int .i64 p0, .int .i64 p1], .agg #[.int .i64 q0, .int .i64 q1]] rfl rfl (Mem.init w _) ?_
 intro ac wc T M
 refine Zsr ?_
 refine Zl2 ?_
 refine Zob M T rfl rfl rfl rfl (T.e 0 rfl) rfl ?_; clear M T; intro g1 wc ac M T
 refine Zl2 ?_
 refine Zob M T rfl rfl rfl rfl (T.e 2 rfl) rfl ?_; clear M T; intro g2 wc ac M T
 refine Zl2 ?_
 refine Zoa M T rfl rfl rfl rfl ?_; clear M T; intro g3 wc ac M T
 replace T := T.pick [0, 1, 2] rfl
 refine Zln ?_
 refine Zsr ?_
 refine Zg3 (v3 := (.agg #[.int .i64 p0, .int .i64 p1, .int .i64 q0, .int .i64 q1])) T (Zq (Zrr (Mem.nth M 2 rfl) rfl (T.e 2 rfl) rfl)) rfl (Zr M 1 2 rfl rfl rfl rfl) rfl (fun _ T => Zq (rn_build rfl (.cons (T.e 1 rfl) (.cons (T.e 0 rfl) .nil)) (fun _ => by kernel_rfl))) rfl ?_; clear T ac; intro ac T
 refine Zl2 ?_
 refine Zos M T rfl rfl (T.e 3 rfl) (T.e 0 rfl) rfl .head rfl (by simp) rfl (by kernel_rfl) ?_; clear M T; intro wc ac M T
 refine wpList_nil ?_
 replace T := T.pick [3] rfl
 replace M := M.mask [true, false, false] rfl
 refine Znr ?_
 refine rt_c M T rfl (T.e 0 rfl) (Zne (i := 0) rfl) rfl ?_
 exact ⟨rfl, M.below⟩
theorem law5_any  (w : World)  :
  Calls Tryz.prog 101 #[] w fun e w' => e = .returned (.agg #[.int .i64 20, .int .i64 (-2), .int .i64 4, .int .i64 2]) ∧ Below w.heap.size w w' := by
 refine Zpx noEx Tryz.func101 rfl 2 rfl [] rfl rfl (Mem.init w _) ?_
 intro ac wc T M
 refine Zsr ?_
 refine Zl2 ?_
 refine Zoa M T rfl rfl rfl rfl ?_; clear M T; intro g1 wc ac M T
 refine Zln ?_
 refine Zsr ?_
 refine lq (v := (.agg #[.int .i64 20, .int .i64 (-2), .int .i64 4, .int .i64 2])) T (rn_build rfl (.cons evc (.cons evc (.cons evc (.cons evc .nil)))) (fun _ => by kernel_rfl)) ?_; clear T ac; intro ac T
 refine Zl2 ?_
 refine Zos M T rfl rfl (T.e 1 rfl) (T.e 0 rfl) rfl .head rfl (by simp) rfl (by kernel_rfl) ?_; clear M T; intro wc ac M T
 replace T := T.pick [1] rfl
 refine Zln ?_
 refine wp_ret ?_
 refine rt_c M T rfl (T.e 0 rfl) (Zne (i := 0) rfl) rfl ?_
 exact ⟨rfl, M.below⟩
def Box1Post (hs : List Snd) (H : Option Addr) (d : Nat) (w : World) (e : Ending) (w' : World) : Prop := ∃ g, e = .returned (bxV (boxX hs) (some ⟨g, 0, none⟩) 2 H d) ∧ Mem w noEx w' [(g, .cells (sc lowsX))]
theorem box5_any (H : Option Addr) (d : Nat) (hs : List Snd) (w : World)  :
  Calls Tryz.prog 97 #[.slice H hs.length d] w (Box1Post hs H d w) := by
 refine Zpx noEx Tryz.func97 rfl 20 rfl [.slice H hs.length d] rfl rfl (Mem.init w _) ?_
 intro ac wc T M
 refine Zsr ?_
 refine Zl2 ?_
 refine Zoa M T rfl rfl rfl rfl ?_; clear M T; intro g1 wc ac M T
 refine Zln ?_
 refine Zsr ?_
 refine Zl2 ?_
 refine Zoc (first := []) (cap := []) T rfl rfl rfl rfl evf .nil Tryz.func101 rfl rfl ?_
 refine Calls.mono (law5_any _) ?_
 clear T; rintro e wc ⟨rfl, hb⟩ ac T
 replace M := M.call hb; clear hb
 refine Zl2 ?_
 refine Zoc (first := []) (cap := []) T rfl rfl rfl rfl evf (.cons evc (.cons evc .nil)) Tryz.func50 rfl rfl ?_
 refine Calls.mono (to5_any (-1) 1 _) ?_
 clear T; rintro e wc ⟨rfl, hb⟩ ac T
 replace M := M.call hb; clear hb
 refine Zl2 ?_
 refine Zoc (first := []) (cap := []) T rfl rfl rfl rfl evf (.cons evc (.cons evc .nil)) Tryz.func50 rfl rfl ?_
 refine Calls.mono (to5_any 0 0 _) ?_
 clear T; rintro e wc ⟨rfl, hb⟩ ac T
 replace M := M.call hb; clear hb
 refine Zl2 ?_
 refine Zoc (first := []) (cap := []) T rfl rfl rfl rfl evf (.cons (T.e 1 rfl) (.cons (T.e 0 rfl) .nil)) Tryz.func98 rfl rfl ?_
 refine Calls.mono (sound5_any (-1) 1 0 0 _) ?_
 clear T; rintro e wc ⟨rfl, hb⟩ ac T
 replace M := M.call hb; clear hb
 refine Zl2 ?_
 refine Zoc (first := []) (cap := []) T rfl rfl rfl rfl evf (.cons evc (.cons evc .nil)) Tryz.func50 rfl rfl ?_
 refine Calls.mono (to5_any 5 5 _) ?_
 clear T; rintro e wc ⟨rfl, hb⟩ ac T
 replace M := M.call hb; clear hb
 refine Zl2 ?_
 refine Zoc (first := []) (cap := []) T rfl rfl rfl rfl evf (.cons evc (.cons evc .nil)) Tryz.func50 rfl rfl ?_
 refine Calls.mono (to5_any 1 1 _) ?_
 clear T; rintro e wc ⟨rfl, hb⟩ ac T
 replace M := M.call hb; clear hb
 refine Zl2 ?_
 refine Zoc (first := []) (cap := []) T rfl rfl rfl rfl evf (.cons (T.e 1 rfl) (.cons (T.e 0 rfl) .nil)) Tryz.func98 rfl rfl ?_
 refine Calls.mono (sound5_any 5 5 1 1 _) ?_
 clear T; rintro e wc ⟨rfl, hb⟩ ac T
 replace M := M.call hb; clear hb
 refine Zl2 ?_
 refine ow_bs (e := 32) [.int .i64 (-1), .int .i64 1, .int .i64 0, .int .i64 0, .int .i64 5, .int .i64 5, .int .i64 1, .int .i64 1] M T rfl rfl rfl rfl (.cons (T.e 3 rfl) (.cons (T.e 0 rfl) .nil)) (fun _ => by kernel_rfl) ?_; clear M T; intro g2 wc ac M T
 refine lq T (Zrm rfl (T.e 9 rfl)) ?_; clear T ac; intro ac T
 refine Zl2 ?_
 refine Zoc (first := []) (cap := []) T rfl rfl rfl rfl evf (.cons evc (.cons evc .nil)) Tryz.func50 rfl rfl ?_
 refine Calls.mono (to5_any 30 32 _) ?_
 clear T; rintro e wc ⟨rfl, hb⟩ ac T
 replace M := M.call hb; clear hb
 refine Zl2 ?_
 refine Zoc (first := []) (cap := []) T rfl rfl rfl rfl evf (.cons evc (.cons evc .nil)) Tryz.func50 rfl rfl ?_
 refine Calls.mono (to5_any 40 41 _) ?_
 clear T; rintro e wc ⟨rfl, hb⟩ ac T
 replace M := M.call hb; clear hb
 refine Zl2 ?_
 refine Zoc (first := []) (cap := []) T rfl rfl rfl rfl evf (.cons evc (.cons evc .nil)) Tryz.func50 rfl rfl ?_
 refine Calls.mono (to5_any 3 4 _) ?_
 clear T; rintro e wc ⟨rfl, hb⟩ ac T
 replace M := M.call hb; clear hb
 refine Zl2 ?_
 refine Zoc (first := []) (cap := []) T rfl rfl rfl rfl evf (.cons evc (.cons evc .nil)) Tryz.func50 rfl rfl ?_
 refine Calls.mono (to5_any 2 3 _) ?_
 clear T; rintro e wc ⟨rfl, hb⟩ ac T
 replace M := M.call hb; clear hb
 refine Zl2 ?_
 refine Zoc (first := []) (cap := []) T rfl rfl rfl rfl evf (.cons evc (.cons evc .nil)) Tryz.func50 rfl rfl ?_
 refine Calls.mono (to5_any 1 2 _) ?_
 clear T; rintro e wc ⟨rfl, hb⟩ ac T
 replace M := M.call hb; clear hb
 refine Zl2 ?_
 refine Zoc (first := []) (cap := []) T rfl rfl rfl rfl evf (.cons evc (.cons evc .nil)) Tryz.func50 rfl rfl ?_
 refine Calls.mono (to5_any 1 1 _) ?_
 clear T; rintro e wc ⟨rfl, hb⟩ ac T
 replace M := M.call hb; clear hb
 refine Zg2 (v1 := (.agg #[.int .i64 3, .int .i64 4, .int .i64 2, .int .i64 3, .int .i64 1, .int .i64 2, .int .i64 1, .int .i64 1, .int .i64 20])) (v2 := (.agg #[.int .i64 20, .int .i64 (-2), .int .i64 4, .int .i64 2, .int .i64 3, .slice (some ⟨g2, 0, none⟩) 2 2, .slice H hs.length d, .int .i64 30, .int .i64 32, .int .i64 40, .int .i64 41, .int .i64 3, .int .i64 4, .int .i64 2, .int .i64 3, .int .i64 1, .int .i64 2, .int .i64 1, .int .i64 1, .int .i64 20, .int .i64 1])) T (Zq (rn_build rfl (.cons (T.e 3 rfl) (.cons (T.e 2 rfl) (.cons (T.e 1 rfl) (.cons (T.e 0 rfl) (.cons evc .nil))))) (fun _ => by kernel_rfl))) rfl (fun _ T => Zq (rn_build rfl (.cons (T.e 15 rfl) (.cons evc (.cons (T.e 8 rfl) (.cons (T.e 7 rfl) (.cons (T.e 6 rfl) (.cons (T.e 5 rfl) (.cons (T.e 0 rfl) (.cons evc .nil)))))))) (fun _ => by kernel_rfl))) rfl ?_; clear T ac; intro ac T
 refine Zl2 ?_
 refine Zos M T rfl rfl (T.e 17 rfl) (T.e 0 rfl) rfl (.tail .head) rfl (by simp) rfl (by kernel_rfl) ?_; clear M T; intro wc ac M T
 replace T := T.pick [17] rfl
 refine Zln ?_
 refine wp_ret ?_
 refine rt_c M T rfl (T.e 0 rfl) (Zne (i := 1) rfl) rfl ?_
 exact ⟨g2, rfl, M.perm [0] rfl rfl⟩
theorem full5_any  (w : World)  :
  Calls Tryz.prog 46 #[] w (BoxPost fullX w) := by
 refine Zpx noEx Tryz.func46 rfl 12 rfl [] rfl rfl (Mem.init w _) ?_
 intro ac wc T M
 refine Zsr ?_
 refine Zl2 ?_
 refine Zoa M T rfl rfl rfl rfl ?_; clear M T; intro g1 wc ac M T
 refine Zln ?_
 refine Zsr ?_
 refine Zl2 ?_
 refine Zoc (first := []) (cap := []) T rfl rfl rfl rfl evf (.cons evc (.cons evc .nil)) Tryz.func50 rfl rfl ?_
 refine Calls.mono (to5_any 14 15 _) ?_
 clear T; rintro e wc ⟨rfl, hb⟩ ac T
 replace M := M.call hb; clear hb
 refine Zl2 ?_
 refine Zoc (first := []) (cap := []) T rfl rfl rfl rfl evf (.cons evc (.cons evc .nil)) Tryz.func50 rfl rfl ?_
 refine Calls.mono (to5_any 0 1 _) ?_
 clear T; rintro e wc ⟨rfl, hb⟩ ac T
 replace M := M.call hb; clear hb
 refine Zl2 ?_
 refine Zoc (first := []) (cap := []) T rfl rfl rfl rfl evf (.cons (T.e 1 rfl) (.cons (T.e 0 rfl) .nil)) Tryz.func98 rfl rfl ?_
 refine Calls.mono (sound5_any 14 15 0 1 _) ?_
 clear T; rintro e wc ⟨rfl, hb⟩ ac T
 replace M := M.call hb; clear hb
 refine Zl2 ?_
 refine Zoc (first := []) (cap := []) T rfl rfl rfl rfl evf (.cons evc (.cons evc .nil)) Tryz.func50 rfl rfl ?_
 refine Calls.mono (to5_any 20 20 _) ?_
 clear T; rintro e wc ⟨rfl, hb⟩ ac T
 replace M := M.call hb; clear hb
 refine Zl2 ?_
 refine Zoc (first := []) (cap := []) T rfl rfl rfl rfl evf (.cons evc (.cons evc .nil)) Tryz.func50 rfl rfl ?_
 refine Calls.mono (to5_any 0 0 _) ?_
 clear T; rintro e wc ⟨rfl, hb⟩ ac T
 replace M := M.call hb; clear hb
 refine Zl2 ?_
 refine Zoc (first := []) (cap := []) T rfl rfl rfl rfl evf (.cons (T.e 1 rfl) (.cons (T.e 0 rfl) .nil)) Tryz.func98 rfl rfl ?_
 refine Calls.mono (sound5_any 20 20 0 0 _) ?_
 clear T; rintro e wc ⟨rfl, hb⟩ ac T
 replace M := M.call hb; clear hb
 refine Zl2 ?_
 refine Zoc (first := []) (cap := []) T rfl rfl rfl rfl evf (.cons evc (.cons evc .nil)) Tryz.func50 rfl rfl ?_
 refine Calls.mono (to5_any 30 30 _) ?_
 clear T; rintro e wc ⟨rfl, hb⟩ ac T
 replace M := M.call hb; clear hb
 refine Zl2 ?_
 refine Zoc (first := []) (cap := []) T rfl rfl rfl rfl evf (.cons evc (.cons evc .nil)) Tryz.func50 rfl rfl ?_
 refine Calls.mono (to5_any 0 0 _) ?_
 clear T; rintro e wc ⟨rfl, hb⟩ ac T
 replace M := M.call hb; clear hb
 refine Zl2 ?_
 refine Zoc (first := []) (cap := []) T rfl rfl rfl rfl evf (.cons (T.e 1 rfl) (.cons (T.e 0 rfl) .nil)) Tryz.func98 rfl rfl ?_
 refine Calls.mono (sound5_any 30 30 0 0 _) ?_
 clear T; rintro e wc ⟨rfl, hb⟩ ac T
 replace M := M.call hb; clear hb
 refine Zl2 ?_
 refine ow_bs (e := 32) [.int .i64 14, .int .i64 15, .int .i64 0, .int .i64 1, .int .i64 20, .int .i64 20, .int .i64 0, .int .i64 0, .int .i64 30, .int .i64 30, .int .i64 0, .int .i64 0] M T rfl rfl rfl rfl (.cons (T.e 6 rfl) (.cons (T.e 3 rfl) (.cons (T.e 0 rfl) .nil))) (fun _ => by kernel_rfl) ?_; clear M T; intro g2 wc ac M T
 refine Zl2 ?_
 refine Zoc (first := []) (cap := []) T rfl rfl rfl rfl evf (.cons (T.e 0 rfl) .nil) Tryz.func97 rfl rfl ?_
 refine Calls.mono (box5_any _ 3 fullH _) ?_
 clear T; rintro e wc ⟨gu10, rfl, N⟩ ac T
 replace M := M.join N; clear N
 replace M := M.mask [true, true, true] rfl
 refine Zl2 ?_
 refine Zos M T rfl rfl (T.e 11 rfl) (T.e 0 rfl) rfl (.tail (.tail .head)) rfl (by simp) rfl (by kernel_rfl) ?_; clear M T; intro wc ac M T
 replace T := T.pick [11] rfl
 refine Zln ?_
 refine wp_ret ?_
 refine rt_c M T rfl (T.e 0 rfl) (Zne (i := 2) rfl) rfl ?_
 exact ⟨_, _, _, _, _, rfl, ⟨gu10, 0, fun w ex => (Sp.cells (xs := sc fullX.lows) rfl).mono (List.Sublist.cons_cons _ (Zz9 _))⟩, ⟨g2, 0, fun w ex => (Sp.cells (xs := sc fullX.highs) rfl).mono (.cons _ (List.Sublist.refl _))⟩, M.perm [0, 1] rfl rfl⟩
theorem less5_any  (w : World)  :
  Calls Tryz.prog 47 #[] w (BoxPost lessX w) := by
 refine Zpx noEx Tryz.func47 rfl 9 rfl [] rfl rfl (Mem.init w _) ?_
 intro ac wc T M
 refine Zsr ?_
 refine Zl2 ?_
 refine Zoa M T rfl rfl rfl rfl ?_; clear M T; intro g1 wc ac M T
 refine Zln ?_
 refine Zsr ?_
 refine Zl2 ?_
 refine Zoc (first := []) (cap := []) T rfl rfl rfl rfl evf (.cons evc (.cons evc .nil)) Tryz.func50 rfl rfl ?_
 refine Calls.mono (to5_any 14 15 _) ?_
 clear T; rintro e wc ⟨rfl, hb⟩ ac T
 replace M := M.call hb; clear hb
 refine Zl2 ?_
 refine Zoc (first := []) (cap := []) T rfl rfl rfl rfl evf (.cons evc (.cons evc .nil)) Tryz.func50 rfl rfl ?_
 refine Calls.mono (to5_any 0 1 _) ?_
 clear T; rintro e wc ⟨rfl, hb⟩ ac T
 replace M := M.call hb; clear hb
 refine Zl2 ?_
 refine Zoc (first := []) (cap := []) T rfl rfl rfl rfl evf (.cons (T.e 1 rfl) (.cons (T.e 0 rfl) .nil)) Tryz.func98 rfl rfl ?_
 refine Calls.mono (sound5_any 14 15 0 1 _) ?_
 clear T; rintro e wc ⟨rfl, hb⟩ ac T
 replace M := M.call hb; clear hb
 refine Zl2 ?_
 refine Zoc (first := []) (cap := []) T rfl rfl rfl rfl evf (.cons evc (.cons evc .nil)) Tryz.func50 rfl rfl ?_
 refine Calls.mono (to5_any 30 30 _) ?_
 clear T; rintro e wc ⟨rfl, hb⟩ ac T
 replace M := M.call hb; clear hb
 refine Zl2 ?_
 refine Zoc (first := []) (cap := []) T rfl rfl rfl rfl evf (.cons evc (.cons evc .nil)) Tryz.func50 rfl rfl ?_
 refine Calls.mono (to5_any 0 0 _) ?_
 clear T; rintro e wc ⟨rfl, hb⟩ ac T
 replace M := M.call hb; clear hb
 refine Zl2 ?_
 refine Zoc (first := []) (cap := []) T rfl rfl rfl rfl evf (.cons (T.e 1 rfl) (.cons (T.e 0 rfl) .nil)) Tryz.func98 rfl rfl ?_
 refine Calls.mono (sound5_any 30 30 0 0 _) ?_
 clear T; rintro e wc ⟨rfl, hb⟩ ac T
 replace M := M.call hb; clear hb
 refine Zl2 ?_
 refine ow_bs (e := 32) [.int .i64 14, .int .i64 15, .int .i64 0, .int .i64 1, .int .i64 30, .int .i64 30, .int .i64 0, .int .i64 0] M T rfl rfl rfl rfl (.cons (T.e 3 rfl) (.cons (T.e 0 rfl) .nil)) (fun _ => by kernel_rfl) ?_; clear M T; intro g2 wc ac M T
 refine Zl2 ?_
 refine Zoc (first := []) (cap := []) T rfl rfl rfl rfl evf (.cons (T.e 0 rfl) .nil) Tryz.func97 rfl rfl ?_
 refine Calls.mono (box5_any _ 2 lessH _) ?_
 clear T; rintro e wc ⟨gu7, rfl, N⟩ ac T
 replace M := M.join N; clear N
 replace M := M.mask [true, true, true] rfl
 refine Zl2 ?_
 refine Zos M T rfl rfl (T.e 8 rfl) (T.e 0 rfl) rfl (.tail (.tail .head)) rfl (by simp) rfl (by kernel_rfl) ?_; clear M T; intro wc ac M T
 replace T := T.pick [8] rfl
 refine Zln ?_
 refine wp_ret ?_
 refine rt_c M T rfl (T.e 0 rfl) (Zne (i := 2) rfl) rfl ?_
 exact ⟨_, _, _, _, _, rfl, ⟨gu7, 0, fun w ex => (Sp.cells (xs := sc lessX.lows) rfl).mono (List.Sublist.cons_cons _ (Zz9 _))⟩, ⟨g2, 0, fun w ex => (Sp.cells (xs := sc lessX.highs) rfl).mono (.cons _ (List.Sublist.refl _))⟩, M.perm [0, 1] rfl rfl⟩
theorem Beat_x (A : Option Addr) (c : Nat) (B : Option Addr) (d : Nat) (w : World) (hA : Rd w w.heap.size 4 A fullX.lows.length (sc fullX.lows)) (hB : Rd w w.heap.size 4 B fullX.highs.length (sc fullX.highs)) :
  Calls Tryz.prog 21 #[bxV fullX A c B d, .int .i64 1, .int .i64 0] w fun e w' => ∃ A' c' I, e = .returned (.tuple #[.slice A' 3 c', .int .i64 0]) ∧ (∃ b o, ∀ (w : World) (ex : Nat → Prop), Sp w ex I A' 3 2 b o (rc [(9, 10), (8, 10), (7, 10)])) ∧ Mem w noEx w' I :=
 Calls.mono (Beat_any fullX A c B d 1 0 w hA hB (by decide) (by decide)) fun e w' h => by
  obtain ⟨A', c', I, rfl, h2, h3⟩ := h
  rw [x_beat.1] at h2
  rw [x_beat.1, x_beat.2]
  exact ⟨A', c', I, rfl, h2.spV rfl, h3⟩
theorem Match_x (A : Option Addr) (c : Nat) (B : Option Addr) (d : Nat) (w : World) (hA : Rd w w.heap.size 4 A lessX.lows.length (sc lessX.lows)) (hB : Rd w w.heap.size 4 B lessX.highs.length (sc lessX.highs)) :
  Calls Tryz.prog 10 #[bxV lessX A c B d] w fun e w' => ∃ A' c' I, e = .returned (.tuple #[.slice A' 2 c', .int .i64 0]) ∧ (∃ b o, ∀ (w : World) (ex : Nat → Prop), Sp w ex I A' 2 1 b o (ic [0, -1])) ∧ Mem w noEx w' I :=
 Calls.mono (Match_any lessX A c B d w hA hB (by decide) (by decide)) fun e w' h => by
  rw [x_match] at h
  obtain ⟨A', c', I, rfl, _, h2, h3⟩ := h
  exact ⟨A', c', I, rfl, h2, h3⟩
theorem Short_x (A : Option Addr) (c : Nat) (B : Option Addr) (d : Nat) (w : World) (hA : Rd w w.heap.size 4 A lessX.lows.length (sc lessX.lows)) (hB : Rd w w.heap.size 4 B lessX.highs.length (sc lessX.highs)) :
  Calls Tryz.prog 12 #[bxV lessX A c B d] w fun e w' => ∃ A' c' I, e = .returned (.tuple #[.slice A' 1 c', .int .i64 0]) ∧ (∃ b o, ∀ (w : World) (ex : Nat → Prop), Sp w ex I A' 1 1 b o (ic [1])) ∧ Mem w noEx w' I :=
 Calls.mono (Short_any lessX A c B d w hA hB (by decide) (by decide)) fun e w' h => by
  rw [x_short] at h
  obtain ⟨A', c', I, rfl, _, h2, h3⟩ := h
  exact ⟨A', c', I, rfl, h2, h3⟩
theorem Strokes_x (A : Option Addr) (c : Nat) (B : Option Addr) (d : Nat) (w : World) (hA : Rd w w.heap.size 4 A fullX.lows.length (sc fullX.lows)) (hB : Rd w w.heap.size 4 B fullX.highs.length (sc fullX.highs)) :
  Calls Tryz.prog 48 #[bxV fullX A c B d, .int .i64 0, .int .i64 1] w fun e w' => e = .returned (.tuple #[.int .i64 2, .int .i64 0]) ∧ Below w.heap.size w w' := by
 have h := VStrokes_any fullX A c B d 0 1 w hA hB (by decide) (by decide)
 rw [x_strokes] at h
 exact h
theorem Tremolo_x (A : Option Addr) (c : Nat) (LL : List LS) (G : Option Addr) (d : Nat) (w : World) (hR : rowsOf LL = rowsX) (hA : Rd w w.heap.size 1 A LL.length (lsC LL)) (hE : ElsS w LL) (hG : Rd w w.heap.size 1 G 2 (ic [0, 1])) :
  Calls Tryz.prog 37 #[.agg #[.int .i64 20, .int .i64 (-2), .int .i64 4, .int .i64 2, .slice A LL.length c], .slice G 2 d] w fun e w' => ∃ A' c' I, e = .returned (.tuple #[.slice A' 2 c', .int .i64 0]) ∧ (∃ b o, ∀ (w : World) (ex : Nat → Prop), Sp w ex I A' 2 1 b o (ic [1, 3])) ∧ Mem w noEx w' I := by
 have hl : LL.length = 3 := by have := congrArg List.length hR; simpa [rowsX] using this
 have hx : ∀ x ∈ LL, x.1.length ≤ 1000000 := fun x hx => by
  have : x.1 ∈ rowsX := by rw [← hR]; exact List.mem_map.2 ⟨x, hx, rfl⟩
  have h9 : ∀ y ∈ rowsX, y.length ≤ 1000000 := by decide
  exact h9 _ this
 have h := Tremolo_any lawX A c LL G d [0, 1] w hA hE (by omega) hx hG (by decide)
 refine Calls.mono h fun e w' h => ?_
 rw [hR, x_trem] at h
 obtain ⟨A', c', I, rfl, _, h2, h3⟩ := h
 exact ⟨A', c', I, rfl, h2, h3⟩
def ElsR (LL : List LS) (I : List (Nat × BA)) : Prop := ∀ x ∈ LL, ∃ b o, ∀ (w : World) (ex : Nat → Prop), Sp w ex I x.2.1 x.1.length 4 b o (sc x.1)
def ScalePost (l : Lw) (R : List (List Snd)) (w : World) (e : Ending) (w' : World) : Prop := ∃ A c LL I, rowsOf LL = R ∧ e = .returned (.agg #[.int .i64 l.first, .int .i64 l.step, .int .i64 l.span, .int .i64 l.press, .slice A LL.length c]) ∧ (∃ b o, ∀ (w : World) (ex : Nat → Prop), Sp w ex I A LL.length 1 b o (lsC LL)) ∧ ElsR LL I ∧ Mem w noEx w' I
set_option maxHeartbeats 8000000 in
theorem scale5_any  (w : World)  :
   Calls Tryz.prog 49 #[] w (ScalePost lawX rowsX w) := by
 refine Zpx noEx Tryz.func49 rfl 27 rfl [] rfl rfl (Mem.init w _) ?_
 intro ac wc T M
 refine Zsr ?_
 refine Zl2 ?_
 refine Zoa M T rfl rfl rfl rfl ?_; clear M T; intro g1 wc ac M T
 refine Zln ?_
 refine Zsr ?_
 refine Zl2 ?_
 refine Zoc (first := []) (cap := []) T rfl rfl rfl rfl evf (.cons evc (.cons evc .nil)) Tryz.func50 rfl rfl ?_
 refine Calls.mono (to5_any 0 0 _) ?_
 clear T; rintro e wc ⟨rfl, hb⟩ ac T
 replace M := M.call hb; clear hb
 refine Zl2 ?_
 refine Zoa M T rfl rfl rfl rfl ?_; clear M T; intro g2 wc ac M T
 refine Zl2 ?_
 refine Zos M T rfl rfl (T.e 0 rfl) (T.e 1 rfl) rfl .head rfl (by simp) rfl (by kernel_rfl) ?_; clear M T; intro wc ac M T
 replace T := T.pick [0, 2] rfl
 refine Zln ?_
 refine wp_seq ?_
 refine Zgs M (M.perm [0] rfl rfl) 25 (by kernel_rfl) rfl (by kernel_rfl) ?_
 clear M; intro wc M
 refine g_addG 24 M ?_
 refine g_have (fun ac wc => ∃ (gr2_14 gr2_7 gr2_21 : Nat), Tm ac 27 [(17, .slice (some ⟨gr2_14, 0, none⟩) 2 2), (10, .slice (some ⟨gr2_7, 0, none⟩) 2 2), (24, .slice (some ⟨gr2_21, 0, none⟩) 2 2), (23, .agg #[.int .i64 30, .int .i64 30, .int .i64 0, .int .i64 0]), (21, .agg #[.int .i64 30, .int .i64 30]), (20, .agg #[.int .i64 30, .int .i64 30, .int .i64 0, .int .i64 0]), (18, .agg #[.int .i64 30, .int .i64 30]), (16, .agg #[.int .i64 13, .int .i64 15, .int .i64 0, .int .i64 0]), (14, .agg #[.int .i64 13, .int .i64 15]), (13, .agg #[.int .i64 20, .int .i64 20, .int .i64 0, .int .i64 0]), (11, .agg #[.int .i64 20, .int .i64 20]), (9, .agg #[.int .i64 0, .int .i64 0, .int .i64 0, .int .i64 0]), (7, .agg #[.int .i64 0, .int .i64 0]), (6, .agg #[.int .i64 (-1), .int .i64 1, .int .i64 0, .int .i64 0]), (4, .agg #[.int .i64 (-1), .int .i64 1]), (3, .agg #[.int .i64 20, .int .i64 (-2), .int .i64 4, .int .i64 2]), (22, .agg #[.int .i64 0, .int .i64 0]), (19, .agg #[.int .i64 0, .int .i64 0]), (15, .agg #[.int .i64 0, .int .i64 0]), (12, .agg #[.int .i64 0, .int .i64 0]), (8, .agg #[.int .i64 0, .int .i64 0]), (5, .agg #[.int .i64 0, .int .i64 0]), (1, .pointer (some ⟨g2, 0, none⟩)), (0, .pointer (some ⟨g1, 0, none⟩))] ∧ Mem w noEx wc [(gr2_14, .cells [.int .i64 20, .int .i64 20, .int .i64 0, .int .i64 0, .int .i64 13, .int .i64 15, .int .i64 0, .int .i64 0]), (gr2_7, .cells [.int .i64 (-1), .int .i64 1, .int .i64 0, .int .i64 0, .int .i64 0, .int .i64 0, .int .i64 0, .int .i64 0]), (gr2_21, .cells [.int .i64 30, .int .i64 30, .int .i64 0, .int .i64 0, .int .i64 30, .int .i64 30, .int .i64 0, .int .i64 0]), (g2, .cells [.int .i64 0, .int .i64 0]), (g1, .cells [.int .i64 0, .int .i64 0, .int .i64 0, .int .i64 0, .slice none 0 0])]) (Zpb 25 4194303) 3 ?_ ?_
 ·clear T M
  rintro ac wc ⟨gr2_14, gr2_7, gr2_21, T, M⟩
  refine gw 22 8388607 ?_; intro K hK
  refine ow_bs (e := 24) [.slice (some ⟨gr2_7, 0, none⟩) 2 2, .slice (some ⟨gr2_14, 0, none⟩) 2 2, .slice (some ⟨gr2_21, 0, none⟩) 2 2] M T rfl rfl rfl rfl (.cons (T.e 1 rfl) (.cons (T.e 0 rfl) (.cons (T.e 2 rfl) .nil))) (fun _ => by kernel_rfl) ?_; clear M T; intro gr2_22 wc ac M T
  refine Zso hK _ _ (MA.mk (fun _ => M.mask [false, false, false, false, true, true] rfl) (M.mask [false, false, false, false, true, false] rfl)) ?_; clear hK K
  refine gq (v := (.agg #[.int .i64 20, .int .i64 (-2), .int .i64 4, .int .i64 2, .slice (some ⟨gr2_22, 0, none⟩) 3 3])) T 23 16777215 rfl (fun _ _ _ _ _ => (rn_build rfl (.cons (T.e 16 rfl) (.cons (T.e 0 rfl) .nil)) (fun _ => by kernel_rfl))) ?_; clear T ac; intro ac T
  refine gw 24 33554431 ?_; intro K hK
  refine Zos M T rfl rfl (T.e 25 rfl) (T.e 0 rfl) rfl (.tail (.tail (.tail (.tail (.tail .head))))) rfl (by simp) rfl (by kernel_rfl) ?_; clear M T; intro wc ac M T
  refine Zso hK _ _ (MA.mk (fun h => (no_of (by kernel_rfl) h).elim) (M.mask [false, false, false, false, true, false] rfl)) ?_; clear hK K
  refine Zgd (by kernel_rfl) ?_
  replace T := T.pick [25] rfl
  replace M := M.mask [true, true, true, true, false, true] rfl
  refine Znr ?_
  refine rt_c M T rfl (T.e 0 rfl) (Zne (i := 4) rfl) rfl ?_
  refine ⟨some ⟨gr2_22, 0, none⟩, 3, [([⟨-1, 1, 0, 0⟩, ⟨0, 0, 0, 0⟩], some ⟨gr2_7, 0, none⟩, 2), ([⟨20, 20, 0, 0⟩, ⟨13, 15, 0, 0⟩], some ⟨gr2_14, 0, none⟩, 2), ([⟨30, 30, 0, 0⟩, ⟨30, 30, 0, 0⟩], some ⟨gr2_21, 0, none⟩, 2)], _, rfl, rfl, ⟨gr2_22, 0, fun w ex => (Sp.cells (xs := lsC [([⟨-1, 1, 0, 0⟩, ⟨0, 0, 0, 0⟩], some ⟨gr2_7, 0, none⟩, 2), ([⟨20, 20, 0, 0⟩, ⟨13, 15, 0, 0⟩], some ⟨gr2_14, 0, none⟩, 2), ([⟨30, 30, 0, 0⟩, ⟨30, 30, 0, 0⟩], some ⟨gr2_21, 0, none⟩, 2)]) rfl).mono (List.Sublist.cons_cons _ (Zz9 _))⟩, ?_, M.perm [0, 2, 1, 3] rfl rfl⟩
  intro x hx
  simp only [List.mem_cons, List.not_mem_nil, or_false] at hx
  rcases hx with rfl | rfl | rfl
  · exact ⟨gr2_7, 0, fun w ex => (Sp.cells (xs := sc [⟨-1, 1, 0, 0⟩, ⟨0, 0, 0, 0⟩]) rfl).mono (.cons _ (.cons_cons _ (Zz9 _)))⟩
  · exact ⟨gr2_14, 0, fun w ex => (Sp.cells (xs := sc [⟨20, 20, 0, 0⟩, ⟨13, 15, 0, 0⟩]) rfl).mono (.cons _ (.cons _ (.cons_cons _ (Zz9 _))))⟩
  · exact ⟨gr2_21, 0, fun w ex => (Sp.cells (xs := sc [⟨30, 30, 0, 0⟩, ⟨30, 30, 0, 0⟩]) rfl).mono (.cons _ (.cons _ (.cons _ (.cons_cons _ (Zz9 _)))))⟩
 intro H19
 refine g_have (fun ac wc => ∃ (gr2_14 gr2_7 : Nat), Tm ac 27 [(17, .slice (some ⟨gr2_14, 0, none⟩) 2 2), (10, .slice (some ⟨gr2_7, 0, none⟩) 2 2), (23, .agg #[.int .i64 30, .int .i64 30, .int .i64 0, .int .i64 0]), (21, .agg #[.int .i64 30, .int .i64 30]), (20, .agg #[.int .i64 30, .int .i64 30, .int .i64 0, .int .i64 0]), (18, .agg #[.int .i64 30, .int .i64 30]), (16, .agg #[.int .i64 13, .int .i64 15, .int .i64 0, .int .i64 0]), (14, .agg #[.int .i64 13, .int .i64 15]), (13, .agg #[.int .i64 20, .int .i64 20, .int .i64 0, .int .i64 0]), (11, .agg #[.int .i64 20, .int .i64 20]), (9, .agg #[.int .i64 0, .int .i64 0, .int .i64 0, .int .i64 0]), (7, .agg #[.int .i64 0, .int .i64 0]), (6, .agg #[.int .i64 (-1), .int .i64 1, .int .i64 0, .int .i64 0]), (4, .agg #[.int .i64 (-1), .int .i64 1]), (3, .agg #[.int .i64 20, .int .i64 (-2), .int .i64 4, .int .i64 2]), (22, .agg #[.int .i64 0, .int .i64 0]), (19, .agg #[.int .i64 0, .int .i64 0]), (15, .agg #[.int .i64 0, .int .i64 0]), (12, .agg #[.int .i64 0, .int .i64 0]), (8, .agg #[.int .i64 0, .int .i64 0]), (5, .agg #[.int .i64 0, .int .i64 0]), (1, .pointer (some ⟨g2, 0, none⟩)), (0, .pointer (some ⟨g1, 0, none⟩))] ∧ Mem w noEx wc [(gr2_14, .cells [.int .i64 20, .int .i64 20, .int .i64 0, .int .i64 0, .int .i64 13, .int .i64 15, .int .i64 0, .int .i64 0]), (gr2_7, .cells [.int .i64 (-1), .int .i64 1, .int .i64 0, .int .i64 0, .int .i64 0, .int .i64 0, .int .i64 0, .int .i64 0]), (g2, .cells [.int .i64 0, .int .i64 0]), (g1, .cells [.int .i64 0, .int .i64 0, .int .i64 0, .int .i64 0, .slice none 0 0])]) (Zpb 25 2097151) 4 ?_ ?_
 ·clear T M
  rintro ac wc ⟨gr2_14, gr2_7, T, M⟩
  refine gw 21 4194303 ?_; intro K hK
  refine ow_bs (e := 32) [.int .i64 30, .int .i64 30, .int .i64 0, .int .i64 0, .int .i64 30, .int .i64 30, .int .i64 0, .int .i64 0] M T rfl rfl rfl rfl (.cons (T.e 4 rfl) (.cons (T.e 2 rfl) .nil)) (fun _ => by kernel_rfl) ?_; clear M T; intro gr2_21 wc ac M T
  refine Zso hK _ _ (MA.mk (fun _ => M.mask [false, false, false, true, true] rfl) (M.mask [false, false, false, true, false] rfl)) ?_; clear hK K
  exact H19 _ _ ⟨gr2_14, gr2_7, gr2_21, T.pick [1, 2, 0, 3, 4, 5, 6, 7, 8, 9, 10, 11, 12, 13, 14, 15, 16, 17, 18, 19, 20, 21, 22, 23] rfl, M.perm [1, 2, 0, 3, 4] rfl rfl⟩
 intro H18
 refine g_have (fun ac wc => ∃ (gr2_14 gr2_21 : Nat), Tm ac 27 [(17, .slice (some ⟨gr2_14, 0, none⟩) 2 2), (24, .slice (some ⟨gr2_21, 0, none⟩) 2 2), (23, .agg #[.int .i64 30, .int .i64 30, .int .i64 0, .int .i64 0]), (21, .agg #[.int .i64 30, .int .i64 30]), (20, .agg #[.int .i64 30, .int .i64 30, .int .i64 0, .int .i64 0]), (18, .agg #[.int .i64 30, .int .i64 30]), (16, .agg #[.int .i64 13, .int .i64 15, .int .i64 0, .int .i64 0]), (14, .agg #[.int .i64 13, .int .i64 15]), (13, .agg #[.int .i64 20, .int .i64 20, .int .i64 0, .int .i64 0]), (11, .agg #[.int .i64 20, .int .i64 20]), (9, .agg #[.int .i64 0, .int .i64 0, .int .i64 0, .int .i64 0]), (7, .agg #[.int .i64 0, .int .i64 0]), (6, .agg #[.int .i64 (-1), .int .i64 1, .int .i64 0, .int .i64 0]), (4, .agg #[.int .i64 (-1), .int .i64 1]), (3, .agg #[.int .i64 20, .int .i64 (-2), .int .i64 4, .int .i64 2]), (22, .agg #[.int .i64 0, .int .i64 0]), (19, .agg #[.int .i64 0, .int .i64 0]), (15, .agg #[.int .i64 0, .int .i64 0]), (12, .agg #[.int .i64 0, .int .i64 0]), (8, .agg #[.int .i64 0, .int .i64 0]), (5, .agg #[.int .i64 0, .int .i64 0]), (1, .pointer (some ⟨g2, 0, none⟩)), (0, .pointer (some ⟨g1, 0, none⟩))] ∧ Mem w noEx wc [(gr2_14, .cells [.int .i64 20, .int .i64 20, .int .i64 0, .int .i64 0, .int .i64 13, .int .i64 15, .int .i64 0, .int .i64 0]), (gr2_21, .cells [.int .i64 30, .int .i64 30, .int .i64 0, .int .i64 0, .int .i64 30, .int .i64 30, .int .i64 0, .int .i64 0]), (g2, .cells [.int .i64 0, .int .i64 0]), (g1, .cells [.int .i64 0, .int .i64 0, .int .i64 0, .int .i64 0, .slice none 0 0])]) (Zpb 25 4194175) 4 ?_ ?_
 ·clear T M
  rintro ac wc ⟨gr2_14, gr2_21, T, M⟩
  refine gw 7 4194303 ?_; intro K hK
  refine ow_bs (e := 32) [.int .i64 (-1), .int .i64 1, .int .i64 0, .int .i64 0, .int .i64 0, .int .i64 0, .int .i64 0, .int .i64 0] M T rfl rfl rfl rfl (.cons (T.e 12 rfl) (.cons (T.e 10 rfl) .nil)) (fun _ => by kernel_rfl) ?_; clear M T; intro gr2_7 wc ac M T
  refine Zso hK _ _ (MA.mk (fun _ => M.mask [false, false, false, true, true] rfl) (M.mask [false, false, false, true, false] rfl)) ?_; clear hK K
  exact H19 _ _ ⟨gr2_14, gr2_7, gr2_21, T.pick [1, 0, 2, 3, 4, 5, 6, 7, 8, 9, 10, 11, 12, 13, 14, 15, 16, 17, 18, 19, 20, 21, 22, 23] rfl, M.perm [1, 0, 2, 3, 4] rfl rfl⟩
 intro H17
 refine g_have (fun ac wc => ∃ (gr2_7 gr2_21 : Nat), Tm ac 27 [(10, .slice (some ⟨gr2_7, 0, none⟩) 2 2), (24, .slice (some ⟨gr2_21, 0, none⟩) 2 2), (23, .agg #[.int .i64 30, .int .i64 30, .int .i64 0, .int .i64 0]), (21, .agg #[.int .i64 30, .int .i64 30]), (20, .agg #[.int .i64 30, .int .i64 30, .int .i64 0, .int .i64 0]), (18, .agg #[.int .i64 30, .int .i64 30]), (16, .agg #[.int .i64 13, .int .i64 15, .int .i64 0, .int .i64 0]), (14, .agg #[.int .i64 13, .int .i64 15]), (13, .agg #[.int .i64 20, .int .i64 20, .int .i64 0, .int .i64 0]), (11, .agg #[.int .i64 20, .int .i64 20]), (9, .agg #[.int .i64 0, .int .i64 0, .int .i64 0, .int .i64 0]), (7, .agg #[.int .i64 0, .int .i64 0]), (6, .agg #[.int .i64 (-1), .int .i64 1, .int .i64 0, .int .i64 0]), (4, .agg #[.int .i64 (-1), .int .i64 1]), (3, .agg #[.int .i64 20, .int .i64 (-2), .int .i64 4, .int .i64 2]), (22, .agg #[.int .i64 0, .int .i64 0]), (19, .agg #[.int .i64 0, .int .i64 0]), (15, .agg #[.int .i64 0, .int .i64 0]), (12, .agg #[.int .i64 0, .int .i64 0]), (8, .agg #[.int .i64 0, .int .i64 0]), (5, .agg #[.int .i64 0, .int .i64 0]), (1, .pointer (some ⟨g2, 0, none⟩)), (0, .pointer (some ⟨g1, 0, none⟩))] ∧ Mem w noEx wc [(gr2_7, .cells [.int .i64 (-1), .int .i64 1, .int .i64 0, .int .i64 0, .int .i64 0, .int .i64 0, .int .i64 0, .int .i64 0]), (gr2_21, .cells [.int .i64 30, .int .i64 30, .int .i64 0, .int .i64 0, .int .i64 30, .int .i64 30, .int .i64 0, .int .i64 0]), (g2, .cells [.int .i64 0, .int .i64 0]), (g1, .cells [.int .i64 0, .int .i64 0, .int .i64 0, .int .i64 0, .slice none 0 0])]) (Zpb 25 4177919) 4 ?_ ?_
 ·clear T M
  rintro ac wc ⟨gr2_7, gr2_21, T, M⟩
  refine gw 14 4194303 ?_; intro K hK
  refine ow_bs (e := 32) [.int .i64 20, .int .i64 20, .int .i64 0, .int .i64 0, .int .i64 13, .int .i64 15, .int .i64 0, .int .i64 0] M T rfl rfl rfl rfl (.cons (T.e 8 rfl) (.cons (T.e 6 rfl) .nil)) (fun _ => by kernel_rfl) ?_; clear M T; intro gr2_14 wc ac M T
  refine Zso hK _ _ (MA.mk (fun _ => M.mask [false, false, false, true, true] rfl) (M.mask [false, false, false, true, false] rfl)) ?_; clear hK K
  exact H19 _ _ ⟨gr2_14, gr2_7, gr2_21, T, M⟩
 intro H16
 refine g_have (fun ac wc => ∃ (gr2_14 gr2_7 : Nat), Tm ac 27 [(17, .slice (some ⟨gr2_14, 0, none⟩) 2 2), (10, .slice (some ⟨gr2_7, 0, none⟩) 2 2), (21, .agg #[.int .i64 30, .int .i64 30]), (20, .agg #[.int .i64 30, .int .i64 30, .int .i64 0, .int .i64 0]), (18, .agg #[.int .i64 30, .int .i64 30]), (16, .agg #[.int .i64 13, .int .i64 15, .int .i64 0, .int .i64 0]), (14, .agg #[.int .i64 13, .int .i64 15]), (13, .agg #[.int .i64 20, .int .i64 20, .int .i64 0, .int .i64 0]), (11, .agg #[.int .i64 20, .int .i64 20]), (9, .agg #[.int .i64 0, .int .i64 0, .int .i64 0, .int .i64 0]), (7, .agg #[.int .i64 0, .int .i64 0]), (6, .agg #[.int .i64 (-1), .int .i64 1, .int .i64 0, .int .i64 0]), (4, .agg #[.int .i64 (-1), .int .i64 1]), (3, .agg #[.int .i64 20, .int .i64 (-2), .int .i64 4, .int .i64 2]), (22, .agg #[.int .i64 0, .int .i64 0]), (19, .agg #[.int .i64 0, .int .i64 0]), (15, .agg #[.int .i64 0, .int .i64 0]), (12, .agg #[.int .i64 0, .int .i64 0]), (8, .agg #[.int .i64 0, .int .i64 0]), (5, .agg #[.int .i64 0, .int .i64 0]), (1, .pointer (some ⟨g2, 0, none⟩)), (0, .pointer (some ⟨g1, 0, none⟩))] ∧ Mem w noEx wc [(gr2_14, .cells [.int .i64 20, .int .i64 20, .int .i64 0, .int .i64 0, .int .i64 13, .int .i64 15, .int .i64 0, .int .i64 0]), (gr2_7, .cells [.int .i64 (-1), .int .i64 1, .int .i64 0, .int .i64 0, .int .i64 0, .int .i64 0, .int .i64 0, .int .i64 0]), (g2, .cells [.int .i64 0, .int .i64 0]), (g1, .cells [.int .i64 0, .int .i64 0, .int .i64 0, .int .i64 0, .slice none 0 0])]) (Zpb 25 1048575) 5 ?_ ?_
 ·clear T M
  rintro ac wc ⟨gr2_14, gr2_7, T, M⟩
  refine gw 20 2097151 ?_; intro K hK
  refine Zoc (first := []) (cap := []) T rfl rfl rfl rfl evf (.cons (T.e 2 rfl) (.cons (T.e 14 rfl) .nil)) Tryz.func98 rfl rfl ?_
  refine Calls.mono (sound5_any 30 30 0 0 _) ?_
  clear T; rintro e wc ⟨rfl, hb⟩ ac T
  replace M := M.call hb; clear hb
  refine Zso hK _ _ (MA.mk (fun _ => M.mask [false, false, true, true] rfl) (M.mask [false, false, true, false] rfl)) ?_; clear hK K
  exact H18 _ _ ⟨gr2_14, gr2_7, T.pick [1, 2, 0, 3, 4, 5, 6, 7, 8, 9, 10, 11, 12, 13, 14, 15, 16, 17, 18, 19, 20, 21, 22] rfl, M⟩
 intro H15
 refine g_have (fun ac wc => ∃ (gr2_14 : Nat), Tm ac 27 [(17, .slice (some ⟨gr2_14, 0, none⟩) 2 2), (23, .agg #[.int .i64 30, .int .i64 30, .int .i64 0, .int .i64 0]), (21, .agg #[.int .i64 30, .int .i64 30]), (20, .agg #[.int .i64 30, .int .i64 30, .int .i64 0, .int .i64 0]), (18, .agg #[.int .i64 30, .int .i64 30]), (16, .agg #[.int .i64 13, .int .i64 15, .int .i64 0, .int .i64 0]), (14, .agg #[.int .i64 13, .int .i64 15]), (13, .agg #[.int .i64 20, .int .i64 20, .int .i64 0, .int .i64 0]), (11, .agg #[.int .i64 20, .int .i64 20]), (9, .agg #[.int .i64 0, .int .i64 0, .int .i64 0, .int .i64 0]), (7, .agg #[.int .i64 0, .int .i64 0]), (6, .agg #[.int .i64 (-1), .int .i64 1, .int .i64 0, .int .i64 0]), (4, .agg #[.int .i64 (-1), .int .i64 1]), (3, .agg #[.int .i64 20, .int .i64 (-2), .int .i64 4, .int .i64 2]), (22, .agg #[.int .i64 0, .int .i64 0]), (19, .agg #[.int .i64 0, .int .i64 0]), (15, .agg #[.int .i64 0, .int .i64 0]), (12, .agg #[.int .i64 0, .int .i64 0]), (8, .agg #[.int .i64 0, .int .i64 0]), (5, .agg #[.int .i64 0, .int .i64 0]), (1, .pointer (some ⟨g2, 0, none⟩)), (0, .pointer (some ⟨g1, 0, none⟩))] ∧ Mem w noEx wc [(gr2_14, .cells [.int .i64 20, .int .i64 20, .int .i64 0, .int .i64 0, .int .i64 13, .int .i64 15, .int .i64 0, .int .i64 0]), (g2, .cells [.int .i64 0, .int .i64 0]), (g1, .cells [.int .i64 0, .int .i64 0, .int .i64 0, .int .i64 0, .slice none 0 0])]) (Zpb 25 2097023) 5 ?_ ?_
 ·clear T M
  rintro ac wc ⟨gr2_14, T, M⟩
  refine g_m2 (i := 7) (j := 21) (by kernel_rfl) ?_ ?_
  ·refine gi 2097151 ?_; intro K hK
   refine ow_bs (e := 32) [.int .i64 (-1), .int .i64 1, .int .i64 0, .int .i64 0, .int .i64 0, .int .i64 0, .int .i64 0, .int .i64 0] M T rfl rfl rfl rfl (.cons (T.e 11 rfl) (.cons (T.e 9 rfl) .nil)) (fun _ => by kernel_rfl) ?_; clear M T; intro gr2_7 wc ac M T
   refine Zso hK _ _ (MA.mk (fun _ => M.mask [false, false, true, true] rfl) (M.mask [false, false, true, false] rfl)) ?_; clear hK K
   exact H18 _ _ ⟨gr2_14, gr2_7, T.pick [1, 0, 2, 3, 4, 5, 6, 7, 8, 9, 10, 11, 12, 13, 14, 15, 16, 17, 18, 19, 20, 21, 22] rfl, M.perm [1, 0, 2, 3] rfl rfl⟩
  refine gi 4194175 ?_; intro K hK
  refine ow_bs (e := 32) [.int .i64 30, .int .i64 30, .int .i64 0, .int .i64 0, .int .i64 30, .int .i64 30, .int .i64 0, .int .i64 0] M T rfl rfl rfl rfl (.cons (T.e 3 rfl) (.cons (T.e 1 rfl) .nil)) (fun _ => by kernel_rfl) ?_; clear M T; intro gr2_21 wc ac M T
  refine Zso hK _ _ (MA.mk (fun _ => M.mask [false, false, true, true] rfl) (M.mask [false, false, true, false] rfl)) ?_; clear hK K
  exact H17 _ _ ⟨gr2_14, gr2_21, T.pick [1, 0, 2, 3, 4, 5, 6, 7, 8, 9, 10, 11, 12, 13, 14, 15, 16, 17, 18, 19, 20, 21, 22] rfl, M.perm [1, 0, 2, 3] rfl rfl⟩
 intro H14
 refine g_have (fun ac wc => ∃ (gr2_7 : Nat), Tm ac 27 [(10, .slice (some ⟨gr2_7, 0, none⟩) 2 2), (23, .agg #[.int .i64 30, .int .i64 30, .int .i64 0, .int .i64 0]), (21, .agg #[.int .i64 30, .int .i64 30]), (20, .agg #[.int .i64 30, .int .i64 30, .int .i64 0, .int .i64 0]), (18, .agg #[.int .i64 30, .int .i64 30]), (16, .agg #[.int .i64 13, .int .i64 15, .int .i64 0, .int .i64 0]), (14, .agg #[.int .i64 13, .int .i64 15]), (13, .agg #[.int .i64 20, .int .i64 20, .int .i64 0, .int .i64 0]), (11, .agg #[.int .i64 20, .int .i64 20]), (9, .agg #[.int .i64 0, .int .i64 0, .int .i64 0, .int .i64 0]), (7, .agg #[.int .i64 0, .int .i64 0]), (6, .agg #[.int .i64 (-1), .int .i64 1, .int .i64 0, .int .i64 0]), (4, .agg #[.int .i64 (-1), .int .i64 1]), (3, .agg #[.int .i64 20, .int .i64 (-2), .int .i64 4, .int .i64 2]), (22, .agg #[.int .i64 0, .int .i64 0]), (19, .agg #[.int .i64 0, .int .i64 0]), (15, .agg #[.int .i64 0, .int .i64 0]), (12, .agg #[.int .i64 0, .int .i64 0]), (8, .agg #[.int .i64 0, .int .i64 0]), (5, .agg #[.int .i64 0, .int .i64 0]), (1, .pointer (some ⟨g2, 0, none⟩)), (0, .pointer (some ⟨g1, 0, none⟩))] ∧ Mem w noEx wc [(gr2_7, .cells [.int .i64 (-1), .int .i64 1, .int .i64 0, .int .i64 0, .int .i64 0, .int .i64 0, .int .i64 0, .int .i64 0]), (g2, .cells [.int .i64 0, .int .i64 0]), (g1, .cells [.int .i64 0, .int .i64 0, .int .i64 0, .int .i64 0, .slice none 0 0])]) (Zpb 25 2080767) 5 ?_ ?_
 ·clear T M
  rintro ac wc ⟨gr2_7, T, M⟩
  refine g_m2 (i := 14) (j := 21) (by kernel_rfl) ?_ ?_
  ·refine gi 2097151 ?_; intro K hK
   refine ow_bs (e := 32) [.int .i64 20, .int .i64 20, .int .i64 0, .int .i64 0, .int .i64 13, .int .i64 15, .int .i64 0, .int .i64 0] M T rfl rfl rfl rfl (.cons (T.e 7 rfl) (.cons (T.e 5 rfl) .nil)) (fun _ => by kernel_rfl) ?_; clear M T; intro gr2_14 wc ac M T
   refine Zso hK _ _ (MA.mk (fun _ => M.mask [false, false, true, true] rfl) (M.mask [false, false, true, false] rfl)) ?_; clear hK K
   exact H18 _ _ ⟨gr2_14, gr2_7, T, M⟩
  refine gi 4177919 ?_; intro K hK
  refine ow_bs (e := 32) [.int .i64 30, .int .i64 30, .int .i64 0, .int .i64 0, .int .i64 30, .int .i64 30, .int .i64 0, .int .i64 0] M T rfl rfl rfl rfl (.cons (T.e 3 rfl) (.cons (T.e 1 rfl) .nil)) (fun _ => by kernel_rfl) ?_; clear M T; intro gr2_21 wc ac M T
  refine Zso hK _ _ (MA.mk (fun _ => M.mask [false, false, true, true] rfl) (M.mask [false, false, true, false] rfl)) ?_; clear hK K
  exact H16 _ _ ⟨gr2_7, gr2_21, T.pick [1, 0, 2, 3, 4, 5, 6, 7, 8, 9, 10, 11, 12, 13, 14, 15, 16, 17, 18, 19, 20, 21, 22] rfl, M.perm [1, 0, 2, 3] rfl rfl⟩
 intro H13
 refine g_have (fun ac wc => ∃ (gr2_14 gr2_7 : Nat), Tm ac 27 [(17, .slice (some ⟨gr2_14, 0, none⟩) 2 2), (10, .slice (some ⟨gr2_7, 0, none⟩) 2 2), (20, .agg #[.int .i64 30, .int .i64 30, .int .i64 0, .int .i64 0]), (18, .agg #[.int .i64 30, .int .i64 30]), (16, .agg #[.int .i64 13, .int .i64 15, .int .i64 0, .int .i64 0]), (14, .agg #[.int .i64 13, .int .i64 15]), (13, .agg #[.int .i64 20, .int .i64 20, .int .i64 0, .int .i64 0]), (11, .agg #[.int .i64 20, .int .i64 20]), (9, .agg #[.int .i64 0, .int .i64 0, .int .i64 0, .int .i64 0]), (7, .agg #[.int .i64 0, .int .i64 0]), (6, .agg #[.int .i64 (-1), .int .i64 1, .int .i64 0, .int .i64 0]), (4, .agg #[.int .i64 (-1), .int .i64 1]), (3, .agg #[.int .i64 20, .int .i64 (-2), .int .i64 4, .int .i64 2]), (22, .agg #[.int .i64 0, .int .i64 0]), (19, .agg #[.int .i64 0, .int .i64 0]), (15, .agg #[.int .i64 0, .int .i64 0]), (12, .agg #[.int .i64 0, .int .i64 0]), (8, .agg #[.int .i64 0, .int .i64 0]), (5, .agg #[.int .i64 0, .int .i64 0]), (1, .pointer (some ⟨g2, 0, none⟩)), (0, .pointer (some ⟨g1, 0, none⟩))] ∧ Mem w noEx wc [(gr2_14, .cells [.int .i64 20, .int .i64 20, .int .i64 0, .int .i64 0, .int .i64 13, .int .i64 15, .int .i64 0, .int .i64 0]), (gr2_7, .cells [.int .i64 (-1), .int .i64 1, .int .i64 0, .int .i64 0, .int .i64 0, .int .i64 0, .int .i64 0, .int .i64 0]), (g2, .cells [.int .i64 0, .int .i64 0]), (g1, .cells [.int .i64 0, .int .i64 0, .int .i64 0, .int .i64 0, .slice none 0 0])]) (Zpb 25 786431) 6 ?_ ?_
 ·clear T M
  rintro ac wc ⟨gr2_14, gr2_7, T, M⟩
  refine gw 18 1048575 ?_; intro K hK
  refine Zoc (first := []) (cap := []) T rfl rfl rfl rfl evf (.cons evc (.cons evc .nil)) Tryz.func50 rfl rfl ?_
  refine Calls.mono (to5_any 30 30 _) ?_
  clear T; rintro e wc ⟨rfl, hb⟩ ac T
  replace M := M.call hb; clear hb
  refine Zso hK _ _ (MA.mk (fun _ => M.mask [false, false, true, true] rfl) (M.mask [false, false, true, false] rfl)) ?_; clear hK K
  exact H15 _ _ ⟨gr2_14, gr2_7, T.pick [1, 2, 0, 3, 4, 5, 6, 7, 8, 9, 10, 11, 12, 13, 14, 15, 16, 17, 18, 19, 20, 21] rfl, M⟩
 intro H12
 refine g_have (fun ac wc => ∃ (gr2_14 : Nat), Tm ac 27 [(17, .slice (some ⟨gr2_14, 0, none⟩) 2 2), (21, .agg #[.int .i64 30, .int .i64 30]), (20, .agg #[.int .i64 30, .int .i64 30, .int .i64 0, .int .i64 0]), (18, .agg #[.int .i64 30, .int .i64 30]), (16, .agg #[.int .i64 13, .int .i64 15, .int .i64 0, .int .i64 0]), (14, .agg #[.int .i64 13, .int .i64 15]), (13, .agg #[.int .i64 20, .int .i64 20, .int .i64 0, .int .i64 0]), (11, .agg #[.int .i64 20, .int .i64 20]), (9, .agg #[.int .i64 0, .int .i64 0, .int .i64 0, .int .i64 0]), (7, .agg #[.int .i64 0, .int .i64 0]), (6, .agg #[.int .i64 (-1), .int .i64 1, .int .i64 0, .int .i64 0]), (4, .agg #[.int .i64 (-1), .int .i64 1]), (3, .agg #[.int .i64 20, .int .i64 (-2), .int .i64 4, .int .i64 2]), (22, .agg #[.int .i64 0, .int .i64 0]), (19, .agg #[.int .i64 0, .int .i64 0]), (15, .agg #[.int .i64 0, .int .i64 0]), (12, .agg #[.int .i64 0, .int .i64 0]), (8, .agg #[.int .i64 0, .int .i64 0]), (5, .agg #[.int .i64 0, .int .i64 0]), (1, .pointer (some ⟨g2, 0, none⟩)), (0, .pointer (some ⟨g1, 0, none⟩))] ∧ Mem w noEx wc [(gr2_14, .cells [.int .i64 20, .int .i64 20, .int .i64 0, .int .i64 0, .int .i64 13, .int .i64 15, .int .i64 0, .int .i64 0]), (g2, .cells [.int .i64 0, .int .i64 0]), (g1, .cells [.int .i64 0, .int .i64 0, .int .i64 0, .int .i64 0, .slice none 0 0])]) (Zpb 25 1048447) 6 ?_ ?_
 ·clear T M
  rintro ac wc ⟨gr2_14, T, M⟩
  refine g_m2 (i := 7) (j := 20) (by kernel_rfl) ?_ ?_
  ·refine gi 1048575 ?_; intro K hK
   refine ow_bs (e := 32) [.int .i64 (-1), .int .i64 1, .int .i64 0, .int .i64 0, .int .i64 0, .int .i64 0, .int .i64 0, .int .i64 0] M T rfl rfl rfl rfl (.cons (T.e 10 rfl) (.cons (T.e 8 rfl) .nil)) (fun _ => by kernel_rfl) ?_; clear M T; intro gr2_7 wc ac M T
   refine Zso hK _ _ (MA.mk (fun _ => M.mask [false, false, true, true] rfl) (M.mask [false, false, true, false] rfl)) ?_; clear hK K
   exact H15 _ _ ⟨gr2_14, gr2_7, T.pick [1, 0, 2, 3, 4, 5, 6, 7, 8, 9, 10, 11, 12, 13, 14, 15, 16, 17, 18, 19, 20, 21] rfl, M.perm [1, 0, 2, 3] rfl rfl⟩
  refine gi 2097023 ?_; intro K hK
  refine Zoc (first := []) (cap := []) T rfl rfl rfl rfl evf (.cons (T.e 1 rfl) (.cons (T.e 13 rfl) .nil)) Tryz.func98 rfl rfl ?_
  refine Calls.mono (sound5_any 30 30 0 0 _) ?_
  clear T; rintro e wc ⟨rfl, hb⟩ ac T
  replace M := M.call hb; clear hb
  refine Zso hK _ _ (MA.mk (fun _ => M.mask [false, true, true] rfl) (M.mask [false, true, false] rfl)) ?_; clear hK K
  exact H14 _ _ ⟨gr2_14, T.pick [1, 0, 2, 3, 4, 5, 6, 7, 8, 9, 10, 11, 12, 13, 14, 15, 16, 17, 18, 19, 20, 21] rfl, M⟩
 intro H11
 refine g_have (fun ac wc => ∃ (gr2_7 : Nat), Tm ac 27 [(10, .slice (some ⟨gr2_7, 0, none⟩) 2 2), (21, .agg #[.int .i64 30, .int .i64 30]), (20, .agg #[.int .i64 30, .int .i64 30, .int .i64 0, .int .i64 0]), (18, .agg #[.int .i64 30, .int .i64 30]), (16, .agg #[.int .i64 13, .int .i64 15, .int .i64 0, .int .i64 0]), (14, .agg #[.int .i64 13, .int .i64 15]), (13, .agg #[.int .i64 20, .int .i64 20, .int .i64 0, .int .i64 0]), (11, .agg #[.int .i64 20, .int .i64 20]), (9, .agg #[.int .i64 0, .int .i64 0, .int .i64 0, .int .i64 0]), (7, .agg #[.int .i64 0, .int .i64 0]), (6, .agg #[.int .i64 (-1), .int .i64 1, .int .i64 0, .int .i64 0]), (4, .agg #[.int .i64 (-1), .int .i64 1]), (3, .agg #[.int .i64 20, .int .i64 (-2), .int .i64 4, .int .i64 2]), (22, .agg #[.int .i64 0, .int .i64 0]), (19, .agg #[.int .i64 0, .int .i64 0]), (15, .agg #[.int .i64 0, .int .i64 0]), (12, .agg #[.int .i64 0, .int .i64 0]), (8, .agg #[.int .i64 0, .int .i64 0]), (5, .agg #[.int .i64 0, .int .i64 0]), (1, .pointer (some ⟨g2, 0, none⟩)), (0, .pointer (some ⟨g1, 0, none⟩))] ∧ Mem w noEx wc [(gr2_7, .cells [.int .i64 (-1), .int .i64 1, .int .i64 0, .int .i64 0, .int .i64 0, .int .i64 0, .int .i64 0, .int .i64 0]), (g2, .cells [.int .i64 0, .int .i64 0]), (g1, .cells [.int .i64 0, .int .i64 0, .int .i64 0, .int .i64 0, .slice none 0 0])]) (Zpb 25 1032191) 6 ?_ ?_
 ·clear T M
  rintro ac wc ⟨gr2_7, T, M⟩
  refine g_m2 (i := 14) (j := 20) (by kernel_rfl) ?_ ?_
  ·refine gi 1048575 ?_; intro K hK
   refine ow_bs (e := 32) [.int .i64 20, .int .i64 20, .int .i64 0, .int .i64 0, .int .i64 13, .int .i64 15, .int .i64 0, .int .i64 0] M T rfl rfl rfl rfl (.cons (T.e 6 rfl) (.cons (T.e 4 rfl) .nil)) (fun _ => by kernel_rfl) ?_; clear M T; intro gr2_14 wc ac M T
   refine Zso hK _ _ (MA.mk (fun _ => M.mask [false, false, true, true] rfl) (M.mask [false, false, true, false] rfl)) ?_; clear hK K
   exact H15 _ _ ⟨gr2_14, gr2_7, T, M⟩
  refine gi 2080767 ?_; intro K hK
  refine Zoc (first := []) (cap := []) T rfl rfl rfl rfl evf (.cons (T.e 1 rfl) (.cons (T.e 13 rfl) .nil)) Tryz.func98 rfl rfl ?_
  refine Calls.mono (sound5_any 30 30 0 0 _) ?_
  clear T; rintro e wc ⟨rfl, hb⟩ ac T
  replace M := M.call hb; clear hb
  refine Zso hK _ _ (MA.mk (fun _ => M.mask [false, true, true] rfl) (M.mask [false, true, false] rfl)) ?_; clear hK K
  exact H13 _ _ ⟨gr2_7, T.pick [1, 0, 2, 3, 4, 5, 6, 7, 8, 9, 10, 11, 12, 13, 14, 15, 16, 17, 18, 19, 20, 21] rfl, M⟩
 intro H10
 refine g_have (fun ac wc => ∃ (gr2_14 gr2_7 : Nat), Tm ac 27 [(17, .slice (some ⟨gr2_14, 0, none⟩) 2 2), (10, .slice (some ⟨gr2_7, 0, none⟩) 2 2), (18, .agg #[.int .i64 30, .int .i64 30]), (16, .agg #[.int .i64 13, .int .i64 15, .int .i64 0, .int .i64 0]), (14, .agg #[.int .i64 13, .int .i64 15]), (13, .agg #[.int .i64 20, .int .i64 20, .int .i64 0, .int .i64 0]), (11, .agg #[.int .i64 20, .int .i64 20]), (9, .agg #[.int .i64 0, .int .i64 0, .int .i64 0, .int .i64 0]), (7, .agg #[.int .i64 0, .int .i64 0]), (6, .agg #[.int .i64 (-1), .int .i64 1, .int .i64 0, .int .i64 0]), (4, .agg #[.int .i64 (-1), .int .i64 1]), (3, .agg #[.int .i64 20, .int .i64 (-2), .int .i64 4, .int .i64 2]), (22, .agg #[.int .i64 0, .int .i64 0]), (19, .agg #[.int .i64 0, .int .i64 0]), (15, .agg #[.int .i64 0, .int .i64 0]), (12, .agg #[.int .i64 0, .int .i64 0]), (8, .agg #[.int .i64 0, .int .i64 0]), (5, .agg #[.int .i64 0, .int .i64 0]), (1, .pointer (some ⟨g2, 0, none⟩)), (0, .pointer (some ⟨g1, 0, none⟩))] ∧ Mem w noEx wc [(gr2_14, .cells [.int .i64 20, .int .i64 20, .int .i64 0, .int .i64 0, .int .i64 13, .int .i64 15, .int .i64 0, .int .i64 0]), (gr2_7, .cells [.int .i64 (-1), .int .i64 1, .int .i64 0, .int .i64 0, .int .i64 0, .int .i64 0, .int .i64 0, .int .i64 0]), (g2, .cells [.int .i64 0, .int .i64 0]), (g1, .cells [.int .i64 0, .int .i64 0, .int .i64 0, .int .i64 0, .slice none 0 0])]) (Zpb 25 655359) 7 ?_ ?_
 ·clear T M
  rintro ac wc ⟨gr2_14, gr2_7, T, M⟩
  refine gw 17 786431 ?_; intro K hK
  refine Zoc (first := []) (cap := []) T rfl rfl rfl rfl evf (.cons (T.e 2 rfl) (.cons (T.e 13 rfl) .nil)) Tryz.func98 rfl rfl ?_
  refine Calls.mono (sound5_any 30 30 0 0 _) ?_
  clear T; rintro e wc ⟨rfl, hb⟩ ac T
  replace M := M.call hb; clear hb
  refine Zso hK _ _ (MA.mk (fun _ => M.mask [false, false, true, true] rfl) (M.mask [false, false, true, false] rfl)) ?_; clear hK K
  exact H12 _ _ ⟨gr2_14, gr2_7, T.pick [1, 2, 0, 3, 4, 5, 6, 7, 8, 9, 10, 11, 12, 13, 14, 15, 16, 17, 18, 19, 20] rfl, M⟩
 intro H9
 refine g_have (fun ac wc => ∃ (gr2_14 : Nat), Tm ac 27 [(17, .slice (some ⟨gr2_14, 0, none⟩) 2 2), (20, .agg #[.int .i64 30, .int .i64 30, .int .i64 0, .int .i64 0]), (18, .agg #[.int .i64 30, .int .i64 30]), (16, .agg #[.int .i64 13, .int .i64 15, .int .i64 0, .int .i64 0]), (14, .agg #[.int .i64 13, .int .i64 15]), (13, .agg #[.int .i64 20, .int .i64 20, .int .i64 0, .int .i64 0]), (11, .agg #[.int .i64 20, .int .i64 20]), (9, .agg #[.int .i64 0, .int .i64 0, .int .i64 0, .int .i64 0]), (7, .agg #[.int .i64 0, .int .i64 0]), (6, .agg #[.int .i64 (-1), .int .i64 1, .int .i64 0, .int .i64 0]), (4, .agg #[.int .i64 (-1), .int .i64 1]), (3, .agg #[.int .i64 20, .int .i64 (-2), .int .i64 4, .int .i64 2]), (22, .agg #[.int .i64 0, .int .i64 0]), (19, .agg #[.int .i64 0, .int .i64 0]), (15, .agg #[.int .i64 0, .int .i64 0]), (12, .agg #[.int .i64 0, .int .i64 0]), (8, .agg #[.int .i64 0, .int .i64 0]), (5, .agg #[.int .i64 0, .int .i64 0]), (1, .pointer (some ⟨g2, 0, none⟩)), (0, .pointer (some ⟨g1, 0, none⟩))] ∧ Mem w noEx wc [(gr2_14, .cells [.int .i64 20, .int .i64 20, .int .i64 0, .int .i64 0, .int .i64 13, .int .i64 15, .int .i64 0, .int .i64 0]), (g2, .cells [.int .i64 0, .int .i64 0]), (g1, .cells [.int .i64 0, .int .i64 0, .int .i64 0, .int .i64 0, .slice none 0 0])]) (Zpb 25 786303) 7 ?_ ?_
 ·clear T M
  rintro ac wc ⟨gr2_14, T, M⟩
  refine g_m2 (i := 7) (j := 18) (by kernel_rfl) ?_ ?_
  ·refine gi 786431 ?_; intro K hK
   refine ow_bs (e := 32) [.int .i64 (-1), .int .i64 1, .int .i64 0, .int .i64 0, .int .i64 0, .int .i64 0, .int .i64 0, .int .i64 0] M T rfl rfl rfl rfl (.cons (T.e 9 rfl) (.cons (T.e 7 rfl) .nil)) (fun _ => by kernel_rfl) ?_; clear M T; intro gr2_7 wc ac M T
   refine Zso hK _ _ (MA.mk (fun _ => M.mask [false, false, true, true] rfl) (M.mask [false, false, true, false] rfl)) ?_; clear hK K
   exact H12 _ _ ⟨gr2_14, gr2_7, T.pick [1, 0, 2, 3, 4, 5, 6, 7, 8, 9, 10, 11, 12, 13, 14, 15, 16, 17, 18, 19, 20] rfl, M.perm [1, 0, 2, 3] rfl rfl⟩
  refine gi 1048447 ?_; intro K hK
  refine Zoc (first := []) (cap := []) T rfl rfl rfl rfl evf (.cons evc (.cons evc .nil)) Tryz.func50 rfl rfl ?_
  refine Calls.mono (to5_any 30 30 _) ?_
  clear T; rintro e wc ⟨rfl, hb⟩ ac T
  replace M := M.call hb; clear hb
  refine Zso hK _ _ (MA.mk (fun _ => M.mask [false, true, true] rfl) (M.mask [false, true, false] rfl)) ?_; clear hK K
  exact H11 _ _ ⟨gr2_14, T.pick [1, 0, 2, 3, 4, 5, 6, 7, 8, 9, 10, 11, 12, 13, 14, 15, 16, 17, 18, 19, 20] rfl, M⟩
 intro H8
 refine g_have (fun ac wc => ∃ (gr2_7 : Nat), Tm ac 27 [(10, .slice (some ⟨gr2_7, 0, none⟩) 2 2), (20, .agg #[.int .i64 30, .int .i64 30, .int .i64 0, .int .i64 0]), (18, .agg #[.int .i64 30, .int .i64 30]), (16, .agg #[.int .i64 13, .int .i64 15, .int .i64 0, .int .i64 0]), (14, .agg #[.int .i64 13, .int .i64 15]), (13, .agg #[.int .i64 20, .int .i64 20, .int .i64 0, .int .i64 0]), (11, .agg #[.int .i64 20, .int .i64 20]), (9, .agg #[.int .i64 0, .int .i64 0, .int .i64 0, .int .i64 0]), (7, .agg #[.int .i64 0, .int .i64 0]), (6, .agg #[.int .i64 (-1), .int .i64 1, .int .i64 0, .int .i64 0]), (4, .agg #[.int .i64 (-1), .int .i64 1]), (3, .agg #[.int .i64 20, .int .i64 (-2), .int .i64 4, .int .i64 2]), (22, .agg #[.int .i64 0, .int .i64 0]), (19, .agg #[.int .i64 0, .int .i64 0]), (15, .agg #[.int .i64 0, .int .i64 0]), (12, .agg #[.int .i64 0, .int .i64 0]), (8, .agg #[.int .i64 0, .int .i64 0]), (5, .agg #[.int .i64 0, .int .i64 0]), (1, .pointer (some ⟨g2, 0, none⟩)), (0, .pointer (some ⟨g1, 0, none⟩))] ∧ Mem w noEx wc [(gr2_7, .cells [.int .i64 (-1), .int .i64 1, .int .i64 0, .int .i64 0, .int .i64 0, .int .i64 0, .int .i64 0, .int .i64 0]), (g2, .cells [.int .i64 0, .int .i64 0]), (g1, .cells [.int .i64 0, .int .i64 0, .int .i64 0, .int .i64 0, .slice none 0 0])]) (Zpb 25 770047) 7 ?_ ?_
 ·clear T M
  rintro ac wc ⟨gr2_7, T, M⟩
  refine g_m2 (i := 14) (j := 18) (by kernel_rfl) ?_ ?_
  ·refine gi 786431 ?_; intro K hK
   refine ow_bs (e := 32) [.int .i64 20, .int .i64 20, .int .i64 0, .int .i64 0, .int .i64 13, .int .i64 15, .int .i64 0, .int .i64 0] M T rfl rfl rfl rfl (.cons (T.e 5 rfl) (.cons (T.e 3 rfl) .nil)) (fun _ => by kernel_rfl) ?_; clear M T; intro gr2_14 wc ac M T
   refine Zso hK _ _ (MA.mk (fun _ => M.mask [false, false, true, true] rfl) (M.mask [false, false, true, false] rfl)) ?_; clear hK K
   exact H12 _ _ ⟨gr2_14, gr2_7, T, M⟩
  refine gi 1032191 ?_; intro K hK
  refine Zoc (first := []) (cap := []) T rfl rfl rfl rfl evf (.cons evc (.cons evc .nil)) Tryz.func50 rfl rfl ?_
  refine Calls.mono (to5_any 30 30 _) ?_
  clear T; rintro e wc ⟨rfl, hb⟩ ac T
  replace M := M.call hb; clear hb
  refine Zso hK _ _ (MA.mk (fun _ => M.mask [false, true, true] rfl) (M.mask [false, true, false] rfl)) ?_; clear hK K
  exact H10 _ _ ⟨gr2_7, T.pick [1, 0, 2, 3, 4, 5, 6, 7, 8, 9, 10, 11, 12, 13, 14, 15, 16, 17, 18, 19, 20] rfl, M⟩
 intro H7
 refine g_have (fun ac wc => ∃ (gr2_7 gr2_14 : Nat), Tm ac 27 [(10, .slice (some ⟨gr2_7, 0, none⟩) 2 2), (17, .slice (some ⟨gr2_14, 0, none⟩) 2 2), (16, .agg #[.int .i64 13, .int .i64 15, .int .i64 0, .int .i64 0]), (14, .agg #[.int .i64 13, .int .i64 15]), (13, .agg #[.int .i64 20, .int .i64 20, .int .i64 0, .int .i64 0]), (11, .agg #[.int .i64 20, .int .i64 20]), (9, .agg #[.int .i64 0, .int .i64 0, .int .i64 0, .int .i64 0]), (7, .agg #[.int .i64 0, .int .i64 0]), (6, .agg #[.int .i64 (-1), .int .i64 1, .int .i64 0, .int .i64 0]), (4, .agg #[.int .i64 (-1), .int .i64 1]), (3, .agg #[.int .i64 20, .int .i64 (-2), .int .i64 4, .int .i64 2]), (22, .agg #[.int .i64 0, .int .i64 0]), (19, .agg #[.int .i64 0, .int .i64 0]), (15, .agg #[.int .i64 0, .int .i64 0]), (12, .agg #[.int .i64 0, .int .i64 0]), (8, .agg #[.int .i64 0, .int .i64 0]), (5, .agg #[.int .i64 0, .int .i64 0]), (1, .pointer (some ⟨g2, 0, none⟩)), (0, .pointer (some ⟨g1, 0, none⟩))] ∧ Mem w noEx wc [(gr2_7, .cells [.int .i64 (-1), .int .i64 1, .int .i64 0, .int .i64 0, .int .i64 0, .int .i64 0, .int .i64 0, .int .i64 0]), (gr2_14, .cells [.int .i64 20, .int .i64 20, .int .i64 0, .int .i64 0, .int .i64 13, .int .i64 15, .int .i64 0, .int .i64 0]), (g2, .cells [.int .i64 0, .int .i64 0]), (g1, .cells [.int .i64 0, .int .i64 0, .int .i64 0, .int .i64 0, .slice none 0 0])]) (Zpb 25 622591) 8 ?_ ?_
 ·clear T M
  rintro ac wc ⟨gr2_7, gr2_14, T, M⟩
  refine gw 15 655359 ?_; intro K hK
  refine Zoc (first := []) (cap := []) T rfl rfl rfl rfl evf (.cons evc (.cons evc .nil)) Tryz.func50 rfl rfl ?_
  refine Calls.mono (to5_any 30 30 _) ?_
  clear T; rintro e wc ⟨rfl, hb⟩ ac T
  replace M := M.call hb; clear hb
  refine Zso hK _ _ (MA.mk (fun _ => M.mask [false, false, true, true] rfl) (M.mask [false, false, true, false] rfl)) ?_; clear hK K
  exact H9 _ _ ⟨gr2_14, gr2_7, T.pick [2, 1, 0, 3, 4, 5, 6, 7, 8, 9, 10, 11, 12, 13, 14, 15, 16, 17, 18, 19] rfl, M.perm [1, 0, 2, 3] rfl rfl⟩
 intro H6
 refine g_have (fun ac wc => ∃ (gr2_14 : Nat), Tm ac 27 [(18, .agg #[.int .i64 30, .int .i64 30]), (17, .slice (some ⟨gr2_14, 0, none⟩) 2 2), (16, .agg #[.int .i64 13, .int .i64 15, .int .i64 0, .int .i64 0]), (14, .agg #[.int .i64 13, .int .i64 15]), (13, .agg #[.int .i64 20, .int .i64 20, .int .i64 0, .int .i64 0]), (11, .agg #[.int .i64 20, .int .i64 20]), (9, .agg #[.int .i64 0, .int .i64 0, .int .i64 0, .int .i64 0]), (7, .agg #[.int .i64 0, .int .i64 0]), (6, .agg #[.int .i64 (-1), .int .i64 1, .int .i64 0, .int .i64 0]), (4, .agg #[.int .i64 (-1), .int .i64 1]), (3, .agg #[.int .i64 20, .int .i64 (-2), .int .i64 4, .int .i64 2]), (22, .agg #[.int .i64 0, .int .i64 0]), (19, .agg #[.int .i64 0, .int .i64 0]), (15, .agg #[.int .i64 0, .int .i64 0]), (12, .agg #[.int .i64 0, .int .i64 0]), (8, .agg #[.int .i64 0, .int .i64 0]), (5, .agg #[.int .i64 0, .int .i64 0]), (1, .pointer (some ⟨g2, 0, none⟩)), (0, .pointer (some ⟨g1, 0, none⟩))] ∧ Mem w noEx wc [(gr2_14, .cells [.int .i64 20, .int .i64 20, .int .i64 0, .int .i64 0, .int .i64 13, .int .i64 15, .int .i64 0, .int .i64 0]), (g2, .cells [.int .i64 0, .int .i64 0]), (g1, .cells [.int .i64 0, .int .i64 0, .int .i64 0, .int .i64 0, .slice none 0 0])]) (Zpb 25 655231) 8 ?_ ?_
 ·clear T M
  rintro ac wc ⟨gr2_14, T, M⟩
  refine g_m2 (i := 7) (j := 17) (by kernel_rfl) ?_ ?_
  ·refine gi 655359 ?_; intro K hK
   refine ow_bs (e := 32) [.int .i64 (-1), .int .i64 1, .int .i64 0, .int .i64 0, .int .i64 0, .int .i64 0, .int .i64 0, .int .i64 0] M T rfl rfl rfl rfl (.cons (T.e 8 rfl) (.cons (T.e 6 rfl) .nil)) (fun _ => by kernel_rfl) ?_; clear M T; intro gr2_7 wc ac M T
   refine Zso hK _ _ (MA.mk (fun _ => M.mask [false, false, true, true] rfl) (M.mask [false, false, true, false] rfl)) ?_; clear hK K
   exact H9 _ _ ⟨gr2_14, gr2_7, T.pick [2, 0, 1, 3, 4, 5, 6, 7, 8, 9, 10, 11, 12, 13, 14, 15, 16, 17, 18, 19] rfl, M.perm [1, 0, 2, 3] rfl rfl⟩
  refine gi 786303 ?_; intro K hK
  refine Zoc (first := []) (cap := []) T rfl rfl rfl rfl evf (.cons (T.e 0 rfl) (.cons (T.e 12 rfl) .nil)) Tryz.func98 rfl rfl ?_
  refine Calls.mono (sound5_any 30 30 0 0 _) ?_
  clear T; rintro e wc ⟨rfl, hb⟩ ac T
  replace M := M.call hb; clear hb
  refine Zso hK _ _ (MA.mk (fun _ => M.mask [false, true, true] rfl) (M.mask [false, true, false] rfl)) ?_; clear hK K
  exact H8 _ _ ⟨gr2_14, T.pick [2, 0, 1, 3, 4, 5, 6, 7, 8, 9, 10, 11, 12, 13, 14, 15, 16, 17, 18, 19] rfl, M⟩
 intro H5
 refine g_have (fun ac wc => ∃ (gr2_7 : Nat), Tm ac 27 [(10, .slice (some ⟨gr2_7, 0, none⟩) 2 2), (18, .agg #[.int .i64 30, .int .i64 30]), (16, .agg #[.int .i64 13, .int .i64 15, .int .i64 0, .int .i64 0]), (14, .agg #[.int .i64 13, .int .i64 15]), (13, .agg #[.int .i64 20, .int .i64 20, .int .i64 0, .int .i64 0]), (11, .agg #[.int .i64 20, .int .i64 20]), (9, .agg #[.int .i64 0, .int .i64 0, .int .i64 0, .int .i64 0]), (7, .agg #[.int .i64 0, .int .i64 0]), (6, .agg #[.int .i64 (-1), .int .i64 1, .int .i64 0, .int .i64 0]), (4, .agg #[.int .i64 (-1), .int .i64 1]), (3, .agg #[.int .i64 20, .int .i64 (-2), .int .i64 4, .int .i64 2]), (22, .agg #[.int .i64 0, .int .i64 0]), (19, .agg #[.int .i64 0, .int .i64 0]), (15, .agg #[.int .i64 0, .int .i64 0]), (12, .agg #[.int .i64 0, .int .i64 0]), (8, .agg #[.int .i64 0, .int .i64 0]), (5, .agg #[.int .i64 0, .int .i64 0]), (1, .pointer (some ⟨g2, 0, none⟩)), (0, .pointer (some ⟨g1, 0, none⟩))] ∧ Mem w noEx wc [(gr2_7, .cells [.int .i64 (-1), .int .i64 1, .int .i64 0, .int .i64 0, .int .i64 0, .int .i64 0, .int .i64 0, .int .i64 0]), (g2, .cells [.int .i64 0, .int .i64 0]), (g1, .cells [.int .i64 0, .int .i64 0, .int .i64 0, .int .i64 0, .slice none 0 0])]) (Zpb 25 638975) 8 ?_ ?_
 ·clear T M
  rintro ac wc ⟨gr2_7, T, M⟩
  refine g_m2 (i := 14) (j := 17) (by kernel_rfl) ?_ ?_
  ·refine gi 655359 ?_; intro K hK
   refine ow_bs (e := 32) [.int .i64 20, .int .i64 20, .int .i64 0, .int .i64 0, .int .i64 13, .int .i64 15, .int .i64 0, .int .i64 0] M T rfl rfl rfl rfl (.cons (T.e 4 rfl) (.cons (T.e 2 rfl) .nil)) (fun _ => by kernel_rfl) ?_; clear M T; intro gr2_14 wc ac M T
   refine Zso hK _ _ (MA.mk (fun _ => M.mask [false, false, true, true] rfl) (M.mask [false, false, true, false] rfl)) ?_; clear hK K
   exact H9 _ _ ⟨gr2_14, gr2_7, T, M⟩
  refine gi 770047 ?_; intro K hK
  refine Zoc (first := []) (cap := []) T rfl rfl rfl rfl evf (.cons (T.e 1 rfl) (.cons (T.e 12 rfl) .nil)) Tryz.func98 rfl rfl ?_
  refine Calls.mono (sound5_any 30 30 0 0 _) ?_
  clear T; rintro e wc ⟨rfl, hb⟩ ac T
  replace M := M.call hb; clear hb
  refine Zso hK _ _ (MA.mk (fun _ => M.mask [false, true, true] rfl) (M.mask [false, true, false] rfl)) ?_; clear hK K
  exact H7 _ _ ⟨gr2_7, T.pick [1, 0, 2, 3, 4, 5, 6, 7, 8, 9, 10, 11, 12, 13, 14, 15, 16, 17, 18, 19] rfl, M⟩
 intro H4
 refine g_have (fun ac wc => ∃ (gr2_7 : Nat), Tm ac 27 [(10, .slice (some ⟨gr2_7, 0, none⟩) 2 2), (16, .agg #[.int .i64 13, .int .i64 15, .int .i64 0, .int .i64 0]), (14, .agg #[.int .i64 13, .int .i64 15]), (13, .agg #[.int .i64 20, .int .i64 20, .int .i64 0, .int .i64 0]), (11, .agg #[.int .i64 20, .int .i64 20]), (9, .agg #[.int .i64 0, .int .i64 0, .int .i64 0, .int .i64 0]), (7, .agg #[.int .i64 0, .int .i64 0]), (6, .agg #[.int .i64 (-1), .int .i64 1, .int .i64 0, .int .i64 0]), (4, .agg #[.int .i64 (-1), .int .i64 1]), (3, .agg #[.int .i64 20, .int .i64 (-2), .int .i64 4, .int .i64 2]), (22, .agg #[.int .i64 0, .int .i64 0]), (19, .agg #[.int .i64 0, .int .i64 0]), (15, .agg #[.int .i64 0, .int .i64 0]), (12, .agg #[.int .i64 0, .int .i64 0]), (8, .agg #[.int .i64 0, .int .i64 0]), (5, .agg #[.int .i64 0, .int .i64 0]), (1, .pointer (some ⟨g2, 0, none⟩)), (0, .pointer (some ⟨g1, 0, none⟩))] ∧ Mem w noEx wc [(gr2_7, .cells [.int .i64 (-1), .int .i64 1, .int .i64 0, .int .i64 0, .int .i64 0, .int .i64 0, .int .i64 0, .int .i64 0]), (g2, .cells [.int .i64 0, .int .i64 0]), (g1, .cells [.int .i64 0, .int .i64 0, .int .i64 0, .int .i64 0, .slice none 0 0])]) (Zpb 25 606207) 9 ?_ ?_
 ·clear T M
  rintro ac wc ⟨gr2_7, T, M⟩
  refine g_m2 (i := 14) (j := 15) (by kernel_rfl) ?_ ?_
  ·refine gi 622591 ?_; intro K hK
   refine ow_bs (e := 32) [.int .i64 20, .int .i64 20, .int .i64 0, .int .i64 0, .int .i64 13, .int .i64 15, .int .i64 0, .int .i64 0] M T rfl rfl rfl rfl (.cons (T.e 3 rfl) (.cons (T.e 1 rfl) .nil)) (fun _ => by kernel_rfl) ?_; clear M T; intro gr2_14 wc ac M T
   refine Zso hK _ _ (MA.mk (fun _ => M.mask [false, false, true, true] rfl) (M.mask [false, false, true, false] rfl)) ?_; clear hK K
   exact H6 _ _ ⟨gr2_7, gr2_14, T.pick [1, 0, 2, 3, 4, 5, 6, 7, 8, 9, 10, 11, 12, 13, 14, 15, 16, 17, 18] rfl, M.perm [1, 0, 2, 3] rfl rfl⟩
  refine gi 638975 ?_; intro K hK
  refine Zoc (first := []) (cap := []) T rfl rfl rfl rfl evf (.cons evc (.cons evc .nil)) Tryz.func50 rfl rfl ?_
  refine Calls.mono (to5_any 30 30 _) ?_
  clear T; rintro e wc ⟨rfl, hb⟩ ac T
  replace M := M.call hb; clear hb
  refine Zso hK _ _ (MA.mk (fun _ => M.mask [false, true, true] rfl) (M.mask [false, true, false] rfl)) ?_; clear hK K
  exact H4 _ _ ⟨gr2_7, T.pick [1, 0, 2, 3, 4, 5, 6, 7, 8, 9, 10, 11, 12, 13, 14, 15, 16, 17, 18] rfl, M⟩
 intro H3
 refine g_have (fun ac wc => ∃ (gr2_7 : Nat), Tm ac 27 [(10, .slice (some ⟨gr2_7, 0, none⟩) 2 2), (14, .agg #[.int .i64 13, .int .i64 15]), (13, .agg #[.int .i64 20, .int .i64 20, .int .i64 0, .int .i64 0]), (11, .agg #[.int .i64 20, .int .i64 20]), (9, .agg #[.int .i64 0, .int .i64 0, .int .i64 0, .int .i64 0]), (7, .agg #[.int .i64 0, .int .i64 0]), (6, .agg #[.int .i64 (-1), .int .i64 1, .int .i64 0, .int .i64 0]), (4, .agg #[.int .i64 (-1), .int .i64 1]), (3, .agg #[.int .i64 20, .int .i64 (-2), .int .i64 4, .int .i64 2]), (22, .agg #[.int .i64 0, .int .i64 0]), (19, .agg #[.int .i64 0, .int .i64 0]), (15, .agg #[.int .i64 0, .int .i64 0]), (12, .agg #[.int .i64 0, .int .i64 0]), (8, .agg #[.int .i64 0, .int .i64 0]), (5, .agg #[.int .i64 0, .int .i64 0]), (1, .pointer (some ⟨g2, 0, none⟩)), (0, .pointer (some ⟨g1, 0, none⟩))] ∧ Mem w noEx wc [(gr2_7, .cells [.int .i64 (-1), .int .i64 1, .int .i64 0, .int .i64 0, .int .i64 0, .int .i64 0, .int .i64 0, .int .i64 0]), (g2, .cells [.int .i64 0, .int .i64 0]), (g1, .cells [.int .i64 0, .int .i64 0, .int .i64 0, .int .i64 0, .slice none 0 0])]) (Zpb 25 598015) 10 ?_ ?_
 ·clear T M
  rintro ac wc ⟨gr2_7, T, M⟩
  refine gw 13 606207 ?_; intro K hK
  refine Zoc (first := []) (cap := []) T rfl rfl rfl rfl evf (.cons (T.e 1 rfl) (.cons (T.e 11 rfl) .nil)) Tryz.func98 rfl rfl ?_
  refine Calls.mono (sound5_any 13 15 0 0 _) ?_
  clear T; rintro e wc ⟨rfl, hb⟩ ac T
  replace M := M.call hb; clear hb
  refine Zso hK _ _ (MA.mk (fun _ => M.mask [false, true, true] rfl) (M.mask [false, true, false] rfl)) ?_; clear hK K
  exact H3 _ _ ⟨gr2_7, T.pick [1, 0, 2, 3, 4, 5, 6, 7, 8, 9, 10, 11, 12, 13, 14, 15, 16, 17] rfl, M⟩
 intro H2
 refine g_have (fun ac wc => ∃ (gr2_7 : Nat), Tm ac 27 [(10, .slice (some ⟨gr2_7, 0, none⟩) 2 2), (13, .agg #[.int .i64 20, .int .i64 20, .int .i64 0, .int .i64 0]), (11, .agg #[.int .i64 20, .int .i64 20]), (9, .agg #[.int .i64 0, .int .i64 0, .int .i64 0, .int .i64 0]), (7, .agg #[.int .i64 0, .int .i64 0]), (6, .agg #[.int .i64 (-1), .int .i64 1, .int .i64 0, .int .i64 0]), (4, .agg #[.int .i64 (-1), .int .i64 1]), (3, .agg #[.int .i64 20, .int .i64 (-2), .int .i64 4, .int .i64 2]), (22, .agg #[.int .i64 0, .int .i64 0]), (19, .agg #[.int .i64 0, .int .i64 0]), (15, .agg #[.int .i64 0, .int .i64 0]), (12, .agg #[.int .i64 0, .int .i64 0]), (8, .agg #[.int .i64 0, .int .i64 0]), (5, .agg #[.int .i64 0, .int .i64 0]), (1, .pointer (some ⟨g2, 0, none⟩)), (0, .pointer (some ⟨g1, 0, none⟩))] ∧ Mem w noEx wc [(gr2_7, .cells [.int .i64 (-1), .int .i64 1, .int .i64 0, .int .i64 0, .int .i64 0, .int .i64 0, .int .i64 0, .int .i64 0]), (g2, .cells [.int .i64 0, .int .i64 0]), (g1, .cells [.int .i64 0, .int .i64 0, .int .i64 0, .int .i64 0, .slice none 0 0])]) (Zpb 25 595967) 11 ?_ ?_
 ·clear T M
  rintro ac wc ⟨gr2_7, T, M⟩
  refine gw 11 598015 ?_; intro K hK
  refine Zoc (first := []) (cap := []) T rfl rfl rfl rfl evf (.cons evc (.cons evc .nil)) Tryz.func50 rfl rfl ?_
  refine Calls.mono (to5_any 13 15 _) ?_
  clear T; rintro e wc ⟨rfl, hb⟩ ac T
  replace M := M.call hb; clear hb
  refine Zso hK _ _ (MA.mk (fun _ => M.mask [false, true, true] rfl) (M.mask [false, true, false] rfl)) ?_; clear hK K
  exact H2 _ _ ⟨gr2_7, T.pick [1, 0, 2, 3, 4, 5, 6, 7, 8, 9, 10, 11, 12, 13, 14, 15, 16] rfl, M⟩
 intro H1
 refine g_have (fun ac wc => ∃ (gr2_7 : Nat), Tm ac 27 [(11, .agg #[.int .i64 20, .int .i64 20]), (10, .slice (some ⟨gr2_7, 0, none⟩) 2 2), (9, .agg #[.int .i64 0, .int .i64 0, .int .i64 0, .int .i64 0]), (7, .agg #[.int .i64 0, .int .i64 0]), (6, .agg #[.int .i64 (-1), .int .i64 1, .int .i64 0, .int .i64 0]), (4, .agg #[.int .i64 (-1), .int .i64 1]), (3, .agg #[.int .i64 20, .int .i64 (-2), .int .i64 4, .int .i64 2]), (22, .agg #[.int .i64 0, .int .i64 0]), (19, .agg #[.int .i64 0, .int .i64 0]), (15, .agg #[.int .i64 0, .int .i64 0]), (12, .agg #[.int .i64 0, .int .i64 0]), (8, .agg #[.int .i64 0, .int .i64 0]), (5, .agg #[.int .i64 0, .int .i64 0]), (1, .pointer (some ⟨g2, 0, none⟩)), (0, .pointer (some ⟨g1, 0, none⟩))] ∧ Mem w noEx wc [(gr2_7, .cells [.int .i64 (-1), .int .i64 1, .int .i64 0, .int .i64 0, .int .i64 0, .int .i64 0, .int .i64 0, .int .i64 0]), (g2, .cells [.int .i64 0, .int .i64 0]), (g1, .cells [.int .i64 0, .int .i64 0, .int .i64 0, .int .i64 0, .slice none 0 0])]) (Zpb 25 594943) 12 ?_ ?_
 ·clear T M
  rintro ac wc ⟨gr2_7, T, M⟩
  refine gw 10 595967 ?_; intro K hK
  refine Zoc (first := []) (cap := []) T rfl rfl rfl rfl evf (.cons (T.e 0 rfl) (.cons (T.e 10 rfl) .nil)) Tryz.func98 rfl rfl ?_
  refine Calls.mono (sound5_any 20 20 0 0 _) ?_
  clear T; rintro e wc ⟨rfl, hb⟩ ac T
  replace M := M.call hb; clear hb
  refine Zso hK _ _ (MA.mk (fun _ => M.mask [false, true, true] rfl) (M.mask [false, true, false] rfl)) ?_; clear hK K
  exact H1 _ _ ⟨gr2_7, T.pick [2, 0, 1, 3, 4, 5, 6, 7, 8, 9, 10, 11, 12, 13, 14, 15] rfl, M⟩
 intro H0
 refine gq T 2 4 rfl (fun B w' hD hl hS => (Zrr (Mem.nth (show Mem w noEx w' _ from ((MA.lft hS) (hD.wait (i := 2) (m := 24) (by kernel_rfl) hl))) 0 rfl) rfl (T.e 0 rfl) rfl)) ?_; clear T ac; intro ac T
 refine gq T 5 36 rfl (fun B w' hD hl hS => (Zrr (Mem.nth (show Mem w noEx w' _ from ((MA.lft hS) (hD.wait (i := 5) (m := 24) (by kernel_rfl) hl))) 0 rfl) rfl (T.e 1 rfl) rfl)) ?_; clear T ac; intro ac T
 refine gq T 9 548 rfl (fun B w' hD hl hS => (Zrr (Mem.nth (show Mem w noEx w' _ from ((MA.lft hS) (hD.wait (i := 9) (m := 24) (by kernel_rfl) hl))) 0 rfl) rfl (T.e 2 rfl) rfl)) ?_; clear T ac; intro ac T
 refine gq T 12 4644 rfl (fun B w' hD hl hS => (Zrr (Mem.nth (show Mem w noEx w' _ from ((MA.lft hS) (hD.wait (i := 12) (m := 24) (by kernel_rfl) hl))) 0 rfl) rfl (T.e 3 rfl) rfl)) ?_; clear T ac; intro ac T
 refine gq T 16 70180 rfl (fun B w' hD hl hS => (Zrr (Mem.nth (show Mem w noEx w' _ from ((MA.lft hS) (hD.wait (i := 16) (m := 24) (by kernel_rfl) hl))) 0 rfl) rfl (T.e 4 rfl) rfl)) ?_; clear T ac; intro ac T
 refine gq T 19 594468 rfl (fun B w' hD hl hS => (Zrr (Mem.nth (show Mem w noEx w' _ from ((MA.lft hS) (hD.wait (i := 19) (m := 24) (by kernel_rfl) hl))) 0 rfl) rfl (T.e 5 rfl) rfl)) ?_; clear T ac; intro ac T
 refine gw 0 594469 ?_; intro K hK
 refine Zoc (first := []) (cap := []) T rfl rfl rfl rfl evf .nil Tryz.func101 rfl rfl ?_
 refine Calls.mono (law5_any _) ?_
 clear T; rintro e wc ⟨rfl, hb⟩ ac T
 replace M := M.call hb; clear hb
 refine Zso hK _ _ (MA.mk (fun _ => M.mask [true, true] rfl) (M.mask [true, false] rfl)) ?_; clear hK K
 refine gw 1 594471 ?_; intro K hK
 refine Zoc (first := []) (cap := []) T rfl rfl rfl rfl evf (.cons evc (.cons evc .nil)) Tryz.func50 rfl rfl ?_
 refine Calls.mono (to5_any (-1) 1 _) ?_
 clear T; rintro e wc ⟨rfl, hb⟩ ac T
 replace M := M.call hb; clear hb
 refine Zso hK _ _ (MA.mk (fun _ => M.mask [true, true] rfl) (M.mask [true, false] rfl)) ?_; clear hK K
 refine gw 3 594479 ?_; intro K hK
 refine Zoc (first := []) (cap := []) T rfl rfl rfl rfl evf (.cons (T.e 0 rfl) (.cons (T.e 7 rfl) .nil)) Tryz.func98 rfl rfl ?_
 refine Calls.mono (sound5_any (-1) 1 0 0 _) ?_
 clear T; rintro e wc ⟨rfl, hb⟩ ac T
 replace M := M.call hb; clear hb
 refine Zso hK _ _ (MA.mk (fun _ => M.mask [true, true] rfl) (M.mask [true, false] rfl)) ?_; clear hK K
 refine gw 4 594495 ?_; intro K hK
 refine Zoc (first := []) (cap := []) T rfl rfl rfl rfl evf (.cons evc (.cons evc .nil)) Tryz.func50 rfl rfl ?_
 refine Calls.mono (to5_any 0 0 _) ?_
 clear T; rintro e wc ⟨rfl, hb⟩ ac T
 replace M := M.call hb; clear hb
 refine Zso hK _ _ (MA.mk (fun _ => M.mask [true, true] rfl) (M.mask [true, false] rfl)) ?_; clear hK K
 refine gw 6 594559 ?_; intro K hK
 refine Zoc (first := []) (cap := []) T rfl rfl rfl rfl evf (.cons (T.e 0 rfl) (.cons (T.e 8 rfl) .nil)) Tryz.func98 rfl rfl ?_
 refine Calls.mono (sound5_any 0 0 0 0 _) ?_
 clear T; rintro e wc ⟨rfl, hb⟩ ac T
 replace M := M.call hb; clear hb
 refine Zso hK _ _ (MA.mk (fun _ => M.mask [true, true] rfl) (M.mask [true, false] rfl)) ?_; clear hK K
 refine g_m2 (i := 7) (j := 8) (by kernel_rfl) ?_ ?_
 ·refine gi 594687 ?_; intro K hK
  refine ow_bs (e := 32) [.int .i64 (-1), .int .i64 1, .int .i64 0, .int .i64 0, .int .i64 0, .int .i64 0, .int .i64 0, .int .i64 0] M T rfl rfl rfl rfl (.cons (T.e 2 rfl) (.cons (T.e 0 rfl) .nil)) (fun _ => by kernel_rfl) ?_; clear M T; intro gr2_7 wc ac M T
  refine Zso hK _ _ (MA.mk (fun _ => M.mask [false, true, true] rfl) (M.mask [false, true, false] rfl)) ?_; clear hK K
  refine gw 8 594943 ?_; intro K hK
  refine Zoc (first := []) (cap := []) T rfl rfl rfl rfl evf (.cons evc (.cons evc .nil)) Tryz.func50 rfl rfl ?_
  refine Calls.mono (to5_any 20 20 _) ?_
  clear T; rintro e wc ⟨rfl, hb⟩ ac T
  replace M := M.call hb; clear hb
  refine Zso hK _ _ (MA.mk (fun _ => M.mask [false, true, true] rfl) (M.mask [false, true, false] rfl)) ?_; clear hK K
  exact H0 _ _ ⟨gr2_7, T, M⟩
 refine gi 594815 ?_; intro K hK
 refine Zoc (first := []) (cap := []) T rfl rfl rfl rfl evf (.cons evc (.cons evc .nil)) Tryz.func50 rfl rfl ?_
 refine Calls.mono (to5_any 20 20 _) ?_
 clear T; rintro e wc ⟨rfl, hb⟩ ac T
 replace M := M.call hb; clear hb
 refine Zso hK _ _ (MA.mk (fun _ => M.mask [true, true] rfl) (M.mask [true, false] rfl)) ?_; clear hK K
 refine g_m2 (i := 7) (j := 10) (by kernel_rfl) ?_ ?_
 ·refine gi 594943 ?_; intro K hK
  refine ow_bs (e := 32) [.int .i64 (-1), .int .i64 1, .int .i64 0, .int .i64 0, .int .i64 0, .int .i64 0, .int .i64 0, .int .i64 0] M T rfl rfl rfl rfl (.cons (T.e 3 rfl) (.cons (T.e 1 rfl) .nil)) (fun _ => by kernel_rfl) ?_; clear M T; intro gr2_7 wc ac M T
  refine Zso hK _ _ (MA.mk (fun _ => M.mask [false, true, true] rfl) (M.mask [false, true, false] rfl)) ?_; clear hK K
  exact H0 _ _ ⟨gr2_7, T.pick [1, 0, 2, 3, 4, 5, 6, 7, 8, 9, 10, 11, 12, 13, 14] rfl, M⟩
 refine gi 595839 ?_; intro K hK
 refine Zoc (first := []) (cap := []) T rfl rfl rfl rfl evf (.cons (T.e 0 rfl) (.cons (T.e 9 rfl) .nil)) Tryz.func98 rfl rfl ?_
 refine Calls.mono (sound5_any 20 20 0 0 _) ?_
 clear T; rintro e wc ⟨rfl, hb⟩ ac T
 replace M := M.call hb; clear hb
 refine Zso hK _ _ (MA.mk (fun _ => M.mask [true, true] rfl) (M.mask [true, false] rfl)) ?_; clear hK K
 refine g_m2 (i := 7) (j := 11) (by kernel_rfl) ?_ ?_
 ·refine gi 595967 ?_; intro K hK
  refine ow_bs (e := 32) [.int .i64 (-1), .int .i64 1, .int .i64 0, .int .i64 0, .int .i64 0, .int .i64 0, .int .i64 0, .int .i64 0] M T rfl rfl rfl rfl (.cons (T.e 4 rfl) (.cons (T.e 2 rfl) .nil)) (fun _ => by kernel_rfl) ?_; clear M T; intro gr2_7 wc ac M T
  refine Zso hK _ _ (MA.mk (fun _ => M.mask [false, true, true] rfl) (M.mask [false, true, false] rfl)) ?_; clear hK K
  exact H1 _ _ ⟨gr2_7, T, M⟩
 refine gi 597887 ?_; intro K hK
 refine Zoc (first := []) (cap := []) T rfl rfl rfl rfl evf (.cons evc (.cons evc .nil)) Tryz.func50 rfl rfl ?_
 refine Calls.mono (to5_any 13 15 _) ?_
 clear T; rintro e wc ⟨rfl, hb⟩ ac T
 replace M := M.call hb; clear hb
 refine Zso hK _ _ (MA.mk (fun _ => M.mask [true, true] rfl) (M.mask [true, false] rfl)) ?_; clear hK K
 refine g_m2 (i := 7) (j := 13) (by kernel_rfl) ?_ ?_
 ·refine gi 598015 ?_; intro K hK
  refine ow_bs (e := 32) [.int .i64 (-1), .int .i64 1, .int .i64 0, .int .i64 0, .int .i64 0, .int .i64 0, .int .i64 0, .int .i64 0] M T rfl rfl rfl rfl (.cons (T.e 5 rfl) (.cons (T.e 3 rfl) .nil)) (fun _ => by kernel_rfl) ?_; clear M T; intro gr2_7 wc ac M T
  refine Zso hK _ _ (MA.mk (fun _ => M.mask [false, true, true] rfl) (M.mask [false, true, false] rfl)) ?_; clear hK K
  exact H2 _ _ ⟨gr2_7, T, M⟩
 refine gi 606079 ?_; intro K hK
 refine Zoc (first := []) (cap := []) T rfl rfl rfl rfl evf (.cons (T.e 0 rfl) (.cons (T.e 10 rfl) .nil)) Tryz.func98 rfl rfl ?_
 refine Calls.mono (sound5_any 13 15 0 0 _) ?_
 clear T; rintro e wc ⟨rfl, hb⟩ ac T
 replace M := M.call hb; clear hb
 refine Zso hK _ _ (MA.mk (fun _ => M.mask [true, true] rfl) (M.mask [true, false] rfl)) ?_; clear hK K
 refine g_m3 (i := 7) (j := 14) (k := 15) (by kernel_rfl) ?_ ?_ ?_
 ·refine gi 606207 ?_; intro K hK
  refine ow_bs (e := 32) [.int .i64 (-1), .int .i64 1, .int .i64 0, .int .i64 0, .int .i64 0, .int .i64 0, .int .i64 0, .int .i64 0] M T rfl rfl rfl rfl (.cons (T.e 6 rfl) (.cons (T.e 4 rfl) .nil)) (fun _ => by kernel_rfl) ?_; clear M T; intro gr2_7 wc ac M T
  refine Zso hK _ _ (MA.mk (fun _ => M.mask [false, true, true] rfl) (M.mask [false, true, false] rfl)) ?_; clear hK K
  exact H3 _ _ ⟨gr2_7, T, M⟩
 ·refine gi 622463 ?_; intro K hK
  refine ow_bs (e := 32) [.int .i64 20, .int .i64 20, .int .i64 0, .int .i64 0, .int .i64 13, .int .i64 15, .int .i64 0, .int .i64 0] M T rfl rfl rfl rfl (.cons (T.e 2 rfl) (.cons (T.e 0 rfl) .nil)) (fun _ => by kernel_rfl) ?_; clear M T; intro gr2_14 wc ac M T
  refine Zso hK _ _ (MA.mk (fun _ => M.mask [false, true, true] rfl) (M.mask [false, true, false] rfl)) ?_; clear hK K
  refine g_m2 (i := 7) (j := 15) (by kernel_rfl) ?_ ?_
  ·refine gi 622591 ?_; intro K hK
   refine ow_bs (e := 32) [.int .i64 (-1), .int .i64 1, .int .i64 0, .int .i64 0, .int .i64 0, .int .i64 0, .int .i64 0, .int .i64 0] M T rfl rfl rfl rfl (.cons (T.e 7 rfl) (.cons (T.e 5 rfl) .nil)) (fun _ => by kernel_rfl) ?_; clear M T; intro gr2_7 wc ac M T
   refine Zso hK _ _ (MA.mk (fun _ => M.mask [false, false, true, true] rfl) (M.mask [false, false, true, false] rfl)) ?_; clear hK K
   exact H6 _ _ ⟨gr2_7, gr2_14, T, M⟩
  refine gi 655231 ?_; intro K hK
  refine Zoc (first := []) (cap := []) T rfl rfl rfl rfl evf (.cons evc (.cons evc .nil)) Tryz.func50 rfl rfl ?_
  refine Calls.mono (to5_any 30 30 _) ?_
  clear T; rintro e wc ⟨rfl, hb⟩ ac T
  replace M := M.call hb; clear hb
  refine Zso hK _ _ (MA.mk (fun _ => M.mask [false, true, true] rfl) (M.mask [false, true, false] rfl)) ?_; clear hK K
  exact H5 _ _ ⟨gr2_14, T, M⟩
 refine gi 638847 ?_; intro K hK
 refine Zoc (first := []) (cap := []) T rfl rfl rfl rfl evf (.cons evc (.cons evc .nil)) Tryz.func50 rfl rfl ?_
 refine Calls.mono (to5_any 30 30 _) ?_
 clear T; rintro e wc ⟨rfl, hb⟩ ac T
 replace M := M.call hb; clear hb
 refine Zso hK _ _ (MA.mk (fun _ => M.mask [true, true] rfl) (M.mask [true, false] rfl)) ?_; clear hK K
 refine g_m3 (i := 7) (j := 14) (k := 17) (by kernel_rfl) ?_ ?_ ?_
 ·refine gi 638975 ?_; intro K hK
  refine ow_bs (e := 32) [.int .i64 (-1), .int .i64 1, .int .i64 0, .int .i64 0, .int .i64 0, .int .i64 0, .int .i64 0, .int .i64 0] M T rfl rfl rfl rfl (.cons (T.e 7 rfl) (.cons (T.e 5 rfl) .nil)) (fun _ => by kernel_rfl) ?_; clear M T; intro gr2_7 wc ac M T
  refine Zso hK _ _ (MA.mk (fun _ => M.mask [false, true, true] rfl) (M.mask [false, true, false] rfl)) ?_; clear hK K
  exact H4 _ _ ⟨gr2_7, T, M⟩
 ·refine gi 655231 ?_; intro K hK
  refine ow_bs (e := 32) [.int .i64 20, .int .i64 20, .int .i64 0, .int .i64 0, .int .i64 13, .int .i64 15, .int .i64 0, .int .i64 0] M T rfl rfl rfl rfl (.cons (T.e 3 rfl) (.cons (T.e 1 rfl) .nil)) (fun _ => by kernel_rfl) ?_; clear M T; intro gr2_14 wc ac M T
  refine Zso hK _ _ (MA.mk (fun _ => M.mask [false, true, true] rfl) (M.mask [false, true, false] rfl)) ?_; clear hK K
  exact H5 _ _ ⟨gr2_14, T.pick [1, 0, 2, 3, 4, 5, 6, 7, 8, 9, 10, 11, 12, 13, 14, 15, 16, 17, 18] rfl, M⟩
 refine gi 769919 ?_; intro K hK
 refine Zoc (first := []) (cap := []) T rfl rfl rfl rfl evf (.cons (T.e 0 rfl) (.cons (T.e 11 rfl) .nil)) Tryz.func98 rfl rfl ?_
 refine Calls.mono (sound5_any 30 30 0 0 _) ?_
 clear T; rintro e wc ⟨rfl, hb⟩ ac T
 replace M := M.call hb; clear hb
 refine Zso hK _ _ (MA.mk (fun _ => M.mask [true, true] rfl) (M.mask [true, false] rfl)) ?_; clear hK K
 refine g_m3 (i := 7) (j := 14) (k := 18) (by kernel_rfl) ?_ ?_ ?_
 ·refine gi 770047 ?_; intro K hK
  refine ow_bs (e := 32) [.int .i64 (-1), .int .i64 1, .int .i64 0, .int .i64 0, .int .i64 0, .int .i64 0, .int .i64 0, .int .i64 0] M T rfl rfl rfl rfl (.cons (T.e 8 rfl) (.cons (T.e 6 rfl) .nil)) (fun _ => by kernel_rfl) ?_; clear M T; intro gr2_7 wc ac M T
  refine Zso hK _ _ (MA.mk (fun _ => M.mask [false, true, true] rfl) (M.mask [false, true, false] rfl)) ?_; clear hK K
  exact H7 _ _ ⟨gr2_7, T, M⟩
 ·refine gi 786303 ?_; intro K hK
  refine ow_bs (e := 32) [.int .i64 20, .int .i64 20, .int .i64 0, .int .i64 0, .int .i64 13, .int .i64 15, .int .i64 0, .int .i64 0] M T rfl rfl rfl rfl (.cons (T.e 4 rfl) (.cons (T.e 2 rfl) .nil)) (fun _ => by kernel_rfl) ?_; clear M T; intro gr2_14 wc ac M T
  refine Zso hK _ _ (MA.mk (fun _ => M.mask [false, true, true] rfl) (M.mask [false, true, false] rfl)) ?_; clear hK K
  exact H8 _ _ ⟨gr2_14, T, M⟩
 refine gi 1032063 ?_; intro K hK
 refine Zoc (first := []) (cap := []) T rfl rfl rfl rfl evf (.cons evc (.cons evc .nil)) Tryz.func50 rfl rfl ?_
 refine Calls.mono (to5_any 30 30 _) ?_
 clear T; rintro e wc ⟨rfl, hb⟩ ac T
 replace M := M.call hb; clear hb
 refine Zso hK _ _ (MA.mk (fun _ => M.mask [true, true] rfl) (M.mask [true, false] rfl)) ?_; clear hK K
 refine g_m3 (i := 7) (j := 14) (k := 20) (by kernel_rfl) ?_ ?_ ?_
 ·refine gi 1032191 ?_; intro K hK
  refine ow_bs (e := 32) [.int .i64 (-1), .int .i64 1, .int .i64 0, .int .i64 0, .int .i64 0, .int .i64 0, .int .i64 0, .int .i64 0] M T rfl rfl rfl rfl (.cons (T.e 9 rfl) (.cons (T.e 7 rfl) .nil)) (fun _ => by kernel_rfl) ?_; clear M T; intro gr2_7 wc ac M T
  refine Zso hK _ _ (MA.mk (fun _ => M.mask [false, true, true] rfl) (M.mask [false, true, false] rfl)) ?_; clear hK K
  exact H10 _ _ ⟨gr2_7, T, M⟩
 ·refine gi 1048447 ?_; intro K hK
  refine ow_bs (e := 32) [.int .i64 20, .int .i64 20, .int .i64 0, .int .i64 0, .int .i64 13, .int .i64 15, .int .i64 0, .int .i64 0] M T rfl rfl rfl rfl (.cons (T.e 5 rfl) (.cons (T.e 3 rfl) .nil)) (fun _ => by kernel_rfl) ?_; clear M T; intro gr2_14 wc ac M T
  refine Zso hK _ _ (MA.mk (fun _ => M.mask [false, true, true] rfl) (M.mask [false, true, false] rfl)) ?_; clear hK K
  exact H11 _ _ ⟨gr2_14, T, M⟩
 refine gi 2080639 ?_; intro K hK
 refine Zoc (first := []) (cap := []) T rfl rfl rfl rfl evf (.cons (T.e 0 rfl) (.cons (T.e 12 rfl) .nil)) Tryz.func98 rfl rfl ?_
 refine Calls.mono (sound5_any 30 30 0 0 _) ?_
 clear T; rintro e wc ⟨rfl, hb⟩ ac T
 replace M := M.call hb; clear hb
 refine Zso hK _ _ (MA.mk (fun _ => M.mask [true, true] rfl) (M.mask [true, false] rfl)) ?_; clear hK K
 refine g_m3 (i := 7) (j := 14) (k := 21) (by kernel_rfl) ?_ ?_ ?_
 ·refine gi 2080767 ?_; intro K hK
  refine ow_bs (e := 32) [.int .i64 (-1), .int .i64 1, .int .i64 0, .int .i64 0, .int .i64 0, .int .i64 0, .int .i64 0, .int .i64 0] M T rfl rfl rfl rfl (.cons (T.e 10 rfl) (.cons (T.e 8 rfl) .nil)) (fun _ => by kernel_rfl) ?_; clear M T; intro gr2_7 wc ac M T
  refine Zso hK _ _ (MA.mk (fun _ => M.mask [false, true, true] rfl) (M.mask [false, true, false] rfl)) ?_; clear hK K
  exact H13 _ _ ⟨gr2_7, T, M⟩
 ·refine gi 2097023 ?_; intro K hK
  refine ow_bs (e := 32) [.int .i64 20, .int .i64 20, .int .i64 0, .int .i64 0, .int .i64 13, .int .i64 15, .int .i64 0, .int .i64 0] M T rfl rfl rfl rfl (.cons (T.e 6 rfl) (.cons (T.e 4 rfl) .nil)) (fun _ => by kernel_rfl) ?_; clear M T; intro gr2_14 wc ac M T
  refine Zso hK _ _ (MA.mk (fun _ => M.mask [false, true, true] rfl) (M.mask [false, true, false] rfl)) ?_; clear hK K
  exact H14 _ _ ⟨gr2_14, T, M⟩
 refine gi 4177791 ?_; intro K hK
 refine ow_bs (e := 32) [.int .i64 30, .int .i64 30, .int .i64 0, .int .i64 0, .int .i64 30, .int .i64 30, .int .i64 0, .int .i64 0] M T rfl rfl rfl rfl (.cons (T.e 2 rfl) (.cons (T.e 0 rfl) .nil)) (fun _ => by kernel_rfl) ?_; clear M T; intro gr2_21 wc ac M T
 refine Zso hK _ _ (MA.mk (fun _ => M.mask [false, true, true] rfl) (M.mask [false, true, false] rfl)) ?_; clear hK K
 refine g_m2 (i := 7) (j := 14) (by kernel_rfl) ?_ ?_
 ·refine gi 4177919 ?_; intro K hK
  refine ow_bs (e := 32) [.int .i64 (-1), .int .i64 1, .int .i64 0, .int .i64 0, .int .i64 0, .int .i64 0, .int .i64 0, .int .i64 0] M T rfl rfl rfl rfl (.cons (T.e 11 rfl) (.cons (T.e 9 rfl) .nil)) (fun _ => by kernel_rfl) ?_; clear M T; intro gr2_7 wc ac M T
  refine Zso hK _ _ (MA.mk (fun _ => M.mask [false, false, true, true] rfl) (M.mask [false, false, true, false] rfl)) ?_; clear hK K
  exact H16 _ _ ⟨gr2_7, gr2_21, T, M⟩
 refine gi 4194175 ?_; intro K hK
 refine ow_bs (e := 32) [.int .i64 20, .int .i64 20, .int .i64 0, .int .i64 0, .int .i64 13, .int .i64 15, .int .i64 0, .int .i64 0] M T rfl rfl rfl rfl (.cons (T.e 7 rfl) (.cons (T.e 5 rfl) .nil)) (fun _ => by kernel_rfl) ?_; clear M T; intro gr2_14 wc ac M T
 refine Zso hK _ _ (MA.mk (fun _ => M.mask [false, false, true, true] rfl) (M.mask [false, false, true, false] rfl)) ?_; clear hK K
 exact H17 _ _ ⟨gr2_14, gr2_21, T, M⟩
theorem trembling_any  (w : World)  :
  Calls Tryz.prog 6 #[] w fun e w' => e = .returned (.bool true) ∧ Below w.heap.size w w' := by
 refine Zpx noEx Tryz.func6 rfl 82 rfl [] rfl rfl (Mem.init w _) ?_
 intro ac wc T M
 refine Zsr ?_
 refine lq T (Zra rfl evc) ?_; clear T ac; intro ac T
 replace T := T.pick [] rfl
 refine Zln ?_
 refine Zsr ?_
 refine Zl2 ?_
 refine Zoc (first := []) (cap := []) T rfl rfl rfl rfl evf .nil Tryz.func46 rfl rfl ?_
 refine Calls.mono (full5_any _) ?_
 clear T; rintro e wc ⟨Au1, cu1, Bu1, du1, Iu1, rfl, SAu1, SBu1, N⟩ ac T
 obtain ⟨b1u1, o1u1, SAu1⟩ := SAu1
 replace SAu1 := SAu1 w noEx
 obtain ⟨b2u1, o2u1, SBu1⟩ := SBu1
 replace SBu1 := SBu1 w noEx
 replace M := (M.join N).swapI
 clear N
 replace M : Mem w noEx wc (Iu1) := M
 refine Zl2 ?_
 refine Zoc (first := []) (cap := []) T rfl rfl rfl rfl evf (.cons (T.e 0 rfl) (.cons evc (.cons evc .nil))) Tryz.func21 rfl rfl ?_
 refine Calls.mono (Beat_x _ _ _ _ _ (SAu1.rd M (List.Sublist.refl _)) (SBu1.rd M (List.Sublist.refl _))) ?_
 clear T; rintro e wc ⟨Au2, cu2, Iu2, rfl, Su2, N⟩ ac T
 obtain ⟨bu2, ou2, Su2⟩ := Su2
 replace Su2 := Su2 w noEx
 replace M := (M.join N).swapI
 clear N
 replace M : Mem w noEx wc ((Iu1 ++ Iu2)) := M
 refine Zg5 T (Zq (Zrm rfl (T.e 0 rfl))) rfl (Ze 0 rfl rfl rfl) rfl (Ze 1 rfl rfl rfl) rfl (Za 1 rfl rfl) rfl (Za 1 rfl rfl) rfl ?_; clear T ac; intro ac T
 replace T := T.pick [0, 1] rfl
 refine Zln ?_
 refine Zsr ?_
 refine Zl2 ?_
 refine Zoc (first := []) (cap := []) T rfl rfl rfl rfl evf .nil Tryz.func47 rfl rfl ?_
 refine Calls.mono (less5_any _) ?_
 clear T; rintro e wc ⟨Au3, cu3, Bu3, du3, Iu3, rfl, SAu3, SBu3, N⟩ ac T
 obtain ⟨b1u3, o1u3, SAu3⟩ := SAu3
 replace SAu3 := SAu3 w noEx
 obtain ⟨b2u3, o2u3, SBu3⟩ := SBu3
 replace SBu3 := SBu3 w noEx
 replace M := (M.join N).swapI
 clear N
 replace M : Mem w noEx wc ((Iu1 ++ Iu2 ++ Iu3)) := M
 refine Zl2 ?_
 refine Zoc (first := []) (cap := []) T rfl rfl rfl rfl evf (.cons (T.e 0 rfl) .nil) Tryz.func10 rfl rfl ?_
 refine Calls.mono (Match_x _ _ _ _ _ (SAu3.rd M (Zsq _ _)) (SBu3.rd M (Zsq _ _))) ?_
 clear T; rintro e wc ⟨Au4, cu4, Iu4, rfl, Su4, N⟩ ac T
 obtain ⟨bu4, ou4, Su4⟩ := Su4
 replace Su4 := Su4 w noEx
 replace M := (M.join N).swapI
 clear N
 replace M : Mem w noEx wc ((Iu1 ++ Iu2 ++ Iu3 ++ Iu4)) := M
 refine Zg5 T (Zq (Zrm rfl (T.e 0 rfl))) rfl (Ze 0 rfl rfl rfl) rfl (Ze 1 rfl rfl rfl) rfl (Za 1 rfl rfl) rfl (Za 1 rfl rfl) rfl ?_; clear T ac; intro ac T
 replace T := T.pick [0, 1, 7, 8] rfl
 refine Zln ?_
 refine Zsr ?_
 refine Zl2 ?_
 refine Zoc (first := []) (cap := []) T rfl rfl rfl rfl evf .nil Tryz.func46 rfl rfl ?_
 refine Calls.mono (full5_any _) ?_
 clear T; rintro e wc ⟨Au5, cu5, Bu5, du5, Iu5, rfl, SAu5, SBu5, N⟩ ac T
 obtain ⟨b1u5, o1u5, SAu5⟩ := SAu5
 replace SAu5 := SAu5 w noEx
 obtain ⟨b2u5, o2u5, SBu5⟩ := SBu5
 replace SBu5 := SBu5 w noEx
 replace M := (M.join N).swapI
 clear N
 replace M : Mem w noEx wc ((Iu1 ++ Iu2 ++ Iu3 ++ Iu4 ++ Iu5)) := M
 refine Zl2 ?_
 refine Zoc (first := []) (cap := []) T rfl rfl rfl rfl evf (.cons (T.e 0 rfl) (.cons evc (.cons evc .nil))) Tryz.func48 rfl rfl ?_
 refine Calls.mono (Strokes_x _ _ _ _ _ (SAu5.rd M (Zsq _ _)) (SBu5.rd M (Zsq _ _))) ?_
 clear T; rintro e wc ⟨rfl, hb⟩ ac T
 replace M := M.call hb; clear hb
 refine Zg5 T (Zq (Zrm rfl (T.e 0 rfl))) rfl (Ze 0 rfl rfl rfl) rfl (Ze 1 rfl rfl rfl) rfl (Za 1 rfl rfl) rfl (Za 1 rfl rfl) rfl ?_; clear T ac; intro ac T
 replace T := T.pick [0, 1, 7, 8, 9, 10] rfl
 refine Zln ?_
 refine Zsr ?_
 refine Zl2 ?_
 refine Zoc (first := []) (cap := []) T rfl rfl rfl rfl evf .nil Tryz.func49 rfl rfl ?_
 refine Calls.mono (scale5_any _) ?_
 clear T; rintro e wc ⟨Au7, cu7, LLu7, Iu7, hRu7, rfl, Su7, Eu7, N⟩ ac T
 obtain ⟨bu7, ou7, Su7⟩ := Su7
 replace Su7 := Su7 w noEx
 replace M := (M.join N).swapI
 clear N
 replace M : Mem w noEx wc ((Iu1 ++ Iu2 ++ Iu3 ++ Iu4 ++ Iu5 ++ Iu7)) := M
 refine Zl2 ?_
 refine ow_bs (e := 3) [.int .i64 0, .int .i64 1] M T rfl rfl rfl rfl (.cons evc (.cons evc .nil)) (fun _ => by kernel_rfl) ?_; clear M T; intro g1 wc ac M T
 refine Zl2 ?_
 refine Zoc (first := []) (cap := []) T rfl rfl rfl rfl evf (.cons (T.e 1 rfl) (.cons (T.e 0 rfl) .nil)) Tryz.func37 rfl rfl ?_
 refine Calls.mono (Tremolo_x _ _ LLu7 _ _ _ hRu7 (Su7.rd M (.cons _ (Zsq _ _))) (fun x hx => by obtain ⟨b9, o9, h9⟩ := Eu7 x hx; exact (h9 w noEx).rd M (.cons _ (Zsq _ _))) (M.rdOwn (Zne (i := 0) rfl) rfl rfl)) ?_
 clear T; rintro e wc ⟨Au8, cu8, Iu8, rfl, Su8, N⟩ ac T
 obtain ⟨bu8, ou8, Su8⟩ := Su8
 replace Su8 := Su8 w noEx
 replace M := (M.join N).swapI
 clear N
 replace M : Mem w noEx wc ((g1, .cells [.int .i64 0, .int .i64 1]) :: (Iu1 ++ Iu2 ++ Iu3 ++ Iu4 ++ Iu5 ++ Iu7 ++ Iu8)) := M
 refine Zg5 T (Zq (Zrm rfl (T.e 0 rfl))) rfl (Ze 0 rfl rfl rfl) rfl (Ze 1 rfl rfl rfl) rfl (Za 1 rfl rfl) rfl (Za 1 rfl rfl) rfl ?_; clear T ac; intro ac T
 refine wpList_nil ?_
 replace T := T.pick [0, 1, 8, 9, 10, 11, 12, 13] rfl
 replace M := M.mask [false] rfl
 replace M : Mem w noEx wc ((Iu1 ++ Iu2 ++ Iu3 ++ Iu4 ++ Iu5 ++ Iu7 ++ Iu8)) := M
 refine nm_then ?_
 refine Zsr ?_
 refine Zl2 ?_
 refine Zoc (first := []) (cap := []) T rfl rfl rfl rfl evf .nil Tryz.func47 rfl rfl ?_
 refine Calls.mono (less5_any _) ?_
 clear T; rintro e wc ⟨Au9, cu9, Bu9, du9, Iu9, rfl, SAu9, SBu9, N⟩ ac T
 obtain ⟨b1u9, o1u9, SAu9⟩ := SAu9
 replace SAu9 := SAu9 w noEx
 obtain ⟨b2u9, o2u9, SBu9⟩ := SBu9
 replace SBu9 := SBu9 w noEx
 replace M := (M.join N).swapI
 clear N
 replace M : Mem w noEx wc ((Iu1 ++ Iu2 ++ Iu3 ++ Iu4 ++ Iu5 ++ Iu7 ++ Iu8 ++ Iu9)) := M
 refine Zl2 ?_
 refine Zoc (first := []) (cap := []) T rfl rfl rfl rfl evf (.cons (T.e 0 rfl) .nil) Tryz.func12 rfl rfl ?_
 refine Calls.mono (Short_x _ _ _ _ _ (SAu9.rd M (Zsq _ _)) (SBu9.rd M (Zsq _ _))) ?_
 clear T; rintro e wc ⟨Au10, cu10, Iu10, rfl, Su10, N⟩ ac T
 obtain ⟨bu10, ou10, Su10⟩ := Su10
 replace Su10 := Su10 w noEx
 replace M := (M.join N).swapI
 clear N
 replace M : Mem w noEx wc ((Iu1 ++ Iu2 ++ Iu3 ++ Iu4 ++ Iu5 ++ Iu7 ++ Iu8 ++ Iu9 ++ Iu10)) := M
 refine Zg5 T (Zq (Zrm rfl (T.e 0 rfl))) rfl (Ze 0 rfl rfl rfl) rfl (Ze 1 rfl rfl rfl) rfl (Za 1 rfl rfl) rfl (Za 1 rfl rfl) rfl ?_; clear T ac; intro ac T
 replace T := T.pick [0, 1, 7, 8, 9, 10, 11, 12, 13, 14] rfl
 refine Zln ?_
 refine Zsr ?_
 refine Zg8 (v2 := (.bool true)) (v5 := (.bool true)) T (Zq (Zrm rfl (T.e 8 rfl))) rfl (fun _ T => Zq (Zrq (rn_eql rfl (T.e 0 rfl) evc) (by simp))) rfl (Zm 0 rfl rfl) rfl (fun _ T => Zw (Zwy rfl rfl (T.e 0 rfl) rfl) (Zrm rfl (T.e 9 rfl))) rfl (fun _ T => Zw (Zwy rfl rfl (T.e 1 rfl) rfl) (Zrq (rn_eql rfl (T.e 0 rfl) evc) (by simp))) rfl (fun _ T => Zq (Zr1 rfl (T.e 2 rfl) rfl (T.e 0 rfl))) rfl (Zm 0 rfl rfl) rfl (fun _ T => Zw (Zwy rfl rfl (T.e 0 rfl) rfl) (Zrm rfl (T.e 11 rfl))) rfl ?_; clear T ac; intro ac T
 refine Zg8 (v1 := (.bool true)) (v5 := (.bool true)) T (Zw (Zwy rfl rfl (T.e 1 rfl) rfl) (Zrq (rn_eql rfl (T.e 0 rfl) evc) (by simp))) rfl (fun _ T => Zq (Zr1 rfl (T.e 2 rfl) rfl (T.e 0 rfl))) rfl (Zm 0 rfl rfl) rfl (fun _ T => Zw (Zwy rfl rfl (T.e 0 rfl) rfl) (Zrm rfl (T.e 13 rfl))) rfl (fun _ T => Zw (Zwy rfl rfl (T.e 1 rfl) rfl) (Zrq (rn_eql rfl (T.e 0 rfl) evc) (by simp))) rfl (fun _ T => Zq (Zr1 rfl (T.e 2 rfl) rfl (T.e 0 rfl))) rfl (Zm 0 rfl rfl) rfl (fun _ T => Zw (Zwy rfl rfl (T.e 0 rfl) rfl) (Zrm rfl (T.e 15 rfl))) rfl ?_; clear T ac; intro ac T
 refine Zg8 (v1 := (.bool true)) (v5 := (.bool true)) T (Zw (Zwy rfl rfl (T.e 1 rfl) rfl) (Zrq (rn_eql rfl (T.e 0 rfl) evc) (by simp))) rfl (fun _ T => Zq (Zr1 rfl (T.e 2 rfl) rfl (T.e 0 rfl))) rfl (Zm 0 rfl rfl) rfl (fun _ T => Zw (Zwy rfl rfl (T.e 0 rfl) rfl) (Zrm rfl (T.e 24 rfl))) rfl (fun _ T => Zw (Zwy rfl rfl (T.e 1 rfl) rfl) (Zrq (rn_eql rfl (T.e 0 rfl) evc) (by simp))) rfl (fun _ T => Zq (Zr1 rfl (T.e 2 rfl) rfl (T.e 0 rfl))) rfl (Zm 0 rfl rfl) rfl (fun _ T => Zw (Zwy rfl rfl (T.e 0 rfl) rfl) (Zrm rfl (T.e 32 rfl))) rfl ?_; clear T ac; intro ac T
 refine l_w (Zwy rfl rfl (T.e 1 rfl) rfl) ?_; intro K hK
 refine Zoc (first := []) (cap := []) T rfl rfl rfl rfl evf (.cons evc (.cons evc .nil)) Tryz.func50 rfl rfl ?_
 refine Calls.mono (to5_any 9 10 _) ?_
 clear T; rintro e wc ⟨rfl, hb⟩ ac T
 replace M := M.call hb; clear hb
 refine Zso hK _ _ ?_; clear hK K
 refine l_w (Zwy rfl rfl (T.e 2 rfl) rfl) ?_; intro K hK
 refine Zoc (first := []) (cap := []) T rfl rfl rfl rfl evf (.cons evc (.cons evc .nil)) Tryz.func50 rfl rfl ?_
 refine Calls.mono (to5_any 8 10 _) ?_
 clear T; rintro e wc ⟨rfl, hb⟩ ac T
 replace M := M.call hb; clear hb
 refine Zso hK _ _ ?_; clear hK K
 refine l_w (Zwy rfl rfl (T.e 3 rfl) rfl) ?_; intro K hK
 refine Zoc (first := []) (cap := []) T rfl rfl rfl rfl evf (.cons evc (.cons evc .nil)) Tryz.func50 rfl rfl ?_
 refine Calls.mono (to5_any 7 10 _) ?_
 clear T; rintro e wc ⟨rfl, hb⟩ ac T
 replace M := M.call hb; clear hb
 refine Zso hK _ _ ?_; clear hK K
 refine l_w (Zwy rfl rfl (T.e 4 rfl) rfl) ?_; intro K hK
 refine ow_bs (e := 26) [.int .i64 9, .int .i64 10, .int .i64 8, .int .i64 10, .int .i64 7, .int .i64 10] M T rfl rfl rfl rfl (.cons (T.e 2 rfl) (.cons (T.e 1 rfl) (.cons (T.e 0 rfl) .nil))) (fun _ => by kernel_rfl) ?_; clear M T; intro g2 wc ac M T
 refine Zso hK _ _ ?_; clear hK K
 refine l_w (Zwy rfl rfl (T.e 5 rfl) rfl) ?_; intro K hK
 refine Zoc (first := []) (cap := []) T rfl rfl rfl rfl evf (.cons (T.e 4 rfl) (.cons (T.e 0 rfl) .nil)) Tryz.func29 rfl rfl ?_
 refine Calls.mono (sameRanges_same _ _ _ _ _ _ [(9, 10), (8, 10), (7, 10)] _ (Su2.rd M (.cons _ (subL (subL (subL (subL (subL (subL (subL (Zsq _ _)))))))))) (M.rdOwn (Zne (i := 0) rfl) rfl rfl) (by omega) (by omega)) ?_
 clear T; rintro e wc ⟨rfl, hb⟩ ac T
 replace M := M.call hb; clear hb
 refine Zso hK _ _ ?_; clear hK K
 refine Zg3 T (Zq (Zr1 rfl (T.e 6 rfl) rfl (T.e 0 rfl))) rfl (Zm 0 rfl rfl) rfl (fun _ T => Zw (Zwy rfl rfl (T.e 0 rfl) rfl) (Zrm rfl (T.e 38 rfl))) rfl ?_; clear T ac; intro ac T
 refine l_w (Zwy rfl rfl (T.e 1 rfl) rfl) ?_; intro K hK
 refine ow_bs (e := 3) [.int .i64 0, .int .i64 (-1)] M T rfl rfl rfl rfl (.cons evc (.cons evc .nil)) (fun _ => by kernel_rfl) ?_; clear M T; intro g3 wc ac M T
 refine Zso hK _ _ ?_; clear hK K
 refine l_w (Zwy rfl rfl (T.e 2 rfl) rfl) ?_; intro K hK
 refine Zoc (first := []) (cap := []) T rfl rfl rfl rfl evf (.cons (T.e 1 rfl) (.cons (T.e 0 rfl) .nil)) Tryz.func16 rfl rfl ?_
 refine Calls.mono (sameInts_eq _ _ _ _ _ _ [0, -1] _ (Su4.rd M (.cons _ (.cons _ (subL (subL (subL (subL (subL (Zsq _ _))))))))) (M.rdOwn (Zne (i := 0) rfl) rfl rfl) (by omega) (by omega)) ?_
 clear T; rintro e wc ⟨rfl, hb⟩ ac T
 replace M := M.call hb; clear hb
 refine Zso hK _ _ ?_; clear hK K
 refine Zg3 T (Zq (Zr1 rfl (T.e 3 rfl) rfl (T.e 0 rfl))) rfl (Zm 0 rfl rfl) rfl (fun _ T => Zw (Zwy rfl rfl (T.e 0 rfl) rfl) (Zrm rfl (T.e 39 rfl))) rfl ?_; clear T ac; intro ac T
 refine l_w (Zwy rfl rfl (T.e 1 rfl) rfl) ?_; intro K hK
 refine ow_bs (e := 3) [.int .i64 1, .int .i64 3] M T rfl rfl rfl rfl (.cons evc (.cons evc .nil)) (fun _ => by kernel_rfl) ?_; clear M T; intro g4 wc ac M T
 refine Zso hK _ _ ?_; clear hK K
 refine l_w (Zwy rfl rfl (T.e 2 rfl) rfl) ?_; intro K hK
 refine Zoc (first := []) (cap := []) T rfl rfl rfl rfl evf (.cons (T.e 1 rfl) (.cons (T.e 0 rfl) .nil)) Tryz.func16 rfl rfl ?_
 refine Calls.mono (sameInts_eq _ _ _ _ _ _ [1, 3] _ (Su8.rd M (.cons _ (.cons _ (.cons _ (subL (subL (Zsq _ _))))))) (M.rdOwn (Zne (i := 0) rfl) rfl rfl) (by omega) (by omega)) ?_
 clear T; rintro e wc ⟨rfl, hb⟩ ac T
 replace M := M.call hb; clear hb
 refine Zso hK _ _ ?_; clear hK K
 refine Zg3 T (Zq (Zr1 rfl (T.e 3 rfl) rfl (T.e 0 rfl))) rfl (Zm 0 rfl rfl) rfl (fun _ T => Zw (Zwy rfl rfl (T.e 0 rfl) rfl) (Zrm rfl (T.e 42 rfl))) rfl ?_; clear T ac; intro ac T
 refine l_w (Zwy rfl rfl (T.e 1 rfl) rfl) ?_; intro K hK
 refine ow_bs (e := 3) [.int .i64 1] M T rfl rfl rfl rfl (.cons evc .nil) (fun _ => by kernel_rfl) ?_; clear M T; intro g5 wc ac M T
 refine Zso hK _ _ ?_; clear hK K
 refine l_w (Zwy rfl rfl (T.e 2 rfl) rfl) ?_; intro K hK
 refine Zoc (first := []) (cap := []) T rfl rfl rfl rfl evf (.cons (T.e 1 rfl) (.cons (T.e 0 rfl) .nil)) Tryz.func16 rfl rfl ?_
 refine Calls.mono (sameInts_eq _ _ _ _ _ _ [1] _ (Su10.rd M (.cons _ (.cons _ (.cons _ (.cons _ (Zsq _ _)))))) (M.rdOwn (Zne (i := 0) rfl) rfl rfl) (by omega) (by omega)) ?_
 clear T; rintro e wc ⟨rfl, hb⟩ ac T
 replace M := M.call hb; clear hb
 refine Zso hK _ _ ?_; clear hK K
 refine Zg2 T (Zq (Zr1 rfl (T.e 3 rfl) rfl (T.e 0 rfl))) rfl (Za 0 rfl rfl) rfl ?_; clear T ac; intro ac T
 refine wpList_nil ?_
 replace T := T.pick [0] rfl
 replace M := M.mask [false, false, false, false] rfl
 replace M : Mem w noEx wc ((Iu1 ++ Iu2 ++ Iu3 ++ Iu4 ++ Iu5 ++ Iu7 ++ Iu8 ++ Iu9 ++ Iu10)) := M
 refine Znr ?_
 refine rt_1 T rfl (T.e 0 rfl) ?_
 exact ⟨rfl, M.below⟩
theorem rn_quo {P : Program} {op : Oper} {a : Act} {w : World} {ty ty' : TypeId} {x y : Operand} {p q : Int} (ho : op.op = .binOp .quo ty x y ty') (hx : a.eval x = .int .i64 p) (hy : a.eval y = .int .i64 q) (hq : q ≠ 0) (hb : -9223372036854775808 ≤ p.tdiv q ∧ p.tdiv q ≤ 9223372036854775807) : Runs P op a (.int .i64 (p.tdiv q)) w := by
 refine rn_bin ho hx hy ?_
 rw [eqGuard_quo, binOp_quo]
 unfold Op.intDiv
 rw [if_neg (by simpa using hq)]
 show Result.ok (Value.int .i64 (IntKind.i64.wrap (p.tdiv q))) w = _
 rw [IntWalk.i64_in _ hb]
def mostD (notes : Int) : Int := min 5 ((5 : Int).tdiv (max 1 notes))
theorem tdiv_bd {q : Int} (h : 1 ≤ q) : 0 ≤ (5 : Int).tdiv q ∧ (5 : Int).tdiv q ≤ 5 ∧ (5 : Int).tdiv q * q ≤ 5 := by
 rw [Int.tdiv_eq_ediv_of_nonneg (by omega)]
 refine ⟨Int.ediv_nonneg (by omega) (by omega), ?_, Int.ediv_mul_le 5 (by omega)⟩
 have h1 := Int.ediv_mul_le 5 (show q ≠ 0 by omega)
 have h2 : 0 ≤ 5 / q := Int.ediv_nonneg (by omega) (by omega)
 have h3 : 5 / q * 1 ≤ 5 / q * q := Int.mul_le_mul_of_nonneg_left h h2
 omega
theorem mostD_bd (notes : Int) : 0 ≤ mostD notes ∧ mostD notes ≤ 5 ∧ ∀ k : Int, 0 ≤ k ∧ k ≤ notes → mostD notes * k ≤ 5 := by
 have h := tdiv_bd (q := max 1 notes) (by omega)
 unfold mostD
 refine ⟨by omega, by omega, fun k hk => ?_⟩
 have e : min 5 ((5 : Int).tdiv (max 1 notes)) = (5 : Int).tdiv (max 1 notes) := by omega
 rw [e]
 exact Int.le_trans (Int.mul_le_mul_of_nonneg_left (by omega) h.1) h.2.2
theorem step_bd {notes st k : Int} (hs : -mostD notes ≤ st ∧ st ≤ mostD notes) (hk : 0 ≤ k ∧ k ≤ notes) : -5 ≤ st * k ∧ st * k ≤ 5 := by
 have h := (mostD_bd notes).2.2 k hk
 have h1 : st * k ≤ mostD notes * k := Int.mul_le_mul_of_nonneg_right hs.2 hk.1
 have h2 : -mostD notes * k ≤ st * k := Int.mul_le_mul_of_nonneg_right hs.1 hk.1
 rw [Int.neg_mul] at h2
 omega
structure Lw.made (l : Lw) (notes : Int) : Prop where
 first : 5 ≤ l.first ∧ l.first ≤ 25
 step : -mostD notes ≤ l.step ∧ l.step ≤ mostD notes
 span : 1 ≤ l.span ∧ l.span ≤ 8
 press : 0 ≤ l.press ∧ l.press ≤ 3
def LawPost (bp : Nat) (notes : Int) (w : World) (e : Ending) (w' : World) : Prop := ∃ (l : Lw) (s' : Int), l.made notes ∧ u64ok s' ∧ e = .returned (.agg #[.int .i64 l.first, .int .i64 l.step, .int .i64 l.span, .int .i64 l.press]) ∧ w.grownBy w' (some bp) ∧ Bk w' bp #[.int .u64 s']
def SoundPost (bp : Nat) (w : World) (e : Ending) (w' : World) : Prop := ∃ (x : Snd) (s' : Int), x.good ∧ u64ok s' ∧ e = .returned (.agg #[.int .i64 x.t0, .int .i64 x.t1, .int .i64 x.s0, .int .i64 x.s1]) ∧ w.grownBy w' (some bp) ∧ Bk w' bp #[.int .u64 s']
theorem lawOf_any (s : Int) (bp : Nat) (notes : Int) (w : World) (hn : 0 ≤ notes ∧ notes ≤ 1000) (hp : Bk w bp #[.int .u64 s]) (hs : u64ok s) :
   Calls Tryz.prog 51 #[.pointer (some ⟨bp, 0, none⟩), .int .i64 notes] w (LawPost bp notes w) := by
 have hq := tdiv_bd (q := max 1 notes) (by omega)
 refine Zpx (fun b => b = bp) Tryz.func51 rfl 27 rfl [.pointer (some ⟨bp, 0, none⟩), .int .i64 notes] rfl rfl (Mem.initEx (p := .cells [.int .u64 s]) hp) ?_
 intro ac wc T M
 refine Zsr ?_
 refine Zl2 ?_
 refine Zoa M T rfl rfl rfl rfl ?_; clear M T; intro g1 wc ac M T
 refine Zln ?_
 refine Zsr ?_
 refine lq T (Zrm rfl (T.e 1 rfl)) ?_; clear T ac; intro ac T
 refine Zl2 ?_
 refine Zoc (first := []) (cap := []) T rfl rfl rfl rfl evf (.cons (T.e 0 rfl) (.cons evc (.cons evc .nil))) Tryz.func52 rfl rfl ?_
 refine Calls.mono (within_pot _ bp 5 25 _ (by omega) (by omega) (by omega) (M.nth 1 rfl) hs) ?_
 clear T; rintro e wc ⟨xu1, su1, hxu1, hsu1, rfl, hgr, hbk⟩ ac T
 replace M := M.callC (cs' := [.int .u64 su1]) (.tail .head) hgr hbk
 clear hgr hbk
 refine lq T (Zrm rfl (T.e 3 rfl)) ?_; clear T ac; intro ac T
 refine Zl2 ?_
 refine Zoc (first := []) (cap := []) T rfl rfl rfl rfl evf (.cons (T.e 0 rfl) (.cons evc (.cons evc .nil))) Tryz.func52 rfl rfl ?_
 refine Calls.mono (within_pot _ bp 1 8 _ (by omega) (by omega) (by omega) (M.nth 1 rfl) hsu1) ?_
 clear T; rintro e wc ⟨xu2, su2, hxu2, hsu2, rfl, hgr, hbk⟩ ac T
 replace M := M.callC (cs' := [.int .u64 su2]) (.tail .head) hgr hbk
 clear hgr hbk
 refine lq T (Zrm rfl (T.e 5 rfl)) ?_; clear T ac; intro ac T
 refine Zl2 ?_
 refine Zoc (first := []) (cap := []) T rfl rfl rfl rfl evf (.cons (T.e 0 rfl) (.cons evc .nil)) Tryz.func20 rfl rfl ?_
 refine Calls.mono (upto_any _ bp 3 _ (by omega) (by omega) (M.nth 1 rfl) hsu2) ?_
 clear T; rintro e wc ⟨xu3, su3, hxu3, hsu3, rfl, hgr, hbk⟩ ac T
 replace M := M.callC (cs' := [.int .u64 su3]) (.tail .head) hgr hbk
 clear hgr hbk
 refine lq (v := (.agg #[.int .i64 xu1, .int .i64 0, .int .i64 xu2, .int .i64 xu3])) T (rn_build rfl (.cons (T.e 4 rfl) (.cons (T.e 2 rfl) (.cons (T.e 0 rfl) .nil))) (fun _ => by kernel_rfl)) ?_; clear T ac; intro ac T
 refine Zl2 ?_
 refine Zoa M T rfl rfl rfl rfl ?_; clear M T; intro g2 wc ac M T
 refine Zl2 ?_
 refine Zos M T rfl rfl (T.e 0 rfl) (T.e 1 rfl) rfl .head rfl (by simp) rfl (by kernel_rfl) ?_; clear M T; intro wc ac M T
 replace T := T.pick [0, 8, 9, 10] rfl
 refine Zln ?_
 refine wp_seq ?_
 refine Zsr ?_
 refine Zg5 T (Zq (Zrm rfl (T.e 3 rfl))) rfl (fun _ T => Zq (rn_max2 rfl evc (T.e 0 rfl))) rfl (fun _ T => Zq (rn_quo rfl evc (T.e 0 rfl) (by omega) (by omega))) rfl (fun _ T => Zq (rn_min2 rfl evc (T.e 0 rfl))) rfl (Za 0 rfl rfl) rfl ?_; clear T ac; intro ac T
 replace T := T.pick [0, 5, 6, 7] rfl
 refine Zln ?_
 refine Zsr ?_
 refine Zg2 T (Zq (Zrm rfl (T.e 0 rfl))) rfl (fun _ T => Zq (rn_gtr rfl (T.e 0 rfl) evc)) rfl ?_; clear T ac; intro ac T
 replace T := T.pick [0, 2, 3, 4, 5] rfl
 refine Zln ?_
 refine wp_if (T.e 0 rfl) ?_ ?_
 ·intro h1
  refine wp_region_lit ?_
  refine Zg4 T (Zq (Zrm rfl (T.e 4 rfl))) rfl (Zm 2 rfl rfl) rfl (fun _ T => Zq (rn_neg rfl (T.e 0 rfl) (by omega))) rfl (Zm 4 rfl rfl) rfl ?_; clear T ac; intro ac T
  refine Zl2 ?_
  refine Zoc (first := []) (cap := []) T rfl rfl rfl rfl evf (.cons (T.e 3 rfl) (.cons (T.e 1 rfl) (.cons (T.e 0 rfl) .nil))) Tryz.func52 rfl rfl ?_
  refine Calls.mono (within_pot _ bp (-(min 5 (Int.tdiv 5 (max 1 notes)))) (min 5 (Int.tdiv 5 (max 1 notes))) _ (by omega) (by omega) (by omega) (M.nth 2 rfl) hsu3) ?_
  clear T; rintro e wc ⟨xu4, su4, hxu4, hsu4, rfl, hgr, hbk⟩ ac T
  replace M := M.callC (cs' := [.int .u64 su4]) (.tail (.tail .head)) hgr hbk
  clear hgr hbk
  refine lq (v := (.pointer (some ⟨g2, 1, none⟩))) T (Zrf (off := 1) rfl (T.e 7 rfl) (fun _ _ _ => by kernel_rfl)) ?_; clear T ac; intro ac T
  refine Zl2 ?_
  refine Zos M T rfl rfl (T.e 0 rfl) (T.e 1 rfl) rfl .head rfl (by simp) rfl (by kernel_rfl) ?_; clear M T; intro wc ac M T
  replace T := T.pick [8, 9] rfl
  refine Zln ?_
  refine Zsr ?_
  refine lq T (Zrr (Mem.nth M 0 rfl) rfl (T.e 0 rfl) rfl) ?_; clear T ac; intro ac T
  refine Zl2 ?_
  refine Zos M T rfl rfl (T.e 2 rfl) (T.e 0 rfl) rfl (.tail .head) rfl (by simp) rfl (by kernel_rfl) ?_; clear M T; intro wc ac M T
  refine wpList_nil ?_
  replace T := T.pick [2] rfl
  replace M := M.mask [false, true, true] rfl
  refine Znr ?_
  refine rt_c M T rfl (T.e 0 rfl) (Zne (i := 0) rfl) rfl ?_
  exact ⟨⟨xu1, xu4, xu2, xu3⟩, _, ⟨by (try dsimp only); omega, by (try dsimp only); unfold mostD; omega, by (try dsimp only); omega, by (try dsimp only); omega⟩, hsu4, rfl, M.grown, M.nth 1 rfl⟩
 intro h1
 refine Zsk ?_
 refine Zsr ?_
 refine lq T (Zrr (Mem.nth M 0 rfl) rfl (T.e 2 rfl) rfl) ?_; clear T ac; intro ac T
 refine Zl2 ?_
 refine Zos M T rfl rfl (T.e 4 rfl) (T.e 0 rfl) rfl (.tail .head) rfl (by simp) rfl (by kernel_rfl) ?_; clear M T; intro wc ac M T
 refine wpList_nil ?_
 replace T := T.pick [4] rfl
 replace M := M.mask [false, true, true] rfl
 refine Znr ?_
 refine rt_c M T rfl (T.e 0 rfl) (Zne (i := 0) rfl) rfl ?_
 exact ⟨⟨xu1, 0, xu2, xu3⟩, _, ⟨by (try dsimp only); omega, by (try dsimp only); unfold mostD; omega, by (try dsimp only); omega, by (try dsimp only); omega⟩, hsu3, rfl, M.grown, M.nth 1 rfl⟩
theorem soundOf_any (s : Int) (bp : Nat) (tone wide : Int) (w : World) (ht : -1000 ≤ tone ∧ tone ≤ 1000) (hw : 0 ≤ wide ∧ wide ≤ 40) (hp : Bk w bp #[.int .u64 s]) (hs : u64ok s) :
  Calls Tryz.prog 53 #[.pointer (some ⟨bp, 0, none⟩), .int .i64 tone, .int .i64 wide] w (SoundPost bp w) := by
 refine Zpx (fun b => b = bp) Tryz.func53 rfl 24 rfl [.pointer (some ⟨bp, 0, none⟩), .int .i64 tone, .int .i64 wide] rfl rfl (Mem.initEx (p := .cells [.int .u64 s]) hp) ?_
 intro ac wc T M
 refine Zsr ?_
 refine Zl2 ?_
 refine Zoa M T rfl rfl rfl rfl ?_; clear M T; intro g1 wc ac M T
 refine Zln ?_
 refine Zsr ?_
 refine Zg3 T (Zq (Zrm rfl (T.e 2 rfl))) rfl (fun _ T => Zq (rn_min2 rfl evc (T.e 0 rfl))) rfl (fun _ T => Zq (rn_max2 rfl evc (T.e 0 rfl))) rfl ?_; clear T ac; intro ac T
 refine l_q (v := (.int .i64 (max (-30) (min 30 tone)))) (T.pick [0, 1, 2, 3, 4, 6] rfl) rfl rfl rfl rfl (Zra rfl (T.e 0 rfl)) ?_; clear T ac; intro ac T
 replace T := T.pick [0, 4, 5, 6] rfl
 refine Zln ?_
 refine Zsr ?_
 refine Zg3 T (Zq (Zrm rfl (T.e 2 rfl))) rfl (Zm 1 rfl rfl) rfl (Zm 5 rfl rfl) rfl ?_; clear T ac; intro ac T
 refine Zl2 ?_
 refine Zoc (first := []) (cap := []) T rfl rfl rfl rfl evf (.cons (T.e 2 rfl) (.cons (T.e 1 rfl) (.cons evc (.cons evc (.cons (T.e 0 rfl) .nil))))) Tryz.func102 rfl rfl ?_
 refine Calls.mono (near_pot _ bp (max (-30) (min 30 tone)) (-30) 30 wide _ (by omega) (by omega) (by omega) (by omega) (by omega) (by omega) (M.nth 1 rfl) hs) ?_
 clear T; rintro e wc ⟨xu1, yu1, su1, hxu1, hsu1, rfl, hgr, hbk⟩ ac T
 replace M := M.callC (cs' := [.int .u64 su1]) (.tail .head) hgr hbk
 clear hgr hbk
 refine Zg3 T (Zq (Zrm rfl (T.e 6 rfl))) rfl (Zm 7 rfl rfl) rfl (Zm 8 rfl rfl) rfl ?_; clear T ac; intro ac T
 refine Zl2 ?_
 refine Zoc (first := []) (cap := []) T rfl rfl rfl rfl evf (.cons (T.e 0 rfl) (.cons evc (.cons evc .nil))) Tryz.func52 rfl rfl ?_
 refine Calls.mono (within_pot _ bp (-2) 2 _ (by omega) (by omega) (by omega) (M.nth 1 rfl) hsu1) ?_
 clear T; rintro e wc ⟨xu2, su2, hxu2, hsu2, rfl, hgr, hbk⟩ ac T
 replace M := M.callC (cs' := [.int .u64 su2]) (.tail .head) hgr hbk
 clear hgr hbk
 refine Zl2 ?_
 refine ow_bs (e := 3) [.int .i64 0, .int .i64 0, .int .i64 xu2] M T rfl rfl rfl rfl (.cons evc (.cons evc (.cons (T.e 0 rfl) .nil))) (fun _ => by kernel_rfl) ?_; clear M T; intro g2 wc ac M T
 refine Zl2 ?_
 refine Zoc (first := []) (cap := []) T rfl rfl rfl rfl evf (.cons (T.e 3 rfl) (.cons (T.e 0 rfl) .nil)) Tryz.func103 rfl rfl ?_
 refine Calls.mono (of_any _ bp _ 3 3 [0, 0, xu2] _ (M.rdOwn (Zne (i := 0) rfl) rfl rfl) (M.nee 0 2 rfl rfl rfl) (by decide) (by decide) (M.nth 2 rfl) hsu2) ?_
 clear T; rintro e wc ⟨xu3, su3, hxu3, hsu3, rfl, hgr, hbk⟩ ac T
 replace M := M.callC (cs' := [.int .u64 su3]) (.tail (.tail .head)) hgr hbk
 clear hgr hbk
 simp only [List.mem_cons, List.not_mem_nil, or_false] at hxu3
 refine Zg2 T (Zq (Zrm rfl (T.e 13 rfl))) rfl (fun _ T => Zq (rn_min2 rfl (T.e 0 rfl) evc)) rfl ?_; clear T ac; intro ac T
 refine Zl2 ?_
 refine Zoc (first := []) (cap := []) T rfl rfl rfl rfl evf (.cons (T.e 7 rfl) (.cons (T.e 2 rfl) (.cons evc (.cons evc (.cons (T.e 0 rfl) .nil))))) Tryz.func102 rfl rfl ?_
 refine Calls.mono (near_pot _ bp xu3 (-3) 3 (min wide 1) _ (by omega) (by omega) (by omega) (by omega) (by omega) (by omega) (M.nth 2 rfl) hsu3) ?_
 clear T; rintro e wc ⟨xu4, yu4, su4, hxu4, hsu4, rfl, hgr, hbk⟩ ac T
 replace M := M.callC (cs' := [.int .u64 su4]) (.tail (.tail .head)) hgr hbk
 clear hgr hbk
 refine lq (v := (.agg #[.int .i64 xu1, .int .i64 yu1, .int .i64 xu4, .int .i64 yu4])) T (rn_build rfl (.cons (T.e 9 rfl) (.cons (T.e 0 rfl) .nil)) (fun _ => by kernel_rfl)) ?_; clear T ac; intro ac T
 refine Zl2 ?_
 refine Zos M T rfl rfl (T.e 15 rfl) (T.e 0 rfl) rfl (.tail .head) rfl (by simp) rfl (by kernel_rfl) ?_; clear M T; intro wc ac M T
 refine wpList_nil ?_
 replace T := T.pick [15] rfl
 replace M := M.mask [false, true, true] rfl
 refine Znr ?_
 refine rt_c M T rfl (T.e 0 rfl) (Zne (i := 0) rfl) rfl ?_
 exact ⟨⟨xu1, yu1, xu4, yu4⟩, _, ⟨by (try dsimp only); omega, by (try dsimp only); omega⟩, hsu4, rfl, M.grown, M.nth 1 rfl⟩
theorem Mem.joinW {w0 w w' : World} {ex : Nat → Prop} {L L' I : List (Nat × BA)} {g : Nat} {p p' : BA} (M : Mem w0 ex w L) (hu : Upd L g p p' L') (N : Mem w (fun b => b = g) w' (I ++ [(g, p')])) : Mem w0 ex w' (I ++ L') := by
 have hg := M.blk _ hu.mem
 have hgl := BA.lt hg.2
 have hnd := N.nd
 rw [List.map_append] at hnd
 obtain ⟨n1, n2, n3⟩ := List.nodup_append.1 hnd
 have hI : ∀ q ∈ I, w.heap.size ≤ q.1 := fun q hq => by
  rcases (N.blk q (List.mem_append_left _ hq)).1 with h | h
  ·exact h
  ·exact absurd h (n3 q.1 (List.mem_map.2 ⟨q, hq, rfl⟩) g (by simp))
 refine ⟨N.os.trans M.os, N.tape.trans M.tape, N.output.trans M.output, Nat.le_trans M.size N.size, fun b hb hx => ?_, fun q hq => ?_, ?_⟩
 ·refine (N.block b (Nat.lt_of_lt_of_le hb M.size) fun e => ?_).trans (M.block b hb hx)
  have e : b = g := e
  subst e
  rcases hg.1 with h | h
  ·have h : w0.heap.size ≤ b := h
   omega
  ·exact hx h
 ·rcases List.mem_append.1 hq with hq | hq
  ·exact ⟨.inl (Nat.le_trans M.size (hI q hq)), (N.blk q (List.mem_append_left _ hq)).2⟩
  ·rcases hu.all M.nd q hq with rfl | ⟨h1, h2⟩
   ·exact ⟨hg.1, (N.blk _ (List.mem_append_right _ Zz2)).2⟩
   ·have h3 := M.blk q h1
    exact ⟨h3.1, BA.same h3.2 N.size (N.block _ (BA.lt h3.2) h2)⟩
 ·rw [List.map_append, hu.keys]
  refine List.nodup_append.2 ⟨n1, M.nd, fun a ha b hb e => ?_⟩
  obtain ⟨q, hq, rfl⟩ := List.mem_map.1 ha
  obtain ⟨r, hr, rfl⟩ := List.mem_map.1 hb
  have h1 := hI q hq
  have h2 := BA.lt (M.blk r hr).2
  omega
structure Bx.made (b : Bx) (lo hi : Int) : Prop where
 law : b.law.made 3
 note : 0 ≤ b.note ∧ b.note ≤ 3
 nlo : (b.lows.length : Int) ≤ lo
 nhi : (b.highs.length : Int) ≤ hi
 good : b.good
theorem boxMade {b : Bx} {j : Jb} {lo hi : Int} (hl : b.law.made 3) (hn : 0 ≤ b.note ∧ b.note ≤ 3) (hlo : (b.lows.length : Int) ≤ lo ∧ b.lows.length ≤ 4) (hhi : (b.highs.length : Int) ≤ hi ∧ b.highs.length ≤ 5) (gl : ∀ x ∈ b.lows, x.good) (gh : ∀ x ∈ b.highs, x.good) (hme : 0 ≤ b.me ∧ b.me ≤ 1)
  (hj : j.made 0 1) (e : b.t0 = j.t0 ∧ b.t1 = j.t1 ∧ b.r0 = j.r0 ∧ b.r1 = j.r1 ∧ b.u0 = j.u0 ∧ b.u1 = j.u1 ∧ b.d0 = j.d0 ∧ b.d1 = j.d1 ∧ b.a0 = j.a0 ∧ b.a1 = j.a1 ∧ b.b0 = j.b0 ∧ b.b1 = j.b1 ∧ b.le = j.le) : b.made lo hi := by
 have gj := hj.good
 have hs := step_bd (notes := 3) hl.step hn
 have h1 := hl.first
 have h2 := hl.step
 have h3 := hl.span
 have h4 := hl.press
 have h5 := mostD_bd 3
 dsimp only at h1 h2 h3 h4 hs
 refine ⟨hl, hn, hlo.1, hhi.1, ⟨⟨by dsimp only; omega, by dsimp only; omega, by dsimp only; omega, by dsimp only; omega⟩, by omega, by unfold Bx.due; omega, ⟨hlo.2, gl⟩, ⟨hhi.2, gh⟩, check_of_good ?_⟩⟩
 obtain ⟨e1, e2, e3, e4, e5, e6, e7, e8, e9, e10, e11, e12, e13⟩ := e
 have k1 := gj.t
 have k2 := gj.r
 have k3 := gj.u
 have k4 := gj.d
 have k5 := gj.a
 have k6 := gj.b
 have k7 := gj.le
 exact ⟨by show (-60 : Int) ≤ 0 ∧ (0 : Int) ≤ 0 ∧ (0 : Int) ≤ 60; omega, by show 0 ≤ b.t0 ∧ b.t0 ≤ b.t1 ∧ b.t1 ≤ 100; omega, by show 0 ≤ b.r0 ∧ b.r0 ≤ b.r1 ∧ b.r1 ≤ 100; omega, by show 0 ≤ b.u0 ∧ b.u0 ≤ b.u1 ∧ b.u1 ≤ 12; omega, by show 0 ≤ b.d0 ∧ b.d0 ≤ b.d1 ∧ b.d1 ≤ 12; omega, by show 0 ≤ b.a0 ∧ b.a0 ≤ b.a1 ∧ b.a1 ≤ 12; omega, by show 0 ≤ b.b0 ∧ b.b0 ≤ b.b1 ∧ b.b1 ≤ 12; omega, by show 0 ≤ b.le ∧ b.le ≤ 100; omega, by show ([] : List (Int × Int)).length ≤ 4; simp, fun p hp => (by cases hp), by show 0 ≤ b.span ∧ b.span ≤ 60; omega, by show 0 ≤ b.me ∧ b.me ≤ 6; omega⟩
def BoxOfPost (bp : Nat) (lo hi : Int) (w : World) (e : Ending) (w' : World) : Prop :=
 ∃ (b : Bx) (A : Option Addr) (c : Nat) (B : Option Addr) (d : Nat) (s : Int) (I : List (Nat × BA)), e = .returned (bxV b A c B d) ∧ b.made lo hi ∧ u64ok s ∧ (∃ b1 o1, ∀ (w : World) (ex : Nat → Prop), Sp w ex I A b.lows.length 4 b1 o1 (sc b.lows)) ∧ (∃ b1 o1, ∀ (w : World) (ex : Nat → Prop), Sp w ex I B b.highs.length 4 b1 o1 (sc b.highs)) ∧ Mem w (fun b => b = bp) w' (I ++ [(bp, .cells [.int .u64 s])])
theorem boxOf_any (s : Int) (bp : Nat) (nlo nhi wide : Int) (w : World) (hlo : 0 ≤ nlo ∧ nlo ≤ 40) (hhi : 0 ≤ nhi ∧ nhi ≤ 40) (hw : 0 ≤ wide ∧ wide ≤ 40) (hp : Bk w bp #[.int .u64 s]) (hs : u64ok s) :
   Calls Tryz.prog 7 #[.pointer (some ⟨bp, 0, none⟩), .int .i64 nlo, .int .i64 nhi, .int .i64 wide] w (BoxOfPost bp nlo nhi w) := by
 refine Zpx (fun b => b = bp) Tryz.func7 rfl 115 rfl [.pointer (some ⟨bp, 0, none⟩), .int .i64 nlo, .int .i64 nhi, .int .i64 wide] rfl rfl (Mem.initEx (p := .cells [.int .u64 s]) hp) ?_
 intro ac wc T M
 refine Zsr ?_
 refine Zl2 ?_
 refine Zoa M T rfl rfl rfl rfl ?_; clear M T; intro g1 wc ac M T
 refine Zln ?_
 refine Zsr ?_
 refine lq T (Zrm rfl (T.e 1 rfl)) ?_; clear T ac; intro ac T
 refine Zl2 ?_
 refine Zoc (first := []) (cap := []) T rfl rfl rfl rfl evf (.cons (T.e 0 rfl) (.cons evc .nil)) Tryz.func51 rfl rfl ?_
 refine Calls.mono (lawOf_any _ bp 3 _ (by omega) (M.nth 1 rfl) hs) ?_
 clear T; rintro e wc ⟨lu1, su1, hlu1, hsu1, rfl, hgr, hbk⟩ ac T
 replace M := M.callC (cs' := [.int .u64 su1]) (.tail .head) hgr hbk
 clear hgr hbk
 have hlfu1 := hlu1.first
 have hlsu1 := hlu1.step
 have hlpu1 := hlu1.span
 have hlqu1 := hlu1.press
 have hmdu1 := mostD_bd 3
 refine lq T (Zrm rfl (T.e 3 rfl)) ?_; clear T ac; intro ac T
 refine Zl2 ?_
 refine Zoc (first := []) (cap := []) T rfl rfl rfl rfl evf (.cons (T.e 0 rfl) (.cons evc .nil)) Tryz.func20 rfl rfl ?_
 refine Calls.mono (upto_any _ bp 3 _ (by omega) (by omega) (M.nth 1 rfl) hsu1) ?_
 clear T; rintro e wc ⟨xu2, su2, hxu2, hsu2, rfl, hgr, hbk⟩ ac T
 replace M := M.callC (cs' := [.int .u64 su2]) (.tail .head) hgr hbk
 clear hgr hbk
 have hst := step_bd (notes := 3) (k := xu2) hlu1.step (by omega)
 refine lq T (Zrm rfl (T.e 5 rfl)) ?_; clear T ac; intro ac T
 refine Zl2 ?_
 refine Zoc (first := []) (cap := []) T rfl rfl rfl rfl evf (.cons (T.e 0 rfl) (.cons evc .nil)) Tryz.func20 rfl rfl ?_
 refine Calls.mono (upto_any _ bp 1 _ (by omega) (by omega) (M.nth 1 rfl) hsu2) ?_
 clear T; rintro e wc ⟨xu3, su3, hxu3, hsu3, rfl, hgr, hbk⟩ ac T
 replace M := M.callC (cs' := [.int .u64 su3]) (.tail .head) hgr hbk
 clear hgr hbk
 refine lq (v := (.agg #[.int .i64 lu1.first, .int .i64 lu1.step, .int .i64 lu1.span, .int .i64 lu1.press, .int .i64 xu2, .slice none 0 0, .slice none 0 0, .int .i64 0, .int .i64 0, .int .i64 0, .int .i64 0, .int .i64 0, .int .i64 0, .int .i64 0, .int .i64 0, .int .i64 0, .int .i64 0, .int .i64 0, .int .i64 0, .int .i64 0, .int .i64 xu3])) T (rn_build rfl (.cons (T.e 4 rfl) (.cons (T.e 2 rfl) (.cons (T.e 0 rfl) .nil))) (fun _ => by kernel_rfl)) ?_; clear T ac; intro ac T
 refine Zl2 ?_
 refine Zoa M T rfl rfl rfl rfl ?_; clear M T; intro g2 wc ac M T
 refine Zl2 ?_
 refine Zos M T rfl rfl (T.e 0 rfl) (T.e 1 rfl) rfl .head rfl (by simp) rfl (by kernel_rfl) ?_; clear M T; intro wc ac M T
 replace T := T.pick [0, 8, 9, 10, 11, 12] rfl
 refine Zln ?_
 refine Zsr ?_
 refine Zg8 (v1 := (.pointer (some ⟨g2, 0, none⟩))) (v2 := (.pointer (some ⟨g2, 0, none⟩))) (v4 := (.pointer (some ⟨g2, 0, none⟩))) (v5 := (.pointer (some ⟨g2, 1, none⟩))) (v7 := (.pointer (some ⟨g2, 4, none⟩))) T (Zq (Zrf (off := 0) rfl (T.e 0 rfl) (fun _ _ _ => by kernel_rfl))) rfl (Zf 0 0 rfl rfl) rfl (Zo M 0 0 rfl rfl rfl rfl) rfl (Zf 0 3 rfl rfl) rfl (Zf 1 0 rfl rfl) rfl (Zo M 0 0 rfl rfl rfl rfl) rfl (Zf 4 6 rfl rfl) rfl (Zo M 0 0 rfl rfl rfl rfl) rfl ?_; clear T ac; intro ac T
 refine Zg3 T (Zq (rn_mul rfl (T.e 2 rfl) (T.e 0 rfl) (by omega))) rfl (fun _ T => Zq (rn_add rfl (T.e 6 rfl) (T.e 0 rfl) (by omega))) rfl (Za 0 rfl rfl) rfl ?_; clear T ac; intro ac T
 replace T := T.pick [0, 11, 12, 13, 14, 15, 16] rfl
 refine Zln ?_
 refine Zsr ?_
 refine lq T (Zra rfl evc) ?_; clear T ac; intro ac T
 refine Zln ?_
 refine wp_seq ?_
 refine Zsr ?_
 refine Zg3 T (Zq (Zrm rfl (T.e 4 rfl))) rfl (Zm 6 rfl rfl) rfl (fun _ T => Zq (rn_min2 rfl (T.e 0 rfl) evc)) rfl ?_; clear T ac; intro ac T
 refine Zl2 ?_
 refine Zoc (first := []) (cap := []) T rfl rfl rfl rfl evf (.cons (T.e 2 rfl) (.cons (T.e 0 rfl) .nil)) Tryz.func20 rfl rfl ?_
 refine Calls.mono (upto_any _ bp (min nlo 4) _ (by omega) (by omega) (M.nth 2 rfl) hsu3) ?_
 clear T; rintro e wc ⟨xu4, su4, hxu4, hsu4, rfl, hgr, hbk⟩ ac T
 replace M := M.callC (cs' := [.int .u64 su4]) (.tail (.tail .head)) hgr hbk
 clear hgr hbk
 refine lq T (Zra rfl (T.e 0 rfl)) ?_; clear T ac; intro ac T
 replace T := T.pick [0, 5, 6, 7, 8, 9, 11, 12] rfl
 refine Zln ?_
 refine wp_block ?_
 refine wp_loop_n (fun mz ac wc => ∃ (i : Int) (ol : List Snd) (A3 : Option Addr) (c3 : Nat) (tn : List Int) (A4 : Option Addr) (c4 : Nat) (s : Int) (Ii Io : List (Nat × BA)), mz = i.toNat ∧ (0 ≤ i) ∧ ((ol.length : Int) + i = xu4) ∧ (tn.length = ol.length) ∧ (∀ z ∈ ol, z.good) ∧ (∀ z ∈ tn, -6 ≤ z ∧ z ≤ 6) ∧ (u64ok s) ∧ (Sl 32 4 (.slice A3 ol.length c3) ol.length (sc ol) Io) ∧ (Sl 3 1 (.slice A4 tn.length c4) tn.length (ic tn) Ii) ∧ Tm ac 115 [(0, .pointer (some ⟨bp, 0, none⟩)), (2, .int .i64 nhi), (3, .int .i64 wide), (8, .pointer (some ⟨g1, 0, none⟩)), (9, .pointer (some ⟨g2, 0, none⟩)), (10, .int .i64 (lu1.first + (lu1.step * xu2))), (11, .slice A4 tn.length c4), (12, .int .i64 i)] ∧ Mem w (fun b => b = bp) wc ((g2, .cells [.int .i64 lu1.first, .int .i64 lu1.step, .int .i64 lu1.span, .int .i64 lu1.press, .int .i64 xu2, .slice A3 ol.length c3, .slice none 0 0, .int .i64 0, .int .i64 0, .int .i64 0, .int .i64 0, .int .i64 0, .int .i64 0, .int .i64 0, .int .i64 0, .int .i64 0, .int .i64 0, .int .i64 0, .int .i64 0, .int .i64 0, .int .i64 xu3]) :: (g1, .cells [.int .i64 0, .int .i64 0, .int .i64 0, .int .i64 0, .int .i64 0, .slice none 0 0, .slice none 0 0, .int .i64 0, .int .i64 0, .int .i64 0, .int .i64 0, .int .i64 0, .int .i64 0, .int .i64 0, .int .i64 0, .int .i64 0, .int .i64 0, .int .i64 0, .int .i64 0, .int .i64 0, .int .i64 0]) :: (bp, .cells [.int .u64 s]) :: (Ii ++ Io))) ?_ ?_
 ·exact ⟨_, _, [], none, 0, [], none, 0, _, [], [], rfl, (by omega), (by simp), rfl, (fun z hz => by cases hz), (fun z hz => by cases hz), hsu4, (Sl.nil _ _), (Sl.nil _ _), T.pick [5, 6, 7, 4, 3, 2, 1, 0] rfl, M.mask [true, true, true] rfl⟩
 clear T M
 rintro mz ac wc ⟨i, ol, A3, c3, tn, A4, c4, s, Ii, Io, hmm1, hi, hol, htl, hgo, htn, hs, hsl, hsm, T, M⟩
 refine wp_seq ?_
 refine Zsr ?_
 refine Zg2 T (Zq (Zrm rfl (T.e 7 rfl))) rfl (fun _ T => Zq (rn_gtr rfl (T.e 0 rfl) evc)) rfl ?_; clear T ac; intro ac T
 replace T := T.pick [0, 2, 3, 4, 5, 6, 7, 8, 9] rfl
 refine Zln ?_
 refine wp_if (T.e 0 rfl) ?_ ?_
 ·intro h1
  refine Zsk ?_
  refine wp_seq ?_
  refine wp_block ?_
  refine Zsr ?_
  refine lq T (Zrm rfl (T.e 1 rfl)) ?_; clear T ac; intro ac T
  refine Zl2 ?_
  refine Zoc (first := []) (cap := []) T rfl rfl rfl rfl evf (.cons (T.e 0 rfl) (.cons evc (.cons evc .nil))) Tryz.func52 rfl rfl ?_
  refine Calls.mono (within_pot _ bp (-6) 6 _ (by omega) (by omega) (by omega) (M.nth 2 rfl) hs) ?_
  clear T; rintro e wc ⟨xu5, su5, hxu5, hsu5, rfl, hgr, hbk⟩ ac T
  replace M := M.callC (cs' := [.int .u64 su5]) (.tail (.tail .head)) hgr hbk
  clear hgr hbk
  refine lq T (Zra rfl (T.e 0 rfl)) ?_; clear T ac; intro ac T
  replace T := T.pick [0, 4, 5, 6, 7, 8, 9, 10, 11] rfl
  refine Zln ?_
  refine Zgs M (M.perm [1] rfl rfl) 15 (by kernel_rfl) rfl (by kernel_rfl) ?_
  clear M; intro wc M
  refine g_addG 5 (M.perm [0, 1, 2] rfl rfl) ?_
  refine g_addG 13 (M.perm [0, 1] rfl rfl) ?_
  refine gq (v := (.pointer (some ⟨g2, 5, none⟩))) T 0 1 rfl (fun _ _ _ _ _ => (Zrf (off := 5) rfl (T.e 5 rfl) (fun _ _ _ => by kernel_rfl))) ?_; clear T ac; intro ac T
  refine gq T 1 3 rfl (fun B w' hD hl hS => (Zro (Mem.nth (show Mem w (fun b => b = bp) w' _ from ((MA.lft hS) (hD.wait (i := 1) (m := 13) (by kernel_rfl) hl))) 0 rfl) rfl (T.e 0 rfl) rfl)) ?_; clear T ac; intro ac T
  refine gq T 2 7 rfl (fun _ _ _ _ _ => (Zrm rfl (T.e 3 rfl))) ?_; clear T ac; intro ac T
  refine gq T 3 15 rfl (fun _ _ _ _ _ => (Zrm rfl (T.e 3 rfl))) ?_; clear T ac; intro ac T
  refine gq T 4 31 rfl (fun _ _ _ _ _ => (Zrm rfl (T.e 7 rfl))) ?_; clear T ac; intro ac T
  refine gq T 8 287 rfl (fun _ _ _ _ _ => (Zrm rfl (T.e 12 rfl))) ?_; clear T ac; intro ac T
  refine gq T 9 799 rfl (fun _ _ _ _ _ => (Zrm rfl (T.e 6 rfl))) ?_; clear T ac; intro ac T
  refine g_m2 (i := 5) (j := 10) (by kernel_rfl) ?_ ?_
  ·refine gi 831 ?_; intro K hK
   refine Zoc (first := []) (cap := []) T rfl rfl rfl rfl evf (.cons (T.e 4 rfl) (.cons (T.e 3 rfl) (.cons (T.e 2 rfl) .nil))) Tryz.func53 rfl rfl ?_
   refine Calls.mono (soundOf_any _ bp xu5 wide _ (by omega) (by omega) (M.nth 2 rfl) hsu5) ?_
   clear T; rintro e wc ⟨xur8_5, sur8_5, hxur8_5, hsur8_5, rfl, hgr, hbk⟩ ac T
   replace M := M.callC (cs' := [.int .u64 sur8_5]) (.tail (.tail .head)) hgr hbk
   clear hgr hbk
   refine Zso hK _ _ (MA.mk (fun _ => M.perm [0, 1] rfl rfl) (MA.mk (fun h => (no_of (by kernel_rfl) h).elim) (M.perm [1] rfl rfl))) ?_; clear hK K
   refine g_m2 (i := 6) (j := 10) (by kernel_rfl) ?_ ?_
   ·refine gi 895 ?_; intro K hK
    refine ow_bs (e := 32) [.int .i64 xur8_5.t0, .int .i64 xur8_5.t1, .int .i64 xur8_5.s0, .int .i64 xur8_5.s1] M T rfl rfl rfl rfl (.cons (T.e 0 rfl) .nil) (fun _ => by kernel_rfl) ?_; clear M T; intro gr8_6 wc ac M T
    refine Zso hK _ _ (MA.mk (fun _ => M.perm [1, 2] rfl rfl) (MA.mk (fun h => (no_of (by kernel_rfl) h).elim) (M.perm [2] rfl rfl))) ?_; clear hK K
    refine g_m2 (i := 7) (j := 10) (by kernel_rfl) ?_ ?_
    ·refine gi 1023 ?_; intro K hK
     refine ow_app (((gr8_6, .cells [.int .i64 xur8_5.t0, .int .i64 xur8_5.t1, .int .i64 xur8_5.s0, .int .i64 xur8_5.s1]) :: (g2, .cells [.int .i64 lu1.first, .int .i64 lu1.step, .int .i64 lu1.span, .int .i64 lu1.press, .int .i64 xu2, .slice A3 ol.length c3, .slice none 0 0, .int .i64 0, .int .i64 0, .int .i64 0, .int .i64 0, .int .i64 0, .int .i64 0, .int .i64 0, .int .i64 0, .int .i64 0, .int .i64 0, .int .i64 0, .int .i64 0, .int .i64 0, .int .i64 xu3]) :: (g1, .cells [.int .i64 0, .int .i64 0, .int .i64 0, .int .i64 0, .int .i64 0, .slice none 0 0, .slice none 0 0, .int .i64 0, .int .i64 0, .int .i64 0, .int .i64 0, .int .i64 0, .int .i64 0, .int .i64 0, .int .i64 0, .int .i64 0, .int .i64 0, .int .i64 0, .int .i64 0, .int .i64 0, .int .i64 0]) :: (bp, .cells [.int .u64 sur8_5]) :: Ii)) Tryz.info32 hsl M (by first | rfl | simp) T rfl rfl rfl rfl Tryz.underlying24 rfl rfl rfl (by omega) (T.e 7 rfl) (T.e 0 rfl) (Zne (i := 0) rfl) rfl rfl ?_; clear M T; intro ga1 cga1 wc ac M T
     refine Zso hK _ _ (MA.mk (fun _ => M.perm [2, 3] rfl rfl) (MA.mk (fun h => (no_of (by kernel_rfl) h).elim) (M.perm [3] rfl rfl))) ?_; clear hK K
     refine gq (v := (.pointer (some ⟨g2, 5, none⟩))) T 12 5119 rfl (fun _ _ _ _ _ => (Zrf (off := 5) rfl (T.e 15 rfl) (fun _ _ _ => by kernel_rfl))) ?_; clear T ac; intro ac T
     refine gw 10 6143 ?_; intro K hK
     refine ow_bs (e := 3) [.int .i64 xu5] M T rfl rfl rfl rfl (.cons (T.e 4 rfl) .nil) (fun _ => by kernel_rfl) ?_; clear M T; intro gr8_10 wc ac M T
     refine Zso hK _ _ (MA.mk (fun _ => M.perm [3, 4] rfl rfl) (MA.mk (fun h => (no_of (by kernel_rfl) h).elim) (M.perm [4] rfl rfl))) ?_; clear hK K
     refine gw 11 8191 ?_; intro K hK
     refine ow_app ([(gr8_10, .cells [.int .i64 xu5]), (ga1, .row 32 4 (ol.length + 1) ((sc ol) ++ [.int .i64 xur8_5.t0, .int .i64 xur8_5.t1, .int .i64 xur8_5.s0, .int .i64 xur8_5.s1]) cga1), (gr8_6, .cells [.int .i64 xur8_5.t0, .int .i64 xur8_5.t1, .int .i64 xur8_5.s0, .int .i64 xur8_5.s1]), (g2, .cells [.int .i64 lu1.first, .int .i64 lu1.step, .int .i64 lu1.span, .int .i64 lu1.press, .int .i64 xu2, .slice A3 ol.length c3, .slice none 0 0, .int .i64 0, .int .i64 0, .int .i64 0, .int .i64 0, .int .i64 0, .int .i64 0, .int .i64 0, .int .i64 0, .int .i64 0, .int .i64 0, .int .i64 0, .int .i64 0, .int .i64 0, .int .i64 xu3]), (g1, .cells [.int .i64 0, .int .i64 0, .int .i64 0, .int .i64 0, .int .i64 0, .slice none 0 0, .slice none 0 0, .int .i64 0, .int .i64 0, .int .i64 0, .int .i64 0, .int .i64 0, .int .i64 0, .int .i64 0, .int .i64 0, .int .i64 0, .int .i64 0, .int .i64 0, .int .i64 0, .int .i64 0, .int .i64 0]), (bp, .cells [.int .u64 sur8_5])]) Tryz.info3 hsm M (by first | rfl | simp) T rfl rfl rfl rfl Tryz.underlying33 rfl rfl rfl (by omega) (T.e 6 rfl) (T.e 0 rfl) (Zne (i := 0) rfl) rfl rfl ?_; clear M T; intro ga2 cga2 wc ac M T
     refine Zso hK _ _ (MA.mk (fun _ => M.mask [false, false, false, false, true, true, false] rfl) (MA.mk (fun h => (no_of (by kernel_rfl) h).elim) (M.mask [false, false, false, false, false, true, false] rfl))) ?_; clear hK K
     refine gw 13 16383 ?_; intro K hK
     refine Zos M T rfl rfl (T.e 2 rfl) (T.e 3 rfl) rfl (.tail (.tail (.tail (.tail .head)))) rfl (by simp) rfl (by kernel_rfl) ?_; clear M T; intro wc ac M T
     refine Zso hK _ _ (MA.mk (fun h => (no_of (by kernel_rfl) h).elim) (MA.mk (fun h => (no_of (by kernel_rfl) h).elim) (M.mask [false, false, false, false, false, true, false] rfl))) ?_; clear hK K
     refine g_q (v := (.slice (some ⟨ga2, 0, none⟩) (tn.length + 1) cga2)) (T := T.pick [0, 1, 2, 3, 4, 5, 6, 7, 8, 9, 10, 11, 12, 13, 14, 15, 16, 17, 18, 19, 21] rfl) (i := 14) rfl (by kernel_rfl) (by kernel_rfl : (Zpb 15 16383).setIfInBounds 14 true = Zpb 15 32767) (si_and (si_G rfl) (si_and (si_G rfl) si_U)) (fun _ _ _ h => h) rfl rfl rfl rfl (fun _ _ _ _ _ => (Zra rfl (T.e 0 rfl))) ?_; clear T ac; intro ac T
     refine Zgd (by kernel_rfl) ?_
     replace T := T.pick [0, 15, 16, 17, 18, 19, 20, 21] rfl
     replace M := M.mask [true, false, true, false, true, true, true] rfl
     refine Znb ?_
     refine nm_then ?_
     refine wp_region_lit ?_
     refine Zg2 T (Zq (Zrm rfl (T.e 7 rfl))) rfl (fun _ T => Zq (rn_sub rfl (T.e 0 rfl) evc (by omega))) rfl ?_; clear T ac; intro ac T
     refine l_q (v := (.int .i64 (i - 1))) (T.pick [0, 1, 2, 3, 4, 5, 6, 7, 8] rfl) rfl rfl rfl rfl (Zra rfl (T.e 0 rfl)) ?_; clear T ac; intro ac T
     replace T := T.pick [0, 3, 4, 5, 6, 7, 8, 9] rfl
     refine Zln ?_
     have e9a : ol.length + 1 = (ol ++ [xur8_5]).length := by simp
     have e8a : ((sc ol) ++ [.int .i64 xur8_5.t0, .int .i64 xur8_5.t1, .int .i64 xur8_5.s0, .int .i64 xur8_5.s1]) = sc (ol ++ [xur8_5]) := by rw [← sc_snoc]
     rw [e9a, e8a] at M
     (try rw [e9a] at T)
     have e9b : tn.length + 1 = (tn ++ [xu5]).length := by simp
     have e8b : ((ic tn) ++ [.int .i64 xu5]) = ic (tn ++ [xu5]) := by rw [← ic_snoc]
     rw [e9b, e8b] at M
     (try rw [e9b] at T)
     exact ⟨_, by omega, (i - 1), (ol ++ [xur8_5]), _, _, (tn ++ [xu5]), _, _, sur8_5, [(ga2, .row 3 1 (tn ++ [xu5]).length (ic (tn ++ [xu5])) cga2)], [(ga1, .row 32 4 (ol ++ [xur8_5]).length (sc (ol ++ [xur8_5])) cga1)], rfl, (by omega), (by simp only [List.length_append, List.length_cons, List.length_nil]; omega), (by simp only [List.length_append, List.length_cons, List.length_nil]; omega), (fun z hz => by rcases List.mem_append.1 hz with h9 | h9; exact hgo z h9; simp only [List.mem_cons, List.not_mem_nil, or_false] at h9; subst h9; exact hxur8_5), (fun z hz => by rcases List.mem_append.1 hz with h9 | h9; exact htn z h9; simp only [List.mem_cons, List.not_mem_nil, or_false] at h9; subst h9; omega), hsur8_5, (Sl.row _ _ _ _ _ _), (Sl.row _ _ _ _ _ _), T.pick [2, 3, 4, 5, 6, 7, 1, 0] rfl, M.perm [2, 3, 4, 0, 1] rfl rfl⟩
    refine gi 1919 ?_; intro K hK
    refine ow_bs (e := 3) [.int .i64 xu5] M T rfl rfl rfl rfl (.cons (T.e 2 rfl) .nil) (fun _ => by kernel_rfl) ?_; clear M T; intro gr8_10 wc ac M T
    refine Zso hK _ _ (MA.mk (fun _ => M.perm [2, 3] rfl rfl) (MA.mk (fun h => (no_of (by kernel_rfl) h).elim) (M.perm [3] rfl rfl))) ?_; clear hK K
    refine gw 7 2047 ?_; intro K hK
    refine ow_app (((gr8_10, .cells [.int .i64 xu5]) :: (gr8_6, .cells [.int .i64 xur8_5.t0, .int .i64 xur8_5.t1, .int .i64 xur8_5.s0, .int .i64 xur8_5.s1]) :: (g2, .cells [.int .i64 lu1.first, .int .i64 lu1.step, .int .i64 lu1.span, .int .i64 lu1.press, .int .i64 xu2, .slice A3 ol.length c3, .slice none 0 0, .int .i64 0, .int .i64 0, .int .i64 0, .int .i64 0, .int .i64 0, .int .i64 0, .int .i64 0, .int .i64 0, .int .i64 0, .int .i64 0, .int .i64 0, .int .i64 0, .int .i64 0, .int .i64 xu3]) :: (g1, .cells [.int .i64 0, .int .i64 0, .int .i64 0, .int .i64 0, .int .i64 0, .slice none 0 0, .slice none 0 0, .int .i64 0, .int .i64 0, .int .i64 0, .int .i64 0, .int .i64 0, .int .i64 0, .int .i64 0, .int .i64 0, .int .i64 0, .int .i64 0, .int .i64 0, .int .i64 0, .int .i64 0, .int .i64 0]) :: (bp, .cells [.int .u64 sur8_5]) :: Ii)) Tryz.info32 hsl M (by first | rfl | simp) T rfl rfl rfl rfl Tryz.underlying24 rfl rfl rfl (by omega) (T.e 8 rfl) (T.e 1 rfl) (Zne (i := 1) rfl) rfl rfl ?_; clear M T; intro ga3 cga3 wc ac M T
    refine Zso hK _ _ (MA.mk (fun _ => M.perm [3, 4] rfl rfl) (MA.mk (fun h => (no_of (by kernel_rfl) h).elim) (M.perm [4] rfl rfl))) ?_; clear hK K
    refine gq (v := (.pointer (some ⟨g2, 5, none⟩))) T 12 6143 rfl (fun _ _ _ _ _ => (Zrf (off := 5) rfl (T.e 16 rfl) (fun _ _ _ => by kernel_rfl))) ?_; clear T ac; intro ac T
    refine gw 11 8191 ?_; intro K hK
    refine ow_app ([(ga3, .row 32 4 (ol.length + 1) ((sc ol) ++ [.int .i64 xur8_5.t0, .int .i64 xur8_5.t1, .int .i64 xur8_5.s0, .int .i64 xur8_5.s1]) cga3), (gr8_10, .cells [.int .i64 xu5]), (gr8_6, .cells [.int .i64 xur8_5.t0, .int .i64 xur8_5.t1, .int .i64 xur8_5.s0, .int .i64 xur8_5.s1]), (g2, .cells [.int .i64 lu1.first, .int .i64 lu1.step, .int .i64 lu1.span, .int .i64 lu1.press, .int .i64 xu2, .slice A3 ol.length c3, .slice none 0 0, .int .i64 0, .int .i64 0, .int .i64 0, .int .i64 0, .int .i64 0, .int .i64 0, .int .i64 0, .int .i64 0, .int .i64 0, .int .i64 0, .int .i64 0, .int .i64 0, .int .i64 0, .int .i64 xu3]), (g1, .cells [.int .i64 0, .int .i64 0, .int .i64 0, .int .i64 0, .int .i64 0, .slice none 0 0, .slice none 0 0, .int .i64 0, .int .i64 0, .int .i64 0, .int .i64 0, .int .i64 0, .int .i64 0, .int .i64 0, .int .i64 0, .int .i64 0, .int .i64 0, .int .i64 0, .int .i64 0, .int .i64 0, .int .i64 0]), (bp, .cells [.int .u64 sur8_5])]) Tryz.info3 hsm M (by first | rfl | simp) T rfl rfl rfl rfl Tryz.underlying33 rfl rfl rfl (by omega) (T.e 6 rfl) (T.e 2 rfl) (Zne (i := 1) rfl) rfl rfl ?_; clear M T; intro ga4 cga4 wc ac M T
    refine Zso hK _ _ (MA.mk (fun _ => M.mask [false, false, false, false, true, true, false] rfl) (MA.mk (fun h => (no_of (by kernel_rfl) h).elim) (M.mask [false, false, false, false, false, true, false] rfl))) ?_; clear hK K
    refine gw 13 16383 ?_; intro K hK
    refine Zos M T rfl rfl (T.e 1 rfl) (T.e 2 rfl) rfl (.tail (.tail (.tail (.tail .head)))) rfl (by simp) rfl (by kernel_rfl) ?_; clear M T; intro wc ac M T
    refine Zso hK _ _ (MA.mk (fun h => (no_of (by kernel_rfl) h).elim) (MA.mk (fun h => (no_of (by kernel_rfl) h).elim) (M.mask [false, false, false, false, false, true, false] rfl))) ?_; clear hK K
    refine g_q (v := (.slice (some ⟨ga4, 0, none⟩) (tn.length + 1) cga4)) (T := T.pick [0, 1, 2, 3, 4, 5, 6, 7, 8, 9, 10, 11, 12, 13, 14, 15, 16, 17, 18, 19, 21] rfl) (i := 14) rfl (by kernel_rfl) (by kernel_rfl : (Zpb 15 16383).setIfInBounds 14 true = Zpb 15 32767) (si_and (si_G rfl) (si_and (si_G rfl) si_U)) (fun _ _ _ h => h) rfl rfl rfl rfl (fun _ _ _ _ _ => (Zra rfl (T.e 0 rfl))) ?_; clear T ac; intro ac T
    refine Zgd (by kernel_rfl) ?_
    replace T := T.pick [0, 15, 16, 17, 18, 19, 20, 21] rfl
    replace M := M.mask [true, true, false, false, true, true, true] rfl
    refine Znb ?_
    refine nm_then ?_
    refine wp_region_lit ?_
    refine Zg2 T (Zq (Zrm rfl (T.e 7 rfl))) rfl (fun _ T => Zq (rn_sub rfl (T.e 0 rfl) evc (by omega))) rfl ?_; clear T ac; intro ac T
    refine l_q (v := (.int .i64 (i - 1))) (T.pick [0, 1, 2, 3, 4, 5, 6, 7, 8] rfl) rfl rfl rfl rfl (Zra rfl (T.e 0 rfl)) ?_; clear T ac; intro ac T
    replace T := T.pick [0, 3, 4, 5, 6, 7, 8, 9] rfl
    refine Zln ?_
    have e9a : ol.length + 1 = (ol ++ [xur8_5]).length := by simp
    have e8a : ((sc ol) ++ [.int .i64 xur8_5.t0, .int .i64 xur8_5.t1, .int .i64 xur8_5.s0, .int .i64 xur8_5.s1]) = sc (ol ++ [xur8_5]) := by rw [← sc_snoc]
    rw [e9a, e8a] at M
    (try rw [e9a] at T)
    have e9b : tn.length + 1 = (tn ++ [xu5]).length := by simp
    have e8b : ((ic tn) ++ [.int .i64 xu5]) = ic (tn ++ [xu5]) := by rw [← ic_snoc]
    rw [e9b, e8b] at M
    (try rw [e9b] at T)
    exact ⟨_, by omega, (i - 1), (ol ++ [xur8_5]), _, _, (tn ++ [xu5]), _, _, sur8_5, [(ga4, .row 3 1 (tn ++ [xu5]).length (ic (tn ++ [xu5])) cga4)], [(ga3, .row 32 4 (ol ++ [xur8_5]).length (sc (ol ++ [xur8_5])) cga3)], rfl, (by omega), (by simp only [List.length_append, List.length_cons, List.length_nil]; omega), (by simp only [List.length_append, List.length_cons, List.length_nil]; omega), (fun z hz => by rcases List.mem_append.1 hz with h9 | h9; exact hgo z h9; simp only [List.mem_cons, List.not_mem_nil, or_false] at h9; subst h9; exact hxur8_5), (fun z hz => by rcases List.mem_append.1 hz with h9 | h9; exact htn z h9; simp only [List.mem_cons, List.not_mem_nil, or_false] at h9; subst h9; omega), hsur8_5, (Sl.row _ _ _ _ _ _), (Sl.row _ _ _ _ _ _), T.pick [2, 3, 4, 5, 6, 7, 1, 0] rfl, M.perm [2, 3, 4, 0, 1] rfl rfl⟩
   refine gi 1855 ?_; intro K hK
   refine ow_bs (e := 3) [.int .i64 xu5] M T rfl rfl rfl rfl (.cons (T.e 1 rfl) .nil) (fun _ => by kernel_rfl) ?_; clear M T; intro gr8_10 wc ac M T
   refine Zso hK _ _ (MA.mk (fun _ => M.perm [1, 2] rfl rfl) (MA.mk (fun h => (no_of (by kernel_rfl) h).elim) (M.perm [2] rfl rfl))) ?_; clear hK K
   refine gw 6 1919 ?_; intro K hK
   refine ow_bs (e := 32) [.int .i64 xur8_5.t0, .int .i64 xur8_5.t1, .int .i64 xur8_5.s0, .int .i64 xur8_5.s1] M T rfl rfl rfl rfl (.cons (T.e 1 rfl) .nil) (fun _ => by kernel_rfl) ?_; clear M T; intro gr8_6 wc ac M T
   refine Zso hK _ _ (MA.mk (fun _ => M.perm [2, 3] rfl rfl) (MA.mk (fun h => (no_of (by kernel_rfl) h).elim) (M.perm [3] rfl rfl))) ?_; clear hK K
   refine gw 7 2047 ?_; intro K hK
   refine ow_app (((gr8_6, .cells [.int .i64 xur8_5.t0, .int .i64 xur8_5.t1, .int .i64 xur8_5.s0, .int .i64 xur8_5.s1]) :: (gr8_10, .cells [.int .i64 xu5]) :: (g2, .cells [.int .i64 lu1.first, .int .i64 lu1.step, .int .i64 lu1.span, .int .i64 lu1.press, .int .i64 xu2, .slice A3 ol.length c3, .slice none 0 0, .int .i64 0, .int .i64 0, .int .i64 0, .int .i64 0, .int .i64 0, .int .i64 0, .int .i64 0, .int .i64 0, .int .i64 0, .int .i64 0, .int .i64 0, .int .i64 0, .int .i64 0, .int .i64 xu3]) :: (g1, .cells [.int .i64 0, .int .i64 0, .int .i64 0, .int .i64 0, .int .i64 0, .slice none 0 0, .slice none 0 0, .int .i64 0, .int .i64 0, .int .i64 0, .int .i64 0, .int .i64 0, .int .i64 0, .int .i64 0, .int .i64 0, .int .i64 0, .int .i64 0, .int .i64 0, .int .i64 0, .int .i64 0, .int .i64 0]) :: (bp, .cells [.int .u64 sur8_5]) :: Ii)) Tryz.info32 hsl M (by first | rfl | simp) T rfl rfl rfl rfl Tryz.underlying24 rfl rfl rfl (by omega) (T.e 8 rfl) (T.e 0 rfl) (Zne (i := 0) rfl) rfl rfl ?_; clear M T; intro ga5 cga5 wc ac M T
   refine Zso hK _ _ (MA.mk (fun _ => M.perm [3, 4] rfl rfl) (MA.mk (fun h => (no_of (by kernel_rfl) h).elim) (M.perm [4] rfl rfl))) ?_; clear hK K
   refine gq (v := (.pointer (some ⟨g2, 5, none⟩))) T 12 6143 rfl (fun _ _ _ _ _ => (Zrf (off := 5) rfl (T.e 16 rfl) (fun _ _ _ => by kernel_rfl))) ?_; clear T ac; intro ac T
   refine gw 11 8191 ?_; intro K hK
   refine ow_app ([(ga5, .row 32 4 (ol.length + 1) ((sc ol) ++ [.int .i64 xur8_5.t0, .int .i64 xur8_5.t1, .int .i64 xur8_5.s0, .int .i64 xur8_5.s1]) cga5), (gr8_6, .cells [.int .i64 xur8_5.t0, .int .i64 xur8_5.t1, .int .i64 xur8_5.s0, .int .i64 xur8_5.s1]), (gr8_10, .cells [.int .i64 xu5]), (g2, .cells [.int .i64 lu1.first, .int .i64 lu1.step, .int .i64 lu1.span, .int .i64 lu1.press, .int .i64 xu2, .slice A3 ol.length c3, .slice none 0 0, .int .i64 0, .int .i64 0, .int .i64 0, .int .i64 0, .int .i64 0, .int .i64 0, .int .i64 0, .int .i64 0, .int .i64 0, .int .i64 0, .int .i64 0, .int .i64 0, .int .i64 0, .int .i64 xu3]), (g1, .cells [.int .i64 0, .int .i64 0, .int .i64 0, .int .i64 0, .int .i64 0, .slice none 0 0, .slice none 0 0, .int .i64 0, .int .i64 0, .int .i64 0, .int .i64 0, .int .i64 0, .int .i64 0, .int .i64 0, .int .i64 0, .int .i64 0, .int .i64 0, .int .i64 0, .int .i64 0, .int .i64 0, .int .i64 0]), (bp, .cells [.int .u64 sur8_5])]) Tryz.info3 hsm M (by first | rfl | simp) T rfl rfl rfl rfl Tryz.underlying33 rfl rfl rfl (by omega) (T.e 6 rfl) (T.e 3 rfl) (Zne (i := 2) rfl) rfl rfl ?_; clear M T; intro ga6 cga6 wc ac M T
   refine Zso hK _ _ (MA.mk (fun _ => M.mask [false, false, false, false, true, true, false] rfl) (MA.mk (fun h => (no_of (by kernel_rfl) h).elim) (M.mask [false, false, false, false, false, true, false] rfl))) ?_; clear hK K
   refine gw 13 16383 ?_; intro K hK
   refine Zos M T rfl rfl (T.e 1 rfl) (T.e 2 rfl) rfl (.tail (.tail (.tail (.tail .head)))) rfl (by simp) rfl (by kernel_rfl) ?_; clear M T; intro wc ac M T
   refine Zso hK _ _ (MA.mk (fun h => (no_of (by kernel_rfl) h).elim) (MA.mk (fun h => (no_of (by kernel_rfl) h).elim) (M.mask [false, false, false, false, false, true, false] rfl))) ?_; clear hK K
   refine g_q (v := (.slice (some ⟨ga6, 0, none⟩) (tn.length + 1) cga6)) (T := T.pick [0, 1, 2, 3, 4, 5, 6, 7, 8, 9, 10, 11, 12, 13, 14, 15, 16, 17, 18, 19, 21] rfl) (i := 14) rfl (by kernel_rfl) (by kernel_rfl : (Zpb 15 16383).setIfInBounds 14 true = Zpb 15 32767) (si_and (si_G rfl) (si_and (si_G rfl) si_U)) (fun _ _ _ h => h) rfl rfl rfl rfl (fun _ _ _ _ _ => (Zra rfl (T.e 0 rfl))) ?_; clear T ac; intro ac T
   refine Zgd (by kernel_rfl) ?_
   replace T := T.pick [0, 15, 16, 17, 18, 19, 20, 21] rfl
   replace M := M.mask [true, true, false, false, true, true, true] rfl
   refine Znb ?_
   refine nm_then ?_
   refine wp_region_lit ?_
   refine Zg2 T (Zq (Zrm rfl (T.e 7 rfl))) rfl (fun _ T => Zq (rn_sub rfl (T.e 0 rfl) evc (by omega))) rfl ?_; clear T ac; intro ac T
   refine l_q (v := (.int .i64 (i - 1))) (T.pick [0, 1, 2, 3, 4, 5, 6, 7, 8] rfl) rfl rfl rfl rfl (Zra rfl (T.e 0 rfl)) ?_; clear T ac; intro ac T
   replace T := T.pick [0, 3, 4, 5, 6, 7, 8, 9] rfl
   refine Zln ?_
   have e9a : ol.length + 1 = (ol ++ [xur8_5]).length := by simp
   have e8a : ((sc ol) ++ [.int .i64 xur8_5.t0, .int .i64 xur8_5.t1, .int .i64 xur8_5.s0, .int .i64 xur8_5.s1]) = sc (ol ++ [xur8_5]) := by rw [← sc_snoc]
   rw [e9a, e8a] at M
   (try rw [e9a] at T)
   have e9b : tn.length + 1 = (tn ++ [xu5]).length := by simp
   have e8b : ((ic tn) ++ [.int .i64 xu5]) = ic (tn ++ [xu5]) := by rw [← ic_snoc]
   rw [e9b, e8b] at M
   (try rw [e9b] at T)
   exact ⟨_, by omega, (i - 1), (ol ++ [xur8_5]), _, _, (tn ++ [xu5]), _, _, sur8_5, [(ga6, .row 3 1 (tn ++ [xu5]).length (ic (tn ++ [xu5])) cga6)], [(ga5, .row 32 4 (ol ++ [xur8_5]).length (sc (ol ++ [xur8_5])) cga5)], rfl, (by omega), (by simp only [List.length_append, List.length_cons, List.length_nil]; omega), (by simp only [List.length_append, List.length_cons, List.length_nil]; omega), (fun z hz => by rcases List.mem_append.1 hz with h9 | h9; exact hgo z h9; simp only [List.mem_cons, List.not_mem_nil, or_false] at h9; subst h9; exact hxur8_5), (fun z hz => by rcases List.mem_append.1 hz with h9 | h9; exact htn z h9; simp only [List.mem_cons, List.not_mem_nil, or_false] at h9; subst h9; omega), hsur8_5, (Sl.row _ _ _ _ _ _), (Sl.row _ _ _ _ _ _), T.pick [2, 3, 4, 5, 6, 7, 1, 0] rfl, M.perm [2, 3, 4, 0, 1] rfl rfl⟩
  refine gi 1823 ?_; intro K hK
  refine ow_bs (e := 3) [.int .i64 xu5] M T rfl rfl rfl rfl (.cons (T.e 0 rfl) .nil) (fun _ => by kernel_rfl) ?_; clear M T; intro gr8_10 wc ac M T
  refine Zso hK _ _ (MA.mk (fun _ => M.perm [1, 2] rfl rfl) (MA.mk (fun _ => M.perm [1, 2, 3] rfl rfl) (M.perm [2] rfl rfl))) ?_; clear hK K
  refine gw 5 1855 ?_; intro K hK
  refine Zoc (first := []) (cap := []) T rfl rfl rfl rfl evf (.cons (T.e 5 rfl) (.cons (T.e 4 rfl) (.cons (T.e 3 rfl) .nil))) Tryz.func53 rfl rfl ?_
  refine Calls.mono (soundOf_any _ bp xu5 wide _ (by omega) (by omega) (M.nth 3 rfl) hsu5) ?_
  clear T; rintro e wc ⟨xur8_5, sur8_5, hxur8_5, hsur8_5, rfl, hgr, hbk⟩ ac T
  replace M := M.callC (cs' := [.int .u64 sur8_5]) (.tail (.tail (.tail .head))) hgr hbk
  clear hgr hbk
  refine Zso hK _ _ (MA.mk (fun _ => M.perm [1, 2] rfl rfl) (MA.mk (fun h => (no_of (by kernel_rfl) h).elim) (M.perm [2] rfl rfl))) ?_; clear hK K
  refine gw 6 1919 ?_; intro K hK
  refine ow_bs (e := 32) [.int .i64 xur8_5.t0, .int .i64 xur8_5.t1, .int .i64 xur8_5.s0, .int .i64 xur8_5.s1] M T rfl rfl rfl rfl (.cons (T.e 0 rfl) .nil) (fun _ => by kernel_rfl) ?_; clear M T; intro gr8_6 wc ac M T
  refine Zso hK _ _ (MA.mk (fun _ => M.perm [2, 3] rfl rfl) (MA.mk (fun h => (no_of (by kernel_rfl) h).elim) (M.perm [3] rfl rfl))) ?_; clear hK K
  refine gw 7 2047 ?_; intro K hK
  refine ow_app (((gr8_6, .cells [.int .i64 xur8_5.t0, .int .i64 xur8_5.t1, .int .i64 xur8_5.s0, .int .i64 xur8_5.s1]) :: (gr8_10, .cells [.int .i64 xu5]) :: (g2, .cells [.int .i64 lu1.first, .int .i64 lu1.step, .int .i64 lu1.span, .int .i64 lu1.press, .int .i64 xu2, .slice A3 ol.length c3, .slice none 0 0, .int .i64 0, .int .i64 0, .int .i64 0, .int .i64 0, .int .i64 0, .int .i64 0, .int .i64 0, .int .i64 0, .int .i64 0, .int .i64 0, .int .i64 0, .int .i64 0, .int .i64 0, .int .i64 xu3]) :: (g1, .cells [.int .i64 0, .int .i64 0, .int .i64 0, .int .i64 0, .int .i64 0, .slice none 0 0, .slice none 0 0, .int .i64 0, .int .i64 0, .int .i64 0, .int .i64 0, .int .i64 0, .int .i64 0, .int .i64 0, .int .i64 0, .int .i64 0, .int .i64 0, .int .i64 0, .int .i64 0, .int .i64 0, .int .i64 0]) :: (bp, .cells [.int .u64 sur8_5]) :: Ii)) Tryz.info32 hsl M (by first | rfl | simp) T rfl rfl rfl rfl Tryz.underlying24 rfl rfl rfl (by omega) (T.e 8 rfl) (T.e 0 rfl) (Zne (i := 0) rfl) rfl rfl ?_; clear M T; intro ga7 cga7 wc ac M T
  refine Zso hK _ _ (MA.mk (fun _ => M.perm [3, 4] rfl rfl) (MA.mk (fun h => (no_of (by kernel_rfl) h).elim) (M.perm [4] rfl rfl))) ?_; clear hK K
  refine gq (v := (.pointer (some ⟨g2, 5, none⟩))) T 12 6143 rfl (fun _ _ _ _ _ => (Zrf (off := 5) rfl (T.e 16 rfl) (fun _ _ _ => by kernel_rfl))) ?_; clear T ac; intro ac T
  refine gw 11 8191 ?_; intro K hK
  refine ow_app ([(ga7, .row 32 4 (ol.length + 1) ((sc ol) ++ [.int .i64 xur8_5.t0, .int .i64 xur8_5.t1, .int .i64 xur8_5.s0, .int .i64 xur8_5.s1]) cga7), (gr8_6, .cells [.int .i64 xur8_5.t0, .int .i64 xur8_5.t1, .int .i64 xur8_5.s0, .int .i64 xur8_5.s1]), (gr8_10, .cells [.int .i64 xu5]), (g2, .cells [.int .i64 lu1.first, .int .i64 lu1.step, .int .i64 lu1.span, .int .i64 lu1.press, .int .i64 xu2, .slice A3 ol.length c3, .slice none 0 0, .int .i64 0, .int .i64 0, .int .i64 0, .int .i64 0, .int .i64 0, .int .i64 0, .int .i64 0, .int .i64 0, .int .i64 0, .int .i64 0, .int .i64 0, .int .i64 0, .int .i64 0, .int .i64 xu3]), (g1, .cells [.int .i64 0, .int .i64 0, .int .i64 0, .int .i64 0, .int .i64 0, .slice none 0 0, .slice none 0 0, .int .i64 0, .int .i64 0, .int .i64 0, .int .i64 0, .int .i64 0, .int .i64 0, .int .i64 0, .int .i64 0, .int .i64 0, .int .i64 0, .int .i64 0, .int .i64 0, .int .i64 0, .int .i64 0]), (bp, .cells [.int .u64 sur8_5])]) Tryz.info3 hsm M (by first | rfl | simp) T rfl rfl rfl rfl Tryz.underlying33 rfl rfl rfl (by omega) (T.e 6 rfl) (T.e 4 rfl) (Zne (i := 2) rfl) rfl rfl ?_; clear M T; intro ga8 cga8 wc ac M T
  refine Zso hK _ _ (MA.mk (fun _ => M.mask [false, false, false, false, true, true, false] rfl) (MA.mk (fun h => (no_of (by kernel_rfl) h).elim) (M.mask [false, false, false, false, false, true, false] rfl))) ?_; clear hK K
  refine gw 13 16383 ?_; intro K hK
  refine Zos M T rfl rfl (T.e 1 rfl) (T.e 2 rfl) rfl (.tail (.tail (.tail (.tail .head)))) rfl (by simp) rfl (by kernel_rfl) ?_; clear M T; intro wc ac M T
  refine Zso hK _ _ (MA.mk (fun h => (no_of (by kernel_rfl) h).elim) (MA.mk (fun h => (no_of (by kernel_rfl) h).elim) (M.mask [false, false, false, false, false, true, false] rfl))) ?_; clear hK K
  refine g_q (v := (.slice (some ⟨ga8, 0, none⟩) (tn.length + 1) cga8)) (T := T.pick [0, 1, 2, 3, 4, 5, 6, 7, 8, 9, 10, 11, 12, 13, 14, 15, 16, 17, 18, 19, 21] rfl) (i := 14) rfl (by kernel_rfl) (by kernel_rfl : (Zpb 15 16383).setIfInBounds 14 true = Zpb 15 32767) (si_and (si_G rfl) (si_and (si_G rfl) si_U)) (fun _ _ _ h => h) rfl rfl rfl rfl (fun _ _ _ _ _ => (Zra rfl (T.e 0 rfl))) ?_; clear T ac; intro ac T
  refine Zgd (by kernel_rfl) ?_
  replace T := T.pick [0, 15, 16, 17, 18, 19, 20, 21] rfl
  replace M := M.mask [true, true, false, false, true, true, true] rfl
  refine Znb ?_
  refine nm_then ?_
  refine wp_region_lit ?_
  refine Zg2 T (Zq (Zrm rfl (T.e 7 rfl))) rfl (fun _ T => Zq (rn_sub rfl (T.e 0 rfl) evc (by omega))) rfl ?_; clear T ac; intro ac T
  refine l_q (v := (.int .i64 (i - 1))) (T.pick [0, 1, 2, 3, 4, 5, 6, 7, 8] rfl) rfl rfl rfl rfl (Zra rfl (T.e 0 rfl)) ?_; clear T ac; intro ac T
  replace T := T.pick [0, 3, 4, 5, 6, 7, 8, 9] rfl
  refine Zln ?_
  have e9a : ol.length + 1 = (ol ++ [xur8_5]).length := by simp
  have e8a : ((sc ol) ++ [.int .i64 xur8_5.t0, .int .i64 xur8_5.t1, .int .i64 xur8_5.s0, .int .i64 xur8_5.s1]) = sc (ol ++ [xur8_5]) := by rw [← sc_snoc]
  rw [e9a, e8a] at M
  (try rw [e9a] at T)
  have e9b : tn.length + 1 = (tn ++ [xu5]).length := by simp
  have e8b : ((ic tn) ++ [.int .i64 xu5]) = ic (tn ++ [xu5]) := by rw [← ic_snoc]
  rw [e9b, e8b] at M
  (try rw [e9b] at T)
  exact ⟨_, by omega, (i - 1), (ol ++ [xur8_5]), _, _, (tn ++ [xu5]), _, _, sur8_5, [(ga8, .row 3 1 (tn ++ [xu5]).length (ic (tn ++ [xu5])) cga8)], [(ga7, .row 32 4 (ol ++ [xur8_5]).length (sc (ol ++ [xur8_5])) cga7)], rfl, (by omega), (by simp only [List.length_append, List.length_cons, List.length_nil]; omega), (by simp only [List.length_append, List.length_cons, List.length_nil]; omega), (fun z hz => by rcases List.mem_append.1 hz with h9 | h9; exact hgo z h9; simp only [List.mem_cons, List.not_mem_nil, or_false] at h9; subst h9; exact hxur8_5), (fun z hz => by rcases List.mem_append.1 hz with h9 | h9; exact htn z h9; simp only [List.mem_cons, List.not_mem_nil, or_false] at h9; subst h9; omega), hsur8_5, (Sl.row _ _ _ _ _ _), (Sl.row _ _ _ _ _ _), T.pick [2, 3, 4, 5, 6, 7, 1, 0] rfl, M.perm [2, 3, 4, 0, 1] rfl rfl⟩
 intro h1
 refine wp_exit ?_
 refine Zet ?_
 refine Zet ?_
 refine ex_hit ?_
 refine Zns ?_
 refine Zsr ?_
 refine Zg3 T (Zq (Zrm rfl (T.e 1 rfl))) rfl (Zm 3 rfl rfl) rfl (fun _ T => Zq (rn_min2 rfl (T.e 0 rfl) evc)) rfl ?_; clear T ac; intro ac T
 refine Zl2 ?_
 refine Zoc (first := []) (cap := []) T rfl rfl rfl rfl evf (.cons (T.e 2 rfl) (.cons (T.e 0 rfl) .nil)) Tryz.func20 rfl rfl ?_
 refine Calls.mono (upto_any _ bp (min nhi 5) _ (by omega) (by omega) (M.nth 2 rfl) hs) ?_
 clear T; rintro e wc ⟨xu6, su6, hxu6, hsu6, rfl, hgr, hbk⟩ ac T
 replace M := M.callC (cs' := [.int .u64 su6]) (.tail (.tail .head)) hgr hbk
 clear hgr hbk
 refine lq T (Zra rfl (T.e 0 rfl)) ?_; clear T ac; intro ac T
 replace T := T.pick [0, 6, 8, 9, 10, 11, 12] rfl
 refine Zln ?_
 refine wp_block ?_
 obtain ⟨bt, ot, St0⟩ := hsm.spV (by rw [ic_length]; omega)
 have St := St0 w (fun b => b = bp)
 refine wp_loop_n (fun mz ac wc => ∃ (q : Int) (oh : List Snd) (A5 : Option Addr) (c5 : Nat) (s : Int) (Ih : List (Nat × BA)), mz = q.toNat ∧ (0 ≤ q) ∧ ((oh.length : Int) + q = xu6) ∧ (∀ z ∈ oh, z.good) ∧ (u64ok s) ∧ (Sl 32 4 (.slice A5 oh.length c5) oh.length (sc oh) Ih) ∧ Tm ac 115 [(0, .pointer (some ⟨bp, 0, none⟩)), (3, .int .i64 wide), (8, .pointer (some ⟨g1, 0, none⟩)), (9, .pointer (some ⟨g2, 0, none⟩)), (10, .int .i64 (lu1.first + (lu1.step * xu2))), (11, .slice A4 tn.length c4), (14, .int .i64 q)] ∧ Mem w (fun b => b = bp) wc ((g2, .cells [.int .i64 lu1.first, .int .i64 lu1.step, .int .i64 lu1.span, .int .i64 lu1.press, .int .i64 xu2, .slice A3 ol.length c3, .slice A5 oh.length c5, .int .i64 0, .int .i64 0, .int .i64 0, .int .i64 0, .int .i64 0, .int .i64 0, .int .i64 0, .int .i64 0, .int .i64 0, .int .i64 0, .int .i64 0, .int .i64 0, .int .i64 0, .int .i64 xu3]) :: (g1, .cells [.int .i64 0, .int .i64 0, .int .i64 0, .int .i64 0, .int .i64 0, .slice none 0 0, .slice none 0 0, .int .i64 0, .int .i64 0, .int .i64 0, .int .i64 0, .int .i64 0, .int .i64 0, .int .i64 0, .int .i64 0, .int .i64 0, .int .i64 0, .int .i64 0, .int .i64 0, .int .i64 0, .int .i64 0]) :: (bp, .cells [.int .u64 s]) :: (Ii ++ Io ++ Ih))) ?_ ?_
 ·exact ⟨_, _, [], none, 0, _, [], rfl, (by omega), (by simp), (fun z hz => by cases hz), hsu6, (Sl.nil _ _), T.pick [1, 2, 3, 4, 5, 6, 0] rfl, (by simp only [List.append_nil]; exact M)⟩
 clear T M
 rintro mz ac wc ⟨q, oh, A5, c5, s, Ih, hmm2, hi2, hoh, hgh, hs2, hsh, T, M⟩
 refine wp_seq ?_
 refine Zsr ?_
 refine Zg2 T (Zq (Zrm rfl (T.e 6 rfl))) rfl (fun _ T => Zq (rn_gtr rfl (T.e 0 rfl) evc)) rfl ?_; clear T ac; intro ac T
 replace T := T.pick [0, 2, 3, 4, 5, 6, 7, 8] rfl
 refine Zln ?_
 refine wp_if (T.e 0 rfl) ?_ ?_
 ·intro h2
  refine Zsk ?_
  refine wp_seq ?_
  refine wp_block ?_
  refine Zsr ?_
  refine lq T (Zrm rfl (T.e 1 rfl)) ?_; clear T ac; intro ac T
  refine Zl2 ?_
  refine Zoc (first := []) (cap := []) T rfl rfl rfl rfl evf (.cons (T.e 0 rfl) (.cons evc (.cons evc .nil))) Tryz.func52 rfl rfl ?_
  refine Calls.mono (within_pot _ bp (-5) 5 _ (by omega) (by omega) (by omega) (M.nth 2 rfl) hs2) ?_
  clear T; rintro e wc ⟨xu7, su7, hxu7, hsu7, rfl, hgr, hbk⟩ ac T
  replace M := M.callC (cs' := [.int .u64 su7]) (.tail (.tail .head)) hgr hbk
  clear hgr hbk
  refine lq T (Zra rfl (T.e 0 rfl)) ?_; clear T ac; intro ac T
  replace T := T.pick [0, 4, 5, 6, 7, 8, 9, 10] rfl
  refine Zln ?_
  refine wp_seq ?_
  refine Zsr ?_
  refine Zg3 T (Zq (Zrm rfl (T.e 6 rfl))) rfl (Zl Tryz.underlying33 0 rfl rfl) rfl (fun _ T => Zq (rn_gtr rfl (T.e 0 rfl) evc)) rfl ?_; clear T ac; intro ac T
  replace T := T.pick [0, 3, 4, 5, 6, 7, 8, 9, 10] rfl
  refine Zln ?_
  refine wp_if (T.e 0 rfl) ?_ ?_
  ·intro h3
   refine Zgs M (M.mask [true, true, false] rfl) 21 (by kernel_rfl) rfl (by kernel_rfl) ?_
   clear M; intro wc M
   refine g_addG 5 M ?_
   refine gq T 0 1 rfl (fun _ _ _ _ _ => (Zrm rfl (T.e 7 rfl))) ?_; clear T ac; intro ac T
   refine gq T 1 3 rfl (fun _ _ _ _ _ => (Zrm rfl (T.e 3 rfl))) ?_; clear T ac; intro ac T
   refine gq T 2 7 rfl (fun _ _ _ _ _ => (Zrm rfl (T.e 9 rfl))) ?_; clear T ac; intro ac T
   refine gq T 3 15 rfl (fun _ _ _ _ _ => (Zrl rfl Tryz.underlying33 (T.e 0 rfl))) ?_; clear T ac; intro ac T
   refine gq T 4 31 rfl (fun _ _ _ _ _ => (rn_sub rfl (T.e 0 rfl) evc (by omega))) ?_; clear T ac; intro ac T
   refine gq T 8 287 rfl (fun _ _ _ _ _ => (Zrm rfl (T.e 7 rfl))) ?_; clear T ac; intro ac T
   refine gq (v := (.pointer (some ⟨g2, 0, none⟩))) T 9 799 rfl (fun _ _ _ _ _ => (Zrf (off := 0) rfl (T.e 11 rfl) (fun _ _ _ => by kernel_rfl))) ?_; clear T ac; intro ac T
   refine gq (v := (.pointer (some ⟨g2, 2, none⟩))) T 10 1823 rfl (fun _ _ _ _ _ => (Zrf (off := 2) rfl (T.e 0 rfl) (fun _ _ _ => by kernel_rfl))) ?_; clear T ac; intro ac T
   refine gq T 11 3871 rfl (fun B w' hD hl hS => (Zro (Mem.nth (show Mem w (fun b => b = bp) w' _ from (MA.rgt hS)) 0 rfl) rfl (T.e 0 rfl) rfl)) ?_; clear T ac; intro ac T
   refine gq T 12 7967 rfl (fun _ _ _ _ _ => (rn_neg rfl (T.e 0 rfl) (by omega))) ?_; clear T ac; intro ac T
   refine gq T 13 16159 rfl (fun _ _ _ _ _ => (rn_sub rfl (T.e 0 rfl) evc (by omega))) ?_; clear T ac; intro ac T
   refine gq (v := (.pointer (some ⟨g2, 0, none⟩))) T 14 32543 rfl (fun _ _ _ _ _ => (Zrf (off := 0) rfl (T.e 16 rfl) (fun _ _ _ => by kernel_rfl))) ?_; clear T ac; intro ac T
   refine gq (v := (.pointer (some ⟨g2, 2, none⟩))) T 15 65311 rfl (fun _ _ _ _ _ => (Zrf (off := 2) rfl (T.e 0 rfl) (fun _ _ _ => by kernel_rfl))) ?_; clear T ac; intro ac T
   refine gq T 16 130847 rfl (fun B w' hD hl hS => (Zro (Mem.nth (show Mem w (fun b => b = bp) w' _ from (MA.rgt hS)) 0 rfl) rfl (T.e 0 rfl) rfl)) ?_; clear T ac; intro ac T
   refine gq T 17 261919 rfl (fun _ _ _ _ _ => (rn_add rfl (T.e 0 rfl) evc (by omega))) ?_; clear T ac; intro ac T
   refine gw 5 261951 ?_; intro K hK
   refine Zoc (first := []) (cap := []) T rfl rfl rfl rfl evf (.cons (T.e 13 rfl) (.cons (T.e 10 rfl) .nil)) Tryz.func20 rfl rfl ?_
   refine Calls.mono (upto_any _ bp (((tn.length : Nat) : Int) - 1) _ (by omega) (by omega) (M.nth 2 rfl) hsu7) ?_
   clear T; rintro e wc ⟨xu8, su8, hxu8, hsu8, rfl, hgr, hbk⟩ ac T
   replace M := M.callC (cs' := [.int .u64 su8]) (.tail (.tail .head)) hgr hbk
   clear hgr hbk
   obtain ⟨kuu8, hkuu8⟩ : ∃ k : Nat, xu8 = (k : Int) := ⟨xu8.toNat, by omega⟩
   obtain ⟨ntu8, hntu8, -⟩ := ic_next (l := tn) (k := kuu8) (by omega)
   have hntbu8 := htn _ (List.mem_of_getElem? hntu8)
   refine Zso hK _ _ (MA.mk (fun h => (no_of (by kernel_rfl) h).elim) (M.mask [true, true, false] rfl)) ?_; clear hK K
   refine g_addG 18 M ?_
   refine gq T 6 262015 rfl (fun _ _ _ _ _ => (Zri (size := 1) kuu8 rfl (T.e 15 rfl) (T.e 0 rfl) ⟨_, Tryz.underlying33, by kernel_rfl⟩ hkuu8 (by omega) (St.at0 (by omega)))) ?_; clear T ac; intro ac T
   refine gq T 7 262143 rfl (fun B w' hD hl hS => (rn_cell (Sp.ic0 St (show Mem w (fun b => b = bp) w' _ from (MA.rgt (MA.rgt hS))) (.cons _ (.cons _ (subL (subL (List.Sublist.refl _))))) hntu8) rfl (T.e 0 rfl))) ?_; clear T ac; intro ac T
   refine gw 18 524287 ?_; intro K hK
   refine Zoc (first := []) (cap := []) T rfl rfl rfl rfl evf (.cons (T.e 12 rfl) (.cons (T.e 7 rfl) (.cons (T.e 3 rfl) .nil))) Tryz.func52 rfl rfl ?_
   refine Calls.mono (within_pot _ bp ((-lu1.span) - 3) (lu1.span + 3) _ (by omega) (by omega) (by omega) (M.nth 2 rfl) hsu8) ?_
   clear T; rintro e wc ⟨xu9, su9, hxu9, hsu9, rfl, hgr, hbk⟩ ac T
   replace M := M.callC (cs' := [.int .u64 su9]) (.tail (.tail .head)) hgr hbk
   clear hgr hbk
   refine Zso hK _ _ (MA.mk (fun h => (no_of (by kernel_rfl) h).elim) (MA.mk (fun h => (no_of (by kernel_rfl) h).elim) (M.mask [true, true, false] rfl))) ?_; clear hK K
   refine gq T 19 1048575 rfl (fun _ _ _ _ _ => (rn_add rfl (T.e 1 rfl) (T.e 0 rfl) (by omega))) ?_; clear T ac; intro ac T
   refine g_q (v := (.int .i64 (ntu8 + xu9))) (T := T.pick [0, 1, 2, 3, 4, 5, 6, 7, 8, 9, 10, 11, 12, 13, 14, 15, 16, 17, 18, 19, 20, 22, 23, 24, 25, 26, 27, 28] rfl) (i := 20) rfl (by kernel_rfl) (by kernel_rfl : (Zpb 21 1048575).setIfInBounds 20 true = Zpb 21 2097151) (si_and (si_G rfl) (si_and (si_G rfl) si_U)) (fun _ _ _ h => h) rfl rfl rfl rfl (fun _ _ _ _ _ => (Zra rfl (T.e 0 rfl))) ?_; clear T ac; intro ac T
   refine Zgd (by kernel_rfl) ?_
   replace T := T.pick [0, 22, 23, 24, 25, 26, 27, 28] rfl
   refine nm_then ?_
   refine Zgs M (M.perm [1] rfl rfl) 12 (by kernel_rfl) rfl (by kernel_rfl) ?_
   clear M; intro wc M
   refine g_addG 7 (M.perm [0, 1, 2] rfl rfl) ?_
   refine g_addG 11 (M.perm [0, 1] rfl rfl) ?_
   refine gq (v := (.pointer (some ⟨g2, 6, none⟩))) T 0 1 rfl (fun _ _ _ _ _ => (Zrf (off := 6) rfl (T.e 4 rfl) (fun _ _ _ => by kernel_rfl))) ?_; clear T ac; intro ac T
   refine gq T 1 3 rfl (fun B w' hD hl hS => (Zro (Mem.nth (show Mem w (fun b => b = bp) w' _ from ((MA.lft hS) (hD.wait (i := 1) (m := 11) (by kernel_rfl) hl))) 0 rfl) rfl (T.e 0 rfl) rfl)) ?_; clear T ac; intro ac T
   refine gq T 2 7 rfl (fun _ _ _ _ _ => (Zrm rfl (T.e 3 rfl))) ?_; clear T ac; intro ac T
   refine gq T 3 15 rfl (fun _ _ _ _ _ => (Zrm rfl (T.e 3 rfl))) ?_; clear T ac; intro ac T
   refine gq T 4 31 rfl (fun _ _ _ _ _ => (Zrm rfl (T.e 9 rfl))) ?_; clear T ac; intro ac T
   refine gq T 5 63 rfl (fun _ _ _ _ _ => (rn_add rfl (T.e 1 rfl) (T.e 0 rfl) (by omega))) ?_; clear T ac; intro ac T
   refine gq T 6 127 rfl (fun _ _ _ _ _ => (Zrm rfl (T.e 8 rfl))) ?_; clear T ac; intro ac T
   refine gw 7 255 ?_; intro K hK
   refine Zoc (first := []) (cap := []) T rfl rfl rfl rfl evf (.cons (T.e 4 rfl) (.cons (T.e 1 rfl) (.cons (T.e 0 rfl) .nil))) Tryz.func53 rfl rfl ?_
   refine Calls.mono (soundOf_any _ bp ((ntu8 + xu9) + (lu1.first + (lu1.step * xu2))) wide _ (by omega) (by omega) (M.nth 2 rfl) hsu9) ?_
   clear T; rintro e wc ⟨xu10, su10, hxu10, hsu10, rfl, hgr, hbk⟩ ac T
   replace M := M.callC (cs' := [.int .u64 su10]) (.tail (.tail .head)) hgr hbk
   clear hgr hbk
   refine Zso hK _ _ (MA.mk (fun _ => M.perm [0, 1] rfl rfl) (MA.mk (fun h => (no_of (by kernel_rfl) h).elim) (M.perm [1] rfl rfl))) ?_; clear hK K
   refine gw 8 511 ?_; intro K hK
   refine ow_bs (e := 32) [.int .i64 xu10.t0, .int .i64 xu10.t1, .int .i64 xu10.s0, .int .i64 xu10.s1] M T rfl rfl rfl rfl (.cons (T.e 0 rfl) .nil) (fun _ => by kernel_rfl) ?_; clear M T; intro g3 wc ac M T
   refine Zso hK _ _ (MA.mk (fun _ => M.perm [1, 2] rfl rfl) (MA.mk (fun h => (no_of (by kernel_rfl) h).elim) (M.perm [2] rfl rfl))) ?_; clear hK K
   refine gw 9 1023 ?_; intro K hK
   refine ow_app (((g3, .cells [.int .i64 xu10.t0, .int .i64 xu10.t1, .int .i64 xu10.s0, .int .i64 xu10.s1]) :: (g2, .cells [.int .i64 lu1.first, .int .i64 lu1.step, .int .i64 lu1.span, .int .i64 lu1.press, .int .i64 xu2, .slice A3 ol.length c3, .slice A5 oh.length c5, .int .i64 0, .int .i64 0, .int .i64 0, .int .i64 0, .int .i64 0, .int .i64 0, .int .i64 0, .int .i64 0, .int .i64 0, .int .i64 0, .int .i64 0, .int .i64 0, .int .i64 0, .int .i64 xu3]) :: (g1, .cells [.int .i64 0, .int .i64 0, .int .i64 0, .int .i64 0, .int .i64 0, .slice none 0 0, .slice none 0 0, .int .i64 0, .int .i64 0, .int .i64 0, .int .i64 0, .int .i64 0, .int .i64 0, .int .i64 0, .int .i64 0, .int .i64 0, .int .i64 0, .int .i64 0, .int .i64 0, .int .i64 0, .int .i64 0]) :: (bp, .cells [.int .u64 su10]) :: (Ii ++ Io))) Tryz.info32 hsh M (by first | rfl | simp) T rfl rfl rfl rfl Tryz.underlying24 rfl rfl rfl (by omega) (T.e 7 rfl) (T.e 0 rfl) (Zne (i := 0) rfl) rfl rfl ?_; clear M T; intro ga9 cga9 wc ac M T
   refine Zso hK _ _ (MA.mk (fun _ => M.perm [2, 3] rfl rfl) (MA.mk (fun h => (no_of (by kernel_rfl) h).elim) (M.perm [3] rfl rfl))) ?_; clear hK K
   refine gq (v := (.pointer (some ⟨g2, 6, none⟩))) T 10 2047 rfl (fun _ _ _ _ _ => (Zrf (off := 6) rfl (T.e 14 rfl) (fun _ _ _ => by kernel_rfl))) ?_; clear T ac; intro ac T
   refine gw 11 4095 ?_; intro K hK
   refine Zos M T rfl rfl (T.e 0 rfl) (T.e 1 rfl) rfl (.tail (.tail .head)) rfl (by simp) rfl (by kernel_rfl) ?_; clear M T; intro wc ac M T
   refine Zso hK _ _ (MA.mk (fun h => (no_of (by kernel_rfl) h).elim) (MA.mk (fun h => (no_of (by kernel_rfl) h).elim) (M.perm [3] rfl rfl))) ?_; clear hK K
   refine Zgd (by kernel_rfl) ?_
   replace T := T.pick [12, 13, 14, 15, 16, 17, 18] rfl
   replace M := M.mask [true, false, true, true, true] rfl
   refine Znb ?_
   refine nm_then ?_
   refine wp_region_lit ?_
   refine Zg2 T (Zq (Zrm rfl (T.e 6 rfl))) rfl (fun _ T => Zq (rn_sub rfl (T.e 0 rfl) evc (by omega))) rfl ?_; clear T ac; intro ac T
   refine l_q (v := (.int .i64 (q - 1))) (T.pick [0, 1, 2, 3, 4, 5, 6, 7] rfl) rfl rfl rfl rfl (Zra rfl (T.e 0 rfl)) ?_; clear T ac; intro ac T
   replace T := T.pick [0, 3, 4, 5, 6, 7, 8] rfl
   refine Zln ?_
   have e9a : oh.length + 1 = (oh ++ [xu10]).length := by simp
   have e8a : ((sc oh) ++ [.int .i64 xu10.t0, .int .i64 xu10.t1, .int .i64 xu10.s0, .int .i64 xu10.s1]) = sc (oh ++ [xu10]) := by rw [← sc_snoc]
   rw [e9a, e8a] at M
   (try rw [e9a] at T)
   exact ⟨_, by omega, (q - 1), (oh ++ [xu10]), _, _, su10, [(ga9, .row 32 4 (oh ++ [xu10]).length (sc (oh ++ [xu10])) cga9)], rfl, (by omega), (by simp only [List.length_append, List.length_cons, List.length_nil]; omega), (fun z hz => by rcases List.mem_append.1 hz with h9 | h9; exact hgh z h9; simp only [List.mem_cons, List.not_mem_nil, or_false] at h9; subst h9; exact hxu10), hsu10, (Sl.row _ _ _ _ _ _), T.pick [1, 2, 3, 4, 5, 6, 0] rfl, (Mem.spin [(g2, .cells [.int .i64 lu1.first, .int .i64 lu1.step, .int .i64 lu1.span, .int .i64 lu1.press, .int .i64 xu2, .slice A3 ol.length c3, .slice (some ⟨ga9, 0, none⟩) ((oh ++ [xu10]).length) cga9, .int .i64 0, .int .i64 0, .int .i64 0, .int .i64 0, .int .i64 0, .int .i64 0, .int .i64 0, .int .i64 0, .int .i64 0, .int .i64 0, .int .i64 0, .int .i64 0, .int .i64 0, .int .i64 xu3]), (g1, .cells [.int .i64 0, .int .i64 0, .int .i64 0, .int .i64 0, .int .i64 0, .slice none 0 0, .slice none 0 0, .int .i64 0, .int .i64 0, .int .i64 0, .int .i64 0, .int .i64 0, .int .i64 0, .int .i64 0, .int .i64 0, .int .i64 0, .int .i64 0, .int .i64 0, .int .i64 0, .int .i64 0, .int .i64 0]), (bp, .cells [.int .u64 su10])] [(ga9, .row 32 4 (oh ++ [xu10]).length (sc (oh ++ [xu10])) cga9)] (Ii ++ Io) (M.permT [1, 2, 3, 0] 4 rfl rfl rfl rfl))⟩
  intro h3
  refine Zsk ?_
  refine Zgs M (M.perm [1] rfl rfl) 12 (by kernel_rfl) rfl (by kernel_rfl) ?_
  clear M; intro wc M
  refine g_addG 7 (M.perm [0, 1, 2] rfl rfl) ?_
  refine g_addG 11 (M.perm [0, 1] rfl rfl) ?_
  refine gq (v := (.pointer (some ⟨g2, 6, none⟩))) T 0 1 rfl (fun _ _ _ _ _ => (Zrf (off := 6) rfl (T.e 5 rfl) (fun _ _ _ => by kernel_rfl))) ?_; clear T ac; intro ac T
  refine gq T 1 3 rfl (fun B w' hD hl hS => (Zro (Mem.nth (show Mem w (fun b => b = bp) w' _ from ((MA.lft hS) (hD.wait (i := 1) (m := 11) (by kernel_rfl) hl))) 0 rfl) rfl (T.e 0 rfl) rfl)) ?_; clear T ac; intro ac T
  refine gq T 2 7 rfl (fun _ _ _ _ _ => (Zrm rfl (T.e 4 rfl))) ?_; clear T ac; intro ac T
  refine gq T 3 15 rfl (fun _ _ _ _ _ => (Zrm rfl (T.e 4 rfl))) ?_; clear T ac; intro ac T
  refine gq T 4 31 rfl (fun _ _ _ _ _ => (Zrm rfl (T.e 10 rfl))) ?_; clear T ac; intro ac T
  refine gq T 5 63 rfl (fun _ _ _ _ _ => (rn_add rfl (T.e 1 rfl) (T.e 0 rfl) (by omega))) ?_; clear T ac; intro ac T
  refine gq T 6 127 rfl (fun _ _ _ _ _ => (Zrm rfl (T.e 9 rfl))) ?_; clear T ac; intro ac T
  refine gw 7 255 ?_; intro K hK
  refine Zoc (first := []) (cap := []) T rfl rfl rfl rfl evf (.cons (T.e 4 rfl) (.cons (T.e 1 rfl) (.cons (T.e 0 rfl) .nil))) Tryz.func53 rfl rfl ?_
  refine Calls.mono (soundOf_any _ bp (xu7 + (lu1.first + (lu1.step * xu2))) wide _ (by omega) (by omega) (M.nth 2 rfl) hsu7) ?_
  clear T; rintro e wc ⟨xu11, su11, hxu11, hsu11, rfl, hgr, hbk⟩ ac T
  replace M := M.callC (cs' := [.int .u64 su11]) (.tail (.tail .head)) hgr hbk
  clear hgr hbk
  refine Zso hK _ _ (MA.mk (fun _ => M.perm [0, 1] rfl rfl) (MA.mk (fun h => (no_of (by kernel_rfl) h).elim) (M.perm [1] rfl rfl))) ?_; clear hK K
  refine gw 8 511 ?_; intro K hK
  refine ow_bs (e := 32) [.int .i64 xu11.t0, .int .i64 xu11.t1, .int .i64 xu11.s0, .int .i64 xu11.s1] M T rfl rfl rfl rfl (.cons (T.e 0 rfl) .nil) (fun _ => by kernel_rfl) ?_; clear M T; intro g4 wc ac M T
  refine Zso hK _ _ (MA.mk (fun _ => M.perm [1, 2] rfl rfl) (MA.mk (fun h => (no_of (by kernel_rfl) h).elim) (M.perm [2] rfl rfl))) ?_; clear hK K
  refine gw 9 1023 ?_; intro K hK
  refine ow_app (((g4, .cells [.int .i64 xu11.t0, .int .i64 xu11.t1, .int .i64 xu11.s0, .int .i64 xu11.s1]) :: (g2, .cells [.int .i64 lu1.first, .int .i64 lu1.step, .int .i64 lu1.span, .int .i64 lu1.press, .int .i64 xu2, .slice A3 ol.length c3, .slice A5 oh.length c5, .int .i64 0, .int .i64 0, .int .i64 0, .int .i64 0, .int .i64 0, .int .i64 0, .int .i64 0, .int .i64 0, .int .i64 0, .int .i64 0, .int .i64 0, .int .i64 0, .int .i64 0, .int .i64 xu3]) :: (g1, .cells [.int .i64 0, .int .i64 0, .int .i64 0, .int .i64 0, .int .i64 0, .slice none 0 0, .slice none 0 0, .int .i64 0, .int .i64 0, .int .i64 0, .int .i64 0, .int .i64 0, .int .i64 0, .int .i64 0, .int .i64 0, .int .i64 0, .int .i64 0, .int .i64 0, .int .i64 0, .int .i64 0, .int .i64 0]) :: (bp, .cells [.int .u64 su11]) :: (Ii ++ Io))) Tryz.info32 hsh M (by first | rfl | simp) T rfl rfl rfl rfl Tryz.underlying24 rfl rfl rfl (by omega) (T.e 7 rfl) (T.e 0 rfl) (Zne (i := 0) rfl) rfl rfl ?_; clear M T; intro ga10 cga10 wc ac M T
  refine Zso hK _ _ (MA.mk (fun _ => M.perm [2, 3] rfl rfl) (MA.mk (fun h => (no_of (by kernel_rfl) h).elim) (M.perm [3] rfl rfl))) ?_; clear hK K
  refine gq (v := (.pointer (some ⟨g2, 6, none⟩))) T 10 2047 rfl (fun _ _ _ _ _ => (Zrf (off := 6) rfl (T.e 15 rfl) (fun _ _ _ => by kernel_rfl))) ?_; clear T ac; intro ac T
  refine gw 11 4095 ?_; intro K hK
  refine Zos M T rfl rfl (T.e 0 rfl) (T.e 1 rfl) rfl (.tail (.tail .head)) rfl (by simp) rfl (by kernel_rfl) ?_; clear M T; intro wc ac M T
  refine Zso hK _ _ (MA.mk (fun h => (no_of (by kernel_rfl) h).elim) (MA.mk (fun h => (no_of (by kernel_rfl) h).elim) (M.perm [3] rfl rfl))) ?_; clear hK K
  refine Zgd (by kernel_rfl) ?_
  replace T := T.pick [13, 14, 15, 16, 17, 18, 19] rfl
  replace M := M.mask [true, false, true, true, true] rfl
  refine Znb ?_
  refine nm_then ?_
  refine wp_region_lit ?_
  refine Zg2 T (Zq (Zrm rfl (T.e 6 rfl))) rfl (fun _ T => Zq (rn_sub rfl (T.e 0 rfl) evc (by omega))) rfl ?_; clear T ac; intro ac T
  refine l_q (v := (.int .i64 (q - 1))) (T.pick [0, 1, 2, 3, 4, 5, 6, 7] rfl) rfl rfl rfl rfl (Zra rfl (T.e 0 rfl)) ?_; clear T ac; intro ac T
  replace T := T.pick [0, 3, 4, 5, 6, 7, 8] rfl
  refine Zln ?_
  have e9a : oh.length + 1 = (oh ++ [xu11]).length := by simp
  have e8a : ((sc oh) ++ [.int .i64 xu11.t0, .int .i64 xu11.t1, .int .i64 xu11.s0, .int .i64 xu11.s1]) = sc (oh ++ [xu11]) := by rw [← sc_snoc]
  rw [e9a, e8a] at M
  (try rw [e9a] at T)
  exact ⟨_, by omega, (q - 1), (oh ++ [xu11]), _, _, su11, [(ga10, .row 32 4 (oh ++ [xu11]).length (sc (oh ++ [xu11])) cga10)], rfl, (by omega), (by simp only [List.length_append, List.length_cons, List.length_nil]; omega), (fun z hz => by rcases List.mem_append.1 hz with h9 | h9; exact hgh z h9; simp only [List.mem_cons, List.not_mem_nil, or_false] at h9; subst h9; exact hxu11), hsu11, (Sl.row _ _ _ _ _ _), T.pick [1, 2, 3, 4, 5, 6, 0] rfl, (Mem.spin [(g2, .cells [.int .i64 lu1.first, .int .i64 lu1.step, .int .i64 lu1.span, .int .i64 lu1.press, .int .i64 xu2, .slice A3 ol.length c3, .slice (some ⟨ga10, 0, none⟩) ((oh ++ [xu11]).length) cga10, .int .i64 0, .int .i64 0, .int .i64 0, .int .i64 0, .int .i64 0, .int .i64 0, .int .i64 0, .int .i64 0, .int .i64 0, .int .i64 0, .int .i64 0, .int .i64 0, .int .i64 0, .int .i64 xu3]), (g1, .cells [.int .i64 0, .int .i64 0, .int .i64 0, .int .i64 0, .int .i64 0, .slice none 0 0, .slice none 0 0, .int .i64 0, .int .i64 0, .int .i64 0, .int .i64 0, .int .i64 0, .int .i64 0, .int .i64 0, .int .i64 0, .int .i64 0, .int .i64 0, .int .i64 0, .int .i64 0, .int .i64 0, .int .i64 0]), (bp, .cells [.int .u64 su11])] [(ga10, .row 32 4 (oh ++ [xu11]).length (sc (oh ++ [xu11])) cga10)] (Ii ++ Io) (M.permT [1, 2, 3, 0] 4 rfl rfl rfl rfl))⟩
 intro h2
 refine wp_exit ?_
 refine Zet ?_
 refine Zet ?_
 refine ex_hit ?_
 refine nm_then ?_
 refine Zsr ?_
 refine lq T (Zrm rfl (T.e 1 rfl)) ?_; clear T ac; intro ac T
 refine Zl2 ?_
 refine Zoc (first := []) (cap := []) T rfl rfl rfl rfl evf (.cons (T.e 0 rfl) (.cons evc (.cons evc .nil))) Tryz.func54 rfl rfl ?_
 refine Calls.mono (jobOf_any _ bp 0 1 _ (by omega) (by omega) (by omega) (by omega) (M.nth 2 rfl) hs2) ?_
 clear T; rintro e wc ⟨ju12, Au12, cu12, su12, Iu12, rfl, hmu12, hsu12, hslu12, N⟩ ac T
 obtain ⟨bu12, ou12, SVu12⟩ := hslu12.spV (rc_length _)
 have Su12 := SVu12 w (fun b => b = bp)
 replace M := (M.joinW (.tail (.tail .head)) N).swapI
 replace M := M.mask [true, true, true] rfl
 clear N hslu12
 have hgu12 := hmu12.good
 have hfewu12 := hgu12.few
 have hpu12 := hgu12.p
 have hmeu12 := hgu12.me
 refine Zl2 ?_
 refine Zoa M T rfl rfl rfl rfl ?_; clear M T; intro g5 wc ac M T
 refine Zl2 ?_
 refine Zos M T rfl rfl (T.e 0 rfl) (T.e 1 rfl) rfl .head rfl (by simp) rfl (by kernel_rfl) ?_; clear M T; intro wc ac M T
 replace T := T.pick [0, 6, 7] rfl
 refine Zln ?_
 refine wp_seq ?_
 refine Zgs M (M.mask [true, false, true, true] rfl) 14 (by kernel_rfl) rfl (by kernel_rfl) ?_
 clear M; intro wc M
 refine g_addG 9 M ?_
 refine gq (v := (.pointer (some ⟨g5, 0, none⟩))) T 0 1 rfl (fun _ _ _ _ _ => (Zrf (off := 0) rfl (T.e 0 rfl) (fun _ _ _ => by kernel_rfl))) ?_; clear T ac; intro ac T
 refine gq (v := (.pointer (some ⟨g5, 2, none⟩))) T 1 3 rfl (fun _ _ _ _ _ => (Zrf (off := 2) rfl (T.e 0 rfl) (fun _ _ _ => by kernel_rfl))) ?_; clear T ac; intro ac T
 refine gq T 2 7 rfl (fun B w' hD hl hS => (Zrr (Mem.nth (show Mem w (fun b => b = bp) w' _ from ((MA.lft hS) (hD.wait (i := 2) (m := 9) (by kernel_rfl) hl))) 0 rfl) rfl (T.e 0 rfl) rfl)) ?_; clear T ac; intro ac T
 refine gq (v := (.pointer (some ⟨g5, 0, none⟩))) T 3 15 rfl (fun _ _ _ _ _ => (Zrf (off := 0) rfl (T.e 3 rfl) (fun _ _ _ => by kernel_rfl))) ?_; clear T ac; intro ac T
 refine gq (v := (.pointer (some ⟨g5, 4, none⟩))) T 4 31 rfl (fun _ _ _ _ _ => (Zrf (off := 4) rfl (T.e 0 rfl) (fun _ _ _ => by kernel_rfl))) ?_; clear T ac; intro ac T
 refine gq T 5 63 rfl (fun B w' hD hl hS => (Zrr (Mem.nth (show Mem w (fun b => b = bp) w' _ from (MA.rgt hS)) 0 rfl) rfl (T.e 0 rfl) rfl)) ?_; clear T ac; intro ac T
 refine gq (v := (.pointer (some ⟨g5, 6, none⟩))) T 6 127 rfl (fun _ _ _ _ _ => (Zrf (off := 6) rfl (T.e 6 rfl) (fun _ _ _ => by kernel_rfl))) ?_; clear T ac; intro ac T
 refine gq T 7 255 rfl (fun B w' hD hl hS => (Zrr (Mem.nth (show Mem w (fun b => b = bp) w' _ from (MA.rgt hS)) 0 rfl) rfl (T.e 0 rfl) rfl)) ?_; clear T ac; intro ac T
 refine gq (v := (.pointer (some ⟨g2, 7, none⟩))) T 8 511 rfl (fun _ _ _ _ _ => (Zrf (off := 7) rfl (T.e 10 rfl) (fun _ _ _ => by kernel_rfl))) ?_; clear T ac; intro ac T
 refine gw 9 1023 ?_; intro K hK
 refine Zos M T rfl rfl (T.e 0 rfl) (T.e 6 rfl) rfl (.tail .head) rfl (by simp) rfl (by kernel_rfl) ?_; clear M T; intro wc ac M T
 refine Zso hK _ _ (MA.mk (fun h => (no_of (by kernel_rfl) h).elim) (M.mask [true, false, true, true] rfl)) ?_; clear hK K
 refine gq (v := (.pointer (some ⟨g2, 9, none⟩))) T 10 2047 rfl (fun _ _ _ _ _ => (Zrf (off := 9) rfl (T.e 11 rfl) (fun _ _ _ => by kernel_rfl))) ?_; clear T ac; intro ac T
 refine gw 11 4095 ?_; intro K hK
 refine Zos M T rfl rfl (T.e 0 rfl) (T.e 4 rfl) rfl (.tail .head) rfl (by simp) rfl (by kernel_rfl) ?_; clear M T; intro wc ac M T
 refine Zso hK _ _ (MA.mk (fun h => (no_of (by kernel_rfl) h).elim) (M.mask [true, false, true, true] rfl)) ?_; clear hK K
 refine gq (v := (.pointer (some ⟨g2, 11, none⟩))) T 12 8191 rfl (fun _ _ _ _ _ => (Zrf (off := 11) rfl (T.e 12 rfl) (fun _ _ _ => by kernel_rfl))) ?_; clear T ac; intro ac T
 refine gw 13 16383 ?_; intro K hK
 refine Zos M T rfl rfl (T.e 0 rfl) (T.e 3 rfl) rfl (.tail .head) rfl (by simp) rfl (by kernel_rfl) ?_; clear M T; intro wc ac M T
 refine Zso hK _ _ (MA.mk (fun h => (no_of (by kernel_rfl) h).elim) (M.mask [true, false, true, true] rfl)) ?_; clear hK K
 refine Zgd (by kernel_rfl) ?_
 replace T := T.pick [12, 13] rfl
 replace M := M.mask [false, true, true, true] rfl
 replace M : Mem w (fun b => b = bp) wc ((g2, .cells [.int .i64 lu1.first, .int .i64 lu1.step, .int .i64 lu1.span, .int .i64 lu1.press, .int .i64 xu2, .slice A3 ol.length c3, .slice A5 oh.length c5, .int .i64 ju12.t0, .int .i64 ju12.t1, .int .i64 ju12.r0, .int .i64 ju12.r1, .int .i64 ju12.u0, .int .i64 ju12.u1, .int .i64 ju12.d0, .int .i64 ju12.d1, .int .i64 ju12.a0, .int .i64 ju12.a1, .int .i64 ju12.b0, .int .i64 ju12.b1, .int .i64 ju12.le, .int .i64 xu3]) :: (g1, .cells [.int .i64 0, .int .i64 0, .int .i64 0, .int .i64 0, .int .i64 0, .slice none 0 0, .slice none 0 0, .int .i64 0, .int .i64 0, .int .i64 0, .int .i64 0, .int .i64 0, .int .i64 0, .int .i64 0, .int .i64 0, .int .i64 0, .int .i64 0, .int .i64 0, .int .i64 0, .int .i64 0, .int .i64 0]) :: (bp, .cells [.int .u64 su12]) :: (Ii ++ Io ++ Ih ++ Iu12)) := M
 refine nm_then ?_
 refine Zsr ?_
 refine lq T (Zrr (Mem.nth M 0 rfl) rfl (T.e 1 rfl) rfl) ?_; clear T ac; intro ac T
 refine Zl2 ?_
 refine Zos M T rfl rfl (T.e 1 rfl) (T.e 0 rfl) rfl (.tail .head) rfl (by simp) rfl (by kernel_rfl) ?_; clear M T; intro wc ac M T
 refine wpList_nil ?_
 replace T := T.pick [1] rfl
 replace M := M.mask [false, true, true] rfl
 replace M : Mem w (fun b => b = bp) wc ((g1, .cells [.int .i64 lu1.first, .int .i64 lu1.step, .int .i64 lu1.span, .int .i64 lu1.press, .int .i64 xu2, .slice A3 ol.length c3, .slice A5 oh.length c5, .int .i64 ju12.t0, .int .i64 ju12.t1, .int .i64 ju12.r0, .int .i64 ju12.r1, .int .i64 ju12.u0, .int .i64 ju12.u1, .int .i64 ju12.d0, .int .i64 ju12.d1, .int .i64 ju12.a0, .int .i64 ju12.a1, .int .i64 ju12.b0, .int .i64 ju12.b1, .int .i64 ju12.le, .int .i64 xu3]) :: (bp, .cells [.int .u64 su12]) :: (Ii ++ Io ++ Ih ++ Iu12)) := M
 refine Znr ?_
 refine rt_c M T rfl (T.e 0 rfl) (Zne (i := 0) rfl) rfl ?_
 obtain ⟨bs1, os1, hS1⟩ := hsl.spV (sc_length _)
 obtain ⟨bs2, os2, hS2⟩ := hsh.spV (sc_length _)
 have hmd := boxMade (b := ({ first := lu1.first, step := lu1.step, span := lu1.span, press := lu1.press, note := xu2, lows := ol, highs := oh, t0 := ju12.t0, t1 := ju12.t1, r0 := ju12.r0, r1 := ju12.r1, u0 := ju12.u0, u1 := ju12.u1, d0 := ju12.d0, d1 := ju12.d1, a0 := ju12.a0, a1 := ju12.a1, b0 := ju12.b0, b1 := ju12.b1, le := ju12.le, me := xu3 } : Bx)) (lo := nlo) (hi := nhi) (j := ju12) hlu1 (by dsimp only; omega) (by dsimp only; omega) (by dsimp only; omega) hgo hgh (by dsimp only; omega) hmu12 ⟨rfl, rfl, rfl, rfl, rfl, rfl, rfl, rfl, rfl, rfl, rfl, rfl, rfl⟩
 refine ⟨_, A3, c3, A5, c5, _, Io ++ Ih, rfl, hmd, hsu12, ⟨bs1, os1, fun w ex => (hS1 w ex).mono (Zsl _ _)⟩, ⟨bs2, os2, fun w ex => (hS2 w ex).mono (Zsq _ _)⟩, Mem.swapI (I := [(bp, .cells [.int .u64 su12])]) (L := Io ++ Ih) ?_⟩
 have M9 : Mem w (fun b => b = bp) wc ((bp, .cells [.int .u64 su12]) :: (Ii ++ Io ++ Ih ++ Iu12)) := M.permT [1] 2 rfl rfl rfl rfl
 refine M9.sub (.cons_cons _ ?_)
 refine List.Sublist.trans ?_ (Zsl _ _)
 rw [List.append_assoc]
 exact Zsq _ _
open Go.RowKit
open Go.RowKit
open Go.RowKit
open Go.RowKit
section
variable {P : Program} {op : Oper} {a : Act} {K : Act → World → Prop} {Q : Exit → Act → World → Prop} {w0 w : World} {ex : Nat → Prop} {L : List (Nat × BA)} {E : List (Nat × Value)} {df : List Deferred} {t n : Nat}
end
open Go.RowKit
open Go.RowKit
theorem eqT32 {x y : Operand} {a0 a1 a2 a3 b0 b1 b2 b3 : Int} {w : World} : (do eqGuard .eql 32 x y (.agg #[.int .i64 a0, .int .i64 a1, .int .i64 a2, .int .i64 a3]) (.agg #[.int .i64 b0, .int .i64 b1, .int .i64 b2, .int .i64 b3]); binOp .eql 32 (.agg #[.int .i64 a0, .int .i64 a1, .int .i64 a2, .int .i64 a3]) (.agg #[.int .i64 b0, .int .i64 b1, .int .i64 b2, .int .i64 b3]) : Sem Value).run Tryz.prog w = .ok (.bool ((decide (a0 = b0) && (decide (a1 = b1) && (decide (a2 = b2) && decide (a3 = b3)))))) w := by
 go_simp
 (repeat' split) <;> simp_all
theorem eqT23 {x y : Operand} {a0 a1 a2 a3 b0 b1 b2 b3 : Int} {w : World} : (do eqGuard .eql 23 x y (.agg #[.int .i64 a0, .int .i64 a1, .int .i64 a2, .int .i64 a3]) (.agg #[.int .i64 b0, .int .i64 b1, .int .i64 b2, .int .i64 b3]); binOp .eql 23 (.agg #[.int .i64 a0, .int .i64 a1, .int .i64 a2, .int .i64 a3]) (.agg #[.int .i64 b0, .int .i64 b1, .int .i64 b2, .int .i64 b3]) : Sem Value).run Tryz.prog w = .ok (.bool ((decide (a0 = b0) && (decide (a1 = b1) && (decide (a2 = b2) && decide (a3 = b3)))))) w := by
 go_simp
 (repeat' split) <;> simp_all
def tabE (b : Bx) : List (List Int) := if checkB b = 0 then tableP b else []
def PairsEPost (b : Bx) (w : World) (e : Ending) (w' : World) : Prop := ∃ (A : Option Addr) (c : Nat) (LL : List LE) (I : List (Nat × BA)), e = .returned (.tuple #[.slice A LL.length c, .int .i64 (checkB b)]) ∧ LL.map (·.1) = tabE b ∧ (∃ b o, ∀ (w : World) (ex : Nat → Prop), Sp w ex I A LL.length 1 b o (lc LL)) ∧ Els LL I ∧ Mem w noEx w' I
theorem Beat5_any (b : Bx) (A : Option Addr) (c : Nat) (B : Option Addr) (d : Nat) (i k : Int) (w : World) (hA : Rd w w.heap.size 4 A b.lows.length (sc b.lows)) (hB : Rd w w.heap.size 4 B b.highs.length (sc b.highs)) (nA : b.lows.length ≤ 1000000) (nB : b.highs.length ≤ 1000000)  :
   Calls Tryz.prog 22 #[bxV b A c B d, .int .i64 i, .int .i64 k] w (BeatPost b i k w) := by
 have hlA := hA.len4
 have hlB := hB.len4
 obtain ⟨bA, oA, SA⟩ := Sp.old hA
 obtain ⟨bB, oB, SB⟩ := Sp.old hB
 refine Zpx noEx Tryz.func22 rfl 41 rfl [.agg #[.int .i64 b.first, .int .i64 b.step, .int .i64 b.span, .int .i64 b.press, .int .i64 b.note, .slice A b.lows.length c, .slice B b.highs.length d, .int .i64 b.t0, .int .i64 b.t1, .int .i64 b.r0, .int .i64 b.r1, .int .i64 b.u0, .int .i64 b.u1, .int .i64 b.d0, .int .i64 b.d1, .int .i64 b.a0, .int .i64 b.a1, .int .i64 b.b0, .int .i64 b.b1, .int .i64 b.le, .int .i64 b.me], .int .i64 i, .int .i64 k] rfl rfl (Mem.init w _) ?_
 intro ac wc T M
 refine Zsr ?_
 refine Zl2 ?_
 refine Zob M T rfl rfl rfl rfl (T.e 0 rfl) rfl ?_; clear M T; intro g1 wc ac M T
 refine Zg2 T (Zq (Zra rfl evc)) rfl (Zc rfl) rfl ?_; clear T ac; intro ac T
 replace T := T.pick [2, 4, 5] rfl
 refine Zln ?_
 refine wp_seq ?_
 refine Zsr ?_
 refine Zg3 T (Zq (Zrr (Mem.nth M 0 rfl) rfl (T.e 0 rfl) rfl)) rfl (Zm 2 rfl rfl) rfl (Zm 4 rfl rfl) rfl ?_; clear T ac; intro ac T
 refine Zl2 ?_
 refine Zoc (first := []) (cap := []) T rfl rfl rfl rfl evf (.cons (T.e 2 rfl) (.cons (T.e 1 rfl) (.cons (T.e 0 rfl) .nil))) Tryz.func78 rfl rfl ?_
 refine Calls.mono (checkPair5_any b _ _ _ _ i k _ (SA.rd M (Zz9 _)) (SB.rd M (Zz9 _)) (by omega) (by omega)) ?_
 clear T; rintro e wc ⟨rfl, hb⟩ ac T
 replace M := M.call hb; clear hb
 refine lq T (Zra rfl (T.e 0 rfl)) ?_; clear T ac; intro ac T
 replace T := T.pick [0, 5, 6, 7] rfl
 refine Zln ?_
 refine Zsr ?_
 refine Zg2 T (Zq (Zrm rfl (T.e 0 rfl))) rfl (fun _ T => Zq (rn_neq rfl (T.e 0 rfl) evc)) rfl ?_; clear T ac; intro ac T
 replace T := T.pick [0, 2, 3, 4, 5] rfl
 refine Zln ?_
 refine wp_ifn (T.e 0 rfl) ?_ ?_
 ·intro h1
  refine Zsr ?_
  refine Zg3 T (Zq (Zrm rfl (T.e 1 rfl))) rfl (Zc rfl) rfl (Za 1 rfl rfl) rfl ?_; clear T ac; intro ac T
  refine wpList_nil ?_
  replace T := T.pick [0, 1] rfl
  replace M := M.mask [false] rfl
  refine Znr ?_
  refine Zrt ?_
  refine rt_2 T rfl (T.e 1 rfl) (T.e 0 rfl) ?_
  unfold BeatPost
  have e9 : beatE b i k = [] := by unfold beatE; rw [if_neg (by assumption)]
  rw [e9]
  exact ⟨none, 0, [], rfl, Sl.nil _ _, M.mask [] rfl⟩
 intro h1
 obtain ⟨gb, ⟨i0, i1⟩, k0, k1⟩ := checkPB_good (b := b) (i := i) (k := k) (by simpa using h1)
 obtain ⟨il, hil⟩ : ∃ q : Nat, i = (q : Int) := ⟨i.toNat, by omega⟩
 obtain ⟨kl, hkl⟩ : ∃ q : Nat, k = (q : Int) := ⟨k.toNat, by omega⟩
 have gl3 := gb.law.span
 have gl4 := gb.law.press
 have gn := gb.note
 have gf := gb.law.first
 have gs := gb.law.step
 have gd := gb.due
 unfold Bx.due at gd
 dsimp only at gl3 gl4 gf gs
 obtain ⟨x, hx9⟩ : ∃ q, q = b.low i := ⟨_, rfl⟩
 obtain ⟨y, hy9⟩ : ∃ q, q = b.high k := ⟨_, rfl⟩
 have hkx : b.lows[il]? = some x := by rw [hx9, ← Bx.low_get ⟨i0, i1⟩, hil]; rfl
 have hky : b.highs[kl]? = some y := by rw [hy9, ← Bx.high_get ⟨k0, k1⟩, hkl]; rfl
 have gx := gb.lows.2 x (List.mem_of_getElem? hkx)
 have gy := gb.highs.2 y (List.mem_of_getElem? hky)
 refine Zsk ?_
 refine Zsr ?_
 refine lq T (Zra rfl evc) ?_; clear T ac; intro ac T
 replace T := T.pick [0, 3, 4, 5] rfl
 refine Zln ?_
 refine wp_seq ?_
 refine Zsr ?_
 refine lq T (Zra rfl evc) ?_; clear T ac; intro ac T
 refine Zln ?_
 refine wp_block ?_
 refine wp_loop_n (fun mz ac wc => ∃ (m : Nat) (A9 : Option Addr) (c9 : Nat) (I9 : List (Nat × BA)), mz = (b.press + 1 - m).toNat ∧ ((m : Int) ≤ b.press + 1) ∧ (((beatsL b.law x y).take m).length ≤ 4) ∧ (Sl 26 2 (.slice A9 ((beatsL b.law x y).take m).length c9) ((beatsL b.law x y).take m).length (rc ((beatsL b.law x y).take m)) I9) ∧ Tm ac 41 [(1, .int .i64 i), (2, .int .i64 k), (3, .pointer (some ⟨g1, 0, none⟩)), (9, .slice A9 (((beatsL b.law x y).take m).length) c9), (10, .int .i64 (m : Int))] ∧ Mem w noEx wc ((g1, .cells [.int .i64 b.first, .int .i64 b.step, .int .i64 b.span, .int .i64 b.press, .int .i64 b.note, .slice A b.lows.length c, .slice B b.highs.length d, .int .i64 b.t0, .int .i64 b.t1, .int .i64 b.r0, .int .i64 b.r1, .int .i64 b.u0, .int .i64 b.u1, .int .i64 b.d0, .int .i64 b.d1, .int .i64 b.a0, .int .i64 b.a1, .int .i64 b.b0, .int .i64 b.b1, .int .i64 b.le, .int .i64 b.me]) :: I9)) ?_ ?_
 ·exact ⟨_, 0, none, 0, [], rfl, (by omega), (by simp), (Sl.nil _ _), T.pick [3, 4, 2, 1, 0] rfl, M.mask [true] rfl⟩
 clear T M
 rintro mz ac wc ⟨m, A9, c9, I9, hmm1, hk, hlk, hsl, T, M⟩
 refine wp_seq ?_
 refine Zsr ?_
 refine Zg5 (v2 := (.pointer (some ⟨g1, 0, none⟩))) (v3 := (.pointer (some ⟨g1, 3, none⟩))) T (Zq (Zrm rfl (T.e 4 rfl))) rfl (Zf 0 3 rfl rfl) rfl (Zf 3 0 rfl rfl) rfl (Zo M 0 0 rfl rfl rfl rfl) rfl (fun _ T => Zq (rn_leq rfl (T.e 3 rfl) (T.e 0 rfl))) rfl ?_; clear T ac; intro ac T
 replace T := T.pick [0, 5, 6, 7, 8, 9] rfl
 refine Zln ?_
 refine wp_if (T.e 0 rfl) ?_ ?_
 ·intro h2
  have hb := beatP_bd gx gy (p := (m : Int)) (by omega)
  refine Zsk ?_
  refine wp_seq ?_
  refine wp_block ?_
  refine Zgs M (M.perm [0] rfl rfl) 16 (by kernel_rfl) rfl (by kernel_rfl) ?_
  clear M; intro wc M
  refine gq T 0 1 rfl (fun _ _ _ _ _ => (Zrm rfl (T.e 4 rfl))) ?_; clear T ac; intro ac T
  refine gq (v := (.pointer (some ⟨g1, 5, none⟩))) T 1 3 rfl (fun _ _ _ _ _ => (Zrf (off := 5) rfl (T.e 4 rfl) (fun _ _ _ => by kernel_rfl))) ?_; clear T ac; intro ac T
  refine gq T 2 7 rfl (fun B w' hD hl hS => (Zro (Mem.nth (show Mem w noEx w' _ from hS) 0 rfl) rfl (T.e 0 rfl) rfl)) ?_; clear T ac; intro ac T
  refine gq T 3 15 rfl (fun _ _ _ _ _ => (Zrm rfl (T.e 4 rfl))) ?_; clear T ac; intro ac T
  refine gq T 4 31 rfl (fun _ _ _ _ _ => (Zri (size := 4) il rfl (T.e 1 rfl) (T.e 0 rfl) ⟨_, Tryz.underlying24, by kernel_rfl⟩ hil (by omega) (SA.at0 (by omega)))) ?_; clear T ac; intro ac T
  refine gq (v := (.agg #[.int .i64 x.t0, .int .i64 x.t1, .int .i64 x.s0, .int .i64 x.s1])) T 5 63 rfl (fun B w' hD hl hS => (rn_rowat (Sp.scR4 SA (show Mem w noEx w' _ from hS) (Zz9 _) hkx) rfl (T.e 0 rfl) rfl)) ?_; clear T ac; intro ac T
  refine gq (v := (.pointer (some ⟨g1, 6, none⟩))) T 6 127 rfl (fun _ _ _ _ _ => (Zrf (off := 6) rfl (T.e 9 rfl) (fun _ _ _ => by kernel_rfl))) ?_; clear T ac; intro ac T
  refine gq T 7 255 rfl (fun B w' hD hl hS => (Zro (Mem.nth (show Mem w noEx w' _ from hS) 0 rfl) rfl (T.e 0 rfl) rfl)) ?_; clear T ac; intro ac T
  refine gq T 8 511 rfl (fun _ _ _ _ _ => (Zrm rfl (T.e 10 rfl))) ?_; clear T ac; intro ac T
  refine gq T 9 1023 rfl (fun _ _ _ _ _ => (Zri (size := 4) kl rfl (T.e 1 rfl) (T.e 0 rfl) ⟨_, Tryz.underlying24, by kernel_rfl⟩ hkl (by omega) (SB.at0 (by omega)))) ?_; clear T ac; intro ac T
  refine gq (v := (.agg #[.int .i64 y.t0, .int .i64 y.t1, .int .i64 y.s0, .int .i64 y.s1])) T 10 2047 rfl (fun B w' hD hl hS => (rn_rowat (Sp.scR4 SB (show Mem w noEx w' _ from hS) (Zz9 _) hky) rfl (T.e 0 rfl) rfl)) ?_; clear T ac; intro ac T
  refine gq T 11 4095 rfl (fun _ _ _ _ _ => (Zrm rfl (T.e 16 rfl))) ?_; clear T ac; intro ac T
  refine gw 12 8191 ?_; intro K hK
  refine Zoc (first := []) (cap := []) T rfl rfl rfl rfl evf (.cons (T.e 6 rfl) (.cons (T.e 1 rfl) (.cons (T.e 0 rfl) .nil))) Tryz.func79 rfl rfl ?_
  refine Calls.mono (beat5_any x y (m : Int) _ gx gy (by (try dsimp only); omega)) ?_
  clear T; rintro e wc ⟨rfl, hb⟩ ac T
  replace M := M.call hb; clear hb
  refine Zso hK _ _ (M.perm [0] rfl rfl) ?_; clear hK K
  refine gw 13 16383 ?_; intro K hK
  refine ow_bs (e := 26) [.int .i64 ((beatP x y (m : Int)).1), .int .i64 ((beatP x y (m : Int)).2)] M T rfl rfl rfl rfl (.cons (T.e 0 rfl) .nil) (fun _ => by kernel_rfl) ?_; clear M T; intro g2 wc ac M T
  refine Zso hK _ _ (M.perm [1] rfl rfl) ?_; clear hK K
  refine gw 14 32767 ?_; intro K hK
  refine ow_app ([(g2, .cells [.int .i64 ((beatP x y (m : Int)).1), .int .i64 ((beatP x y (m : Int)).2)]), (g1, .cells [.int .i64 b.first, .int .i64 b.step, .int .i64 b.span, .int .i64 b.press, .int .i64 b.note, .slice A b.lows.length c, .slice B b.highs.length d, .int .i64 b.t0, .int .i64 b.t1, .int .i64 b.r0, .int .i64 b.r1, .int .i64 b.u0, .int .i64 b.u1, .int .i64 b.d0, .int .i64 b.d1, .int .i64 b.a0, .int .i64 b.a1, .int .i64 b.b0, .int .i64 b.b1, .int .i64 b.le, .int .i64 b.me])]) Tryz.info26 hsl M (by first | rfl | simp) T rfl rfl rfl rfl Tryz.underlying51 rfl rfl rfl (by omega) (T.e 13 rfl) (T.e 0 rfl) (Zne (i := 0) rfl) rfl rfl ?_; clear M T; intro ga1 cga1 wc ac M T
  refine Zso hK _ _ (M.mask [false, false, true] rfl) ?_; clear hK K
  refine g_q (v := (.slice (some ⟨ga1, 0, none⟩) (((beatsL b.law x y).take m).length + 1) cga1)) (T := T.pick [0, 1, 2, 3, 4, 5, 6, 7, 8, 9, 10, 11, 12, 13, 14, 15, 16, 17, 18, 20] rfl) (i := 15) rfl (by kernel_rfl) (by kernel_rfl : (Zpb 16 32767).setIfInBounds 15 true = Zpb 16 65535) si_U (fun _ _ _ h => h) rfl rfl rfl rfl (fun _ _ _ _ _ => (Zra rfl (T.e 0 rfl))) ?_; clear T ac; intro ac T
  refine Zgd (by kernel_rfl) ?_
  replace T := T.pick [0, 17, 18, 19, 20] rfl
  replace M := M.mask [true, false, true] rfl
  refine Znb ?_
  refine nm_then ?_
  refine wp_region_lit ?_
  refine Zg2 T (Zq (Zrm rfl (T.e 4 rfl))) rfl (fun _ T => Zq (rn_add rfl (T.e 0 rfl) evc (by omega))) rfl ?_; clear T ac; intro ac T
  refine l_q (v := (.int .i64 ((m : Int) + 1))) (T.pick [0, 1, 2, 3, 4, 5] rfl) rfl rfl rfl rfl (Zra rfl (T.e 0 rfl)) ?_; clear T ac; intro ac T
  replace T := T.pick [0, 3, 4, 5, 6] rfl
  refine Zln ?_
  have e9 : ((beatsL b.law x y).take m).length + 1 = ((beatsL b.law x y).take (m + 1)).length := by rw [beatsL_take (by first | omega | (dsimp only; omega)), List.length_append]; rfl
  have e8 : ((rc ((beatsL b.law x y).take m)) ++ [.int .i64 ((beatP x y (m : Int)).1), .int .i64 ((beatP x y (m : Int)).2)]) = rc ((beatsL b.law x y).take (m + 1)) := by rw [beatsL_take (by first | omega | (dsimp only; omega)), ← rc_snoc]; try rfl
  rw [e9, e8] at M
  rw [e9] at T
  clear e9 e8
  exact ⟨_, by omega, m + 1, _, cga1, [(ga1, .row 26 2 ((beatsL b.law x y).take (m + 1)).length (rc ((beatsL b.law x y).take (m + 1))) cga1)], rfl, (by omega), (by rw [List.length_take, beatsL_length]; first | omega | (dsimp only; omega)), (Sl.row _ _ _ _ _ _), T.pick [2, 3, 4, 1, 0] rfl, M.perm [1, 0] rfl rfl⟩
 intro h2
 refine wp_exit ?_
 refine Zet ?_
 refine Zet ?_
 refine ex_hit ?_
 refine nm_then ?_
 refine Zsr ?_
 refine Zg3 T (Zq (Zrm rfl (T.e 4 rfl))) rfl (Za 0 rfl rfl) rfl (Zc rfl) rfl ?_; clear T ac; intro ac T
 refine wpList_nil ?_
 replace T := T.pick [0, 1] rfl
 replace M := M.mask [false] rfl
 refine Znr ?_
 refine rt_2 T rfl (T.e 1 rfl) (T.e 0 rfl) ?_
 unfold BeatPost
 have e8 : (beatsL b.law x y).take m = beatsL b.law x y := List.take_of_length_le (by rw [beatsL_length]; first | omega | (dsimp only; omega))
 rw [e8] at hsl ⊢
 have e9 : beatE b i k = beatsL b.law x y := by unfold beatE; rw [if_pos (by simpa using h1), ← hx9, ← hy9]
 rw [e9, show checkPB b i k = 0 by simpa using h1]
 exact ⟨_, _, _, rfl, hsl, M.mask [] rfl⟩
theorem PairsE_any (b : Bx) (A : Option Addr) (c : Nat) (B : Option Addr) (d : Nat) (w : World) (hA : Rd w w.heap.size 4 A b.lows.length (sc b.lows)) (hB : Rd w w.heap.size 4 B b.highs.length (sc b.highs)) (nA : b.lows.length ≤ 1000000) (nB : b.highs.length ≤ 1000000)  :
   Calls Tryz.prog 25 #[bxV b A c B d] w (PairsEPost b w) := by
 have hlA := hA.len4
 have hlB := hB.len4
 obtain ⟨bA, oA, SA⟩ := Sp.old hA
 obtain ⟨bB, oB, SB⟩ := Sp.old hB
 refine Zpx noEx Tryz.func25 rfl 12 rfl [.agg #[.int .i64 b.first, .int .i64 b.step, .int .i64 b.span, .int .i64 b.press, .int .i64 b.note, .slice A b.lows.length c, .slice B b.highs.length d, .int .i64 b.t0, .int .i64 b.t1, .int .i64 b.r0, .int .i64 b.r1, .int .i64 b.u0, .int .i64 b.u1, .int .i64 b.d0, .int .i64 b.d1, .int .i64 b.a0, .int .i64 b.a1, .int .i64 b.b0, .int .i64 b.b1, .int .i64 b.le, .int .i64 b.me]] rfl rfl (Mem.init w _) ?_
 intro ac wc T M
 refine Zsr ?_
 refine Zl2 ?_
 refine Zob M T rfl rfl rfl rfl (T.e 0 rfl) rfl ?_; clear M T; intro g1 wc ac M T
 refine Zg2 T (Zq (Zra rfl evc)) rfl (Zc rfl) rfl ?_; clear T ac; intro ac T
 replace T := T.pick [2] rfl
 refine Zln ?_
 refine wp_seq ?_
 refine Zsr ?_
 refine lq T (Zrr (Mem.nth M 0 rfl) rfl (T.e 0 rfl) rfl) ?_; clear T ac; intro ac T
 refine Zl2 ?_
 refine Zoc (first := []) (cap := []) T rfl rfl rfl rfl evf (.cons (T.e 0 rfl) .nil) Tryz.func27 rfl rfl ?_
 refine Calls.mono (vCheck_any b _ _ _ _ _ (SA.rd M (Zz9 _)) (SB.rd M (Zz9 _)) (by omega) (by omega)) ?_
 clear T; rintro e wc ⟨rfl, hb⟩ ac T
 replace M := M.call hb; clear hb
 refine lq T (Zra rfl (T.e 0 rfl)) ?_; clear T ac; intro ac T
 replace T := T.pick [0, 3] rfl
 refine Zln ?_
 refine Zsr ?_
 refine Zg2 T (Zq (Zrm rfl (T.e 0 rfl))) rfl (fun _ T => Zq (rn_neq rfl (T.e 0 rfl) evc)) rfl ?_; clear T ac; intro ac T
 replace T := T.pick [0, 2, 3] rfl
 refine Zln ?_
 refine wp_ifn (T.e 0 rfl) ?_ ?_
 ·intro h1
  refine Zsr ?_
  refine Zg3 T (Zq (Zrm rfl (T.e 1 rfl))) rfl (Zc rfl) rfl (Za 1 rfl rfl) rfl ?_; clear T ac; intro ac T
  refine wpList_nil ?_
  replace T := T.pick [0, 1] rfl
  replace M := M.mask [false] rfl
  refine Znr ?_
  refine Zrt ?_
  refine rt_2 T rfl (T.e 1 rfl) (T.e 0 rfl) ?_
  unfold PairsEPost
  have e9 : tabE b = [] := if_neg (by simpa using h1)
  rw [e9]
  exact ⟨none, 0, [], [], rfl, rfl, ⟨0, 0, fun _ _ => Sp.nil⟩, (fun x hx => by cases hx), M.mask [] rfl⟩
 intro h1
 have gb := checkB_good.1 (show checkB b = 0 by simpa using h1)
 refine Zsk ?_
 refine Zsr ?_
 refine lq T (Zrr (Mem.nth M 0 rfl) rfl (T.e 2 rfl) rfl) ?_; clear T ac; intro ac T
 refine Zl2 ?_
 refine Zoc (first := []) (cap := []) T rfl rfl rfl rfl evf (.cons (T.e 0 rfl) .nil) Tryz.func59 rfl rfl ?_
 refine Calls.mono (table_any b A c B d _ (SA.rd M (Zz9 _)) (SB.rd M (Zz9 _)) gb) ?_
 clear T; rintro e wc ⟨Au2, cu2, LLu2, Iu2, rfl, hLu2, hSu2, hEu2, N⟩ ac T
 replace M := (M.join N).swapI
 replace M : Mem w noEx wc ((g1, .cells [.int .i64 b.first, .int .i64 b.step, .int .i64 b.span, .int .i64 b.press, .int .i64 b.note, .slice A b.lows.length c, .slice B b.highs.length d, .int .i64 b.t0, .int .i64 b.t1, .int .i64 b.r0, .int .i64 b.r1, .int .i64 b.u0, .int .i64 b.u1, .int .i64 b.d0, .int .i64 b.d1, .int .i64 b.a0, .int .i64 b.a1, .int .i64 b.b0, .int .i64 b.b1, .int .i64 b.le, .int .i64 b.me]) :: Iu2) := M
 clear N
 refine Zg2 T (Zq (Zra rfl (T.e 0 rfl))) rfl (Zc rfl) rfl ?_; clear T ac; intro ac T
 refine wpList_nil ?_
 replace T := T.pick [0, 1] rfl
 replace M := M.mask [false] rfl
 refine Znr ?_
 refine rt_2 T rfl (T.e 1 rfl) (T.e 0 rfl) ?_
 unfold PairsEPost
 have e8 : checkB b = 0 := by simpa using h1
 have e9 : tabE b = tableP b := if_pos e8
 rw [e9, e8]
 exact ⟨Au2, cu2, LLu2, Iu2, rfl, hLu2, hSu2, hEu2, M.sub (List.Sublist.refl _)⟩
theorem Pairs5_any (b : Bx) (A : Option Addr) (c : Nat) (B : Option Addr) (d : Nat) (w : World) (hA : Rd w w.heap.size 4 A b.lows.length (sc b.lows)) (hB : Rd w w.heap.size 4 B b.highs.length (sc b.highs)) (nA : b.lows.length ≤ 1000000) (nB : b.highs.length ≤ 1000000)  :
   Calls Tryz.prog 26 #[bxV b A c B d] w (PairsEPost b w) := by
 have hlA := hA.len4
 have hlB := hB.len4
 obtain ⟨bA, oA, SA⟩ := Sp.old hA
 obtain ⟨bB, oB, SB⟩ := Sp.old hB
 refine Zpx noEx Tryz.func26 rfl 12 rfl [.agg #[.int .i64 b.first, .int .i64 b.step, .int .i64 b.span, .int .i64 b.press, .int .i64 b.note, .slice A b.lows.length c, .slice B b.highs.length d, .int .i64 b.t0, .int .i64 b.t1, .int .i64 b.r0, .int .i64 b.r1, .int .i64 b.u0, .int .i64 b.u1, .int .i64 b.d0, .int .i64 b.d1, .int .i64 b.a0, .int .i64 b.a1, .int .i64 b.b0, .int .i64 b.b1, .int .i64 b.le, .int .i64 b.me]] rfl rfl (Mem.init w _) ?_
 intro ac wc T M
 refine Zsr ?_
 refine Zl2 ?_
 refine Zob M T rfl rfl rfl rfl (T.e 0 rfl) rfl ?_; clear M T; intro g1 wc ac M T
 refine Zg2 T (Zq (Zra rfl evc)) rfl (Zc rfl) rfl ?_; clear T ac; intro ac T
 replace T := T.pick [2] rfl
 refine Zln ?_
 refine wp_seq ?_
 refine Zsr ?_
 refine lq T (Zrr (Mem.nth M 0 rfl) rfl (T.e 0 rfl) rfl) ?_; clear T ac; intro ac T
 refine Zl2 ?_
 refine Zoc (first := []) (cap := []) T rfl rfl rfl rfl evf (.cons (T.e 0 rfl) .nil) Tryz.func28 rfl rfl ?_
 refine Calls.mono (Check5_any b _ _ _ _ _ (SA.rd M (Zz9 _)) (SB.rd M (Zz9 _)) (by omega) (by omega)) ?_
 clear T; rintro e wc ⟨rfl, hb⟩ ac T
 replace M := M.call hb; clear hb
 refine lq T (Zra rfl (T.e 0 rfl)) ?_; clear T ac; intro ac T
 replace T := T.pick [0, 3] rfl
 refine Zln ?_
 refine Zsr ?_
 refine Zg2 T (Zq (Zrm rfl (T.e 0 rfl))) rfl (fun _ T => Zq (rn_neq rfl (T.e 0 rfl) evc)) rfl ?_; clear T ac; intro ac T
 replace T := T.pick [0, 2, 3] rfl
 refine Zln ?_
 refine wp_ifn (T.e 0 rfl) ?_ ?_
 ·intro h1
  refine Zsr ?_
  refine Zg3 T (Zq (Zrm rfl (T.e 1 rfl))) rfl (Zc rfl) rfl (Za 1 rfl rfl) rfl ?_; clear T ac; intro ac T
  refine wpList_nil ?_
  replace T := T.pick [0, 1] rfl
  replace M := M.mask [false] rfl
  refine Znr ?_
  refine Zrt ?_
  refine rt_2 T rfl (T.e 1 rfl) (T.e 0 rfl) ?_
  unfold PairsEPost
  have e9 : tabE b = [] := if_neg (by simpa using h1)
  rw [e9]
  exact ⟨none, 0, [], [], rfl, rfl, ⟨0, 0, fun _ _ => Sp.nil⟩, (fun x hx => by cases hx), M.mask [] rfl⟩
 intro h1
 have gb := checkB_good.1 (show checkB b = 0 by simpa using h1)
 refine Zsk ?_
 refine Zsr ?_
 refine lq T (Zrr (Mem.nth M 0 rfl) rfl (T.e 2 rfl) rfl) ?_; clear T ac; intro ac T
 refine Zl2 ?_
 refine Zoc (first := []) (cap := []) T rfl rfl rfl rfl evf (.cons (T.e 0 rfl) .nil) Tryz.func63 rfl rfl ?_
 refine Calls.mono (pairs5_any b A c B d _ (SA.rd M (Zz9 _)) (SB.rd M (Zz9 _)) gb) ?_
 clear T; rintro e wc ⟨Au2, cu2, LLu2, Iu2, rfl, hLu2, hSu2, hEu2, N⟩ ac T
 replace M := (M.join N).swapI
 replace M : Mem w noEx wc ((g1, .cells [.int .i64 b.first, .int .i64 b.step, .int .i64 b.span, .int .i64 b.press, .int .i64 b.note, .slice A b.lows.length c, .slice B b.highs.length d, .int .i64 b.t0, .int .i64 b.t1, .int .i64 b.r0, .int .i64 b.r1, .int .i64 b.u0, .int .i64 b.u1, .int .i64 b.d0, .int .i64 b.d1, .int .i64 b.a0, .int .i64 b.a1, .int .i64 b.b0, .int .i64 b.b1, .int .i64 b.le, .int .i64 b.me]) :: Iu2) := M
 clear N
 refine Zg2 T (Zq (Zra rfl (T.e 0 rfl))) rfl (Zc rfl) rfl ?_; clear T ac; intro ac T
 refine wpList_nil ?_
 replace T := T.pick [0, 1] rfl
 replace M := M.mask [false] rfl
 refine Znr ?_
 refine rt_2 T rfl (T.e 1 rfl) (T.e 0 rfl) ?_
 unfold PairsEPost
 have e8 : checkB b = 0 := by simpa using h1
 have e9 : tabE b = tableP b := if_pos e8
 rw [e9, e8]
 exact ⟨Au2, cu2, LLu2, Iu2, rfl, hLu2, hSu2, hEu2, M.sub (List.Sublist.refl _)⟩
theorem sameSounds_same (A D : Option Addr) (n c d : Nat) (l : List Snd) (w : World) (hr : Rd w w.heap.size 4 A n (sc l)) (hs : Rd w w.heap.size 4 D n (sc l)) (hn : n ≤ 1000000) :
   Calls Tryz.prog 68 #[.slice A n c, .slice D n d] w fun e w' => e = .returned (.bool true) ∧ Below w.heap.size w w' := by
 have hl := hr.len4
 obtain ⟨bJ, oJ, SJ⟩ := Sp.old hr
 obtain ⟨bI, oI, SI⟩ := Sp.old hs
 refine Zpx noEx Tryz.func68 rfl 31 rfl [.slice A n c, .slice D n d] rfl rfl (Mem.init w _) ?_
 intro ac wc T M
 refine Zsr ?_
 refine lq T (Zra rfl evc) ?_; clear T ac; intro ac T
 replace T := T.pick [1, 2] rfl
 refine Zln ?_
 refine Zsr ?_
 refine Zg6 (v5 := (.bool true)) T (Zq (Zrm rfl (T.e 0 rfl))) rfl (Zl Tryz.underlying24 0 rfl rfl) rfl (Zm 3 rfl rfl) rfl (Zl Tryz.underlying24 0 rfl rfl) rfl (fun _ T => Zq (Zrq (rn_eql rfl (T.e 2 rfl) (T.e 0 rfl)) (by simp))) rfl (Za 0 rfl rfl) rfl ?_; clear T ac; intro ac T
 replace T := T.pick [0, 6, 7] rfl
 refine Zln ?_
 refine wp_seq ?_
 refine Zsr ?_
 refine lq T (Zra rfl evc) ?_; clear T ac; intro ac T
 refine Zln ?_
 refine wp_block ?_
 refine wp_loop_n (fun mz ac wc => ∃ (k : Nat), mz = n - k ∧ (k ≤ n) ∧ Tm ac 31 [(0, .slice A n c), (1, .slice D n d), (5, .bool true), (6, .int .i64 (k : Int))] ∧ Mem w noEx wc []) ?_ ?_
 ·exact ⟨_, 0, rfl, (Nat.zero_le _), T.pick [2, 3, 1, 0] rfl, M.mask [] rfl⟩
 clear T M
 rintro mz ac wc ⟨k, hmm1, hk, T, M⟩
 refine wp_seq ?_
 refine Zsr ?_
 refine Zg7 T (Zq (Zrm rfl (T.e 2 rfl))) rfl (Zm 0 rfl rfl) rfl (fun _ T => Zw (Zwy rfl rfl (T.e 0 rfl) rfl) (Zrm rfl (T.e 5 rfl))) rfl (fun _ T => Zw (Zwy rfl rfl (T.e 1 rfl) rfl) (Zrm rfl (T.e 3 rfl))) rfl (fun _ T => Zw (Zwy rfl rfl (T.e 2 rfl) rfl) (Zrl rfl Tryz.underlying24 (T.e 0 rfl))) rfl (fun _ T => Zw (Zwy rfl rfl (T.e 3 rfl) rfl) (rn_lss rfl (T.e 2 rfl) (T.e 0 rfl))) rfl (fun _ T => Zq (Zr1 rfl (T.e 4 rfl) rfl (T.e 0 rfl))) rfl ?_; clear T ac; intro ac T
 replace T := T.pick [0, 1, 2, 3, 4, 7, 8, 9, 10] rfl
 refine Zln ?_
 refine wp_if (T.e 0 rfl) ?_ ?_
 ·intro h1
  obtain ⟨x, hkx, -⟩ := sc_next (l := l) (k := k) (by omega)
  refine Zsk ?_
  refine wp_seq ?_
  refine wp_block ?_
  refine Zgs M (M.mask [] rfl) 10 (by kernel_rfl) rfl (by kernel_rfl) ?_
  clear M; intro wc M
  refine gq T 0 1 rfl (fun _ _ _ _ _ => (Zrm rfl (T.e 5 rfl))) ?_; clear T ac; intro ac T
  refine gq T 1 3 rfl (fun _ _ _ _ _ => (Zrm rfl (T.e 9 rfl))) ?_; clear T ac; intro ac T
  refine gq T 2 7 rfl (fun _ _ _ _ _ => (Zri (size := 4) k rfl (T.e 1 rfl) (T.e 0 rfl) ⟨_, Tryz.underlying24, by kernel_rfl⟩ rfl (by omega) (SJ.at0 (by omega)))) ?_; clear T ac; intro ac T
  refine gq (v := (.agg #[.int .i64 x.t0, .int .i64 x.t1, .int .i64 x.s0, .int .i64 x.s1])) T 3 15 rfl (fun B w' hD hl hS => (rn_rowat (Sp.scR4 SJ (show Mem w noEx w' _ from hS) (Zz9 _) hkx) rfl (T.e 0 rfl) rfl)) ?_; clear T ac; intro ac T
  refine gq T 4 31 rfl (fun _ _ _ _ _ => (Zrm rfl (T.e 10 rfl))) ?_; clear T ac; intro ac T
  refine gq T 5 63 rfl (fun _ _ _ _ _ => (Zrm rfl (T.e 13 rfl))) ?_; clear T ac; intro ac T
  refine gq T 6 127 rfl (fun _ _ _ _ _ => (Zri (size := 4) k rfl (T.e 1 rfl) (T.e 0 rfl) ⟨_, Tryz.underlying24, by kernel_rfl⟩ rfl (by omega) (SI.at0 (by omega)))) ?_; clear T ac; intro ac T
  refine gq (v := (.agg #[.int .i64 x.t0, .int .i64 x.t1, .int .i64 x.s0, .int .i64 x.s1])) T 7 255 rfl (fun B w' hD hl hS => (rn_rowat (Sp.scR4 SI (show Mem w noEx w' _ from hS) (Zz9 _) hkx) rfl (T.e 0 rfl) rfl)) ?_; clear T ac; intro ac T
  refine gq (v := (.bool true)) T 8 511 rfl (fun _ _ _ _ _ => (Zrq (rn_bin rfl (T.e 4 rfl) (T.e 0 rfl) eqT32) (by simp))) ?_; clear T ac; intro ac T
  refine g_q (v := (.bool true)) (T := T.pick [0, 1, 2, 3, 4, 5, 6, 7, 8, 9, 10, 11, 12, 13, 14, 15, 17] rfl) (i := 9) rfl (by kernel_rfl) (by kernel_rfl : (Zpb 10 511).setIfInBounds 9 true = Zpb 10 1023) si_U (fun _ _ _ h => h) rfl rfl rfl rfl (fun _ _ _ _ _ => (Zra rfl (T.e 0 rfl))) ?_; clear T ac; intro ac T
  refine Zgd (by kernel_rfl) ?_
  replace T := T.pick [0, 11, 12, 13, 14, 15, 16, 17] rfl
  refine Znb ?_
  refine nm_then ?_
  refine wp_region_lit ?_
  refine Zg2 T (Zq (Zrm rfl (T.e 7 rfl))) rfl (fun _ T => Zq (rn_add rfl (T.e 0 rfl) evc (by omega))) rfl ?_; clear T ac; intro ac T
  refine l_q (v := (.int .i64 ((k : Int) + 1))) (T.pick [0, 1, 2, 3, 4, 5, 6, 7, 8] rfl) rfl rfl rfl rfl (Zra rfl (T.e 0 rfl)) ?_; clear T ac; intro ac T
  replace T := T.pick [0, 3, 4, 5, 6, 7, 8, 9] rfl
  refine Zln ?_
  exact ⟨_, by omega, k + 1, rfl, (by omega), T.pick [6, 7, 1, 0] rfl, M.mask [] rfl⟩
 intro h1
 refine wp_exit ?_
 refine Zet ?_
 refine Zet ?_
 refine ex_hit ?_
 refine nm_then ?_
 refine Zsr ?_
 refine Zg2 T (Zq (Zrm rfl (T.e 7 rfl))) rfl (Za 0 rfl rfl) rfl ?_; clear T ac; intro ac T
 replace T := T.pick [0] rfl
 refine Zln ?_
 refine wp_ret ?_
 refine rt_1 T rfl (T.e 0 rfl) ?_
 exact ⟨rfl, M.below⟩
theorem sameBoxes_same (b : Bx) (A : Option Addr) (c : Nat) (B : Option Addr) (d : Nat) (A2 : Option Addr) (c2 : Nat) (B2 : Option Addr) (d2 : Nat) (w : World) (hA : Rd w w.heap.size 4 A b.lows.length (sc b.lows)) (hB : Rd w w.heap.size 4 B b.highs.length (sc b.highs)) (hA2 : Rd w w.heap.size 4 A2 b.lows.length (sc b.lows)) (hB2 : Rd w w.heap.size 4 B2 b.highs.length (sc b.highs)) (nA : b.lows.length ≤ 1000000) (nB : b.highs.length ≤ 1000000)  :
  Calls Tryz.prog 17 #[bxV b A c B d, bxV b A2 c2 B2 d2] w fun e w' => e = .returned (.bool true) ∧ Below w.heap.size w w' := by
 have hlA := hA.len4
 have hlB := hB.len4
 obtain ⟨bA, oA, SA⟩ := Sp.old hA
 obtain ⟨bB, oB, SB⟩ := Sp.old hB
 obtain ⟨bA2, oA2, SA2⟩ := Sp.old hA2
 obtain ⟨bB2, oB2, SB2⟩ := Sp.old hB2
 refine Zpx noEx Tryz.func17 rfl 59 rfl [.agg #[.int .i64 b.first, .int .i64 b.step, .int .i64 b.span, .int .i64 b.press, .int .i64 b.note, .slice A b.lows.length c, .slice B b.highs.length d, .int .i64 b.t0, .int .i64 b.t1, .int .i64 b.r0, .int .i64 b.r1, .int .i64 b.u0, .int .i64 b.u1, .int .i64 b.d0, .int .i64 b.d1, .int .i64 b.a0, .int .i64 b.a1, .int .i64 b.b0, .int .i64 b.b1, .int .i64 b.le, .int .i64 b.me], .agg #[.int .i64 b.first, .int .i64 b.step, .int .i64 b.span, .int .i64 b.press, .int .i64 b.note, .slice A2 b.lows.length c2, .slice B2 b.highs.length d2, .int .i64 b.t0, .int .i64 b.t1, .int .i64 b.r0, .int .i64 b.r1, .int .i64 b.u0, .int .i64 b.u1, .int .i64 b.d0, .int .i64 b.d1, .int .i64 b.a0, .int .i64 b.a1, .int .i64 b.b0, .int .i64 b.b1, .int .i64 b.le, .int .i64 b.me]] rfl rfl (Mem.init w _) ?_
 intro ac wc T M
 refine Zsr ?_
 refine Zl2 ?_
 refine Zob M T rfl rfl rfl rfl (T.e 0 rfl) rfl ?_; clear M T; intro g1 wc ac M T
 refine Zl2 ?_
 refine Zob M T rfl rfl rfl rfl (T.e 2 rfl) rfl ?_; clear M T; intro g2 wc ac M T
 refine lq T (Zra rfl evc) ?_; clear T ac; intro ac T
 replace T := T.pick [1, 2] rfl
 refine Zln ?_
 refine Zsr ?_
 refine Zg8 (v1 := (.pointer (some ⟨g1, 0, none⟩))) (v3 := (.pointer (some ⟨g2, 0, none⟩))) (v5 := (.bool true)) (v7 := (.pointer (some ⟨g1, 4, none⟩))) T (Zq (Zrf (off := 0) rfl (T.e 1 rfl) (fun _ _ _ => by kernel_rfl))) rfl (Zr M 1 0 rfl rfl rfl rfl) rfl (Zf 0 2 rfl rfl) rfl (Zr M 0 0 rfl rfl rfl rfl) rfl (fun _ T => Zq (Zrq (rn_bin rfl (T.e 2 rfl) (T.e 0 rfl) eqT23) (by simp))) rfl (Zm 0 rfl rfl) rfl (fun _ T => Zw (Zwy rfl rfl (T.e 0 rfl) rfl) (Zrf (off := 4) rfl (T.e 7 rfl) (fun _ _ _ => by kernel_rfl))) rfl (fun _ T => Zw (Zwy rfl rfl (T.e 1 rfl) rfl) (Zro (Mem.nth M 1 rfl) rfl (T.e 0 rfl) rfl)) rfl ?_; clear T ac; intro ac T
 refine Zg8 (v1 := (.pointer (some ⟨g2, 4, none⟩))) (v3 := (.bool true)) (v6 := (.pointer (some ⟨g1, 7, none⟩))) (v8 := (.pointer (some ⟨g2, 7, none⟩))) T (Zw (Zwy rfl rfl (T.e 2 rfl) rfl) (Zrf (off := 4) rfl (T.e 8 rfl) (fun _ _ _ => by kernel_rfl))) rfl (fun _ T => Zw (Zwy rfl rfl (T.e 3 rfl) rfl) (Zro (Mem.nth M 0 rfl) rfl (T.e 0 rfl) rfl)) rfl (fun _ T => Zw (Zwy rfl rfl (T.e 4 rfl) rfl) (Zrq (rn_eql rfl (T.e 2 rfl) (T.e 0 rfl)) (by simp))) rfl (fun _ T => Zq (Zr1 rfl (T.e 5 rfl) rfl (T.e 0 rfl))) rfl (Zm 0 rfl rfl) rfl (fun _ T => Zw (Zwy rfl rfl (T.e 0 rfl) rfl) (Zrf (off := 7) rfl (T.e 14 rfl) (fun _ _ _ => by kernel_rfl))) rfl (fun _ T => Zw (Zwy rfl rfl (T.e 1 rfl) rfl) (Zrr (Mem.nth M 1 rfl) rfl (T.e 0 rfl) rfl)) rfl (fun _ T => Zw (Zwy rfl rfl (T.e 2 rfl) rfl) (Zrf (off := 7) rfl (T.e 15 rfl) (fun _ _ _ => by kernel_rfl))) rfl ?_; clear T ac; intro ac T
 refine Zg8 (v2 := (.bool true)) (v5 := (.pointer (some ⟨g1, 9, none⟩))) (v7 := (.pointer (some ⟨g2, 9, none⟩))) T (Zw (Zwy rfl rfl (T.e 3 rfl) rfl) (Zrr (Mem.nth M 0 rfl) rfl (T.e 0 rfl) rfl)) rfl (fun _ T => Zw (Zwy rfl rfl (T.e 4 rfl) rfl) (Zrq (rn_bin rfl (T.e 2 rfl) (T.e 0 rfl) eqT26) (by simp))) rfl (fun _ T => Zq (Zr1 rfl (T.e 5 rfl) rfl (T.e 0 rfl))) rfl (Zm 0 rfl rfl) rfl (fun _ T => Zw (Zwy rfl rfl (T.e 0 rfl) rfl) (Zrf (off := 9) rfl (T.e 21 rfl) (fun _ _ _ => by kernel_rfl))) rfl (fun _ T => Zw (Zwy rfl rfl (T.e 1 rfl) rfl) (Zrr (Mem.nth M 1 rfl) rfl (T.e 0 rfl) rfl)) rfl (fun _ T => Zw (Zwy rfl rfl (T.e 2 rfl) rfl) (Zrf (off := 9) rfl (T.e 22 rfl) (fun _ _ _ => by kernel_rfl))) rfl (fun _ T => Zw (Zwy rfl rfl (T.e 3 rfl) rfl) (Zrr (Mem.nth M 0 rfl) rfl (T.e 0 rfl) rfl)) rfl ?_; clear T ac; intro ac T
 refine Zg8 (v1 := (.bool true)) (v4 := (.pointer (some ⟨g1, 11, none⟩))) (v6 := (.pointer (some ⟨g2, 11, none⟩))) (v8 := (.bool true)) T (Zw (Zwy rfl rfl (T.e 4 rfl) rfl) (Zrq (rn_bin rfl (T.e 2 rfl) (T.e 0 rfl) eqT26) (by simp))) rfl (fun _ T => Zq (Zr1 rfl (T.e 5 rfl) rfl (T.e 0 rfl))) rfl (Zm 0 rfl rfl) rfl (fun _ T => Zw (Zwy rfl rfl (T.e 0 rfl) rfl) (Zrf (off := 11) rfl (T.e 28 rfl) (fun _ _ _ => by kernel_rfl))) rfl (fun _ T => Zw (Zwy rfl rfl (T.e 1 rfl) rfl) (Zrr (Mem.nth M 1 rfl) rfl (T.e 0 rfl) rfl)) rfl (fun _ T => Zw (Zwy rfl rfl (T.e 2 rfl) rfl) (Zrf (off := 11) rfl (T.e 29 rfl) (fun _ _ _ => by kernel_rfl))) rfl (fun _ T => Zw (Zwy rfl rfl (T.e 3 rfl) rfl) (Zrr (Mem.nth M 0 rfl) rfl (T.e 0 rfl) rfl)) rfl (fun _ T => Zw (Zwy rfl rfl (T.e 4 rfl) rfl) (Zrq (rn_bin rfl (T.e 2 rfl) (T.e 0 rfl) eqT28) (by simp))) rfl ?_; clear T ac; intro ac T
 refine Zg8 (v3 := (.pointer (some ⟨g1, 20, none⟩))) (v5 := (.pointer (some ⟨g2, 20, none⟩))) (v7 := (.bool true)) T (Zq (Zr1 rfl (T.e 5 rfl) rfl (T.e 0 rfl))) rfl (Zm 0 rfl rfl) rfl (fun _ T => Zw (Zwy rfl rfl (T.e 0 rfl) rfl) (Zrf (off := 20) rfl (T.e 35 rfl) (fun _ _ _ => by kernel_rfl))) rfl (fun _ T => Zw (Zwy rfl rfl (T.e 1 rfl) rfl) (Zro (Mem.nth M 1 rfl) rfl (T.e 0 rfl) rfl)) rfl (fun _ T => Zw (Zwy rfl rfl (T.e 2 rfl) rfl) (Zrf (off := 20) rfl (T.e 36 rfl) (fun _ _ _ => by kernel_rfl))) rfl (fun _ T => Zw (Zwy rfl rfl (T.e 3 rfl) rfl) (Zro (Mem.nth M 0 rfl) rfl (T.e 0 rfl) rfl)) rfl (fun _ T => Zw (Zwy rfl rfl (T.e 4 rfl) rfl) (Zrq (rn_eql rfl (T.e 2 rfl) (T.e 0 rfl)) (by simp))) rfl (fun _ T => Zq (Zr1 rfl (T.e 5 rfl) rfl (T.e 0 rfl))) rfl ?_; clear T ac; intro ac T
 refine Zg5 (v2 := (.pointer (some ⟨g1, 5, none⟩))) (v4 := (.pointer (some ⟨g2, 5, none⟩))) T (Zq (Zrm rfl (T.e 0 rfl))) rfl (fun _ T => Zw (Zwy rfl rfl (T.e 0 rfl) rfl) (Zrf (off := 5) rfl (T.e 42 rfl) (fun _ _ _ => by kernel_rfl))) rfl (fun _ T => Zw (Zwy rfl rfl (T.e 1 rfl) rfl) (Zro (Mem.nth M 1 rfl) rfl (T.e 0 rfl) rfl)) rfl (fun _ T => Zw (Zwy rfl rfl (T.e 2 rfl) rfl) (Zrf (off := 5) rfl (T.e 43 rfl) (fun _ _ _ => by kernel_rfl))) rfl (fun _ T => Zw (Zwy rfl rfl (T.e 3 rfl) rfl) (Zro (Mem.nth M 0 rfl) rfl (T.e 0 rfl) rfl)) rfl ?_; clear T ac; intro ac T
 refine l_w (Zwy rfl rfl (T.e 4 rfl) rfl) ?_; intro K hK
 refine Zoc (first := []) (cap := []) T rfl rfl rfl rfl evf (.cons (T.e 2 rfl) (.cons (T.e 0 rfl) .nil)) Tryz.func68 rfl rfl ?_
 refine Calls.mono (sameSounds_same _ _ _ _ _ b.lows _ (SA.rd M (Zz9 _)) (SA2.rd M (Zz9 _)) (by omega)) ?_
 clear T; rintro e wc ⟨rfl, hb⟩ ac T
 replace M := M.call hb; clear hb
 refine Zso hK _ _ ?_; clear hK K
 refine Zg6 (v3 := (.pointer (some ⟨g1, 6, none⟩))) (v5 := (.pointer (some ⟨g2, 6, none⟩))) T (Zq (Zr1 rfl (T.e 5 rfl) rfl (T.e 0 rfl))) rfl (Zm 0 rfl rfl) rfl (fun _ T => Zw (Zwy rfl rfl (T.e 0 rfl) rfl) (Zrf (off := 6) rfl (T.e 49 rfl) (fun _ _ _ => by kernel_rfl))) rfl (fun _ T => Zw (Zwy rfl rfl (T.e 1 rfl) rfl) (Zro (Mem.nth M 1 rfl) rfl (T.e 0 rfl) rfl)) rfl (fun _ T => Zw (Zwy rfl rfl (T.e 2 rfl) rfl) (Zrf (off := 6) rfl (T.e 50 rfl) (fun _ _ _ => by kernel_rfl))) rfl (fun _ T => Zw (Zwy rfl rfl (T.e 3 rfl) rfl) (Zro (Mem.nth M 0 rfl) rfl (T.e 0 rfl) rfl)) rfl ?_; clear T ac; intro ac T
 refine l_w (Zwy rfl rfl (T.e 4 rfl) rfl) ?_; intro K hK
 refine Zoc (first := []) (cap := []) T rfl rfl rfl rfl evf (.cons (T.e 2 rfl) (.cons (T.e 0 rfl) .nil)) Tryz.func68 rfl rfl ?_
 refine Calls.mono (sameSounds_same _ _ _ _ _ b.highs _ (SB.rd M (Zz9 _)) (SB2.rd M (Zz9 _)) (by omega)) ?_
 clear T; rintro e wc ⟨rfl, hb⟩ ac T
 replace M := M.call hb; clear hb
 refine Zso hK _ _ ?_; clear hK K
 refine Zg2 T (Zq (Zr1 rfl (T.e 5 rfl) rfl (T.e 0 rfl))) rfl (Za 0 rfl rfl) rfl ?_; clear T ac; intro ac T
 refine wpList_nil ?_
 replace T := T.pick [0] rfl
 replace M := M.mask [false, false] rfl
 refine Znr ?_
 refine rt_1 T rfl (T.e 0 rfl) ?_
 exact ⟨rfl, M.below⟩
theorem lists_at {LL RR : List LE} (h : LL.map (·.1) = RR.map (·.1)) {k : Nat} {lx ly : List Int} {B C : Option Addr} {d e : Nat} (hx : LL[k]? = some (lx, B, d)) (hy : RR[k]? = some (ly, C, e)) : ly = lx := by
 have h1 : (LL.map (·.1))[k]? = some lx := by rw [List.getElem?_map, hx]; rfl
 have h2 : (RR.map (·.1))[k]? = some ly := by rw [List.getElem?_map, hy]; rfl
 rw [h, h2] at h1
 injection h1
theorem lists_len {LL RR : List LE} (h : LL.map (·.1) = RR.map (·.1)) : LL.length = RR.length := by
 have := congrArg List.length h
 simpa using this
theorem sameLists_same (A : Option Addr) (c : Nat) (LL : List LE) (B : Option Addr) (d : Nat) (RR : List LE) (w : World) (hA : Rd w w.heap.size 1 A LL.length (lc LL)) (hB : Rd w w.heap.size 1 B RR.length (lc RR)) (hLR : LL.map (·.1) = RR.map (·.1)) (hEL : ∀ x ∈ LL, Rd w w.heap.size 1 x.2.1 x.1.length (ic x.1) ∧ x.1.length ≤ 1000000) (hER : ∀ x ∈ RR, Rd w w.heap.size 1 x.2.1 x.1.length (ic x.1) ∧ x.1.length ≤ 1000000) (hn : LL.length ≤ 1000000) :
   Calls Tryz.prog 30 #[.slice A LL.length c, .slice B RR.length d] w fun e w' => e = .returned (.bool true) ∧ Below w.heap.size w w' := by
 have hnn := lists_len hLR
 obtain ⟨bA, oA, SA⟩ := Sp.old hA
 obtain ⟨bB, oB, SB⟩ := Sp.old hB
 refine Zpx noEx Tryz.func30 rfl 31 rfl [.slice A LL.length c, .slice B RR.length d] rfl rfl (Mem.init w _) ?_
 intro ac wc T M
 refine Zsr ?_
 refine lq T (Zra rfl evc) ?_; clear T ac; intro ac T
 replace T := T.pick [1, 2] rfl
 refine Zln ?_
 refine Zsr ?_
 refine Zg6 T (Zq (Zrm rfl (T.e 0 rfl))) rfl (Zl Tryz.underlying55 0 rfl rfl) rfl (Zm 3 rfl rfl) rfl (Zl Tryz.underlying55 0 rfl rfl) rfl (fun _ T => Zq (rn_eql rfl (T.e 2 rfl) (T.e 0 rfl))) rfl (Za 0 rfl rfl) rfl ?_; clear T ac; intro ac T
 replace T := T.pick [0, 6, 7] rfl
 refine Zln ?_
 refine wp_seq ?_
 refine Zsr ?_
 refine lq T (Zra rfl evc) ?_; clear T ac; intro ac T
 refine Zln ?_
 refine wp_block ?_
 refine wp_loop_n (fun mz ac wc => ∃ (k : Nat), mz = LL.length - k ∧ (k ≤ LL.length) ∧ Tm ac 31 [(0, .slice A LL.length c), (1, .slice B RR.length d), (5, .bool true), (6, .int .i64 (k : Int))] ∧ Mem w noEx wc []) ?_ ?_
 ·rw [Zdt (show ((LL.length : Nat) : Int) = (RR.length : Nat) by omega)] at T
  exact ⟨_, 0, rfl, (Nat.zero_le _), T.pick [2, 3, 1, 0] rfl, M.mask [] rfl⟩
 clear T M
 rintro mz ac wc ⟨k, hmm1, hk, T, M⟩
 refine wp_seq ?_
 refine Zsr ?_
 refine Zg7 T (Zq (Zrm rfl (T.e 2 rfl))) rfl (Zm 0 rfl rfl) rfl (fun _ T => Zw (Zwy rfl rfl (T.e 0 rfl) rfl) (Zrm rfl (T.e 5 rfl))) rfl (fun _ T => Zw (Zwy rfl rfl (T.e 1 rfl) rfl) (Zrm rfl (T.e 3 rfl))) rfl (fun _ T => Zw (Zwy rfl rfl (T.e 2 rfl) rfl) (Zrl rfl Tryz.underlying55 (T.e 0 rfl))) rfl (fun _ T => Zw (Zwy rfl rfl (T.e 3 rfl) rfl) (rn_lss rfl (T.e 2 rfl) (T.e 0 rfl))) rfl (fun _ T => Zq (Zr1 rfl (T.e 4 rfl) rfl (T.e 0 rfl))) rfl ?_; clear T ac; intro ac T
 replace T := T.pick [0, 1, 2, 3, 4, 7, 8, 9, 10] rfl
 refine Zln ?_
 refine wp_if (T.e 0 rfl) ?_ ?_
 ·intro h1
  obtain ⟨⟨lx, Bx1, dx⟩, hkx⟩ : ∃ x, LL[k]? = some x := ⟨_, List.getElem?_eq_getElem (by omega)⟩
  obtain ⟨⟨ly, By1, dy⟩, hky⟩ : ∃ x, RR[k]? = some x := ⟨_, List.getElem?_eq_getElem (by omega)⟩
  obtain rfl : lx = ly := (lists_at hLR hkx hky).symm
  have hr1 := hEL _ (List.mem_of_getElem? hkx)
  have hr2 := hER _ (List.mem_of_getElem? hky)
  dsimp only at hr1 hr2
  obtain ⟨bx1, ox1, Sx1⟩ := Sp.old hr1.1
  obtain ⟨by1, oy1, Sy1⟩ := Sp.old hr2.1
  have hn1 := hr1.2
  refine Zsk ?_
  refine wp_seq ?_
  refine wp_block ?_
  refine Zgs M (M.mask [] rfl) 10 (by kernel_rfl) rfl (by kernel_rfl) ?_
  clear M; intro wc M
  refine gq T 0 1 rfl (fun _ _ _ _ _ => (Zrm rfl (T.e 5 rfl))) ?_; clear T ac; intro ac T
  refine gq T 1 3 rfl (fun _ _ _ _ _ => (Zrm rfl (T.e 9 rfl))) ?_; clear T ac; intro ac T
  refine gq T 2 7 rfl (fun _ _ _ _ _ => (Zri (size := 1) k rfl (T.e 1 rfl) (T.e 0 rfl) ⟨_, Tryz.underlying55, by kernel_rfl⟩ rfl (by omega) (SA.at0 (by omega)))) ?_; clear T ac; intro ac T
  refine gq (v := (.slice Bx1 lx.length dx)) T 3 15 rfl (fun B w' hD hl hS => (rn_cell (Sp.lc0 SA (show Mem w noEx w' _ from hS) (Zz9 _) hkx) rfl (T.e 0 rfl))) ?_; clear T ac; intro ac T
  refine gq T 4 31 rfl (fun _ _ _ _ _ => (Zrm rfl (T.e 10 rfl))) ?_; clear T ac; intro ac T
  refine gq T 5 63 rfl (fun _ _ _ _ _ => (Zrm rfl (T.e 13 rfl))) ?_; clear T ac; intro ac T
  refine gq T 6 127 rfl (fun _ _ _ _ _ => (Zri (size := 1) k rfl (T.e 1 rfl) (T.e 0 rfl) ⟨_, Tryz.underlying55, by kernel_rfl⟩ rfl (by omega) (SB.at0 (by omega)))) ?_; clear T ac; intro ac T
  refine gq (v := (.slice By1 lx.length dy)) T 7 255 rfl (fun B w' hD hl hS => (rn_cell (Sp.lc0 SB (show Mem w noEx w' _ from hS) (Zz9 _) hky) rfl (T.e 0 rfl))) ?_; clear T ac; intro ac T
  refine gw 8 511 ?_; intro K hK
  refine Zoc (first := []) (cap := []) T rfl rfl rfl rfl evf (.cons (T.e 4 rfl) (.cons (T.e 0 rfl) .nil)) Tryz.func16 rfl rfl ?_
  refine Calls.mono (sameInts_eq _ _ _ _ _ _ lx _ (Sx1.rd M (Zz9 _)) (Sy1.rd M (Zz9 _)) (by omega) (by omega)) ?_
  clear T; rintro e wc ⟨rfl, hb⟩ ac T
  replace M := M.call hb; clear hb
  refine Zso hK _ _ (M.mask [] rfl) ?_; clear hK K
  refine g_q (v := (.bool true)) (T := T.pick [0, 1, 2, 3, 4, 5, 6, 7, 8, 9, 10, 11, 12, 13, 14, 15, 17] rfl) (i := 9) rfl (by kernel_rfl) (by kernel_rfl : (Zpb 10 511).setIfInBounds 9 true = Zpb 10 1023) si_U (fun _ _ _ h => h) rfl rfl rfl rfl (fun _ _ _ _ _ => (Zra rfl (T.e 0 rfl))) ?_; clear T ac; intro ac T
  refine Zgd (by kernel_rfl) ?_
  replace T := T.pick [0, 11, 12, 13, 14, 15, 16, 17] rfl
  refine Znb ?_
  refine nm_then ?_
  refine wp_region_lit ?_
  refine Zg2 T (Zq (Zrm rfl (T.e 7 rfl))) rfl (fun _ T => Zq (rn_add rfl (T.e 0 rfl) evc (by omega))) rfl ?_; clear T ac; intro ac T
  refine l_q (v := (.int .i64 ((k : Int) + 1))) (T.pick [0, 1, 2, 3, 4, 5, 6, 7, 8] rfl) rfl rfl rfl rfl (Zra rfl (T.e 0 rfl)) ?_; clear T ac; intro ac T
  replace T := T.pick [0, 3, 4, 5, 6, 7, 8, 9] rfl
  refine Zln ?_
  exact ⟨_, by omega, k + 1, rfl, (by omega), T.pick [6, 7, 1, 0] rfl, M.mask [] rfl⟩
 intro h1
 refine wp_exit ?_
 refine Zet ?_
 refine Zet ?_
 refine ex_hit ?_
 refine nm_then ?_
 refine Zsr ?_
 refine Zg2 T (Zq (Zrm rfl (T.e 7 rfl))) rfl (Za 0 rfl rfl) rfl ?_; clear T ac; intro ac T
 replace T := T.pick [0] rfl
 refine Zln ?_
 refine wp_ret ?_
 refine rt_1 T rfl (T.e 0 rfl) ?_
 exact ⟨rfl, M.below⟩
open Go.RowKit
open Go.RowKit
open Go.RowKit
open Go.RowKit
open Go.RowKit
open Go.RowKit
open Go.RowKit
open Go.RowKit
open Go.RowKit
open Go.RowKit
theorem Tryz.append0s (B : Option Addr) (d g : Nat) (ty : TypeId) (w : World) : (Builtin.append_ #[24, 24] ty #[.slice (some ⟨g, 0, none⟩) 0 0, .slice B 0 d]).run Tryz.prog w = .ok (.slice (some ⟨g, 0, none⟩) 0 0) w := by
 cases B <;> kernel_rfl
theorem sc_one (l : List Snd) : ∀ u ∈ sc l, u.oneCell' = true := by
 intro u hu
 obtain ⟨p, _, hp⟩ := List.mem_flatMap.1 hu
 simp only [sndC, List.mem_cons, List.not_mem_nil, or_false] at hp
 rcases hp with rfl | rfl | rfl | rfl <;> rfl
def CopyMPost (b : Bx) (w : World) (e : Ending) (w' : World) : Prop := ∃ A1 c1 I1 A2 c2 I2, e = .returned (bxV b A1 c1 A2 c2) ∧ Sm 32 4 A1 b.lows.length c1 (sc b.lows) I1 ∧ Sm 32 4 A2 b.highs.length c2 (sc b.highs) I2 ∧ Mem w noEx w' (I1 ++ I2)
theorem Sm.spV {e size n c : Nat} {A : Option Addr} {xs : List Value} {I : List (Nat × BA)} (h : Sm e size A n c xs I) (hl : xs.length = n * size) : ∃ b o, ∀ (w : World) (ex : Nat → Prop), Sp w ex I A n size b o xs := Cl.spV (.inr h) hl
abbrev BE := Bx × Option Addr × Nat × Option Addr × Nat
def bxK (b : Bx) (A : Option Addr) (c : Nat) (B : Option Addr) (d : Nat) : List Value := [.int .i64 b.first, .int .i64 b.step, .int .i64 b.span, .int .i64 b.press, .int .i64 b.note, .slice A b.lows.length c, .slice B b.highs.length d, .int .i64 b.t0, .int .i64 b.t1, .int .i64 b.r0, .int .i64 b.r1, .int .i64 b.u0, .int .i64 b.u1, .int .i64 b.d0, .int .i64 b.d1, .int .i64 b.a0, .int .i64 b.a1, .int .i64 b.b0, .int .i64 b.b1, .int .i64 b.le, .int .i64 b.me]
def bx (l : List BE) : List Value := l.flatMap fun x => bxK x.1 x.2.1 x.2.2.1 x.2.2.2.1 x.2.2.2.2
theorem bx_get : ∀ (l : List BE) (k : Nat) {x : BE}, l[k]? = some x → ∀ (i : Nat) (v : Value), (bxK x.1 x.2.1 x.2.2.1 x.2.2.2.1 x.2.2.2.2)[i]? = some v → (bx l)[k * 21 + i]? = some v
 | [], k, x, h, _, _, _ => by simp at h
 | y :: l, 0, x, h, i, v, hv => by
  simp only [List.getElem?_cons_zero, Option.some.injEq] at h
  subst h
  have hi : i < (bxK y.1 y.2.1 y.2.2.1 y.2.2.2.1 y.2.2.2.2).length := (List.getElem?_eq_some_iff.1 hv).1
  show (bxK y.1 y.2.1 y.2.2.1 y.2.2.2.1 y.2.2.2.2 ++ bx l)[0 * 21 + i]? = some v
  rw [Nat.zero_mul, Nat.zero_add, List.getElem?_append_left hi]
  exact hv
 | y :: l, k + 1, x, h, i, v, hv => by
  rw [List.getElem?_cons_succ] at h
  have := bx_get l k h i v hv
  show (bxK y.1 y.2.1 y.2.2.1 y.2.2.2.1 y.2.2.2.2 ++ bx l)[(k + 1) * 21 + i]? = some v
  have hl : (bxK y.1 y.2.1 y.2.2.1 y.2.2.2.1 y.2.2.2.2).length = 21 := rfl
  rw [List.getElem?_append_right (by rw [hl]; omega), hl, show (k + 1) * 21 + i - 21 = k * 21 + i by omega]
  exact this
theorem Sp.bxR {w w' : World} {ex : Nat → Prop} {I L : List (Nat × BA)} {n b o k : Nat} {A : Option Addr} {l : List BE} {x : Bx} {B C : Option Addr} {c d : Nat} (S : Sp w ex I A n 21 b o (bx l)) (M : Mem w ex w' L) (hI : I.Sublist L) (h : l[k]? = some (x, B, c, C, d)) : w'.rangeAt b (o + k * 21) (bxK x B c C d) := fun i v hv => by
 have := S.cell w' L M hI _ _ (bx_get l k h i v hv)
 rwa [← Nat.add_assoc] at this
theorem copyBoxM_any (b : Bx) (A : Option Addr) (c : Nat) (B : Option Addr) (d : Nat) (w : World) (hA : Rd w w.heap.size 4 A b.lows.length (sc b.lows)) (hB : Rd w w.heap.size 4 B b.highs.length (sc b.highs)) (nA : b.lows.length ≤ 1000000) (nB : b.highs.length ≤ 1000000)  :
   Calls Tryz.prog 9 #[bxV b A c B d] w (CopyMPost b w) := by
 have hlA := hA.len4
 have hlB := hB.len4
 obtain ⟨bA, oA, SA⟩ := Sp.old hA
 obtain ⟨bB, oB, SB⟩ := Sp.old hB
 refine Zpx noEx Tryz.func9 rfl 14 rfl [.agg #[.int .i64 b.first, .int .i64 b.step, .int .i64 b.span, .int .i64 b.press, .int .i64 b.note, .slice A b.lows.length c, .slice B b.highs.length d, .int .i64 b.t0, .int .i64 b.t1, .int .i64 b.r0, .int .i64 b.r1, .int .i64 b.u0, .int .i64 b.u1, .int .i64 b.d0, .int .i64 b.d1, .int .i64 b.a0, .int .i64 b.a1, .int .i64 b.b0, .int .i64 b.b1, .int .i64 b.le, .int .i64 b.me]] rfl rfl (Mem.init w _) ?_
 intro ac wc T M
 refine Zsr ?_
 refine Zl2 ?_
 refine Zob M T rfl rfl rfl rfl (T.e 0 rfl) rfl ?_; clear M T; intro g1 wc ac M T
 refine Zl2 ?_
 refine Zoa M T rfl rfl rfl rfl ?_; clear M T; intro g2 wc ac M T
 replace T := T.pick [0, 1] rfl
 refine Zln ?_
 refine wp_seq ?_
 refine Zgs M (M.perm [0] rfl rfl) 12 (by kernel_rfl) rfl (by kernel_rfl) ?_
 clear M; intro wc M
 refine g_addG 9 M ?_
 refine gq (v := (.pointer (some ⟨g1, 5, none⟩))) T 1 2 rfl (fun _ _ _ _ _ => (Zrf (off := 5) rfl (T.e 1 rfl) (fun _ _ _ => by kernel_rfl))) ?_; clear T ac; intro ac T
 refine gq T 2 6 rfl (fun B w' hD hl hS => (Zro (Mem.nth (show Mem w noEx w' _ from ((MA.lft hS) (hD.wait (i := 2) (m := 9) (by kernel_rfl) hl))) 1 rfl) rfl (T.e 0 rfl) rfl)) ?_; clear T ac; intro ac T
 refine gq (v := (.pointer (some ⟨g1, 6, none⟩))) T 5 38 rfl (fun _ _ _ _ _ => (Zrf (off := 6) rfl (T.e 3 rfl) (fun _ _ _ => by kernel_rfl))) ?_; clear T ac; intro ac T
 refine gq T 6 102 rfl (fun B w' hD hl hS => (Zro (Mem.nth (show Mem w noEx w' _ from ((MA.lft hS) (hD.wait (i := 6) (m := 9) (by kernel_rfl) hl))) 1 rfl) rfl (T.e 0 rfl) rfl)) ?_; clear T ac; intro ac T
 refine g_m2 (i := 0) (j := 4) (by kernel_rfl) ?_ ?_
 ·refine gi 103 ?_; intro K hK
  refine ow_bs0 (e := 32) M T rfl rfl rfl rfl (fun _ => by kernel_rfl) ?_; clear M T; intro gr1_0 wc ac M T
  refine Zso hK _ _ (MA.mk (fun _ => M.mask [false, true, true] rfl) (M.mask [false, true, false] rfl)) ?_; clear hK K
  refine g_m2 (i := 3) (j := 4) (by kernel_rfl) ?_ ?_
  ·refine gi 111 ?_; intro K hK
   refine ow_appS Tryz.info32 M T rfl rfl rfl rfl (fun g w => Tryz.append0s _ _ g _ w) Tryz.underlying24 rfl rfl rfl (by omega) (T.e 0 rfl) (T.e 3 rfl) (SA.rd M (Zz9 _)) (sc_one _) ?_; clear M T; intro Au1_3 cu1_3 Iu1_3 wc ac hSm1_3 M T
   replace M : Mem w noEx wc ((g2, .cells [.int .i64 0, .int .i64 0, .int .i64 0, .int .i64 0, .int .i64 0, .slice none 0 0, .slice none 0 0, .int .i64 0, .int .i64 0, .int .i64 0, .int .i64 0, .int .i64 0, .int .i64 0, .int .i64 0, .int .i64 0, .int .i64 0, .int .i64 0, .int .i64 0, .int .i64 0, .int .i64 0, .int .i64 0]) :: (g1, .cells [.int .i64 b.first, .int .i64 b.step, .int .i64 b.span, .int .i64 b.press, .int .i64 b.note, .slice A b.lows.length c, .slice B b.highs.length d, .int .i64 b.t0, .int .i64 b.t1, .int .i64 b.r0, .int .i64 b.r1, .int .i64 b.u0, .int .i64 b.u1, .int .i64 b.d0, .int .i64 b.d1, .int .i64 b.a0, .int .i64 b.a1, .int .i64 b.b0, .int .i64 b.b1, .int .i64 b.le, .int .i64 b.me]) :: Iu1_3) := M.swapI
   refine Zso hK _ _ (MA.mk (fun _ => M.perm [0, 1] rfl rfl) (M.perm [0] rfl rfl)) ?_; clear hK K
   refine gq (v := (.pointer (some ⟨g1, 5, none⟩))) T 8 367 rfl (fun _ _ _ _ _ => (Zrf (off := 5) rfl (T.e 7 rfl) (fun _ _ _ => by kernel_rfl))) ?_; clear T ac; intro ac T
   refine gw 4 383 ?_; intro K hK
   refine ow_bs0 (e := 32) M T rfl rfl rfl rfl (fun _ => by kernel_rfl) ?_; clear M T; intro gr1_4 wc ac M T
   refine Zso hK _ _ (MA.mk (fun _ => M.perm [1, 2] rfl rfl) (M.perm [1] rfl rfl)) ?_; clear hK K
   refine gw 7 511 ?_; intro K hK
   refine ow_appS Tryz.info32 M T rfl rfl rfl rfl (fun g w => Tryz.append0s _ _ g _ w) Tryz.underlying24 rfl rfl rfl (by omega) (T.e 0 rfl) (T.e 4 rfl) (SB.rd M (Zz9 _)) (sc_one _) ?_; clear M T; intro Au1_7 cu1_7 Iu1_7 wc ac hSm1_7 M T
   replace M : Mem w noEx wc ((g2, .cells [.int .i64 0, .int .i64 0, .int .i64 0, .int .i64 0, .int .i64 0, .slice none 0 0, .slice none 0 0, .int .i64 0, .int .i64 0, .int .i64 0, .int .i64 0, .int .i64 0, .int .i64 0, .int .i64 0, .int .i64 0, .int .i64 0, .int .i64 0, .int .i64 0, .int .i64 0, .int .i64 0, .int .i64 0]) :: (g1, .cells [.int .i64 b.first, .int .i64 b.step, .int .i64 b.span, .int .i64 b.press, .int .i64 b.note, .slice A b.lows.length c, .slice B b.highs.length d, .int .i64 b.t0, .int .i64 b.t1, .int .i64 b.r0, .int .i64 b.r1, .int .i64 b.u0, .int .i64 b.u1, .int .i64 b.d0, .int .i64 b.d1, .int .i64 b.a0, .int .i64 b.a1, .int .i64 b.b0, .int .i64 b.b1, .int .i64 b.le, .int .i64 b.me]) :: (Iu1_3 ++ Iu1_7)) := M.swapI
   refine Zso hK _ _ (MA.mk (fun _ => M.perm [0, 1] rfl rfl) (M.perm [0] rfl rfl)) ?_; clear hK K
   refine gw 9 1023 ?_; intro K hK
   refine Zos M T rfl rfl (T.e 2 rfl) (T.e 3 rfl) rfl (.tail .head) rfl (by simp) rfl (by kernel_rfl) ?_; clear M T; intro wc ac M T
   refine Zso hK _ _ (MA.mk (fun h => (no_of (by kernel_rfl) h).elim) (M.perm [0] rfl rfl)) ?_; clear hK K
   refine gq (v := (.pointer (some ⟨g1, 6, none⟩))) T 10 2047 rfl (fun _ _ _ _ _ => (Zrf (off := 6) rfl (T.e 10 rfl) (fun _ _ _ => by kernel_rfl))) ?_; clear T ac; intro ac T
   refine gw 11 4095 ?_; intro K hK
   refine Zos M T rfl rfl (T.e 0 rfl) (T.e 1 rfl) rfl (.tail .head) rfl (by simp) rfl (by kernel_rfl) ?_; clear M T; intro wc ac M T
   refine Zso hK _ _ (MA.mk (fun h => (no_of (by kernel_rfl) h).elim) (M.perm [0] rfl rfl)) ?_; clear hK K
   refine Zgd (by kernel_rfl) ?_
   replace T := T.pick [10, 11] rfl
   refine nm_then ?_
   refine Zsr ?_
   refine lq T (Zrr (Mem.nth M 1 rfl) rfl (T.e 1 rfl) rfl) ?_; clear T ac; intro ac T
   refine Zl2 ?_
   refine Zos M T rfl rfl (T.e 1 rfl) (T.e 0 rfl) rfl .head rfl (by simp) rfl (by kernel_rfl) ?_; clear M T; intro wc ac M T
   refine wpList_nil ?_
   replace T := T.pick [1] rfl
   replace M := M.mask [true, false] rfl
   refine Znr ?_
   refine rt_c M T rfl (T.e 0 rfl) (Zne (i := 0) rfl) rfl ?_
   exact ⟨Au1_3, cu1_3, Iu1_3, Au1_7, cu1_7, Iu1_7, rfl, hSm1_3, hSm1_7, M.sub (Zsq ([(g2, .cells [.int .i64 b.first, .int .i64 b.step, .int .i64 b.span, .int .i64 b.press, .int .i64 b.note, .slice Au1_3 b.lows.length cu1_3, .slice Au1_7 b.highs.length cu1_7, .int .i64 b.t0, .int .i64 b.t1, .int .i64 b.r0, .int .i64 b.r1, .int .i64 b.u0, .int .i64 b.u1, .int .i64 b.d0, .int .i64 b.d1, .int .i64 b.a0, .int .i64 b.a1, .int .i64 b.b0, .int .i64 b.b1, .int .i64 b.le, .int .i64 b.me])] : List (Nat × BA)) _)⟩
  refine gi 119 ?_; intro K hK
  refine ow_bs0 (e := 32) M T rfl rfl rfl rfl (fun _ => by kernel_rfl) ?_; clear M T; intro gr1_4 wc ac M T
  refine Zso hK _ _ (MA.mk (fun _ => M.mask [false, false, true, true] rfl) (M.mask [false, false, true, false] rfl)) ?_; clear hK K
  refine gw 3 127 ?_; intro K hK
  replace M := M.permT [1, 0, 2, 3] 4 rfl rfl rfl rfl
  refine ow_appS Tryz.info32 M T rfl rfl rfl rfl (fun g w => Tryz.append0s _ _ g _ w) Tryz.underlying24 rfl rfl rfl (by omega) (T.e 1 rfl) (T.e 4 rfl) (SA.rd M (Zz9 _)) (sc_one _) ?_; clear M T; intro Au1_3 cu1_3 Iu1_3 wc ac hSm1_3 M T
  replace M : Mem w noEx wc ((gr1_4, .any fun o => o = .cells #[] 32) :: (g2, .cells [.int .i64 0, .int .i64 0, .int .i64 0, .int .i64 0, .int .i64 0, .slice none 0 0, .slice none 0 0, .int .i64 0, .int .i64 0, .int .i64 0, .int .i64 0, .int .i64 0, .int .i64 0, .int .i64 0, .int .i64 0, .int .i64 0, .int .i64 0, .int .i64 0, .int .i64 0, .int .i64 0, .int .i64 0]) :: (g1, .cells [.int .i64 b.first, .int .i64 b.step, .int .i64 b.span, .int .i64 b.press, .int .i64 b.note, .slice A b.lows.length c, .slice B b.highs.length d, .int .i64 b.t0, .int .i64 b.t1, .int .i64 b.r0, .int .i64 b.r1, .int .i64 b.u0, .int .i64 b.u1, .int .i64 b.d0, .int .i64 b.d1, .int .i64 b.a0, .int .i64 b.a1, .int .i64 b.b0, .int .i64 b.b1, .int .i64 b.le, .int .i64 b.me]) :: Iu1_3) := M.swapI
  refine Zso hK _ _ (MA.mk (fun _ => M.perm [1, 2] rfl rfl) (M.perm [1] rfl rfl)) ?_; clear hK K
  refine gq (v := (.pointer (some ⟨g1, 5, none⟩))) T 8 383 rfl (fun _ _ _ _ _ => (Zrf (off := 5) rfl (T.e 8 rfl) (fun _ _ _ => by kernel_rfl))) ?_; clear T ac; intro ac T
  refine gw 7 511 ?_; intro K hK
  refine ow_appS Tryz.info32 M T rfl rfl rfl rfl (fun g w => Tryz.append0s _ _ g _ w) Tryz.underlying24 rfl rfl rfl (by omega) (T.e 2 rfl) (T.e 4 rfl) (SB.rd M (Zz9 _)) (sc_one _) ?_; clear M T; intro Au1_7 cu1_7 Iu1_7 wc ac hSm1_7 M T
  replace M : Mem w noEx wc ((g2, .cells [.int .i64 0, .int .i64 0, .int .i64 0, .int .i64 0, .int .i64 0, .slice none 0 0, .slice none 0 0, .int .i64 0, .int .i64 0, .int .i64 0, .int .i64 0, .int .i64 0, .int .i64 0, .int .i64 0, .int .i64 0, .int .i64 0, .int .i64 0, .int .i64 0, .int .i64 0, .int .i64 0, .int .i64 0]) :: (g1, .cells [.int .i64 b.first, .int .i64 b.step, .int .i64 b.span, .int .i64 b.press, .int .i64 b.note, .slice A b.lows.length c, .slice B b.highs.length d, .int .i64 b.t0, .int .i64 b.t1, .int .i64 b.r0, .int .i64 b.r1, .int .i64 b.u0, .int .i64 b.u1, .int .i64 b.d0, .int .i64 b.d1, .int .i64 b.a0, .int .i64 b.a1, .int .i64 b.b0, .int .i64 b.b1, .int .i64 b.le, .int .i64 b.me]) :: (Iu1_3 ++ Iu1_7)) := M.swapI
  refine Zso hK _ _ (MA.mk (fun _ => M.perm [0, 1] rfl rfl) (M.perm [0] rfl rfl)) ?_; clear hK K
  refine gw 9 1023 ?_; intro K hK
  refine Zos M T rfl rfl (T.e 1 rfl) (T.e 2 rfl) rfl (.tail .head) rfl (by simp) rfl (by kernel_rfl) ?_; clear M T; intro wc ac M T
  refine Zso hK _ _ (MA.mk (fun h => (no_of (by kernel_rfl) h).elim) (M.perm [0] rfl rfl)) ?_; clear hK K
  refine gq (v := (.pointer (some ⟨g1, 6, none⟩))) T 10 2047 rfl (fun _ _ _ _ _ => (Zrf (off := 6) rfl (T.e 10 rfl) (fun _ _ _ => by kernel_rfl))) ?_; clear T ac; intro ac T
  refine gw 11 4095 ?_; intro K hK
  refine Zos M T rfl rfl (T.e 0 rfl) (T.e 1 rfl) rfl (.tail .head) rfl (by simp) rfl (by kernel_rfl) ?_; clear M T; intro wc ac M T
  refine Zso hK _ _ (MA.mk (fun h => (no_of (by kernel_rfl) h).elim) (M.perm [0] rfl rfl)) ?_; clear hK K
  refine Zgd (by kernel_rfl) ?_
  replace T := T.pick [10, 11] rfl
  refine nm_then ?_
  refine Zsr ?_
  refine lq T (Zrr (Mem.nth M 1 rfl) rfl (T.e 1 rfl) rfl) ?_; clear T ac; intro ac T
  refine Zl2 ?_
  refine Zos M T rfl rfl (T.e 1 rfl) (T.e 0 rfl) rfl .head rfl (by simp) rfl (by kernel_rfl) ?_; clear M T; intro wc ac M T
  refine wpList_nil ?_
  replace T := T.pick [1] rfl
  replace M := M.mask [true, false] rfl
  refine Znr ?_
  refine rt_c M T rfl (T.e 0 rfl) (Zne (i := 0) rfl) rfl ?_
  exact ⟨Au1_3, cu1_3, Iu1_3, Au1_7, cu1_7, Iu1_7, rfl, hSm1_3, hSm1_7, M.sub (Zsq ([(g2, .cells [.int .i64 b.first, .int .i64 b.step, .int .i64 b.span, .int .i64 b.press, .int .i64 b.note, .slice Au1_3 b.lows.length cu1_3, .slice Au1_7 b.highs.length cu1_7, .int .i64 b.t0, .int .i64 b.t1, .int .i64 b.r0, .int .i64 b.r1, .int .i64 b.u0, .int .i64 b.u1, .int .i64 b.d0, .int .i64 b.d1, .int .i64 b.a0, .int .i64 b.a1, .int .i64 b.b0, .int .i64 b.b1, .int .i64 b.le, .int .i64 b.me])] : List (Nat × BA)) _)⟩
 refine gi 118 ?_; intro K hK
 refine ow_bs0 (e := 32) M T rfl rfl rfl rfl (fun _ => by kernel_rfl) ?_; clear M T; intro gr1_4 wc ac M T
 refine Zso hK _ _ (MA.mk (fun _ => M.mask [false, true, true] rfl) (M.mask [false, true, false] rfl)) ?_; clear hK K
 refine gw 0 119 ?_; intro K hK
 refine ow_bs0 (e := 32) M T rfl rfl rfl rfl (fun _ => by kernel_rfl) ?_; clear M T; intro gr1_0 wc ac M T
 refine Zso hK _ _ (MA.mk (fun _ => M.mask [false, false, true, true] rfl) (M.mask [false, false, true, false] rfl)) ?_; clear hK K
 refine gw 3 127 ?_; intro K hK
 refine ow_appS Tryz.info32 M T rfl rfl rfl rfl (fun g w => Tryz.append0s _ _ g _ w) Tryz.underlying24 rfl rfl rfl (by omega) (T.e 0 rfl) (T.e 4 rfl) (SA.rd M (Zz9 _)) (sc_one _) ?_; clear M T; intro Au1_3 cu1_3 Iu1_3 wc ac hSm1_3 M T
 replace M : Mem w noEx wc ((gr1_4, .any fun o => o = .cells #[] 32) :: (g2, .cells [.int .i64 0, .int .i64 0, .int .i64 0, .int .i64 0, .int .i64 0, .slice none 0 0, .slice none 0 0, .int .i64 0, .int .i64 0, .int .i64 0, .int .i64 0, .int .i64 0, .int .i64 0, .int .i64 0, .int .i64 0, .int .i64 0, .int .i64 0, .int .i64 0, .int .i64 0, .int .i64 0, .int .i64 0]) :: (g1, .cells [.int .i64 b.first, .int .i64 b.step, .int .i64 b.span, .int .i64 b.press, .int .i64 b.note, .slice A b.lows.length c, .slice B b.highs.length d, .int .i64 b.t0, .int .i64 b.t1, .int .i64 b.r0, .int .i64 b.r1, .int .i64 b.u0, .int .i64 b.u1, .int .i64 b.d0, .int .i64 b.d1, .int .i64 b.a0, .int .i64 b.a1, .int .i64 b.b0, .int .i64 b.b1, .int .i64 b.le, .int .i64 b.me]) :: Iu1_3) := M.swapI
 refine Zso hK _ _ (MA.mk (fun _ => M.perm [1, 2] rfl rfl) (M.perm [1] rfl rfl)) ?_; clear hK K
 refine gq (v := (.pointer (some ⟨g1, 5, none⟩))) T 8 383 rfl (fun _ _ _ _ _ => (Zrf (off := 5) rfl (T.e 8 rfl) (fun _ _ _ => by kernel_rfl))) ?_; clear T ac; intro ac T
 refine gw 7 511 ?_; intro K hK
 refine ow_appS Tryz.info32 M T rfl rfl rfl rfl (fun g w => Tryz.append0s _ _ g _ w) Tryz.underlying24 rfl rfl rfl (by omega) (T.e 3 rfl) (T.e 4 rfl) (SB.rd M (Zz9 _)) (sc_one _) ?_; clear M T; intro Au1_7 cu1_7 Iu1_7 wc ac hSm1_7 M T
 replace M : Mem w noEx wc ((g2, .cells [.int .i64 0, .int .i64 0, .int .i64 0, .int .i64 0, .int .i64 0, .slice none 0 0, .slice none 0 0, .int .i64 0, .int .i64 0, .int .i64 0, .int .i64 0, .int .i64 0, .int .i64 0, .int .i64 0, .int .i64 0, .int .i64 0, .int .i64 0, .int .i64 0, .int .i64 0, .int .i64 0, .int .i64 0]) :: (g1, .cells [.int .i64 b.first, .int .i64 b.step, .int .i64 b.span, .int .i64 b.press, .int .i64 b.note, .slice A b.lows.length c, .slice B b.highs.length d, .int .i64 b.t0, .int .i64 b.t1, .int .i64 b.r0, .int .i64 b.r1, .int .i64 b.u0, .int .i64 b.u1, .int .i64 b.d0, .int .i64 b.d1, .int .i64 b.a0, .int .i64 b.a1, .int .i64 b.b0, .int .i64 b.b1, .int .i64 b.le, .int .i64 b.me]) :: (Iu1_3 ++ Iu1_7)) := M.swapI
 refine Zso hK _ _ (MA.mk (fun _ => M.perm [0, 1] rfl rfl) (M.perm [0] rfl rfl)) ?_; clear hK K
 refine gw 9 1023 ?_; intro K hK
 refine Zos M T rfl rfl (T.e 1 rfl) (T.e 2 rfl) rfl (.tail .head) rfl (by simp) rfl (by kernel_rfl) ?_; clear M T; intro wc ac M T
 refine Zso hK _ _ (MA.mk (fun h => (no_of (by kernel_rfl) h).elim) (M.perm [0] rfl rfl)) ?_; clear hK K
 refine gq (v := (.pointer (some ⟨g1, 6, none⟩))) T 10 2047 rfl (fun _ _ _ _ _ => (Zrf (off := 6) rfl (T.e 10 rfl) (fun _ _ _ => by kernel_rfl))) ?_; clear T ac; intro ac T
 refine gw 11 4095 ?_; intro K hK
 refine Zos M T rfl rfl (T.e 0 rfl) (T.e 1 rfl) rfl (.tail .head) rfl (by simp) rfl (by kernel_rfl) ?_; clear M T; intro wc ac M T
 refine Zso hK _ _ (MA.mk (fun h => (no_of (by kernel_rfl) h).elim) (M.perm [0] rfl rfl)) ?_; clear hK K
 refine Zgd (by kernel_rfl) ?_
 replace T := T.pick [10, 11] rfl
 refine nm_then ?_
 refine Zsr ?_
 refine lq T (Zrr (Mem.nth M 1 rfl) rfl (T.e 1 rfl) rfl) ?_; clear T ac; intro ac T
 refine Zl2 ?_
 refine Zos M T rfl rfl (T.e 1 rfl) (T.e 0 rfl) rfl .head rfl (by simp) rfl (by kernel_rfl) ?_; clear M T; intro wc ac M T
 refine wpList_nil ?_
 replace T := T.pick [1] rfl
 replace M := M.mask [true, false] rfl
 refine Znr ?_
 refine rt_c M T rfl (T.e 0 rfl) (Zne (i := 0) rfl) rfl ?_
 exact ⟨Au1_3, cu1_3, Iu1_3, Au1_7, cu1_7, Iu1_7, rfl, hSm1_3, hSm1_7, M.sub (Zsq ([(g2, .cells [.int .i64 b.first, .int .i64 b.step, .int .i64 b.span, .int .i64 b.press, .int .i64 b.note, .slice Au1_3 b.lows.length cu1_3, .slice Au1_7 b.highs.length cu1_7, .int .i64 b.t0, .int .i64 b.t1, .int .i64 b.r0, .int .i64 b.r1, .int .i64 b.u0, .int .i64 b.u1, .int .i64 b.d0, .int .i64 b.d1, .int .i64 b.a0, .int .i64 b.a1, .int .i64 b.b0, .int .i64 b.b1, .int .i64 b.le, .int .i64 b.me])] : List (Nat × BA)) _)⟩
end Go.Proofs.YtdnbljihhimijaaGreat


/-
  kit: boxes out of a pot.
-/
import Derived.Test.YtaikhendogcflaaGreatDoorMVoiceRead1
import Derived.Test.YtaikhendogcflaaGreatDoorMVoiceRead2
import Derived.Test.YtaikhendogcflaaGreatDoorMVoiceRead3
import Derived.Test.YtaikhendogcflaaGreatDoorMVoiceRead4
namespace Go.Proofs.YtaikhendogcflaaGreatDoor
set_option linter.unusedSimpArgs false
set_option linter.unusedVariables false
open Go.RowKit
theorem Mem.joinW {w0 w w' : World} {ex : Nat → Prop} {L L' I : List (Nat × BA)} {g : Nat} {p p' : BA} (M : Mem w0 ex w L) (hu : Upd L g p p' L') (N : Mem w (fun b => b = g) w' (I ++ [(g, p')])) : Mem w0 ex w' (I ++ L') := by
 have hg := M.blk _ hu.mem
 have hgl := BA.lt hg.2
 have hnd := N.nd
 rw [List.map_append] at hnd
 obtain ⟨n1, n2, n3⟩ := List.nodup_append.1 hnd
 have hI : ∀ q ∈ I, w.heap.size ≤ q.1 := fun q hq => by
  rcases (N.blk q (List.mem_append_left _ hq)).1 with h | h
  ·exact h
  ·exact absurd h (n3 q.1 (List.mem_map.2 ⟨q, hq, rfl⟩) g (by simp))
 refine ⟨N.os.trans M.os, N.tape.trans M.tape, N.output.trans M.output, Nat.le_trans M.size N.size, fun b hb hx => ?_, fun q hq => ?_, ?_⟩
 ·refine (N.block b (Nat.lt_of_lt_of_le hb M.size) fun e => ?_).trans (M.block b hb hx)
  have e : b = g := e
  subst e
  rcases hg.1 with h | h
  ·have h : w0.heap.size ≤ b := h
   omega
  ·exact hx h
 ·rcases List.mem_append.1 hq with hq | hq
  ·exact ⟨.inl (Nat.le_trans M.size (hI q hq)), (N.blk q (List.mem_append_left _ hq)).2⟩
  ·rcases hu.all M.nd q hq with rfl | ⟨h1, h2⟩
   ·exact ⟨hg.1, (N.blk _ (List.mem_append_right _ Zz2)).2⟩
   ·have h3 := M.blk q h1
    exact ⟨h3.1, BA.same h3.2 N.size (N.block _ (BA.lt h3.2) h2)⟩
 ·rw [List.map_append, hu.keys]
  refine List.nodup_append.2 ⟨n1, M.nd, fun a ha b hb e => ?_⟩
  obtain ⟨q, hq, rfl⟩ := List.mem_map.1 ha
  obtain ⟨r, hr, rfl⟩ := List.mem_map.1 hb
  have h1 := hI q hq
  have h2 := BA.lt (M.blk r hr).2
  omega
structure Bx.made (b : Bx) (lo hi : Int) : Prop where
 law : b.law.made 3
 note : 0 ≤ b.note ∧ b.note ≤ 3
 nlo : (b.lows.length : Int) ≤ lo
 nhi : (b.highs.length : Int) ≤ hi
 good : b.good
theorem boxMade {b : Bx} {j : Jb} {lo hi : Int} (hl : b.law.made 3) (hn : 0 ≤ b.note ∧ b.note ≤ 3) (hlo : (b.lows.length : Int) ≤ lo ∧ b.lows.length ≤ 4) (hhi : (b.highs.length : Int) ≤ hi ∧ b.highs.length ≤ 5) (gl : ∀ x ∈ b.lows, x.good) (gh : ∀ x ∈ b.highs, x.good) (hme : 0 ≤ b.me ∧ b.me ≤ 1)
  (hj : j.made 0 1) (e : b.t0 = j.t0 ∧ b.t1 = j.t1 ∧ b.r0 = j.r0 ∧ b.r1 = j.r1 ∧ b.u0 = j.u0 ∧ b.u1 = j.u1 ∧ b.d0 = j.d0 ∧ b.d1 = j.d1 ∧ b.a0 = j.a0 ∧ b.a1 = j.a1 ∧ b.b0 = j.b0 ∧ b.b1 = j.b1 ∧ b.le = j.le) : b.made lo hi := by
 have gj := hj.good
 have hs := step_bd (notes := 3) hl.step hn
 have h1 := hl.first
 have h2 := hl.step
 have h3 := hl.span
 have h4 := hl.press
 have h5 := mostD_bd 3
 dsimp only at h1 h2 h3 h4 hs
 refine ⟨hl, hn, hlo.1, hhi.1, ⟨⟨by dsimp only; omega, by dsimp only; omega, by dsimp only; omega, by dsimp only; omega⟩, by omega, by unfold Bx.due; omega, ⟨hlo.2, gl⟩, ⟨hhi.2, gh⟩, check_of_good ?_⟩⟩
 obtain ⟨e1, e2, e3, e4, e5, e6, e7, e8, e9, e10, e11, e12, e13⟩ := e
 have k1 := gj.t
 have k2 := gj.r
 have k3 := gj.u
 have k4 := gj.d
 have k5 := gj.a
 have k6 := gj.b
 have k7 := gj.le
 exact ⟨by show (-60 : Int) ≤ 0 ∧ (0 : Int) ≤ 0 ∧ (0 : Int) ≤ 60; omega, by show 0 ≤ b.t0 ∧ b.t0 ≤ b.t1 ∧ b.t1 ≤ 100; omega, by show 0 ≤ b.r0 ∧ b.r0 ≤ b.r1 ∧ b.r1 ≤ 100; omega, by show 0 ≤ b.u0 ∧ b.u0 ≤ b.u1 ∧ b.u1 ≤ 12; omega, by show 0 ≤ b.d0 ∧ b.d0 ≤ b.d1 ∧ b.d1 ≤ 12; omega, by show 0 ≤ b.a0 ∧ b.a0 ≤ b.a1 ∧ b.a1 ≤ 12; omega, by show 0 ≤ b.b0 ∧ b.b0 ≤ b.b1 ∧ b.b1 ≤ 12; omega, by show 0 ≤ b.le ∧ b.le ≤ 100; omega, by show ([] : List (Int × Int)).length ≤ 4; simp, fun p hp => (by cases hp), by show 0 ≤ b.span ∧ b.span ≤ 60; omega, by show 0 ≤ b.me ∧ b.me ≤ 6; omega⟩
def BoxOfPost (bp : Nat) (lo hi : Int) (w : World) (e : Ending) (w' : World) : Prop :=
 ∃ (b : Bx) (A : Option Addr) (c : Nat) (B : Option Addr) (d : Nat) (s : Int) (I : List (Nat × BA)), e = .returned (bxV b A c B d) ∧ b.made lo hi ∧ u64ok s ∧ (∃ b1 o1, ∀ (w : World) (ex : Nat → Prop), Sp w ex I A b.lows.length 4 b1 o1 (sc b.lows)) ∧ (∃ b1 o1, ∀ (w : World) (ex : Nat → Prop), Sp w ex I B b.highs.length 4 b1 o1 (sc b.highs)) ∧ Mem w (fun b => b = bp) w' (I ++ [(bp, .cells [.int .u64 s])])
set_option maxRecDepth 100000 in
set_option maxHeartbeats 1000000 in
theorem boxOf_any (s : Int) (bp : Nat) (nlo nhi wide : Int) (w : World) (hlo : 0 ≤ nlo ∧ nlo ≤ 40) (hhi : 0 ≤ nhi ∧ nhi ≤ 40) (hw : 0 ≤ wide ∧ wide ≤ 40) (hp : Bk w bp #[.int .u64 s]) (hs : u64ok s) :
   Calls Tryz.prog 8 #[Zj bp, Zi nlo, Zi nhi, Zi wide] w (BoxOfPost bp nlo nhi w) := by
 refine Zpx (fun b => b = bp) Tryz.func8 rfl 115 rfl [Zj bp, Zi nlo, Zi nhi, Zi wide] rfl rfl (Mem.initEx (p := .cells [.int .u64 s]) hp) ?_
 intro ac wc T M
 refine Zsr ?_
 refine Zl2 ?_
 refine Zoa M T rfl rfl rfl rfl ?_; clear M T; intro g1 wc ac M T
 refine Zln ?_
 refine Zsr ?_
 refine lq T (Zrm rfl (T.e 1 rfl)) ?_; clear T ac; intro ac T
 refine Zl2 ?_
 refine Zoc (first := []) (cap := []) T rfl rfl rfl rfl evf (.cons (T.e 0 rfl) (.cons evc .nil)) Tryz.func34 rfl rfl ?_
 refine Calls.mono (lawOf_any _ bp 3 _ (by omega) (M.nth 1 rfl) hs) ?_
 clear T; rintro e wc ⟨lu1, su1, hlu1, hsu1, rfl, hgr, hbk⟩ ac T
 replace M := M.callC (cs' := [.int .u64 su1]) (.tail .head) hgr hbk
 clear hgr hbk
 have hlfu1 := hlu1.first
 have hlsu1 := hlu1.step
 have hlpu1 := hlu1.span
 have hlqu1 := hlu1.press
 have hmdu1 := mostD_bd 3
 refine lq T (Zrm rfl (T.e 3 rfl)) ?_; clear T ac; intro ac T
 refine Zl2 ?_
 refine Zoc (first := []) (cap := []) T rfl rfl rfl rfl evf (.cons (T.e 0 rfl) (.cons evc .nil)) Tryz.func35 rfl rfl ?_
 refine Calls.mono (upto_any _ bp 3 _ (by omega) (by omega) (M.nth 1 rfl) hsu1) ?_
 clear T; rintro e wc ⟨xu2, su2, hxu2, hsu2, rfl, hgr, hbk⟩ ac T
 replace M := M.callC (cs' := [.int .u64 su2]) (.tail .head) hgr hbk
 clear hgr hbk
 have hst := step_bd (notes := 3) (k := xu2) hlu1.step (by omega)
 refine lq T (Zrm rfl (T.e 5 rfl)) ?_; clear T ac; intro ac T
 refine Zl2 ?_
 refine Zoc (first := []) (cap := []) T rfl rfl rfl rfl evf (.cons (T.e 0 rfl) (.cons evc .nil)) Tryz.func35 rfl rfl ?_
 refine Calls.mono (upto_any _ bp 1 _ (by omega) (by omega) (M.nth 1 rfl) hsu2) ?_
 clear T; rintro e wc ⟨xu3, su3, hxu3, hsu3, rfl, hgr, hbk⟩ ac T
 replace M := M.callC (cs' := [.int .u64 su3]) (.tail .head) hgr hbk
 clear hgr hbk
 refine lq (v := (.agg #[Zi lu1.first, Zi lu1.step, Zi lu1.span, Zi lu1.press, Zi xu2, .slice none 0 0, .slice none 0 0, Zi 0, Zi 0, Zi 0, Zi 0, Zi 0, Zi 0, Zi 0, Zi 0, Zi 0, Zi 0, Zi 0, Zi 0, Zi 0, Zi xu3])) T (rn_build rfl (.cons (T.e 4 rfl) (.cons (T.e 2 rfl) (.cons (T.e 0 rfl) .nil))) (fun _ => by kernel_rfl)) ?_; clear T ac; intro ac T
 refine Zl2 ?_
 refine Zoa M T rfl rfl rfl rfl ?_; clear M T; intro g2 wc ac M T
 refine Zl2 ?_
 refine Zos M T rfl rfl (T.e 0 rfl) (T.e 1 rfl) rfl .head rfl (by simp) rfl (by kernel_rfl) ?_; clear M T; intro wc ac M T
 replace T := T.pick [0, 8, 9, 10, 11, 12] rfl
 refine Zln ?_
 refine Zsr ?_
 refine Zg8 (v1 := (Zj g2)) (v2 := (Zj g2)) (v4 := (Zj g2)) (v5 := (.pointer (some ⟨g2, 1, none⟩))) (v7 := (.pointer (some ⟨g2, 4, none⟩))) T (Zq (Zrf (off := 0) rfl (T.e 0 rfl) (fun _ _ _ => by kernel_rfl))) rfl (Zf 0 0 rfl rfl) rfl (Zo M 0 0 rfl rfl rfl rfl) rfl (Zf 0 3 rfl rfl) rfl (Zf 1 0 rfl rfl) rfl (Zo M 0 0 rfl rfl rfl rfl) rfl (Zf 4 6 rfl rfl) rfl (Zo M 0 0 rfl rfl rfl rfl) rfl ?_; clear T ac; intro ac T
 refine Zg3 T (Zq (rn_mul rfl (T.e 2 rfl) (T.e 0 rfl) (by omega))) rfl (fun _ T => Zq (rn_add rfl (T.e 6 rfl) (T.e 0 rfl) (by omega))) rfl (Za 0 rfl rfl) rfl ?_; clear T ac; intro ac T
 replace T := T.pick [0, 11, 12, 13, 14, 15, 16] rfl
 refine Zln ?_
 refine Zsr ?_
 refine lq T (Zra rfl evc) ?_; clear T ac; intro ac T
 refine Zln ?_
 refine wp_seq ?_
 refine Zsr ?_
 refine Zg3 T (Zq (Zrm rfl (T.e 4 rfl))) rfl (Zm 6 rfl rfl) rfl (fun _ T => Zq (rn_min2 rfl (T.e 0 rfl) evc)) rfl ?_; clear T ac; intro ac T
 refine Zl2 ?_
 refine Zoc (first := []) (cap := []) T rfl rfl rfl rfl evf (.cons (T.e 2 rfl) (.cons (T.e 0 rfl) .nil)) Tryz.func35 rfl rfl ?_
 refine Calls.mono (upto_any _ bp (min nlo 4) _ (by omega) (by omega) (M.nth 2 rfl) hsu3) ?_
 clear T; rintro e wc ⟨xu4, su4, hxu4, hsu4, rfl, hgr, hbk⟩ ac T
 replace M := M.callC (cs' := [.int .u64 su4]) (.tail (.tail .head)) hgr hbk
 clear hgr hbk
 refine lq T (Zra rfl (T.e 0 rfl)) ?_; clear T ac; intro ac T
 replace T := T.pick [0, 5, 6, 7, 8, 9, 11, 12] rfl
 refine Zln ?_
 refine wp_block ?_
 refine wp_loop_n (fun mz ac wc => ∃ (i : Int) (ol : List Snd) (A3 : Option Addr) (c3 : Nat) (tn : List Int) (A4 : Option Addr) (c4 : Nat) (s : Int) (Ii Io : List (Nat × BA)), mz = i.toNat ∧ (0 ≤ i) ∧ ((ol.length : Int) + i = xu4) ∧ (tn.length = ol.length) ∧ (∀ z ∈ ol, z.good) ∧ (∀ z ∈ tn, -6 ≤ z ∧ z ≤ 6) ∧ (u64ok s) ∧ (Sl 77 4 (.slice A3 ol.length c3) ol.length (sc ol) Io) ∧ (Sl 3 1 (.slice A4 tn.length c4) tn.length (ic tn) Ii) ∧ Tm ac 115 [(0, Zj bp), (2, Zi nhi), (3, Zi wide), (8, Zj g1), (9, Zj g2), (10, Zi (lu1.first + (lu1.step * xu2))), (11, .slice A4 tn.length c4), (12, Zi i)] ∧ Mem w (fun b => b = bp) wc ((g2, .cells [Zi lu1.first, Zi lu1.step, Zi lu1.span, Zi lu1.press, Zi xu2, .slice A3 ol.length c3, .slice none 0 0, Zi 0, Zi 0, Zi 0, Zi 0, Zi 0, Zi 0, Zi 0, Zi 0, Zi 0, Zi 0, Zi 0, Zi 0, Zi 0, Zi xu3]) :: (g1, .cells [Zi 0, Zi 0, Zi 0, Zi 0, Zi 0, .slice none 0 0, .slice none 0 0, Zi 0, Zi 0, Zi 0, Zi 0, Zi 0, Zi 0, Zi 0, Zi 0, Zi 0, Zi 0, Zi 0, Zi 0, Zi 0, Zi 0]) :: (bp, .cells [.int .u64 s]) :: (Ii ++ Io))) ?_ ?_
 ·exact ⟨_, _, [], none, 0, [], none, 0, _, [], [], rfl, (by omega), (by simp), rfl, (fun z hz => by cases hz), (fun z hz => by cases hz), hsu4, (Sl.nil _ _), (Sl.nil _ _), T.pick [5, 6, 7, 4, 3, 2, 1, 0] rfl, M.mask [true, true, true] rfl⟩
 clear T M
 rintro mz ac wc ⟨i, ol, A3, c3, tn, A4, c4, s, Ii, Io, hmm1, hi, hol, htl, hgo, htn, hs, hsl, hsm, T, M⟩
 refine wp_seq ?_
 refine Zsr ?_
 refine Zg2 T (Zq (Zrm rfl (T.e 7 rfl))) rfl (fun _ T => Zq (rn_gtr rfl (T.e 0 rfl) evc)) rfl ?_; clear T ac; intro ac T
 replace T := T.pick [0, 2, 3, 4, 5, 6, 7, 8, 9] rfl
 refine Zln ?_
 refine wp_if (T.e 0 rfl) ?_ ?_
 ·intro h1
  refine Zsk ?_
  refine wp_seq ?_
  refine wp_block ?_
  refine Zsr ?_
  refine lq T (Zrm rfl (T.e 1 rfl)) ?_; clear T ac; intro ac T
  refine Zl2 ?_
  refine Zoc (first := []) (cap := []) T rfl rfl rfl rfl evf (.cons (T.e 0 rfl) (.cons evc (.cons evc .nil))) Tryz.func36 rfl rfl ?_
  refine Calls.mono (within_pot _ bp (-6) 6 _ (by omega) (by omega) (by omega) (M.nth 2 rfl) hs) ?_
  clear T; rintro e wc ⟨xu5, su5, hxu5, hsu5, rfl, hgr, hbk⟩ ac T
  replace M := M.callC (cs' := [.int .u64 su5]) (.tail (.tail .head)) hgr hbk
  clear hgr hbk
  refine lq T (Zra rfl (T.e 0 rfl)) ?_; clear T ac; intro ac T
  replace T := T.pick [0, 4, 5, 6, 7, 8, 9, 10, 11] rfl
  refine Zln ?_
  refine Zgs M (M.perm [1] rfl rfl) 15 (by kernel_rfl) rfl (by kernel_rfl) ?_
  clear M; intro wc M
  refine g_addG 5 (M.perm [0, 1, 2] rfl rfl) ?_
  refine g_addG 13 (M.perm [0, 1] rfl rfl) ?_
  refine gq (v := (.pointer (some ⟨g2, 5, none⟩))) T 0 1 rfl (fun _ _ _ _ _ => (Zrf (off := 5) rfl (T.e 5 rfl) (fun _ _ _ => by kernel_rfl))) ?_; clear T ac; intro ac T
  refine gq T 1 3 rfl (fun B w' hD hl hS => (Zro (Mem.nth (show Mem w (fun b => b = bp) w' _ from ((MA.lft hS) (hD.wait (i := 1) (m := 13) (by kernel_rfl) hl))) 0 rfl) rfl (T.e 0 rfl) rfl)) ?_; clear T ac; intro ac T
  refine gq T 2 7 rfl (fun _ _ _ _ _ => (Zrm rfl (T.e 3 rfl))) ?_; clear T ac; intro ac T
  refine gq T 3 15 rfl (fun _ _ _ _ _ => (Zrm rfl (T.e 3 rfl))) ?_; clear T ac; intro ac T
  refine gq T 4 31 rfl (fun _ _ _ _ _ => (Zrm rfl (T.e 7 rfl))) ?_; clear T ac; intro ac T
  refine gq T 8 287 rfl (fun _ _ _ _ _ => (Zrm rfl (T.e 12 rfl))) ?_; clear T ac; intro ac T
  refine gq T 9 799 rfl (fun _ _ _ _ _ => (Zrm rfl (T.e 6 rfl))) ?_; clear T ac; intro ac T
  refine g_m2 (i := 5) (j := 10) (by kernel_rfl) ?_ ?_
  ·refine gi 831 ?_; intro K hK
   refine Zoc (first := []) (cap := []) T rfl rfl rfl rfl evf (.cons (T.e 4 rfl) (.cons (T.e 3 rfl) (.cons (T.e 2 rfl) .nil))) Tryz.func37 rfl rfl ?_
   refine Calls.mono (soundOf_any _ bp xu5 wide _ (by omega) (by omega) (M.nth 2 rfl) hsu5) ?_
   clear T; rintro e wc ⟨xur8_5, sur8_5, hxur8_5, hsur8_5, rfl, hgr, hbk⟩ ac T
   replace M := M.callC (cs' := [.int .u64 sur8_5]) (.tail (.tail .head)) hgr hbk
   clear hgr hbk
   refine Zso hK _ _ (MA.mk (fun _ => M.perm [0, 1] rfl rfl) (MA.mk (fun h => (no_of (by kernel_rfl) h).elim) (M.perm [1] rfl rfl))) ?_; clear hK K
   refine g_m2 (i := 6) (j := 10) (by kernel_rfl) ?_ ?_
   ·refine gi 895 ?_; intro K hK
    refine ow_bs (e := 77) [Zi xur8_5.t0, Zi xur8_5.t1, Zi xur8_5.s0, Zi xur8_5.s1] M T rfl rfl rfl rfl (.cons (T.e 0 rfl) .nil) (fun _ => by kernel_rfl) ?_; clear M T; intro gr8_6 wc ac M T
    refine Zso hK _ _ (MA.mk (fun _ => M.perm [1, 2] rfl rfl) (MA.mk (fun h => (no_of (by kernel_rfl) h).elim) (M.perm [2] rfl rfl))) ?_; clear hK K
    refine g_m2 (i := 7) (j := 10) (by kernel_rfl) ?_ ?_
    ·refine gi 1023 ?_; intro K hK
     refine ow_app (((gr8_6, .cells [Zi xur8_5.t0, Zi xur8_5.t1, Zi xur8_5.s0, Zi xur8_5.s1]) :: (g2, .cells [Zi lu1.first, Zi lu1.step, Zi lu1.span, Zi lu1.press, Zi xu2, .slice A3 ol.length c3, .slice none 0 0, Zi 0, Zi 0, Zi 0, Zi 0, Zi 0, Zi 0, Zi 0, Zi 0, Zi 0, Zi 0, Zi 0, Zi 0, Zi 0, Zi xu3]) :: (g1, .cells [Zi 0, Zi 0, Zi 0, Zi 0, Zi 0, .slice none 0 0, .slice none 0 0, Zi 0, Zi 0, Zi 0, Zi 0, Zi 0, Zi 0, Zi 0, Zi 0, Zi 0, Zi 0, Zi 0, Zi 0, Zi 0, Zi 0]) :: (bp, .cells [.int .u64 sur8_5]) :: Ii)) Tryz.info77 hsl M (by first | rfl | simp) T rfl rfl rfl rfl Tryz.underlying24 rfl rfl rfl (by omega) (T.e 7 rfl) (T.e 0 rfl) (Zne (i := 0) rfl) rfl rfl ?_; clear M T; intro ga1 cga1 wc ac M T
     refine Zso hK _ _ (MA.mk (fun _ => M.perm [2, 3] rfl rfl) (MA.mk (fun h => (no_of (by kernel_rfl) h).elim) (M.perm [3] rfl rfl))) ?_; clear hK K
     refine gq (v := (.pointer (some ⟨g2, 5, none⟩))) T 12 5119 rfl (fun _ _ _ _ _ => (Zrf (off := 5) rfl (T.e 15 rfl) (fun _ _ _ => by kernel_rfl))) ?_; clear T ac; intro ac T
     refine gw 10 6143 ?_; intro K hK
     refine ow_bs (e := 3) [Zi xu5] M T rfl rfl rfl rfl (.cons (T.e 4 rfl) .nil) (fun _ => by kernel_rfl) ?_; clear M T; intro gr8_10 wc ac M T
     refine Zso hK _ _ (MA.mk (fun _ => M.perm [3, 4] rfl rfl) (MA.mk (fun h => (no_of (by kernel_rfl) h).elim) (M.perm [4] rfl rfl))) ?_; clear hK K
     refine gw 11 8191 ?_; intro K hK
     refine ow_app ([(gr8_10, .cells [Zi xu5]), (ga1, .row 77 4 (ol.length + 1) ((sc ol) ++ [Zi xur8_5.t0, Zi xur8_5.t1, Zi xur8_5.s0, Zi xur8_5.s1]) cga1), (gr8_6, .cells [Zi xur8_5.t0, Zi xur8_5.t1, Zi xur8_5.s0, Zi xur8_5.s1]), (g2, .cells [Zi lu1.first, Zi lu1.step, Zi lu1.span, Zi lu1.press, Zi xu2, .slice A3 ol.length c3, .slice none 0 0, Zi 0, Zi 0, Zi 0, Zi 0, Zi 0, Zi 0, Zi 0, Zi 0, Zi 0, Zi 0, Zi 0, Zi 0, Zi 0, Zi xu3]), (g1, .cells [Zi 0, Zi 0, Zi 0, Zi 0, Zi 0, .slice none 0 0, .slice none 0 0, Zi 0, Zi 0, Zi 0, Zi 0, Zi 0, Zi 0, Zi 0, Zi 0, Zi 0, Zi 0, Zi 0, Zi 0, Zi 0, Zi 0]), (bp, .cells [.int .u64 sur8_5])]) Tryz.info3 hsm M (by first | rfl | simp) T rfl rfl rfl rfl Tryz.underlying31 rfl rfl rfl (by omega) (T.e 6 rfl) (T.e 0 rfl) (Zne (i := 0) rfl) rfl rfl ?_; clear M T; intro ga2 cga2 wc ac M T
     refine Zso hK _ _ (MA.mk (fun _ => M.mask [false, false, false, false, true, true, false] rfl) (MA.mk (fun h => (no_of (by kernel_rfl) h).elim) (M.mask [false, false, false, false, false, true, false] rfl))) ?_; clear hK K
     refine gw 13 16383 ?_; intro K hK
     refine Zos M T rfl rfl (T.e 2 rfl) (T.e 3 rfl) rfl (.tail (.tail (.tail (.tail .head)))) rfl (by simp) rfl (by kernel_rfl) ?_; clear M T; intro wc ac M T
     refine Zso hK _ _ (MA.mk (fun h => (no_of (by kernel_rfl) h).elim) (MA.mk (fun h => (no_of (by kernel_rfl) h).elim) (M.mask [false, false, false, false, false, true, false] rfl))) ?_; clear hK K
     refine g_q (v := (.slice (some ⟨ga2, 0, none⟩) (tn.length + 1) cga2)) (T := T.pick [0, 1, 2, 3, 4, 5, 6, 7, 8, 9, 10, 11, 12, 13, 14, 15, 16, 17, 18, 19, 21] rfl) (i := 14) rfl (by kernel_rfl) (by kernel_rfl : (Zpb 15 16383).setIfInBounds 14 true = Zpb 15 32767) (si_and (si_G rfl) (si_and (si_G rfl) si_U)) (fun _ _ _ h => h) rfl rfl rfl rfl (fun _ _ _ _ _ => (Zra rfl (T.e 0 rfl))) ?_; clear T ac; intro ac T
     refine Zgd (by kernel_rfl) ?_
     replace T := T.pick [0, 15, 16, 17, 18, 19, 20, 21] rfl
     replace M := M.mask [true, false, true, false, true, true, true] rfl
     refine Znb ?_
     refine nm_then ?_
     refine wp_region_lit ?_
     refine Zg2 T (Zq (Zrm rfl (T.e 7 rfl))) rfl (fun _ T => Zq (rn_sub rfl (T.e 0 rfl) evc (by omega))) rfl ?_; clear T ac; intro ac T
     refine l_q (v := (Zi (i - 1))) (T.pick [0, 1, 2, 3, 4, 5, 6, 7, 8] rfl) rfl rfl rfl rfl (Zra rfl (T.e 0 rfl)) ?_; clear T ac; intro ac T
     replace T := T.pick [0, 3, 4, 5, 6, 7, 8, 9] rfl
     refine Zln ?_
     have e9a : ol.length + 1 = (ol ++ [xur8_5]).length := by simp
     have e8a : ((sc ol) ++ [Zi xur8_5.t0, Zi xur8_5.t1, Zi xur8_5.s0, Zi xur8_5.s1]) = sc (ol ++ [xur8_5]) := by rw [← sc_snoc]
     rw [e9a, e8a] at M
     (try rw [e9a] at T)
     have e9b : tn.length + 1 = (tn ++ [xu5]).length := by simp
     have e8b : ((ic tn) ++ [Zi xu5]) = ic (tn ++ [xu5]) := by rw [← ic_snoc]
     rw [e9b, e8b] at M
     (try rw [e9b] at T)
     exact ⟨_, by omega, (i - 1), (ol ++ [xur8_5]), _, _, (tn ++ [xu5]), _, _, sur8_5, [(ga2, .row 3 1 (tn ++ [xu5]).length (ic (tn ++ [xu5])) cga2)], [(ga1, .row 77 4 (ol ++ [xur8_5]).length (sc (ol ++ [xur8_5])) cga1)], rfl, (by omega), (by simp only [List.length_append, List.length_cons, List.length_nil]; omega), (by simp only [List.length_append, List.length_cons, List.length_nil]; omega), (fun z hz => by rcases List.mem_append.1 hz with h9 | h9; exact hgo z h9; simp only [List.mem_cons, List.not_mem_nil, or_false] at h9; subst h9; exact hxur8_5), (fun z hz => by rcases List.mem_append.1 hz with h9 | h9; exact htn z h9; simp only [List.mem_cons, List.not_mem_nil, or_false] at h9; subst h9; omega), hsur8_5, (Sl.row _ _ _ _ _ _), (Sl.row _ _ _ _ _ _), T.pick [2, 3, 4, 5, 6, 7, 1, 0] rfl, M.perm [2, 3, 4, 0, 1] rfl rfl⟩
    refine gi 1919 ?_; intro K hK
    refine ow_bs (e := 3) [Zi xu5] M T rfl rfl rfl rfl (.cons (T.e 2 rfl) .nil) (fun _ => by kernel_rfl) ?_; clear M T; intro gr8_10 wc ac M T
    refine Zso hK _ _ (MA.mk (fun _ => M.perm [2, 3] rfl rfl) (MA.mk (fun h => (no_of (by kernel_rfl) h).elim) (M.perm [3] rfl rfl))) ?_; clear hK K
    refine gw 7 2047 ?_; intro K hK
    refine ow_app (((gr8_10, .cells [Zi xu5]) :: (gr8_6, .cells [Zi xur8_5.t0, Zi xur8_5.t1, Zi xur8_5.s0, Zi xur8_5.s1]) :: (g2, .cells [Zi lu1.first, Zi lu1.step, Zi lu1.span, Zi lu1.press, Zi xu2, .slice A3 ol.length c3, .slice none 0 0, Zi 0, Zi 0, Zi 0, Zi 0, Zi 0, Zi 0, Zi 0, Zi 0, Zi 0, Zi 0, Zi 0, Zi 0, Zi 0, Zi xu3]) :: (g1, .cells [Zi 0, Zi 0, Zi 0, Zi 0, Zi 0, .slice none 0 0, .slice none 0 0, Zi 0, Zi 0, Zi 0, Zi 0, Zi 0, Zi 0, Zi 0, Zi 0, Zi 0, Zi 0, Zi 0, Zi 0, Zi 0, Zi 0]) :: (bp, .cells [.int .u64 sur8_5]) :: Ii)) Tryz.info77 hsl M (by first | rfl | simp) T rfl rfl rfl rfl Tryz.underlying24 rfl rfl rfl (by omega) (T.e 8 rfl) (T.e 1 rfl) (Zne (i := 1) rfl) rfl rfl ?_; clear M T; intro ga3 cga3 wc ac M T
    refine Zso hK _ _ (MA.mk (fun _ => M.perm [3, 4] rfl rfl) (MA.mk (fun h => (no_of (by kernel_rfl) h).elim) (M.perm [4] rfl rfl))) ?_; clear hK K
    refine gq (v := (.pointer (some ⟨g2, 5, none⟩))) T 12 6143 rfl (fun _ _ _ _ _ => (Zrf (off := 5) rfl (T.e 16 rfl) (fun _ _ _ => by kernel_rfl))) ?_; clear T ac; intro ac T
    refine gw 11 8191 ?_; intro K hK
    refine ow_app ([(ga3, .row 77 4 (ol.length + 1) ((sc ol) ++ [Zi xur8_5.t0, Zi xur8_5.t1, Zi xur8_5.s0, Zi xur8_5.s1]) cga3), (gr8_10, .cells [Zi xu5]), (gr8_6, .cells [Zi xur8_5.t0, Zi xur8_5.t1, Zi xur8_5.s0, Zi xur8_5.s1]), (g2, .cells [Zi lu1.first, Zi lu1.step, Zi lu1.span, Zi lu1.press, Zi xu2, .slice A3 ol.length c3, .slice none 0 0, Zi 0, Zi 0, Zi 0, Zi 0, Zi 0, Zi 0, Zi 0, Zi 0, Zi 0, Zi 0, Zi 0, Zi 0, Zi 0, Zi xu3]), (g1, .cells [Zi 0, Zi 0, Zi 0, Zi 0, Zi 0, .slice none 0 0, .slice none 0 0, Zi 0, Zi 0, Zi 0, Zi 0, Zi 0, Zi 0, Zi 0, Zi 0, Zi 0, Zi 0, Zi 0, Zi 0, Zi 0, Zi 0]), (bp, .cells [.int .u64 sur8_5])]) Tryz.info3 hsm M (by first | rfl | simp) T rfl rfl rfl rfl Tryz.underlying31 rfl rfl rfl (by omega) (T.e 6 rfl) (T.e 2 rfl) (Zne (i := 1) rfl) rfl rfl ?_; clear M T; intro ga4 cga4 wc ac M T
    refine Zso hK _ _ (MA.mk (fun _ => M.mask [false, false, false, false, true, true, false] rfl) (MA.mk (fun h => (no_of (by kernel_rfl) h).elim) (M.mask [false, false, false, false, false, true, false] rfl))) ?_; clear hK K
    refine gw 13 16383 ?_; intro K hK
    refine Zos M T rfl rfl (T.e 1 rfl) (T.e 2 rfl) rfl (.tail (.tail (.tail (.tail .head)))) rfl (by simp) rfl (by kernel_rfl) ?_; clear M T; intro wc ac M T
    refine Zso hK _ _ (MA.mk (fun h => (no_of (by kernel_rfl) h).elim) (MA.mk (fun h => (no_of (by kernel_rfl) h).elim) (M.mask [false, false, false, false, false, true, false] rfl))) ?_; clear hK K
    refine g_q (v := (.slice (some ⟨ga4, 0, none⟩) (tn.length + 1) cga4)) (T := T.pick [0, 1, 2, 3, 4, 5, 6, 7, 8, 9, 10, 11, 12, 13, 14, 15, 16, 17, 18, 19, 21] rfl) (i := 14) rfl (by kernel_rfl) (by kernel_rfl : (Zpb 15 16383).setIfInBounds 14 true = Zpb 15 32767) (si_and (si_G rfl) (si_and (si_G rfl) si_U)) (fun _ _ _ h => h) rfl rfl rfl rfl (fun _ _ _ _ _ => (Zra rfl (T.e 0 rfl))) ?_; clear T ac; intro ac T
    refine Zgd (by kernel_rfl) ?_
    replace T := T.pick [0, 15, 16, 17, 18, 19, 20, 21] rfl
    replace M := M.mask [true, true, false, false, true, true, true] rfl
    refine Znb ?_
    refine nm_then ?_
    refine wp_region_lit ?_
    refine Zg2 T (Zq (Zrm rfl (T.e 7 rfl))) rfl (fun _ T => Zq (rn_sub rfl (T.e 0 rfl) evc (by omega))) rfl ?_; clear T ac; intro ac T
    refine l_q (v := (Zi (i - 1))) (T.pick [0, 1, 2, 3, 4, 5, 6, 7, 8] rfl) rfl rfl rfl rfl (Zra rfl (T.e 0 rfl)) ?_; clear T ac; intro ac T
    replace T := T.pick [0, 3, 4, 5, 6, 7, 8, 9] rfl
    refine Zln ?_
    have e9a : ol.length + 1 = (ol ++ [xur8_5]).length := by simp
    have e8a : ((sc ol) ++ [Zi xur8_5.t0, Zi xur8_5.t1, Zi xur8_5.s0, Zi xur8_5.s1]) = sc (ol ++ [xur8_5]) := by rw [← sc_snoc]
    rw [e9a, e8a] at M
    (try rw [e9a] at T)
    have e9b : tn.length + 1 = (tn ++ [xu5]).length := by simp
    have e8b : ((ic tn) ++ [Zi xu5]) = ic (tn ++ [xu5]) := by rw [← ic_snoc]
    rw [e9b, e8b] at M
    (try rw [e9b] at T)
    exact ⟨_, by omega, (i - 1), (ol ++ [xur8_5]), _, _, (tn ++ [xu5]), _, _, sur8_5, [(ga4, .row 3 1 (tn ++ [xu5]).length (ic (tn ++ [xu5])) cga4)], [(ga3, .row 77 4 (ol ++ [xur8_5]).length (sc (ol ++ [xur8_5])) cga3)], rfl, (by omega), (by simp only [List.length_append, List.length_cons, List.length_nil]; omega), (by simp only [List.length_append, List.length_cons, List.length_nil]; omega), (fun z hz => by rcases List.mem_append.1 hz with h9 | h9; exact hgo z h9; simp only [List.mem_cons, List.not_mem_nil, or_false] at h9; subst h9; exact hxur8_5), (fun z hz => by rcases List.mem_append.1 hz with h9 | h9; exact htn z h9; simp only [List.mem_cons, List.not_mem_nil, or_false] at h9; subst h9; omega), hsur8_5, (Sl.row _ _ _ _ _ _), (Sl.row _ _ _ _ _ _), T.pick [2, 3, 4, 5, 6, 7, 1, 0] rfl, M.perm [2, 3, 4, 0, 1] rfl rfl⟩
   refine gi 1855 ?_; intro K hK
   refine ow_bs (e := 3) [Zi xu5] M T rfl rfl rfl rfl (.cons (T.e 1 rfl) .nil) (fun _ => by kernel_rfl) ?_; clear M T; intro gr8_10 wc ac M T
   refine Zso hK _ _ (MA.mk (fun _ => M.perm [1, 2] rfl rfl) (MA.mk (fun h => (no_of (by kernel_rfl) h).elim) (M.perm [2] rfl rfl))) ?_; clear hK K
   refine gw 6 1919 ?_; intro K hK
   refine ow_bs (e := 77) [Zi xur8_5.t0, Zi xur8_5.t1, Zi xur8_5.s0, Zi xur8_5.s1] M T rfl rfl rfl rfl (.cons (T.e 1 rfl) .nil) (fun _ => by kernel_rfl) ?_; clear M T; intro gr8_6 wc ac M T
   refine Zso hK _ _ (MA.mk (fun _ => M.perm [2, 3] rfl rfl) (MA.mk (fun h => (no_of (by kernel_rfl) h).elim) (M.perm [3] rfl rfl))) ?_; clear hK K
   refine gw 7 2047 ?_; intro K hK
   refine ow_app (((gr8_6, .cells [Zi xur8_5.t0, Zi xur8_5.t1, Zi xur8_5.s0, Zi xur8_5.s1]) :: (gr8_10, .cells [Zi xu5]) :: (g2, .cells [Zi lu1.first, Zi lu1.step, Zi lu1.span, Zi lu1.press, Zi xu2, .slice A3 ol.length c3, .slice none 0 0, Zi 0, Zi 0, Zi 0, Zi 0, Zi 0, Zi 0, Zi 0, Zi 0, Zi 0, Zi 0, Zi 0, Zi 0, Zi 0, Zi xu3]) :: (g1, .cells [Zi 0, Zi 0, Zi 0, Zi 0, Zi 0, .slice none 0 0, .slice none 0 0, Zi 0, Zi 0, Zi 0, Zi 0, Zi 0, Zi 0, Zi 0, Zi 0, Zi 0, Zi 0, Zi 0, Zi 0, Zi 0, Zi 0]) :: (bp, .cells [.int .u64 sur8_5]) :: Ii)) Tryz.info77 hsl M (by first | rfl | simp) T rfl rfl rfl rfl Tryz.underlying24 rfl rfl rfl (by omega) (T.e 8 rfl) (T.e 0 rfl) (Zne (i := 0) rfl) rfl rfl ?_; clear M T; intro ga5 cga5 wc ac M T
   refine Zso hK _ _ (MA.mk (fun _ => M.perm [3, 4] rfl rfl) (MA.mk (fun h => (no_of (by kernel_rfl) h).elim) (M.perm [4] rfl rfl))) ?_; clear hK K
   refine gq (v := (.pointer (some ⟨g2, 5, none⟩))) T 12 6143 rfl (fun _ _ _ _ _ => (Zrf (off := 5) rfl (T.e 16 rfl) (fun _ _ _ => by kernel_rfl))) ?_; clear T ac; intro ac T
   refine gw 11 8191 ?_; intro K hK
   refine ow_app ([(ga5, .row 77 4 (ol.length + 1) ((sc ol) ++ [Zi xur8_5.t0, Zi xur8_5.t1, Zi xur8_5.s0, Zi xur8_5.s1]) cga5), (gr8_6, .cells [Zi xur8_5.t0, Zi xur8_5.t1, Zi xur8_5.s0, Zi xur8_5.s1]), (gr8_10, .cells [Zi xu5]), (g2, .cells [Zi lu1.first, Zi lu1.step, Zi lu1.span, Zi lu1.press, Zi xu2, .slice A3 ol.length c3, .slice none 0 0, Zi 0, Zi 0, Zi 0, Zi 0, Zi 0, Zi 0, Zi 0, Zi 0, Zi 0, Zi 0, Zi 0, Zi 0, Zi 0, Zi xu3]), (g1, .cells [Zi 0, Zi 0, Zi 0, Zi 0, Zi 0, .slice none 0 0, .slice none 0 0, Zi 0, Zi 0, Zi 0, Zi 0, Zi 0, Zi 0, Zi 0, Zi 0, Zi 0, Zi 0, Zi 0, Zi 0, Zi 0, Zi 0]), (bp, .cells [.int .u64 sur8_5])]) Tryz.info3 hsm M (by first | rfl | simp) T rfl rfl rfl rfl Tryz.underlying31 rfl rfl rfl (by omega) (T.e 6 rfl) (T.e 3 rfl) (Zne (i := 2) rfl) rfl rfl ?_; clear M T; intro ga6 cga6 wc ac M T
   refine Zso hK _ _ (MA.mk (fun _ => M.mask [false, false, false, false, true, true, false] rfl) (MA.mk (fun h => (no_of (by kernel_rfl) h).elim) (M.mask [false, false, false, false, false, true, false] rfl))) ?_; clear hK K
   refine gw 13 16383 ?_; intro K hK
   refine Zos M T rfl rfl (T.e 1 rfl) (T.e 2 rfl) rfl (.tail (.tail (.tail (.tail .head)))) rfl (by simp) rfl (by kernel_rfl) ?_; clear M T; intro wc ac M T
   refine Zso hK _ _ (MA.mk (fun h => (no_of (by kernel_rfl) h).elim) (MA.mk (fun h => (no_of (by kernel_rfl) h).elim) (M.mask [false, false, false, false, false, true, false] rfl))) ?_; clear hK K
   refine g_q (v := (.slice (some ⟨ga6, 0, none⟩) (tn.length + 1) cga6)) (T := T.pick [0, 1, 2, 3, 4, 5, 6, 7, 8, 9, 10, 11, 12, 13, 14, 15, 16, 17, 18, 19, 21] rfl) (i := 14) rfl (by kernel_rfl) (by kernel_rfl : (Zpb 15 16383).setIfInBounds 14 true = Zpb 15 32767) (si_and (si_G rfl) (si_and (si_G rfl) si_U)) (fun _ _ _ h => h) rfl rfl rfl rfl (fun _ _ _ _ _ => (Zra rfl (T.e 0 rfl))) ?_; clear T ac; intro ac T
   refine Zgd (by kernel_rfl) ?_
   replace T := T.pick [0, 15, 16, 17, 18, 19, 20, 21] rfl
   replace M := M.mask [true, true, false, false, true, true, true] rfl
   refine Znb ?_
   refine nm_then ?_
   refine wp_region_lit ?_
   refine Zg2 T (Zq (Zrm rfl (T.e 7 rfl))) rfl (fun _ T => Zq (rn_sub rfl (T.e 0 rfl) evc (by omega))) rfl ?_; clear T ac; intro ac T
   refine l_q (v := (Zi (i - 1))) (T.pick [0, 1, 2, 3, 4, 5, 6, 7, 8] rfl) rfl rfl rfl rfl (Zra rfl (T.e 0 rfl)) ?_; clear T ac; intro ac T
   replace T := T.pick [0, 3, 4, 5, 6, 7, 8, 9] rfl
   refine Zln ?_
   have e9a : ol.length + 1 = (ol ++ [xur8_5]).length := by simp
   have e8a : ((sc ol) ++ [Zi xur8_5.t0, Zi xur8_5.t1, Zi xur8_5.s0, Zi xur8_5.s1]) = sc (ol ++ [xur8_5]) := by rw [← sc_snoc]
   rw [e9a, e8a] at M
   (try rw [e9a] at T)
   have e9b : tn.length + 1 = (tn ++ [xu5]).length := by simp
   have e8b : ((ic tn) ++ [Zi xu5]) = ic (tn ++ [xu5]) := by rw [← ic_snoc]
   rw [e9b, e8b] at M
   (try rw [e9b] at T)
   exact ⟨_, by omega, (i - 1), (ol ++ [xur8_5]), _, _, (tn ++ [xu5]), _, _, sur8_5, [(ga6, .row 3 1 (tn ++ [xu5]).length (ic (tn ++ [xu5])) cga6)], [(ga5, .row 77 4 (ol ++ [xur8_5]).length (sc (ol ++ [xur8_5])) cga5)], rfl, (by omega), (by simp only [List.length_append, List.length_cons, List.length_nil]; omega), (by simp only [List.length_append, List.length_cons, List.length_nil]; omega), (fun z hz => by rcases List.mem_append.1 hz with h9 | h9; exact hgo z h9; simp only [List.mem_cons, List.not_mem_nil, or_false] at h9; subst h9; exact hxur8_5), (fun z hz => by rcases List.mem_append.1 hz with h9 | h9; exact htn z h9; simp only [List.mem_cons, List.not_mem_nil, or_false] at h9; subst h9; omega), hsur8_5, (Sl.row _ _ _ _ _ _), (Sl.row _ _ _ _ _ _), T.pick [2, 3, 4, 5, 6, 7, 1, 0] rfl, M.perm [2, 3, 4, 0, 1] rfl rfl⟩
  refine gi 1823 ?_; intro K hK
  refine ow_bs (e := 3) [Zi xu5] M T rfl rfl rfl rfl (.cons (T.e 0 rfl) .nil) (fun _ => by kernel_rfl) ?_; clear M T; intro gr8_10 wc ac M T
  refine Zso hK _ _ (MA.mk (fun _ => M.perm [1, 2] rfl rfl) (MA.mk (fun _ => M.perm [1, 2, 3] rfl rfl) (M.perm [2] rfl rfl))) ?_; clear hK K
  refine gw 5 1855 ?_; intro K hK
  refine Zoc (first := []) (cap := []) T rfl rfl rfl rfl evf (.cons (T.e 5 rfl) (.cons (T.e 4 rfl) (.cons (T.e 3 rfl) .nil))) Tryz.func37 rfl rfl ?_
  refine Calls.mono (soundOf_any _ bp xu5 wide _ (by omega) (by omega) (M.nth 3 rfl) hsu5) ?_
  clear T; rintro e wc ⟨xur8_5, sur8_5, hxur8_5, hsur8_5, rfl, hgr, hbk⟩ ac T
  replace M := M.callC (cs' := [.int .u64 sur8_5]) (.tail (.tail (.tail .head))) hgr hbk
  clear hgr hbk
  refine Zso hK _ _ (MA.mk (fun _ => M.perm [1, 2] rfl rfl) (MA.mk (fun h => (no_of (by kernel_rfl) h).elim) (M.perm [2] rfl rfl))) ?_; clear hK K
  refine gw 6 1919 ?_; intro K hK
  refine ow_bs (e := 77) [Zi xur8_5.t0, Zi xur8_5.t1, Zi xur8_5.s0, Zi xur8_5.s1] M T rfl rfl rfl rfl (.cons (T.e 0 rfl) .nil) (fun _ => by kernel_rfl) ?_; clear M T; intro gr8_6 wc ac M T
  refine Zso hK _ _ (MA.mk (fun _ => M.perm [2, 3] rfl rfl) (MA.mk (fun h => (no_of (by kernel_rfl) h).elim) (M.perm [3] rfl rfl))) ?_; clear hK K
  refine gw 7 2047 ?_; intro K hK
  refine ow_app (((gr8_6, .cells [Zi xur8_5.t0, Zi xur8_5.t1, Zi xur8_5.s0, Zi xur8_5.s1]) :: (gr8_10, .cells [Zi xu5]) :: (g2, .cells [Zi lu1.first, Zi lu1.step, Zi lu1.span, Zi lu1.press, Zi xu2, .slice A3 ol.length c3, .slice none 0 0, Zi 0, Zi 0, Zi 0, Zi 0, Zi 0, Zi 0, Zi 0, Zi 0, Zi 0, Zi 0, Zi 0, Zi 0, Zi 0, Zi xu3]) :: (g1, .cells [Zi 0, Zi 0, Zi 0, Zi 0, Zi 0, .slice none 0 0, .slice none 0 0, Zi 0, Zi 0, Zi 0, Zi 0, Zi 0, Zi 0, Zi 0, Zi 0, Zi 0, Zi 0, Zi 0, Zi 0, Zi 0, Zi 0]) :: (bp, .cells [.int .u64 sur8_5]) :: Ii)) Tryz.info77 hsl M (by first | rfl | simp) T rfl rfl rfl rfl Tryz.underlying24 rfl rfl rfl (by omega) (T.e 8 rfl) (T.e 0 rfl) (Zne (i := 0) rfl) rfl rfl ?_; clear M T; intro ga7 cga7 wc ac M T
  refine Zso hK _ _ (MA.mk (fun _ => M.perm [3, 4] rfl rfl) (MA.mk (fun h => (no_of (by kernel_rfl) h).elim) (M.perm [4] rfl rfl))) ?_; clear hK K
  refine gq (v := (.pointer (some ⟨g2, 5, none⟩))) T 12 6143 rfl (fun _ _ _ _ _ => (Zrf (off := 5) rfl (T.e 16 rfl) (fun _ _ _ => by kernel_rfl))) ?_; clear T ac; intro ac T
  refine gw 11 8191 ?_; intro K hK
  refine ow_app ([(ga7, .row 77 4 (ol.length + 1) ((sc ol) ++ [Zi xur8_5.t0, Zi xur8_5.t1, Zi xur8_5.s0, Zi xur8_5.s1]) cga7), (gr8_6, .cells [Zi xur8_5.t0, Zi xur8_5.t1, Zi xur8_5.s0, Zi xur8_5.s1]), (gr8_10, .cells [Zi xu5]), (g2, .cells [Zi lu1.first, Zi lu1.step, Zi lu1.span, Zi lu1.press, Zi xu2, .slice A3 ol.length c3, .slice none 0 0, Zi 0, Zi 0, Zi 0, Zi 0, Zi 0, Zi 0, Zi 0, Zi 0, Zi 0, Zi 0, Zi 0, Zi 0, Zi 0, Zi xu3]), (g1, .cells [Zi 0, Zi 0, Zi 0, Zi 0, Zi 0, .slice none 0 0, .slice none 0 0, Zi 0, Zi 0, Zi 0, Zi 0, Zi 0, Zi 0, Zi 0, Zi 0, Zi 0, Zi 0, Zi 0, Zi 0, Zi 0, Zi 0]), (bp, .cells [.int .u64 sur8_5])]) Tryz.info3 hsm M (by first | rfl | simp) T rfl rfl rfl rfl Tryz.underlying31 rfl rfl rfl (by omega) (T.e 6 rfl) (T.e 4 rfl) (Zne (i := 2) rfl) rfl rfl ?_; clear M T; intro ga8 cga8 wc ac M T
  refine Zso hK _ _ (MA.mk (fun _ => M.mask [false, false, false, false, true, true, false] rfl) (MA.mk (fun h => (no_of (by kernel_rfl) h).elim) (M.mask [false, false, false, false, false, true, false] rfl))) ?_; clear hK K
  refine gw 13 16383 ?_; intro K hK
  refine Zos M T rfl rfl (T.e 1 rfl) (T.e 2 rfl) rfl (.tail (.tail (.tail (.tail .head)))) rfl (by simp) rfl (by kernel_rfl) ?_; clear M T; intro wc ac M T
  refine Zso hK _ _ (MA.mk (fun h => (no_of (by kernel_rfl) h).elim) (MA.mk (fun h => (no_of (by kernel_rfl) h).elim) (M.mask [false, false, false, false, false, true, false] rfl))) ?_; clear hK K
  refine g_q (v := (.slice (some ⟨ga8, 0, none⟩) (tn.length + 1) cga8)) (T := T.pick [0, 1, 2, 3, 4, 5, 6, 7, 8, 9, 10, 11, 12, 13, 14, 15, 16, 17, 18, 19, 21] rfl) (i := 14) rfl (by kernel_rfl) (by kernel_rfl : (Zpb 15 16383).setIfInBounds 14 true = Zpb 15 32767) (si_and (si_G rfl) (si_and (si_G rfl) si_U)) (fun _ _ _ h => h) rfl rfl rfl rfl (fun _ _ _ _ _ => (Zra rfl (T.e 0 rfl))) ?_; clear T ac; intro ac T
  refine Zgd (by kernel_rfl) ?_
  replace T := T.pick [0, 15, 16, 17, 18, 19, 20, 21] rfl
  replace M := M.mask [true, true, false, false, true, true, true] rfl
  refine Znb ?_
  refine nm_then ?_
  refine wp_region_lit ?_
  refine Zg2 T (Zq (Zrm rfl (T.e 7 rfl))) rfl (fun _ T => Zq (rn_sub rfl (T.e 0 rfl) evc (by omega))) rfl ?_; clear T ac; intro ac T
  refine l_q (v := (Zi (i - 1))) (T.pick [0, 1, 2, 3, 4, 5, 6, 7, 8] rfl) rfl rfl rfl rfl (Zra rfl (T.e 0 rfl)) ?_; clear T ac; intro ac T
  replace T := T.pick [0, 3, 4, 5, 6, 7, 8, 9] rfl
  refine Zln ?_
  have e9a : ol.length + 1 = (ol ++ [xur8_5]).length := by simp
  have e8a : ((sc ol) ++ [Zi xur8_5.t0, Zi xur8_5.t1, Zi xur8_5.s0, Zi xur8_5.s1]) = sc (ol ++ [xur8_5]) := by rw [← sc_snoc]
  rw [e9a, e8a] at M
  (try rw [e9a] at T)
  have e9b : tn.length + 1 = (tn ++ [xu5]).length := by simp
  have e8b : ((ic tn) ++ [Zi xu5]) = ic (tn ++ [xu5]) := by rw [← ic_snoc]
  rw [e9b, e8b] at M
  (try rw [e9b] at T)
  exact ⟨_, by omega, (i - 1), (ol ++ [xur8_5]), _, _, (tn ++ [xu5]), _, _, sur8_5, [(ga8, .row 3 1 (tn ++ [xu5]).length (ic (tn ++ [xu5])) cga8)], [(ga7, .row 77 4 (ol ++ [xur8_5]).length (sc (ol ++ [xur8_5])) cga7)], rfl, (by omega), (by simp only [List.length_append, List.length_cons, List.length_nil]; omega), (by simp only [List.length_append, List.length_cons, List.length_nil]; omega), (fun z hz => by rcases List.mem_append.1 hz with h9 | h9; exact hgo z h9; simp only [List.mem_cons, List.not_mem_nil, or_false] at h9; subst h9; exact hxur8_5), (fun z hz => by rcases List.mem_append.1 hz with h9 | h9; exact htn z h9; simp only [List.mem_cons, List.not_mem_nil, or_false] at h9; subst h9; omega), hsur8_5, (Sl.row _ _ _ _ _ _), (Sl.row _ _ _ _ _ _), T.pick [2, 3, 4, 5, 6, 7, 1, 0] rfl, M.perm [2, 3, 4, 0, 1] rfl rfl⟩
 intro h1
 refine wp_exit ?_
 refine Zet ?_
 refine Zet ?_
 refine ex_hit ?_
 refine Zns ?_
 refine Zsr ?_
 refine Zg3 T (Zq (Zrm rfl (T.e 1 rfl))) rfl (Zm 3 rfl rfl) rfl (fun _ T => Zq (rn_min2 rfl (T.e 0 rfl) evc)) rfl ?_; clear T ac; intro ac T
 refine Zl2 ?_
 refine Zoc (first := []) (cap := []) T rfl rfl rfl rfl evf (.cons (T.e 2 rfl) (.cons (T.e 0 rfl) .nil)) Tryz.func35 rfl rfl ?_
 refine Calls.mono (upto_any _ bp (min nhi 5) _ (by omega) (by omega) (M.nth 2 rfl) hs) ?_
 clear T; rintro e wc ⟨xu6, su6, hxu6, hsu6, rfl, hgr, hbk⟩ ac T
 replace M := M.callC (cs' := [.int .u64 su6]) (.tail (.tail .head)) hgr hbk
 clear hgr hbk
 refine lq T (Zra rfl (T.e 0 rfl)) ?_; clear T ac; intro ac T
 replace T := T.pick [0, 6, 8, 9, 10, 11, 12] rfl
 refine Zln ?_
 refine wp_block ?_
 obtain ⟨bt, ot, St0⟩ := hsm.spV (by rw [ic_length]; omega)
 have St := St0 w (fun b => b = bp)
 refine wp_loop_n (fun mz ac wc => ∃ (q : Int) (oh : List Snd) (A5 : Option Addr) (c5 : Nat) (s : Int) (Ih : List (Nat × BA)), mz = q.toNat ∧ (0 ≤ q) ∧ ((oh.length : Int) + q = xu6) ∧ (∀ z ∈ oh, z.good) ∧ (u64ok s) ∧ (Sl 77 4 (.slice A5 oh.length c5) oh.length (sc oh) Ih) ∧ Tm ac 115 [(0, Zj bp), (3, Zi wide), (8, Zj g1), (9, Zj g2), (10, Zi (lu1.first + (lu1.step * xu2))), (11, .slice A4 tn.length c4), (14, Zi q)] ∧ Mem w (fun b => b = bp) wc ((g2, .cells [Zi lu1.first, Zi lu1.step, Zi lu1.span, Zi lu1.press, Zi xu2, .slice A3 ol.length c3, .slice A5 oh.length c5, Zi 0, Zi 0, Zi 0, Zi 0, Zi 0, Zi 0, Zi 0, Zi 0, Zi 0, Zi 0, Zi 0, Zi 0, Zi 0, Zi xu3]) :: (g1, .cells [Zi 0, Zi 0, Zi 0, Zi 0, Zi 0, .slice none 0 0, .slice none 0 0, Zi 0, Zi 0, Zi 0, Zi 0, Zi 0, Zi 0, Zi 0, Zi 0, Zi 0, Zi 0, Zi 0, Zi 0, Zi 0, Zi 0]) :: (bp, .cells [.int .u64 s]) :: (Ii ++ Io ++ Ih))) ?_ ?_
 ·exact ⟨_, _, [], none, 0, _, [], rfl, (by omega), (by simp), (fun z hz => by cases hz), hsu6, (Sl.nil _ _), T.pick [1, 2, 3, 4, 5, 6, 0] rfl, (by simp only [List.append_nil]; exact M)⟩
 clear T M
 rintro mz ac wc ⟨q, oh, A5, c5, s, Ih, hmm2, hi2, hoh, hgh, hs2, hsh, T, M⟩
 refine wp_seq ?_
 refine Zsr ?_
 refine Zg2 T (Zq (Zrm rfl (T.e 6 rfl))) rfl (fun _ T => Zq (rn_gtr rfl (T.e 0 rfl) evc)) rfl ?_; clear T ac; intro ac T
 replace T := T.pick [0, 2, 3, 4, 5, 6, 7, 8] rfl
 refine Zln ?_
 refine wp_if (T.e 0 rfl) ?_ ?_
 ·intro h2
  refine Zsk ?_
  refine wp_seq ?_
  refine wp_block ?_
  refine Zsr ?_
  refine lq T (Zrm rfl (T.e 1 rfl)) ?_; clear T ac; intro ac T
  refine Zl2 ?_
  refine Zoc (first := []) (cap := []) T rfl rfl rfl rfl evf (.cons (T.e 0 rfl) (.cons evc (.cons evc .nil))) Tryz.func36 rfl rfl ?_
  refine Calls.mono (within_pot _ bp (-5) 5 _ (by omega) (by omega) (by omega) (M.nth 2 rfl) hs2) ?_
  clear T; rintro e wc ⟨xu7, su7, hxu7, hsu7, rfl, hgr, hbk⟩ ac T
  replace M := M.callC (cs' := [.int .u64 su7]) (.tail (.tail .head)) hgr hbk
  clear hgr hbk
  refine lq T (Zra rfl (T.e 0 rfl)) ?_; clear T ac; intro ac T
  replace T := T.pick [0, 4, 5, 6, 7, 8, 9, 10] rfl
  refine Zln ?_
  refine wp_seq ?_
  refine Zsr ?_
  refine Zg3 T (Zq (Zrm rfl (T.e 6 rfl))) rfl (Zl Tryz.underlying31 0 rfl rfl) rfl (fun _ T => Zq (rn_gtr rfl (T.e 0 rfl) evc)) rfl ?_; clear T ac; intro ac T
  replace T := T.pick [0, 3, 4, 5, 6, 7, 8, 9, 10] rfl
  refine Zln ?_
  refine wp_if (T.e 0 rfl) ?_ ?_
  ·intro h3
   refine Zgs M (M.mask [true, true, false] rfl) 21 (by kernel_rfl) rfl (by kernel_rfl) ?_
   clear M; intro wc M
   refine g_addG 5 M ?_
   refine gq T 0 1 rfl (fun _ _ _ _ _ => (Zrm rfl (T.e 7 rfl))) ?_; clear T ac; intro ac T
   refine gq T 1 3 rfl (fun _ _ _ _ _ => (Zrm rfl (T.e 3 rfl))) ?_; clear T ac; intro ac T
   refine gq T 2 7 rfl (fun _ _ _ _ _ => (Zrm rfl (T.e 9 rfl))) ?_; clear T ac; intro ac T
   refine gq T 3 15 rfl (fun _ _ _ _ _ => (Zrl rfl Tryz.underlying31 (T.e 0 rfl))) ?_; clear T ac; intro ac T
   refine gq T 4 31 rfl (fun _ _ _ _ _ => (rn_sub rfl (T.e 0 rfl) evc (by omega))) ?_; clear T ac; intro ac T
   refine gq T 8 287 rfl (fun _ _ _ _ _ => (Zrm rfl (T.e 7 rfl))) ?_; clear T ac; intro ac T
   refine gq (v := (Zj g2)) T 9 799 rfl (fun _ _ _ _ _ => (Zrf (off := 0) rfl (T.e 11 rfl) (fun _ _ _ => by kernel_rfl))) ?_; clear T ac; intro ac T
   refine gq (v := (.pointer (some ⟨g2, 2, none⟩))) T 10 1823 rfl (fun _ _ _ _ _ => (Zrf (off := 2) rfl (T.e 0 rfl) (fun _ _ _ => by kernel_rfl))) ?_; clear T ac; intro ac T
   refine gq T 11 3871 rfl (fun B w' hD hl hS => (Zro (Mem.nth (show Mem w (fun b => b = bp) w' _ from (MA.rgt hS)) 0 rfl) rfl (T.e 0 rfl) rfl)) ?_; clear T ac; intro ac T
   refine gq T 12 7967 rfl (fun _ _ _ _ _ => (rn_neg rfl (T.e 0 rfl) (by omega))) ?_; clear T ac; intro ac T
   refine gq T 13 16159 rfl (fun _ _ _ _ _ => (rn_sub rfl (T.e 0 rfl) evc (by omega))) ?_; clear T ac; intro ac T
   refine gq (v := (Zj g2)) T 14 32543 rfl (fun _ _ _ _ _ => (Zrf (off := 0) rfl (T.e 16 rfl) (fun _ _ _ => by kernel_rfl))) ?_; clear T ac; intro ac T
   refine gq (v := (.pointer (some ⟨g2, 2, none⟩))) T 15 65311 rfl (fun _ _ _ _ _ => (Zrf (off := 2) rfl (T.e 0 rfl) (fun _ _ _ => by kernel_rfl))) ?_; clear T ac; intro ac T
   refine gq T 16 130847 rfl (fun B w' hD hl hS => (Zro (Mem.nth (show Mem w (fun b => b = bp) w' _ from (MA.rgt hS)) 0 rfl) rfl (T.e 0 rfl) rfl)) ?_; clear T ac; intro ac T
   refine gq T 17 261919 rfl (fun _ _ _ _ _ => (rn_add rfl (T.e 0 rfl) evc (by omega))) ?_; clear T ac; intro ac T
   refine gw 5 261951 ?_; intro K hK
   refine Zoc (first := []) (cap := []) T rfl rfl rfl rfl evf (.cons (T.e 13 rfl) (.cons (T.e 10 rfl) .nil)) Tryz.func35 rfl rfl ?_
   refine Calls.mono (upto_any _ bp (((tn.length : Nat) : Int) - 1) _ (by omega) (by omega) (M.nth 2 rfl) hsu7) ?_
   clear T; rintro e wc ⟨xu8, su8, hxu8, hsu8, rfl, hgr, hbk⟩ ac T
   replace M := M.callC (cs' := [.int .u64 su8]) (.tail (.tail .head)) hgr hbk
   clear hgr hbk
   obtain ⟨kuu8, hkuu8⟩ : ∃ k : Nat, xu8 = (k : Int) := ⟨xu8.toNat, by omega⟩
   obtain ⟨ntu8, hntu8, -⟩ := ic_next (l := tn) (k := kuu8) (by omega)
   have hntbu8 := htn _ (List.mem_of_getElem? hntu8)
   refine Zso hK _ _ (MA.mk (fun h => (no_of (by kernel_rfl) h).elim) (M.mask [true, true, false] rfl)) ?_; clear hK K
   refine g_addG 18 M ?_
   refine gq T 6 262015 rfl (fun _ _ _ _ _ => (Zri (size := 1) kuu8 rfl (T.e 15 rfl) (T.e 0 rfl) ⟨_, Tryz.underlying31, by kernel_rfl⟩ hkuu8 (by omega) (St.at0 (by omega)))) ?_; clear T ac; intro ac T
   refine gq T 7 262143 rfl (fun B w' hD hl hS => (rn_cell (Sp.ic0 St (show Mem w (fun b => b = bp) w' _ from (MA.rgt (MA.rgt hS))) (.cons _ (.cons _ (subL (subL (List.Sublist.refl _))))) hntu8) rfl (T.e 0 rfl))) ?_; clear T ac; intro ac T
   refine gw 18 524287 ?_; intro K hK
   refine Zoc (first := []) (cap := []) T rfl rfl rfl rfl evf (.cons (T.e 12 rfl) (.cons (T.e 7 rfl) (.cons (T.e 3 rfl) .nil))) Tryz.func36 rfl rfl ?_
   refine Calls.mono (within_pot _ bp ((-lu1.span) - 3) (lu1.span + 3) _ (by omega) (by omega) (by omega) (M.nth 2 rfl) hsu8) ?_
   clear T; rintro e wc ⟨xu9, su9, hxu9, hsu9, rfl, hgr, hbk⟩ ac T
   replace M := M.callC (cs' := [.int .u64 su9]) (.tail (.tail .head)) hgr hbk
   clear hgr hbk
   refine Zso hK _ _ (MA.mk (fun h => (no_of (by kernel_rfl) h).elim) (MA.mk (fun h => (no_of (by kernel_rfl) h).elim) (M.mask [true, true, false] rfl))) ?_; clear hK K
   refine gq T 19 1048575 rfl (fun _ _ _ _ _ => (rn_add rfl (T.e 1 rfl) (T.e 0 rfl) (by omega))) ?_; clear T ac; intro ac T
   refine g_q (v := (Zi (ntu8 + xu9))) (T := T.pick [0, 1, 2, 3, 4, 5, 6, 7, 8, 9, 10, 11, 12, 13, 14, 15, 16, 17, 18, 19, 20, 22, 23, 24, 25, 26, 27, 28] rfl) (i := 20) rfl (by kernel_rfl) (by kernel_rfl : (Zpb 21 1048575).setIfInBounds 20 true = Zpb 21 2097151) (si_and (si_G rfl) (si_and (si_G rfl) si_U)) (fun _ _ _ h => h) rfl rfl rfl rfl (fun _ _ _ _ _ => (Zra rfl (T.e 0 rfl))) ?_; clear T ac; intro ac T
   refine Zgd (by kernel_rfl) ?_
   replace T := T.pick [0, 22, 23, 24, 25, 26, 27, 28] rfl
   refine nm_then ?_
   refine Zgs M (M.perm [1] rfl rfl) 12 (by kernel_rfl) rfl (by kernel_rfl) ?_
   clear M; intro wc M
   refine g_addG 7 (M.perm [0, 1, 2] rfl rfl) ?_
   refine g_addG 11 (M.perm [0, 1] rfl rfl) ?_
   refine gq (v := (.pointer (some ⟨g2, 6, none⟩))) T 0 1 rfl (fun _ _ _ _ _ => (Zrf (off := 6) rfl (T.e 4 rfl) (fun _ _ _ => by kernel_rfl))) ?_; clear T ac; intro ac T
   refine gq T 1 3 rfl (fun B w' hD hl hS => (Zro (Mem.nth (show Mem w (fun b => b = bp) w' _ from ((MA.lft hS) (hD.wait (i := 1) (m := 11) (by kernel_rfl) hl))) 0 rfl) rfl (T.e 0 rfl) rfl)) ?_; clear T ac; intro ac T
   refine gq T 2 7 rfl (fun _ _ _ _ _ => (Zrm rfl (T.e 3 rfl))) ?_; clear T ac; intro ac T
   refine gq T 3 15 rfl (fun _ _ _ _ _ => (Zrm rfl (T.e 3 rfl))) ?_; clear T ac; intro ac T
   refine gq T 4 31 rfl (fun _ _ _ _ _ => (Zrm rfl (T.e 9 rfl))) ?_; clear T ac; intro ac T
   refine gq T 5 63 rfl (fun _ _ _ _ _ => (rn_add rfl (T.e 1 rfl) (T.e 0 rfl) (by omega))) ?_; clear T ac; intro ac T
   refine gq T 6 127 rfl (fun _ _ _ _ _ => (Zrm rfl (T.e 8 rfl))) ?_; clear T ac; intro ac T
   refine gw 7 255 ?_; intro K hK
   refine Zoc (first := []) (cap := []) T rfl rfl rfl rfl evf (.cons (T.e 4 rfl) (.cons (T.e 1 rfl) (.cons (T.e 0 rfl) .nil))) Tryz.func37 rfl rfl ?_
   refine Calls.mono (soundOf_any _ bp ((ntu8 + xu9) + (lu1.first + (lu1.step * xu2))) wide _ (by omega) (by omega) (M.nth 2 rfl) hsu9) ?_
   clear T; rintro e wc ⟨xu10, su10, hxu10, hsu10, rfl, hgr, hbk⟩ ac T
   replace M := M.callC (cs' := [.int .u64 su10]) (.tail (.tail .head)) hgr hbk
   clear hgr hbk
   refine Zso hK _ _ (MA.mk (fun _ => M.perm [0, 1] rfl rfl) (MA.mk (fun h => (no_of (by kernel_rfl) h).elim) (M.perm [1] rfl rfl))) ?_; clear hK K
   refine gw 8 511 ?_; intro K hK
   refine ow_bs (e := 77) [Zi xu10.t0, Zi xu10.t1, Zi xu10.s0, Zi xu10.s1] M T rfl rfl rfl rfl (.cons (T.e 0 rfl) .nil) (fun _ => by kernel_rfl) ?_; clear M T; intro g3 wc ac M T
   refine Zso hK _ _ (MA.mk (fun _ => M.perm [1, 2] rfl rfl) (MA.mk (fun h => (no_of (by kernel_rfl) h).elim) (M.perm [2] rfl rfl))) ?_; clear hK K
   refine gw 9 1023 ?_; intro K hK
   refine ow_app (((g3, .cells [Zi xu10.t0, Zi xu10.t1, Zi xu10.s0, Zi xu10.s1]) :: (g2, .cells [Zi lu1.first, Zi lu1.step, Zi lu1.span, Zi lu1.press, Zi xu2, .slice A3 ol.length c3, .slice A5 oh.length c5, Zi 0, Zi 0, Zi 0, Zi 0, Zi 0, Zi 0, Zi 0, Zi 0, Zi 0, Zi 0, Zi 0, Zi 0, Zi 0, Zi xu3]) :: (g1, .cells [Zi 0, Zi 0, Zi 0, Zi 0, Zi 0, .slice none 0 0, .slice none 0 0, Zi 0, Zi 0, Zi 0, Zi 0, Zi 0, Zi 0, Zi 0, Zi 0, Zi 0, Zi 0, Zi 0, Zi 0, Zi 0, Zi 0]) :: (bp, .cells [.int .u64 su10]) :: (Ii ++ Io))) Tryz.info77 hsh M (by first | rfl | simp) T rfl rfl rfl rfl Tryz.underlying24 rfl rfl rfl (by omega) (T.e 7 rfl) (T.e 0 rfl) (Zne (i := 0) rfl) rfl rfl ?_; clear M T; intro ga9 cga9 wc ac M T
   refine Zso hK _ _ (MA.mk (fun _ => M.perm [2, 3] rfl rfl) (MA.mk (fun h => (no_of (by kernel_rfl) h).elim) (M.perm [3] rfl rfl))) ?_; clear hK K
   refine gq (v := (.pointer (some ⟨g2, 6, none⟩))) T 10 2047 rfl (fun _ _ _ _ _ => (Zrf (off := 6) rfl (T.e 14 rfl) (fun _ _ _ => by kernel_rfl))) ?_; clear T ac; intro ac T
   refine gw 11 4095 ?_; intro K hK
   refine Zos M T rfl rfl (T.e 0 rfl) (T.e 1 rfl) rfl (.tail (.tail .head)) rfl (by simp) rfl (by kernel_rfl) ?_; clear M T; intro wc ac M T
   refine Zso hK _ _ (MA.mk (fun h => (no_of (by kernel_rfl) h).elim) (MA.mk (fun h => (no_of (by kernel_rfl) h).elim) (M.perm [3] rfl rfl))) ?_; clear hK K
   refine Zgd (by kernel_rfl) ?_
   replace T := T.pick [12, 13, 14, 15, 16, 17, 18] rfl
   replace M := M.mask [true, false, true, true, true] rfl
   refine Znb ?_
   refine nm_then ?_
   refine wp_region_lit ?_
   refine Zg2 T (Zq (Zrm rfl (T.e 6 rfl))) rfl (fun _ T => Zq (rn_sub rfl (T.e 0 rfl) evc (by omega))) rfl ?_; clear T ac; intro ac T
   refine l_q (v := (Zi (q - 1))) (T.pick [0, 1, 2, 3, 4, 5, 6, 7] rfl) rfl rfl rfl rfl (Zra rfl (T.e 0 rfl)) ?_; clear T ac; intro ac T
   replace T := T.pick [0, 3, 4, 5, 6, 7, 8] rfl
   refine Zln ?_
   have e9a : oh.length + 1 = (oh ++ [xu10]).length := by simp
   have e8a : ((sc oh) ++ [Zi xu10.t0, Zi xu10.t1, Zi xu10.s0, Zi xu10.s1]) = sc (oh ++ [xu10]) := by rw [← sc_snoc]
   rw [e9a, e8a] at M
   (try rw [e9a] at T)
   exact ⟨_, by omega, (q - 1), (oh ++ [xu10]), _, _, su10, [(ga9, .row 77 4 (oh ++ [xu10]).length (sc (oh ++ [xu10])) cga9)], rfl, (by omega), (by simp only [List.length_append, List.length_cons, List.length_nil]; omega), (fun z hz => by rcases List.mem_append.1 hz with h9 | h9; exact hgh z h9; simp only [List.mem_cons, List.not_mem_nil, or_false] at h9; subst h9; exact hxu10), hsu10, (Sl.row _ _ _ _ _ _), T.pick [1, 2, 3, 4, 5, 6, 0] rfl, (Mem.spin [(g2, .cells [Zi lu1.first, Zi lu1.step, Zi lu1.span, Zi lu1.press, Zi xu2, .slice A3 ol.length c3, .slice (some ⟨ga9, 0, none⟩) ((oh ++ [xu10]).length) cga9, Zi 0, Zi 0, Zi 0, Zi 0, Zi 0, Zi 0, Zi 0, Zi 0, Zi 0, Zi 0, Zi 0, Zi 0, Zi 0, Zi xu3]), (g1, .cells [Zi 0, Zi 0, Zi 0, Zi 0, Zi 0, .slice none 0 0, .slice none 0 0, Zi 0, Zi 0, Zi 0, Zi 0, Zi 0, Zi 0, Zi 0, Zi 0, Zi 0, Zi 0, Zi 0, Zi 0, Zi 0, Zi 0]), (bp, .cells [.int .u64 su10])] [(ga9, .row 77 4 (oh ++ [xu10]).length (sc (oh ++ [xu10])) cga9)] (Ii ++ Io) (M.permT [1, 2, 3, 0] 4 rfl rfl rfl rfl))⟩
  intro h3
  refine Zsk ?_
  refine Zgs M (M.perm [1] rfl rfl) 12 (by kernel_rfl) rfl (by kernel_rfl) ?_
  clear M; intro wc M
  refine g_addG 7 (M.perm [0, 1, 2] rfl rfl) ?_
  refine g_addG 11 (M.perm [0, 1] rfl rfl) ?_
  refine gq (v := (.pointer (some ⟨g2, 6, none⟩))) T 0 1 rfl (fun _ _ _ _ _ => (Zrf (off := 6) rfl (T.e 5 rfl) (fun _ _ _ => by kernel_rfl))) ?_; clear T ac; intro ac T
  refine gq T 1 3 rfl (fun B w' hD hl hS => (Zro (Mem.nth (show Mem w (fun b => b = bp) w' _ from ((MA.lft hS) (hD.wait (i := 1) (m := 11) (by kernel_rfl) hl))) 0 rfl) rfl (T.e 0 rfl) rfl)) ?_; clear T ac; intro ac T
  refine gq T 2 7 rfl (fun _ _ _ _ _ => (Zrm rfl (T.e 4 rfl))) ?_; clear T ac; intro ac T
  refine gq T 3 15 rfl (fun _ _ _ _ _ => (Zrm rfl (T.e 4 rfl))) ?_; clear T ac; intro ac T
  refine gq T 4 31 rfl (fun _ _ _ _ _ => (Zrm rfl (T.e 10 rfl))) ?_; clear T ac; intro ac T
  refine gq T 5 63 rfl (fun _ _ _ _ _ => (rn_add rfl (T.e 1 rfl) (T.e 0 rfl) (by omega))) ?_; clear T ac; intro ac T
  refine gq T 6 127 rfl (fun _ _ _ _ _ => (Zrm rfl (T.e 9 rfl))) ?_; clear T ac; intro ac T
  refine gw 7 255 ?_; intro K hK
  refine Zoc (first := []) (cap := []) T rfl rfl rfl rfl evf (.cons (T.e 4 rfl) (.cons (T.e 1 rfl) (.cons (T.e 0 rfl) .nil))) Tryz.func37 rfl rfl ?_
  refine Calls.mono (soundOf_any _ bp (xu7 + (lu1.first + (lu1.step * xu2))) wide _ (by omega) (by omega) (M.nth 2 rfl) hsu7) ?_
  clear T; rintro e wc ⟨xu11, su11, hxu11, hsu11, rfl, hgr, hbk⟩ ac T
  replace M := M.callC (cs' := [.int .u64 su11]) (.tail (.tail .head)) hgr hbk
  clear hgr hbk
  refine Zso hK _ _ (MA.mk (fun _ => M.perm [0, 1] rfl rfl) (MA.mk (fun h => (no_of (by kernel_rfl) h).elim) (M.perm [1] rfl rfl))) ?_; clear hK K
  refine gw 8 511 ?_; intro K hK
  refine ow_bs (e := 77) [Zi xu11.t0, Zi xu11.t1, Zi xu11.s0, Zi xu11.s1] M T rfl rfl rfl rfl (.cons (T.e 0 rfl) .nil) (fun _ => by kernel_rfl) ?_; clear M T; intro g4 wc ac M T
  refine Zso hK _ _ (MA.mk (fun _ => M.perm [1, 2] rfl rfl) (MA.mk (fun h => (no_of (by kernel_rfl) h).elim) (M.perm [2] rfl rfl))) ?_; clear hK K
  refine gw 9 1023 ?_; intro K hK
  refine ow_app (((g4, .cells [Zi xu11.t0, Zi xu11.t1, Zi xu11.s0, Zi xu11.s1]) :: (g2, .cells [Zi lu1.first, Zi lu1.step, Zi lu1.span, Zi lu1.press, Zi xu2, .slice A3 ol.length c3, .slice A5 oh.length c5, Zi 0, Zi 0, Zi 0, Zi 0, Zi 0, Zi 0, Zi 0, Zi 0, Zi 0, Zi 0, Zi 0, Zi 0, Zi 0, Zi xu3]) :: (g1, .cells [Zi 0, Zi 0, Zi 0, Zi 0, Zi 0, .slice none 0 0, .slice none 0 0, Zi 0, Zi 0, Zi 0, Zi 0, Zi 0, Zi 0, Zi 0, Zi 0, Zi 0, Zi 0, Zi 0, Zi 0, Zi 0, Zi 0]) :: (bp, .cells [.int .u64 su11]) :: (Ii ++ Io))) Tryz.info77 hsh M (by first | rfl | simp) T rfl rfl rfl rfl Tryz.underlying24 rfl rfl rfl (by omega) (T.e 7 rfl) (T.e 0 rfl) (Zne (i := 0) rfl) rfl rfl ?_; clear M T; intro ga10 cga10 wc ac M T
  refine Zso hK _ _ (MA.mk (fun _ => M.perm [2, 3] rfl rfl) (MA.mk (fun h => (no_of (by kernel_rfl) h).elim) (M.perm [3] rfl rfl))) ?_; clear hK K
  refine gq (v := (.pointer (some ⟨g2, 6, none⟩))) T 10 2047 rfl (fun _ _ _ _ _ => (Zrf (off := 6) rfl (T.e 15 rfl) (fun _ _ _ => by kernel_rfl))) ?_; clear T ac; intro ac T
  refine gw 11 4095 ?_; intro K hK
  refine Zos M T rfl rfl (T.e 0 rfl) (T.e 1 rfl) rfl (.tail (.tail .head)) rfl (by simp) rfl (by kernel_rfl) ?_; clear M T; intro wc ac M T
  refine Zso hK _ _ (MA.mk (fun h => (no_of (by kernel_rfl) h).elim) (MA.mk (fun h => (no_of (by kernel_rfl) h).elim) (M.perm [3] rfl rfl))) ?_; clear hK K
  refine Zgd (by kernel_rfl) ?_
  replace T := T.pick [13, 14, 15, 16, 17, 18, 19] rfl
  replace M := M.mask [true, false, true, true, true] rfl
  refine Znb ?_
  refine nm_then ?_
  refine wp_region_lit ?_
  refine Zg2 T (Zq (Zrm rfl (T.e 6 rfl))) rfl (fun _ T => Zq (rn_sub rfl (T.e 0 rfl) evc (by omega))) rfl ?_; clear T ac; intro ac T
  refine l_q (v := (Zi (q - 1))) (T.pick [0, 1, 2, 3, 4, 5, 6, 7] rfl) rfl rfl rfl rfl (Zra rfl (T.e 0 rfl)) ?_; clear T ac; intro ac T
  replace T := T.pick [0, 3, 4, 5, 6, 7, 8] rfl
  refine Zln ?_
  have e9a : oh.length + 1 = (oh ++ [xu11]).length := by simp
  have e8a : ((sc oh) ++ [Zi xu11.t0, Zi xu11.t1, Zi xu11.s0, Zi xu11.s1]) = sc (oh ++ [xu11]) := by rw [← sc_snoc]
  rw [e9a, e8a] at M
  (try rw [e9a] at T)
  exact ⟨_, by omega, (q - 1), (oh ++ [xu11]), _, _, su11, [(ga10, .row 77 4 (oh ++ [xu11]).length (sc (oh ++ [xu11])) cga10)], rfl, (by omega), (by simp only [List.length_append, List.length_cons, List.length_nil]; omega), (fun z hz => by rcases List.mem_append.1 hz with h9 | h9; exact hgh z h9; simp only [List.mem_cons, List.not_mem_nil, or_false] at h9; subst h9; exact hxu11), hsu11, (Sl.row _ _ _ _ _ _), T.pick [1, 2, 3, 4, 5, 6, 0] rfl, (Mem.spin [(g2, .cells [Zi lu1.first, Zi lu1.step, Zi lu1.span, Zi lu1.press, Zi xu2, .slice A3 ol.length c3, .slice (some ⟨ga10, 0, none⟩) ((oh ++ [xu11]).length) cga10, Zi 0, Zi 0, Zi 0, Zi 0, Zi 0, Zi 0, Zi 0, Zi 0, Zi 0, Zi 0, Zi 0, Zi 0, Zi 0, Zi xu3]), (g1, .cells [Zi 0, Zi 0, Zi 0, Zi 0, Zi 0, .slice none 0 0, .slice none 0 0, Zi 0, Zi 0, Zi 0, Zi 0, Zi 0, Zi 0, Zi 0, Zi 0, Zi 0, Zi 0, Zi 0, Zi 0, Zi 0, Zi 0]), (bp, .cells [.int .u64 su11])] [(ga10, .row 77 4 (oh ++ [xu11]).length (sc (oh ++ [xu11])) cga10)] (Ii ++ Io) (M.permT [1, 2, 3, 0] 4 rfl rfl rfl rfl))⟩
 intro h2
 refine wp_exit ?_
 refine Zet ?_
 refine Zet ?_
 refine ex_hit ?_
 refine nm_then ?_
 refine Zsr ?_
 refine lq T (Zrm rfl (T.e 1 rfl)) ?_; clear T ac; intro ac T
 refine Zl2 ?_
 refine Zoc (first := []) (cap := []) T rfl rfl rfl rfl evf (.cons (T.e 0 rfl) (.cons evc (.cons evc .nil))) Tryz.func38 rfl rfl ?_
 refine Calls.mono (jobOf_any _ bp 0 1 _ (by omega) (by omega) (by omega) (by omega) (M.nth 2 rfl) hs2) ?_
 clear T; rintro e wc ⟨ju12, Au12, cu12, su12, Iu12, rfl, hmu12, hsu12, hslu12, N⟩ ac T
 obtain ⟨bu12, ou12, SVu12⟩ := hslu12.spV (rc_length _)
 have Su12 := SVu12 w (fun b => b = bp)
 replace M := (M.joinW (.tail (.tail .head)) N).swapI
 replace M := M.mask [true, true, true] rfl
 clear N hslu12
 have hgu12 := hmu12.good
 have hfewu12 := hgu12.few
 have hpu12 := hgu12.p
 have hmeu12 := hgu12.me
 refine Zl2 ?_
 refine Zoa M T rfl rfl rfl rfl ?_; clear M T; intro g5 wc ac M T
 refine Zl2 ?_
 refine Zos M T rfl rfl (T.e 0 rfl) (T.e 1 rfl) rfl .head rfl (by simp) rfl (by kernel_rfl) ?_; clear M T; intro wc ac M T
 replace T := T.pick [0, 6, 7] rfl
 refine Zln ?_
 refine wp_seq ?_
 refine Zgs M (M.mask [true, false, true, true] rfl) 14 (by kernel_rfl) rfl (by kernel_rfl) ?_
 clear M; intro wc M
 refine g_addG 9 M ?_
 refine gq (v := (Zj g5)) T 0 1 rfl (fun _ _ _ _ _ => (Zrf (off := 0) rfl (T.e 0 rfl) (fun _ _ _ => by kernel_rfl))) ?_; clear T ac; intro ac T
 refine gq (v := (.pointer (some ⟨g5, 2, none⟩))) T 1 3 rfl (fun _ _ _ _ _ => (Zrf (off := 2) rfl (T.e 0 rfl) (fun _ _ _ => by kernel_rfl))) ?_; clear T ac; intro ac T
 refine gq T 2 7 rfl (fun B w' hD hl hS => (Zrr (Mem.nth (show Mem w (fun b => b = bp) w' _ from ((MA.lft hS) (hD.wait (i := 2) (m := 9) (by kernel_rfl) hl))) 0 rfl) rfl (T.e 0 rfl) rfl)) ?_; clear T ac; intro ac T
 refine gq (v := (Zj g5)) T 3 15 rfl (fun _ _ _ _ _ => (Zrf (off := 0) rfl (T.e 3 rfl) (fun _ _ _ => by kernel_rfl))) ?_; clear T ac; intro ac T
 refine gq (v := (.pointer (some ⟨g5, 4, none⟩))) T 4 31 rfl (fun _ _ _ _ _ => (Zrf (off := 4) rfl (T.e 0 rfl) (fun _ _ _ => by kernel_rfl))) ?_; clear T ac; intro ac T
 refine gq T 5 63 rfl (fun B w' hD hl hS => (Zrr (Mem.nth (show Mem w (fun b => b = bp) w' _ from (MA.rgt hS)) 0 rfl) rfl (T.e 0 rfl) rfl)) ?_; clear T ac; intro ac T
 refine gq (v := (.pointer (some ⟨g5, 6, none⟩))) T 6 127 rfl (fun _ _ _ _ _ => (Zrf (off := 6) rfl (T.e 6 rfl) (fun _ _ _ => by kernel_rfl))) ?_; clear T ac; intro ac T
 refine gq T 7 255 rfl (fun B w' hD hl hS => (Zrr (Mem.nth (show Mem w (fun b => b = bp) w' _ from (MA.rgt hS)) 0 rfl) rfl (T.e 0 rfl) rfl)) ?_; clear T ac; intro ac T
 refine gq (v := (.pointer (some ⟨g2, 7, none⟩))) T 8 511 rfl (fun _ _ _ _ _ => (Zrf (off := 7) rfl (T.e 10 rfl) (fun _ _ _ => by kernel_rfl))) ?_; clear T ac; intro ac T
 refine gw 9 1023 ?_; intro K hK
 refine Zos M T rfl rfl (T.e 0 rfl) (T.e 6 rfl) rfl (.tail .head) rfl (by simp) rfl (by kernel_rfl) ?_; clear M T; intro wc ac M T
 refine Zso hK _ _ (MA.mk (fun h => (no_of (by kernel_rfl) h).elim) (M.mask [true, false, true, true] rfl)) ?_; clear hK K
 refine gq (v := (.pointer (some ⟨g2, 9, none⟩))) T 10 2047 rfl (fun _ _ _ _ _ => (Zrf (off := 9) rfl (T.e 11 rfl) (fun _ _ _ => by kernel_rfl))) ?_; clear T ac; intro ac T
 refine gw 11 4095 ?_; intro K hK
 refine Zos M T rfl rfl (T.e 0 rfl) (T.e 4 rfl) rfl (.tail .head) rfl (by simp) rfl (by kernel_rfl) ?_; clear M T; intro wc ac M T
 refine Zso hK _ _ (MA.mk (fun h => (no_of (by kernel_rfl) h).elim) (M.mask [true, false, true, true] rfl)) ?_; clear hK K
 refine gq (v := (.pointer (some ⟨g2, 11, none⟩))) T 12 8191 rfl (fun _ _ _ _ _ => (Zrf (off := 11) rfl (T.e 12 rfl) (fun _ _ _ => by kernel_rfl))) ?_; clear T ac; intro ac T
 refine gw 13 16383 ?_; intro K hK
 refine Zos M T rfl rfl (T.e 0 rfl) (T.e 3 rfl) rfl (.tail .head) rfl (by simp) rfl (by kernel_rfl) ?_; clear M T; intro wc ac M T
 refine Zso hK _ _ (MA.mk (fun h => (no_of (by kernel_rfl) h).elim) (M.mask [true, false, true, true] rfl)) ?_; clear hK K
 refine Zgd (by kernel_rfl) ?_
 replace T := T.pick [12, 13] rfl
 replace M := M.mask [false, true, true, true] rfl
 replace M : Mem w (fun b => b = bp) wc ((g2, .cells [Zi lu1.first, Zi lu1.step, Zi lu1.span, Zi lu1.press, Zi xu2, .slice A3 ol.length c3, .slice A5 oh.length c5, Zi ju12.t0, Zi ju12.t1, Zi ju12.r0, Zi ju12.r1, Zi ju12.u0, Zi ju12.u1, Zi ju12.d0, Zi ju12.d1, Zi ju12.a0, Zi ju12.a1, Zi ju12.b0, Zi ju12.b1, Zi ju12.le, Zi xu3]) :: (g1, .cells [Zi 0, Zi 0, Zi 0, Zi 0, Zi 0, .slice none 0 0, .slice none 0 0, Zi 0, Zi 0, Zi 0, Zi 0, Zi 0, Zi 0, Zi 0, Zi 0, Zi 0, Zi 0, Zi 0, Zi 0, Zi 0, Zi 0]) :: (bp, .cells [.int .u64 su12]) :: (Ii ++ Io ++ Ih ++ Iu12)) := M
 refine nm_then ?_
 refine Zsr ?_
 refine lq T (Zrr (Mem.nth M 0 rfl) rfl (T.e 1 rfl) rfl) ?_; clear T ac; intro ac T
 refine Zl2 ?_
 refine Zos M T rfl rfl (T.e 1 rfl) (T.e 0 rfl) rfl (.tail .head) rfl (by simp) rfl (by kernel_rfl) ?_; clear M T; intro wc ac M T
 refine wpList_nil ?_
 replace T := T.pick [1] rfl
 replace M := M.mask [false, true, true] rfl
 replace M : Mem w (fun b => b = bp) wc ((g1, .cells [Zi lu1.first, Zi lu1.step, Zi lu1.span, Zi lu1.press, Zi xu2, .slice A3 ol.length c3, .slice A5 oh.length c5, Zi ju12.t0, Zi ju12.t1, Zi ju12.r0, Zi ju12.r1, Zi ju12.u0, Zi ju12.u1, Zi ju12.d0, Zi ju12.d1, Zi ju12.a0, Zi ju12.a1, Zi ju12.b0, Zi ju12.b1, Zi ju12.le, Zi xu3]) :: (bp, .cells [.int .u64 su12]) :: (Ii ++ Io ++ Ih ++ Iu12)) := M
 refine Znr ?_
 refine rt_c M T rfl (T.e 0 rfl) (Zne (i := 0) rfl) rfl ?_
 obtain ⟨bs1, os1, hS1⟩ := hsl.spV (sc_length _)
 obtain ⟨bs2, os2, hS2⟩ := hsh.spV (sc_length _)
 have hmd := boxMade (b := ({ first := lu1.first, step := lu1.step, span := lu1.span, press := lu1.press, note := xu2, lows := ol, highs := oh, t0 := ju12.t0, t1 := ju12.t1, r0 := ju12.r0, r1 := ju12.r1, u0 := ju12.u0, u1 := ju12.u1, d0 := ju12.d0, d1 := ju12.d1, a0 := ju12.a0, a1 := ju12.a1, b0 := ju12.b0, b1 := ju12.b1, le := ju12.le, me := xu3 } : Bx)) (lo := nlo) (hi := nhi) (j := ju12) hlu1 (by dsimp only; omega) (by dsimp only; omega) (by dsimp only; omega) hgo hgh (by dsimp only; omega) hmu12 ⟨rfl, rfl, rfl, rfl, rfl, rfl, rfl, rfl, rfl, rfl, rfl, rfl, rfl⟩
 refine ⟨_, A3, c3, A5, c5, _, Io ++ Ih, rfl, hmd, hsu12, ⟨bs1, os1, fun w ex => (hS1 w ex).mono (Zsl _ _)⟩, ⟨bs2, os2, fun w ex => (hS2 w ex).mono (Zsq _ _)⟩, Mem.swapI (I := [(bp, .cells [.int .u64 su12])]) (L := Io ++ Ih) ?_⟩
 have M9 : Mem w (fun b => b = bp) wc ((bp, .cells [.int .u64 su12]) :: (Ii ++ Io ++ Ih ++ Iu12)) := M.permT [1] 2 rfl rfl rfl rfl
 refine M9.sub (.cons_cons _ ?_)
 refine List.Sublist.trans ?_ (Zsl _ _)
 rw [List.append_assoc]
 exact Zsq _ _
end Go.Proofs.YtaikhendogcflaaGreatDoor

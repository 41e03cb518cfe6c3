/-
  Walks of functions, and plain laws (texts put together). No condition.
-/
import Derived.Test.YthlpceoajhcliaaMReedAll1
import Derived.Test.YthlpceoajhcliaaMReedAll2
import Derived.Test.YthlpceoajhcliaaMReedAll3

section
/-
  law1: all truths are gone through.
-/
namespace Go.Proofs.Ythlpceoajhcliaa
set_option linter.unusedSimpArgs false
set_option linter.unusedVariables false
open Go.RowKit

def enC (e : En) : List Value := [.int .i64 e.a0, .int .i64 e.a1, .int .i64 e.b0, .int .i64 e.b1, .int .i64 e.c0, .int .i64 e.c1, .int .i64 e.wo, .int .i64 e.pa, .int .i64 e.th, .int .i64 e.fi, .int .i64 e.tr]
def EnPost (bx : Nat) (e : En) (w : World) (en : Ending) (w' : World) : Prop := en = .returned (.tuple #[]) ∧ w.grownBy w' (some bx) ∧ Bk w' bx (enC e).toArray
theorem En.ok.le {e : En} {m m' : Nat} (h : e.ok m) (hm : m' ≤ m) : e.ok m' := ⟨by have := h.tr; omega, h.pa, h.th, h.fi⟩


set_option maxRecDepth 100000 in
set_option maxHeartbeats 1000000 in
theorem note_any (bx : Nat) (e : En) (j : Jb) (A : Option Addr) (c : Nat) (a b c9 : Int) (D : Option Addr) (d n : Nat) (l : List Int) (w : World) (hj : j.good) (he : e.ok 1) (ha : -10000 ≤ a ∧ a ≤ 10000) (hb9 : -10000 ≤ b ∧ b ≤ 10000) (hc9 : -10000 ≤ c9 ∧ c9 ≤ 10000) (hl : Rd w w.heap.size 1 D n (ic l)) (hneD : ∀ b o, D = some ⟨b, o, none⟩ → b ≠ bx) (hm : n ≤ 1000) (hb : ∀ s ∈ l, -1000 ≤ s ∧ s ≤ 1000) (hp : Bk w bx (enC e).toArray) :
    Calls Try.prog 103 #[.pointer (some ⟨bx, 0, none⟩), jobV j A c, .agg #[.int .i64 a, .int .i64 b, .int .i64 c9], .slice D n d] w (EnPost bx (En.note j e ((a, b, c9), l)) w) := by
  have hll := hl.len1
  obtain ⟨bI, oI, SI⟩ := Sp.oldEx hl hneD
  obtain ⟨e1, e2, e3, e4⟩ := he
  refine px_enter (fun b => b = bx) Try.func103 rfl 168 rfl [.pointer (some ⟨bx, 0, none⟩), .agg #[.int .i64 j.p0, .int .i64 j.p1, .int .i64 j.t0, .int .i64 j.t1, .int .i64 j.r0, .int .i64 j.r1, .int .i64 j.u0, .int .i64 j.u1, .int .i64 j.d0, .int .i64 j.d1, .int .i64 j.a0, .int .i64 j.a1, .int .i64 j.b0, .int .i64 j.b1, .int .i64 j.le, .slice A j.sh.length c, .int .i64 j.wi, .int .i64 j.me], .agg #[.int .i64 a, .int .i64 b, .int .i64 c9], .slice D n d] rfl rfl (Mem.initEx (p := .cells (enC e)) hp) ?_
  intro ac wc T M
  replace M : Mem w (fun b => b = bx) wc [(bx, .cells [.int .i64 e.a0, .int .i64 e.a1, .int .i64 e.b0, .int .i64 e.b1, .int .i64 e.c0, .int .i64 e.c1, .int .i64 e.wo, .int .i64 e.pa, .int .i64 e.th, .int .i64 e.fi, .int .i64 e.tr])] := M
  refine wp_seq ?_
  refine wp_region_lit ?_
  refine l_w rfl ?_; intro K hK
  refine ow_bx M T rfl rfl rfl rfl (T.ev 1 rfl) rfl ?_; clear M T; intro g1 wc ac M T
  refine sh_out hK _ _ ?_; clear hK K
  refine l_w rfl ?_; intro K hK
  refine ow_bx M T rfl rfl rfl rfl (T.ev 3 rfl) rfl ?_; clear M T; intro g2 wc ac M T
  refine sh_out hK _ _ ?_; clear hK K
  refine wpList_nil ?_
  replace T := T.pick [0, 1, 2, 5] rfl
  refine nm_then ?_
  refine cut_seq (fun ac wc => Tm ac 168 [(0, .pointer (some ⟨bx, 0, none⟩)), (3, .slice D n d), (5, .pointer (some ⟨g1, 0, none⟩)), (6, .pointer (some ⟨g2, 0, none⟩))] ∧ Mem w (fun b => b = bx) wc [(g2, .cells [.int .i64 a, .int .i64 b, .int .i64 c9]), (g1, .cells (jobL j A c)), (bx, .cells [.int .i64 (if e.tr = 0 then a else e.a0), .int .i64 (if e.tr = 0 then a else e.a1), .int .i64 (if e.tr = 0 then b else e.b0), .int .i64 (if e.tr = 0 then b else e.b1), .int .i64 (if e.tr = 0 then c9 else e.c0), .int .i64 (if e.tr = 0 then c9 else e.c1), .int .i64 e.wo, .int .i64 e.pa, .int .i64 e.th, .int .i64 e.fi, .int .i64 e.tr])]) ?_ ?_
  ·refine wp_seq ?_
   refine wp_region_lit ?_
   refine l_q T rfl rfl rfl rfl (rn_move rfl (T.ev 2 rfl)) ?_; clear T ac; intro ac T
   refine l_q T rfl rfl rfl rfl (rn_nil rfl (T.ev 0 rfl)) ?_; clear T ac; intro ac T
   refine l_q (v := (.pointer (some ⟨bx, 10, none⟩))) T rfl rfl rfl rfl (rn_fieldAddr (off := 10) rfl (T.ev 0 rfl) (fun _ _ _ => by kernel_rfl)) ?_; clear T ac; intro ac T
   refine l_q T rfl rfl rfl rfl (rn_one (Mem.nth M 2 rfl) rfl (T.ev 0 rfl) rfl) ?_; clear T ac; intro ac T
   refine l_q T rfl rfl rfl rfl (rn_eql rfl (T.ev 0 rfl) evc) ?_; clear T ac; intro ac T
   refine wpList_nil ?_
   replace T := T.pick [0, 5, 6, 7, 8] rfl
   refine nm_then ?_
   refine wp_if (T.ev 0 rfl) ?_ ?_
   ·intro h1
    refine g_start2 M (M.perm [0, 1] rfl rfl) 27 (by kernel_rfl) rfl (by kernel_rfl) ?_
    clear M; intro wc M
    refine g_addG 20 M ?_
    refine g_q (T := T) (i := 0) rfl (by kernel_rfl) (by kernel_rfl : (pbits 27 0).setIfInBounds 0 true = pbits 27 1) (si_and (si_G rfl) si_U) (fun _ _ _ h => h) rfl rfl rfl rfl (fun _ _ _ _ _ => (rn_move rfl (T.ev 3 rfl))) ?_; clear T ac; intro ac T
    refine g_q (T := T) (i := 1) rfl (by kernel_rfl) (by kernel_rfl : (pbits 27 1).setIfInBounds 1 true = pbits 27 3) (si_and (si_G rfl) si_U) (fun _ _ _ h => h) rfl rfl rfl rfl (fun _ _ _ _ _ => (rn_move rfl (T.ev 4 rfl))) ?_; clear T ac; intro ac T
    refine g_q (T := T) (i := 2) rfl (by kernel_rfl) (by kernel_rfl : (pbits 27 3).setIfInBounds 2 true = pbits 27 7) (si_and (si_G rfl) si_U) (fun _ _ _ h => h) rfl rfl rfl rfl (fun _ _ _ _ _ => (rn_move rfl (T.ev 5 rfl))) ?_; clear T ac; intro ac T
    refine g_q (v := (.pointer (some ⟨g2, 0, none⟩))) (T := T) (i := 3) rfl (by kernel_rfl) (by kernel_rfl : (pbits 27 7).setIfInBounds 3 true = pbits 27 15) (si_and (si_G rfl) si_U) (fun _ _ _ h => h) rfl rfl rfl rfl (fun _ _ _ _ _ => (rn_fieldAddr (off := 0) rfl (T.ev 4 rfl) (fun _ _ _ => by kernel_rfl))) ?_; clear T ac; intro ac T
    refine g_q (T := T) (i := 4) rfl (by kernel_rfl) (by kernel_rfl : (pbits 27 15).setIfInBounds 4 true = pbits 27 31) (si_and (si_G rfl) si_U) (fun _ _ _ h => h) rfl rfl rfl rfl (fun B w' hD hl hS => (rn_one (Mem.nth (show Mem w (fun b => b = bx) w' _ from ((MA.lft hS) (hD.wait (i := 4) (m := 20) (by kernel_rfl) hl))) 0 rfl) rfl (T.ev 0 rfl) rfl)) ?_; clear T ac; intro ac T
    refine g_q (v := (.pointer (some ⟨g2, 0, none⟩))) (T := T) (i := 5) rfl (by kernel_rfl) (by kernel_rfl : (pbits 27 31).setIfInBounds 5 true = pbits 27 63) (si_and (si_G rfl) si_U) (fun _ _ _ h => h) rfl rfl rfl rfl (fun _ _ _ _ _ => (rn_fieldAddr (off := 0) rfl (T.ev 6 rfl) (fun _ _ _ => by kernel_rfl))) ?_; clear T ac; intro ac T
    refine g_q (T := T) (i := 6) rfl (by kernel_rfl) (by kernel_rfl : (pbits 27 63).setIfInBounds 6 true = pbits 27 127) (si_and (si_G rfl) si_U) (fun _ _ _ h => h) rfl rfl rfl rfl (fun B w' hD hl hS => (rn_one (Mem.nth (show Mem w (fun b => b = bx) w' _ from ((MA.lft hS) (hD.wait (i := 6) (m := 20) (by kernel_rfl) hl))) 0 rfl) rfl (T.ev 0 rfl) rfl)) ?_; clear T ac; intro ac T
    refine g_q (v := (.pointer (some ⟨g2, 1, none⟩))) (T := T) (i := 8) rfl (by kernel_rfl) (by kernel_rfl : (pbits 27 127).setIfInBounds 8 true = pbits 27 383) (si_and (si_G rfl) si_U) (fun _ _ _ h => h) rfl rfl rfl rfl (fun _ _ _ _ _ => (rn_fieldAddr (off := 1) rfl (T.ev 8 rfl) (fun _ _ _ => by kernel_rfl))) ?_; clear T ac; intro ac T
    refine g_q (T := T) (i := 9) rfl (by kernel_rfl) (by kernel_rfl : (pbits 27 383).setIfInBounds 9 true = pbits 27 895) (si_and (si_G rfl) si_U) (fun _ _ _ h => h) rfl rfl rfl rfl (fun B w' hD hl hS => (rn_one (Mem.nth (show Mem w (fun b => b = bx) w' _ from ((MA.lft hS) (hD.wait (i := 12) (m := 20) (by kernel_rfl) (hD.wait (i := 9) (m := 12) (by kernel_rfl) hl)))) 0 rfl) rfl (T.ev 0 rfl) rfl)) ?_; clear T ac; intro ac T
    refine g_q (v := (.pointer (some ⟨g2, 1, none⟩))) (T := T) (i := 10) rfl (by kernel_rfl) (by kernel_rfl : (pbits 27 895).setIfInBounds 10 true = pbits 27 1919) (si_and (si_G rfl) si_U) (fun _ _ _ h => h) rfl rfl rfl rfl (fun _ _ _ _ _ => (rn_fieldAddr (off := 1) rfl (T.ev 10 rfl) (fun _ _ _ => by kernel_rfl))) ?_; clear T ac; intro ac T
    refine g_q (T := T) (i := 11) rfl (by kernel_rfl) (by kernel_rfl : (pbits 27 1919).setIfInBounds 11 true = pbits 27 3967) (si_and (si_G rfl) si_U) (fun _ _ _ h => h) rfl rfl rfl rfl (fun B w' hD hl hS => (rn_one (Mem.nth (show Mem w (fun b => b = bx) w' _ from ((MA.lft hS) (hD.wait (i := 12) (m := 20) (by kernel_rfl) (hD.wait (i := 11) (m := 12) (by kernel_rfl) hl)))) 0 rfl) rfl (T.ev 0 rfl) rfl)) ?_; clear T ac; intro ac T
    refine g_q (v := (.pointer (some ⟨g2, 2, none⟩))) (T := T) (i := 13) rfl (by kernel_rfl) (by kernel_rfl : (pbits 27 3967).setIfInBounds 13 true = pbits 27 12159) (si_and (si_G rfl) si_U) (fun _ _ _ h => h) rfl rfl rfl rfl (fun _ _ _ _ _ => (rn_fieldAddr (off := 2) rfl (T.ev 12 rfl) (fun _ _ _ => by kernel_rfl))) ?_; clear T ac; intro ac T
    refine g_q (T := T) (i := 14) rfl (by kernel_rfl) (by kernel_rfl : (pbits 27 12159).setIfInBounds 14 true = pbits 27 28543) (si_and (si_G rfl) si_U) (fun _ _ _ h => h) rfl rfl rfl rfl (fun B w' hD hl hS => (rn_one (Mem.nth (show Mem w (fun b => b = bx) w' _ from ((MA.lft hS) (hD.wait (i := 17) (m := 20) (by kernel_rfl) (hD.wait (i := 14) (m := 17) (by kernel_rfl) hl)))) 0 rfl) rfl (T.ev 0 rfl) rfl)) ?_; clear T ac; intro ac T
    refine g_q (v := (.pointer (some ⟨g2, 2, none⟩))) (T := T) (i := 15) rfl (by kernel_rfl) (by kernel_rfl : (pbits 27 28543).setIfInBounds 15 true = pbits 27 61311) (si_and (si_G rfl) si_U) (fun _ _ _ h => h) rfl rfl rfl rfl (fun _ _ _ _ _ => (rn_fieldAddr (off := 2) rfl (T.ev 14 rfl) (fun _ _ _ => by kernel_rfl))) ?_; clear T ac; intro ac T
    refine g_q (T := T) (i := 16) rfl (by kernel_rfl) (by kernel_rfl : (pbits 27 61311).setIfInBounds 16 true = pbits 27 126847) (si_and (si_G rfl) si_U) (fun _ _ _ h => h) rfl rfl rfl rfl (fun B w' hD hl hS => (rn_one (Mem.nth (show Mem w (fun b => b = bx) w' _ from ((MA.lft hS) (hD.wait (i := 17) (m := 20) (by kernel_rfl) (hD.wait (i := 16) (m := 17) (by kernel_rfl) hl)))) 0 rfl) rfl (T.ev 0 rfl) rfl)) ?_; clear T ac; intro ac T
    refine g_w (i := 7) (by kernel_rfl) rfl (by kernel_rfl : (pbits 27 126847).setIfInBounds 7 true = pbits 27 126975) rfl ?_; intro K hK
    refine ow_call (first := []) (cap := []) T rfl rfl rfl rfl evf (.cons (T.ev 10 rfl) (.cons (T.ev 8 rfl) .nil)) Try.func31 rfl rfl ?_
    refine Calls.mono (to_any a a _) ?_
    clear T
    rintro e wc ⟨rfl, hb⟩
    intro ac T
    replace M := M.call hb; clear hb
    refine sh_out hK _ _ (MA.mk (fun _ => M.mask [true, true, true] rfl) (M.mask [true, true, false] rfl)) ?_; clear hK K
    refine g_w (i := 12) (by kernel_rfl) rfl (by kernel_rfl : (pbits 27 126975).setIfInBounds 12 true = pbits 27 131071) rfl ?_; intro K hK
    refine ow_call (first := []) (cap := []) T rfl rfl rfl rfl evf (.cons (T.ev 7 rfl) (.cons (T.ev 5 rfl) .nil)) Try.func31 rfl rfl ?_
    refine Calls.mono (to_any b b _) ?_
    clear T
    rintro e wc ⟨rfl, hb⟩
    intro ac T
    replace M := M.call hb; clear hb
    refine sh_out hK _ _ (MA.mk (fun _ => M.mask [true, true, true] rfl) (M.mask [true, true, false] rfl)) ?_; clear hK K
    refine g_w (i := 17) (by kernel_rfl) rfl (by kernel_rfl : (pbits 27 131071).setIfInBounds 17 true = pbits 27 262143) rfl ?_; intro K hK
    refine ow_call (first := []) (cap := []) T rfl rfl rfl rfl evf (.cons (T.ev 4 rfl) (.cons (T.ev 2 rfl) .nil)) Try.func31 rfl rfl ?_
    refine Calls.mono (to_any c9 c9 _) ?_
    clear T
    rintro e wc ⟨rfl, hb⟩
    intro ac T
    replace M := M.call hb; clear hb
    refine sh_out hK _ _ (MA.mk (fun _ => M.mask [true, true, true] rfl) (M.mask [true, true, false] rfl)) ?_; clear hK K
    refine g_q (T := T) (i := 18) rfl (by kernel_rfl) (by kernel_rfl : (pbits 27 262143).setIfInBounds 18 true = pbits 27 524287) (si_and (si_G rfl) si_U) (fun _ _ _ h => h) rfl rfl rfl rfl (fun _ _ _ _ _ => (rn_nil rfl (T.ev 17 rfl))) ?_; clear T ac; intro ac T
    refine g_q (v := (.pointer (some ⟨bx, 0, none⟩))) (T := T) (i := 19) rfl (by kernel_rfl) (by kernel_rfl : (pbits 27 524287).setIfInBounds 19 true = pbits 27 1048575) (si_and (si_G rfl) si_U) (fun _ _ _ h => h) rfl rfl rfl rfl (fun _ _ _ _ _ => (rn_fieldAddr (off := 0) rfl (T.ev 0 rfl) (fun _ _ _ => by kernel_rfl))) ?_; clear T ac; intro ac T
    refine g_w (i := 20) (by kernel_rfl) rfl (by kernel_rfl : (pbits 27 1048575).setIfInBounds 20 true = pbits 27 2097151) rfl ?_; intro K hK
    refine ow_stO M T rfl rfl (T.ev 0 rfl) (T.ev 4 rfl) rfl (.tail (.tail .head)) rfl (by simp) rfl (by kernel_rfl) ?_; clear M T; intro wc ac M T
    refine sh_out hK _ _ (MA.mk (fun h => (no_of (by kernel_rfl) h).elim) (M.mask [true, true, false] rfl)) ?_; clear hK K
    refine g_q (T := T) (i := 21) rfl (by kernel_rfl) (by kernel_rfl : (pbits 27 2097151).setIfInBounds 21 true = pbits 27 4194303) (si_and (si_G rfl) si_U) (fun _ _ _ h => h) rfl rfl rfl rfl (fun _ _ _ _ _ => (rn_nil rfl (T.ev 18 rfl))) ?_; clear T ac; intro ac T
    refine g_q (v := (.pointer (some ⟨bx, 2, none⟩))) (T := T) (i := 22) rfl (by kernel_rfl) (by kernel_rfl : (pbits 27 4194303).setIfInBounds 22 true = pbits 27 8388607) (si_and (si_G rfl) si_U) (fun _ _ _ h => h) rfl rfl rfl rfl (fun _ _ _ _ _ => (rn_fieldAddr (off := 2) rfl (T.ev 0 rfl) (fun _ _ _ => by kernel_rfl))) ?_; clear T ac; intro ac T
    refine g_w (i := 23) (by kernel_rfl) rfl (by kernel_rfl : (pbits 27 8388607).setIfInBounds 23 true = pbits 27 16777215) rfl ?_; intro K hK
    refine ow_stO M T rfl rfl (T.ev 0 rfl) (T.ev 5 rfl) rfl (.tail (.tail .head)) rfl (by simp) rfl (by kernel_rfl) ?_; clear M T; intro wc ac M T
    refine sh_out hK _ _ (MA.mk (fun h => (no_of (by kernel_rfl) h).elim) (M.mask [true, true, false] rfl)) ?_; clear hK K
    refine g_q (T := T) (i := 24) rfl (by kernel_rfl) (by kernel_rfl : (pbits 27 16777215).setIfInBounds 24 true = pbits 27 33554431) (si_and (si_G rfl) si_U) (fun _ _ _ h => h) rfl rfl rfl rfl (fun _ _ _ _ _ => (rn_nil rfl (T.ev 19 rfl))) ?_; clear T ac; intro ac T
    refine g_q (v := (.pointer (some ⟨bx, 4, none⟩))) (T := T) (i := 25) rfl (by kernel_rfl) (by kernel_rfl : (pbits 27 33554431).setIfInBounds 25 true = pbits 27 67108863) (si_and (si_G rfl) si_U) (fun _ _ _ h => h) rfl rfl rfl rfl (fun _ _ _ _ _ => (rn_fieldAddr (off := 4) rfl (T.ev 0 rfl) (fun _ _ _ => by kernel_rfl))) ?_; clear T ac; intro ac T
    refine g_w (i := 26) (by kernel_rfl) rfl (by kernel_rfl : (pbits 27 67108863).setIfInBounds 26 true = pbits 27 134217727) rfl ?_; intro K hK
    refine ow_stO M T rfl rfl (T.ev 0 rfl) (T.ev 6 rfl) rfl (.tail (.tail .head)) rfl (by simp) rfl (by kernel_rfl) ?_; clear M T; intro wc ac M T
    refine sh_out hK _ _ (MA.mk (fun h => (no_of (by kernel_rfl) h).elim) (M.mask [true, true, false] rfl)) ?_; clear hK K
    refine g_done (by kernel_rfl) ?_
    replace T := T.pick [25, 26, 27, 28] rfl
    exact ⟨(T.pick (E' := [(0, .pointer (some ⟨bx, 0, none⟩)), (3, .slice D n d), (5, .pointer (some ⟨g1, 0, none⟩)), (6, .pointer (some ⟨g2, 0, none⟩))]) [2, 3, 1, 0] rfl).as (by (try rw [show (decide (e.tr = 0)) = true from (decide_eq_true h1)]); (try simp only [if_pos h1]); (try rfl)), (by (try rw [show (decide (e.tr = 0)) = true from (decide_eq_true h1)]); (try simp only [if_pos h1]); exact M.mask [true, true, true] rfl)⟩
   ·intro h1
    refine wp_skip ?_
    exact ⟨(T.pick (E' := [(0, .pointer (some ⟨bx, 0, none⟩)), (3, .slice D n d), (5, .pointer (some ⟨g1, 0, none⟩)), (6, .pointer (some ⟨g2, 0, none⟩))]) [3, 4, 2, 1] rfl).as (by (try rw [show (decide (e.tr = 0)) = false from (decide_eq_false h1)]); (try simp only [if_neg h1]); (try rfl)), (by (try rw [show (decide (e.tr = 0)) = false from (decide_eq_false h1)]); (try simp only [if_neg h1]); exact M.mask [true, true, true] rfl)⟩
  ·clear T M
   rintro ac wc ⟨T, M⟩
   refine wp_seq ?_
   refine g_start2 M (M.perm [0, 1] rfl rfl) 21 (by kernel_rfl) rfl (by kernel_rfl) ?_
   clear M; intro wc M
   refine g_addG 20 M ?_
   refine g_q (T := T) (i := 0) rfl (by kernel_rfl) (by kernel_rfl : (pbits 21 0).setIfInBounds 0 true = pbits 21 1) (si_and (si_G rfl) si_U) (fun _ _ _ h => h) rfl rfl rfl rfl (fun _ _ _ _ _ => (rn_move rfl (T.ev 0 rfl))) ?_; clear T ac; intro ac T
   refine g_q (T := T) (i := 1) rfl (by kernel_rfl) (by kernel_rfl : (pbits 21 1).setIfInBounds 1 true = pbits 21 3) (si_and (si_G rfl) si_U) (fun _ _ _ h => h) rfl rfl rfl rfl (fun _ _ _ _ _ => (rn_move rfl (T.ev 1 rfl))) ?_; clear T ac; intro ac T
   refine g_q (T := T) (i := 2) rfl (by kernel_rfl) (by kernel_rfl : (pbits 21 3).setIfInBounds 2 true = pbits 21 7) (si_and (si_G rfl) si_U) (fun _ _ _ h => h) rfl rfl rfl rfl (fun _ _ _ _ _ => (rn_nil rfl (T.ev 0 rfl))) ?_; clear T ac; intro ac T
   refine g_q (v := (.pointer (some ⟨bx, 0, none⟩))) (T := T) (i := 3) rfl (by kernel_rfl) (by kernel_rfl : (pbits 21 7).setIfInBounds 3 true = pbits 21 15) (si_and (si_G rfl) si_U) (fun _ _ _ h => h) rfl rfl rfl rfl (fun _ _ _ _ _ => (rn_fieldAddr (off := 0) rfl (T.ev 0 rfl) (fun _ _ _ => by kernel_rfl))) ?_; clear T ac; intro ac T
   refine g_q (v := (.pointer (some ⟨bx, 0, none⟩))) (T := T) (i := 4) rfl (by kernel_rfl) (by kernel_rfl : (pbits 21 15).setIfInBounds 4 true = pbits 21 31) (si_and (si_G rfl) si_U) (fun _ _ _ h => h) rfl rfl rfl rfl (fun _ _ _ _ _ => (rn_fieldAddr (off := 0) rfl (T.ev 0 rfl) (fun _ _ _ => by kernel_rfl))) ?_; clear T ac; intro ac T
   refine g_q (T := T) (i := 5) rfl (by kernel_rfl) (by kernel_rfl : (pbits 21 31).setIfInBounds 5 true = pbits 21 63) (si_and (si_G rfl) si_U) (fun _ _ _ h => h) rfl rfl rfl rfl (fun B w' hD hl hS => (rn_one (Mem.nth (show Mem w (fun b => b = bx) w' _ from ((MA.lft hS) (hD.wait (i := 5) (m := 20) (by kernel_rfl) hl))) 2 rfl) rfl (T.ev 0 rfl) rfl)) ?_; clear T ac; intro ac T
   refine g_q (v := (.pointer (some ⟨g2, 0, none⟩))) (T := T) (i := 6) rfl (by kernel_rfl) (by kernel_rfl : (pbits 21 63).setIfInBounds 6 true = pbits 21 127) (si_and (si_G rfl) si_U) (fun _ _ _ h => h) rfl rfl rfl rfl (fun _ _ _ _ _ => (rn_fieldAddr (off := 0) rfl (T.ev 9 rfl) (fun _ _ _ => by kernel_rfl))) ?_; clear T ac; intro ac T
   refine g_q (T := T) (i := 7) rfl (by kernel_rfl) (by kernel_rfl : (pbits 21 127).setIfInBounds 7 true = pbits 21 255) (si_and (si_G rfl) si_U) (fun _ _ _ h => h) rfl rfl rfl rfl (fun B w' hD hl hS => (rn_one (Mem.nth (show Mem w (fun b => b = bx) w' _ from ((MA.lft hS) (hD.wait (i := 7) (m := 20) (by kernel_rfl) hl))) 0 rfl) rfl (T.ev 0 rfl) rfl)) ?_; clear T ac; intro ac T
   refine g_q (T := T) (i := 8) rfl (by kernel_rfl) (by kernel_rfl : (pbits 21 255).setIfInBounds 8 true = pbits 21 511) (si_and (si_G rfl) si_U) (fun _ _ _ h => h) rfl rfl rfl rfl (fun _ _ _ _ _ => (rn_min2 rfl (T.ev 2 rfl) (T.ev 0 rfl))) ?_; clear T ac; intro ac T
   refine g_q (T := T) (i := 9) rfl (by kernel_rfl) (by kernel_rfl : (pbits 21 511).setIfInBounds 9 true = pbits 21 1023) (si_and (si_G rfl) si_U) (fun _ _ _ h => h) rfl rfl rfl rfl (fun _ _ _ _ _ => (rn_move rfl (T.ev 9 rfl))) ?_; clear T ac; intro ac T
   refine g_q (T := T) (i := 10) rfl (by kernel_rfl) (by kernel_rfl : (pbits 21 1023).setIfInBounds 10 true = pbits 21 2047) (si_and (si_G rfl) si_U) (fun _ _ _ h => h) rfl rfl rfl rfl (fun _ _ _ _ _ => (rn_nil rfl (T.ev 0 rfl))) ?_; clear T ac; intro ac T
   refine g_q (v := (.pointer (some ⟨bx, 0, none⟩))) (T := T) (i := 11) rfl (by kernel_rfl) (by kernel_rfl : (pbits 21 2047).setIfInBounds 11 true = pbits 21 4095) (si_and (si_G rfl) si_U) (fun _ _ _ h => h) rfl rfl rfl rfl (fun _ _ _ _ _ => (rn_fieldAddr (off := 0) rfl (T.ev 0 rfl) (fun _ _ _ => by kernel_rfl))) ?_; clear T ac; intro ac T
   refine g_q (v := (.pointer (some ⟨bx, 1, none⟩))) (T := T) (i := 12) rfl (by kernel_rfl) (by kernel_rfl : (pbits 21 4095).setIfInBounds 12 true = pbits 21 8191) (si_and (si_G rfl) si_U) (fun _ _ _ h => h) rfl rfl rfl rfl (fun _ _ _ _ _ => (rn_fieldAddr (off := 1) rfl (T.ev 0 rfl) (fun _ _ _ => by kernel_rfl))) ?_; clear T ac; intro ac T
   refine g_q (T := T) (i := 13) rfl (by kernel_rfl) (by kernel_rfl : (pbits 21 8191).setIfInBounds 13 true = pbits 21 16383) (si_and (si_G rfl) si_U) (fun _ _ _ h => h) rfl rfl rfl rfl (fun B w' hD hl hS => (rn_one (Mem.nth (show Mem w (fun b => b = bx) w' _ from ((MA.lft hS) (hD.wait (i := 13) (m := 20) (by kernel_rfl) hl))) 2 rfl) rfl (T.ev 0 rfl) rfl)) ?_; clear T ac; intro ac T
   refine g_q (v := (.pointer (some ⟨g2, 0, none⟩))) (T := T) (i := 14) rfl (by kernel_rfl) (by kernel_rfl : (pbits 21 16383).setIfInBounds 14 true = pbits 21 32767) (si_and (si_G rfl) si_U) (fun _ _ _ h => h) rfl rfl rfl rfl (fun _ _ _ _ _ => (rn_fieldAddr (off := 0) rfl (T.ev 17 rfl) (fun _ _ _ => by kernel_rfl))) ?_; clear T ac; intro ac T
   refine g_q (T := T) (i := 15) rfl (by kernel_rfl) (by kernel_rfl : (pbits 21 32767).setIfInBounds 15 true = pbits 21 65535) (si_and (si_G rfl) si_U) (fun _ _ _ h => h) rfl rfl rfl rfl (fun B w' hD hl hS => (rn_one (Mem.nth (show Mem w (fun b => b = bx) w' _ from ((MA.lft hS) (hD.wait (i := 15) (m := 20) (by kernel_rfl) hl))) 0 rfl) rfl (T.ev 0 rfl) rfl)) ?_; clear T ac; intro ac T
   refine g_q (T := T) (i := 16) rfl (by kernel_rfl) (by kernel_rfl : (pbits 21 65535).setIfInBounds 16 true = pbits 21 131071) (si_and (si_G rfl) si_U) (fun _ _ _ h => h) rfl rfl rfl rfl (fun _ _ _ _ _ => (rn_max2 rfl (T.ev 2 rfl) (T.ev 0 rfl))) ?_; clear T ac; intro ac T
   refine g_w (i := 17) (by kernel_rfl) rfl (by kernel_rfl : (pbits 21 131071).setIfInBounds 17 true = pbits 21 262143) rfl ?_; intro K hK
   refine ow_call (first := []) (cap := []) T rfl rfl rfl rfl evf (.cons (T.ev 8 rfl) (.cons (T.ev 0 rfl) .nil)) Try.func31 rfl rfl ?_
   refine Calls.mono (to_any (min (if e.tr = 0 then a else e.a0) a) (max (if e.tr = 0 then a else e.a1) a) _) ?_
   clear T
   rintro e wc ⟨rfl, hb⟩
   intro ac T
   replace M := M.call hb; clear hb
   refine sh_out hK _ _ (MA.mk (fun _ => M.mask [true, true, true] rfl) (M.mask [true, true, false] rfl)) ?_; clear hK K
   refine g_q (T := T) (i := 18) rfl (by kernel_rfl) (by kernel_rfl : (pbits 21 262143).setIfInBounds 18 true = pbits 21 524287) (si_and (si_G rfl) si_U) (fun _ _ _ h => h) rfl rfl rfl rfl (fun _ _ _ _ _ => (rn_nil rfl (T.ev 17 rfl))) ?_; clear T ac; intro ac T
   refine g_q (v := (.pointer (some ⟨bx, 0, none⟩))) (T := T) (i := 19) rfl (by kernel_rfl) (by kernel_rfl : (pbits 21 524287).setIfInBounds 19 true = pbits 21 1048575) (si_and (si_G rfl) si_U) (fun _ _ _ h => h) rfl rfl rfl rfl (fun _ _ _ _ _ => (rn_fieldAddr (off := 0) rfl (T.ev 0 rfl) (fun _ _ _ => by kernel_rfl))) ?_; clear T ac; intro ac T
   refine g_w (i := 20) (by kernel_rfl) rfl (by kernel_rfl : (pbits 21 1048575).setIfInBounds 20 true = pbits 21 2097151) rfl ?_; intro K hK
   refine ow_stO M T rfl rfl (T.ev 0 rfl) (T.ev 2 rfl) rfl (.tail (.tail .head)) rfl (by simp) rfl (by kernel_rfl) ?_; clear M T; intro wc ac M T
   refine sh_out hK _ _ (MA.mk (fun h => (no_of (by kernel_rfl) h).elim) (M.mask [true, true, false] rfl)) ?_; clear hK K
   refine g_done (by kernel_rfl) ?_
   replace T := T.pick [20, 21, 22, 23] rfl
   refine nm_then ?_
   refine wp_seq ?_
   refine g_start2 M (M.perm [0, 1] rfl rfl) 21 (by kernel_rfl) rfl (by kernel_rfl) ?_
   clear M; intro wc M
   refine g_addG 20 M ?_
   refine g_q (T := T) (i := 0) rfl (by kernel_rfl) (by kernel_rfl : (pbits 21 0).setIfInBounds 0 true = pbits 21 1) (si_and (si_G rfl) si_U) (fun _ _ _ h => h) rfl rfl rfl rfl (fun _ _ _ _ _ => (rn_move rfl (T.ev 0 rfl))) ?_; clear T ac; intro ac T
   refine g_q (T := T) (i := 1) rfl (by kernel_rfl) (by kernel_rfl : (pbits 21 1).setIfInBounds 1 true = pbits 21 3) (si_and (si_G rfl) si_U) (fun _ _ _ h => h) rfl rfl rfl rfl (fun _ _ _ _ _ => (rn_move rfl (T.ev 1 rfl))) ?_; clear T ac; intro ac T
   refine g_q (T := T) (i := 2) rfl (by kernel_rfl) (by kernel_rfl : (pbits 21 3).setIfInBounds 2 true = pbits 21 7) (si_and (si_G rfl) si_U) (fun _ _ _ h => h) rfl rfl rfl rfl (fun _ _ _ _ _ => (rn_nil rfl (T.ev 0 rfl))) ?_; clear T ac; intro ac T
   refine g_q (v := (.pointer (some ⟨bx, 2, none⟩))) (T := T) (i := 3) rfl (by kernel_rfl) (by kernel_rfl : (pbits 21 7).setIfInBounds 3 true = pbits 21 15) (si_and (si_G rfl) si_U) (fun _ _ _ h => h) rfl rfl rfl rfl (fun _ _ _ _ _ => (rn_fieldAddr (off := 2) rfl (T.ev 0 rfl) (fun _ _ _ => by kernel_rfl))) ?_; clear T ac; intro ac T
   refine g_q (v := (.pointer (some ⟨bx, 2, none⟩))) (T := T) (i := 4) rfl (by kernel_rfl) (by kernel_rfl : (pbits 21 15).setIfInBounds 4 true = pbits 21 31) (si_and (si_G rfl) si_U) (fun _ _ _ h => h) rfl rfl rfl rfl (fun _ _ _ _ _ => (rn_fieldAddr (off := 0) rfl (T.ev 0 rfl) (fun _ _ _ => by kernel_rfl))) ?_; clear T ac; intro ac T
   refine g_q (T := T) (i := 5) rfl (by kernel_rfl) (by kernel_rfl : (pbits 21 31).setIfInBounds 5 true = pbits 21 63) (si_and (si_G rfl) si_U) (fun _ _ _ h => h) rfl rfl rfl rfl (fun B w' hD hl hS => (rn_one (Mem.nth (show Mem w (fun b => b = bx) w' _ from ((MA.lft hS) (hD.wait (i := 5) (m := 20) (by kernel_rfl) hl))) 2 rfl) rfl (T.ev 0 rfl) rfl)) ?_; clear T ac; intro ac T
   refine g_q (v := (.pointer (some ⟨g2, 1, none⟩))) (T := T) (i := 6) rfl (by kernel_rfl) (by kernel_rfl : (pbits 21 63).setIfInBounds 6 true = pbits 21 127) (si_and (si_G rfl) si_U) (fun _ _ _ h => h) rfl rfl rfl rfl (fun _ _ _ _ _ => (rn_fieldAddr (off := 1) rfl (T.ev 9 rfl) (fun _ _ _ => by kernel_rfl))) ?_; clear T ac; intro ac T
   refine g_q (T := T) (i := 7) rfl (by kernel_rfl) (by kernel_rfl : (pbits 21 127).setIfInBounds 7 true = pbits 21 255) (si_and (si_G rfl) si_U) (fun _ _ _ h => h) rfl rfl rfl rfl (fun B w' hD hl hS => (rn_one (Mem.nth (show Mem w (fun b => b = bx) w' _ from ((MA.lft hS) (hD.wait (i := 7) (m := 20) (by kernel_rfl) hl))) 0 rfl) rfl (T.ev 0 rfl) rfl)) ?_; clear T ac; intro ac T
   refine g_q (T := T) (i := 8) rfl (by kernel_rfl) (by kernel_rfl : (pbits 21 255).setIfInBounds 8 true = pbits 21 511) (si_and (si_G rfl) si_U) (fun _ _ _ h => h) rfl rfl rfl rfl (fun _ _ _ _ _ => (rn_min2 rfl (T.ev 2 rfl) (T.ev 0 rfl))) ?_; clear T ac; intro ac T
   refine g_q (T := T) (i := 9) rfl (by kernel_rfl) (by kernel_rfl : (pbits 21 511).setIfInBounds 9 true = pbits 21 1023) (si_and (si_G rfl) si_U) (fun _ _ _ h => h) rfl rfl rfl rfl (fun _ _ _ _ _ => (rn_move rfl (T.ev 9 rfl))) ?_; clear T ac; intro ac T
   refine g_q (T := T) (i := 10) rfl (by kernel_rfl) (by kernel_rfl : (pbits 21 1023).setIfInBounds 10 true = pbits 21 2047) (si_and (si_G rfl) si_U) (fun _ _ _ h => h) rfl rfl rfl rfl (fun _ _ _ _ _ => (rn_nil rfl (T.ev 0 rfl))) ?_; clear T ac; intro ac T
   refine g_q (v := (.pointer (some ⟨bx, 2, none⟩))) (T := T) (i := 11) rfl (by kernel_rfl) (by kernel_rfl : (pbits 21 2047).setIfInBounds 11 true = pbits 21 4095) (si_and (si_G rfl) si_U) (fun _ _ _ h => h) rfl rfl rfl rfl (fun _ _ _ _ _ => (rn_fieldAddr (off := 2) rfl (T.ev 0 rfl) (fun _ _ _ => by kernel_rfl))) ?_; clear T ac; intro ac T
   refine g_q (v := (.pointer (some ⟨bx, 3, none⟩))) (T := T) (i := 12) rfl (by kernel_rfl) (by kernel_rfl : (pbits 21 4095).setIfInBounds 12 true = pbits 21 8191) (si_and (si_G rfl) si_U) (fun _ _ _ h => h) rfl rfl rfl rfl (fun _ _ _ _ _ => (rn_fieldAddr (off := 1) rfl (T.ev 0 rfl) (fun _ _ _ => by kernel_rfl))) ?_; clear T ac; intro ac T
   refine g_q (T := T) (i := 13) rfl (by kernel_rfl) (by kernel_rfl : (pbits 21 8191).setIfInBounds 13 true = pbits 21 16383) (si_and (si_G rfl) si_U) (fun _ _ _ h => h) rfl rfl rfl rfl (fun B w' hD hl hS => (rn_one (Mem.nth (show Mem w (fun b => b = bx) w' _ from ((MA.lft hS) (hD.wait (i := 13) (m := 20) (by kernel_rfl) hl))) 2 rfl) rfl (T.ev 0 rfl) rfl)) ?_; clear T ac; intro ac T
   refine g_q (v := (.pointer (some ⟨g2, 1, none⟩))) (T := T) (i := 14) rfl (by kernel_rfl) (by kernel_rfl : (pbits 21 16383).setIfInBounds 14 true = pbits 21 32767) (si_and (si_G rfl) si_U) (fun _ _ _ h => h) rfl rfl rfl rfl (fun _ _ _ _ _ => (rn_fieldAddr (off := 1) rfl (T.ev 17 rfl) (fun _ _ _ => by kernel_rfl))) ?_; clear T ac; intro ac T
   refine g_q (T := T) (i := 15) rfl (by kernel_rfl) (by kernel_rfl : (pbits 21 32767).setIfInBounds 15 true = pbits 21 65535) (si_and (si_G rfl) si_U) (fun _ _ _ h => h) rfl rfl rfl rfl (fun B w' hD hl hS => (rn_one (Mem.nth (show Mem w (fun b => b = bx) w' _ from ((MA.lft hS) (hD.wait (i := 15) (m := 20) (by kernel_rfl) hl))) 0 rfl) rfl (T.ev 0 rfl) rfl)) ?_; clear T ac; intro ac T
   refine g_q (T := T) (i := 16) rfl (by kernel_rfl) (by kernel_rfl : (pbits 21 65535).setIfInBounds 16 true = pbits 21 131071) (si_and (si_G rfl) si_U) (fun _ _ _ h => h) rfl rfl rfl rfl (fun _ _ _ _ _ => (rn_max2 rfl (T.ev 2 rfl) (T.ev 0 rfl))) ?_; clear T ac; intro ac T
   refine g_w (i := 17) (by kernel_rfl) rfl (by kernel_rfl : (pbits 21 131071).setIfInBounds 17 true = pbits 21 262143) rfl ?_; intro K hK
   refine ow_call (first := []) (cap := []) T rfl rfl rfl rfl evf (.cons (T.ev 8 rfl) (.cons (T.ev 0 rfl) .nil)) Try.func31 rfl rfl ?_
   refine Calls.mono (to_any (min (if e.tr = 0 then b else e.b0) b) (max (if e.tr = 0 then b else e.b1) b) _) ?_
   clear T
   rintro e wc ⟨rfl, hb⟩
   intro ac T
   replace M := M.call hb; clear hb
   refine sh_out hK _ _ (MA.mk (fun _ => M.mask [true, true, true] rfl) (M.mask [true, true, false] rfl)) ?_; clear hK K
   refine g_q (T := T) (i := 18) rfl (by kernel_rfl) (by kernel_rfl : (pbits 21 262143).setIfInBounds 18 true = pbits 21 524287) (si_and (si_G rfl) si_U) (fun _ _ _ h => h) rfl rfl rfl rfl (fun _ _ _ _ _ => (rn_nil rfl (T.ev 17 rfl))) ?_; clear T ac; intro ac T
   refine g_q (v := (.pointer (some ⟨bx, 2, none⟩))) (T := T) (i := 19) rfl (by kernel_rfl) (by kernel_rfl : (pbits 21 524287).setIfInBounds 19 true = pbits 21 1048575) (si_and (si_G rfl) si_U) (fun _ _ _ h => h) rfl rfl rfl rfl (fun _ _ _ _ _ => (rn_fieldAddr (off := 2) rfl (T.ev 0 rfl) (fun _ _ _ => by kernel_rfl))) ?_; clear T ac; intro ac T
   refine g_w (i := 20) (by kernel_rfl) rfl (by kernel_rfl : (pbits 21 1048575).setIfInBounds 20 true = pbits 21 2097151) rfl ?_; intro K hK
   refine ow_stO M T rfl rfl (T.ev 0 rfl) (T.ev 2 rfl) rfl (.tail (.tail .head)) rfl (by simp) rfl (by kernel_rfl) ?_; clear M T; intro wc ac M T
   refine sh_out hK _ _ (MA.mk (fun h => (no_of (by kernel_rfl) h).elim) (M.mask [true, true, false] rfl)) ?_; clear hK K
   refine g_done (by kernel_rfl) ?_
   replace T := T.pick [20, 21, 22, 23] rfl
   refine nm_then ?_
   refine wp_seq ?_
   refine g_start2 M (M.perm [0, 1] rfl rfl) 21 (by kernel_rfl) rfl (by kernel_rfl) ?_
   clear M; intro wc M
   refine g_addG 20 M ?_
   refine g_q (T := T) (i := 0) rfl (by kernel_rfl) (by kernel_rfl : (pbits 21 0).setIfInBounds 0 true = pbits 21 1) (si_and (si_G rfl) si_U) (fun _ _ _ h => h) rfl rfl rfl rfl (fun _ _ _ _ _ => (rn_move rfl (T.ev 0 rfl))) ?_; clear T ac; intro ac T
   refine g_q (T := T) (i := 1) rfl (by kernel_rfl) (by kernel_rfl : (pbits 21 1).setIfInBounds 1 true = pbits 21 3) (si_and (si_G rfl) si_U) (fun _ _ _ h => h) rfl rfl rfl rfl (fun _ _ _ _ _ => (rn_move rfl (T.ev 1 rfl))) ?_; clear T ac; intro ac T
   refine g_q (T := T) (i := 2) rfl (by kernel_rfl) (by kernel_rfl : (pbits 21 3).setIfInBounds 2 true = pbits 21 7) (si_and (si_G rfl) si_U) (fun _ _ _ h => h) rfl rfl rfl rfl (fun _ _ _ _ _ => (rn_nil rfl (T.ev 0 rfl))) ?_; clear T ac; intro ac T
   refine g_q (v := (.pointer (some ⟨bx, 4, none⟩))) (T := T) (i := 3) rfl (by kernel_rfl) (by kernel_rfl : (pbits 21 7).setIfInBounds 3 true = pbits 21 15) (si_and (si_G rfl) si_U) (fun _ _ _ h => h) rfl rfl rfl rfl (fun _ _ _ _ _ => (rn_fieldAddr (off := 4) rfl (T.ev 0 rfl) (fun _ _ _ => by kernel_rfl))) ?_; clear T ac; intro ac T
   refine g_q (v := (.pointer (some ⟨bx, 4, none⟩))) (T := T) (i := 4) rfl (by kernel_rfl) (by kernel_rfl : (pbits 21 15).setIfInBounds 4 true = pbits 21 31) (si_and (si_G rfl) si_U) (fun _ _ _ h => h) rfl rfl rfl rfl (fun _ _ _ _ _ => (rn_fieldAddr (off := 0) rfl (T.ev 0 rfl) (fun _ _ _ => by kernel_rfl))) ?_; clear T ac; intro ac T
   refine g_q (T := T) (i := 5) rfl (by kernel_rfl) (by kernel_rfl : (pbits 21 31).setIfInBounds 5 true = pbits 21 63) (si_and (si_G rfl) si_U) (fun _ _ _ h => h) rfl rfl rfl rfl (fun B w' hD hl hS => (rn_one (Mem.nth (show Mem w (fun b => b = bx) w' _ from ((MA.lft hS) (hD.wait (i := 5) (m := 20) (by kernel_rfl) hl))) 2 rfl) rfl (T.ev 0 rfl) rfl)) ?_; clear T ac; intro ac T
   refine g_q (v := (.pointer (some ⟨g2, 2, none⟩))) (T := T) (i := 6) rfl (by kernel_rfl) (by kernel_rfl : (pbits 21 63).setIfInBounds 6 true = pbits 21 127) (si_and (si_G rfl) si_U) (fun _ _ _ h => h) rfl rfl rfl rfl (fun _ _ _ _ _ => (rn_fieldAddr (off := 2) rfl (T.ev 9 rfl) (fun _ _ _ => by kernel_rfl))) ?_; clear T ac; intro ac T
   refine g_q (T := T) (i := 7) rfl (by kernel_rfl) (by kernel_rfl : (pbits 21 127).setIfInBounds 7 true = pbits 21 255) (si_and (si_G rfl) si_U) (fun _ _ _ h => h) rfl rfl rfl rfl (fun B w' hD hl hS => (rn_one (Mem.nth (show Mem w (fun b => b = bx) w' _ from ((MA.lft hS) (hD.wait (i := 7) (m := 20) (by kernel_rfl) hl))) 0 rfl) rfl (T.ev 0 rfl) rfl)) ?_; clear T ac; intro ac T
   refine g_q (T := T) (i := 8) rfl (by kernel_rfl) (by kernel_rfl : (pbits 21 255).setIfInBounds 8 true = pbits 21 511) (si_and (si_G rfl) si_U) (fun _ _ _ h => h) rfl rfl rfl rfl (fun _ _ _ _ _ => (rn_min2 rfl (T.ev 2 rfl) (T.ev 0 rfl))) ?_; clear T ac; intro ac T
   refine g_q (T := T) (i := 9) rfl (by kernel_rfl) (by kernel_rfl : (pbits 21 511).setIfInBounds 9 true = pbits 21 1023) (si_and (si_G rfl) si_U) (fun _ _ _ h => h) rfl rfl rfl rfl (fun _ _ _ _ _ => (rn_move rfl (T.ev 9 rfl))) ?_; clear T ac; intro ac T
   refine g_q (T := T) (i := 10) rfl (by kernel_rfl) (by kernel_rfl : (pbits 21 1023).setIfInBounds 10 true = pbits 21 2047) (si_and (si_G rfl) si_U) (fun _ _ _ h => h) rfl rfl rfl rfl (fun _ _ _ _ _ => (rn_nil rfl (T.ev 0 rfl))) ?_; clear T ac; intro ac T
   refine g_q (v := (.pointer (some ⟨bx, 4, none⟩))) (T := T) (i := 11) rfl (by kernel_rfl) (by kernel_rfl : (pbits 21 2047).setIfInBounds 11 true = pbits 21 4095) (si_and (si_G rfl) si_U) (fun _ _ _ h => h) rfl rfl rfl rfl (fun _ _ _ _ _ => (rn_fieldAddr (off := 4) rfl (T.ev 0 rfl) (fun _ _ _ => by kernel_rfl))) ?_; clear T ac; intro ac T
   refine g_q (v := (.pointer (some ⟨bx, 5, none⟩))) (T := T) (i := 12) rfl (by kernel_rfl) (by kernel_rfl : (pbits 21 4095).setIfInBounds 12 true = pbits 21 8191) (si_and (si_G rfl) si_U) (fun _ _ _ h => h) rfl rfl rfl rfl (fun _ _ _ _ _ => (rn_fieldAddr (off := 1) rfl (T.ev 0 rfl) (fun _ _ _ => by kernel_rfl))) ?_; clear T ac; intro ac T
   refine g_q (T := T) (i := 13) rfl (by kernel_rfl) (by kernel_rfl : (pbits 21 8191).setIfInBounds 13 true = pbits 21 16383) (si_and (si_G rfl) si_U) (fun _ _ _ h => h) rfl rfl rfl rfl (fun B w' hD hl hS => (rn_one (Mem.nth (show Mem w (fun b => b = bx) w' _ from ((MA.lft hS) (hD.wait (i := 13) (m := 20) (by kernel_rfl) hl))) 2 rfl) rfl (T.ev 0 rfl) rfl)) ?_; clear T ac; intro ac T
   refine g_q (v := (.pointer (some ⟨g2, 2, none⟩))) (T := T) (i := 14) rfl (by kernel_rfl) (by kernel_rfl : (pbits 21 16383).setIfInBounds 14 true = pbits 21 32767) (si_and (si_G rfl) si_U) (fun _ _ _ h => h) rfl rfl rfl rfl (fun _ _ _ _ _ => (rn_fieldAddr (off := 2) rfl (T.ev 17 rfl) (fun _ _ _ => by kernel_rfl))) ?_; clear T ac; intro ac T
   refine g_q (T := T) (i := 15) rfl (by kernel_rfl) (by kernel_rfl : (pbits 21 32767).setIfInBounds 15 true = pbits 21 65535) (si_and (si_G rfl) si_U) (fun _ _ _ h => h) rfl rfl rfl rfl (fun B w' hD hl hS => (rn_one (Mem.nth (show Mem w (fun b => b = bx) w' _ from ((MA.lft hS) (hD.wait (i := 15) (m := 20) (by kernel_rfl) hl))) 0 rfl) rfl (T.ev 0 rfl) rfl)) ?_; clear T ac; intro ac T
   refine g_q (T := T) (i := 16) rfl (by kernel_rfl) (by kernel_rfl : (pbits 21 65535).setIfInBounds 16 true = pbits 21 131071) (si_and (si_G rfl) si_U) (fun _ _ _ h => h) rfl rfl rfl rfl (fun _ _ _ _ _ => (rn_max2 rfl (T.ev 2 rfl) (T.ev 0 rfl))) ?_; clear T ac; intro ac T
   refine g_w (i := 17) (by kernel_rfl) rfl (by kernel_rfl : (pbits 21 131071).setIfInBounds 17 true = pbits 21 262143) rfl ?_; intro K hK
   refine ow_call (first := []) (cap := []) T rfl rfl rfl rfl evf (.cons (T.ev 8 rfl) (.cons (T.ev 0 rfl) .nil)) Try.func31 rfl rfl ?_
   refine Calls.mono (to_any (min (if e.tr = 0 then c9 else e.c0) c9) (max (if e.tr = 0 then c9 else e.c1) c9) _) ?_
   clear T
   rintro e wc ⟨rfl, hb⟩
   intro ac T
   replace M := M.call hb; clear hb
   refine sh_out hK _ _ (MA.mk (fun _ => M.mask [true, true, true] rfl) (M.mask [true, true, false] rfl)) ?_; clear hK K
   refine g_q (T := T) (i := 18) rfl (by kernel_rfl) (by kernel_rfl : (pbits 21 262143).setIfInBounds 18 true = pbits 21 524287) (si_and (si_G rfl) si_U) (fun _ _ _ h => h) rfl rfl rfl rfl (fun _ _ _ _ _ => (rn_nil rfl (T.ev 17 rfl))) ?_; clear T ac; intro ac T
   refine g_q (v := (.pointer (some ⟨bx, 4, none⟩))) (T := T) (i := 19) rfl (by kernel_rfl) (by kernel_rfl : (pbits 21 524287).setIfInBounds 19 true = pbits 21 1048575) (si_and (si_G rfl) si_U) (fun _ _ _ h => h) rfl rfl rfl rfl (fun _ _ _ _ _ => (rn_fieldAddr (off := 4) rfl (T.ev 0 rfl) (fun _ _ _ => by kernel_rfl))) ?_; clear T ac; intro ac T
   refine g_w (i := 20) (by kernel_rfl) rfl (by kernel_rfl : (pbits 21 1048575).setIfInBounds 20 true = pbits 21 2097151) rfl ?_; intro K hK
   refine ow_stO M T rfl rfl (T.ev 0 rfl) (T.ev 2 rfl) rfl (.tail (.tail .head)) rfl (by simp) rfl (by kernel_rfl) ?_; clear M T; intro wc ac M T
   refine sh_out hK _ _ (MA.mk (fun h => (no_of (by kernel_rfl) h).elim) (M.mask [true, true, false] rfl)) ?_; clear hK K
   refine g_done (by kernel_rfl) ?_
   replace T := T.pick [20, 21, 22, 23] rfl
   refine nm_then ?_
   refine wp_seq ?_
   refine wp_region_lit ?_
   refine l_q (v := (.pointer (some ⟨g2, 0, none⟩))) T rfl rfl rfl rfl (rn_fieldAddr (off := 0) rfl (T.ev 3 rfl) (fun _ _ _ => by kernel_rfl)) ?_; clear T ac; intro ac T
   refine l_q T rfl rfl rfl rfl (rn_one (Mem.nth M 0 rfl) rfl (T.ev 0 rfl) rfl) ?_; clear T ac; intro ac T
   refine l_q T rfl rfl rfl rfl (rn_move rfl (T.ev 3 rfl)) ?_; clear T ac; intro ac T
   refine l_w rfl ?_; intro K hK
   refine ow_call (first := []) (cap := []) T rfl rfl rfl rfl evf (.cons (T.ev 1 rfl) (.cons (T.ev 0 rfl) .nil)) Try.func111 rfl rfl ?_
   refine Calls.mono (far_any a _ _ _ l _ (SI.rd M (List.nil_sublist _)) (by first | omega | decide) (by omega) hb) ?_
   clear T
   rintro e wc ⟨rfl, hb⟩
   intro ac T
   replace M := M.call hb; clear hb
   refine sh_out hK _ _ ?_; clear hK K
   refine l_q T rfl rfl rfl rfl (rn_assign rfl (T.ev 0 rfl)) ?_; clear T ac; intro ac T
   refine wpList_nil ?_
   replace T := T.pick [0, 5, 7, 8] rfl
   refine nm_then ?_
   refine wp_seq ?_
   refine g_start2 M (M.perm [0, 1] rfl rfl) 19 (by kernel_rfl) rfl (by kernel_rfl) ?_
   clear M; intro wc M
   refine g_addG 15 M ?_
   refine g_q (T := T) (i := 0) rfl (by kernel_rfl) (by kernel_rfl : (pbits 19 0).setIfInBounds 0 true = pbits 19 1) (si_and (si_G rfl) si_U) (fun _ _ _ h => h) rfl rfl rfl rfl (fun _ _ _ _ _ => (rn_move rfl (T.ev 1 rfl))) ?_; clear T ac; intro ac T
   refine g_q (T := T) (i := 1) rfl (by kernel_rfl) (by kernel_rfl : (pbits 19 1).setIfInBounds 1 true = pbits 19 3) (si_and (si_G rfl) si_U) (fun _ _ _ h => h) rfl rfl rfl rfl (fun _ _ _ _ _ => (rn_move rfl (T.ev 2 rfl))) ?_; clear T ac; intro ac T
   refine g_q (T := T) (i := 2) rfl (by kernel_rfl) (by kernel_rfl : (pbits 19 3).setIfInBounds 2 true = pbits 19 7) (si_and (si_G rfl) si_U) (fun _ _ _ h => h) rfl rfl rfl rfl (fun _ _ _ _ _ => (rn_move rfl (T.ev 3 rfl))) ?_; clear T ac; intro ac T
   refine g_q (T := T) (i := 3) rfl (by kernel_rfl) (by kernel_rfl : (pbits 19 7).setIfInBounds 3 true = pbits 19 15) (si_and (si_G rfl) si_U) (fun _ _ _ h => h) rfl rfl rfl rfl (fun _ _ _ _ _ => (rn_nil rfl (T.ev 0 rfl))) ?_; clear T ac; intro ac T
   refine g_q (v := (.pointer (some ⟨bx, 6, none⟩))) (T := T) (i := 4) rfl (by kernel_rfl) (by kernel_rfl : (pbits 19 15).setIfInBounds 4 true = pbits 19 31) (si_and (si_G rfl) si_U) (fun _ _ _ h => h) rfl rfl rfl rfl (fun _ _ _ _ _ => (rn_fieldAddr (off := 6) rfl (T.ev 0 rfl) (fun _ _ _ => by kernel_rfl))) ?_; clear T ac; intro ac T
   refine g_q (T := T) (i := 5) rfl (by kernel_rfl) (by kernel_rfl : (pbits 19 31).setIfInBounds 5 true = pbits 19 63) (si_and (si_G rfl) si_U) (fun _ _ _ h => h) rfl rfl rfl rfl (fun B w' hD hl hS => (rn_one (Mem.nth (show Mem w (fun b => b = bx) w' _ from ((MA.lft hS) (hD.wait (i := 5) (m := 15) (by kernel_rfl) hl))) 2 rfl) rfl (T.ev 0 rfl) rfl)) ?_; clear T ac; intro ac T
   refine g_q (T := T) (i := 6) rfl (by kernel_rfl) (by kernel_rfl : (pbits 19 63).setIfInBounds 6 true = pbits 19 127) (si_and (si_G rfl) si_U) (fun _ _ _ h => h) rfl rfl rfl rfl (fun _ _ _ _ _ => (rn_move rfl (T.ev 6 rfl))) ?_; clear T ac; intro ac T
   refine g_q (T := T) (i := 7) rfl (by kernel_rfl) (by kernel_rfl : (pbits 19 127).setIfInBounds 7 true = pbits 19 255) (si_and (si_G rfl) si_U) (fun _ _ _ h => h) rfl rfl rfl rfl (fun _ _ _ _ _ => (rn_max2 rfl (T.ev 1 rfl) (T.ev 0 rfl))) ?_; clear T ac; intro ac T
   refine g_q (T := T) (i := 8) rfl (by kernel_rfl) (by kernel_rfl : (pbits 19 255).setIfInBounds 8 true = pbits 19 511) (si_and (si_G rfl) si_U) (fun _ _ _ h => h) rfl rfl rfl rfl (fun _ _ _ _ _ => (rn_move rfl (T.ev 9 rfl))) ?_; clear T ac; intro ac T
   refine g_q (T := T) (i := 9) rfl (by kernel_rfl) (by kernel_rfl : (pbits 19 511).setIfInBounds 9 true = pbits 19 1023) (si_and (si_G rfl) si_U) (fun _ _ _ h => h) rfl rfl rfl rfl (fun _ _ _ _ _ => (rn_nil rfl (T.ev 0 rfl))) ?_; clear T ac; intro ac T
   refine g_q (v := (.pointer (some ⟨bx, 10, none⟩))) (T := T) (i := 10) rfl (by kernel_rfl) (by kernel_rfl : (pbits 19 1023).setIfInBounds 10 true = pbits 19 2047) (si_and (si_G rfl) si_U) (fun _ _ _ h => h) rfl rfl rfl rfl (fun _ _ _ _ _ => (rn_fieldAddr (off := 10) rfl (T.ev 0 rfl) (fun _ _ _ => by kernel_rfl))) ?_; clear T ac; intro ac T
   refine g_q (T := T) (i := 11) rfl (by kernel_rfl) (by kernel_rfl : (pbits 19 2047).setIfInBounds 11 true = pbits 19 4095) (si_and (si_G rfl) si_U) (fun _ _ _ h => h) rfl rfl rfl rfl (fun B w' hD hl hS => (rn_one (Mem.nth (show Mem w (fun b => b = bx) w' _ from ((MA.lft hS) (hD.wait (i := 11) (m := 15) (by kernel_rfl) hl))) 2 rfl) rfl (T.ev 0 rfl) rfl)) ?_; clear T ac; intro ac T
   refine g_q (T := T) (i := 12) rfl (by kernel_rfl) (by kernel_rfl : (pbits 19 4095).setIfInBounds 12 true = pbits 19 8191) (si_and (si_G rfl) si_U) (fun _ _ _ h => h) rfl rfl rfl rfl (fun _ _ _ _ _ => (rn_add rfl (T.ev 0 rfl) evc (by omega))) ?_; clear T ac; intro ac T
   refine g_q (T := T) (i := 13) rfl (by kernel_rfl) (by kernel_rfl : (pbits 19 8191).setIfInBounds 13 true = pbits 19 16383) (si_and (si_G rfl) si_U) (fun _ _ _ h => h) rfl rfl rfl rfl (fun _ _ _ _ _ => (rn_nil rfl (T.ev 12 rfl))) ?_; clear T ac; intro ac T
   refine g_q (v := (.pointer (some ⟨bx, 6, none⟩))) (T := T) (i := 14) rfl (by kernel_rfl) (by kernel_rfl : (pbits 19 16383).setIfInBounds 14 true = pbits 19 32767) (si_and (si_G rfl) si_U) (fun _ _ _ h => h) rfl rfl rfl rfl (fun _ _ _ _ _ => (rn_fieldAddr (off := 6) rfl (T.ev 0 rfl) (fun _ _ _ => by kernel_rfl))) ?_; clear T ac; intro ac T
   refine g_w (i := 15) (by kernel_rfl) rfl (by kernel_rfl : (pbits 19 32767).setIfInBounds 15 true = pbits 19 65535) rfl ?_; intro K hK
   refine ow_stO M T rfl rfl (T.ev 0 rfl) (T.ev 7 rfl) rfl (.tail (.tail .head)) rfl (by simp) rfl (by kernel_rfl) ?_; clear M T; intro wc ac M T
   refine sh_out hK _ _ (MA.mk (fun h => (no_of (by kernel_rfl) h).elim) (M.mask [true, true, false] rfl)) ?_; clear hK K
   refine g_q (T := T) (i := 16) rfl (by kernel_rfl) (by kernel_rfl : (pbits 19 65535).setIfInBounds 16 true = pbits 19 131071) (si_and (si_G rfl) si_U) (fun _ _ _ h => h) rfl rfl rfl rfl (fun _ _ _ _ _ => (rn_nil rfl (T.ev 13 rfl))) ?_; clear T ac; intro ac T
   refine g_q (v := (.pointer (some ⟨bx, 10, none⟩))) (T := T) (i := 17) rfl (by kernel_rfl) (by kernel_rfl : (pbits 19 131071).setIfInBounds 17 true = pbits 19 262143) (si_and (si_G rfl) si_U) (fun _ _ _ h => h) rfl rfl rfl rfl (fun _ _ _ _ _ => (rn_fieldAddr (off := 10) rfl (T.ev 0 rfl) (fun _ _ _ => by kernel_rfl))) ?_; clear T ac; intro ac T
   refine g_w (i := 18) (by kernel_rfl) rfl (by kernel_rfl : (pbits 19 262143).setIfInBounds 18 true = pbits 19 524287) rfl ?_; intro K hK
   refine ow_stO M T rfl rfl (T.ev 0 rfl) (T.ev 4 rfl) rfl (.tail (.tail .head)) rfl (by simp) rfl (by kernel_rfl) ?_; clear M T; intro wc ac M T
   refine sh_out hK _ _ (MA.mk (fun h => (no_of (by kernel_rfl) h).elim) (M.mask [true, true, false] rfl)) ?_; clear hK K
   refine g_done (by kernel_rfl) ?_
   replace T := T.pick [17, 18, 19, 20] rfl
   refine nm_then ?_
   refine cut_seq (fun ac wc => Tm ac 168 [(0, .pointer (some ⟨bx, 0, none⟩)), (5, .pointer (some ⟨g1, 0, none⟩)), (8, .int .i64 (farF a l)), (9, .bool ((decide (b < j.le)) || (decide (c9 < j.le))))] ∧ Mem w (fun b => b = bx) wc [(g1, .cells (jobL j A c)), (bx, .cells [.int .i64 (min (if e.tr = 0 then a else e.a0) a), .int .i64 (max (if e.tr = 0 then a else e.a1) a), .int .i64 (min (if e.tr = 0 then b else e.b0) b), .int .i64 (max (if e.tr = 0 then b else e.b1) b), .int .i64 (min (if e.tr = 0 then c9 else e.c0) c9), .int .i64 (max (if e.tr = 0 then c9 else e.c1) c9), .int .i64 (max e.wo (farF a l)), .int .i64 e.pa, .int .i64 e.th, .int .i64 e.fi, .int .i64 (e.tr + 1)])]) ?_ ?_
   ·refine wp_region_lit ?_
    refine l_q (v := (.pointer (some ⟨g2, 1, none⟩))) T rfl rfl rfl rfl (rn_fieldAddr (off := 1) rfl (T.ev 3 rfl) (fun _ _ _ => by kernel_rfl)) ?_; clear T ac; intro ac T
    refine l_q T rfl rfl rfl rfl (rn_one (Mem.nth M 0 rfl) rfl (T.ev 0 rfl) rfl) ?_; clear T ac; intro ac T
    refine l_q (v := (.pointer (some ⟨g1, 6, none⟩))) T rfl rfl rfl rfl (rn_fieldAddr (off := 6) rfl (T.ev 4 rfl) (fun _ _ _ => by kernel_rfl)) ?_; clear T ac; intro ac T
    refine l_q (v := (.pointer (some ⟨g1, 14, none⟩))) T rfl rfl rfl rfl (rn_fieldAddr (off := 8) rfl (T.ev 0 rfl) (fun _ _ _ => by kernel_rfl)) ?_; clear T ac; intro ac T
    refine l_q T rfl rfl rfl rfl (rn_one (Mem.nth M 1 rfl) rfl (T.ev 0 rfl) rfl) ?_; clear T ac; intro ac T
    refine l_q T rfl rfl rfl rfl (rn_lss rfl (T.ev 3 rfl) (T.ev 0 rfl)) ?_; clear T ac; intro ac T
    refine l_q T rfl rfl rfl rfl (rn_move rfl (T.ev 0 rfl)) ?_; clear T ac; intro ac T
    rcases Bool.eq_false_or_eq_true (decide (b < j.le)) with h2 | h2
    ·replace h2 := of_decide_eq_true h2
     refine l_pass T (wanted_no rfl rfl (T.ev 0 rfl) (decide_eq_true h2)) rfl rfl rfl ?_; clear T ac; intro ac T
     refine l_pass T (wanted_no rfl rfl (T.ev 1 rfl) (decide_eq_true h2)) rfl rfl rfl ?_; clear T ac; intro ac T
     refine l_pass T (wanted_no rfl rfl (T.ev 2 rfl) (decide_eq_true h2)) rfl rfl rfl ?_; clear T ac; intro ac T
     refine l_pass T (wanted_no rfl rfl (T.ev 3 rfl) (decide_eq_true h2)) rfl rfl rfl ?_; clear T ac; intro ac T
     refine l_pass T (wanted_no rfl rfl (T.ev 4 rfl) (decide_eq_true h2)) rfl rfl rfl ?_; clear T ac; intro ac T
     refine l_pass T (wanted_no rfl rfl (T.ev 5 rfl) (decide_eq_true h2)) rfl rfl rfl ?_; clear T ac; intro ac T
     refine l_q T rfl rfl rfl rfl (rn_pick1 rfl (T.ev 6 rfl) (decide_eq_true h2) evc) ?_; clear T ac; intro ac T
     refine l_q T rfl rfl rfl rfl (rn_assign rfl (T.ev 0 rfl)) ?_; clear T ac; intro ac T
     refine wpList_nil ?_
     replace T := T.pick [0, 15, 16, 17] rfl
     replace M := M.mask [false, true, true] rfl
     exact ⟨(T.pick (E' := [(0, .pointer (some ⟨bx, 0, none⟩)), (5, .pointer (some ⟨g1, 0, none⟩)), (8, .int .i64 (farF a l)), (9, .bool true)]) [2, 3, 1, 0] rfl).as (by (try rw [show (decide (b < j.le)) = true from (decide_eq_true h2)]); (try rfl)), M.mask [true, true] rfl⟩
    ·replace h2 := of_decide_eq_false h2
     refine l_q (v := (.pointer (some ⟨g2, 2, none⟩))) T (wanted_yes rfl rfl (T.ev 0 rfl) (decide_eq_false h2)) rfl rfl rfl (rn_fieldAddr (off := 2) rfl (T.ev 10 rfl) (fun _ _ _ => by kernel_rfl)) ?_; clear T ac; intro ac T
     refine l_q T (wanted_yes rfl rfl (T.ev 1 rfl) (decide_eq_false h2)) rfl rfl rfl (rn_one (Mem.nth M 0 rfl) rfl (T.ev 0 rfl) rfl) ?_; clear T ac; intro ac T
     refine l_q (v := (.pointer (some ⟨g1, 6, none⟩))) T (wanted_yes rfl rfl (T.ev 2 rfl) (decide_eq_false h2)) rfl rfl rfl (rn_fieldAddr (off := 6) rfl (T.ev 11 rfl) (fun _ _ _ => by kernel_rfl)) ?_; clear T ac; intro ac T
     refine l_q (v := (.pointer (some ⟨g1, 14, none⟩))) T (wanted_yes rfl rfl (T.ev 3 rfl) (decide_eq_false h2)) rfl rfl rfl (rn_fieldAddr (off := 8) rfl (T.ev 0 rfl) (fun _ _ _ => by kernel_rfl)) ?_; clear T ac; intro ac T
     refine l_q T (wanted_yes rfl rfl (T.ev 4 rfl) (decide_eq_false h2)) rfl rfl rfl (rn_one (Mem.nth M 1 rfl) rfl (T.ev 0 rfl) rfl) ?_; clear T ac; intro ac T
     refine l_q T (wanted_yes rfl rfl (T.ev 5 rfl) (decide_eq_false h2)) rfl rfl rfl (rn_lss rfl (T.ev 3 rfl) (T.ev 0 rfl)) ?_; clear T ac; intro ac T
     refine l_q T rfl rfl rfl rfl (rn_pick0 rfl (T.ev 6 rfl) (decide_eq_false h2) (T.ev 0 rfl)) ?_; clear T ac; intro ac T
     refine l_q T rfl rfl rfl rfl (rn_assign rfl (T.ev 0 rfl)) ?_; clear T ac; intro ac T
     refine wpList_nil ?_
     replace T := T.pick [0, 15, 16, 17] rfl
     replace M := M.mask [false, true, true] rfl
     exact ⟨(T.pick (E' := [(0, .pointer (some ⟨bx, 0, none⟩)), (5, .pointer (some ⟨g1, 0, none⟩)), (8, .int .i64 (farF a l)), (9, .bool (decide (c9 < j.le)))]) [2, 3, 1, 0] rfl).as (by (try rw [show (decide (b < j.le)) = false from (decide_eq_false h2)]); (try rfl)), M.mask [true, true] rfl⟩
   ·clear T M
    rintro ac wc ⟨T, M⟩
    refine cut_seq (fun ac wc => Tm ac 168 [(0, .pointer (some ⟨bx, 0, none⟩)), (5, .pointer (some ⟨g1, 0, none⟩)), (8, .int .i64 (farF a l)), (9, .bool ((decide (b < j.le)) || (decide (c9 < j.le))))] ∧ Mem w (fun b => b = bx) wc [(g1, .cells (jobL j A c)), (bx, .cells [.int .i64 (min (if e.tr = 0 then a else e.a0) a), .int .i64 (max (if e.tr = 0 then a else e.a1) a), .int .i64 (min (if e.tr = 0 then b else e.b0) b), .int .i64 (max (if e.tr = 0 then b else e.b1) b), .int .i64 (min (if e.tr = 0 then c9 else e.c0) c9), .int .i64 (max (if e.tr = 0 then c9 else e.c1) c9), .int .i64 (max e.wo (farF a l)), .int .i64 (if (farF a l) ≤ j.wi then (e.pa + 1) else e.pa), .int .i64 e.th, .int .i64 e.fi, .int .i64 (e.tr + 1)])]) ?_ ?_
    ·refine wp_seq ?_
     refine wp_region_lit ?_
     refine l_q T rfl rfl rfl rfl (rn_move rfl (T.ev 2 rfl)) ?_; clear T ac; intro ac T
     refine l_q (v := (.pointer (some ⟨g1, 16, none⟩))) T rfl rfl rfl rfl (rn_fieldAddr (off := 16) rfl (T.ev 2 rfl) (fun _ _ _ => by kernel_rfl)) ?_; clear T ac; intro ac T
     refine l_q T rfl rfl rfl rfl (rn_one (Mem.nth M 0 rfl) rfl (T.ev 0 rfl) rfl) ?_; clear T ac; intro ac T
     refine l_q T rfl rfl rfl rfl (rn_leq rfl (T.ev 2 rfl) (T.ev 0 rfl)) ?_; clear T ac; intro ac T
     refine wpList_nil ?_
     replace T := T.pick [0, 4, 5, 6, 7] rfl
     refine nm_then ?_
     refine wp_if (T.ev 0 rfl) ?_ ?_
     ·intro h3
      refine wp_region_lit ?_
      refine l_q T rfl rfl rfl rfl (rn_move rfl (T.ev 1 rfl)) ?_; clear T ac; intro ac T
      refine l_q T rfl rfl rfl rfl (rn_nil rfl (T.ev 0 rfl)) ?_; clear T ac; intro ac T
      refine l_q (v := (.pointer (some ⟨bx, 7, none⟩))) T rfl rfl rfl rfl (rn_fieldAddr (off := 7) rfl (T.ev 0 rfl) (fun _ _ _ => by kernel_rfl)) ?_; clear T ac; intro ac T
      refine l_q T rfl rfl rfl rfl (rn_one (Mem.nth M 1 rfl) rfl (T.ev 0 rfl) rfl) ?_; clear T ac; intro ac T
      refine l_q T rfl rfl rfl rfl (rn_add rfl (T.ev 0 rfl) evc (by omega)) ?_; clear T ac; intro ac T
      refine l_q T rfl rfl rfl rfl (rn_nil rfl (T.ev 4 rfl)) ?_; clear T ac; intro ac T
      refine l_q (v := (.pointer (some ⟨bx, 7, none⟩))) T rfl rfl rfl rfl (rn_fieldAddr (off := 7) rfl (T.ev 0 rfl) (fun _ _ _ => by kernel_rfl)) ?_; clear T ac; intro ac T
      refine l_w rfl ?_; intro K hK
      refine ow_stO M T rfl rfl (T.ev 0 rfl) (T.ev 2 rfl) rfl (.tail .head) rfl (by simp) rfl (by kernel_rfl) ?_; clear M T; intro wc ac M T
      refine sh_out hK _ _ ?_; clear hK K
      refine wpList_nil ?_
      replace T := T.pick [8, 9, 10, 11] rfl
      exact ⟨(T.pick (E' := [(0, .pointer (some ⟨bx, 0, none⟩)), (5, .pointer (some ⟨g1, 0, none⟩)), (8, .int .i64 (farF a l)), (9, .bool ((decide (b < j.le)) || (decide (c9 < j.le))))]) [0, 1, 2, 3] rfl).as (by (try rw [show (decide ((farF a l) ≤ j.wi)) = true from (decide_eq_true h3)]); (try simp only [if_pos h3]); (try rfl)), (by (try rw [show (decide ((farF a l) ≤ j.wi)) = true from (decide_eq_true h3)]); (try simp only [if_pos h3]); exact M.mask [true, true] rfl)⟩
     ·intro h3
      refine wp_skip ?_
      exact ⟨(T.pick (E' := [(0, .pointer (some ⟨bx, 0, none⟩)), (5, .pointer (some ⟨g1, 0, none⟩)), (8, .int .i64 (farF a l)), (9, .bool ((decide (b < j.le)) || (decide (c9 < j.le))))]) [1, 2, 3, 4] rfl).as (by (try rw [show (decide ((farF a l) ≤ j.wi)) = false from (decide_eq_false h3)]); (try simp only [if_neg h3]); (try rfl)), (by (try rw [show (decide ((farF a l) ≤ j.wi)) = false from (decide_eq_false h3)]); (try simp only [if_neg h3]); exact M.mask [true, true] rfl)⟩
    ·clear T M
     rintro ac wc ⟨T, M⟩
     refine cut_seq (fun ac wc => Tm ac 168 [(0, .pointer (some ⟨bx, 0, none⟩)), (5, .pointer (some ⟨g1, 0, none⟩)), (8, .int .i64 (farF a l)), (9, .bool ((decide (b < j.le)) || (decide (c9 < j.le))))] ∧ Mem w (fun b => b = bx) wc [(g1, .cells (jobL j A c)), (bx, .cells [.int .i64 (min (if e.tr = 0 then a else e.a0) a), .int .i64 (max (if e.tr = 0 then a else e.a1) a), .int .i64 (min (if e.tr = 0 then b else e.b0) b), .int .i64 (max (if e.tr = 0 then b else e.b1) b), .int .i64 (min (if e.tr = 0 then c9 else e.c0) c9), .int .i64 (max (if e.tr = 0 then c9 else e.c1) c9), .int .i64 (max e.wo (farF a l)), .int .i64 (if (farF a l) ≤ j.wi then (e.pa + 1) else e.pa), .int .i64 (bif ((decide (b < j.le)) || (decide (c9 < j.le))) then (e.th + 1) else e.th), .int .i64 e.fi, .int .i64 (e.tr + 1)])]) ?_ ?_
     ·refine wp_seq ?_
      refine wp_region_lit ?_
      refine l_q T rfl rfl rfl rfl (rn_move rfl (T.ev 3 rfl)) ?_; clear T ac; intro ac T
      refine wpList_nil ?_
      refine nm_then ?_
      refine wp_cond_split (T.ev 0 rfl) ?_ ?_
      ·intro h4
       (try have h4' := h4; try simp only [Bool.and_eq_true, Bool.or_eq_true, Bool.not_eq_true', Bool.and_eq_false_imp, Bool.or_eq_false_iff, decide_eq_true_eq, decide_eq_false_iff_not] at h4')
       refine wp_region_lit ?_
       refine l_q T rfl rfl rfl rfl (rn_move rfl (T.ev 1 rfl)) ?_; clear T ac; intro ac T
       refine l_q T rfl rfl rfl rfl (rn_nil rfl (T.ev 0 rfl)) ?_; clear T ac; intro ac T
       refine l_q (v := (.pointer (some ⟨bx, 8, none⟩))) T rfl rfl rfl rfl (rn_fieldAddr (off := 8) rfl (T.ev 0 rfl) (fun _ _ _ => by kernel_rfl)) ?_; clear T ac; intro ac T
       refine l_q T rfl rfl rfl rfl (rn_one (Mem.nth M 1 rfl) rfl (T.ev 0 rfl) rfl) ?_; clear T ac; intro ac T
       refine l_q T rfl rfl rfl rfl (rn_add rfl (T.ev 0 rfl) evc (by omega)) ?_; clear T ac; intro ac T
       refine l_q T rfl rfl rfl rfl (rn_nil rfl (T.ev 4 rfl)) ?_; clear T ac; intro ac T
       refine l_q (v := (.pointer (some ⟨bx, 8, none⟩))) T rfl rfl rfl rfl (rn_fieldAddr (off := 8) rfl (T.ev 0 rfl) (fun _ _ _ => by kernel_rfl)) ?_; clear T ac; intro ac T
       refine l_w rfl ?_; intro K hK
       refine ow_stO M T rfl rfl (T.ev 0 rfl) (T.ev 2 rfl) rfl (.tail .head) rfl (by simp) rfl (by kernel_rfl) ?_; clear M T; intro wc ac M T
       refine sh_out hK _ _ ?_; clear hK K
       refine wpList_nil ?_
       replace T := T.pick [8, 9, 10, 11] rfl
       exact ⟨(T.pick (E' := [(0, .pointer (some ⟨bx, 0, none⟩)), (5, .pointer (some ⟨g1, 0, none⟩)), (8, .int .i64 (farF a l)), (9, .bool ((decide (b < j.le)) || (decide (c9 < j.le))))]) [0, 1, 2, 3] rfl).as (by (try rw [show ((decide (b < j.le)) || (decide (c9 < j.le))) = true from h4]); (try rfl)), (by (try rw [show ((decide (b < j.le)) || (decide (c9 < j.le))) = true from h4]); exact M.mask [true, true] rfl)⟩
      ·intro h4
       (try have h4' := h4; try simp only [Bool.and_eq_true, Bool.or_eq_true, Bool.not_eq_true', Bool.and_eq_false_imp, Bool.or_eq_false_iff, decide_eq_true_eq, decide_eq_false_iff_not] at h4')
       refine wp_skip ?_
       exact ⟨(T.pick (E' := [(0, .pointer (some ⟨bx, 0, none⟩)), (5, .pointer (some ⟨g1, 0, none⟩)), (8, .int .i64 (farF a l)), (9, .bool ((decide (b < j.le)) || (decide (c9 < j.le))))]) [1, 2, 3, 4] rfl).as (by (try rw [show ((decide (b < j.le)) || (decide (c9 < j.le))) = false from h4]); (try rfl)), (by (try rw [show ((decide (b < j.le)) || (decide (c9 < j.le))) = false from h4]); exact M.mask [true, true] rfl)⟩
     ·clear T M
      rintro ac wc ⟨T, M⟩
      refine cut_seq (fun ac wc => Tm ac 168 [(0, .pointer (some ⟨bx, 0, none⟩)), (160, .bool ((decide ((farF a l) ≤ j.wi)) && (!((decide (b < j.le)) || (decide (c9 < j.le))))))] ∧ Mem w (fun b => b = bx) wc [(bx, .cells [.int .i64 (min (if e.tr = 0 then a else e.a0) a), .int .i64 (max (if e.tr = 0 then a else e.a1) a), .int .i64 (min (if e.tr = 0 then b else e.b0) b), .int .i64 (max (if e.tr = 0 then b else e.b1) b), .int .i64 (min (if e.tr = 0 then c9 else e.c0) c9), .int .i64 (max (if e.tr = 0 then c9 else e.c1) c9), .int .i64 (max e.wo (farF a l)), .int .i64 (if (farF a l) ≤ j.wi then (e.pa + 1) else e.pa), .int .i64 (bif ((decide (b < j.le)) || (decide (c9 < j.le))) then (e.th + 1) else e.th), .int .i64 e.fi, .int .i64 (e.tr + 1)])]) ?_ ?_
      ·refine wp_region_lit ?_
       refine l_q T rfl rfl rfl rfl (rn_move rfl (T.ev 2 rfl)) ?_; clear T ac; intro ac T
       refine l_q (v := (.pointer (some ⟨g1, 16, none⟩))) T rfl rfl rfl rfl (rn_fieldAddr (off := 16) rfl (T.ev 2 rfl) (fun _ _ _ => by kernel_rfl)) ?_; clear T ac; intro ac T
       refine l_q T rfl rfl rfl rfl (rn_one (Mem.nth M 0 rfl) rfl (T.ev 0 rfl) rfl) ?_; clear T ac; intro ac T
       refine l_q T rfl rfl rfl rfl (rn_leq rfl (T.ev 2 rfl) (T.ev 0 rfl)) ?_; clear T ac; intro ac T
       refine l_q T rfl rfl rfl rfl (rn_move rfl (T.ev 0 rfl)) ?_; clear T ac; intro ac T
       rcases Bool.eq_false_or_eq_true (decide ((farF a l) ≤ j.wi)) with h5 | h5
       ·replace h5 := of_decide_eq_true h5
        refine l_q T (wanted_yes rfl rfl (T.ev 0 rfl) (decide_eq_true h5)) rfl rfl rfl (rn_move rfl (T.ev 8 rfl)) ?_; clear T ac; intro ac T
        refine l_q T (wanted_yes rfl rfl (T.ev 1 rfl) (decide_eq_true h5)) rfl rfl rfl (rn_not rfl (T.ev 0 rfl)) ?_; clear T ac; intro ac T
        refine l_q T rfl rfl rfl rfl (rn_pick1 rfl (T.ev 2 rfl) (decide_eq_true h5) (T.ev 0 rfl)) ?_; clear T ac; intro ac T
        refine wpList_nil ?_
        replace T := T.pick [0, 8] rfl
        replace M := M.mask [false, true] rfl
        exact ⟨(T.pick (E' := [(0, .pointer (some ⟨bx, 0, none⟩)), (160, .bool (!((decide (b < j.le)) || (decide (c9 < j.le)))))]) [1, 0] rfl).as (by (try rw [show (decide ((farF a l) ≤ j.wi)) = true from (decide_eq_true h5)]); (try simp only [if_pos h5]); (try rfl)), M.mask [true] rfl⟩
       ·replace h5 := of_decide_eq_false h5
        refine l_pass T (wanted_no rfl rfl (T.ev 0 rfl) (decide_eq_false h5)) rfl rfl rfl ?_; clear T ac; intro ac T
        refine l_pass T (wanted_no rfl rfl (T.ev 1 rfl) (decide_eq_false h5)) rfl rfl rfl ?_; clear T ac; intro ac T
        refine l_q T rfl rfl rfl rfl (rn_pick0 rfl (T.ev 2 rfl) (decide_eq_false h5) evc) ?_; clear T ac; intro ac T
        refine wpList_nil ?_
        replace T := T.pick [0, 8] rfl
        replace M := M.mask [false, true] rfl
        exact ⟨(T.pick (E' := [(0, .pointer (some ⟨bx, 0, none⟩)), (160, .bool false)]) [1, 0] rfl).as (by (try rw [show (decide ((farF a l) ≤ j.wi)) = false from (decide_eq_false h5)]); (try simp only [if_neg h5]); (try rfl)), M.mask [true] rfl⟩
      ·clear T M
       rintro ac wc ⟨T, M⟩
       refine wp_cond_split (T.ev 1 rfl) ?_ ?_
       ·intro h6
        (try have h6' := h6; try simp only [Bool.and_eq_true, Bool.or_eq_true, Bool.not_eq_true', Bool.and_eq_false_imp, Bool.or_eq_false_iff, decide_eq_true_eq, decide_eq_false_iff_not] at h6')
        refine wp_region_lit ?_
        refine l_q T rfl rfl rfl rfl (rn_move rfl (T.ev 0 rfl)) ?_; clear T ac; intro ac T
        refine l_q T rfl rfl rfl rfl (rn_nil rfl (T.ev 0 rfl)) ?_; clear T ac; intro ac T
        refine l_q (v := (.pointer (some ⟨bx, 9, none⟩))) T rfl rfl rfl rfl (rn_fieldAddr (off := 9) rfl (T.ev 0 rfl) (fun _ _ _ => by kernel_rfl)) ?_; clear T ac; intro ac T
        refine l_q T rfl rfl rfl rfl (rn_one (Mem.nth M 0 rfl) rfl (T.ev 0 rfl) rfl) ?_; clear T ac; intro ac T
        refine l_q T rfl rfl rfl rfl (rn_add rfl (T.ev 0 rfl) evc (by omega)) ?_; clear T ac; intro ac T
        refine l_q T rfl rfl rfl rfl (rn_nil rfl (T.ev 4 rfl)) ?_; clear T ac; intro ac T
        refine l_q (v := (.pointer (some ⟨bx, 9, none⟩))) T rfl rfl rfl rfl (rn_fieldAddr (off := 9) rfl (T.ev 0 rfl) (fun _ _ _ => by kernel_rfl)) ?_; clear T ac; intro ac T
        refine l_w rfl ?_; intro K hK
        refine ow_stO M T rfl rfl (T.ev 0 rfl) (T.ev 2 rfl) rfl .head rfl (by simp) rfl (by kernel_rfl) ?_; clear M T; intro wc ac M T
        refine sh_out hK _ _ ?_; clear hK K
        refine wpList_nil ?_
        replace T := T.pick [] rfl
        refine nm_0 T rfl ?_
        refine ⟨rfl, M.grown, ?_⟩
        have e9 : enC (En.note j e ((a, b, c9), l)) = [.int .i64 (min (if e.tr = 0 then a else e.a0) a), .int .i64 (max (if e.tr = 0 then a else e.a1) a), .int .i64 (min (if e.tr = 0 then b else e.b0) b), .int .i64 (max (if e.tr = 0 then b else e.b1) b), .int .i64 (min (if e.tr = 0 then c9 else e.c0) c9), .int .i64 (max (if e.tr = 0 then c9 else e.c1) c9), .int .i64 (max e.wo (farF a l)), .int .i64 (if (farF a l) ≤ j.wi then (e.pa + 1) else e.pa), .int .i64 (bif ((decide (b < j.le)) || (decide (c9 < j.le))) then (e.th + 1) else e.th), .int .i64 (e.fi + 1), .int .i64 (e.tr + 1)] := by
          unfold enC En.note
          dsimp only
          rw [show (decide (farF a l ≤ j.wi) && !thinB j b c9) = true from h6]
          rfl
        rw [e9]
        exact M.nth 0 rfl
       ·intro h6
        (try have h6' := h6; try simp only [Bool.and_eq_true, Bool.or_eq_true, Bool.not_eq_true', Bool.and_eq_false_imp, Bool.or_eq_false_iff, decide_eq_true_eq, decide_eq_false_iff_not] at h6')
        refine wp_skip ?_
        refine nm_0 T rfl ?_
        refine ⟨rfl, M.grown, ?_⟩
        have e9 : enC (En.note j e ((a, b, c9), l)) = [.int .i64 (min (if e.tr = 0 then a else e.a0) a), .int .i64 (max (if e.tr = 0 then a else e.a1) a), .int .i64 (min (if e.tr = 0 then b else e.b0) b), .int .i64 (max (if e.tr = 0 then b else e.b1) b), .int .i64 (min (if e.tr = 0 then c9 else e.c0) c9), .int .i64 (max (if e.tr = 0 then c9 else e.c1) c9), .int .i64 (max e.wo (farF a l)), .int .i64 (if (farF a l) ≤ j.wi then (e.pa + 1) else e.pa), .int .i64 (bif ((decide (b < j.le)) || (decide (c9 < j.le))) then (e.th + 1) else e.th), .int .i64 e.fi, .int .i64 (e.tr + 1)] := by
          unfold enC En.note
          dsimp only
          rw [show (decide (farF a l ≤ j.wi) && !thinB j b c9) = false from h6]
          rfl
        rw [e9]
        exact M.nth 0 rfl

def shR (j : Jb) (n : Nat) (f : Int × Int × Int) (l : List Int) : List Tr := (shT (j.sh.drop n) l).map fun q => (f, q)
theorem shR_end (j : Jb) (f : Int × Int × Int) (l : List Int) (n : Nat) (h : j.sh.length ≤ n) : shR j n f l = [(f, if l = [] then [0] else l)] := by
  unfold shR
  rw [List.drop_of_length_le h]
  rfl
theorem shR_step {j : Jb} {n : Nat} {s0 s1 : Int} (f : Int × Int × Int) (l : List Int) (hd : j.sh.drop n = (s0, s1) :: j.sh.drop (n + 1)) : shR j n f l = (rangeI s0 s1).flatMap fun q => shR j (n + 1) f (l ++ [q]) := by
  unfold shR
  rw [hd, shT, List.map_flatMap]
def AllShC (j : Jb) (A : Option Addr) (c bx n : Nat) : Prop := ∀ (e : En) (a b c9 : Int) (B2 : Option Addr) (d2 : Nat) (D : Option Addr) (d : Nat) (l : List Int) (w : World), l.length = n → (-10000 ≤ a ∧ a ≤ 10000) → (-10000 ≤ b ∧ b ≤ 10000) → (-10000 ≤ c9 ∧ c9 ≤ 10000) → e.ok (shR j n (a, b, c9) l).length →
  Rd w w.heap.size 2 A j.sh.length (rc j.sh) → (∀ b o, A = some ⟨b, o, none⟩ → b ≠ bx) → Rd w w.heap.size 1 D l.length (ic l) → (∀ b o, D = some ⟨b, o, none⟩ → b ≠ bx) → (∀ s ∈ l, -1000 ≤ s ∧ s ≤ 1000) → Bk w bx (enC e).toArray →
  Calls Try.prog 61 #[.pointer (some ⟨bx, 0, none⟩), jobV j A c, .agg #[.int .i64 a, .int .i64 b, .int .i64 c9], .slice B2 0 d2, .slice D l.length d] w (EnPost bx (En.all j e (shR j n (a, b, c9) l)) w)


set_option maxRecDepth 100000 in
set_option maxHeartbeats 1000000 in
theorem all_end (bx : Nat) (e : En) (j : Jb) (A : Option Addr) (c : Nat) (a b c9 : Int) (B2 : Option Addr) (d2 : Nat) (D : Option Addr) (d : Nat) (l : List Int) (w : World) (hj : j.good) (ha : -10000 ≤ a ∧ a ≤ 10000) (hb9 : -10000 ≤ b ∧ b ≤ 10000) (hc9 : -10000 ≤ c9 ∧ c9 ≤ 10000) (hr : Rd w w.heap.size 2 A j.sh.length (rc j.sh)) (hneA : ∀ b o, A = some ⟨b, o, none⟩ → b ≠ bx) (hl : Rd w w.heap.size 1 D l.length (ic l)) (hneD : ∀ b o, D = some ⟨b, o, none⟩ → b ≠ bx) (hb : ∀ s ∈ l, -1000 ≤ s ∧ s ≤ 1000) (hp : Bk w bx (enC e).toArray) (hn : l.length = j.sh.length) (he : e.ok 1) :
    Calls Try.prog 61 #[.pointer (some ⟨bx, 0, none⟩), jobV j A c, .agg #[.int .i64 a, .int .i64 b, .int .i64 c9], .slice B2 0 d2, .slice D l.length d] w (EnPost bx (En.all j e (shR j l.length (a, b, c9) l)) w) := by
  have hfw := hj.few
  obtain ⟨bJ, oJ, SJ⟩ := Sp.oldEx hr hneA
  obtain ⟨bI, oI, SI⟩ := Sp.oldEx hl hneD
  refine px_enter (fun b => b = bx) Try.func61 rfl 128 rfl [.pointer (some ⟨bx, 0, none⟩), .agg #[.int .i64 j.p0, .int .i64 j.p1, .int .i64 j.t0, .int .i64 j.t1, .int .i64 j.r0, .int .i64 j.r1, .int .i64 j.u0, .int .i64 j.u1, .int .i64 j.d0, .int .i64 j.d1, .int .i64 j.a0, .int .i64 j.a1, .int .i64 j.b0, .int .i64 j.b1, .int .i64 j.le, .slice A j.sh.length c, .int .i64 j.wi, .int .i64 j.me], .agg #[.int .i64 a, .int .i64 b, .int .i64 c9], .slice B2 0 d2, .slice D l.length d] rfl rfl (Mem.initEx (p := .cells (enC e)) hp) ?_
  intro ac wc T M
  replace M : Mem w (fun b => b = bx) wc [(bx, .cells [.int .i64 e.a0, .int .i64 e.a1, .int .i64 e.b0, .int .i64 e.b1, .int .i64 e.c0, .int .i64 e.c1, .int .i64 e.wo, .int .i64 e.pa, .int .i64 e.th, .int .i64 e.fi, .int .i64 e.tr])] := M
  refine wp_seq ?_
  refine wp_region_lit ?_
  refine l_w rfl ?_; intro K hK
  refine ow_bx M T rfl rfl rfl rfl (T.ev 1 rfl) rfl ?_; clear M T; intro g1 wc ac M T
  refine sh_out hK _ _ ?_; clear hK K
  refine l_w rfl ?_; intro K hK
  refine ow_bx M T rfl rfl rfl rfl (T.ev 3 rfl) rfl ?_; clear M T; intro g2 wc ac M T
  refine sh_out hK _ _ ?_; clear hK K
  refine wpList_nil ?_
  replace T := T.pick [0, 1, 2, 5, 6] rfl
  refine nm_then ?_
  refine wp_seq ?_
  refine wp_seq ?_
  refine wp_region_lit ?_
  refine l_q T rfl rfl rfl rfl (rn_move rfl (T.ev 3 rfl)) ?_; clear T ac; intro ac T
  refine l_q (v := (.int .i64 0)) T rfl rfl rfl rfl (rn_lenS rfl Try.underlying31 (T.ev 0 rfl)) ?_; clear T ac; intro ac T
  refine l_q (v := (.bool true)) T rfl rfl rfl rfl (rn_neqof (rn_eql rfl (T.ev 0 rfl) evc) (by simp)) ?_; clear T ac; intro ac T
  refine wpList_nil ?_
  replace T := T.pick [0, 3, 4, 5, 6, 7] rfl
  refine nm_then ?_
  refine wp_cond_true (T.ev 0 rfl) ?_
  refine wp_seq ?_
  refine wp_seq ?_
  refine wp_region_lit ?_
  refine l_q T rfl rfl rfl rfl (rn_move rfl (T.ev 5 rfl)) ?_; clear T ac; intro ac T
  refine l_q T rfl rfl rfl rfl (rn_lenS rfl Try.underlying31 (T.ev 0 rfl)) ?_; clear T ac; intro ac T
  refine l_q (v := (.pointer (some ⟨g1, 15, none⟩))) T rfl rfl rfl rfl (rn_fieldAddr (off := 15) rfl (T.ev 4 rfl) (fun _ _ _ => by kernel_rfl)) ?_; clear T ac; intro ac T
  refine l_q T rfl rfl rfl rfl (rn_one (Mem.nth M 1 rfl) rfl (T.ev 0 rfl) rfl) ?_; clear T ac; intro ac T
  refine l_q T rfl rfl rfl rfl (rn_lenS rfl Try.underlying28 (T.ev 0 rfl)) ?_; clear T ac; intro ac T
  refine l_q T rfl rfl rfl rfl (rn_lss rfl (T.ev 3 rfl) (T.ev 0 rfl)) ?_; clear T ac; intro ac T
  refine wpList_nil ?_
  replace T := T.pick [0, 7, 8, 9, 11] rfl
  refine nm_then ?_
  refine wp_if (T.ev 0 rfl) ?_ ?_
  ·intro h1
   exfalso
   omega
  ·intro h1
   refine wp_skip ?_
   refine nm_then ?_
   refine wp_seq ?_
   refine wp_seq ?_
   refine wp_region_lit ?_
   refine l_q T rfl rfl rfl rfl (rn_move rfl (T.ev 4 rfl)) ?_; clear T ac; intro ac T
   refine l_q T rfl rfl rfl rfl (rn_lenS rfl Try.underlying31 (T.ev 0 rfl)) ?_; clear T ac; intro ac T
   refine l_q T rfl rfl rfl rfl (rn_eql rfl (T.ev 0 rfl) evc) ?_; clear T ac; intro ac T
   refine wpList_nil ?_
   replace T := T.pick [0, 4, 5, 6, 7] rfl
   refine nm_then ?_
   refine wp_if (T.ev 0 rfl) ?_ ?_
   ·intro h2
    refine wp_region_lit ?_
    refine l_w rfl ?_; intro K hK
    refine ow_bs (e := 3) [.int .i64 0] M T rfl rfl rfl rfl (.cons evc .nil) (fun _ => by kernel_rfl) ?_; clear M T; intro g3 wc ac M T
    refine sh_out hK _ _ ?_; clear hK K
    refine l_q (v := (.slice (some ⟨g3, 0, none⟩) 1 1)) (T.pick [0, 1, 2, 3, 4] rfl) rfl rfl rfl rfl (rn_assign rfl (T.ev 0 rfl)) ?_; clear T ac; intro ac T
    refine wpList_nil ?_
    replace T := T.pick [0, 3, 4, 5] rfl
    refine nm_then ?_
    refine wp_seq ?_
    refine wp_region_lit ?_
    refine l_q T rfl rfl rfl rfl (rn_move rfl (T.ev 3 rfl)) ?_; clear T ac; intro ac T
    refine l_q T rfl rfl rfl rfl (rn_rowO (Mem.nth M 2 rfl) rfl (T.ev 3 rfl) rfl) ?_; clear T ac; intro ac T
    refine l_q T rfl rfl rfl rfl (rn_rowO (Mem.nth M 1 rfl) rfl (T.ev 3 rfl) rfl) ?_; clear T ac; intro ac T
    refine l_q T rfl rfl rfl rfl (rn_move rfl (T.ev 3 rfl)) ?_; clear T ac; intro ac T
    refine l_w rfl ?_; intro K hK
    refine ow_call (first := []) (cap := []) T rfl rfl rfl rfl evf (.cons (T.ev 3 rfl) (.cons (T.ev 2 rfl) (.cons (T.ev 1 rfl) (.cons (T.ev 0 rfl) .nil)))) Try.func103 rfl rfl ?_
    refine Calls.mono (note_any bx e j _ _ a b c9 _ _ _ [0] _ hj (by first | exact he | exact he.le (by omega)) (by omega) (by omega) (by omega) (M.rdOwn (nthE_mem (i := 0) rfl) rfl rfl) (M.nee 0 3 rfl rfl rfl) (by decide) (by intro s hs; simp at hs; omega) (M.nth 3 rfl)) ?_
    clear T
    rintro e wc ⟨rfl, hgr, hbk⟩
    intro ac T
    obtain ⟨enu1, henu1⟩ : ∃ q : En, q = En.note j e ((a, b, c9), [0]) := ⟨_, rfl⟩
    rw [← henu1] at hbk
    replace M := M.callC (cs' := [.int .i64 enu1.a0, .int .i64 enu1.a1, .int .i64 enu1.b0, .int .i64 enu1.b1, .int .i64 enu1.c0, .int .i64 enu1.c1, .int .i64 enu1.wo, .int .i64 enu1.pa, .int .i64 enu1.th, .int .i64 enu1.fi, .int .i64 enu1.tr]) (.tail (.tail (.tail .head))) hgr hbk
    clear hgr hbk
    refine sh_out hK _ _ ?_; clear hK K
    refine wpList_nil ?_
    replace T := T.pick [] rfl
    replace M := M.mask [false, false, false, true] rfl
    refine nm_then ?_
    refine wp_ret ?_
    refine rt_then ?_
    refine rt_0 T rfl ?_
    refine ⟨rfl, M.grown, ?_⟩
    have e9 : En.all j e (shR j l.length (a, b, c9) l) = enu1 := by
      rw [shR_end _ _ _ _ (by omega), henu1]
      first | (rw [if_neg (fun h8 => by rw [h8] at h2; simp at h2)]; rfl) | (obtain rfl : l = [] := List.eq_nil_of_length_eq_zero (by omega); rfl)
    rw [e9]
    exact M.nth 0 rfl
   ·intro h2
    refine wp_skip ?_
    refine nm_then ?_
    refine wp_seq ?_
    refine wp_region_lit ?_
    refine l_q T rfl rfl rfl rfl (rn_move rfl (T.ev 3 rfl)) ?_; clear T ac; intro ac T
    refine l_q T rfl rfl rfl rfl (rn_rowO (Mem.nth M 1 rfl) rfl (T.ev 3 rfl) rfl) ?_; clear T ac; intro ac T
    refine l_q T rfl rfl rfl rfl (rn_rowO (Mem.nth M 0 rfl) rfl (T.ev 3 rfl) rfl) ?_; clear T ac; intro ac T
    refine l_q T rfl rfl rfl rfl (rn_move rfl (T.ev 7 rfl)) ?_; clear T ac; intro ac T
    refine l_w rfl ?_; intro K hK
    refine ow_call (first := []) (cap := []) T rfl rfl rfl rfl evf (.cons (T.ev 3 rfl) (.cons (T.ev 2 rfl) (.cons (T.ev 1 rfl) (.cons (T.ev 0 rfl) .nil)))) Try.func103 rfl rfl ?_
    refine Calls.mono (note_any bx e j _ _ a b c9 _ _ _ l _ hj (by first | exact he | exact he.le (by omega)) (by omega) (by omega) (by omega) (SI.rd M (List.nil_sublist _)) hneD (by omega) hb (M.nth 2 rfl)) ?_
    clear T
    rintro e wc ⟨rfl, hgr, hbk⟩
    intro ac T
    obtain ⟨enu2, henu2⟩ : ∃ q : En, q = En.note j e ((a, b, c9), l) := ⟨_, rfl⟩
    rw [← henu2] at hbk
    replace M := M.callC (cs' := [.int .i64 enu2.a0, .int .i64 enu2.a1, .int .i64 enu2.b0, .int .i64 enu2.b1, .int .i64 enu2.c0, .int .i64 enu2.c1, .int .i64 enu2.wo, .int .i64 enu2.pa, .int .i64 enu2.th, .int .i64 enu2.fi, .int .i64 enu2.tr]) (.tail (.tail .head)) hgr hbk
    clear hgr hbk
    refine sh_out hK _ _ ?_; clear hK K
    refine wpList_nil ?_
    replace T := T.pick [] rfl
    replace M := M.mask [false, false, true] rfl
    refine nm_then ?_
    refine wp_ret ?_
    refine rt_then ?_
    refine rt_0 T rfl ?_
    refine ⟨rfl, M.grown, ?_⟩
    have e9 : En.all j e (shR j l.length (a, b, c9) l) = enu2 := by
      rw [shR_end _ _ _ _ (by omega), henu2]
      first | (rw [if_neg (fun h8 => by rw [h8] at h2; simp at h2)]; rfl) | (obtain rfl : l = [] := List.eq_nil_of_length_eq_zero (by omega); rfl)
    rw [e9]
    exact M.nth 0 rfl

theorem drop_get {α : Type} {l : List α} {k : Nat} {x : α} (h : l[k]? = some x) : l.drop k = x :: l.drop (k + 1) := by
  obtain ⟨hk, e⟩ := List.getElem?_eq_some_iff.1 h
  rw [List.drop_eq_getElem_cons hk, e]
set_option maxRecDepth 100000 in
set_option maxHeartbeats 1000000 in
theorem all_step (bx : Nat) (e : En) (j : Jb) (A : Option Addr) (c : Nat) (a b c9 : Int) (B2 : Option Addr) (d2 : Nat) (D : Option Addr) (d : Nat) (l : List Int) (w : World) (hj : j.good) (ha : -10000 ≤ a ∧ a ≤ 10000) (hb9 : -10000 ≤ b ∧ b ≤ 10000) (hc9 : -10000 ≤ c9 ∧ c9 ≤ 10000) (hr : Rd w w.heap.size 2 A j.sh.length (rc j.sh)) (hneA : ∀ b o, A = some ⟨b, o, none⟩ → b ≠ bx) (hl : Rd w w.heap.size 1 D l.length (ic l)) (hneD : ∀ b o, D = some ⟨b, o, none⟩ → b ≠ bx) (hb : ∀ s ∈ l, -1000 ≤ s ∧ s ≤ 1000) (hp : Bk w bx (enC e).toArray) (hn : l.length < j.sh.length) (he : e.ok (shR j l.length (a, b, c9) l).length) (ih : AllShC j A c bx (l.length + 1)) :
    Calls Try.prog 61 #[.pointer (some ⟨bx, 0, none⟩), jobV j A c, .agg #[.int .i64 a, .int .i64 b, .int .i64 c9], .slice B2 0 d2, .slice D l.length d] w (EnPost bx (En.all j e (shR j l.length (a, b, c9) l)) w) := by
  have hfw := hj.few
  obtain ⟨bJ, oJ, SJ⟩ := Sp.oldEx hr hneA
  obtain ⟨bI, oI, SI⟩ := Sp.oldEx hl hneD
  obtain ⟨s0, s1, hk1, hd⟩ := rc_next (l := j.sh) (k := l.length) (by omega)
  have hsx := hj.sh _ (List.mem_of_getElem? hk1)
  dsimp only at hsx
  refine px_enter (fun b => b = bx) Try.func61 rfl 128 rfl [.pointer (some ⟨bx, 0, none⟩), .agg #[.int .i64 j.p0, .int .i64 j.p1, .int .i64 j.t0, .int .i64 j.t1, .int .i64 j.r0, .int .i64 j.r1, .int .i64 j.u0, .int .i64 j.u1, .int .i64 j.d0, .int .i64 j.d1, .int .i64 j.a0, .int .i64 j.a1, .int .i64 j.b0, .int .i64 j.b1, .int .i64 j.le, .slice A j.sh.length c, .int .i64 j.wi, .int .i64 j.me], .agg #[.int .i64 a, .int .i64 b, .int .i64 c9], .slice B2 0 d2, .slice D l.length d] rfl rfl (Mem.initEx (p := .cells (enC e)) hp) ?_
  intro ac wc T M
  replace M : Mem w (fun b => b = bx) wc [(bx, .cells [.int .i64 e.a0, .int .i64 e.a1, .int .i64 e.b0, .int .i64 e.b1, .int .i64 e.c0, .int .i64 e.c1, .int .i64 e.wo, .int .i64 e.pa, .int .i64 e.th, .int .i64 e.fi, .int .i64 e.tr])] := M
  refine wp_seq ?_
  refine wp_region_lit ?_
  refine l_w rfl ?_; intro K hK
  refine ow_bx M T rfl rfl rfl rfl (T.ev 1 rfl) rfl ?_; clear M T; intro g1 wc ac M T
  refine sh_out hK _ _ ?_; clear hK K
  refine l_w rfl ?_; intro K hK
  refine ow_bx M T rfl rfl rfl rfl (T.ev 3 rfl) rfl ?_; clear M T; intro g2 wc ac M T
  refine sh_out hK _ _ ?_; clear hK K
  refine wpList_nil ?_
  replace T := T.pick [0, 1, 2, 5, 6] rfl
  refine nm_then ?_
  refine wp_seq ?_
  refine wp_seq ?_
  refine wp_region_lit ?_
  refine l_q T rfl rfl rfl rfl (rn_move rfl (T.ev 3 rfl)) ?_; clear T ac; intro ac T
  refine l_q (v := (.int .i64 0)) T rfl rfl rfl rfl (rn_lenS rfl Try.underlying31 (T.ev 0 rfl)) ?_; clear T ac; intro ac T
  refine l_q (v := (.bool true)) T rfl rfl rfl rfl (rn_neqof (rn_eql rfl (T.ev 0 rfl) evc) (by simp)) ?_; clear T ac; intro ac T
  refine wpList_nil ?_
  replace T := T.pick [0, 3, 4, 5, 6, 7] rfl
  refine nm_then ?_
  refine wp_cond_true (T.ev 0 rfl) ?_
  refine wp_seq ?_
  refine wp_seq ?_
  refine wp_region_lit ?_
  refine l_q T rfl rfl rfl rfl (rn_move rfl (T.ev 5 rfl)) ?_; clear T ac; intro ac T
  refine l_q T rfl rfl rfl rfl (rn_lenS rfl Try.underlying31 (T.ev 0 rfl)) ?_; clear T ac; intro ac T
  refine l_q (v := (.pointer (some ⟨g1, 15, none⟩))) T rfl rfl rfl rfl (rn_fieldAddr (off := 15) rfl (T.ev 4 rfl) (fun _ _ _ => by kernel_rfl)) ?_; clear T ac; intro ac T
  refine l_q T rfl rfl rfl rfl (rn_one (Mem.nth M 1 rfl) rfl (T.ev 0 rfl) rfl) ?_; clear T ac; intro ac T
  refine l_q T rfl rfl rfl rfl (rn_lenS rfl Try.underlying28 (T.ev 0 rfl)) ?_; clear T ac; intro ac T
  refine l_q T rfl rfl rfl rfl (rn_lss rfl (T.ev 3 rfl) (T.ev 0 rfl)) ?_; clear T ac; intro ac T
  refine wpList_nil ?_
  replace T := T.pick [0, 7, 8, 9, 11] rfl
  refine nm_then ?_
  refine wp_if (T.ev 0 rfl) ?_ ?_
  ·intro h1
   refine wp_seq ?_
   refine wp_region_lit ?_
   refine l_q (v := (.pointer (some ⟨g1, 15, none⟩))) T rfl rfl rfl rfl (rn_fieldAddr (off := 15) rfl (T.ev 2 rfl) (fun _ _ _ => by kernel_rfl)) ?_; clear T ac; intro ac T
   refine l_q T rfl rfl rfl rfl (rn_one (Mem.nth M 1 rfl) rfl (T.ev 0 rfl) rfl) ?_; clear T ac; intro ac T
   refine l_q T rfl rfl rfl rfl (rn_move rfl (T.ev 6 rfl)) ?_; clear T ac; intro ac T
   refine l_q T rfl rfl rfl rfl (rn_lenS rfl Try.underlying31 (T.ev 0 rfl)) ?_; clear T ac; intro ac T
   refine l_q T rfl rfl rfl rfl (rn_indexAddr (size := 2) l.length rfl (T.ev 2 rfl) (T.ev 0 rfl) ⟨_, Try.underlying28, by kernel_rfl⟩ rfl (by omega) (SJ.at0 (by omega))) ?_; clear T ac; intro ac T
   refine l_q (v := (.agg #[.int .i64 s0, .int .i64 s1])) T rfl rfl rfl rfl (rn_rowat (Sp.rcR SJ M (List.nil_sublist _) hk1) rfl (T.ev 0 rfl) rfl) ?_; clear T ac; intro ac T
   refine l_w rfl ?_; intro K hK
   refine ow_al M T rfl rfl rfl rfl ?_; clear M T; intro g3 wc ac M T
   refine sh_out hK _ _ ?_; clear hK K
   refine l_w rfl ?_; intro K hK
   refine ow_stO M T rfl rfl (T.ev 0 rfl) (T.ev 1 rfl) rfl .head rfl (by simp) rfl (by kernel_rfl) ?_; clear M T; intro wc ac M T
   refine sh_out hK _ _ ?_; clear hK K
   refine wpList_nil ?_
   replace T := T.pick [0, 8, 9, 10, 11] rfl
   refine nm_then ?_
   refine wp_seq ?_
   refine wp_seq ?_
   refine wp_region_lit ?_
   refine l_q (v := (.pointer (some ⟨g3, 0, none⟩))) T rfl rfl rfl rfl (rn_fieldAddr (off := 0) rfl (T.ev 0 rfl) (fun _ _ _ => by kernel_rfl)) ?_; clear T ac; intro ac T
   refine l_q T rfl rfl rfl rfl (rn_one (Mem.nth M 0 rfl) rfl (T.ev 0 rfl) rfl) ?_; clear T ac; intro ac T
   refine l_q T rfl rfl rfl rfl (rn_assign rfl (T.ev 0 rfl)) ?_; clear T ac; intro ac T
   refine wpList_nil ?_
   replace T := T.pick [0, 3, 4, 5, 6, 7] rfl
   refine nm_then ?_
   refine wp_block ?_
   refine wp_loop_n (fun mz ac wc => ∃ (k : Nat) (N : Int) (ek : En), mz = (s1 - s0 + 1).toNat - k ∧ (N = s0 + (k : Int)) ∧ (k ≤ (s1 - s0 + 1).toNat) ∧ (ek = En.all j e (((rangeI s0 s1).take k).flatMap (fun q => shR j (l.length + 1) (a, b, c9) (l ++ [q])))) ∧ (ek.ok (((rangeI s0 s1).drop k).flatMap (fun q => shR j (l.length + 1) (a, b, c9) (l ++ [q]))).length) ∧ Tm ac 128 [(0, .pointer (some ⟨bx, 0, none⟩)), (4, .slice D l.length d), (6, .pointer (some ⟨g1, 0, none⟩)), (7, .pointer (some ⟨g2, 0, none⟩)), (10, .pointer (some ⟨g3, 0, none⟩)), (11, .int .i64 N)] ∧ Mem w (fun b => b = bx) wc [(g3, .cells [.int .i64 s0, .int .i64 s1]), (g2, .cells [.int .i64 a, .int .i64 b, .int .i64 c9]), (g1, .cells (jobL j A c)), (bx, .cells [.int .i64 ek.a0, .int .i64 ek.a1, .int .i64 ek.b0, .int .i64 ek.b1, .int .i64 ek.c0, .int .i64 ek.c1, .int .i64 ek.wo, .int .i64 ek.pa, .int .i64 ek.th, .int .i64 ek.fi, .int .i64 ek.tr])]) ?_ ?_
   ·exact ⟨_, 0, _, e, rfl, (by omega), (by omega), rfl, (by rw [List.drop_zero, ← shR_step (a, b, c9) l hd]; exact he), T.pick [4, 5, 3, 2, 1, 0] rfl, M.mask [true, true, true, true] rfl⟩
   ·clear T M
    rintro mz ac wc ⟨k, N, ek, hmm1, hN, hk, hek, hok, T, M⟩
    refine wp_seq ?_
    refine wp_seq ?_
    refine wp_region_lit ?_
    refine l_q T rfl rfl rfl rfl (rn_move rfl (T.ev 5 rfl)) ?_; clear T ac; intro ac T
    refine l_q (v := (.pointer (some ⟨g3, 1, none⟩))) T rfl rfl rfl rfl (rn_fieldAddr (off := 1) rfl (T.ev 5 rfl) (fun _ _ _ => by kernel_rfl)) ?_; clear T ac; intro ac T
    refine l_q T rfl rfl rfl rfl (rn_one (Mem.nth M 0 rfl) rfl (T.ev 0 rfl) rfl) ?_; clear T ac; intro ac T
    refine l_q T rfl rfl rfl rfl (rn_leq rfl (T.ev 2 rfl) (T.ev 0 rfl)) ?_; clear T ac; intro ac T
    refine wpList_nil ?_
    replace T := T.pick [0, 4, 5, 6, 7, 8, 9] rfl
    refine nm_then ?_
    refine wp_if (T.ev 0 rfl) ?_ ?_
    ·intro h2
     have hg9 := rangeI_get hN (by omega)
     rw [drop_get hg9, List.flatMap_cons, List.length_append] at hok
     have hokN := hok.le (Nat.le_add_right _ _)
     have hbN : ∀ s ∈ l ++ [N], -1000 ≤ s ∧ s ≤ 1000 := by
       intro s hs
       rcases List.mem_append.1 hs with h9 | h9
       · exact hb s h9
       · simp only [List.mem_cons, List.not_mem_nil, or_false] at h9; subst h9; omega
     refine wp_skip ?_
     refine nm_then ?_
     refine cut_seq (fun ac wc => ∃ (enur7_8 : En), (enur7_8 = En.all j ek (shR j (l.length + 1) (a, b, c9) (l ++ [N]))) ∧ Tm ac 128 [(0, .pointer (some ⟨bx, 0, none⟩)), (4, .slice D l.length d), (6, .pointer (some ⟨g1, 0, none⟩)), (7, .pointer (some ⟨g2, 0, none⟩)), (10, .pointer (some ⟨g3, 0, none⟩)), (11, .int .i64 N)] ∧ Mem w (fun b => b = bx) wc [(g3, .cells [.int .i64 s0, .int .i64 s1]), (g2, .cells [.int .i64 a, .int .i64 b, .int .i64 c9]), (g1, .cells (jobL j A c)), (bx, .cells [.int .i64 enur7_8.a0, .int .i64 enur7_8.a1, .int .i64 enur7_8.b0, .int .i64 enur7_8.b1, .int .i64 enur7_8.c0, .int .i64 enur7_8.c1, .int .i64 enur7_8.wo, .int .i64 enur7_8.pa, .int .i64 enur7_8.th, .int .i64 enur7_8.fi, .int .i64 enur7_8.tr])]) ?_ ?_
     ·refine wp_block ?_
      refine g_start2 M (M.perm [0, 1, 2] rfl rfl) 9 (by kernel_rfl) rfl (by kernel_rfl) ?_
      clear M; intro wc M
      refine g_addG 8 M ?_
      refine g_q (T := T) (i := 0) rfl (by kernel_rfl) (by kernel_rfl : (pbits 9 0).setIfInBounds 0 true = pbits 9 1) (si_and (si_G rfl) si_U) (fun _ _ _ h => h) rfl rfl rfl rfl (fun _ _ _ _ _ => (rn_move rfl (T.ev 1 rfl))) ?_; clear T ac; intro ac T
      refine g_q (T := T) (i := 1) rfl (by kernel_rfl) (by kernel_rfl : (pbits 9 1).setIfInBounds 1 true = pbits 9 3) (si_and (si_G rfl) si_U) (fun _ _ _ h => h) rfl rfl rfl rfl (fun B w' hD hl hS => (rn_rowO (Mem.nth (show Mem w (fun b => b = bx) w' _ from ((MA.lft hS) (hD.wait (i := 1) (m := 8) (by kernel_rfl) hl))) 2 rfl) rfl (T.ev 4 rfl) rfl)) ?_; clear T ac; intro ac T
      refine g_q (T := T) (i := 2) rfl (by kernel_rfl) (by kernel_rfl : (pbits 9 3).setIfInBounds 2 true = pbits 9 7) (si_and (si_G rfl) si_U) (fun _ _ _ h => h) rfl rfl rfl rfl (fun B w' hD hl hS => (rn_rowO (Mem.nth (show Mem w (fun b => b = bx) w' _ from ((MA.lft hS) (hD.wait (i := 2) (m := 8) (by kernel_rfl) hl))) 1 rfl) rfl (T.ev 6 rfl) rfl)) ?_; clear T ac; intro ac T
      refine g_q (T := T) (i := 3) rfl (by kernel_rfl) (by kernel_rfl : (pbits 9 7).setIfInBounds 3 true = pbits 9 15) (si_and (si_G rfl) si_U) (fun _ _ _ h => h) rfl rfl rfl rfl (fun _ _ _ _ _ => (rn_move rfl (T.ev 5 rfl))) ?_; clear T ac; intro ac T
      refine g_q (T := T) (i := 5) rfl (by kernel_rfl) (by kernel_rfl : (pbits 9 15).setIfInBounds 5 true = pbits 9 47) (si_and (si_G rfl) si_U) (fun _ _ _ h => h) rfl rfl rfl rfl (fun _ _ _ _ _ => (rn_move rfl (T.ev 10 rfl))) ?_; clear T ac; intro ac T
      refine g_m2 (i := 4) (j := 6) (by kernel_rfl) ?_ ?_
      ·refine g_i rfl (by kernel_rfl : (pbits 9 47).setIfInBounds 4 true = pbits 9 63) rfl ?_; intro K hK
       refine ow_call (first := []) (cap := []) T rfl rfl rfl rfl evf (.cons (T.ev 1 rfl) .nil) Try.func53 rfl rfl ?_
       refine Calls.mono (ints_own _ _ l _ (SI.rd M (List.nil_sublist _)) (by omega)) ?_
       clear T
       rintro e wc ⟨Aur7_4, cur7_4, Iur7_4, rfl, hsmur7_4, N⟩
       intro ac T
       obtain ⟨bur7_4, our7_4, Sur7_4⟩ := hsmur7_4.sp (w := w) (ex := (fun b => b = bx)) (by simp [ic_length])
       replace M := (M.join N).swapI
       replace M := M.mask [true, true, true, true] rfl
       clear N
       refine sh_out hK _ _ (MA.mk (fun _ => M.perm [0, 1, 2, 3] rfl rfl) (M.perm [0, 1, 2] rfl rfl)) ?_; clear hK K
       refine g_w (i := 6) (by kernel_rfl) rfl (by kernel_rfl : (pbits 9 63).setIfInBounds 6 true = pbits 9 127) rfl ?_; intro K hK
       refine ow_bs (e := 3) [.int .i64 N] M T rfl rfl rfl rfl (.cons (T.ev 1 rfl) .nil) (fun _ => by kernel_rfl) ?_; clear M T; intro gr7_6 wc ac M T
       refine sh_out hK _ _ (MA.mk (fun _ => M.perm [1, 2, 3, 4] rfl rfl) (M.perm [1, 2, 3] rfl rfl)) ?_; clear hK K
       refine g_w (i := 7) (by kernel_rfl) rfl (by kernel_rfl : (pbits 9 127).setIfInBounds 7 true = pbits 9 255) rfl ?_; intro K hK
       refine ow_appM ([(gr7_6, .cells [.int .i64 N]), (g3, .cells [.int .i64 s0, .int .i64 s1]), (g2, .cells [.int .i64 a, .int .i64 b, .int .i64 c9]), (g1, .cells (jobL j A c)), (bx, .cells [.int .i64 ek.a0, .int .i64 ek.a1, .int .i64 ek.b0, .int .i64 ek.b1, .int .i64 ek.c0, .int .i64 ek.c1, .int .i64 ek.wo, .int .i64 ek.pa, .int .i64 ek.th, .int .i64 ek.fi, .int .i64 ek.tr])]) Try.info3 hsmur7_4 M (by first | rfl | simp) T rfl rfl rfl rfl Try.underlying31 rfl rfl rfl (by omega) (T.ev 1 rfl) (T.ev 0 rfl) (nthE_mem (i := 0) rfl) rfl rfl ?_; clear M T; intro ga1 cga1 wc ac M T
       have e9 : l.length + 1 = (l ++ [N]).length := by simp
       rw [e9, ic_snoc] at M; rw [e9] at T; clear e9
       refine sh_out hK _ _ (MA.mk (fun _ => M.mask [false, false, true, true, true, true] rfl) (M.mask [false, false, true, true, true, false] rfl)) ?_; clear hK K
       refine g_w (i := 8) (by kernel_rfl) rfl (by kernel_rfl : (pbits 9 255).setIfInBounds 8 true = pbits 9 511) rfl ?_; intro K hK
       refine ow_call (first := []) (cap := []) T rfl rfl rfl rfl evf (.cons (T.ev 7 rfl) (.cons (T.ev 6 rfl) (.cons (T.ev 5 rfl) (.cons evc (.cons (T.ev 0 rfl) .nil))))) Try.func61 rfl rfl ?_
       refine Calls.mono (ih ek a b c9 _ _ _ _ (l ++ [N]) _ (by simp) ha hb9 hc9 hokN (SJ.rd M (List.nil_sublist _)) hneA (M.rdRow (nthE_mem (i := 0) rfl)) (M.nee 0 5 rfl rfl rfl) hbN (M.nth 5 rfl)) ?_
       clear T
       rintro e wc ⟨rfl, hgr, hbk⟩
       intro ac T
       obtain ⟨enur7_8, henur7_8⟩ : ∃ q : En, q = En.all j ek (shR j (l.length + 1) (a, b, c9) (l ++ [N])) := ⟨_, rfl⟩
       rw [← henur7_8] at hbk
       replace M := M.callC (cs' := [.int .i64 enur7_8.a0, .int .i64 enur7_8.a1, .int .i64 enur7_8.b0, .int .i64 enur7_8.b1, .int .i64 enur7_8.c0, .int .i64 enur7_8.c1, .int .i64 enur7_8.wo, .int .i64 enur7_8.pa, .int .i64 enur7_8.th, .int .i64 enur7_8.fi, .int .i64 enur7_8.tr]) (.tail (.tail (.tail (.tail (.tail .head))))) hgr hbk
       clear hgr hbk
       refine sh_out hK _ _ (MA.mk (fun h => (no_of (by kernel_rfl) h).elim) (M.mask [false, false, true, true, true, false] rfl)) ?_; clear hK K
       refine g_done (by kernel_rfl) ?_
       replace T := T.pick [10, 11, 12, 13, 14, 15] rfl
       replace M := M.mask [false, false, true, true, true, true] rfl
       refine nm_blk ?_
       exact ⟨enur7_8, henur7_8, (T.pick (E' := [(0, .pointer (some ⟨bx, 0, none⟩)), (4, .slice D l.length d), (6, .pointer (some ⟨g1, 0, none⟩)), (7, .pointer (some ⟨g2, 0, none⟩)), (10, .pointer (some ⟨g3, 0, none⟩)), (11, .int .i64 N)]) [0, 1, 2, 3, 4, 5] rfl).as (by rfl), M.mask [true, true, true, true] rfl⟩
      ·refine g_i rfl (by kernel_rfl : (pbits 9 47).setIfInBounds 6 true = pbits 9 111) rfl ?_; intro K hK
       refine ow_bs (e := 3) [.int .i64 N] M T rfl rfl rfl rfl (.cons (T.ev 0 rfl) .nil) (fun _ => by kernel_rfl) ?_; clear M T; intro gr7_6 wc ac M T
       refine sh_out hK _ _ (MA.mk (fun _ => M.mask [false, true, true, true, true] rfl) (M.mask [false, true, true, true, false] rfl)) ?_; clear hK K
       refine g_w (i := 4) (by kernel_rfl) rfl (by kernel_rfl : (pbits 9 111).setIfInBounds 4 true = pbits 9 127) rfl ?_; intro K hK
       refine ow_call (first := []) (cap := []) T rfl rfl rfl rfl evf (.cons (T.ev 2 rfl) .nil) Try.func53 rfl rfl ?_
       refine Calls.mono (ints_own _ _ l _ (SI.rd M (List.nil_sublist _)) (by omega)) ?_
       clear T
       rintro e wc ⟨Aur7_4, cur7_4, Iur7_4, rfl, hsmur7_4, N⟩
       intro ac T
       obtain ⟨bur7_4, our7_4, Sur7_4⟩ := hsmur7_4.sp (w := w) (ex := (fun b => b = bx)) (by simp [ic_length])
       replace M := (M.join N).swapI
       replace M := M.mask [true, true, true, true, true] rfl
       clear N
       refine sh_out hK _ _ (MA.mk (fun _ => M.perm [1, 2, 3, 4] rfl rfl) (M.perm [1, 2, 3] rfl rfl)) ?_; clear hK K
       refine g_w (i := 7) (by kernel_rfl) rfl (by kernel_rfl : (pbits 9 127).setIfInBounds 7 true = pbits 9 255) rfl ?_; intro K hK
       refine ow_appM ([(gr7_6, .cells [.int .i64 N]), (g3, .cells [.int .i64 s0, .int .i64 s1]), (g2, .cells [.int .i64 a, .int .i64 b, .int .i64 c9]), (g1, .cells (jobL j A c)), (bx, .cells [.int .i64 ek.a0, .int .i64 ek.a1, .int .i64 ek.b0, .int .i64 ek.b1, .int .i64 ek.c0, .int .i64 ek.c1, .int .i64 ek.wo, .int .i64 ek.pa, .int .i64 ek.th, .int .i64 ek.fi, .int .i64 ek.tr])]) Try.info3 hsmur7_4 M (by first | rfl | simp) T rfl rfl rfl rfl Try.underlying31 rfl rfl rfl (by omega) (T.ev 0 rfl) (T.ev 1 rfl) (nthE_mem (i := 0) rfl) rfl rfl ?_; clear M T; intro ga2 cga2 wc ac M T
       have e9 : l.length + 1 = (l ++ [N]).length := by simp
       rw [e9, ic_snoc] at M; rw [e9] at T; clear e9
       refine sh_out hK _ _ (MA.mk (fun _ => M.mask [false, false, true, true, true, true] rfl) (M.mask [false, false, true, true, true, false] rfl)) ?_; clear hK K
       refine g_w (i := 8) (by kernel_rfl) rfl (by kernel_rfl : (pbits 9 255).setIfInBounds 8 true = pbits 9 511) rfl ?_; intro K hK
       refine ow_call (first := []) (cap := []) T rfl rfl rfl rfl evf (.cons (T.ev 7 rfl) (.cons (T.ev 6 rfl) (.cons (T.ev 5 rfl) (.cons evc (.cons (T.ev 0 rfl) .nil))))) Try.func61 rfl rfl ?_
       refine Calls.mono (ih ek a b c9 _ _ _ _ (l ++ [N]) _ (by simp) ha hb9 hc9 hokN (SJ.rd M (List.nil_sublist _)) hneA (M.rdRow (nthE_mem (i := 0) rfl)) (M.nee 0 5 rfl rfl rfl) hbN (M.nth 5 rfl)) ?_
       clear T
       rintro e wc ⟨rfl, hgr, hbk⟩
       intro ac T
       obtain ⟨enur7_8, henur7_8⟩ : ∃ q : En, q = En.all j ek (shR j (l.length + 1) (a, b, c9) (l ++ [N])) := ⟨_, rfl⟩
       rw [← henur7_8] at hbk
       replace M := M.callC (cs' := [.int .i64 enur7_8.a0, .int .i64 enur7_8.a1, .int .i64 enur7_8.b0, .int .i64 enur7_8.b1, .int .i64 enur7_8.c0, .int .i64 enur7_8.c1, .int .i64 enur7_8.wo, .int .i64 enur7_8.pa, .int .i64 enur7_8.th, .int .i64 enur7_8.fi, .int .i64 enur7_8.tr]) (.tail (.tail (.tail (.tail (.tail .head))))) hgr hbk
       clear hgr hbk
       refine sh_out hK _ _ (MA.mk (fun h => (no_of (by kernel_rfl) h).elim) (M.mask [false, false, true, true, true, false] rfl)) ?_; clear hK K
       refine g_done (by kernel_rfl) ?_
       replace T := T.pick [10, 11, 12, 13, 14, 15] rfl
       replace M := M.mask [false, false, true, true, true, true] rfl
       refine nm_blk ?_
       exact ⟨enur7_8, henur7_8, (T.pick (E' := [(0, .pointer (some ⟨bx, 0, none⟩)), (4, .slice D l.length d), (6, .pointer (some ⟨g1, 0, none⟩)), (7, .pointer (some ⟨g2, 0, none⟩)), (10, .pointer (some ⟨g3, 0, none⟩)), (11, .int .i64 N)]) [0, 1, 2, 3, 4, 5] rfl).as (by rfl), M.mask [true, true, true, true] rfl⟩
     ·clear T M
      rintro ac wc ⟨enur7_8, henur7_8, T, M⟩
      refine wp_region_lit ?_
      refine l_q T rfl rfl rfl rfl (rn_move rfl (T.ev 5 rfl)) ?_; clear T ac; intro ac T
      refine l_q T rfl rfl rfl rfl (rn_add rfl (T.ev 0 rfl) evc (by omega)) ?_; clear T ac; intro ac T
      refine l_q (v := (.int .i64 (N + 1))) (T.pick [0, 1, 2, 3, 4, 5, 6] rfl) rfl rfl rfl rfl (rn_assign rfl (T.ev 0 rfl)) ?_; clear T ac; intro ac T
      refine wpList_nil ?_
      replace T := T.pick [0, 3, 4, 5, 6, 7] rfl
      refine nm_then ?_
      exact ⟨_, by omega, k + 1, _, enur7_8, rfl, (by omega), (by omega), (by rw [take_flat (fun q => shR j (l.length + 1) (a, b, c9) (l ++ [q])) _ _ _ hg9, all_app, ← hek]; exact henur7_8), (by rw [henur7_8]; exact En.ok.all _ hok), T.pick [1, 2, 3, 4, 5, 0] rfl, M.perm [0, 1, 2, 3] rfl rfl⟩
    ·intro h2
     refine wp_exit ?_
     refine ex_then ?_
     refine ex_then ?_
     refine ex_hit ?_
     refine nm_then ?_
     refine wp_ret ?_
     refine rt_then ?_
     refine rt_then ?_
     refine rt_0 T rfl ?_
     have e9 : En.all j e (shR j l.length (a, b, c9) l) = ek := by rw [shR_step (a, b, c9) l hd, hek, List.take_of_length_le (by rw [rangeI_length]; omega)]
     rw [e9]
     exact ⟨rfl, M.grown, M.nth 3 rfl⟩
  ·intro h1
   exfalso
   omega

theorem all_shifts {j : Jb} (hj : j.good) (A : Option Addr) (c bx : Nat) : ∀ (k n : Nat), n + k = j.sh.length → AllShC j A c bx n
  | 0, n, h => fun e a b c9 B2 d2 D d l w hl ha hb9 hc9 he hr hneA hD hneD hb hp => by
    subst hl
    rw [shR_end _ _ _ _ (by omega)] at he
    exact all_end bx e j A c a b c9 B2 d2 D d l w hj ha hb9 hc9 hr hneA hD hneD hb hp (by omega) he
  | k + 1, n, h => fun e a b c9 B2 d2 D d l w hl ha hb9 hc9 he hr hneA hD hneD hb hp => by
    subst hl
    exact all_step bx e j A c a b c9 B2 d2 D d l w hj ha hb9 hc9 hr hneA hD hneD hb hp (by omega) he (all_shifts hj A c bx k (l.length + 1) (by omega))


theorem sub_ne {B : Option Addr} {bx bI oI : Nat} (h : ∀ b o, B = some ⟨b, o, none⟩ → b ≠ bx) (hB : B = some ⟨bI, oI, none⟩) (p : Prop) [Decidable p] (k : Nat) : ∀ b o, (if p then B else B.map (·.add k)) = some ⟨b, o, none⟩ → b ≠ bx := by
  intro b o e
  split at e
  · exact h b o e
  · subst hB
    rw [Option.map_some, Addr.add_mid] at e
    injection e with e
    injection e with e _ _
    subst e
    exact h _ _ rfl
def AllStC (j : Jb) (A : Option Addr) (c bx : Nat) (r : List Int) : Prop := ∀ (e : En) (a b c9 : Int) (B : Option Addr) (d : Nat) (w : World), (-5000 + 500 * ((r.length : Nat) : Int) ≤ a ∧ a ≤ 5000 - 500 * ((r.length : Nat) : Int)) → (-5000 + 500 * ((r.length : Nat) : Int) ≤ b ∧ b ≤ 5000 - 500 * ((r.length : Nat) : Int)) → (-5000 + 500 * ((r.length : Nat) : Int) ≤ c9 ∧ c9 ≤ 5000 - 500 * ((r.length : Nat) : Int)) → e.ok (trT j r (a, b, c9)).length →
  Rd w w.heap.size 2 A j.sh.length (rc j.sh) → (∀ b o, A = some ⟨b, o, none⟩ → b ≠ bx) → Rd w w.heap.size 1 B r.length (ic r) → (∀ b o, B = some ⟨b, o, none⟩ → b ≠ bx) → r.length ≤ d → Bk w bx (enC e).toArray →
  Calls Try.prog 61 #[.pointer (some ⟨bx, 0, none⟩), jobV j A c, .agg #[.int .i64 a, .int .i64 b, .int .i64 c9], .slice B r.length d, .slice none 0 0] w (EnPost bx (En.all j e (trT j r (a, b, c9))) w)


set_option maxRecDepth 100000 in
set_option maxHeartbeats 1000000 in
theorem all_stroke (bx : Nat) (e : En) (j : Jb) (A : Option Addr) (c : Nat) (a b c9 k9 : Int) (r : List Int) (B : Option Addr) (d : Nat) (w : World) (hj : j.good) (ha : (-5000 + 500 * ((r.length + 1 : Nat) : Int) ≤ a ∧ a ≤ 5000 - 500 * ((r.length + 1 : Nat) : Int))) (hb9 : (-5000 + 500 * ((r.length + 1 : Nat) : Int) ≤ b ∧ b ≤ 5000 - 500 * ((r.length + 1 : Nat) : Int))) (hc9 : (-5000 + 500 * ((r.length + 1 : Nat) : Int) ≤ c9 ∧ c9 ≤ 5000 - 500 * ((r.length + 1 : Nat) : Int))) (hr : Rd w w.heap.size 2 A j.sh.length (rc j.sh)) (hneA : ∀ b o, A = some ⟨b, o, none⟩ → b ≠ bx) (hl : Rd w w.heap.size 1 B (r.length + 1) (ic (k9 :: r))) (hneB : ∀ b o, B = some ⟨b, o, none⟩ → b ≠ bx) (hrl : r.length + 1 ≤ 6) (hcap : r.length + 1 ≤ d) (hk : k9 = 1 ∨ k9 = 2) (hp : Bk w bx (enC e).toArray) (he : e.ok (trT j (k9 :: r) (a, b, c9)).length) (ih : AllStC j A c bx r) :
    Calls Try.prog 61 #[.pointer (some ⟨bx, 0, none⟩), jobV j A c, .agg #[.int .i64 a, .int .i64 b, .int .i64 c9], .slice B (r.length + 1) d, .slice none 0 0] w (EnPost bx (En.all j e (trT j (k9 :: r) (a, b, c9))) w) := by
  have hfw := hj.few
  have hju := hj.u
  have hjd := hj.d
  have hja := hj.a
  have hjb := hj.b
  obtain ⟨bJ, oJ, SJ⟩ := Sp.oldEx hr hneA
  obtain ⟨bI, oI, SI⟩ := Sp.oldEx hl hneB
  refine px_enter (fun b => b = bx) Try.func61 rfl 128 rfl [.pointer (some ⟨bx, 0, none⟩), .agg #[.int .i64 j.p0, .int .i64 j.p1, .int .i64 j.t0, .int .i64 j.t1, .int .i64 j.r0, .int .i64 j.r1, .int .i64 j.u0, .int .i64 j.u1, .int .i64 j.d0, .int .i64 j.d1, .int .i64 j.a0, .int .i64 j.a1, .int .i64 j.b0, .int .i64 j.b1, .int .i64 j.le, .slice A j.sh.length c, .int .i64 j.wi, .int .i64 j.me], .agg #[.int .i64 a, .int .i64 b, .int .i64 c9], .slice B (r.length + 1) d, .slice none 0 0] rfl rfl (Mem.initEx (p := .cells (enC e)) hp) ?_
  intro ac wc T M
  replace M : Mem w (fun b => b = bx) wc [(bx, .cells [.int .i64 e.a0, .int .i64 e.a1, .int .i64 e.b0, .int .i64 e.b1, .int .i64 e.c0, .int .i64 e.c1, .int .i64 e.wo, .int .i64 e.pa, .int .i64 e.th, .int .i64 e.fi, .int .i64 e.tr])] := M
  refine wp_seq ?_
  refine wp_region_lit ?_
  refine l_w rfl ?_; intro K hK
  refine ow_bx M T rfl rfl rfl rfl (T.ev 1 rfl) rfl ?_; clear M T; intro g1 wc ac M T
  refine sh_out hK _ _ ?_; clear hK K
  refine l_w rfl ?_; intro K hK
  refine ow_bx M T rfl rfl rfl rfl (T.ev 3 rfl) rfl ?_; clear M T; intro g2 wc ac M T
  refine sh_out hK _ _ ?_; clear hK K
  refine wpList_nil ?_
  replace T := T.pick [0, 1, 2, 5, 6] rfl
  refine nm_then ?_
  refine wp_seq ?_
  refine wp_seq ?_
  refine wp_region_lit ?_
  refine l_q T rfl rfl rfl rfl (rn_move rfl (T.ev 3 rfl)) ?_; clear T ac; intro ac T
  refine l_q T rfl rfl rfl rfl (rn_lenS rfl Try.underlying31 (T.ev 0 rfl)) ?_; clear T ac; intro ac T
  refine l_q T rfl rfl rfl rfl (rn_eql rfl (T.ev 0 rfl) evc) ?_; clear T ac; intro ac T
  refine wpList_nil ?_
  replace T := T.pick [0, 3, 4, 5, 6, 7] rfl
  refine nm_then ?_
  refine wp_if (T.ev 0 rfl) ?_ ?_
  ·intro h1
   exfalso
   omega
  ·intro h1
   refine wp_skip ?_
   refine nm_then ?_
   refine cut_seq (fun ac wc => ∃ (gr11_7 gr11_6 : Nat), Tm ac 128 [(0, .pointer (some ⟨bx, 0, none⟩)), (3, .slice B (r.length + 1) d), (4, .slice none 0 0), (6, .pointer (some ⟨g1, 0, none⟩)), (7, .pointer (some ⟨g2, 0, none⟩)), (12, .pointer (some ⟨gr11_6, 0, none⟩)), (13, .pointer (some ⟨gr11_7, 0, none⟩))] ∧ Mem w (fun b => b = bx) wc [(gr11_6, .cells [.int .i64 j.u0, .int .i64 j.u1]), (gr11_7, .cells [.int .i64 j.a0, .int .i64 j.a1]), (g2, .cells [.int .i64 a, .int .i64 b, .int .i64 c9]), (g1, .cells (jobL j A c)), (bx, .cells [.int .i64 e.a0, .int .i64 e.a1, .int .i64 e.b0, .int .i64 e.b1, .int .i64 e.c0, .int .i64 e.c1, .int .i64 e.wo, .int .i64 e.pa, .int .i64 e.th, .int .i64 e.fi, .int .i64 e.tr])]) ?_ ?_
   ·refine g_start2 M (M.mask [true, true, true] rfl) 10 (by kernel_rfl) rfl (by kernel_rfl) ?_
    clear M; intro wc M
    refine g_q (v := (.pointer (some ⟨g1, 6, none⟩))) (T := T) (i := 0) rfl (by kernel_rfl) (by kernel_rfl : (pbits 10 0).setIfInBounds 0 true = pbits 10 1) si_U (fun _ _ _ h => h) rfl rfl rfl rfl (fun _ _ _ _ _ => (rn_fieldAddr (off := 6) rfl (T.ev 2 rfl) (fun _ _ _ => by kernel_rfl))) ?_; clear T ac; intro ac T
    refine g_q (v := (.pointer (some ⟨g1, 6, none⟩))) (T := T) (i := 1) rfl (by kernel_rfl) (by kernel_rfl : (pbits 10 1).setIfInBounds 1 true = pbits 10 3) si_U (fun _ _ _ h => h) rfl rfl rfl rfl (fun _ _ _ _ _ => (rn_fieldAddr (off := 0) rfl (T.ev 0 rfl) (fun _ _ _ => by kernel_rfl))) ?_; clear T ac; intro ac T
    refine g_q (T := T) (i := 2) rfl (by kernel_rfl) (by kernel_rfl : (pbits 10 3).setIfInBounds 2 true = pbits 10 7) si_U (fun _ _ _ h => h) rfl rfl rfl rfl (fun B w' hD hl hS => (rn_rowO (Mem.nth (show Mem w (fun b => b = bx) w' _ from hS) 1 rfl) rfl (T.ev 0 rfl) rfl)) ?_; clear T ac; intro ac T
    refine g_q (v := (.pointer (some ⟨g1, 6, none⟩))) (T := T) (i := 3) rfl (by kernel_rfl) (by kernel_rfl : (pbits 10 7).setIfInBounds 3 true = pbits 10 15) si_U (fun _ _ _ h => h) rfl rfl rfl rfl (fun _ _ _ _ _ => (rn_fieldAddr (off := 6) rfl (T.ev 5 rfl) (fun _ _ _ => by kernel_rfl))) ?_; clear T ac; intro ac T
    refine g_q (v := (.pointer (some ⟨g1, 10, none⟩))) (T := T) (i := 4) rfl (by kernel_rfl) (by kernel_rfl : (pbits 10 15).setIfInBounds 4 true = pbits 10 31) si_U (fun _ _ _ h => h) rfl rfl rfl rfl (fun _ _ _ _ _ => (rn_fieldAddr (off := 4) rfl (T.ev 0 rfl) (fun _ _ _ => by kernel_rfl))) ?_; clear T ac; intro ac T
    refine g_q (T := T) (i := 5) rfl (by kernel_rfl) (by kernel_rfl : (pbits 10 31).setIfInBounds 5 true = pbits 10 63) si_U (fun _ _ _ h => h) rfl rfl rfl rfl (fun B w' hD hl hS => (rn_rowO (Mem.nth (show Mem w (fun b => b = bx) w' _ from hS) 1 rfl) rfl (T.ev 0 rfl) rfl)) ?_; clear T ac; intro ac T
    refine g_m2 (i := 6) (j := 7) (by kernel_rfl) ?_ ?_
    ·refine g_i rfl (by kernel_rfl : (pbits 10 63).setIfInBounds 6 true = pbits 10 127) rfl ?_; intro K hK
     refine ow_al M T rfl rfl rfl rfl ?_; clear M T; intro gr11_6 wc ac M T
     refine sh_out hK _ _ (M.mask [false, true, true, true] rfl) ?_; clear hK K
     refine g_w (i := 7) (by kernel_rfl) rfl (by kernel_rfl : (pbits 10 127).setIfInBounds 7 true = pbits 10 255) rfl ?_; intro K hK
     refine ow_al M T rfl rfl rfl rfl ?_; clear M T; intro gr11_7 wc ac M T
     refine sh_out hK _ _ (M.mask [false, false, true, true, true] rfl) ?_; clear hK K
     refine g_w (i := 8) (by kernel_rfl) rfl (by kernel_rfl : (pbits 10 255).setIfInBounds 8 true = pbits 10 511) rfl ?_; intro K hK
     refine ow_stO M T rfl rfl (T.ev 1 rfl) (T.ev 5 rfl) rfl (.tail .head) rfl (by simp) rfl (by kernel_rfl) ?_; clear M T; intro wc ac M T
     refine sh_out hK _ _ (M.mask [false, false, true, true, true] rfl) ?_; clear hK K
     refine g_w (i := 9) (by kernel_rfl) rfl (by kernel_rfl : (pbits 10 511).setIfInBounds 9 true = pbits 10 1023) rfl ?_; intro K hK
     refine ow_stO M T rfl rfl (T.ev 0 rfl) (T.ev 2 rfl) rfl .head rfl (by simp) rfl (by kernel_rfl) ?_; clear M T; intro wc ac M T
     refine sh_out hK _ _ (M.mask [false, false, true, true, true] rfl) ?_; clear hK K
     refine g_done (by kernel_rfl) ?_
     replace T := T.pick [0, 1, 9, 10, 11, 12, 13] rfl
     exact ⟨gr11_7, gr11_6, (T.pick (E' := [(0, .pointer (some ⟨bx, 0, none⟩)), (3, .slice B (r.length + 1) d), (4, .slice none 0 0), (6, .pointer (some ⟨g1, 0, none⟩)), (7, .pointer (some ⟨g2, 0, none⟩)), (12, .pointer (some ⟨gr11_6, 0, none⟩)), (13, .pointer (some ⟨gr11_7, 0, none⟩))]) [4, 5, 6, 3, 2, 1, 0] rfl).as (by rfl), M.perm [1, 0, 2, 3, 4] rfl rfl⟩
    ·refine g_i rfl (by kernel_rfl : (pbits 10 63).setIfInBounds 7 true = pbits 10 191) rfl ?_; intro K hK
     refine ow_al M T rfl rfl rfl rfl ?_; clear M T; intro gr11_7 wc ac M T
     refine sh_out hK _ _ (M.mask [false, true, true, true] rfl) ?_; clear hK K
     refine g_w (i := 6) (by kernel_rfl) rfl (by kernel_rfl : (pbits 10 191).setIfInBounds 6 true = pbits 10 255) rfl ?_; intro K hK
     refine ow_al M T rfl rfl rfl rfl ?_; clear M T; intro gr11_6 wc ac M T
     refine sh_out hK _ _ (M.mask [false, false, true, true, true] rfl) ?_; clear hK K
     refine g_w (i := 8) (by kernel_rfl) rfl (by kernel_rfl : (pbits 10 255).setIfInBounds 8 true = pbits 10 511) rfl ?_; intro K hK
     refine ow_stO M T rfl rfl (T.ev 0 rfl) (T.ev 5 rfl) rfl .head rfl (by simp) rfl (by kernel_rfl) ?_; clear M T; intro wc ac M T
     refine sh_out hK _ _ (M.mask [false, false, true, true, true] rfl) ?_; clear hK K
     refine g_w (i := 9) (by kernel_rfl) rfl (by kernel_rfl : (pbits 10 511).setIfInBounds 9 true = pbits 10 1023) rfl ?_; intro K hK
     refine ow_stO M T rfl rfl (T.ev 1 rfl) (T.ev 2 rfl) rfl (.tail .head) rfl (by simp) rfl (by kernel_rfl) ?_; clear M T; intro wc ac M T
     refine sh_out hK _ _ (M.mask [false, false, true, true, true] rfl) ?_; clear hK K
     refine g_done (by kernel_rfl) ?_
     replace T := T.pick [0, 1, 9, 10, 11, 12, 13] rfl
     exact ⟨gr11_7, gr11_6, (T.pick (E' := [(0, .pointer (some ⟨bx, 0, none⟩)), (3, .slice B (r.length + 1) d), (4, .slice none 0 0), (6, .pointer (some ⟨g1, 0, none⟩)), (7, .pointer (some ⟨g2, 0, none⟩)), (12, .pointer (some ⟨gr11_6, 0, none⟩)), (13, .pointer (some ⟨gr11_7, 0, none⟩))]) [4, 5, 6, 3, 2, 0, 1] rfl).as (by rfl), M.mask [true, true, true, true, true] rfl⟩
   ·clear T M
    rintro ac wc ⟨gr11_7, gr11_6, T, M⟩
    refine cut_seq (fun ac wc => Tm ac 128 [(0, .pointer (some ⟨bx, 0, none⟩)), (3, .slice B (r.length + 1) d), (4, .slice none 0 0), (6, .pointer (some ⟨g1, 0, none⟩)), (7, .pointer (some ⟨g2, 0, none⟩)), (12, .pointer (some ⟨gr11_6, 0, none⟩)), (13, .pointer (some ⟨gr11_7, 0, none⟩))] ∧ Mem w (fun b => b = bx) wc [(gr11_6, .cells [.int .i64 (if k9 = 2 then (-j.d1) else j.u0), .int .i64 (if k9 = 2 then (-j.d0) else j.u1)]), (gr11_7, .cells [.int .i64 (if k9 = 2 then j.b0 else j.a0), .int .i64 (if k9 = 2 then j.b1 else j.a1)]), (g2, .cells [.int .i64 a, .int .i64 b, .int .i64 c9]), (g1, .cells (jobL j A c)), (bx, .cells [.int .i64 e.a0, .int .i64 e.a1, .int .i64 e.b0, .int .i64 e.b1, .int .i64 e.c0, .int .i64 e.c1, .int .i64 e.wo, .int .i64 e.pa, .int .i64 e.th, .int .i64 e.fi, .int .i64 e.tr])]) ?_ ?_
    ·refine wp_seq ?_
     refine wp_region_lit ?_
     refine l_q T rfl rfl rfl rfl (rn_move rfl (T.ev 1 rfl)) ?_; clear T ac; intro ac T
     refine l_q T rfl rfl rfl rfl (rn_indexAddr (size := 1) 0 rfl (T.ev 0 rfl) evc ⟨_, Try.underlying31, by kernel_rfl⟩ rfl (by omega) (SI.at0 (by omega))) ?_; clear T ac; intro ac T
     refine l_q T rfl rfl rfl rfl (rn_cell (Sp.ic0 SI M (List.nil_sublist _) rfl) rfl (T.ev 0 rfl)) ?_; clear T ac; intro ac T
     refine l_q T rfl rfl rfl rfl (rn_eql rfl (T.ev 0 rfl) evc) ?_; clear T ac; intro ac T
     refine wpList_nil ?_
     replace T := T.pick [0, 4, 5, 6, 7, 8, 9, 10] rfl
     refine nm_then ?_
     refine wp_if (T.ev 0 rfl) ?_ ?_
     ·intro h2
      refine g_start2 M (M.perm [2, 3, 4] rfl rfl) 16 (by kernel_rfl) rfl (by kernel_rfl) ?_
      clear M; intro wc M
      refine g_addG 14 M ?_
      refine g_addG 15 (M.perm [1, 2, 3, 4] rfl rfl) ?_
      refine g_q (v := (.pointer (some ⟨g1, 6, none⟩))) (T := T) (i := 0) rfl (by kernel_rfl) (by kernel_rfl : (pbits 16 0).setIfInBounds 0 true = pbits 16 1) (si_and (si_G rfl) (si_and (si_G rfl) si_U)) (fun _ _ _ h => h) rfl rfl rfl rfl (fun _ _ _ _ _ => (rn_fieldAddr (off := 6) rfl (T.ev 4 rfl) (fun _ _ _ => by kernel_rfl))) ?_; clear T ac; intro ac T
      refine g_q (v := (.pointer (some ⟨g1, 8, none⟩))) (T := T) (i := 1) rfl (by kernel_rfl) (by kernel_rfl : (pbits 16 1).setIfInBounds 1 true = pbits 16 3) (si_and (si_G rfl) (si_and (si_G rfl) si_U)) (fun _ _ _ h => h) rfl rfl rfl rfl (fun _ _ _ _ _ => (rn_fieldAddr (off := 2) rfl (T.ev 0 rfl) (fun _ _ _ => by kernel_rfl))) ?_; clear T ac; intro ac T
      refine g_q (v := (.pointer (some ⟨g1, 9, none⟩))) (T := T) (i := 2) rfl (by kernel_rfl) (by kernel_rfl : (pbits 16 3).setIfInBounds 2 true = pbits 16 7) (si_and (si_G rfl) (si_and (si_G rfl) si_U)) (fun _ _ _ h => h) rfl rfl rfl rfl (fun _ _ _ _ _ => (rn_fieldAddr (off := 1) rfl (T.ev 0 rfl) (fun _ _ _ => by kernel_rfl))) ?_; clear T ac; intro ac T
      refine g_q (T := T) (i := 3) rfl (by kernel_rfl) (by kernel_rfl : (pbits 16 7).setIfInBounds 3 true = pbits 16 15) (si_and (si_G rfl) (si_and (si_G rfl) si_U)) (fun _ _ _ h => h) rfl rfl rfl rfl (fun B w' hD hl hS => (rn_one (Mem.nth (show Mem w (fun b => b = bx) w' _ from ((MA.lft hS) (hD.wait (i := 3) (m := 15) (by kernel_rfl) hl))) 2 rfl) rfl (T.ev 0 rfl) rfl)) ?_; clear T ac; intro ac T
      refine g_q (T := T) (i := 4) rfl (by kernel_rfl) (by kernel_rfl : (pbits 16 15).setIfInBounds 4 true = pbits 16 31) (si_and (si_G rfl) (si_and (si_G rfl) si_U)) (fun _ _ _ h => h) rfl rfl rfl rfl (fun _ _ _ _ _ => (rn_neg rfl (T.ev 0 rfl) (by omega))) ?_; clear T ac; intro ac T
      refine g_q (v := (.pointer (some ⟨g1, 6, none⟩))) (T := T) (i := 5) rfl (by kernel_rfl) (by kernel_rfl : (pbits 16 31).setIfInBounds 5 true = pbits 16 63) (si_and (si_G rfl) (si_and (si_G rfl) si_U)) (fun _ _ _ h => h) rfl rfl rfl rfl (fun _ _ _ _ _ => (rn_fieldAddr (off := 6) rfl (T.ev 9 rfl) (fun _ _ _ => by kernel_rfl))) ?_; clear T ac; intro ac T
      refine g_q (v := (.pointer (some ⟨g1, 8, none⟩))) (T := T) (i := 6) rfl (by kernel_rfl) (by kernel_rfl : (pbits 16 63).setIfInBounds 6 true = pbits 16 127) (si_and (si_G rfl) (si_and (si_G rfl) si_U)) (fun _ _ _ h => h) rfl rfl rfl rfl (fun _ _ _ _ _ => (rn_fieldAddr (off := 2) rfl (T.ev 0 rfl) (fun _ _ _ => by kernel_rfl))) ?_; clear T ac; intro ac T
      refine g_q (v := (.pointer (some ⟨g1, 8, none⟩))) (T := T) (i := 7) rfl (by kernel_rfl) (by kernel_rfl : (pbits 16 127).setIfInBounds 7 true = pbits 16 255) (si_and (si_G rfl) (si_and (si_G rfl) si_U)) (fun _ _ _ h => h) rfl rfl rfl rfl (fun _ _ _ _ _ => (rn_fieldAddr (off := 0) rfl (T.ev 0 rfl) (fun _ _ _ => by kernel_rfl))) ?_; clear T ac; intro ac T
      refine g_q (T := T) (i := 8) rfl (by kernel_rfl) (by kernel_rfl : (pbits 16 255).setIfInBounds 8 true = pbits 16 511) (si_and (si_G rfl) (si_and (si_G rfl) si_U)) (fun _ _ _ h => h) rfl rfl rfl rfl (fun B w' hD hl hS => (rn_one (Mem.nth (show Mem w (fun b => b = bx) w' _ from ((MA.lft hS) (hD.wait (i := 8) (m := 15) (by kernel_rfl) hl))) 2 rfl) rfl (T.ev 0 rfl) rfl)) ?_; clear T ac; intro ac T
      refine g_q (T := T) (i := 9) rfl (by kernel_rfl) (by kernel_rfl : (pbits 16 511).setIfInBounds 9 true = pbits 16 1023) (si_and (si_G rfl) (si_and (si_G rfl) si_U)) (fun _ _ _ h => h) rfl rfl rfl rfl (fun _ _ _ _ _ => (rn_neg rfl (T.ev 0 rfl) (by omega))) ?_; clear T ac; intro ac T
      refine g_q (v := (.pointer (some ⟨g1, 6, none⟩))) (T := T) (i := 11) rfl (by kernel_rfl) (by kernel_rfl : (pbits 16 1023).setIfInBounds 11 true = pbits 16 3071) (si_and (si_G rfl) (si_and (si_G rfl) si_U)) (fun _ _ _ h => h) rfl rfl rfl rfl (fun _ _ _ _ _ => (rn_fieldAddr (off := 6) rfl (T.ev 14 rfl) (fun _ _ _ => by kernel_rfl))) ?_; clear T ac; intro ac T
      refine g_q (v := (.pointer (some ⟨g1, 12, none⟩))) (T := T) (i := 12) rfl (by kernel_rfl) (by kernel_rfl : (pbits 16 3071).setIfInBounds 12 true = pbits 16 7167) (si_and (si_G rfl) (si_and (si_G rfl) si_U)) (fun _ _ _ h => h) rfl rfl rfl rfl (fun _ _ _ _ _ => (rn_fieldAddr (off := 6) rfl (T.ev 0 rfl) (fun _ _ _ => by kernel_rfl))) ?_; clear T ac; intro ac T
      refine g_q (T := T) (i := 13) rfl (by kernel_rfl) (by kernel_rfl : (pbits 16 7167).setIfInBounds 13 true = pbits 16 15359) (si_and (si_G rfl) (si_and (si_G rfl) si_U)) (fun _ _ _ h => h) rfl rfl rfl rfl (fun B w' hD hl hS => (rn_rowO (Mem.nth (show Mem w (fun b => b = bx) w' _ from ((MA.lft hS) (hD.wait (i := 13) (m := 15) (by kernel_rfl) hl))) 2 rfl) rfl (T.ev 0 rfl) rfl)) ?_; clear T ac; intro ac T
      refine g_w (i := 10) (by kernel_rfl) rfl (by kernel_rfl : (pbits 16 15359).setIfInBounds 10 true = pbits 16 16383) rfl ?_; intro K hK
      refine ow_call (first := []) (cap := []) T rfl rfl rfl rfl evf (.cons (T.ev 8 rfl) (.cons (T.ev 3 rfl) .nil)) Try.func31 rfl rfl ?_
      refine Calls.mono (to_any (-j.d1) (-j.d0) _) ?_
      clear T
      rintro e wc ⟨rfl, hb⟩
      intro ac T
      replace M := M.call hb; clear hb
      refine sh_out hK _ _ (MA.mk (fun _ => M.mask [false, true, true, true, true] rfl) (MA.mk (fun _ => M.mask [true, true, true, true, true] rfl) (M.mask [false, false, true, true, true] rfl))) ?_; clear hK K
      refine g_w (i := 14) (by kernel_rfl) rfl (by kernel_rfl : (pbits 16 16383).setIfInBounds 14 true = pbits 16 32767) rfl ?_; intro K hK
      refine ow_stO M T rfl rfl (T.ev 20 rfl) (T.ev 0 rfl) rfl .head rfl (by simp) rfl (by kernel_rfl) ?_; clear M T; intro wc ac M T
      refine sh_out hK _ _ (MA.mk (fun _ => M.mask [false, true, true, true, true] rfl) (MA.mk (fun h => (no_of (by kernel_rfl) h).elim) (M.mask [false, false, true, true, true] rfl))) ?_; clear hK K
      refine g_w (i := 15) (by kernel_rfl) rfl (by kernel_rfl : (pbits 16 32767).setIfInBounds 15 true = pbits 16 65535) rfl ?_; intro K hK
      refine ow_stO M T rfl rfl (T.ev 21 rfl) (T.ev 1 rfl) rfl (.tail .head) rfl (by simp) rfl (by kernel_rfl) ?_; clear M T; intro wc ac M T
      refine sh_out hK _ _ (MA.mk (fun h => (no_of (by kernel_rfl) h).elim) (MA.mk (fun h => (no_of (by kernel_rfl) h).elim) (M.mask [false, false, true, true, true] rfl))) ?_; clear hK K
      refine g_done (by kernel_rfl) ?_
      replace T := T.pick [15, 16, 17, 18, 19, 20, 21] rfl
      exact ⟨(T.pick (E' := [(0, .pointer (some ⟨bx, 0, none⟩)), (3, .slice B (r.length + 1) d), (4, .slice none 0 0), (6, .pointer (some ⟨g1, 0, none⟩)), (7, .pointer (some ⟨g2, 0, none⟩)), (12, .pointer (some ⟨gr11_6, 0, none⟩)), (13, .pointer (some ⟨gr11_7, 0, none⟩))]) [0, 1, 2, 3, 4, 5, 6] rfl).as (by (try rw [show (decide (k9 = 2)) = true from (decide_eq_true h2)]); (try simp only [if_pos h2]); (try rfl)), (by (try rw [show (decide (k9 = 2)) = true from (decide_eq_true h2)]); (try simp only [if_pos h2]); exact M.mask [true, true, true, true, true] rfl)⟩
     ·intro h2
      refine wp_skip ?_
      exact ⟨(T.pick (E' := [(0, .pointer (some ⟨bx, 0, none⟩)), (3, .slice B (r.length + 1) d), (4, .slice none 0 0), (6, .pointer (some ⟨g1, 0, none⟩)), (7, .pointer (some ⟨g2, 0, none⟩)), (12, .pointer (some ⟨gr11_6, 0, none⟩)), (13, .pointer (some ⟨gr11_7, 0, none⟩))]) [1, 2, 3, 4, 5, 6, 7] rfl).as (by (try rw [show (decide (k9 = 2)) = false from (decide_eq_false h2)]); (try simp only [if_neg h2]); (try rfl)), (by (try rw [show (decide (k9 = 2)) = false from (decide_eq_false h2)]); (try simp only [if_neg h2]); exact M.mask [true, true, true, true, true] rfl)⟩
    ·clear T M
     rintro ac wc ⟨T, M⟩
     refine wp_seq ?_
     refine wp_region_lit ?_
     refine l_q (v := (.pointer (some ⟨gr11_6, 0, none⟩))) T rfl rfl rfl rfl (rn_fieldAddr (off := 0) rfl (T.ev 5 rfl) (fun _ _ _ => by kernel_rfl)) ?_; clear T ac; intro ac T
     refine l_q T rfl rfl rfl rfl (rn_one (Mem.nth M 0 rfl) rfl (T.ev 0 rfl) rfl) ?_; clear T ac; intro ac T
     refine l_q T rfl rfl rfl rfl (rn_assign rfl (T.ev 0 rfl)) ?_; clear T ac; intro ac T
     refine wpList_nil ?_
     replace T := T.pick [0, 3, 4, 5, 6, 7, 8, 9] rfl
     refine nm_then ?_
     refine wp_block ?_
     obtain ⟨u0, hu0⟩ : ∃ q : Int, q = (if k9 = 2 then (-j.d1) else j.u0) := ⟨_, rfl⟩
     rw [← hu0] at M
     (try rw [← hu0] at T)
     obtain ⟨u1, hu1⟩ : ∃ q : Int, q = (if k9 = 2 then (-j.d0) else j.u1) := ⟨_, rfl⟩
     rw [← hu1] at M
     (try rw [← hu1] at T)
     obtain ⟨v0, hv0⟩ : ∃ q : Int, q = (if k9 = 2 then j.b0 else j.a0) := ⟨_, rfl⟩
     rw [← hv0] at M
     (try rw [← hv0] at T)
     obtain ⟨v1, hv1⟩ : ∃ q : Int, q = (if k9 = 2 then j.b1 else j.a1) := ⟨_, rfl⟩
     rw [← hv1] at M
     (try rw [← hv1] at T)
     have hup : upR j k9 = (u0, u1) := by unfold upR; rw [hu0, hu1]; split <;> rfl
     have hwe : wearR j k9 = (v0, v1) := by unfold wearR; rw [hv0, hv1]; split <;> rfl
     have hub : -12 ≤ u0 ∧ u1 ≤ 12 := by rw [hu0, hu1]; split <;> omega
     have hvb : 0 ≤ v0 ∧ v1 ≤ 12 := by rw [hv0, hv1]; split <;> omega
     clear hu0 hu1 hv0 hv1
     refine wp_loop_n (fun mz ac wc => ∃ (k : Nat) (N : Int) (ek : En), mz = (u1 - u0 + 1).toNat - k ∧ (N = u0 + (k : Int)) ∧ (k ≤ (u1 - u0 + 1).toNat) ∧ (ek = En.all j e (((rangeI u0 u1).take k).flatMap (fun n => (rangeI v0 v1).flatMap fun w => trT j r (moveT k9 (a, b, c9) n w)))) ∧ (ek.ok (((rangeI u0 u1).drop k).flatMap (fun n => (rangeI v0 v1).flatMap fun w => trT j r (moveT k9 (a, b, c9) n w))).length) ∧ Tm ac 128 [(0, .pointer (some ⟨bx, 0, none⟩)), (3, .slice B (r.length + 1) d), (4, .slice none 0 0), (6, .pointer (some ⟨g1, 0, none⟩)), (7, .pointer (some ⟨g2, 0, none⟩)), (12, .pointer (some ⟨gr11_6, 0, none⟩)), (13, .pointer (some ⟨gr11_7, 0, none⟩)), (14, .int .i64 N)] ∧ Mem w (fun b => b = bx) wc [(gr11_6, .cells [.int .i64 u0, .int .i64 u1]), (gr11_7, .cells [.int .i64 v0, .int .i64 v1]), (g2, .cells [.int .i64 a, .int .i64 b, .int .i64 c9]), (g1, .cells (jobL j A c)), (bx, .cells [.int .i64 ek.a0, .int .i64 ek.a1, .int .i64 ek.b0, .int .i64 ek.b1, .int .i64 ek.c0, .int .i64 ek.c1, .int .i64 ek.wo, .int .i64 ek.pa, .int .i64 ek.th, .int .i64 ek.fi, .int .i64 ek.tr])]) ?_ ?_
     ·exact ⟨_, 0, _, e, rfl, (by omega), (by omega), rfl, (by rw [List.drop_zero]; have h8 := he; rw [trT_cons, hup, hwe] at h8; exact h8), T.pick [1, 2, 3, 4, 5, 6, 7, 0] rfl, M.mask [true, true, true, true, true] rfl⟩
     ·clear T M
      rintro mz ac wc ⟨k, N, ek, hmm2, hN, hk2, hek, hok, T, M⟩
      refine wp_seq ?_
      refine wp_seq ?_
      refine wp_region_lit ?_
      refine l_q T rfl rfl rfl rfl (rn_move rfl (T.ev 7 rfl)) ?_; clear T ac; intro ac T
      refine l_q (v := (.pointer (some ⟨gr11_6, 1, none⟩))) T rfl rfl rfl rfl (rn_fieldAddr (off := 1) rfl (T.ev 6 rfl) (fun _ _ _ => by kernel_rfl)) ?_; clear T ac; intro ac T
      refine l_q T rfl rfl rfl rfl (rn_one (Mem.nth M 0 rfl) rfl (T.ev 0 rfl) rfl) ?_; clear T ac; intro ac T
      refine l_q T rfl rfl rfl rfl (rn_leq rfl (T.ev 2 rfl) (T.ev 0 rfl)) ?_; clear T ac; intro ac T
      refine wpList_nil ?_
      replace T := T.pick [0, 4, 5, 6, 7, 8, 9, 10, 11] rfl
      refine nm_then ?_
      refine wp_if (T.ev 0 rfl) ?_ ?_
      ·intro h3
       have hg9 := rangeI_get hN (by omega)
       rw [drop_get hg9, List.flatMap_cons, List.length_append] at hok
       have hokN := hok.le (Nat.le_add_right _ _)
       refine wp_skip ?_
       refine nm_then ?_
       refine wp_seq ?_
       refine wp_block ?_
       refine wp_seq ?_
       refine wp_region_lit ?_
       refine l_q (v := (.pointer (some ⟨gr11_7, 0, none⟩))) T rfl rfl rfl rfl (rn_fieldAddr (off := 0) rfl (T.ev 7 rfl) (fun _ _ _ => by kernel_rfl)) ?_; clear T ac; intro ac T
       refine l_q T rfl rfl rfl rfl (rn_one (Mem.nth M 1 rfl) rfl (T.ev 0 rfl) rfl) ?_; clear T ac; intro ac T
       refine l_q T rfl rfl rfl rfl (rn_assign rfl (T.ev 0 rfl)) ?_; clear T ac; intro ac T
       refine wpList_nil ?_
       replace T := T.pick [0, 4, 5, 6, 7, 8, 9, 10, 11] rfl
       refine nm_then ?_
       refine wp_block ?_
       refine wp_loop_n (fun mz ac wc => ∃ (q : Nat) (V : Int) (fk : En), mz = (v1 - v0 + 1).toNat - q ∧ (V = v0 + (q : Int)) ∧ (q ≤ (v1 - v0 + 1).toNat) ∧ (fk = En.all j ek (((rangeI v0 v1).take q).flatMap (fun w => trT j r (moveT k9 (a, b, c9) N w)))) ∧ (fk.ok (((rangeI v0 v1).drop q).flatMap (fun w => trT j r (moveT k9 (a, b, c9) N w))).length) ∧ Tm ac 128 [(0, .pointer (some ⟨bx, 0, none⟩)), (3, .slice B (r.length + 1) d), (4, .slice none 0 0), (6, .pointer (some ⟨g1, 0, none⟩)), (7, .pointer (some ⟨g2, 0, none⟩)), (12, .pointer (some ⟨gr11_6, 0, none⟩)), (13, .pointer (some ⟨gr11_7, 0, none⟩)), (14, .int .i64 N), (15, .int .i64 V)] ∧ Mem w (fun b => b = bx) wc [(gr11_6, .cells [.int .i64 u0, .int .i64 u1]), (gr11_7, .cells [.int .i64 v0, .int .i64 v1]), (g2, .cells [.int .i64 a, .int .i64 b, .int .i64 c9]), (g1, .cells (jobL j A c)), (bx, .cells [.int .i64 fk.a0, .int .i64 fk.a1, .int .i64 fk.b0, .int .i64 fk.b1, .int .i64 fk.c0, .int .i64 fk.c1, .int .i64 fk.wo, .int .i64 fk.pa, .int .i64 fk.th, .int .i64 fk.fi, .int .i64 fk.tr])]) ?_ ?_
       ·exact ⟨_, 0, _, ek, rfl, (by omega), (by omega), rfl, (by rw [List.drop_zero]; exact hokN), T.pick [1, 2, 3, 4, 5, 6, 7, 8, 0] rfl, M.mask [true, true, true, true, true] rfl⟩
       ·clear T M
        rintro mz ac wc ⟨q, V, fk, hmm3, hV, hk3, hfk, hfo, T, M⟩
        refine wp_seq ?_
        refine wp_seq ?_
        refine wp_region_lit ?_
        refine l_q T rfl rfl rfl rfl (rn_move rfl (T.ev 8 rfl)) ?_; clear T ac; intro ac T
        refine l_q (v := (.pointer (some ⟨gr11_7, 1, none⟩))) T rfl rfl rfl rfl (rn_fieldAddr (off := 1) rfl (T.ev 7 rfl) (fun _ _ _ => by kernel_rfl)) ?_; clear T ac; intro ac T
        refine l_q T rfl rfl rfl rfl (rn_one (Mem.nth M 1 rfl) rfl (T.ev 0 rfl) rfl) ?_; clear T ac; intro ac T
        refine l_q T rfl rfl rfl rfl (rn_leq rfl (T.ev 2 rfl) (T.ev 0 rfl)) ?_; clear T ac; intro ac T
        refine wpList_nil ?_
        replace T := T.pick [0, 4, 5, 6, 7, 8, 9, 10, 11, 12] rfl
        refine nm_then ?_
        refine wp_if (T.ev 0 rfl) ?_ ?_
        ·intro h4
         have hgV := rangeI_get hV (by omega)
         rw [drop_get hgV, List.flatMap_cons, List.length_append] at hfo
         have hfoN := hfo.le (Nat.le_add_right _ _)
         have hmv : moveT k9 (a, b, c9) N V = ((a + N), (if k9 = 1 then (b - V) else b), (if k9 = 1 then c9 else (c9 - V))) := by unfold moveT; split <;> rfl
         have hm2 : (-5000 + 500 * ((r.length : Nat) : Int) ≤ (if k9 = 1 then (b - V) else b) ∧ (if k9 = 1 then (b - V) else b) ≤ 5000 - 500 * ((r.length : Nat) : Int)) := by split <;> omega
         have hm3 : (-5000 + 500 * ((r.length : Nat) : Int) ≤ (if k9 = 1 then c9 else (c9 - V)) ∧ (if k9 = 1 then c9 else (c9 - V)) ≤ 5000 - 500 * ((r.length : Nat) : Int)) := by split <;> omega
         refine wp_skip ?_
         refine nm_then ?_
         refine wp_seq ?_
         refine wp_block ?_
         refine wp_seq ?_
         refine wp_region_lit ?_
         refine l_q (v := (.pointer (some ⟨g2, 0, none⟩))) T rfl rfl rfl rfl (rn_fieldAddr (off := 0) rfl (T.ev 5 rfl) (fun _ _ _ => by kernel_rfl)) ?_; clear T ac; intro ac T
         refine l_q T rfl rfl rfl rfl (rn_one (Mem.nth M 2 rfl) rfl (T.ev 0 rfl) rfl) ?_; clear T ac; intro ac T
         refine l_q T rfl rfl rfl rfl (rn_move rfl (T.ev 10 rfl)) ?_; clear T ac; intro ac T
         refine l_q T rfl rfl rfl rfl (rn_add rfl (T.ev 1 rfl) (T.ev 0 rfl) (by omega)) ?_; clear T ac; intro ac T
         refine l_q (v := (.pointer (some ⟨g2, 1, none⟩))) T rfl rfl rfl rfl (rn_fieldAddr (off := 1) rfl (T.ev 9 rfl) (fun _ _ _ => by kernel_rfl)) ?_; clear T ac; intro ac T
         refine l_q T rfl rfl rfl rfl (rn_one (Mem.nth M 2 rfl) rfl (T.ev 0 rfl) rfl) ?_; clear T ac; intro ac T
         refine l_q (v := (.pointer (some ⟨g2, 2, none⟩))) T rfl rfl rfl rfl (rn_fieldAddr (off := 2) rfl (T.ev 11 rfl) (fun _ _ _ => by kernel_rfl)) ?_; clear T ac; intro ac T
         refine l_q T rfl rfl rfl rfl (rn_one (Mem.nth M 2 rfl) rfl (T.ev 0 rfl) rfl) ?_; clear T ac; intro ac T
         refine l_q (v := (.agg #[.int .i64 (a + N), .int .i64 b, .int .i64 c9])) T rfl rfl rfl rfl (rn_build rfl (.cons (T.ev 4 rfl) (.cons (T.ev 2 rfl) (.cons (T.ev 0 rfl) .nil))) (fun _ => by kernel_rfl)) ?_; clear T ac; intro ac T
         refine l_w rfl ?_; intro K hK
         refine ow_al M T rfl rfl rfl rfl ?_; clear M T; intro g3 wc ac M T
         refine sh_out hK _ _ ?_; clear hK K
         refine l_w rfl ?_; intro K hK
         refine ow_stO M T rfl rfl (T.ev 0 rfl) (T.ev 1 rfl) rfl .head rfl (by simp) rfl (by kernel_rfl) ?_; clear M T; intro wc ac M T
         refine sh_out hK _ _ ?_; clear hK K
         refine wpList_nil ?_
         replace T := T.pick [0, 11, 12, 13, 14, 15, 16, 17, 18, 19] rfl
         refine nm_then ?_
         refine cut_seq (fun ac wc => Tm ac 128 [(0, .pointer (some ⟨bx, 0, none⟩)), (3, .slice B (r.length + 1) d), (4, .slice none 0 0), (6, .pointer (some ⟨g1, 0, none⟩)), (7, .pointer (some ⟨g2, 0, none⟩)), (12, .pointer (some ⟨gr11_6, 0, none⟩)), (13, .pointer (some ⟨gr11_7, 0, none⟩)), (14, .int .i64 N), (15, .int .i64 V), (16, .pointer (some ⟨g3, 0, none⟩))] ∧ Mem w (fun b => b = bx) wc [(g3, .cells [.int .i64 (a + N), .int .i64 (if k9 = 1 then (b - V) else b), .int .i64 (if k9 = 1 then c9 else (c9 - V))]), (gr11_6, .cells [.int .i64 u0, .int .i64 u1]), (gr11_7, .cells [.int .i64 v0, .int .i64 v1]), (g2, .cells [.int .i64 a, .int .i64 b, .int .i64 c9]), (g1, .cells (jobL j A c)), (bx, .cells [.int .i64 fk.a0, .int .i64 fk.a1, .int .i64 fk.b0, .int .i64 fk.b1, .int .i64 fk.c0, .int .i64 fk.c1, .int .i64 fk.wo, .int .i64 fk.pa, .int .i64 fk.th, .int .i64 fk.fi, .int .i64 fk.tr])]) ?_ ?_
         ·refine wp_seq ?_
          refine wp_region_lit ?_
          refine l_q T rfl rfl rfl rfl (rn_move rfl (T.ev 2 rfl)) ?_; clear T ac; intro ac T
          refine l_q T rfl rfl rfl rfl (rn_indexAddr (size := 1) 0 rfl (T.ev 0 rfl) evc ⟨_, Try.underlying31, by kernel_rfl⟩ rfl (by omega) (SI.at0 (by omega))) ?_; clear T ac; intro ac T
          refine l_q T rfl rfl rfl rfl (rn_cell (Sp.ic0 SI M (List.nil_sublist _) rfl) rfl (T.ev 0 rfl)) ?_; clear T ac; intro ac T
          refine l_q T rfl rfl rfl rfl (rn_eql rfl (T.ev 0 rfl) evc) ?_; clear T ac; intro ac T
          refine wpList_nil ?_
          replace T := T.pick [0, 4, 5, 6, 7, 8, 9, 10, 11, 12, 13] rfl
          refine nm_then ?_
          refine wp_if (T.ev 0 rfl) ?_ ?_
          ·intro h5
           refine wp_region_lit ?_
           refine l_q (v := (.pointer (some ⟨g2, 1, none⟩))) T rfl rfl rfl rfl (rn_fieldAddr (off := 1) rfl (T.ev 6 rfl) (fun _ _ _ => by kernel_rfl)) ?_; clear T ac; intro ac T
           refine l_q T rfl rfl rfl rfl (rn_one (Mem.nth M 3 rfl) rfl (T.ev 0 rfl) rfl) ?_; clear T ac; intro ac T
           refine l_q T rfl rfl rfl rfl (rn_move rfl (T.ev 12 rfl)) ?_; clear T ac; intro ac T
           refine l_q T rfl rfl rfl rfl (rn_sub rfl (T.ev 1 rfl) (T.ev 0 rfl) (by omega)) ?_; clear T ac; intro ac T
           refine l_q (v := (.pointer (some ⟨g3, 1, none⟩))) T rfl rfl rfl rfl (rn_fieldAddr (off := 1) rfl (T.ev 5 rfl) (fun _ _ _ => by kernel_rfl)) ?_; clear T ac; intro ac T
           refine l_w rfl ?_; intro K hK
           refine ow_stO M T rfl rfl (T.ev 0 rfl) (T.ev 1 rfl) rfl .head rfl (by simp) rfl (by kernel_rfl) ?_; clear M T; intro wc ac M T
           refine sh_out hK _ _ ?_; clear hK K
           refine wpList_nil ?_
           replace T := T.pick [6, 7, 8, 9, 10, 11, 12, 13, 14, 15] rfl
           exact ⟨(T.pick (E' := [(0, .pointer (some ⟨bx, 0, none⟩)), (3, .slice B (r.length + 1) d), (4, .slice none 0 0), (6, .pointer (some ⟨g1, 0, none⟩)), (7, .pointer (some ⟨g2, 0, none⟩)), (12, .pointer (some ⟨gr11_6, 0, none⟩)), (13, .pointer (some ⟨gr11_7, 0, none⟩)), (14, .int .i64 N), (15, .int .i64 V), (16, .pointer (some ⟨g3, 0, none⟩))]) [1, 2, 3, 4, 5, 6, 7, 8, 9, 0] rfl).as (by (try rw [show (decide (k9 = 1)) = true from (decide_eq_true h5)]); (try simp only [if_pos h5]); (try rfl)), (by (try rw [show (decide (k9 = 1)) = true from (decide_eq_true h5)]); (try simp only [if_pos h5]); exact M.mask [true, true, true, true, true, true] rfl)⟩
          ·intro h5
           refine wp_region_lit ?_
           refine l_q (v := (.pointer (some ⟨g2, 2, none⟩))) T rfl rfl rfl rfl (rn_fieldAddr (off := 2) rfl (T.ev 6 rfl) (fun _ _ _ => by kernel_rfl)) ?_; clear T ac; intro ac T
           refine l_q T rfl rfl rfl rfl (rn_one (Mem.nth M 3 rfl) rfl (T.ev 0 rfl) rfl) ?_; clear T ac; intro ac T
           refine l_q T rfl rfl rfl rfl (rn_move rfl (T.ev 12 rfl)) ?_; clear T ac; intro ac T
           refine l_q T rfl rfl rfl rfl (rn_sub rfl (T.ev 1 rfl) (T.ev 0 rfl) (by omega)) ?_; clear T ac; intro ac T
           refine l_q (v := (.pointer (some ⟨g3, 2, none⟩))) T rfl rfl rfl rfl (rn_fieldAddr (off := 2) rfl (T.ev 5 rfl) (fun _ _ _ => by kernel_rfl)) ?_; clear T ac; intro ac T
           refine l_w rfl ?_; intro K hK
           refine ow_stO M T rfl rfl (T.ev 0 rfl) (T.ev 1 rfl) rfl .head rfl (by simp) rfl (by kernel_rfl) ?_; clear M T; intro wc ac M T
           refine sh_out hK _ _ ?_; clear hK K
           refine wpList_nil ?_
           replace T := T.pick [6, 7, 8, 9, 10, 11, 12, 13, 14, 15] rfl
           exact ⟨(T.pick (E' := [(0, .pointer (some ⟨bx, 0, none⟩)), (3, .slice B (r.length + 1) d), (4, .slice none 0 0), (6, .pointer (some ⟨g1, 0, none⟩)), (7, .pointer (some ⟨g2, 0, none⟩)), (12, .pointer (some ⟨gr11_6, 0, none⟩)), (13, .pointer (some ⟨gr11_7, 0, none⟩)), (14, .int .i64 N), (15, .int .i64 V), (16, .pointer (some ⟨g3, 0, none⟩))]) [1, 2, 3, 4, 5, 6, 7, 8, 9, 0] rfl).as (by (try rw [show (decide (k9 = 1)) = false from (decide_eq_false h5)]); (try simp only [if_neg h5]); (try rfl)), (by (try rw [show (decide (k9 = 1)) = false from (decide_eq_false h5)]); (try simp only [if_neg h5]); exact M.mask [true, true, true, true, true, true] rfl)⟩
         ·clear T M
          rintro ac wc ⟨T, M⟩
          refine g_start2 M (M.perm [0, 1, 2, 3, 4] rfl rfl) 7 (by kernel_rfl) rfl (by kernel_rfl) ?_
          clear M; intro wc M
          refine g_addG 6 M ?_
          refine g_q (T := T) (i := 0) rfl (by kernel_rfl) (by kernel_rfl : (pbits 7 0).setIfInBounds 0 true = pbits 7 1) (si_and (si_G rfl) si_U) (fun _ _ _ h => h) rfl rfl rfl rfl (fun _ _ _ _ _ => (rn_move rfl (T.ev 0 rfl))) ?_; clear T ac; intro ac T
          refine g_q (T := T) (i := 1) rfl (by kernel_rfl) (by kernel_rfl : (pbits 7 1).setIfInBounds 1 true = pbits 7 3) (si_and (si_G rfl) si_U) (fun _ _ _ h => h) rfl rfl rfl rfl (fun B w' hD hl hS => (rn_rowO (Mem.nth (show Mem w (fun b => b = bx) w' _ from ((MA.lft hS) (hD.wait (i := 1) (m := 6) (by kernel_rfl) hl))) 4 rfl) rfl (T.ev 4 rfl) rfl)) ?_; clear T ac; intro ac T
          refine g_q (T := T) (i := 2) rfl (by kernel_rfl) (by kernel_rfl : (pbits 7 3).setIfInBounds 2 true = pbits 7 7) (si_and (si_G rfl) si_U) (fun _ _ _ h => h) rfl rfl rfl rfl (fun B w' hD hl hS => (rn_rowO (Mem.nth (show Mem w (fun b => b = bx) w' _ from ((MA.lft hS) (hD.wait (i := 2) (m := 6) (by kernel_rfl) hl))) 0 rfl) rfl (T.ev 11 rfl) rfl)) ?_; clear T ac; intro ac T
          refine g_q (T := T) (i := 3) rfl (by kernel_rfl) (by kernel_rfl : (pbits 7 7).setIfInBounds 3 true = pbits 7 15) (si_and (si_G rfl) si_U) (fun _ _ _ h => h) rfl rfl rfl rfl (fun _ _ _ _ _ => (rn_move rfl (T.ev 4 rfl))) ?_; clear T ac; intro ac T
          refine g_q (T := T) (i := 4) rfl (by kernel_rfl) (by kernel_rfl : (pbits 7 15).setIfInBounds 4 true = pbits 7 31) (si_and (si_G rfl) si_U) (fun _ _ _ h => h) rfl rfl rfl rfl (fun _ _ _ _ _ => (rn_slice (size := 1) (l := 1) (h := (r.length + 1)) rfl Try.underlying31 (by kernel_rfl) (T.ev 0 rfl) evc rfl (by omega) (by omega))) ?_; clear T ac; intro ac T
          obtain ⟨Aq1, hAq1⟩ : ∃ q : Option Addr, q = (if d = 1 then B else Option.map (fun x => x.add (1 * 1)) B) := ⟨_, rfl⟩
          rw [← hAq1] at T
          obtain ⟨lq1, hlq1⟩ : ∃ q, q = ((k9 :: r).drop 1).take ((r.length + 1) - 1) := ⟨_, rfl⟩
          have nlq1 : lq1.length = (r.length + 1) - 1 := by rw [hlq1, List.length_take, List.length_drop]; (try simp only [List.length_cons, List.length_append, List.length_nil]); omega
          rw [← nlq1] at T
          have SAq1 : Sp w (fun b => b = bx) [] Aq1 lq1.length 1 bI (oI + 1 * 1) (ic lq1) := by rw [nlq1, hAq1, hlq1, ← ic_part]; exact SI.sub (by omega) (by omega) (by omega)
          refine g_q (T := T) (i := 5) rfl (by kernel_rfl) (by kernel_rfl : (pbits 7 31).setIfInBounds 5 true = pbits 7 63) (si_and (si_G rfl) si_U) (fun _ _ _ h => h) rfl rfl rfl rfl (fun _ _ _ _ _ => (rn_move rfl (T.ev 7 rfl))) ?_; clear T ac; intro ac T
          refine g_w (i := 6) (by kernel_rfl) rfl (by kernel_rfl : (pbits 7 63).setIfInBounds 6 true = pbits 7 127) rfl ?_; intro K hK
          refine ow_call (first := []) (cap := []) T rfl rfl rfl rfl evf (.cons (T.ev 5 rfl) (.cons (T.ev 4 rfl) (.cons (T.ev 3 rfl) (.cons (T.ev 1 rfl) (.cons (T.ev 0 rfl) .nil))))) Try.func61 rfl rfl ?_
          refine Calls.mono ((show AllStC j A c bx lq1 from by rw [hlq1]; simpa using ih) fk (a + N) (if k9 = 1 then (b - V) else b) (if k9 = 1 then c9 else (c9 - V)) _ _ _ (by rw [nlq1]; omega) (by rw [nlq1]; omega) (by rw [nlq1]; omega) (by rw [hlq1, ← hmv]; simpa using hfoN) (SJ.rd M (List.nil_sublist _)) hneA (SAq1.rd M (List.nil_sublist _)) (by rw [hAq1]; exact sub_ne hneB (SI.at0 (by omega)) _ _) (by omega) (M.nth 5 rfl)) ?_
          clear T
          rintro e wc ⟨rfl, hgr, hbk⟩
          intro ac T
          have hlru2 : lq1 = r := by rw [hlq1]; simp
          rw [hlru2] at hbk
          obtain ⟨enu2, henu2⟩ : ∃ q : En, q = En.all j fk (trT j r ((a + N), (if k9 = 1 then (b - V) else b), (if k9 = 1 then c9 else (c9 - V)))) := ⟨_, rfl⟩
          rw [← henu2] at hbk
          replace M := M.callC (cs' := [.int .i64 enu2.a0, .int .i64 enu2.a1, .int .i64 enu2.b0, .int .i64 enu2.b1, .int .i64 enu2.c0, .int .i64 enu2.c1, .int .i64 enu2.wo, .int .i64 enu2.pa, .int .i64 enu2.th, .int .i64 enu2.fi, .int .i64 enu2.tr]) (.tail (.tail (.tail (.tail (.tail .head))))) hgr hbk
          clear hgr hbk
          refine sh_out hK _ _ (MA.mk (fun h => (no_of (by kernel_rfl) h).elim) (M.mask [true, true, true, true, true, false] rfl)) ?_; clear hK K
          refine g_done (by kernel_rfl) ?_
          replace T := T.pick [7, 8, 9, 10, 11, 12, 13, 14, 15] rfl
          replace M := M.mask [false, true, true, true, true, true] rfl
          refine nm_blk ?_
          refine nm_then ?_
          refine wp_region_lit ?_
          refine l_q T rfl rfl rfl rfl (rn_move rfl (T.ev 8 rfl)) ?_; clear T ac; intro ac T
          refine l_q T rfl rfl rfl rfl (rn_add rfl (T.ev 0 rfl) evc (by omega)) ?_; clear T ac; intro ac T
          refine l_q (v := (.int .i64 (V + 1))) (T.pick [0, 1, 2, 3, 4, 5, 6, 7, 8, 9] rfl) rfl rfl rfl rfl (rn_assign rfl (T.ev 0 rfl)) ?_; clear T ac; intro ac T
          refine wpList_nil ?_
          replace T := T.pick [0, 3, 4, 5, 6, 7, 8, 9, 10] rfl
          refine nm_then ?_
          exact ⟨_, by omega, q + 1, _, enu2, rfl, (by omega), (by omega), (by rw [take_flat (fun w => trT j r (moveT k9 (a, b, c9) N w)) _ _ _ hgV, all_app, ← hfk]; show enu2 = En.all j fk (trT j r (moveT k9 (a, b, c9) N V)); rw [hmv]; exact henu2), (by rw [henu2, ← hmv]; exact En.ok.all _ hfo), T.pick [1, 2, 3, 4, 5, 6, 7, 8, 0] rfl, M.perm [0, 1, 2, 3, 4] rfl rfl⟩
        ·intro h4
         rw [List.take_of_length_le (by rw [rangeI_length]; omega)] at hfk
         have hq9 : fk = En.all j ek ((fun n => (rangeI v0 v1).flatMap fun w => trT j r (moveT k9 (a, b, c9) n w)) N) := hfk
         refine wp_exit ?_
         refine ex_then ?_
         refine ex_then ?_
         refine ex_hit ?_
         refine nm_blk ?_
         refine nm_then ?_
         refine wp_region_lit ?_
         refine l_q T rfl rfl rfl rfl (rn_move rfl (T.ev 8 rfl)) ?_; clear T ac; intro ac T
         refine l_q T rfl rfl rfl rfl (rn_add rfl (T.ev 0 rfl) evc (by omega)) ?_; clear T ac; intro ac T
         refine l_q (v := (.int .i64 (N + 1))) (T.pick [0, 1, 2, 3, 4, 5, 6, 7, 8, 9, 11] rfl) rfl rfl rfl rfl (rn_assign rfl (T.ev 0 rfl)) ?_; clear T ac; intro ac T
         refine wpList_nil ?_
         replace T := T.pick [0, 4, 5, 6, 7, 8, 9, 10] rfl
         refine nm_then ?_
         exact ⟨_, by omega, k + 1, _, fk, rfl, (by omega), (by omega), (by rw [take_flat (fun n => (rangeI v0 v1).flatMap fun w => trT j r (moveT k9 (a, b, c9) n w)) _ _ _ hg9, all_app, ← hek]; exact hq9), (by rw [hq9]; exact En.ok.all _ hok), T.pick [1, 2, 3, 4, 5, 6, 7, 0] rfl, M.perm [0, 1, 2, 3, 4] rfl rfl⟩
      ·intro h3
       refine wp_exit ?_
       refine ex_then ?_
       refine ex_then ?_
       refine ex_hit ?_
       refine nm_0 T rfl ?_
       have e9 : En.all j e (trT j (k9 :: r) (a, b, c9)) = ek := by rw [trT_cons, hup, hwe, hek, List.take_of_length_le (by rw [rangeI_length]; omega)]
       rw [e9]
       exact ⟨rfl, M.grown, M.nth 4 rfl⟩

end Go.Proofs.Ythlpceoajhcliaa
end

section
/-
  Slices of the call's own: known as cells, parts from the beginning, fields that are stored.
-/
namespace Go.Proofs.Ythlpceoajhcliaa
set_option linter.unusedSimpArgs false
set_option linter.unusedVariables false
open Go.RowKit

/-- The block of a slice of the call's own lies in the memory that the slice is of. -/
def Own (A : Option Addr) (I : List (Nat × BA)) : Prop := ∀ b o, A = some ⟨b, o, none⟩ → b ∈ I.map (·.1)
theorem Mem.own_ne {w0 w : World} {ex : Nat → Prop} {L I : List (Nat × BA)} {A : Option Addr} {g : Nat} {p : BA} (M : Mem w0 ex w L) (h : Own A I) (hs : ((g, p) :: I).Sublist L) : ∀ b o, A = some ⟨b, o, none⟩ → b ≠ g := by
  intro b o hA e
  have h1 := h b o hA
  have h2 := (M.nd.sublist (hs.map (·.1)))
  rw [List.map_cons, List.nodup_cons] at h2
  exact h2.1 (e ▸ h1)
theorem Sl.own {e size n c : Nat} {A : Option Addr} {xs : List Value} {I : List (Nat × BA)} (h : Sl e size (.slice A n c) n xs I) : Own A I := by
  intro b o hA
  rcases h with ⟨h1, _⟩ | ⟨g, cap, h1, rfl⟩
  · injection h1 with h1
    rw [h1] at hA
    cases hA
  · injection h1 with h1
    rw [h1] at hA
    injection hA with hA
    injection hA with hA
    simp [hA]
/-- A slice that was appended to, as cells. -/
theorem Sl.open {w0 w : World} {ex : Nat → Prop} {L I : List (Nat × BA)} {e size n c : Nat} {A : Option Addr} {xs : List Value} (h : Sl e size (.slice A n c) n xs I) (M : Mem w0 ex w (L ++ I)) :
    ∃ b I', Sw size A n b xs I' ∧ n ≤ c ∧ Own A I' ∧ Mem w0 ex w (L ++ I') := by
  rcases h with ⟨h1, rfl, rfl, rfl⟩ | ⟨g, cap, h1, rfl⟩
  · injection h1 with h1 _ h2
    subst h1 h2
    exact ⟨0, [], ⟨by simp, .inl rfl⟩, Nat.le_refl _, (fun b o h => by cases h), M⟩
  · injection h1 with h1 _ h2
    subst h1 h2
    have M' := Mem.swapI (I := L) M
    obtain ⟨⟨hl, hb⟩, hk⟩ := (M'.blk _ List.mem_cons_self).2
    rcases hb with ⟨hb, _⟩ | ⟨g', cap', cur, e1, _, hg, hc1, hc2, hc3, hc4⟩
    · cases hb
    · injection e1 with e1 _ e2
      injection e1 with e1
      injection e1 with e1 _ _
      subst e1 e2
      refine ⟨g, [(g, .cells (xs ++ cur.toList.drop (n * size)))], ⟨hl, .inr ⟨rfl, _, rfl⟩⟩, by omega, (fun b o h => by injection h with h; injection h with h _ _; simp [h]), Mem.swapI (I := [(g, .cells (xs ++ cur.toList.drop (n * size)))]) (L := L) ⟨M'.os, M'.tape, M'.output, M'.size, M'.block, ?_, M'.nd⟩⟩
      intro p hp
      rcases List.mem_cons.1 hp with rfl | hp
      · refine ⟨(M'.blk _ List.mem_cons_self).1, ?_⟩
        rw [← hc4, List.take_append_drop]
        exact Bk.of_heap hg
      · exact M'.blk p (List.mem_cons_of_mem _ hp)
theorem ite_add0 {A : Option Addr} {size : Nat} (p : Prop) [Decidable p] : (if p then A else Option.map (fun x => x.add (0 * size)) A) = A := by
  split
  · rfl
  · cases A with
    | none => rfl
    | some q => simp [Addr.add]
theorem Sw.take {size n b k : Nat} {A : Option Addr} {xs : List Value} {I : List (Nat × BA)} (h : Sw size A n b xs I) (hk : k ≤ n) : Sw size A k b (xs.take (k * size)) I := by
  obtain ⟨hl, h⟩ := h
  refine ⟨by rw [List.length_take, hl]; exact Nat.min_eq_left (Nat.mul_le_mul_right _ hk), ?_⟩
  rcases h with rfl | ⟨rfl, ys, rfl⟩
  · exact .inl (by omega)
  · exact .inr ⟨rfl, xs.drop (k * size) ++ ys, by rw [← List.append_assoc, List.take_append_drop]⟩
theorem rc_set1 : ∀ (l : List (Int × Int)) (k : Nat) {x0 x1 : Int} (v : Int), l[k]? = some (x0, x1) → (rc l).set (k * 2 + 1) (.int .i64 v) = rc (l.set k (x0, v))
  | [], k, _, _, v, h => by simp at h
  | x :: l, 0, x0, x1, v, h => by simp at h; subst h; rfl
  | x :: l, k + 1, x0, x1, v, h => by
    have ih := rc_set1 l k v (by simpa using h)
    rw [show (k + 1) * 2 + 1 = (k * 2 + 1) + 1 + 1 by omega]
    show (_ :: _ :: rc l).set _ _ = _
    rw [List.set_cons_succ, List.set_cons_succ, ih]
    rfl
theorem ow_stT1 {P : Program} {op : Oper} {a : Act} {K : Act → World → Prop} {Q : Exit → Act → World → Prop} {w0 w : World} {ex : Nat → Prop} {L0 I : List (Nat × BA)} {E : List (Nat × Value)} {n m : Nat} {ty : TypeId} {x y : Operand} {b k : Nat} {A : Option Addr} {v x0 x1 : Int} {l : List (Int × Int)} (L1 : List (Nat × BA))
    (M : Mem w0 ex w L0) (hsp : L0 = L1 ++ I) (hS : Sw 2 A m b (rc l) I) (T : Tm a n E) (ho : op.op = .store ty x y) (hd : op.dst = none) (hx : a.eval x = .pointer (some ⟨b, 0 + k * 2 + 1, none⟩)) (hy : a.eval y = .int .i64 v)
    (hk : l[k]? = some (x0, x1)) (hi : (P.info? ty).map (·.size) = some 1)
    (h : ∀ I' w' a', Sw 2 A m b (rc (l.set k (x0, v))) I' → Mem w0 ex w' (L1 ++ I') → Tm a' n E → K a' w') : op.wp P a w K Q := by
  subst hsp
  have hkl := (List.getElem?_eq_some_iff.1 hk).1
  obtain ⟨hl, rfl | ⟨rfl, ys, rfl⟩⟩ := hS
  · rw [rc_length] at hl; omega
  · have hlen : k * 2 + 1 < (rc l).length := by rw [rc_length]; omega
    have e : 0 + k * 2 + 1 = k * 2 + 1 := by omega
    rw [e] at hx
    refine ow_st (ds := [.int .i64 v]) (rc (l.set k (x0, v)) ++ ys) M T ho hd hx hy rfl (Upd.app L1) ?_ (Nat.ble_eq_true_of_le (by rw [List.length_append]; show k * 2 + 1 + 1 ≤ _; omega)) rfl hi fun w' a' M' T' => h _ w' a' ⟨?_, .inr ⟨rfl, ys, rfl⟩⟩ M' T'
    · rw [← rc_set1 l k v hk, ← List.set_append_left _ _ hlen, List.set_eq_take_append_cons_drop, if_pos (by rw [List.length_append]; omega)]
      simp
    · rw [rc_length, List.length_set, ← rc_length]; exact hl
end Go.Proofs.Ythlpceoajhcliaa
end

/-
  Walks of functions, and plain laws (texts put together). No condition.
-/
import Derived.Test.YtdnbljihhimijaaMTopBeats1
import Derived.Test.YtdnbljihhimijaaMTopBeats2
set_option maxRecDepth 100000
set_option maxHeartbeats 1000000
set_option linter.unusedSimpArgs false
set_option linter.unusedVariables false
namespace Go.Proofs.Ytdnbljihhimijaa
open Go.RowKit
section
open Go.RowKit Go.Shelf
def KnownPost (l : List (Int × Int)) (w : World) (e : Ending) (w' : World) : Prop := ∃ (A : Option Addr) (c : Nat) (I : List (Nat × BA)), e = .returned (.tuple #[.slice A l.length c, .int .i64 0]) ∧ Sl 72 3 (.slice A l.length c) l.length (tn l) I ∧ Mem w noEx w' I
theorem spnP_snoc {α : Type} (f : α → Int) (l : List α) (x : α) (q : Int × Int) : spnP f (l ++ [x]) q = (min (spnP f l q).1 (f x), max (spnP f l q).2 (f x)) := by
 unfold spnP
 rw [List.foldl_append]
 rfl
theorem spnE_head {α : Type} {f : α → Int} {l : List α} {x : α} (h : l[0]? = some x) : spnE f l = spnP f l (f x, f x) := by
 cases l with
 | nil => simp at h
 | cons a r =>
  simp only [List.getElem?_cons_zero, Option.some.injEq] at h
  subst h
  rfl
theorem take_snoc {α : Type} {l : List α} {k : Nat} {x : α} (h : l[k]? = some x) : l.take (k + 1) = l.take k ++ [x] := by rw [List.take_add_one, h]; rfl
theorem beat2_bd {s : Int} {z : Int × Int} (h1 : 0 ≤ z.1 ∧ z.1 ≤ 100000) (h2 : 0 ≤ z.2 ∧ z.2 ≤ 100000) (hs : 0 ≤ s ∧ s ≤ 20) : 0 ≤ beat2 s z ∧ beat2 s z ≤ 2000000 := (secB (a := apartP z) (by unfold apartP; omega) hs).2
theorem collect_any (gE gK : Nat) (A : Option Addr) (c : Nat) (l : List (Int × Int)) (x y : Int × Int)  (w : World) (hl2 : l.length = 2) (hkx : l[0]? = some x) (hky : l[1]? = some y) (hx : x.1 ≤ x.2) (hxb : -1000000 ≤ x.1 ∧ x.2 ≤ 1000000) (hy : y.1 ≤ y.2) (hyb : -1000000 ≤ y.1 ∧ y.2 ≤ 1000000) (hal : (allL x.1 x.2 y.1 y.2).length ≤ 1000) (q1 : Bk w gE #[.int .i64 0, .slice A l.length c, .slice none 0 0]) (q3 : Bk w gK #[.slice none 0 0]) (hr : Rd w w.heap.size 2 A l.length (rc l))  :
  Calls Try.prog 43 #[.func (.func 51) #[] #[.pointer (some ⟨gE, 0, none⟩), .pointer (some ⟨gK, 0, none⟩)]] w (GatherPost (allL x.1 x.2 y.1 y.2) w) := by
 refine Zpx noEx Try.func43 rfl 5 rfl [.func (.func 51) #[] #[.pointer (some ⟨gE, 0, none⟩), .pointer (some ⟨gK, 0, none⟩)]] rfl rfl (Mem.init w _) ?_
 intro ac wc T M
 refine Zsr ?_
 refine lq T (Zra rfl evc) ?_; clear T ac; intro ac T
 replace T := T.pick [1] rfl
 refine Zln ?_
 refine Zsr ?_
 refine lq T (Zrm rfl (T.e 0 rfl)) ?_; clear T ac; intro ac T
 refine Zl2 ?_
 refine Zoc (first := []) (cap := []) T rfl rfl rfl rfl evf (.cons evc (.cons (T.e 0 rfl) .nil)) Try.func49 rfl rfl ?_
 refine Calls.mono (appendSeq_any gE gK A c l x y _ hl2 hkx hky hx hxb hy hyb hal (M.old q1 (fun h => h)) (M.old q3 (fun h => h)) (M.rd hr (Nat.le_refl _))) ?_
 clear T; rintro e wc ⟨Au1, cu1, Iu1, rfl, hslu1, N⟩ ac T
 obtain ⟨bu1, ou1, SVu1⟩ := hslu1.spV (tn_length _)
 have Su1 := SVu1 w noEx
 replace M := (M.join N).swapI
 replace M := M.mask [] rfl
 clear N
 refine lq T (Zra rfl (T.e 0 rfl)) ?_; clear T ac; intro ac T
 replace T := T.pick [0] rfl
 refine Zln ?_
 refine wp_ret ?_
 refine rt_1 T rfl (T.e 0 rfl) ?_
 exact ⟨Au1, cu1, Iu1, rfl, hslu1, M.mask [] rfl⟩
theorem known_any (A : Option Addr) (c : Nat) (l : List (Int × Int)) (x y : Int × Int)  (w : World) (hl2 : l.length = 2) (gl : ∀ p ∈ l, (1 ≤ p.1 ∧ p.1 ≤ p.2) ∧ p.2 ≤ 100000 ∧ p.2 - p.1 ≤ 20) (hkx : l[0]? = some x) (hky : l[1]? = some y) (hx : x.1 ≤ x.2) (hxb : -1000000 ≤ x.1 ∧ x.2 ≤ 1000000) (hy : y.1 ≤ y.2) (hyb : -1000000 ≤ y.1 ∧ y.2 ≤ 1000000) (hal : (allL x.1 x.2 y.1 y.2).length ≤ 1000) (hal0 : 0 < (allL x.1 x.2 y.1 y.2).length) (hr : Rd w w.heap.size 2 A l.length (rc l))  :
   Calls Try.prog 34 #[.agg #[.int .i64 0, .slice A l.length c, .slice none 0 0]] w (KnownPost (allL x.1 x.2 y.1 y.2) w) := by
 obtain ⟨bJ, oJ, SJ⟩ := Sp.old hr
 refine Zpx noEx Try.func34 rfl 18 rfl [.agg #[.int .i64 0, .slice A l.length c, .slice none 0 0]] rfl rfl (Mem.init w _) ?_
 intro ac wc T M
 refine Zsr ?_
 refine Zl2 ?_
 refine Zob M T rfl rfl rfl rfl (T.e 0 rfl) rfl ?_; clear M T; intro g1 wc ac M T
 refine Zg2 T (Zq (Zra rfl evc)) rfl (Zc rfl) rfl ?_; clear T ac; intro ac T
 replace T := T.pick [2] rfl
 refine Zln ?_
 refine wp_seq ?_
 refine Zsr ?_
 refine lq T (Zrr (Mem.nth M 0 rfl) rfl (T.e 0 rfl) rfl) ?_; clear T ac; intro ac T
 refine Zl2 ?_
 refine Zoc (first := []) (cap := []) T rfl rfl rfl rfl evf (.cons (T.e 0 rfl) .nil) Try.func33 rfl rfl ?_
 refine Calls.mono (checkM_any A c l _ (by first | rfl | omega) gl (SJ.rd M (Zz9 _))) ?_
 clear T; rintro e wc ⟨rfl, hb⟩ ac T
 replace M := M.call hb; clear hb
 refine lq T (Zra rfl (T.e 0 rfl)) ?_; clear T ac; intro ac T
 replace T := T.pick [0, 3] rfl
 refine Zln ?_
 refine Zsr ?_
 refine Zg2 (v2 := (.bool false)) T (Zq (Zrm rfl (T.e 0 rfl))) rfl (fun _ T => Zq (Zrq (rn_neq rfl (T.e 0 rfl) evc) (by simp))) rfl ?_; clear T ac; intro ac T
 replace T := T.pick [0, 2, 3] rfl
 refine Zln ?_
 refine wp_cond_false (T.e 0 rfl) ?_
 refine Zsk ?_
 refine Zsr ?_
 refine lq T (Zrr (Mem.nth M 0 rfl) rfl (T.e 2 rfl) rfl) ?_; clear T ac; intro ac T
 refine Zl2 ?_
 refine Zoc (first := []) (cap := []) T rfl rfl rfl rfl evf (.cons (T.e 0 rfl) .nil) Try.func44 rfl rfl ?_
 refine Calls.mono (truths_any A c l _ hl2 (SJ.rd M (Zz9 _))) ?_
 clear T; rintro e wc ⟨gEu2, gKu2, rfl, N⟩ ac T
 replace M := M.join N; clear N
 replace M := M.mask [true, true, true] rfl
 refine Zl2 ?_
 refine Zoc (first := []) (cap := []) T rfl rfl rfl rfl evf (.cons (T.e 0 rfl) .nil) Try.func43 rfl rfl ?_
 refine Calls.mono (collect_any gEu2 gKu2 A c l x y _ hl2 hkx hky hx hxb hy hyb hal (M.nth 1 rfl) (M.nth 0 rfl) (SJ.rd M (Zz9 _))) ?_
 clear T; rintro e wc ⟨Au3, cu3, Iu3, rfl, hslu3, N⟩ ac T
 obtain ⟨bu3, ou3, SVu3⟩ := hslu3.spV (tn_length _)
 have Su3 := SVu3 w noEx
 replace M := (M.join N).swapI
 replace M := M.mask [true, true, true] rfl
 clear N
 refine lq T (Zra rfl (T.e 0 rfl)) ?_; clear T ac; intro ac T
 refine wpList_nil ?_
 replace T := T.pick [0] rfl
 replace M := M.mask [false, false, false] rfl
 refine Zns ?_
 refine Zsr ?_
 refine Zg3 T (Zq (Zrm rfl (T.e 0 rfl))) rfl (Zl Try.underlying67 0 rfl rfl) rfl (fun _ T => Zq (rn_eql rfl (T.e 0 rfl) evc)) rfl ?_; clear T ac; intro ac T
 replace T := T.pick [0, 3] rfl
 refine Zln ?_
 refine wp_if (T.e 0 rfl) ?_ ?_
 ·intro h1
  exfalso
  omega
 intro h1
 refine Zsk ?_
 refine Zsr ?_
 refine Zg3 T (Zq (Zrm rfl (T.e 1 rfl))) rfl (Za 0 rfl rfl) rfl (Zc rfl) rfl ?_; clear T ac; intro ac T
 replace T := T.pick [0, 1] rfl
 refine Zln ?_
 refine wp_ret ?_
 refine rt_2 T rfl (T.e 1 rfl) (T.e 0 rfl) ?_
 exact ⟨Au3, cu3, Iu3, rfl, hslu3, M.mask [] rfl⟩
theorem ask_any (A : Option Addr) (c : Nat) (l : List (Int × Int)) (x y : Int × Int)  (w : World) (hl2 : l.length = 2) (gl : ∀ p ∈ l, (1 ≤ p.1 ∧ p.1 ≤ p.2) ∧ p.2 ≤ 100000 ∧ p.2 - p.1 ≤ 20) (hkx : l[0]? = some x) (hky : l[1]? = some y) (hx : x.1 ≤ x.2) (hxb : -1000000 ≤ x.1 ∧ x.2 ≤ 1000000) (hy : y.1 ≤ y.2) (hyb : -1000000 ≤ y.1 ∧ y.2 ≤ 1000000) (hal : (allL x.1 x.2 y.1 y.2).length ≤ 1000) (hal0 : 0 < (allL x.1 x.2 y.1 y.2).length) (hr : Rd w w.heap.size 2 A l.length (rc l))  :
  Calls Try.prog 19 #[.agg #[.int .i64 0, .slice A l.length c, .slice none 0 0], .int .i64 0] w (KnownPost (allL x.1 x.2 y.1 y.2) w) := by
 obtain ⟨bJ, oJ, SJ⟩ := Sp.old hr
 refine Zpx noEx Try.func19 rfl 19 rfl [.agg #[.int .i64 0, .slice A l.length c, .slice none 0 0], .int .i64 0] rfl rfl (Mem.init w _) ?_
 intro ac wc T M
 refine Zsr ?_
 refine Zl2 ?_
 refine Zob M T rfl rfl rfl rfl (T.e 0 rfl) rfl ?_; clear M T; intro g1 wc ac M T
 refine Zg2 T (Zq (Zra rfl evc)) rfl (Zc rfl) rfl ?_; clear T ac; intro ac T
 replace T := T.pick [2, 4] rfl
 refine Zln ?_
 refine wp_seq ?_
 refine Zsr ?_
 refine lq T (Zrr (Mem.nth M 0 rfl) rfl (T.e 0 rfl) rfl) ?_; clear T ac; intro ac T
 refine Zl2 ?_
 refine Zoc (first := []) (cap := []) T rfl rfl rfl rfl evf (.cons (T.e 0 rfl) .nil) Try.func33 rfl rfl ?_
 refine Calls.mono (checkM_any A c l _ (by first | rfl | omega) gl (SJ.rd M (Zz9 _))) ?_
 clear T; rintro e wc ⟨rfl, hb⟩ ac T
 replace M := M.call hb; clear hb
 refine lq T (Zra rfl (T.e 0 rfl)) ?_; clear T ac; intro ac T
 replace T := T.pick [0, 3, 4] rfl
 refine Zln ?_
 refine Zsr ?_
 refine Zg2 (v2 := (.bool false)) T (Zq (Zrm rfl (T.e 0 rfl))) rfl (fun _ T => Zq (Zrq (rn_neq rfl (T.e 0 rfl) evc) (by simp))) rfl ?_; clear T ac; intro ac T
 replace T := T.pick [0, 2, 3, 4] rfl
 refine Zln ?_
 refine wp_cond_false (T.e 0 rfl) ?_
 refine Zsk ?_
 refine wp_seq ?_
 refine Zsr ?_
 refine Zg2 (v2 := (.bool false)) T (Zq (Zrm rfl (T.e 3 rfl))) rfl (fun _ T => Zq (Zrq (rn_neq rfl (T.e 0 rfl) evc) (by simp))) rfl ?_; clear T ac; intro ac T
 replace T := T.pick [0, 4, 5] rfl
 refine Zln ?_
 refine wp_cond_false (T.e 0 rfl) ?_
 refine Zsk ?_
 refine Zsr ?_
 refine lq T (Zrr (Mem.nth M 0 rfl) rfl (T.e 1 rfl) rfl) ?_; clear T ac; intro ac T
 refine Zl2 ?_
 refine Zoc (first := []) (cap := []) T rfl rfl rfl rfl evf (.cons (T.e 0 rfl) .nil) Try.func34 rfl rfl ?_
 refine Calls.mono (known_any A c l x y _ hl2 gl hkx hky hx hxb hy hyb hal hal0 (SJ.rd M (Zz9 _))) ?_
 clear T; rintro e wc ⟨Au2, cu2, Iu2, rfl, hslu2, N⟩ ac T
 obtain ⟨bu2, ou2, SVu2⟩ := hslu2.spV (tn_length _)
 have Su2 := SVu2 w noEx
 replace M := (M.join N).swapI
 replace M := M.mask [true] rfl
 clear N
 refine Zg4 T (Zq (Zre rfl (T.e 0 rfl) rfl)) rfl (Ze 1 rfl rfl rfl) rfl (Za 1 rfl rfl) rfl (Za 1 rfl rfl) rfl ?_; clear T ac; intro ac T
 refine wpList_nil ?_
 replace T := T.pick [0, 1] rfl
 replace M := M.mask [false] rfl
 refine Znr ?_
 refine rt_2 T rfl (T.e 1 rfl) (T.e 0 rfl) ?_
 exact ⟨Au2, cu2, Iu2, rfl, hslu2, M.mask [] rfl⟩
theorem span_any (D : Option Addr) (d : Nat) (ls : List (Int × Int)) (s : Int) (ga gb gs : Nat)  (w : World) (hl : Rd w w.heap.size 3 D ls.length (tn ls)) (hl0 : 0 < ls.length) (hl1 : ls.length ≤ 1000) (hlb : ∀ z ∈ ls, (0 ≤ z.1 ∧ z.1 ≤ 100000) ∧ 0 ≤ z.2 ∧ z.2 ≤ 100000) (hs : 0 ≤ s ∧ s ≤ 20) (qa : Bk w ga #[.int .i64 0]) (qb : Bk w gb #[.int .i64 1]) (qs : Bk w gs #[.int .i64 s]) :
   Calls Try.prog 20 #[.slice D ls.length d, .func (.func 21) #[] #[.pointer (some ⟨ga, 0, none⟩), .pointer (some ⟨gb, 0, none⟩), .pointer (some ⟨gs, 0, none⟩)]] w fun e w' => e = .returned (.agg #[.int .i64 ((spnE (beat2 s) ls).1), .int .i64 ((spnE (beat2 s) ls).2)]) ∧ Below w.heap.size w w' := by
 obtain ⟨bD, oD, SD⟩ := Sp.old hl
 obtain ⟨z0, hkz0, -⟩ := tn_next (l := ls) (k := 0) (by omega)
 obtain ⟨h01, h02⟩ := hlb z0 (List.mem_of_getElem? hkz0)
 refine Zpx noEx Try.func20 rfl 40 rfl [.slice D ls.length d, .func (.func 21) #[] #[.pointer (some ⟨ga, 0, none⟩), .pointer (some ⟨gb, 0, none⟩), .pointer (some ⟨gs, 0, none⟩)]] rfl rfl (Mem.init w _) ?_
 intro ac wc T M
 refine Zsr ?_
 refine Zl2 ?_
 refine Zoa M T rfl rfl rfl rfl ?_; clear M T; intro g1 wc ac M T
 refine Zln ?_
 refine wp_seq ?_
 refine Zgs M (M.mask [true] rfl) 13 (by kernel_rfl) rfl (by kernel_rfl) ?_
 clear M; intro wc M
 refine g_have (fun ac wc => ∃ (gr1_11 : Nat), Tm ac 40 [(5, .pointer (some ⟨gr1_11, 0, none⟩)), (18, .agg #[.int .i64 (beat2 s z0), .int .i64 (beat2 s z0)]), (17, .int .i64 (beat2 s z0)), (12, .int .i64 (beat2 s z0)), (16, .agg #[.int .i64 z0.1, .int .i64 z0.2, .int .i64 0]), (15, .pointer (some ⟨bD, oD + 0 * 3, none⟩)), (14, .slice D ls.length d), (13, .func (.func 21) #[] #[.pointer (some ⟨ga, 0, none⟩), .pointer (some ⟨gb, 0, none⟩), .pointer (some ⟨gs, 0, none⟩)]), (11, .agg #[.int .i64 z0.1, .int .i64 z0.2, .int .i64 0]), (10, .pointer (some ⟨bD, oD + 0 * 3, none⟩)), (9, .slice D ls.length d), (8, .func (.func 21) #[] #[.pointer (some ⟨ga, 0, none⟩), .pointer (some ⟨gb, 0, none⟩), .pointer (some ⟨gs, 0, none⟩)]), (4, .pointer (some ⟨g1, 0, none⟩)), (0, .slice D ls.length d), (1, .func (.func 21) #[] #[.pointer (some ⟨ga, 0, none⟩), .pointer (some ⟨gb, 0, none⟩), .pointer (some ⟨gs, 0, none⟩)])] ∧ Mem w noEx wc [(gr1_11, .cells [.int .i64 0, .int .i64 0]), (g1, .cells [.int .i64 0, .int .i64 0])]) (Zpb 13 4095) 1 ?_ ?_
 ·clear T M
  rintro ac wc ⟨gr1_11, T, M⟩
  refine gw 12 8191 ?_; intro K hK
  refine Zos M T rfl rfl (T.e 0 rfl) (T.e 1 rfl) rfl .head rfl (by simp) rfl (by kernel_rfl) ?_; clear M T; intro wc ac M T
  refine Zso hK _ _ (M.mask [false, true] rfl) ?_; clear hK K
  refine Zgd (by kernel_rfl) ?_
  replace T := T.pick [0, 12, 13, 14] rfl
  refine Zns ?_
  refine Zsr ?_
  refine Zg3 T (Zq (Zrm rfl (T.e 2 rfl))) rfl (Zl Try.underlying67 0 rfl rfl) rfl (fun _ T => Zq (Zrm rfl evc)) rfl ?_; clear T ac; intro ac T
  replace T := T.pick [0, 1, 2, 3, 4, 6] rfl
  refine Zln ?_
  refine wp_block ?_
  refine wp_loop_n (fun mz ac wc => ∃ (k : Nat), mz = ls.length - k ∧ (k ≤ ls.length) ∧ Tm ac 40 [(1, .func (.func 21) #[] #[.pointer (some ⟨ga, 0, none⟩), .pointer (some ⟨gb, 0, none⟩), .pointer (some ⟨gs, 0, none⟩)]), (4, .pointer (some ⟨g1, 0, none⟩)), (5, .pointer (some ⟨gr1_11, 0, none⟩)), (19, .slice D ls.length d), (20, .int .i64 ((ls.length : Nat) : Int)), (21, .int .i64 (k : Int))] ∧ Mem w noEx wc [(gr1_11, .cells [.int .i64 ((spnP (beat2 s) (ls.take k) (beat2 s z0, beat2 s z0)).1), .int .i64 ((spnP (beat2 s) (ls.take k) (beat2 s z0, beat2 s z0)).2)]), (g1, .cells [.int .i64 0, .int .i64 0])]) ?_ ?_
  ·exact ⟨_, 0, rfl, (by omega), T.pick [5, 4, 3, 2, 1, 0] rfl, M.mask [true, true] rfl⟩
  clear T M
  rintro mz ac wc ⟨k, hmm1, hk, T, M⟩
  refine Zsr ?_
  refine lq T (rn_lss rfl (T.e 5 rfl) (T.e 4 rfl)) ?_; clear T ac; intro ac T
  refine Zln ?_
  refine wp_seq ?_
  refine wp_if (T.e 0 rfl) ?_ ?_
  ·intro h1
   obtain ⟨z, hkz, -⟩ := tn_next (l := ls) (k := k) (by omega)
   obtain ⟨hz1, hz2⟩ := hlb z (List.mem_of_getElem? hkz)
   have hzb := beat2_bd hz1 hz2 hs
   refine Zsk ?_
   refine wp_seq ?_
   refine wp_block ?_
   refine Zsr ?_
   refine Zg2 (v2 := (.agg #[.int .i64 z.1, .int .i64 z.2, .int .i64 0])) T (Zq (Zri (size := 3) k rfl (T.e 4 rfl) (T.e 6 rfl) ⟨_, Try.underlying67, by kernel_rfl⟩ rfl (by omega) (SD.at0 (by omega)))) rfl (fun _ T => Zq (rn_rowat (Sp.tnR SD M (Zz9 _) hkz) rfl (T.e 0 rfl) rfl)) rfl ?_; clear T ac; intro ac T
   refine Zl2 ?_
   refine Zoa M T rfl rfl rfl rfl ?_; clear M T; intro g2 wc ac M T
   refine Zl2 ?_
   refine Zos M T rfl rfl (T.e 0 rfl) (T.e 1 rfl) rfl .head rfl (by simp) rfl (by kernel_rfl) ?_; clear M T; intro wc ac M T
   replace T := T.pick [0, 4, 5, 6, 7, 8, 9] rfl
   refine Zln ?_
   refine Zgs M (M.perm [0, 2] rfl rfl) 14 (by kernel_rfl) rfl (by kernel_rfl) ?_
   clear M; intro wc M
   refine g_addG 13 M ?_
   refine gq (v := (.pointer (some ⟨gr1_11, 0, none⟩))) T 0 1 rfl (fun _ _ _ _ _ => (Zrf (off := 0) rfl (T.e 3 rfl) (fun _ _ _ => by kernel_rfl))) ?_; clear T ac; intro ac T
   refine gq T 1 3 rfl (fun B w' hD hl hS => (Zro (Mem.nth (show Mem w noEx w' _ from ((MA.lft hS) (hD.wait (i := 1) (m := 13) (by kernel_rfl) hl))) 1 rfl) rfl (T.e 0 rfl) rfl)) ?_; clear T ac; intro ac T
   refine gq T 2 7 rfl (fun _ _ _ _ _ => (Zrm rfl (T.e 3 rfl))) ?_; clear T ac; intro ac T
   refine gq T 3 15 rfl (fun B w' hD hl hS => (Zrr (Mem.nth (show Mem w noEx w' _ from ((MA.lft hS) (hD.wait (i := 3) (m := 13) (by kernel_rfl) hl))) 0 rfl) rfl (T.e 3 rfl) rfl)) ?_; clear T ac; intro ac T
   refine gq (v := (.pointer (some ⟨gr1_11, 1, none⟩))) T 6 79 rfl (fun _ _ _ _ _ => (Zrf (off := 1) rfl (T.e 7 rfl) (fun _ _ _ => by kernel_rfl))) ?_; clear T ac; intro ac T
   refine gq T 7 207 rfl (fun B w' hD hl hS => (Zro (Mem.nth (show Mem w noEx w' _ from ((MA.lft hS) (hD.wait (i := 7) (m := 13) (by kernel_rfl) hl))) 1 rfl) rfl (T.e 0 rfl) rfl)) ?_; clear T ac; intro ac T
   refine gq T 8 463 rfl (fun _ _ _ _ _ => (Zrm rfl (T.e 7 rfl))) ?_; clear T ac; intro ac T
   refine gq T 9 975 rfl (fun B w' hD hl hS => (Zrr (Mem.nth (show Mem w noEx w' _ from ((MA.lft hS) (hD.wait (i := 9) (m := 13) (by kernel_rfl) hl))) 0 rfl) rfl (T.e 7 rfl) rfl)) ?_; clear T ac; intro ac T
   refine gw 4 991 ?_; intro K hK
   refine Zoc (first := []) (cap := [.pointer (some ⟨ga, 0, none⟩), .pointer (some ⟨gb, 0, none⟩), .pointer (some ⟨gs, 0, none⟩)]) T rfl rfl rfl rfl (T.e 5 rfl) (.cons (T.e 4 rfl) .nil) Try.func21 rfl rfl ?_
   refine Calls.mono (beats1_any z s ga gb gs _ (by (try dsimp only); omega) (by (try dsimp only); omega) hs (M.old qa (fun h => h)) (M.old qb (fun h => h)) (M.old qs (fun h => h))) ?_
   clear T; rintro e wc ⟨rfl, hb⟩ ac T
   replace M := M.call hb; clear hb
   refine Zso hK _ _ (MA.mk (fun _ => M.mask [true, true, true] rfl) (M.mask [true, false, true] rfl)) ?_; clear hK K
   refine gq T 5 1023 rfl (fun _ _ _ _ _ => (rn_min2 rfl (T.e 7 rfl) (T.e 0 rfl))) ?_; clear T ac; intro ac T
   refine gw 10 2047 ?_; intro K hK
   refine Zoc (first := []) (cap := [.pointer (some ⟨ga, 0, none⟩), .pointer (some ⟨gb, 0, none⟩), .pointer (some ⟨gs, 0, none⟩)]) T rfl rfl rfl rfl (T.e 3 rfl) (.cons (T.e 2 rfl) .nil) Try.func21 rfl rfl ?_
   refine Calls.mono (beats1_any z s ga gb gs _ (by (try dsimp only); omega) (by (try dsimp only); omega) hs (M.old qa (fun h => h)) (M.old qb (fun h => h)) (M.old qs (fun h => h))) ?_
   clear T; rintro e wc ⟨rfl, hb⟩ ac T
   replace M := M.call hb; clear hb
   refine Zso hK _ _ (MA.mk (fun _ => M.mask [true, true, true] rfl) (M.mask [true, false, true] rfl)) ?_; clear hK K
   refine gq T 11 4095 rfl (fun _ _ _ _ _ => (rn_max2 rfl (T.e 5 rfl) (T.e 0 rfl))) ?_; clear T ac; intro ac T
   refine gq (v := (.agg #[.int .i64 (min ((spnP (beat2 s) (ls.take k) (beat2 s z0, beat2 s z0)).1) (beat2 s z)), .int .i64 (max ((spnP (beat2 s) (ls.take k) (beat2 s z0, beat2 s z0)).2) (beat2 s z))])) T 12 8191 rfl (fun _ _ _ _ _ => (rn_build rfl (.cons (T.e 2 rfl) (.cons (T.e 0 rfl) .nil)) (fun _ => by kernel_rfl))) ?_; clear T ac; intro ac T
   refine gw 13 16383 ?_; intro K hK
   refine Zos M T rfl rfl (T.e 16 rfl) (T.e 0 rfl) rfl (.tail .head) rfl (by simp) rfl (by kernel_rfl) ?_; clear M T; intro wc ac M T
   refine Zso hK _ _ (MA.mk (fun h => (no_of (by kernel_rfl) h).elim) (M.mask [true, false, true] rfl)) ?_; clear hK K
   refine Zgd (by kernel_rfl) ?_
   replace T := T.pick [14, 15, 16, 17, 18, 19] rfl
   replace M := M.mask [false, true, true] rfl
   refine Znb ?_
   refine nm_then ?_
   refine wp_region_lit ?_
   refine lq T (rn_add rfl (T.e 5 rfl) evc (by omega)) ?_; clear T ac; intro ac T
   refine l_q (v := (.int .i64 ((k : Int) + 1))) (T.pick [0, 1, 2, 3, 4, 5] rfl) rfl rfl rfl rfl (Zrm rfl (T.e 0 rfl)) ?_; clear T ac; intro ac T
   replace T := T.pick [0, 2, 3, 4, 5, 6] rfl
   refine Zln ?_
   have e9 := spnP_snoc (beat2 s) (ls.take k) z (beat2 s z0, beat2 s z0)
   rw [← take_snoc hkz] at e9
   rw [show min (spnP (beat2 s) (ls.take k) (beat2 s z0, beat2 s z0)).1 (beat2 s z) = (spnP (beat2 s) (ls.take (k + 1)) (beat2 s z0, beat2 s z0)).1 from (congrArg Prod.fst e9).symm, show max (spnP (beat2 s) (ls.take k) (beat2 s z0, beat2 s z0)).2 (beat2 s z) = (spnP (beat2 s) (ls.take (k + 1)) (beat2 s z0, beat2 s z0)).2 from (congrArg Prod.snd e9).symm] at M
   exact ⟨_, by omega, k + 1, rfl, (by omega), T.pick [1, 2, 3, 4, 5, 0] rfl, M.mask [true, true] rfl⟩
  intro h1
  refine wp_exit ?_
  refine Zet ?_
  refine Zet ?_
  refine ex_hit ?_
  refine nm_then ?_
  refine Zsr ?_
  refine lq T (Zrr (Mem.nth M 0 rfl) rfl (T.e 3 rfl) rfl) ?_; clear T ac; intro ac T
  refine Zl2 ?_
  refine Zos M T rfl rfl (T.e 3 rfl) (T.e 0 rfl) rfl (.tail .head) rfl (by simp) rfl (by kernel_rfl) ?_; clear M T; intro wc ac M T
  refine wpList_nil ?_
  replace T := T.pick [3] rfl
  replace M := M.mask [false, true] rfl
  refine Znr ?_
  refine rt_c M T rfl (T.e 0 rfl) (Zne (i := 0) rfl) rfl ?_
  rw [spnE_head hkz0]
  have e9 : ls.take k = ls := List.take_of_length_le (by omega)
  rw [e9]
  exact ⟨rfl, M.below⟩
 intro H1
 refine g_have (fun ac wc => ∃ (gr1_11 : Nat), Tm ac 40 [(5, .pointer (some ⟨gr1_11, 0, none⟩)), (12, .int .i64 (beat2 s z0)), (16, .agg #[.int .i64 z0.1, .int .i64 z0.2, .int .i64 0]), (15, .pointer (some ⟨bD, oD + 0 * 3, none⟩)), (14, .slice D ls.length d), (13, .func (.func 21) #[] #[.pointer (some ⟨ga, 0, none⟩), .pointer (some ⟨gb, 0, none⟩), .pointer (some ⟨gs, 0, none⟩)]), (11, .agg #[.int .i64 z0.1, .int .i64 z0.2, .int .i64 0]), (10, .pointer (some ⟨bD, oD + 0 * 3, none⟩)), (9, .slice D ls.length d), (8, .func (.func 21) #[] #[.pointer (some ⟨ga, 0, none⟩), .pointer (some ⟨gb, 0, none⟩), .pointer (some ⟨gs, 0, none⟩)]), (4, .pointer (some ⟨g1, 0, none⟩)), (0, .slice D ls.length d), (1, .func (.func 21) #[] #[.pointer (some ⟨ga, 0, none⟩), .pointer (some ⟨gb, 0, none⟩), .pointer (some ⟨gs, 0, none⟩)])] ∧ Mem w noEx wc [(gr1_11, .cells [.int .i64 0, .int .i64 0]), (g1, .cells [.int .i64 0, .int .i64 0])]) (Zpb 13 2559) 3 ?_ ?_
 ·clear T M
  rintro ac wc ⟨gr1_11, T, M⟩
  refine gw 9 3071 ?_; intro K hK
  refine Zoc (first := []) (cap := [.pointer (some ⟨ga, 0, none⟩), .pointer (some ⟨gb, 0, none⟩), .pointer (some ⟨gs, 0, none⟩)]) T rfl rfl rfl rfl (T.e 5 rfl) (.cons (T.e 2 rfl) .nil) Try.func21 rfl rfl ?_
  refine Calls.mono (beats1_any z0 s ga gb gs _ (by (try dsimp only); omega) (by (try dsimp only); omega) hs (M.old qa (fun h => h)) (M.old qb (fun h => h)) (M.old qs (fun h => h))) ?_
  clear T; rintro e wc ⟨rfl, hb⟩ ac T
  replace M := M.call hb; clear hb
  refine Zso hK _ _ (M.mask [false, true] rfl) ?_; clear hK K
  refine gq (v := (.agg #[.int .i64 (beat2 s z0), .int .i64 (beat2 s z0)])) T 10 4095 rfl (fun _ _ _ _ _ => (rn_build rfl (.cons (T.e 2 rfl) (.cons (T.e 0 rfl) .nil)) (fun _ => by kernel_rfl))) ?_; clear T ac; intro ac T
  exact H1 _ _ ⟨gr1_11, T.pick [2, 0, 1, 3, 4, 5, 6, 7, 8, 9, 10, 11, 12, 13, 14] rfl, M⟩
 intro H0
 refine gq T 0 1 rfl (fun _ _ _ _ _ => (Zrm rfl (T.e 2 rfl))) ?_; clear T ac; intro ac T
 refine gq T 1 3 rfl (fun _ _ _ _ _ => (Zrm rfl (T.e 2 rfl))) ?_; clear T ac; intro ac T
 refine gq T 2 7 rfl (fun _ _ _ _ _ => (Zri (size := 3) 0 rfl (T.e 0 rfl) evc ⟨_, Try.underlying67, by kernel_rfl⟩ rfl (by omega) (SD.at0 (by omega)))) ?_; clear T ac; intro ac T
 refine gq (v := (.agg #[.int .i64 z0.1, .int .i64 z0.2, .int .i64 0])) T 3 15 rfl (fun B w' hD hl hS => (rn_rowat (Sp.tnR SD (show Mem w noEx w' _ from hS) (Zz9 _) hkz0) rfl (T.e 0 rfl) rfl)) ?_; clear T ac; intro ac T
 refine gq T 5 47 rfl (fun _ _ _ _ _ => (Zrm rfl (T.e 6 rfl))) ?_; clear T ac; intro ac T
 refine gq T 6 111 rfl (fun _ _ _ _ _ => (Zrm rfl (T.e 6 rfl))) ?_; clear T ac; intro ac T
 refine gq T 7 239 rfl (fun _ _ _ _ _ => (Zri (size := 3) 0 rfl (T.e 0 rfl) evc ⟨_, Try.underlying67, by kernel_rfl⟩ rfl (by omega) (SD.at0 (by omega)))) ?_; clear T ac; intro ac T
 refine gq (v := (.agg #[.int .i64 z0.1, .int .i64 z0.2, .int .i64 0])) T 8 495 rfl (fun B w' hD hl hS => (rn_rowat (Sp.tnR SD (show Mem w noEx w' _ from hS) (Zz9 _) hkz0) rfl (T.e 0 rfl) rfl)) ?_; clear T ac; intro ac T
 refine g_m2 (i := 4) (j := 11) (by kernel_rfl) ?_ ?_
 ·refine gi 511 ?_; intro K hK
  refine Zoc (first := []) (cap := [.pointer (some ⟨ga, 0, none⟩), .pointer (some ⟨gb, 0, none⟩), .pointer (some ⟨gs, 0, none⟩)]) T rfl rfl rfl rfl (T.e 7 rfl) (.cons (T.e 4 rfl) .nil) Try.func21 rfl rfl ?_
  refine Calls.mono (beats1_any z0 s ga gb gs _ (by (try dsimp only); omega) (by (try dsimp only); omega) hs (M.old qa (fun h => h)) (M.old qb (fun h => h)) (M.old qs (fun h => h))) ?_
  clear T; rintro e wc ⟨rfl, hb⟩ ac T
  replace M := M.call hb; clear hb
  refine Zso hK _ _ (M.mask [true] rfl) ?_; clear hK K
  refine g_m2 (i := 9) (j := 11) (by kernel_rfl) ?_ ?_
  ·refine gi 1023 ?_; intro K hK
   refine Zoc (first := []) (cap := [.pointer (some ⟨ga, 0, none⟩), .pointer (some ⟨gb, 0, none⟩), .pointer (some ⟨gs, 0, none⟩)]) T rfl rfl rfl rfl (T.e 4 rfl) (.cons (T.e 1 rfl) .nil) Try.func21 rfl rfl ?_
   refine Calls.mono (beats1_any z0 s ga gb gs _ (by (try dsimp only); omega) (by (try dsimp only); omega) hs (M.old qa (fun h => h)) (M.old qb (fun h => h)) (M.old qs (fun h => h))) ?_
   clear T; rintro e wc ⟨rfl, hb⟩ ac T
   replace M := M.call hb; clear hb
   refine Zso hK _ _ (M.mask [true] rfl) ?_; clear hK K
   refine gq (v := (.agg #[.int .i64 (beat2 s z0), .int .i64 (beat2 s z0)])) T 10 2047 rfl (fun _ _ _ _ _ => (rn_build rfl (.cons (T.e 1 rfl) (.cons (T.e 0 rfl) .nil)) (fun _ => by kernel_rfl))) ?_; clear T ac; intro ac T
   refine gw 11 4095 ?_; intro K hK
   refine Zoa M T rfl rfl rfl rfl ?_; clear M T; intro gr1_11 wc ac M T
   refine Zso hK _ _ (M.mask [false, true] rfl) ?_; clear hK K
   exact H1 _ _ ⟨gr1_11, T, M⟩
  refine gi 2559 ?_; intro K hK
  refine Zoa M T rfl rfl rfl rfl ?_; clear M T; intro gr1_11 wc ac M T
  refine Zso hK _ _ (M.mask [false, true] rfl) ?_; clear hK K
  exact H0 _ _ ⟨gr1_11, T, M⟩
 refine gi 2543 ?_; intro K hK
 refine Zoa M T rfl rfl rfl rfl ?_; clear M T; intro gr1_11 wc ac M T
 refine Zso hK _ _ (M.mask [false, true] rfl) ?_; clear hK K
 refine gw 4 2559 ?_; intro K hK
 refine Zoc (first := []) (cap := [.pointer (some ⟨ga, 0, none⟩), .pointer (some ⟨gb, 0, none⟩), .pointer (some ⟨gs, 0, none⟩)]) T rfl rfl rfl rfl (T.e 8 rfl) (.cons (T.e 5 rfl) .nil) Try.func21 rfl rfl ?_
 refine Calls.mono (beats1_any z0 s ga gb gs _ (by (try dsimp only); omega) (by (try dsimp only); omega) hs (M.old qa (fun h => h)) (M.old qb (fun h => h)) (M.old qs (fun h => h))) ?_
 clear T; rintro e wc ⟨rfl, hb⟩ ac T
 replace M := M.call hb; clear hb
 refine Zso hK _ _ (M.mask [false, true] rfl) ?_; clear hK K
 exact H0 _ _ ⟨gr1_11, T.pick [1, 0, 2, 3, 4, 5, 6, 7, 8, 9, 10, 11, 12] rfl, M⟩
theorem verdict_any (D : Option Addr) (d : Nat) (ls : List (Int × Int)) (ga gb : Nat)  (w : World) (hl : Rd w w.heap.size 3 D ls.length (tn ls)) (hl0 : 0 < ls.length) (hl1 : ls.length ≤ 1000) (hlb : ∀ z ∈ ls, (0 ≤ z.1 ∧ z.1 ≤ 100000) ∧ 0 ≤ z.2 ∧ z.2 ≤ 100000) (qa : Bk w ga #[.int .i64 1]) (qb : Bk w gb #[.int .i64 0]) :
   Calls Try.prog 23 #[.slice D ls.length d, .func (.func 24) #[] #[.pointer (some ⟨ga, 0, none⟩), .pointer (some ⟨gb, 0, none⟩)]] w fun e w' => e = .returned (.int .i64 (verP higher2 ls)) ∧ Below w.heap.size w w' := by
 obtain ⟨bD, oD, SD⟩ := Sp.old hl
 refine Zpx noEx Try.func23 rfl 27 rfl [.slice D ls.length d, .func (.func 24) #[] #[.pointer (some ⟨ga, 0, none⟩), .pointer (some ⟨gb, 0, none⟩)]] rfl rfl (Mem.init w _) ?_
 intro ac wc T M
 refine Zsr ?_
 refine lq T (Zra rfl evc) ?_; clear T ac; intro ac T
 replace T := T.pick [1, 2] rfl
 refine Zln ?_
 refine Zsr ?_
 refine lq T (Zra rfl evc) ?_; clear T ac; intro ac T
 refine Zln ?_
 refine wp_seq ?_
 refine Zsr ?_
 refine Zg3 T (Zq (Zrm rfl (T.e 1 rfl))) rfl (Zl Try.underlying67 0 rfl rfl) rfl (fun _ T => Zq (Zrm rfl evc)) rfl ?_; clear T ac; intro ac T
 refine Zln ?_
 refine wp_block ?_
 refine wp_loop_n (fun mz ac wc => ∃ (k : Nat), mz = ls.length - k ∧ (k ≤ ls.length) ∧ (((ls.take k).filter higher2).length ≤ k) ∧ Tm ac 27 [(0, .slice D ls.length d), (1, .func (.func 24) #[] #[.pointer (some ⟨ga, 0, none⟩), .pointer (some ⟨gb, 0, none⟩)]), (5, .int .i64 ((((ls.take k).filter higher2).length : Nat) : Int)), (8, .slice D ls.length d), (9, .int .i64 ((ls.length : Nat) : Int)), (10, .int .i64 (k : Int))] ∧ Mem w noEx wc []) ?_ ?_
 ·exact ⟨_, 0, rfl, (Nat.zero_le _), (by simp), T.pick [4, 5, 3, 2, 1, 0] rfl, M.mask [] rfl⟩
 clear T M
 rintro mz ac wc ⟨k, hmm1, hk, hcn, T, M⟩
 refine Zsr ?_
 refine lq T (rn_lss rfl (T.e 5 rfl) (T.e 4 rfl)) ?_; clear T ac; intro ac T
 refine Zln ?_
 refine wp_seq ?_
 refine wp_if (T.e 0 rfl) ?_ ?_
 ·intro h1
  obtain ⟨z, hkz, -⟩ := tn_next (l := ls) (k := k) (by omega)
  refine Zsk ?_
  refine cut_seq (fun ac wc => Tm ac 27 [(0, .slice D ls.length d), (1, .func (.func 24) #[] #[.pointer (some ⟨ga, 0, none⟩), .pointer (some ⟨gb, 0, none⟩)]), (5, .int .i64 (bif (higher2 z) then (((((ls.take k).filter higher2).length : Nat) : Int) + 1) else ((((ls.take k).filter higher2).length : Nat) : Int))), (8, .slice D ls.length d), (9, .int .i64 ((ls.length : Nat) : Int)), (10, .int .i64 (k : Int))] ∧ Mem w noEx wc []) ?_ ?_
  ·refine wp_block ?_
   refine Zsr ?_
   refine Zg2 (v2 := (.agg #[.int .i64 z.1, .int .i64 z.2, .int .i64 0])) T (Zq (Zri (size := 3) k rfl (T.e 4 rfl) (T.e 6 rfl) ⟨_, Try.underlying67, by kernel_rfl⟩ rfl (by omega) (SD.at0 (by omega)))) rfl (fun _ T => Zq (rn_rowat (Sp.tnR SD M (Zz9 _) hkz) rfl (T.e 0 rfl) rfl)) rfl ?_; clear T ac; intro ac T
   refine Zl2 ?_
   refine Zoa M T rfl rfl rfl rfl ?_; clear M T; intro g1 wc ac M T
   refine Zl2 ?_
   refine Zos M T rfl rfl (T.e 0 rfl) (T.e 1 rfl) rfl .head rfl (by simp) rfl (by kernel_rfl) ?_; clear M T; intro wc ac M T
   replace T := T.pick [0, 4, 5, 6, 7, 8, 9] rfl
   refine Zln ?_
   refine Zsr ?_
   refine Zg2 T (Zq (Zrm rfl (T.e 2 rfl))) rfl (Zr M 0 1 rfl rfl rfl rfl) rfl ?_; clear T ac; intro ac T
   refine Zl2 ?_
   refine Zoc (first := []) (cap := [.pointer (some ⟨ga, 0, none⟩), .pointer (some ⟨gb, 0, none⟩)]) T rfl rfl rfl rfl (T.e 1 rfl) (.cons (T.e 0 rfl) .nil) Try.func24 rfl rfl ?_
   refine Calls.mono (higher1_any z ga gb _ (M.old qa (fun h => h)) (M.old qb (fun h => h))) ?_
   clear T; rintro e wc ⟨rfl, hb⟩ ac T
   replace M := M.call hb; clear hb
   refine wpList_nil ?_
   replace T := T.pick [0, 4, 5, 6, 7, 8, 9] rfl
   replace M := M.mask [false] rfl
   refine nm_then ?_
   refine wp_cond_split (T.e 0 rfl) ?_ ?_
   ·intro h2
    refine wp_region_lit ?_
    refine Zg2 T (Zq (Zrm rfl (T.e 3 rfl))) rfl (fun _ T => Zq (rn_add rfl (T.e 0 rfl) evc (by omega))) rfl ?_; clear T ac; intro ac T
    refine l_q (v := (.int .i64 (((((ls.take k).filter higher2).length : Nat) : Int) + 1))) (T.pick [0, 1, 2, 3, 4, 6, 7, 8] rfl) rfl rfl rfl rfl (Zra rfl (T.e 0 rfl)) ?_; clear T ac; intro ac T
    refine wpList_nil ?_
    replace T := T.pick [0, 4, 5, 6, 7, 8] rfl
    refine Znb ?_
    exact ⟨(T.pick (E' := [(0, .slice D ls.length d), (1, .func (.func 24) #[] #[.pointer (some ⟨ga, 0, none⟩), .pointer (some ⟨gb, 0, none⟩)]), (5, .int .i64 (((((ls.take k).filter higher2).length : Nat) : Int) + 1)), (8, .slice D ls.length d), (9, .int .i64 ((ls.length : Nat) : Int)), (10, .int .i64 (k : Int))]) [1, 2, 0, 3, 4, 5] rfl).as (by (try rw [show (higher2 z) = true from h2]); (try rfl)), M.mask [] rfl⟩
   intro h2
   refine wp_skip ?_
   refine Znb ?_
   exact ⟨(T.pick (E' := [(0, .slice D ls.length d), (1, .func (.func 24) #[] #[.pointer (some ⟨ga, 0, none⟩), .pointer (some ⟨gb, 0, none⟩)]), (5, .int .i64 ((((ls.take k).filter higher2).length : Nat) : Int)), (8, .slice D ls.length d), (9, .int .i64 ((ls.length : Nat) : Int)), (10, .int .i64 (k : Int))]) [1, 2, 3, 4, 5, 6] rfl).as (by (try rw [show (higher2 z) = false from h2]); (try rfl)), M.mask [] rfl⟩
  clear T M
  rintro ac wc ⟨T, M⟩
  refine wp_region_lit ?_
  refine lq T (rn_add rfl (T.e 5 rfl) evc (by omega)) ?_; clear T ac; intro ac T
  refine l_q (v := (.int .i64 ((k : Int) + 1))) (T.pick [0, 1, 2, 3, 4, 5] rfl) rfl rfl rfl rfl (Zrm rfl (T.e 0 rfl)) ?_; clear T ac; intro ac T
  replace T := T.pick [0, 2, 3, 4, 5, 6] rfl
  refine Zln ?_
  have e9 : (bif higher2 z then ((((ls.take k).filter higher2).length : Nat) : Int) + 1 else ((((ls.take k).filter higher2).length : Nat) : Int)) = ((((ls.take (k + 1)).filter higher2).length : Nat) : Int) := by rw [take_snoc hkz, List.filter_append, List.length_append]; cases hz : higher2 z <;> simp [hz]
  rw [e9] at T
  exact ⟨_, by omega, k + 1, rfl, (by omega), (by have := List.length_filter_le higher2 (ls.take (k + 1)); rw [List.length_take] at this; omega), T.pick [1, 2, 3, 4, 5, 0] rfl, M.mask [] rfl⟩
 intro h1
 refine wp_exit ?_
 refine Zet ?_
 refine Zet ?_
 refine ex_hit ?_
 refine Zns ?_
 refine Zsr ?_
 refine lq T (Zrm rfl (T.e 3 rfl)) ?_; clear T ac; intro ac T
 replace T := T.pick [0, 2] rfl
 refine Zln ?_
 refine wp_block ?_
 refine Zsr ?_
 refine Zg4 T (Zq (Zrm rfl (T.e 1 rfl))) rfl (Zl Try.underlying67 0 rfl rfl) rfl (fun _ T => Zq (rn_eql rfl (T.e 2 rfl) (T.e 0 rfl))) rfl (Za 0 rfl rfl) rfl ?_; clear T ac; intro ac T
 replace T := T.pick [0, 4] rfl
 refine Zln ?_
 refine wp_if (T.e 0 rfl) ?_ ?_
 ·intro h3
  refine Zsr ?_
  refine lq T (Zra rfl evc) ?_; clear T ac; intro ac T
  replace T := T.pick [0] rfl
  refine Zln ?_
  refine wp_ret ?_
  refine Zrb ?_
  refine Zrt ?_
  refine rt_1 T rfl (T.e 0 rfl) ?_
  have e9 : ls.take k = ls := List.take_of_length_le (by omega)
  simp only [e9] at *
  exact ⟨ret_int (by unfold verP; (repeat' split) <;> first | rfl | omega), M.below⟩
 intro h3
 refine Zsr ?_
 refine Zg2 T (Zq (rn_eql rfl (T.e 1 rfl) evc)) rfl (Za 0 rfl rfl) rfl ?_; clear T ac; intro ac T
 replace T := T.pick [0] rfl
 refine Zln ?_
 refine wp_if (T.e 0 rfl) ?_ ?_
 ·intro h4
  refine Zsr ?_
  refine lq T (Zra rfl evc) ?_; clear T ac; intro ac T
  replace T := T.pick [0] rfl
  refine Zln ?_
  refine wp_ret ?_
  refine Zrb ?_
  refine Zrt ?_
  refine rt_1 T rfl (T.e 0 rfl) ?_
  have e9 : ls.take k = ls := List.take_of_length_le (by omega)
  simp only [e9] at *
  exact ⟨ret_int (by unfold verP; (repeat' split) <;> first | rfl | omega), M.below⟩
 intro h4
 refine wp_skip ?_
 refine Znb ?_
 refine nm_then ?_
 refine Zsr ?_
 refine lq T (Zra rfl evc) ?_; clear T ac; intro ac T
 replace T := T.pick [0] rfl
 refine Zln ?_
 refine wp_ret ?_
 refine rt_1 T rfl (T.e 0 rfl) ?_
 have e9 : ls.take k = ls := List.take_of_length_le (by omega)
 simp only [e9] at *
 exact ⟨ret_int (by unfold verP; (repeat' split) <;> first | rfl | omega), M.below⟩
end
section
open Go.RowKit Go.Shelf
theorem Beats_any (A : Option Addr) (c : Nat) (l : List (Int × Int)) (x y : Int × Int) (s : Int)  (w : World) (hs1 : 1 ≤ s ∧ s ≤ 20) (hl2 : l.length = 2) (gl : ∀ p ∈ l, (1 ≤ p.1 ∧ p.1 ≤ p.2) ∧ p.2 ≤ 100000 ∧ p.2 - p.1 ≤ 20) (hkx : l[0]? = some x) (hky : l[1]? = some y) (hx : x.1 ≤ x.2) (hxb : -1000000 ≤ x.1 ∧ x.2 ≤ 1000000) (hy : y.1 ≤ y.2) (hyb : -1000000 ≤ y.1 ∧ y.2 ≤ 1000000) (hal : (allL x.1 x.2 y.1 y.2).length ≤ 1000) (hal0 : 0 < (allL x.1 x.2 y.1 y.2).length) (hr : Rd w w.heap.size 2 A l.length (rc l))  :
  Calls Try.prog 8 #[.agg #[.int .i64 0, .slice A l.length c, .slice none 0 0], .int .i64 0, .int .i64 1, .int .i64 s] w fun e w' => e = .returned (.tuple #[.agg #[.int .i64 ((spnE (beat2 s) (allL x.1 x.2 y.1 y.2)).1), .int .i64 ((spnE (beat2 s) (allL x.1 x.2 y.1 y.2)).2)], .int .i64 0]) ∧ Below w.heap.size w w' := by
 obtain ⟨bJ, oJ, SJ⟩ := Sp.old hr
 have hs : 0 ≤ s ∧ s ≤ 20 := by omega
 refine Zpx noEx Try.func8 rfl 37 rfl [.agg #[.int .i64 0, .slice A l.length c, .slice none 0 0], .int .i64 0, .int .i64 1, .int .i64 s] rfl rfl (Mem.init w _) ?_
 intro ac wc T M
 refine Zsr ?_
 refine Zl2 ?_
 refine Zob M T rfl rfl rfl rfl (T.e 0 rfl) rfl ?_; clear M T; intro g1 wc ac M T
 refine Zl2 ?_
 refine Zob M T rfl rfl rfl rfl (T.e 2 rfl) rfl ?_; clear M T; intro g2 wc ac M T
 refine Zl2 ?_
 refine Zob M T rfl rfl rfl rfl (T.e 4 rfl) rfl ?_; clear M T; intro g3 wc ac M T
 refine Zl2 ?_
 refine Zob M T rfl rfl rfl rfl (T.e 6 rfl) rfl ?_; clear M T; intro g4 wc ac M T
 refine Zl2 ?_
 refine Zoa M T rfl rfl rfl rfl ?_; clear M T; intro g5 wc ac M T
 refine lq T (Zra rfl evc) ?_; clear T ac; intro ac T
 replace T := T.pick [1, 2, 3, 4, 5] rfl
 refine Zln ?_
 refine Zsr ?_
 refine Zg3 T (Zq (Zrr (Mem.nth M 4 rfl) rfl (T.e 4 rfl) rfl)) rfl (Zo M 3 4 rfl rfl rfl rfl) rfl (Zo M 2 4 rfl rfl rfl rfl) rfl ?_; clear T ac; intro ac T
 refine Zl2 ?_
 refine Zoc (first := []) (cap := []) T rfl rfl rfl rfl evf (.cons (T.e 2 rfl) (.cons (T.e 1 rfl) (.cons (T.e 0 rfl) .nil))) Try.func17 rfl rfl ?_
 refine Calls.mono (twoM_any A c l 0 1 _ (by first | rfl | omega) (by omega) (by omega) (by omega) (SJ.rd M (Zz9 _))) ?_
 clear T; rintro e wc ⟨rfl, hb⟩ ac T
 replace M := M.call hb; clear hb
 refine lq T (Zra rfl (T.e 0 rfl)) ?_; clear T ac; intro ac T
 replace T := T.pick [0, 5, 6, 7, 8, 9] rfl
 refine Zln ?_
 refine wp_seq ?_
 refine Zsr ?_
 refine Zg4 (v2 := (.bool true)) T (Zq (Zrm rfl (T.e 0 rfl))) rfl (fun _ T => Zq (Zrq (rn_eql rfl (T.e 0 rfl) evc) (by simp))) rfl (Zm 0 rfl rfl) rfl (fun _ T => Zw (Zwy rfl rfl (T.e 0 rfl) rfl) (Zro (Mem.nth M 1 rfl) rfl (T.e 5 rfl) rfl)) rfl ?_; clear T ac; intro ac T
 refine l_w (Zwy rfl rfl (T.e 1 rfl) rfl) ?_; intro K hK
 refine Zoc (first := []) (cap := []) T rfl rfl rfl rfl evf (.cons (T.e 0 rfl) (.cons evc (.cons evc .nil))) Try.func18 rfl rfl ?_
 refine Calls.mono (inM_any s 1 20 _) ?_
 clear T; rintro e wc ⟨rfl, hb⟩ ac T
 replace M := M.call hb; clear hb
 rw [show withinB s 1 20 = true by unfold withinB; simp only [decide_eq_true_eq]; omega] at T
 refine Zso hK _ _ ?_; clear hK K
 refine Zg2 (v1 := (.bool false)) T (Zw (Zwy rfl rfl (T.e 2 rfl) rfl) (Zrq (rn_not rfl (T.e 0 rfl)) (by simp))) rfl (fun _ T => Zq (Zr1 rfl (T.e 3 rfl) rfl (T.e 0 rfl))) rfl ?_; clear T ac; intro ac T
 replace T := T.pick [0, 7, 8, 9, 10, 11, 12] rfl
 refine Zln ?_
 refine wp_cond_false (T.e 0 rfl) ?_
 refine Zsk ?_
 refine Zsr ?_
 refine Zg2 T (Zq (Zrr (Mem.nth M 4 rfl) rfl (T.e 6 rfl) rfl)) rfl (Zm 2 rfl rfl) rfl ?_; clear T ac; intro ac T
 refine Zl2 ?_
 refine Zoc (first := []) (cap := []) T rfl rfl rfl rfl evf (.cons (T.e 1 rfl) (.cons (T.e 0 rfl) .nil)) Try.func19 rfl rfl ?_
 refine Calls.mono (ask_any A c l x y _ hl2 gl hkx hky hx hxb hy hyb hal hal0 (SJ.rd M (Zz9 _))) ?_
 clear T; rintro e wc ⟨Au3, cu3, Iu3, rfl, hslu3, N⟩ ac T
 obtain ⟨bu3, ou3, SVu3⟩ := hslu3.spV (tn_length _)
 have Su3 := SVu3 w noEx
 replace M := (M.join N).swapI
 replace M := M.mask [true, true, true, true, true] rfl
 clear N
 refine Zg5 T (Zq (Zrm rfl (T.e 0 rfl))) rfl (Ze 0 rfl rfl rfl) rfl (Ze 1 rfl rfl rfl) rfl (Za 1 rfl rfl) rfl (Za 1 rfl rfl) rfl ?_; clear T ac; intro ac T
 refine wpList_nil ?_
 replace T := T.pick [0, 1, 10, 11, 12, 13] rfl
 replace M := M.mask [true, true, true, true, false] rfl
 refine Zns ?_
 refine Zsr ?_
 refine Zg2 (v2 := (.bool false)) T (Zq (Zrm rfl (T.e 0 rfl))) rfl (fun _ T => Zq (Zrq (rn_neq rfl (T.e 0 rfl) evc) (by simp))) rfl ?_; clear T ac; intro ac T
 replace T := T.pick [0, 2, 3, 4, 5, 6, 7] rfl
 refine Zln ?_
 refine wp_cond_false (T.e 0 rfl) ?_
 refine Zsk ?_
 refine Zsr ?_
 refine Zg2 (v2 := (.func (.func 21) #[] #[.pointer (some ⟨g2, 0, none⟩), .pointer (some ⟨g3, 0, none⟩), .pointer (some ⟨g4, 0, none⟩)])) T (Zq (Zrm rfl (T.e 2 rfl))) rfl (fun _ T => Zq (rn_makeFunc rfl .nil (.cons (T.e 7 rfl) (.cons (T.e 6 rfl) (.cons (T.e 5 rfl) .nil))))) rfl ?_; clear T ac; intro ac T
 refine Zl2 ?_
 refine Zoc (first := []) (cap := []) T rfl rfl rfl rfl evf (.cons (T.e 1 rfl) (.cons (T.e 0 rfl) .nil)) Try.func20 rfl rfl ?_
 refine Calls.mono (span_any Au3 cu3 (allL x.1 x.2 y.1 y.2) s g2 g3 g4 _ (Su3.rd M (.cons _ (.cons _ (.cons _ (.cons _ (List.Sublist.refl _)))))) hal0 hal (fun z hz => by have gx := gl x (List.mem_of_getElem? hkx); have gy := gl y (List.mem_of_getElem? hky); have := mem_allL.1 hz; omega) hs (M.nth 3 rfl) (M.nth 2 rfl) (M.nth 1 rfl)) ?_
 clear T; rintro e wc ⟨rfl, hb⟩ ac T
 replace M := M.call hb; clear hb
 refine Zl2 ?_
 refine Zos M T rfl rfl (T.e 6 rfl) (T.e 0 rfl) rfl .head rfl (by simp) rfl (by kernel_rfl) ?_; clear M T; intro wc ac M T
 refine lq T (Zra rfl evc) ?_; clear T ac; intro ac T
 refine wpList_nil ?_
 replace T := T.pick [0, 7] rfl
 replace M := M.mask [true, false, false, false] rfl
 refine Znr ?_
 refine rt_ct M T rfl (T.e 1 rfl) (T.e 0 rfl) (Zne (i := 0) rfl) rfl ?_
 exact ⟨rfl, M.below⟩
theorem Higher_any (A : Option Addr) (c : Nat) (l : List (Int × Int)) (x y : Int × Int)  (w : World) (hl2 : l.length = 2) (gl : ∀ p ∈ l, (1 ≤ p.1 ∧ p.1 ≤ p.2) ∧ p.2 ≤ 100000 ∧ p.2 - p.1 ≤ 20) (hkx : l[0]? = some x) (hky : l[1]? = some y) (hx : x.1 ≤ x.2) (hxb : -1000000 ≤ x.1 ∧ x.2 ≤ 1000000) (hy : y.1 ≤ y.2) (hyb : -1000000 ≤ y.1 ∧ y.2 ≤ 1000000) (hal : (allL x.1 x.2 y.1 y.2).length ≤ 1000) (hal0 : 0 < (allL x.1 x.2 y.1 y.2).length) (hr : Rd w w.heap.size 2 A l.length (rc l))  :
  Calls Try.prog 9 #[.agg #[.int .i64 0, .slice A l.length c, .slice none 0 0], .int .i64 1, .int .i64 0] w fun e w' => e = .returned (.tuple #[.int .i64 (verP higher2 (allL x.1 x.2 y.1 y.2)), .int .i64 0]) ∧ Below w.heap.size w w' := by
 obtain ⟨bJ, oJ, SJ⟩ := Sp.old hr
 refine Zpx noEx Try.func9 rfl 25 rfl [.agg #[.int .i64 0, .slice A l.length c, .slice none 0 0], .int .i64 1, .int .i64 0] rfl rfl (Mem.init w _) ?_
 intro ac wc T M
 refine Zsr ?_
 refine Zl2 ?_
 refine Zob M T rfl rfl rfl rfl (T.e 0 rfl) rfl ?_; clear M T; intro g1 wc ac M T
 refine Zl2 ?_
 refine Zob M T rfl rfl rfl rfl (T.e 2 rfl) rfl ?_; clear M T; intro g2 wc ac M T
 refine Zl2 ?_
 refine Zob M T rfl rfl rfl rfl (T.e 4 rfl) rfl ?_; clear M T; intro g3 wc ac M T
 refine Zg2 T (Zq (Zra rfl evc)) rfl (Zc rfl) rfl ?_; clear T ac; intro ac T
 replace T := T.pick [2, 3, 4] rfl
 refine Zln ?_
 refine wp_seq ?_
 refine Zgs M (M.mask [true, true, true] rfl) 11 (by kernel_rfl) rfl (by kernel_rfl) ?_
 clear M; intro wc M
 refine gq T 0 1 rfl (fun B w' hD hl hS => (Zrr (Mem.nth (show Mem w noEx w' _ from hS) 2 rfl) rfl (T.e 2 rfl) rfl)) ?_; clear T ac; intro ac T
 refine gq T 1 3 rfl (fun B w' hD hl hS => (Zrr (Mem.nth (show Mem w noEx w' _ from hS) 2 rfl) rfl (T.e 3 rfl) rfl)) ?_; clear T ac; intro ac T
 refine gq T 2 7 rfl (fun B w' hD hl hS => (Zro (Mem.nth (show Mem w noEx w' _ from hS) 1 rfl) rfl (T.e 3 rfl) rfl)) ?_; clear T ac; intro ac T
 refine gq T 3 15 rfl (fun B w' hD hl hS => (Zro (Mem.nth (show Mem w noEx w' _ from hS) 0 rfl) rfl (T.e 3 rfl) rfl)) ?_; clear T ac; intro ac T
 refine gw 4 31 ?_; intro K hK
 refine Zoc (first := []) (cap := []) T rfl rfl rfl rfl evf (.cons (T.e 2 rfl) (.cons (T.e 1 rfl) (.cons (T.e 0 rfl) .nil))) Try.func17 rfl rfl ?_
 refine Calls.mono (twoM_any A c l 1 0 _ (by first | rfl | omega) (by omega) (by omega) (by omega) (SJ.rd M (Zz9 _))) ?_
 clear T; rintro e wc ⟨rfl, hb⟩ ac T
 replace M := M.call hb; clear hb
 refine Zso hK _ _ (M.mask [true, true, true] rfl) ?_; clear hK K
 refine gw 5 63 ?_; intro K hK
 refine Zoc (first := []) (cap := []) T rfl rfl rfl rfl evf (.cons (T.e 4 rfl) (.cons (T.e 0 rfl) .nil)) Try.func19 rfl rfl ?_
 refine Calls.mono (ask_any A c l x y _ hl2 gl hkx hky hx hxb hy hyb hal hal0 (SJ.rd M (Zz9 _))) ?_
 clear T; rintro e wc ⟨Au2, cu2, Iu2, rfl, hslu2, N⟩ ac T
 obtain ⟨bu2, ou2, SVu2⟩ := hslu2.spV (tn_length _)
 have Su2 := SVu2 w noEx
 replace M := (M.join N).swapI
 replace M := M.mask [true, true, true] rfl
 clear N
 refine Zso hK _ _ (M.perm [0, 1, 2] rfl rfl) ?_; clear hK K
 refine gq T 6 127 rfl (fun _ _ _ _ _ => (Zrm rfl (T.e 0 rfl))) ?_; clear T ac; intro ac T
 refine gq T 7 255 rfl (fun _ _ _ _ _ => (Zre rfl (T.e 0 rfl) rfl)) ?_; clear T ac; intro ac T
 refine gq T 8 511 rfl (fun _ _ _ _ _ => (Zre rfl (T.e 1 rfl) rfl)) ?_; clear T ac; intro ac T
 refine gq T 9 1023 rfl (fun _ _ _ _ _ => (Zra rfl (T.e 1 rfl))) ?_; clear T ac; intro ac T
 refine gq T 10 2047 rfl (fun _ _ _ _ _ => (Zra rfl (T.e 1 rfl))) ?_; clear T ac; intro ac T
 refine Zgd (by kernel_rfl) ?_
 replace T := T.pick [0, 1, 11, 12] rfl
 replace M := M.mask [true, true, false] rfl
 refine Zns ?_
 refine Zsr ?_
 refine Zg2 (v2 := (.bool false)) T (Zq (Zrm rfl (T.e 0 rfl))) rfl (fun _ T => Zq (Zrq (rn_neq rfl (T.e 0 rfl) evc) (by simp))) rfl ?_; clear T ac; intro ac T
 replace T := T.pick [0, 2, 3, 4, 5] rfl
 refine Zln ?_
 refine wp_cond_false (T.e 0 rfl) ?_
 refine Zsk ?_
 refine Zsr ?_
 refine Zg2 (v2 := (.func (.func 24) #[] #[.pointer (some ⟨g2, 0, none⟩), .pointer (some ⟨g3, 0, none⟩)])) T (Zq (Zrm rfl (T.e 2 rfl))) rfl (fun _ T => Zq (rn_makeFunc rfl .nil (.cons (T.e 5 rfl) (.cons (T.e 4 rfl) .nil)))) rfl ?_; clear T ac; intro ac T
 refine Zl2 ?_
 refine Zoc (first := []) (cap := []) T rfl rfl rfl rfl evf (.cons (T.e 1 rfl) (.cons (T.e 0 rfl) .nil)) Try.func23 rfl rfl ?_
 refine Calls.mono (verdict_any Au2 cu2 (allL x.1 x.2 y.1 y.2) g2 g3 _ (Su2.rd M (.cons _ (.cons _ (List.Sublist.refl _)))) hal0 hal (fun z hz => by have gx := gl x (List.mem_of_getElem? hkx); have gy := gl y (List.mem_of_getElem? hky); have := mem_allL.1 hz; omega) (M.nth 1 rfl) (M.nth 0 rfl)) ?_
 clear T; rintro e wc ⟨rfl, hb⟩ ac T
 replace M := M.call hb; clear hb
 refine Zg2 T (Zq (Zra rfl (T.e 0 rfl))) rfl (Zc rfl) rfl ?_; clear T ac; intro ac T
 refine wpList_nil ?_
 replace T := T.pick [0, 1] rfl
 replace M := M.mask [false, false] rfl
 refine Znr ?_
 refine rt_2 T rfl (T.e 1 rfl) (T.e 0 rfl) ?_
 exact ⟨rfl, M.below⟩
end
theorem upto_wide (s : Int) (bp : Nat) (most : Int) (w : World) (hm : most ≤ 1000000) (hp : Bk w bp #[.int .u64 s]) (hs : u64ok s) :
  Calls Try.prog 12 #[.pointer (some ⟨bp, 0, none⟩), .int .i64 most] w (PotPost bp (fun n => 0 ≤ n ∧ n ≤ max 0 most) .i64 w) := by
 by_cases h0 : 0 ≤ most
 ·exact (upto_any s bp most w hm h0 hp hs).mono fun e w' h => by
   obtain ⟨n, s', h1, h2⟩ := h
   exact ⟨n, s', ⟨h1.1, by omega⟩, h2⟩
 ·have M := Mem.initEx (p := .cells [.int .u64 s]) hp
  have HS := Lib.hid hs
  clear hp hs
  have h1 : most < 1 := by omega
  go_enter Try.func12, Try.ntmps12
  refine m_start M ?_
  clear M
  intro wc M
  go_wp2_with (first | (refine m_ld1 M rfl rfl rfl (by (repeat' (first | exact Zz2 | refine Zz1 ?_))) (by rfl) ?_) | (refine m_ldr M rfl rfl rfl (by (repeat' (first | exact Zz2 | refine Zz1 ?_))) (by (try simp only [Zy2, List.take_zero, List.take_nil, Zy1, List.drop_zero, List.drop_nil, List.cons_append, List.nil_append, List.append_nil, List.length_cons, List.length_nil, Nat.reduceAdd, Nat.zero_add, Nat.add_zero]); rfl) (by rfl) ?_) | (refine m_st M rfl rfl rfl (by first | exact (rfl : _ = Value.agg _) | exact (rfl : _ = Value.int _ _) | exact (rfl : _ = Value.bool _) | exact (rfl : _ = Value.slice _ _ _) | exact (rfl : _ = Value.pointer _) | exact (rfl : _ = Value.map _) | exact (rfl : _ = Value.func _ _ _) | exact (rfl : _ = Value.string _)) (by rfl) (by (repeat (first | exact Upd.head | apply Upd.tail))) (by (try simp only [Zy2, List.take_zero, List.take_nil, Zy1, List.drop_zero, List.drop_nil, List.cons_append, List.nil_append, List.append_nil, List.length_cons, List.length_nil, Nat.reduceAdd, Nat.zero_add, Nat.add_zero]); rfl) (by simp) (by simp [Value.oneCell']) (by kernel_rfl) ?_; clear M; (try clear wc); intro wc M) | (refine m_al M rfl rfl ?_; clear M; (try clear wc); intro g wc M) | (refine m_bx M rfl rfl (by first | exact (rfl : _ = Value.agg _) | exact (rfl : _ = Value.int _ _) | exact (rfl : _ = Value.bool _) | exact (rfl : _ = Value.slice _ _ _) | exact (rfl : _ = Value.pointer _) | exact (rfl : _ = Value.map _) | exact (rfl : _ = Value.func _ _ _) | exact (rfl : _ = Value.string _)) (by rfl) ?_; clear M; (try clear wc); intro g wc M))
  go_ret
  exact ⟨0, s, ⟨by omega, by omega⟩, HS.out, rfl, M.grown, M.get (by (repeat' (first | exact Zz2 | refine Zz1 ?_)))⟩
open Go.RowKit
theorem eqT29 {x y : Operand} {a0 a1 b0 b1 : Int} {w : World} : (do eqGuard .eql 29 x y (.agg #[.int .i64 a0, .int .i64 a1]) (.agg #[.int .i64 b0, .int .i64 b1]); binOp .eql 29 (.agg #[.int .i64 a0, .int .i64 a1]) (.agg #[.int .i64 b0, .int .i64 b1]) : Sem Value).run Try.prog w = .ok (.bool ((decide (a0 = b0) && decide (a1 = b1)))) w := by
 go_simp
 (repeat' split) <;> simp_all
theorem neT29 {x y : Operand} {a0 a1 b0 b1 : Int} {w : World} : (do eqGuard .neq 29 x y (.agg #[.int .i64 a0, .int .i64 a1]) (.agg #[.int .i64 b0, .int .i64 b1]); binOp .neq 29 (.agg #[.int .i64 a0, .int .i64 a1]) (.agg #[.int .i64 b0, .int .i64 b1]) : Sem Value).run Try.prog w = .ok (.bool (!(decide (a0 = b0) && decide (a1 = b1)))) w := by
 go_simp
 (repeat' split) <;> simp_all
theorem same_start {α : Type} [DecidableEq α] (l r : List α) : decide (l = r) = (decide ((l.length : Int) = (r.length : Int)) && decide (l.drop 0 = r.drop 0)) := by
 by_cases h : l = r
 · subst h; simp
 · simp [h]
theorem same_next {x y x' y' : Int} {l r : List (Int × Int)} : decide ((x, y) :: l = (x', y') :: r) = ((decide (x = x') && decide (y = y')) && decide (l = r)) := by
 by_cases h1 : x = x' <;> by_cases h2 : y = y' <;> simp [h1, h2]
theorem sameRanges_any (A D : Option Addr) (n m c d : Nat) (l r : List (Int × Int)) (w : World) (hr : Rd w w.heap.size 2 A n (rc l)) (hs : Rd w w.heap.size 2 D m (rc r)) (hn : n ≤ 9223372036854775807) (hm : m ≤ 9223372036854775807) :
   Calls Try.prog 25 #[.slice A n c, .slice D m d] w fun e w' => e = .returned (.bool (decide (l = r))) ∧ Below w.heap.size w w' := by
 have hl := hr.len2
 have hl2 := hs.len2
 obtain ⟨bJ, oJ, SJ⟩ := Sp.old hr
 obtain ⟨bI, oI, SI⟩ := Sp.old hs
 refine Zpx noEx Try.func25 rfl 31 rfl [.slice A n c, .slice D m d] rfl rfl (Mem.init w _) ?_
 intro ac wc T M
 refine Zsr ?_
 refine lq T (Zra rfl evc) ?_; clear T ac; intro ac T
 replace T := T.pick [1, 2] rfl
 refine Zln ?_
 refine Zsr ?_
 refine Zg6 T (Zq (Zrm rfl (T.e 0 rfl))) rfl (Zl Try.underlying36 0 rfl rfl) rfl (Zm 3 rfl rfl) rfl (Zl Try.underlying36 0 rfl rfl) rfl (fun _ T => Zq (rn_eql rfl (T.e 2 rfl) (T.e 0 rfl))) rfl (Za 0 rfl rfl) rfl ?_; clear T ac; intro ac T
 replace T := T.pick [0, 6, 7] rfl
 refine Zln ?_
 refine wp_seq ?_
 refine Zsr ?_
 refine lq T (Zra rfl evc) ?_; clear T ac; intro ac T
 refine Zln ?_
 refine wp_block ?_
 refine wp_loop_n (fun mz ac wc => ∃ (k : Nat) (b : Bool), mz = n - k ∧ (k ≤ n) ∧ (b = true → n = m) ∧ (decide (l = r) = (b && decide (l.drop k = r.drop k))) ∧ Tm ac 31 [(0, .slice A n c), (1, .slice D m d), (5, .bool b), (6, .int .i64 (k : Int))] ∧ Mem w noEx wc []) ?_ ?_
 ·exact ⟨_, 0, _, rfl, (by omega), (fun h => by have := of_decide_eq_true h; omega), (by rw [same_start l r, hl, hl2]), T.pick [2, 3, 1, 0] rfl, M.mask [] rfl⟩
 clear T M
 rintro mz ac wc ⟨k, b, hmm1, hk, hb, H, T, M⟩
 refine wp_seq ?_
 refine cut_seq (fun ac wc => Tm ac 31 [(0, .slice A n c), (1, .slice D m d), (5, .bool b), (6, .int .i64 (k : Int)), (18, .bool (b && (decide ((k : Int) < ((n : Nat) : Int)))))] ∧ Mem w noEx wc []) ?_ ?_
 ·refine wp_region_lit ?_
  refine Zg2 T (Zq (Zrm rfl (T.e 2 rfl))) rfl (Zm 0 rfl rfl) rfl ?_; clear T ac; intro ac T
  rcases Bool.eq_false_or_eq_true b with h1 | h1
  ·refine Zg5 T (Zw (Zwy rfl rfl (T.e 0 rfl) h1) (Zrm rfl (T.e 5 rfl))) rfl (fun _ T => Zw (Zwy rfl rfl (T.e 1 rfl) h1) (Zrm rfl (T.e 3 rfl))) rfl (fun _ T => Zw (Zwy rfl rfl (T.e 2 rfl) h1) (Zrl rfl Try.underlying36 (T.e 0 rfl))) rfl (fun _ T => Zw (Zwy rfl rfl (T.e 3 rfl) h1) (rn_lss rfl (T.e 2 rfl) (T.e 0 rfl))) rfl (fun _ T => Zq (Zr1 rfl (T.e 4 rfl) h1 (T.e 0 rfl))) rfl ?_; clear T ac; intro ac T
   refine wpList_nil ?_
   replace T := T.pick [0, 1, 2, 3, 4, 7, 8, 9, 10] rfl
   exact ⟨(T.pick (E' := [(0, .slice A n c), (1, .slice D m d), (5, .bool b), (6, .int .i64 (k : Int)), (18, .bool (decide ((k : Int) < ((n : Nat) : Int))))]) [5, 6, 7, 8, 0] rfl).as (by (try rw [show b = true from h1]); (try rfl)), M.mask [] rfl⟩
  refine Zg5 T (Zp (Zwn rfl rfl (T.e 0 rfl) h1)) rfl (fun _ T => Zp (Zwn rfl rfl (T.e 1 rfl) h1)) rfl (fun _ T => Zp (Zwn rfl rfl (T.e 2 rfl) h1)) rfl (fun _ T => Zp (Zwn rfl rfl (T.e 3 rfl) h1)) rfl (fun _ T => Zq (Zr0 rfl (T.e 4 rfl) h1 evc)) rfl ?_; clear T ac; intro ac T
  refine wpList_nil ?_
  replace T := T.pick [0, 1, 2, 3, 4, 7, 8, 9, 10] rfl
  exact ⟨(T.pick (E' := [(0, .slice A n c), (1, .slice D m d), (5, .bool b), (6, .int .i64 (k : Int)), (18, .bool false)]) [5, 6, 7, 8, 0] rfl).as (by (try rw [show b = false from h1]); (try rfl)), M.mask [] rfl⟩
 clear T M
 rintro ac wc ⟨T, M⟩
 refine wp_cond_split (T.e 4 rfl) ?_ ?_
 ·intro h2
  (have h2' := h2; try simp only [Zb1, Zb2, Zb3, Zb4, Zb5, Zb6, Zb7] at h2')
  have h1 : b = true ∧ (k : Int) < (n : Int) := by simpa using h2
  have hnm := hb h1.1
  obtain ⟨x0, x1, hk1, hd⟩ := rc_next (l := l) (k := k) (by omega)
  obtain ⟨y0, y1, hk2, hd2⟩ := rc_next (l := r) (k := k) (by omega)
  rw [hd, hd2, h1.1, Bool.true_and, same_next] at H
  refine Zsk ?_
  refine wp_seq ?_
  refine wp_block ?_
  refine Zgs M (M.mask [] rfl) 10 (by kernel_rfl) rfl (by kernel_rfl) ?_
  clear M; intro wc M
  refine gq T 0 1 rfl (fun _ _ _ _ _ => (Zrm rfl (T.e 0 rfl))) ?_; clear T ac; intro ac T
  refine gq T 1 3 rfl (fun _ _ _ _ _ => (Zrm rfl (T.e 4 rfl))) ?_; clear T ac; intro ac T
  refine gq T 2 7 rfl (fun _ _ _ _ _ => (Zri (size := 2) k rfl (T.e 1 rfl) (T.e 0 rfl) ⟨_, Try.underlying36, by kernel_rfl⟩ rfl (by omega) (SJ.at0 (by omega)))) ?_; clear T ac; intro ac T
  refine gq (v := (.agg #[.int .i64 x0, .int .i64 x1])) T 3 15 rfl (fun B w' hD hl hS => (rn_rowat (Sp.rcR SJ (show Mem w noEx w' _ from hS) (Zz9 _) hk1) rfl (T.e 0 rfl) rfl)) ?_; clear T ac; intro ac T
  refine gq T 4 31 rfl (fun _ _ _ _ _ => (Zrm rfl (T.e 5 rfl))) ?_; clear T ac; intro ac T
  refine gq T 5 63 rfl (fun _ _ _ _ _ => (Zrm rfl (T.e 8 rfl))) ?_; clear T ac; intro ac T
  refine gq T 6 127 rfl (fun _ _ _ _ _ => (Zri (size := 2) k rfl (T.e 1 rfl) (T.e 0 rfl) ⟨_, Try.underlying36, by kernel_rfl⟩ rfl (by omega) (SI.at0 (by omega)))) ?_; clear T ac; intro ac T
  refine gq (v := (.agg #[.int .i64 y0, .int .i64 y1])) T 7 255 rfl (fun B w' hD hl hS => (rn_rowat (Sp.rcR SI (show Mem w noEx w' _ from hS) (Zz9 _) hk2) rfl (T.e 0 rfl) rfl)) ?_; clear T ac; intro ac T
  refine gq (v := (.bool ((decide (x0 = y0)) && (decide (x1 = y1))))) T 8 511 rfl (fun _ _ _ _ _ => (rn_bin rfl (T.e 4 rfl) (T.e 0 rfl) eqT29)) ?_; clear T ac; intro ac T
  refine g_q (v := (.bool ((decide (x0 = y0)) && (decide (x1 = y1))))) (T := T.pick [0, 1, 2, 3, 4, 5, 6, 7, 8, 9, 10, 12, 13] rfl) (i := 9) rfl (by kernel_rfl) (by kernel_rfl : (Zpb 10 511).setIfInBounds 9 true = Zpb 10 1023) si_U (fun _ _ _ h => h) rfl rfl rfl rfl (fun _ _ _ _ _ => (Zra rfl (T.e 0 rfl))) ?_; clear T ac; intro ac T
  refine Zgd (by kernel_rfl) ?_
  replace T := T.pick [0, 10, 11, 12] rfl
  refine Znb ?_
  refine nm_then ?_
  refine wp_region_lit ?_
  refine Zg2 T (Zq (Zrm rfl (T.e 3 rfl))) rfl (fun _ T => Zq (rn_add rfl (T.e 0 rfl) evc (by omega))) rfl ?_; clear T ac; intro ac T
  refine l_q (v := (.int .i64 ((k : Int) + 1))) (T.pick [0, 1, 2, 3, 4] rfl) rfl rfl rfl rfl (Zra rfl (T.e 0 rfl)) ?_; clear T ac; intro ac T
  replace T := T.pick [0, 3, 4, 5] rfl
  refine Zln ?_
  exact ⟨_, by omega, k + 1, _, rfl, (by omega), (fun _ => hnm), H, T.pick [2, 3, 1, 0] rfl, M.mask [] rfl⟩
 intro h2
 (have h2' := h2; try simp only [Zb1, Zb2, Zb3, Zb4, Zb5, Zb6, Zb7] at h2')
 refine wp_exit ?_
 refine Zet ?_
 refine Zet ?_
 refine ex_hit ?_
 refine nm_then ?_
 refine Zsr ?_
 refine Zg2 T (Zq (Zrm rfl (T.e 2 rfl))) rfl (Za 0 rfl rfl) rfl ?_; clear T ac; intro ac T
 replace T := T.pick [0] rfl
 refine Zln ?_
 refine wp_ret ?_
 refine rt_1 T rfl (T.e 0 rfl) ?_
 refine ⟨ret_bool ?_, M.below⟩
 rw [H]
 rcases Bool.eq_false_or_eq_true b with hb1 | hb1
 · have hnm := hb hb1
   have : ¬ ((k : Int) < (n : Int)) := by intro hc; simp [hb1, hc] at h2
   rw [List.drop_of_length_le (by omega), List.drop_of_length_le (by omega)]
   simp [hb1]
 · simp [hb1]
theorem sameRanges_same (A D : Option Addr) (n m c d : Nat) (l : List (Int × Int)) (w : World) (hr : Rd w w.heap.size 2 A n (rc l)) (hs : Rd w w.heap.size 2 D m (rc l)) (hn : n ≤ 9223372036854775807) (hm : m ≤ 9223372036854775807) :
  Calls Try.prog 25 #[.slice A n c, .slice D m d] w fun e w' => e = .returned (.bool true) ∧ Below w.heap.size w w' := by
 have := sameRanges_any A D n m c d l l w hr hs hn hm
 simpa using this
theorem within_wide (s : Int) (bp : Nat) (lo hi : Int) (w : World) (hl : -1000 ≤ lo) (hh : hi ≤ 100000) (hlh : lo ≤ hi) (hp : Bk w bp #[.int .u64 s]) (hs : u64ok s) :
  Calls Try.prog 6 #[.pointer (some ⟨bp, 0, none⟩), .int .i64 lo, .int .i64 hi] w (PotPost bp (fun n => lo ≤ n ∧ n ≤ hi) .i64 w) := by
 have M := Mem.initEx (p := .cells [.int .u64 s]) hp
 have HS := Lib.hid hs
 clear hp hs
 go_enter Try.func6, Try.ntmps6
 refine m_start M ?_
 clear M
 intro wc M
 go_wp2_with (first | (refine m_ld1 M rfl rfl rfl (by (repeat' (first | exact Zz2 | refine Zz1 ?_))) (by rfl) ?_) | (refine m_ldr M rfl rfl rfl (by (repeat' (first | exact Zz2 | refine Zz1 ?_))) (by (try simp only [Zy2, List.take_zero, List.take_nil, Zy1, List.drop_zero, List.drop_nil, List.cons_append, List.nil_append, List.append_nil, List.length_cons, List.length_nil, Nat.reduceAdd, Nat.zero_add, Nat.add_zero]); rfl) (by rfl) ?_) | (refine m_st M rfl rfl rfl (by first | exact (rfl : _ = Value.agg _) | exact (rfl : _ = Value.int _ _) | exact (rfl : _ = Value.bool _) | exact (rfl : _ = Value.slice _ _ _) | exact (rfl : _ = Value.pointer _) | exact (rfl : _ = Value.map _) | exact (rfl : _ = Value.func _ _ _) | exact (rfl : _ = Value.string _)) (by rfl) (by (repeat (first | exact Upd.head | apply Upd.tail))) (by (try simp only [Zy2, List.take_zero, List.take_nil, Zy1, List.drop_zero, List.drop_nil, List.cons_append, List.nil_append, List.append_nil, List.length_cons, List.length_nil, Nat.reduceAdd, Nat.zero_add, Nat.add_zero]); rfl) (by simp) (by simp [Value.oneCell']) (by kernel_rfl) ?_; clear M; (try clear wc); intro wc M) | (refine m_al M rfl rfl ?_; clear M; (try clear wc); intro g wc M) | (refine m_bx M rfl rfl (by first | exact (rfl : _ = Value.agg _) | exact (rfl : _ = Value.int _ _) | exact (rfl : _ = Value.bool _) | exact (rfl : _ = Value.slice _ _ _) | exact (rfl : _ = Value.pointer _) | exact (rfl : _ = Value.map _) | exact (rfl : _ = Value.func _ _ _) | exact (rfl : _ = Value.string _)) (by rfl) ?_; clear M; (try clear wc); intro g wc M) | (go_at_call 12; refine (upto_wide s bp (hi - lo) _ (by omega) (M.get (by (repeat' (first | exact Zz2 | refine Zz1 ?_)))) HS.out).mono ?_; rintro e wc ⟨v, s, hv, hs, rfl, hgr, hb⟩; have HS := Lib.hid hs; clear hs; replace M := M.callC (cs' := [.int .u64 s]) (by (repeat (first | exact Upd.head | apply Upd.tail))) hgr hb; clear hgr hb; skip))
 go_ret
 exact ⟨_, _, ⟨by omega, by omega⟩, HS.out, rfl, M.grown, M.get (by (repeat' (first | exact Zz2 | refine Zz1 ?_)))⟩
theorem pair_at {b : Bx} {i k : Nat} {x y : Snd} (gb : b.good) (hx : b.lows[i]? = some x) (hy : b.highs[k]? = some y) : checkPB b i k = 0 ∧ b.low i = x ∧ b.high k = y := by
 have h1 := (List.getElem?_eq_some_iff.1 hx).1
 have h2 := (List.getElem?_eq_some_iff.1 hy).1
 refine ⟨?_, ?_, ?_⟩
 ·unfold checkPB
  rw [if_neg (by rw [checkB_good.2 gb]; simp), if_neg (by simp; omega)]
 ·unfold Bx.low
  rw [List.getD_eq_getElem?_getD, Int.toNat_natCast, hx]
  rfl
 ·unfold Bx.high
  rw [List.getD_eq_getElem?_getD, Int.toNat_natCast, hy]
  rfl
theorem Beat_at (b : Bx) (A : Option Addr) (c : Nat) (B : Option Addr) (d : Nat) (i k : Nat) (x y : Snd) (w : World) (hA : Rd w w.heap.size 4 A b.lows.length (sc b.lows)) (hB : Rd w w.heap.size 4 B b.highs.length (sc b.highs)) (gb : b.good) (hx : b.lows[i]? = some x) (hy : b.highs[k]? = some y) :
  Calls Try.prog 7 #[bxV b A c B d, .int .i64 (i : Int), .int .i64 (k : Int)] w fun e w' => ∃ A' c' I, e = .returned (.tuple #[.slice A' (beatsL b.law x y).length c', .int .i64 0]) ∧ (∃ b1 o1, ∀ (w : World) (ex : Nat → Prop), Sp w ex I A' (beatsL b.law x y).length 2 b1 o1 (rc (beatsL b.law x y))) ∧ Mem w noEx w' I := by
 have h4 := gb.lows.1
 have h5 := gb.highs.1
 refine Calls.mono (Beat_any b A c B d i k w hA hB (by omega) (by omega)) fun e w' h => ?_
 obtain ⟨A', c', I, rfl, h2, h3⟩ := h
 obtain ⟨e1, e2, e3⟩ := pair_at gb hx hy
 have hb : beatE b i k = beatsL b.law x y := by unfold beatE; rw [if_pos e1, e2, e3]
 rw [hb] at h2
 rw [hb, e1]
 exact ⟨A', c', I, rfl, h2.spV (rc_length _), h3⟩
theorem allL_few {a0 a1 b0 b1 : Int} (ha : a1 - a0 ≤ 20) (hb : b1 - b0 ≤ 20) : (allL a0 a1 b0 b1).length ≤ 1000 := by
 rw [allL_len, izz_length, izz_length]
 exact Nat.le_trans (Nat.mul_le_mul (show (a1 - a0 + 1).toNat ≤ 21 by omega) (show (b1 - b0 + 1).toNat * 1 ≤ 21 by omega)) (by decide)
theorem allL_pos {a0 a1 b0 b1 : Int} (ha : a0 ≤ a1) (hb : b0 ≤ b1) : 0 < (allL a0 a1 b0 b1).length := List.length_pos_of_mem (a := (a0, b0)) (mem_allL.2 (by dsimp only; omega))
def earL (B : Int) (x y : Snd) : List (Int × Int) := [(B + x.t0, B + x.t1), (B + y.t0, B + y.t1)]
section
variable {B s : Int} {x y : Snd} {w : World} {A : Option Addr} {c : Nat}
theorem ear_ok (hB : 100 ≤ B ∧ B ≤ 40000) (gx : x.good ∧ x.t1 - x.t0 ≤ 2 * 4) (gy : y.good ∧ y.t1 - y.t0 ≤ 2 * 4) : ∀ p ∈ earL B x y, (1 ≤ p.1 ∧ p.1 ≤ p.2) ∧ p.2 ≤ 100000 ∧ p.2 - p.1 ≤ 20 := by
 obtain ⟨⟨⟨h1, h2, h3⟩, -⟩, h4⟩ := gx
 obtain ⟨⟨⟨k1, k2, k3⟩, -⟩, k4⟩ := gy
 intro p hp
 simp only [earL, List.mem_cons, List.not_mem_nil, or_false] at hp
 rcases hp with rfl | rfl <;> dsimp only <;> omega
theorem Beats_ear (hB : 100 ≤ B ∧ B ≤ 40000) (hs : 1 ≤ s ∧ s ≤ 20) (gx : x.good ∧ x.t1 - x.t0 ≤ 2 * 4) (gy : y.good ∧ y.t1 - y.t0 ≤ 2 * 4) {b0 b1 : Int} (e0 : b0 = y.t0 - x.t1) (e1 : b1 = y.t1 - x.t0) (hr : Rd w w.heap.size 2 A 2 (rc (earL B x y))) :
  Calls Try.prog 8 #[.agg #[.int .i64 0, .slice A 2 c, .slice none 0 0], .int .i64 0, .int .i64 1, .int .i64 s] w fun e w' => e = .returned (.tuple #[.agg #[.int .i64 (Int.tdiv ((max (max 0 b0) (-b1)) * s) 100), .int .i64 (Int.tdiv ((max b1 (-b0)) * s) 100)], .int .i64 0]) ∧ Below w.heap.size w w' := by
 have h := Beats_any A c (earL B x y) (B + x.t0, B + x.t1) (B + y.t0, B + y.t1) s w hs rfl (ear_ok hB gx gy) rfl rfl
 obtain ⟨⟨⟨h1, h2, h3⟩, -⟩, h4⟩ := gx
 obtain ⟨⟨⟨k1, k2, k3⟩, -⟩, k4⟩ := gy
 have h := h (by dsimp only; omega) (by dsimp only; omega) (by dsimp only; omega) (by dsimp only; omega) (allL_few (by dsimp only; omega) (by dsimp only; omega)) (allL_pos (by dsimp only; omega) (by dsimp only; omega)) hr
 rw [top_beats (by dsimp only; omega) (by dsimp only; omega) (by omega), show B + y.t0 - (B + x.t1) = b0 by omega, show B + y.t1 - (B + x.t0) = b1 by omega] at h
 exact h
theorem Higher_ear (hB : 100 ≤ B ∧ B ≤ 40000) (gx : x.good ∧ x.t1 - x.t0 ≤ 2 * 4) (gy : y.good ∧ y.t1 - y.t0 ≤ 2 * 4) {b0 b1 : Int} (e0 : b0 = y.t0 - x.t1) (e1 : b1 = y.t1 - x.t0) (hr : Rd w w.heap.size 2 A 2 (rc (earL B x y))) :
  Calls Try.prog 9 #[.agg #[.int .i64 0, .slice A 2 c, .slice none 0 0], .int .i64 1, .int .i64 0] w fun e w' => ∃ v : Int, e = .returned (.tuple #[.int .i64 v, .int .i64 0]) ∧ (v = 1 ↔ 0 < b0) ∧ (v = 2 ↔ b1 ≤ 0) ∧ Below w.heap.size w w' := by
 have h := Higher_any A c (earL B x y) (B + x.t0, B + x.t1) (B + y.t0, B + y.t1) w rfl (ear_ok hB gx gy) rfl rfl
 obtain ⟨⟨⟨h1, h2, h3⟩, -⟩, h4⟩ := gx
 obtain ⟨⟨⟨k1, k2, k3⟩, -⟩, k4⟩ := gy
 have h := h (by dsimp only; omega) (by dsimp only; omega) (by dsimp only; omega) (by dsimp only; omega) (allL_few (by dsimp only; omega) (by dsimp only; omega)) (allL_pos (by dsimp only; omega) (by dsimp only; omega)) hr
 have t1 := top_always (a0 := B + x.t0) (a1 := B + x.t1) (b0 := B + y.t0) (b1 := B + y.t1) (by omega) (by omega)
 have t2 := top_never (a0 := B + x.t0) (a1 := B + x.t1) (b0 := B + y.t0) (b1 := B + y.t1) (by omega) (by omega)
 rw [show B + y.t0 - (B + x.t1) = b0 by omega] at t1
 rw [show B + y.t1 - (B + x.t0) = b1 by omega] at t2
 exact Calls.mono h fun e w' h9 => ⟨_, h9.1, t1, t2, h9.2⟩
end
def awB : Bx := { first := 14, step := 0, span := 0, press := 0, note := 0, lows := [⟨0, 0, 0, 0⟩], highs := [⟨14, 15, 0, 0⟩], t0 := 0, t1 := 0, r0 := 0, r1 := 0, u0 := 0, u1 := 0, d0 := 0, d1 := 0, a0 := 0, a1 := 0, b0 := 0, b1 := 0, le := 0, me := 0 }
theorem awB_good : awB.good := checkB_good.1 (by decide +kernel)
theorem Beat_aw (A : Option Addr) (c : Nat) (B : Option Addr) (d : Nat) (w : World) (hA : Rd w w.heap.size 4 A 1 (sc [⟨0, 0, 0, 0⟩])) (hB : Rd w w.heap.size 4 B 1 (sc [⟨14, 15, 0, 0⟩])) :
  Calls Try.prog 7 #[bxV awB A c B d, .int .i64 0, .int .i64 0] w fun e w' => ∃ A' c' I, e = .returned (.tuple #[.slice A' 1 c', .int .i64 0]) ∧ (∃ b1 o1, ∀ (w : World) (ex : Nat → Prop), Sp w ex I A' 1 2 b1 o1 (rc [(14, 15)])) ∧ Mem w noEx w' I := by
 have h := Beat_at awB A c B d 0 0 ⟨0, 0, 0, 0⟩ ⟨14, 15, 0, 0⟩ w hA hB awB_good rfl rfl
 rw [show beatsL awB.law ⟨0, 0, 0, 0⟩ ⟨14, 15, 0, 0⟩ = [(14, 15)] from rfl] at h
 exact h
theorem Beats_aw (A : Option Addr) (c : Nat) (w : World) (hr : Rd w w.heap.size 2 A 2 (rc [(500, 500), (510, 515)])) :
  Calls Try.prog 8 #[.agg #[.int .i64 0, .slice A 2 c, .slice none 0 0], .int .i64 0, .int .i64 1, .int .i64 10] w fun e w' => e = .returned (.tuple #[.agg #[.int .i64 1, .int .i64 1], .int .i64 0]) ∧ Below w.heap.size w w' := by
 have h := Beats_any A c [(500, 500), (510, 515)] (500, 500) (510, 515) 10 w (by omega) rfl (by intro p hp; simp only [List.mem_cons, List.not_mem_nil, or_false] at hp; rcases hp with rfl | rfl <;> dsimp only <;> omega) rfl rfl (by dsimp only; omega) (by dsimp only; omega) (by dsimp only; omega) (by dsimp only; omega) (allL_few (by dsimp only; omega) (by dsimp only; omega)) (allL_pos (by dsimp only; omega) (by dsimp only; omega)) hr
 rw [show spnE (beat2 10) (allL (500, 500).1 (500, 500).2 (510, 515).1 (510, 515).2) = (1, 1) by decide +kernel] at h
 exact h
theorem beatsAwake_any  (w : World)  :
  Calls Try.prog 10 #[] w fun e w' => e = .returned (.bool true) ∧ Below w.heap.size w w' := by
 refine Zpx noEx Try.func10 rfl 43 rfl [] rfl rfl (Mem.init w _) ?_
 intro ac wc T M
 refine Zsr ?_
 refine lq T (Zra rfl evc) ?_; clear T ac; intro ac T
 replace T := T.pick [] rfl
 refine Zln ?_
 refine Zsr ?_
 refine Zg2 (v1 := (.agg #[.int .i64 14, .int .i64 0, .int .i64 0, .int .i64 0])) (v2 := (.agg #[.int .i64 0, .int .i64 0, .int .i64 0, .int .i64 0])) T (Zq (rn_build rfl (.cons evc .nil) (fun _ => by kernel_rfl))) rfl (fun _ T => Zq (rn_build rfl .nil (fun _ => by kernel_rfl))) rfl ?_; clear T ac; intro ac T
 refine Zl2 ?_
 refine ow_bs (e := 41) [.int .i64 0, .int .i64 0, .int .i64 0, .int .i64 0] M T rfl rfl rfl rfl (.cons (T.e 0 rfl) .nil) (fun _ => by kernel_rfl) ?_; clear M T; intro g1 wc ac M T
 refine Zg2 (v1 := (.agg #[.int .i64 14, .int .i64 15])) (v2 := (.agg #[.int .i64 14, .int .i64 15, .int .i64 0, .int .i64 0])) T (Zq (rn_build rfl (.cons evc (.cons evc .nil)) (fun _ => by kernel_rfl))) rfl (fun _ T => Zq (rn_build rfl (.cons (T.e 0 rfl) .nil) (fun _ => by kernel_rfl))) rfl ?_; clear T ac; intro ac T
 refine Zl2 ?_
 refine ow_bs (e := 41) [.int .i64 14, .int .i64 15, .int .i64 0, .int .i64 0] M T rfl rfl rfl rfl (.cons (T.e 0 rfl) .nil) (fun _ => by kernel_rfl) ?_; clear M T; intro g2 wc ac M T
 refine lq (v := (.agg #[.int .i64 14, .int .i64 0, .int .i64 0, .int .i64 0, .int .i64 0, .slice (some ⟨g1, 0, none⟩) 1 1, .slice (some ⟨g2, 0, none⟩) 1 1, .int .i64 0, .int .i64 0, .int .i64 0, .int .i64 0, .int .i64 0, .int .i64 0, .int .i64 0, .int .i64 0, .int .i64 0, .int .i64 0, .int .i64 0, .int .i64 0, .int .i64 0, .int .i64 0])) T (rn_build rfl (.cons (T.e 5 rfl) (.cons (T.e 3 rfl) (.cons (T.e 0 rfl) .nil))) (fun _ => by kernel_rfl)) ?_; clear T ac; intro ac T
 refine Zl2 ?_
 refine Zoa M T rfl rfl rfl rfl ?_; clear M T; intro g3 wc ac M T
 refine Zl2 ?_
 refine Zos M T rfl rfl (T.e 0 rfl) (T.e 1 rfl) rfl .head rfl (by simp) rfl (by kernel_rfl) ?_; clear M T; intro wc ac M T
 replace T := T.pick [0] rfl
 refine Zln ?_
 refine Zsr ?_
 refine lq T (Zrr (Mem.nth M 0 rfl) rfl (T.e 0 rfl) rfl) ?_; clear T ac; intro ac T
 refine Zl2 ?_
 refine Zoc (first := []) (cap := []) T rfl rfl rfl rfl evf (.cons (T.e 0 rfl) (.cons evc (.cons evc .nil))) Try.func7 rfl rfl ?_
 refine Calls.mono (Beat_aw _ _ _ _ _ (M.rdOwn (Zne (i := 2) rfl) rfl rfl) (M.rdOwn (Zne (i := 1) rfl) rfl rfl)) ?_
 clear T; rintro e wc ⟨Au1, cu1, Iu1, rfl, Su1, N⟩ ac T
 obtain ⟨bu1, ou1, Su1⟩ := Su1
 replace Su1 := Su1 w noEx
 replace M := (M.join N).swapI
 clear N
 replace M : Mem w noEx wc ((g3, .cells [.int .i64 14, .int .i64 0, .int .i64 0, .int .i64 0, .int .i64 0, .slice (some ⟨g1, 0, none⟩) 1 1, .slice (some ⟨g2, 0, none⟩) 1 1, .int .i64 0, .int .i64 0, .int .i64 0, .int .i64 0, .int .i64 0, .int .i64 0, .int .i64 0, .int .i64 0, .int .i64 0, .int .i64 0, .int .i64 0, .int .i64 0, .int .i64 0, .int .i64 0]) :: (g2, .cells [.int .i64 14, .int .i64 15, .int .i64 0, .int .i64 0]) :: (g1, .cells [.int .i64 0, .int .i64 0, .int .i64 0, .int .i64 0]) :: Iu1) := M
 refine Zg5 T (Zq (Zrm rfl (T.e 0 rfl))) rfl (Ze 0 rfl rfl rfl) rfl (Ze 1 rfl rfl rfl) rfl (Za 1 rfl rfl) rfl (Za 1 rfl rfl) rfl ?_; clear T ac; intro ac T
 refine wpList_nil ?_
 replace T := T.pick [0, 1] rfl
 replace M := M.mask [false, false, false] rfl
 refine nm_then ?_
 refine Zsr ?_
 refine Zg2 (v1 := (.agg #[.int .i64 500, .int .i64 500])) (v2 := (.agg #[.int .i64 510, .int .i64 515])) T (Zq (rn_build rfl (.cons evc (.cons evc .nil)) (fun _ => by kernel_rfl))) rfl (fun _ T => Zq (rn_build rfl (.cons evc (.cons evc .nil)) (fun _ => by kernel_rfl))) rfl ?_; clear T ac; intro ac T
 refine Zl2 ?_
 refine ow_bs (e := 29) [.int .i64 500, .int .i64 500, .int .i64 510, .int .i64 515] M T rfl rfl rfl rfl (.cons (T.e 1 rfl) (.cons (T.e 0 rfl) .nil)) (fun _ => by kernel_rfl) ?_; clear M T; intro g4 wc ac M T
 refine lq (v := (.agg #[.int .i64 0, .slice (some ⟨g4, 0, none⟩) 2 2, .slice none 0 0])) T (rn_build rfl (.cons (T.e 0 rfl) .nil) (fun _ => by kernel_rfl)) ?_; clear T ac; intro ac T
 refine Zl2 ?_
 refine Zoc (first := []) (cap := []) T rfl rfl rfl rfl evf (.cons (T.e 0 rfl) (.cons evc (.cons evc (.cons evc .nil)))) Try.func8 rfl rfl ?_
 refine Calls.mono (Beats_aw _ _ _ (M.rdOwn (Zne (i := 0) rfl) rfl rfl)) ?_
 clear T; rintro e wc ⟨rfl, hb⟩ ac T
 replace M := M.call hb; clear hb
 refine Zg3 T (Zq (Zrm rfl (T.e 0 rfl))) rfl (Ze 0 rfl rfl rfl) rfl (Ze 1 rfl rfl rfl) rfl ?_; clear T ac; intro ac T
 refine Zl2 ?_
 refine Zoa M T rfl rfl rfl rfl ?_; clear M T; intro g5 wc ac M T
 refine Zl2 ?_
 refine Zos M T rfl rfl (T.e 0 rfl) (T.e 2 rfl) rfl .head rfl (by simp) rfl (by kernel_rfl) ?_; clear M T; intro wc ac M T
 refine lq T (Zra rfl (T.e 1 rfl)) ?_; clear T ac; intro ac T
 refine wpList_nil ?_
 replace T := T.pick [0, 1, 10, 11] rfl
 replace M := M.mask [true, false] rfl
 refine nm_then ?_
 refine Zsr ?_
 refine Zg8 (v2 := (.bool true)) (v5 := (.bool true)) T (Zq (Zrm rfl (T.e 2 rfl))) rfl (fun _ T => Zq (Zrq (rn_eql rfl (T.e 0 rfl) evc) (by simp))) rfl (Zm 0 rfl rfl) rfl (fun _ T => Zw (Zwy rfl rfl (T.e 0 rfl) rfl) (Zrm rfl (T.e 3 rfl))) rfl (fun _ T => Zw (Zwy rfl rfl (T.e 1 rfl) rfl) (Zrq (rn_eql rfl (T.e 0 rfl) evc) (by simp))) rfl (fun _ T => Zq (Zr1 rfl (T.e 2 rfl) rfl (T.e 0 rfl))) rfl (Zm 0 rfl rfl) rfl (fun _ T => Zw (Zwy rfl rfl (T.e 0 rfl) rfl) (Zrm rfl (T.e 10 rfl))) rfl ?_; clear T ac; intro ac T
 refine lw (v := (.agg #[.int .i64 14, .int .i64 15])) T (Zwy rfl rfl (T.e 1 rfl) rfl) (rn_build rfl (.cons evc (.cons evc .nil)) (fun _ => by kernel_rfl)) ?_; clear T ac; intro ac T
 refine l_w (Zwy rfl rfl (T.e 2 rfl) rfl) ?_; intro K hK
 refine ow_bs (e := 29) [.int .i64 14, .int .i64 15] M T rfl rfl rfl rfl (.cons (T.e 0 rfl) .nil) (fun _ => by kernel_rfl) ?_; clear M T; intro g6 wc ac M T
 refine Zso hK _ _ ?_; clear hK K
 refine l_w (Zwy rfl rfl (T.e 3 rfl) rfl) ?_; intro K hK
 refine Zoc (first := []) (cap := []) T rfl rfl rfl rfl evf (.cons (T.e 2 rfl) (.cons (T.e 0 rfl) .nil)) Try.func25 rfl rfl ?_
 refine Calls.mono (sameRanges_same _ _ _ _ _ _ [(14, 15)] _ (Su1.rd M (.cons _ (.cons _ (List.Sublist.refl _)))) (M.rdOwn (Zne (i := 0) rfl) rfl rfl) (by omega) (by omega)) ?_
 clear T; rintro e wc ⟨rfl, hb⟩ ac T
 replace M := M.call hb; clear hb
 refine Zso hK _ _ ?_; clear hK K
 refine Zg7 (v4 := (.agg #[.int .i64 1, .int .i64 1])) (v5 := (.bool true)) T (Zq (Zr1 rfl (T.e 4 rfl) rfl (T.e 0 rfl))) rfl (Zm 0 rfl rfl) rfl (fun _ T => Zw (Zwy rfl rfl (T.e 0 rfl) rfl) (Zrr (Mem.nth M 1 rfl) rfl (T.e 14 rfl) rfl)) rfl (fun _ T => Zw (Zwy rfl rfl (T.e 1 rfl) rfl) (rn_build rfl (.cons evc (.cons evc .nil)) (fun _ => by kernel_rfl))) rfl (fun _ T => Zw (Zwy rfl rfl (T.e 2 rfl) rfl) (Zrq (rn_bin rfl (T.e 1 rfl) (T.e 0 rfl) eqT29) (by simp))) rfl (fun _ T => Zq (Zr1 rfl (T.e 3 rfl) rfl (T.e 0 rfl))) rfl (Za 0 rfl rfl) rfl ?_; clear T ac; intro ac T
 refine wpList_nil ?_
 replace T := T.pick [0] rfl
 replace M := M.mask [false, false] rfl
 refine Znr ?_
 refine rt_1 T rfl (T.e 0 rfl) ?_
 exact ⟨rfl, M.below⟩
set_option maxHeartbeats 4000000 in
theorem TopBeats_any (D : Option Addr) (n d : Nat) (l : List Int) (w : World) (hl : Rd w w.heap.size 1 D n (ic l)) (hm : n ≤ 9223372036854775807) :
   Calls Try.prog 3 #[.slice D n d] w fun e w' => e = .returned (.bool true) ∧ Below w.heap.size w w' := by
 have hll := hl.len1
 obtain ⟨bI, oI, SI⟩ := Sp.old hl
 refine Zpx noEx Try.func3 rfl 153 rfl [.slice D n d] rfl rfl (Mem.init w _) ?_
 intro ac wc T M
 refine Zsr ?_
 refine lq T (Zra rfl evc) ?_; clear T ac; intro ac T
 replace T := T.pick [1] rfl
 refine Zln ?_
 refine Zsr ?_
 refine lq T (Zrm rfl (T.e 0 rfl)) ?_; clear T ac; intro ac T
 refine Zl2 ?_
 refine Zoc (first := []) (cap := []) T rfl rfl rfl rfl evf (.cons (T.e 0 rfl) .nil) Try.func4 rfl rfl ?_
 refine Calls.mono (newPot_any _ _ _ l _ (SI.rd M (Zz9 _)) (by omega)) ?_
 clear T; rintro e wc ⟨bpu1, su1, hsu1, rfl, N⟩ ac T
 replace M := M.join N; clear N
 replace M := M.mask [true] rfl
 refine lq T (Zra rfl (T.e 0 rfl)) ?_; clear T ac; intro ac T
 replace T := T.pick [0] rfl
 refine Zln ?_
 refine Zsr ?_
 refine lq T (Zrm rfl (T.e 0 rfl)) ?_; clear T ac; intro ac T
 refine Zl2 ?_
 refine Zoc (first := []) (cap := []) T rfl rfl rfl rfl evf (.cons (T.e 0 rfl) (.cons evc (.cons evc (.cons evc .nil)))) Try.func5 rfl rfl ?_
 refine Calls.mono (boxOf_any _ bpu1 3 3 4 _ (by omega) (by omega) (by omega) (M.nth 0 rfl) hsu1) ?_
 clear T; rintro e wc ⟨bu2, Au2, cu2, Bu2, du2, su2, Iu2, rfl, ⟨hmu2, hwlu2, hwhu2⟩, hsu2, SAu2, SBu2, N⟩ ac T
 obtain ⟨b1u2, o1u2, SAu2⟩ := SAu2
 replace SAu2 := SAu2 w noEx
 obtain ⟨b2u2, o2u2, SBu2⟩ := SBu2
 replace SBu2 := SBu2 w noEx
 replace M := (M.joinW .head N).swapI
 clear N
 replace M : Mem w noEx wc ((bpu1, .cells [.int .u64 su2]) :: Iu2) := M
 have hgu2 := hmu2.good
 have nlu2 := hgu2.lows.1
 have nhu2 := hgu2.highs.1
 have hstu2 := step_bd (notes := 3) hmu2.law.step hmu2.note
 have hnou2 := hmu2.note
 have ⟨hfu2, hzu2, hpu2, hqu2⟩ := hmu2.law
 dsimp only at hstu2 hfu2 hpu2 hqu2
 refine Zl2 ?_
 refine Zoa M T rfl rfl rfl rfl ?_; clear M T; intro g1 wc ac M T
 refine Zl2 ?_
 refine Zos M T rfl rfl (T.e 0 rfl) (T.e 1 rfl) rfl .head rfl (by simp) rfl (by kernel_rfl) ?_; clear M T; intro wc ac M T
 replace T := T.pick [0, 3] rfl
 refine Zln ?_
 refine Zsr ?_
 refine lq T (Zrm rfl (T.e 1 rfl)) ?_; clear T ac; intro ac T
 refine Zl2 ?_
 refine Zoc (first := []) (cap := []) T rfl rfl rfl rfl evf (.cons (T.e 0 rfl) (.cons evc (.cons evc .nil))) Try.func6 rfl rfl ?_
 refine Calls.mono (within_wide _ bpu1 100 40000 _ (by omega) (by omega) (by omega) (M.nth 1 rfl) hsu2) ?_
 clear T; rintro e wc ⟨xu3, su3, hxu3, hsu3, rfl, hgr, hbk⟩ ac T
 replace M := M.callC (cs' := [.int .u64 su3]) (.tail .head) hgr hbk
 clear hgr hbk
 refine lq T (Zrm rfl (T.e 3 rfl)) ?_; clear T ac; intro ac T
 refine Zl2 ?_
 refine Zoc (first := []) (cap := []) T rfl rfl rfl rfl evf (.cons (T.e 0 rfl) (.cons evc (.cons evc .nil))) Try.func6 rfl rfl ?_
 refine Calls.mono (within_wide _ bpu1 1 20 _ (by omega) (by omega) (by omega) (M.nth 1 rfl) hsu3) ?_
 clear T; rintro e wc ⟨xu4, su4, hxu4, hsu4, rfl, hgr, hbk⟩ ac T
 replace M := M.callC (cs' := [.int .u64 su4]) (.tail .head) hgr hbk
 clear hgr hbk
 refine Zg2 T (Zq (Zra rfl (T.e 2 rfl))) rfl (Za 1 rfl rfl) rfl ?_; clear T ac; intro ac T
 refine wpList_nil ?_
 replace T := T.pick [0, 1, 6] rfl
 replace M := M.mask [true, false] rfl
 refine Zns ?_
 refine Zsr ?_
 refine lq T (Zra rfl evc) ?_; clear T ac; intro ac T
 refine Zln ?_
 refine wp_block ?_
 refine wp_loop_n (fun mz ac wc => ∃ (i : Nat), mz = bu2.lows.length - i ∧ (i ≤ bu2.lows.length) ∧ Tm ac 153 [(4, .pointer (some ⟨g1, 0, none⟩)), (5, .int .i64 xu3), (6, .int .i64 xu4), (7, .int .i64 (i : Int))] ∧ Mem w noEx wc ((g1, .cells [.int .i64 bu2.first, .int .i64 bu2.step, .int .i64 bu2.span, .int .i64 bu2.press, .int .i64 bu2.note, .slice Au2 bu2.lows.length cu2, .slice Bu2 bu2.highs.length du2, .int .i64 bu2.t0, .int .i64 bu2.t1, .int .i64 bu2.r0, .int .i64 bu2.r1, .int .i64 bu2.u0, .int .i64 bu2.u1, .int .i64 bu2.d0, .int .i64 bu2.d1, .int .i64 bu2.a0, .int .i64 bu2.a1, .int .i64 bu2.b0, .int .i64 bu2.b1, .int .i64 bu2.le, .int .i64 bu2.me]) :: Iu2)) ?_ ?_
 ·exact ⟨_, 0, rfl, (Nat.zero_le _), T.pick [3, 2, 1, 0] rfl, M.mask [true] rfl⟩
 clear T M
 rintro mz ac wc ⟨i, hmm1, hi, T, M⟩
 refine wp_seq ?_
 refine Zsr ?_
 refine Zg5 (v2 := (.pointer (some ⟨g1, 5, none⟩))) T (Zq (Zrm rfl (T.e 3 rfl))) rfl (Zf 5 1 rfl rfl) rfl (Zo M 0 0 rfl rfl rfl rfl) rfl (Zl Try.underlying27 0 rfl rfl) rfl (fun _ T => Zq (rn_lss rfl (T.e 3 rfl) (T.e 0 rfl))) rfl ?_; clear T ac; intro ac T
 replace T := T.pick [0, 5, 6, 7, 8] rfl
 refine Zln ?_
 refine wp_if (T.e 0 rfl) ?_ ?_
 ·intro h1
  have nlo4 := hgu2.lows.1
  have nhi5 := hgu2.highs.1
  obtain ⟨x, hkx, -⟩ := sc_next (l := bu2.lows) (k := i) (by omega)
  have gx := hgu2.lows.2 x (List.mem_of_getElem? hkx)
  have gwx := hwlu2 x (List.mem_of_getElem? hkx)
  have ⟨gx1, gx2⟩ := gx
  refine Zsk ?_
  refine wp_seq ?_
  refine wp_block ?_
  refine Zsr ?_
  refine lq T (Zra rfl evc) ?_; clear T ac; intro ac T
  replace T := T.pick [0, 2, 3, 4, 5] rfl
  refine Zln ?_
  refine wp_block ?_
  refine wp_loop_n (fun mz ac wc => ∃ (k : Nat), mz = bu2.highs.length - k ∧ (k ≤ bu2.highs.length) ∧ Tm ac 153 [(4, .pointer (some ⟨g1, 0, none⟩)), (5, .int .i64 xu3), (6, .int .i64 xu4), (7, .int .i64 (i : Int)), (8, .int .i64 (k : Int))] ∧ Mem w noEx wc ((g1, .cells [.int .i64 bu2.first, .int .i64 bu2.step, .int .i64 bu2.span, .int .i64 bu2.press, .int .i64 bu2.note, .slice Au2 bu2.lows.length cu2, .slice Bu2 bu2.highs.length du2, .int .i64 bu2.t0, .int .i64 bu2.t1, .int .i64 bu2.r0, .int .i64 bu2.r1, .int .i64 bu2.u0, .int .i64 bu2.u1, .int .i64 bu2.d0, .int .i64 bu2.d1, .int .i64 bu2.a0, .int .i64 bu2.a1, .int .i64 bu2.b0, .int .i64 bu2.b1, .int .i64 bu2.le, .int .i64 bu2.me]) :: Iu2)) ?_ ?_
  ·exact ⟨_, 0, rfl, (Nat.zero_le _), T.pick [1, 2, 3, 4, 0] rfl, M.mask [true] rfl⟩
  clear T M
  rintro mz ac wc ⟨k, hmm2, hk, T, M⟩
  refine wp_seq ?_
  refine Zsr ?_
  refine Zg5 (v2 := (.pointer (some ⟨g1, 6, none⟩))) T (Zq (Zrm rfl (T.e 4 rfl))) rfl (Zf 6 1 rfl rfl) rfl (Zo M 0 0 rfl rfl rfl rfl) rfl (Zl Try.underlying27 0 rfl rfl) rfl (fun _ T => Zq (rn_lss rfl (T.e 3 rfl) (T.e 0 rfl))) rfl ?_; clear T ac; intro ac T
  replace T := T.pick [0, 5, 6, 7, 8, 9] rfl
  refine Zln ?_
  refine wp_if (T.e 0 rfl) ?_ ?_
  ·intro h2
   obtain ⟨y, hky, -⟩ := sc_next (l := bu2.highs) (k := k) (by omega)
   have gy := hgu2.highs.2 y (List.mem_of_getElem? hky)
   have gwy := hwhu2 y (List.mem_of_getElem? hky)
   have ⟨gy1, gy2⟩ := gy
   refine Zsk ?_
   refine wp_seq ?_
   refine wp_block ?_
   refine Zsr ?_
   refine Zg3 T (Zq (Zrr (Mem.nth M 0 rfl) rfl (T.e 1 rfl) rfl)) rfl (Zm 5 rfl rfl) rfl (Zm 7 rfl rfl) rfl ?_; clear T ac; intro ac T
   refine Zl2 ?_
   refine Zoc (first := []) (cap := []) T rfl rfl rfl rfl evf (.cons (T.e 2 rfl) (.cons (T.e 1 rfl) (.cons (T.e 0 rfl) .nil))) Try.func7 rfl rfl ?_
   refine Calls.mono (Beat_at bu2 _ _ _ _ i k x y _ (SAu2.rd M (.cons _ (List.Sublist.refl _))) (SBu2.rd M (.cons _ (List.Sublist.refl _))) hgu2 hkx hky) ?_
   clear T; rintro e wc ⟨Au5, cu5, Iu5, rfl, Su5, N⟩ ac T
   obtain ⟨bu5, ou5, Su5⟩ := Su5
   replace Su5 := Su5 w noEx
   obtain ⟨lbu5, hlbu5⟩ : ∃ q, q = beatsL bu2.law x y := ⟨_, rfl⟩
   rw [← hlbu5] at Su5
   have hldu5 : lbu5.length = (bu2.press + 1).toNat := by rw [hlbu5, beatsL_length]
   have hlcu5 : ((lbu5.length : Nat) : Int) = bu2.press + 1 := by omega
   obtain ⟨b0, b1, hkb, -⟩ := rc_next (l := lbu5) (k := 0) (by omega)
   have hbb : (b0, b1) = beatP x y ((0 : Nat) : Int) := by rw [hlbu5, beatsL, List.getElem?_map, List.getElem?_range (by show 0 < (bu2.press + 1).toNat; omega)] at hkb; injection hkb with hkb; exact hkb.symm
   have hb0 : b0 = y.t0 - x.t1 := by have := congrArg Prod.fst hbb; simp only [beatP, riseP] at this; omega
   have hb1 : b1 = y.t1 - x.t0 := by have := congrArg Prod.snd hbb; simp only [beatP, riseP] at this; omega
   replace M := (M.join N).swapI
   clear N
   replace M : Mem w noEx wc ((g1, .cells [.int .i64 bu2.first, .int .i64 bu2.step, .int .i64 bu2.span, .int .i64 bu2.press, .int .i64 bu2.note, .slice Au2 bu2.lows.length cu2, .slice Bu2 bu2.highs.length du2, .int .i64 bu2.t0, .int .i64 bu2.t1, .int .i64 bu2.r0, .int .i64 bu2.r1, .int .i64 bu2.u0, .int .i64 bu2.u1, .int .i64 bu2.d0, .int .i64 bu2.d1, .int .i64 bu2.a0, .int .i64 bu2.a1, .int .i64 bu2.b0, .int .i64 bu2.b1, .int .i64 bu2.le, .int .i64 bu2.me]) :: (Iu2 ++ Iu5)) := M
   rw [← hlbu5] at T
   refine Zg5 T (Zq (Zrm rfl (T.e 0 rfl))) rfl (Ze 0 rfl rfl rfl) rfl (Ze 1 rfl rfl rfl) rfl (Za 1 rfl rfl) rfl (Za 1 rfl rfl) rfl ?_; clear T ac; intro ac T
   replace T := T.pick [0, 1, 10, 11, 12, 13, 14] rfl
   refine Zln ?_
   refine wp_seq ?_
   refine Zgs M (M.mask [true] rfl) 16 (by kernel_rfl) rfl (by kernel_rfl) ?_
   clear M; intro wc M
   refine g_have (fun ac wc => ∃ (gr11_13 gr11_12 : Nat), Tm ac 153 [(12, .pointer (some ⟨gr11_13, 0, none⟩)), (11, .pointer (some ⟨gr11_12, 0, none⟩)), (60, .agg #[.int .i64 y.t0, .int .i64 y.t1]), (59, .pointer (some ⟨b2u2, o2u2 + k * 4 + 0, none⟩)), (58, .pointer (some ⟨b2u2, o2u2 + k * 4, none⟩)), (57, .int .i64 (k : Int)), (56, .slice Bu2 bu2.highs.length du2), (55, .pointer (some ⟨g1, 6, none⟩)), (54, .agg #[.int .i64 x.t0, .int .i64 x.t1]), (53, .pointer (some ⟨b1u2, o1u2 + i * 4 + 0, none⟩)), (52, .pointer (some ⟨b1u2, o1u2 + i * 4, none⟩)), (51, .int .i64 (i : Int)), (50, .slice Au2 bu2.lows.length cu2), (49, .pointer (some ⟨g1, 5, none⟩)), (10, .int .i64 0), (9, .slice Au5 lbu5.length cu5), (4, .pointer (some ⟨g1, 0, none⟩)), (5, .int .i64 xu3), (6, .int .i64 xu4), (7, .int .i64 (i : Int)), (8, .int .i64 (k : Int))] ∧ Mem w noEx wc ((gr11_13, .cells [.int .i64 0, .int .i64 0]) :: (gr11_12, .cells [.int .i64 0, .int .i64 0]) :: (g1, .cells [.int .i64 bu2.first, .int .i64 bu2.step, .int .i64 bu2.span, .int .i64 bu2.press, .int .i64 bu2.note, .slice Au2 bu2.lows.length cu2, .slice Bu2 bu2.highs.length du2, .int .i64 bu2.t0, .int .i64 bu2.t1, .int .i64 bu2.r0, .int .i64 bu2.r1, .int .i64 bu2.u0, .int .i64 bu2.u1, .int .i64 bu2.d0, .int .i64 bu2.d1, .int .i64 bu2.a0, .int .i64 bu2.a1, .int .i64 bu2.b0, .int .i64 bu2.b1, .int .i64 bu2.le, .int .i64 bu2.me]) :: (Iu2 ++ Iu5))) (Zpb 16 16383) 2 ?_ ?_
   ·clear T M
    rintro ac wc ⟨gr11_13, gr11_12, T, M⟩
    refine gw 14 32767 ?_; intro K hK
    refine Zos M T rfl rfl (T.e 1 rfl) (T.e 8 rfl) rfl (.tail .head) rfl (by simp) rfl (by kernel_rfl) ?_; clear M T; intro wc ac M T
    refine Zso hK _ _ (M.mask [false, false, true] rfl) ?_; clear hK K
    refine gw 15 65535 ?_; intro K hK
    refine Zos M T rfl rfl (T.e 0 rfl) (T.e 2 rfl) rfl .head rfl (by simp) rfl (by kernel_rfl) ?_; clear M T; intro wc ac M T
    refine Zso hK _ _ (M.mask [false, false, true] rfl) ?_; clear hK K
    refine Zgd (by kernel_rfl) ?_
    replace T := T.pick [0, 1, 14, 15, 16, 17, 18, 19, 20] rfl
    refine nm_then ?_
    refine Zsr ?_
    refine Zg8 (v2 := (.pointer (some ⟨gr11_12, 0, none⟩))) (v6 := (.pointer (some ⟨gr11_12, 1, none⟩))) T (Zq (Zrm rfl (T.e 5 rfl))) rfl (Zf 0 2 rfl rfl) rfl (Zo M 1 0 rfl rfl rfl rfl) rfl (fun _ T => Zq (rn_add rfl (T.e 2 rfl) (T.e 0 rfl) (by omega))) rfl (Zm 9 rfl rfl) rfl (Zf 1 6 rfl rfl) rfl (Zo M 1 0 rfl rfl rfl rfl) rfl (fun _ T => Zq (rn_add rfl (T.e 2 rfl) (T.e 0 rfl) (by omega))) rfl ?_; clear T ac; intro ac T
    refine Zg8 (v1 := (.agg #[.int .i64 (xu3 + x.t0), .int .i64 (xu3 + x.t1)])) (v3 := (.pointer (some ⟨gr11_13, 0, none⟩))) (v7 := (.pointer (some ⟨gr11_13, 1, none⟩))) T (Zq (rn_build rfl (.cons (T.e 4 rfl) (.cons (T.e 0 rfl) .nil)) (fun _ => by kernel_rfl))) rfl (Zm 14 rfl rfl) rfl (Zf 0 10 rfl rfl) rfl (Zo M 0 0 rfl rfl rfl rfl) rfl (fun _ T => Zq (rn_add rfl (T.e 2 rfl) (T.e 0 rfl) (by omega))) rfl (Zm 18 rfl rfl) rfl (Zf 1 14 rfl rfl) rfl (Zo M 0 0 rfl rfl rfl rfl) rfl ?_; clear T ac; intro ac T
    refine Zg2 (v2 := (.agg #[.int .i64 (xu3 + y.t0), .int .i64 (xu3 + y.t1)])) T (Zq (rn_add rfl (T.e 2 rfl) (T.e 0 rfl) (by omega))) rfl (fun _ T => Zq (rn_build rfl (.cons (T.e 4 rfl) (.cons (T.e 0 rfl) .nil)) (fun _ => by kernel_rfl))) rfl ?_; clear T ac; intro ac T
    refine Zl2 ?_
    refine ow_bs (e := 29) [.int .i64 (xu3 + x.t0), .int .i64 (xu3 + x.t1), .int .i64 (xu3 + y.t0), .int .i64 (xu3 + y.t1)] M T rfl rfl rfl rfl (.cons (T.e 9 rfl) (.cons (T.e 0 rfl) .nil)) (fun _ => by kernel_rfl) ?_; clear M T; intro g2 wc ac M T
    refine lq (v := (.agg #[.int .i64 0, .slice (some ⟨g2, 0, none⟩) 2 2, .slice none 0 0])) T (rn_build rfl (.cons (T.e 0 rfl) .nil) (fun _ => by kernel_rfl)) ?_; clear T ac; intro ac T
    refine Zl2 ?_
    refine Zoa M T rfl rfl rfl rfl ?_; clear M T; intro g3 wc ac M T
    refine Zl2 ?_
    refine Zos M T rfl rfl (T.e 0 rfl) (T.e 1 rfl) rfl .head rfl (by simp) rfl (by kernel_rfl) ?_; clear M T; intro wc ac M T
    refine wpList_nil ?_
    replace T := T.pick [0, 23, 24, 25, 26, 27, 28, 29] rfl
    replace M := M.mask [true, true, false, false, true] rfl
    refine nm_then ?_
    refine Zsr ?_
    refine Zg2 T (Zq (Zrr (Mem.nth M 0 rfl) rfl (T.e 0 rfl) rfl)) rfl (Zm 6 rfl rfl) rfl ?_; clear T ac; intro ac T
    refine Zl2 ?_
    refine Zoc (first := []) (cap := []) T rfl rfl rfl rfl evf (.cons (T.e 1 rfl) (.cons evc (.cons evc (.cons (T.e 0 rfl) .nil)))) Try.func8 rfl rfl ?_
    refine Calls.mono (Beats_ear (B := xu3) (x := x) (y := y) (by omega) (by omega) ⟨gx, gwx⟩ ⟨gy, gwy⟩ hb0 hb1 (M.rdOwn (Zne (i := 1) rfl) rfl rfl)) ?_
    clear T; rintro e wc ⟨rfl, hb⟩ ac T
    replace M := M.call hb; clear hb
    have hm9 := secB (a := max (max 0 b0) (-b1)) (s := xu4) (by omega) (by omega)
    have hm8 := secB (a := max b1 (-b0)) (s := xu4) (by omega) (by omega)
    refine Zg3 T (Zq (Zrm rfl (T.e 0 rfl))) rfl (Ze 0 rfl rfl rfl) rfl (Ze 1 rfl rfl rfl) rfl ?_; clear T ac; intro ac T
    refine Zl2 ?_
    refine Zoa M T rfl rfl rfl rfl ?_; clear M T; intro g4 wc ac M T
    refine Zl2 ?_
    refine Zos M T rfl rfl (T.e 0 rfl) (T.e 2 rfl) rfl .head rfl (by simp) rfl (by kernel_rfl) ?_; clear M T; intro wc ac M T
    refine lq T (Zra rfl (T.e 1 rfl)) ?_; clear T ac; intro ac T
    replace T := T.pick [0, 1, 8, 9, 10, 11, 12, 13, 14, 15] rfl
    refine Zln ?_
    refine Zsr ?_
    refine lq T (Zrr (Mem.nth M 1 rfl) rfl (T.e 2 rfl) rfl) ?_; clear T ac; intro ac T
    refine Zl2 ?_
    refine Zoc (first := []) (cap := []) T rfl rfl rfl rfl evf (.cons (T.e 0 rfl) (.cons evc (.cons evc .nil))) Try.func9 rfl rfl ?_
    refine Calls.mono (Higher_ear (B := xu3) (x := x) (y := y) (by omega) ⟨gx, gwx⟩ ⟨gy, gwy⟩ hb0 hb1 (M.rdOwn (Zne (i := 2) rfl) rfl rfl)) ?_
    clear T; rintro e wc ⟨vu7, rfl, hvau7, hvbu7, hb⟩ ac T
    replace M := M.call hb; clear hb
    refine Zg5 T (Zq (Zrm rfl (T.e 0 rfl))) rfl (Ze 0 rfl rfl rfl) rfl (Ze 1 rfl rfl rfl) rfl (Za 1 rfl rfl) rfl (Za 1 rfl rfl) rfl ?_; clear T ac; intro ac T
    refine wpList_nil ?_
    replace T := T.pick [0, 1, 7, 8, 10, 11, 12, 13, 14, 15, 16] rfl
    replace M := M.mask [true, false, false, true] rfl
    refine Zns ?_
    refine Zsr ?_
    refine Zg8 (v2 := (.bool false)) (v5 := (.bool false)) T (Zq (Zrm rfl (T.e 4 rfl))) rfl (fun _ T => Zq (Zrq (rn_neq rfl (T.e 0 rfl) evc) (by simp))) rfl (Zm 0 rfl rfl) rfl (fun _ T => Zw (Zwy rfl rfl (T.e 0 rfl) rfl) (Zrm rfl (T.e 5 rfl))) rfl (fun _ T => Zw (Zwy rfl rfl (T.e 1 rfl) rfl) (Zrq (rn_neq rfl (T.e 0 rfl) evc) (by simp))) rfl (fun _ T => Zq (Zr0 rfl (T.e 2 rfl) rfl (T.e 0 rfl))) rfl (Zm 0 rfl rfl) rfl (fun _ T => Zw (Zwy rfl rfl (T.e 0 rfl) rfl) (Zrm rfl (T.e 7 rfl))) rfl ?_; clear T ac; intro ac T
    refine Zg8 (v1 := (.bool false)) (v6 := (.pointer (some ⟨g1, 0, none⟩))) (v7 := (.pointer (some ⟨g1, 3, none⟩))) T (Zw (Zwy rfl rfl (T.e 1 rfl) rfl) (Zrq (rn_neq rfl (T.e 0 rfl) evc) (by simp))) rfl (fun _ T => Zq (Zr0 rfl (T.e 2 rfl) rfl (T.e 0 rfl))) rfl (Zm 0 rfl rfl) rfl (fun _ T => Zw (Zwy rfl rfl (T.e 0 rfl) rfl) (Zrm rfl (T.e 16 rfl))) rfl (fun _ T => Zw (Zwy rfl rfl (T.e 1 rfl) rfl) (Zrl rfl Try.underlying36 (T.e 0 rfl))) rfl (fun _ T => Zw (Zwy rfl rfl (T.e 2 rfl) rfl) (Zrf (off := 0) rfl (T.e 19 rfl) (fun _ _ _ => by kernel_rfl))) rfl (fun _ T => Zw (Zwy rfl rfl (T.e 3 rfl) rfl) (Zrf (off := 3) rfl (T.e 0 rfl) (fun _ _ _ => by kernel_rfl))) rfl (fun _ T => Zw (Zwy rfl rfl (T.e 4 rfl) rfl) (Zro (Mem.nth M 1 rfl) rfl (T.e 0 rfl) rfl)) rfl ?_; clear T ac; intro ac T
    refine Zg3 T (Zw (Zwy rfl rfl (T.e 5 rfl) rfl) (rn_add rfl (T.e 0 rfl) evc (by omega))) rfl (fun _ T => Zw (Zwy rfl rfl (T.e 6 rfl) rfl) (rn_neq rfl (T.e 4 rfl) (T.e 0 rfl))) rfl (fun _ T => Zq (Zr0 rfl (T.e 7 rfl) rfl (T.e 0 rfl))) rfl ?_; clear T ac; intro ac T
    replace T := T.pick [0, 1, 2, 3, 4, 5, 6, 7, 10, 11, 14, 15, 20, 22, 24, 25, 26, 27, 28, 29] rfl
    refine Zln ?_
    refine wp_cond_false ((T.e 0 rfl).trans (congrArg Value.bool (by rw [show (decide (((lbu5.length : Nat) : Int) = (bu2.press + 1))) = true from (Zdt hlcu5)]; try rfl))) ?_
    refine Zsk ?_
    refine Zsr ?_
    refine Zg3 (v3 := (.agg #[.int .i64 b0, .int .i64 b1])) T (Zq (Zrm rfl (T.e 14 rfl))) rfl (fun _ T => Zq (Zri (size := 2) 0 rfl (T.e 0 rfl) evc ⟨_, Try.underlying36, by kernel_rfl⟩ rfl (by omega) (Su5.at0 (by omega)))) rfl (fun _ T => Zq (rn_rowat (Sp.rcR Su5 M (.cons _ (.cons _ (Zsq _ _))) hkb) rfl (T.e 0 rfl) rfl)) rfl ?_; clear T ac; intro ac T
    refine Zl2 ?_
    refine Zoa M T rfl rfl rfl rfl ?_; clear M T; intro g5 wc ac M T
    refine Zl2 ?_
    refine Zos M T rfl rfl (T.e 0 rfl) (T.e 1 rfl) rfl .head rfl (by simp) rfl (by kernel_rfl) ?_; clear M T; intro wc ac M T
    replace T := T.pick [0, 5, 6, 7, 8, 9, 10, 11, 12, 13, 14, 15, 16, 17, 19, 20, 21, 22, 23] rfl
    refine Zln ?_
    refine Zsr ?_
    refine Zg7 (v1 := (.pointer (some ⟨g5, 0, none⟩))) (v3 := (.pointer (some ⟨g5, 1, none⟩))) T (Zq (Zrf (off := 0) rfl (T.e 0 rfl) (fun _ _ _ => by kernel_rfl))) rfl (Zo M 0 0 rfl rfl rfl rfl) rfl (Zf 1 2 rfl rfl) rfl (Zo M 0 0 rfl rfl rfl rfl) rfl (fun _ T => Zq (rn_neg rfl (T.e 0 rfl) (by omega))) rfl (fun _ T => Zq (rn_max3 rfl evc (T.e 3 rfl) (T.e 0 rfl))) rfl (Za 0 rfl rfl) rfl ?_; clear T ac; intro ac T
    replace T := T.pick [0, 7, 8, 9, 10, 11, 12, 13, 14, 15, 16, 17, 18, 19, 20, 21, 22, 23, 24, 25] rfl
    refine Zln ?_
    refine Zsr ?_
    refine Zg8 (v6 := (.pointer (some ⟨g5, 1, none⟩))) (v8 := (.pointer (some ⟨g5, 0, none⟩))) T (Zq (Zrr (Mem.nth M 1 rfl) rfl (T.e 14 rfl) rfl)) rfl (Zm 1 rfl rfl) rfl (Zm 19 rfl rfl) rfl (fun _ T => Zq (rn_mul rfl (T.e 1 rfl) (T.e 0 rfl) (by omega))) rfl (fun _ T => Zq (rn_quo rfl (T.e 0 rfl) evc (by omega) (by omega))) rfl (Zf 1 6 rfl rfl) rfl (Zo M 0 0 rfl rfl rfl rfl) rfl (Zf 0 8 rfl rfl) rfl ?_; clear T ac; intro ac T
    refine Zg8 (v7 := (.agg #[.int .i64 (Int.tdiv ((max (max 0 b0) (-b1)) * xu4) 100), .int .i64 (Int.tdiv ((max b1 (-b0)) * xu4) 100)])) (v8 := (.bool false)) T (Zq (Zro (Mem.nth M 0 rfl) rfl (T.e 0 rfl) rfl)) rfl (fun _ T => Zq (rn_neg rfl (T.e 0 rfl) (by omega))) rfl (fun _ T => Zq (rn_max2 rfl (T.e 3 rfl) (T.e 0 rfl))) rfl (Zm 28 rfl rfl) rfl (fun _ T => Zq (rn_mul rfl (T.e 1 rfl) (T.e 0 rfl) (by omega))) rfl (fun _ T => Zq (rn_quo rfl (T.e 0 rfl) evc (by omega) (by omega))) rfl (fun _ T => Zq (rn_build rfl (.cons (T.e 9 rfl) (.cons (T.e 0 rfl) .nil)) (fun _ => by kernel_rfl))) rfl (fun _ T => Zq (Zrq (rn_bin rfl (T.e 14 rfl) (T.e 0 rfl) neT29) (by simp))) rfl ?_; clear T ac; intro ac T
    refine Zg8 (v4 := (.pointer (some ⟨g5, 0, none⟩))) (v7 := (.bool (!((decide (vu7 = 1)) == (decide (0 < b0)))))) T (Zq (Zrm rfl (T.e 0 rfl))) rfl (fun _ T => Zw (Zwy rfl rfl (T.e 0 rfl) rfl) (Zrm rfl (T.e 30 rfl))) rfl (fun _ T => Zw (Zwy rfl rfl (T.e 1 rfl) rfl) (rn_eql rfl (T.e 0 rfl) evc)) rfl (fun _ T => Zw (Zwy rfl rfl (T.e 2 rfl) rfl) (Zrf (off := 0) rfl (T.e 20 rfl) (fun _ _ _ => by kernel_rfl))) rfl (fun _ T => Zw (Zwy rfl rfl (T.e 3 rfl) rfl) (Zro (Mem.nth M 0 rfl) rfl (T.e 0 rfl) rfl)) rfl (fun _ T => Zw (Zwy rfl rfl (T.e 4 rfl) rfl) (rn_gtr rfl (T.e 0 rfl) evc)) rfl (fun _ T => Zw (Zwy rfl rfl (T.e 5 rfl) rfl) (rn_bin rfl (T.e 3 rfl) (T.e 0 rfl) (by kernel_rfl))) rfl (fun _ T => Zq (Zr0 rfl (T.e 6 rfl) rfl (T.e 0 rfl))) rfl ?_; clear T ac; intro ac T
    refine Zg8 (v4 := (.pointer (some ⟨g5, 1, none⟩))) (v7 := (.bool (!((decide (vu7 = 2)) == (decide (b1 ≤ 0)))))) T (Zq (Zrm rfl (T.e 0 rfl))) rfl (fun _ T => Zw (Zwy rfl rfl (T.e 0 rfl) (by rw [show ((decide (vu7 = 1)) == (decide (0 < b0))) = true from (beq_iff_eq.2 (decide_eq_decide.2 hvau7))]; try rfl)) (Zrm rfl (T.e 38 rfl))) rfl (fun _ T => Zw (Zwy rfl rfl (T.e 1 rfl) (by rw [show ((decide (vu7 = 1)) == (decide (0 < b0))) = true from (beq_iff_eq.2 (decide_eq_decide.2 hvau7))]; try rfl)) (rn_eql rfl (T.e 0 rfl) evc)) rfl (fun _ T => Zw (Zwy rfl rfl (T.e 2 rfl) (by rw [show ((decide (vu7 = 1)) == (decide (0 < b0))) = true from (beq_iff_eq.2 (decide_eq_decide.2 hvau7))]; try rfl)) (Zrf (off := 1) rfl (T.e 28 rfl) (fun _ _ _ => by kernel_rfl))) rfl (fun _ T => Zw (Zwy rfl rfl (T.e 3 rfl) (by rw [show ((decide (vu7 = 1)) == (decide (0 < b0))) = true from (beq_iff_eq.2 (decide_eq_decide.2 hvau7))]; try rfl)) (Zro (Mem.nth M 0 rfl) rfl (T.e 0 rfl) rfl)) rfl (fun _ T => Zw (Zwy rfl rfl (T.e 4 rfl) (by rw [show ((decide (vu7 = 1)) == (decide (0 < b0))) = true from (beq_iff_eq.2 (decide_eq_decide.2 hvau7))]; try rfl)) (rn_leq rfl (T.e 0 rfl) evc)) rfl (fun _ T => Zw (Zwy rfl rfl (T.e 5 rfl) (by rw [show ((decide (vu7 = 1)) == (decide (0 < b0))) = true from (beq_iff_eq.2 (decide_eq_decide.2 hvau7))]; try rfl)) (rn_bin rfl (T.e 3 rfl) (T.e 0 rfl) (by kernel_rfl))) rfl (fun _ T => Zq (Zr0 rfl (T.e 6 rfl) (by rw [show ((decide (vu7 = 1)) == (decide (0 < b0))) = true from (beq_iff_eq.2 (decide_eq_decide.2 hvau7))]; try rfl) (T.e 0 rfl))) rfl ?_; clear T ac; intro ac T
    refine wpList_nil ?_
    replace T := T.pick [0, 1, 2, 3, 4, 5, 6, 9, 10, 11, 12, 13, 14, 34, 35, 36, 37, 38, 39, 40, 41, 42, 43, 44, 47, 48, 49, 50, 51] rfl
    replace M := M.mask [true, false, true] rfl
    refine nm_then ?_
    refine wp_cond_false ((T.e 0 rfl).trans (congrArg Value.bool (by rw [show ((decide (vu7 = 2)) == (decide (b1 ≤ 0))) = true from (beq_iff_eq.2 (decide_eq_decide.2 hvbu7))]; try rfl))) ?_
    refine wp_skip ?_
    refine Znb ?_
    refine nm_then ?_
    refine wp_region_lit ?_
    refine Zg2 T (Zq (Zrm rfl (T.e 28 rfl))) rfl (fun _ T => Zq (rn_add rfl (T.e 0 rfl) evc (by omega))) rfl ?_; clear T ac; intro ac T
    refine l_q (v := (.int .i64 ((k : Int) + 1))) (T.pick [0, 1, 2, 3, 4, 5, 6, 7, 8, 9, 10, 11, 12, 13, 14, 15, 16, 17, 18, 19, 20, 21, 22, 23, 24, 25, 26, 27, 28, 29] rfl) rfl rfl rfl rfl (Zra rfl (T.e 0 rfl)) ?_; clear T ac; intro ac T
    replace T := T.pick [0, 4, 5, 6, 7, 8, 9, 10, 11, 12, 13, 14, 15, 16, 17, 18, 19, 20, 21, 22, 23, 24, 25, 26, 27, 28, 29, 30] rfl
    refine Zln ?_
    exact ⟨_, by omega, k + 1, rfl, (by omega), T.pick [24, 25, 26, 27, 0] rfl, ((M.permT [1] 2 rfl rfl rfl rfl).sub (List.Sublist.cons_cons _ (Zsl _ _)))⟩
   intro H0
   refine gq (v := (.pointer (some ⟨g1, 5, none⟩))) T 0 1 rfl (fun _ _ _ _ _ => (Zrf (off := 5) rfl (T.e 2 rfl) (fun _ _ _ => by kernel_rfl))) ?_; clear T ac; intro ac T
   refine gq T 1 3 rfl (fun B w' hD hl hS => (Zro (Mem.nth (show Mem w noEx w' _ from hS) 0 rfl) rfl (T.e 0 rfl) rfl)) ?_; clear T ac; intro ac T
   refine gq T 2 7 rfl (fun _ _ _ _ _ => (Zrm rfl (T.e 7 rfl))) ?_; clear T ac; intro ac T
   refine gq T 3 15 rfl (fun _ _ _ _ _ => (Zri (size := 4) i rfl (T.e 1 rfl) (T.e 0 rfl) ⟨_, Try.underlying27, by kernel_rfl⟩ rfl (by omega) (SAu2.at0 (by omega)))) ?_; clear T ac; intro ac T
   refine gq T 4 31 rfl (fun _ _ _ _ _ => (Zrf (off := 0) rfl (T.e 0 rfl) (fun _ _ _ => by kernel_rfl))) ?_; clear T ac; intro ac T
   refine gq (v := (.agg #[.int .i64 x.t0, .int .i64 x.t1])) T 5 63 rfl (fun B w' hD hl hS => (rn_rowat (Sp.scR02 SAu2 (show Mem w noEx w' _ from hS) (.cons _ (subL (List.Sublist.refl _))) hkx) rfl (T.e 0 rfl) rfl)) ?_; clear T ac; intro ac T
   refine gq (v := (.pointer (some ⟨g1, 6, none⟩))) T 6 127 rfl (fun _ _ _ _ _ => (Zrf (off := 6) rfl (T.e 8 rfl) (fun _ _ _ => by kernel_rfl))) ?_; clear T ac; intro ac T
   refine gq T 7 255 rfl (fun B w' hD hl hS => (Zro (Mem.nth (show Mem w noEx w' _ from hS) 0 rfl) rfl (T.e 0 rfl) rfl)) ?_; clear T ac; intro ac T
   refine gq T 8 511 rfl (fun _ _ _ _ _ => (Zrm rfl (T.e 14 rfl))) ?_; clear T ac; intro ac T
   refine gq T 9 1023 rfl (fun _ _ _ _ _ => (Zri (size := 4) k rfl (T.e 1 rfl) (T.e 0 rfl) ⟨_, Try.underlying27, by kernel_rfl⟩ rfl (by omega) (SBu2.at0 (by omega)))) ?_; clear T ac; intro ac T
   refine gq T 10 2047 rfl (fun _ _ _ _ _ => (Zrf (off := 0) rfl (T.e 0 rfl) (fun _ _ _ => by kernel_rfl))) ?_; clear T ac; intro ac T
   refine gq (v := (.agg #[.int .i64 y.t0, .int .i64 y.t1])) T 11 4095 rfl (fun B w' hD hl hS => (rn_rowat (Sp.scR02 SBu2 (show Mem w noEx w' _ from hS) (.cons _ (subL (List.Sublist.refl _))) hky) rfl (T.e 0 rfl) rfl)) ?_; clear T ac; intro ac T
   refine g_m2 (i := 12) (j := 13) (by kernel_rfl) ?_ ?_
   ·refine gi 8191 ?_; intro K hK
    refine Zoa M T rfl rfl rfl rfl ?_; clear M T; intro gr11_12 wc ac M T
    refine Zso hK _ _ (M.mask [false, true] rfl) ?_; clear hK K
    refine gw 13 16383 ?_; intro K hK
    refine Zoa M T rfl rfl rfl rfl ?_; clear M T; intro gr11_13 wc ac M T
    refine Zso hK _ _ (M.mask [false, false, true] rfl) ?_; clear hK K
    exact H0 _ _ ⟨gr11_13, gr11_12, T, M⟩
   refine gi 12287 ?_; intro K hK
   refine Zoa M T rfl rfl rfl rfl ?_; clear M T; intro gr11_13 wc ac M T
   refine Zso hK _ _ (M.mask [false, true] rfl) ?_; clear hK K
   refine gw 12 16383 ?_; intro K hK
   refine Zoa M T rfl rfl rfl rfl ?_; clear M T; intro gr11_12 wc ac M T
   refine Zso hK _ _ (M.mask [false, false, true] rfl) ?_; clear hK K
   exact H0 _ _ ⟨gr11_13, gr11_12, T.pick [1, 0, 2, 3, 4, 5, 6, 7, 8, 9, 10, 11, 12, 13, 14, 15, 16, 17, 18, 19, 20] rfl, M.permT [1, 0, 2] 3 rfl rfl rfl rfl⟩
  intro h2
  refine wp_exit ?_
  refine Zet ?_
  refine Zet ?_
  refine ex_hit ?_
  refine Znb ?_
  refine nm_then ?_
  refine wp_region_lit ?_
  refine Zg2 T (Zq (Zrm rfl (T.e 4 rfl))) rfl (fun _ T => Zq (rn_add rfl (T.e 0 rfl) evc (by omega))) rfl ?_; clear T ac; intro ac T
  refine l_q (v := (.int .i64 ((i : Int) + 1))) (T.pick [0, 1, 2, 3, 4, 5, 7] rfl) rfl rfl rfl rfl (Zra rfl (T.e 0 rfl)) ?_; clear T ac; intro ac T
  replace T := T.pick [0, 4, 5, 6] rfl
  refine Zln ?_
  exact ⟨_, by omega, i + 1, rfl, (by omega), T.pick [1, 2, 3, 0] rfl, M⟩
 intro h1
 refine wp_exit ?_
 refine Zet ?_
 refine Zet ?_
 refine ex_hit ?_
 refine nm_then ?_
 refine Zsr ?_
 refine Zl2 ?_
 refine Zoc (first := []) (cap := []) T rfl rfl rfl rfl evf .nil Try.func10 rfl rfl ?_
 refine Calls.mono (beatsAwake_any _) ?_
 clear T; rintro e wc ⟨rfl, hb⟩ ac T
 replace M := M.call hb; clear hb
 refine lq T (Zra rfl (T.e 0 rfl)) ?_; clear T ac; intro ac T
 refine wpList_nil ?_
 replace T := T.pick [0] rfl
 replace M := M.mask [false] rfl
 refine Znr ?_
 refine rt_1 T rfl (T.e 0 rfl) ?_
 exact ⟨rfl, M.below⟩
end Go.Proofs.Ytdnbljihhimijaa


/-
  Walks of functions, and plain laws (texts put together). No condition.
-/
import Derived.Test.YtehpcclfgjccbaaDoorMSheetSpares1
import Derived.Test.YtehpcclfgjccbaaDoorMSheetSpares2
import Derived.Test.YtehpcclfgjccbaaDoorMSheetSpares3
import Derived.Test.YtehpcclfgjccbaaDoorMSheetSpares4
set_option maxRecDepth 100000
set_option maxHeartbeats 1000000
set_option linter.unusedSimpArgs false
set_option linter.unusedVariables false
namespace Go.Proofs.YtehpcclfgjccbaaDoor
open Go.RowKit
theorem rt_CC {P : Program} {fn : Func} {R : Ending → World → Prop} {a : Act} {w0 w : World} {ex : Nat → Prop} {L : List (Nat × BA)} {n : Nat} {E : List (Nat × Value)} {t t' : Tmp} {ty ty' : TypeId} {m m' g g' : Nat} [hT : RowTy P ty m] [hT' : RowTy P ty' m'] {cs cs' : List Value} (M : Mem w0 ex w L) (T : Tm a n E) (hr : fn.results = #[.cell t ty, .cell t' ty'])
  (hx : a.eval (.tmp t) = .pointer (some ⟨g, 0, none⟩)) (hx' : a.eval (.tmp t') = .pointer (some ⟨g', 0, none⟩)) (hm : (g, BA.cells cs) ∈ L) (hm' : (g', BA.cells cs') ∈ L) (hn : cs.length = m) (hn' : cs'.length = m')
  (h : R (.returned (.tuple #[.agg cs.toArray, .agg cs'.toArray])) w) : bodyPost P fn R .ret a w := by
 obtain ⟨d, hu, hw⟩ := hT.row
 obtain ⟨d', hu', hw'⟩ := hT'.row
 refine ⟨T.defers, .tuple #[.agg cs.toArray, .agg cs'.toArray], ?_, h⟩
 have hl := run_loadVar_mid w g 0 ty cs d (by simpa using (M.get hm).range) hu hw (by rw [hn]; exact hT.size)
 have hl' := run_loadVar_mid w g' 0 ty' cs' d' (by simpa using (M.get hm').range) hu' hw' (by rw [hn']; exact hT'.size)
 have e : a.tmps[t]?.getD undef = .pointer (some ⟨g, 0, none⟩) := by simpa [Act.eval] using hx
 have e' : a.tmps[t']?.getD undef = .pointer (some ⟨g', 0, none⟩) := by simpa [Act.eval] using hx'
 simp [results, hr, e, e', asAddr, hl, hl', Sem.run_bind]
structure Bo where
 x : Int
 y : Int
 lo : Int
 wi : Int
deriving DecidableEq, Inhabited
def Bo.few (b : Bo) : Prop := (-1000 ≤ b.x ∧ b.x ≤ 1000) ∧ (-1000 ≤ b.y ∧ b.y ≤ 1000) ∧ (-1000 ≤ b.lo ∧ b.lo ≤ 1000) ∧ (-1000 ≤ b.wi ∧ b.wi ≤ 1000)
def halA (b : Bo) (k : Int) : Bo := if k < b.lo then ⟨b.x, b.y, k, b.wi⟩ else ⟨b.x, b.y, b.lo, k - b.lo + 1⟩
def halB (b : Bo) (k : Int) : Bo := if k < b.lo then ⟨b.x + k, b.y, b.lo - k, b.wi⟩ else ⟨b.x, b.y + (k - b.lo + 1), b.lo, b.wi - (k - b.lo + 1)⟩
theorem whole8_any (s : Sk) (A : Option Addr) (d : Nat)  (w : World)  :
  Calls Tryd.prog 68 #[.agg #[.int .i64 s.lo, .int .i64 s.wi, .int .i64 s.a0, .int .i64 s.a1, .int .i64 s.c0, .int .i64 s.c1, .slice A s.ps.length d]] w fun e w' => e = .returned (.agg #[.int .i64 0, .int .i64 0, .int .i64 s.lo, .int .i64 s.wi]) ∧ Below w.heap.size w w' := by
 refine Zpx noEx Tryd.func68 rfl 8 rfl [.agg #[.int .i64 s.lo, .int .i64 s.wi, .int .i64 s.a0, .int .i64 s.a1, .int .i64 s.c0, .int .i64 s.c1, .slice A s.ps.length d]] rfl rfl (Mem.init w _) ?_
 intro ac wc T M
 refine Zsr ?_
 refine Zl2 ?_
 refine Zob M T rfl rfl rfl rfl (T.e 0 rfl) rfl ?_; clear M T; intro g1 wc ac M T
 refine Zl2 ?_
 refine Zoa M T rfl rfl rfl rfl ?_; clear M T; intro g2 wc ac M T
 refine wpList_nil ?_
 replace T := T.pick [0, 1] rfl
 refine nm_then ?_
 refine Zsr ?_
 refine Zg5 (v1 := (.pointer (some ⟨g1, 0, none⟩))) (v3 := (.pointer (some ⟨g1, 1, none⟩))) (v5 := (.agg #[.int .i64 0, .int .i64 0, .int .i64 s.lo, .int .i64 s.wi])) T (Zq (Zrf (off := 0) rfl (T.e 1 rfl) (fun _ _ _ => by kernel_rfl))) rfl (Zo M 1 0 rfl rfl rfl rfl) rfl (Zf 1 3 rfl rfl) rfl (Zo M 1 0 rfl rfl rfl rfl) rfl (fun _ T => Zq (rn_build rfl (.cons evc (.cons evc (.cons (T.e 2 rfl) (.cons (T.e 0 rfl) .nil)))) (fun _ => by kernel_rfl))) rfl ?_; clear T ac; intro ac T
 refine Zl2 ?_
 refine Zos M T rfl rfl (T.e 5 rfl) (T.e 0 rfl) rfl .head rfl (by simp) rfl (by kernel_rfl) ?_; clear M T; intro wc ac M T
 refine wpList_nil ?_
 replace T := T.pick [5] rfl
 replace M := M.mask [true, false] rfl
 refine Znr ?_
 refine rt_c M T rfl (T.e 0 rfl) (Zne (i := 0) rfl) rfl ?_
 exact ⟨rfl, M.below⟩
theorem halves8_any (b : Bo) (k : Int)  (w : World) (hb : b.few) (hk : -1000 ≤ k ∧ k ≤ 1000)  :
   Calls Tryd.prog 98 #[.agg #[.int .i64 b.x, .int .i64 b.y, .int .i64 b.lo, .int .i64 b.wi], .int .i64 k] w fun e w' => e = .returned (.tuple #[.agg #[.int .i64 ((halA b k).x), .int .i64 ((halA b k).y), .int .i64 ((halA b k).lo), .int .i64 ((halA b k).wi)], .agg #[.int .i64 ((halB b k).x), .int .i64 ((halB b k).y), .int .i64 ((halB b k).lo), .int .i64 ((halB b k).wi)]]) ∧ Below w.heap.size w w' := by
 obtain ⟨f1, f2, f3, f4⟩ := hb
 refine Zpx noEx Tryd.func98 rfl 57 rfl [.agg #[.int .i64 b.x, .int .i64 b.y, .int .i64 b.lo, .int .i64 b.wi], .int .i64 k] rfl rfl (Mem.init w _) ?_
 intro ac wc T M
 refine Zsr ?_
 refine Zl2 ?_
 refine Zob M T rfl rfl rfl rfl (T.e 0 rfl) rfl ?_; clear M T; intro g1 wc ac M T
 refine Zl2 ?_
 refine Zoa M T rfl rfl rfl rfl ?_; clear M T; intro g2 wc ac M T
 refine Zl2 ?_
 refine Zoa M T rfl rfl rfl rfl ?_; clear M T; intro g3 wc ac M T
 refine wpList_nil ?_
 replace T := T.pick [0, 1, 2, 4] rfl
 refine Zns ?_
 refine Zsr ?_
 refine Zg4 (v2 := (.pointer (some ⟨g1, 2, none⟩))) T (Zq (Zrm rfl (T.e 3 rfl))) rfl (Zf 2 3 rfl rfl) rfl (Zo M 2 0 rfl rfl rfl rfl) rfl (fun _ T => Zq (rn_lss rfl (T.e 2 rfl) (T.e 0 rfl))) rfl ?_; clear T ac; intro ac T
 refine wpList_nil ?_
 replace T := T.pick [0, 4, 5, 6, 7] rfl
 refine nm_then ?_
 refine wp_if (T.e 0 rfl) ?_ ?_
 ·intro h1
  refine wp_seq ?_
  refine Zgs M (M.perm [2] rfl rfl) 23 (by kernel_rfl) rfl (by kernel_rfl) ?_
  clear M; intro wc M
  refine g_addG 21 M ?_
  refine g_addG 22 (M.perm [0, 2] rfl rfl) ?_
  refine gq (v := (.pointer (some ⟨g1, 0, none⟩))) T 0 1 rfl (fun _ _ _ _ _ => (Zrf (off := 0) rfl (T.e 3 rfl) (fun _ _ _ => by kernel_rfl))) ?_; clear T ac; intro ac T
  refine gq T 1 3 rfl (fun B w' hD hl hS => (Zro (Mem.nth (show Mem w noEx w' _ from ((MA.lft hS) (hD.wait (i := 1) (m := 22) (by kernel_rfl) hl))) 1 rfl) rfl (T.e 0 rfl) rfl)) ?_; clear T ac; intro ac T
  refine gq (v := (.pointer (some ⟨g1, 1, none⟩))) T 2 7 rfl (fun _ _ _ _ _ => (Zrf (off := 1) rfl (T.e 5 rfl) (fun _ _ _ => by kernel_rfl))) ?_; clear T ac; intro ac T
  refine gq T 3 15 rfl (fun B w' hD hl hS => (Zro (Mem.nth (show Mem w noEx w' _ from ((MA.lft hS) (hD.wait (i := 3) (m := 22) (by kernel_rfl) hl))) 1 rfl) rfl (T.e 0 rfl) rfl)) ?_; clear T ac; intro ac T
  refine gq T 4 31 rfl (fun _ _ _ _ _ => (Zrm rfl (T.e 8 rfl))) ?_; clear T ac; intro ac T
  refine gq (v := (.pointer (some ⟨g1, 3, none⟩))) T 5 63 rfl (fun _ _ _ _ _ => (Zrf (off := 3) rfl (T.e 8 rfl) (fun _ _ _ => by kernel_rfl))) ?_; clear T ac; intro ac T
  refine gq T 6 127 rfl (fun B w' hD hl hS => (Zro (Mem.nth (show Mem w noEx w' _ from ((MA.lft hS) (hD.wait (i := 6) (m := 22) (by kernel_rfl) hl))) 1 rfl) rfl (T.e 0 rfl) rfl)) ?_; clear T ac; intro ac T
  refine gq (v := (.agg #[.int .i64 b.x, .int .i64 b.y, .int .i64 k, .int .i64 b.wi])) T 7 255 rfl (fun _ _ _ _ _ => (rn_build rfl (.cons (T.e 5 rfl) (.cons (T.e 3 rfl) (.cons (T.e 2 rfl) (.cons (T.e 0 rfl) .nil)))) (fun _ => by kernel_rfl))) ?_; clear T ac; intro ac T
  refine gq (v := (.pointer (some ⟨g1, 0, none⟩))) T 8 511 rfl (fun _ _ _ _ _ => (Zrf (off := 0) rfl (T.e 11 rfl) (fun _ _ _ => by kernel_rfl))) ?_; clear T ac; intro ac T
  refine gq T 9 1023 rfl (fun B w' hD hl hS => (Zro (Mem.nth (show Mem w noEx w' _ from ((MA.lft hS) (hD.wait (i := 9) (m := 22) (by kernel_rfl) hl))) 1 rfl) rfl (T.e 0 rfl) rfl)) ?_; clear T ac; intro ac T
  refine gq T 10 2047 rfl (fun _ _ _ _ _ => (Zrm rfl (T.e 14 rfl))) ?_; clear T ac; intro ac T
  refine gq T 11 4095 rfl (fun _ _ _ _ _ => (rn_add rfl (T.e 1 rfl) (T.e 0 rfl) (by omega))) ?_; clear T ac; intro ac T
  refine gq (v := (.pointer (some ⟨g1, 1, none⟩))) T 12 8191 rfl (fun _ _ _ _ _ => (Zrf (off := 1) rfl (T.e 15 rfl) (fun _ _ _ => by kernel_rfl))) ?_; clear T ac; intro ac T
  refine gq T 13 16383 rfl (fun B w' hD hl hS => (Zro (Mem.nth (show Mem w noEx w' _ from ((MA.lft hS) (hD.wait (i := 13) (m := 22) (by kernel_rfl) hl))) 1 rfl) rfl (T.e 0 rfl) rfl)) ?_; clear T ac; intro ac T
  refine gq (v := (.pointer (some ⟨g1, 2, none⟩))) T 14 32767 rfl (fun _ _ _ _ _ => (Zrf (off := 2) rfl (T.e 17 rfl) (fun _ _ _ => by kernel_rfl))) ?_; clear T ac; intro ac T
  refine gq T 15 65535 rfl (fun B w' hD hl hS => (Zro (Mem.nth (show Mem w noEx w' _ from ((MA.lft hS) (hD.wait (i := 15) (m := 22) (by kernel_rfl) hl))) 1 rfl) rfl (T.e 0 rfl) rfl)) ?_; clear T ac; intro ac T
  refine gq T 16 131071 rfl (fun _ _ _ _ _ => (Zrm rfl (T.e 20 rfl))) ?_; clear T ac; intro ac T
  refine gq T 17 262143 rfl (fun _ _ _ _ _ => (rn_sub rfl (T.e 1 rfl) (T.e 0 rfl) (by omega))) ?_; clear T ac; intro ac T
  refine gq (v := (.pointer (some ⟨g1, 3, none⟩))) T 18 524287 rfl (fun _ _ _ _ _ => (Zrf (off := 3) rfl (T.e 21 rfl) (fun _ _ _ => by kernel_rfl))) ?_; clear T ac; intro ac T
  refine gq T 19 1048575 rfl (fun B w' hD hl hS => (Zro (Mem.nth (show Mem w noEx w' _ from ((MA.lft hS) (hD.wait (i := 19) (m := 22) (by kernel_rfl) hl))) 1 rfl) rfl (T.e 0 rfl) rfl)) ?_; clear T ac; intro ac T
  refine gq (v := (.agg #[.int .i64 (b.x + k), .int .i64 b.y, .int .i64 (b.lo - k), .int .i64 b.wi])) T 20 2097151 rfl (fun _ _ _ _ _ => (rn_build rfl (.cons (T.e 8 rfl) (.cons (T.e 6 rfl) (.cons (T.e 2 rfl) (.cons (T.e 0 rfl) .nil)))) (fun _ => by kernel_rfl))) ?_; clear T ac; intro ac T
  refine gw 21 4194303 ?_; intro K hK
  refine Zos M T rfl rfl (T.e 23 rfl) (T.e 13 rfl) rfl (.tail .head) rfl (by simp) rfl (by kernel_rfl) ?_; clear M T; intro wc ac M T
  refine Zso hK _ _ (MA.mk (fun _ => M.mask [true, false, true] rfl) (MA.mk (fun h => (no_of (by kernel_rfl) h).elim) (M.mask [false, false, true] rfl))) ?_; clear hK K
  refine gw 22 8388607 ?_; intro K hK
  refine Zos M T rfl rfl (T.e 22 rfl) (T.e 0 rfl) rfl .head rfl (by simp) rfl (by kernel_rfl) ?_; clear M T; intro wc ac M T
  refine Zso hK _ _ (MA.mk (fun h => (no_of (by kernel_rfl) h).elim) (MA.mk (fun h => (no_of (by kernel_rfl) h).elim) (M.mask [false, false, true] rfl))) ?_; clear hK K
  refine Zgd (by kernel_rfl) ?_
  replace T := T.pick [22, 23] rfl
  replace M := M.mask [true, true, false] rfl
  refine Znr ?_
  refine Zrt ?_
  refine rt_CC M T rfl (T.e 1 rfl) (T.e 0 rfl) (Zne (i := 1) rfl) (Zne (i := 0) rfl) rfl rfl ?_
  have e1 : halA b k = ⟨b.x, b.y, k, b.wi⟩ := if_pos (by omega)
  have e2 : halB b k = ⟨b.x + k, b.y, b.lo - k, b.wi⟩ := if_pos (by omega)
  rw [e1, e2]
  exact ⟨rfl, M.below⟩
 intro h1
 refine Zsk ?_
 refine Zsr ?_
 refine Zg5 (v2 := (.pointer (some ⟨g1, 2, none⟩))) T (Zq (Zrm rfl (T.e 4 rfl))) rfl (Zf 2 4 rfl rfl) rfl (Zo M 2 0 rfl rfl rfl rfl) rfl (fun _ T => Zq (rn_sub rfl (T.e 2 rfl) (T.e 0 rfl) (by omega))) rfl (fun _ T => Zq (rn_add rfl (T.e 0 rfl) evc (by omega))) rfl ?_; clear T ac; intro ac T
 refine l_q (v := (.int .i64 ((k - b.lo) + 1))) (T.pick [0, 1, 2, 3, 4, 5, 6, 7, 8] rfl) rfl rfl rfl rfl (Zra rfl (T.e 0 rfl)) ?_; clear T ac; intro ac T
 refine wpList_nil ?_
 replace T := T.pick [0, 7, 8, 9] rfl
 refine Zns ?_
 refine Zgs M (M.perm [2] rfl rfl) 23 (by kernel_rfl) rfl (by kernel_rfl) ?_
 clear M; intro wc M
 refine g_addG 21 M ?_
 refine g_addG 22 (M.perm [0, 2] rfl rfl) ?_
 refine gq (v := (.pointer (some ⟨g1, 0, none⟩))) T 0 1 rfl (fun _ _ _ _ _ => (Zrf (off := 0) rfl (T.e 3 rfl) (fun _ _ _ => by kernel_rfl))) ?_; clear T ac; intro ac T
 refine gq T 1 3 rfl (fun B w' hD hl hS => (Zro (Mem.nth (show Mem w noEx w' _ from ((MA.lft hS) (hD.wait (i := 1) (m := 22) (by kernel_rfl) hl))) 1 rfl) rfl (T.e 0 rfl) rfl)) ?_; clear T ac; intro ac T
 refine gq (v := (.pointer (some ⟨g1, 1, none⟩))) T 2 7 rfl (fun _ _ _ _ _ => (Zrf (off := 1) rfl (T.e 5 rfl) (fun _ _ _ => by kernel_rfl))) ?_; clear T ac; intro ac T
 refine gq T 3 15 rfl (fun B w' hD hl hS => (Zro (Mem.nth (show Mem w noEx w' _ from ((MA.lft hS) (hD.wait (i := 3) (m := 22) (by kernel_rfl) hl))) 1 rfl) rfl (T.e 0 rfl) rfl)) ?_; clear T ac; intro ac T
 refine gq (v := (.pointer (some ⟨g1, 2, none⟩))) T 4 31 rfl (fun _ _ _ _ _ => (Zrf (off := 2) rfl (T.e 7 rfl) (fun _ _ _ => by kernel_rfl))) ?_; clear T ac; intro ac T
 refine gq T 5 63 rfl (fun B w' hD hl hS => (Zro (Mem.nth (show Mem w noEx w' _ from ((MA.lft hS) (hD.wait (i := 5) (m := 22) (by kernel_rfl) hl))) 1 rfl) rfl (T.e 0 rfl) rfl)) ?_; clear T ac; intro ac T
 refine gq T 6 127 rfl (fun _ _ _ _ _ => (Zrm rfl (T.e 6 rfl))) ?_; clear T ac; intro ac T
 refine gq (v := (.agg #[.int .i64 b.x, .int .i64 b.y, .int .i64 b.lo, .int .i64 ((k - b.lo) + 1)])) T 7 255 rfl (fun _ _ _ _ _ => (rn_build rfl (.cons (T.e 5 rfl) (.cons (T.e 3 rfl) (.cons (T.e 1 rfl) (.cons (T.e 0 rfl) .nil)))) (fun _ => by kernel_rfl))) ?_; clear T ac; intro ac T
 refine gq (v := (.pointer (some ⟨g1, 0, none⟩))) T 8 511 rfl (fun _ _ _ _ _ => (Zrf (off := 0) rfl (T.e 11 rfl) (fun _ _ _ => by kernel_rfl))) ?_; clear T ac; intro ac T
 refine gq T 9 1023 rfl (fun B w' hD hl hS => (Zro (Mem.nth (show Mem w noEx w' _ from ((MA.lft hS) (hD.wait (i := 9) (m := 22) (by kernel_rfl) hl))) 1 rfl) rfl (T.e 0 rfl) rfl)) ?_; clear T ac; intro ac T
 refine gq (v := (.pointer (some ⟨g1, 1, none⟩))) T 10 2047 rfl (fun _ _ _ _ _ => (Zrf (off := 1) rfl (T.e 13 rfl) (fun _ _ _ => by kernel_rfl))) ?_; clear T ac; intro ac T
 refine gq T 11 4095 rfl (fun B w' hD hl hS => (Zro (Mem.nth (show Mem w noEx w' _ from ((MA.lft hS) (hD.wait (i := 11) (m := 22) (by kernel_rfl) hl))) 1 rfl) rfl (T.e 0 rfl) rfl)) ?_; clear T ac; intro ac T
 refine gq T 12 8191 rfl (fun _ _ _ _ _ => (Zrm rfl (T.e 12 rfl))) ?_; clear T ac; intro ac T
 refine gq T 13 16383 rfl (fun _ _ _ _ _ => (rn_add rfl (T.e 1 rfl) (T.e 0 rfl) (by omega))) ?_; clear T ac; intro ac T
 refine gq (v := (.pointer (some ⟨g1, 2, none⟩))) T 14 32767 rfl (fun _ _ _ _ _ => (Zrf (off := 2) rfl (T.e 17 rfl) (fun _ _ _ => by kernel_rfl))) ?_; clear T ac; intro ac T
 refine gq T 15 65535 rfl (fun B w' hD hl hS => (Zro (Mem.nth (show Mem w noEx w' _ from ((MA.lft hS) (hD.wait (i := 15) (m := 22) (by kernel_rfl) hl))) 1 rfl) rfl (T.e 0 rfl) rfl)) ?_; clear T ac; intro ac T
 refine gq (v := (.pointer (some ⟨g1, 3, none⟩))) T 16 131071 rfl (fun _ _ _ _ _ => (Zrf (off := 3) rfl (T.e 19 rfl) (fun _ _ _ => by kernel_rfl))) ?_; clear T ac; intro ac T
 refine gq T 17 262143 rfl (fun B w' hD hl hS => (Zro (Mem.nth (show Mem w noEx w' _ from ((MA.lft hS) (hD.wait (i := 17) (m := 22) (by kernel_rfl) hl))) 1 rfl) rfl (T.e 0 rfl) rfl)) ?_; clear T ac; intro ac T
 refine gq T 18 524287 rfl (fun _ _ _ _ _ => (Zrm rfl (T.e 18 rfl))) ?_; clear T ac; intro ac T
 refine gq T 19 1048575 rfl (fun _ _ _ _ _ => (rn_sub rfl (T.e 1 rfl) (T.e 0 rfl) (by omega))) ?_; clear T ac; intro ac T
 refine gq (v := (.agg #[.int .i64 b.x, .int .i64 (b.y + ((k - b.lo) + 1)), .int .i64 b.lo, .int .i64 (b.wi - ((k - b.lo) + 1))])) T 20 2097151 rfl (fun _ _ _ _ _ => (rn_build rfl (.cons (T.e 10 rfl) (.cons (T.e 6 rfl) (.cons (T.e 4 rfl) (.cons (T.e 0 rfl) .nil)))) (fun _ => by kernel_rfl))) ?_; clear T ac; intro ac T
 refine gw 21 4194303 ?_; intro K hK
 refine Zos M T rfl rfl (T.e 23 rfl) (T.e 13 rfl) rfl (.tail .head) rfl (by simp) rfl (by kernel_rfl) ?_; clear M T; intro wc ac M T
 refine Zso hK _ _ (MA.mk (fun _ => M.mask [true, false, true] rfl) (MA.mk (fun h => (no_of (by kernel_rfl) h).elim) (M.mask [false, false, true] rfl))) ?_; clear hK K
 refine gw 22 8388607 ?_; intro K hK
 refine Zos M T rfl rfl (T.e 22 rfl) (T.e 0 rfl) rfl .head rfl (by simp) rfl (by kernel_rfl) ?_; clear M T; intro wc ac M T
 refine Zso hK _ _ (MA.mk (fun h => (no_of (by kernel_rfl) h).elim) (MA.mk (fun h => (no_of (by kernel_rfl) h).elim) (M.mask [false, false, true] rfl))) ?_; clear hK K
 refine Zgd (by kernel_rfl) ?_
 replace T := T.pick [22, 23] rfl
 replace M := M.mask [true, true, false] rfl
 refine Znr ?_
 refine rt_CC M T rfl (T.e 1 rfl) (T.e 0 rfl) (Zne (i := 1) rfl) (Zne (i := 0) rfl) rfl rfl ?_
 have e1 : halA b k = ⟨b.x, b.y, b.lo, k - b.lo + 1⟩ := if_neg (by omega)
 have e2 : halB b k = ⟨b.x, b.y + (k - b.lo + 1), b.lo, b.wi - (k - b.lo + 1)⟩ := if_neg (by omega)
 rw [e1, e2]
 exact ⟨rfl, M.below⟩
def lonS (a c : Int) (p : Pt) (b : Bo) : Spt := if (fitsP a c p b.lo b.wi).2 = true then ⟨b.x, b.y, (fitsP a c p b.lo b.wi).1⟩ else ⟨0, 0, false⟩
theorem lone8_any (s : Sk) (A : Option Addr) (d : Nat) (p : Pt) (b : Bo) (su : Bool)  (w : World) (hsg : s.good) (hpg : p.good)  :
   Calls Tryd.prog 97 #[.agg #[.int .i64 s.lo, .int .i64 s.wi, .int .i64 s.a0, .int .i64 s.a1, .int .i64 s.c0, .int .i64 s.c1, .slice A s.ps.length d], .agg #[.int .i64 p.l, .int .i64 p.w, .bool p.gr, .int .i64 p.pa], .agg #[.int .i64 b.x, .int .i64 b.y, .int .i64 b.lo, .int .i64 b.wi], .bool su] w fun e w' => e = .returned (.tuple #[.agg #[.int .i64 ((lonS (cutA s su) (cutC s su) p b).x), .int .i64 ((lonS (cutA s su) (cutC s su) p b).y), .bool ((lonS (cutA s su) (cutC s su) p b).t)], .bool ((fitsP (cutA s su) (cutC s su) p b.lo b.wi).2)]) ∧ Below w.heap.size w w' := by
 refine Zpx noEx Tryd.func97 rfl 53 rfl [.agg #[.int .i64 s.lo, .int .i64 s.wi, .int .i64 s.a0, .int .i64 s.a1, .int .i64 s.c0, .int .i64 s.c1, .slice A s.ps.length d], .agg #[.int .i64 p.l, .int .i64 p.w, .bool p.gr, .int .i64 p.pa], .agg #[.int .i64 b.x, .int .i64 b.y, .int .i64 b.lo, .int .i64 b.wi], .bool su] rfl rfl (Mem.init w _) ?_
 intro ac wc T M
 refine Zsr ?_
 refine Zl2 ?_
 refine Zob M T rfl rfl rfl rfl (T.e 0 rfl) rfl ?_; clear M T; intro g1 wc ac M T
 refine Zl2 ?_
 refine Zob M T rfl rfl rfl rfl (T.e 2 rfl) rfl ?_; clear M T; intro g2 wc ac M T
 refine Zl2 ?_
 refine Zob M T rfl rfl rfl rfl (T.e 4 rfl) rfl ?_; clear M T; intro g3 wc ac M T
 refine Zl2 ?_
 refine Zoa M T rfl rfl rfl rfl ?_; clear M T; intro g4 wc ac M T
 refine lq T (Zra rfl evc) ?_; clear T ac; intro ac T
 refine wpList_nil ?_
 replace T := T.pick [1, 2, 3, 4, 8] rfl
 refine Zns ?_
 refine Zsr ?_
 refine lq T (Zra rfl evc) ?_; clear T ac; intro ac T
 refine Zln ?_
 refine wp_block ?_
 refine wp_loop_rounds 4 ?_
 refine rounds_S ?_
 refine wp_seq ?_
 refine Zsr ?_
 refine Zg2 (v2 := (.bool true)) T (Zq (Zrm rfl (T.e 0 rfl))) rfl (fun _ T => Zq (Zrq (rn_lss rfl (T.e 0 rfl) evc) (by simp))) rfl ?_; clear T ac; intro ac T
 refine wpList_nil ?_
 replace T := T.pick [0, 2, 3, 4, 5, 6, 7] rfl
 refine nm_then ?_
 refine wp_cond_true (T.e 0 rfl) ?_
 refine Zsk ?_
 refine wp_seq ?_
 refine wp_block ?_
 refine Zsr ?_
 refine Zg3 (v2 := (.bool false)) T (Zq (Zrm rfl (T.e 1 rfl))) rfl (fun _ T => Zq (Zrq (rn_eql rfl (T.e 0 rfl) evc) (by simp))) rfl (Za 0 rfl rfl) rfl ?_; clear T ac; intro ac T
 refine wpList_nil ?_
 replace T := T.pick [0, 4, 5, 6, 7, 8, 9] rfl
 refine nm_then ?_
 refine Zsr ?_
 refine Zg4 T (Zq (Zrr (Mem.nth M 3 rfl) rfl (T.e 5 rfl) rfl)) rfl (Zr M 2 5 rfl rfl rfl rfl) rfl (Zm 2 rfl rfl) rfl (Zm 9 rfl rfl) rfl ?_; clear T ac; intro ac T
 refine Zl2 ?_
 refine Zoc (first := []) (cap := []) T rfl rfl rfl rfl evf (.cons (T.e 3 rfl) (.cons (T.e 2 rfl) (.cons (T.e 1 rfl) (.cons (T.e 0 rfl) .nil)))) Tryd.func94 rfl rfl ?_
 refine Calls.mono (size8_any s A d p false su _ hsg hpg) ?_
 clear T; rintro e wc ⟨rfl, hb⟩ ac T
 replace M := M.call hb; clear hb
 refine Zg5 T (Zq (Zrm rfl (T.e 0 rfl))) rfl (Ze 0 rfl rfl rfl) rfl (Ze 1 rfl rfl rfl) rfl (Za 1 rfl rfl) rfl (Za 1 rfl rfl) rfl ?_; clear T ac; intro ac T
 refine wpList_nil ?_
 replace T := T.pick [0, 1, 10, 11, 12, 13, 14, 15, 16] rfl
 refine nm_then ?_
 refine cut_seq (fun ac wc => Tm ac 53 [(3, .bool su), (4, .pointer (some ⟨g1, 0, none⟩)), (5, .pointer (some ⟨g2, 0, none⟩)), (6, .pointer (some ⟨g3, 0, none⟩)), (8, .pointer (some ⟨g4, 0, none⟩)), (10, .int .i64 0), (11, .bool false), (45, .bool ((decide ((sizeL (cutA s su) (cutC s su) p false) ≤ b.lo)) && (decide ((sizeW (cutA s su) (cutC s su) p false) ≤ b.wi))))] ∧ Mem w noEx wc [(g4, .cells [.int .i64 0, .int .i64 0, .bool false]), (g3, .cells [.int .i64 b.x, .int .i64 b.y, .int .i64 b.lo, .int .i64 b.wi]), (g2, .cells [.int .i64 p.l, .int .i64 p.w, .bool p.gr, .int .i64 p.pa]), (g1, .cells [.int .i64 s.lo, .int .i64 s.wi, .int .i64 s.a0, .int .i64 s.a1, .int .i64 s.c0, .int .i64 s.c1, .slice A s.ps.length d])]) ?_ ?_
 ·refine wp_region_lit ?_
  refine Zg5 (v2 := (.pointer (some ⟨g3, 2, none⟩))) T (Zq (Zrm rfl (T.e 1 rfl))) rfl (Zf 2 6 rfl rfl) rfl (Zo M 1 0 rfl rfl rfl rfl) rfl (fun _ T => Zq (rn_leq rfl (T.e 2 rfl) (T.e 0 rfl))) rfl (Zm 0 rfl rfl) rfl ?_; clear T ac; intro ac T
  rcases Bool.eq_false_or_eq_true (decide ((sizeL (cutA s su) (cutC s su) p false) ≤ b.lo)) with h1 | h1
  ·replace h1 := of_decide_eq_true h1
   refine Zg6 (v2 := (.pointer (some ⟨g3, 3, none⟩))) T (Zw (Zwy rfl rfl (T.e 0 rfl) (Zdt h1)) (Zrm rfl (T.e 5 rfl))) rfl (fun _ T => Zw (Zwy rfl rfl (T.e 1 rfl) (Zdt h1)) (Zrf (off := 3) rfl (T.e 11 rfl) (fun _ _ _ => by kernel_rfl))) rfl (fun _ T => Zw (Zwy rfl rfl (T.e 2 rfl) (Zdt h1)) (Zro (Mem.nth M 1 rfl) rfl (T.e 0 rfl) rfl)) rfl (fun _ T => Zw (Zwy rfl rfl (T.e 3 rfl) (Zdt h1)) (rn_leq rfl (T.e 2 rfl) (T.e 0 rfl))) rfl (fun _ T => Zq (Zr1 rfl (T.e 4 rfl) (Zdt h1) (T.e 0 rfl))) rfl (Zm 0 rfl rfl) rfl ?_; clear T ac; intro ac T
   rcases Bool.eq_false_or_eq_true (decide ((sizeW (cutA s su) (cutC s su) p false) ≤ b.wi)) with h2 | h2
   ·replace h2 := of_decide_eq_true h2
    refine Zg7 (v6 := (.bool true)) T (Zw (Zwy rfl rfl (T.e 0 rfl) (Zdt h2)) (Zrm rfl (T.e 13 rfl))) rfl (fun _ T => Zw (Zwy rfl rfl (T.e 1 rfl) (Zdt h2)) (Zrm rfl (T.e 0 rfl))) rfl (fun _ T => Zp (Zwn rfl rfl (T.e 0 rfl) rfl)) rfl (fun _ T => Zp (Zwn rfl rfl (T.e 1 rfl) rfl)) rfl (fun _ T => Zw (Zwy rfl rfl (T.e 4 rfl) (Zdt h2)) (Zr0 rfl (T.e 2 rfl) rfl evc)) rfl (fun _ T => Zw (Zwy rfl rfl (T.e 5 rfl) (Zdt h2)) (Zrq (rn_not rfl (T.e 0 rfl)) (by simp))) rfl (fun _ T => Zq (Zr1 rfl (T.e 6 rfl) (Zdt h2) (T.e 0 rfl))) rfl ?_; clear T ac; intro ac T
    refine wpList_nil ?_
    replace T := T.pick [0, 1, 2, 3, 4, 5, 6, 9, 10, 11, 12, 20, 21, 22, 23, 24, 25, 26] rfl
    exact ⟨(T.pick (E' := [(3, .bool su), (4, .pointer (some ⟨g1, 0, none⟩)), (5, .pointer (some ⟨g2, 0, none⟩)), (6, .pointer (some ⟨g3, 0, none⟩)), (8, .pointer (some ⟨g4, 0, none⟩)), (10, .int .i64 0), (11, .bool false), (45, .bool true)]) [17, 16, 15, 14, 13, 12, 11, 0] rfl).as (by (try rw [show (decide ((sizeL (cutA s su) (cutC s su) p false) ≤ b.lo)) = true from (Zdt h1)]); (try rw [show (decide ((sizeW (cutA s su) (cutC s su) p false) ≤ b.wi)) = true from (Zdt h2)]); (try rfl)), M.mask [true, true, true, true] rfl⟩
   replace h2 := of_decide_eq_false h2
   refine Zg7 T (Zp (Zwn rfl rfl (T.e 0 rfl) (Zdf h2))) rfl (fun _ T => Zp (Zwn rfl rfl (T.e 1 rfl) (Zdf h2))) rfl (fun _ T => Zp (Zwu rfl rfl (T.e 0 rfl))) rfl (fun _ T => Zp (Zwu rfl rfl (T.e 1 rfl))) rfl (fun _ T => Zp (Zwn rfl rfl (T.e 4 rfl) (Zdf h2))) rfl (fun _ T => Zp (Zwn rfl rfl (T.e 5 rfl) (Zdf h2))) rfl (fun _ T => Zq (Zr0 rfl (T.e 6 rfl) (Zdf h2) evc)) rfl ?_; clear T ac; intro ac T
   refine wpList_nil ?_
   replace T := T.pick [0, 1, 2, 3, 4, 5, 6, 9, 10, 11, 12, 20, 21, 22, 23, 24, 25, 26] rfl
   exact ⟨(T.pick (E' := [(3, .bool su), (4, .pointer (some ⟨g1, 0, none⟩)), (5, .pointer (some ⟨g2, 0, none⟩)), (6, .pointer (some ⟨g3, 0, none⟩)), (8, .pointer (some ⟨g4, 0, none⟩)), (10, .int .i64 0), (11, .bool false), (45, .bool false)]) [17, 16, 15, 14, 13, 12, 11, 0] rfl).as (by (try rw [show (decide ((sizeL (cutA s su) (cutC s su) p false) ≤ b.lo)) = true from (Zdt h1)]); (try rw [show (decide ((sizeW (cutA s su) (cutC s su) p false) ≤ b.wi)) = false from (Zdf h2)]); (try rfl)), M.mask [true, true, true, true] rfl⟩
  replace h1 := of_decide_eq_false h1
  refine Zg8 T (Zp (Zwn rfl rfl (T.e 0 rfl) (Zdf h1))) rfl (fun _ T => Zp (Zwn rfl rfl (T.e 1 rfl) (Zdf h1))) rfl (fun _ T => Zp (Zwn rfl rfl (T.e 2 rfl) (Zdf h1))) rfl (fun _ T => Zp (Zwn rfl rfl (T.e 3 rfl) (Zdf h1))) rfl (fun _ T => Zq (Zr0 rfl (T.e 4 rfl) (Zdf h1) evc)) rfl (Zm 0 rfl rfl) rfl (fun _ T => Zp (Zwn rfl rfl (T.e 0 rfl) rfl)) rfl (fun _ T => Zp (Zwn rfl rfl (T.e 1 rfl) rfl)) rfl ?_; clear T ac; intro ac T
  refine Zg5 T (Zp (Zwu rfl rfl (T.e 0 rfl))) rfl (fun _ T => Zp (Zwu rfl rfl (T.e 1 rfl))) rfl (fun _ T => Zp (Zwn rfl rfl (T.e 4 rfl) rfl)) rfl (fun _ T => Zp (Zwn rfl rfl (T.e 5 rfl) rfl)) rfl (fun _ T => Zq (Zr0 rfl (T.e 6 rfl) rfl evc)) rfl ?_; clear T ac; intro ac T
  refine wpList_nil ?_
  replace T := T.pick [0, 1, 2, 3, 4, 5, 6, 9, 10, 11, 12, 20, 21, 22, 23, 24, 25, 26] rfl
  exact ⟨(T.pick (E' := [(3, .bool su), (4, .pointer (some ⟨g1, 0, none⟩)), (5, .pointer (some ⟨g2, 0, none⟩)), (6, .pointer (some ⟨g3, 0, none⟩)), (8, .pointer (some ⟨g4, 0, none⟩)), (10, .int .i64 0), (11, .bool false), (45, .bool false)]) [17, 16, 15, 14, 13, 12, 11, 0] rfl).as (by (try rw [show (decide ((sizeL (cutA s su) (cutC s su) p false) ≤ b.lo)) = false from (Zdf h1)]); (try rfl)), M.mask [true, true, true, true] rfl⟩
 clear T M
 rintro ac wc ⟨T, M⟩
 refine wp_cond_split (T.e 7 rfl) ?_ ?_
 ·intro h3
  (have h3' := h3; try simp only [Zb1, Zb2, Zb3, Zb4, Zb5, Zb6, Zb7] at h3')
  refine Zsr ?_
  refine Zg6 (v1 := (.pointer (some ⟨g3, 0, none⟩))) (v3 := (.pointer (some ⟨g3, 1, none⟩))) (v6 := (.agg #[.int .i64 b.x, .int .i64 b.y, .bool false])) T (Zq (Zrf (off := 0) rfl (T.e 3 rfl) (fun _ _ _ => by kernel_rfl))) rfl (Zo M 1 0 rfl rfl rfl rfl) rfl (Zf 1 5 rfl rfl) rfl (Zo M 1 0 rfl rfl rfl rfl) rfl (Zm 10 rfl rfl) rfl (fun _ T => Zq (rn_build rfl (.cons (T.e 3 rfl) (.cons (T.e 1 rfl) (.cons (T.e 0 rfl) .nil))) (fun _ => by kernel_rfl))) rfl ?_; clear T ac; intro ac T
  refine Zl2 ?_
  refine Zos M T rfl rfl (T.e 10 rfl) (T.e 0 rfl) rfl .head rfl (by simp) rfl (by kernel_rfl) ?_; clear M T; intro wc ac M T
  refine lq T (Zra rfl evc) ?_; clear T ac; intro ac T
  refine wpList_nil ?_
  replace T := T.pick [0, 11] rfl
  replace M := M.mask [true, false, false, false] rfl
  refine Znr ?_
  refine Zrb ?_
  refine Zrt ?_
  refine Zrt ?_
  refine Zrb ?_
  refine Zrt ?_
  refine rt_ct M T rfl (T.e 1 rfl) (T.e 0 rfl) (Zne (i := 0) rfl) rfl ?_
  have e0 : fitsP (cutA s su) (cutC s su) p b.lo b.wi = if fitsT (cutA s su) (cutC s su) p b.lo b.wi false = true then (false, true) else if fitsT (cutA s su) (cutC s su) p b.lo b.wi true = true then (true, true) else (false, false) := rfl
  have hF9 : fitsT (cutA s su) (cutC s su) p b.lo b.wi false = true := by unfold fitsT; simp_all
  have e1 : fitsP (cutA s su) (cutC s su) p b.lo b.wi = (false, true) := by rw [e0, hF9]; simp
  unfold lonS
  rw [e1]
  exact ⟨rfl, M.below⟩
 intro h3
 (have h3' := h3; try simp only [Zb1, Zb2, Zb3, Zb4, Zb5, Zb6, Zb7] at h3')
 refine wp_skip ?_
 refine Znb ?_
 refine nm_then ?_
 refine wp_region_lit ?_
 refine Zg2 (v2 := (.int .i64 1)) T (Zq (Zrm rfl (T.e 5 rfl))) rfl (fun _ T => Zq (rn_ofI (rn_add rfl (T.e 0 rfl) evc (by omega)) (by rfl))) rfl ?_; clear T ac; intro ac T
 refine l_q (v := (.int .i64 1)) (T.pick [0, 1, 2, 3, 4, 5, 6, 8, 9] rfl) rfl rfl rfl rfl (Zra rfl (T.e 0 rfl)) ?_; clear T ac; intro ac T
 refine wpList_nil ?_
 replace T := T.pick [0, 3, 4, 5, 6, 7] rfl
 refine nm_then ?_
 refine rounds_S ?_
 refine wp_seq ?_
 refine Zsr ?_
 refine Zg2 (v2 := (.bool true)) T (Zq (Zrm rfl (T.e 0 rfl))) rfl (fun _ T => Zq (Zrq (rn_lss rfl (T.e 0 rfl) evc) (by simp))) rfl ?_; clear T ac; intro ac T
 refine wpList_nil ?_
 replace T := T.pick [0, 2, 3, 4, 5, 6, 7] rfl
 refine nm_then ?_
 refine wp_cond_true (T.e 0 rfl) ?_
 refine Zsk ?_
 refine wp_seq ?_
 refine wp_block ?_
 refine Zsr ?_
 refine Zg3 (v2 := (.bool true)) T (Zq (Zrm rfl (T.e 1 rfl))) rfl (fun _ T => Zq (Zrq (rn_eql rfl (T.e 0 rfl) evc) (by simp))) rfl (Za 0 rfl rfl) rfl ?_; clear T ac; intro ac T
 refine wpList_nil ?_
 replace T := T.pick [0, 4, 5, 6, 7, 8, 9] rfl
 refine nm_then ?_
 refine Zsr ?_
 refine Zg4 T (Zq (Zrr (Mem.nth M 3 rfl) rfl (T.e 3 rfl) rfl)) rfl (Zr M 2 5 rfl rfl rfl rfl) rfl (Zm 2 rfl rfl) rfl (Zm 5 rfl rfl) rfl ?_; clear T ac; intro ac T
 refine Zl2 ?_
 refine Zoc (first := []) (cap := []) T rfl rfl rfl rfl evf (.cons (T.e 3 rfl) (.cons (T.e 2 rfl) (.cons (T.e 1 rfl) (.cons (T.e 0 rfl) .nil)))) Tryd.func94 rfl rfl ?_
 refine Calls.mono (size8_any s A d p true su _ hsg hpg) ?_
 clear T; rintro e wc ⟨rfl, hb⟩ ac T
 replace M := M.call hb; clear hb
 refine Zg5 T (Zq (Zrm rfl (T.e 0 rfl))) rfl (Ze 0 rfl rfl rfl) rfl (Ze 1 rfl rfl rfl) rfl (Za 1 rfl rfl) rfl (Za 1 rfl rfl) rfl ?_; clear T ac; intro ac T
 refine wpList_nil ?_
 replace T := T.pick [0, 1, 10, 11, 12, 13, 14, 15, 16] rfl
 refine nm_then ?_
 refine cut_seq (fun ac wc => Tm ac 53 [(3, .bool su), (4, .pointer (some ⟨g1, 0, none⟩)), (5, .pointer (some ⟨g2, 0, none⟩)), (6, .pointer (some ⟨g3, 0, none⟩)), (8, .pointer (some ⟨g4, 0, none⟩)), (10, .int .i64 1), (11, .bool true), (45, .bool ((decide ((sizeL (cutA s su) (cutC s su) p true) ≤ b.lo)) && ((decide ((sizeW (cutA s su) (cutC s su) p true) ≤ b.wi)) && (!p.gr))))] ∧ Mem w noEx wc [(g4, .cells [.int .i64 0, .int .i64 0, .bool false]), (g3, .cells [.int .i64 b.x, .int .i64 b.y, .int .i64 b.lo, .int .i64 b.wi]), (g2, .cells [.int .i64 p.l, .int .i64 p.w, .bool p.gr, .int .i64 p.pa]), (g1, .cells [.int .i64 s.lo, .int .i64 s.wi, .int .i64 s.a0, .int .i64 s.a1, .int .i64 s.c0, .int .i64 s.c1, .slice A s.ps.length d])]) ?_ ?_
 ·refine wp_region_lit ?_
  refine Zg5 (v2 := (.pointer (some ⟨g3, 2, none⟩))) T (Zq (Zrm rfl (T.e 1 rfl))) rfl (Zf 2 8 rfl rfl) rfl (Zo M 1 0 rfl rfl rfl rfl) rfl (fun _ T => Zq (rn_leq rfl (T.e 2 rfl) (T.e 0 rfl))) rfl (Zm 0 rfl rfl) rfl ?_; clear T ac; intro ac T
  rcases Bool.eq_false_or_eq_true (decide ((sizeL (cutA s su) (cutC s su) p true) ≤ b.lo)) with h4 | h4
  ·replace h4 := of_decide_eq_true h4
   refine Zg6 (v2 := (.pointer (some ⟨g3, 3, none⟩))) T (Zw (Zwy rfl rfl (T.e 0 rfl) (Zdt h4)) (Zrm rfl (T.e 5 rfl))) rfl (fun _ T => Zw (Zwy rfl rfl (T.e 1 rfl) (Zdt h4)) (Zrf (off := 3) rfl (T.e 13 rfl) (fun _ _ _ => by kernel_rfl))) rfl (fun _ T => Zw (Zwy rfl rfl (T.e 2 rfl) (Zdt h4)) (Zro (Mem.nth M 1 rfl) rfl (T.e 0 rfl) rfl)) rfl (fun _ T => Zw (Zwy rfl rfl (T.e 3 rfl) (Zdt h4)) (rn_leq rfl (T.e 2 rfl) (T.e 0 rfl))) rfl (fun _ T => Zq (Zr1 rfl (T.e 4 rfl) (Zdt h4) (T.e 0 rfl))) rfl (Zm 0 rfl rfl) rfl ?_; clear T ac; intro ac T
   rcases Bool.eq_false_or_eq_true (decide ((sizeW (cutA s su) (cutC s su) p true) ≤ b.wi)) with h5 | h5
   ·replace h5 := of_decide_eq_true h5
    refine Zg7 (v3 := (.pointer (some ⟨g2, 2, none⟩))) T (Zw (Zwy rfl rfl (T.e 0 rfl) (Zdt h5)) (Zrm rfl (T.e 13 rfl))) rfl (fun _ T => Zw (Zwy rfl rfl (T.e 1 rfl) (Zdt h5)) (Zrm rfl (T.e 0 rfl))) rfl (fun _ T => Zw (Zwy rfl rfl (T.e 0 rfl) rfl) (Zrf (off := 2) rfl (T.e 19 rfl) (fun _ _ _ => by kernel_rfl))) rfl (fun _ T => Zw (Zwy rfl rfl (T.e 1 rfl) rfl) (Zro (Mem.nth M 2 rfl) rfl (T.e 0 rfl) rfl)) rfl (fun _ T => Zw (Zwy rfl rfl (T.e 4 rfl) (Zdt h5)) (Zr1 rfl (T.e 2 rfl) rfl (T.e 0 rfl))) rfl (fun _ T => Zw (Zwy rfl rfl (T.e 5 rfl) (Zdt h5)) (rn_not rfl (T.e 0 rfl))) rfl (fun _ T => Zq (Zr1 rfl (T.e 6 rfl) (Zdt h5) (T.e 0 rfl))) rfl ?_; clear T ac; intro ac T
    refine wpList_nil ?_
    replace T := T.pick [0, 1, 2, 3, 4, 5, 6, 9, 10, 11, 12, 20, 21, 22, 23, 24, 25, 26] rfl
    exact ⟨(T.pick (E' := [(3, .bool su), (4, .pointer (some ⟨g1, 0, none⟩)), (5, .pointer (some ⟨g2, 0, none⟩)), (6, .pointer (some ⟨g3, 0, none⟩)), (8, .pointer (some ⟨g4, 0, none⟩)), (10, .int .i64 1), (11, .bool true), (45, .bool (!p.gr))]) [13, 14, 15, 16, 17, 12, 11, 0] rfl).as (by (try rw [show (decide ((sizeL (cutA s su) (cutC s su) p true) ≤ b.lo)) = true from (Zdt h4)]); (try rw [show (decide ((sizeW (cutA s su) (cutC s su) p true) ≤ b.wi)) = true from (Zdt h5)]); (try rfl)), M.mask [true, true, true, true] rfl⟩
   replace h5 := of_decide_eq_false h5
   refine Zg7 T (Zp (Zwn rfl rfl (T.e 0 rfl) (Zdf h5))) rfl (fun _ T => Zp (Zwn rfl rfl (T.e 1 rfl) (Zdf h5))) rfl (fun _ T => Zp (Zwu rfl rfl (T.e 0 rfl))) rfl (fun _ T => Zp (Zwu rfl rfl (T.e 1 rfl))) rfl (fun _ T => Zp (Zwn rfl rfl (T.e 4 rfl) (Zdf h5))) rfl (fun _ T => Zp (Zwn rfl rfl (T.e 5 rfl) (Zdf h5))) rfl (fun _ T => Zq (Zr0 rfl (T.e 6 rfl) (Zdf h5) evc)) rfl ?_; clear T ac; intro ac T
   refine wpList_nil ?_
   replace T := T.pick [0, 1, 2, 3, 4, 5, 6, 9, 10, 11, 12, 20, 21, 22, 23, 24, 25, 26] rfl
   exact ⟨(T.pick (E' := [(3, .bool su), (4, .pointer (some ⟨g1, 0, none⟩)), (5, .pointer (some ⟨g2, 0, none⟩)), (6, .pointer (some ⟨g3, 0, none⟩)), (8, .pointer (some ⟨g4, 0, none⟩)), (10, .int .i64 1), (11, .bool true), (45, .bool false)]) [13, 14, 15, 16, 17, 12, 11, 0] rfl).as (by (try rw [show (decide ((sizeL (cutA s su) (cutC s su) p true) ≤ b.lo)) = true from (Zdt h4)]); (try rw [show (decide ((sizeW (cutA s su) (cutC s su) p true) ≤ b.wi)) = false from (Zdf h5)]); (try rfl)), M.mask [true, true, true, true] rfl⟩
  replace h4 := of_decide_eq_false h4
  refine Zg8 T (Zp (Zwn rfl rfl (T.e 0 rfl) (Zdf h4))) rfl (fun _ T => Zp (Zwn rfl rfl (T.e 1 rfl) (Zdf h4))) rfl (fun _ T => Zp (Zwn rfl rfl (T.e 2 rfl) (Zdf h4))) rfl (fun _ T => Zp (Zwn rfl rfl (T.e 3 rfl) (Zdf h4))) rfl (fun _ T => Zq (Zr0 rfl (T.e 4 rfl) (Zdf h4) evc)) rfl (Zm 0 rfl rfl) rfl (fun _ T => Zp (Zwn rfl rfl (T.e 0 rfl) rfl)) rfl (fun _ T => Zp (Zwn rfl rfl (T.e 1 rfl) rfl)) rfl ?_; clear T ac; intro ac T
  refine Zg5 T (Zp (Zwu rfl rfl (T.e 0 rfl))) rfl (fun _ T => Zp (Zwu rfl rfl (T.e 1 rfl))) rfl (fun _ T => Zp (Zwn rfl rfl (T.e 4 rfl) rfl)) rfl (fun _ T => Zp (Zwn rfl rfl (T.e 5 rfl) rfl)) rfl (fun _ T => Zq (Zr0 rfl (T.e 6 rfl) rfl evc)) rfl ?_; clear T ac; intro ac T
  refine wpList_nil ?_
  replace T := T.pick [0, 1, 2, 3, 4, 5, 6, 9, 10, 11, 12, 20, 21, 22, 23, 24, 25, 26] rfl
  exact ⟨(T.pick (E' := [(3, .bool su), (4, .pointer (some ⟨g1, 0, none⟩)), (5, .pointer (some ⟨g2, 0, none⟩)), (6, .pointer (some ⟨g3, 0, none⟩)), (8, .pointer (some ⟨g4, 0, none⟩)), (10, .int .i64 1), (11, .bool true), (45, .bool false)]) [13, 14, 15, 16, 17, 12, 11, 0] rfl).as (by (try rw [show (decide ((sizeL (cutA s su) (cutC s su) p true) ≤ b.lo)) = false from (Zdf h4)]); (try rfl)), M.mask [true, true, true, true] rfl⟩
 clear T M
 rintro ac wc ⟨T, M⟩
 refine wp_cond_split (T.e 7 rfl) ?_ ?_
 ·intro h6
  (have h6' := h6; try simp only [Zb1, Zb2, Zb3, Zb4, Zb5, Zb6, Zb7] at h6')
  refine Zsr ?_
  refine Zg6 (v1 := (.pointer (some ⟨g3, 0, none⟩))) (v3 := (.pointer (some ⟨g3, 1, none⟩))) (v6 := (.agg #[.int .i64 b.x, .int .i64 b.y, .bool true])) T (Zq (Zrf (off := 0) rfl (T.e 3 rfl) (fun _ _ _ => by kernel_rfl))) rfl (Zo M 1 0 rfl rfl rfl rfl) rfl (Zf 1 5 rfl rfl) rfl (Zo M 1 0 rfl rfl rfl rfl) rfl (Zm 10 rfl rfl) rfl (fun _ T => Zq (rn_build rfl (.cons (T.e 3 rfl) (.cons (T.e 1 rfl) (.cons (T.e 0 rfl) .nil))) (fun _ => by kernel_rfl))) rfl ?_; clear T ac; intro ac T
  refine Zl2 ?_
  refine Zos M T rfl rfl (T.e 10 rfl) (T.e 0 rfl) rfl .head rfl (by simp) rfl (by kernel_rfl) ?_; clear M T; intro wc ac M T
  refine lq T (Zra rfl evc) ?_; clear T ac; intro ac T
  refine wpList_nil ?_
  replace T := T.pick [0, 11] rfl
  replace M := M.mask [true, false, false, false] rfl
  refine Znr ?_
  refine Zrb ?_
  refine Zrt ?_
  refine Zrt ?_
  refine Zrb ?_
  refine Zrt ?_
  refine rt_ct M T rfl (T.e 1 rfl) (T.e 0 rfl) (Zne (i := 0) rfl) rfl ?_
  have e0 : fitsP (cutA s su) (cutC s su) p b.lo b.wi = if fitsT (cutA s su) (cutC s su) p b.lo b.wi false = true then (false, true) else if fitsT (cutA s su) (cutC s su) p b.lo b.wi true = true then (true, true) else (false, false) := rfl
  have hF9 : fitsT (cutA s su) (cutC s su) p b.lo b.wi false = false := by unfold fitsT; simp_all
  have hT9 : fitsT (cutA s su) (cutC s su) p b.lo b.wi true = true := by unfold fitsT; simp_all
  have e1 : fitsP (cutA s su) (cutC s su) p b.lo b.wi = (true, true) := by rw [e0, hF9, hT9]; simp
  unfold lonS
  rw [e1]
  exact ⟨rfl, M.below⟩
 intro h6
 (have h6' := h6; try simp only [Zb1, Zb2, Zb3, Zb4, Zb5, Zb6, Zb7] at h6')
 refine wp_skip ?_
 refine Znb ?_
 refine nm_then ?_
 refine wp_region_lit ?_
 refine Zg2 (v2 := (.int .i64 2)) T (Zq (Zrm rfl (T.e 5 rfl))) rfl (fun _ T => Zq (rn_ofI (rn_add rfl (T.e 0 rfl) evc (by omega)) (by rfl))) rfl ?_; clear T ac; intro ac T
 refine l_q (v := (.int .i64 2)) (T.pick [0, 1, 2, 3, 4, 5, 6, 8, 9] rfl) rfl rfl rfl rfl (Zra rfl (T.e 0 rfl)) ?_; clear T ac; intro ac T
 refine wpList_nil ?_
 replace T := T.pick [0, 3, 4, 5, 6, 7] rfl
 refine nm_then ?_
 refine rounds_S ?_
 refine wp_seq ?_
 refine Zsr ?_
 refine Zg2 (v2 := (.bool false)) T (Zq (Zrm rfl (T.e 0 rfl))) rfl (fun _ T => Zq (Zrq (rn_lss rfl (T.e 0 rfl) evc) (by simp))) rfl ?_; clear T ac; intro ac T
 refine wpList_nil ?_
 replace T := T.pick [0, 2, 3, 4, 5, 6, 7] rfl
 refine nm_then ?_
 refine wp_cond_false (T.e 0 rfl) ?_
 refine wp_exit ?_
 refine Zet ?_
 refine Zet ?_
 refine ex_hit ?_
 refine nm_then ?_
 refine Zsr ?_
 refine lq (v := (.agg #[.int .i64 0, .int .i64 0, .bool false])) T (rn_build rfl .nil (fun _ => by kernel_rfl)) ?_; clear T ac; intro ac T
 refine Zl2 ?_
 refine Zos M T rfl rfl (T.e 7 rfl) (T.e 0 rfl) rfl .head rfl (by simp) rfl (by kernel_rfl) ?_; clear M T; intro wc ac M T
 refine lq T (Zra rfl evc) ?_; clear T ac; intro ac T
 refine wpList_nil ?_
 replace T := T.pick [0, 8] rfl
 replace M := M.mask [true, false, false, false] rfl
 refine Znr ?_
 refine rt_ct M T rfl (T.e 1 rfl) (T.e 0 rfl) (Zne (i := 0) rfl) rfl ?_
 have e0 : fitsP (cutA s su) (cutC s su) p b.lo b.wi = if fitsT (cutA s su) (cutC s su) p b.lo b.wi false = true then (false, true) else if fitsT (cutA s su) (cutC s su) p b.lo b.wi true = true then (true, true) else (false, false) := rfl
 have hF9 : fitsT (cutA s su) (cutC s su) p b.lo b.wi false = false := by unfold fitsT; simp_all
 have hT9 : fitsT (cutA s su) (cutC s su) p b.lo b.wi true = false := by unfold fitsT; simp_all
 have e1 : fitsP (cutA s su) (cutC s su) p b.lo b.wi = (false, false) := by rw [e0, hF9, hT9]; simp
 unfold lonS
 rw [e1]
 exact ⟨rfl, M.below⟩
def mrg : Nat → Nat → List Spt → List Spt → List Spt
 | 0, _, _, _ => []
 | n + 1, z, X, Y => if z % 2 = 1 then X.headD ⟨0, 0, false⟩ :: mrg n (z / 2) X.tail Y else Y.headD ⟨0, 0, false⟩ :: mrg n (z / 2) X Y.tail
open Classical in
noncomputable def can8 (a c : Int) (L : List Pt) (b : Bo) : Bool := decide (Cut (Fit a c) L b.lo b.wi)
theorem can8_iff {a c : Int} {L : List Pt} {b : Bo} : can8 a c L b = true ↔ Cut (Fit a c) L b.lo b.wi := by simp [can8]
noncomputable def pair8 (a c : Int) (L : List Pt) (b : Bo) (k z : Nat) : Bool := can8 a c (sel L z) (halA b k) && can8 a c (sel L (2 ^ L.length - 1 - z)) (halB b k)
def no8 (a c : Int) (L : List Pt) (b : Bo) (k z : Nat) : Prop := ∀ k' z', 0 < k' → 0 < z' → z' < 2 ^ L.length - 1 → (k' < k ∨ k' = k ∧ z' < z) → pair8 a c L b k' z' = false
inductive Ply (a c : Int) : List Pt → Bo → List Spt → Prop
 | nil {b : Bo} : Ply a c [] b []
 | one {p : Pt} {b : Bo} : Ply a c [p] b [lonS a c p b]
 | cut {L : List Pt} {b : Bo} {k z : Nat} {X Y : List Spt} : 2 ≤ L.length → 0 < k → (k : Int) ≤ b.lo - 1 + b.wi - 1 → 0 < z → z < 2 ^ L.length - 1 → pair8 a c L b k z = true → no8 a c L b k z → Ply a c (sel L z) (halA b k) X → Ply a c (sel L (2 ^ L.length - 1 - z)) (halB b k) Y → Ply a c L b (mrg L.length z X Y)
section
variable {a c : Int}
theorem can8_nil {b : Bo} : can8 a c [] b = true := can8_iff.2 .nil
theorem can8_one {p : Pt} {b : Bo} : can8 a c [p] b = (fitsP a c p b.lo b.wi).2 := by
 rw [Bool.eq_iff_iff, can8_iff, Cut.single, fitsP_iff]
theorem full_and : ∀ n, n < 6 → ∀ z, z < 32 → z < 2 ^ n → z &&& (2 ^ n - 1) = z := by decide +kernel
theorem full_pop : ∀ n, n < 6 → popP (2 ^ n - 1) = n := by decide +kernel
theorem pow5 {n : Nat} (h : n ≤ 5) : 0 < 2 ^ n ∧ 2 ^ n ≤ 32 := ⟨Nat.two_pow_pos _, Nat.pow_le_pow_right (n := 2) (by omega) h⟩
theorem halA_lt {b : Bo} {k : Int} (h : k < b.lo) : halA b k = ⟨b.x, b.y, k, b.wi⟩ ∧ halB b k = ⟨b.x + k, b.y, b.lo - k, b.wi⟩ := ⟨if_pos h, if_pos h⟩
theorem halA_ge {b : Bo} {k : Int} (h : ¬ k < b.lo) : halA b k = ⟨b.x, b.y, b.lo, k - b.lo + 1⟩ ∧ halB b k = ⟨b.x, b.y + (k - b.lo + 1), b.lo, b.wi - (k - b.lo + 1)⟩ := ⟨if_neg h, if_neg h⟩
theorem can8_cut {L : List Pt} {b : Bo} (h5 : L.length ≤ 5) (h2 : 2 ≤ L.length) (hlo : 1 ≤ b.lo) (hwi : 1 ≤ b.wi) : can8 a c L b = true ↔ ∃ k z : Nat, 0 < k ∧ (k : Int) ≤ b.lo - 1 + b.wi - 1 ∧ 0 < z ∧ z < 2 ^ L.length - 1 ∧ pair8 a c L b k z = true := by
 have hp := pow5 h5
 have hc := can_cut (a := a) (c := c) (L := L) (r := ⟨2 ^ L.length - 1, b.lo, b.wi⟩) (by show 2 ^ L.length - 1 < _; omega) h5 (by show 2 ≤ popP (2 ^ L.length - 1); rw [full_pop _ (by omega)]; exact h2)
 have e : canP a c L ⟨2 ^ L.length - 1, b.lo, b.wi⟩ ↔ can8 a c L b = true := by
  rw [can8_iff]
  unfold canP
  rw [sel_all]
 rw [e] at hc
 rw [hc]
 constructor
 ·rintro ⟨q, hq, k1, k2⟩
  rcases mem_rooms.1 hq with ⟨k, h0, h1, hq⟩ | ⟨k, h0, h1, hq⟩
  ·obtain ⟨z, ⟨z1, z2, z3⟩, rfl⟩ := mem_long.1 hq
   have hk : (k : Int) < b.lo := h1
   refine ⟨k, z, h0, by omega, z1, z2, ?_⟩
   rw [pair8, (halA_lt hk).1, (halA_lt hk).2, Bool.and_eq_true, can8_iff, can8_iff]
   exact ⟨k1, k2⟩
  ·obtain ⟨z, ⟨z1, z2, z3⟩, rfl⟩ := mem_wide.1 hq
   have hk : (k : Int) < b.wi := h1
   have hk2 : ¬ ((b.lo.toNat - 1 + k : Nat) : Int) < b.lo := by omega
   refine ⟨b.lo.toNat - 1 + k, z, by omega, by omega, z1, z2, ?_⟩
   rw [pair8, (halA_ge hk2).1, (halA_ge hk2).2, Bool.and_eq_true, can8_iff, can8_iff, show ((b.lo.toNat - 1 + k : Nat) : Int) - b.lo + 1 = (k : Int) by omega]
   exact ⟨k1, k2⟩
 ·rintro ⟨k, z, h0, h1, z1, z2, h⟩
  have z3 := full_and L.length (by omega) z (by omega) (by omega)
  by_cases hk : (k : Int) < b.lo
  ·rw [pair8, (halA_lt hk).1, (halA_lt hk).2, Bool.and_eq_true, can8_iff, can8_iff] at h
   exact ⟨_, mem_rooms.2 (.inl ⟨k, h0, hk, mem_long.2 ⟨z, ⟨z1, z2, z3⟩, rfl⟩⟩), h.1, h.2⟩
  ·rw [pair8, (halA_ge hk).1, (halA_ge hk).2, Bool.and_eq_true, can8_iff, can8_iff] at h
   have e9 : ((k + 1 - b.lo.toNat : Nat) : Int) = k - b.lo + 1 := by omega
   rw [← e9] at h
   exact ⟨_, mem_rooms.2 (.inr ⟨k + 1 - b.lo.toNat, by omega, by show ((k + 1 - b.lo.toNat : Nat) : Int) < b.wi; omega, mem_wide.2 ⟨z, ⟨z1, z2, z3⟩, rfl⟩⟩), h.1, h.2⟩
theorem can8_not {L : List Pt} {b : Bo} (h5 : L.length ≤ 5) (h2 : 2 ≤ L.length) (hlo : 1 ≤ b.lo) (hwi : 1 ≤ b.wi) {k : Nat} (hk : b.lo - 1 + b.wi - 1 < k) {z : Nat} (h : no8 a c L b k z) : can8 a c L b = false := by
 rw [Bool.eq_false_iff]
 intro h9
 obtain ⟨k', z', k1, k2, z1, z2, h8⟩ := (can8_cut h5 h2 hlo hwi).1 h9
 rw [h k' z' k1 z1 z2 (.inl (by omega))] at h8
 cases h8
end
def shlI (x n : Int) : Int := IntKind.i64.wrap (x * 2 ^ min n.toNat 64)
def shrI (x n : Int) : Int := x.fdiv (2 ^ min n.toNat 64)
section
variable {P : Program} {op : Oper} {a : Act} {w : World} {t t' : TypeId} {x y : Operand} {p q : Int}
theorem rn_shl (ho : op.op = .binOp .shl t x y t') (hx : a.eval x = .int .i64 p) (hy : a.eval y = .int .i64 q) (hb : 0 ≤ q) : Runs P op a (.int .i64 (shlI p q)) w :=
 rn_bin ho hx hy (by
  show (Op.shift .shl .i64 p .i64 q).run P w = _
  unfold Op.shift
  rw [if_neg (by omega)]
  rfl)
theorem rn_shr (ho : op.op = .binOp .shr t x y t') (hx : a.eval x = .int .i64 p) (hy : a.eval y = .int .i64 q) (hb : 0 ≤ q) : Runs P op a (.int .i64 (shrI p q)) w :=
 rn_bin ho hx hy (by
  show (Op.shift .shr .i64 p .i64 q).run P w = _
  unfold Op.shift
  rw [if_neg (by omega)]
  rfl)
end
theorem sel_snoc {α : Type} : ∀ (l : List α) (x : α) (z : Nat), sel (l ++ [x]) z = sel l z ++ if z / 2 ^ l.length % 2 = 1 then [x] else []
 | [], x, z => by simp [sel]
 | y :: l, x, z => by
  simp only [sel, List.cons_append, List.length_cons]
  rw [sel_snoc l x (z / 2), Nat.div_div_eq_div_mul, show 2 * 2 ^ l.length = 2 ^ (l.length + 1) by rw [Nat.pow_succ]; omega]
  by_cases h : z % 2 = 1
  ·rw [if_pos h, if_pos h]; rfl
  ·rw [if_neg h, if_neg h]
theorem bit8 : ∀ i, i < 5 → ∀ z, z < 32 → andI (shrI (z : Nat) (i : Nat)) 1 = ((z / 2 ^ i % 2 : Nat) : Int) := by decide +kernel
theorem shl8 : ∀ n, n < 6 → shlI 1 (n : Nat) = ((2 ^ n : Nat) : Int) := by decide +kernel
theorem comp8 : ∀ n, n < 6 → ∀ i, i < n → ∀ z, z < 32 → z < 2 ^ n → (2 ^ n - 1 - z) / 2 ^ i % 2 = 1 - z / 2 ^ i % 2 := by decide +kernel
theorem cnt8 : ∀ n, n < 6 → ∀ z, z < 32 → 0 < z → z < 2 ^ n - 1 → 0 < cntP n z ∧ cntP n z < n ∧ cntP n (2 ^ n - 1 - z) = n - cntP n z := by decide +kernel
theorem cntP_le : ∀ n z, cntP n z ≤ n
 | 0, _ => Nat.le_refl _
 | n + 1, z => by
  have := cntP_le n (z / 2)
  show z % 2 + cntP n (z / 2) ≤ n + 1
  omega
theorem cnt_step {m i z : Nat} (h : i < m) : cntP (m - i) (z / 2 ^ i) = z / 2 ^ i % 2 + cntP (m - (i + 1)) (z / 2 ^ (i + 1)) := by
 rw [show m - i = (m - (i + 1)) + 1 by omega, Nat.pow_succ, ← Nat.div_div_eq_div_mul]
 rfl
theorem mrg_stepX {m i z : Nat} {X Y : List Spt} {q : Spt} (h : i < m) (hb : z / 2 ^ i % 2 = 1) (hX : X[0]? = some q) : mrg (m - i) (z / 2 ^ i) X Y = q :: mrg (m - (i + 1)) (z / 2 ^ (i + 1)) (X.drop 1) Y := by
 rw [show m - i = (m - (i + 1)) + 1 by omega, Nat.pow_succ, ← Nat.div_div_eq_div_mul]
 cases X with
 | nil => simp at hX
 | cons x X =>
  simp only [List.getElem?_cons_zero, Option.some.injEq] at hX
  subst hX
  simp only [mrg, if_pos hb]
  rfl
theorem mrg_stepY {m i z : Nat} {X Y : List Spt} {q : Spt} (h : i < m) (hb : ¬ z / 2 ^ i % 2 = 1) (hY : Y[0]? = some q) : mrg (m - i) (z / 2 ^ i) X Y = q :: mrg (m - (i + 1)) (z / 2 ^ (i + 1)) X (Y.drop 1) := by
 rw [show m - i = (m - (i + 1)) + 1 by omega, Nat.pow_succ, ← Nat.div_div_eq_div_mul]
 cases Y with
 | nil => simp at hY
 | cons x Y =>
  simp only [List.getElem?_cons_zero, Option.some.injEq] at hY
  subst hY
  simp only [mrg, if_neg hb]
  rfl
theorem tc_drop : ∀ (l : List Spt) (k : Nat), (tc l).drop (k * 3) = tc (l.drop k)
 | l, 0 => by simp
 | [], k + 1 => by simp [tc]
 | x :: l, k + 1 => by
  rw [show (k + 1) * 3 = k * 3 + 3 by omega, List.drop_succ_cons, ← tc_drop l k]
  rfl
theorem tc_take : ∀ (l : List Spt) (k : Nat), (tc l).take (k * 3) = tc (l.take k)
 | l, 0 => by simp [tc]
 | [], k + 1 => by simp [tc]
 | x :: l, k + 1 => by
  rw [show (k + 1) * 3 = k * 3 + 3 by omega, List.take_succ_cons, show tc (x :: l.take k) = _ :: _ :: _ :: tc (l.take k) from rfl, ← tc_take l k]
  rfl
theorem tc_part (l : List Spt) (k h : Nat) : ((tc l).drop (k * 3)).take ((h - k) * 3) = tc ((l.drop k).take (h - k)) := by
 rw [tc_drop, tc_take]
theorem sel_map {α β : Type} (f : α → β) : ∀ (l : List α) (z : Nat), (sel l z).map f = sel (l.map f) z
 | [], _ => rfl
 | x :: l, z => by
  simp only [sel, List.map_cons]
  split
  ·rw [List.map_cons, sel_map f l]
  ·exact sel_map f l _
theorem gP_sel {s : Sk} {g : List Int} {z : Nat} : gP s (sel g z) = sel (gP s g) z := sel_map _ _ _
theorem gP_len {s : Sk} {g : List Int} : (gP s g).length = g.length := List.length_map _
def Bo.ok (b : Bo) : Prop := (0 ≤ b.x ∧ 0 ≤ b.y) ∧ (1 ≤ b.lo ∧ 1 ≤ b.wi) ∧ b.x + b.lo ≤ 12 ∧ b.y + b.wi ≤ 12
theorem Bo.ok.few {b : Bo} (h : b.ok) : b.few := by
 unfold Bo.ok at h
 unfold Bo.few
 omega
theorem halA_ok {b : Bo} {k : Int} (h : b.ok) (h0 : 0 < k) (h1 : k ≤ b.lo - 1 + b.wi - 1) : (halA b k).ok ∧ (halB b k).ok := by
 unfold Bo.ok at *
 by_cases hk : k < b.lo
 · rw [(halA_lt hk).1, (halA_lt hk).2]; dsimp only; omega
 · rw [(halA_ge hk).1, (halA_ge hk).2]; dsimp only; omega
theorem no8_succ {a c : Int} {L : List Pt} {b : Bo} {k z : Nat} (h : no8 a c L b k z) (hz : pair8 a c L b k z = false) : no8 a c L b k (z + 1) := fun k' z' h1 h2 h3 h4 => by
 by_cases h5 : k' = k ∧ z' = z
 · rw [h5.1, h5.2]; exact hz
 · exact h k' z' h1 h2 h3 (by omega)
theorem no8_next {a c : Int} {L : List Pt} {b : Bo} {k z : Nat} (h : no8 a c L b k z) (hz : 2 ^ L.length - 1 ≤ z) : no8 a c L b (k + 1) 1 := fun k' z' h1 h2 h3 h4 => h k' z' h1 h2 h3 (by omega)
theorem no8_zero {a c : Int} {L : List Pt} {b : Bo} : no8 a c L b 1 1 := fun k' z' h1 h2 h3 h4 => by omega
theorem ply_cut {s : Sk} {g : List Int} {a c : Int} {b : Bo} {k z : Nat} {X Y : List Spt} (h2 : 2 ≤ g.length) (h0 : 0 < k) (hk : (k : Int) ≤ b.lo - 1 + b.wi - 1) (z0 : 0 < z) (z1 : z < 2 ^ g.length - 1) (hp : pair8 a c (gP s g) b k z = true) (hno : no8 a c (gP s g) b k z) (hX : Ply a c (gP s (sel g z)) (halA b k) X) (hY : Ply a c (gP s (sel g (2 ^ g.length - 1 - z))) (halB b k) Y) : Ply a c (gP s g) b (mrg g.length z X Y) := by
 have := Ply.cut (L := gP s g) (b := b) (by rw [gP_len]; exact h2) h0 hk z0 (by rw [gP_len]; exact z1) hp hno (by rw [← gP_sel]; exact hX) (by rw [gP_len, ← gP_sel]; exact hY)
 rwa [gP_len] at this
theorem can8_of {s : Sk} {g : List Int} {a c : Int} {b : Bo} {k z : Nat} (h5 : g.length ≤ 5) (h2 : 2 ≤ g.length) (hb : b.ok) (h0 : 0 < k) (hk : (k : Int) ≤ b.lo - 1 + b.wi - 1) (z0 : 0 < z) (z1 : z < 2 ^ g.length - 1) (hp : pair8 a c (gP s g) b k z = true) : can8 a c (gP s g) b = true :=
 (can8_cut (by rw [gP_len]; exact h5) (by rw [gP_len]; exact h2) hb.2.1.1 hb.2.1.2).2 ⟨k, z, h0, hk, z0, by rw [gP_len]; exact z1, hp⟩
def PlyPost (a c : Int) (L : List Pt) (b : Bo) (w : World) (e : Ending) (w' : World) : Prop := ∃ A n X I, e = .returned (.tuple #[.slice A X.length n, .bool (can8 a c L b)]) ∧ X.length ≤ n ∧ X.length ≤ L.length ∧ (can8 a c L b = true → Ply a c L b X ∧ X.length = L.length) ∧ (∃ b' o, ∀ (w : World) (ex : Nat → Prop), Sp w ex I A X.length 3 b' o (tc X)) ∧ Mem w noEx w' I
def PlySpec (s : Sk) (A : Option Addr) (d : Nat) (su : Bool) (m : Nat) : Prop := ∀ (g : List Int) (G : Option Addr) (n : Nat) (b : Bo) (w : World), g.length < m → g.length ≤ 5 → (∀ x ∈ g, 0 ≤ x ∧ x < (s.ps.length : Int)) → b.ok → Rd w w.heap.size 4 A s.ps.length (pc s.ps) → Rd w w.heap.size 1 G g.length (ic g) →
 Calls Tryd.prog 67 #[.agg #[.int .i64 s.lo, .int .i64 s.wi, .int .i64 s.a0, .int .i64 s.a1, .int .i64 s.c0, .int .i64 s.c1, .slice A s.ps.length d], .slice G g.length n, .agg #[.int .i64 b.x, .int .i64 b.y, .int .i64 b.lo, .int .i64 b.wi], .bool su] w (PlyPost (cutA s su) (cutC s su) (gP s g) b w)
set_option maxHeartbeats 4000000 in
theorem ply_step (s : Sk) (A : Option Addr) (d : Nat) (su : Bool) (m : Nat) (g : List Int) (G : Option Addr) (n : Nat) (b : Bo)  (w : World) (hsg : s.good) (ih : PlySpec s A d su m) (hm : g.length < m + 1) (hgl5 : g.length ≤ 5) (hgi : ∀ x ∈ g, 0 ≤ x ∧ x < (s.ps.length : Int)) (hb : b.ok) (hA : Rd w w.heap.size 4 A s.ps.length (pc s.ps)) (hG : Rd w w.heap.size 1 G g.length (ic g))  :
   Calls Tryd.prog 67 #[.agg #[.int .i64 s.lo, .int .i64 s.wi, .int .i64 s.a0, .int .i64 s.a1, .int .i64 s.c0, .int .i64 s.c1, .slice A s.ps.length d], .slice G g.length n, .agg #[.int .i64 b.x, .int .i64 b.y, .int .i64 b.lo, .int .i64 b.wi], .bool su] w (PlyPost (cutA s su) (cutC s su) (gP s g) b w) := by
 obtain ⟨bA, oA, SA⟩ := Sp.old hA
 obtain ⟨bG, oG, SG⟩ := Sp.old hG
 have hln := hsg.len
 obtain ⟨hb1, hb2, hb3, hb4⟩ := id hb
 have hsh := shl8 g.length (by omega)
 have hpw := pow5 hgl5
 refine Zpx noEx Tryd.func67 rfl 145 rfl [.agg #[.int .i64 s.lo, .int .i64 s.wi, .int .i64 s.a0, .int .i64 s.a1, .int .i64 s.c0, .int .i64 s.c1, .slice A s.ps.length d], .slice G g.length n, .agg #[.int .i64 b.x, .int .i64 b.y, .int .i64 b.lo, .int .i64 b.wi], .bool su] rfl rfl (Mem.init w _) ?_
 intro ac wc T M
 refine Zsr ?_
 refine Zl2 ?_
 refine Zob M T rfl rfl rfl rfl (T.e 0 rfl) rfl ?_; clear M T; intro g1 wc ac M T
 refine Zl2 ?_
 refine Zob M T rfl rfl rfl rfl (T.e 3 rfl) rfl ?_; clear M T; intro g2 wc ac M T
 refine Zg2 T (Zq (Zra rfl evc)) rfl (Zc rfl) rfl ?_; clear T ac; intro ac T
 refine wpList_nil ?_
 replace T := T.pick [2, 3, 5, 7] rfl
 refine Zns ?_
 refine Zsr ?_
 refine Zg3 T (Zq (Zrm rfl (T.e 2 rfl))) rfl (Zl Tryd.underlying27 0 rfl rfl) rfl (fun _ T => Zq (rn_eql rfl (T.e 0 rfl) evc)) rfl ?_; clear T ac; intro ac T
 refine wpList_nil ?_
 replace T := T.pick [0, 3, 4, 5, 6] rfl
 refine nm_then ?_
 refine wp_if (T.e 0 rfl) ?_ ?_
 ·intro h1
  refine Zsr ?_
  refine Zg2 T (Zq (Zra rfl evc)) rfl (Zc rfl) rfl ?_; clear T ac; intro ac T
  refine wpList_nil ?_
  replace T := T.pick [0, 1] rfl
  replace M := M.mask [false, false] rfl
  refine Znr ?_
  refine Zrt ?_
  refine rt_2 T rfl (T.e 1 rfl) (T.e 0 rfl) ?_
  have hg0 : gP s g = [] := List.eq_nil_of_length_eq_zero (by rw [gP_len]; omega)
  unfold PlyPost
  rw [hg0, can8_nil]
  exact ⟨none, 0, [], [], rfl, Nat.le_refl _, Nat.le_refl _, fun _ => ⟨.nil, rfl⟩, ⟨0, 0, fun _ _ => Sp.nil⟩, M.sub (List.nil_sublist _)⟩
 intro h1
 refine Zsk ?_
 refine wp_seq ?_
 refine Zsr ?_
 refine Zg3 T (Zq (Zrm rfl (T.e 3 rfl))) rfl (Zl Tryd.underlying27 0 rfl rfl) rfl (fun _ T => Zq (rn_eql rfl (T.e 0 rfl) evc)) rfl ?_; clear T ac; intro ac T
 refine wpList_nil ?_
 replace T := T.pick [0, 4, 5, 6, 7] rfl
 refine nm_then ?_
 refine wp_if (T.e 0 rfl) ?_ ?_
 ·intro h2
  obtain ⟨x0, hx0, -⟩ := ic_next (l := g) (k := 0) (by omega)
  have hx0r := hgi x0 (List.mem_of_getElem? hx0)
  obtain ⟨k0, hk8⟩ : ∃ k0 : Nat, x0 = (k0 : Int) := ⟨x0.toNat, by omega⟩
  obtain ⟨p, hkp, -⟩ := pc_next (l := s.ps) (k := k0) (by omega)
  have hpg : p.good := hsg.ps p (List.mem_of_getElem? hkp)
  have hgp : gP s g = [p] := by obtain ⟨y9, hy9⟩ := List.length_eq_one_iff.1 (show g.length = 1 by omega); subst hy9; simp at hx0; subst hx0; show [s.ps.getD y9.toNat default] = [p]; rw [List.getD_eq_getElem?_getD, show y9.toNat = k0 by omega, hkp]; rfl
  refine wp_seq ?_
  refine Zgs M (M.mask [true, true] rfl) 17 (by kernel_rfl) rfl (by kernel_rfl) ?_
  clear M; intro wc M
  refine g_have (fun ac wc => ∃ (gr4_14 : Nat), Tm ac 145 [(10, .pointer (some ⟨gr4_14, 0, none⟩)), (43, .bool ((fitsP (cutA s su) (cutC s su) p b.lo b.wi).2)), (42, .agg #[.int .i64 ((lonS (cutA s su) (cutC s su) p b).x), .int .i64 ((lonS (cutA s su) (cutC s su) p b).y), .bool ((lonS (cutA s su) (cutC s su) p b).t)]), (30, .tuple #[.agg #[.int .i64 ((lonS (cutA s su) (cutC s su) p b).x), .int .i64 ((lonS (cutA s su) (cutC s su) p b).y), .bool ((lonS (cutA s su) (cutC s su) p b).t)], .bool ((fitsP (cutA s su) (cutC s su) p b.lo b.wi).2)]), (41, .tuple #[.agg #[.int .i64 ((lonS (cutA s su) (cutC s su) p b).x), .int .i64 ((lonS (cutA s su) (cutC s su) p b).y), .bool ((lonS (cutA s su) (cutC s su) p b).t)], .bool ((fitsP (cutA s su) (cutC s su) p b.lo b.wi).2)]), (40, .bool su), (39, .agg #[.int .i64 b.x, .int .i64 b.y, .int .i64 b.lo, .int .i64 b.wi]), (38, .agg #[.int .i64 p.l, .int .i64 p.w, .bool p.gr, .int .i64 p.pa]), (37, .pointer (some ⟨bA, oA + k0 * 4, none⟩)), (36, .int .i64 x0), (35, .pointer (some ⟨bG, oG + 0 * 1, none⟩)), (34, .slice G g.length n), (33, .slice A s.ps.length d), (32, .pointer (some ⟨g1, 6, none⟩)), (31, .agg #[.int .i64 s.lo, .int .i64 s.wi, .int .i64 s.a0, .int .i64 s.a1, .int .i64 s.c0, .int .i64 s.c1, .slice A s.ps.length d]), (29, .bool (decide (((g.length : Nat) : Int) = 1))), (6, .pointer (some ⟨g2, 0, none⟩)), (4, .pointer (some ⟨g1, 0, none⟩)), (1, .slice G g.length n), (3, .bool su)] ∧ Mem w noEx wc [(gr4_14, .cells [.int .i64 0, .int .i64 0, .bool false]), (g2, .cells [.int .i64 b.x, .int .i64 b.y, .int .i64 b.lo, .int .i64 b.wi]), (g1, .cells [.int .i64 s.lo, .int .i64 s.wi, .int .i64 s.a0, .int .i64 s.a1, .int .i64 s.c0, .int .i64 s.c1, .slice A s.ps.length d])]) (Zpb 17 32767) 2 ?_ ?_
  ·clear T M
   rintro ac wc ⟨gr4_14, T, M⟩
   refine gw 15 65535 ?_; intro K hK
   refine Zos M T rfl rfl (T.e 0 rfl) (T.e 2 rfl) rfl .head rfl (by simp) rfl (by kernel_rfl) ?_; clear M T; intro wc ac M T
   refine Zso hK _ _ (M.mask [false, true, true] rfl) ?_; clear hK K
   refine gq T 16 131071 rfl (fun _ _ _ _ _ => (Zra rfl (T.e 1 rfl))) ?_; clear T ac; intro ac T
   refine Zgd (by kernel_rfl) ?_
   replace T := T.pick [0, 1] rfl
   replace M := M.mask [true, false, false] rfl
   refine nm_then ?_
   refine Zsr ?_
   refine lq T (Zrr (Mem.nth M 0 rfl) rfl (T.e 1 rfl) rfl) ?_; clear T ac; intro ac T
   refine Zl2 ?_
   refine ow_bs (e := 30) [.int .i64 ((lonS (cutA s su) (cutC s su) p b).x), .int .i64 ((lonS (cutA s su) (cutC s su) p b).y), .bool ((lonS (cutA s su) (cutC s su) p b).t)] M T rfl rfl rfl rfl (.cons (T.e 0 rfl) .nil) (fun _ => by kernel_rfl) ?_; clear M T; intro g3 wc ac M T
   refine Zg3 T (Zq (Zrm rfl (T.e 2 rfl))) rfl (Za 1 rfl rfl) rfl (Za 1 rfl rfl) rfl ?_; clear T ac; intro ac T
   refine wpList_nil ?_
   replace T := T.pick [0, 1] rfl
   replace M := M.mask [true, false] rfl
   refine Znr ?_
   refine Zrt ?_
   refine rt_2 T rfl (T.e 1 rfl) (T.e 0 rfl) ?_
   have hg1 : gP s g = [p] := hgp
   unfold PlyPost
   rw [hg1, can8_one]
   exact ⟨_, _, [lonS (cutA s su) (cutC s su) p b], [(g3, .cells (tc [lonS (cutA s su) (cutC s su) p b]))], rfl, Nat.le_refl _, Nat.le_refl _, fun _ => ⟨.one, rfl⟩, ⟨g3, 0, fun w ex => Sp.cells (xs := tc [lonS (cutA s su) (cutC s su) p b]) rfl⟩, by exact M⟩
  intro H0
  refine gq T 0 1 rfl (fun B w' hD hl hS => (Zrr (Mem.nth (show Mem w noEx w' _ from hS) 1 rfl) rfl (T.e 2 rfl) rfl)) ?_; clear T ac; intro ac T
  refine gq (v := (.pointer (some ⟨g1, 6, none⟩))) T 1 3 rfl (fun _ _ _ _ _ => (Zrf (off := 6) rfl (T.e 3 rfl) (fun _ _ _ => by kernel_rfl))) ?_; clear T ac; intro ac T
  refine gq T 2 7 rfl (fun B w' hD hl hS => (Zro (Mem.nth (show Mem w noEx w' _ from hS) 1 rfl) rfl (T.e 0 rfl) rfl)) ?_; clear T ac; intro ac T
  refine gq T 3 15 rfl (fun _ _ _ _ _ => (Zrm rfl (T.e 6 rfl))) ?_; clear T ac; intro ac T
  refine gq T 4 31 rfl (fun _ _ _ _ _ => (Zri (size := 1) 0 rfl (T.e 0 rfl) evc ⟨_, Tryd.underlying27, by kernel_rfl⟩ rfl (by omega) (SG.at0 (by omega)))) ?_; clear T ac; intro ac T
  refine gq T 5 63 rfl (fun B w' hD hl hS => (rn_cell (Sp.ic0 SG (show Mem w noEx w' _ from hS) (List.nil_sublist _) hx0) rfl (T.e 0 rfl))) ?_; clear T ac; intro ac T
  refine gq T 6 127 rfl (fun _ _ _ _ _ => (Zri (size := 4) k0 rfl (T.e 3 rfl) (T.e 0 rfl) ⟨_, Tryd.underlying24, by kernel_rfl⟩ hk8 (by omega) (SA.at0 (by omega)))) ?_; clear T ac; intro ac T
  refine gq (v := (.agg #[.int .i64 p.l, .int .i64 p.w, .bool p.gr, .int .i64 p.pa])) T 7 255 rfl (fun B w' hD hl hS => (rn_rowat (Sp.pcR SA (show Mem w noEx w' _ from hS) (List.nil_sublist _) hkp) rfl (T.e 0 rfl) rfl)) ?_; clear T ac; intro ac T
  refine gq T 8 511 rfl (fun B w' hD hl hS => (Zrr (Mem.nth (show Mem w noEx w' _ from hS) 0 rfl) rfl (T.e 9 rfl) rfl)) ?_; clear T ac; intro ac T
  refine gq T 9 1023 rfl (fun _ _ _ _ _ => (Zrm rfl (T.e 13 rfl))) ?_; clear T ac; intro ac T
  refine g_m2 (i := 10) (j := 14) (by kernel_rfl) ?_ ?_
  ·refine gi 2047 ?_; intro K hK
   refine Zoc (first := []) (cap := []) T rfl rfl rfl rfl evf (.cons (T.e 9 rfl) (.cons (T.e 2 rfl) (.cons (T.e 1 rfl) (.cons (T.e 0 rfl) .nil)))) Tryd.func97 rfl rfl ?_
   refine Calls.mono (lone8_any s A d p b su _ hsg hpg) ?_
   clear T; rintro e wc ⟨rfl, hb⟩ ac T
   replace M := M.call hb; clear hb
   refine Zso hK _ _ (M.mask [true, true] rfl) ?_; clear hK K
   refine gq T 11 4095 rfl (fun _ _ _ _ _ => (Zrm rfl (T.e 0 rfl))) ?_; clear T ac; intro ac T
   refine gq T 12 8191 rfl (fun _ _ _ _ _ => (Zre rfl (T.e 0 rfl) rfl)) ?_; clear T ac; intro ac T
   refine gq T 13 16383 rfl (fun _ _ _ _ _ => (Zre rfl (T.e 1 rfl) rfl)) ?_; clear T ac; intro ac T
   refine gw 14 32767 ?_; intro K hK
   refine Zoa M T rfl rfl rfl rfl ?_; clear M T; intro gr4_14 wc ac M T
   refine Zso hK _ _ (M.mask [false, true, true] rfl) ?_; clear hK K
   exact H0 _ _ ⟨gr4_14, T, M⟩
  refine gi 17407 ?_; intro K hK
  refine Zoa M T rfl rfl rfl rfl ?_; clear M T; intro gr4_14 wc ac M T
  refine Zso hK _ _ (M.mask [false, true, true] rfl) ?_; clear hK K
  refine gw 10 18431 ?_; intro K hK
  refine Zoc (first := []) (cap := []) T rfl rfl rfl rfl evf (.cons (T.e 10 rfl) (.cons (T.e 3 rfl) (.cons (T.e 2 rfl) (.cons (T.e 1 rfl) .nil)))) Tryd.func97 rfl rfl ?_
  refine Calls.mono (lone8_any s A d p b su _ hsg hpg) ?_
  clear T; rintro e wc ⟨rfl, hb⟩ ac T
  replace M := M.call hb; clear hb
  refine Zso hK _ _ (M.mask [false, true, true] rfl) ?_; clear hK K
  refine gq T 11 20479 rfl (fun _ _ _ _ _ => (Zrm rfl (T.e 0 rfl))) ?_; clear T ac; intro ac T
  refine gq T 12 24575 rfl (fun _ _ _ _ _ => (Zre rfl (T.e 0 rfl) rfl)) ?_; clear T ac; intro ac T
  refine gq T 13 32767 rfl (fun _ _ _ _ _ => (Zre rfl (T.e 1 rfl) rfl)) ?_; clear T ac; intro ac T
  exact H0 _ _ ⟨gr4_14, T.pick [4, 0, 1, 2, 3, 5, 6, 7, 8, 9, 10, 11, 12, 13, 14, 15, 16, 17, 18, 19] rfl, M⟩
 intro h2
 refine Zsk ?_
 refine wp_seq ?_
 refine Zsr ?_
 refine lq T (Zra rfl evc) ?_; clear T ac; intro ac T
 refine wpList_nil ?_
 replace T := T.pick [0, 2, 3, 4, 5] rfl
 refine nm_then ?_
 refine wp_block ?_
 refine wp_loop_n (fun mz ac wc => ∃ (k : Nat), mz = 100 - k ∧ (0 < k) ∧ ((k : Int) ≤ b.lo - 1 + b.wi - 1 + 1) ∧ (no8 (cutA s su) (cutC s su) (gP s g) b k 1) ∧ Tm ac 145 [(1, .slice G g.length n), (3, .bool su), (4, .pointer (some ⟨g1, 0, none⟩)), (6, .pointer (some ⟨g2, 0, none⟩)), (12, .int .i64 (k : Int))] ∧ Mem w noEx wc [(g2, .cells [.int .i64 b.x, .int .i64 b.y, .int .i64 b.lo, .int .i64 b.wi]), (g1, .cells [.int .i64 s.lo, .int .i64 s.wi, .int .i64 s.a0, .int .i64 s.a1, .int .i64 s.c0, .int .i64 s.c1, .slice A s.ps.length d])]) ?_ ?_
 ·exact ⟨_, 1, rfl, (by omega), (by omega), no8_zero, T.pick [3, 4, 2, 1, 0] rfl, M.mask [true, true] rfl⟩
 clear T M
 rintro mz ac wc ⟨k, hmm1, hk0, hk1, H, T, M⟩
 refine wp_seq ?_
 refine Zsr ?_
 refine Zg8 (v2 := (.pointer (some ⟨g2, 2, none⟩))) (v5 := (.pointer (some ⟨g2, 3, none⟩))) T (Zq (Zrm rfl (T.e 4 rfl))) rfl (Zf 2 4 rfl rfl) rfl (Zo M 0 0 rfl rfl rfl rfl) rfl (fun _ T => Zq (rn_sub rfl (T.e 0 rfl) evc (by omega))) rfl (Zf 3 7 rfl rfl) rfl (Zo M 0 0 rfl rfl rfl rfl) rfl (fun _ T => Zq (rn_add rfl (T.e 2 rfl) (T.e 0 rfl) (by omega))) rfl (fun _ T => Zq (rn_sub rfl (T.e 0 rfl) evc (by omega))) rfl ?_; clear T ac; intro ac T
 refine lq T (rn_leq rfl (T.e 7 rfl) (T.e 0 rfl)) ?_; clear T ac; intro ac T
 refine wpList_nil ?_
 replace T := T.pick [0, 9, 10, 11, 12, 13] rfl
 refine nm_then ?_
 refine wp_if (T.e 0 rfl) ?_ ?_
 ·intro h3
  have hpw2 : 4 ≤ 2 ^ g.length := Nat.pow_le_pow_right (n := 2) (by omega) (show 2 ≤ g.length by omega)
  have hok9 := halA_ok hb (k := (k : Int)) (by omega) (by omega)
  refine Zsk ?_
  refine wp_seq ?_
  refine wp_block ?_
  refine Zsr ?_
  refine Zg2 T (Zq (Zrr (Mem.nth M 0 rfl) rfl (T.e 4 rfl) rfl)) rfl (Zm 6 rfl rfl) rfl ?_; clear T ac; intro ac T
  refine Zl2 ?_
  refine Zoc (first := []) (cap := []) T rfl rfl rfl rfl evf (.cons (T.e 1 rfl) (.cons (T.e 0 rfl) .nil)) Tryd.func98 rfl rfl ?_
  refine Calls.mono (halves8_any b (k : Int) _ hb.few (by omega)) ?_
  clear T; rintro e wc ⟨rfl, hb⟩ ac T
  replace M := M.call hb; clear hb
  refine Zg3 T (Zq (Zrm rfl (T.e 0 rfl))) rfl (Ze 0 rfl rfl rfl) rfl (Ze 1 rfl rfl rfl) rfl ?_; clear T ac; intro ac T
  refine Zl2 ?_
  refine Zoa M T rfl rfl rfl rfl ?_; clear M T; intro g4 wc ac M T
  refine Zl2 ?_
  refine Zoa M T rfl rfl rfl rfl ?_; clear M T; intro g5 wc ac M T
  refine Zl2 ?_
  refine Zos M T rfl rfl (T.e 1 rfl) (T.e 3 rfl) rfl (.tail .head) rfl (by simp) rfl (by kernel_rfl) ?_; clear M T; intro wc ac M T
  refine Zl2 ?_
  refine Zos M T rfl rfl (T.e 0 rfl) (T.e 2 rfl) rfl .head rfl (by simp) rfl (by kernel_rfl) ?_; clear M T; intro wc ac M T
  refine wpList_nil ?_
  replace T := T.pick [0, 1, 9, 10, 11, 12, 13] rfl
  refine nm_then ?_
  refine Zsr ?_
  refine lq T (Zra rfl evc) ?_; clear T ac; intro ac T
  refine Zln ?_
  refine wp_block ?_
  refine wp_loop_n (fun mz ac wc => ∃ (z : Nat), mz = 100 - z ∧ (0 < z) ∧ (z ≤ 2 ^ g.length - 1) ∧ (no8 (cutA s su) (cutC s su) (gP s g) b k z) ∧ Tm ac 145 [(1, .slice G g.length n), (3, .bool su), (4, .pointer (some ⟨g1, 0, none⟩)), (6, .pointer (some ⟨g2, 0, none⟩)), (12, .int .i64 (k : Int)), (13, .pointer (some ⟨g4, 0, none⟩)), (14, .pointer (some ⟨g5, 0, none⟩)), (15, .int .i64 (z : Int))] ∧ Mem w noEx wc [(g5, .cells [.int .i64 ((halB b (k : Int)).x), .int .i64 ((halB b (k : Int)).y), .int .i64 ((halB b (k : Int)).lo), .int .i64 ((halB b (k : Int)).wi)]), (g4, .cells [.int .i64 ((halA b (k : Int)).x), .int .i64 ((halA b (k : Int)).y), .int .i64 ((halA b (k : Int)).lo), .int .i64 ((halA b (k : Int)).wi)]), (g2, .cells [.int .i64 b.x, .int .i64 b.y, .int .i64 b.lo, .int .i64 b.wi]), (g1, .cells [.int .i64 s.lo, .int .i64 s.wi, .int .i64 s.a0, .int .i64 s.a1, .int .i64 s.c0, .int .i64 s.c1, .slice A s.ps.length d])]) ?_ ?_
  ·exact ⟨_, 1, rfl, (by omega), (by omega), H, T.pick [3, 4, 5, 6, 7, 2, 1, 0] rfl, M.mask [true, true, true, true] rfl⟩
  clear T M
  rintro mz ac wc ⟨z, hmm2, hz0, hz1, H2, T, M⟩
  refine wp_seq ?_
  refine Zsr ?_
  refine Zg6 T (Zq (Zrm rfl (T.e 7 rfl))) rfl (Zm 1 rfl rfl) rfl (Zl Tryd.underlying27 0 rfl rfl) rfl (fun _ T => Zq (rn_shl rfl evc (T.e 0 rfl) (by omega))) rfl (fun _ T => Zq (rn_sub rfl (T.e 0 rfl) evc (by omega))) rfl (fun _ T => Zq (rn_lss rfl (T.e 4 rfl) (T.e 0 rfl))) rfl ?_; clear T ac; intro ac T
  refine wpList_nil ?_
  replace T := T.pick [0, 6, 7, 8, 9, 10, 11, 12, 13] rfl
  refine nm_then ?_
  refine wp_if (T.e 0 rfl) ?_ ?_
  ·intro h4
   obtain ⟨hc1, hc2, hc3⟩ := cnt8 g.length (by omega) z (by omega) hz0 (by omega)
   refine Zsk ?_
   refine wp_seq ?_
   refine wp_block ?_
   refine Zsr ?_
   refine Zg2 T (Zq (Zra rfl evc)) rfl (Zc rfl) rfl ?_; clear T ac; intro ac T
   refine wpList_nil ?_
   replace T := T.pick [0, 1, 3, 4, 5, 6, 7, 8, 9, 10] rfl
   refine Zns ?_
   refine Zsr ?_
   refine lq T (Zra rfl evc) ?_; clear T ac; intro ac T
   refine Zln ?_
   refine wp_block ?_
   refine wp_loop_n (fun mz ac wc => ∃ (i : Nat) (AL BL : List Int) (A3 : Option Addr) (c3 : Nat) (A4 : Option Addr) (c4 : Nat) (Ia Ib : List (Nat × BA)), mz = g.length - i ∧ (i ≤ g.length) ∧ (AL = sel (g.take i) z) ∧ (BL = sel (g.take i) (2 ^ g.length - 1 - z)) ∧ (AL.length + BL.length = i) ∧ (Sl 3 1 (.slice A3 AL.length c3) AL.length (ic AL) Ia) ∧ (Sl 3 1 (.slice A4 BL.length c4) BL.length (ic BL) Ib) ∧ Tm ac 145 [(1, .slice G g.length n), (3, .bool su), (4, .pointer (some ⟨g1, 0, none⟩)), (6, .pointer (some ⟨g2, 0, none⟩)), (12, .int .i64 (k : Int)), (13, .pointer (some ⟨g4, 0, none⟩)), (14, .pointer (some ⟨g5, 0, none⟩)), (15, .int .i64 (z : Int)), (16, .slice A3 AL.length c3), (17, .slice A4 BL.length c4), (18, .int .i64 (i : Int))] ∧ Mem w noEx wc ((g5, .cells [.int .i64 ((halB b (k : Int)).x), .int .i64 ((halB b (k : Int)).y), .int .i64 ((halB b (k : Int)).lo), .int .i64 ((halB b (k : Int)).wi)]) :: (g4, .cells [.int .i64 ((halA b (k : Int)).x), .int .i64 ((halA b (k : Int)).y), .int .i64 ((halA b (k : Int)).lo), .int .i64 ((halA b (k : Int)).wi)]) :: (g2, .cells [.int .i64 b.x, .int .i64 b.y, .int .i64 b.lo, .int .i64 b.wi]) :: (g1, .cells [.int .i64 s.lo, .int .i64 s.wi, .int .i64 s.a0, .int .i64 s.a1, .int .i64 s.c0, .int .i64 s.c1, .slice A s.ps.length d]) :: (Ia ++ Ib))) ?_ ?_
   ·exact ⟨_, 0, [], [], none, 0, none, 0, [], [], rfl, (Nat.zero_le _), rfl, rfl, rfl, (Sl.nil _ _), (Sl.nil _ _), T.pick [3, 4, 5, 6, 7, 8, 9, 10, 2, 1, 0] rfl, M.mask [true, true, true, true] rfl⟩
   clear T M
   rintro mz ac wc ⟨i, AL, BL, A3, c3, A4, c4, Ia, Ib, hmm3, hi, hA, hB, hABl, hslA, hslB, T, M⟩
   refine wp_seq ?_
   refine Zsr ?_
   refine Zg4 T (Zq (Zrm rfl (T.e 10 rfl))) rfl (Zm 1 rfl rfl) rfl (Zl Tryd.underlying27 0 rfl rfl) rfl (fun _ T => Zq (rn_lss rfl (T.e 2 rfl) (T.e 0 rfl))) rfl ?_; clear T ac; intro ac T
   refine wpList_nil ?_
   replace T := T.pick [0, 4, 5, 6, 7, 8, 9, 10, 11, 12, 13, 14] rfl
   refine nm_then ?_
   refine wp_if (T.e 0 rfl) ?_ ?_
   ·intro h5
    obtain ⟨x, hkx, -⟩ := ic_next (l := g) (k := i) (by omega)
    have hb8 := bit8 i (by omega) z (by omega)
    have hcb := comp8 g.length (by omega) i (by omega) z (by omega) (by omega)
    obtain ⟨bt, hbt⟩ : ∃ bt : Nat, bt = z / 2 ^ i % 2 := ⟨_, rfl⟩
    rw [← hbt] at hb8 hcb
    refine Zsk ?_
    refine wp_seq ?_
    refine wp_block ?_
    refine Zsr ?_
    refine Zg5 T (Zq (Zrm rfl (T.e 8 rfl))) rfl (Zm 12 rfl rfl) rfl (fun _ T => Zq (rn_shr rfl (T.e 1 rfl) (T.e 0 rfl) (by omega))) rfl (fun _ T => Zq (rn_and rfl (T.e 0 rfl) evc)) rfl (fun _ T => Zq (rn_eql rfl (T.e 0 rfl) evc)) rfl ?_; clear T ac; intro ac T
    refine wpList_nil ?_
    replace T := T.pick [0, 6, 7, 8, 9, 10, 11, 12, 13, 14, 15, 16] rfl
    refine nm_then ?_
    refine wp_if (T.e 0 rfl) ?_ ?_
    ·intro h6
     refine wp_region_lit ?_
     refine Zg5 T (Zq (Zrm rfl (T.e 9 rfl))) rfl (Zm 2 rfl rfl) rfl (Zm 13 rfl rfl) rfl (fun _ T => Zq (Zri (size := 1) i rfl (T.e 1 rfl) (T.e 0 rfl) ⟨_, Tryd.underlying27, by kernel_rfl⟩ rfl (by omega) (SG.at0 (by omega)))) rfl (fun _ T => Zq (rn_cell (Sp.ic0 SG M (List.nil_sublist _) hkx) rfl (T.e 0 rfl))) rfl ?_; clear T ac; intro ac T
     refine Zl2 ?_
     refine ow_bs (e := 3) [.int .i64 x] M T rfl rfl rfl rfl (.cons (T.e 0 rfl) .nil) (fun _ => by kernel_rfl) ?_; clear M T; intro g6 wc ac M T
     refine Zl2 ?_
     replace M := Mem.swapU [(g6, .cells [.int .i64 x]), (g5, .cells [.int .i64 ((halB b (k : Int)).x), .int .i64 ((halB b (k : Int)).y), .int .i64 ((halB b (k : Int)).lo), .int .i64 ((halB b (k : Int)).wi)]), (g4, .cells [.int .i64 ((halA b (k : Int)).x), .int .i64 ((halA b (k : Int)).y), .int .i64 ((halA b (k : Int)).lo), .int .i64 ((halA b (k : Int)).wi)]), (g2, .cells [.int .i64 b.x, .int .i64 b.y, .int .i64 b.lo, .int .i64 b.wi]), (g1, .cells [.int .i64 s.lo, .int .i64 s.wi, .int .i64 s.a0, .int .i64 s.a1, .int .i64 s.c0, .int .i64 s.c1, .slice A s.ps.length d])] Ia Ib M
     refine ow_app (((g6, .cells [.int .i64 x]) :: (g5, .cells [.int .i64 ((halB b (k : Int)).x), .int .i64 ((halB b (k : Int)).y), .int .i64 ((halB b (k : Int)).lo), .int .i64 ((halB b (k : Int)).wi)]) :: (g4, .cells [.int .i64 ((halA b (k : Int)).x), .int .i64 ((halA b (k : Int)).y), .int .i64 ((halA b (k : Int)).lo), .int .i64 ((halA b (k : Int)).wi)]) :: (g2, .cells [.int .i64 b.x, .int .i64 b.y, .int .i64 b.lo, .int .i64 b.wi]) :: (g1, .cells [.int .i64 s.lo, .int .i64 s.wi, .int .i64 s.a0, .int .i64 s.a1, .int .i64 s.c0, .int .i64 s.c1, .slice A s.ps.length d]) :: Ib)) Tryd.info3 hslA M (by first | rfl | simp) T rfl rfl rfl rfl Tryd.underlying27 rfl rfl rfl (by omega) (T.e 5 rfl) (T.e 0 rfl) (Zne (i := 0) rfl) rfl rfl ?_; clear M T; intro ga1 cga1 wc ac M T
     refine l_q (v := (.slice (some ⟨ga1, 0, none⟩) (AL.length + 1) cga1)) (T.pick [0, 1, 2, 3, 4, 5, 6, 7, 8, 9, 10, 11, 12, 13, 14, 15, 17, 18] rfl) rfl rfl rfl rfl (Zra rfl (T.e 0 rfl)) ?_; clear T ac; intro ac T
     refine wpList_nil ?_
     replace T := T.pick [0, 9, 10, 11, 12, 13, 14, 15, 16, 17, 18] rfl
     replace M := M.mask [true, false, true, true, true, true] rfl
     refine Znb ?_
     refine nm_then ?_
     refine wp_region_lit ?_
     refine Zg2 T (Zq (Zrm rfl (T.e 10 rfl))) rfl (fun _ T => Zq (rn_add rfl (T.e 0 rfl) evc (by omega))) rfl ?_; clear T ac; intro ac T
     refine l_q (v := (.int .i64 ((i : Int) + 1))) (T.pick [0, 1, 2, 3, 4, 5, 6, 7, 8, 9, 10, 11] rfl) rfl rfl rfl rfl (Zra rfl (T.e 0 rfl)) ?_; clear T ac; intro ac T
     refine wpList_nil ?_
     replace T := T.pick [0, 3, 4, 5, 6, 7, 8, 9, 10, 11, 12] rfl
     refine nm_then ?_
     have e9 : AL.length + 1 = (AL ++ [x]).length := by simp
     have e8 : ((ic AL) ++ [.int .i64 x]) = ic (AL ++ [x]) := by rw [← ic_snoc]
     rw [e9, e8] at M
     rw [e9] at T
     clear e9 e8
     exact ⟨_, by omega, i + 1, (AL ++ [x]), BL, _, _, _, _, [(ga1, .row 3 1 (AL ++ [x]).length (ic (AL ++ [x])) cga1)], Ib, rfl, (by omega), (by rw [List.take_add_one, hkx, Option.toList_some, sel_snoc, List.length_take, show min i g.length = i by omega, hA, if_pos (by omega)]), (by rw [List.take_add_one, hkx, Option.toList_some, sel_snoc, List.length_take, show min i g.length = i by omega, hcb, hB, if_neg (by omega), List.append_nil]), (by simp only [List.length_append, List.length_cons, List.length_nil]; omega), (Sl.row _ _ _ _ _ _), hslB, T.pick [2, 3, 4, 5, 6, 7, 8, 9, 1, 10, 0] rfl, (M.permT [1, 2, 3, 4, 0] 5 rfl rfl rfl rfl)⟩
    intro h6
    refine wp_region_lit ?_
    refine Zg5 T (Zq (Zrm rfl (T.e 10 rfl))) rfl (Zm 2 rfl rfl) rfl (Zm 13 rfl rfl) rfl (fun _ T => Zq (Zri (size := 1) i rfl (T.e 1 rfl) (T.e 0 rfl) ⟨_, Tryd.underlying27, by kernel_rfl⟩ rfl (by omega) (SG.at0 (by omega)))) rfl (fun _ T => Zq (rn_cell (Sp.ic0 SG M (List.nil_sublist _) hkx) rfl (T.e 0 rfl))) rfl ?_; clear T ac; intro ac T
    refine Zl2 ?_
    refine ow_bs (e := 3) [.int .i64 x] M T rfl rfl rfl rfl (.cons (T.e 0 rfl) .nil) (fun _ => by kernel_rfl) ?_; clear M T; intro g7 wc ac M T
    refine Zl2 ?_
    refine ow_app (((g7, .cells [.int .i64 x]) :: (g5, .cells [.int .i64 ((halB b (k : Int)).x), .int .i64 ((halB b (k : Int)).y), .int .i64 ((halB b (k : Int)).lo), .int .i64 ((halB b (k : Int)).wi)]) :: (g4, .cells [.int .i64 ((halA b (k : Int)).x), .int .i64 ((halA b (k : Int)).y), .int .i64 ((halA b (k : Int)).lo), .int .i64 ((halA b (k : Int)).wi)]) :: (g2, .cells [.int .i64 b.x, .int .i64 b.y, .int .i64 b.lo, .int .i64 b.wi]) :: (g1, .cells [.int .i64 s.lo, .int .i64 s.wi, .int .i64 s.a0, .int .i64 s.a1, .int .i64 s.c0, .int .i64 s.c1, .slice A s.ps.length d]) :: Ia)) Tryd.info3 hslB M (by first | rfl | simp) T rfl rfl rfl rfl Tryd.underlying27 rfl rfl rfl (by omega) (T.e 5 rfl) (T.e 0 rfl) (Zne (i := 0) rfl) rfl rfl ?_; clear M T; intro ga2 cga2 wc ac M T
    refine l_q (v := (.slice (some ⟨ga2, 0, none⟩) (BL.length + 1) cga2)) (T.pick [0, 1, 2, 3, 4, 5, 6, 7, 8, 9, 10, 11, 12, 13, 14, 15, 16, 18] rfl) rfl rfl rfl rfl (Zra rfl (T.e 0 rfl)) ?_; clear T ac; intro ac T
    refine wpList_nil ?_
    replace T := T.pick [0, 9, 10, 11, 12, 13, 14, 15, 16, 17, 18] rfl
    replace M := M.mask [true, false, true, true, true, true] rfl
    refine Znb ?_
    refine nm_then ?_
    refine wp_region_lit ?_
    refine Zg2 T (Zq (Zrm rfl (T.e 10 rfl))) rfl (fun _ T => Zq (rn_add rfl (T.e 0 rfl) evc (by omega))) rfl ?_; clear T ac; intro ac T
    refine l_q (v := (.int .i64 ((i : Int) + 1))) (T.pick [0, 1, 2, 3, 4, 5, 6, 7, 8, 9, 10, 11] rfl) rfl rfl rfl rfl (Zra rfl (T.e 0 rfl)) ?_; clear T ac; intro ac T
    refine wpList_nil ?_
    replace T := T.pick [0, 3, 4, 5, 6, 7, 8, 9, 10, 11, 12] rfl
    refine nm_then ?_
    have e9 : BL.length + 1 = (BL ++ [x]).length := by simp
    have e8 : ((ic BL) ++ [.int .i64 x]) = ic (BL ++ [x]) := by rw [← ic_snoc]
    rw [e9, e8] at M
    rw [e9] at T
    clear e9 e8
    exact ⟨_, by omega, i + 1, AL, (BL ++ [x]), _, _, _, _, Ia, [(ga2, .row 3 1 (BL ++ [x]).length (ic (BL ++ [x])) cga2)], rfl, (by omega), (by rw [List.take_add_one, hkx, Option.toList_some, sel_snoc, List.length_take, show min i g.length = i by omega, hA, if_neg (by omega), List.append_nil]), (by rw [List.take_add_one, hkx, Option.toList_some, sel_snoc, List.length_take, show min i g.length = i by omega, hcb, hB, if_pos (by omega)]), (by simp only [List.length_append, List.length_cons, List.length_nil]; omega), hslA, (Sl.row _ _ _ _ _ _), T.pick [2, 3, 4, 5, 6, 7, 8, 9, 10, 1, 0] rfl, (Mem.swapU [(g5, .cells [.int .i64 ((halB b (k : Int)).x), .int .i64 ((halB b (k : Int)).y), .int .i64 ((halB b (k : Int)).lo), .int .i64 ((halB b (k : Int)).wi)]), (g4, .cells [.int .i64 ((halA b (k : Int)).x), .int .i64 ((halA b (k : Int)).y), .int .i64 ((halA b (k : Int)).lo), .int .i64 ((halA b (k : Int)).wi)]), (g2, .cells [.int .i64 b.x, .int .i64 b.y, .int .i64 b.lo, .int .i64 b.wi]), (g1, .cells [.int .i64 s.lo, .int .i64 s.wi, .int .i64 s.a0, .int .i64 s.a1, .int .i64 s.c0, .int .i64 s.c1, .slice A s.ps.length d])] [(ga2, .row 3 1 (BL ++ [x]).length (ic (BL ++ [x])) cga2)] Ia (M.permT [1, 2, 3, 4, 0] 5 rfl rfl rfl rfl))⟩
   intro h5
   rw [List.take_of_length_le (by omega)] at hA hB
   obtain ⟨bza, oza, SVza⟩ := hslA.spV (by rw [ic_length]; omega)
   have SZA := SVza w noEx
   obtain ⟨bzb, ozb, SVzb⟩ := hslB.spV (by rw [ic_length]; omega)
   have SZB := SVzb w noEx
   have hAl : AL.length = cntP g.length z := by rw [hA, sel_cnt]
   have hpr : pair8 (cutA s su) (cutC s su) (gP s g) b k z = (can8 (cutA s su) (cutC s su) (gP s AL) (halA b k) && can8 (cutA s su) (cutC s su) (gP s BL) (halB b k)) := by rw [hA, hB, gP_sel, gP_sel]; unfold pair8; rw [gP_len]
   have hgA : ∀ x ∈ AL, 0 ≤ x ∧ x < (s.ps.length : Int) := fun x hx => hgi x ((sel_sub _ _).subset (hA ▸ hx))
   have hgB : ∀ x ∈ BL, 0 ≤ x ∧ x < (s.ps.length : Int) := fun x hx => hgi x ((sel_sub _ _).subset (hB ▸ hx))
   refine wp_exit ?_
   refine Zet ?_
   refine Zet ?_
   refine ex_hit ?_
   refine nm_then ?_
   refine Zsr ?_
   refine Zg4 T (Zq (Zrr (Mem.nth M 3 rfl) rfl (T.e 3 rfl) rfl)) rfl (Zm 10 rfl rfl) rfl (Zr M 1 8 rfl rfl rfl rfl) rfl (Zm 5 rfl rfl) rfl ?_; clear T ac; intro ac T
   refine Zl2 ?_
   refine Zoc (first := []) (cap := []) T rfl rfl rfl rfl evf (.cons (T.e 3 rfl) (.cons (T.e 2 rfl) (.cons (T.e 1 rfl) (.cons (T.e 0 rfl) .nil)))) Tryd.func67 rfl rfl ?_
   refine Calls.mono (ih AL A3 c3 (halA b (k : Int)) _ (by omega) (by omega) hgA hok9.1 (SA.rd M (List.nil_sublist _)) (SZA.rd M (.cons _ (.cons _ (.cons _ (.cons _ (subL (List.Sublist.refl _)))))))) ?_
   clear T; rintro e wc ⟨APu2, nPu2, XLu2, IPu2, rfl, hcpu2, hlpu2, hpyu2, SVPu2, N⟩ ac T
   obtain ⟨bPu2, oPu2, SVPu2⟩ := SVPu2
   have SPu2 := SVPu2 w noEx
   replace M := (M.join N).swapI
   clear N
   replace M : Mem w noEx wc ((g5, .cells [.int .i64 ((halB b (k : Int)).x), .int .i64 ((halB b (k : Int)).y), .int .i64 ((halB b (k : Int)).lo), .int .i64 ((halB b (k : Int)).wi)]) :: (g4, .cells [.int .i64 ((halA b (k : Int)).x), .int .i64 ((halA b (k : Int)).y), .int .i64 ((halA b (k : Int)).lo), .int .i64 ((halA b (k : Int)).wi)]) :: (g2, .cells [.int .i64 b.x, .int .i64 b.y, .int .i64 b.lo, .int .i64 b.wi]) :: (g1, .cells [.int .i64 s.lo, .int .i64 s.wi, .int .i64 s.a0, .int .i64 s.a1, .int .i64 s.c0, .int .i64 s.c1, .slice A s.ps.length d]) :: (Ia ++ Ib ++ IPu2)) := M
   rw [gP_len] at hlpu2 hpyu2
   refine Zg5 T (Zq (Zrm rfl (T.e 0 rfl))) rfl (Ze 0 rfl rfl rfl) rfl (Ze 1 rfl rfl rfl) rfl (Za 1 rfl rfl) rfl (Za 1 rfl rfl) rfl ?_; clear T ac; intro ac T
   refine wpList_nil ?_
   replace T := T.pick [0, 1, 11, 12, 13, 14, 15, 16, 17, 18, 20] rfl
   refine Zns ?_
   refine Zsr ?_
   refine Zg2 T (Zq (Zrm rfl (T.e 0 rfl))) rfl (fun _ T => Zq (rn_not rfl (T.e 0 rfl))) rfl ?_; clear T ac; intro ac T
   refine wpList_nil ?_
   replace T := T.pick [0, 3, 4, 5, 6, 7, 8, 9, 10, 11, 12] rfl
   refine nm_then ?_
   refine wp_cond_split (T.e 0 rfl) ?_ ?_
   ·intro h7
    (have h7' := h7; try simp only [Zb1, Zb2, Zb3, Zb4, Zb5, Zb6, Zb7] at h7')
    refine wp_exit ?_
    refine Zet ?_
    refine ex_hit ?_
    refine nm_then ?_
    refine wp_region_lit ?_
    refine Zg2 T (Zq (Zrm rfl (T.e 9 rfl))) rfl (fun _ T => Zq (rn_add rfl (T.e 0 rfl) evc (by omega))) rfl ?_; clear T ac; intro ac T
    refine l_q (v := (.int .i64 ((z : Int) + 1))) (T.pick [0, 1, 2, 3, 4, 5, 6, 7, 8, 9, 10, 12] rfl) rfl rfl rfl rfl (Zra rfl (T.e 0 rfl)) ?_; clear T ac; intro ac T
    refine wpList_nil ?_
    replace T := T.pick [0, 5, 6, 7, 8, 9, 10, 11] rfl
    refine nm_then ?_
    exact ⟨_, by omega, z + 1, rfl, (by omega), (by omega), (no8_succ H2 (by rw [hpr]; simp_all)), T.pick [1, 2, 3, 4, 5, 6, 7, 0] rfl, ((M.permT [0, 1, 2, 3] 4 rfl rfl rfl rfl).sub (Zsl ([(g5, .cells [.int .i64 ((halB b (k : Int)).x), .int .i64 ((halB b (k : Int)).y), .int .i64 ((halB b (k : Int)).lo), .int .i64 ((halB b (k : Int)).wi)]), (g4, .cells [.int .i64 ((halA b (k : Int)).x), .int .i64 ((halA b (k : Int)).y), .int .i64 ((halA b (k : Int)).lo), .int .i64 ((halA b (k : Int)).wi)]), (g2, .cells [.int .i64 b.x, .int .i64 b.y, .int .i64 b.lo, .int .i64 b.wi]), (g1, .cells [.int .i64 s.lo, .int .i64 s.wi, .int .i64 s.a0, .int .i64 s.a1, .int .i64 s.c0, .int .i64 s.c1, .slice A s.ps.length d])] : List (Nat × BA)) _))⟩
   intro h7
   (have h7' := h7; try simp only [Zb1, Zb2, Zb3, Zb4, Zb5, Zb6, Zb7] at h7')
   refine Zsk ?_
   refine Zsr ?_
   refine Zg4 T (Zq (Zrr (Mem.nth M 3 rfl) rfl (T.e 4 rfl) rfl)) rfl (Zm 11 rfl rfl) rfl (Zr M 0 10 rfl rfl rfl rfl) rfl (Zm 6 rfl rfl) rfl ?_; clear T ac; intro ac T
   refine Zl2 ?_
   refine Zoc (first := []) (cap := []) T rfl rfl rfl rfl evf (.cons (T.e 3 rfl) (.cons (T.e 2 rfl) (.cons (T.e 1 rfl) (.cons (T.e 0 rfl) .nil)))) Tryd.func67 rfl rfl ?_
   refine Calls.mono (ih BL A4 c4 (halB b (k : Int)) _ (by omega) (by omega) hgB hok9.2 (SA.rd M (List.nil_sublist _)) (SZB.rd M (.cons _ (.cons _ (.cons _ (.cons _ (subL (Zsq _ _)))))))) ?_
   clear T; rintro e wc ⟨APu3, nPu3, XLu3, IPu3, rfl, hcpu3, hlpu3, hpyu3, SVPu3, N⟩ ac T
   obtain ⟨bPu3, oPu3, SVPu3⟩ := SVPu3
   have SPu3 := SVPu3 w noEx
   replace M := (M.join N).swapI
   clear N
   replace M : Mem w noEx wc ((g5, .cells [.int .i64 ((halB b (k : Int)).x), .int .i64 ((halB b (k : Int)).y), .int .i64 ((halB b (k : Int)).lo), .int .i64 ((halB b (k : Int)).wi)]) :: (g4, .cells [.int .i64 ((halA b (k : Int)).x), .int .i64 ((halA b (k : Int)).y), .int .i64 ((halA b (k : Int)).lo), .int .i64 ((halA b (k : Int)).wi)]) :: (g2, .cells [.int .i64 b.x, .int .i64 b.y, .int .i64 b.lo, .int .i64 b.wi]) :: (g1, .cells [.int .i64 s.lo, .int .i64 s.wi, .int .i64 s.a0, .int .i64 s.a1, .int .i64 s.c0, .int .i64 s.c1, .slice A s.ps.length d]) :: (Ia ++ Ib ++ IPu2 ++ IPu3)) := M
   rw [gP_len] at hlpu3 hpyu3
   refine Zg5 T (Zq (Zrm rfl (T.e 0 rfl))) rfl (Ze 0 rfl rfl rfl) rfl (Ze 1 rfl rfl rfl) rfl (Za 1 rfl rfl) rfl (Za 1 rfl rfl) rfl ?_; clear T ac; intro ac T
   refine wpList_nil ?_
   replace T := T.pick [0, 1, 11, 12, 13, 14, 15, 16, 17, 18, 19] rfl
   refine Zns ?_
   refine Zsr ?_
   refine Zg2 T (Zq (Zrm rfl (T.e 0 rfl))) rfl (fun _ T => Zq (rn_not rfl (T.e 0 rfl))) rfl ?_; clear T ac; intro ac T
   refine wpList_nil ?_
   replace T := T.pick [0, 3, 4, 5, 6, 7, 8, 9, 10, 11, 12] rfl
   refine nm_then ?_
   refine wp_cond_split (T.e 0 rfl) ?_ ?_
   ·intro h8
    (have h8' := h8; try simp only [Zb1, Zb2, Zb3, Zb4, Zb5, Zb6, Zb7] at h8')
    refine wp_exit ?_
    refine Zet ?_
    refine ex_hit ?_
    refine nm_then ?_
    refine wp_region_lit ?_
    refine Zg2 T (Zq (Zrm rfl (T.e 10 rfl))) rfl (fun _ T => Zq (rn_add rfl (T.e 0 rfl) evc (by omega))) rfl ?_; clear T ac; intro ac T
    refine l_q (v := (.int .i64 ((z : Int) + 1))) (T.pick [0, 1, 2, 3, 4, 5, 6, 7, 8, 9, 10, 11] rfl) rfl rfl rfl rfl (Zra rfl (T.e 0 rfl)) ?_; clear T ac; intro ac T
    refine wpList_nil ?_
    replace T := T.pick [0, 6, 7, 8, 9, 10, 11, 12] rfl
    refine nm_then ?_
    exact ⟨_, by omega, z + 1, rfl, (by omega), (by omega), (no8_succ H2 (by rw [hpr]; simp_all)), T.pick [1, 2, 3, 4, 5, 6, 7, 0] rfl, ((M.permT [0, 1, 2, 3] 4 rfl rfl rfl rfl).sub (Zsl ([(g5, .cells [.int .i64 ((halB b (k : Int)).x), .int .i64 ((halB b (k : Int)).y), .int .i64 ((halB b (k : Int)).lo), .int .i64 ((halB b (k : Int)).wi)]), (g4, .cells [.int .i64 ((halA b (k : Int)).x), .int .i64 ((halA b (k : Int)).y), .int .i64 ((halA b (k : Int)).lo), .int .i64 ((halA b (k : Int)).wi)]), (g2, .cells [.int .i64 b.x, .int .i64 b.y, .int .i64 b.lo, .int .i64 b.wi]), (g1, .cells [.int .i64 s.lo, .int .i64 s.wi, .int .i64 s.a0, .int .i64 s.a1, .int .i64 s.c0, .int .i64 s.c1, .slice A s.ps.length d])] : List (Nat × BA)) _))⟩
   intro h8
   (have h8' := h8; try simp only [Zb1, Zb2, Zb3, Zb4, Zb5, Zb6, Zb7] at h8')
   refine Zsk ?_
   refine Zsr ?_
   refine lq T (Zra rfl evc) ?_; clear T ac; intro ac T
   refine wpList_nil ?_
   replace T := T.pick [0, 2, 3, 4, 11] rfl
   replace M := M.mask [false, false, false, false] rfl
   replace M : Mem w noEx wc ((Ia ++ Ib ++ IPu2 ++ IPu3)) := M
   refine Zns ?_
   refine Zsr ?_
   refine lq T (Zra rfl evc) ?_; clear T ac; intro ac T
   refine Zln ?_
   refine wp_block ?_
   obtain ⟨hpA, hpB⟩ : can8 (cutA s su) (cutC s su) (gP s AL) (halA b k) = true ∧ can8 (cutA s su) (cutC s su) (gP s BL) (halB b k) = true := by simp_all
   obtain ⟨hplyu2, hlxu2⟩ := hpyu2 hpA
   obtain ⟨hplyu3, hlxu3⟩ := hpyu3 hpB
   refine wp_loop_n (fun mz ac wc => ∃ (r : Nat) (OL : List Spt) (A5 : Option Addr) (c5 : Nat) (AX : Option Addr) (XR : List Spt) (nX bX oX : Nat) (AY : Option Addr) (YR : List Spt) (nY bY oY : Nat) (Io : List (Nat × BA)), mz = g.length - r ∧ (r ≤ g.length) ∧ (OL.length = r) ∧ (OL ++ mrg (g.length - r) (z / 2 ^ r) XR YR = mrg g.length z XLu2 XLu3) ∧ (XR.length = cntP (g.length - r) (z / 2 ^ r)) ∧ (XR.length + YR.length = g.length - r) ∧ (XR.length ≤ nX) ∧ (YR.length ≤ nY) ∧ (Sp w noEx IPu2 AX XR.length 3 bX oX (tc XR)) ∧ (Sp w noEx IPu3 AY YR.length 3 bY oY (tc YR)) ∧ (Sl 30 3 (.slice A5 OL.length c5) OL.length (tc OL) Io) ∧ Tm ac 145 [(1, .slice G g.length n), (15, .int .i64 (z : Int)), (19, .slice AX XR.length nX), (21, .slice AY YR.length nY), (22, .slice A5 OL.length c5), (23, .int .i64 (r : Int))] ∧ Mem w noEx wc ((Ia ++ Ib ++ IPu2 ++ IPu3 ++ Io))) ?_ ?_
   ·exact ⟨_, 0, [], none, 0, APu2, XLu2, nPu2, bPu2, oPu2, APu3, XLu3, nPu3, bPu3, oPu3, [], rfl, (Nat.zero_le _), rfl, (by rw [Nat.sub_zero, Nat.pow_zero, Nat.div_one]; rfl), (by rw [Nat.sub_zero, Nat.pow_zero, Nat.div_one]; omega), (by omega), (by omega), (by omega), SPu2, SPu3, (Sl.nil _ _), T.pick [4, 5, 3, 2, 1, 0] rfl, (by simp only [List.append_nil]; exact M)⟩
   clear T M
   rintro mz ac wc ⟨r, OL, A5, c5, AX, XR, nX, bX, oX, AY, YR, nY, bY, oY, Io, hmm4, hi, hOi, hO, hXl, hYl, hcX, hcY, SXR, SYR, hsl, T, M⟩
   refine wp_seq ?_
   refine Zsr ?_
   refine Zg4 T (Zq (Zrm rfl (T.e 5 rfl))) rfl (Zm 1 rfl rfl) rfl (Zl Tryd.underlying27 0 rfl rfl) rfl (fun _ T => Zq (rn_lss rfl (T.e 2 rfl) (T.e 0 rfl))) rfl ?_; clear T ac; intro ac T
   refine wpList_nil ?_
   replace T := T.pick [0, 4, 5, 6, 7, 8, 9] rfl
   refine nm_then ?_
   refine wp_if (T.e 0 rfl) ?_ ?_
   ·intro h9
    have hcs := cnt_step (m := g.length) (i := r) (z := z) (by omega)
    have hcl := cntP_le (g.length - (r + 1)) (z / 2 ^ (r + 1))
    have hb8 := bit8 r (by omega) z (by omega)
    obtain ⟨bt, hbt⟩ : ∃ bt : Nat, bt = z / 2 ^ r % 2 := ⟨_, rfl⟩
    rw [← hbt] at hb8 hcs
    refine Zsk ?_
    refine wp_seq ?_
    refine wp_block ?_
    refine Zsr ?_
    refine Zg5 T (Zq (Zrm rfl (T.e 2 rfl))) rfl (Zm 7 rfl rfl) rfl (fun _ T => Zq (rn_shr rfl (T.e 1 rfl) (T.e 0 rfl) (by omega))) rfl (fun _ T => Zq (rn_and rfl (T.e 0 rfl) evc)) rfl (fun _ T => Zq (rn_eql rfl (T.e 0 rfl) evc)) rfl ?_; clear T ac; intro ac T
    refine wpList_nil ?_
    replace T := T.pick [0, 6, 7, 8, 9, 10, 11] rfl
    refine nm_then ?_
    refine wp_if (T.e 0 rfl) ?_ ?_
    ·intro h10
     obtain ⟨q1, hq1⟩ : ∃ q, XR[0]? = some q := ⟨_, List.getElem?_eq_getElem (show 0 < XR.length by omega)⟩
     refine Zgs M (M.sub (Zsl _ _)) 10 (by kernel_rfl) rfl (by kernel_rfl) ?_
     clear M; intro wc M
     refine gq T 0 1 rfl (fun _ _ _ _ _ => (Zrm rfl (T.e 5 rfl))) ?_; clear T ac; intro ac T
     refine gq T 1 3 rfl (fun _ _ _ _ _ => (Zrm rfl (T.e 4 rfl))) ?_; clear T ac; intro ac T
     refine gq T 2 7 rfl (fun _ _ _ _ _ => (Zri (size := 3) 0 rfl (T.e 0 rfl) evc ⟨_, Tryd.underlying28, by kernel_rfl⟩ rfl (by omega) (SXR.at0 (by omega)))) ?_; clear T ac; intro ac T
     refine gq (v := (.agg #[.int .i64 q1.x, .int .i64 q1.y, .bool q1.t])) T 3 15 rfl (fun B w' hD hl hS => (rn_rowat (Sp.tcR SXR (show Mem w noEx w' _ from hS) (subL (Zsq _ _)) hq1) rfl (T.e 0 rfl) rfl)) ?_; clear T ac; intro ac T
     refine gq T 6 79 rfl (fun _ _ _ _ _ => (Zrm rfl (T.e 7 rfl))) ?_; clear T ac; intro ac T
     refine gq T 7 207 rfl (fun _ _ _ _ _ => (rn_slice (size := 3) (l := 1) (h := XR.length) rfl Tryd.underlying28 (by kernel_rfl) (T.e 0 rfl) evc rfl (by omega) (by omega))) ?_; clear T ac; intro ac T
     obtain ⟨Aq1, hAq1⟩ : ∃ q : Option Addr, q = (if nX = 1 then AX else Option.map (fun x : Addr => x.add (1 * 3)) AX) := ⟨_, rfl⟩
     rw [← hAq1] at T
     obtain ⟨lq1, hlq1⟩ : ∃ q, q = (XR.drop 1).take (XR.length - 1) := ⟨_, rfl⟩
     have nlq1 : lq1.length = XR.length - 1 := by rw [hlq1, List.length_take, List.length_drop]; (try simp only [List.length_cons, List.length_append, List.length_nil]); omega
     rw [← nlq1] at T
     have SAq1 : Sp w noEx IPu2 Aq1 lq1.length 3 bX (oX + 1 * 3) (tc lq1) := by rw [nlq1, hAq1, hlq1, ← tc_part]; exact SXR.sub (by omega) (by omega) (by omega)
     refine gw 4 223 ?_; intro K hK
     refine ow_bs (e := 30) [.int .i64 q1.x, .int .i64 q1.y, .bool q1.t] M T rfl rfl rfl rfl (.cons (T.e 2 rfl) .nil) (fun _ => by kernel_rfl) ?_; clear M T; intro g8 wc ac M T
     refine Zso hK _ _ ((M.mask [false] rfl).sub (Zsl _ _)) ?_; clear hK K
     refine gw 5 255 ?_; intro K hK
     refine ow_app (((g8, .cells [.int .i64 q1.x, .int .i64 q1.y, .bool q1.t]) :: (Ia ++ Ib ++ IPu2 ++ IPu3))) Tryd.info30 hsl M (by first | rfl | simp) T rfl rfl rfl rfl Tryd.underlying28 rfl rfl rfl (by omega) (T.e 6 rfl) (T.e 0 rfl) (Zne (i := 0) rfl) rfl rfl ?_; clear M T; intro ga3 cga3 wc ac M T
     refine Zso hK _ _ (M.mask [false, false] rfl) ?_; clear hK K
     refine g_q (v := (.slice (some ⟨ga3, 0, none⟩) (OL.length + 1) cga3)) (T := T.pick [0, 1, 2, 3, 4, 5, 6, 7, 8, 9, 10, 11, 12, 14] rfl) (i := 8) rfl (by kernel_rfl) (by kernel_rfl : (Zpb 10 255).setIfInBounds 8 true = Zpb 10 511) si_U (fun _ _ _ h => h) rfl rfl rfl rfl (fun _ _ _ _ _ => (Zra rfl (T.e 0 rfl))) ?_; clear T ac; intro ac T
     refine g_q (v := (.slice Aq1 lq1.length (nX - 1))) (T := T.pick [0, 1, 2, 3, 4, 5, 6, 7, 8, 9, 10, 11, 13, 14] rfl) (i := 9) rfl (by kernel_rfl) (by kernel_rfl : (Zpb 10 511).setIfInBounds 9 true = Zpb 10 1023) si_U (fun _ _ _ h => h) rfl rfl rfl rfl (fun _ _ _ _ _ => (Zra rfl (T.e 3 rfl))) ?_; clear T ac; intro ac T
     refine Zgd (by kernel_rfl) ?_
     replace T := T.pick [0, 1, 11, 12, 13, 14] rfl
     replace M := M.mask [true, false] rfl
     replace M : Mem w noEx wc ((ga3, .row 30 3 (OL.length + 1) ((tc OL) ++ [.int .i64 q1.x, .int .i64 q1.y, .bool q1.t]) cga3) :: (Ia ++ Ib ++ IPu2 ++ IPu3)) := M
     refine Znb ?_
     refine nm_then ?_
     refine wp_region_lit ?_
     refine Zg2 T (Zq (Zrm rfl (T.e 5 rfl))) rfl (fun _ T => Zq (rn_add rfl (T.e 0 rfl) evc (by omega))) rfl ?_; clear T ac; intro ac T
     refine l_q (v := (.int .i64 ((r : Int) + 1))) (T.pick [0, 1, 2, 3, 4, 5, 6] rfl) rfl rfl rfl rfl (Zra rfl (T.e 0 rfl)) ?_; clear T ac; intro ac T
     refine wpList_nil ?_
     replace T := T.pick [0, 3, 4, 5, 6, 7] rfl
     refine nm_then ?_
     have e9 : OL.length + 1 = (OL ++ [q1]).length := by simp
     have e8 : ((tc OL) ++ [.int .i64 q1.x, .int .i64 q1.y, .bool q1.t]) = tc (OL ++ [q1]) := by rw [← tc_snoc]
     rw [e9, e8] at M
     rw [e9] at T
     clear e9 e8
     have e7 : lq1 = XR.drop 1 := by rw [hlq1]; exact List.take_of_length_le (by simp)
     exact ⟨_, by omega, r + 1, (OL ++ [q1]), _, _, _, lq1, (nX - 1), _, _, _, YR, nY, _, _, [(ga3, .row 30 3 (OL ++ [q1]).length (tc (OL ++ [q1])) cga3)], rfl, (by omega), (by simp only [List.length_append, List.length_cons, List.length_nil]; omega), (by rw [e7, ← hO, mrg_stepX (by omega) (by omega) hq1, List.append_assoc]; rfl), (by omega), (by omega), (by omega), (by omega), SAq1, SYR, (Sl.row _ _ _ _ _ _), T.pick [3, 4, 1, 5, 2, 0] rfl, (Mem.swapI (I := [(ga3, .row 30 3 (OL ++ [q1]).length (tc (OL ++ [q1])) cga3)]) (L := ((Ia ++ Ib ++ IPu2 ++ IPu3))) (M.permT [0] 1 rfl rfl rfl rfl))⟩
    intro h10
    obtain ⟨q2, hq2⟩ : ∃ q, YR[0]? = some q := ⟨_, List.getElem?_eq_getElem (show 0 < YR.length by omega)⟩
    refine Zgs M (M.sub (Zsl _ _)) 10 (by kernel_rfl) rfl (by kernel_rfl) ?_
    clear M; intro wc M
    refine gq T 0 1 rfl (fun _ _ _ _ _ => (Zrm rfl (T.e 5 rfl))) ?_; clear T ac; intro ac T
    refine gq T 1 3 rfl (fun _ _ _ _ _ => (Zrm rfl (T.e 5 rfl))) ?_; clear T ac; intro ac T
    refine gq T 2 7 rfl (fun _ _ _ _ _ => (Zri (size := 3) 0 rfl (T.e 0 rfl) evc ⟨_, Tryd.underlying28, by kernel_rfl⟩ rfl (by omega) (SYR.at0 (by omega)))) ?_; clear T ac; intro ac T
    refine gq (v := (.agg #[.int .i64 q2.x, .int .i64 q2.y, .bool q2.t])) T 3 15 rfl (fun B w' hD hl hS => (rn_rowat (Sp.tcR SYR (show Mem w noEx w' _ from hS) (Zsq _ _) hq2) rfl (T.e 0 rfl) rfl)) ?_; clear T ac; intro ac T
    refine gq T 6 79 rfl (fun _ _ _ _ _ => (Zrm rfl (T.e 8 rfl))) ?_; clear T ac; intro ac T
    refine gq T 7 207 rfl (fun _ _ _ _ _ => (rn_slice (size := 3) (l := 1) (h := YR.length) rfl Tryd.underlying28 (by kernel_rfl) (T.e 0 rfl) evc rfl (by omega) (by omega))) ?_; clear T ac; intro ac T
    obtain ⟨Aq2, hAq2⟩ : ∃ q : Option Addr, q = (if nY = 1 then AY else Option.map (fun x : Addr => x.add (1 * 3)) AY) := ⟨_, rfl⟩
    rw [← hAq2] at T
    obtain ⟨lq2, hlq2⟩ : ∃ q, q = (YR.drop 1).take (YR.length - 1) := ⟨_, rfl⟩
    have nlq2 : lq2.length = YR.length - 1 := by rw [hlq2, List.length_take, List.length_drop]; (try simp only [List.length_cons, List.length_append, List.length_nil]); omega
    rw [← nlq2] at T
    have SAq2 : Sp w noEx IPu3 Aq2 lq2.length 3 bY (oY + 1 * 3) (tc lq2) := by rw [nlq2, hAq2, hlq2, ← tc_part]; exact SYR.sub (by omega) (by omega) (by omega)
    refine gw 4 223 ?_; intro K hK
    refine ow_bs (e := 30) [.int .i64 q2.x, .int .i64 q2.y, .bool q2.t] M T rfl rfl rfl rfl (.cons (T.e 2 rfl) .nil) (fun _ => by kernel_rfl) ?_; clear M T; intro g9 wc ac M T
    refine Zso hK _ _ ((M.mask [false] rfl).sub (Zsl _ _)) ?_; clear hK K
    refine gw 5 255 ?_; intro K hK
    refine ow_app (((g9, .cells [.int .i64 q2.x, .int .i64 q2.y, .bool q2.t]) :: (Ia ++ Ib ++ IPu2 ++ IPu3))) Tryd.info30 hsl M (by first | rfl | simp) T rfl rfl rfl rfl Tryd.underlying28 rfl rfl rfl (by omega) (T.e 6 rfl) (T.e 0 rfl) (Zne (i := 0) rfl) rfl rfl ?_; clear M T; intro ga4 cga4 wc ac M T
    refine Zso hK _ _ (M.mask [false, false] rfl) ?_; clear hK K
    refine g_q (v := (.slice (some ⟨ga4, 0, none⟩) (OL.length + 1) cga4)) (T := T.pick [0, 1, 2, 3, 4, 5, 6, 7, 8, 9, 10, 11, 12, 14] rfl) (i := 8) rfl (by kernel_rfl) (by kernel_rfl : (Zpb 10 255).setIfInBounds 8 true = Zpb 10 511) si_U (fun _ _ _ h => h) rfl rfl rfl rfl (fun _ _ _ _ _ => (Zra rfl (T.e 0 rfl))) ?_; clear T ac; intro ac T
    refine g_q (v := (.slice Aq2 lq2.length (nY - 1))) (T := T.pick [0, 1, 2, 3, 4, 5, 6, 7, 8, 9, 10, 11, 12, 14] rfl) (i := 9) rfl (by kernel_rfl) (by kernel_rfl : (Zpb 10 511).setIfInBounds 9 true = Zpb 10 1023) si_U (fun _ _ _ h => h) rfl rfl rfl rfl (fun _ _ _ _ _ => (Zra rfl (T.e 3 rfl))) ?_; clear T ac; intro ac T
    refine Zgd (by kernel_rfl) ?_
    replace T := T.pick [0, 1, 11, 12, 13, 14] rfl
    replace M := M.mask [true, false] rfl
    replace M : Mem w noEx wc ((ga4, .row 30 3 (OL.length + 1) ((tc OL) ++ [.int .i64 q2.x, .int .i64 q2.y, .bool q2.t]) cga4) :: (Ia ++ Ib ++ IPu2 ++ IPu3)) := M
    refine Znb ?_
    refine nm_then ?_
    refine wp_region_lit ?_
    refine Zg2 T (Zq (Zrm rfl (T.e 5 rfl))) rfl (fun _ T => Zq (rn_add rfl (T.e 0 rfl) evc (by omega))) rfl ?_; clear T ac; intro ac T
    refine l_q (v := (.int .i64 ((r : Int) + 1))) (T.pick [0, 1, 2, 3, 4, 5, 6] rfl) rfl rfl rfl rfl (Zra rfl (T.e 0 rfl)) ?_; clear T ac; intro ac T
    refine wpList_nil ?_
    replace T := T.pick [0, 3, 4, 5, 6, 7] rfl
    refine nm_then ?_
    have e9 : OL.length + 1 = (OL ++ [q2]).length := by simp
    have e8 : ((tc OL) ++ [.int .i64 q2.x, .int .i64 q2.y, .bool q2.t]) = tc (OL ++ [q2]) := by rw [← tc_snoc]
    rw [e9, e8] at M
    rw [e9] at T
    clear e9 e8
    have e7 : lq2 = YR.drop 1 := by rw [hlq2]; exact List.take_of_length_le (by simp)
    exact ⟨_, by omega, r + 1, (OL ++ [q2]), _, _, _, XR, nX, _, _, _, lq2, (nY - 1), _, _, [(ga4, .row 30 3 (OL ++ [q2]).length (tc (OL ++ [q2])) cga4)], rfl, (by omega), (by simp only [List.length_append, List.length_cons, List.length_nil]; omega), (by rw [e7, ← hO, mrg_stepY (by omega) (by omega) hq2, List.append_assoc]; rfl), (by omega), (by omega), (by omega), (by omega), SXR, SAq2, (Sl.row _ _ _ _ _ _), T.pick [3, 4, 5, 1, 2, 0] rfl, (Mem.swapI (I := [(ga4, .row 30 3 (OL ++ [q2]).length (tc (OL ++ [q2])) cga4)]) (L := ((Ia ++ Ib ++ IPu2 ++ IPu3))) (M.permT [0] 1 rfl rfl rfl rfl))⟩
   intro h9
   have hOf : OL = mrg g.length z XLu2 XLu3 := by rw [← hO, show g.length - r = 0 by omega]; exact (List.append_nil _).symm
   refine wp_exit ?_
   refine Zet ?_
   refine Zet ?_
   refine ex_hit ?_
   refine nm_then ?_
   refine Zsr ?_
   refine Zg3 T (Zq (Zrm rfl (T.e 5 rfl))) rfl (Za 0 rfl rfl) rfl (Zc rfl) rfl ?_; clear T ac; intro ac T
   refine wpList_nil ?_
   replace T := T.pick [0, 1] rfl
   refine Znr ?_
   refine Zrb ?_
   refine Zrt ?_
   refine Zrt ?_
   refine Zrb ?_
   refine Zrb ?_
   refine Zrt ?_
   refine Zrt ?_
   refine Zrb ?_
   refine Zrt ?_
   refine rt_2 T rfl (T.e 1 rfl) (T.e 0 rfl) ?_
   have hcan := can8_of (s := s) hgl5 (by omega) ⟨hb1, hb2, hb3, hb4⟩ hk0 (by omega) hz0 (by omega) (by rw [hpr, hpA, hpB]; rfl)
   obtain ⟨b9, o9, h9⟩ := hsl.spV (tc_length _)
   have hcap := hsl.capLe M (Zsq _ _)
   unfold PlyPost
   rw [hcan]
   refine ⟨A5, c5, OL, Io, rfl, hcap, by rw [gP_len]; omega, fun _ => ⟨?_, by rw [gP_len]; omega⟩, ⟨b9, o9, h9⟩, M.sub (Zsq _ _)⟩
   rw [hOf]
   exact ply_cut (by omega) hk0 (by omega) hz0 (by omega) (by rw [hpr, hpA, hpB]; rfl) H2 (by rw [← hA]; exact hplyu2) (by rw [← hB]; exact hplyu3)
  intro h4
  refine wp_exit ?_
  refine Zet ?_
  refine Zet ?_
  refine ex_hit ?_
  refine Znb ?_
  refine nm_then ?_
  refine wp_region_lit ?_
  refine Zg2 T (Zq (Zrm rfl (T.e 5 rfl))) rfl (fun _ T => Zq (rn_add rfl (T.e 0 rfl) evc (by omega))) rfl ?_; clear T ac; intro ac T
  refine l_q (v := (.int .i64 ((k : Int) + 1))) (T.pick [0, 1, 2, 3, 4, 5, 6, 8, 9, 10] rfl) rfl rfl rfl rfl (Zra rfl (T.e 0 rfl)) ?_; clear T ac; intro ac T
  refine wpList_nil ?_
  replace T := T.pick [0, 4, 5, 6, 7] rfl
  replace M := M.mask [false, false, true, true] rfl
  refine nm_then ?_
  exact ⟨_, by omega, k + 1, rfl, (by omega), (by omega), (no8_next H2 (by rw [gP_len]; omega)), T.pick [1, 2, 3, 4, 0] rfl, M⟩
 intro h3
 have hno := can8_not (by rw [gP_len]; exact hgl5) (by rw [gP_len]; omega) (by omega) (by omega) (by omega) H
 refine wp_exit ?_
 refine Zet ?_
 refine Zet ?_
 refine ex_hit ?_
 refine nm_then ?_
 refine Zsr ?_
 refine Zg2 T (Zq (Zra rfl evc)) rfl (Zc rfl) rfl ?_; clear T ac; intro ac T
 refine wpList_nil ?_
 replace T := T.pick [0, 1] rfl
 replace M := M.mask [false, false] rfl
 refine Znr ?_
 refine rt_2 T rfl (T.e 1 rfl) (T.e 0 rfl) ?_
 unfold PlyPost
 rw [hno]
 exact ⟨none, 0, [], [], rfl, Nat.le_refl _, Nat.zero_le _, fun h9 => (by cases h9), ⟨0, 0, fun _ _ => Sp.nil⟩, M.sub (List.nil_sublist _)⟩
theorem ply_any (s : Sk) (A : Option Addr) (d : Nat) (su : Bool) (hsg : s.good) : ∀ m : Nat, PlySpec s A d su m
 | 0 => fun g G n b w h => by omega
 | m + 1 => fun g G n b w h hgl5 hgi hb hA hG => ply_step s A d su m g G n b w hsg (ply_any s A d su hsg m) h hgl5 hgi hb hA hG
theorem can8_S {s : Sk} {su : Bool} {L : List Pt} : can8 (cutA s su) (cutC s su) L ⟨0, 0, s.lo, s.wi⟩ = canS s su L := by
 rw [Bool.eq_iff_iff, can8_iff, canS_iff]
theorem whole_ok {s : Sk} (h : s.good) : (⟨0, 0, s.lo, s.wi⟩ : Bo).ok := by
 obtain ⟨⟨l1, l2⟩, ⟨w1, w2⟩, -⟩ := h
 unfold Bo.ok
 dsimp only
 omega
theorem Tryd.info27 : (Tryd.prog.info? 27).map (fun i => (i.zero, i.size, i.bytes)) = some (some (.slice none 0 0), 1, 24) := by kernel_rfl
theorem lc_one (l : List LE) : ∀ u ∈ lc l, u.oneCell' = true := fun u hu => by
 obtain ⟨x, -, rfl⟩ := List.mem_map.1 hu
 rfl
section
variable {df : List Deferred} {P : Program} {op : Oper} {a : Act} {K : Act → World → Prop} {Q : Exit → Act → World → Prop} {w0 w : World} {ex : Nat → Prop} {L0 I : List (Nat × BA)} {E : List (Nat × Value)}
theorem ow_appV {s x : Operand} {ty e size bytes m d n nn t' : Nat} {B : Option Addr} {z : Value} {xs cs : List Value} {v : Value} (L : List (Nat × BA))
  (hinfo : (P.info? e).map (fun i => (i.zero, i.size, i.bytes)) = some (some z, size, bytes)) (hS : Sl e size v n xs I) (M : Mem w0 ex w L0) (hsp : L0 = L ++ I) (T : TmD df a nn E)
  (ho : op.op = .call { callee := .builtin .append, args := #[s, x], argTypes := #[ty, ty] }) (hd : op.dst = some t') (hf : freshE E t' = true) (hnn : Nat.blt t' nn = true)
  (ht : P.underlying ty = some (.slice e)) (hzs : z.cells.size = size) (hsz : Nat.blt 0 size = true) (hby : Nat.ble bytes 1000 = true) (hm : n + m ≤ 1000000) (hm0 : 0 < m)
  (hs : a.eval s = v) (hx : a.eval x = .slice B m d) (hr : Rd w w.heap.size size B m cs) (h1 : ∀ u ∈ cs, u.oneCell' = true)
  (h : ∀ g cap w' a', Mem w0 ex w' ((g, .row e size (n + m) (xs ++ cs) cap) :: L) → TmD df a' nn ((t', .slice (some ⟨g, 0, none⟩) (n + m) cap) :: E) → K a' w') : op.wp P a w K Q := by
 subst hsp
 replace M : Mem w0 ex w (I ++ L) := Mem.swapI (I := L) (L := I) M
 obtain ⟨i, hi, hz0, hz1, hz2⟩ := info_parts hinfo
 obtain ⟨g2, o2, rfl, hlt, hc⟩ := hr.cells hm0
 have hby := Nat.le_of_ble_eq_true hby
 have hsz := Nat.le_of_ble_eq_true hsz
 have hbb : (n + m) * bytes ≤ 140737488355328 := by
  have : (n + m) * bytes ≤ 1000000 * 1000 := Nat.mul_le_mul (by omega) hby
  omega
 have hnews : ∀ j u, cs[j]? = some u → w.cell? ((⟨g2, o2, none⟩ : Addr).add j) = some u := fun j u hu => by rw [Addr.add_mid]; exact hc j u hu
 rcases hS with ⟨rfl, rfl, rfl, rfl⟩ | ⟨g0, cap0, rfl, rfl⟩
 ·refine wp_append_lies w s x ty ho w.heap.size e i z size bytes ht hi hz0 hz1 hz2 hzs hsz (.slice none 0 0) 0 [] hs ⟨by simp, .inl ⟨rfl, rfl⟩⟩ ⟨g2, o2, none⟩ m d cs hx hr.1 hnews h1 hm0 (by unfold maxLen; omega) hbb (Nat.le_refl _) w.heap.size rfl ?_
  intro g cap w' hown hgr hat hlt
  have hg : g = w.heap.size := by
   rcases hat with h | h
   ·cases h
   ·exact h
  have M1 : Mem w0 ex w' L := M.call ⟨hgr.os, hgr.tape, hgr.output, hgr.size, fun k hk => hgr.block k hk (fun e => by cases e)⟩
  exact h g cap w' _ (M1.add (by rw [hg]; exact M.size) (own_rebase hown (by omega)) (fun q hq e => by have := BA.lt (M.blk q hq).2; omega)) (by rw [hd]; exact T.put hnn hf _)
 ·have hrow := (M.blk (g0, .row e size n xs cap0) (by simp)).2
  refine wp_append_lies w s x ty ho g0 e i z size bytes ht hi hz0 hz1 hz2 hzs hsz _ n xs hs hrow.1 ⟨g2, o2, none⟩ m d cs hx hr.1 hnews h1 hm0 (by unfold maxLen; omega) hbb (Nat.le_of_lt (BA.lt hrow)) w.heap.size rfl ?_
  intro g cap w' hown hgr hat hlt
  have hgr : w.grownBy w' (some g0) := hgr
  rcases hat with h2 | h2
  ·have h2 : some g0 = some g := h2
   injection h2 with h2
   subst h2
   exact h g0 cap w' _ (M.callW (L' := (g0, .row e size (n + m) (xs ++ cs) cap) :: L) .head hgr (own_rebase hown (by omega))) (by rw [hd]; exact T.put hnn hf _)
  ·have M1 := M.callW (L' := (g0, .any (fun _ => True)) :: L) .head hgr (by
    have hl0 : g0 < w'.heap.size := Nat.lt_of_lt_of_le (BA.lt hrow) hgr.size
    exact ⟨w'.heap[g0], Array.getElem?_eq_getElem hl0, trivial⟩)
   exact h g cap w' _ (M1.forget.add (by rw [h2]; exact M.size) (own_rebase hown (by omega)) (fun q hq e => by have := BA.lt (M.blk q (List.mem_append_right _ hq)).2; omega)) (by rw [hd]; exact T.put hnn hf _)
end
theorem Mem.permL {w0 w : World} {ex : Nat → Prop} {L L' : List (Nat × BA)} (M : Mem w0 ex w L) (h : L.Perm L') : Mem w0 ex w L' :=
 ⟨M.os, M.tape, M.output, M.size, M.block, fun p hp => M.blk p (h.mem_iff.2 hp), (h.map (·.1)).nodup M.nd⟩
theorem Mem.tail3 {w0 w : World} {ex : Nat → Prop} {K A B C : List (Nat × BA)} (M : Mem w0 ex w (K ++ (A ++ B ++ C))) : Mem w0 ex w (K ++ (A ++ C ++ B)) :=
 M.permL (List.Perm.append_left K (by rw [List.append_assoc, List.append_assoc]; exact List.Perm.append_left A List.perm_append_comm))
def ElsB (LL : List LE) (x0 : LE) (I : List (Nat × BA)) : Prop := ∀ x ∈ LL, x = x0 ∨ ∃ b o, ∀ (w : World) (ex : Nat → Prop), Sp w ex I x.2.1 x.1.length 1 b o (ic x.1)
def ElsO (LL : List LE) (I : List (Nat × BA)) : Prop := ∀ x ∈ LL, ∃ b o, ∀ (w : World) (ex : Nat → Prop), Sp w ex I x.2.1 x.1.length 1 b o (ic x.1)
theorem ElsO.step {OL LL : List LE} {Ie I' : List (Nat × BA)} {e g c : Nat} {l : List Int} {c2 : Nat} (h : ElsO OL Ie) (h' : ElsB LL (l, some ⟨g, 0, none⟩, c) I') : ElsO (OL ++ LL) (Ie ++ I' ++ [(g, .row e 1 l.length (ic l) c2)]) := fun x hx => by
 rcases List.mem_append.1 hx with hx | hx
 ·obtain ⟨b, o, h1⟩ := h x hx
  exact ⟨b, o, fun w ex => (h1 w ex).mono ((Zsl _ _).trans (Zsl _ _))⟩
 ·rcases h' x hx with rfl | ⟨b, o, h1⟩
  ·exact ⟨g, 0, fun w ex => (Sp.row (by rw [ic_length, Nat.mul_one])).mono (Zsq _ _)⟩
  ·exact ⟨b, o, fun w ex => (h1 w ex).mono ((Zsq _ _).trans (Zsl _ _))⟩
theorem flatMap_len {α β : Type} {f : α → List β} {m : Nat} : ∀ (l : List α), (∀ x ∈ l, (f x).length ≤ m) → (l.flatMap f).length ≤ l.length * m
 | [], _ => by simp
 | x :: l, h => by
  rw [List.flatMap_cons, List.length_append, List.length_cons, Nat.succ_mul]
  have h1 := h x List.mem_cons_self
  have h2 := flatMap_len l fun y hy => h y (List.mem_cons_of_mem _ hy)
  omega
theorem asgP_le : ∀ (k : Nat) (b : List Int) (sh : Nat), (asgP k b sh).length ≤ (sh + k) ^ k
 | 0, b, sh => by simp [asgP]
 | k + 1, b, sh => by
  have h := flatMap_len (f := fun n : Nat => asgP k (b ++ [(n : Int)]) (max sh (n + 1))) (m := (sh + (k + 1)) ^ k) (List.range (sh + 1)) fun n hn => by
   have := List.mem_range.1 hn
   exact Nat.le_trans (asgP_le k _ _) (Nat.pow_le_pow_left (by omega) k)
  rw [List.length_range] at h
  rw [Nat.pow_succ, Nat.mul_comm]
  exact Nat.le_trans h (Nat.mul_le_mul_right _ (by omega))
theorem asgP_few {k sh : Nat} (b : List Int) (h : sh + k ≤ 5) : (asgP k b sh).length ≤ 3125 :=
 Nat.le_trans (asgP_le k b sh) (Nat.le_trans (Nat.pow_le_pow_left h k) (Nat.le_trans (Nat.pow_le_pow_right (by omega) (by omega : k ≤ 5)) (by decide)))
theorem asgP_pos : ∀ (k : Nat) (b : List Int) (sh : Nat), 0 < (asgP k b sh).length
 | 0, b, sh => by simp [asgP]
 | k + 1, b, sh => by
  have h0 := asgP_pos k (b ++ [((0 : Nat) : Int)]) (max sh (0 + 1))
  obtain ⟨x, hx⟩ := List.exists_mem_of_length_pos h0
  exact List.length_pos_of_mem (List.mem_flatMap.2 ⟨0, List.mem_range.2 (by omega), hx⟩)
theorem asN_few {k sh x : Nat} {b : List Int} (h : sh + (k + 1) ≤ 5) (hx : x ≤ sh + 1) : (asN k b sh x).length ≤ 3125 := by
 have h1 := (asN_mono (k := k) (b := b) (sh := sh) (x := x) (sh + 1 - x)).length_le
 rw [show x + (sh + 1 - x) = sh + 1 by omega, ← asN_end] at h1
 exact Nat.le_trans h1 (asgP_few b h)
theorem numI_snoc {l : List Int} {x : Int} : numI (l ++ [x]) = max (numI l) (x + 1) := by
 unfold numI
 rw [List.foldl_append]
 rfl
theorem lc_app (l r : List LE) : lc l ++ lc r = lc (l ++ r) := by simp [lc]
def AsgLPost (k : Nat) (g : List Int) (x0 : LE) (sh : Nat) (w : World) (e : Ending) (w' : World) : Prop := ∃ (A : Option Addr) (c : Nat) (LL : List LE) (I : List (Nat × BA)), e = .returned (.slice A LL.length c) ∧ LL.map (·.1) = (asgP k g sh).map (·.1) ∧ LL.length ≤ c ∧ (∃ b o, ∀ (w : World) (ex : Nat → Prop), Sp w ex I A LL.length 1 b o (lc LL)) ∧ ElsB LL x0 I ∧ Mem w noEx w' I
def AsgSpec (m k : Nat) : Prop := ∀ (g : List Int) (G : Option Addr) (n sh : Nat) (w : World), Rd w w.heap.size 1 G g.length (ic g) → g.length ≤ n → g.length + k = m → numI g = (sh : Int) → sh ≤ g.length → (∀ x ∈ g, 0 ≤ x ∧ x ≤ 1000) → Calls Tryd.prog 35 #[.int .i64 (m : Int), .slice G g.length n] w (AsgLPost k g (g, G, n) sh w)
set_option maxHeartbeats 4000000 in
theorem asg_step (G : Option Addr) (n : Nat) (g : List Int) (m k sh : Nat)  (w : World) (hG : Rd w w.heap.size 1 G g.length (ic g)) (hm5 : m ≤ 5) (ih : ∀ k1, k = k1 + 1 → AsgSpec m k1) (hgn : g.length ≤ n) (hk : g.length + k = m) (hsh : numI g = (sh : Int)) (hsg : sh ≤ g.length) (hgb : ∀ x ∈ g, 0 ≤ x ∧ x ≤ 1000)  :
   Calls Tryd.prog 35 #[.int .i64 (m : Int), .slice G g.length n] w (AsgLPost k g (g, G, n) sh w) := by
 obtain ⟨bG, oG, SG⟩ := Sp.old hG
 refine Zpx noEx Tryd.func35 rfl 44 rfl [.int .i64 (m : Int), .slice G g.length n] rfl rfl (Mem.init w _) ?_
 intro ac wc T M
 refine Zsr ?_
 refine lq T (Zra rfl evc) ?_; clear T ac; intro ac T
 refine wpList_nil ?_
 replace T := T.pick [1, 2] rfl
 refine Zns ?_
 refine Zsr ?_
 refine Zg4 T (Zq (Zrm rfl (T.e 1 rfl))) rfl (Zl Tryd.underlying27 0 rfl rfl) rfl (Zm 2 rfl rfl) rfl (fun _ T => Zq (rn_eql rfl (T.e 1 rfl) (T.e 0 rfl))) rfl ?_; clear T ac; intro ac T
 refine wpList_nil ?_
 replace T := T.pick [0, 4, 5] rfl
 refine nm_then ?_
 refine wp_if (T.e 0 rfl) ?_ ?_
 ·intro h1
  obtain rfl : k = 0 := by omega
  refine Zsr ?_
  refine lq T (Zrm rfl (T.e 2 rfl)) ?_; clear T ac; intro ac T
  refine Zl2 ?_
  refine ow_bs (e := 27) [.slice G g.length n] M T rfl rfl rfl rfl (.cons (T.e 0 rfl) .nil) (fun _ => by kernel_rfl) ?_; clear M T; intro g1 wc ac M T
  refine lq T (Zra rfl (T.e 0 rfl)) ?_; clear T ac; intro ac T
  refine wpList_nil ?_
  replace T := T.pick [0] rfl
  refine Znr ?_
  refine Zrt ?_
  refine rt_1 T rfl (T.e 0 rfl) ?_
  exact ⟨_, _, [(g, G, n)], _, rfl, rfl, Nat.le_refl _, ⟨g1, 0, fun w ex => Sp.cells (xs := lc [(g, G, n)]) rfl⟩, fun x hx => .inl (List.mem_singleton.1 hx), M⟩
 intro h1
 obtain ⟨k1, rfl⟩ : ∃ k1, k = k1 + 1 := ⟨k - 1, by omega⟩
 refine Zsk ?_
 refine Zsr ?_
 refine lq T (Zra rfl evc) ?_; clear T ac; intro ac T
 refine wpList_nil ?_
 replace T := T.pick [0, 2, 3] rfl
 refine Zns ?_
 refine Zsr ?_
 refine lq T (Zra rfl evc) ?_; clear T ac; intro ac T
 refine Zln ?_
 refine wp_block ?_
 refine wp_loop_n (fun mz ac wc => ∃ (i : Nat) (m9 : Int), mz = g.length - i ∧ (i ≤ g.length) ∧ (m9 = numI (g.take i)) ∧ (0 ≤ m9 ∧ m9 ≤ 1001) ∧ Tm ac 44 [(0, .int .i64 (m : Int)), (1, .slice G g.length n), (5, .int .i64 m9), (6, .int .i64 (i : Int))] ∧ Mem w noEx wc []) ?_ ?_
 ·exact ⟨_, 0, 0, rfl, (Nat.zero_le _), rfl, (by omega), T.pick [2, 3, 1, 0] rfl, M.mask [] rfl⟩
 clear T M
 rintro mz ac wc ⟨i, m9, hmm1, hi, hm, hb, T, M⟩
 refine wp_seq ?_
 refine Zsr ?_
 refine Zg4 T (Zq (Zrm rfl (T.e 3 rfl))) rfl (Zm 2 rfl rfl) rfl (Zl Tryd.underlying27 0 rfl rfl) rfl (fun _ T => Zq (rn_lss rfl (T.e 2 rfl) (T.e 0 rfl))) rfl ?_; clear T ac; intro ac T
 refine wpList_nil ?_
 replace T := T.pick [0, 4, 5, 6, 7] rfl
 refine nm_then ?_
 refine wp_if (T.e 0 rfl) ?_ ?_
 ·intro h2
  obtain ⟨x, hkx, -⟩ := ic_next (l := g) (k := i) (by omega)
  have hx := hgb x (List.mem_of_getElem? hkx)
  refine Zsk ?_
  refine wp_seq ?_
  refine wp_block ?_
  refine wp_region_lit ?_
  refine Zg7 T (Zq (Zrm rfl (T.e 3 rfl))) rfl (Zm 3 rfl rfl) rfl (Zm 6 rfl rfl) rfl (fun _ T => Zq (Zri (size := 1) i rfl (T.e 1 rfl) (T.e 0 rfl) ⟨_, Tryd.underlying27, by kernel_rfl⟩ rfl (by omega) (SG.at0 (by omega)))) rfl (fun _ T => Zq (rn_cell (Sp.ic0 SG M (List.nil_sublist _) hkx) rfl (T.e 0 rfl))) rfl (fun _ T => Zq (rn_add rfl (T.e 0 rfl) evc (by omega))) rfl (fun _ T => Zq (rn_max2 rfl (T.e 5 rfl) (T.e 0 rfl))) rfl ?_; clear T ac; intro ac T
  refine l_q (v := (.int .i64 (max m9 (x + 1)))) (T.pick [0, 1, 2, 3, 4, 5, 6, 7, 8, 9, 11] rfl) rfl rfl rfl rfl (Zra rfl (T.e 0 rfl)) ?_; clear T ac; intro ac T
  refine wpList_nil ?_
  replace T := T.pick [0, 9, 10, 11] rfl
  refine Znb ?_
  refine nm_then ?_
  refine wp_region_lit ?_
  refine Zg2 T (Zq (Zrm rfl (T.e 3 rfl))) rfl (fun _ T => Zq (rn_add rfl (T.e 0 rfl) evc (by omega))) rfl ?_; clear T ac; intro ac T
  refine l_q (v := (.int .i64 ((i : Int) + 1))) (T.pick [0, 1, 2, 3, 4] rfl) rfl rfl rfl rfl (Zra rfl (T.e 0 rfl)) ?_; clear T ac; intro ac T
  refine wpList_nil ?_
  replace T := T.pick [0, 3, 4, 5] rfl
  refine nm_then ?_
  exact ⟨_, by omega, i + 1, _, rfl, (by omega), (by rw [numI_take hkx, hm]), (by omega), T.pick [2, 3, 1, 0] rfl, M.mask [] rfl⟩
 intro h2
 rw [List.take_of_length_le (by omega), hsh] at hm
 refine wp_exit ?_
 refine Zet ?_
 refine Zet ?_
 refine ex_hit ?_
 refine nm_then ?_
 refine Zsr ?_
 refine lq T (Zra rfl evc) ?_; clear T ac; intro ac T
 refine wpList_nil ?_
 replace T := T.pick [0, 2, 3, 4] rfl
 refine Zns ?_
 refine Zsr ?_
 refine lq T (Zra rfl evc) ?_; clear T ac; intro ac T
 refine Zln ?_
 refine wp_block ?_
 refine wp_loop_n (fun mz ac wc => ∃ (j : Nat) (OL : List LE) (A3 : Option Addr) (c3 : Nat) (Ie Io : List (Nat × BA)), mz = sh + 1 - j ∧ (j ≤ sh + 1) ∧ (OL.map (·.1) = (asN k1 g sh j).map (·.1)) ∧ (ElsO OL Ie) ∧ (Sl 27 1 (.slice A3 OL.length c3) OL.length (lc OL) Io) ∧ Tm ac 44 [(0, .int .i64 (m : Int)), (1, .slice G g.length n), (5, .int .i64 m9), (7, .slice A3 OL.length c3), (8, .int .i64 (j : Int))] ∧ Mem w noEx wc ((Ie ++ Io))) ?_ ?_
 ·exact ⟨_, 0, [], none, 0, [], [], rfl, (Nat.zero_le _), rfl, (fun x hx => by cases hx), (Sl.nil _ _), T.pick [2, 3, 4, 1, 0] rfl, M.mask [] rfl⟩
 clear T M
 rintro mz ac wc ⟨j, OL, A3, c3, Ie, Io, hmm2, hj, hO, hE, hsl, T, M⟩
 refine wp_seq ?_
 refine Zsr ?_
 refine Zg3 T (Zq (Zrm rfl (T.e 4 rfl))) rfl (Zm 3 rfl rfl) rfl (fun _ T => Zq (rn_leq rfl (T.e 1 rfl) (T.e 0 rfl))) rfl ?_; clear T ac; intro ac T
 refine wpList_nil ?_
 replace T := T.pick [0, 3, 4, 5, 6, 7] rfl
 refine nm_then ?_
 refine wp_if (T.e 0 rfl) ?_ ?_
 ·intro h3
  have hOn : OL.length ≤ 3125 := by rw [← List.length_map (f := (·.1)), hO, List.length_map]; exact asN_few (by omega) (by omega)
  refine Zsk ?_
  refine wp_seq ?_
  refine wp_block ?_
  refine wp_region_lit ?_
  refine Zg2 T (Zq (Zrm rfl (T.e 4 rfl))) rfl (Zm 2 rfl rfl) rfl ?_; clear T ac; intro ac T
  refine Zl2 ?_
  refine ow_bs0 (e := 3) M T rfl rfl rfl rfl (fun _ => by kernel_rfl) ?_; clear M T; intro g2 wc ac M T
  refine lq T (Zrm rfl (T.e 5 rfl)) ?_; clear T ac; intro ac T
  refine Zl2 ?_
  refine ow_appS Tryd.info3 M T rfl rfl rfl rfl (fun g w => Tryd.append0_27 _ _ g _ w) Tryd.underlying27 rfl rfl rfl (by omega) (T.e 1 rfl) (T.e 0 rfl) (SG.rd M (List.nil_sublist _)) (icl_one _) ?_; clear M T; intro Augo1 cugo1 Iugo1 wc ac hSmgo1 M T
  replace M : Mem w noEx wc ((Ie ++ Io ++ Iugo1)) := M.swapI
  have hclgo1 : Cl 3 1 Augo1 g.length cugo1 (ic g) Iugo1 := .inr hSmgo1
  refine lq T (Zrm rfl (T.e 10 rfl)) ?_; clear T ac; intro ac T
  refine Zl2 ?_
  refine ow_bs (e := 3) [.int .i64 (j : Int)] M T rfl rfl rfl rfl (.cons (T.e 0 rfl) .nil) (fun _ => by kernel_rfl) ?_; clear M T; intro g3 wc ac M T
  refine Zl2 ?_
  refine ow_appC (((g3, .cells [.int .i64 (j : Int)]) :: (Ie ++ Io))) Tryd.info3 hclgo1 M (by first | rfl | simp) T rfl rfl rfl rfl Tryd.underlying27 rfl rfl rfl (by omega) (T.e 2 rfl) (T.e 0 rfl) (Zne (i := 0) rfl) rfl rfl ?_; clear M T; intro ga1 cga1 wc ac M T
  have e9 : g.length + 1 = (g ++ [(j : Int)]).length := by simp
  have e8 : ((ic g) ++ [.int .i64 (j : Int)]) = ic (g ++ [(j : Int)]) := by rw [← ic_snoc]
  rw [e9, e8] at M
  rw [e9] at T
  clear e9 e8
  refine Zl2 ?_
  have e9 : numI (g ++ [(j : Int)]) = ((max sh (j + 1) : Nat) : Int) := by rw [numI_snoc, hsh]; omega
  refine Zoc (first := []) (cap := []) T rfl rfl rfl rfl evf (.cons (T.e 6 rfl) (.cons (T.e 0 rfl) .nil)) Tryd.func35 rfl rfl ?_
  refine Calls.mono (ih k1 rfl (g ++ [(j : Int)]) _ _ (max sh (j + 1)) _ (M.rdRow (Zne (i := 0) rfl)) ((Cl.row _ _ ga1 _ _ _).capLe M (List.Sublist.cons_cons _ (List.nil_sublist _))) (by simp; omega) e9 (by simp; omega) (fun x hx => by rcases List.mem_append.1 hx with hx | hx; exact hgb x hx; rw [List.mem_singleton.1 hx]; omega)) ?_
  clear T; rintro e wc ⟨Au1, cu1, LLu1, Iu1, rfl, hLu1, hcu1, hSu1, hEu1, N⟩ ac T
  obtain ⟨bu1, ou1, hSu1⟩ := hSu1
  have Su1 := hSu1 w noEx
  replace M := (M.join N).swapI
  replace M : Mem w noEx wc ((ga1, .row 3 1 (g ++ [(j : Int)]).length (ic (g ++ [(j : Int)])) cga1) :: (g3, .cells [.int .i64 (j : Int)]) :: (Ie ++ Io ++ Iu1)) := M
  clear N
  have hllu1 : LLu1.length = (asgP k1 (g ++ [(j : Int)]) (max sh (j + 1))).length := by rw [← List.length_map (f := (·.1)), hLu1, List.length_map]
  have hlp : 0 < LLu1.length := by rw [hllu1]; exact asgP_pos _ _ _
  have hl2 := asgP_few (k := k1) (sh := max sh (j + 1)) (g ++ [(j : Int)]) (by omega)
  refine Zl2 ?_
  replace M : Mem w noEx wc ((ga1, .row 3 1 (g ++ [(j : Int)]).length (ic (g ++ [(j : Int)])) cga1) :: (g3, .cells [.int .i64 (j : Int)]) :: (Ie ++ Iu1 ++ Io)) := M.tail3 (K := [(ga1, .row 3 1 (g ++ [(j : Int)]).length (ic (g ++ [(j : Int)])) cga1), (g3, .cells [.int .i64 (j : Int)])]) (A := Ie)
  refine ow_appV (((ga1, .row 3 1 (g ++ [(j : Int)]).length (ic (g ++ [(j : Int)])) cga1) :: (g3, .cells [.int .i64 (j : Int)]) :: (Ie ++ Iu1))) Tryd.info27 hsl M (by first | rfl | simp) T rfl rfl rfl rfl Tryd.underlying43 rfl rfl rfl (by omega) hlp (T.e 8 rfl) (T.e 0 rfl) (Su1.rd M (.cons _ (.cons _ (subL (Zsq _ _))))) (lc_one _) ?_; clear M T; intro go2 cgo2 wc ac M T
  have e9 : OL.length + LLu1.length = (OL ++ LLu1).length := by rw [List.length_append]
  rw [e9, lc_app] at M
  rw [e9] at T
  clear e9
  refine l_q (v := (.slice (some ⟨go2, 0, none⟩) ((OL ++ LLu1).length) cgo2)) (T.pick [0, 1, 2, 3, 4, 5, 6, 7, 8, 9, 10, 11, 12, 13, 15] rfl) rfl rfl rfl rfl (Zra rfl (T.e 0 rfl)) ?_; clear T ac; intro ac T
  refine wpList_nil ?_
  replace T := T.pick [0, 12, 13, 14, 15] rfl
  replace M := M.mask [true, true, false] rfl
  refine Znb ?_
  refine nm_then ?_
  refine wp_region_lit ?_
  refine Zg2 T (Zq (Zrm rfl (T.e 4 rfl))) rfl (fun _ T => Zq (rn_add rfl (T.e 0 rfl) evc (by omega))) rfl ?_; clear T ac; intro ac T
  refine l_q (v := (.int .i64 ((j : Int) + 1))) (T.pick [0, 1, 2, 3, 4, 5] rfl) rfl rfl rfl rfl (Zra rfl (T.e 0 rfl)) ?_; clear T ac; intro ac T
  refine wpList_nil ?_
  replace T := T.pick [0, 3, 4, 5, 6] rfl
  refine nm_then ?_
  exact ⟨_, by omega, j + 1, (OL ++ LLu1), _, _, (Ie ++ Iu1 ++ [(ga1, .row 3 1 (g ++ [(j : Int)]).length (ic (g ++ [(j : Int)])) cga1)]), [(go2, .row 27 1 (OL ++ LLu1).length (lc (OL ++ LLu1)) cgo2)], rfl, (by omega), (by rw [List.map_append, hO, hLu1, asN_succ, List.map_append]), (hE.step hEu1), (Sl.row _ _ _ _ _ _), T.pick [2, 3, 4, 1, 0] rfl, (by rw [List.append_assoc (Ie ++ Iu1)]; exact Mem.swapI (I := [(ga1, .row 3 1 (g ++ [(j : Int)]).length (ic (g ++ [(j : Int)])) cga1), (go2, .row 27 1 (OL ++ LLu1).length (lc (OL ++ LLu1)) cgo2)]) (L := Ie ++ Iu1) (M.permT [1, 0] 2 rfl rfl rfl rfl))⟩
 intro h3
 refine wp_exit ?_
 refine Zet ?_
 refine Zet ?_
 refine ex_hit ?_
 refine nm_then ?_
 refine Zsr ?_
 refine Zg2 T (Zq (Zrm rfl (T.e 4 rfl))) rfl (Za 0 rfl rfl) rfl ?_; clear T ac; intro ac T
 refine wpList_nil ?_
 replace T := T.pick [0] rfl
 refine Znr ?_
 refine rt_1 T rfl (T.e 0 rfl) ?_
 obtain ⟨b9, o9, h9⟩ := hsl.spV (by rw [lc_length]; omega)
 have hcap := hsl.capLe M (Zsq _ _)
 refine ⟨A3, c3, OL, _, rfl, ?_, hcap, ⟨b9, o9, fun w ex => (h9 w ex).mono (Zsq _ _)⟩, fun x hx => .inr (by obtain ⟨b, o, h1⟩ := hE x hx; exact ⟨b, o, fun w ex => (h1 w ex).mono (Zsl _ _)⟩), M⟩
 rw [hO, show j = sh + 1 by omega, ← asN_end]
theorem assignments_any (m : Nat) (hm5 : m ≤ 5) : ∀ k : Nat, AsgSpec m k := by
 intro k
 induction k with
 | zero => exact fun g G n sh w hG hgn hk hsh hsg hgb => asg_step G n g m 0 sh w hG hm5 (fun k1 h => by omega) hgn hk hsh hsg hgb
 | succ k ihk => exact fun g G n sh w hG hgn hk hsh hsg hgb => asg_step G n g m (k + 1) sh w hG hm5 (fun k1 h => by obtain rfl : k1 = k := (by omega); exact ihk) hgn hk hsh hsg hgb
theorem gP_snoc {s : Sk} {OL : List Int} {j : Nat} {p : Pt} (h : s.ps[j]? = some p) : gP s (OL ++ [(j : Int)]) = gP s OL ++ [p] := by
 unfold gP
 rw [List.map_append, List.map_cons, List.map_nil, List.getD_eq_getElem?_getD, Int.toNat_natCast, h]
 rfl
theorem willB_no {s : Sk} {su : Bool} {g : List Int} {num z : Nat} (hz : z < num) (h : canS s su (clsP s.ps g (z : Int)) = false) : willB s su g num = false := by
 unfold willB
 rw [Bool.and_eq_false_imp]
 intro _
 rw [List.all_eq_false]
 exact ⟨z, List.mem_range.2 hz, by rw [h]; decide⟩
theorem willB_yes {s : Sk} {su : Bool} {g : List Int} {num : Nat} (hp : patB s.ps g = true) (h : ∀ k : Nat, k < num → canS s su (clsP s.ps g (k : Int)) = true) : willB s su g num = true := by
 unfold willB
 rw [hp, Bool.true_and, List.all_eq_true]
 exact fun k hk => h k (List.mem_range.1 hk)
theorem asg_at {m : Nat} {LL : List LE} {i : Nat} {x : LE} (hL : LL.map (·.1) = (asgP m [] 0).map (·.1)) (h : LL[i]? = some x) : ∃ n, (asgP m [] 0)[i]? = some (x.1, n) ∧ numI x.1 = (n : Int) ∧ x.1.length = m ∧ n ≤ m ∧ ∀ y ∈ x.1, 0 ≤ y ∧ y < (n : Int) := by
 have h1 : (LL.map (·.1))[i]? = some x.1 := by rw [List.getElem?_map, h]; rfl
 rw [hL, List.getElem?_map] at h1
 cases h2 : (asgP m [] 0)[i]? with
 | none => rw [h2] at h1; cases h1
 | some y =>
   rw [h2] at h1
   injection h1 with h1
   obtain ⟨y1, y2⟩ := y
   dsimp only at h1
   subst h1
   obtain ⟨q1, q2, q3, q4⟩ := num_asg (List.mem_of_getElem? h2)
   exact ⟨y2, rfl, q1, q2, q3, q4⟩
theorem ElsB.at0 {LL : List LE} {I : List (Nat × BA)} (h : ElsB LL ([], none, 0) I) {x : LE} (hx : x ∈ LL) : ∃ b o, ∀ (w : World) (ex : Nat → Prop), Sp w ex I x.2.1 x.1.length 1 b o (ic x.1) := by
 rcases h x hx with rfl | h1
 · exact ⟨0, 0, fun w ex => Sp.nil.mono (List.nil_sublist _)⟩
 · exact h1
def noW (s : Sk) (su : Bool) (n i : Nat) : Prop := (∀ x ∈ asgP s.ps.length [] 0, willB s su x.1 x.2 = true → n ≤ x.2) ∧ ∀ x ∈ (asgP s.ps.length [] 0).take i, ¬ (x.2 = n ∧ willB s su x.1 x.2 = true)
theorem noW.zero {s : Sk} {su : Bool} : noW s su 0 0 := ⟨fun _ _ _ => Nat.zero_le _, fun x hx => by simp at hx⟩
theorem noW.succ {s : Sk} {su : Bool} {n i : Nat} {x : List Int × Nat} (h : noW s su n i) (hx : (asgP s.ps.length [] 0)[i]? = some x) (hn : ¬ (x.2 = n ∧ willB s su x.1 x.2 = true)) : noW s su n (i + 1) := ⟨h.1, fun y hy => by
 rw [List.take_add_one, hx, Option.toList_some, List.mem_append, List.mem_singleton] at hy
 rcases hy with hy | rfl
 · exact h.2 y hy
 · exact hn⟩
theorem noW.next {s : Sk} {su : Bool} {n i : Nat} (h : noW s su n i) (hi : (asgP s.ps.length [] 0).length ≤ i) : noW s su (n + 1) 0 := by
 refine ⟨fun x hx hw => ?_, fun x hx => by simp at hx⟩
 have h1 := h.1 x hx hw
 have hb := h.2
 rw [List.take_of_length_le hi] at hb
 by_cases h2 : x.2 = n
 · exact (hb x hx ⟨h2, hw⟩).elim
 · omega
theorem noW.yes {s : Sk} {su : Bool} {n i : Nat} {x : List Int × Nat} (h : noW s su n i) (hx : (asgP s.ps.length [] 0)[i]? = some x) (hn : x.2 = n) (hw : willB s su x.1 x.2 = true) : shF s su = some x := by
 have hm := List.mem_of_getElem? hx
 cases hf : shF s su with
 | none =>
  have := (fewF_spec _ _).1 hf x hm
  rw [hw] at this
  cases this
 | some y =>
  obtain ⟨f1, f2, f3, f4⟩ := (fewF_spec _ _).2 y hf
  have h1 := f4 x hm hw
  have h2 := h.1 y f3 f2
  have h3 : y.2 = n := by omega
  have h4 : ((asgP s.ps.length [] 0).find? fun x => decide (x.2 = y.2) && willB s su x.1 x.2) = some x := by
   refine find_pre (l0 := (asgP s.ps.length [] 0).take i) ?_ (fun z hz => ?_) ?_
   ·have : (asgP s.ps.length [] 0).take i ++ [x] = (asgP s.ps.length [] 0).take (i + 1) := by rw [List.take_add_one, hx]; rfl
    rw [this]
    exact List.take_prefix _ _
   ·have := h.2 z hz
    rw [Bool.eq_false_iff]
    intro h9
    simp only [Bool.and_eq_true, decide_eq_true_eq] at h9
    exact this ⟨by omega, h9.2⟩
   ·simp only [Bool.and_eq_true, decide_eq_true_eq]
    exact ⟨by omega, hw⟩
  have f1' : ((asgP s.ps.length [] 0).find? fun x => decide (x.2 = y.2) && willB s su x.1 x.2) = some y := f1
  rw [f1'] at h4
  exact h4
theorem noW.none {s : Sk} {su : Bool} {n : Nat} (h : noW s su n 0) (hn : s.ps.length < n) : shF s su = none := by
 cases hf : shF s su with
 | none => rfl
 | some y =>
  obtain ⟨f1, f2, f3, f4⟩ := (fewF_spec _ _).2 y hf
  have h1 := h.1 y f3 f2
  obtain ⟨y1, y2⟩ := y
  have := (num_asg f3).2.2.1
  dsimp only at h1
  omega
theorem sh8_none {s : Sk} {su : Bool} (hsg : s.good) (h : shF s su = none) : shL s su = [] ∧ shN s su = 0 ∧ shE s su = 11 := by
 have e : shE s su = 11 := (if_neg (by have := skErr_iff.2 hsg; omega)).trans (if_neg (by rw [h]; decide))
 exact ⟨if_neg (by omega), if_neg (by omega), e⟩
theorem sh8_some {s : Sk} {su : Bool} {l : List Int} {n : Nat} (hsg : s.good) (h : shF s su = some (l, n)) : shL s su = l ∧ shN s su = n ∧ shE s su = 0 := by
 have e : shE s su = 0 := (if_neg (by have := skErr_iff.2 hsg; omega)).trans (if_pos (by rw [h]; rfl))
 refine ⟨?_, ?_, e⟩
 · unfold shL; rw [if_pos e, h]; rfl
 · unfold shN; rw [if_pos e, h]; rfl
def Sh8Post (s : Sk) (su : Bool) (w : World) (e : Ending) (w' : World) : Prop := ∃ A c bl bn bi I, e = .returned (.tuple #[.slice A bl.length c, .bool bi]) ∧ shF s su = (if bi = true then some (bl, bn) else none) ∧ numI bl = (bn : Int) ∧ bn = shN s su ∧ (∀ y ∈ bl, 0 ≤ y ∧ y ≤ 1000) ∧ bl.length ≤ 5 ∧ (∃ b o, ∀ (w : World) (ex : Nat → Prop), Sp w ex I A bl.length 1 b o (ic bl)) ∧ Mem w noEx w' I
def Shs8Post (s : Sk) (su : Bool) (w : World) (e9 : Ending) (w' : World) : Prop := ∃ A c I, e9 = .returned (.tuple #[.slice A (shL s su).length c, .int .i64 (shN s su : Int), .int .i64 (shE s su)]) ∧ (∃ b o, ∀ (w : World) (ex : Nat → Prop), Sp w ex I A (shL s su).length 1 b o (ic (shL s su))) ∧ Mem w noEx w' I
set_option maxHeartbeats 4000000 in
theorem will8r_any (s : Sk) (A : Option Addr) (d : Nat) (G : Option Addr) (n : Nat) (g : List Int) (su : Bool) (num : Nat)  (w : World) (hA : Rd w w.heap.size 4 A s.ps.length (pc s.ps)) (hG : Rd w w.heap.size 1 G g.length (ic g)) (hsg : s.good) (hgl : g.length = s.ps.length) (hnum : numI g = (num : Int)) (hn5 : num ≤ 1000) (hgb : ∀ x ∈ g, 0 ≤ x ∧ x ≤ 1000)  :
   Calls Tryd.prog 112 #[.agg #[.int .i64 s.lo, .int .i64 s.wi, .int .i64 s.a0, .int .i64 s.a1, .int .i64 s.c0, .int .i64 s.c1, .slice A s.ps.length d], .slice G g.length n, .bool su] w fun e w' => e = .returned (.bool (willB s su g num)) ∧ Below w.heap.size w w' := by
 obtain ⟨bA, oA, SA⟩ := Sp.old hA
 obtain ⟨bG, oG, SG⟩ := Sp.old hG
 have hln := hsg.len
 refine Zpx noEx Tryd.func112 rfl 91 rfl [.agg #[.int .i64 s.lo, .int .i64 s.wi, .int .i64 s.a0, .int .i64 s.a1, .int .i64 s.c0, .int .i64 s.c1, .slice A s.ps.length d], .slice G g.length n, .bool su] rfl rfl (Mem.init w _) ?_
 intro ac wc T M
 refine Zsr ?_
 refine Zl2 ?_
 refine Zob M T rfl rfl rfl rfl (T.e 0 rfl) rfl ?_; clear M T; intro g1 wc ac M T
 refine lq T (Zra rfl evc) ?_; clear T ac; intro ac T
 refine wpList_nil ?_
 replace T := T.pick [1, 3, 4] rfl
 refine Zns ?_
 refine Zsr ?_
 refine lq T (Zra rfl evc) ?_; clear T ac; intro ac T
 refine Zln ?_
 refine wp_block ?_
 refine wp_loop_n (fun mz ac wc => ∃ (i : Nat), mz = g.length - i ∧ (i ≤ g.length) ∧ (patQ s.ps g i) ∧ Tm ac 91 [(1, .slice G g.length n), (2, .bool su), (3, .pointer (some ⟨g1, 0, none⟩)), (7, .int .i64 (i : Int))] ∧ Mem w noEx wc [(g1, .cells [.int .i64 s.lo, .int .i64 s.wi, .int .i64 s.a0, .int .i64 s.a1, .int .i64 s.c0, .int .i64 s.c1, .slice A s.ps.length d])]) ?_ ?_
 ·exact ⟨_, 0, rfl, (Nat.zero_le _), (fun j h => by omega), T.pick [2, 3, 1, 0] rfl, M.mask [true] rfl⟩
 clear T M
 rintro mz ac wc ⟨i, hmm1, hi, H, T, M⟩
 refine wp_seq ?_
 refine Zsr ?_
 refine Zg4 T (Zq (Zrm rfl (T.e 3 rfl))) rfl (Zm 1 rfl rfl) rfl (Zl Tryd.underlying27 0 rfl rfl) rfl (fun _ T => Zq (rn_lss rfl (T.e 2 rfl) (T.e 0 rfl))) rfl ?_; clear T ac; intro ac T
 refine wpList_nil ?_
 replace T := T.pick [0, 4, 5, 6, 7] rfl
 refine nm_then ?_
 refine wp_if (T.e 0 rfl) ?_ ?_
 ·intro h1
  obtain ⟨p, hkp, -⟩ := pc_next (l := s.ps) (k := i) (by omega)
  obtain ⟨x, hkx, -⟩ := ic_next (l := g) (k := i) (by omega)
  refine Zsk ?_
  refine wp_seq ?_
  refine wp_block ?_
  refine Zsr ?_
  refine lq T (Zra rfl evc) ?_; clear T ac; intro ac T
  refine wpList_nil ?_
  replace T := T.pick [0, 2, 3, 4, 5] rfl
  refine nm_then ?_
  refine wp_block ?_
  refine wp_loop_n (fun mz ac wc => ∃ (k : Nat), mz = i - k ∧ (k ≤ i) ∧ (∀ k', k' < k → ∀ q y, s.ps[k']? = some q → g[k']? = some y → ¬ ((0 < p.pa ∧ p.pa = q.pa) ∧ ¬ x = y)) ∧ Tm ac 91 [(1, .slice G g.length n), (2, .bool su), (3, .pointer (some ⟨g1, 0, none⟩)), (7, .int .i64 (i : Int)), (8, .int .i64 (k : Int))] ∧ Mem w noEx wc [(g1, .cells [.int .i64 s.lo, .int .i64 s.wi, .int .i64 s.a0, .int .i64 s.a1, .int .i64 s.c0, .int .i64 s.c1, .slice A s.ps.length d])]) ?_ ?_
  ·exact ⟨_, 0, rfl, (Nat.zero_le _), (fun k h => by omega), T.pick [1, 2, 3, 4, 0] rfl, M.mask [true] rfl⟩
  clear T M
  rintro mz ac wc ⟨k, hmm2, hk, H2, T, M⟩
  refine wp_seq ?_
  refine Zsr ?_
  refine Zg3 T (Zq (Zrm rfl (T.e 4 rfl))) rfl (Zm 4 rfl rfl) rfl (fun _ T => Zq (rn_lss rfl (T.e 1 rfl) (T.e 0 rfl))) rfl ?_; clear T ac; intro ac T
  refine wpList_nil ?_
  replace T := T.pick [0, 3, 4, 5, 6, 7] rfl
  refine nm_then ?_
  refine wp_if (T.e 0 rfl) ?_ ?_
  ·intro h2
   obtain ⟨q, hkq, -⟩ := pc_next (l := s.ps) (k := k) (by omega)
   obtain ⟨y, hky, -⟩ := ic_next (l := g) (k := k) (by omega)
   refine Zsk ?_
   refine wp_seq ?_
   refine wp_block ?_
   refine cut_seq (fun ac wc => Tm ac 91 [(1, .slice G g.length n), (2, .bool su), (3, .pointer (some ⟨g1, 0, none⟩)), (7, .int .i64 (i : Int)), (8, .int .i64 (k : Int)), (57, .bool ((decide (0 < p.pa)) && ((decide (p.pa = q.pa)) && (!(decide (x = y))))))] ∧ Mem w noEx wc [(g1, .cells [.int .i64 s.lo, .int .i64 s.wi, .int .i64 s.a0, .int .i64 s.a1, .int .i64 s.c0, .int .i64 s.c1, .slice A s.ps.length d])]) ?_ ?_
   ·refine Zgs M (M.mask [true] rfl) 33 (by kernel_rfl) rfl (by kernel_rfl) ?_
    clear M; intro wc M
    refine gq (v := (.pointer (some ⟨g1, 6, none⟩))) T 0 1 rfl (fun _ _ _ _ _ => (Zrf (off := 6) rfl (T.e 3 rfl) (fun _ _ _ => by kernel_rfl))) ?_; clear T ac; intro ac T
    refine gq T 1 3 rfl (fun B w' hD hl hS => (Zro (Mem.nth (show Mem w noEx w' _ from hS) 0 rfl) rfl (T.e 0 rfl) rfl)) ?_; clear T ac; intro ac T
    refine gq T 2 7 rfl (fun _ _ _ _ _ => (Zrm rfl (T.e 6 rfl))) ?_; clear T ac; intro ac T
    refine gq T 3 15 rfl (fun _ _ _ _ _ => (Zri (size := 4) i rfl (T.e 1 rfl) (T.e 0 rfl) ⟨_, Tryd.underlying24, by kernel_rfl⟩ rfl (by omega) (SA.at0 (by omega)))) ?_; clear T ac; intro ac T
    refine gq T 4 31 rfl (fun _ _ _ _ _ => (Zrf (off := 3) rfl (T.e 0 rfl) (fun _ _ _ => by kernel_rfl))) ?_; clear T ac; intro ac T
    refine gq T 5 63 rfl (fun B w' hD hl hS => (rn_cell (Sp.pcC3 SA (show Mem w noEx w' _ from hS) (List.nil_sublist _) hkp) rfl (T.e 0 rfl))) ?_; clear T ac; intro ac T
    refine gq T 6 127 rfl (fun _ _ _ _ _ => (rn_gtr rfl (T.e 0 rfl) evc)) ?_; clear T ac; intro ac T
    refine gq T 7 255 rfl (fun _ _ _ _ _ => (Zrm rfl (T.e 0 rfl))) ?_; clear T ac; intro ac T
    rcases Bool.eq_false_or_eq_true (decide (0 < p.pa)) with h3 | h3
    ·replace h3 := of_decide_eq_true h3
     refine g_q (v := (.pointer (some ⟨g1, 6, none⟩))) (T := T) (i := 8) rfl (by kernel_rfl) (by kernel_rfl : (Zpb 33 255).setIfInBounds 8 true = Zpb 33 511) si_U (fun _ _ _ h => h) (Zwy rfl rfl (T.e 0 rfl) (Zdt h3)) rfl rfl rfl (fun _ _ _ _ _ => (Zrf (off := 6) rfl (T.e 11 rfl) (fun _ _ _ => by kernel_rfl))) ?_; clear T ac; intro ac T
     refine g_q (T := T) (i := 9) rfl (by kernel_rfl) (by kernel_rfl : (Zpb 33 511).setIfInBounds 9 true = Zpb 33 1023) si_U (fun _ _ _ h => h) (Zwy rfl rfl (T.e 1 rfl) (Zdt h3)) rfl rfl rfl (fun B w' hD hl hS => (Zro (Mem.nth (show Mem w noEx w' _ from hS) 0 rfl) rfl (T.e 0 rfl) rfl)) ?_; clear T ac; intro ac T
     refine g_q (T := T) (i := 10) rfl (by kernel_rfl) (by kernel_rfl : (Zpb 33 1023).setIfInBounds 10 true = Zpb 33 2047) si_U (fun _ _ _ h => h) (Zwy rfl rfl (T.e 2 rfl) (Zdt h3)) rfl rfl rfl (fun _ _ _ _ _ => (Zrm rfl (T.e 14 rfl))) ?_; clear T ac; intro ac T
     refine g_q (T := T) (i := 11) rfl (by kernel_rfl) (by kernel_rfl : (Zpb 33 2047).setIfInBounds 11 true = Zpb 33 4095) si_U (fun _ _ _ h => h) (Zwy rfl rfl (T.e 3 rfl) (Zdt h3)) rfl rfl rfl (fun _ _ _ _ _ => (Zri (size := 4) i rfl (T.e 1 rfl) (T.e 0 rfl) ⟨_, Tryd.underlying24, by kernel_rfl⟩ rfl (by omega) (SA.at0 (by omega)))) ?_; clear T ac; intro ac T
     refine g_q (T := T) (i := 12) rfl (by kernel_rfl) (by kernel_rfl : (Zpb 33 4095).setIfInBounds 12 true = Zpb 33 8191) si_U (fun _ _ _ h => h) (Zwy rfl rfl (T.e 4 rfl) (Zdt h3)) rfl rfl rfl (fun _ _ _ _ _ => (Zrf (off := 3) rfl (T.e 0 rfl) (fun _ _ _ => by kernel_rfl))) ?_; clear T ac; intro ac T
     refine g_q (T := T) (i := 13) rfl (by kernel_rfl) (by kernel_rfl : (Zpb 33 8191).setIfInBounds 13 true = Zpb 33 16383) si_U (fun _ _ _ h => h) (Zwy rfl rfl (T.e 5 rfl) (Zdt h3)) rfl rfl rfl (fun B w' hD hl hS => (rn_cell (Sp.pcC3 SA (show Mem w noEx w' _ from hS) (List.nil_sublist _) hkp) rfl (T.e 0 rfl))) ?_; clear T ac; intro ac T
     refine g_q (v := (.pointer (some ⟨g1, 6, none⟩))) (T := T) (i := 14) rfl (by kernel_rfl) (by kernel_rfl : (Zpb 33 16383).setIfInBounds 14 true = Zpb 33 32767) si_U (fun _ _ _ h => h) (Zwy rfl rfl (T.e 6 rfl) (Zdt h3)) rfl rfl rfl (fun _ _ _ _ _ => (Zrf (off := 6) rfl (T.e 17 rfl) (fun _ _ _ => by kernel_rfl))) ?_; clear T ac; intro ac T
     refine g_q (T := T) (i := 15) rfl (by kernel_rfl) (by kernel_rfl : (Zpb 33 32767).setIfInBounds 15 true = Zpb 33 65535) si_U (fun _ _ _ h => h) (Zwy rfl rfl (T.e 7 rfl) (Zdt h3)) rfl rfl rfl (fun B w' hD hl hS => (Zro (Mem.nth (show Mem w noEx w' _ from hS) 0 rfl) rfl (T.e 0 rfl) rfl)) ?_; clear T ac; intro ac T
     refine g_q (T := T) (i := 16) rfl (by kernel_rfl) (by kernel_rfl : (Zpb 33 65535).setIfInBounds 16 true = Zpb 33 131071) si_U (fun _ _ _ h => h) (Zwy rfl rfl (T.e 8 rfl) (Zdt h3)) rfl rfl rfl (fun _ _ _ _ _ => (Zrm rfl (T.e 21 rfl))) ?_; clear T ac; intro ac T
     refine g_q (T := T) (i := 17) rfl (by kernel_rfl) (by kernel_rfl : (Zpb 33 131071).setIfInBounds 17 true = Zpb 33 262143) si_U (fun _ _ _ h => h) (Zwy rfl rfl (T.e 9 rfl) (Zdt h3)) rfl rfl rfl (fun _ _ _ _ _ => (Zri (size := 4) k rfl (T.e 1 rfl) (T.e 0 rfl) ⟨_, Tryd.underlying24, by kernel_rfl⟩ rfl (by omega) (SA.at0 (by omega)))) ?_; clear T ac; intro ac T
     refine g_q (T := T) (i := 18) rfl (by kernel_rfl) (by kernel_rfl : (Zpb 33 262143).setIfInBounds 18 true = Zpb 33 524287) si_U (fun _ _ _ h => h) (Zwy rfl rfl (T.e 10 rfl) (Zdt h3)) rfl rfl rfl (fun _ _ _ _ _ => (Zrf (off := 3) rfl (T.e 0 rfl) (fun _ _ _ => by kernel_rfl))) ?_; clear T ac; intro ac T
     refine g_q (T := T) (i := 19) rfl (by kernel_rfl) (by kernel_rfl : (Zpb 33 524287).setIfInBounds 19 true = Zpb 33 1048575) si_U (fun _ _ _ h => h) (Zwy rfl rfl (T.e 11 rfl) (Zdt h3)) rfl rfl rfl (fun B w' hD hl hS => (rn_cell (Sp.pcC3 SA (show Mem w noEx w' _ from hS) (List.nil_sublist _) hkq) rfl (T.e 0 rfl))) ?_; clear T ac; intro ac T
     refine g_q (T := T) (i := 20) rfl (by kernel_rfl) (by kernel_rfl : (Zpb 33 1048575).setIfInBounds 20 true = Zpb 33 2097151) si_U (fun _ _ _ h => h) (Zwy rfl rfl (T.e 12 rfl) (Zdt h3)) rfl rfl rfl (fun _ _ _ _ _ => (rn_eql rfl (T.e 6 rfl) (T.e 0 rfl))) ?_; clear T ac; intro ac T
     refine gq T 21 4194303 rfl (fun _ _ _ _ _ => (Zr1 rfl (T.e 13 rfl) (Zdt h3) (T.e 0 rfl))) ?_; clear T ac; intro ac T
     refine gq T 22 8388607 rfl (fun _ _ _ _ _ => (Zrm rfl (T.e 0 rfl))) ?_; clear T ac; intro ac T
     rcases Bool.eq_false_or_eq_true (decide (p.pa = q.pa)) with h4 | h4
     ·replace h4 := of_decide_eq_true h4
      refine g_q (T := T) (i := 23) rfl (by kernel_rfl) (by kernel_rfl : (Zpb 33 8388607).setIfInBounds 23 true = Zpb 33 16777215) si_U (fun _ _ _ h => h) (Zwy rfl rfl (T.e 0 rfl) (Zdt h4)) rfl rfl rfl (fun _ _ _ _ _ => (Zrm rfl (T.e 24 rfl))) ?_; clear T ac; intro ac T
      refine g_q (T := T) (i := 24) rfl (by kernel_rfl) (by kernel_rfl : (Zpb 33 16777215).setIfInBounds 24 true = Zpb 33 33554431) si_U (fun _ _ _ h => h) (Zwy rfl rfl (T.e 1 rfl) (Zdt h4)) rfl rfl rfl (fun _ _ _ _ _ => (Zrm rfl (T.e 28 rfl))) ?_; clear T ac; intro ac T
      refine g_q (T := T) (i := 25) rfl (by kernel_rfl) (by kernel_rfl : (Zpb 33 33554431).setIfInBounds 25 true = Zpb 33 67108863) si_U (fun _ _ _ h => h) (Zwy rfl rfl (T.e 2 rfl) (Zdt h4)) rfl rfl rfl (fun _ _ _ _ _ => (Zri (size := 1) i rfl (T.e 1 rfl) (T.e 0 rfl) ⟨_, Tryd.underlying27, by kernel_rfl⟩ rfl (by omega) (SG.at0 (by omega)))) ?_; clear T ac; intro ac T
      refine g_q (T := T) (i := 26) rfl (by kernel_rfl) (by kernel_rfl : (Zpb 33 67108863).setIfInBounds 26 true = Zpb 33 134217727) si_U (fun _ _ _ h => h) (Zwy rfl rfl (T.e 3 rfl) (Zdt h4)) rfl rfl rfl (fun B w' hD hl hS => (rn_cell (Sp.ic0 SG (show Mem w noEx w' _ from hS) (List.nil_sublist _) hkx) rfl (T.e 0 rfl))) ?_; clear T ac; intro ac T
      refine g_q (T := T) (i := 27) rfl (by kernel_rfl) (by kernel_rfl : (Zpb 33 134217727).setIfInBounds 27 true = Zpb 33 268435455) si_U (fun _ _ _ h => h) (Zwy rfl rfl (T.e 4 rfl) (Zdt h4)) rfl rfl rfl (fun _ _ _ _ _ => (Zrm rfl (T.e 28 rfl))) ?_; clear T ac; intro ac T
      refine g_q (T := T) (i := 28) rfl (by kernel_rfl) (by kernel_rfl : (Zpb 33 268435455).setIfInBounds 28 true = Zpb 33 536870911) si_U (fun _ _ _ h => h) (Zwy rfl rfl (T.e 5 rfl) (Zdt h4)) rfl rfl rfl (fun _ _ _ _ _ => (Zrm rfl (T.e 33 rfl))) ?_; clear T ac; intro ac T
      refine g_q (T := T) (i := 29) rfl (by kernel_rfl) (by kernel_rfl : (Zpb 33 536870911).setIfInBounds 29 true = Zpb 33 1073741823) si_U (fun _ _ _ h => h) (Zwy rfl rfl (T.e 6 rfl) (Zdt h4)) rfl rfl rfl (fun _ _ _ _ _ => (Zri (size := 1) k rfl (T.e 1 rfl) (T.e 0 rfl) ⟨_, Tryd.underlying27, by kernel_rfl⟩ rfl (by omega) (SG.at0 (by omega)))) ?_; clear T ac; intro ac T
      refine g_q (T := T) (i := 30) rfl (by kernel_rfl) (by kernel_rfl : (Zpb 33 1073741823).setIfInBounds 30 true = Zpb 33 2147483647) si_U (fun _ _ _ h => h) (Zwy rfl rfl (T.e 7 rfl) (Zdt h4)) rfl rfl rfl (fun B w' hD hl hS => (rn_cell (Sp.ic0 SG (show Mem w noEx w' _ from hS) (List.nil_sublist _) hky) rfl (T.e 0 rfl))) ?_; clear T ac; intro ac T
      refine g_q (T := T) (i := 31) rfl (by kernel_rfl) (by kernel_rfl : (Zpb 33 2147483647).setIfInBounds 31 true = Zpb 33 4294967295) si_U (fun _ _ _ h => h) (Zwy rfl rfl (T.e 8 rfl) (Zdt h4)) rfl rfl rfl (fun _ _ _ _ _ => (rn_neq rfl (T.e 4 rfl) (T.e 0 rfl))) ?_; clear T ac; intro ac T
      refine gq T 32 8589934591 rfl (fun _ _ _ _ _ => (Zr1 rfl (T.e 9 rfl) (Zdt h4) (T.e 0 rfl))) ?_; clear T ac; intro ac T
      refine Zgd (by kernel_rfl) ?_
      replace T := T.pick [0, 1, 2, 3, 4, 5, 6, 7, 8, 9, 12, 13, 14, 15, 16, 17, 18, 19, 20, 21, 22, 23, 24, 34, 35, 36, 37, 38] rfl
      exact ⟨(T.pick (E' := [(1, .slice G g.length n), (2, .bool su), (3, .pointer (some ⟨g1, 0, none⟩)), (7, .int .i64 (i : Int)), (8, .int .i64 (k : Int)), (57, .bool (!(decide (x = y))))]) [23, 24, 25, 26, 27, 0] rfl).as (by (try rw [show (decide (0 < p.pa)) = true from (Zdt h3)]); (try rw [show (decide (p.pa = q.pa)) = true from (Zdt h4)]); (try rfl)), M.mask [true] rfl⟩
     replace h4 := of_decide_eq_false h4
     refine g_pass (T := T) (i := 23) rfl (by kernel_rfl) (by kernel_rfl : (Zpb 33 8388607).setIfInBounds 23 true = Zpb 33 16777215) si_U (fun _ _ _ h => h) (Zwn rfl rfl (T.e 0 rfl) (Zdf h4)) rfl rfl rfl ?_; clear T ac; intro ac T
     refine g_pass (T := T) (i := 24) rfl (by kernel_rfl) (by kernel_rfl : (Zpb 33 16777215).setIfInBounds 24 true = Zpb 33 33554431) si_U (fun _ _ _ h => h) (Zwn rfl rfl (T.e 1 rfl) (Zdf h4)) rfl rfl rfl ?_; clear T ac; intro ac T
     refine g_pass (T := T) (i := 25) rfl (by kernel_rfl) (by kernel_rfl : (Zpb 33 33554431).setIfInBounds 25 true = Zpb 33 67108863) si_U (fun _ _ _ h => h) (Zwn rfl rfl (T.e 2 rfl) (Zdf h4)) rfl rfl rfl ?_; clear T ac; intro ac T
     refine g_pass (T := T) (i := 26) rfl (by kernel_rfl) (by kernel_rfl : (Zpb 33 67108863).setIfInBounds 26 true = Zpb 33 134217727) si_U (fun _ _ _ h => h) (Zwn rfl rfl (T.e 3 rfl) (Zdf h4)) rfl rfl rfl ?_; clear T ac; intro ac T
     refine g_pass (T := T) (i := 27) rfl (by kernel_rfl) (by kernel_rfl : (Zpb 33 134217727).setIfInBounds 27 true = Zpb 33 268435455) si_U (fun _ _ _ h => h) (Zwn rfl rfl (T.e 4 rfl) (Zdf h4)) rfl rfl rfl ?_; clear T ac; intro ac T
     refine g_pass (T := T) (i := 28) rfl (by kernel_rfl) (by kernel_rfl : (Zpb 33 268435455).setIfInBounds 28 true = Zpb 33 536870911) si_U (fun _ _ _ h => h) (Zwn rfl rfl (T.e 5 rfl) (Zdf h4)) rfl rfl rfl ?_; clear T ac; intro ac T
     refine g_pass (T := T) (i := 29) rfl (by kernel_rfl) (by kernel_rfl : (Zpb 33 536870911).setIfInBounds 29 true = Zpb 33 1073741823) si_U (fun _ _ _ h => h) (Zwn rfl rfl (T.e 6 rfl) (Zdf h4)) rfl rfl rfl ?_; clear T ac; intro ac T
     refine g_pass (T := T) (i := 30) rfl (by kernel_rfl) (by kernel_rfl : (Zpb 33 1073741823).setIfInBounds 30 true = Zpb 33 2147483647) si_U (fun _ _ _ h => h) (Zwn rfl rfl (T.e 7 rfl) (Zdf h4)) rfl rfl rfl ?_; clear T ac; intro ac T
     refine g_pass (T := T) (i := 31) rfl (by kernel_rfl) (by kernel_rfl : (Zpb 33 2147483647).setIfInBounds 31 true = Zpb 33 4294967295) si_U (fun _ _ _ h => h) (Zwn rfl rfl (T.e 8 rfl) (Zdf h4)) rfl rfl rfl ?_; clear T ac; intro ac T
     refine gq T 32 8589934591 rfl (fun _ _ _ _ _ => (Zr0 rfl (T.e 9 rfl) (Zdf h4) evc)) ?_; clear T ac; intro ac T
     refine Zgd (by kernel_rfl) ?_
     replace T := T.pick [0, 1, 2, 3, 4, 5, 6, 7, 8, 9, 12, 13, 14, 15, 16, 17, 18, 19, 20, 21, 22, 23, 24, 34, 35, 36, 37, 38] rfl
     exact ⟨(T.pick (E' := [(1, .slice G g.length n), (2, .bool su), (3, .pointer (some ⟨g1, 0, none⟩)), (7, .int .i64 (i : Int)), (8, .int .i64 (k : Int)), (57, .bool false)]) [23, 24, 25, 26, 27, 0] rfl).as (by (try rw [show (decide (0 < p.pa)) = true from (Zdt h3)]); (try rw [show (decide (p.pa = q.pa)) = false from (Zdf h4)]); (try rfl)), M.mask [true] rfl⟩
    replace h3 := of_decide_eq_false h3
    refine g_pass (T := T) (i := 8) rfl (by kernel_rfl) (by kernel_rfl : (Zpb 33 255).setIfInBounds 8 true = Zpb 33 511) si_U (fun _ _ _ h => h) (Zwn rfl rfl (T.e 0 rfl) (Zdf h3)) rfl rfl rfl ?_; clear T ac; intro ac T
    refine g_pass (T := T) (i := 9) rfl (by kernel_rfl) (by kernel_rfl : (Zpb 33 511).setIfInBounds 9 true = Zpb 33 1023) si_U (fun _ _ _ h => h) (Zwn rfl rfl (T.e 1 rfl) (Zdf h3)) rfl rfl rfl ?_; clear T ac; intro ac T
    refine g_pass (T := T) (i := 10) rfl (by kernel_rfl) (by kernel_rfl : (Zpb 33 1023).setIfInBounds 10 true = Zpb 33 2047) si_U (fun _ _ _ h => h) (Zwn rfl rfl (T.e 2 rfl) (Zdf h3)) rfl rfl rfl ?_; clear T ac; intro ac T
    refine g_pass (T := T) (i := 11) rfl (by kernel_rfl) (by kernel_rfl : (Zpb 33 2047).setIfInBounds 11 true = Zpb 33 4095) si_U (fun _ _ _ h => h) (Zwn rfl rfl (T.e 3 rfl) (Zdf h3)) rfl rfl rfl ?_; clear T ac; intro ac T
    refine g_pass (T := T) (i := 12) rfl (by kernel_rfl) (by kernel_rfl : (Zpb 33 4095).setIfInBounds 12 true = Zpb 33 8191) si_U (fun _ _ _ h => h) (Zwn rfl rfl (T.e 4 rfl) (Zdf h3)) rfl rfl rfl ?_; clear T ac; intro ac T
    refine g_pass (T := T) (i := 13) rfl (by kernel_rfl) (by kernel_rfl : (Zpb 33 8191).setIfInBounds 13 true = Zpb 33 16383) si_U (fun _ _ _ h => h) (Zwn rfl rfl (T.e 5 rfl) (Zdf h3)) rfl rfl rfl ?_; clear T ac; intro ac T
    refine g_pass (T := T) (i := 14) rfl (by kernel_rfl) (by kernel_rfl : (Zpb 33 16383).setIfInBounds 14 true = Zpb 33 32767) si_U (fun _ _ _ h => h) (Zwn rfl rfl (T.e 6 rfl) (Zdf h3)) rfl rfl rfl ?_; clear T ac; intro ac T
    refine g_pass (T := T) (i := 15) rfl (by kernel_rfl) (by kernel_rfl : (Zpb 33 32767).setIfInBounds 15 true = Zpb 33 65535) si_U (fun _ _ _ h => h) (Zwn rfl rfl (T.e 7 rfl) (Zdf h3)) rfl rfl rfl ?_; clear T ac; intro ac T
    refine g_pass (T := T) (i := 16) rfl (by kernel_rfl) (by kernel_rfl : (Zpb 33 65535).setIfInBounds 16 true = Zpb 33 131071) si_U (fun _ _ _ h => h) (Zwn rfl rfl (T.e 8 rfl) (Zdf h3)) rfl rfl rfl ?_; clear T ac; intro ac T
    refine g_pass (T := T) (i := 17) rfl (by kernel_rfl) (by kernel_rfl : (Zpb 33 131071).setIfInBounds 17 true = Zpb 33 262143) si_U (fun _ _ _ h => h) (Zwn rfl rfl (T.e 9 rfl) (Zdf h3)) rfl rfl rfl ?_; clear T ac; intro ac T
    refine g_pass (T := T) (i := 18) rfl (by kernel_rfl) (by kernel_rfl : (Zpb 33 262143).setIfInBounds 18 true = Zpb 33 524287) si_U (fun _ _ _ h => h) (Zwn rfl rfl (T.e 10 rfl) (Zdf h3)) rfl rfl rfl ?_; clear T ac; intro ac T
    refine g_pass (T := T) (i := 19) rfl (by kernel_rfl) (by kernel_rfl : (Zpb 33 524287).setIfInBounds 19 true = Zpb 33 1048575) si_U (fun _ _ _ h => h) (Zwn rfl rfl (T.e 11 rfl) (Zdf h3)) rfl rfl rfl ?_; clear T ac; intro ac T
    refine g_pass (T := T) (i := 20) rfl (by kernel_rfl) (by kernel_rfl : (Zpb 33 1048575).setIfInBounds 20 true = Zpb 33 2097151) si_U (fun _ _ _ h => h) (Zwn rfl rfl (T.e 12 rfl) (Zdf h3)) rfl rfl rfl ?_; clear T ac; intro ac T
    refine gq T 21 4194303 rfl (fun _ _ _ _ _ => (Zr0 rfl (T.e 13 rfl) (Zdf h3) evc)) ?_; clear T ac; intro ac T
    refine gq T 22 8388607 rfl (fun _ _ _ _ _ => (Zrm rfl (T.e 0 rfl))) ?_; clear T ac; intro ac T
    refine g_pass (T := T) (i := 23) rfl (by kernel_rfl) (by kernel_rfl : (Zpb 33 8388607).setIfInBounds 23 true = Zpb 33 16777215) si_U (fun _ _ _ h => h) (Zwn rfl rfl (T.e 0 rfl) rfl) rfl rfl rfl ?_; clear T ac; intro ac T
    refine g_pass (T := T) (i := 24) rfl (by kernel_rfl) (by kernel_rfl : (Zpb 33 16777215).setIfInBounds 24 true = Zpb 33 33554431) si_U (fun _ _ _ h => h) (Zwn rfl rfl (T.e 1 rfl) rfl) rfl rfl rfl ?_; clear T ac; intro ac T
    refine g_pass (T := T) (i := 25) rfl (by kernel_rfl) (by kernel_rfl : (Zpb 33 33554431).setIfInBounds 25 true = Zpb 33 67108863) si_U (fun _ _ _ h => h) (Zwn rfl rfl (T.e 2 rfl) rfl) rfl rfl rfl ?_; clear T ac; intro ac T
    refine g_pass (T := T) (i := 26) rfl (by kernel_rfl) (by kernel_rfl : (Zpb 33 67108863).setIfInBounds 26 true = Zpb 33 134217727) si_U (fun _ _ _ h => h) (Zwn rfl rfl (T.e 3 rfl) rfl) rfl rfl rfl ?_; clear T ac; intro ac T
    refine g_pass (T := T) (i := 27) rfl (by kernel_rfl) (by kernel_rfl : (Zpb 33 134217727).setIfInBounds 27 true = Zpb 33 268435455) si_U (fun _ _ _ h => h) (Zwn rfl rfl (T.e 4 rfl) rfl) rfl rfl rfl ?_; clear T ac; intro ac T
    refine g_pass (T := T) (i := 28) rfl (by kernel_rfl) (by kernel_rfl : (Zpb 33 268435455).setIfInBounds 28 true = Zpb 33 536870911) si_U (fun _ _ _ h => h) (Zwn rfl rfl (T.e 5 rfl) rfl) rfl rfl rfl ?_; clear T ac; intro ac T
    refine g_pass (T := T) (i := 29) rfl (by kernel_rfl) (by kernel_rfl : (Zpb 33 536870911).setIfInBounds 29 true = Zpb 33 1073741823) si_U (fun _ _ _ h => h) (Zwn rfl rfl (T.e 6 rfl) rfl) rfl rfl rfl ?_; clear T ac; intro ac T
    refine g_pass (T := T) (i := 30) rfl (by kernel_rfl) (by kernel_rfl : (Zpb 33 1073741823).setIfInBounds 30 true = Zpb 33 2147483647) si_U (fun _ _ _ h => h) (Zwn rfl rfl (T.e 7 rfl) rfl) rfl rfl rfl ?_; clear T ac; intro ac T
    refine g_pass (T := T) (i := 31) rfl (by kernel_rfl) (by kernel_rfl : (Zpb 33 2147483647).setIfInBounds 31 true = Zpb 33 4294967295) si_U (fun _ _ _ h => h) (Zwn rfl rfl (T.e 8 rfl) rfl) rfl rfl rfl ?_; clear T ac; intro ac T
    refine gq T 32 8589934591 rfl (fun _ _ _ _ _ => (Zr0 rfl (T.e 9 rfl) rfl evc)) ?_; clear T ac; intro ac T
    refine Zgd (by kernel_rfl) ?_
    replace T := T.pick [0, 1, 2, 3, 4, 5, 6, 7, 8, 9, 12, 13, 14, 15, 16, 17, 18, 19, 20, 21, 22, 23, 24, 34, 35, 36, 37, 38] rfl
    exact ⟨(T.pick (E' := [(1, .slice G g.length n), (2, .bool su), (3, .pointer (some ⟨g1, 0, none⟩)), (7, .int .i64 (i : Int)), (8, .int .i64 (k : Int)), (57, .bool false)]) [23, 24, 25, 26, 27, 0] rfl).as (by (try rw [show (decide (0 < p.pa)) = false from (Zdf h3)]); (try rfl)), M.mask [true] rfl⟩
   clear T M
   rintro ac wc ⟨T, M⟩
   refine wp_cond_split (T.e 5 rfl) ?_ ?_
   ·intro h5
    (have h5' := h5; try simp only [Zb1, Zb2, Zb3, Zb4, Zb5, Zb6, Zb7] at h5')
    have hyes : (0 < p.pa ∧ p.pa = q.pa) ∧ ¬ x = y := by simp_all
    refine Zsr ?_
    refine lq T (Zra rfl evc) ?_; clear T ac; intro ac T
    refine wpList_nil ?_
    replace T := T.pick [0] rfl
    replace M := M.mask [false] rfl
    refine Znr ?_
    refine Zrb ?_
    refine Zrt ?_
    refine Zrt ?_
    refine Zrb ?_
    refine Zrb ?_
    refine Zrt ?_
    refine Zrt ?_
    refine Zrb ?_
    refine Zrt ?_
    refine rt_1 T rfl (T.e 0 rfl) ?_
    have e9 : willB s su g num = false := by unfold willB; rw [patB_no hkp hkq hkx hky hyes]; rfl
    rw [e9]
    exact ⟨rfl, M.below⟩
   intro h5
   (have h5' := h5; try simp only [Zb1, Zb2, Zb3, Zb4, Zb5, Zb6, Zb7] at h5')
   have hnot : ¬ ((0 < p.pa ∧ p.pa = q.pa) ∧ ¬ x = y) := by rintro ⟨⟨f1, f2⟩, f3⟩; first | (simp_all; done) | (simp_all; omega)
   refine wp_skip ?_
   refine Znb ?_
   refine nm_then ?_
   refine wp_region_lit ?_
   refine Zg2 T (Zq (Zrm rfl (T.e 4 rfl))) rfl (fun _ T => Zq (rn_add rfl (T.e 0 rfl) evc (by omega))) rfl ?_; clear T ac; intro ac T
   refine l_q (v := (.int .i64 ((k : Int) + 1))) (T.pick [0, 1, 2, 3, 4, 5, 7] rfl) rfl rfl rfl rfl (Zra rfl (T.e 0 rfl)) ?_; clear T ac; intro ac T
   refine wpList_nil ?_
   replace T := T.pick [0, 3, 4, 5, 6] rfl
   refine nm_then ?_
   exact ⟨_, by omega, k + 1, rfl, (by omega), (fun k9 h9 q9 y9 e1 e2 => by rcases Nat.lt_or_eq_of_le (Nat.le_of_lt_succ h9) with h8 | rfl; exact H2 k9 h8 q9 y9 e1 e2; rw [hkq] at e1; rw [hky] at e2; injection e1 with e1; injection e2 with e2; subst e1; subst e2; exact hnot), T.pick [1, 2, 3, 4, 0] rfl, M.mask [true] rfl⟩
  intro h2
  rw [show k = i by omega] at H2
  refine wp_exit ?_
  refine Zet ?_
  refine Zet ?_
  refine ex_hit ?_
  refine Znb ?_
  refine nm_then ?_
  refine wp_region_lit ?_
  refine Zg2 T (Zq (Zrm rfl (T.e 4 rfl))) rfl (fun _ T => Zq (rn_add rfl (T.e 0 rfl) evc (by omega))) rfl ?_; clear T ac; intro ac T
  refine l_q (v := (.int .i64 ((i : Int) + 1))) (T.pick [0, 1, 2, 3, 4, 5, 7] rfl) rfl rfl rfl rfl (Zra rfl (T.e 0 rfl)) ?_; clear T ac; intro ac T
  refine wpList_nil ?_
  replace T := T.pick [0, 4, 5, 6] rfl
  refine nm_then ?_
  exact ⟨_, by omega, i + 1, rfl, (by omega), (patQ_succ H hkp hkx H2), T.pick [1, 2, 3, 0] rfl, M.mask [true] rfl⟩
 intro h1
 have hpat := patQ_all hgl (show patQ s.ps g s.ps.length by rw [show s.ps.length = i by omega]; exact H)
 refine wp_exit ?_
 refine Zet ?_
 refine Zet ?_
 refine ex_hit ?_
 refine Zns ?_
 refine Zsr ?_
 refine lq T (Zra rfl evc) ?_; clear T ac; intro ac T
 refine wpList_nil ?_
 replace T := T.pick [0, 2, 3, 4] rfl
 refine nm_then ?_
 refine wp_block ?_
 refine wp_loop_n (fun mz ac wc => ∃ (z : Nat), mz = num - z ∧ (z ≤ num) ∧ (∀ k : Nat, k < z → canS s su (clsP s.ps g (k : Int)) = true) ∧ Tm ac 91 [(1, .slice G g.length n), (2, .bool su), (3, .pointer (some ⟨g1, 0, none⟩)), (9, .int .i64 (z : Int))] ∧ Mem w noEx wc [(g1, .cells [.int .i64 s.lo, .int .i64 s.wi, .int .i64 s.a0, .int .i64 s.a1, .int .i64 s.c0, .int .i64 s.c1, .slice A s.ps.length d])]) ?_ ?_
 ·exact ⟨_, 0, rfl, (Nat.zero_le _), (fun k h => by omega), T.pick [1, 2, 3, 0] rfl, M.mask [true] rfl⟩
 clear T M
 rintro mz ac wc ⟨z, hmm3, hz, H3, T, M⟩
 refine wp_seq ?_
 refine Zsr ?_
 refine Zg2 T (Zq (Zrm rfl (T.e 3 rfl))) rfl (Zm 1 rfl rfl) rfl ?_; clear T ac; intro ac T
 refine Zl2 ?_
 refine Zoc (first := []) (cap := []) T rfl rfl rfl rfl evf (.cons (T.e 0 rfl) .nil) Tryd.func36 rfl rfl ?_
 refine Calls.mono (number_any G n g _ (SG.rd M (List.nil_sublist _)) (by omega) hgb) ?_
 clear T; rintro e wc ⟨rfl, hb⟩ ac T
 replace M := M.call hb; clear hb
 refine lq T (rn_lss rfl (T.e 2 rfl) (T.e 0 rfl)) ?_; clear T ac; intro ac T
 refine wpList_nil ?_
 replace T := T.pick [0, 4, 5, 6, 7] rfl
 refine nm_then ?_
 refine wp_if (T.e 0 rfl) ?_ ?_
 ·intro h6
  refine Zsk ?_
  refine wp_seq ?_
  refine wp_block ?_
  refine Zsr ?_
  refine lq T (Zra rfl evc) ?_; clear T ac; intro ac T
  refine wpList_nil ?_
  replace T := T.pick [0, 2, 3, 4, 5] rfl
  refine Zns ?_
  refine Zsr ?_
  refine lq T (Zra rfl evc) ?_; clear T ac; intro ac T
  refine Zln ?_
  refine wp_block ?_
  refine wp_loop_n (fun mz ac wc => ∃ (j : Nat) (OL : List Int) (A3 : Option Addr) (c3 : Nat) (Io : List (Nat × BA)), mz = g.length - j ∧ (j ≤ g.length) ∧ (gP s OL = clsP (s.ps.take j) (g.take j) (z : Int)) ∧ (∀ y ∈ OL, 0 ≤ y ∧ y < (s.ps.length : Int)) ∧ (OL.length ≤ j) ∧ (Sl 3 1 (.slice A3 OL.length c3) OL.length (ic OL) Io) ∧ Tm ac 91 [(1, .slice G g.length n), (2, .bool su), (3, .pointer (some ⟨g1, 0, none⟩)), (9, .int .i64 (z : Int)), (10, .slice A3 OL.length c3), (11, .int .i64 (j : Int))] ∧ Mem w noEx wc ((g1, .cells [.int .i64 s.lo, .int .i64 s.wi, .int .i64 s.a0, .int .i64 s.a1, .int .i64 s.c0, .int .i64 s.c1, .slice A s.ps.length d]) :: Io)) ?_ ?_
  ·exact ⟨_, 0, [], none, 0, [], rfl, (Nat.zero_le _), rfl, (fun y hy => by cases hy), (Nat.le_refl _), (Sl.nil _ _), T.pick [2, 3, 4, 5, 1, 0] rfl, M.mask [true] rfl⟩
  clear T M
  rintro mz ac wc ⟨j, OL, A3, c3, Io, hmm4, hj, hO, hOr, hOl, hsl, T, M⟩
  refine wp_seq ?_
  refine Zsr ?_
  refine Zg4 T (Zq (Zrm rfl (T.e 5 rfl))) rfl (Zm 1 rfl rfl) rfl (Zl Tryd.underlying27 0 rfl rfl) rfl (fun _ T => Zq (rn_lss rfl (T.e 2 rfl) (T.e 0 rfl))) rfl ?_; clear T ac; intro ac T
  refine wpList_nil ?_
  replace T := T.pick [0, 4, 5, 6, 7, 8, 9] rfl
  refine nm_then ?_
  refine wp_if (T.e 0 rfl) ?_ ?_
  ·intro h7
   obtain ⟨p, hkp, -⟩ := pc_next (l := s.ps) (k := j) (by omega)
   obtain ⟨x, hkx, -⟩ := ic_next (l := g) (k := j) (by omega)
   refine Zsk ?_
   refine wp_seq ?_
   refine wp_block ?_
   refine Zsr ?_
   refine Zg6 T (Zq (Zrm rfl (T.e 1 rfl))) rfl (Zm 7 rfl rfl) rfl (fun _ T => Zq (Zri (size := 1) j rfl (T.e 1 rfl) (T.e 0 rfl) ⟨_, Tryd.underlying27, by kernel_rfl⟩ rfl (by omega) (SG.at0 (by omega)))) rfl (fun _ T => Zq (rn_cell (Sp.ic0 SG M (List.nil_sublist _) hkx) rfl (T.e 0 rfl))) rfl (Zm 8 rfl rfl) rfl (fun _ T => Zq (rn_eql rfl (T.e 1 rfl) (T.e 0 rfl))) rfl ?_; clear T ac; intro ac T
   refine wpList_nil ?_
   replace T := T.pick [0, 7, 8, 9, 10, 11, 12] rfl
   refine nm_then ?_
   refine wp_if (T.e 0 rfl) ?_ ?_
   ·intro h8
    refine wp_region_lit ?_
    refine Zg2 T (Zq (Zrm rfl (T.e 5 rfl))) rfl (Zm 7 rfl rfl) rfl ?_; clear T ac; intro ac T
    refine Zl2 ?_
    refine ow_bs (e := 3) [.int .i64 (j : Int)] M T rfl rfl rfl rfl (.cons (T.e 0 rfl) .nil) (fun _ => by kernel_rfl) ?_; clear M T; intro g2 wc ac M T
    refine Zl2 ?_
    refine ow_app ([(g2, .cells [.int .i64 (j : Int)]), (g1, .cells [.int .i64 s.lo, .int .i64 s.wi, .int .i64 s.a0, .int .i64 s.a1, .int .i64 s.c0, .int .i64 s.c1, .slice A s.ps.length d])]) Tryd.info3 hsl M (by first | rfl | simp) T rfl rfl rfl rfl Tryd.underlying27 rfl rfl rfl (by omega) (T.e 2 rfl) (T.e 0 rfl) (Zne (i := 0) rfl) rfl rfl ?_; clear M T; intro ga1 cga1 wc ac M T
    refine l_q (v := (.slice (some ⟨ga1, 0, none⟩) (OL.length + 1) cga1)) (T.pick [0, 1, 2, 3, 4, 5, 6, 7, 8, 10] rfl) rfl rfl rfl rfl (Zra rfl (T.e 0 rfl)) ?_; clear T ac; intro ac T
    refine wpList_nil ?_
    replace T := T.pick [0, 6, 7, 8, 9, 10] rfl
    replace M := M.mask [true, false, true] rfl
    refine Znb ?_
    refine nm_then ?_
    refine wp_region_lit ?_
    refine Zg2 T (Zq (Zrm rfl (T.e 5 rfl))) rfl (fun _ T => Zq (rn_add rfl (T.e 0 rfl) evc (by omega))) rfl ?_; clear T ac; intro ac T
    refine l_q (v := (.int .i64 ((j : Int) + 1))) (T.pick [0, 1, 2, 3, 4, 5, 6] rfl) rfl rfl rfl rfl (Zra rfl (T.e 0 rfl)) ?_; clear T ac; intro ac T
    refine wpList_nil ?_
    replace T := T.pick [0, 3, 4, 5, 6, 7] rfl
    refine nm_then ?_
    have e9 : OL.length + 1 = (OL ++ [(j : Int)]).length := by simp
    have e8 : ((ic OL) ++ [.int .i64 (j : Int)]) = ic (OL ++ [(j : Int)]) := by rw [← ic_snoc]
    rw [e9, e8] at M
    rw [e9] at T
    clear e9 e8
    exact ⟨_, by omega, j + 1, (OL ++ [(j : Int)]), _, _, [(ga1, .row 3 1 (OL ++ [(j : Int)]).length (ic (OL ++ [(j : Int)])) cga1)], rfl, (by omega), (by rw [List.take_add_one, List.take_add_one, hkx, hkp, Option.toList_some, Option.toList_some, clsP_snoc _ _ _ _ _ (by rw [List.length_take, List.length_take]; omega), ← hO, if_pos (show x = (z : Int) by omega), gP_snoc hkp]), (fun y hy => by rcases List.mem_append.1 hy with hy | hy; exact hOr y hy; rw [List.mem_singleton.1 hy]; omega), (by simp only [List.length_append, List.length_cons, List.length_nil]; omega), (Sl.row _ _ _ _ _ _), T.pick [2, 3, 4, 5, 1, 0] rfl, (M.permT [1, 0] 2 rfl rfl rfl rfl)⟩
   intro h8
   refine wp_skip ?_
   refine Znb ?_
   refine nm_then ?_
   refine wp_region_lit ?_
   refine Zg2 T (Zq (Zrm rfl (T.e 6 rfl))) rfl (fun _ T => Zq (rn_add rfl (T.e 0 rfl) evc (by omega))) rfl ?_; clear T ac; intro ac T
   refine l_q (v := (.int .i64 ((j : Int) + 1))) (T.pick [0, 1, 2, 3, 4, 5, 6, 7] rfl) rfl rfl rfl rfl (Zra rfl (T.e 0 rfl)) ?_; clear T ac; intro ac T
   refine wpList_nil ?_
   replace T := T.pick [0, 4, 5, 6, 7, 8] rfl
   refine nm_then ?_
   exact ⟨_, by omega, j + 1, OL, _, _, Io, rfl, (by omega), (by rw [List.take_add_one, List.take_add_one, hkx, hkp, Option.toList_some, Option.toList_some, clsP_snoc _ _ _ _ _ (by rw [List.length_take, List.length_take]; omega), ← hO, if_neg (show ¬ x = (z : Int) by omega), List.append_nil]), hOr, (by omega), hsl, T.pick [1, 2, 3, 4, 5, 0] rfl, M⟩
  intro h7
  obtain ⟨bo, oo, SVo⟩ := hsl.spV (by rw [ic_length]; omega)
  have So := SVo w noEx
  rw [List.take_of_length_le (by omega), List.take_of_length_le (by omega)] at hO
  refine wp_exit ?_
  refine Zet ?_
  refine Zet ?_
  refine ex_hit ?_
  refine Zns ?_
  refine Zgs M (M.mask [true] rfl) 11 (by kernel_rfl) rfl (by kernel_rfl) ?_
  clear M; intro wc M
  refine gq T 0 1 rfl (fun B w' hD hl hS => (Zrr (Mem.nth (show Mem w noEx w' _ from hS) 0 rfl) rfl (T.e 3 rfl) rfl)) ?_; clear T ac; intro ac T
  refine gq T 1 3 rfl (fun _ _ _ _ _ => (Zrm rfl (T.e 6 rfl))) ?_; clear T ac; intro ac T
  refine gq T 2 7 rfl (fun B w' hD hl hS => (Zrr (Mem.nth (show Mem w noEx w' _ from hS) 0 rfl) rfl (T.e 5 rfl) rfl)) ?_; clear T ac; intro ac T
  refine gq T 4 23 rfl (fun _ _ _ _ _ => (Zrm rfl (T.e 5 rfl))) ?_; clear T ac; intro ac T
  refine gw 3 31 ?_; intro K hK
  refine Zoc (first := []) (cap := []) T rfl rfl rfl rfl evf (.cons (T.e 1 rfl) .nil) Tryd.func68 rfl rfl ?_
  refine Calls.mono (whole8_any s A d _) ?_
  clear T; rintro e wc ⟨rfl, hb⟩ ac T
  replace M := M.call hb; clear hb
  refine Zso hK _ _ (M.mask [true] rfl) ?_; clear hK K
  refine gw 5 63 ?_; intro K hK
  refine Zoc (first := []) (cap := []) T rfl rfl rfl rfl evf (.cons (T.e 4 rfl) (.cons (T.e 3 rfl) (.cons (T.e 0 rfl) (.cons (T.e 1 rfl) .nil)))) Tryd.func67 rfl rfl ?_
  refine Calls.mono (ply_any s A d su hsg (OL.length + 1) OL A3 c3 (⟨0, 0, s.lo, s.wi⟩ : Bo) _ (by omega) (by omega) hOr (whole_ok hsg) (SA.rd M (List.nil_sublist _)) (So.rd M (.cons _ (List.Sublist.refl _)))) ?_
  clear T; rintro e wc ⟨APu3, nPu3, XLu3, IPu3, rfl, hcpu3, hlpu3, hpyu3, SVPu3, N⟩ ac T
  obtain ⟨bPu3, oPu3, SVPu3⟩ := SVPu3
  have SPu3 := SVPu3 w noEx
  replace M := (M.join N).swapI
  clear N
  replace M : Mem w noEx wc ((g1, .cells [.int .i64 s.lo, .int .i64 s.wi, .int .i64 s.a0, .int .i64 s.a1, .int .i64 s.c0, .int .i64 s.c1, .slice A s.ps.length d]) :: (Io ++ IPu3)) := M
  refine Zso hK _ _ ((M.mask [true] rfl).sub (List.Sublist.cons_cons _ (Zsl _ _))) ?_; clear hK K
  refine gq T 6 127 rfl (fun _ _ _ _ _ => (Zrm rfl (T.e 0 rfl))) ?_; clear T ac; intro ac T
  refine gq T 7 255 rfl (fun _ _ _ _ _ => (Zre rfl (T.e 0 rfl) rfl)) ?_; clear T ac; intro ac T
  refine gq T 8 511 rfl (fun _ _ _ _ _ => (Zre rfl (T.e 1 rfl) rfl)) ?_; clear T ac; intro ac T
  refine gq T 9 1023 rfl (fun _ _ _ _ _ => (Zra rfl (T.e 1 rfl))) ?_; clear T ac; intro ac T
  refine gq T 10 2047 rfl (fun _ _ _ _ _ => (Zra rfl (T.e 1 rfl))) ?_; clear T ac; intro ac T
  refine Zgd (by kernel_rfl) ?_
  replace T := T.pick [0, 12, 13, 14, 15] rfl
  refine nm_then ?_
  refine Zsr ?_
  refine Zg2 T (Zq (Zrm rfl (T.e 0 rfl))) rfl (fun _ T => Zq (rn_not rfl (T.e 0 rfl))) rfl ?_; clear T ac; intro ac T
  refine wpList_nil ?_
  replace T := T.pick [0, 3, 4, 5, 6] rfl
  refine nm_then ?_
  refine wp_cond_split (T.e 0 rfl) ?_ ?_
  ·intro h9
   (have h9' := h9; try simp only [Zb1, Zb2, Zb3, Zb4, Zb5, Zb6, Zb7] at h9')
   refine Zsr ?_
   refine lq T (Zra rfl evc) ?_; clear T ac; intro ac T
   refine wpList_nil ?_
   replace T := T.pick [0] rfl
   replace M := M.mask [false] rfl
   refine Znr ?_
   refine Zrb ?_
   refine Zrt ?_
   refine Zrt ?_
   refine Zrb ?_
   refine Zrt ?_
   refine rt_1 T rfl (T.e 0 rfl) ?_
   have e9 : willB s su g num = false := willB_no (z := z) (by omega) (by rw [← hO, ← can8_S]; simp_all)
   rw [e9]
   exact ⟨rfl, M.below⟩
  intro h9
  (have h9' := h9; try simp only [Zb1, Zb2, Zb3, Zb4, Zb5, Zb6, Zb7] at h9')
  refine wp_skip ?_
  refine Znb ?_
  refine nm_then ?_
  refine wp_region_lit ?_
  refine Zg2 T (Zq (Zrm rfl (T.e 4 rfl))) rfl (fun _ T => Zq (rn_add rfl (T.e 0 rfl) evc (by omega))) rfl ?_; clear T ac; intro ac T
  refine l_q (v := (.int .i64 ((z : Int) + 1))) (T.pick [0, 1, 2, 3, 4, 5] rfl) rfl rfl rfl rfl (Zra rfl (T.e 0 rfl)) ?_; clear T ac; intro ac T
  refine wpList_nil ?_
  replace T := T.pick [0, 4, 5, 6] rfl
  refine nm_then ?_
  exact ⟨_, by omega, z + 1, rfl, (by omega), (fun k9 h9 => by rcases Nat.lt_or_eq_of_le (Nat.le_of_lt_succ h9) with h8 | rfl; exact H3 k9 h8; rw [← hO, ← can8_S]; simp_all), T.pick [1, 2, 3, 0] rfl, ((M.permT [0] 1 rfl rfl rfl rfl).sub (Zsl ([(g1, .cells [.int .i64 s.lo, .int .i64 s.wi, .int .i64 s.a0, .int .i64 s.a1, .int .i64 s.c0, .int .i64 s.c1, .slice A s.ps.length d])] : List (Nat × BA)) _))⟩
 intro h6
 refine wp_exit ?_
 refine Zet ?_
 refine Zet ?_
 refine ex_hit ?_
 refine nm_then ?_
 refine Zsr ?_
 refine lq T (Zra rfl evc) ?_; clear T ac; intro ac T
 refine wpList_nil ?_
 replace T := T.pick [0] rfl
 replace M := M.mask [false] rfl
 refine Znr ?_
 refine rt_1 T rfl (T.e 0 rfl) ?_
 have e9 : willB s su g num = true := willB_yes hpat fun k hk => H3 k (by omega)
 rw [e9]
 exact ⟨rfl, M.below⟩
set_option maxHeartbeats 4000000 in
theorem sheets8_any (s : Sk) (A : Option Addr) (d : Nat) (su : Bool)  (w : World) (hA : Rd w w.heap.size 4 A s.ps.length (pc s.ps)) (hsg : s.good)  :
   Calls Tryd.prog 90 #[.agg #[.int .i64 s.lo, .int .i64 s.wi, .int .i64 s.a0, .int .i64 s.a1, .int .i64 s.c0, .int .i64 s.c1, .slice A s.ps.length d], .bool su] w (Sh8Post s su w) := by
 obtain ⟨bA, oA, SA⟩ := Sp.old hA
 have hln := hsg.len
 refine Zpx noEx Tryd.func90 rfl 46 rfl [.agg #[.int .i64 s.lo, .int .i64 s.wi, .int .i64 s.a0, .int .i64 s.a1, .int .i64 s.c0, .int .i64 s.c1, .slice A s.ps.length d], .bool su] rfl rfl (Mem.init w _) ?_
 intro ac wc T M
 refine Zsr ?_
 refine Zl2 ?_
 refine Zob M T rfl rfl rfl rfl (T.e 0 rfl) rfl ?_; clear M T; intro g1 wc ac M T
 refine Zg2 T (Zq (Zra rfl evc)) rfl (Zc rfl) rfl ?_; clear T ac; intro ac T
 refine wpList_nil ?_
 replace T := T.pick [2, 4] rfl
 refine nm_then ?_
 refine Zsr ?_
 refine Zg3 (v1 := (.pointer (some ⟨g1, 6, none⟩))) T (Zq (Zrf (off := 6) rfl (T.e 0 rfl) (fun _ _ _ => by kernel_rfl))) rfl (Zo M 0 0 rfl rfl rfl rfl) rfl (Zl Tryd.underlying24 0 rfl rfl) rfl ?_; clear T ac; intro ac T
 refine Zl2 ?_
 refine Zoc (first := []) (cap := []) T rfl rfl rfl rfl evf (.cons (T.e 0 rfl) (.cons evc .nil)) Tryd.func35 rfl rfl ?_
 refine Calls.mono (assignments_any s.ps.length hln s.ps.length [] none 0 0 _ ⟨by simp [ic], fun h => absurd h (by simp)⟩ (Nat.zero_le _) (by simp) rfl (Nat.le_refl _) (fun x hx => by cases hx)) ?_
 clear T; rintro e wc ⟨AAu1, cAu1, LL, IAu1, rfl, hLL, hcAu1, SVAu1, hEl, N⟩ ac T
 obtain ⟨bAu1, oAu1, SVAu1⟩ := SVAu1
 have SAu1 := SVAu1 w noEx
 replace M := (M.join N).swapI
 clear N
 replace M : Mem w noEx wc ((g1, .cells [.int .i64 s.lo, .int .i64 s.wi, .int .i64 s.a0, .int .i64 s.a1, .int .i64 s.c0, .int .i64 s.c1, .slice A s.ps.length d]) :: IAu1) := M
 have hLn : LL.length = (asgP s.ps.length [] 0).length := by rw [← List.length_map (f := (·.1)), hLL, List.length_map]
 have hLf : LL.length ≤ 3125 := by rw [hLn]; exact asgP_few _ (by omega)
 refine lq T (Zra rfl (T.e 0 rfl)) ?_; clear T ac; intro ac T
 refine wpList_nil ?_
 replace T := T.pick [0, 5, 6] rfl
 refine Zns ?_
 refine Zsr ?_
 refine lq T (Zra rfl evc) ?_; clear T ac; intro ac T
 refine Zln ?_
 refine wp_block ?_
 refine wp_loop_n (fun mz ac wc => ∃ (n : Nat), mz = s.ps.length + 1 - n ∧ (n ≤ s.ps.length + 1) ∧ (noW s su n 0) ∧ Tm ac 46 [(1, .bool su), (2, .pointer (some ⟨g1, 0, none⟩)), (6, .slice AAu1 LL.length cAu1), (7, .int .i64 (n : Int))] ∧ Mem w noEx wc ((g1, .cells [.int .i64 s.lo, .int .i64 s.wi, .int .i64 s.a0, .int .i64 s.a1, .int .i64 s.c0, .int .i64 s.c1, .slice A s.ps.length d]) :: IAu1)) ?_ ?_
 ·exact ⟨_, 0, rfl, (Nat.zero_le _), noW.zero, T.pick [3, 2, 1, 0] rfl, M.mask [true] rfl⟩
 clear T M
 rintro mz ac wc ⟨n, hmm1, hn, H, T, M⟩
 refine wp_seq ?_
 refine Zsr ?_
 refine Zg5 (v2 := (.pointer (some ⟨g1, 6, none⟩))) T (Zq (Zrm rfl (T.e 3 rfl))) rfl (Zf 6 2 rfl rfl) rfl (Zo M 0 0 rfl rfl rfl rfl) rfl (Zl Tryd.underlying24 0 rfl rfl) rfl (fun _ T => Zq (rn_leq rfl (T.e 3 rfl) (T.e 0 rfl))) rfl ?_; clear T ac; intro ac T
 refine wpList_nil ?_
 replace T := T.pick [0, 5, 6, 7, 8] rfl
 refine nm_then ?_
 refine wp_if (T.e 0 rfl) ?_ ?_
 ·intro h1
  refine Zsk ?_
  refine wp_seq ?_
  refine wp_block ?_
  refine Zsr ?_
  refine lq T (Zra rfl evc) ?_; clear T ac; intro ac T
  refine wpList_nil ?_
  replace T := T.pick [0, 2, 3, 4, 5] rfl
  refine nm_then ?_
  refine wp_block ?_
  refine wp_loop_n (fun mz ac wc => ∃ (i : Nat), mz = LL.length - i ∧ (i ≤ LL.length) ∧ (noW s su n i) ∧ Tm ac 46 [(1, .bool su), (2, .pointer (some ⟨g1, 0, none⟩)), (6, .slice AAu1 LL.length cAu1), (7, .int .i64 (n : Int)), (8, .int .i64 (i : Int))] ∧ Mem w noEx wc ((g1, .cells [.int .i64 s.lo, .int .i64 s.wi, .int .i64 s.a0, .int .i64 s.a1, .int .i64 s.c0, .int .i64 s.c1, .slice A s.ps.length d]) :: IAu1)) ?_ ?_
  ·exact ⟨_, 0, rfl, (Nat.zero_le _), H, T.pick [1, 2, 3, 4, 0] rfl, M.mask [true] rfl⟩
  clear T M
  rintro mz ac wc ⟨i, hmm2, hi, H2, T, M⟩
  refine wp_seq ?_
  refine Zsr ?_
  refine Zg4 T (Zq (Zrm rfl (T.e 4 rfl))) rfl (Zm 3 rfl rfl) rfl (Zl Tryd.underlying43 0 rfl rfl) rfl (fun _ T => Zq (rn_lss rfl (T.e 2 rfl) (T.e 0 rfl))) rfl ?_; clear T ac; intro ac T
  refine wpList_nil ?_
  replace T := T.pick [0, 4, 5, 6, 7, 8] rfl
  refine nm_then ?_
  refine wp_if (T.e 0 rfl) ?_ ?_
  ·intro h2
   obtain ⟨⟨l9, A9, c9⟩, hkl⟩ : ∃ x, LL[i]? = some x := ⟨_, List.getElem?_eq_getElem (by omega)⟩
   obtain ⟨nl9, hka9, hnl9, hll9, hnm9, hlm9⟩ := asg_at hLL hkl
   dsimp only at hka9 hnl9 hll9 hlm9
   have hlb9 : ∀ y ∈ l9, 0 ≤ y ∧ y ≤ 1000 := fun y hy => by have := hlm9 y hy; omega
   obtain ⟨b9, o9, SV9⟩ := hEl.at0 (List.mem_of_getElem? hkl)
   replace SV9 : ∀ (w : World) (ex : Nat → Prop), Sp w ex IAu1 A9 l9.length 1 b9 o9 (ic l9) := SV9
   have S9 := SV9 w noEx
   refine Zsk ?_
   refine wp_seq ?_
   refine wp_block ?_
   refine cut_seq (fun ac wc => Tm ac 46 [(1, .bool su), (2, .pointer (some ⟨g1, 0, none⟩)), (6, .slice AAu1 LL.length cAu1), (7, .int .i64 (n : Int)), (8, .int .i64 (i : Int)), (41, .bool ((decide ((numI l9) = (n : Int))) && (willB s su l9 nl9)))] ∧ Mem w noEx wc ((g1, .cells [.int .i64 s.lo, .int .i64 s.wi, .int .i64 s.a0, .int .i64 s.a1, .int .i64 s.c0, .int .i64 s.c1, .slice A s.ps.length d]) :: IAu1)) ?_ ?_
   ·refine Zgs M (M.mask [true] rfl) 16 (by kernel_rfl) rfl (by kernel_rfl) ?_
    clear M; intro wc M
    refine gq T 0 1 rfl (fun _ _ _ _ _ => (Zrm rfl (T.e 3 rfl))) ?_; clear T ac; intro ac T
    refine gq T 1 3 rfl (fun _ _ _ _ _ => (Zrm rfl (T.e 6 rfl))) ?_; clear T ac; intro ac T
    refine gq T 2 7 rfl (fun _ _ _ _ _ => (Zri (size := 1) i rfl (T.e 1 rfl) (T.e 0 rfl) ⟨_, Tryd.underlying43, by kernel_rfl⟩ rfl (by omega) (SAu1.at0 (by omega)))) ?_; clear T ac; intro ac T
    refine gq (v := (.slice A9 l9.length c9)) T 3 15 rfl (fun B w' hD hl hS => (rn_cell (Sp.lc0 SAu1 (show Mem w noEx w' _ from hS) (.cons _ (List.Sublist.refl _)) hkl) rfl (T.e 0 rfl))) ?_; clear T ac; intro ac T
    refine gq T 5 47 rfl (fun _ _ _ _ _ => (Zrm rfl (T.e 8 rfl))) ?_; clear T ac; intro ac T
    refine gw 4 63 ?_; intro K hK
    refine Zoc (first := []) (cap := []) T rfl rfl rfl rfl evf (.cons (T.e 1 rfl) .nil) Tryd.func36 rfl rfl ?_
    refine Calls.mono (number_any A9 c9 l9 _ (S9.rd M (.cons _ (List.Sublist.refl _))) (by omega) hlb9) ?_
    clear T; rintro e wc ⟨rfl, hb⟩ ac T
    replace M := M.call hb; clear hb
    refine Zso hK _ _ (M.mask [true] rfl) ?_; clear hK K
    refine g_addU M ?_
    refine gq T 6 127 rfl (fun _ _ _ _ _ => (rn_eql rfl (T.e 0 rfl) (T.e 1 rfl))) ?_; clear T ac; intro ac T
    refine gq T 7 255 rfl (fun _ _ _ _ _ => (Zrm rfl (T.e 0 rfl))) ?_; clear T ac; intro ac T
    rcases Bool.eq_false_or_eq_true (decide ((numI l9) = (n : Int))) with h3 | h3
    ·replace h3 := of_decide_eq_true h3
     refine g_q (T := T) (i := 8) rfl (by kernel_rfl) (by kernel_rfl : (Zpb 16 255).setIfInBounds 8 true = Zpb 16 511) (si_and si_U si_U) (fun _ _ _ h => h) (Zwy rfl rfl (T.e 0 rfl) (Zdt h3)) rfl rfl rfl (fun B w' hD hl hS => (Zrr (Mem.nth (show Mem w noEx w' _ from (MA.lft hS)) 0 rfl) rfl (T.e 10 rfl) rfl)) ?_; clear T ac; intro ac T
     refine g_q (T := T) (i := 9) rfl (by kernel_rfl) (by kernel_rfl : (Zpb 16 511).setIfInBounds 9 true = Zpb 16 1023) (si_and si_U si_U) (fun _ _ _ h => h) (Zwy rfl rfl (T.e 1 rfl) (Zdt h3)) rfl rfl rfl (fun _ _ _ _ _ => (Zrm rfl (T.e 12 rfl))) ?_; clear T ac; intro ac T
     refine g_q (T := T) (i := 10) rfl (by kernel_rfl) (by kernel_rfl : (Zpb 16 1023).setIfInBounds 10 true = Zpb 16 2047) (si_and si_U si_U) (fun _ _ _ h => h) (Zwy rfl rfl (T.e 2 rfl) (Zdt h3)) rfl rfl rfl (fun _ _ _ _ _ => (Zrm rfl (T.e 15 rfl))) ?_; clear T ac; intro ac T
     refine g_q (T := T) (i := 11) rfl (by kernel_rfl) (by kernel_rfl : (Zpb 16 2047).setIfInBounds 11 true = Zpb 16 4095) (si_and si_U si_U) (fun _ _ _ h => h) (Zwy rfl rfl (T.e 3 rfl) (Zdt h3)) rfl rfl rfl (fun _ _ _ _ _ => (Zri (size := 1) i rfl (T.e 1 rfl) (T.e 0 rfl) ⟨_, Tryd.underlying43, by kernel_rfl⟩ rfl (by omega) (SAu1.at0 (by omega)))) ?_; clear T ac; intro ac T
     refine g_q (v := (.slice A9 l9.length c9)) (T := T) (i := 12) rfl (by kernel_rfl) (by kernel_rfl : (Zpb 16 4095).setIfInBounds 12 true = Zpb 16 8191) (si_and si_U si_U) (fun _ _ _ h => h) (Zwy rfl rfl (T.e 4 rfl) (Zdt h3)) rfl rfl rfl (fun B w' hD hl hS => (rn_cell (Sp.lc0 SAu1 (show Mem w noEx w' _ from (MA.lft hS)) (.cons _ (List.Sublist.refl _)) hkl) rfl (T.e 0 rfl))) ?_; clear T ac; intro ac T
     refine g_q (T := T) (i := 13) rfl (by kernel_rfl) (by kernel_rfl : (Zpb 16 8191).setIfInBounds 13 true = Zpb 16 16383) (si_and si_U si_U) (fun _ _ _ h => h) (Zwy rfl rfl (T.e 5 rfl) (Zdt h3)) rfl rfl rfl (fun _ _ _ _ _ => (Zrm rfl (T.e 14 rfl))) ?_; clear T ac; intro ac T
     refine g_w (i := 14) (by kernel_rfl) rfl (by kernel_rfl : (Zpb 16 16383).setIfInBounds 14 true = Zpb 16 32767) (Zwy rfl rfl (T.e 6 rfl) (Zdt h3)) ?_; intro K hK
     refine Zoc (first := []) (cap := []) T rfl rfl rfl rfl evf (.cons (T.e 5 rfl) (.cons (T.e 1 rfl) (.cons (T.e 0 rfl) .nil))) Tryd.func112 rfl rfl ?_
     refine Calls.mono (will8r_any s A d A9 c9 l9 su nl9 _ (SA.rd M (List.nil_sublist _)) (S9.rd M (.cons _ (List.Sublist.refl _))) hsg hll9 hnl9 (by omega) hlb9) ?_
     clear T; rintro e wc ⟨rfl, hb⟩ ac T
     replace M := M.call hb; clear hb
     refine Zso hK _ _ (MA.mk (M.mask [true] rfl) (M.mask [true] rfl)) ?_; clear hK K
     refine gq T 15 65535 rfl (fun _ _ _ _ _ => (Zr1 rfl (T.e 7 rfl) (Zdt h3) (T.e 0 rfl))) ?_; clear T ac; intro ac T
     refine Zgd (by kernel_rfl) ?_
     replace T := T.pick [0, 1, 2, 3, 4, 5, 6, 7, 17, 18, 19, 20, 21] rfl
     exact ⟨(T.pick (E' := [(1, .bool su), (2, .pointer (some ⟨g1, 0, none⟩)), (6, .slice AAu1 LL.length cAu1), (7, .int .i64 (n : Int)), (8, .int .i64 (i : Int)), (41, .bool (willB s su l9 nl9))]) [8, 9, 10, 11, 12, 0] rfl).as (by (try rw [show (decide ((numI l9) = (n : Int))) = true from (Zdt h3)]); (try rfl)), M.mask [true] rfl⟩
    replace h3 := of_decide_eq_false h3
    refine g_pass (T := T) (i := 8) rfl (by kernel_rfl) (by kernel_rfl : (Zpb 16 255).setIfInBounds 8 true = Zpb 16 511) (si_and si_U si_U) (fun _ _ _ h => h) (Zwn rfl rfl (T.e 0 rfl) (Zdf h3)) rfl rfl rfl ?_; clear T ac; intro ac T
    refine g_pass (T := T) (i := 9) rfl (by kernel_rfl) (by kernel_rfl : (Zpb 16 511).setIfInBounds 9 true = Zpb 16 1023) (si_and si_U si_U) (fun _ _ _ h => h) (Zwn rfl rfl (T.e 1 rfl) (Zdf h3)) rfl rfl rfl ?_; clear T ac; intro ac T
    refine g_pass (T := T) (i := 10) rfl (by kernel_rfl) (by kernel_rfl : (Zpb 16 1023).setIfInBounds 10 true = Zpb 16 2047) (si_and si_U si_U) (fun _ _ _ h => h) (Zwn rfl rfl (T.e 2 rfl) (Zdf h3)) rfl rfl rfl ?_; clear T ac; intro ac T
    refine g_pass (T := T) (i := 11) rfl (by kernel_rfl) (by kernel_rfl : (Zpb 16 2047).setIfInBounds 11 true = Zpb 16 4095) (si_and si_U si_U) (fun _ _ _ h => h) (Zwn rfl rfl (T.e 3 rfl) (Zdf h3)) rfl rfl rfl ?_; clear T ac; intro ac T
    refine g_pass (T := T) (i := 12) rfl (by kernel_rfl) (by kernel_rfl : (Zpb 16 4095).setIfInBounds 12 true = Zpb 16 8191) (si_and si_U si_U) (fun _ _ _ h => h) (Zwn rfl rfl (T.e 4 rfl) (Zdf h3)) rfl rfl rfl ?_; clear T ac; intro ac T
    refine g_pass (T := T) (i := 13) rfl (by kernel_rfl) (by kernel_rfl : (Zpb 16 8191).setIfInBounds 13 true = Zpb 16 16383) (si_and si_U si_U) (fun _ _ _ h => h) (Zwn rfl rfl (T.e 5 rfl) (Zdf h3)) rfl rfl rfl ?_; clear T ac; intro ac T
    refine g_pass (T := T) (i := 14) rfl (by kernel_rfl) (by kernel_rfl : (Zpb 16 16383).setIfInBounds 14 true = Zpb 16 32767) (si_and si_U si_U) (fun _ _ _ h => h) (Zwn rfl rfl (T.e 6 rfl) (Zdf h3)) rfl rfl rfl ?_; clear T ac; intro ac T
    refine gq T 15 65535 rfl (fun _ _ _ _ _ => (Zr0 rfl (T.e 7 rfl) (Zdf h3) evc)) ?_; clear T ac; intro ac T
    refine Zgd (by kernel_rfl) ?_
    replace T := T.pick [0, 1, 2, 3, 4, 5, 6, 7, 17, 18, 19, 20, 21] rfl
    exact ⟨(T.pick (E' := [(1, .bool su), (2, .pointer (some ⟨g1, 0, none⟩)), (6, .slice AAu1 LL.length cAu1), (7, .int .i64 (n : Int)), (8, .int .i64 (i : Int)), (41, .bool false)]) [8, 9, 10, 11, 12, 0] rfl).as (by (try rw [show (decide ((numI l9) = (n : Int))) = false from (Zdf h3)]); (try rfl)), M.mask [true] rfl⟩
   clear T M
   rintro ac wc ⟨T, M⟩
   refine wp_cond_split (T.e 5 rfl) ?_ ?_
   ·intro h4
    (have h4' := h4; try simp only [Zb1, Zb2, Zb3, Zb4, Zb5, Zb6, Zb7] at h4')
    refine Zsr ?_
    refine Zg6 (v4 := (.slice A9 l9.length c9)) T (Zq (Zrm rfl (T.e 2 rfl))) rfl (Zm 5 rfl rfl) rfl (fun _ T => Zq (Zri (size := 1) i rfl (T.e 1 rfl) (T.e 0 rfl) ⟨_, Tryd.underlying43, by kernel_rfl⟩ rfl (by omega) (SAu1.at0 (by omega)))) rfl (fun _ T => Zq (rn_cell (Sp.lc0 SAu1 M (.cons _ (List.Sublist.refl _)) hkl) rfl (T.e 0 rfl))) rfl (Za 0 rfl rfl) rfl (Zc rfl) rfl ?_; clear T ac; intro ac T
    refine wpList_nil ?_
    replace T := T.pick [0, 1] rfl
    replace M := M.mask [false] rfl
    refine Znr ?_
    refine Zrb ?_
    refine Zrt ?_
    refine Zrt ?_
    refine Zrb ?_
    refine Zrb ?_
    refine Zrt ?_
    refine Zrt ?_
    refine Zrb ?_
    refine Zrt ?_
    refine rt_2 T rfl (T.e 1 rfl) (T.e 0 rfl) ?_
    have hf9 := H2.yes hka9 (show nl9 = n by omega) (by simp_all)
    exact ⟨A9, c9, l9, nl9, true, IAu1, rfl, hf9, hnl9, (sh8_some hsg hf9).2.1.symm, hlb9, by omega, ⟨b9, o9, SV9⟩, M⟩
   intro h4
   (have h4' := h4; try simp only [Zb1, Zb2, Zb3, Zb4, Zb5, Zb6, Zb7] at h4')
   refine wp_skip ?_
   refine Znb ?_
   refine nm_then ?_
   refine wp_region_lit ?_
   refine Zg2 T (Zq (Zrm rfl (T.e 4 rfl))) rfl (fun _ T => Zq (rn_add rfl (T.e 0 rfl) evc (by omega))) rfl ?_; clear T ac; intro ac T
   refine l_q (v := (.int .i64 ((i : Int) + 1))) (T.pick [0, 1, 2, 3, 4, 5, 7] rfl) rfl rfl rfl rfl (Zra rfl (T.e 0 rfl)) ?_; clear T ac; intro ac T
   refine wpList_nil ?_
   replace T := T.pick [0, 3, 4, 5, 6] rfl
   refine nm_then ?_
   exact ⟨_, by omega, i + 1, rfl, (by omega), (H2.succ hka9 (by rintro ⟨f1, f2⟩; dsimp only at f1 f2; simp_all)), T.pick [1, 2, 3, 4, 0] rfl, M.mask [true] rfl⟩
  intro h2
  refine wp_exit ?_
  refine Zet ?_
  refine Zet ?_
  refine ex_hit ?_
  refine Znb ?_
  refine nm_then ?_
  refine wp_region_lit ?_
  refine Zg2 T (Zq (Zrm rfl (T.e 4 rfl))) rfl (fun _ T => Zq (rn_add rfl (T.e 0 rfl) evc (by omega))) rfl ?_; clear T ac; intro ac T
  refine l_q (v := (.int .i64 ((n : Int) + 1))) (T.pick [0, 1, 2, 3, 4, 5, 7] rfl) rfl rfl rfl rfl (Zra rfl (T.e 0 rfl)) ?_; clear T ac; intro ac T
  refine wpList_nil ?_
  replace T := T.pick [0, 4, 5, 6] rfl
  refine nm_then ?_
  exact ⟨_, by omega, n + 1, rfl, (by omega), (H2.next (by omega)), T.pick [1, 2, 3, 0] rfl, M.mask [true] rfl⟩
 intro h1
 have hno := H.none (by omega)
 refine wp_exit ?_
 refine Zet ?_
 refine Zet ?_
 refine ex_hit ?_
 refine nm_then ?_
 refine Zsr ?_
 refine Zg2 T (Zq (Zra rfl evc)) rfl (Zc rfl) rfl ?_; clear T ac; intro ac T
 refine wpList_nil ?_
 replace T := T.pick [0, 1] rfl
 replace M := M.mask [false] rfl
 refine Znr ?_
 refine rt_2 T rfl (T.e 1 rfl) (T.e 0 rfl) ?_
 exact ⟨none, 0, [], 0, false, [], rfl, hno, rfl, (sh8_none hsg hno).2.1.symm, fun y hy => (by cases hy), Nat.zero_le _, ⟨0, 0, fun _ _ => Sp.nil⟩, M.sub (List.nil_sublist _)⟩
theorem Sheets8_any (s : Sk) (A : Option Addr) (d : Nat) (su : Bool)  (w : World) (hA : Rd w w.heap.size 4 A s.ps.length (pc s.ps)) (nA : s.ps.length ≤ 1000000)  :
   Calls Tryd.prog 49 #[.agg #[.int .i64 s.lo, .int .i64 s.wi, .int .i64 s.a0, .int .i64 s.a1, .int .i64 s.c0, .int .i64 s.c1, .slice A s.ps.length d], .bool su] w (Shs8Post s su w) := by
 obtain ⟨bA, oA, SA⟩ := Sp.old hA
 refine Zpx noEx Tryd.func49 rfl 26 rfl [.agg #[.int .i64 s.lo, .int .i64 s.wi, .int .i64 s.a0, .int .i64 s.a1, .int .i64 s.c0, .int .i64 s.c1, .slice A s.ps.length d], .bool su] rfl rfl (Mem.init w _) ?_
 intro ac wc T M
 refine Zsr ?_
 refine Zl2 ?_
 refine Zob M T rfl rfl rfl rfl (T.e 0 rfl) rfl ?_; clear M T; intro g1 wc ac M T
 refine Zg3 T (Zq (Zra rfl evc)) rfl (Zc rfl) rfl (Zc rfl) rfl ?_; clear T ac; intro ac T
 refine wpList_nil ?_
 replace T := T.pick [3, 5] rfl
 refine Zns ?_
 refine Zsr ?_
 refine lq T (Zrr (Mem.nth M 0 rfl) rfl (T.e 0 rfl) rfl) ?_; clear T ac; intro ac T
 refine Zl2 ?_
 refine Zoc (first := []) (cap := []) T rfl rfl rfl rfl evf (.cons (T.e 0 rfl) .nil) Tryd.func61 rfl rfl ?_
 refine Calls.mono (skCheck8_any s A d _ (SA.rd M (List.nil_sublist _)) (by omega)) ?_
 clear T; rintro e wc ⟨rfl, hb⟩ ac T
 replace M := M.call hb; clear hb
 refine lq T (Zra rfl (T.e 0 rfl)) ?_; clear T ac; intro ac T
 refine wpList_nil ?_
 replace T := T.pick [0, 3, 4] rfl
 refine nm_then ?_
 refine Zsr ?_
 refine Zg2 T (Zq (Zrm rfl (T.e 0 rfl))) rfl (fun _ T => Zq (rn_neq rfl (T.e 0 rfl) evc)) rfl ?_; clear T ac; intro ac T
 refine wpList_nil ?_
 replace T := T.pick [0, 2, 3, 4] rfl
 refine nm_then ?_
 refine wp_ifn (T.e 0 rfl) ?_ ?_
 ·intro h1
  refine Zsr ?_
  refine Zg4 T (Zq (Zrm rfl (T.e 1 rfl))) rfl (Zc rfl) rfl (Zc rfl) rfl (Za 2 rfl rfl) rfl ?_; clear T ac; intro ac T
  refine wpList_nil ?_
  replace T := T.pick [0, 1, 2] rfl
  replace M := M.mask [false] rfl
  refine Znr ?_
  refine Zrt ?_
  refine rt_3 T rfl (T.e 2 rfl) (T.e 1 rfl) (T.e 0 rfl) ?_
  obtain ⟨e1, e2, e3⟩ := shE_err (s := s) (su := su) (by omega)
  unfold Shs8Post
  rw [e1, e2, e3]
  exact ⟨none, 0, [], rfl, ⟨0, 0, fun _ _ => Sp.nil⟩, M.sub (List.nil_sublist _)⟩
 intro h1
 have hsg := skErr_iff.1 (show skErr s = 0 by omega)
 refine Zsk ?_
 refine Zsr ?_
 refine Zg2 T (Zq (Zrr (Mem.nth M 0 rfl) rfl (T.e 2 rfl) rfl)) rfl (Zm 4 rfl rfl) rfl ?_; clear T ac; intro ac T
 refine Zl2 ?_
 refine Zoc (first := []) (cap := []) T rfl rfl rfl rfl evf (.cons (T.e 1 rfl) (.cons (T.e 0 rfl) .nil)) Tryd.func90 rfl rfl ?_
 refine Calls.mono (sheets8_any s A d su _ (SA.rd M (List.nil_sublist _)) hsg) ?_
 clear T; rintro e wc ⟨ASu2, cSu2, blu2, bnu2, biu2, ISu2, rfl, hfu2, hnbu2, hsnu2, hbbu2, hblu2, SVSu2, N⟩ ac T
 obtain ⟨bSu2, oSu2, SVSu2⟩ := SVSu2
 have SSu2 := SVSu2 w noEx
 replace M := (M.join N).swapI
 clear N
 replace M : Mem w noEx wc ((g1, .cells [.int .i64 s.lo, .int .i64 s.wi, .int .i64 s.a0, .int .i64 s.a1, .int .i64 s.c0, .int .i64 s.c1, .slice A s.ps.length d]) :: ISu2) := M
 refine Zg5 T (Zq (Zrm rfl (T.e 0 rfl))) rfl (Ze 0 rfl rfl rfl) rfl (Ze 1 rfl rfl rfl) rfl (Za 1 rfl rfl) rfl (Za 1 rfl rfl) rfl ?_; clear T ac; intro ac T
 refine wpList_nil ?_
 replace T := T.pick [0, 1] rfl
 replace M := M.mask [false] rfl
 refine Zns ?_
 refine Zsr ?_
 refine Zg2 T (Zq (Zrm rfl (T.e 0 rfl))) rfl (fun _ T => Zq (rn_not rfl (T.e 0 rfl))) rfl ?_; clear T ac; intro ac T
 refine wpList_nil ?_
 replace T := T.pick [0, 3] rfl
 refine nm_then ?_
 refine wp_cond_split (T.e 0 rfl) ?_ ?_
 ·intro h2
  (have h2' := h2; try simp only [Zb1, Zb2, Zb3, Zb4, Zb5, Zb6, Zb7] at h2')
  refine Zsr ?_
  refine Zg3 T (Zq (Zra rfl evc)) rfl (Zc rfl) rfl (Zc rfl) rfl ?_; clear T ac; intro ac T
  refine wpList_nil ?_
  replace T := T.pick [0, 1, 2] rfl
  refine Znr ?_
  refine Zrt ?_
  refine rt_3 T rfl (T.e 2 rfl) (T.e 1 rfl) (T.e 0 rfl) ?_
  obtain ⟨e1, e2, e3⟩ := sh8_none hsg (show shF s su = none by rw [hfu2]; simp_all)
  unfold Shs8Post
  rw [e1, e2, e3]
  exact ⟨none, 0, [], rfl, ⟨0, 0, fun _ _ => Sp.nil⟩, M.sub (List.nil_sublist _)⟩
 intro h2
 (have h2' := h2; try simp only [Zb1, Zb2, Zb3, Zb4, Zb5, Zb6, Zb7] at h2')
 refine Zsk ?_
 refine Zsr ?_
 refine Zg2 T (Zq (Zrm rfl (T.e 1 rfl))) rfl (Zm 2 rfl rfl) rfl ?_; clear T ac; intro ac T
 refine Zl2 ?_
 refine Zoc (first := []) (cap := []) T rfl rfl rfl rfl evf (.cons (T.e 0 rfl) .nil) Tryd.func36 rfl rfl ?_
 refine Calls.mono (number_any ASu2 cSu2 blu2 _ (SSu2.rd M (List.Sublist.refl _)) (by omega) hbbu2) ?_
 clear T; rintro e wc ⟨rfl, hb⟩ ac T
 replace M := M.call hb; clear hb
 refine Zg3 T (Zq (Zra rfl (T.e 2 rfl))) rfl (Za 1 rfl rfl) rfl (Zc rfl) rfl ?_; clear T ac; intro ac T
 refine wpList_nil ?_
 replace T := T.pick [0, 1, 2] rfl
 refine Znr ?_
 refine rt_3 T rfl (T.e 2 rfl) (T.e 1 rfl) (T.e 0 rfl) ?_
 obtain ⟨e1, e2, e3⟩ := sh8_some hsg (show shF s su = some (blu2, bnu2) by rw [hfu2]; simp_all)
 unfold Shs8Post
 rw [e1, e2, e3]
 skip
 exact ⟨ASu2, cSu2, ISu2, by rw [hnbu2], ⟨bSu2, oSu2, SVSu2⟩, M.sub (Zsq [] _)⟩
theorem areasS_bd {s : Sk} (h : s.good) (su : Bool) : 0 ≤ areasS s su ∧ areasS s su ≤ 50000 := by
 have h1 := areasP_bd (cut_bd h su).1 (cut_bd h su).2 h.ps
 have h2 := h.len
 unfold areasS
 omega
theorem bnd_of {s : Sk} {su : Bool} {n : Nat} (hg : s.good) (h1 : areasS s su ≤ (n : Int) * s.lo * s.wi) (h2 : n = 0 ∨ ((n : Int) - 1) * s.lo * s.wi < areasS s su) : bndV s su = n := by
 obtain ⟨b1, b2, -⟩ := bound_law hg su
 obtain ⟨⟨l1, l2⟩, ⟨w1, w2⟩, -⟩ := id hg
 have mono : ∀ x y : Int, x ≤ y → x * s.lo * s.wi ≤ y * s.lo * s.wi := fun x y h => Int.mul_le_mul_of_nonneg_right (Int.mul_le_mul_of_nonneg_right h (by omega)) (by omega)
 have b0 : 0 ≤ bndV s su := by
  unfold bndV
  rw [if_neg (by have := skErr_iff.2 hg; omega)]
  have h3 := areasS_bd hg su
  have h4 : 0 ≤ s.lo * s.wi := Int.mul_nonneg (by omega) (by omega)
  have h5 : 0 < s.lo * s.wi := Int.mul_pos (by omega) (by omega)
  exact Int.tdiv_nonneg (by omega) h4
 rcases Int.lt_trichotomy (bndV s su) n with h | h | h
 ·have := mono (bndV s su) ((n : Int) - 1) (by omega)
  rcases h2 with h2 | h2
  ·omega
  ·omega
 ·exact h
 ·have := mono (n : Int) (bndV s su - 1) (by omega)
  have := b2 (by omega)
  omega
theorem area8_any (s : Sk) (A : Option Addr) (d : Nat) (su : Bool)  (w : World) (hA : Rd w w.heap.size 4 A s.ps.length (pc s.ps)) (hsg : s.good)  :
   Calls Tryd.prog 92 #[.agg #[.int .i64 s.lo, .int .i64 s.wi, .int .i64 s.a0, .int .i64 s.a1, .int .i64 s.c0, .int .i64 s.c1, .slice A s.ps.length d], .bool su] w fun e w' => e = .returned (.int .i64 (areasS s su)) ∧ Below w.heap.size w w' := by
 obtain ⟨bA, oA, SA⟩ := Sp.old hA
 have hln := hsg.len
 refine Zpx noEx Tryd.func92 rfl 58 rfl [.agg #[.int .i64 s.lo, .int .i64 s.wi, .int .i64 s.a0, .int .i64 s.a1, .int .i64 s.c0, .int .i64 s.c1, .slice A s.ps.length d], .bool su] rfl rfl (Mem.init w _) ?_
 intro ac wc T M
 refine Zsr ?_
 refine Zl2 ?_
 refine Zob M T rfl rfl rfl rfl (T.e 0 rfl) rfl ?_; clear M T; intro g1 wc ac M T
 refine lq T (Zra rfl evc) ?_; clear T ac; intro ac T
 refine wpList_nil ?_
 replace T := T.pick [1, 3] rfl
 refine nm_then ?_
 refine Zsr ?_
 refine lq T (Zra rfl evc) ?_; clear T ac; intro ac T
 refine Zln ?_
 refine wp_seq ?_
 refine Zsr ?_
 refine lq T (Zra rfl evc) ?_; clear T ac; intro ac T
 refine Zln ?_
 refine wp_block ?_
 refine wp_loop_n (fun mz ac wc => ∃ (k : Nat) (m9 : Int), mz = s.ps.length - k ∧ (k ≤ s.ps.length) ∧ (areasP (cutA s su) (cutC s su) s.ps = m9 + areasP (cutA s su) (cutC s su) (s.ps.drop k)) ∧ (0 ≤ m9 ∧ m9 ≤ 10000 * (k : Int)) ∧ Tm ac 58 [(1, .bool su), (2, .pointer (some ⟨g1, 0, none⟩)), (5, .int .i64 m9), (6, .int .i64 (k : Int))] ∧ Mem w noEx wc [(g1, .cells [.int .i64 s.lo, .int .i64 s.wi, .int .i64 s.a0, .int .i64 s.a1, .int .i64 s.c0, .int .i64 s.c1, .slice A s.ps.length d])]) ?_ ?_
 ·exact ⟨_, 0, 0, rfl, (Nat.zero_le _), (by rw [List.drop_zero, Int.zero_add]), (by omega), T.pick [3, 2, 1, 0] rfl, M.mask [true] rfl⟩
 clear T M
 rintro mz ac wc ⟨k, m9, hmm1, hk, H, hb, T, M⟩
 refine wp_seq ?_
 refine Zsr ?_
 refine Zg5 (v2 := (.pointer (some ⟨g1, 6, none⟩))) T (Zq (Zrm rfl (T.e 3 rfl))) rfl (Zf 6 2 rfl rfl) rfl (Zo M 0 0 rfl rfl rfl rfl) rfl (Zl Tryd.underlying24 0 rfl rfl) rfl (fun _ T => Zq (rn_lss rfl (T.e 3 rfl) (T.e 0 rfl))) rfl ?_; clear T ac; intro ac T
 refine wpList_nil ?_
 replace T := T.pick [0, 5, 6, 7, 8] rfl
 refine nm_then ?_
 refine wp_if (T.e 0 rfl) ?_ ?_
 ·intro h1
  obtain ⟨p, hkp, -⟩ := pc_next (l := s.ps) (k := k) (by omega)
  have hpg : p.good := hsg.ps p (List.mem_of_getElem? hkp)
  have hab9 := areaP_bd hpg (cut_bd hsg su).1 (cut_bd hsg su).2
  rw [areasP_drop hkp] at H
  have hz1 := mulS (x := (sizeL (cutA s su) (cutC s su) p false)) (y := (sizeW (cutA s su) (cutC s su) p false)) (by obtain ⟨g1, g2, -⟩ := hpg; have := (cut_bd hsg su).1; simp only [sizeL]; split <;> omega) (by obtain ⟨g1, g2, -⟩ := hpg; have := (cut_bd hsg su).2; simp only [sizeW]; split <;> omega)
  have hz2 := mulS (x := (sizeL (cutA s su) (cutC s su) p true)) (y := (sizeW (cutA s su) (cutC s su) p true)) (by obtain ⟨g1, g2, -⟩ := hpg; have := (cut_bd hsg su).1; simp only [sizeL]; split <;> omega) (by obtain ⟨g1, g2, -⟩ := hpg; have := (cut_bd hsg su).2; simp only [sizeW]; split <;> omega)
  refine Zsk ?_
  refine wp_seq ?_
  refine wp_block ?_
  refine wp_seq ?_
  refine Zgs M (M.mask [true] rfl) 13 (by kernel_rfl) rfl (by kernel_rfl) ?_
  clear M; intro wc M
  refine gq T 0 1 rfl (fun B w' hD hl hS => (Zrr (Mem.nth (show Mem w noEx w' _ from hS) 0 rfl) rfl (T.e 2 rfl) rfl)) ?_; clear T ac; intro ac T
  refine gq (v := (.pointer (some ⟨g1, 6, none⟩))) T 1 3 rfl (fun _ _ _ _ _ => (Zrf (off := 6) rfl (T.e 3 rfl) (fun _ _ _ => by kernel_rfl))) ?_; clear T ac; intro ac T
  refine gq T 2 7 rfl (fun B w' hD hl hS => (Zro (Mem.nth (show Mem w noEx w' _ from hS) 0 rfl) rfl (T.e 0 rfl) rfl)) ?_; clear T ac; intro ac T
  refine gq T 3 15 rfl (fun _ _ _ _ _ => (Zrm rfl (T.e 7 rfl))) ?_; clear T ac; intro ac T
  refine gq T 4 31 rfl (fun _ _ _ _ _ => (Zri (size := 4) k rfl (T.e 1 rfl) (T.e 0 rfl) ⟨_, Tryd.underlying24, by kernel_rfl⟩ rfl (by omega) (SA.at0 (by omega)))) ?_; clear T ac; intro ac T
  refine gq (v := (.agg #[.int .i64 p.l, .int .i64 p.w, .bool p.gr, .int .i64 p.pa])) T 5 63 rfl (fun B w' hD hl hS => (rn_rowat (Sp.pcR SA (show Mem w noEx w' _ from hS) (List.nil_sublist _) hkp) rfl (T.e 0 rfl) rfl)) ?_; clear T ac; intro ac T
  refine gq T 6 127 rfl (fun _ _ _ _ _ => (Zrm rfl (T.e 7 rfl))) ?_; clear T ac; intro ac T
  refine gw 7 255 ?_; intro K hK
  refine Zoc (first := []) (cap := []) T rfl rfl rfl rfl evf (.cons (T.e 6 rfl) (.cons (T.e 1 rfl) (.cons evc (.cons (T.e 0 rfl) .nil)))) Tryd.func94 rfl rfl ?_
  refine Calls.mono (size8_any s A d p false su _ hsg hpg) ?_
  clear T; rintro e wc ⟨rfl, hb⟩ ac T
  replace M := M.call hb; clear hb
  refine Zso hK _ _ (M.mask [true] rfl) ?_; clear hK K
  refine gq T 8 511 rfl (fun _ _ _ _ _ => (Zrm rfl (T.e 0 rfl))) ?_; clear T ac; intro ac T
  refine gq T 9 1023 rfl (fun _ _ _ _ _ => (Zre rfl (T.e 0 rfl) rfl)) ?_; clear T ac; intro ac T
  refine gq T 10 2047 rfl (fun _ _ _ _ _ => (Zre rfl (T.e 1 rfl) rfl)) ?_; clear T ac; intro ac T
  refine gq T 11 4095 rfl (fun _ _ _ _ _ => (Zra rfl (T.e 1 rfl))) ?_; clear T ac; intro ac T
  refine gq T 12 8191 rfl (fun _ _ _ _ _ => (Zra rfl (T.e 1 rfl))) ?_; clear T ac; intro ac T
  refine Zgd (by kernel_rfl) ?_
  replace T := T.pick [0, 1, 14, 15, 16, 17] rfl
  refine nm_then ?_
  refine Zsr ?_
  refine Zg4 T (Zq (Zrm rfl (T.e 1 rfl))) rfl (Zm 1 rfl rfl) rfl (fun _ T => Zq (rn_mul rfl (T.e 1 rfl) (T.e 0 rfl) (by omega))) rfl (Za 0 rfl rfl) rfl ?_; clear T ac; intro ac T
  refine wpList_nil ?_
  replace T := T.pick [0, 6, 7, 8, 9] rfl
  refine Zns ?_
  refine Zsr ?_
  refine Zg7 (v1 := (.pointer (some ⟨g1, 6, none⟩))) T (Zq (Zrf (off := 6) rfl (T.e 2 rfl) (fun _ _ _ => by kernel_rfl))) rfl (Zo M 0 0 rfl rfl rfl rfl) rfl (Zm 6 rfl rfl) rfl (fun _ T => Zq (Zri (size := 4) k rfl (T.e 1 rfl) (T.e 0 rfl) ⟨_, Tryd.underlying24, by kernel_rfl⟩ rfl (by omega) (SA.at0 (by omega)))) rfl (Zf 2 0 rfl rfl) rfl (fun _ T => Zq (rn_cell (Sp.pcC2 SA M (List.nil_sublist _) hkp) rfl (T.e 0 rfl))) rfl (fun _ T => Zq (rn_not rfl (T.e 0 rfl))) rfl ?_; clear T ac; intro ac T
  refine wpList_nil ?_
  replace T := T.pick [0, 7, 8, 9, 10, 11] rfl
  refine nm_then ?_
  refine wp_cond_split (T.e 0 rfl) ?_ ?_
  ·intro h2
   (have h2' := h2; try simp only [Zb1, Zb2, Zb3, Zb4, Zb5, Zb6, Zb7] at h2')
   have hap : areaP (cutA s su) (cutC s su) p = min ((sizeL (cutA s su) (cutC s su) p false) * (sizeW (cutA s su) (cutC s su) p false)) ((sizeL (cutA s su) (cutC s su) p true) * (sizeW (cutA s su) (cutC s su) p true)) := if_neg (by simp_all)
   rw [hap] at hab9
   refine wp_seq ?_
   refine Zgs M (M.mask [true] rfl) 13 (by kernel_rfl) rfl (by kernel_rfl) ?_
   clear M; intro wc M
   refine gq T 0 1 rfl (fun B w' hD hl hS => (Zrr (Mem.nth (show Mem w noEx w' _ from hS) 0 rfl) rfl (T.e 3 rfl) rfl)) ?_; clear T ac; intro ac T
   refine gq (v := (.pointer (some ⟨g1, 6, none⟩))) T 1 3 rfl (fun _ _ _ _ _ => (Zrf (off := 6) rfl (T.e 4 rfl) (fun _ _ _ => by kernel_rfl))) ?_; clear T ac; intro ac T
   refine gq T 2 7 rfl (fun B w' hD hl hS => (Zro (Mem.nth (show Mem w noEx w' _ from hS) 0 rfl) rfl (T.e 0 rfl) rfl)) ?_; clear T ac; intro ac T
   refine gq T 3 15 rfl (fun _ _ _ _ _ => (Zrm rfl (T.e 8 rfl))) ?_; clear T ac; intro ac T
   refine gq T 4 31 rfl (fun _ _ _ _ _ => (Zri (size := 4) k rfl (T.e 1 rfl) (T.e 0 rfl) ⟨_, Tryd.underlying24, by kernel_rfl⟩ rfl (by omega) (SA.at0 (by omega)))) ?_; clear T ac; intro ac T
   refine gq (v := (.agg #[.int .i64 p.l, .int .i64 p.w, .bool p.gr, .int .i64 p.pa])) T 5 63 rfl (fun B w' hD hl hS => (rn_rowat (Sp.pcR SA (show Mem w noEx w' _ from hS) (List.nil_sublist _) hkp) rfl (T.e 0 rfl) rfl)) ?_; clear T ac; intro ac T
   refine gq T 6 127 rfl (fun _ _ _ _ _ => (Zrm rfl (T.e 8 rfl))) ?_; clear T ac; intro ac T
   refine gw 7 255 ?_; intro K hK
   refine Zoc (first := []) (cap := []) T rfl rfl rfl rfl evf (.cons (T.e 6 rfl) (.cons (T.e 1 rfl) (.cons evc (.cons (T.e 0 rfl) .nil)))) Tryd.func94 rfl rfl ?_
   refine Calls.mono (size8_any s A d p true su _ hsg hpg) ?_
   clear T; rintro e wc ⟨rfl, hb⟩ ac T
   replace M := M.call hb; clear hb
   refine Zso hK _ _ (M.mask [true] rfl) ?_; clear hK K
   refine gq T 8 511 rfl (fun _ _ _ _ _ => (Zrm rfl (T.e 0 rfl))) ?_; clear T ac; intro ac T
   refine gq T 9 1023 rfl (fun _ _ _ _ _ => (Zre rfl (T.e 0 rfl) rfl)) ?_; clear T ac; intro ac T
   refine gq T 10 2047 rfl (fun _ _ _ _ _ => (Zre rfl (T.e 1 rfl) rfl)) ?_; clear T ac; intro ac T
   refine gq T 11 4095 rfl (fun _ _ _ _ _ => (Zra rfl (T.e 1 rfl))) ?_; clear T ac; intro ac T
   refine gq T 12 8191 rfl (fun _ _ _ _ _ => (Zra rfl (T.e 1 rfl))) ?_; clear T ac; intro ac T
   refine Zgd (by kernel_rfl) ?_
   replace T := T.pick [0, 1, 14, 15, 16, 17, 18] rfl
   refine nm_then ?_
   refine wp_region_lit ?_
   refine Zg5 T (Zq (Zrm rfl (T.e 2 rfl))) rfl (Zm 2 rfl rfl) rfl (Zm 2 rfl rfl) rfl (fun _ T => Zq (rn_mul rfl (T.e 1 rfl) (T.e 0 rfl) (by omega))) rfl (fun _ T => Zq (rn_min2 rfl (T.e 3 rfl) (T.e 0 rfl))) rfl ?_; clear T ac; intro ac T
   refine l_q (v := (.int .i64 (min ((sizeL (cutA s su) (cutC s su) p false) * (sizeW (cutA s su) (cutC s su) p false)) ((sizeL (cutA s su) (cutC s su) p true) * (sizeW (cutA s su) (cutC s su) p true))))) (T.pick [0, 1, 2, 3, 4, 5, 6, 8, 9, 10, 11] rfl) rfl rfl rfl rfl (Zra rfl (T.e 0 rfl)) ?_; clear T ac; intro ac T
   refine wpList_nil ?_
   replace T := T.pick [0, 8, 9, 10, 11] rfl
   refine nm_then ?_
   refine wp_region_lit ?_
   refine Zg3 T (Zq (Zrm rfl (T.e 3 rfl))) rfl (Zm 1 rfl rfl) rfl (fun _ T => Zq (rn_add rfl (T.e 1 rfl) (T.e 0 rfl) (by omega))) rfl ?_; clear T ac; intro ac T
   refine l_q (v := (.int .i64 (m9 + (min ((sizeL (cutA s su) (cutC s su) p false) * (sizeW (cutA s su) (cutC s su) p false)) ((sizeL (cutA s su) (cutC s su) p true) * (sizeW (cutA s su) (cutC s su) p true)))))) (T.pick [0, 1, 2, 3, 4, 5, 7] rfl) rfl rfl rfl rfl (Zra rfl (T.e 0 rfl)) ?_; clear T ac; intro ac T
   refine wpList_nil ?_
   replace T := T.pick [0, 5, 6, 7] rfl
   refine Znb ?_
   refine nm_then ?_
   refine wp_region_lit ?_
   refine Zg2 T (Zq (Zrm rfl (T.e 3 rfl))) rfl (fun _ T => Zq (rn_add rfl (T.e 0 rfl) evc (by omega))) rfl ?_; clear T ac; intro ac T
   refine l_q (v := (.int .i64 ((k : Int) + 1))) (T.pick [0, 1, 2, 3, 4] rfl) rfl rfl rfl rfl (Zra rfl (T.e 0 rfl)) ?_; clear T ac; intro ac T
   refine wpList_nil ?_
   replace T := T.pick [0, 3, 4, 5] rfl
   refine nm_then ?_
   exact ⟨_, by omega, k + 1, (m9 + (min ((sizeL (cutA s su) (cutC s su) p false) * (sizeW (cutA s su) (cutC s su) p false)) ((sizeL (cutA s su) (cutC s su) p true) * (sizeW (cutA s su) (cutC s su) p true)))), rfl, (by omega), (by rw [H, hap]; omega), (by omega), T.pick [2, 3, 1, 0] rfl, M.mask [true] rfl⟩
  intro h2
  (have h2' := h2; try simp only [Zb1, Zb2, Zb3, Zb4, Zb5, Zb6, Zb7] at h2')
  have hap : areaP (cutA s su) (cutC s su) p = (sizeL (cutA s su) (cutC s su) p false) * (sizeW (cutA s su) (cutC s su) p false) := if_pos (by simp_all)
  rw [hap] at hab9
  refine Zsk ?_
  refine wp_region_lit ?_
  refine Zg3 T (Zq (Zrm rfl (T.e 4 rfl))) rfl (Zm 2 rfl rfl) rfl (fun _ T => Zq (rn_add rfl (T.e 1 rfl) (T.e 0 rfl) (by omega))) rfl ?_; clear T ac; intro ac T
  refine l_q (v := (.int .i64 (m9 + ((sizeL (cutA s su) (cutC s su) p false) * (sizeW (cutA s su) (cutC s su) p false))))) (T.pick [0, 1, 2, 3, 4, 5, 6, 8] rfl) rfl rfl rfl rfl (Zra rfl (T.e 0 rfl)) ?_; clear T ac; intro ac T
  refine wpList_nil ?_
  replace T := T.pick [0, 6, 7, 8] rfl
  refine Znb ?_
  refine nm_then ?_
  refine wp_region_lit ?_
  refine Zg2 T (Zq (Zrm rfl (T.e 3 rfl))) rfl (fun _ T => Zq (rn_add rfl (T.e 0 rfl) evc (by omega))) rfl ?_; clear T ac; intro ac T
  refine l_q (v := (.int .i64 ((k : Int) + 1))) (T.pick [0, 1, 2, 3, 4] rfl) rfl rfl rfl rfl (Zra rfl (T.e 0 rfl)) ?_; clear T ac; intro ac T
  refine wpList_nil ?_
  replace T := T.pick [0, 3, 4, 5] rfl
  refine nm_then ?_
  exact ⟨_, by omega, k + 1, (m9 + ((sizeL (cutA s su) (cutC s su) p false) * (sizeW (cutA s su) (cutC s su) p false))), rfl, (by omega), (by rw [H, hap]; omega), (by omega), T.pick [2, 3, 1, 0] rfl, M.mask [true] rfl⟩
 intro h1
 rw [List.drop_of_length_le (by omega)] at H
 refine wp_exit ?_
 refine Zet ?_
 refine Zet ?_
 refine ex_hit ?_
 refine nm_then ?_
 refine Zsr ?_
 refine Zg2 T (Zq (Zrm rfl (T.e 3 rfl))) rfl (Za 0 rfl rfl) rfl ?_; clear T ac; intro ac T
 refine wpList_nil ?_
 replace T := T.pick [0] rfl
 replace M := M.mask [false] rfl
 refine Znr ?_
 refine rt_1 T rfl (T.e 0 rfl) ?_
 have e9 : areasS s su = m9 := by unfold areasS; rw [H]; exact Int.add_zero _
 rw [e9]
 exact ⟨rfl, M.below⟩
theorem Bound8_any (s : Sk) (A : Option Addr) (d : Nat) (su : Bool)  (w : World) (hA : Rd w w.heap.size 4 A s.ps.length (pc s.ps)) (nA : s.ps.length ≤ 1000000)  :
   Calls Tryd.prog 53 #[.agg #[.int .i64 s.lo, .int .i64 s.wi, .int .i64 s.a0, .int .i64 s.a1, .int .i64 s.c0, .int .i64 s.c1, .slice A s.ps.length d], .bool su] w fun e w' => e = .returned (.tuple #[.int .i64 (bndV s su), .int .i64 (skErr s)]) ∧ Below w.heap.size w w' := by
 obtain ⟨bA, oA, SA⟩ := Sp.old hA
 refine Zpx noEx Tryd.func53 rfl 27 rfl [.agg #[.int .i64 s.lo, .int .i64 s.wi, .int .i64 s.a0, .int .i64 s.a1, .int .i64 s.c0, .int .i64 s.c1, .slice A s.ps.length d], .bool su] rfl rfl (Mem.init w _) ?_
 intro ac wc T M
 refine Zsr ?_
 refine Zl2 ?_
 refine Zob M T rfl rfl rfl rfl (T.e 0 rfl) rfl ?_; clear M T; intro g1 wc ac M T
 refine Zg2 T (Zq (Zra rfl evc)) rfl (Zc rfl) rfl ?_; clear T ac; intro ac T
 refine wpList_nil ?_
 replace T := T.pick [2, 4] rfl
 refine Zns ?_
 refine Zsr ?_
 refine lq T (Zrr (Mem.nth M 0 rfl) rfl (T.e 0 rfl) rfl) ?_; clear T ac; intro ac T
 refine Zl2 ?_
 refine Zoc (first := []) (cap := []) T rfl rfl rfl rfl evf (.cons (T.e 0 rfl) .nil) Tryd.func61 rfl rfl ?_
 refine Calls.mono (skCheck8_any s A d _ (SA.rd M (List.nil_sublist _)) (by omega)) ?_
 clear T; rintro e wc ⟨rfl, hb⟩ ac T
 replace M := M.call hb; clear hb
 refine lq T (Zra rfl (T.e 0 rfl)) ?_; clear T ac; intro ac T
 refine wpList_nil ?_
 replace T := T.pick [0, 3, 4] rfl
 refine nm_then ?_
 refine Zsr ?_
 refine Zg2 T (Zq (Zrm rfl (T.e 0 rfl))) rfl (fun _ T => Zq (rn_neq rfl (T.e 0 rfl) evc)) rfl ?_; clear T ac; intro ac T
 refine wpList_nil ?_
 replace T := T.pick [0, 2, 3, 4] rfl
 refine nm_then ?_
 refine wp_ifn (T.e 0 rfl) ?_ ?_
 ·intro h1
  refine Zsr ?_
  refine Zg3 T (Zq (Zrm rfl (T.e 1 rfl))) rfl (Zc rfl) rfl (Za 1 rfl rfl) rfl ?_; clear T ac; intro ac T
  refine wpList_nil ?_
  replace T := T.pick [0, 1] rfl
  replace M := M.mask [false] rfl
  refine Znr ?_
  refine Zrt ?_
  refine rt_2 T rfl (T.e 1 rfl) (T.e 0 rfl) ?_
  have e9 : bndV s su = 0 := if_pos (by omega)
  rw [e9]
  exact ⟨rfl, M.below⟩
 intro h1
 have hsg := skErr_iff.1 (show skErr s = 0 by omega)
 obtain ⟨⟨l1, l2⟩, ⟨w1, w2⟩, -⟩ := id hsg
 have hab9 := areasS_bd hsg su
 refine Zsk ?_
 refine Zsr ?_
 refine lq T (Zra rfl evc) ?_; clear T ac; intro ac T
 refine wpList_nil ?_
 replace T := T.pick [0, 3, 4] rfl
 refine Zns ?_
 refine wp_block ?_
 refine wp_loop_n (fun mz ac wc => ∃ (n : Nat), mz = 60000 - n ∧ (n = 0 ∨ ((n : Int) - 1) * s.lo * s.wi < areasS s su) ∧ (n ≤ 50001) ∧ Tm ac 27 [(1, .bool su), (2, .pointer (some ⟨g1, 0, none⟩)), (7, .int .i64 (n : Int))] ∧ Mem w noEx wc [(g1, .cells [.int .i64 s.lo, .int .i64 s.wi, .int .i64 s.a0, .int .i64 s.a1, .int .i64 s.c0, .int .i64 s.c1, .slice A s.ps.length d])]) ?_ ?_
 ·exact ⟨_, 0, rfl, (.inl rfl), (by omega), T.pick [2, 1, 0] rfl, M.mask [true] rfl⟩
 clear T M
 rintro mz ac wc ⟨n, hmm1, hn, hn2, T, M⟩
 have hm1 : 0 ≤ (n : Int) * s.lo ∧ (n : Int) * s.lo ≤ 50001 * 12 := ⟨Int.mul_nonneg (by omega) (by omega), Int.mul_le_mul (by omega) (by omega) (by omega) (by omega)⟩
 have hm2 : 0 ≤ (n : Int) * s.lo * s.wi ∧ (n : Int) * s.lo * s.wi ≤ 50001 * 12 * 12 := ⟨Int.mul_nonneg hm1.1 (by omega), Int.mul_le_mul hm1.2 (by omega) (by omega) (by omega)⟩
 refine wp_seq ?_
 refine wp_seq ?_
 refine Zgs M (M.mask [true] rfl) 11 (by kernel_rfl) rfl (by kernel_rfl) ?_
 clear M; intro wc M
 refine gq T 0 1 rfl (fun _ _ _ _ _ => (Zrm rfl (T.e 2 rfl))) ?_; clear T ac; intro ac T
 refine gq (v := (.pointer (some ⟨g1, 0, none⟩))) T 1 3 rfl (fun _ _ _ _ _ => (Zrf (off := 0) rfl (T.e 2 rfl) (fun _ _ _ => by kernel_rfl))) ?_; clear T ac; intro ac T
 refine gq T 2 7 rfl (fun B w' hD hl hS => (Zro (Mem.nth (show Mem w noEx w' _ from hS) 0 rfl) rfl (T.e 0 rfl) rfl)) ?_; clear T ac; intro ac T
 refine gq T 3 15 rfl (fun _ _ _ _ _ => (rn_mul rfl (T.e 2 rfl) (T.e 0 rfl) (by omega))) ?_; clear T ac; intro ac T
 refine gq (v := (.pointer (some ⟨g1, 1, none⟩))) T 4 31 rfl (fun _ _ _ _ _ => (Zrf (off := 1) rfl (T.e 5 rfl) (fun _ _ _ => by kernel_rfl))) ?_; clear T ac; intro ac T
 refine gq T 5 63 rfl (fun B w' hD hl hS => (Zro (Mem.nth (show Mem w noEx w' _ from hS) 0 rfl) rfl (T.e 0 rfl) rfl)) ?_; clear T ac; intro ac T
 refine gq T 6 127 rfl (fun _ _ _ _ _ => (rn_mul rfl (T.e 2 rfl) (T.e 0 rfl) (by omega))) ?_; clear T ac; intro ac T
 refine gq T 7 255 rfl (fun B w' hD hl hS => (Zrr (Mem.nth (show Mem w noEx w' _ from hS) 0 rfl) rfl (T.e 8 rfl) rfl)) ?_; clear T ac; intro ac T
 refine gq T 8 511 rfl (fun _ _ _ _ _ => (Zrm rfl (T.e 8 rfl))) ?_; clear T ac; intro ac T
 refine gw 9 1023 ?_; intro K hK
 refine Zoc (first := []) (cap := []) T rfl rfl rfl rfl evf (.cons (T.e 1 rfl) (.cons (T.e 0 rfl) .nil)) Tryd.func92 rfl rfl ?_
 refine Calls.mono (area8_any s A d su _ (SA.rd M (List.nil_sublist _)) hsg) ?_
 clear T; rintro e wc ⟨rfl, hb⟩ ac T
 replace M := M.call hb; clear hb
 refine Zso hK _ _ (M.mask [true] rfl) ?_; clear hK K
 refine gq T 10 2047 rfl (fun _ _ _ _ _ => (rn_lss rfl (T.e 3 rfl) (T.e 0 rfl))) ?_; clear T ac; intro ac T
 refine Zgd (by kernel_rfl) ?_
 replace T := T.pick [0, 11, 12, 13] rfl
 refine nm_then ?_
 refine wp_if (T.e 0 rfl) ?_ ?_
 ·intro h2
  have hle9 : (n : Int) ≤ (n : Int) * s.lo * s.wi := by have q1 := Int.mul_le_mul_of_nonneg_left (show (1 : Int) ≤ s.lo by omega) (show (0 : Int) ≤ n by omega); have q2 := Int.mul_le_mul_of_nonneg_left (show (1 : Int) ≤ s.wi by omega) hm1.1; rw [Int.mul_one] at q1 q2; omega
  refine Zsk ?_
  refine wp_block ?_
  refine wp_region_lit ?_
  refine Zg2 T (Zq (Zrm rfl (T.e 3 rfl))) rfl (fun _ T => Zq (rn_add rfl (T.e 0 rfl) evc (by omega))) rfl ?_; clear T ac; intro ac T
  refine l_q (v := (.int .i64 ((n : Int) + 1))) (T.pick [0, 1, 2, 3, 4] rfl) rfl rfl rfl rfl (Zra rfl (T.e 0 rfl)) ?_; clear T ac; intro ac T
  refine wpList_nil ?_
  replace T := T.pick [0, 4, 5] rfl
  refine Znb ?_
  refine nm_then ?_
  exact ⟨_, by omega, n + 1, rfl, (.inr (by rw [show ((n + 1 : Nat) : Int) - 1 = (n : Int) by omega]; omega)), (by omega), T.pick [1, 2, 0] rfl, M.mask [true] rfl⟩
 intro h2
 have hbn := bnd_of (n := n) hsg (by omega) hn
 refine wp_exit ?_
 refine Zet ?_
 refine Zet ?_
 refine ex_hit ?_
 refine nm_then ?_
 refine Zsr ?_
 refine Zg3 T (Zq (Zrm rfl (T.e 3 rfl))) rfl (Za 0 rfl rfl) rfl (Zc rfl) rfl ?_; clear T ac; intro ac T
 refine wpList_nil ?_
 replace T := T.pick [0, 1] rfl
 replace M := M.mask [false] rfl
 refine Znr ?_
 refine rt_2 T rfl (T.e 1 rfl) (T.e 0 rfl) ?_
 have e8 : skErr s = 0 := by omega
 rw [hbn, e8]
 exact ⟨rfl, M.below⟩
theorem rep_snoc {s : Sk} {p : Pt} {k : Nat} : (s.ps ++ List.replicate k p) ++ [p] = s.ps ++ List.replicate (k + 1) p := by rw [List.replicate_succ', List.append_assoc]
theorem wrs_snoc {s : Sk} {k : Nat} : (List.range (k + 1)).map (wrsV s) = (List.range k).map (wrsV s) ++ [wrsV s k] := by rw [List.range_succ, List.map_append]; rfl
theorem Spare8_any (s : Sk) (A : Option Addr) (d : Nat) (p : Pt) (su : Bool)  (w : World) (hA : Rd w w.heap.size 4 A s.ps.length (pc s.ps)) (nA : s.ps.length ≤ 1000000)  :
   Calls Tryd.prog 54 #[.agg #[.int .i64 s.lo, .int .i64 s.wi, .int .i64 s.a0, .int .i64 s.a1, .int .i64 s.c0, .int .i64 s.c1, .slice A s.ps.length d], .agg #[.int .i64 p.l, .int .i64 p.w, .bool p.gr, .int .i64 p.pa], .bool su] w fun e w' => e = .returned (.tuple #[.int .i64 (sprV s p su), .int .i64 (sprE s p su)]) ∧ Below w.heap.size w w' := by
 obtain ⟨bA, oA, SA⟩ := Sp.old hA
 refine Zpx noEx Tryd.func54 rfl 61 rfl [.agg #[.int .i64 s.lo, .int .i64 s.wi, .int .i64 s.a0, .int .i64 s.a1, .int .i64 s.c0, .int .i64 s.c1, .slice A s.ps.length d], .agg #[.int .i64 p.l, .int .i64 p.w, .bool p.gr, .int .i64 p.pa], .bool su] rfl rfl (Mem.init w _) ?_
 intro ac wc T M
 refine Zsr ?_
 refine Zl2 ?_
 refine Zob M T rfl rfl rfl rfl (T.e 0 rfl) rfl ?_; clear M T; intro g1 wc ac M T
 refine Zl2 ?_
 refine Zob M T rfl rfl rfl rfl (T.e 2 rfl) rfl ?_; clear M T; intro g2 wc ac M T
 refine Zg2 T (Zq (Zra rfl evc)) rfl (Zc rfl) rfl ?_; clear T ac; intro ac T
 refine wpList_nil ?_
 replace T := T.pick [2, 3, 6] rfl
 refine Zns ?_
 refine Zsr ?_
 refine lq T (Zrr (Mem.nth M 1 rfl) rfl (T.e 1 rfl) rfl) ?_; clear T ac; intro ac T
 refine Zl2 ?_
 refine Zoc (first := []) (cap := []) T rfl rfl rfl rfl evf (.cons (T.e 0 rfl) .nil) Tryd.func61 rfl rfl ?_
 refine Calls.mono (skCheck8_any s A d _ (SA.rd M (List.nil_sublist _)) (by omega)) ?_
 clear T; rintro e wc ⟨rfl, hb⟩ ac T
 replace M := M.call hb; clear hb
 refine lq T (Zra rfl (T.e 0 rfl)) ?_; clear T ac; intro ac T
 refine wpList_nil ?_
 replace T := T.pick [0, 3, 4, 5] rfl
 refine nm_then ?_
 refine Zsr ?_
 refine Zg2 T (Zq (Zrm rfl (T.e 0 rfl))) rfl (fun _ T => Zq (rn_neq rfl (T.e 0 rfl) evc)) rfl ?_; clear T ac; intro ac T
 refine wpList_nil ?_
 replace T := T.pick [0, 2, 3, 4, 5] rfl
 refine nm_then ?_
 refine wp_ifn (T.e 0 rfl) ?_ ?_
 ·intro h1
  refine Zsr ?_
  refine Zg3 T (Zq (Zrm rfl (T.e 1 rfl))) rfl (Zc rfl) rfl (Za 1 rfl rfl) rfl ?_; clear T ac; intro ac T
  refine wpList_nil ?_
  replace T := T.pick [0, 1] rfl
  replace M := M.mask [false, false] rfl
  refine Znr ?_
  refine Zrt ?_
  refine rt_2 T rfl (T.e 1 rfl) (T.e 0 rfl) ?_
  have e9 : sprE s p su = skErr s := if_pos (by omega)
  have e8 : sprV s p su = 0 := if_pos (by omega)
  rw [e9, e8]
  exact ⟨rfl, M.below⟩
 intro h1
 have hsg := skErr_iff.1 (show skErr s = 0 by omega)
 have hln := hsg.len
 refine Zsk ?_
 refine wp_seq ?_
 refine Zsr ?_
 refine lq T (Zrr (Mem.nth M 0 rfl) rfl (T.e 2 rfl) rfl) ?_; clear T ac; intro ac T
 refine Zl2 ?_
 refine Zoc (first := []) (cap := []) T rfl rfl rfl rfl evf (.cons (T.e 0 rfl) .nil) Tryd.func93 rfl rfl ?_
 refine Calls.mono (checkPart8_any p _) ?_
 clear T; rintro e wc ⟨rfl, hb⟩ ac T
 replace M := M.call hb; clear hb
 refine lq T (Zra rfl (T.e 0 rfl)) ?_; clear T ac; intro ac T
 refine wpList_nil ?_
 replace T := T.pick [0, 5, 6, 7] rfl
 refine nm_then ?_
 refine Zsr ?_
 refine Zg2 T (Zq (Zrm rfl (T.e 0 rfl))) rfl (fun _ T => Zq (rn_neq rfl (T.e 0 rfl) evc)) rfl ?_; clear T ac; intro ac T
 refine wpList_nil ?_
 replace T := T.pick [0, 2, 3, 4, 5] rfl
 refine nm_then ?_
 refine wp_ifn (T.e 0 rfl) ?_ ?_
 ·intro h2
  refine Zsr ?_
  refine Zg3 T (Zq (Zrm rfl (T.e 1 rfl))) rfl (Zc rfl) rfl (Za 1 rfl rfl) rfl ?_; clear T ac; intro ac T
  refine wpList_nil ?_
  replace T := T.pick [0, 1] rfl
  replace M := M.mask [false, false] rfl
  refine Znr ?_
  refine Zrt ?_
  refine rt_2 T rfl (T.e 1 rfl) (T.e 0 rfl) ?_
  have e9 : sprE s p su = ptErr p := (if_neg (by omega)).trans (if_pos (by omega))
  have e8 : sprV s p su = 0 := if_pos (by omega)
  rw [e9, e8]
  exact ⟨rfl, M.below⟩
 intro h2
 have hpg := ptErr_iff.1 (show ptErr p = 0 by omega)
 refine Zsk ?_
 refine Zsr ?_
 refine Zg2 T (Zq (Zrr (Mem.nth M 1 rfl) rfl (T.e 3 rfl) rfl)) rfl (Zm 5 rfl rfl) rfl ?_; clear T ac; intro ac T
 refine Zl2 ?_
 refine Zoc (first := []) (cap := []) T rfl rfl rfl rfl evf (.cons (T.e 1 rfl) (.cons (T.e 0 rfl) .nil)) Tryd.func90 rfl rfl ?_
 refine Calls.mono (sheets8_any s A d su _ (SA.rd M (List.nil_sublist _)) hsg) ?_
 clear T; rintro e wc ⟨ASu3, cSu3, blu3, bnu3, biu3, ISu3, rfl, hfu3, hnbu3, hsnu3, hbbu3, hblu3, SVSu3, N⟩ ac T
 obtain ⟨bSu3, oSu3, SVSu3⟩ := SVSu3
 have SSu3 := SVSu3 w noEx
 replace M := (M.join N).swapI
 clear N
 replace M : Mem w noEx wc ((g2, .cells [.int .i64 p.l, .int .i64 p.w, .bool p.gr, .int .i64 p.pa]) :: (g1, .cells [.int .i64 s.lo, .int .i64 s.wi, .int .i64 s.a0, .int .i64 s.a1, .int .i64 s.c0, .int .i64 s.c1, .slice A s.ps.length d]) :: ISu3) := M
 refine Zg5 T (Zq (Zrm rfl (T.e 0 rfl))) rfl (Ze 0 rfl rfl rfl) rfl (Ze 1 rfl rfl rfl) rfl (Za 1 rfl rfl) rfl (Za 1 rfl rfl) rfl ?_; clear T ac; intro ac T
 refine wpList_nil ?_
 replace T := T.pick [0, 1, 10, 11, 12] rfl
 refine Zns ?_
 refine Zsr ?_
 refine Zg2 T (Zq (Zrm rfl (T.e 0 rfl))) rfl (fun _ T => Zq (rn_not rfl (T.e 0 rfl))) rfl ?_; clear T ac; intro ac T
 refine wpList_nil ?_
 replace T := T.pick [0, 3, 4, 5, 6] rfl
 refine nm_then ?_
 refine wp_cond_split (T.e 0 rfl) ?_ ?_
 ·intro h3
  (have h3' := h3; try simp only [Zb1, Zb2, Zb3, Zb4, Zb5, Zb6, Zb7] at h3')
  refine Zsr ?_
  refine Zg2 T (Zq (Zra rfl evc)) rfl (Zc rfl) rfl ?_; clear T ac; intro ac T
  refine wpList_nil ?_
  replace T := T.pick [0, 1] rfl
  replace M := M.mask [false, false] rfl
  refine Znr ?_
  refine Zrt ?_
  refine rt_2 T rfl (T.e 1 rfl) (T.e 0 rfl) ?_
  have hE9 : shE s su = 11 := (sh8_none hsg (by rw [hfu3]; simp_all)).2.2
  have e9 : sprE s p su = 11 := (if_neg (by omega)).trans ((if_neg (by omega)).trans hE9)
  have e8 : sprV s p su = 0 := if_pos (by omega)
  rw [e9, e8]
  exact ⟨rfl, M.below⟩
 intro h3
 (have h3' := h3; try simp only [Zb1, Zb2, Zb3, Zb4, Zb5, Zb6, Zb7] at h3')
 have hE9 : shE s su = 0 := (sh8_some hsg (show shF s su = some (blu3, bnu3) by rw [hfu3]; simp_all)).2.2
 refine Zsk ?_
 refine Zsr ?_
 refine lq T (Zra rfl evc) ?_; clear T ac; intro ac T
 refine wpList_nil ?_
 replace T := T.pick [0, 2, 3, 4, 5] rfl
 refine Zns ?_
 refine wp_block ?_
 refine wp_loop_n (fun mz ac wc => ∃ (k : Nat), mz = 5 - k ∧ (s.ps.length + k ≤ 5) ∧ (spareR s p su (shN s su) (5 - s.ps.length) s.ps = spareR s p su (shN s su) (5 - (s.ps.length + k)) (s.ps ++ List.replicate k p)) ∧ Tm ac 61 [(2, .bool su), (3, .pointer (some ⟨g1, 0, none⟩)), (4, .pointer (some ⟨g2, 0, none⟩)), (10, .slice ASu3 blu3.length cSu3), (12, .int .i64 (k : Int))] ∧ Mem w noEx wc ((g2, .cells [.int .i64 p.l, .int .i64 p.w, .bool p.gr, .int .i64 p.pa]) :: (g1, .cells [.int .i64 s.lo, .int .i64 s.wi, .int .i64 s.a0, .int .i64 s.a1, .int .i64 s.c0, .int .i64 s.c1, .slice A s.ps.length d]) :: ISu3)) ?_ ?_
 ·exact ⟨_, 0, rfl, (by omega), (by rw [Nat.add_zero, List.replicate_zero, List.append_nil]), T.pick [4, 3, 2, 1, 0] rfl, M.mask [true, true] rfl⟩
 clear T M
 rintro mz ac wc ⟨k, hmm1, hk, H, T, M⟩
 refine wp_seq ?_
 refine Zsr ?_
 refine Zg6 (v1 := (.pointer (some ⟨g1, 6, none⟩))) T (Zq (Zrf (off := 6) rfl (T.e 1 rfl) (fun _ _ _ => by kernel_rfl))) rfl (Zo M 1 0 rfl rfl rfl rfl) rfl (Zl Tryd.underlying24 0 rfl rfl) rfl (Zm 7 rfl rfl) rfl (fun _ T => Zq (rn_add rfl (T.e 1 rfl) (T.e 0 rfl) (by omega))) rfl (fun _ T => Zq (rn_lss rfl (T.e 0 rfl) evc)) rfl ?_; clear T ac; intro ac T
 refine wpList_nil ?_
 replace T := T.pick [0, 6, 7, 8, 9, 10] rfl
 refine nm_then ?_
 refine wp_if (T.e 0 rfl) ?_ ?_
 ·intro h4
  have e8 : 5 - (s.ps.length + k) = (5 - (s.ps.length + (k + 1))) + 1 := by omega
  rw [e8, spareR, rep_snoc] at H
  refine Zsk ?_
  refine wp_block ?_
  refine Zsr ?_
  refine Zg4 T (Zq (Zrr (Mem.nth M 1 rfl) rfl (T.e 2 rfl) rfl)) rfl (Zr M 0 4 rfl rfl rfl rfl) rfl (Zm 7 rfl rfl) rfl (fun _ T => Zq (rn_add rfl (T.e 0 rfl) evc (by omega))) rfl ?_; clear T ac; intro ac T
  refine Zl2 ?_
  rw [show (k : Int) + 1 = ((k + 1 : Nat) : Int) by omega] at T
  refine Zoc (first := []) (cap := []) T rfl rfl rfl rfl evf (.cons (T.e 3 rfl) (.cons (T.e 2 rfl) (.cons (T.e 0 rfl) .nil))) Tryd.func42 rfl rfl ?_
  refine Calls.mono (with_any s A d p (k + 1) _ (SA.rd M (List.nil_sublist _)) (by omega) (by omega) (by omega)) ?_
  clear T; rintro e wc ⟨AOu4, cOu4, IOu4, rfl, hcpOu4, SVOu4, N⟩ ac T
  obtain ⟨bAOu4, oAOu4, SVOu4⟩ := SVOu4
  have SAOu4 := SVOu4 w noEx
  replace M := (M.join N).swapI
  clear N
  replace M : Mem w noEx wc ((g2, .cells [.int .i64 p.l, .int .i64 p.w, .bool p.gr, .int .i64 p.pa]) :: (g1, .cells [.int .i64 s.lo, .int .i64 s.wi, .int .i64 s.a0, .int .i64 s.a1, .int .i64 s.c0, .int .i64 s.c1, .slice A s.ps.length d]) :: (ISu3 ++ IOu4)) := M
  refine lq T (Zrm rfl (T.e 6 rfl)) ?_; clear T ac; intro ac T
  refine Zl2 ?_
  refine Zoc (first := []) (cap := []) T rfl rfl rfl rfl evf (.cons (T.e 1 rfl) (.cons (T.e 0 rfl) .nil)) Tryd.func90 rfl rfl ?_
  refine Calls.mono (sheets8_any (skA s p (k + 1)) AOu4 cOu4 su _ (SAOu4.rd M (.cons _ (.cons _ (Zsq _ _)))) (skA_good hsg hpg (by omega))) ?_
  clear T; rintro e wc ⟨ASu5, cSu5, blu5, bnu5, biu5, ISu5, rfl, hfu5, hnbu5, hsnu5, hbbu5, hblu5, SVSu5, N⟩ ac T
  obtain ⟨bSu5, oSu5, SVSu5⟩ := SVSu5
  have SSu5 := SVSu5 w noEx
  replace M := (M.join N).swapI
  clear N
  replace M : Mem w noEx wc ((g2, .cells [.int .i64 p.l, .int .i64 p.w, .bool p.gr, .int .i64 p.pa]) :: (g1, .cells [.int .i64 s.lo, .int .i64 s.wi, .int .i64 s.a0, .int .i64 s.a1, .int .i64 s.c0, .int .i64 s.c1, .slice A s.ps.length d]) :: (ISu3 ++ IOu4 ++ ISu5)) := M
  refine Zg5 T (Zq (Zrm rfl (T.e 0 rfl))) rfl (Ze 0 rfl rfl rfl) rfl (Ze 1 rfl rfl rfl) rfl (Za 1 rfl rfl) rfl (Za 1 rfl rfl) rfl ?_; clear T ac; intro ac T
  refine wpList_nil ?_
  replace T := T.pick [0, 1, 13, 14, 15, 16, 17] rfl
  refine Zns ?_
  refine cut_seq (fun ac wc => Tm ac 61 [(2, .bool su), (3, .pointer (some ⟨g1, 0, none⟩)), (4, .pointer (some ⟨g2, 0, none⟩)), (10, .slice ASu3 blu3.length cSu3), (12, .int .i64 (k : Int)), (57, .bool ((!biu5) || (decide ((bnu3 : Int) < (bnu5 : Int)))))] ∧ Mem w noEx wc ((g2, .cells [.int .i64 p.l, .int .i64 p.w, .bool p.gr, .int .i64 p.pa]) :: (g1, .cells [.int .i64 s.lo, .int .i64 s.wi, .int .i64 s.a0, .int .i64 s.a1, .int .i64 s.c0, .int .i64 s.c1, .slice A s.ps.length d]) :: (ISu3 ++ IOu4 ++ ISu5))) ?_ ?_
  ·refine wp_region_lit ?_
   refine Zg3 T (Zq (Zrm rfl (T.e 0 rfl))) rfl (fun _ T => Zq (rn_not rfl (T.e 0 rfl))) rfl (Zm 0 rfl rfl) rfl ?_; clear T ac; intro ac T
   rcases Bool.eq_false_or_eq_true (!biu5) with h5 | h5
   ·refine Zg6 T (Zp (Zwn rfl rfl (T.e 0 rfl) h5)) rfl (fun _ T => Zp (Zwn rfl rfl (T.e 1 rfl) h5)) rfl (fun _ T => Zp (Zwn rfl rfl (T.e 2 rfl) h5)) rfl (fun _ T => Zp (Zwn rfl rfl (T.e 3 rfl) h5)) rfl (fun _ T => Zp (Zwn rfl rfl (T.e 4 rfl) h5)) rfl (fun _ T => Zq (Zr1 rfl (T.e 5 rfl) h5 evc)) rfl ?_; clear T ac; intro ac T
    refine wpList_nil ?_
    replace T := T.pick [0, 1, 2, 3, 4, 5, 11, 12, 13, 14, 15] rfl
    exact ⟨(T.pick (E' := [(2, .bool su), (3, .pointer (some ⟨g1, 0, none⟩)), (4, .pointer (some ⟨g2, 0, none⟩)), (10, .slice ASu3 blu3.length cSu3), (12, .int .i64 (k : Int)), (57, .bool true)]) [6, 7, 8, 9, 10, 0] rfl).as (by (try rw [show (!biu5) = true from h5]); (try rfl)), M.mask [true, true] rfl⟩
   refine lw T (Zwy rfl rfl (T.e 0 rfl) h5) (Zrm rfl (T.e 4 rfl)) ?_; clear T ac; intro ac T
   refine l_w (Zwy rfl rfl (T.e 1 rfl) h5) ?_; intro K hK
   refine Zoc (first := []) (cap := []) T rfl rfl rfl rfl evf (.cons (T.e 0 rfl) .nil) Tryd.func36 rfl rfl ?_
   refine Calls.mono (number_any ASu5 cSu5 blu5 _ (SSu5.rd M (.cons _ (.cons _ (Zsq _ _)))) (by omega) hbbu5) ?_
   clear T; rintro e wc ⟨rfl, hb⟩ ac T
   replace M := M.call hb; clear hb
   rw [hnbu5] at T
   refine Zso hK _ _ ?_; clear hK K
   refine lw T (Zwy rfl rfl (T.e 2 rfl) h5) (Zrm rfl (T.e 10 rfl)) ?_; clear T ac; intro ac T
   refine l_w (Zwy rfl rfl (T.e 3 rfl) h5) ?_; intro K hK
   refine Zoc (first := []) (cap := []) T rfl rfl rfl rfl evf (.cons (T.e 0 rfl) .nil) Tryd.func36 rfl rfl ?_
   refine Calls.mono (number_any ASu3 cSu3 blu3 _ (SSu3.rd M (.cons _ (.cons _ (subL (subL (List.Sublist.refl _)))))) (by omega) hbbu3) ?_
   clear T; rintro e wc ⟨rfl, hb⟩ ac T
   replace M := M.call hb; clear hb
   rw [hnbu3] at T
   refine Zso hK _ _ ?_; clear hK K
   refine Zg2 T (Zw (Zwy rfl rfl (T.e 4 rfl) h5) (rn_gtr rfl (T.e 2 rfl) (T.e 0 rfl))) rfl (fun _ T => Zq (Zr0 rfl (T.e 5 rfl) h5 (T.e 0 rfl))) rfl ?_; clear T ac; intro ac T
   refine wpList_nil ?_
   replace T := T.pick [0, 1, 2, 3, 4, 5, 11, 12, 13, 14, 15] rfl
   exact ⟨(T.pick (E' := [(2, .bool su), (3, .pointer (some ⟨g1, 0, none⟩)), (4, .pointer (some ⟨g2, 0, none⟩)), (10, .slice ASu3 blu3.length cSu3), (12, .int .i64 (k : Int)), (57, .bool (decide ((bnu3 : Int) < (bnu5 : Int))))]) [6, 7, 8, 9, 10, 0] rfl).as (by (try rw [show (!biu5) = false from h5]); (try rfl)), M.mask [true, true] rfl⟩
  clear T M
  rintro ac wc ⟨T, M⟩
  refine wp_cond_split (T.e 5 rfl) ?_ ?_
  ·intro h6
   (have h6' := h6; try simp only [Zb1, Zb2, Zb3, Zb4, Zb5, Zb6, Zb7] at h6')
   have hok9 : okP s su (s.ps ++ List.replicate (k + 1) p) (shN s su) = (biu5 && decide (bnu5 ≤ shN s su)) := okP_eq hfu5
   have hno : okP s su (s.ps ++ List.replicate (k + 1) p) (shN s su) = false := by rw [hok9, ← hsnu3]; rcases Bool.eq_false_or_eq_true biu5 with g1 | g1; rw [g1, Bool.true_and, decide_eq_false_iff_not]; simp [g1] at h6; omega; rw [g1]; rfl
   rw [if_neg (by rw [hno]; decide)] at H
   have hfin : spareR s p su (shN s su) (5 - s.ps.length) s.ps = s.ps.length + k := by rw [H, List.length_append, List.length_replicate]
   refine wp_exit ?_
   refine Zet ?_
   refine ex_miss rfl ?_
   refine Zet ?_
   refine ex_hit ?_
   refine nm_then ?_
   refine Zsr ?_
   refine Zg3 T (Zq (Zrm rfl (T.e 4 rfl))) rfl (Za 0 rfl rfl) rfl (Zc rfl) rfl ?_; clear T ac; intro ac T
   refine wpList_nil ?_
   replace T := T.pick [0, 1] rfl
   replace M := M.mask [false, false] rfl
   replace M : Mem w noEx wc ((ISu3 ++ IOu4 ++ ISu5)) := M
   refine Znr ?_
   refine rt_2 T rfl (T.e 1 rfl) (T.e 0 rfl) ?_
   have e9 : sprE s p su = 0 := (if_neg (by omega)).trans ((if_neg (by omega)).trans hE9)
   have e8 : sprV s p su = (k : Int) := by unfold sprV; rw [if_neg (by omega), hfin]; omega
   rw [e9, e8]
   exact ⟨rfl, M.below⟩
  intro h6
  (have h6' := h6; try simp only [Zb1, Zb2, Zb3, Zb4, Zb5, Zb6, Zb7] at h6')
  have hok9 : okP s su (s.ps ++ List.replicate (k + 1) p) (shN s su) = (biu5 && decide (bnu5 ≤ shN s su)) := okP_eq hfu5
  have hyes : okP s su (s.ps ++ List.replicate (k + 1) p) (shN s su) = true := by rw [hok9, ← hsnu3]; simp at h6; rw [h6.1, Bool.true_and, decide_eq_true_eq]; omega
  refine Zsk ?_
  refine wp_region_lit ?_
  refine Zg2 T (Zq (Zrm rfl (T.e 4 rfl))) rfl (fun _ T => Zq (rn_add rfl (T.e 0 rfl) evc (by omega))) rfl ?_; clear T ac; intro ac T
  refine l_q (v := (.int .i64 ((k : Int) + 1))) (T.pick [0, 1, 2, 3, 4, 5, 7] rfl) rfl rfl rfl rfl (Zra rfl (T.e 0 rfl)) ?_; clear T ac; intro ac T
  refine wpList_nil ?_
  replace T := T.pick [0, 3, 4, 5, 6] rfl
  refine Znb ?_
  refine nm_then ?_
  exact ⟨_, by omega, k + 1, rfl, (by omega), (by rw [H, if_pos hyes]), T.pick [1, 2, 3, 4, 0] rfl, (M.sub (List.Sublist.cons_cons _ (List.Sublist.cons_cons _ (List.Sublist.trans (Zsl _ _) (Zsl _ _)))))⟩
 intro h4
 have hfin : spareR s p su (shN s su) (5 - s.ps.length) s.ps = s.ps.length + k := by rw [H, show 5 - (s.ps.length + k) = 0 by omega]; show (s.ps ++ List.replicate k p).length = _; rw [List.length_append, List.length_replicate]
 refine wp_exit ?_
 refine Zet ?_
 refine Zet ?_
 refine ex_hit ?_
 refine nm_then ?_
 refine Zsr ?_
 refine Zg3 T (Zq (Zrm rfl (T.e 5 rfl))) rfl (Za 0 rfl rfl) rfl (Zc rfl) rfl ?_; clear T ac; intro ac T
 refine wpList_nil ?_
 replace T := T.pick [0, 1] rfl
 replace M := M.mask [false, false] rfl
 refine Znr ?_
 refine rt_2 T rfl (T.e 1 rfl) (T.e 0 rfl) ?_
 have e9 : sprE s p su = 0 := (if_neg (by omega)).trans ((if_neg (by omega)).trans hE9)
 have e8 : sprV s p su = (k : Int) := by unfold sprV; rw [if_neg (by omega), hfin]; omega
 rw [e9, e8]
 exact ⟨rfl, M.below⟩
theorem Worst8_any (s : Sk) (A : Option Addr) (d : Nat)  (w : World) (hA : Rd w w.heap.size 4 A s.ps.length (pc s.ps)) (nA : s.ps.length ≤ 1000000)  :
   Calls Tryd.prog 55 #[.agg #[.int .i64 s.lo, .int .i64 s.wi, .int .i64 s.a0, .int .i64 s.a1, .int .i64 s.c0, .int .i64 s.c1, .slice A s.ps.length d]] w (LiPost (wrsL s) (shE s true) w) := by
 obtain ⟨bA, oA, SA⟩ := Sp.old hA
 refine Zpx noEx Tryd.func55 rfl 45 rfl [.agg #[.int .i64 s.lo, .int .i64 s.wi, .int .i64 s.a0, .int .i64 s.a1, .int .i64 s.c0, .int .i64 s.c1, .slice A s.ps.length d]] rfl rfl (Mem.init w _) ?_
 intro ac wc T M
 refine Zsr ?_
 refine Zl2 ?_
 refine Zob M T rfl rfl rfl rfl (T.e 0 rfl) rfl ?_; clear M T; intro g1 wc ac M T
 refine Zg2 T (Zq (Zra rfl evc)) rfl (Zc rfl) rfl ?_; clear T ac; intro ac T
 refine wpList_nil ?_
 replace T := T.pick [2] rfl
 refine nm_then ?_
 refine Zsr ?_
 refine lq T (Zrr (Mem.nth M 0 rfl) rfl (T.e 0 rfl) rfl) ?_; clear T ac; intro ac T
 refine Zl2 ?_
 refine Zoc (first := []) (cap := []) T rfl rfl rfl rfl evf (.cons (T.e 0 rfl) (.cons evc .nil)) Tryd.func49 rfl rfl ?_
 refine Calls.mono (Sheets8_any s A d true _ (SA.rd M (List.nil_sublist _)) (by omega)) ?_
 clear T; rintro e wc ⟨AZu1, cZu1, IZu1, rfl, SVZu1, N⟩ ac T
 obtain ⟨bZu1, oZu1, SVZu1⟩ := SVZu1
 have SZu1 := SVZu1 w noEx
 replace M := (M.join N).swapI
 clear N
 replace M : Mem w noEx wc ((g1, .cells [.int .i64 s.lo, .int .i64 s.wi, .int .i64 s.a0, .int .i64 s.a1, .int .i64 s.c0, .int .i64 s.c1, .slice A s.ps.length d]) :: IZu1) := M
 refine Zg7 T (Zq (Zrm rfl (T.e 0 rfl))) rfl (Ze 0 rfl rfl rfl) rfl (Ze 1 rfl rfl rfl) rfl (Ze 2 rfl rfl rfl) rfl (Za 2 rfl rfl) rfl (Za 2 rfl rfl) rfl (Za 2 rfl rfl) rfl ?_; clear T ac; intro ac T
 refine wpList_nil ?_
 replace T := T.pick [0, 1, 9] rfl
 refine Zns ?_
 refine Zsr ?_
 refine Zg2 T (Zq (Zrm rfl (T.e 0 rfl))) rfl (fun _ T => Zq (rn_neq rfl (T.e 0 rfl) evc)) rfl ?_; clear T ac; intro ac T
 refine wpList_nil ?_
 replace T := T.pick [0, 2, 3, 4] rfl
 refine nm_then ?_
 refine wp_ifn (T.e 0 rfl) ?_ ?_
 ·intro h1
  refine Zsr ?_
  refine Zg3 T (Zq (Zrm rfl (T.e 1 rfl))) rfl (Zc rfl) rfl (Za 1 rfl rfl) rfl ?_; clear T ac; intro ac T
  refine wpList_nil ?_
  replace T := T.pick [0, 1] rfl
  replace M := M.mask [false] rfl
  refine Znr ?_
  refine Zrt ?_
  refine rt_2 T rfl (T.e 1 rfl) (T.e 0 rfl) ?_
  have e8 : wrsL s = [] := if_neg (by omega)
  unfold LiPost
  rw [e8]
  exact LsPost.nil M
 intro h1
 have hsk : skErr s = 0 := by by_cases h9 : skErr s = 0; exact h9; have := (shE_err (su := true) h9).1; omega
 have hsg := skErr_iff.1 hsk
 have hln := hsg.len
 have hN9 := shN_le (s := s) (su := true)
 refine Zsk ?_
 refine Zsr ?_
 refine lq T (Zra rfl evc) ?_; clear T ac; intro ac T
 refine wpList_nil ?_
 replace T := T.pick [0, 3, 4] rfl
 refine Zns ?_
 refine Zsr ?_
 refine lq T (Zra rfl evc) ?_; clear T ac; intro ac T
 refine Zln ?_
 refine wp_block ?_
 replace M : Mem w noEx wc [(g1, .cells [.int .i64 s.lo, .int .i64 s.wi, .int .i64 s.a0, .int .i64 s.a1, .int .i64 s.c0, .int .i64 s.c1, .slice A s.ps.length d])] := M.sub (Zsl ([(g1, .cells [.int .i64 s.lo, .int .i64 s.wi, .int .i64 s.a0, .int .i64 s.a1, .int .i64 s.c0, .int .i64 s.c1, .slice A s.ps.length d])] : List (Nat × BA)) _)
 refine wp_loop_n (fun mz ac wc => ∃ (k : Nat) (OL : List Int) (A3 : Option Addr) (c3 : Nat) (Io : List (Nat × BA)), mz = s.ps.length - k ∧ (k ≤ s.ps.length) ∧ (OL = (List.range k).map (wrsV s)) ∧ (OL.length = k) ∧ (Sl 3 1 (.slice A3 OL.length c3) OL.length (ic OL) Io) ∧ Tm ac 45 [(1, .pointer (some ⟨g1, 0, none⟩)), (5, .int .i64 (shN s true : Int)), (7, .slice A3 OL.length c3), (8, .int .i64 (k : Int))] ∧ Mem w noEx wc ((g1, .cells [.int .i64 s.lo, .int .i64 s.wi, .int .i64 s.a0, .int .i64 s.a1, .int .i64 s.c0, .int .i64 s.c1, .slice A s.ps.length d]) :: Io)) ?_ ?_
 ·exact ⟨_, 0, [], none, 0, [], rfl, (Nat.zero_le _), rfl, rfl, (Sl.nil _ _), T.pick [3, 2, 1, 0] rfl, M⟩
 clear T M
 rintro mz ac wc ⟨k, OL, A3, c3, Io, hmm1, hk, hO, hOl, hsl, T, M⟩
 refine wp_seq ?_
 refine Zsr ?_
 refine Zg5 (v2 := (.pointer (some ⟨g1, 6, none⟩))) T (Zq (Zrm rfl (T.e 3 rfl))) rfl (Zf 6 1 rfl rfl) rfl (Zo M 0 0 rfl rfl rfl rfl) rfl (Zl Tryd.underlying24 0 rfl rfl) rfl (fun _ T => Zq (rn_lss rfl (T.e 3 rfl) (T.e 0 rfl))) rfl ?_; clear T ac; intro ac T
 refine wpList_nil ?_
 replace T := T.pick [0, 5, 6, 7, 8] rfl
 refine nm_then ?_
 refine wp_if (T.e 0 rfl) ?_ ?_
 ·intro h2
  have hlW := (skW_good hsg k).len
  refine Zsk ?_
  refine wp_seq ?_
  refine wp_block ?_
  refine Zsr ?_
  refine Zg2 T (Zq (Zrr (Mem.nth M 0 rfl) rfl (T.e 1 rfl) rfl)) rfl (Zm 5 rfl rfl) rfl ?_; clear T ac; intro ac T
  refine Zl2 ?_
  refine Zoc (first := []) (cap := []) T rfl rfl rfl rfl evf (.cons (T.e 1 rfl) (.cons (T.e 0 rfl) .nil)) Tryd.func44 rfl rfl ?_
  refine Calls.mono (without_any s A d k _ (SA.rd M (List.nil_sublist _)) (by omega)) ?_
  clear T; rintro e wc ⟨AOu2, cOu2, IOu2, rfl, hcpOu2, SVOu2, N⟩ ac T
  obtain ⟨bAOu2, oAOu2, SVOu2⟩ := SVOu2
  have SAOu2 := SVOu2 w noEx
  replace M := (M.join N).swapI
  clear N
  replace M : Mem w noEx wc ((g1, .cells [.int .i64 s.lo, .int .i64 s.wi, .int .i64 s.a0, .int .i64 s.a1, .int .i64 s.c0, .int .i64 s.c1, .slice A s.ps.length d]) :: (Io ++ IOu2)) := M
  refine Zl2 ?_
  refine Zoc (first := []) (cap := []) T rfl rfl rfl rfl evf (.cons (T.e 0 rfl) (.cons evc .nil)) Tryd.func90 rfl rfl ?_
  refine Calls.mono (sheets8_any (skW s k) AOu2 cOu2 true _ (SAOu2.rd M (.cons _ (Zsq _ _))) (skW_good hsg k)) ?_
  clear T; rintro e wc ⟨ASu3, cSu3, blu3, bnu3, biu3, ISu3, rfl, hfu3, hnbu3, hsnu3, hbbu3, hblu3, SVSu3, N⟩ ac T
  obtain ⟨bSu3, oSu3, SVSu3⟩ := SVSu3
  have SSu3 := SVSu3 w noEx
  replace M := (M.join N).swapI
  clear N
  replace M : Mem w noEx wc ((g1, .cells [.int .i64 s.lo, .int .i64 s.wi, .int .i64 s.a0, .int .i64 s.a1, .int .i64 s.c0, .int .i64 s.c1, .slice A s.ps.length d]) :: (Io ++ IOu2 ++ ISu3)) := M
  refine Zg5 T (Zq (Zrm rfl (T.e 0 rfl))) rfl (Ze 0 rfl rfl rfl) rfl (Ze 1 rfl rfl rfl) rfl (Za 1 rfl rfl) rfl (Za 1 rfl rfl) rfl ?_; clear T ac; intro ac T
  refine wpList_nil ?_
  replace T := T.pick [1, 10, 11, 12, 13] rfl
  refine nm_then ?_
  refine Zsr ?_
  refine lq T (Zrm rfl (T.e 0 rfl)) ?_; clear T ac; intro ac T
  refine Zl2 ?_
  refine Zoc (first := []) (cap := []) T rfl rfl rfl rfl evf (.cons (T.e 0 rfl) .nil) Tryd.func36 rfl rfl ?_
  refine Calls.mono (number_any ASu3 cSu3 blu3 _ (SSu3.rd M (.cons _ (Zsq _ _))) (by omega) hbbu3) ?_
  clear T; rintro e wc ⟨rfl, hb⟩ ac T
  replace M := M.call hb; clear hb
  rw [hnbu3] at T
  refine Zg2 T (Zq (Zrm rfl (T.e 4 rfl))) rfl (fun _ T => Zq (rn_lss rfl (T.e 1 rfl) (T.e 0 rfl))) rfl ?_; clear T ac; intro ac T
  refine wpList_nil ?_
  replace T := T.pick [0, 5, 6, 7, 8] rfl
  refine nm_then ?_
  refine wp_if (T.e 0 rfl) ?_ ?_
  ·intro h3
   have hwv : wrsV s k = 1 := if_pos (by rw [← hsnu3]; omega)
   refine wp_region_lit ?_
   refine lq T (Zrm rfl (T.e 3 rfl)) ?_; clear T ac; intro ac T
   refine Zl2 ?_
   refine ow_bs (e := 3) [.int .i64 1] M T rfl rfl rfl rfl (.cons evc .nil) (fun _ => by kernel_rfl) ?_; clear M T; intro g2 wc ac M T
   refine Zl2 ?_
   replace M : Mem w noEx wc ((g2, .cells [.int .i64 1]) :: (g1, .cells [.int .i64 s.lo, .int .i64 s.wi, .int .i64 s.a0, .int .i64 s.a1, .int .i64 s.c0, .int .i64 s.c1, .slice A s.ps.length d]) :: Io) := M.sub (List.Sublist.cons_cons _ (List.Sublist.cons_cons _ (List.Sublist.trans (Zsl _ _) (Zsl _ _))))
   refine ow_app ([(g2, .cells [.int .i64 1]), (g1, .cells [.int .i64 s.lo, .int .i64 s.wi, .int .i64 s.a0, .int .i64 s.a1, .int .i64 s.c0, .int .i64 s.c1, .slice A s.ps.length d])]) Tryd.info3 hsl M (by first | rfl | simp) T rfl rfl rfl rfl Tryd.underlying27 rfl rfl rfl (by omega) (T.e 1 rfl) (T.e 0 rfl) (Zne (i := 0) rfl) rfl rfl ?_; clear M T; intro ga1 cga1 wc ac M T
   refine l_q (v := (.slice (some ⟨ga1, 0, none⟩) (OL.length + 1) cga1)) (T.pick [0, 1, 2, 3, 4, 5, 7] rfl) rfl rfl rfl rfl (Zra rfl (T.e 0 rfl)) ?_; clear T ac; intro ac T
   refine wpList_nil ?_
   replace T := T.pick [0, 5, 6, 7] rfl
   replace M := M.mask [true, false, true] rfl
   refine Znb ?_
   refine nm_then ?_
   refine wp_region_lit ?_
   refine Zg2 T (Zq (Zrm rfl (T.e 3 rfl))) rfl (fun _ T => Zq (rn_add rfl (T.e 0 rfl) evc (by omega))) rfl ?_; clear T ac; intro ac T
   refine l_q (v := (.int .i64 ((k : Int) + 1))) (T.pick [0, 1, 2, 3, 4] rfl) rfl rfl rfl rfl (Zra rfl (T.e 0 rfl)) ?_; clear T ac; intro ac T
   refine wpList_nil ?_
   replace T := T.pick [0, 3, 4, 5] rfl
   refine nm_then ?_
   have e9 : OL.length + 1 = (OL ++ [1]).length := by simp
   have e8 : ((ic OL) ++ [.int .i64 1]) = ic (OL ++ [1]) := by rw [← ic_snoc]
   rw [e9, e8] at M
   rw [e9] at T
   clear e9 e8
   exact ⟨_, by omega, k + 1, (OL ++ [1]), _, _, [(ga1, .row 3 1 (OL ++ [1]).length (ic (OL ++ [1])) cga1)], rfl, (by omega), (by rw [wrs_snoc, ← hO, hwv]), (by simp only [List.length_append, List.length_cons, List.length_nil]; omega), (Sl.row _ _ _ _ _ _), T.pick [2, 3, 1, 0] rfl, ((M.permT [1, 0] 2 rfl rfl rfl rfl).sub (Zsl ([(g1, .cells [.int .i64 s.lo, .int .i64 s.wi, .int .i64 s.a0, .int .i64 s.a1, .int .i64 s.c0, .int .i64 s.c1, .slice A s.ps.length d]), (ga1, .row 3 1 (OL ++ [1]).length (ic (OL ++ [1])) cga1)] : List (Nat × BA)) _))⟩
  intro h3
  have hwv : wrsV s k = 2 := if_neg (by rw [← hsnu3]; omega)
  refine wp_region_lit ?_
  refine lq T (Zrm rfl (T.e 3 rfl)) ?_; clear T ac; intro ac T
  refine Zl2 ?_
  refine ow_bs (e := 3) [.int .i64 2] M T rfl rfl rfl rfl (.cons evc .nil) (fun _ => by kernel_rfl) ?_; clear M T; intro g3 wc ac M T
  refine Zl2 ?_
  replace M : Mem w noEx wc ((g3, .cells [.int .i64 2]) :: (g1, .cells [.int .i64 s.lo, .int .i64 s.wi, .int .i64 s.a0, .int .i64 s.a1, .int .i64 s.c0, .int .i64 s.c1, .slice A s.ps.length d]) :: Io) := M.sub (List.Sublist.cons_cons _ (List.Sublist.cons_cons _ (List.Sublist.trans (Zsl _ _) (Zsl _ _))))
  refine ow_app ([(g3, .cells [.int .i64 2]), (g1, .cells [.int .i64 s.lo, .int .i64 s.wi, .int .i64 s.a0, .int .i64 s.a1, .int .i64 s.c0, .int .i64 s.c1, .slice A s.ps.length d])]) Tryd.info3 hsl M (by first | rfl | simp) T rfl rfl rfl rfl Tryd.underlying27 rfl rfl rfl (by omega) (T.e 1 rfl) (T.e 0 rfl) (Zne (i := 0) rfl) rfl rfl ?_; clear M T; intro ga2 cga2 wc ac M T
  refine l_q (v := (.slice (some ⟨ga2, 0, none⟩) (OL.length + 1) cga2)) (T.pick [0, 1, 2, 3, 4, 5, 7] rfl) rfl rfl rfl rfl (Zra rfl (T.e 0 rfl)) ?_; clear T ac; intro ac T
  refine wpList_nil ?_
  replace T := T.pick [0, 5, 6, 7] rfl
  replace M := M.mask [true, false, true] rfl
  refine Znb ?_
  refine nm_then ?_
  refine wp_region_lit ?_
  refine Zg2 T (Zq (Zrm rfl (T.e 3 rfl))) rfl (fun _ T => Zq (rn_add rfl (T.e 0 rfl) evc (by omega))) rfl ?_; clear T ac; intro ac T
  refine l_q (v := (.int .i64 ((k : Int) + 1))) (T.pick [0, 1, 2, 3, 4] rfl) rfl rfl rfl rfl (Zra rfl (T.e 0 rfl)) ?_; clear T ac; intro ac T
  refine wpList_nil ?_
  replace T := T.pick [0, 3, 4, 5] rfl
  refine nm_then ?_
  have e9 : OL.length + 1 = (OL ++ [2]).length := by simp
  have e8 : ((ic OL) ++ [.int .i64 2]) = ic (OL ++ [2]) := by rw [← ic_snoc]
  rw [e9, e8] at M
  rw [e9] at T
  clear e9 e8
  exact ⟨_, by omega, k + 1, (OL ++ [2]), _, _, [(ga2, .row 3 1 (OL ++ [2]).length (ic (OL ++ [2])) cga2)], rfl, (by omega), (by rw [wrs_snoc, ← hO, hwv]), (by simp only [List.length_append, List.length_cons, List.length_nil]; omega), (Sl.row _ _ _ _ _ _), T.pick [2, 3, 1, 0] rfl, ((M.permT [1, 0] 2 rfl rfl rfl rfl).sub (Zsl ([(g1, .cells [.int .i64 s.lo, .int .i64 s.wi, .int .i64 s.a0, .int .i64 s.a1, .int .i64 s.c0, .int .i64 s.c1, .slice A s.ps.length d]), (ga2, .row 3 1 (OL ++ [2]).length (ic (OL ++ [2])) cga2)] : List (Nat × BA)) _))⟩
 intro h2
 refine wp_exit ?_
 refine Zet ?_
 refine Zet ?_
 refine ex_hit ?_
 refine nm_then ?_
 refine Zsr ?_
 refine Zg3 T (Zq (Zrm rfl (T.e 3 rfl))) rfl (Za 0 rfl rfl) rfl (Zc rfl) rfl ?_; clear T ac; intro ac T
 refine wpList_nil ?_
 replace T := T.pick [0, 1] rfl
 replace M := M.mask [false] rfl
 refine Znr ?_
 refine rt_2 T rfl (T.e 1 rfl) (T.e 0 rfl) ?_
 have hE : shE s true = 0 := by omega
 have e8 : wrsL s = OL := by rw [hO, show k = s.ps.length by omega]; exact if_pos hE
 have hcap := hsl.capLe M (List.Sublist.refl _)
 have hsv := hsl.spV (by rw [ic_length]; omega)
 unfold LiPost
 rw [e8, hE]
 exact ⟨A3, c3, Io, rfl, hcap, hsv, M.sub (List.Sublist.refl _)⟩
theorem wrsL_few {s : Sk} (h : s.ps.length ≤ 20) : (wrsL s).length ≤ 20 := by
 unfold wrsL
 split
 · rw [List.length_map, List.length_range]; exact h
 · simp
set_option maxHeartbeats 4000000 in
theorem SheetSpares_any (s0 : Sk) (A0 : Option Addr) (c0 : Nat) (pt1 : Pt) (b2 : Bool) (D : Option Addr) (n d : Nat) (l : List Int) (w : World) (hl : Rd w w.heap.size 1 D n (ic l)) (hm : n ≤ 9223372036854775807) (hT : TabW w) (hS0 : Rd w w.heap.size 4 A0 s0.ps.length (pc s0.ps)) (hn0 : s0.ps.length ≤ 9223372036854775807) :
   Calls Tryd.prog 12 #[.agg #[.int .i64 s0.lo, .int .i64 s0.wi, .int .i64 s0.a0, .int .i64 s0.a1, .int .i64 s0.c0, .int .i64 s0.c1, .slice A0 s0.ps.length c0], .agg #[.int .i64 pt1.l, .int .i64 pt1.w, .bool pt1.gr, .int .i64 pt1.pa], .bool b2, .slice D n d] w fun e w' => e = .returned (.bool true) ∧ Below w.heap.size w w' := by
 have hll := hl.len1
 obtain ⟨bI, oI, SI⟩ := Sp.old hl
 obtain ⟨b0, o0, SA0⟩ := Sp.old hS0
 refine Zpx noEx Tryd.func12 rfl 145 rfl [.agg #[.int .i64 s0.lo, .int .i64 s0.wi, .int .i64 s0.a0, .int .i64 s0.a1, .int .i64 s0.c0, .int .i64 s0.c1, .slice A0 s0.ps.length c0], .agg #[.int .i64 pt1.l, .int .i64 pt1.w, .bool pt1.gr, .int .i64 pt1.pa], .bool b2, .slice D n d] rfl rfl (Mem.init w _) ?_
 intro ac wc T M
 refine Zsr ?_
 refine Zl2 ?_
 refine Zob M T rfl rfl rfl rfl (T.e 0 rfl) rfl ?_; clear M T; intro g1 wc ac M T
 refine Zl2 ?_
 refine Zob M T rfl rfl rfl rfl (T.e 2 rfl) rfl ?_; clear M T; intro g2 wc ac M T
 refine lq T (Zra rfl evc) ?_; clear T ac; intro ac T
 refine wpList_nil ?_
 replace T := T.pick [1, 2, 5, 6] rfl
 refine Zns ?_
 refine Zsr ?_
 refine lq T (Zrr (Mem.nth M 1 rfl) rfl (T.e 1 rfl) rfl) ?_; clear T ac; intro ac T
 refine Zl2 ?_
 refine Zoc (first := []) (cap := []) T rfl rfl rfl rfl evf (.cons (T.e 0 rfl) (.cons evc .nil)) Tryd.func45 rfl rfl ?_
 refine Calls.mono (wide8_any s0 A0 c0 7 _ (SA0.rd M (List.nil_sublist _)) (by omega) (by omega)) ?_
 clear T; rintro e wc ⟨rfl, hb⟩ ac T
 replace M := M.call hb; clear hb
 refine wpList_nil ?_
 replace T := T.pick [0, 2, 3, 4, 5] rfl
 refine nm_then ?_
 refine wp_cond_split (T.e 0 rfl) ?_ ?_
 ·intro h1
  refine Zsr ?_
  refine Zl2 ?_
  refine Zoc (first := []) (cap := []) T rfl rfl rfl rfl evf .nil Tryd.func17 rfl rfl ?_
  refine Calls.mono (sawn8_any _ (hT.mem M (fun h => h))) ?_
  clear T; rintro e wc ⟨rfl, hb⟩ ac T
  replace M := M.call hb; clear hb
  refine lq T (Zra rfl (T.e 0 rfl)) ?_; clear T ac; intro ac T
  refine wpList_nil ?_
  replace T := T.pick [0] rfl
  replace M := M.mask [false, false] rfl
  refine Znr ?_
  refine Zrt ?_
  refine rt_1 T rfl (T.e 0 rfl) ?_
  exact ⟨ret_bool (by simp_all), M.below⟩
 intro h1
 have hw9 := wid8_len (s := s0) (k := 7) (by simp_all)
 refine Zsk ?_
 refine Zsr ?_
 refine lq T (Zrm rfl (T.e 4 rfl)) ?_; clear T ac; intro ac T
 refine Zl2 ?_
 refine Zoc (first := []) (cap := []) T rfl rfl rfl rfl evf (.cons (T.e 0 rfl) .nil) Tryd.func18 rfl rfl ?_
 refine Calls.mono (newPot_any _ _ _ l _ (SI.rd M (List.nil_sublist _)) (by omega)) ?_
 clear T; rintro e wc ⟨bpu3, su3, hsu3, rfl, N⟩ ac T
 replace M := M.join N; clear N
 replace M := M.mask [true, true, true] rfl
 refine lq T (Zra rfl (T.e 0 rfl)) ?_; clear T ac; intro ac T
 refine wpList_nil ?_
 replace T := T.pick [0, 4, 5, 6] rfl
 refine nm_then ?_
 refine Zsr ?_
 refine lq T (Zrm rfl (T.e 0 rfl)) ?_; clear T ac; intro ac T
 refine Zl2 ?_
 refine Zoc (first := []) (cap := []) T rfl rfl rfl rfl evf (.cons (T.e 0 rfl) (.cons evc (.cons evc .nil))) Tryd.func19 rfl rfl ?_
 refine Calls.mono (sheetOf_any _ bpu3 4 3 _ (by omega) (by omega) (M.nth 0 rfl) hsu3) ?_
 clear T; rintro e wc ⟨s, AKu4, cKu4, sdu4, IKu4, rfl, hsgs, ⟨⟨hbls, hbws⟩, hbps⟩, hsu4, hcpKu4, SVKu4, N⟩ ac T
 obtain ⟨bAKu4, oAKu4, SVKu4⟩ := SVKu4
 have SAKu4 := SVKu4 w noEx
 replace M := M.joinEI N .head
 clear N
 replace M : Mem w noEx wc ((bpu3, .cells [.int .u64 sdu4]) :: (g2, .cells [.int .i64 pt1.l, .int .i64 pt1.w, .bool pt1.gr, .int .i64 pt1.pa]) :: (g1, .cells [.int .i64 s0.lo, .int .i64 s0.wi, .int .i64 s0.a0, .int .i64 s0.a1, .int .i64 s0.c0, .int .i64 s0.c1, .slice A0 s0.ps.length c0]) :: IKu4) := M
 have hlns := hsgs.len
 obtain ⟨hg1s, hg2s, hg3s, hg4s, -, -⟩ := id hsgs
 refine Zl2 ?_
 refine Zoa M T rfl rfl rfl rfl ?_; clear M T; intro g3 wc ac M T
 refine Zl2 ?_
 refine Zos M T rfl rfl (T.e 0 rfl) (T.e 1 rfl) rfl .head rfl (by simp) rfl (by kernel_rfl) ?_; clear M T; intro wc ac M T
 refine wpList_nil ?_
 replace T := T.pick [0, 3, 4, 5, 6] rfl
 refine Zns ?_
 refine Zgs M (M.mask [true, false, true, true] rfl) 12 (by kernel_rfl) rfl (by kernel_rfl) ?_
 clear M; intro wc M
 refine g_addG 7 M ?_
 refine g_have (fun ac wc => ∃ (pur5_7 : Pt), ∃ (sur5_7 : Int), pur5_7.good ∧ (u64ok sur5_7) ∧ ∃ (gr5_3 gr5_9 : Nat), Tm ac 145 [(11, .slice (some ⟨gr5_3, 0, none⟩) 3 3), (37, .slice (some ⟨gr5_3, 0, none⟩) 3 3), (43, .slice (some ⟨gr5_9, 0, none⟩) 3 3), (41, .agg #[.int .i64 pur5_7.l, .int .i64 pur5_7.w, .bool pur5_7.gr, .int .i64 pur5_7.pa]), (42, .agg #[.int .i64 pt1.l, .int .i64 pt1.w, .bool pt1.gr, .int .i64 pt1.pa]), (40, .agg #[.int .i64 s.lo, .int .i64 s.wi, .int .i64 s.a0, .int .i64 s.a1, .int .i64 s.c0, .int .i64 s.c1, .slice AKu4 s.ps.length cKu4]), (39, .pointer (some ⟨bpu3, 0, none⟩)), (38, .agg #[.int .i64 pt1.l, .int .i64 pt1.w, .bool pt1.gr, .int .i64 pt1.pa]), (36, .agg #[.int .i64 s.lo, .int .i64 s.wi, .int .i64 s.a0, .int .i64 s.a1, .int .i64 s.c0, .int .i64 s.c1, .slice AKu4 s.ps.length cKu4]), (35, .agg #[.int .i64 s.lo, .int .i64 s.wi, .int .i64 s.a0, .int .i64 s.a1, .int .i64 s.c0, .int .i64 s.c1, .slice AKu4 s.ps.length cKu4]), (34, .agg #[.int .i64 s0.lo, .int .i64 s0.wi, .int .i64 s0.a0, .int .i64 s0.a1, .int .i64 s0.c0, .int .i64 s0.c1, .slice A0 s0.ps.length c0]), (10, .pointer (some ⟨g3, 0, none⟩)), (9, .pointer (some ⟨bpu3, 0, none⟩)), (5, .pointer (some ⟨g2, 0, none⟩)), (4, .pointer (some ⟨g1, 0, none⟩)), (2, .bool b2)] ∧ Mem w noEx wc ((gr5_3, .cells [.int .i64 s0.lo, .int .i64 s0.wi, .int .i64 s0.a0, .int .i64 s0.a1, .int .i64 s0.c0, .int .i64 s0.c1, .slice A0 s0.ps.length c0, .int .i64 s.lo, .int .i64 s.wi, .int .i64 s.a0, .int .i64 s.a1, .int .i64 s.c0, .int .i64 s.c1, .slice AKu4 s.ps.length cKu4, .int .i64 s.lo, .int .i64 s.wi, .int .i64 s.a0, .int .i64 s.a1, .int .i64 s.c0, .int .i64 s.c1, .slice AKu4 s.ps.length cKu4]) :: (gr5_9, .cells [.int .i64 pt1.l, .int .i64 pt1.w, .bool pt1.gr, .int .i64 pt1.pa, .int .i64 pur5_7.l, .int .i64 pur5_7.w, .bool pur5_7.gr, .int .i64 pur5_7.pa, .int .i64 pt1.l, .int .i64 pt1.w, .bool pt1.gr, .int .i64 pt1.pa]) :: (g3, .cells [.int .i64 s.lo, .int .i64 s.wi, .int .i64 s.a0, .int .i64 s.a1, .int .i64 s.c0, .int .i64 s.c1, .slice AKu4 s.ps.length cKu4]) :: (bpu3, .cells [.int .u64 sur5_7]) :: (g2, .cells [.int .i64 pt1.l, .int .i64 pt1.w, .bool pt1.gr, .int .i64 pt1.pa]) :: (g1, .cells [.int .i64 s0.lo, .int .i64 s0.wi, .int .i64 s0.a0, .int .i64 s0.a1, .int .i64 s0.c0, .int .i64 s0.c1, .slice A0 s0.ps.length c0]) :: IKu4)) (Zpb 12 2047) 1 ?_ ?_
 ·clear T M
  rintro ac wc ⟨pur5_7, sur5_7, hpur5_7, hsur5_7, gr5_3, gr5_9, T, M⟩
  refine gq T 11 4095 rfl (fun _ _ _ _ _ => (Zra rfl (T.e 2 rfl))) ?_; clear T ac; intro ac T
  refine Zgd (by kernel_rfl) ?_
  replace T := T.pick [0, 1, 16] rfl
  replace M := M.mask [true, true, false, false, false, false] rfl
  refine Zns ?_
  refine Zsr ?_
  refine lq T (Zra rfl evc) ?_; clear T ac; intro ac T
  refine Zln ?_
  refine wp_block ?_
  obtain ⟨IT, hIT⟩ : ∃ IT : List (Nat × BA), IT = ((gr5_3, .cells [.int .i64 s0.lo, .int .i64 s0.wi, .int .i64 s0.a0, .int .i64 s0.a1, .int .i64 s0.c0, .int .i64 s0.c1, .slice A0 s0.ps.length c0, .int .i64 s.lo, .int .i64 s.wi, .int .i64 s.a0, .int .i64 s.a1, .int .i64 s.c0, .int .i64 s.c1, .slice AKu4 s.ps.length cKu4, .int .i64 s.lo, .int .i64 s.wi, .int .i64 s.a0, .int .i64 s.a1, .int .i64 s.c0, .int .i64 s.c1, .slice AKu4 s.ps.length cKu4]) :: (gr5_9, .cells [.int .i64 pt1.l, .int .i64 pt1.w, .bool pt1.gr, .int .i64 pt1.pa, .int .i64 pur5_7.l, .int .i64 pur5_7.w, .bool pur5_7.gr, .int .i64 pur5_7.pa, .int .i64 pt1.l, .int .i64 pt1.w, .bool pt1.gr, .int .i64 pt1.pa]) :: IKu4) := ⟨_, rfl⟩
  have S0 : Sp w noEx IT (some ⟨gr5_3, 0, none⟩) 3 7 gr5_3 0 (sk ([(s0, A0, c0), (s, AKu4, cKu4), (s, AKu4, cKu4)] : List SE)) := (Sp.cells (w := w) (ex := noEx) (g := gr5_3) (xs := sk ([(s0, A0, c0), (s, AKu4, cKu4), (s, AKu4, cKu4)] : List SE)) (n := 3) (size := 7) (by rfl)).mono (by rw [hIT]; exact (List.Sublist.cons_cons _ (List.nil_sublist _)))
  have E0 : ∀ x ∈ ([(s0, A0, c0), (s, AKu4, cKu4), (s, AKu4, cKu4)] : List SE), x.1.ps.length ≤ 20 ∧ x.1.ps.length ≤ x.1.ps.length ∧ ∃ b o, Sp w noEx IT x.2.1 x.1.ps.length 4 b o (pc x.1.ps) := by
    intro x hx
    simp only [List.mem_cons, List.not_mem_nil, or_false] at hx
    rcases hx with rfl | rfl | rfl
    · exact ⟨by first | omega | (dsimp only; omega) | (simp only [skA, skP, List.length_append, List.length_replicate]; omega), Nat.le_refl _, _, _, SA0.mono (by rw [hIT]; exact List.nil_sublist _)⟩
    · exact ⟨by first | omega | (dsimp only; omega) | (simp only [skA, skP, List.length_append, List.length_replicate]; omega), Nat.le_refl _, _, _, SAKu4.mono (by rw [hIT]; exact (.cons _ (.cons _ (List.Sublist.refl _))))⟩
    · exact ⟨by first | omega | (dsimp only; omega) | (simp only [skA, skP, List.length_append, List.length_replicate]; omega), Nat.le_refl _, _, _, SAKu4.mono (by rw [hIT]; exact (.cons _ (.cons _ (List.Sublist.refl _))))⟩
  obtain ⟨SS, hSS, SSS, ESS⟩ : ∃ SS : List SE, SS.length = 3 ∧ Sp w noEx IT (some ⟨gr5_3, 0, none⟩) 3 7 gr5_3 0 (sk SS) ∧ ∀ x ∈ SS, x.1.ps.length ≤ 20 ∧ x.1.ps.length ≤ x.1.ps.length ∧ ∃ b o, Sp w noEx IT x.2.1 x.1.ps.length 4 b o (pc x.1.ps) := ⟨_, rfl, S0, E0⟩
  clear S0 E0
  obtain ⟨QP, hQP, SQP⟩ : ∃ QP : List Pt, QP.length = 3 ∧ Sp w noEx IT (some ⟨gr5_9, 0, none⟩) 3 4 gr5_9 0 (pc QP) := ⟨([pt1, pur5_7, pt1] : List Pt), rfl, (Sp.cells (w := w) (ex := noEx) (g := gr5_9) (xs := pc ([pt1, pur5_7, pt1] : List Pt)) (n := 3) (size := 4) (by rfl)).mono (by rw [hIT]; exact (.cons _ (List.Sublist.cons_cons _ (List.nil_sublist _))))⟩
  replace M : Mem w noEx wc IT := by rw [hIT]; exact M
  clear hIT
  refine wp_loop_n (fun mz ac wc => ∃ (i : Nat), mz = 3 - i ∧ (i ≤ 3) ∧ Tm ac 145 [(2, .bool b2), (11, .slice (some ⟨gr5_3, 0, none⟩) 3 3), (12, .slice (some ⟨gr5_9, 0, none⟩) 3 3), (13, .int .i64 (i : Int))] ∧ Mem w noEx wc (IT)) ?_ ?_
  ·exact ⟨_, 0, rfl, (Nat.zero_le _), T.pick [3, 2, 1, 0] rfl, M⟩
  clear T M
  rintro mz ac wc ⟨i, hmm1, hi, T, M⟩
  refine wp_seq ?_
  refine Zsr ?_
  refine Zg4 (v3 := (.int .i64 3)) T (Zq (Zrm rfl (T.e 3 rfl))) rfl (Zm 2 rfl rfl) rfl (Zl Tryd.underlying42 0 rfl rfl) rfl (fun _ T => Zq (rn_lss rfl (T.e 2 rfl) (T.e 0 rfl))) rfl ?_; clear T ac; intro ac T
  refine wpList_nil ?_
  replace T := T.pick [0, 4, 5, 6, 7] rfl
  refine nm_then ?_
  refine wp_if (T.e 0 rfl) ?_ ?_
  ·intro h2
   obtain ⟨⟨s9, A9, c9⟩, hk9⟩ : ∃ x, SS[i]? = some x := ⟨_, List.getElem?_eq_getElem (by omega)⟩
   obtain ⟨hf9, -, b9, o9, S9⟩ := ESS _ (List.mem_of_getElem? hk9)
   replace hf9 : s9.ps.length ≤ 20 := hf9
   replace S9 : Sp w noEx IT A9 s9.ps.length 4 b9 o9 (pc s9.ps) := S9
   obtain ⟨pq9, hkpt9, -⟩ := pc_next (l := QP) (k := i) (by omega)
   have hsf9 := wrsL_few hf9
   refine Zsk ?_
   refine wp_seq ?_
   refine wp_block ?_
   refine Zsr ?_
   refine Zg4 (v4 := (.agg #[.int .i64 s9.lo, .int .i64 s9.wi, .int .i64 s9.a0, .int .i64 s9.a1, .int .i64 s9.c0, .int .i64 s9.c1, .slice A9 s9.ps.length c9])) T (Zq (Zrm rfl (T.e 2 rfl))) rfl (Zm 5 rfl rfl) rfl (fun _ T => Zq (Zri (size := 7) i rfl (T.e 1 rfl) (T.e 0 rfl) ⟨_, Tryd.underlying42, by kernel_rfl⟩ rfl (by omega) (SSS.at0 (by omega)))) rfl (fun _ T => Zq (rn_rowat (Sp.skR SSS M (List.Sublist.refl _) hk9) rfl (T.e 0 rfl) rfl)) rfl ?_; clear T ac; intro ac T
   refine Zl2 ?_
   refine Zoc (first := []) (cap := []) T rfl rfl rfl rfl evf (.cons (T.e 0 rfl) .nil) Tryd.func25 rfl rfl ?_
   refine Calls.mono (copySheet_any s9 A9 c9 _ (S9.rd M (List.Sublist.refl _)) (by omega)) ?_
   clear T; rintro e wc ⟨ACu5, cCu5, ICu5, rfl, hclu5, N⟩ ac T
   obtain ⟨bACu5, oACu5, SVCu5⟩ := hclu5.spV (pc_length _)
   have SACu5 := SVCu5 w noEx
   replace M := (M.join N).swapI
   clear N
   replace M : Mem w noEx wc ((IT ++ ICu5)) := M
   have hcpCu5 := hclu5.capLe M (Zsq _ _)
   refine Zl2 ?_
   refine Zoa M T rfl rfl rfl rfl ?_; clear M T; intro g4 wc ac M T
   refine Zl2 ?_
   refine Zos M T rfl rfl (T.e 0 rfl) (T.e 1 rfl) rfl .head rfl (by simp) rfl (by kernel_rfl) ?_; clear M T; intro wc ac M T
   refine wpList_nil ?_
   replace T := T.pick [0, 7, 8, 9, 10] rfl
   refine nm_then ?_
   refine Zsr ?_
   refine Zg2 T (Zq (Zrr (Mem.nth M 0 rfl) rfl (T.e 0 rfl) rfl)) rfl (Zm 2 rfl rfl) rfl ?_; clear T ac; intro ac T
   refine Zl2 ?_
   refine Zoc (first := []) (cap := []) T rfl rfl rfl rfl evf (.cons (T.e 1 rfl) (.cons (T.e 0 rfl) .nil)) Tryd.func52 rfl rfl ?_
   refine Calls.mono (Bound_any s9 ACu5 cCu5 b2 _ (SACu5.rd M (.cons _ (Zsq _ _))) (by omega)) ?_
   clear T; rintro e wc ⟨rfl, hb⟩ ac T
   replace M := M.call hb; clear hb
   refine Zg5 T (Zq (Zrm rfl (T.e 0 rfl))) rfl (Ze 0 rfl rfl rfl) rfl (Ze 1 rfl rfl rfl) rfl (Za 1 rfl rfl) rfl (Za 1 rfl rfl) rfl ?_; clear T ac; intro ac T
   refine wpList_nil ?_
   replace T := T.pick [0, 1, 8, 9, 10, 11, 12] rfl
   refine nm_then ?_
   refine Zsr ?_
   refine Zg5 (v4 := (.agg #[.int .i64 s9.lo, .int .i64 s9.wi, .int .i64 s9.a0, .int .i64 s9.a1, .int .i64 s9.c0, .int .i64 s9.c1, .slice A9 s9.ps.length c9])) T (Zq (Zrm rfl (T.e 4 rfl))) rfl (Zm 7 rfl rfl) rfl (fun _ T => Zq (Zri (size := 7) i rfl (T.e 1 rfl) (T.e 0 rfl) ⟨_, Tryd.underlying42, by kernel_rfl⟩ rfl (by omega) (SSS.at0 (by omega)))) rfl (fun _ T => Zq (rn_rowat (Sp.skR SSS M (.cons _ (subL (List.Sublist.refl _))) hk9) rfl (T.e 0 rfl) rfl)) rfl (Zm 7 rfl rfl) rfl ?_; clear T ac; intro ac T
   refine Zl2 ?_
   refine Zoc (first := []) (cap := []) T rfl rfl rfl rfl evf (.cons (T.e 1 rfl) (.cons (T.e 0 rfl) .nil)) Tryd.func53 rfl rfl ?_
   refine Calls.mono (Bound8_any s9 A9 c9 b2 _ (S9.rd M (.cons _ (subL (List.Sublist.refl _)))) (by omega)) ?_
   clear T; rintro e wc ⟨rfl, hb⟩ ac T
   replace M := M.call hb; clear hb
   refine Zg5 T (Zq (Zrm rfl (T.e 0 rfl))) rfl (Ze 0 rfl rfl rfl) rfl (Ze 1 rfl rfl rfl) rfl (Za 1 rfl rfl) rfl (Za 1 rfl rfl) rfl ?_; clear T ac; intro ac T
   refine wpList_nil ?_
   replace T := T.pick [0, 1, 11, 12, 13, 14, 15, 16, 17] rfl
   refine Zns ?_
   refine Zgs M (M.mask [true] rfl) 12 (by kernel_rfl) rfl (by kernel_rfl) ?_
   clear M; intro wc M
   refine gq T 0 1 rfl (fun B w' hD hl hS => (Zrr (Mem.nth (show Mem w noEx w' _ from hS) 0 rfl) rfl (T.e 4 rfl) rfl)) ?_; clear T ac; intro ac T
   refine gq T 1 3 rfl (fun _ _ _ _ _ => (Zrm rfl (T.e 8 rfl))) ?_; clear T ac; intro ac T
   refine gq T 2 7 rfl (fun _ _ _ _ _ => (Zrm rfl (T.e 10 rfl))) ?_; clear T ac; intro ac T
   refine gq T 3 15 rfl (fun _ _ _ _ _ => (Zri (size := 4) i rfl (T.e 1 rfl) (T.e 0 rfl) ⟨_, Tryd.underlying24, by kernel_rfl⟩ rfl (by omega) (SQP.at0 (by omega)))) ?_; clear T ac; intro ac T
   refine gq (v := (.agg #[.int .i64 pq9.l, .int .i64 pq9.w, .bool pq9.gr, .int .i64 pq9.pa])) T 4 31 rfl (fun B w' hD hl hS => (rn_rowat (Sp.pcR SQP (show Mem w noEx w' _ from hS) (.cons _ (subL (List.Sublist.refl _))) hkpt9) rfl (T.e 0 rfl) rfl)) ?_; clear T ac; intro ac T
   refine gq T 5 63 rfl (fun _ _ _ _ _ => (Zrm rfl (T.e 10 rfl))) ?_; clear T ac; intro ac T
   refine gw 6 127 ?_; intro K hK
   refine Zoc (first := []) (cap := []) T rfl rfl rfl rfl evf (.cons (T.e 5 rfl) (.cons (T.e 1 rfl) (.cons (T.e 0 rfl) .nil))) Tryd.func41 rfl rfl ?_
   refine Calls.mono (Spare_any s9 ACu5 cCu5 pq9 b2 _ (SACu5.rd M (.cons _ (Zsq _ _))) (by omega) (by omega) (hT.mem M (fun h => h))) ?_
   clear T; rintro e wc ⟨rfl, hb⟩ ac T
   replace M := M.call hb; clear hb
   refine Zso hK _ _ (M.mask [true] rfl) ?_; clear hK K
   refine gq T 7 255 rfl (fun _ _ _ _ _ => (Zrm rfl (T.e 0 rfl))) ?_; clear T ac; intro ac T
   refine gq T 8 511 rfl (fun _ _ _ _ _ => (Zre rfl (T.e 0 rfl) rfl)) ?_; clear T ac; intro ac T
   refine gq T 9 1023 rfl (fun _ _ _ _ _ => (Zre rfl (T.e 1 rfl) rfl)) ?_; clear T ac; intro ac T
   refine gq T 10 2047 rfl (fun _ _ _ _ _ => (Zra rfl (T.e 1 rfl))) ?_; clear T ac; intro ac T
   refine gq T 11 4095 rfl (fun _ _ _ _ _ => (Zra rfl (T.e 1 rfl))) ?_; clear T ac; intro ac T
   refine Zgd (by kernel_rfl) ?_
   replace T := T.pick [0, 1, 12, 13, 14, 15, 16, 17, 18, 19, 20] rfl
   refine Zns ?_
   refine Zgs M (M.mask [true] rfl) 15 (by kernel_rfl) rfl (by kernel_rfl) ?_
   clear M; intro wc M
   refine gq T 0 1 rfl (fun _ _ _ _ _ => (Zrm rfl (T.e 8 rfl))) ?_; clear T ac; intro ac T
   refine gq T 1 3 rfl (fun _ _ _ _ _ => (Zrm rfl (T.e 11 rfl))) ?_; clear T ac; intro ac T
   refine gq T 2 7 rfl (fun _ _ _ _ _ => (Zri (size := 7) i rfl (T.e 1 rfl) (T.e 0 rfl) ⟨_, Tryd.underlying42, by kernel_rfl⟩ rfl (by omega) (SSS.at0 (by omega)))) ?_; clear T ac; intro ac T
   refine gq (v := (.agg #[.int .i64 s9.lo, .int .i64 s9.wi, .int .i64 s9.a0, .int .i64 s9.a1, .int .i64 s9.c0, .int .i64 s9.c1, .slice A9 s9.ps.length c9])) T 3 15 rfl (fun B w' hD hl hS => (rn_rowat (Sp.skR SSS (show Mem w noEx w' _ from hS) (.cons _ (subL (List.Sublist.refl _))) hk9) rfl (T.e 0 rfl) rfl)) ?_; clear T ac; intro ac T
   refine gq T 4 31 rfl (fun _ _ _ _ _ => (Zrm rfl (T.e 13 rfl))) ?_; clear T ac; intro ac T
   refine gq T 5 63 rfl (fun _ _ _ _ _ => (Zrm rfl (T.e 15 rfl))) ?_; clear T ac; intro ac T
   refine gq T 6 127 rfl (fun _ _ _ _ _ => (Zri (size := 4) i rfl (T.e 1 rfl) (T.e 0 rfl) ⟨_, Tryd.underlying24, by kernel_rfl⟩ rfl (by omega) (SQP.at0 (by omega)))) ?_; clear T ac; intro ac T
   refine gq (v := (.agg #[.int .i64 pq9.l, .int .i64 pq9.w, .bool pq9.gr, .int .i64 pq9.pa])) T 7 255 rfl (fun B w' hD hl hS => (rn_rowat (Sp.pcR SQP (show Mem w noEx w' _ from hS) (.cons _ (subL (List.Sublist.refl _))) hkpt9) rfl (T.e 0 rfl) rfl)) ?_; clear T ac; intro ac T
   refine gq T 8 511 rfl (fun _ _ _ _ _ => (Zrm rfl (T.e 15 rfl))) ?_; clear T ac; intro ac T
   refine gw 9 1023 ?_; intro K hK
   refine Zoc (first := []) (cap := []) T rfl rfl rfl rfl evf (.cons (T.e 5 rfl) (.cons (T.e 1 rfl) (.cons (T.e 0 rfl) .nil))) Tryd.func54 rfl rfl ?_
   refine Calls.mono (Spare8_any s9 A9 c9 pq9 b2 _ (S9.rd M (.cons _ (subL (List.Sublist.refl _)))) (by omega)) ?_
   clear T; rintro e wc ⟨rfl, hb⟩ ac T
   replace M := M.call hb; clear hb
   refine Zso hK _ _ (M.mask [true] rfl) ?_; clear hK K
   refine gq T 10 2047 rfl (fun _ _ _ _ _ => (Zrm rfl (T.e 0 rfl))) ?_; clear T ac; intro ac T
   refine gq T 11 4095 rfl (fun _ _ _ _ _ => (Zre rfl (T.e 0 rfl) rfl)) ?_; clear T ac; intro ac T
   refine gq T 12 8191 rfl (fun _ _ _ _ _ => (Zre rfl (T.e 1 rfl) rfl)) ?_; clear T ac; intro ac T
   refine gq T 13 16383 rfl (fun _ _ _ _ _ => (Zra rfl (T.e 1 rfl))) ?_; clear T ac; intro ac T
   refine gq T 14 32767 rfl (fun _ _ _ _ _ => (Zra rfl (T.e 1 rfl))) ?_; clear T ac; intro ac T
   refine Zgd (by kernel_rfl) ?_
   replace T := T.pick [0, 1, 15, 16, 17, 18, 19, 20, 21, 22, 23, 24, 25] rfl
   refine nm_then ?_
   refine Zsr ?_
   refine lq T (Zrr (Mem.nth M 0 rfl) rfl (T.e 8 rfl) rfl) ?_; clear T ac; intro ac T
   refine Zl2 ?_
   refine Zoc (first := []) (cap := []) T rfl rfl rfl rfl evf (.cons (T.e 0 rfl) .nil) Tryd.func43 rfl rfl ?_
   refine Calls.mono (Worst_any s9 ACu5 cCu5 _ (SACu5.rd M (.cons _ (Zsq _ _))) (by omega) (by omega) (hT.mem M (fun h => h))) ?_
   clear T; rintro e wc ⟨AWu10, cWu10, IWu10, rfl, hcpWu10, SVWu10, N⟩ ac T
   obtain ⟨bAWu10, oAWu10, SVWu10⟩ := SVWu10
   have SAWu10 := SVWu10 w noEx
   replace M := (M.join N).swapI
   clear N
   replace M : Mem w noEx wc ((g4, .cells [.int .i64 s9.lo, .int .i64 s9.wi, .int .i64 s9.a0, .int .i64 s9.a1, .int .i64 s9.c0, .int .i64 s9.c1, .slice ACu5 s9.ps.length cCu5]) :: (IT ++ ICu5 ++ IWu10)) := M
   refine Zg5 T (Zq (Zrm rfl (T.e 0 rfl))) rfl (Ze 0 rfl rfl rfl) rfl (Ze 1 rfl rfl rfl) rfl (Za 1 rfl rfl) rfl (Za 1 rfl rfl) rfl ?_; clear T ac; intro ac T
   refine wpList_nil ?_
   replace T := T.pick [0, 1, 7, 8, 9, 10, 11, 12, 13, 14, 15, 16, 17, 18, 19] rfl
   refine nm_then ?_
   refine Zsr ?_
   refine Zg4 (v4 := (.agg #[.int .i64 s9.lo, .int .i64 s9.wi, .int .i64 s9.a0, .int .i64 s9.a1, .int .i64 s9.c0, .int .i64 s9.c1, .slice A9 s9.ps.length c9])) T (Zq (Zrm rfl (T.e 12 rfl))) rfl (Zm 15 rfl rfl) rfl (fun _ T => Zq (Zri (size := 7) i rfl (T.e 1 rfl) (T.e 0 rfl) ⟨_, Tryd.underlying42, by kernel_rfl⟩ rfl (by omega) (SSS.at0 (by omega)))) rfl (fun _ T => Zq (rn_rowat (Sp.skR SSS M (.cons _ (subL (subL (List.Sublist.refl _)))) hk9) rfl (T.e 0 rfl) rfl)) rfl ?_; clear T ac; intro ac T
   refine Zl2 ?_
   refine Zoc (first := []) (cap := []) T rfl rfl rfl rfl evf (.cons (T.e 0 rfl) .nil) Tryd.func55 rfl rfl ?_
   refine Calls.mono (Worst8_any s9 A9 c9 _ (S9.rd M (.cons _ (subL (subL (List.Sublist.refl _))))) (by omega)) ?_
   clear T; rintro e wc ⟨AVu11, cVu11, IVu11, rfl, hcpVu11, SVVu11, N⟩ ac T
   obtain ⟨bAVu11, oAVu11, SVVu11⟩ := SVVu11
   have SAVu11 := SVVu11 w noEx
   replace M := (M.join N).swapI
   clear N
   replace M : Mem w noEx wc ((g4, .cells [.int .i64 s9.lo, .int .i64 s9.wi, .int .i64 s9.a0, .int .i64 s9.a1, .int .i64 s9.c0, .int .i64 s9.c1, .slice ACu5 s9.ps.length cCu5]) :: (IT ++ ICu5 ++ IWu10 ++ IVu11)) := M
   refine Zg5 T (Zq (Zrm rfl (T.e 0 rfl))) rfl (Ze 0 rfl rfl rfl) rfl (Ze 1 rfl rfl rfl) rfl (Za 1 rfl rfl) rfl (Za 1 rfl rfl) rfl ?_; clear T ac; intro ac T
   refine wpList_nil ?_
   replace T := T.pick [0, 1, 10, 11, 12, 13, 14, 15, 16, 17, 18, 19, 20, 21, 22, 23, 24] rfl
   refine Zns ?_
   refine Zgs M (M.mask [true] rfl) 38 (by kernel_rfl) rfl (by kernel_rfl) ?_
   clear M; intro wc M
   refine gq T 0 1 rfl (fun _ _ _ _ _ => (Zrm rfl (T.e 11 rfl))) ?_; clear T ac; intro ac T
   refine gq T 1 3 rfl (fun _ _ _ _ _ => (Zrm rfl (T.e 10 rfl))) ?_; clear T ac; intro ac T
   refine gq (v := (.bool false)) T 2 7 rfl (fun _ _ _ _ _ => (Zrq (rn_neq rfl (T.e 1 rfl) (T.e 0 rfl)) (by simp))) ?_; clear T ac; intro ac T
   refine gq T 3 15 rfl (fun _ _ _ _ _ => (Zrm rfl (T.e 0 rfl))) ?_; clear T ac; intro ac T
   refine g_q (T := T) (i := 4) rfl (by kernel_rfl) (by kernel_rfl : (Zpb 38 15).setIfInBounds 4 true = Zpb 38 31) si_U (fun _ _ _ h => h) (Zwy rfl rfl (T.e 0 rfl) rfl) rfl rfl rfl (fun _ _ _ _ _ => (Zrm rfl (T.e 14 rfl))) ?_; clear T ac; intro ac T
   refine g_q (T := T) (i := 5) rfl (by kernel_rfl) (by kernel_rfl : (Zpb 38 31).setIfInBounds 5 true = Zpb 38 63) si_U (fun _ _ _ h => h) (Zwy rfl rfl (T.e 1 rfl) rfl) rfl rfl rfl (fun _ _ _ _ _ => (Zrm rfl (T.e 13 rfl))) ?_; clear T ac; intro ac T
   refine g_q (v := (.bool false)) (T := T) (i := 6) rfl (by kernel_rfl) (by kernel_rfl : (Zpb 38 63).setIfInBounds 6 true = Zpb 38 127) si_U (fun _ _ _ h => h) (Zwy rfl rfl (T.e 2 rfl) rfl) rfl rfl rfl (fun _ _ _ _ _ => (Zrq (rn_neq rfl (T.e 1 rfl) (T.e 0 rfl)) (by simp))) ?_; clear T ac; intro ac T
   refine gq T 7 255 rfl (fun _ _ _ _ _ => (Zr0 rfl (T.e 3 rfl) rfl (T.e 0 rfl))) ?_; clear T ac; intro ac T
   refine gq T 8 511 rfl (fun _ _ _ _ _ => (Zrm rfl (T.e 0 rfl))) ?_; clear T ac; intro ac T
   refine g_q (T := T) (i := 9) rfl (by kernel_rfl) (by kernel_rfl : (Zpb 38 511).setIfInBounds 9 true = Zpb 38 1023) si_U (fun _ _ _ h => h) (Zwy rfl rfl (T.e 0 rfl) rfl) rfl rfl rfl (fun _ _ _ _ _ => (Zrm rfl (T.e 16 rfl))) ?_; clear T ac; intro ac T
   refine g_q (T := T) (i := 10) rfl (by kernel_rfl) (by kernel_rfl : (Zpb 38 1023).setIfInBounds 10 true = Zpb 38 2047) si_U (fun _ _ _ h => h) (Zwy rfl rfl (T.e 1 rfl) rfl) rfl rfl rfl (fun _ _ _ _ _ => (Zrm rfl (T.e 15 rfl))) ?_; clear T ac; intro ac T
   refine g_q (v := (.bool false)) (T := T) (i := 11) rfl (by kernel_rfl) (by kernel_rfl : (Zpb 38 2047).setIfInBounds 11 true = Zpb 38 4095) si_U (fun _ _ _ h => h) (Zwy rfl rfl (T.e 2 rfl) rfl) rfl rfl rfl (fun _ _ _ _ _ => (Zrq (rn_neq rfl (T.e 1 rfl) (T.e 0 rfl)) (by simp))) ?_; clear T ac; intro ac T
   refine gq T 12 8191 rfl (fun _ _ _ _ _ => (Zr0 rfl (T.e 3 rfl) rfl (T.e 0 rfl))) ?_; clear T ac; intro ac T
   refine gq T 13 16383 rfl (fun _ _ _ _ _ => (Zrm rfl (T.e 0 rfl))) ?_; clear T ac; intro ac T
   refine g_q (T := T) (i := 14) rfl (by kernel_rfl) (by kernel_rfl : (Zpb 38 16383).setIfInBounds 14 true = Zpb 38 32767) si_U (fun _ _ _ h => h) (Zwy rfl rfl (T.e 0 rfl) rfl) rfl rfl rfl (fun _ _ _ _ _ => (Zrm rfl (T.e 20 rfl))) ?_; clear T ac; intro ac T
   refine g_q (T := T) (i := 15) rfl (by kernel_rfl) (by kernel_rfl : (Zpb 38 32767).setIfInBounds 15 true = Zpb 38 65535) si_U (fun _ _ _ h => h) (Zwy rfl rfl (T.e 1 rfl) rfl) rfl rfl rfl (fun _ _ _ _ _ => (Zrm rfl (T.e 19 rfl))) ?_; clear T ac; intro ac T
   refine g_q (v := (.bool false)) (T := T) (i := 16) rfl (by kernel_rfl) (by kernel_rfl : (Zpb 38 65535).setIfInBounds 16 true = Zpb 38 131071) si_U (fun _ _ _ h => h) (Zwy rfl rfl (T.e 2 rfl) rfl) rfl rfl rfl (fun _ _ _ _ _ => (Zrq (rn_neq rfl (T.e 1 rfl) (T.e 0 rfl)) (by simp))) ?_; clear T ac; intro ac T
   refine gq T 17 262143 rfl (fun _ _ _ _ _ => (Zr0 rfl (T.e 3 rfl) rfl (T.e 0 rfl))) ?_; clear T ac; intro ac T
   refine gq T 18 524287 rfl (fun _ _ _ _ _ => (Zrm rfl (T.e 0 rfl))) ?_; clear T ac; intro ac T
   refine g_q (T := T) (i := 19) rfl (by kernel_rfl) (by kernel_rfl : (Zpb 38 524287).setIfInBounds 19 true = Zpb 38 1048575) si_U (fun _ _ _ h => h) (Zwy rfl rfl (T.e 0 rfl) rfl) rfl rfl rfl (fun _ _ _ _ _ => (Zrm rfl (T.e 21 rfl))) ?_; clear T ac; intro ac T
   refine g_q (T := T) (i := 20) rfl (by kernel_rfl) (by kernel_rfl : (Zpb 38 1048575).setIfInBounds 20 true = Zpb 38 2097151) si_U (fun _ _ _ h => h) (Zwy rfl rfl (T.e 1 rfl) rfl) rfl rfl rfl (fun _ _ _ _ _ => (Zrm rfl (T.e 20 rfl))) ?_; clear T ac; intro ac T
   refine g_q (v := (.bool false)) (T := T) (i := 21) rfl (by kernel_rfl) (by kernel_rfl : (Zpb 38 2097151).setIfInBounds 21 true = Zpb 38 4194303) si_U (fun _ _ _ h => h) (Zwy rfl rfl (T.e 2 rfl) rfl) rfl rfl rfl (fun _ _ _ _ _ => (Zrq (rn_neq rfl (T.e 1 rfl) (T.e 0 rfl)) (by simp))) ?_; clear T ac; intro ac T
   refine gq T 22 8388607 rfl (fun _ _ _ _ _ => (Zr0 rfl (T.e 3 rfl) rfl (T.e 0 rfl))) ?_; clear T ac; intro ac T
   refine gq T 23 16777215 rfl (fun _ _ _ _ _ => (Zrm rfl (T.e 0 rfl))) ?_; clear T ac; intro ac T
   refine g_q (T := T) (i := 24) rfl (by kernel_rfl) (by kernel_rfl : (Zpb 38 16777215).setIfInBounds 24 true = Zpb 38 33554431) si_U (fun _ _ _ h => h) (Zwy rfl rfl (T.e 0 rfl) rfl) rfl rfl rfl (fun _ _ _ _ _ => (Zrm rfl (T.e 27 rfl))) ?_; clear T ac; intro ac T
   refine g_q (T := T) (i := 25) rfl (by kernel_rfl) (by kernel_rfl : (Zpb 38 33554431).setIfInBounds 25 true = Zpb 38 67108863) si_U (fun _ _ _ h => h) (Zwy rfl rfl (T.e 1 rfl) rfl) rfl rfl rfl (fun _ _ _ _ _ => (Zrm rfl (T.e 26 rfl))) ?_; clear T ac; intro ac T
   refine g_w (i := 26) (by kernel_rfl) rfl (by kernel_rfl : (Zpb 38 67108863).setIfInBounds 26 true = Zpb 38 134217727) (Zwy rfl rfl (T.e 2 rfl) rfl) ?_; intro K hK
   refine Zoc (first := []) (cap := []) T rfl rfl rfl rfl evf (.cons (T.e 1 rfl) (.cons (T.e 0 rfl) .nil)) Tryd.func30 rfl rfl ?_
   refine Calls.mono (sameInts_any _ _ _ _ _ _ (wrsL s9) (wrsL s9) _ (SAWu10.rd M (.cons _ (subL (Zsq _ _)))) (SAVu11.rd M (.cons _ (Zsq _ _))) (by omega) (by omega)) ?_
   clear T; rintro e wc ⟨rfl, hb⟩ ac T
   replace M := M.call hb; clear hb
   rw [Zdt (@rfl (List Int) (wrsL s9))] at T
   refine Zso hK _ _ (M.mask [true] rfl) ?_; clear hK K
   refine g_addU M ?_
   refine g_q (v := (.bool false)) (T := T) (i := 27) rfl (by kernel_rfl) (by kernel_rfl : (Zpb 38 134217727).setIfInBounds 27 true = Zpb 38 268435455) (si_and si_U si_U) (fun _ _ _ h => h) (Zwy rfl rfl (T.e 3 rfl) rfl) rfl rfl rfl (fun _ _ _ _ _ => (Zrq (rn_not rfl (T.e 0 rfl)) (by simp))) ?_; clear T ac; intro ac T
   refine gq T 28 536870911 rfl (fun _ _ _ _ _ => (Zr0 rfl (T.e 4 rfl) rfl (T.e 0 rfl))) ?_; clear T ac; intro ac T
   refine gq T 29 1073741823 rfl (fun _ _ _ _ _ => (Zrm rfl (T.e 0 rfl))) ?_; clear T ac; intro ac T
   refine g_q (T := T) (i := 30) rfl (by kernel_rfl) (by kernel_rfl : (Zpb 38 1073741823).setIfInBounds 30 true = Zpb 38 2147483647) (si_and si_U si_U) (fun _ _ _ h => h) (Zwy rfl rfl (T.e 0 rfl) rfl) rfl rfl rfl (fun B w' hD hl hS => (Zrr (Mem.nth (show Mem w noEx w' _ from (MA.lft hS)) 0 rfl) rfl (T.e 42 rfl) rfl)) ?_; clear T ac; intro ac T
   refine g_q (T := T) (i := 31) rfl (by kernel_rfl) (by kernel_rfl : (Zpb 38 2147483647).setIfInBounds 31 true = Zpb 38 4294967295) (si_and si_U si_U) (fun _ _ _ h => h) (Zwy rfl rfl (T.e 1 rfl) rfl) rfl rfl rfl (fun _ _ _ _ _ => (Zrm rfl (T.e 45 rfl))) ?_; clear T ac; intro ac T
   refine g_q (T := T) (i := 32) rfl (by kernel_rfl) (by kernel_rfl : (Zpb 38 4294967295).setIfInBounds 32 true = Zpb 38 8589934591) (si_and si_U si_U) (fun _ _ _ h => h) (Zwy rfl rfl (T.e 2 rfl) rfl) rfl rfl rfl (fun _ _ _ _ _ => (Zrm rfl (T.e 48 rfl))) ?_; clear T ac; intro ac T
   refine g_q (T := T) (i := 33) rfl (by kernel_rfl) (by kernel_rfl : (Zpb 38 8589934591).setIfInBounds 33 true = Zpb 38 17179869183) (si_and si_U si_U) (fun _ _ _ h => h) (Zwy rfl rfl (T.e 3 rfl) rfl) rfl rfl rfl (fun _ _ _ _ _ => (Zri (size := 7) i rfl (T.e 1 rfl) (T.e 0 rfl) ⟨_, Tryd.underlying42, by kernel_rfl⟩ rfl (by omega) (SSS.at0 (by omega)))) ?_; clear T ac; intro ac T
   refine g_q (v := (.agg #[.int .i64 s9.lo, .int .i64 s9.wi, .int .i64 s9.a0, .int .i64 s9.a1, .int .i64 s9.c0, .int .i64 s9.c1, .slice A9 s9.ps.length c9])) (T := T) (i := 34) rfl (by kernel_rfl) (by kernel_rfl : (Zpb 38 17179869183).setIfInBounds 34 true = Zpb 38 34359738367) (si_and si_U si_U) (fun _ _ _ h => h) (Zwy rfl rfl (T.e 4 rfl) rfl) rfl rfl rfl (fun B w' hD hl hS => (rn_rowat (Sp.skR SSS (show Mem w noEx w' _ from (MA.lft hS)) (.cons _ (subL (subL (subL (List.Sublist.refl _))))) hk9) rfl (T.e 0 rfl) rfl)) ?_; clear T ac; intro ac T
   refine g_w (i := 35) (by kernel_rfl) rfl (by kernel_rfl : (Zpb 38 34359738367).setIfInBounds 35 true = Zpb 38 68719476735) (Zwy rfl rfl (T.e 5 rfl) rfl) ?_; intro K hK
   refine Zoc (first := []) (cap := []) T rfl rfl rfl rfl evf (.cons (T.e 4 rfl) (.cons (T.e 0 rfl) .nil)) Tryd.func29 rfl rfl ?_
   refine Calls.mono (sameSheets_any s9 ACu5 cCu5 s9 A9 c9 _ (SACu5.rd M (.cons _ (subL (subL (Zsq _ _))))) (S9.rd M (.cons _ (subL (subL (subL (List.Sublist.refl _)))))) (by omega) (by omega)) ?_
   clear T; rintro e wc ⟨rfl, hb⟩ ac T
   replace M := M.call hb; clear hb
   rw [Zdt (@rfl Sk s9)] at T
   refine Zso hK _ _ (MA.mk (M.mask [true] rfl) (M.mask [true] rfl)) ?_; clear hK K
   refine g_q (v := (.bool false)) (T := T) (i := 36) rfl (by kernel_rfl) (by kernel_rfl : (Zpb 38 68719476735).setIfInBounds 36 true = Zpb 38 137438953471) (si_and si_U si_U) (fun _ _ _ h => h) (Zwy rfl rfl (T.e 6 rfl) rfl) rfl rfl rfl (fun _ _ _ _ _ => (Zrq (rn_not rfl (T.e 0 rfl)) (by simp))) ?_; clear T ac; intro ac T
   refine gq T 37 274877906943 rfl (fun _ _ _ _ _ => (Zr0 rfl (T.e 7 rfl) rfl (T.e 0 rfl))) ?_; clear T ac; intro ac T
   refine Zgd (by kernel_rfl) ?_
   replace T := T.pick [0, 1, 2, 3, 4, 5, 6, 7, 10, 11, 12, 13, 16, 17, 18, 21, 22, 23, 26, 27, 28, 31, 32, 33, 51, 52, 53, 54] rfl
   replace M := M.mask [false] rfl
   replace M : Mem w noEx wc ((IT ++ ICu5 ++ IWu10 ++ IVu11)) := M
   refine nm_then ?_
   refine wp_cond_false (T.e 0 rfl) ?_
   refine wp_skip ?_
   refine Znb ?_
   refine nm_then ?_
   refine wp_region_lit ?_
   refine Zg2 T (Zq (Zrm rfl (T.e 27 rfl))) rfl (fun _ T => Zq (rn_add rfl (T.e 0 rfl) evc (by omega))) rfl ?_; clear T ac; intro ac T
   refine l_q (v := (.int .i64 ((i : Int) + 1))) (T.pick [0, 1, 2, 3, 4, 5, 6, 7, 8, 9, 10, 11, 12, 13, 14, 15, 16, 17, 18, 19, 20, 21, 22, 23, 24, 25, 26, 27, 28] rfl) rfl rfl rfl rfl (Zra rfl (T.e 0 rfl)) ?_; clear T ac; intro ac T
   refine wpList_nil ?_
   replace T := T.pick [0, 4, 5, 6, 7, 8, 9, 10, 11, 12, 13, 14, 15, 16, 17, 18, 19, 20, 21, 22, 23, 24, 25, 26, 27, 28, 29] rfl
   refine nm_then ?_
   exact ⟨_, by omega, i + 1, rfl, (by omega), T.pick [24, 25, 26, 0] rfl, (M.sub (subL (subL (subL (List.Sublist.refl _)))))⟩
  intro h2
  refine wp_exit ?_
  refine Zet ?_
  refine Zet ?_
  refine ex_hit ?_
  refine nm_then ?_
  refine Zsr ?_
  refine Zl2 ?_
  refine Zoc (first := []) (cap := []) T rfl rfl rfl rfl evf .nil Tryd.func17 rfl rfl ?_
  refine Calls.mono (sawn8_any _ (hT.mem M (fun h => h))) ?_
  clear T; rintro e wc ⟨rfl, hb⟩ ac T
  replace M := M.call hb; clear hb
  refine lq T (Zra rfl (T.e 0 rfl)) ?_; clear T ac; intro ac T
  refine wpList_nil ?_
  replace T := T.pick [0] rfl
  refine Znr ?_
  refine rt_1 T rfl (T.e 0 rfl) ?_
  exact ⟨ret_bool (by simp_all), M.below⟩
 intro H1
 refine g_have (fun ac wc => ∃ (pur5_7 : Pt), ∃ (sur5_7 : Int), pur5_7.good ∧ (u64ok sur5_7) ∧ ∃ (gr5_3 : Nat), Tm ac 145 [(41, .agg #[.int .i64 pur5_7.l, .int .i64 pur5_7.w, .bool pur5_7.gr, .int .i64 pur5_7.pa]), (37, .slice (some ⟨gr5_3, 0, none⟩) 3 3), (42, .agg #[.int .i64 pt1.l, .int .i64 pt1.w, .bool pt1.gr, .int .i64 pt1.pa]), (40, .agg #[.int .i64 s.lo, .int .i64 s.wi, .int .i64 s.a0, .int .i64 s.a1, .int .i64 s.c0, .int .i64 s.c1, .slice AKu4 s.ps.length cKu4]), (39, .pointer (some ⟨bpu3, 0, none⟩)), (38, .agg #[.int .i64 pt1.l, .int .i64 pt1.w, .bool pt1.gr, .int .i64 pt1.pa]), (36, .agg #[.int .i64 s.lo, .int .i64 s.wi, .int .i64 s.a0, .int .i64 s.a1, .int .i64 s.c0, .int .i64 s.c1, .slice AKu4 s.ps.length cKu4]), (35, .agg #[.int .i64 s.lo, .int .i64 s.wi, .int .i64 s.a0, .int .i64 s.a1, .int .i64 s.c0, .int .i64 s.c1, .slice AKu4 s.ps.length cKu4]), (34, .agg #[.int .i64 s0.lo, .int .i64 s0.wi, .int .i64 s0.a0, .int .i64 s0.a1, .int .i64 s0.c0, .int .i64 s0.c1, .slice A0 s0.ps.length c0]), (10, .pointer (some ⟨g3, 0, none⟩)), (9, .pointer (some ⟨bpu3, 0, none⟩)), (5, .pointer (some ⟨g2, 0, none⟩)), (4, .pointer (some ⟨g1, 0, none⟩)), (2, .bool b2)] ∧ Mem w noEx wc ((gr5_3, .cells [.int .i64 s0.lo, .int .i64 s0.wi, .int .i64 s0.a0, .int .i64 s0.a1, .int .i64 s0.c0, .int .i64 s0.c1, .slice A0 s0.ps.length c0, .int .i64 s.lo, .int .i64 s.wi, .int .i64 s.a0, .int .i64 s.a1, .int .i64 s.c0, .int .i64 s.c1, .slice AKu4 s.ps.length cKu4, .int .i64 s.lo, .int .i64 s.wi, .int .i64 s.a0, .int .i64 s.a1, .int .i64 s.c0, .int .i64 s.c1, .slice AKu4 s.ps.length cKu4]) :: (g3, .cells [.int .i64 s.lo, .int .i64 s.wi, .int .i64 s.a0, .int .i64 s.a1, .int .i64 s.c0, .int .i64 s.c1, .slice AKu4 s.ps.length cKu4]) :: (bpu3, .cells [.int .u64 sur5_7]) :: (g2, .cells [.int .i64 pt1.l, .int .i64 pt1.w, .bool pt1.gr, .int .i64 pt1.pa]) :: (g1, .cells [.int .i64 s0.lo, .int .i64 s0.wi, .int .i64 s0.a0, .int .i64 s0.a1, .int .i64 s0.c0, .int .i64 s0.c1, .slice A0 s0.ps.length c0]) :: IKu4)) (Zpb 12 511) 3 ?_ ?_
 ·clear T M
  rintro ac wc ⟨pur5_7, sur5_7, hpur5_7, hsur5_7, gr5_3, T, M⟩
  refine gq T 10 1535 rfl (fun _ _ _ _ _ => (Zra rfl (T.e 1 rfl))) ?_; clear T ac; intro ac T
  refine gw 9 2047 ?_; intro K hK
  refine ow_bs (e := 63) [.int .i64 pt1.l, .int .i64 pt1.w, .bool pt1.gr, .int .i64 pt1.pa, .int .i64 pur5_7.l, .int .i64 pur5_7.w, .bool pur5_7.gr, .int .i64 pur5_7.pa, .int .i64 pt1.l, .int .i64 pt1.w, .bool pt1.gr, .int .i64 pt1.pa] M T rfl rfl rfl rfl (.cons (T.e 6 rfl) (.cons (T.e 1 rfl) (.cons (T.e 3 rfl) .nil))) (fun _ => by kernel_rfl) ?_; clear M T; intro gr5_9 wc ac M T
  refine Zso hK _ _ (MA.mk (fun h => (no_of (by kernel_rfl) h).elim) (M.mask [false, false, true, false, true, true] rfl)) ?_; clear hK K
  exact H1 _ _ ⟨pur5_7, sur5_7, hpur5_7, hsur5_7, gr5_3, gr5_9, T.pick [1, 3, 0, 2, 4, 5, 6, 7, 8, 9, 10, 11, 12, 13, 14, 15] rfl, M.permT [1, 0, 2, 3, 4, 5] 6 rfl rfl rfl rfl⟩
 intro H0
 refine gq T 0 1 rfl (fun B w' hD hl hS => (Zrr (Mem.nth (show Mem w noEx w' _ from (MA.rgt hS)) 2 rfl) rfl (T.e 3 rfl) rfl)) ?_; clear T ac; intro ac T
 refine gq T 1 3 rfl (fun B w' hD hl hS => (Zrr (Mem.nth (show Mem w noEx w' _ from (MA.rgt hS)) 0 rfl) rfl (T.e 1 rfl) rfl)) ?_; clear T ac; intro ac T
 refine gq T 2 7 rfl (fun B w' hD hl hS => (Zrr (Mem.nth (show Mem w noEx w' _ from (MA.rgt hS)) 0 rfl) rfl (T.e 2 rfl) rfl)) ?_; clear T ac; intro ac T
 refine gq T 4 23 rfl (fun B w' hD hl hS => (Zrr (Mem.nth (show Mem w noEx w' _ from (MA.rgt hS)) 1 rfl) rfl (T.e 5 rfl) rfl)) ?_; clear T ac; intro ac T
 refine gq T 5 55 rfl (fun _ _ _ _ _ => (Zrm rfl (T.e 5 rfl))) ?_; clear T ac; intro ac T
 refine gq T 6 119 rfl (fun B w' hD hl hS => (Zrr (Mem.nth (show Mem w noEx w' _ from ((MA.lft hS) (hD.wait (i := 6) (m := 7) (by kernel_rfl) hl))) 0 rfl) rfl (T.e 5 rfl) rfl)) ?_; clear T ac; intro ac T
 refine gq T 8 375 rfl (fun B w' hD hl hS => (Zrr (Mem.nth (show Mem w noEx w' _ from (MA.rgt hS)) 1 rfl) rfl (T.e 8 rfl) rfl)) ?_; clear T ac; intro ac T
 refine g_m2 (i := 3) (j := 7) (by kernel_rfl) ?_ ?_
 ·refine gi 383 ?_; intro K hK
  refine ow_bs (e := 26) [.int .i64 s0.lo, .int .i64 s0.wi, .int .i64 s0.a0, .int .i64 s0.a1, .int .i64 s0.c0, .int .i64 s0.c1, .slice A0 s0.ps.length c0, .int .i64 s.lo, .int .i64 s.wi, .int .i64 s.a0, .int .i64 s.a1, .int .i64 s.c0, .int .i64 s.c1, .slice AKu4 s.ps.length cKu4, .int .i64 s.lo, .int .i64 s.wi, .int .i64 s.a0, .int .i64 s.a1, .int .i64 s.c0, .int .i64 s.c1, .slice AKu4 s.ps.length cKu4] M T rfl rfl rfl rfl (.cons (T.e 6 rfl) (.cons (T.e 5 rfl) (.cons (T.e 4 rfl) .nil))) (fun _ => by kernel_rfl) ?_; clear M T; intro gr5_3 wc ac M T
  refine Zso hK _ _ (MA.mk (fun _ => M.mask [false, true, true, true, true] rfl) (M.mask [false, true, false, true, true] rfl)) ?_; clear hK K
  refine gw 7 511 ?_; intro K hK
  refine Zoc (first := []) (cap := []) T rfl rfl rfl rfl evf (.cons (T.e 3 rfl) (.cons (T.e 2 rfl) .nil)) Tryd.func40 rfl rfl ?_
  refine Calls.mono (partOf_any _ bpu3 s.lo s.wi s.a0 s.a1 s.c0 s.c1 AKu4 s.ps.length cKu4 _ (by omega) (by omega) (by omega) (by omega) (M.nth 2 rfl) hsu4) ?_
  clear T; rintro e wc ⟨pur5_7, sur5_7, hpur5_7, hsur5_7, rfl, hgr, hbk⟩ ac T
  replace M := M.callC (cs' := [.int .u64 sur5_7]) (.tail (.tail .head)) hgr hbk
  clear hgr hbk
  refine Zso hK _ _ (MA.mk (fun h => (no_of (by kernel_rfl) h).elim) (M.mask [false, true, false, true, true] rfl)) ?_; clear hK K
  exact H0 _ _ ⟨pur5_7, sur5_7, hpur5_7, hsur5_7, gr5_3, T, M⟩
 refine gi 503 ?_; intro K hK
 refine Zoc (first := []) (cap := []) T rfl rfl rfl rfl evf (.cons (T.e 2 rfl) (.cons (T.e 1 rfl) .nil)) Tryd.func40 rfl rfl ?_
 refine Calls.mono (partOf_any _ bpu3 s.lo s.wi s.a0 s.a1 s.c0 s.c1 AKu4 s.ps.length cKu4 _ (by omega) (by omega) (by omega) (by omega) (M.nth 1 rfl) hsu4) ?_
 clear T; rintro e wc ⟨pur5_7, sur5_7, hpur5_7, hsur5_7, rfl, hgr, hbk⟩ ac T
 replace M := M.callC (cs' := [.int .u64 sur5_7]) (.tail .head) hgr hbk
 clear hgr hbk
 refine Zso hK _ _ (MA.mk (fun h => (no_of (by kernel_rfl) h).elim) (M.mask [true, false, true, true] rfl)) ?_; clear hK K
 refine g_m2 (i := 3) (j := 9) (by kernel_rfl) ?_ ?_
 ·refine gi 511 ?_; intro K hK
  refine ow_bs (e := 26) [.int .i64 s0.lo, .int .i64 s0.wi, .int .i64 s0.a0, .int .i64 s0.a1, .int .i64 s0.c0, .int .i64 s0.c1, .slice A0 s0.ps.length c0, .int .i64 s.lo, .int .i64 s.wi, .int .i64 s.a0, .int .i64 s.a1, .int .i64 s.c0, .int .i64 s.c1, .slice AKu4 s.ps.length cKu4, .int .i64 s.lo, .int .i64 s.wi, .int .i64 s.a0, .int .i64 s.a1, .int .i64 s.c0, .int .i64 s.c1, .slice AKu4 s.ps.length cKu4] M T rfl rfl rfl rfl (.cons (T.e 7 rfl) (.cons (T.e 6 rfl) (.cons (T.e 5 rfl) .nil))) (fun _ => by kernel_rfl) ?_; clear M T; intro gr5_3 wc ac M T
  refine Zso hK _ _ (MA.mk (fun h => (no_of (by kernel_rfl) h).elim) (M.mask [false, true, false, true, true] rfl)) ?_; clear hK K
  exact H0 _ _ ⟨pur5_7, sur5_7, hpur5_7, hsur5_7, gr5_3, T.pick [1, 0, 2, 3, 4, 5, 6, 7, 8, 9, 10, 11, 12, 13] rfl, M⟩
 refine gi 1015 ?_; intro K hK
 refine ow_bs (e := 63) [.int .i64 pt1.l, .int .i64 pt1.w, .bool pt1.gr, .int .i64 pt1.pa, .int .i64 pur5_7.l, .int .i64 pur5_7.w, .bool pur5_7.gr, .int .i64 pur5_7.pa, .int .i64 pt1.l, .int .i64 pt1.w, .bool pt1.gr, .int .i64 pt1.pa] M T rfl rfl rfl rfl (.cons (T.e 4 rfl) (.cons (T.e 0 rfl) (.cons (T.e 1 rfl) .nil))) (fun _ => by kernel_rfl) ?_; clear M T; intro gr5_9 wc ac M T
 refine Zso hK _ _ (MA.mk (fun h => (no_of (by kernel_rfl) h).elim) (M.mask [false, true, false, true, true] rfl)) ?_; clear hK K
 refine gw 3 1023 ?_; intro K hK
 refine ow_bs (e := 26) [.int .i64 s0.lo, .int .i64 s0.wi, .int .i64 s0.a0, .int .i64 s0.a1, .int .i64 s0.c0, .int .i64 s0.c1, .slice A0 s0.ps.length c0, .int .i64 s.lo, .int .i64 s.wi, .int .i64 s.a0, .int .i64 s.a1, .int .i64 s.c0, .int .i64 s.c1, .slice AKu4 s.ps.length cKu4, .int .i64 s.lo, .int .i64 s.wi, .int .i64 s.a0, .int .i64 s.a1, .int .i64 s.c0, .int .i64 s.c1, .slice AKu4 s.ps.length cKu4] M T rfl rfl rfl rfl (.cons (T.e 8 rfl) (.cons (T.e 7 rfl) (.cons (T.e 6 rfl) .nil))) (fun _ => by kernel_rfl) ?_; clear M T; intro gr5_3 wc ac M T
 refine Zso hK _ _ (MA.mk (fun h => (no_of (by kernel_rfl) h).elim) (M.mask [false, false, true, false, true, true] rfl)) ?_; clear hK K
 refine gq T 10 2047 rfl (fun _ _ _ _ _ => (Zra rfl (T.e 0 rfl))) ?_; clear T ac; intro ac T
 exact H1 _ _ ⟨pur5_7, sur5_7, hpur5_7, hsur5_7, gr5_3, gr5_9, T, M⟩
end Go.Proofs.YtehpcclfgjccbaaDoor


/-
  Walks of functions, and plain laws (texts put together). No condition.
-/
import Derived.Test.YtehpcclfgjccbaaDoorMSheetCuts1
import Derived.Test.YtehpcclfgjccbaaDoorMSheetCuts2
import Derived.Test.YtehpcclfgjccbaaDoorMSheetCuts3
import Derived.Test.YtehpcclfgjccbaaDoorMSheetCuts4
set_option maxRecDepth 100000
set_option maxHeartbeats 1000000
set_option linter.unusedSimpArgs false
set_option linter.unusedVariables false
namespace Go.Proofs.YtehpcclfgjccbaaDoor
open Go.RowKit
theorem rt_CC {P : Program} {fn : Func} {R : Ending → World → Prop} {a : Act} {w0 w : World} {ex : Nat → Prop} {L : List (Nat × BA)} {n : Nat} {E : List (Nat × Value)} {t t' : Tmp} {ty ty' : TypeId} {m m' g g' : Nat} [hT : RowTy P ty m] [hT' : RowTy P ty' m'] {cs cs' : List Value} (M : Mem w0 ex w L) (T : Tm a n E) (hr : fn.results = #[.cell t ty, .cell t' ty'])
  (hx : a.eval (.tmp t) = .pointer (some ⟨g, 0, none⟩)) (hx' : a.eval (.tmp t') = .pointer (some ⟨g', 0, none⟩)) (hm : (g, BA.cells cs) ∈ L) (hm' : (g', BA.cells cs') ∈ L) (hn : cs.length = m) (hn' : cs'.length = m')
  (h : R (.returned (.tuple #[.agg cs.toArray, .agg cs'.toArray])) w) : bodyPost P fn R .ret a w := by
 obtain ⟨d, hu, hw⟩ := hT.row
 obtain ⟨d', hu', hw'⟩ := hT'.row
 refine ⟨T.defers, .tuple #[.agg cs.toArray, .agg cs'.toArray], ?_, h⟩
 have hl := run_loadVar_mid w g 0 ty cs d (by simpa using (M.get hm).range) hu hw (by rw [hn]; exact hT.size)
 have hl' := run_loadVar_mid w g' 0 ty' cs' d' (by simpa using (M.get hm').range) hu' hw' (by rw [hn']; exact hT'.size)
 have e : a.tmps[t]?.getD undef = .pointer (some ⟨g, 0, none⟩) := by simpa [Act.eval] using hx
 have e' : a.tmps[t']?.getD undef = .pointer (some ⟨g', 0, none⟩) := by simpa [Act.eval] using hx'
 simp [results, hr, e, e', asAddr, hl, hl', Sem.run_bind]
structure Bo where
 x : Int
 y : Int
 lo : Int
 wi : Int
deriving DecidableEq, Inhabited
def Bo.few (b : Bo) : Prop := (-1000 ≤ b.x ∧ b.x ≤ 1000) ∧ (-1000 ≤ b.y ∧ b.y ≤ 1000) ∧ (-1000 ≤ b.lo ∧ b.lo ≤ 1000) ∧ (-1000 ≤ b.wi ∧ b.wi ≤ 1000)
def halA (b : Bo) (k : Int) : Bo := if k < b.lo then ⟨b.x, b.y, k, b.wi⟩ else ⟨b.x, b.y, b.lo, k - b.lo + 1⟩
def halB (b : Bo) (k : Int) : Bo := if k < b.lo then ⟨b.x + k, b.y, b.lo - k, b.wi⟩ else ⟨b.x, b.y + (k - b.lo + 1), b.lo, b.wi - (k - b.lo + 1)⟩
def insB (a b : Bo) : Bool := withinB a.x b.x (b.x + b.lo - a.lo) && withinB a.y b.y (b.y + b.wi - a.wi)
def apaB (a b : Bo) : Bool := decide (a.x + a.lo ≤ b.x) || (decide (b.x + b.lo ≤ a.x) || (decide (a.y + a.wi ≤ b.y) || decide (b.y + b.wi ≤ a.y)))
theorem whole8_any (s : Sk) (A : Option Addr) (d : Nat)  (w : World)  :
  Calls Tryd.prog 68 #[.agg #[.int .i64 s.lo, .int .i64 s.wi, .int .i64 s.a0, .int .i64 s.a1, .int .i64 s.c0, .int .i64 s.c1, .slice A s.ps.length d]] w fun e w' => e = .returned (.agg #[.int .i64 0, .int .i64 0, .int .i64 s.lo, .int .i64 s.wi]) ∧ Below w.heap.size w w' := by
 refine Zpx noEx Tryd.func68 rfl 8 rfl [.agg #[.int .i64 s.lo, .int .i64 s.wi, .int .i64 s.a0, .int .i64 s.a1, .int .i64 s.c0, .int .i64 s.c1, .slice A s.ps.length d]] rfl rfl (Mem.init w _) ?_
 intro ac wc T M
 refine Zsr ?_
 refine Zl2 ?_
 refine Zob M T rfl rfl rfl rfl (T.e 0 rfl) rfl ?_; clear M T; intro g1 wc ac M T
 refine Zl2 ?_
 refine Zoa M T rfl rfl rfl rfl ?_; clear M T; intro g2 wc ac M T
 refine wpList_nil ?_
 replace T := T.pick [0, 1] rfl
 refine nm_then ?_
 refine Zsr ?_
 refine Zg5 (v1 := (.pointer (some ⟨g1, 0, none⟩))) (v3 := (.pointer (some ⟨g1, 1, none⟩))) (v5 := (.agg #[.int .i64 0, .int .i64 0, .int .i64 s.lo, .int .i64 s.wi])) T (Zq (Zrf (off := 0) rfl (T.e 1 rfl) (fun _ _ _ => by kernel_rfl))) rfl (Zo M 1 0 rfl rfl rfl rfl) rfl (Zf 1 3 rfl rfl) rfl (Zo M 1 0 rfl rfl rfl rfl) rfl (fun _ T => Zq (rn_build rfl (.cons evc (.cons evc (.cons (T.e 2 rfl) (.cons (T.e 0 rfl) .nil)))) (fun _ => by kernel_rfl))) rfl ?_; clear T ac; intro ac T
 refine Zl2 ?_
 refine Zos M T rfl rfl (T.e 5 rfl) (T.e 0 rfl) rfl .head rfl (by simp) rfl (by kernel_rfl) ?_; clear M T; intro wc ac M T
 refine wpList_nil ?_
 replace T := T.pick [5] rfl
 replace M := M.mask [true, false] rfl
 refine Znr ?_
 refine rt_c M T rfl (T.e 0 rfl) (Zne (i := 0) rfl) rfl ?_
 exact ⟨rfl, M.below⟩
theorem halves8_any (b : Bo) (k : Int)  (w : World) (hb : b.few) (hk : -1000 ≤ k ∧ k ≤ 1000)  :
   Calls Tryd.prog 98 #[.agg #[.int .i64 b.x, .int .i64 b.y, .int .i64 b.lo, .int .i64 b.wi], .int .i64 k] w fun e w' => e = .returned (.tuple #[.agg #[.int .i64 ((halA b k).x), .int .i64 ((halA b k).y), .int .i64 ((halA b k).lo), .int .i64 ((halA b k).wi)], .agg #[.int .i64 ((halB b k).x), .int .i64 ((halB b k).y), .int .i64 ((halB b k).lo), .int .i64 ((halB b k).wi)]]) ∧ Below w.heap.size w w' := by
 obtain ⟨f1, f2, f3, f4⟩ := hb
 refine Zpx noEx Tryd.func98 rfl 57 rfl [.agg #[.int .i64 b.x, .int .i64 b.y, .int .i64 b.lo, .int .i64 b.wi], .int .i64 k] rfl rfl (Mem.init w _) ?_
 intro ac wc T M
 refine Zsr ?_
 refine Zl2 ?_
 refine Zob M T rfl rfl rfl rfl (T.e 0 rfl) rfl ?_; clear M T; intro g1 wc ac M T
 refine Zl2 ?_
 refine Zoa M T rfl rfl rfl rfl ?_; clear M T; intro g2 wc ac M T
 refine Zl2 ?_
 refine Zoa M T rfl rfl rfl rfl ?_; clear M T; intro g3 wc ac M T
 refine wpList_nil ?_
 replace T := T.pick [0, 1, 2, 4] rfl
 refine Zns ?_
 refine Zsr ?_
 refine Zg4 (v2 := (.pointer (some ⟨g1, 2, none⟩))) T (Zq (Zrm rfl (T.e 3 rfl))) rfl (Zf 2 3 rfl rfl) rfl (Zo M 2 0 rfl rfl rfl rfl) rfl (fun _ T => Zq (rn_lss rfl (T.e 2 rfl) (T.e 0 rfl))) rfl ?_; clear T ac; intro ac T
 refine wpList_nil ?_
 replace T := T.pick [0, 4, 5, 6, 7] rfl
 refine nm_then ?_
 refine wp_if (T.e 0 rfl) ?_ ?_
 ·intro h1
  refine wp_seq ?_
  refine Zgs M (M.perm [2] rfl rfl) 23 (by kernel_rfl) rfl (by kernel_rfl) ?_
  clear M; intro wc M
  refine g_addG 21 M ?_
  refine g_addG 22 (M.perm [0, 2] rfl rfl) ?_
  refine gq (v := (.pointer (some ⟨g1, 0, none⟩))) T 0 1 rfl (fun _ _ _ _ _ => (Zrf (off := 0) rfl (T.e 3 rfl) (fun _ _ _ => by kernel_rfl))) ?_; clear T ac; intro ac T
  refine gq T 1 3 rfl (fun B w' hD hl hS => (Zro (Mem.nth (show Mem w noEx w' _ from ((MA.lft hS) (hD.wait (i := 1) (m := 22) (by kernel_rfl) hl))) 1 rfl) rfl (T.e 0 rfl) rfl)) ?_; clear T ac; intro ac T
  refine gq (v := (.pointer (some ⟨g1, 1, none⟩))) T 2 7 rfl (fun _ _ _ _ _ => (Zrf (off := 1) rfl (T.e 5 rfl) (fun _ _ _ => by kernel_rfl))) ?_; clear T ac; intro ac T
  refine gq T 3 15 rfl (fun B w' hD hl hS => (Zro (Mem.nth (show Mem w noEx w' _ from ((MA.lft hS) (hD.wait (i := 3) (m := 22) (by kernel_rfl) hl))) 1 rfl) rfl (T.e 0 rfl) rfl)) ?_; clear T ac; intro ac T
  refine gq T 4 31 rfl (fun _ _ _ _ _ => (Zrm rfl (T.e 8 rfl))) ?_; clear T ac; intro ac T
  refine gq (v := (.pointer (some ⟨g1, 3, none⟩))) T 5 63 rfl (fun _ _ _ _ _ => (Zrf (off := 3) rfl (T.e 8 rfl) (fun _ _ _ => by kernel_rfl))) ?_; clear T ac; intro ac T
  refine gq T 6 127 rfl (fun B w' hD hl hS => (Zro (Mem.nth (show Mem w noEx w' _ from ((MA.lft hS) (hD.wait (i := 6) (m := 22) (by kernel_rfl) hl))) 1 rfl) rfl (T.e 0 rfl) rfl)) ?_; clear T ac; intro ac T
  refine gq (v := (.agg #[.int .i64 b.x, .int .i64 b.y, .int .i64 k, .int .i64 b.wi])) T 7 255 rfl (fun _ _ _ _ _ => (rn_build rfl (.cons (T.e 5 rfl) (.cons (T.e 3 rfl) (.cons (T.e 2 rfl) (.cons (T.e 0 rfl) .nil)))) (fun _ => by kernel_rfl))) ?_; clear T ac; intro ac T
  refine gq (v := (.pointer (some ⟨g1, 0, none⟩))) T 8 511 rfl (fun _ _ _ _ _ => (Zrf (off := 0) rfl (T.e 11 rfl) (fun _ _ _ => by kernel_rfl))) ?_; clear T ac; intro ac T
  refine gq T 9 1023 rfl (fun B w' hD hl hS => (Zro (Mem.nth (show Mem w noEx w' _ from ((MA.lft hS) (hD.wait (i := 9) (m := 22) (by kernel_rfl) hl))) 1 rfl) rfl (T.e 0 rfl) rfl)) ?_; clear T ac; intro ac T
  refine gq T 10 2047 rfl (fun _ _ _ _ _ => (Zrm rfl (T.e 14 rfl))) ?_; clear T ac; intro ac T
  refine gq T 11 4095 rfl (fun _ _ _ _ _ => (rn_add rfl (T.e 1 rfl) (T.e 0 rfl) (by omega))) ?_; clear T ac; intro ac T
  refine gq (v := (.pointer (some ⟨g1, 1, none⟩))) T 12 8191 rfl (fun _ _ _ _ _ => (Zrf (off := 1) rfl (T.e 15 rfl) (fun _ _ _ => by kernel_rfl))) ?_; clear T ac; intro ac T
  refine gq T 13 16383 rfl (fun B w' hD hl hS => (Zro (Mem.nth (show Mem w noEx w' _ from ((MA.lft hS) (hD.wait (i := 13) (m := 22) (by kernel_rfl) hl))) 1 rfl) rfl (T.e 0 rfl) rfl)) ?_; clear T ac; intro ac T
  refine gq (v := (.pointer (some ⟨g1, 2, none⟩))) T 14 32767 rfl (fun _ _ _ _ _ => (Zrf (off := 2) rfl (T.e 17 rfl) (fun _ _ _ => by kernel_rfl))) ?_; clear T ac; intro ac T
  refine gq T 15 65535 rfl (fun B w' hD hl hS => (Zro (Mem.nth (show Mem w noEx w' _ from ((MA.lft hS) (hD.wait (i := 15) (m := 22) (by kernel_rfl) hl))) 1 rfl) rfl (T.e 0 rfl) rfl)) ?_; clear T ac; intro ac T
  refine gq T 16 131071 rfl (fun _ _ _ _ _ => (Zrm rfl (T.e 20 rfl))) ?_; clear T ac; intro ac T
  refine gq T 17 262143 rfl (fun _ _ _ _ _ => (rn_sub rfl (T.e 1 rfl) (T.e 0 rfl) (by omega))) ?_; clear T ac; intro ac T
  refine gq (v := (.pointer (some ⟨g1, 3, none⟩))) T 18 524287 rfl (fun _ _ _ _ _ => (Zrf (off := 3) rfl (T.e 21 rfl) (fun _ _ _ => by kernel_rfl))) ?_; clear T ac; intro ac T
  refine gq T 19 1048575 rfl (fun B w' hD hl hS => (Zro (Mem.nth (show Mem w noEx w' _ from ((MA.lft hS) (hD.wait (i := 19) (m := 22) (by kernel_rfl) hl))) 1 rfl) rfl (T.e 0 rfl) rfl)) ?_; clear T ac; intro ac T
  refine gq (v := (.agg #[.int .i64 (b.x + k), .int .i64 b.y, .int .i64 (b.lo - k), .int .i64 b.wi])) T 20 2097151 rfl (fun _ _ _ _ _ => (rn_build rfl (.cons (T.e 8 rfl) (.cons (T.e 6 rfl) (.cons (T.e 2 rfl) (.cons (T.e 0 rfl) .nil)))) (fun _ => by kernel_rfl))) ?_; clear T ac; intro ac T
  refine gw 21 4194303 ?_; intro K hK
  refine Zos M T rfl rfl (T.e 23 rfl) (T.e 13 rfl) rfl (.tail .head) rfl (by simp) rfl (by kernel_rfl) ?_; clear M T; intro wc ac M T
  refine Zso hK _ _ (MA.mk (fun _ => M.mask [true, false, true] rfl) (MA.mk (fun h => (no_of (by kernel_rfl) h).elim) (M.mask [false, false, true] rfl))) ?_; clear hK K
  refine gw 22 8388607 ?_; intro K hK
  refine Zos M T rfl rfl (T.e 22 rfl) (T.e 0 rfl) rfl .head rfl (by simp) rfl (by kernel_rfl) ?_; clear M T; intro wc ac M T
  refine Zso hK _ _ (MA.mk (fun h => (no_of (by kernel_rfl) h).elim) (MA.mk (fun h => (no_of (by kernel_rfl) h).elim) (M.mask [false, false, true] rfl))) ?_; clear hK K
  refine Zgd (by kernel_rfl) ?_
  replace T := T.pick [22, 23] rfl
  replace M := M.mask [true, true, false] rfl
  refine Znr ?_
  refine Zrt ?_
  refine rt_CC M T rfl (T.e 1 rfl) (T.e 0 rfl) (Zne (i := 1) rfl) (Zne (i := 0) rfl) rfl rfl ?_
  have e1 : halA b k = ⟨b.x, b.y, k, b.wi⟩ := if_pos (by omega)
  have e2 : halB b k = ⟨b.x + k, b.y, b.lo - k, b.wi⟩ := if_pos (by omega)
  rw [e1, e2]
  exact ⟨rfl, M.below⟩
 intro h1
 refine Zsk ?_
 refine Zsr ?_
 refine Zg5 (v2 := (.pointer (some ⟨g1, 2, none⟩))) T (Zq (Zrm rfl (T.e 4 rfl))) rfl (Zf 2 4 rfl rfl) rfl (Zo M 2 0 rfl rfl rfl rfl) rfl (fun _ T => Zq (rn_sub rfl (T.e 2 rfl) (T.e 0 rfl) (by omega))) rfl (fun _ T => Zq (rn_add rfl (T.e 0 rfl) evc (by omega))) rfl ?_; clear T ac; intro ac T
 refine l_q (v := (.int .i64 ((k - b.lo) + 1))) (T.pick [0, 1, 2, 3, 4, 5, 6, 7, 8] rfl) rfl rfl rfl rfl (Zra rfl (T.e 0 rfl)) ?_; clear T ac; intro ac T
 refine wpList_nil ?_
 replace T := T.pick [0, 7, 8, 9] rfl
 refine Zns ?_
 refine Zgs M (M.perm [2] rfl rfl) 23 (by kernel_rfl) rfl (by kernel_rfl) ?_
 clear M; intro wc M
 refine g_addG 21 M ?_
 refine g_addG 22 (M.perm [0, 2] rfl rfl) ?_
 refine gq (v := (.pointer (some ⟨g1, 0, none⟩))) T 0 1 rfl (fun _ _ _ _ _ => (Zrf (off := 0) rfl (T.e 3 rfl) (fun _ _ _ => by kernel_rfl))) ?_; clear T ac; intro ac T
 refine gq T 1 3 rfl (fun B w' hD hl hS => (Zro (Mem.nth (show Mem w noEx w' _ from ((MA.lft hS) (hD.wait (i := 1) (m := 22) (by kernel_rfl) hl))) 1 rfl) rfl (T.e 0 rfl) rfl)) ?_; clear T ac; intro ac T
 refine gq (v := (.pointer (some ⟨g1, 1, none⟩))) T 2 7 rfl (fun _ _ _ _ _ => (Zrf (off := 1) rfl (T.e 5 rfl) (fun _ _ _ => by kernel_rfl))) ?_; clear T ac; intro ac T
 refine gq T 3 15 rfl (fun B w' hD hl hS => (Zro (Mem.nth (show Mem w noEx w' _ from ((MA.lft hS) (hD.wait (i := 3) (m := 22) (by kernel_rfl) hl))) 1 rfl) rfl (T.e 0 rfl) rfl)) ?_; clear T ac; intro ac T
 refine gq (v := (.pointer (some ⟨g1, 2, none⟩))) T 4 31 rfl (fun _ _ _ _ _ => (Zrf (off := 2) rfl (T.e 7 rfl) (fun _ _ _ => by kernel_rfl))) ?_; clear T ac; intro ac T
 refine gq T 5 63 rfl (fun B w' hD hl hS => (Zro (Mem.nth (show Mem w noEx w' _ from ((MA.lft hS) (hD.wait (i := 5) (m := 22) (by kernel_rfl) hl))) 1 rfl) rfl (T.e 0 rfl) rfl)) ?_; clear T ac; intro ac T
 refine gq T 6 127 rfl (fun _ _ _ _ _ => (Zrm rfl (T.e 6 rfl))) ?_; clear T ac; intro ac T
 refine gq (v := (.agg #[.int .i64 b.x, .int .i64 b.y, .int .i64 b.lo, .int .i64 ((k - b.lo) + 1)])) T 7 255 rfl (fun _ _ _ _ _ => (rn_build rfl (.cons (T.e 5 rfl) (.cons (T.e 3 rfl) (.cons (T.e 1 rfl) (.cons (T.e 0 rfl) .nil)))) (fun _ => by kernel_rfl))) ?_; clear T ac; intro ac T
 refine gq (v := (.pointer (some ⟨g1, 0, none⟩))) T 8 511 rfl (fun _ _ _ _ _ => (Zrf (off := 0) rfl (T.e 11 rfl) (fun _ _ _ => by kernel_rfl))) ?_; clear T ac; intro ac T
 refine gq T 9 1023 rfl (fun B w' hD hl hS => (Zro (Mem.nth (show Mem w noEx w' _ from ((MA.lft hS) (hD.wait (i := 9) (m := 22) (by kernel_rfl) hl))) 1 rfl) rfl (T.e 0 rfl) rfl)) ?_; clear T ac; intro ac T
 refine gq (v := (.pointer (some ⟨g1, 1, none⟩))) T 10 2047 rfl (fun _ _ _ _ _ => (Zrf (off := 1) rfl (T.e 13 rfl) (fun _ _ _ => by kernel_rfl))) ?_; clear T ac; intro ac T
 refine gq T 11 4095 rfl (fun B w' hD hl hS => (Zro (Mem.nth (show Mem w noEx w' _ from ((MA.lft hS) (hD.wait (i := 11) (m := 22) (by kernel_rfl) hl))) 1 rfl) rfl (T.e 0 rfl) rfl)) ?_; clear T ac; intro ac T
 refine gq T 12 8191 rfl (fun _ _ _ _ _ => (Zrm rfl (T.e 12 rfl))) ?_; clear T ac; intro ac T
 refine gq T 13 16383 rfl (fun _ _ _ _ _ => (rn_add rfl (T.e 1 rfl) (T.e 0 rfl) (by omega))) ?_; clear T ac; intro ac T
 refine gq (v := (.pointer (some ⟨g1, 2, none⟩))) T 14 32767 rfl (fun _ _ _ _ _ => (Zrf (off := 2) rfl (T.e 17 rfl) (fun _ _ _ => by kernel_rfl))) ?_; clear T ac; intro ac T
 refine gq T 15 65535 rfl (fun B w' hD hl hS => (Zro (Mem.nth (show Mem w noEx w' _ from ((MA.lft hS) (hD.wait (i := 15) (m := 22) (by kernel_rfl) hl))) 1 rfl) rfl (T.e 0 rfl) rfl)) ?_; clear T ac; intro ac T
 refine gq (v := (.pointer (some ⟨g1, 3, none⟩))) T 16 131071 rfl (fun _ _ _ _ _ => (Zrf (off := 3) rfl (T.e 19 rfl) (fun _ _ _ => by kernel_rfl))) ?_; clear T ac; intro ac T
 refine gq T 17 262143 rfl (fun B w' hD hl hS => (Zro (Mem.nth (show Mem w noEx w' _ from ((MA.lft hS) (hD.wait (i := 17) (m := 22) (by kernel_rfl) hl))) 1 rfl) rfl (T.e 0 rfl) rfl)) ?_; clear T ac; intro ac T
 refine gq T 18 524287 rfl (fun _ _ _ _ _ => (Zrm rfl (T.e 18 rfl))) ?_; clear T ac; intro ac T
 refine gq T 19 1048575 rfl (fun _ _ _ _ _ => (rn_sub rfl (T.e 1 rfl) (T.e 0 rfl) (by omega))) ?_; clear T ac; intro ac T
 refine gq (v := (.agg #[.int .i64 b.x, .int .i64 (b.y + ((k - b.lo) + 1)), .int .i64 b.lo, .int .i64 (b.wi - ((k - b.lo) + 1))])) T 20 2097151 rfl (fun _ _ _ _ _ => (rn_build rfl (.cons (T.e 10 rfl) (.cons (T.e 6 rfl) (.cons (T.e 4 rfl) (.cons (T.e 0 rfl) .nil)))) (fun _ => by kernel_rfl))) ?_; clear T ac; intro ac T
 refine gw 21 4194303 ?_; intro K hK
 refine Zos M T rfl rfl (T.e 23 rfl) (T.e 13 rfl) rfl (.tail .head) rfl (by simp) rfl (by kernel_rfl) ?_; clear M T; intro wc ac M T
 refine Zso hK _ _ (MA.mk (fun _ => M.mask [true, false, true] rfl) (MA.mk (fun h => (no_of (by kernel_rfl) h).elim) (M.mask [false, false, true] rfl))) ?_; clear hK K
 refine gw 22 8388607 ?_; intro K hK
 refine Zos M T rfl rfl (T.e 22 rfl) (T.e 0 rfl) rfl .head rfl (by simp) rfl (by kernel_rfl) ?_; clear M T; intro wc ac M T
 refine Zso hK _ _ (MA.mk (fun h => (no_of (by kernel_rfl) h).elim) (MA.mk (fun h => (no_of (by kernel_rfl) h).elim) (M.mask [false, false, true] rfl))) ?_; clear hK K
 refine Zgd (by kernel_rfl) ?_
 replace T := T.pick [22, 23] rfl
 replace M := M.mask [true, true, false] rfl
 refine Znr ?_
 refine rt_CC M T rfl (T.e 1 rfl) (T.e 0 rfl) (Zne (i := 1) rfl) (Zne (i := 0) rfl) rfl rfl ?_
 have e1 : halA b k = ⟨b.x, b.y, b.lo, k - b.lo + 1⟩ := if_neg (by omega)
 have e2 : halB b k = ⟨b.x, b.y + (k - b.lo + 1), b.lo, b.wi - (k - b.lo + 1)⟩ := if_neg (by omega)
 rw [e1, e2]
 exact ⟨rfl, M.below⟩
theorem inside8_any (a b : Bo)  (w : World) (ha : a.few) (hb : b.few)  :
   Calls Tryd.prog 77 #[.agg #[.int .i64 a.x, .int .i64 a.y, .int .i64 a.lo, .int .i64 a.wi], .agg #[.int .i64 b.x, .int .i64 b.y, .int .i64 b.lo, .int .i64 b.wi]] w fun e w' => e = .returned (.bool (insB a b)) ∧ Below w.heap.size w w' := by
 obtain ⟨f1, f2, f3, f4⟩ := ha
 obtain ⟨f5, f6, f7, f8⟩ := hb
 refine Zpx noEx Tryd.func77 rfl 33 rfl [.agg #[.int .i64 a.x, .int .i64 a.y, .int .i64 a.lo, .int .i64 a.wi], .agg #[.int .i64 b.x, .int .i64 b.y, .int .i64 b.lo, .int .i64 b.wi]] rfl rfl (Mem.init w _) ?_
 intro ac wc T M
 refine Zsr ?_
 refine Zl2 ?_
 refine Zob M T rfl rfl rfl rfl (T.e 0 rfl) rfl ?_; clear M T; intro g1 wc ac M T
 refine Zl2 ?_
 refine Zob M T rfl rfl rfl rfl (T.e 2 rfl) rfl ?_; clear M T; intro g2 wc ac M T
 refine lq T (Zra rfl evc) ?_; clear T ac; intro ac T
 refine wpList_nil ?_
 replace T := T.pick [1, 2] rfl
 refine nm_then ?_
 refine cut_seq (fun ac wc => Tm ac 33 [(4, .bool ((withinB a.x b.x ((b.x + b.lo) - a.lo)) && (withinB a.y b.y ((b.y + b.wi) - a.wi))))] ∧ Mem w noEx wc []) ?_ ?_
 ·refine wp_region_lit ?_
  refine Zg8 (v1 := (.pointer (some ⟨g1, 0, none⟩))) (v3 := (.pointer (some ⟨g2, 0, none⟩))) (v5 := (.pointer (some ⟨g2, 0, none⟩))) (v7 := (.pointer (some ⟨g2, 2, none⟩))) T (Zq (Zrf (off := 0) rfl (T.e 1 rfl) (fun _ _ _ => by kernel_rfl))) rfl (Zo M 1 0 rfl rfl rfl rfl) rfl (Zf 0 2 rfl rfl) rfl (Zo M 0 0 rfl rfl rfl rfl) rfl (Zf 0 4 rfl rfl) rfl (Zo M 0 0 rfl rfl rfl rfl) rfl (Zf 2 6 rfl rfl) rfl (Zo M 0 0 rfl rfl rfl rfl) rfl ?_; clear T ac; intro ac T
  refine Zg4 (v2 := (.pointer (some ⟨g1, 2, none⟩))) T (Zq (rn_add rfl (T.e 2 rfl) (T.e 0 rfl) (by omega))) rfl (Zf 2 10 rfl rfl) rfl (Zo M 1 0 rfl rfl rfl rfl) rfl (fun _ T => Zq (rn_sub rfl (T.e 2 rfl) (T.e 0 rfl) (by omega))) rfl ?_; clear T ac; intro ac T
  refine Zl2 ?_
  refine Zoc (first := []) (cap := []) T rfl rfl rfl rfl evf (.cons (T.e 10 rfl) (.cons (T.e 8 rfl) (.cons (T.e 0 rfl) .nil))) Tryd.func75 rfl rfl ?_
  refine Calls.mono (fits8_any a.x b.x ((b.x + b.lo) - a.lo) _) ?_
  clear T; rintro e wc ⟨rfl, hb⟩ ac T
  replace M := M.call hb; clear hb
  refine lq T (Zrm rfl (T.e 0 rfl)) ?_; clear T ac; intro ac T
  rcases Bool.eq_false_or_eq_true (withinB a.x b.x ((b.x + b.lo) - a.lo)) with h1 | h1
  ·refine Zg8 (v1 := (.pointer (some ⟨g1, 1, none⟩))) (v3 := (.pointer (some ⟨g2, 1, none⟩))) (v5 := (.pointer (some ⟨g2, 1, none⟩))) (v7 := (.pointer (some ⟨g2, 3, none⟩))) T (Zw (Zwy rfl rfl (T.e 0 rfl) h1) (Zrf (off := 1) rfl (T.e 15 rfl) (fun _ _ _ => by kernel_rfl))) rfl (fun _ T => Zw (Zwy rfl rfl (T.e 1 rfl) h1) (Zro (Mem.nth M 1 rfl) rfl (T.e 0 rfl) rfl)) rfl (fun _ T => Zw (Zwy rfl rfl (T.e 2 rfl) h1) (Zrf (off := 1) rfl (T.e 16 rfl) (fun _ _ _ => by kernel_rfl))) rfl (fun _ T => Zw (Zwy rfl rfl (T.e 3 rfl) h1) (Zro (Mem.nth M 0 rfl) rfl (T.e 0 rfl) rfl)) rfl (fun _ T => Zw (Zwy rfl rfl (T.e 4 rfl) h1) (Zrf (off := 1) rfl (T.e 18 rfl) (fun _ _ _ => by kernel_rfl))) rfl (fun _ T => Zw (Zwy rfl rfl (T.e 5 rfl) h1) (Zro (Mem.nth M 0 rfl) rfl (T.e 0 rfl) rfl)) rfl (fun _ T => Zw (Zwy rfl rfl (T.e 6 rfl) h1) (Zrf (off := 3) rfl (T.e 20 rfl) (fun _ _ _ => by kernel_rfl))) rfl (fun _ T => Zw (Zwy rfl rfl (T.e 7 rfl) h1) (Zro (Mem.nth M 0 rfl) rfl (T.e 0 rfl) rfl)) rfl ?_; clear T ac; intro ac T
   refine Zg4 (v2 := (.pointer (some ⟨g1, 3, none⟩))) T (Zw (Zwy rfl rfl (T.e 8 rfl) h1) (rn_add rfl (T.e 2 rfl) (T.e 0 rfl) (by omega))) rfl (fun _ T => Zw (Zwy rfl rfl (T.e 9 rfl) h1) (Zrf (off := 3) rfl (T.e 24 rfl) (fun _ _ _ => by kernel_rfl))) rfl (fun _ T => Zw (Zwy rfl rfl (T.e 10 rfl) h1) (Zro (Mem.nth M 1 rfl) rfl (T.e 0 rfl) rfl)) rfl (fun _ T => Zw (Zwy rfl rfl (T.e 11 rfl) h1) (rn_sub rfl (T.e 2 rfl) (T.e 0 rfl) (by omega))) rfl ?_; clear T ac; intro ac T
   refine l_w (Zwy rfl rfl (T.e 12 rfl) h1) ?_; intro K hK
   refine Zoc (first := []) (cap := []) T rfl rfl rfl rfl evf (.cons (T.e 10 rfl) (.cons (T.e 8 rfl) (.cons (T.e 0 rfl) .nil))) Tryd.func75 rfl rfl ?_
   refine Calls.mono (fits8_any a.y b.y ((b.y + b.wi) - a.wi) _) ?_
   clear T; rintro e wc ⟨rfl, hb⟩ ac T
   replace M := M.call hb; clear hb
   refine Zso hK _ _ ?_; clear hK K
   refine Zg2 T (Zq (Zr1 rfl (T.e 13 rfl) h1 (T.e 0 rfl))) rfl (Za 0 rfl rfl) rfl ?_; clear T ac; intro ac T
   refine wpList_nil ?_
   replace T := T.pick [0] rfl
   replace M := M.mask [false, false] rfl
   exact ⟨(T.pick (E' := [(4, .bool (withinB a.y b.y ((b.y + b.wi) - a.wi)))]) [0] rfl).as (by (try rw [show (withinB a.x b.x ((b.x + b.lo) - a.lo)) = true from h1]); (try rfl)), M.mask [] rfl⟩
  refine Zg8 T (Zp (Zwn rfl rfl (T.e 0 rfl) h1)) rfl (fun _ T => Zp (Zwn rfl rfl (T.e 1 rfl) h1)) rfl (fun _ T => Zp (Zwn rfl rfl (T.e 2 rfl) h1)) rfl (fun _ T => Zp (Zwn rfl rfl (T.e 3 rfl) h1)) rfl (fun _ T => Zp (Zwn rfl rfl (T.e 4 rfl) h1)) rfl (fun _ T => Zp (Zwn rfl rfl (T.e 5 rfl) h1)) rfl (fun _ T => Zp (Zwn rfl rfl (T.e 6 rfl) h1)) rfl (fun _ T => Zp (Zwn rfl rfl (T.e 7 rfl) h1)) rfl ?_; clear T ac; intro ac T
  refine Zg7 T (Zp (Zwn rfl rfl (T.e 8 rfl) h1)) rfl (fun _ T => Zp (Zwn rfl rfl (T.e 9 rfl) h1)) rfl (fun _ T => Zp (Zwn rfl rfl (T.e 10 rfl) h1)) rfl (fun _ T => Zp (Zwn rfl rfl (T.e 11 rfl) h1)) rfl (fun _ T => Zp (Zwn rfl rfl (T.e 12 rfl) h1)) rfl (fun _ T => Zq (Zr0 rfl (T.e 13 rfl) h1 evc)) rfl (Za 0 rfl rfl) rfl ?_; clear T ac; intro ac T
  refine wpList_nil ?_
  replace T := T.pick [0] rfl
  replace M := M.mask [false, false] rfl
  exact ⟨(T.pick (E' := [(4, .bool false)]) [0] rfl).as (by (try rw [show (withinB a.x b.x ((b.x + b.lo) - a.lo)) = false from h1]); (try rfl)), M.mask [] rfl⟩
 clear T M
 rintro ac wc ⟨T, M⟩
 refine wp_ret ?_
 refine rt_1 T rfl (T.e 0 rfl) ?_
 exact ⟨ret_bool (by unfold insB; first | rfl | simp), M.below⟩
theorem apart8_any (a b : Bo)  (w : World) (ha : a.few) (hb : b.few)  :
   Calls Tryd.prog 78 #[.agg #[.int .i64 a.x, .int .i64 a.y, .int .i64 a.lo, .int .i64 a.wi], .agg #[.int .i64 b.x, .int .i64 b.y, .int .i64 b.lo, .int .i64 b.wi]] w fun e w' => e = .returned (.bool (apaB a b)) ∧ Below w.heap.size w w' := by
 obtain ⟨f1, f2, f3, f4⟩ := ha
 obtain ⟨f5, f6, f7, f8⟩ := hb
 refine Zpx noEx Tryd.func78 rfl 43 rfl [.agg #[.int .i64 a.x, .int .i64 a.y, .int .i64 a.lo, .int .i64 a.wi], .agg #[.int .i64 b.x, .int .i64 b.y, .int .i64 b.lo, .int .i64 b.wi]] rfl rfl (Mem.init w _) ?_
 intro ac wc T M
 refine Zsr ?_
 refine Zl2 ?_
 refine Zob M T rfl rfl rfl rfl (T.e 0 rfl) rfl ?_; clear M T; intro g1 wc ac M T
 refine Zl2 ?_
 refine Zob M T rfl rfl rfl rfl (T.e 2 rfl) rfl ?_; clear M T; intro g2 wc ac M T
 refine lq T (Zra rfl evc) ?_; clear T ac; intro ac T
 refine wpList_nil ?_
 replace T := T.pick [1, 2] rfl
 refine nm_then ?_
 refine cut_seq (fun ac wc => Tm ac 43 [(4, .bool ((decide ((a.x + a.lo) ≤ b.x)) || ((decide ((b.x + b.lo) ≤ a.x)) || ((decide ((a.y + a.wi) ≤ b.y)) || (decide ((b.y + b.wi) ≤ a.y))))))] ∧ Mem w noEx wc []) ?_ ?_
 ·refine wp_region_lit ?_
  refine Zg8 (v1 := (.pointer (some ⟨g1, 0, none⟩))) (v3 := (.pointer (some ⟨g1, 2, none⟩))) (v6 := (.pointer (some ⟨g2, 0, none⟩))) T (Zq (Zrf (off := 0) rfl (T.e 1 rfl) (fun _ _ _ => by kernel_rfl))) rfl (Zo M 1 0 rfl rfl rfl rfl) rfl (Zf 2 3 rfl rfl) rfl (Zo M 1 0 rfl rfl rfl rfl) rfl (fun _ T => Zq (rn_add rfl (T.e 2 rfl) (T.e 0 rfl) (by omega))) rfl (Zf 0 5 rfl rfl) rfl (Zo M 0 0 rfl rfl rfl rfl) rfl (fun _ T => Zq (rn_leq rfl (T.e 2 rfl) (T.e 0 rfl))) rfl ?_; clear T ac; intro ac T
  refine lq T (Zrm rfl (T.e 0 rfl)) ?_; clear T ac; intro ac T
  rcases Bool.eq_false_or_eq_true (decide ((a.x + a.lo) ≤ b.x)) with h1 | h1
  ·replace h1 := of_decide_eq_true h1
   refine Zg8 T (Zp (Zwn rfl rfl (T.e 0 rfl) (Zdt h1))) rfl (fun _ T => Zp (Zwn rfl rfl (T.e 1 rfl) (Zdt h1))) rfl (fun _ T => Zp (Zwn rfl rfl (T.e 2 rfl) (Zdt h1))) rfl (fun _ T => Zp (Zwn rfl rfl (T.e 3 rfl) (Zdt h1))) rfl (fun _ T => Zp (Zwn rfl rfl (T.e 4 rfl) (Zdt h1))) rfl (fun _ T => Zp (Zwn rfl rfl (T.e 5 rfl) (Zdt h1))) rfl (fun _ T => Zp (Zwn rfl rfl (T.e 6 rfl) (Zdt h1))) rfl (fun _ T => Zp (Zwn rfl rfl (T.e 7 rfl) (Zdt h1))) rfl ?_; clear T ac; intro ac T
   refine Zg8 T (Zq (Zr1 rfl (T.e 8 rfl) (Zdt h1) evc)) rfl (Zm 0 rfl rfl) rfl (fun _ T => Zp (Zwn rfl rfl (T.e 0 rfl) rfl)) rfl (fun _ T => Zp (Zwn rfl rfl (T.e 1 rfl) rfl)) rfl (fun _ T => Zp (Zwn rfl rfl (T.e 2 rfl) rfl)) rfl (fun _ T => Zp (Zwn rfl rfl (T.e 3 rfl) rfl)) rfl (fun _ T => Zp (Zwn rfl rfl (T.e 4 rfl) rfl)) rfl (fun _ T => Zp (Zwn rfl rfl (T.e 5 rfl) rfl)) rfl ?_; clear T ac; intro ac T
   refine Zg8 T (Zp (Zwn rfl rfl (T.e 6 rfl) rfl)) rfl (fun _ T => Zp (Zwn rfl rfl (T.e 7 rfl) rfl)) rfl (fun _ T => Zq (Zr1 rfl (T.e 8 rfl) rfl evc)) rfl (Zm 0 rfl rfl) rfl (fun _ T => Zp (Zwn rfl rfl (T.e 0 rfl) rfl)) rfl (fun _ T => Zp (Zwn rfl rfl (T.e 1 rfl) rfl)) rfl (fun _ T => Zp (Zwn rfl rfl (T.e 2 rfl) rfl)) rfl (fun _ T => Zp (Zwn rfl rfl (T.e 3 rfl) rfl)) rfl ?_; clear T ac; intro ac T
   refine Zg6 T (Zp (Zwn rfl rfl (T.e 4 rfl) rfl)) rfl (fun _ T => Zp (Zwn rfl rfl (T.e 5 rfl) rfl)) rfl (fun _ T => Zp (Zwn rfl rfl (T.e 6 rfl) rfl)) rfl (fun _ T => Zp (Zwn rfl rfl (T.e 7 rfl) rfl)) rfl (fun _ T => Zq (Zr1 rfl (T.e 8 rfl) rfl evc)) rfl (Za 0 rfl rfl) rfl ?_; clear T ac; intro ac T
   refine wpList_nil ?_
   replace T := T.pick [0] rfl
   replace M := M.mask [false, false] rfl
   exact ⟨(T.pick (E' := [(4, .bool true)]) [0] rfl).as (by (try rw [show (decide ((a.x + a.lo) ≤ b.x)) = true from (Zdt h1)]); (try rfl)), M.mask [] rfl⟩
  replace h1 := of_decide_eq_false h1
  refine Zg8 (v1 := (.pointer (some ⟨g2, 0, none⟩))) (v3 := (.pointer (some ⟨g2, 2, none⟩))) (v6 := (.pointer (some ⟨g1, 0, none⟩))) T (Zw (Zwy rfl rfl (T.e 0 rfl) (Zdf h1)) (Zrf (off := 0) rfl (T.e 9 rfl) (fun _ _ _ => by kernel_rfl))) rfl (fun _ T => Zw (Zwy rfl rfl (T.e 1 rfl) (Zdf h1)) (Zro (Mem.nth M 0 rfl) rfl (T.e 0 rfl) rfl)) rfl (fun _ T => Zw (Zwy rfl rfl (T.e 2 rfl) (Zdf h1)) (Zrf (off := 2) rfl (T.e 11 rfl) (fun _ _ _ => by kernel_rfl))) rfl (fun _ T => Zw (Zwy rfl rfl (T.e 3 rfl) (Zdf h1)) (Zro (Mem.nth M 0 rfl) rfl (T.e 0 rfl) rfl)) rfl (fun _ T => Zw (Zwy rfl rfl (T.e 4 rfl) (Zdf h1)) (rn_add rfl (T.e 2 rfl) (T.e 0 rfl) (by omega))) rfl (fun _ T => Zw (Zwy rfl rfl (T.e 5 rfl) (Zdf h1)) (Zrf (off := 0) rfl (T.e 15 rfl) (fun _ _ _ => by kernel_rfl))) rfl (fun _ T => Zw (Zwy rfl rfl (T.e 6 rfl) (Zdf h1)) (Zro (Mem.nth M 1 rfl) rfl (T.e 0 rfl) rfl)) rfl (fun _ T => Zw (Zwy rfl rfl (T.e 7 rfl) (Zdf h1)) (rn_leq rfl (T.e 2 rfl) (T.e 0 rfl))) rfl ?_; clear T ac; intro ac T
  refine Zg2 T (Zq (Zr0 rfl (T.e 8 rfl) (Zdf h1) (T.e 0 rfl))) rfl (Zm 0 rfl rfl) rfl ?_; clear T ac; intro ac T
  rcases Bool.eq_false_or_eq_true (decide ((b.x + b.lo) ≤ a.x)) with h2 | h2
  ·replace h2 := of_decide_eq_true h2
   refine Zg8 T (Zp (Zwn rfl rfl (T.e 0 rfl) (Zdt h2))) rfl (fun _ T => Zp (Zwn rfl rfl (T.e 1 rfl) (Zdt h2))) rfl (fun _ T => Zp (Zwn rfl rfl (T.e 2 rfl) (Zdt h2))) rfl (fun _ T => Zp (Zwn rfl rfl (T.e 3 rfl) (Zdt h2))) rfl (fun _ T => Zp (Zwn rfl rfl (T.e 4 rfl) (Zdt h2))) rfl (fun _ T => Zp (Zwn rfl rfl (T.e 5 rfl) (Zdt h2))) rfl (fun _ T => Zp (Zwn rfl rfl (T.e 6 rfl) (Zdt h2))) rfl (fun _ T => Zp (Zwn rfl rfl (T.e 7 rfl) (Zdt h2))) rfl ?_; clear T ac; intro ac T
   refine Zg8 T (Zq (Zr1 rfl (T.e 8 rfl) (Zdt h2) evc)) rfl (Zm 0 rfl rfl) rfl (fun _ T => Zp (Zwn rfl rfl (T.e 0 rfl) rfl)) rfl (fun _ T => Zp (Zwn rfl rfl (T.e 1 rfl) rfl)) rfl (fun _ T => Zp (Zwn rfl rfl (T.e 2 rfl) rfl)) rfl (fun _ T => Zp (Zwn rfl rfl (T.e 3 rfl) rfl)) rfl (fun _ T => Zp (Zwn rfl rfl (T.e 4 rfl) rfl)) rfl (fun _ T => Zp (Zwn rfl rfl (T.e 5 rfl) rfl)) rfl ?_; clear T ac; intro ac T
   refine Zg4 T (Zp (Zwn rfl rfl (T.e 6 rfl) rfl)) rfl (fun _ T => Zp (Zwn rfl rfl (T.e 7 rfl) rfl)) rfl (fun _ T => Zq (Zr1 rfl (T.e 8 rfl) rfl evc)) rfl (Za 0 rfl rfl) rfl ?_; clear T ac; intro ac T
   refine wpList_nil ?_
   replace T := T.pick [0] rfl
   replace M := M.mask [false, false] rfl
   exact ⟨(T.pick (E' := [(4, .bool true)]) [0] rfl).as (by (try rw [show (decide ((a.x + a.lo) ≤ b.x)) = false from (Zdf h1)]); (try rw [show (decide ((b.x + b.lo) ≤ a.x)) = true from (Zdt h2)]); (try rfl)), M.mask [] rfl⟩
  replace h2 := of_decide_eq_false h2
  refine Zg8 (v1 := (.pointer (some ⟨g1, 1, none⟩))) (v3 := (.pointer (some ⟨g1, 3, none⟩))) (v6 := (.pointer (some ⟨g2, 1, none⟩))) T (Zw (Zwy rfl rfl (T.e 0 rfl) (Zdf h2)) (Zrf (off := 1) rfl (T.e 20 rfl) (fun _ _ _ => by kernel_rfl))) rfl (fun _ T => Zw (Zwy rfl rfl (T.e 1 rfl) (Zdf h2)) (Zro (Mem.nth M 1 rfl) rfl (T.e 0 rfl) rfl)) rfl (fun _ T => Zw (Zwy rfl rfl (T.e 2 rfl) (Zdf h2)) (Zrf (off := 3) rfl (T.e 22 rfl) (fun _ _ _ => by kernel_rfl))) rfl (fun _ T => Zw (Zwy rfl rfl (T.e 3 rfl) (Zdf h2)) (Zro (Mem.nth M 1 rfl) rfl (T.e 0 rfl) rfl)) rfl (fun _ T => Zw (Zwy rfl rfl (T.e 4 rfl) (Zdf h2)) (rn_add rfl (T.e 2 rfl) (T.e 0 rfl) (by omega))) rfl (fun _ T => Zw (Zwy rfl rfl (T.e 5 rfl) (Zdf h2)) (Zrf (off := 1) rfl (T.e 24 rfl) (fun _ _ _ => by kernel_rfl))) rfl (fun _ T => Zw (Zwy rfl rfl (T.e 6 rfl) (Zdf h2)) (Zro (Mem.nth M 0 rfl) rfl (T.e 0 rfl) rfl)) rfl (fun _ T => Zw (Zwy rfl rfl (T.e 7 rfl) (Zdf h2)) (rn_leq rfl (T.e 2 rfl) (T.e 0 rfl))) rfl ?_; clear T ac; intro ac T
  refine Zg2 T (Zq (Zr0 rfl (T.e 8 rfl) (Zdf h2) (T.e 0 rfl))) rfl (Zm 0 rfl rfl) rfl ?_; clear T ac; intro ac T
  rcases Bool.eq_false_or_eq_true (decide ((a.y + a.wi) ≤ b.y)) with h3 | h3
  ·replace h3 := of_decide_eq_true h3
   refine Zg8 T (Zp (Zwn rfl rfl (T.e 0 rfl) (Zdt h3))) rfl (fun _ T => Zp (Zwn rfl rfl (T.e 1 rfl) (Zdt h3))) rfl (fun _ T => Zp (Zwn rfl rfl (T.e 2 rfl) (Zdt h3))) rfl (fun _ T => Zp (Zwn rfl rfl (T.e 3 rfl) (Zdt h3))) rfl (fun _ T => Zp (Zwn rfl rfl (T.e 4 rfl) (Zdt h3))) rfl (fun _ T => Zp (Zwn rfl rfl (T.e 5 rfl) (Zdt h3))) rfl (fun _ T => Zp (Zwn rfl rfl (T.e 6 rfl) (Zdt h3))) rfl (fun _ T => Zp (Zwn rfl rfl (T.e 7 rfl) (Zdt h3))) rfl ?_; clear T ac; intro ac T
   refine Zg2 T (Zq (Zr1 rfl (T.e 8 rfl) (Zdt h3) evc)) rfl (Za 0 rfl rfl) rfl ?_; clear T ac; intro ac T
   refine wpList_nil ?_
   replace T := T.pick [0] rfl
   replace M := M.mask [false, false] rfl
   exact ⟨(T.pick (E' := [(4, .bool true)]) [0] rfl).as (by (try rw [show (decide ((a.x + a.lo) ≤ b.x)) = false from (Zdf h1)]); (try rw [show (decide ((b.x + b.lo) ≤ a.x)) = false from (Zdf h2)]); (try rw [show (decide ((a.y + a.wi) ≤ b.y)) = true from (Zdt h3)]); (try rfl)), M.mask [] rfl⟩
  replace h3 := of_decide_eq_false h3
  refine Zg8 (v1 := (.pointer (some ⟨g2, 1, none⟩))) (v3 := (.pointer (some ⟨g2, 3, none⟩))) (v6 := (.pointer (some ⟨g1, 1, none⟩))) T (Zw (Zwy rfl rfl (T.e 0 rfl) (Zdf h3)) (Zrf (off := 1) rfl (T.e 29 rfl) (fun _ _ _ => by kernel_rfl))) rfl (fun _ T => Zw (Zwy rfl rfl (T.e 1 rfl) (Zdf h3)) (Zro (Mem.nth M 0 rfl) rfl (T.e 0 rfl) rfl)) rfl (fun _ T => Zw (Zwy rfl rfl (T.e 2 rfl) (Zdf h3)) (Zrf (off := 3) rfl (T.e 31 rfl) (fun _ _ _ => by kernel_rfl))) rfl (fun _ T => Zw (Zwy rfl rfl (T.e 3 rfl) (Zdf h3)) (Zro (Mem.nth M 0 rfl) rfl (T.e 0 rfl) rfl)) rfl (fun _ T => Zw (Zwy rfl rfl (T.e 4 rfl) (Zdf h3)) (rn_add rfl (T.e 2 rfl) (T.e 0 rfl) (by omega))) rfl (fun _ T => Zw (Zwy rfl rfl (T.e 5 rfl) (Zdf h3)) (Zrf (off := 1) rfl (T.e 35 rfl) (fun _ _ _ => by kernel_rfl))) rfl (fun _ T => Zw (Zwy rfl rfl (T.e 6 rfl) (Zdf h3)) (Zro (Mem.nth M 1 rfl) rfl (T.e 0 rfl) rfl)) rfl (fun _ T => Zw (Zwy rfl rfl (T.e 7 rfl) (Zdf h3)) (rn_leq rfl (T.e 2 rfl) (T.e 0 rfl))) rfl ?_; clear T ac; intro ac T
  refine Zg2 T (Zq (Zr0 rfl (T.e 8 rfl) (Zdf h3) (T.e 0 rfl))) rfl (Za 0 rfl rfl) rfl ?_; clear T ac; intro ac T
  refine wpList_nil ?_
  replace T := T.pick [0] rfl
  replace M := M.mask [false, false] rfl
  exact ⟨(T.pick (E' := [(4, .bool (decide ((b.y + b.wi) ≤ a.y)))]) [0] rfl).as (by (try rw [show (decide ((a.x + a.lo) ≤ b.x)) = false from (Zdf h1)]); (try rw [show (decide ((b.x + b.lo) ≤ a.x)) = false from (Zdf h2)]); (try rw [show (decide ((a.y + a.wi) ≤ b.y)) = false from (Zdf h3)]); (try rfl)), M.mask [] rfl⟩
 clear T M
 rintro ac wc ⟨T, M⟩
 refine wp_ret ?_
 refine rt_1 T rfl (T.e 0 rfl) ?_
 exact ⟨ret_bool (by unfold apaB; first | rfl | simp [Bool.or_assoc]), M.below⟩
def lonS (a c : Int) (p : Pt) (b : Bo) : Spt := if (fitsP a c p b.lo b.wi).2 = true then ⟨b.x, b.y, (fitsP a c p b.lo b.wi).1⟩ else ⟨0, 0, false⟩
theorem lone8_any (s : Sk) (A : Option Addr) (d : Nat) (p : Pt) (b : Bo) (su : Bool)  (w : World) (hsg : s.good) (hpg : p.good)  :
   Calls Tryd.prog 97 #[.agg #[.int .i64 s.lo, .int .i64 s.wi, .int .i64 s.a0, .int .i64 s.a1, .int .i64 s.c0, .int .i64 s.c1, .slice A s.ps.length d], .agg #[.int .i64 p.l, .int .i64 p.w, .bool p.gr, .int .i64 p.pa], .agg #[.int .i64 b.x, .int .i64 b.y, .int .i64 b.lo, .int .i64 b.wi], .bool su] w fun e w' => e = .returned (.tuple #[.agg #[.int .i64 ((lonS (cutA s su) (cutC s su) p b).x), .int .i64 ((lonS (cutA s su) (cutC s su) p b).y), .bool ((lonS (cutA s su) (cutC s su) p b).t)], .bool ((fitsP (cutA s su) (cutC s su) p b.lo b.wi).2)]) ∧ Below w.heap.size w w' := by
 refine Zpx noEx Tryd.func97 rfl 53 rfl [.agg #[.int .i64 s.lo, .int .i64 s.wi, .int .i64 s.a0, .int .i64 s.a1, .int .i64 s.c0, .int .i64 s.c1, .slice A s.ps.length d], .agg #[.int .i64 p.l, .int .i64 p.w, .bool p.gr, .int .i64 p.pa], .agg #[.int .i64 b.x, .int .i64 b.y, .int .i64 b.lo, .int .i64 b.wi], .bool su] rfl rfl (Mem.init w _) ?_
 intro ac wc T M
 refine Zsr ?_
 refine Zl2 ?_
 refine Zob M T rfl rfl rfl rfl (T.e 0 rfl) rfl ?_; clear M T; intro g1 wc ac M T
 refine Zl2 ?_
 refine Zob M T rfl rfl rfl rfl (T.e 2 rfl) rfl ?_; clear M T; intro g2 wc ac M T
 refine Zl2 ?_
 refine Zob M T rfl rfl rfl rfl (T.e 4 rfl) rfl ?_; clear M T; intro g3 wc ac M T
 refine Zl2 ?_
 refine Zoa M T rfl rfl rfl rfl ?_; clear M T; intro g4 wc ac M T
 refine lq T (Zra rfl evc) ?_; clear T ac; intro ac T
 refine wpList_nil ?_
 replace T := T.pick [1, 2, 3, 4, 8] rfl
 refine Zns ?_
 refine Zsr ?_
 refine lq T (Zra rfl evc) ?_; clear T ac; intro ac T
 refine Zln ?_
 refine wp_block ?_
 refine wp_loop_rounds 4 ?_
 refine rounds_S ?_
 refine wp_seq ?_
 refine Zsr ?_
 refine Zg2 (v2 := (.bool true)) T (Zq (Zrm rfl (T.e 0 rfl))) rfl (fun _ T => Zq (Zrq (rn_lss rfl (T.e 0 rfl) evc) (by simp))) rfl ?_; clear T ac; intro ac T
 refine wpList_nil ?_
 replace T := T.pick [0, 2, 3, 4, 5, 6, 7] rfl
 refine nm_then ?_
 refine wp_cond_true (T.e 0 rfl) ?_
 refine Zsk ?_
 refine wp_seq ?_
 refine wp_block ?_
 refine Zsr ?_
 refine Zg3 (v2 := (.bool false)) T (Zq (Zrm rfl (T.e 1 rfl))) rfl (fun _ T => Zq (Zrq (rn_eql rfl (T.e 0 rfl) evc) (by simp))) rfl (Za 0 rfl rfl) rfl ?_; clear T ac; intro ac T
 refine wpList_nil ?_
 replace T := T.pick [0, 4, 5, 6, 7, 8, 9] rfl
 refine nm_then ?_
 refine Zsr ?_
 refine Zg4 T (Zq (Zrr (Mem.nth M 3 rfl) rfl (T.e 5 rfl) rfl)) rfl (Zr M 2 5 rfl rfl rfl rfl) rfl (Zm 2 rfl rfl) rfl (Zm 9 rfl rfl) rfl ?_; clear T ac; intro ac T
 refine Zl2 ?_
 refine Zoc (first := []) (cap := []) T rfl rfl rfl rfl evf (.cons (T.e 3 rfl) (.cons (T.e 2 rfl) (.cons (T.e 1 rfl) (.cons (T.e 0 rfl) .nil)))) Tryd.func94 rfl rfl ?_
 refine Calls.mono (size8_any s A d p false su _ hsg hpg) ?_
 clear T; rintro e wc ⟨rfl, hb⟩ ac T
 replace M := M.call hb; clear hb
 refine Zg5 T (Zq (Zrm rfl (T.e 0 rfl))) rfl (Ze 0 rfl rfl rfl) rfl (Ze 1 rfl rfl rfl) rfl (Za 1 rfl rfl) rfl (Za 1 rfl rfl) rfl ?_; clear T ac; intro ac T
 refine wpList_nil ?_
 replace T := T.pick [0, 1, 10, 11, 12, 13, 14, 15, 16] rfl
 refine nm_then ?_
 refine cut_seq (fun ac wc => Tm ac 53 [(3, .bool su), (4, .pointer (some ⟨g1, 0, none⟩)), (5, .pointer (some ⟨g2, 0, none⟩)), (6, .pointer (some ⟨g3, 0, none⟩)), (8, .pointer (some ⟨g4, 0, none⟩)), (10, .int .i64 0), (11, .bool false), (45, .bool ((decide ((sizeL (cutA s su) (cutC s su) p false) ≤ b.lo)) && (decide ((sizeW (cutA s su) (cutC s su) p false) ≤ b.wi))))] ∧ Mem w noEx wc [(g4, .cells [.int .i64 0, .int .i64 0, .bool false]), (g3, .cells [.int .i64 b.x, .int .i64 b.y, .int .i64 b.lo, .int .i64 b.wi]), (g2, .cells [.int .i64 p.l, .int .i64 p.w, .bool p.gr, .int .i64 p.pa]), (g1, .cells [.int .i64 s.lo, .int .i64 s.wi, .int .i64 s.a0, .int .i64 s.a1, .int .i64 s.c0, .int .i64 s.c1, .slice A s.ps.length d])]) ?_ ?_
 ·refine wp_region_lit ?_
  refine Zg5 (v2 := (.pointer (some ⟨g3, 2, none⟩))) T (Zq (Zrm rfl (T.e 1 rfl))) rfl (Zf 2 6 rfl rfl) rfl (Zo M 1 0 rfl rfl rfl rfl) rfl (fun _ T => Zq (rn_leq rfl (T.e 2 rfl) (T.e 0 rfl))) rfl (Zm 0 rfl rfl) rfl ?_; clear T ac; intro ac T
  rcases Bool.eq_false_or_eq_true (decide ((sizeL (cutA s su) (cutC s su) p false) ≤ b.lo)) with h1 | h1
  ·replace h1 := of_decide_eq_true h1
   refine Zg6 (v2 := (.pointer (some ⟨g3, 3, none⟩))) T (Zw (Zwy rfl rfl (T.e 0 rfl) (Zdt h1)) (Zrm rfl (T.e 5 rfl))) rfl (fun _ T => Zw (Zwy rfl rfl (T.e 1 rfl) (Zdt h1)) (Zrf (off := 3) rfl (T.e 11 rfl) (fun _ _ _ => by kernel_rfl))) rfl (fun _ T => Zw (Zwy rfl rfl (T.e 2 rfl) (Zdt h1)) (Zro (Mem.nth M 1 rfl) rfl (T.e 0 rfl) rfl)) rfl (fun _ T => Zw (Zwy rfl rfl (T.e 3 rfl) (Zdt h1)) (rn_leq rfl (T.e 2 rfl) (T.e 0 rfl))) rfl (fun _ T => Zq (Zr1 rfl (T.e 4 rfl) (Zdt h1) (T.e 0 rfl))) rfl (Zm 0 rfl rfl) rfl ?_; clear T ac; intro ac T
   rcases Bool.eq_false_or_eq_true (decide ((sizeW (cutA s su) (cutC s su) p false) ≤ b.wi)) with h2 | h2
   ·replace h2 := of_decide_eq_true h2
    refine Zg7 (v6 := (.bool true)) T (Zw (Zwy rfl rfl (T.e 0 rfl) (Zdt h2)) (Zrm rfl (T.e 13 rfl))) rfl (fun _ T => Zw (Zwy rfl rfl (T.e 1 rfl) (Zdt h2)) (Zrm rfl (T.e 0 rfl))) rfl (fun _ T => Zp (Zwn rfl rfl (T.e 0 rfl) rfl)) rfl (fun _ T => Zp (Zwn rfl rfl (T.e 1 rfl) rfl)) rfl (fun _ T => Zw (Zwy rfl rfl (T.e 4 rfl) (Zdt h2)) (Zr0 rfl (T.e 2 rfl) rfl evc)) rfl (fun _ T => Zw (Zwy rfl rfl (T.e 5 rfl) (Zdt h2)) (Zrq (rn_not rfl (T.e 0 rfl)) (by simp))) rfl (fun _ T => Zq (Zr1 rfl (T.e 6 rfl) (Zdt h2) (T.e 0 rfl))) rfl ?_; clear T ac; intro ac T
    refine wpList_nil ?_
    replace T := T.pick [0, 1, 2, 3, 4, 5, 6, 9, 10, 11, 12, 20, 21, 22, 23, 24, 25, 26] rfl
    exact ⟨(T.pick (E' := [(3, .bool su), (4, .pointer (some ⟨g1, 0, none⟩)), (5, .pointer (some ⟨g2, 0, none⟩)), (6, .pointer (some ⟨g3, 0, none⟩)), (8, .pointer (some ⟨g4, 0, none⟩)), (10, .int .i64 0), (11, .bool false), (45, .bool true)]) [17, 16, 15, 14, 13, 12, 11, 0] rfl).as (by (try rw [show (decide ((sizeL (cutA s su) (cutC s su) p false) ≤ b.lo)) = true from (Zdt h1)]); (try rw [show (decide ((sizeW (cutA s su) (cutC s su) p false) ≤ b.wi)) = true from (Zdt h2)]); (try rfl)), M.mask [true, true, true, true] rfl⟩
   replace h2 := of_decide_eq_false h2
   refine Zg7 T (Zp (Zwn rfl rfl (T.e 0 rfl) (Zdf h2))) rfl (fun _ T => Zp (Zwn rfl rfl (T.e 1 rfl) (Zdf h2))) rfl (fun _ T => Zp (Zwu rfl rfl (T.e 0 rfl))) rfl (fun _ T => Zp (Zwu rfl rfl (T.e 1 rfl))) rfl (fun _ T => Zp (Zwn rfl rfl (T.e 4 rfl) (Zdf h2))) rfl (fun _ T => Zp (Zwn rfl rfl (T.e 5 rfl) (Zdf h2))) rfl (fun _ T => Zq (Zr0 rfl (T.e 6 rfl) (Zdf h2) evc)) rfl ?_; clear T ac; intro ac T
   refine wpList_nil ?_
   replace T := T.pick [0, 1, 2, 3, 4, 5, 6, 9, 10, 11, 12, 20, 21, 22, 23, 24, 25, 26] rfl
   exact ⟨(T.pick (E' := [(3, .bool su), (4, .pointer (some ⟨g1, 0, none⟩)), (5, .pointer (some ⟨g2, 0, none⟩)), (6, .pointer (some ⟨g3, 0, none⟩)), (8, .pointer (some ⟨g4, 0, none⟩)), (10, .int .i64 0), (11, .bool false), (45, .bool false)]) [17, 16, 15, 14, 13, 12, 11, 0] rfl).as (by (try rw [show (decide ((sizeL (cutA s su) (cutC s su) p false) ≤ b.lo)) = true from (Zdt h1)]); (try rw [show (decide ((sizeW (cutA s su) (cutC s su) p false) ≤ b.wi)) = false from (Zdf h2)]); (try rfl)), M.mask [true, true, true, true] rfl⟩
  replace h1 := of_decide_eq_false h1
  refine Zg8 T (Zp (Zwn rfl rfl (T.e 0 rfl) (Zdf h1))) rfl (fun _ T => Zp (Zwn rfl rfl (T.e 1 rfl) (Zdf h1))) rfl (fun _ T => Zp (Zwn rfl rfl (T.e 2 rfl) (Zdf h1))) rfl (fun _ T => Zp (Zwn rfl rfl (T.e 3 rfl) (Zdf h1))) rfl (fun _ T => Zq (Zr0 rfl (T.e 4 rfl) (Zdf h1) evc)) rfl (Zm 0 rfl rfl) rfl (fun _ T => Zp (Zwn rfl rfl (T.e 0 rfl) rfl)) rfl (fun _ T => Zp (Zwn rfl rfl (T.e 1 rfl) rfl)) rfl ?_; clear T ac; intro ac T
  refine Zg5 T (Zp (Zwu rfl rfl (T.e 0 rfl))) rfl (fun _ T => Zp (Zwu rfl rfl (T.e 1 rfl))) rfl (fun _ T => Zp (Zwn rfl rfl (T.e 4 rfl) rfl)) rfl (fun _ T => Zp (Zwn rfl rfl (T.e 5 rfl) rfl)) rfl (fun _ T => Zq (Zr0 rfl (T.e 6 rfl) rfl evc)) rfl ?_; clear T ac; intro ac T
  refine wpList_nil ?_
  replace T := T.pick [0, 1, 2, 3, 4, 5, 6, 9, 10, 11, 12, 20, 21, 22, 23, 24, 25, 26] rfl
  exact ⟨(T.pick (E' := [(3, .bool su), (4, .pointer (some ⟨g1, 0, none⟩)), (5, .pointer (some ⟨g2, 0, none⟩)), (6, .pointer (some ⟨g3, 0, none⟩)), (8, .pointer (some ⟨g4, 0, none⟩)), (10, .int .i64 0), (11, .bool false), (45, .bool false)]) [17, 16, 15, 14, 13, 12, 11, 0] rfl).as (by (try rw [show (decide ((sizeL (cutA s su) (cutC s su) p false) ≤ b.lo)) = false from (Zdf h1)]); (try rfl)), M.mask [true, true, true, true] rfl⟩
 clear T M
 rintro ac wc ⟨T, M⟩
 refine wp_cond_split (T.e 7 rfl) ?_ ?_
 ·intro h3
  (have h3' := h3; try simp only [Zb1, Zb2, Zb3, Zb4, Zb5, Zb6, Zb7] at h3')
  refine Zsr ?_
  refine Zg6 (v1 := (.pointer (some ⟨g3, 0, none⟩))) (v3 := (.pointer (some ⟨g3, 1, none⟩))) (v6 := (.agg #[.int .i64 b.x, .int .i64 b.y, .bool false])) T (Zq (Zrf (off := 0) rfl (T.e 3 rfl) (fun _ _ _ => by kernel_rfl))) rfl (Zo M 1 0 rfl rfl rfl rfl) rfl (Zf 1 5 rfl rfl) rfl (Zo M 1 0 rfl rfl rfl rfl) rfl (Zm 10 rfl rfl) rfl (fun _ T => Zq (rn_build rfl (.cons (T.e 3 rfl) (.cons (T.e 1 rfl) (.cons (T.e 0 rfl) .nil))) (fun _ => by kernel_rfl))) rfl ?_; clear T ac; intro ac T
  refine Zl2 ?_
  refine Zos M T rfl rfl (T.e 10 rfl) (T.e 0 rfl) rfl .head rfl (by simp) rfl (by kernel_rfl) ?_; clear M T; intro wc ac M T
  refine lq T (Zra rfl evc) ?_; clear T ac; intro ac T
  refine wpList_nil ?_
  replace T := T.pick [0, 11] rfl
  replace M := M.mask [true, false, false, false] rfl
  refine Znr ?_
  refine Zrb ?_
  refine Zrt ?_
  refine Zrt ?_
  refine Zrb ?_
  refine Zrt ?_
  refine rt_ct M T rfl (T.e 1 rfl) (T.e 0 rfl) (Zne (i := 0) rfl) rfl ?_
  have e0 : fitsP (cutA s su) (cutC s su) p b.lo b.wi = if fitsT (cutA s su) (cutC s su) p b.lo b.wi false = true then (false, true) else if fitsT (cutA s su) (cutC s su) p b.lo b.wi true = true then (true, true) else (false, false) := rfl
  have hF9 : fitsT (cutA s su) (cutC s su) p b.lo b.wi false = true := by unfold fitsT; simp_all
  have e1 : fitsP (cutA s su) (cutC s su) p b.lo b.wi = (false, true) := by rw [e0, hF9]; simp
  unfold lonS
  rw [e1]
  exact ⟨rfl, M.below⟩
 intro h3
 (have h3' := h3; try simp only [Zb1, Zb2, Zb3, Zb4, Zb5, Zb6, Zb7] at h3')
 refine wp_skip ?_
 refine Znb ?_
 refine nm_then ?_
 refine wp_region_lit ?_
 refine Zg2 (v2 := (.int .i64 1)) T (Zq (Zrm rfl (T.e 5 rfl))) rfl (fun _ T => Zq (rn_ofI (rn_add rfl (T.e 0 rfl) evc (by omega)) (by rfl))) rfl ?_; clear T ac; intro ac T
 refine l_q (v := (.int .i64 1)) (T.pick [0, 1, 2, 3, 4, 5, 6, 8, 9] rfl) rfl rfl rfl rfl (Zra rfl (T.e 0 rfl)) ?_; clear T ac; intro ac T
 refine wpList_nil ?_
 replace T := T.pick [0, 3, 4, 5, 6, 7] rfl
 refine nm_then ?_
 refine rounds_S ?_
 refine wp_seq ?_
 refine Zsr ?_
 refine Zg2 (v2 := (.bool true)) T (Zq (Zrm rfl (T.e 0 rfl))) rfl (fun _ T => Zq (Zrq (rn_lss rfl (T.e 0 rfl) evc) (by simp))) rfl ?_; clear T ac; intro ac T
 refine wpList_nil ?_
 replace T := T.pick [0, 2, 3, 4, 5, 6, 7] rfl
 refine nm_then ?_
 refine wp_cond_true (T.e 0 rfl) ?_
 refine Zsk ?_
 refine wp_seq ?_
 refine wp_block ?_
 refine Zsr ?_
 refine Zg3 (v2 := (.bool true)) T (Zq (Zrm rfl (T.e 1 rfl))) rfl (fun _ T => Zq (Zrq (rn_eql rfl (T.e 0 rfl) evc) (by simp))) rfl (Za 0 rfl rfl) rfl ?_; clear T ac; intro ac T
 refine wpList_nil ?_
 replace T := T.pick [0, 4, 5, 6, 7, 8, 9] rfl
 refine nm_then ?_
 refine Zsr ?_
 refine Zg4 T (Zq (Zrr (Mem.nth M 3 rfl) rfl (T.e 3 rfl) rfl)) rfl (Zr M 2 5 rfl rfl rfl rfl) rfl (Zm 2 rfl rfl) rfl (Zm 5 rfl rfl) rfl ?_; clear T ac; intro ac T
 refine Zl2 ?_
 refine Zoc (first := []) (cap := []) T rfl rfl rfl rfl evf (.cons (T.e 3 rfl) (.cons (T.e 2 rfl) (.cons (T.e 1 rfl) (.cons (T.e 0 rfl) .nil)))) Tryd.func94 rfl rfl ?_
 refine Calls.mono (size8_any s A d p true su _ hsg hpg) ?_
 clear T; rintro e wc ⟨rfl, hb⟩ ac T
 replace M := M.call hb; clear hb
 refine Zg5 T (Zq (Zrm rfl (T.e 0 rfl))) rfl (Ze 0 rfl rfl rfl) rfl (Ze 1 rfl rfl rfl) rfl (Za 1 rfl rfl) rfl (Za 1 rfl rfl) rfl ?_; clear T ac; intro ac T
 refine wpList_nil ?_
 replace T := T.pick [0, 1, 10, 11, 12, 13, 14, 15, 16] rfl
 refine nm_then ?_
 refine cut_seq (fun ac wc => Tm ac 53 [(3, .bool su), (4, .pointer (some ⟨g1, 0, none⟩)), (5, .pointer (some ⟨g2, 0, none⟩)), (6, .pointer (some ⟨g3, 0, none⟩)), (8, .pointer (some ⟨g4, 0, none⟩)), (10, .int .i64 1), (11, .bool true), (45, .bool ((decide ((sizeL (cutA s su) (cutC s su) p true) ≤ b.lo)) && ((decide ((sizeW (cutA s su) (cutC s su) p true) ≤ b.wi)) && (!p.gr))))] ∧ Mem w noEx wc [(g4, .cells [.int .i64 0, .int .i64 0, .bool false]), (g3, .cells [.int .i64 b.x, .int .i64 b.y, .int .i64 b.lo, .int .i64 b.wi]), (g2, .cells [.int .i64 p.l, .int .i64 p.w, .bool p.gr, .int .i64 p.pa]), (g1, .cells [.int .i64 s.lo, .int .i64 s.wi, .int .i64 s.a0, .int .i64 s.a1, .int .i64 s.c0, .int .i64 s.c1, .slice A s.ps.length d])]) ?_ ?_
 ·refine wp_region_lit ?_
  refine Zg5 (v2 := (.pointer (some ⟨g3, 2, none⟩))) T (Zq (Zrm rfl (T.e 1 rfl))) rfl (Zf 2 8 rfl rfl) rfl (Zo M 1 0 rfl rfl rfl rfl) rfl (fun _ T => Zq (rn_leq rfl (T.e 2 rfl) (T.e 0 rfl))) rfl (Zm 0 rfl rfl) rfl ?_; clear T ac; intro ac T
  rcases Bool.eq_false_or_eq_true (decide ((sizeL (cutA s su) (cutC s su) p true) ≤ b.lo)) with h4 | h4
  ·replace h4 := of_decide_eq_true h4
   refine Zg6 (v2 := (.pointer (some ⟨g3, 3, none⟩))) T (Zw (Zwy rfl rfl (T.e 0 rfl) (Zdt h4)) (Zrm rfl (T.e 5 rfl))) rfl (fun _ T => Zw (Zwy rfl rfl (T.e 1 rfl) (Zdt h4)) (Zrf (off := 3) rfl (T.e 13 rfl) (fun _ _ _ => by kernel_rfl))) rfl (fun _ T => Zw (Zwy rfl rfl (T.e 2 rfl) (Zdt h4)) (Zro (Mem.nth M 1 rfl) rfl (T.e 0 rfl) rfl)) rfl (fun _ T => Zw (Zwy rfl rfl (T.e 3 rfl) (Zdt h4)) (rn_leq rfl (T.e 2 rfl) (T.e 0 rfl))) rfl (fun _ T => Zq (Zr1 rfl (T.e 4 rfl) (Zdt h4) (T.e 0 rfl))) rfl (Zm 0 rfl rfl) rfl ?_; clear T ac; intro ac T
   rcases Bool.eq_false_or_eq_true (decide ((sizeW (cutA s su) (cutC s su) p true) ≤ b.wi)) with h5 | h5
   ·replace h5 := of_decide_eq_true h5
    refine Zg7 (v3 := (.pointer (some ⟨g2, 2, none⟩))) T (Zw (Zwy rfl rfl (T.e 0 rfl) (Zdt h5)) (Zrm rfl (T.e 13 rfl))) rfl (fun _ T => Zw (Zwy rfl rfl (T.e 1 rfl) (Zdt h5)) (Zrm rfl (T.e 0 rfl))) rfl (fun _ T => Zw (Zwy rfl rfl (T.e 0 rfl) rfl) (Zrf (off := 2) rfl (T.e 19 rfl) (fun _ _ _ => by kernel_rfl))) rfl (fun _ T => Zw (Zwy rfl rfl (T.e 1 rfl) rfl) (Zro (Mem.nth M 2 rfl) rfl (T.e 0 rfl) rfl)) rfl (fun _ T => Zw (Zwy rfl rfl (T.e 4 rfl) (Zdt h5)) (Zr1 rfl (T.e 2 rfl) rfl (T.e 0 rfl))) rfl (fun _ T => Zw (Zwy rfl rfl (T.e 5 rfl) (Zdt h5)) (rn_not rfl (T.e 0 rfl))) rfl (fun _ T => Zq (Zr1 rfl (T.e 6 rfl) (Zdt h5) (T.e 0 rfl))) rfl ?_; clear T ac; intro ac T
    refine wpList_nil ?_
    replace T := T.pick [0, 1, 2, 3, 4, 5, 6, 9, 10, 11, 12, 20, 21, 22, 23, 24, 25, 26] rfl
    exact ⟨(T.pick (E' := [(3, .bool su), (4, .pointer (some ⟨g1, 0, none⟩)), (5, .pointer (some ⟨g2, 0, none⟩)), (6, .pointer (some ⟨g3, 0, none⟩)), (8, .pointer (some ⟨g4, 0, none⟩)), (10, .int .i64 1), (11, .bool true), (45, .bool (!p.gr))]) [13, 14, 15, 16, 17, 12, 11, 0] rfl).as (by (try rw [show (decide ((sizeL (cutA s su) (cutC s su) p true) ≤ b.lo)) = true from (Zdt h4)]); (try rw [show (decide ((sizeW (cutA s su) (cutC s su) p true) ≤ b.wi)) = true from (Zdt h5)]); (try rfl)), M.mask [true, true, true, true] rfl⟩
   replace h5 := of_decide_eq_false h5
   refine Zg7 T (Zp (Zwn rfl rfl (T.e 0 rfl) (Zdf h5))) rfl (fun _ T => Zp (Zwn rfl rfl (T.e 1 rfl) (Zdf h5))) rfl (fun _ T => Zp (Zwu rfl rfl (T.e 0 rfl))) rfl (fun _ T => Zp (Zwu rfl rfl (T.e 1 rfl))) rfl (fun _ T => Zp (Zwn rfl rfl (T.e 4 rfl) (Zdf h5))) rfl (fun _ T => Zp (Zwn rfl rfl (T.e 5 rfl) (Zdf h5))) rfl (fun _ T => Zq (Zr0 rfl (T.e 6 rfl) (Zdf h5) evc)) rfl ?_; clear T ac; intro ac T
   refine wpList_nil ?_
   replace T := T.pick [0, 1, 2, 3, 4, 5, 6, 9, 10, 11, 12, 20, 21, 22, 23, 24, 25, 26] rfl
   exact ⟨(T.pick (E' := [(3, .bool su), (4, .pointer (some ⟨g1, 0, none⟩)), (5, .pointer (some ⟨g2, 0, none⟩)), (6, .pointer (some ⟨g3, 0, none⟩)), (8, .pointer (some ⟨g4, 0, none⟩)), (10, .int .i64 1), (11, .bool true), (45, .bool false)]) [13, 14, 15, 16, 17, 12, 11, 0] rfl).as (by (try rw [show (decide ((sizeL (cutA s su) (cutC s su) p true) ≤ b.lo)) = true from (Zdt h4)]); (try rw [show (decide ((sizeW (cutA s su) (cutC s su) p true) ≤ b.wi)) = false from (Zdf h5)]); (try rfl)), M.mask [true, true, true, true] rfl⟩
  replace h4 := of_decide_eq_false h4
  refine Zg8 T (Zp (Zwn rfl rfl (T.e 0 rfl) (Zdf h4))) rfl (fun _ T => Zp (Zwn rfl rfl (T.e 1 rfl) (Zdf h4))) rfl (fun _ T => Zp (Zwn rfl rfl (T.e 2 rfl) (Zdf h4))) rfl (fun _ T => Zp (Zwn rfl rfl (T.e 3 rfl) (Zdf h4))) rfl (fun _ T => Zq (Zr0 rfl (T.e 4 rfl) (Zdf h4) evc)) rfl (Zm 0 rfl rfl) rfl (fun _ T => Zp (Zwn rfl rfl (T.e 0 rfl) rfl)) rfl (fun _ T => Zp (Zwn rfl rfl (T.e 1 rfl) rfl)) rfl ?_; clear T ac; intro ac T
  refine Zg5 T (Zp (Zwu rfl rfl (T.e 0 rfl))) rfl (fun _ T => Zp (Zwu rfl rfl (T.e 1 rfl))) rfl (fun _ T => Zp (Zwn rfl rfl (T.e 4 rfl) rfl)) rfl (fun _ T => Zp (Zwn rfl rfl (T.e 5 rfl) rfl)) rfl (fun _ T => Zq (Zr0 rfl (T.e 6 rfl) rfl evc)) rfl ?_; clear T ac; intro ac T
  refine wpList_nil ?_
  replace T := T.pick [0, 1, 2, 3, 4, 5, 6, 9, 10, 11, 12, 20, 21, 22, 23, 24, 25, 26] rfl
  exact ⟨(T.pick (E' := [(3, .bool su), (4, .pointer (some ⟨g1, 0, none⟩)), (5, .pointer (some ⟨g2, 0, none⟩)), (6, .pointer (some ⟨g3, 0, none⟩)), (8, .pointer (some ⟨g4, 0, none⟩)), (10, .int .i64 1), (11, .bool true), (45, .bool false)]) [13, 14, 15, 16, 17, 12, 11, 0] rfl).as (by (try rw [show (decide ((sizeL (cutA s su) (cutC s su) p true) ≤ b.lo)) = false from (Zdf h4)]); (try rfl)), M.mask [true, true, true, true] rfl⟩
 clear T M
 rintro ac wc ⟨T, M⟩
 refine wp_cond_split (T.e 7 rfl) ?_ ?_
 ·intro h6
  (have h6' := h6; try simp only [Zb1, Zb2, Zb3, Zb4, Zb5, Zb6, Zb7] at h6')
  refine Zsr ?_
  refine Zg6 (v1 := (.pointer (some ⟨g3, 0, none⟩))) (v3 := (.pointer (some ⟨g3, 1, none⟩))) (v6 := (.agg #[.int .i64 b.x, .int .i64 b.y, .bool true])) T (Zq (Zrf (off := 0) rfl (T.e 3 rfl) (fun _ _ _ => by kernel_rfl))) rfl (Zo M 1 0 rfl rfl rfl rfl) rfl (Zf 1 5 rfl rfl) rfl (Zo M 1 0 rfl rfl rfl rfl) rfl (Zm 10 rfl rfl) rfl (fun _ T => Zq (rn_build rfl (.cons (T.e 3 rfl) (.cons (T.e 1 rfl) (.cons (T.e 0 rfl) .nil))) (fun _ => by kernel_rfl))) rfl ?_; clear T ac; intro ac T
  refine Zl2 ?_
  refine Zos M T rfl rfl (T.e 10 rfl) (T.e 0 rfl) rfl .head rfl (by simp) rfl (by kernel_rfl) ?_; clear M T; intro wc ac M T
  refine lq T (Zra rfl evc) ?_; clear T ac; intro ac T
  refine wpList_nil ?_
  replace T := T.pick [0, 11] rfl
  replace M := M.mask [true, false, false, false] rfl
  refine Znr ?_
  refine Zrb ?_
  refine Zrt ?_
  refine Zrt ?_
  refine Zrb ?_
  refine Zrt ?_
  refine rt_ct M T rfl (T.e 1 rfl) (T.e 0 rfl) (Zne (i := 0) rfl) rfl ?_
  have e0 : fitsP (cutA s su) (cutC s su) p b.lo b.wi = if fitsT (cutA s su) (cutC s su) p b.lo b.wi false = true then (false, true) else if fitsT (cutA s su) (cutC s su) p b.lo b.wi true = true then (true, true) else (false, false) := rfl
  have hF9 : fitsT (cutA s su) (cutC s su) p b.lo b.wi false = false := by unfold fitsT; simp_all
  have hT9 : fitsT (cutA s su) (cutC s su) p b.lo b.wi true = true := by unfold fitsT; simp_all
  have e1 : fitsP (cutA s su) (cutC s su) p b.lo b.wi = (true, true) := by rw [e0, hF9, hT9]; simp
  unfold lonS
  rw [e1]
  exact ⟨rfl, M.below⟩
 intro h6
 (have h6' := h6; try simp only [Zb1, Zb2, Zb3, Zb4, Zb5, Zb6, Zb7] at h6')
 refine wp_skip ?_
 refine Znb ?_
 refine nm_then ?_
 refine wp_region_lit ?_
 refine Zg2 (v2 := (.int .i64 2)) T (Zq (Zrm rfl (T.e 5 rfl))) rfl (fun _ T => Zq (rn_ofI (rn_add rfl (T.e 0 rfl) evc (by omega)) (by rfl))) rfl ?_; clear T ac; intro ac T
 refine l_q (v := (.int .i64 2)) (T.pick [0, 1, 2, 3, 4, 5, 6, 8, 9] rfl) rfl rfl rfl rfl (Zra rfl (T.e 0 rfl)) ?_; clear T ac; intro ac T
 refine wpList_nil ?_
 replace T := T.pick [0, 3, 4, 5, 6, 7] rfl
 refine nm_then ?_
 refine rounds_S ?_
 refine wp_seq ?_
 refine Zsr ?_
 refine Zg2 (v2 := (.bool false)) T (Zq (Zrm rfl (T.e 0 rfl))) rfl (fun _ T => Zq (Zrq (rn_lss rfl (T.e 0 rfl) evc) (by simp))) rfl ?_; clear T ac; intro ac T
 refine wpList_nil ?_
 replace T := T.pick [0, 2, 3, 4, 5, 6, 7] rfl
 refine nm_then ?_
 refine wp_cond_false (T.e 0 rfl) ?_
 refine wp_exit ?_
 refine Zet ?_
 refine Zet ?_
 refine ex_hit ?_
 refine nm_then ?_
 refine Zsr ?_
 refine lq (v := (.agg #[.int .i64 0, .int .i64 0, .bool false])) T (rn_build rfl .nil (fun _ => by kernel_rfl)) ?_; clear T ac; intro ac T
 refine Zl2 ?_
 refine Zos M T rfl rfl (T.e 7 rfl) (T.e 0 rfl) rfl .head rfl (by simp) rfl (by kernel_rfl) ?_; clear M T; intro wc ac M T
 refine lq T (Zra rfl evc) ?_; clear T ac; intro ac T
 refine wpList_nil ?_
 replace T := T.pick [0, 8] rfl
 replace M := M.mask [true, false, false, false] rfl
 refine Znr ?_
 refine rt_ct M T rfl (T.e 1 rfl) (T.e 0 rfl) (Zne (i := 0) rfl) rfl ?_
 have e0 : fitsP (cutA s su) (cutC s su) p b.lo b.wi = if fitsT (cutA s su) (cutC s su) p b.lo b.wi false = true then (false, true) else if fitsT (cutA s su) (cutC s su) p b.lo b.wi true = true then (true, true) else (false, false) := rfl
 have hF9 : fitsT (cutA s su) (cutC s su) p b.lo b.wi false = false := by unfold fitsT; simp_all
 have hT9 : fitsT (cutA s su) (cutC s su) p b.lo b.wi true = false := by unfold fitsT; simp_all
 have e1 : fitsP (cutA s su) (cutC s su) p b.lo b.wi = (false, false) := by rw [e0, hF9, hT9]; simp
 unfold lonS
 rw [e1]
 exact ⟨rfl, M.below⟩
def mrg : Nat → Nat → List Spt → List Spt → List Spt
 | 0, _, _, _ => []
 | n + 1, z, X, Y => if z % 2 = 1 then X.headD ⟨0, 0, false⟩ :: mrg n (z / 2) X.tail Y else Y.headD ⟨0, 0, false⟩ :: mrg n (z / 2) X Y.tail
open Classical in
noncomputable def can8 (a c : Int) (L : List Pt) (b : Bo) : Bool := decide (Cut (Fit a c) L b.lo b.wi)
theorem can8_iff {a c : Int} {L : List Pt} {b : Bo} : can8 a c L b = true ↔ Cut (Fit a c) L b.lo b.wi := by simp [can8]
noncomputable def pair8 (a c : Int) (L : List Pt) (b : Bo) (k z : Nat) : Bool := can8 a c (sel L z) (halA b k) && can8 a c (sel L (2 ^ L.length - 1 - z)) (halB b k)
def no8 (a c : Int) (L : List Pt) (b : Bo) (k z : Nat) : Prop := ∀ k' z', 0 < k' → 0 < z' → z' < 2 ^ L.length - 1 → (k' < k ∨ k' = k ∧ z' < z) → pair8 a c L b k' z' = false
inductive Ply (a c : Int) : List Pt → Bo → List Spt → Prop
 | nil {b : Bo} : Ply a c [] b []
 | one {p : Pt} {b : Bo} : Ply a c [p] b [lonS a c p b]
 | cut {L : List Pt} {b : Bo} {k z : Nat} {X Y : List Spt} : 2 ≤ L.length → 0 < k → (k : Int) ≤ b.lo - 1 + b.wi - 1 → 0 < z → z < 2 ^ L.length - 1 → pair8 a c L b k z = true → no8 a c L b k z → Ply a c (sel L z) (halA b k) X → Ply a c (sel L (2 ^ L.length - 1 - z)) (halB b k) Y → Ply a c L b (mrg L.length z X Y)
section
variable {a c : Int}
theorem can8_nil {b : Bo} : can8 a c [] b = true := can8_iff.2 .nil
theorem can8_one {p : Pt} {b : Bo} : can8 a c [p] b = (fitsP a c p b.lo b.wi).2 := by
 rw [Bool.eq_iff_iff, can8_iff, Cut.single, fitsP_iff]
theorem full_and : ∀ n, n < 6 → ∀ z, z < 32 → z < 2 ^ n → z &&& (2 ^ n - 1) = z := by decide +kernel
theorem full_pop : ∀ n, n < 6 → popP (2 ^ n - 1) = n := by decide +kernel
theorem pow5 {n : Nat} (h : n ≤ 5) : 0 < 2 ^ n ∧ 2 ^ n ≤ 32 := ⟨Nat.two_pow_pos _, Nat.pow_le_pow_right (n := 2) (by omega) h⟩
theorem halA_lt {b : Bo} {k : Int} (h : k < b.lo) : halA b k = ⟨b.x, b.y, k, b.wi⟩ ∧ halB b k = ⟨b.x + k, b.y, b.lo - k, b.wi⟩ := ⟨if_pos h, if_pos h⟩
theorem halA_ge {b : Bo} {k : Int} (h : ¬ k < b.lo) : halA b k = ⟨b.x, b.y, b.lo, k - b.lo + 1⟩ ∧ halB b k = ⟨b.x, b.y + (k - b.lo + 1), b.lo, b.wi - (k - b.lo + 1)⟩ := ⟨if_neg h, if_neg h⟩
theorem can8_cut {L : List Pt} {b : Bo} (h5 : L.length ≤ 5) (h2 : 2 ≤ L.length) (hlo : 1 ≤ b.lo) (hwi : 1 ≤ b.wi) : can8 a c L b = true ↔ ∃ k z : Nat, 0 < k ∧ (k : Int) ≤ b.lo - 1 + b.wi - 1 ∧ 0 < z ∧ z < 2 ^ L.length - 1 ∧ pair8 a c L b k z = true := by
 have hp := pow5 h5
 have hc := can_cut (a := a) (c := c) (L := L) (r := ⟨2 ^ L.length - 1, b.lo, b.wi⟩) (by show 2 ^ L.length - 1 < _; omega) h5 (by show 2 ≤ popP (2 ^ L.length - 1); rw [full_pop _ (by omega)]; exact h2)
 have e : canP a c L ⟨2 ^ L.length - 1, b.lo, b.wi⟩ ↔ can8 a c L b = true := by
  rw [can8_iff]
  unfold canP
  rw [sel_all]
 rw [e] at hc
 rw [hc]
 constructor
 ·rintro ⟨q, hq, k1, k2⟩
  rcases mem_rooms.1 hq with ⟨k, h0, h1, hq⟩ | ⟨k, h0, h1, hq⟩
  ·obtain ⟨z, ⟨z1, z2, z3⟩, rfl⟩ := mem_long.1 hq
   have hk : (k : Int) < b.lo := h1
   refine ⟨k, z, h0, by omega, z1, z2, ?_⟩
   rw [pair8, (halA_lt hk).1, (halA_lt hk).2, Bool.and_eq_true, can8_iff, can8_iff]
   exact ⟨k1, k2⟩
  ·obtain ⟨z, ⟨z1, z2, z3⟩, rfl⟩ := mem_wide.1 hq
   have hk : (k : Int) < b.wi := h1
   have hk2 : ¬ ((b.lo.toNat - 1 + k : Nat) : Int) < b.lo := by omega
   refine ⟨b.lo.toNat - 1 + k, z, by omega, by omega, z1, z2, ?_⟩
   rw [pair8, (halA_ge hk2).1, (halA_ge hk2).2, Bool.and_eq_true, can8_iff, can8_iff, show ((b.lo.toNat - 1 + k : Nat) : Int) - b.lo + 1 = (k : Int) by omega]
   exact ⟨k1, k2⟩
 ·rintro ⟨k, z, h0, h1, z1, z2, h⟩
  have z3 := full_and L.length (by omega) z (by omega) (by omega)
  by_cases hk : (k : Int) < b.lo
  ·rw [pair8, (halA_lt hk).1, (halA_lt hk).2, Bool.and_eq_true, can8_iff, can8_iff] at h
   exact ⟨_, mem_rooms.2 (.inl ⟨k, h0, hk, mem_long.2 ⟨z, ⟨z1, z2, z3⟩, rfl⟩⟩), h.1, h.2⟩
  ·rw [pair8, (halA_ge hk).1, (halA_ge hk).2, Bool.and_eq_true, can8_iff, can8_iff] at h
   have e9 : ((k + 1 - b.lo.toNat : Nat) : Int) = k - b.lo + 1 := by omega
   rw [← e9] at h
   exact ⟨_, mem_rooms.2 (.inr ⟨k + 1 - b.lo.toNat, by omega, by show ((k + 1 - b.lo.toNat : Nat) : Int) < b.wi; omega, mem_wide.2 ⟨z, ⟨z1, z2, z3⟩, rfl⟩⟩), h.1, h.2⟩
theorem can8_not {L : List Pt} {b : Bo} (h5 : L.length ≤ 5) (h2 : 2 ≤ L.length) (hlo : 1 ≤ b.lo) (hwi : 1 ≤ b.wi) {k : Nat} (hk : b.lo - 1 + b.wi - 1 < k) {z : Nat} (h : no8 a c L b k z) : can8 a c L b = false := by
 rw [Bool.eq_false_iff]
 intro h9
 obtain ⟨k', z', k1, k2, z1, z2, h8⟩ := (can8_cut h5 h2 hlo hwi).1 h9
 rw [h k' z' k1 z1 z2 (.inl (by omega))] at h8
 cases h8
def dep : Nat → Nat → Nat → Nat
 | 0, _, _ => 0
 | n + 1, s, z => if s % 2 = 1 then z % 2 + 2 * dep n (s / 2) (z / 2) else 2 * dep n (s / 2) z
theorem sel_sel {α : Type} : ∀ (L : List α) (s z : Nat), sel (sel L s) z = sel L (dep L.length s z)
 | [], s, z => rfl
 | x :: L, s, z => by
  simp only [sel, List.length_cons, dep]
  by_cases h : s % 2 = 1
  ·rw [if_pos h, if_pos h]
   simp only [sel]
   rw [show (z % 2 + 2 * dep L.length (s / 2) (z / 2)) / 2 = dep L.length (s / 2) (z / 2) by omega, show (z % 2 + 2 * dep L.length (s / 2) (z / 2)) % 2 = z % 2 by omega, sel_sel L]
  ·rw [if_neg h, if_neg h, if_neg (by omega), show 2 * dep L.length (s / 2) z / 2 = dep L.length (s / 2) z by omega, sel_sel L]
theorem dep_comp : ∀ n, n < 6 → ∀ s, s < 32 → s < 2 ^ n → ∀ z, z < 32 → z < 2 ^ popP s → dep n s (2 ^ popP s - 1 - z) = s - dep n s z := by decide +kernel
theorem fm_congr {α β : Type} {f g : α → List β} : ∀ {l : List α}, (∀ x ∈ l, f x = g x) → l.flatMap f = l.flatMap g
 | [], _ => rfl
 | x :: l, h => by
  rw [List.flatMap_cons, List.flatMap_cons, h x List.mem_cons_self, fm_congr fun y hy => h y (List.mem_cons_of_mem _ hy)]
theorem parts_dep : ∀ n, n < 6 → ∀ s, s < 32 → s < 2 ^ n → partsP s = (List.range (2 ^ popP s - 2)).map fun z => dep n s (z + 1) := by decide +kernel
def two8 (n : Nat) (r : Rm) (k z : Nat) : Two2 := if ((k + 1 : Nat) : Int) < r.lo then ⟨⟨dep n r.s (z + 1), ((k + 1 : Nat) : Int), r.wi⟩, ⟨r.s - dep n r.s (z + 1), r.lo - ((k + 1 : Nat) : Int), r.wi⟩, ((k + 1 : Nat) : Int), 0⟩
 else ⟨⟨dep n r.s (z + 1), r.lo, ((k + 1 : Nat) : Int) - r.lo + 1⟩, ⟨r.s - dep n r.s (z + 1), r.lo, r.wi - (((k + 1 : Nat) : Int) - r.lo + 1)⟩, 0, ((k + 1 : Nat) : Int) - r.lo + 1⟩
theorem rooms_two {n : Nat} {r : Rm} (hn : n ≤ 5) (hs : r.s < 2 ^ n) (hlo : 1 ≤ r.lo) (hwi : 1 ≤ r.wi) : roomsP r = (List.range (r.lo - 1 + r.wi - 1).toNat).flatMap fun k => (List.range (2 ^ popP r.s - 2)).map (two8 n r k) := by
 have h32 := (pow5 hn).2
 have hpd := parts_dep n (by omega) r.s (by omega) hs
 rw [show (r.lo - 1 + r.wi - 1).toNat = (r.lo - 1).toNat + (r.wi - 1).toNat by omega, List.range_add, List.flatMap_append, List.flatMap_map]
 unfold roomsP
 congr 1
 ·apply fm_congr
  intro k hk
  have hk := List.mem_range.1 hk
  unfold longP
  rw [hpd, List.map_map]
  apply List.map_congr_left
  intro z _
  show _ = two8 n r k z
  unfold two8
  rw [if_pos (by omega)]
  rfl
 ·apply fm_congr
  intro k hk
  unfold wideP
  rw [hpd, List.map_map]
  apply List.map_congr_left
  intro z _
  show _ = two8 n r ((r.lo - 1).toNat + k) z
  unfold two8
  rw [if_neg (by omega), show ((((r.lo - 1).toNat + k + 1 : Nat) : Int) - r.lo + 1) = ((k + 1 : Nat) : Int) by omega]
  rfl
theorem find_flat {α : Type} (p : α → Bool) (f : Nat → Nat → α) {N M k z : Nat} (hk : k < N) (hz : z < M) (hp : p (f k z) = true) (hno : ∀ k' z', k' < N → z' < M → (k' < k ∨ k' = k ∧ z' < z) → p (f k' z') = false) : ((List.range N).flatMap fun k => (List.range M).map (f k)).find? p = some (f k z) := by
 refine find_pre (l0 := ((List.range k).flatMap fun k => (List.range M).map (f k)) ++ (List.range z).map (f k)) ?_ ?_ hp
 ·obtain ⟨N', rfl⟩ : ∃ N', N = k + (1 + N') := ⟨N - k - 1, by omega⟩
  obtain ⟨M', rfl⟩ : ∃ M', M = z + (1 + M') := ⟨M - z - 1, by omega⟩
  rw [List.range_add (n := k), List.flatMap_append, List.append_assoc, List.range_add (n := 1), List.map_append, List.flatMap_append]
  refine List.prefix_append_right_inj _ |>.2 ?_
  simp only [List.range_one, List.map_cons, List.map_nil, List.flatMap_cons, List.flatMap_nil, List.append_nil, Nat.add_zero]
  rw [List.range_add (n := z), List.map_append, List.range_add (n := 1), List.map_append, List.map_append]
  simp only [List.range_one, List.map_cons, List.map_nil, Nat.add_zero]
  rw [List.append_assoc]
  refine List.prefix_append_right_inj _ |>.2 ?_
  rw [List.append_assoc]
  exact List.prefix_append _ _
 ·intro x hx
  rcases List.mem_append.1 hx with hx | hx
  ·obtain ⟨k', hk', hx⟩ := List.mem_flatMap.1 hx
   obtain ⟨z', hz', rfl⟩ := List.mem_map.1 hx
   have := List.mem_range.1 hk'
   have := List.mem_range.1 hz'
   exact hno k' z' (by omega) (by omega) (.inl (by omega))
  ·obtain ⟨z', hz', rfl⟩ := List.mem_map.1 hx
   have := List.mem_range.1 hz'
   exact hno k z' hk (by omega) (.inr ⟨rfl, this⟩)
theorem mrg_zip {α : Type} : ∀ (I : List α) (z : Nat) (X Y : List Spt), X.length = (sel I z).length → Y.length = (sel I (2 ^ I.length - 1 - z)).length → z < 2 ^ I.length → (I.zip (mrg I.length z X Y)).Perm ((sel I z).zip X ++ (sel I (2 ^ I.length - 1 - z)).zip Y) ∧ (mrg I.length z X Y).length = I.length
 | [], z, X, Y, _, _, _ => ⟨.refl _, rfl⟩
 | i :: I, z, X, Y, hX, hY, hz => by
  have hpow : 2 ^ (I.length + 1) = 2 * 2 ^ I.length := by rw [Nat.pow_succ]; omega
  simp only [List.length_cons, hpow] at hX hY hz ⊢
  have e1 : (2 * 2 ^ I.length - 1 - z) / 2 = 2 ^ I.length - 1 - z / 2 := by omega
  simp only [sel, mrg] at hX hY ⊢
  rw [e1] at hY ⊢
  by_cases h : z % 2 = 1
  ·have h' : ¬ (2 * 2 ^ I.length - 1 - z) % 2 = 1 := by omega
   simp only [if_pos h, if_neg h'] at hX hY ⊢
   cases X with
   | nil => simp at hX
   | cons x X =>
    obtain ⟨ih, il⟩ := mrg_zip I (z / 2) X Y (by simpa using hX) hY (by omega)
    simp only [List.headD_cons, List.tail_cons, List.zip_cons_cons, List.cons_append, List.length_cons, il, and_true]
    exact ih.cons _
  ·have h' : (2 * 2 ^ I.length - 1 - z) % 2 = 1 := by omega
   simp only [if_neg h, if_pos h'] at hX hY ⊢
   cases Y with
   | nil => simp at hY
   | cons y Y =>
    obtain ⟨ih, il⟩ := mrg_zip I (z / 2) X Y hX (by simpa using hY) (by omega)
    simp only [List.headD_cons, List.tail_cons, List.zip_cons_cons, List.length_cons, il, and_true]
    exact (ih.cons _).trans List.perm_middle.symm
theorem Ply.inv_nil {L : List Pt} {b : Bo} {X : List Spt} (h : Ply a c L b X) (h0 : L.length = 0) : X = [] := by
 cases h with
 | nil => rfl
 | one => simp at h0
 | cut h2 => omega
theorem Ply.inv_one {p : Pt} {b : Bo} {X : List Spt} (h : Ply a c [p] b X) : X = [lonS a c p b] := by
 generalize hL : [p] = L at h
 cases h with
 | nil => simp at hL
 | one => simp at hL; rw [hL]
 | cut h2 => rw [← hL] at h2; simp at h2
theorem Ply.inv_cut {L : List Pt} {b : Bo} {X : List Spt} (h : Ply a c L b X) (h2 : 2 ≤ L.length) : ∃ (k z : Nat) (A B : List Spt), 0 < k ∧ (k : Int) ≤ b.lo - 1 + b.wi - 1 ∧ 0 < z ∧ z < 2 ^ L.length - 1 ∧ pair8 a c L b k z = true ∧ no8 a c L b k z ∧ Ply a c (sel L z) (halA b k) A ∧ Ply a c (sel L (2 ^ L.length - 1 - z)) (halB b k) B ∧ X = mrg L.length z A B := by
 cases h with
 | nil => simp at h2
 | one => simp at h2
 | cut _ h1 h3 h4 h5 h6 h7 h8 h9 => exact ⟨_, _, _, _, h1, h3, h4, h5, h6, h7, h8, h9, rfl⟩
theorem lay_ply {L : List Pt} (h5 : L.length ≤ 5) {r : Rm} {x y : Int} {A : List (Nat × Spt)} (h : Lay a c L r x y A) : r.s < 2 ^ L.length → 1 ≤ r.lo → 1 ≤ r.wi → canP a c L r → ∀ X, Ply a c (sel L r.s) ⟨x, y, r.lo, r.wi⟩ X → ((sel (List.range L.length) r.s).zip X).Perm A ∧ X.length = (sel L r.s).length := by
 have h32 := (pow5 h5).2
 induction h with
 | @none r x y h0 =>
  intro hs _ _ _ X hX
  have hl := sel_length_pop L r.s hs h5
  have := hX.inv_nil (by omega)
  subst this
  rw [List.zip_nil_right]
  exact ⟨.refl _, by rw [List.length_nil]; omega⟩
 | @one r x y h1 =>
  intro hs _ _ hcan X hX
  have hf := fitsP_iff.2 ((can_one hs h5 h1).1 hcan)
  obtain ⟨s1, s2⟩ := sel_one (List.range L.length) r.s (by rw [List.length_range]; exact hs) (by rw [List.length_range]; exact h5) h1
  rw [List.length_range] at s2
  have e9 : (List.range L.length).getD (onlyP r.s) default = onlyP r.s := by rw [List.getD_eq_getElem?_getD, List.getElem?_range s2]; rfl
  rw [(sel_one L r.s hs h5 h1).1] at hX ⊢
  have := hX.inv_one
  subst this
  rw [s1, e9]
  refine ⟨?_, rfl⟩
  have e8 : lonS a c (L.getD (onlyP r.s) default) ⟨x, y, r.lo, r.wi⟩ = ⟨x, y, (fitsP a c (L.getD (onlyP r.s) default) r.lo r.wi).1⟩ := if_pos hf
  rw [e8]
  exact .refl _
 | @cut r x y q A B h2 hq _ _ ih1 ih2 =>
  intro hs hlo hwi hcan X hX
  have hl := sel_length_pop L r.s hs h5
  have hcnt := hX
  obtain ⟨k, z, XA, XB, k1, k2, z1, z2, hp, hno, hA, hB, rfl⟩ := hX.inv_cut (by omega)
  rw [hl] at z2 hB
  have hpw := pow5 (n := popP r.s) (by have := pop_lt r.s; omega)
  obtain ⟨k, rfl⟩ : ∃ k', k = k' + 1 := ⟨k - 1, by omega⟩
  obtain ⟨z, rfl⟩ : ∃ z', z = z' + 1 := ⟨z - 1, by omega⟩
  have hpr : ∀ k' z', z' < 2 ^ popP r.s - 2 → (canB a c L (two8 L.length r k' z').a && canB a c L (two8 L.length r k' z').b) = pair8 a c (sel L r.s) ⟨x, y, r.lo, r.wi⟩ (k' + 1) (z' + 1) := fun k' z' hz' => by
   have d1 := dep_comp L.length (by omega) r.s (by omega) hs (z' + 1) (by omega) (by omega)
   have q1 : ∀ (s : Nat) (b : Bo), canB a c L ⟨s, b.lo, b.wi⟩ = can8 a c (sel L s) b := fun s b => by
    rw [Bool.eq_iff_iff, canB_iff, can8_iff]; rfl
   unfold pair8
   rw [sel_sel, sel_sel, hl, d1]
   unfold two8
   by_cases hk : ((k' + 1 : Nat) : Int) < r.lo
   ·rw [if_pos hk, ← q1, ← q1, (halA_lt (b := ⟨x, y, r.lo, r.wi⟩) hk).1, (halA_lt (b := ⟨x, y, r.lo, r.wi⟩) hk).2]
   ·rw [if_neg hk, ← q1, ← q1, (halA_ge (b := ⟨x, y, r.lo, r.wi⟩) hk).1, (halA_ge (b := ⟨x, y, r.lo, r.wi⟩) hk).2]
  have hfind : ((roomsP r).find? fun q => canB a c L q.a && canB a c L q.b) = some (two8 L.length r k z) := by
   rw [rooms_two h5 hs hlo hwi]
   have k2 : ((k + 1 : Nat) : Int) ≤ r.lo - 1 + r.wi - 1 := k2
   refine find_flat (fun q => canB a c L q.a && canB a c L q.b) (two8 L.length r) (N := (r.lo - 1 + r.wi - 1).toNat) (M := 2 ^ popP r.s - 2) (by omega) (by omega) ((hpr k z (by omega)).trans hp) fun k' z' hk' hz' hlt => ?_
   exact (hpr k' z' hz').trans (hno (k' + 1) (z' + 1) (by omega) (by omega) (by rw [hl]; omega) (by omega))
  rw [hfind] at hq
  injection hq with hq
  subst hq
  have hm := List.mem_of_find?_eq_some hfind
  have hb := List.find?_some hfind
  simp only [Bool.and_eq_true, canB_iff] at hb
  obtain ⟨p1, p2⟩ := rooms_pow hs h5 hm
  have d1 := dep_comp L.length (by omega) r.s (by omega) hs (z + 1) (by omega) (by omega)
  have dims : (1 ≤ (two8 L.length r k z).a.lo ∧ 1 ≤ (two8 L.length r k z).a.wi ∧ 1 ≤ (two8 L.length r k z).b.lo ∧ 1 ≤ (two8 L.length r k z).b.wi) ∧ (two8 L.length r k z).a.s = dep L.length r.s (z + 1) ∧ (two8 L.length r k z).b.s = r.s - dep L.length r.s (z + 1) ∧ halA ⟨x, y, r.lo, r.wi⟩ ((k + 1 : Nat) : Int) = ⟨x, y, (two8 L.length r k z).a.lo, (two8 L.length r k z).a.wi⟩ ∧ halB ⟨x, y, r.lo, r.wi⟩ ((k + 1 : Nat) : Int) = ⟨x + (two8 L.length r k z).x, y + (two8 L.length r k z).y, (two8 L.length r k z).b.lo, (two8 L.length r k z).b.wi⟩ := by
   have k2 : ((k + 1 : Nat) : Int) ≤ r.lo - 1 + r.wi - 1 := k2
   unfold two8
   by_cases hk : ((k + 1 : Nat) : Int) < r.lo
   ·rw [if_pos hk, (halA_lt (b := ⟨x, y, r.lo, r.wi⟩) hk).1, (halA_lt (b := ⟨x, y, r.lo, r.wi⟩) hk).2]
    refine ⟨⟨by dsimp only; omega, by dsimp only; omega, by dsimp only; omega, by dsimp only; omega⟩, rfl, rfl, rfl, ?_⟩
    dsimp only
    rw [Int.add_zero]
   ·rw [if_neg hk, (halA_ge (b := ⟨x, y, r.lo, r.wi⟩) hk).1, (halA_ge (b := ⟨x, y, r.lo, r.wi⟩) hk).2]
    refine ⟨⟨by dsimp only; omega, by dsimp only; omega, by dsimp only; omega, by dsimp only; omega⟩, rfl, rfl, rfl, ?_⟩
    dsimp only
    rw [Int.add_zero]
  obtain ⟨⟨m1, m2, m3, m4⟩, sa, sb, ea, eb⟩ := dims
  have g1 := ih1 p1 m1 m2 hb.1 XA (by rw [sa, ← sel_sel, ← ea]; exact hA)
  have g2 := ih2 p2 m3 m4 hb.2 XB (by rw [sb, ← d1, ← sel_sel, ← eb]; exact hB)
  rw [sa, ← List.length_range (n := L.length)] at g1
  rw [sb, ← d1] at g2
  have r1 : sel (List.range L.length) (dep L.length r.s (z + 1)) = sel (sel (List.range L.length) r.s) (z + 1) := by rw [sel_sel, List.length_range]
  have r2 : sel (List.range L.length) (dep L.length r.s (2 ^ popP r.s - 1 - (z + 1))) = sel (sel (List.range L.length) r.s) (2 ^ popP r.s - 1 - (z + 1)) := by rw [sel_sel, List.length_range]
  have r3 : (sel (List.range L.length) r.s).length = popP r.s := by rw [sel_length_pop _ _ (by rw [List.length_range]; exact hs) (by rw [List.length_range]; exact h5)]
  have len : ∀ s, (sel L s).length = (sel (List.range L.length) s).length := fun s => by rw [sel_cnt, sel_cnt, List.length_range]
  rw [List.length_range] at g1
  rw [len] at g1 g2
  rw [r1] at g1
  rw [r2] at g2
  obtain ⟨w1, w2⟩ := mrg_zip (sel (List.range L.length) r.s) (z + 1) XA XB g1.2 (by rw [r3]; exact g2.2) (by rw [r3]; omega)
  rw [r3] at w1 w2
  rw [hl]
  refine ⟨w1.trans (g1.1.append g2.1), w2⟩
end
theorem ply_plan {s : Sk} {g : List Int} {su : Bool} {X : List Spt} (hg : s.good) (hi : ∀ x ∈ g, 0 ≤ x ∧ x < (s.ps.length : Int)) (hn : g.Nodup) (h0 : planE s g su = 0) (h : Ply (cutA s su) (cutC s su) (gP s g) ⟨0, 0, s.lo, s.wi⟩ X) : planL s g su = X := by
 have hgl : (gP s g).length = g.length := by unfold gP; rw [List.length_map]
 have h5 : (gP s g).length ≤ 5 := by rw [hgl]; exact Nat.le_trans (nodup_short hi hn) hg.len
 have hcan : canS s su (gP s g) = true := by
   rcases plan_cases (su := su) hg hi hn with ⟨-, h1⟩ | ⟨h1, -⟩
   · exact h1
   · omega
 obtain ⟨⟨l1, -⟩, ⟨w1, -⟩, -⟩ := id hg
 obtain ⟨A, hA⟩ := lay_ex (a := cutA s su) (c := cutC s su) h5 6 (whR s (gP s g)) 0 0 (pop_lt _) (whole_pow _) hcan
 have hpl : planL s g su = putS (List.replicate (gP s g).length ⟨0, 0, false⟩) A := by
   unfold planL
   rw [if_pos h0, planA_eq hA]
 have e1 : sel (gP s g) (whR s (gP s g)).s = gP s g := sel_all _
 have e2 : sel (List.range (gP s g).length) (whR s (gP s g)).s = List.range (gP s g).length := by
   have := sel_all (List.range (gP s g).length)
   rwa [List.length_range] at this
 obtain ⟨k1, k2⟩ := lay_ply h5 hA (whole_pow _) l1 w1 (canB_iff.1 hcan) X (by rw [e1]; exact h)
 rw [e1] at k2
 rw [e2] at k1
 rw [hpl]
 have hmap : (A.map (·.1)).Perm (List.range (gP s g).length) := by
   have := (k1.map (·.1)).symm
   rwa [map_zip_fst _ _ (by rw [List.length_range]; exact k2.symm)] at this
 apply List.ext_getElem?
 intro i
 by_cases hi9 : i < (gP s g).length
 · have hm : (i, X[i]'(by omega)) ∈ A := k1.subset (List.mem_iff_getElem.2 ⟨i, by simp; omega, by simp⟩)
   have := putS_get A (List.replicate (gP s g).length ⟨0, 0, false⟩) (hmap.nodup_iff.2 List.nodup_range) (fun z hz => by
     rw [List.length_replicate]
     exact List.mem_range.1 (hmap.subset (List.mem_map.2 ⟨z, hz, rfl⟩))) _ hm
   rw [this, List.getElem?_eq_getElem (by omega)]
 · rw [List.getElem?_eq_none (by rw [putS_length, List.length_replicate]; omega), List.getElem?_eq_none (by omega)]
def b8A (l : List Bo) (one : Bo) : List Bo := l.filter fun x => insB x one
def b8B (l : List Bo) (one two : Bo) : List Bo := l.filter fun x => !insB x one && insB x two
def b8I (l : List Bo) (one two : Bo) : Bool := decide ((b8A l one).length + (b8B l one two).length = l.length) && (decide (0 < (b8A l one).length) && decide (0 < (b8B l one two).length))
inductive Sw8 : List Bo → Bo → Prop
 | few {l : List Bo} {b : Bo} : l.length < 2 → Sw8 l b
 | cut {l : List Bo} {b : Bo} (k : Nat) : 0 < k → (k : Int) ≤ b.lo - 1 + b.wi - 1 → b8I l (halA b k) (halB b k) = true → Sw8 (b8A l (halA b k)) (halA b k) → Sw8 (b8B l (halA b k) (halB b k)) (halB b k) → Sw8 l b
open Classical in
noncomputable def sw8 (l : List Bo) (b : Bo) : Bool := decide (Sw8 l b)
theorem sw8_iff {l : List Bo} {b : Bo} : sw8 l b = true ↔ Sw8 l b := by simp [sw8]
theorem sw8_few {l : List Bo} {b : Bo} (h : l.length < 2) : sw8 l b = true := sw8_iff.2 (.few h)
theorem sw8_cut {l : List Bo} {b : Bo} (k : Nat) (h0 : 0 < k) (h1 : (k : Int) ≤ b.lo - 1 + b.wi - 1) (h2 : b8I l (halA b k) (halB b k) = true) (h3 : sw8 (b8A l (halA b k)) (halA b k) = true) (h4 : sw8 (b8B l (halA b k) (halB b k)) (halB b k) = true) : sw8 l b = true := sw8_iff.2 (.cut k h0 h1 h2 (sw8_iff.1 h3) (sw8_iff.1 h4))
def nos8 (l : List Bo) (b : Bo) (k : Nat) : Prop := ∀ k' : Nat, 0 < k' → k' < k → ¬ (b8I l (halA b k') (halB b k') = true ∧ sw8 (b8A l (halA b k')) (halA b k') = true ∧ sw8 (b8B l (halA b k') (halB b k')) (halB b k') = true)
theorem nos8_one {l : List Bo} {b : Bo} : nos8 l b 1 := fun k' h1 h2 => by omega
theorem nos8_succ {l : List Bo} {b : Bo} {k : Nat} (h : nos8 l b k) (hk : ¬ (b8I l (halA b k) (halB b k) = true ∧ sw8 (b8A l (halA b k)) (halA b k) = true ∧ sw8 (b8B l (halA b k) (halB b k)) (halB b k) = true)) : nos8 l b (k + 1) := fun k' h1 h2 => by
 rcases Nat.lt_or_eq_of_le (Nat.le_of_lt_succ h2) with h3 | rfl
 · exact h k' h1 h3
 · exact hk
theorem sw8_not {l : List Bo} {b : Bo} {k : Nat} (h : 2 ≤ l.length) (hk : b.lo - 1 + b.wi - 1 < (k : Int)) (h1 : nos8 l b k) : sw8 l b = false := by
 rw [Bool.eq_false_iff]
 intro hs
 cases sw8_iff.1 hs with
 | few h3 => omega
 | cut k' k1 k2 k3 k4 k5 => exact h1 k' k1 (by omega) ⟨k3, sw8_iff.2 k4, sw8_iff.2 k5⟩
def bo8 (x : Ld) : Bo := ⟨x.l, x.n, x.r - x.l, x.f - x.n⟩
def arB (b : Bo) : Ar := ⟨b.x, b.y, b.x + b.lo, b.y + b.wi⟩
theorem ins_in {x : Ld} {b : Bo} : insB (bo8 x) b = inP x.ar (arB b) := by
 rw [Bool.eq_iff_iff, inP_iff]
 simp only [insB, withinB, Bool.and_eq_true, decide_eq_true_eq]
 dsimp only [bo8, arB, Ld.ar]
 omega
theorem b8A_eq {l : List Ld} {one : Bo} : b8A (l.map bo8) one = (spA l (arB one)).map bo8 := by
 unfold b8A spA
 rw [List.filter_map]
 congr 1
 apply List.filter_congr
 intro x _
 exact ins_in
theorem b8B_eq {l : List Ld} {one two : Bo} : b8B (l.map bo8) one two = (spB l (arB one) (arB two)).map bo8 := by
 unfold b8B spB
 rw [List.filter_map]
 congr 1
 apply List.filter_congr
 intro x _
 show (!insB (bo8 x) one && insB (bo8 x) two) = _
 rw [ins_in, ins_in]
theorem sp_len2 (l : List Ld) (one two : Ar) : (spA l one).length + (spB l one two).length ≤ l.length ∧ ((spA l one).length + (spB l one two).length = l.length → spOk l one two = true) := by
 induction l with
 | nil => exact ⟨Nat.le_refl _, fun _ => rfl⟩
 | cons x l ih =>
  obtain ⟨i1, i2⟩ := ih
  have eA : (spA (x :: l) one).length = (spA l one).length + if inP x.ar one = true then 1 else 0 := by
   unfold spA
   rw [List.filter_cons]
   split <;> simp
  have eB : (spB (x :: l) one two).length = (spB l one two).length + if (!inP x.ar one && inP x.ar two) = true then 1 else 0 := by
   unfold spB
   rw [List.filter_cons]
   split <;> simp
  have eO : spOk (x :: l) one two = ((inP x.ar one || inP x.ar two) && spOk l one two) := rfl
  rw [eA, eB, eO, List.length_cons]
  generalize spOk l one two = o at i2 ⊢
  cases inP x.ar one <;> cases inP x.ar two <;> simp only [Bool.not_true, Bool.not_false, Bool.false_and, Bool.true_and, Bool.and_true, Bool.and_false, Bool.or_true, Bool.or_false, Bool.or_self, if_true, Bool.false_eq_true, if_false, imp_false] <;> first | exact ⟨by omega, fun h => i2 (by omega)⟩ | omega
theorem b8I_eq {l : List Ld} {one two : Bo} : b8I (l.map bo8) one two = splI l (arB one) (arB two) := by
 unfold b8I splI
 rw [b8A_eq, b8B_eq, List.length_map, List.length_map, List.length_map, Bool.and_assoc]
 congr 1
 rw [Bool.eq_iff_iff, decide_eq_true_eq]
 exact ⟨(sp_len2 _ _ _).2, sp_len _ _ _⟩
theorem arB_lt {b : Bo} {k : Int} (h : k < b.lo) : arB (halA b k) = (arB b).al (b.x + k) ∧ arB (halB b k) = (arB b).ar (b.x + k) := by
 rw [(halA_lt h).1, (halA_lt h).2]
 refine ⟨rfl, ?_⟩
 show (⟨b.x + k, b.y, b.x + k + (b.lo - k), b.y + b.wi⟩ : Ar) = ⟨b.x + k, b.y, b.x + b.lo, b.y + b.wi⟩
 rw [show b.x + k + (b.lo - k) = b.x + b.lo by omega]
theorem arB_ge {b : Bo} {k : Int} (h : ¬ k < b.lo) : arB (halA b k) = (arB b).cl (b.y + (k - b.lo + 1)) ∧ arB (halB b k) = (arB b).cr (b.y + (k - b.lo + 1)) := by
 rw [(halA_ge h).1, (halA_ge h).2]
 refine ⟨rfl, ?_⟩
 show (⟨b.x, b.y + (k - b.lo + 1), b.x + b.lo, b.y + (k - b.lo + 1) + (b.wi - (k - b.lo + 1))⟩ : Ar) = ⟨b.x, b.y + (k - b.lo + 1), b.x + b.lo, b.y + b.wi⟩
 rw [show b.y + (k - b.lo + 1) + (b.wi - (k - b.lo + 1)) = b.y + b.wi by omega]
theorem splA_of {l : List Ld} {one two : Ar} (h : splI l one two = true) : splA l one two = spA l one ∧ splB l one two = spB l one two := by
 simp only [splI, Bool.and_eq_true] at h
 exact ⟨if_pos h.1.1, if_pos h.1.1⟩
theorem saw_of8 {l' : List Bo} {b : Bo} (h : Sw8 l' b) : ∀ l : List Ld, l.map bo8 = l' → Saw l (arB b) := by
 induction h with
 | few h => intro l hl; exact .few (by rw [← hl, List.length_map] at h; exact h)
 | @cut l' b k h0 h1 h2 _ _ ih1 ih2 =>
  intro l hl
  subst hl
  rw [b8I_eq] at h2
  obtain ⟨e1, e2⟩ := splA_of h2
  have i1 := ih1 _ b8A_eq.symm
  have i2 := ih2 _ b8B_eq.symm
  rw [← e1] at i1
  rw [← e2] at i2
  by_cases hk : (k : Int) < b.lo
  ·obtain ⟨a1, a2⟩ := arB_lt hk
   rw [a1, a2] at h2 i2 i1
   exact .along (b.x + k) (by show b.x < b.x + k; omega) (by show b.x + k < b.x + b.lo; omega) h2 i1 i2
  ·obtain ⟨a1, a2⟩ := arB_ge hk
   rw [a1, a2] at h2 i2 i1
   exact .across (b.y + (k - b.lo + 1)) (by show b.y < b.y + (k - b.lo + 1); omega) (by show b.y + (k - b.lo + 1) < b.y + b.wi; omega) h2 i1 i2
theorem hal_pos {b : Bo} {k : Int} (hlo : 1 ≤ b.lo) (hwi : 1 ≤ b.wi) (h0 : 0 < k) (h1 : k ≤ b.lo - 1 + b.wi - 1) : (1 ≤ (halA b k).lo ∧ 1 ≤ (halA b k).wi) ∧ 1 ≤ (halB b k).lo ∧ 1 ≤ (halB b k).wi := by
 by_cases hk : k < b.lo
 · rw [(halA_lt hk).1, (halA_lt hk).2]; dsimp only; omega
 · rw [(halA_ge hk).1, (halA_ge hk).2]; dsimp only; omega
theorem saw_to8 {l : List Ld} {a : Ar} (h : Saw l a) : ∀ b : Bo, 1 ≤ b.lo → 1 ≤ b.wi → arB b = a → Sw8 (l.map bo8) b := by
 have step : ∀ (l : List Ld) (b : Bo) (k : Nat), 1 ≤ b.lo → 1 ≤ b.wi → 0 < k → (k : Int) ≤ b.lo - 1 + b.wi - 1 → splI l (arB (halA b k)) (arB (halB b k)) = true → (∀ c : Bo, 1 ≤ c.lo → 1 ≤ c.wi → arB c = arB (halA b k) → Sw8 ((splA l (arB (halA b k)) (arB (halB b k))).map bo8) c) → (∀ c : Bo, 1 ≤ c.lo → 1 ≤ c.wi → arB c = arB (halB b k) → Sw8 ((splB l (arB (halA b k)) (arB (halB b k))).map bo8) c) → Sw8 (l.map bo8) b := by
  intro l b k hlo hwi h0 h1 h2 i1 i2
  obtain ⟨⟨p1, p2⟩, p3, p4⟩ := hal_pos hlo hwi (show 0 < (k : Int) by omega) h1
  obtain ⟨e1, e2⟩ := splA_of h2
  have i1 := i1 _ p1 p2 rfl
  have i2 := i2 _ p3 p4 rfl
  rw [e1, ← b8A_eq] at i1
  rw [e2, ← b8B_eq] at i2
  exact .cut k h0 h1 (by rw [b8I_eq]; exact h2) i1 i2
 induction h with
 | few h => intro b _ _ _; exact .few (by rw [List.length_map]; exact h)
 | @along l a x h1 h2 h3 _ _ ih1 ih2 =>
  intro b hlo hwi hb
  subst hb
  have h1 : b.x < x := h1
  have h2 : x < b.x + b.lo := h2
  have hk : (((x - b.x).toNat : Nat) : Int) < b.lo := by omega
  obtain ⟨a1, a2⟩ := arB_lt hk
  rw [show b.x + (((x - b.x).toNat : Nat) : Int) = x by omega] at a1 a2
  rw [← a1, ← a2] at h3 ih1 ih2
  exact step l b (x - b.x).toNat hlo hwi (by omega) (by omega) h3 ih1 ih2
 | @across l a y h1 h2 h3 _ _ ih1 ih2 =>
  intro b hlo hwi hb
  subst hb
  have h1 : b.y < y := h1
  have h2 : y < b.y + b.wi := h2
  have hk : ¬ (((b.lo - 1 + (y - b.y)).toNat : Nat) : Int) < b.lo := by omega
  obtain ⟨a1, a2⟩ := arB_ge hk
  rw [show b.y + ((((b.lo - 1 + (y - b.y)).toNat : Nat) : Int) - b.lo + 1) = y by omega] at a1 a2
  rw [← a1, ← a2] at h3 ih1 ih2
  exact step l b (b.lo - 1 + (y - b.y)).toNat hlo hwi (by omega) (by omega) h3 ih1 ih2
theorem sw8_saw {l : List Ld} {b : Bo} (hlo : 1 ≤ b.lo) (hwi : 1 ≤ b.wi) : sw8 (l.map bo8) b = sawB l (arB b) := by
 rw [Bool.eq_iff_iff, sw8_iff, sawB_iff]
 exact ⟨fun h => saw_of8 h l rfl, fun h => saw_to8 h b hlo hwi rfl⟩
def bxOf (a c : Int) (p : Pt) (q : Spt) : Bo := ⟨q.x, q.y, sizeL a c p q.t, sizeW a c p q.t⟩
def bxs (a c : Int) : List Pt → List Spt → List Bo
 | p :: L, q :: S => bxOf a c p q :: bxs a c L S
 | _, _ => []
theorem bxs_len {a c : Int} : ∀ (L : List Pt) (S : List Spt), L.length = S.length → (bxs a c L S).length = L.length
 | [], _, _ => rfl
 | p :: L, [], h => by simp at h
 | p :: L, q :: S, h => by
  show (bxs a c L S).length + 1 = L.length + 1
  rw [bxs_len L S (by simpa using h)]
theorem bxs_get {a c : Int} : ∀ (L : List Pt) (S : List Spt) (i : Nat) {p : Pt} {q : Spt}, L[i]? = some p → S[i]? = some q → (bxs a c L S)[i]? = some (bxOf a c p q)
 | [], _, _, _, _, h, _ => by simp at h
 | _ :: _, [], _, _, _, _, h => by simp at h
 | x :: L, y :: S, 0, p, q, h, h' => by
  simp only [List.getElem?_cons_zero, Option.some.injEq] at h h'
  subst h; subst h'; rfl
 | x :: L, y :: S, i + 1, p, q, h, h' => by
  simp only [List.getElem?_cons_succ] at h h'
  exact bxs_get L S i h h'
theorem bxs_plL {a c : Int} : ∀ (L : List Pt) (S : List Spt) (all : List Ld), (plL a c all L S).map bo8 = all.map bo8 ++ bxs a c L S
 | [], S, all => by unfold plL bxs; rw [List.append_nil]
 | _ :: _, [], all => by unfold plL bxs; rw [List.append_nil]
 | p :: L, q :: S, all => by
  show (plL a c (all ++ [ldOf a c p q all.length]) L S).map bo8 = all.map bo8 ++ (bxOf a c p q :: bxs a c L S)
  rw [bxs_plL L S, List.map_append, List.append_assoc]
  congr 1
  show [bo8 (ldOf a c p q all.length)] ++ _ = _
  have e : bo8 (ldOf a c p q all.length) = bxOf a c p q := by
   show (⟨q.x, q.y, q.x + sizeL a c p q.t - q.x, q.y + sizeW a c p q.t - q.y⟩ : Bo) = ⟨q.x, q.y, sizeL a c p q.t, sizeW a c p q.t⟩
   rw [show q.x + sizeL a c p q.t - q.x = sizeL a c p q.t by omega, show q.y + sizeW a c p q.t - q.y = sizeW a c p q.t by omega]
  rw [e]; rfl
section
variable {a c lo wi : Int}
theorem bad_ins {p : Pt} {q : Spt} : badP a c lo wi p q = ((q.t && p.gr) || !insB (bxOf a c p q) ⟨0, 0, lo, wi⟩) := by
 have hw : ∀ n l h : Int, withinB n l h = (decide (l ≤ n) && decide (n ≤ h)) := fun n l h => by
  rw [Bool.eq_iff_iff]
  simp [withinB]
 unfold badP insB
 rw [hw, hw]
 dsimp only [bxOf]
 rw [Int.zero_add, Int.zero_add]
 simp only [Bool.not_and, Bool.or_assoc]
 rfl
theorem apa_over {p p' : Pt} {q q' : Spt} {i k : Nat} : apaB (bxOf a c p q) (bxOf a c p' q') = !overP (ldOf a c p' q' k).ar (ldOf a c p q i).ar := by
 rw [Bool.eq_iff_iff, Bool.not_eq_true', Bool.eq_false_iff]
 simp only [apaB, overP, Bool.or_eq_true, Bool.and_eq_true, decide_eq_true_eq, Ne]
 dsimp only [bxOf, ldOf, Ld.ar]
 omega
theorem plP_pw : ∀ (L : List Pt) (S : List Spt) (all F : List Ld), plP a c lo wi all L S = some F → all.Pairwise (fun z o => (decide (z.ar = o.ar) || overP z.ar o.ar) = false) → F.Pairwise (fun z o => (decide (z.ar = o.ar) || overP z.ar o.ar) = false)
 | [], S, all, F, h, hp => by
  unfold plP at h
  injection h with h
  rw [← h]; exact hp
 | p :: L, [], all, F, h, hp => by
  unfold plP at h
  injection h with h
  rw [← h]; exact hp
 | p :: L, q :: S, all, F, h, hp => by
  replace h : (if badP a c lo wi p q = true then none else if hitP all (ldOf a c p q all.length) = true then none else plP a c lo wi (all ++ [ldOf a c p q all.length]) L S) = some F := h
  split at h
  ·cases h
  ·split at h
   ·cases h
   ·rename_i hh
    refine plP_pw L S _ F h (List.pairwise_append.2 ⟨hp, List.pairwise_singleton _ _, fun z hz o ho => ?_⟩)
    rw [List.mem_singleton.1 ho, Bool.eq_false_iff]
    exact fun h9 => hh (List.any_eq_true.2 ⟨z, hz, h9⟩)
theorem cuts_bad {L : List Pt} {S : List Spt} (hl : L.length = S.length) {i : Nat} {p : Pt} {q : Spt} (h1 : L[i]? = some p) (h2 : S[i]? = some q) (h : badP a c lo wi p q = true) : cutsB a c lo wi L S = false := by
 rw [Bool.eq_false_iff]
 intro h9
 have := (cuts_cut hl h9).2 i p q h1 h2
 rw [h] at this
 cases this
theorem plL_get {L : List Pt} {S : List Spt} (hl : L.length = S.length) {i : Nat} {p : Pt} {q : Spt} (h1 : L[i]? = some p) (h2 : S[i]? = some q) : (plL a c [] L S)[i]? = some (ldOf a c p q i) := by
 have hi := (List.getElem?_eq_some_iff.1 h1).1
 rw [plL_eq L S [] hl, List.nil_append, List.getElem?_map, List.getElem?_range hi, Option.map_some, List.getD_eq_getElem?_getD, h1, List.getD_eq_getElem?_getD, h2]
 show some (ldOf a c p q (0 + i)) = _
 rw [Nat.zero_add]
theorem cuts_hit {L : List Pt} {S : List Spt} (hl : L.length = S.length) {i k : Nat} {p p' : Pt} {q q' : Spt} (hki : k < i) (h1 : L[i]? = some p) (h2 : S[i]? = some q) (h3 : L[k]? = some p') (h4 : S[k]? = some q') (h : apaB (bxOf a c p q) (bxOf a c p' q') = false) : cutsB a c lo wi L S = false := by
 rw [Bool.eq_false_iff]
 intro h9
 unfold cutsB at h9
 cases hF : plP a c lo wi [] L S with
 | none => rw [hF] at h9; cases h9
 | some F =>
  have hpw := plP_pw L S [] F hF List.Pairwise.nil
  rw [(plP_inv L S [] F hF).1] at hpw
  obtain ⟨hi, ei⟩ := List.getElem?_eq_some_iff.1 (plL_get (a := a) (c := c) hl h1 h2)
  obtain ⟨hk, ek⟩ := List.getElem?_eq_some_iff.1 (plL_get (a := a) (c := c) hl h3 h4)
  have := List.pairwise_iff_getElem.1 hpw k i hk hi hki
  rw [ei, ek, Bool.or_eq_false_iff] at this
  rw [apa_over (i := i) (k := k), this.2] at h
  cases h
theorem cuts_end {L : List Pt} {S : List Spt} (hg : ∀ p ∈ L, p.good) (ha : 0 ≤ a) (hc : 0 ≤ c) (hlo : 1 ≤ lo) (hwi : 1 ≤ wi) (hl : L.length = S.length) (h1 : ∀ (i : Nat) (p : Pt) (q : Spt), L[i]? = some p → S[i]? = some q → badP a c lo wi p q = false)
  (h2 : ∀ (i k : Nat) (p p' : Pt) (q q' : Spt), k < i → L[i]? = some p → S[i]? = some q → L[k]? = some p' → S[k]? = some q' → apaB (bxOf a c p q) (bxOf a c p' q') = true) : cutsB a c lo wi L S = sw8 (bxs a c L S) ⟨0, 0, lo, wi⟩ := by
 have hpl := plP_some (a := a) (c := c) (lo := lo) (wi := wi) L S [] h1 (by
  refine List.pairwise_iff_getElem.2 fun k i hk hi hki => ?_
  have hlen : (plL a c [] L S).length = L.length := by rw [plL_eq L S [] hl]; simp
  have hiL : i < L.length := by omega
  have e1 := List.getElem?_eq_getElem hiL
  have e2 := List.getElem?_eq_getElem (l := S) (i := i) (by omega)
  have e3 := List.getElem?_eq_getElem (l := L) (i := k) (by omega)
  have e4 := List.getElem?_eq_getElem (l := S) (i := k) (by omega)
  obtain ⟨hi9, ei⟩ := List.getElem?_eq_some_iff.1 (plL_get (a := a) (c := c) hl e1 e2)
  obtain ⟨hk9, ek⟩ := List.getElem?_eq_some_iff.1 (plL_get (a := a) (c := c) hl e3 e4)
  rw [ei, ek]
  have h9 := h2 i k _ _ _ _ hki e1 e2 e3 e4
  rw [apa_over (i := i) (k := k), Bool.not_eq_true'] at h9
  have hp := size_pos ha hc (hg _ (List.getElem_mem (show k < L.length by omega))) (S[k]'(by omega)).t
  exact hit_of_over h9 (by dsimp only [ldOf]; omega) (by dsimp only [ldOf]; omega))
 unfold cutsB
 rw [hpl]
 have e := sw8_saw (l := plL a c [] L S) (b := ⟨0, 0, lo, wi⟩) hlo hwi
 rw [bxs_plL] at e
 have e2 : arB ⟨0, 0, lo, wi⟩ = ⟨0, 0, lo, wi⟩ := by
  show (⟨0, 0, 0 + lo, 0 + wi⟩ : Ar) = _
  rw [Int.zero_add, Int.zero_add]
 rw [e2] at e
 exact e.symm
end
def shlI (x n : Int) : Int := IntKind.i64.wrap (x * 2 ^ min n.toNat 64)
def shrI (x n : Int) : Int := x.fdiv (2 ^ min n.toNat 64)
section
variable {P : Program} {op : Oper} {a : Act} {w : World} {t t' : TypeId} {x y : Operand} {p q : Int}
theorem rn_shl (ho : op.op = .binOp .shl t x y t') (hx : a.eval x = .int .i64 p) (hy : a.eval y = .int .i64 q) (hb : 0 ≤ q) : Runs P op a (.int .i64 (shlI p q)) w :=
 rn_bin ho hx hy (by
  show (Op.shift .shl .i64 p .i64 q).run P w = _
  unfold Op.shift
  rw [if_neg (by omega)]
  rfl)
theorem rn_shr (ho : op.op = .binOp .shr t x y t') (hx : a.eval x = .int .i64 p) (hy : a.eval y = .int .i64 q) (hb : 0 ≤ q) : Runs P op a (.int .i64 (shrI p q)) w :=
 rn_bin ho hx hy (by
  show (Op.shift .shr .i64 p .i64 q).run P w = _
  unfold Op.shift
  rw [if_neg (by omega)]
  rfl)
end
theorem sel_snoc {α : Type} : ∀ (l : List α) (x : α) (z : Nat), sel (l ++ [x]) z = sel l z ++ if z / 2 ^ l.length % 2 = 1 then [x] else []
 | [], x, z => by simp [sel]
 | y :: l, x, z => by
  simp only [sel, List.cons_append, List.length_cons]
  rw [sel_snoc l x (z / 2), Nat.div_div_eq_div_mul, show 2 * 2 ^ l.length = 2 ^ (l.length + 1) by rw [Nat.pow_succ]; omega]
  by_cases h : z % 2 = 1
  ·rw [if_pos h, if_pos h]; rfl
  ·rw [if_neg h, if_neg h]
theorem bit8 : ∀ i, i < 5 → ∀ z, z < 32 → andI (shrI (z : Nat) (i : Nat)) 1 = ((z / 2 ^ i % 2 : Nat) : Int) := by decide +kernel
theorem shl8 : ∀ n, n < 6 → shlI 1 (n : Nat) = ((2 ^ n : Nat) : Int) := by decide +kernel
theorem comp8 : ∀ n, n < 6 → ∀ i, i < n → ∀ z, z < 32 → z < 2 ^ n → (2 ^ n - 1 - z) / 2 ^ i % 2 = 1 - z / 2 ^ i % 2 := by decide +kernel
theorem cnt8 : ∀ n, n < 6 → ∀ z, z < 32 → 0 < z → z < 2 ^ n - 1 → 0 < cntP n z ∧ cntP n z < n ∧ cntP n (2 ^ n - 1 - z) = n - cntP n z := by decide +kernel
theorem cntP_le : ∀ n z, cntP n z ≤ n
 | 0, _ => Nat.le_refl _
 | n + 1, z => by
  have := cntP_le n (z / 2)
  show z % 2 + cntP n (z / 2) ≤ n + 1
  omega
theorem cnt_step {m i z : Nat} (h : i < m) : cntP (m - i) (z / 2 ^ i) = z / 2 ^ i % 2 + cntP (m - (i + 1)) (z / 2 ^ (i + 1)) := by
 rw [show m - i = (m - (i + 1)) + 1 by omega, Nat.pow_succ, ← Nat.div_div_eq_div_mul]
 rfl
theorem mrg_stepX {m i z : Nat} {X Y : List Spt} {q : Spt} (h : i < m) (hb : z / 2 ^ i % 2 = 1) (hX : X[0]? = some q) : mrg (m - i) (z / 2 ^ i) X Y = q :: mrg (m - (i + 1)) (z / 2 ^ (i + 1)) (X.drop 1) Y := by
 rw [show m - i = (m - (i + 1)) + 1 by omega, Nat.pow_succ, ← Nat.div_div_eq_div_mul]
 cases X with
 | nil => simp at hX
 | cons x X =>
  simp only [List.getElem?_cons_zero, Option.some.injEq] at hX
  subst hX
  simp only [mrg, if_pos hb]
  rfl
theorem mrg_stepY {m i z : Nat} {X Y : List Spt} {q : Spt} (h : i < m) (hb : ¬ z / 2 ^ i % 2 = 1) (hY : Y[0]? = some q) : mrg (m - i) (z / 2 ^ i) X Y = q :: mrg (m - (i + 1)) (z / 2 ^ (i + 1)) X (Y.drop 1) := by
 rw [show m - i = (m - (i + 1)) + 1 by omega, Nat.pow_succ, ← Nat.div_div_eq_div_mul]
 cases Y with
 | nil => simp at hY
 | cons x Y =>
  simp only [List.getElem?_cons_zero, Option.some.injEq] at hY
  subst hY
  simp only [mrg, if_neg hb]
  rfl
theorem tc_drop : ∀ (l : List Spt) (k : Nat), (tc l).drop (k * 3) = tc (l.drop k)
 | l, 0 => by simp
 | [], k + 1 => by simp [tc]
 | x :: l, k + 1 => by
  rw [show (k + 1) * 3 = k * 3 + 3 by omega, List.drop_succ_cons, ← tc_drop l k]
  rfl
theorem tc_take : ∀ (l : List Spt) (k : Nat), (tc l).take (k * 3) = tc (l.take k)
 | l, 0 => by simp [tc]
 | [], k + 1 => by simp [tc]
 | x :: l, k + 1 => by
  rw [show (k + 1) * 3 = k * 3 + 3 by omega, List.take_succ_cons, show tc (x :: l.take k) = _ :: _ :: _ :: tc (l.take k) from rfl, ← tc_take l k]
  rfl
theorem tc_part (l : List Spt) (k h : Nat) : ((tc l).drop (k * 3)).take ((h - k) * 3) = tc ((l.drop k).take (h - k)) := by
 rw [tc_drop, tc_take]
theorem sel_map {α β : Type} (f : α → β) : ∀ (l : List α) (z : Nat), (sel l z).map f = sel (l.map f) z
 | [], _ => rfl
 | x :: l, z => by
  simp only [sel, List.map_cons]
  split
  ·rw [List.map_cons, sel_map f l]
  ·exact sel_map f l _
theorem gP_sel {s : Sk} {g : List Int} {z : Nat} : gP s (sel g z) = sel (gP s g) z := sel_map _ _ _
theorem gP_len {s : Sk} {g : List Int} : (gP s g).length = g.length := List.length_map _
def Bo.ok (b : Bo) : Prop := (0 ≤ b.x ∧ 0 ≤ b.y) ∧ (1 ≤ b.lo ∧ 1 ≤ b.wi) ∧ b.x + b.lo ≤ 12 ∧ b.y + b.wi ≤ 12
theorem Bo.ok.few {b : Bo} (h : b.ok) : b.few := by
 unfold Bo.ok at h
 unfold Bo.few
 omega
theorem halA_ok {b : Bo} {k : Int} (h : b.ok) (h0 : 0 < k) (h1 : k ≤ b.lo - 1 + b.wi - 1) : (halA b k).ok ∧ (halB b k).ok := by
 unfold Bo.ok at *
 by_cases hk : k < b.lo
 · rw [(halA_lt hk).1, (halA_lt hk).2]; dsimp only; omega
 · rw [(halA_ge hk).1, (halA_ge hk).2]; dsimp only; omega
theorem no8_succ {a c : Int} {L : List Pt} {b : Bo} {k z : Nat} (h : no8 a c L b k z) (hz : pair8 a c L b k z = false) : no8 a c L b k (z + 1) := fun k' z' h1 h2 h3 h4 => by
 by_cases h5 : k' = k ∧ z' = z
 · rw [h5.1, h5.2]; exact hz
 · exact h k' z' h1 h2 h3 (by omega)
theorem no8_next {a c : Int} {L : List Pt} {b : Bo} {k z : Nat} (h : no8 a c L b k z) (hz : 2 ^ L.length - 1 ≤ z) : no8 a c L b (k + 1) 1 := fun k' z' h1 h2 h3 h4 => h k' z' h1 h2 h3 (by omega)
theorem no8_zero {a c : Int} {L : List Pt} {b : Bo} : no8 a c L b 1 1 := fun k' z' h1 h2 h3 h4 => by omega
theorem ply_cut {s : Sk} {g : List Int} {a c : Int} {b : Bo} {k z : Nat} {X Y : List Spt} (h2 : 2 ≤ g.length) (h0 : 0 < k) (hk : (k : Int) ≤ b.lo - 1 + b.wi - 1) (z0 : 0 < z) (z1 : z < 2 ^ g.length - 1) (hp : pair8 a c (gP s g) b k z = true) (hno : no8 a c (gP s g) b k z) (hX : Ply a c (gP s (sel g z)) (halA b k) X) (hY : Ply a c (gP s (sel g (2 ^ g.length - 1 - z))) (halB b k) Y) : Ply a c (gP s g) b (mrg g.length z X Y) := by
 have := Ply.cut (L := gP s g) (b := b) (by rw [gP_len]; exact h2) h0 hk z0 (by rw [gP_len]; exact z1) hp hno (by rw [← gP_sel]; exact hX) (by rw [gP_len, ← gP_sel]; exact hY)
 rwa [gP_len] at this
theorem can8_of {s : Sk} {g : List Int} {a c : Int} {b : Bo} {k z : Nat} (h5 : g.length ≤ 5) (h2 : 2 ≤ g.length) (hb : b.ok) (h0 : 0 < k) (hk : (k : Int) ≤ b.lo - 1 + b.wi - 1) (z0 : 0 < z) (z1 : z < 2 ^ g.length - 1) (hp : pair8 a c (gP s g) b k z = true) : can8 a c (gP s g) b = true :=
 (can8_cut (by rw [gP_len]; exact h5) (by rw [gP_len]; exact h2) hb.2.1.1 hb.2.1.2).2 ⟨k, z, h0, hk, z0, by rw [gP_len]; exact z1, hp⟩
def PlyPost (a c : Int) (L : List Pt) (b : Bo) (w : World) (e : Ending) (w' : World) : Prop := ∃ A n X I, e = .returned (.tuple #[.slice A X.length n, .bool (can8 a c L b)]) ∧ X.length ≤ n ∧ X.length ≤ L.length ∧ (can8 a c L b = true → Ply a c L b X ∧ X.length = L.length) ∧ (∃ b' o, ∀ (w : World) (ex : Nat → Prop), Sp w ex I A X.length 3 b' o (tc X)) ∧ Mem w noEx w' I
def PlySpec (s : Sk) (A : Option Addr) (d : Nat) (su : Bool) (m : Nat) : Prop := ∀ (g : List Int) (G : Option Addr) (n : Nat) (b : Bo) (w : World), g.length < m → g.length ≤ 5 → (∀ x ∈ g, 0 ≤ x ∧ x < (s.ps.length : Int)) → b.ok → Rd w w.heap.size 4 A s.ps.length (pc s.ps) → Rd w w.heap.size 1 G g.length (ic g) →
 Calls Tryd.prog 67 #[.agg #[.int .i64 s.lo, .int .i64 s.wi, .int .i64 s.a0, .int .i64 s.a1, .int .i64 s.c0, .int .i64 s.c1, .slice A s.ps.length d], .slice G g.length n, .agg #[.int .i64 b.x, .int .i64 b.y, .int .i64 b.lo, .int .i64 b.wi], .bool su] w (PlyPost (cutA s su) (cutC s su) (gP s g) b w)
set_option maxHeartbeats 4000000 in
theorem ply_step (s : Sk) (A : Option Addr) (d : Nat) (su : Bool) (m : Nat) (g : List Int) (G : Option Addr) (n : Nat) (b : Bo)  (w : World) (hsg : s.good) (ih : PlySpec s A d su m) (hm : g.length < m + 1) (hgl5 : g.length ≤ 5) (hgi : ∀ x ∈ g, 0 ≤ x ∧ x < (s.ps.length : Int)) (hb : b.ok) (hA : Rd w w.heap.size 4 A s.ps.length (pc s.ps)) (hG : Rd w w.heap.size 1 G g.length (ic g))  :
   Calls Tryd.prog 67 #[.agg #[.int .i64 s.lo, .int .i64 s.wi, .int .i64 s.a0, .int .i64 s.a1, .int .i64 s.c0, .int .i64 s.c1, .slice A s.ps.length d], .slice G g.length n, .agg #[.int .i64 b.x, .int .i64 b.y, .int .i64 b.lo, .int .i64 b.wi], .bool su] w (PlyPost (cutA s su) (cutC s su) (gP s g) b w) := by
 obtain ⟨bA, oA, SA⟩ := Sp.old hA
 obtain ⟨bG, oG, SG⟩ := Sp.old hG
 have hln := hsg.len
 obtain ⟨hb1, hb2, hb3, hb4⟩ := id hb
 have hsh := shl8 g.length (by omega)
 have hpw := pow5 hgl5
 refine Zpx noEx Tryd.func67 rfl 145 rfl [.agg #[.int .i64 s.lo, .int .i64 s.wi, .int .i64 s.a0, .int .i64 s.a1, .int .i64 s.c0, .int .i64 s.c1, .slice A s.ps.length d], .slice G g.length n, .agg #[.int .i64 b.x, .int .i64 b.y, .int .i64 b.lo, .int .i64 b.wi], .bool su] rfl rfl (Mem.init w _) ?_
 intro ac wc T M
 refine Zsr ?_
 refine Zl2 ?_
 refine Zob M T rfl rfl rfl rfl (T.e 0 rfl) rfl ?_; clear M T; intro g1 wc ac M T
 refine Zl2 ?_
 refine Zob M T rfl rfl rfl rfl (T.e 3 rfl) rfl ?_; clear M T; intro g2 wc ac M T
 refine Zg2 T (Zq (Zra rfl evc)) rfl (Zc rfl) rfl ?_; clear T ac; intro ac T
 refine wpList_nil ?_
 replace T := T.pick [2, 3, 5, 7] rfl
 refine Zns ?_
 refine Zsr ?_
 refine Zg3 T (Zq (Zrm rfl (T.e 2 rfl))) rfl (Zl Tryd.underlying27 0 rfl rfl) rfl (fun _ T => Zq (rn_eql rfl (T.e 0 rfl) evc)) rfl ?_; clear T ac; intro ac T
 refine wpList_nil ?_
 replace T := T.pick [0, 3, 4, 5, 6] rfl
 refine nm_then ?_
 refine wp_if (T.e 0 rfl) ?_ ?_
 ·intro h1
  refine Zsr ?_
  refine Zg2 T (Zq (Zra rfl evc)) rfl (Zc rfl) rfl ?_; clear T ac; intro ac T
  refine wpList_nil ?_
  replace T := T.pick [0, 1] rfl
  replace M := M.mask [false, false] rfl
  refine Znr ?_
  refine Zrt ?_
  refine rt_2 T rfl (T.e 1 rfl) (T.e 0 rfl) ?_
  have hg0 : gP s g = [] := List.eq_nil_of_length_eq_zero (by rw [gP_len]; omega)
  unfold PlyPost
  rw [hg0, can8_nil]
  exact ⟨none, 0, [], [], rfl, Nat.le_refl _, Nat.le_refl _, fun _ => ⟨.nil, rfl⟩, ⟨0, 0, fun _ _ => Sp.nil⟩, M.sub (List.nil_sublist _)⟩
 intro h1
 refine Zsk ?_
 refine wp_seq ?_
 refine Zsr ?_
 refine Zg3 T (Zq (Zrm rfl (T.e 3 rfl))) rfl (Zl Tryd.underlying27 0 rfl rfl) rfl (fun _ T => Zq (rn_eql rfl (T.e 0 rfl) evc)) rfl ?_; clear T ac; intro ac T
 refine wpList_nil ?_
 replace T := T.pick [0, 4, 5, 6, 7] rfl
 refine nm_then ?_
 refine wp_if (T.e 0 rfl) ?_ ?_
 ·intro h2
  obtain ⟨x0, hx0, -⟩ := ic_next (l := g) (k := 0) (by omega)
  have hx0r := hgi x0 (List.mem_of_getElem? hx0)
  obtain ⟨k0, hk8⟩ : ∃ k0 : Nat, x0 = (k0 : Int) := ⟨x0.toNat, by omega⟩
  obtain ⟨p, hkp, -⟩ := pc_next (l := s.ps) (k := k0) (by omega)
  have hpg : p.good := hsg.ps p (List.mem_of_getElem? hkp)
  have hgp : gP s g = [p] := by obtain ⟨y9, hy9⟩ := List.length_eq_one_iff.1 (show g.length = 1 by omega); subst hy9; simp at hx0; subst hx0; show [s.ps.getD y9.toNat default] = [p]; rw [List.getD_eq_getElem?_getD, show y9.toNat = k0 by omega, hkp]; rfl
  refine wp_seq ?_
  refine Zgs M (M.mask [true, true] rfl) 17 (by kernel_rfl) rfl (by kernel_rfl) ?_
  clear M; intro wc M
  refine g_have (fun ac wc => ∃ (gr4_14 : Nat), Tm ac 145 [(10, .pointer (some ⟨gr4_14, 0, none⟩)), (43, .bool ((fitsP (cutA s su) (cutC s su) p b.lo b.wi).2)), (42, .agg #[.int .i64 ((lonS (cutA s su) (cutC s su) p b).x), .int .i64 ((lonS (cutA s su) (cutC s su) p b).y), .bool ((lonS (cutA s su) (cutC s su) p b).t)]), (30, .tuple #[.agg #[.int .i64 ((lonS (cutA s su) (cutC s su) p b).x), .int .i64 ((lonS (cutA s su) (cutC s su) p b).y), .bool ((lonS (cutA s su) (cutC s su) p b).t)], .bool ((fitsP (cutA s su) (cutC s su) p b.lo b.wi).2)]), (41, .tuple #[.agg #[.int .i64 ((lonS (cutA s su) (cutC s su) p b).x), .int .i64 ((lonS (cutA s su) (cutC s su) p b).y), .bool ((lonS (cutA s su) (cutC s su) p b).t)], .bool ((fitsP (cutA s su) (cutC s su) p b.lo b.wi).2)]), (40, .bool su), (39, .agg #[.int .i64 b.x, .int .i64 b.y, .int .i64 b.lo, .int .i64 b.wi]), (38, .agg #[.int .i64 p.l, .int .i64 p.w, .bool p.gr, .int .i64 p.pa]), (37, .pointer (some ⟨bA, oA + k0 * 4, none⟩)), (36, .int .i64 x0), (35, .pointer (some ⟨bG, oG + 0 * 1, none⟩)), (34, .slice G g.length n), (33, .slice A s.ps.length d), (32, .pointer (some ⟨g1, 6, none⟩)), (31, .agg #[.int .i64 s.lo, .int .i64 s.wi, .int .i64 s.a0, .int .i64 s.a1, .int .i64 s.c0, .int .i64 s.c1, .slice A s.ps.length d]), (29, .bool (decide (((g.length : Nat) : Int) = 1))), (6, .pointer (some ⟨g2, 0, none⟩)), (4, .pointer (some ⟨g1, 0, none⟩)), (1, .slice G g.length n), (3, .bool su)] ∧ Mem w noEx wc [(gr4_14, .cells [.int .i64 0, .int .i64 0, .bool false]), (g2, .cells [.int .i64 b.x, .int .i64 b.y, .int .i64 b.lo, .int .i64 b.wi]), (g1, .cells [.int .i64 s.lo, .int .i64 s.wi, .int .i64 s.a0, .int .i64 s.a1, .int .i64 s.c0, .int .i64 s.c1, .slice A s.ps.length d])]) (Zpb 17 32767) 2 ?_ ?_
  ·clear T M
   rintro ac wc ⟨gr4_14, T, M⟩
   refine gw 15 65535 ?_; intro K hK
   refine Zos M T rfl rfl (T.e 0 rfl) (T.e 2 rfl) rfl .head rfl (by simp) rfl (by kernel_rfl) ?_; clear M T; intro wc ac M T
   refine Zso hK _ _ (M.mask [false, true, true] rfl) ?_; clear hK K
   refine gq T 16 131071 rfl (fun _ _ _ _ _ => (Zra rfl (T.e 1 rfl))) ?_; clear T ac; intro ac T
   refine Zgd (by kernel_rfl) ?_
   replace T := T.pick [0, 1] rfl
   replace M := M.mask [true, false, false] rfl
   refine nm_then ?_
   refine Zsr ?_
   refine lq T (Zrr (Mem.nth M 0 rfl) rfl (T.e 1 rfl) rfl) ?_; clear T ac; intro ac T
   refine Zl2 ?_
   refine ow_bs (e := 30) [.int .i64 ((lonS (cutA s su) (cutC s su) p b).x), .int .i64 ((lonS (cutA s su) (cutC s su) p b).y), .bool ((lonS (cutA s su) (cutC s su) p b).t)] M T rfl rfl rfl rfl (.cons (T.e 0 rfl) .nil) (fun _ => by kernel_rfl) ?_; clear M T; intro g3 wc ac M T
   refine Zg3 T (Zq (Zrm rfl (T.e 2 rfl))) rfl (Za 1 rfl rfl) rfl (Za 1 rfl rfl) rfl ?_; clear T ac; intro ac T
   refine wpList_nil ?_
   replace T := T.pick [0, 1] rfl
   replace M := M.mask [true, false] rfl
   refine Znr ?_
   refine Zrt ?_
   refine rt_2 T rfl (T.e 1 rfl) (T.e 0 rfl) ?_
   have hg1 : gP s g = [p] := hgp
   unfold PlyPost
   rw [hg1, can8_one]
   exact ⟨_, _, [lonS (cutA s su) (cutC s su) p b], [(g3, .cells (tc [lonS (cutA s su) (cutC s su) p b]))], rfl, Nat.le_refl _, Nat.le_refl _, fun _ => ⟨.one, rfl⟩, ⟨g3, 0, fun w ex => Sp.cells (xs := tc [lonS (cutA s su) (cutC s su) p b]) rfl⟩, by exact M⟩
  intro H0
  refine gq T 0 1 rfl (fun B w' hD hl hS => (Zrr (Mem.nth (show Mem w noEx w' _ from hS) 1 rfl) rfl (T.e 2 rfl) rfl)) ?_; clear T ac; intro ac T
  refine gq (v := (.pointer (some ⟨g1, 6, none⟩))) T 1 3 rfl (fun _ _ _ _ _ => (Zrf (off := 6) rfl (T.e 3 rfl) (fun _ _ _ => by kernel_rfl))) ?_; clear T ac; intro ac T
  refine gq T 2 7 rfl (fun B w' hD hl hS => (Zro (Mem.nth (show Mem w noEx w' _ from hS) 1 rfl) rfl (T.e 0 rfl) rfl)) ?_; clear T ac; intro ac T
  refine gq T 3 15 rfl (fun _ _ _ _ _ => (Zrm rfl (T.e 6 rfl))) ?_; clear T ac; intro ac T
  refine gq T 4 31 rfl (fun _ _ _ _ _ => (Zri (size := 1) 0 rfl (T.e 0 rfl) evc ⟨_, Tryd.underlying27, by kernel_rfl⟩ rfl (by omega) (SG.at0 (by omega)))) ?_; clear T ac; intro ac T
  refine gq T 5 63 rfl (fun B w' hD hl hS => (rn_cell (Sp.ic0 SG (show Mem w noEx w' _ from hS) (List.nil_sublist _) hx0) rfl (T.e 0 rfl))) ?_; clear T ac; intro ac T
  refine gq T 6 127 rfl (fun _ _ _ _ _ => (Zri (size := 4) k0 rfl (T.e 3 rfl) (T.e 0 rfl) ⟨_, Tryd.underlying24, by kernel_rfl⟩ hk8 (by omega) (SA.at0 (by omega)))) ?_; clear T ac; intro ac T
  refine gq (v := (.agg #[.int .i64 p.l, .int .i64 p.w, .bool p.gr, .int .i64 p.pa])) T 7 255 rfl (fun B w' hD hl hS => (rn_rowat (Sp.pcR SA (show Mem w noEx w' _ from hS) (List.nil_sublist _) hkp) rfl (T.e 0 rfl) rfl)) ?_; clear T ac; intro ac T
  refine gq T 8 511 rfl (fun B w' hD hl hS => (Zrr (Mem.nth (show Mem w noEx w' _ from hS) 0 rfl) rfl (T.e 9 rfl) rfl)) ?_; clear T ac; intro ac T
  refine gq T 9 1023 rfl (fun _ _ _ _ _ => (Zrm rfl (T.e 13 rfl))) ?_; clear T ac; intro ac T
  refine g_m2 (i := 10) (j := 14) (by kernel_rfl) ?_ ?_
  ·refine gi 2047 ?_; intro K hK
   refine Zoc (first := []) (cap := []) T rfl rfl rfl rfl evf (.cons (T.e 9 rfl) (.cons (T.e 2 rfl) (.cons (T.e 1 rfl) (.cons (T.e 0 rfl) .nil)))) Tryd.func97 rfl rfl ?_
   refine Calls.mono (lone8_any s A d p b su _ hsg hpg) ?_
   clear T; rintro e wc ⟨rfl, hb⟩ ac T
   replace M := M.call hb; clear hb
   refine Zso hK _ _ (M.mask [true, true] rfl) ?_; clear hK K
   refine gq T 11 4095 rfl (fun _ _ _ _ _ => (Zrm rfl (T.e 0 rfl))) ?_; clear T ac; intro ac T
   refine gq T 12 8191 rfl (fun _ _ _ _ _ => (Zre rfl (T.e 0 rfl) rfl)) ?_; clear T ac; intro ac T
   refine gq T 13 16383 rfl (fun _ _ _ _ _ => (Zre rfl (T.e 1 rfl) rfl)) ?_; clear T ac; intro ac T
   refine gw 14 32767 ?_; intro K hK
   refine Zoa M T rfl rfl rfl rfl ?_; clear M T; intro gr4_14 wc ac M T
   refine Zso hK _ _ (M.mask [false, true, true] rfl) ?_; clear hK K
   exact H0 _ _ ⟨gr4_14, T, M⟩
  refine gi 17407 ?_; intro K hK
  refine Zoa M T rfl rfl rfl rfl ?_; clear M T; intro gr4_14 wc ac M T
  refine Zso hK _ _ (M.mask [false, true, true] rfl) ?_; clear hK K
  refine gw 10 18431 ?_; intro K hK
  refine Zoc (first := []) (cap := []) T rfl rfl rfl rfl evf (.cons (T.e 10 rfl) (.cons (T.e 3 rfl) (.cons (T.e 2 rfl) (.cons (T.e 1 rfl) .nil)))) Tryd.func97 rfl rfl ?_
  refine Calls.mono (lone8_any s A d p b su _ hsg hpg) ?_
  clear T; rintro e wc ⟨rfl, hb⟩ ac T
  replace M := M.call hb; clear hb
  refine Zso hK _ _ (M.mask [false, true, true] rfl) ?_; clear hK K
  refine gq T 11 20479 rfl (fun _ _ _ _ _ => (Zrm rfl (T.e 0 rfl))) ?_; clear T ac; intro ac T
  refine gq T 12 24575 rfl (fun _ _ _ _ _ => (Zre rfl (T.e 0 rfl) rfl)) ?_; clear T ac; intro ac T
  refine gq T 13 32767 rfl (fun _ _ _ _ _ => (Zre rfl (T.e 1 rfl) rfl)) ?_; clear T ac; intro ac T
  exact H0 _ _ ⟨gr4_14, T.pick [4, 0, 1, 2, 3, 5, 6, 7, 8, 9, 10, 11, 12, 13, 14, 15, 16, 17, 18, 19] rfl, M⟩
 intro h2
 refine Zsk ?_
 refine wp_seq ?_
 refine Zsr ?_
 refine lq T (Zra rfl evc) ?_; clear T ac; intro ac T
 refine wpList_nil ?_
 replace T := T.pick [0, 2, 3, 4, 5] rfl
 refine nm_then ?_
 refine wp_block ?_
 refine wp_loop_n (fun mz ac wc => ∃ (k : Nat), mz = 100 - k ∧ (0 < k) ∧ ((k : Int) ≤ b.lo - 1 + b.wi - 1 + 1) ∧ (no8 (cutA s su) (cutC s su) (gP s g) b k 1) ∧ Tm ac 145 [(1, .slice G g.length n), (3, .bool su), (4, .pointer (some ⟨g1, 0, none⟩)), (6, .pointer (some ⟨g2, 0, none⟩)), (12, .int .i64 (k : Int))] ∧ Mem w noEx wc [(g2, .cells [.int .i64 b.x, .int .i64 b.y, .int .i64 b.lo, .int .i64 b.wi]), (g1, .cells [.int .i64 s.lo, .int .i64 s.wi, .int .i64 s.a0, .int .i64 s.a1, .int .i64 s.c0, .int .i64 s.c1, .slice A s.ps.length d])]) ?_ ?_
 ·exact ⟨_, 1, rfl, (by omega), (by omega), no8_zero, T.pick [3, 4, 2, 1, 0] rfl, M.mask [true, true] rfl⟩
 clear T M
 rintro mz ac wc ⟨k, hmm1, hk0, hk1, H, T, M⟩
 refine wp_seq ?_
 refine Zsr ?_
 refine Zg8 (v2 := (.pointer (some ⟨g2, 2, none⟩))) (v5 := (.pointer (some ⟨g2, 3, none⟩))) T (Zq (Zrm rfl (T.e 4 rfl))) rfl (Zf 2 4 rfl rfl) rfl (Zo M 0 0 rfl rfl rfl rfl) rfl (fun _ T => Zq (rn_sub rfl (T.e 0 rfl) evc (by omega))) rfl (Zf 3 7 rfl rfl) rfl (Zo M 0 0 rfl rfl rfl rfl) rfl (fun _ T => Zq (rn_add rfl (T.e 2 rfl) (T.e 0 rfl) (by omega))) rfl (fun _ T => Zq (rn_sub rfl (T.e 0 rfl) evc (by omega))) rfl ?_; clear T ac; intro ac T
 refine lq T (rn_leq rfl (T.e 7 rfl) (T.e 0 rfl)) ?_; clear T ac; intro ac T
 refine wpList_nil ?_
 replace T := T.pick [0, 9, 10, 11, 12, 13] rfl
 refine nm_then ?_
 refine wp_if (T.e 0 rfl) ?_ ?_
 ·intro h3
  have hpw2 : 4 ≤ 2 ^ g.length := Nat.pow_le_pow_right (n := 2) (by omega) (show 2 ≤ g.length by omega)
  have hok9 := halA_ok hb (k := (k : Int)) (by omega) (by omega)
  refine Zsk ?_
  refine wp_seq ?_
  refine wp_block ?_
  refine Zsr ?_
  refine Zg2 T (Zq (Zrr (Mem.nth M 0 rfl) rfl (T.e 4 rfl) rfl)) rfl (Zm 6 rfl rfl) rfl ?_; clear T ac; intro ac T
  refine Zl2 ?_
  refine Zoc (first := []) (cap := []) T rfl rfl rfl rfl evf (.cons (T.e 1 rfl) (.cons (T.e 0 rfl) .nil)) Tryd.func98 rfl rfl ?_
  refine Calls.mono (halves8_any b (k : Int) _ hb.few (by omega)) ?_
  clear T; rintro e wc ⟨rfl, hb⟩ ac T
  replace M := M.call hb; clear hb
  refine Zg3 T (Zq (Zrm rfl (T.e 0 rfl))) rfl (Ze 0 rfl rfl rfl) rfl (Ze 1 rfl rfl rfl) rfl ?_; clear T ac; intro ac T
  refine Zl2 ?_
  refine Zoa M T rfl rfl rfl rfl ?_; clear M T; intro g4 wc ac M T
  refine Zl2 ?_
  refine Zoa M T rfl rfl rfl rfl ?_; clear M T; intro g5 wc ac M T
  refine Zl2 ?_
  refine Zos M T rfl rfl (T.e 1 rfl) (T.e 3 rfl) rfl (.tail .head) rfl (by simp) rfl (by kernel_rfl) ?_; clear M T; intro wc ac M T
  refine Zl2 ?_
  refine Zos M T rfl rfl (T.e 0 rfl) (T.e 2 rfl) rfl .head rfl (by simp) rfl (by kernel_rfl) ?_; clear M T; intro wc ac M T
  refine wpList_nil ?_
  replace T := T.pick [0, 1, 9, 10, 11, 12, 13] rfl
  refine nm_then ?_
  refine Zsr ?_
  refine lq T (Zra rfl evc) ?_; clear T ac; intro ac T
  refine Zln ?_
  refine wp_block ?_
  refine wp_loop_n (fun mz ac wc => ∃ (z : Nat), mz = 100 - z ∧ (0 < z) ∧ (z ≤ 2 ^ g.length - 1) ∧ (no8 (cutA s su) (cutC s su) (gP s g) b k z) ∧ Tm ac 145 [(1, .slice G g.length n), (3, .bool su), (4, .pointer (some ⟨g1, 0, none⟩)), (6, .pointer (some ⟨g2, 0, none⟩)), (12, .int .i64 (k : Int)), (13, .pointer (some ⟨g4, 0, none⟩)), (14, .pointer (some ⟨g5, 0, none⟩)), (15, .int .i64 (z : Int))] ∧ Mem w noEx wc [(g5, .cells [.int .i64 ((halB b (k : Int)).x), .int .i64 ((halB b (k : Int)).y), .int .i64 ((halB b (k : Int)).lo), .int .i64 ((halB b (k : Int)).wi)]), (g4, .cells [.int .i64 ((halA b (k : Int)).x), .int .i64 ((halA b (k : Int)).y), .int .i64 ((halA b (k : Int)).lo), .int .i64 ((halA b (k : Int)).wi)]), (g2, .cells [.int .i64 b.x, .int .i64 b.y, .int .i64 b.lo, .int .i64 b.wi]), (g1, .cells [.int .i64 s.lo, .int .i64 s.wi, .int .i64 s.a0, .int .i64 s.a1, .int .i64 s.c0, .int .i64 s.c1, .slice A s.ps.length d])]) ?_ ?_
  ·exact ⟨_, 1, rfl, (by omega), (by omega), H, T.pick [3, 4, 5, 6, 7, 2, 1, 0] rfl, M.mask [true, true, true, true] rfl⟩
  clear T M
  rintro mz ac wc ⟨z, hmm2, hz0, hz1, H2, T, M⟩
  refine wp_seq ?_
  refine Zsr ?_
  refine Zg6 T (Zq (Zrm rfl (T.e 7 rfl))) rfl (Zm 1 rfl rfl) rfl (Zl Tryd.underlying27 0 rfl rfl) rfl (fun _ T => Zq (rn_shl rfl evc (T.e 0 rfl) (by omega))) rfl (fun _ T => Zq (rn_sub rfl (T.e 0 rfl) evc (by omega))) rfl (fun _ T => Zq (rn_lss rfl (T.e 4 rfl) (T.e 0 rfl))) rfl ?_; clear T ac; intro ac T
  refine wpList_nil ?_
  replace T := T.pick [0, 6, 7, 8, 9, 10, 11, 12, 13] rfl
  refine nm_then ?_
  refine wp_if (T.e 0 rfl) ?_ ?_
  ·intro h4
   obtain ⟨hc1, hc2, hc3⟩ := cnt8 g.length (by omega) z (by omega) hz0 (by omega)
   refine Zsk ?_
   refine wp_seq ?_
   refine wp_block ?_
   refine Zsr ?_
   refine Zg2 T (Zq (Zra rfl evc)) rfl (Zc rfl) rfl ?_; clear T ac; intro ac T
   refine wpList_nil ?_
   replace T := T.pick [0, 1, 3, 4, 5, 6, 7, 8, 9, 10] rfl
   refine Zns ?_
   refine Zsr ?_
   refine lq T (Zra rfl evc) ?_; clear T ac; intro ac T
   refine Zln ?_
   refine wp_block ?_
   refine wp_loop_n (fun mz ac wc => ∃ (i : Nat) (AL BL : List Int) (A3 : Option Addr) (c3 : Nat) (A4 : Option Addr) (c4 : Nat) (Ia Ib : List (Nat × BA)), mz = g.length - i ∧ (i ≤ g.length) ∧ (AL = sel (g.take i) z) ∧ (BL = sel (g.take i) (2 ^ g.length - 1 - z)) ∧ (AL.length + BL.length = i) ∧ (Sl 3 1 (.slice A3 AL.length c3) AL.length (ic AL) Ia) ∧ (Sl 3 1 (.slice A4 BL.length c4) BL.length (ic BL) Ib) ∧ Tm ac 145 [(1, .slice G g.length n), (3, .bool su), (4, .pointer (some ⟨g1, 0, none⟩)), (6, .pointer (some ⟨g2, 0, none⟩)), (12, .int .i64 (k : Int)), (13, .pointer (some ⟨g4, 0, none⟩)), (14, .pointer (some ⟨g5, 0, none⟩)), (15, .int .i64 (z : Int)), (16, .slice A3 AL.length c3), (17, .slice A4 BL.length c4), (18, .int .i64 (i : Int))] ∧ Mem w noEx wc ((g5, .cells [.int .i64 ((halB b (k : Int)).x), .int .i64 ((halB b (k : Int)).y), .int .i64 ((halB b (k : Int)).lo), .int .i64 ((halB b (k : Int)).wi)]) :: (g4, .cells [.int .i64 ((halA b (k : Int)).x), .int .i64 ((halA b (k : Int)).y), .int .i64 ((halA b (k : Int)).lo), .int .i64 ((halA b (k : Int)).wi)]) :: (g2, .cells [.int .i64 b.x, .int .i64 b.y, .int .i64 b.lo, .int .i64 b.wi]) :: (g1, .cells [.int .i64 s.lo, .int .i64 s.wi, .int .i64 s.a0, .int .i64 s.a1, .int .i64 s.c0, .int .i64 s.c1, .slice A s.ps.length d]) :: (Ia ++ Ib))) ?_ ?_
   ·exact ⟨_, 0, [], [], none, 0, none, 0, [], [], rfl, (Nat.zero_le _), rfl, rfl, rfl, (Sl.nil _ _), (Sl.nil _ _), T.pick [3, 4, 5, 6, 7, 8, 9, 10, 2, 1, 0] rfl, M.mask [true, true, true, true] rfl⟩
   clear T M
   rintro mz ac wc ⟨i, AL, BL, A3, c3, A4, c4, Ia, Ib, hmm3, hi, hA, hB, hABl, hslA, hslB, T, M⟩
   refine wp_seq ?_
   refine Zsr ?_
   refine Zg4 T (Zq (Zrm rfl (T.e 10 rfl))) rfl (Zm 1 rfl rfl) rfl (Zl Tryd.underlying27 0 rfl rfl) rfl (fun _ T => Zq (rn_lss rfl (T.e 2 rfl) (T.e 0 rfl))) rfl ?_; clear T ac; intro ac T
   refine wpList_nil ?_
   replace T := T.pick [0, 4, 5, 6, 7, 8, 9, 10, 11, 12, 13, 14] rfl
   refine nm_then ?_
   refine wp_if (T.e 0 rfl) ?_ ?_
   ·intro h5
    obtain ⟨x, hkx, -⟩ := ic_next (l := g) (k := i) (by omega)
    have hb8 := bit8 i (by omega) z (by omega)
    have hcb := comp8 g.length (by omega) i (by omega) z (by omega) (by omega)
    obtain ⟨bt, hbt⟩ : ∃ bt : Nat, bt = z / 2 ^ i % 2 := ⟨_, rfl⟩
    rw [← hbt] at hb8 hcb
    refine Zsk ?_
    refine wp_seq ?_
    refine wp_block ?_
    refine Zsr ?_
    refine Zg5 T (Zq (Zrm rfl (T.e 8 rfl))) rfl (Zm 12 rfl rfl) rfl (fun _ T => Zq (rn_shr rfl (T.e 1 rfl) (T.e 0 rfl) (by omega))) rfl (fun _ T => Zq (rn_and rfl (T.e 0 rfl) evc)) rfl (fun _ T => Zq (rn_eql rfl (T.e 0 rfl) evc)) rfl ?_; clear T ac; intro ac T
    refine wpList_nil ?_
    replace T := T.pick [0, 6, 7, 8, 9, 10, 11, 12, 13, 14, 15, 16] rfl
    refine nm_then ?_
    refine wp_if (T.e 0 rfl) ?_ ?_
    ·intro h6
     refine wp_region_lit ?_
     refine Zg5 T (Zq (Zrm rfl (T.e 9 rfl))) rfl (Zm 2 rfl rfl) rfl (Zm 13 rfl rfl) rfl (fun _ T => Zq (Zri (size := 1) i rfl (T.e 1 rfl) (T.e 0 rfl) ⟨_, Tryd.underlying27, by kernel_rfl⟩ rfl (by omega) (SG.at0 (by omega)))) rfl (fun _ T => Zq (rn_cell (Sp.ic0 SG M (List.nil_sublist _) hkx) rfl (T.e 0 rfl))) rfl ?_; clear T ac; intro ac T
     refine Zl2 ?_
     refine ow_bs (e := 3) [.int .i64 x] M T rfl rfl rfl rfl (.cons (T.e 0 rfl) .nil) (fun _ => by kernel_rfl) ?_; clear M T; intro g6 wc ac M T
     refine Zl2 ?_
     replace M := Mem.swapU [(g6, .cells [.int .i64 x]), (g5, .cells [.int .i64 ((halB b (k : Int)).x), .int .i64 ((halB b (k : Int)).y), .int .i64 ((halB b (k : Int)).lo), .int .i64 ((halB b (k : Int)).wi)]), (g4, .cells [.int .i64 ((halA b (k : Int)).x), .int .i64 ((halA b (k : Int)).y), .int .i64 ((halA b (k : Int)).lo), .int .i64 ((halA b (k : Int)).wi)]), (g2, .cells [.int .i64 b.x, .int .i64 b.y, .int .i64 b.lo, .int .i64 b.wi]), (g1, .cells [.int .i64 s.lo, .int .i64 s.wi, .int .i64 s.a0, .int .i64 s.a1, .int .i64 s.c0, .int .i64 s.c1, .slice A s.ps.length d])] Ia Ib M
     refine ow_app (((g6, .cells [.int .i64 x]) :: (g5, .cells [.int .i64 ((halB b (k : Int)).x), .int .i64 ((halB b (k : Int)).y), .int .i64 ((halB b (k : Int)).lo), .int .i64 ((halB b (k : Int)).wi)]) :: (g4, .cells [.int .i64 ((halA b (k : Int)).x), .int .i64 ((halA b (k : Int)).y), .int .i64 ((halA b (k : Int)).lo), .int .i64 ((halA b (k : Int)).wi)]) :: (g2, .cells [.int .i64 b.x, .int .i64 b.y, .int .i64 b.lo, .int .i64 b.wi]) :: (g1, .cells [.int .i64 s.lo, .int .i64 s.wi, .int .i64 s.a0, .int .i64 s.a1, .int .i64 s.c0, .int .i64 s.c1, .slice A s.ps.length d]) :: Ib)) Tryd.info3 hslA M (by first | rfl | simp) T rfl rfl rfl rfl Tryd.underlying27 rfl rfl rfl (by omega) (T.e 5 rfl) (T.e 0 rfl) (Zne (i := 0) rfl) rfl rfl ?_; clear M T; intro ga1 cga1 wc ac M T
     refine l_q (v := (.slice (some ⟨ga1, 0, none⟩) (AL.length + 1) cga1)) (T.pick [0, 1, 2, 3, 4, 5, 6, 7, 8, 9, 10, 11, 12, 13, 14, 15, 17, 18] rfl) rfl rfl rfl rfl (Zra rfl (T.e 0 rfl)) ?_; clear T ac; intro ac T
     refine wpList_nil ?_
     replace T := T.pick [0, 9, 10, 11, 12, 13, 14, 15, 16, 17, 18] rfl
     replace M := M.mask [true, false, true, true, true, true] rfl
     refine Znb ?_
     refine nm_then ?_
     refine wp_region_lit ?_
     refine Zg2 T (Zq (Zrm rfl (T.e 10 rfl))) rfl (fun _ T => Zq (rn_add rfl (T.e 0 rfl) evc (by omega))) rfl ?_; clear T ac; intro ac T
     refine l_q (v := (.int .i64 ((i : Int) + 1))) (T.pick [0, 1, 2, 3, 4, 5, 6, 7, 8, 9, 10, 11] rfl) rfl rfl rfl rfl (Zra rfl (T.e 0 rfl)) ?_; clear T ac; intro ac T
     refine wpList_nil ?_
     replace T := T.pick [0, 3, 4, 5, 6, 7, 8, 9, 10, 11, 12] rfl
     refine nm_then ?_
     have e9 : AL.length + 1 = (AL ++ [x]).length := by simp
     have e8 : ((ic AL) ++ [.int .i64 x]) = ic (AL ++ [x]) := by rw [← ic_snoc]
     rw [e9, e8] at M
     rw [e9] at T
     clear e9 e8
     exact ⟨_, by omega, i + 1, (AL ++ [x]), BL, _, _, _, _, [(ga1, .row 3 1 (AL ++ [x]).length (ic (AL ++ [x])) cga1)], Ib, rfl, (by omega), (by rw [List.take_add_one, hkx, Option.toList_some, sel_snoc, List.length_take, show min i g.length = i by omega, hA, if_pos (by omega)]), (by rw [List.take_add_one, hkx, Option.toList_some, sel_snoc, List.length_take, show min i g.length = i by omega, hcb, hB, if_neg (by omega), List.append_nil]), (by simp only [List.length_append, List.length_cons, List.length_nil]; omega), (Sl.row _ _ _ _ _ _), hslB, T.pick [2, 3, 4, 5, 6, 7, 8, 9, 1, 10, 0] rfl, (M.permT [1, 2, 3, 4, 0] 5 rfl rfl rfl rfl)⟩
    intro h6
    refine wp_region_lit ?_
    refine Zg5 T (Zq (Zrm rfl (T.e 10 rfl))) rfl (Zm 2 rfl rfl) rfl (Zm 13 rfl rfl) rfl (fun _ T => Zq (Zri (size := 1) i rfl (T.e 1 rfl) (T.e 0 rfl) ⟨_, Tryd.underlying27, by kernel_rfl⟩ rfl (by omega) (SG.at0 (by omega)))) rfl (fun _ T => Zq (rn_cell (Sp.ic0 SG M (List.nil_sublist _) hkx) rfl (T.e 0 rfl))) rfl ?_; clear T ac; intro ac T
    refine Zl2 ?_
    refine ow_bs (e := 3) [.int .i64 x] M T rfl rfl rfl rfl (.cons (T.e 0 rfl) .nil) (fun _ => by kernel_rfl) ?_; clear M T; intro g7 wc ac M T
    refine Zl2 ?_
    refine ow_app (((g7, .cells [.int .i64 x]) :: (g5, .cells [.int .i64 ((halB b (k : Int)).x), .int .i64 ((halB b (k : Int)).y), .int .i64 ((halB b (k : Int)).lo), .int .i64 ((halB b (k : Int)).wi)]) :: (g4, .cells [.int .i64 ((halA b (k : Int)).x), .int .i64 ((halA b (k : Int)).y), .int .i64 ((halA b (k : Int)).lo), .int .i64 ((halA b (k : Int)).wi)]) :: (g2, .cells [.int .i64 b.x, .int .i64 b.y, .int .i64 b.lo, .int .i64 b.wi]) :: (g1, .cells [.int .i64 s.lo, .int .i64 s.wi, .int .i64 s.a0, .int .i64 s.a1, .int .i64 s.c0, .int .i64 s.c1, .slice A s.ps.length d]) :: Ia)) Tryd.info3 hslB M (by first | rfl | simp) T rfl rfl rfl rfl Tryd.underlying27 rfl rfl rfl (by omega) (T.e 5 rfl) (T.e 0 rfl) (Zne (i := 0) rfl) rfl rfl ?_; clear M T; intro ga2 cga2 wc ac M T
    refine l_q (v := (.slice (some ⟨ga2, 0, none⟩) (BL.length + 1) cga2)) (T.pick [0, 1, 2, 3, 4, 5, 6, 7, 8, 9, 10, 11, 12, 13, 14, 15, 16, 18] rfl) rfl rfl rfl rfl (Zra rfl (T.e 0 rfl)) ?_; clear T ac; intro ac T
    refine wpList_nil ?_
    replace T := T.pick [0, 9, 10, 11, 12, 13, 14, 15, 16, 17, 18] rfl
    replace M := M.mask [true, false, true, true, true, true] rfl
    refine Znb ?_
    refine nm_then ?_
    refine wp_region_lit ?_
    refine Zg2 T (Zq (Zrm rfl (T.e 10 rfl))) rfl (fun _ T => Zq (rn_add rfl (T.e 0 rfl) evc (by omega))) rfl ?_; clear T ac; intro ac T
    refine l_q (v := (.int .i64 ((i : Int) + 1))) (T.pick [0, 1, 2, 3, 4, 5, 6, 7, 8, 9, 10, 11] rfl) rfl rfl rfl rfl (Zra rfl (T.e 0 rfl)) ?_; clear T ac; intro ac T
    refine wpList_nil ?_
    replace T := T.pick [0, 3, 4, 5, 6, 7, 8, 9, 10, 11, 12] rfl
    refine nm_then ?_
    have e9 : BL.length + 1 = (BL ++ [x]).length := by simp
    have e8 : ((ic BL) ++ [.int .i64 x]) = ic (BL ++ [x]) := by rw [← ic_snoc]
    rw [e9, e8] at M
    rw [e9] at T
    clear e9 e8
    exact ⟨_, by omega, i + 1, AL, (BL ++ [x]), _, _, _, _, Ia, [(ga2, .row 3 1 (BL ++ [x]).length (ic (BL ++ [x])) cga2)], rfl, (by omega), (by rw [List.take_add_one, hkx, Option.toList_some, sel_snoc, List.length_take, show min i g.length = i by omega, hA, if_neg (by omega), List.append_nil]), (by rw [List.take_add_one, hkx, Option.toList_some, sel_snoc, List.length_take, show min i g.length = i by omega, hcb, hB, if_pos (by omega)]), (by simp only [List.length_append, List.length_cons, List.length_nil]; omega), hslA, (Sl.row _ _ _ _ _ _), T.pick [2, 3, 4, 5, 6, 7, 8, 9, 10, 1, 0] rfl, (Mem.swapU [(g5, .cells [.int .i64 ((halB b (k : Int)).x), .int .i64 ((halB b (k : Int)).y), .int .i64 ((halB b (k : Int)).lo), .int .i64 ((halB b (k : Int)).wi)]), (g4, .cells [.int .i64 ((halA b (k : Int)).x), .int .i64 ((halA b (k : Int)).y), .int .i64 ((halA b (k : Int)).lo), .int .i64 ((halA b (k : Int)).wi)]), (g2, .cells [.int .i64 b.x, .int .i64 b.y, .int .i64 b.lo, .int .i64 b.wi]), (g1, .cells [.int .i64 s.lo, .int .i64 s.wi, .int .i64 s.a0, .int .i64 s.a1, .int .i64 s.c0, .int .i64 s.c1, .slice A s.ps.length d])] [(ga2, .row 3 1 (BL ++ [x]).length (ic (BL ++ [x])) cga2)] Ia (M.permT [1, 2, 3, 4, 0] 5 rfl rfl rfl rfl))⟩
   intro h5
   rw [List.take_of_length_le (by omega)] at hA hB
   obtain ⟨bza, oza, SVza⟩ := hslA.spV (by rw [ic_length]; omega)
   have SZA := SVza w noEx
   obtain ⟨bzb, ozb, SVzb⟩ := hslB.spV (by rw [ic_length]; omega)
   have SZB := SVzb w noEx
   have hAl : AL.length = cntP g.length z := by rw [hA, sel_cnt]
   have hpr : pair8 (cutA s su) (cutC s su) (gP s g) b k z = (can8 (cutA s su) (cutC s su) (gP s AL) (halA b k) && can8 (cutA s su) (cutC s su) (gP s BL) (halB b k)) := by rw [hA, hB, gP_sel, gP_sel]; unfold pair8; rw [gP_len]
   have hgA : ∀ x ∈ AL, 0 ≤ x ∧ x < (s.ps.length : Int) := fun x hx => hgi x ((sel_sub _ _).subset (hA ▸ hx))
   have hgB : ∀ x ∈ BL, 0 ≤ x ∧ x < (s.ps.length : Int) := fun x hx => hgi x ((sel_sub _ _).subset (hB ▸ hx))
   refine wp_exit ?_
   refine Zet ?_
   refine Zet ?_
   refine ex_hit ?_
   refine nm_then ?_
   refine Zsr ?_
   refine Zg4 T (Zq (Zrr (Mem.nth M 3 rfl) rfl (T.e 3 rfl) rfl)) rfl (Zm 10 rfl rfl) rfl (Zr M 1 8 rfl rfl rfl rfl) rfl (Zm 5 rfl rfl) rfl ?_; clear T ac; intro ac T
   refine Zl2 ?_
   refine Zoc (first := []) (cap := []) T rfl rfl rfl rfl evf (.cons (T.e 3 rfl) (.cons (T.e 2 rfl) (.cons (T.e 1 rfl) (.cons (T.e 0 rfl) .nil)))) Tryd.func67 rfl rfl ?_
   refine Calls.mono (ih AL A3 c3 (halA b (k : Int)) _ (by omega) (by omega) hgA hok9.1 (SA.rd M (List.nil_sublist _)) (SZA.rd M (.cons _ (.cons _ (.cons _ (.cons _ (subL (List.Sublist.refl _)))))))) ?_
   clear T; rintro e wc ⟨APu2, nPu2, XLu2, IPu2, rfl, hcpu2, hlpu2, hpyu2, SVPu2, N⟩ ac T
   obtain ⟨bPu2, oPu2, SVPu2⟩ := SVPu2
   have SPu2 := SVPu2 w noEx
   replace M := (M.join N).swapI
   clear N
   replace M : Mem w noEx wc ((g5, .cells [.int .i64 ((halB b (k : Int)).x), .int .i64 ((halB b (k : Int)).y), .int .i64 ((halB b (k : Int)).lo), .int .i64 ((halB b (k : Int)).wi)]) :: (g4, .cells [.int .i64 ((halA b (k : Int)).x), .int .i64 ((halA b (k : Int)).y), .int .i64 ((halA b (k : Int)).lo), .int .i64 ((halA b (k : Int)).wi)]) :: (g2, .cells [.int .i64 b.x, .int .i64 b.y, .int .i64 b.lo, .int .i64 b.wi]) :: (g1, .cells [.int .i64 s.lo, .int .i64 s.wi, .int .i64 s.a0, .int .i64 s.a1, .int .i64 s.c0, .int .i64 s.c1, .slice A s.ps.length d]) :: (Ia ++ Ib ++ IPu2)) := M
   rw [gP_len] at hlpu2 hpyu2
   refine Zg5 T (Zq (Zrm rfl (T.e 0 rfl))) rfl (Ze 0 rfl rfl rfl) rfl (Ze 1 rfl rfl rfl) rfl (Za 1 rfl rfl) rfl (Za 1 rfl rfl) rfl ?_; clear T ac; intro ac T
   refine wpList_nil ?_
   replace T := T.pick [0, 1, 11, 12, 13, 14, 15, 16, 17, 18, 20] rfl
   refine Zns ?_
   refine Zsr ?_
   refine Zg2 T (Zq (Zrm rfl (T.e 0 rfl))) rfl (fun _ T => Zq (rn_not rfl (T.e 0 rfl))) rfl ?_; clear T ac; intro ac T
   refine wpList_nil ?_
   replace T := T.pick [0, 3, 4, 5, 6, 7, 8, 9, 10, 11, 12] rfl
   refine nm_then ?_
   refine wp_cond_split (T.e 0 rfl) ?_ ?_
   ·intro h7
    (have h7' := h7; try simp only [Zb1, Zb2, Zb3, Zb4, Zb5, Zb6, Zb7] at h7')
    refine wp_exit ?_
    refine Zet ?_
    refine ex_hit ?_
    refine nm_then ?_
    refine wp_region_lit ?_
    refine Zg2 T (Zq (Zrm rfl (T.e 9 rfl))) rfl (fun _ T => Zq (rn_add rfl (T.e 0 rfl) evc (by omega))) rfl ?_; clear T ac; intro ac T
    refine l_q (v := (.int .i64 ((z : Int) + 1))) (T.pick [0, 1, 2, 3, 4, 5, 6, 7, 8, 9, 10, 12] rfl) rfl rfl rfl rfl (Zra rfl (T.e 0 rfl)) ?_; clear T ac; intro ac T
    refine wpList_nil ?_
    replace T := T.pick [0, 5, 6, 7, 8, 9, 10, 11] rfl
    refine nm_then ?_
    exact ⟨_, by omega, z + 1, rfl, (by omega), (by omega), (no8_succ H2 (by rw [hpr]; simp_all)), T.pick [1, 2, 3, 4, 5, 6, 7, 0] rfl, ((M.permT [0, 1, 2, 3] 4 rfl rfl rfl rfl).sub (Zsl ([(g5, .cells [.int .i64 ((halB b (k : Int)).x), .int .i64 ((halB b (k : Int)).y), .int .i64 ((halB b (k : Int)).lo), .int .i64 ((halB b (k : Int)).wi)]), (g4, .cells [.int .i64 ((halA b (k : Int)).x), .int .i64 ((halA b (k : Int)).y), .int .i64 ((halA b (k : Int)).lo), .int .i64 ((halA b (k : Int)).wi)]), (g2, .cells [.int .i64 b.x, .int .i64 b.y, .int .i64 b.lo, .int .i64 b.wi]), (g1, .cells [.int .i64 s.lo, .int .i64 s.wi, .int .i64 s.a0, .int .i64 s.a1, .int .i64 s.c0, .int .i64 s.c1, .slice A s.ps.length d])] : List (Nat × BA)) _))⟩
   intro h7
   (have h7' := h7; try simp only [Zb1, Zb2, Zb3, Zb4, Zb5, Zb6, Zb7] at h7')
   refine Zsk ?_
   refine Zsr ?_
   refine Zg4 T (Zq (Zrr (Mem.nth M 3 rfl) rfl (T.e 4 rfl) rfl)) rfl (Zm 11 rfl rfl) rfl (Zr M 0 10 rfl rfl rfl rfl) rfl (Zm 6 rfl rfl) rfl ?_; clear T ac; intro ac T
   refine Zl2 ?_
   refine Zoc (first := []) (cap := []) T rfl rfl rfl rfl evf (.cons (T.e 3 rfl) (.cons (T.e 2 rfl) (.cons (T.e 1 rfl) (.cons (T.e 0 rfl) .nil)))) Tryd.func67 rfl rfl ?_
   refine Calls.mono (ih BL A4 c4 (halB b (k : Int)) _ (by omega) (by omega) hgB hok9.2 (SA.rd M (List.nil_sublist _)) (SZB.rd M (.cons _ (.cons _ (.cons _ (.cons _ (subL (Zsq _ _)))))))) ?_
   clear T; rintro e wc ⟨APu3, nPu3, XLu3, IPu3, rfl, hcpu3, hlpu3, hpyu3, SVPu3, N⟩ ac T
   obtain ⟨bPu3, oPu3, SVPu3⟩ := SVPu3
   have SPu3 := SVPu3 w noEx
   replace M := (M.join N).swapI
   clear N
   replace M : Mem w noEx wc ((g5, .cells [.int .i64 ((halB b (k : Int)).x), .int .i64 ((halB b (k : Int)).y), .int .i64 ((halB b (k : Int)).lo), .int .i64 ((halB b (k : Int)).wi)]) :: (g4, .cells [.int .i64 ((halA b (k : Int)).x), .int .i64 ((halA b (k : Int)).y), .int .i64 ((halA b (k : Int)).lo), .int .i64 ((halA b (k : Int)).wi)]) :: (g2, .cells [.int .i64 b.x, .int .i64 b.y, .int .i64 b.lo, .int .i64 b.wi]) :: (g1, .cells [.int .i64 s.lo, .int .i64 s.wi, .int .i64 s.a0, .int .i64 s.a1, .int .i64 s.c0, .int .i64 s.c1, .slice A s.ps.length d]) :: (Ia ++ Ib ++ IPu2 ++ IPu3)) := M
   rw [gP_len] at hlpu3 hpyu3
   refine Zg5 T (Zq (Zrm rfl (T.e 0 rfl))) rfl (Ze 0 rfl rfl rfl) rfl (Ze 1 rfl rfl rfl) rfl (Za 1 rfl rfl) rfl (Za 1 rfl rfl) rfl ?_; clear T ac; intro ac T
   refine wpList_nil ?_
   replace T := T.pick [0, 1, 11, 12, 13, 14, 15, 16, 17, 18, 19] rfl
   refine Zns ?_
   refine Zsr ?_
   refine Zg2 T (Zq (Zrm rfl (T.e 0 rfl))) rfl (fun _ T => Zq (rn_not rfl (T.e 0 rfl))) rfl ?_; clear T ac; intro ac T
   refine wpList_nil ?_
   replace T := T.pick [0, 3, 4, 5, 6, 7, 8, 9, 10, 11, 12] rfl
   refine nm_then ?_
   refine wp_cond_split (T.e 0 rfl) ?_ ?_
   ·intro h8
    (have h8' := h8; try simp only [Zb1, Zb2, Zb3, Zb4, Zb5, Zb6, Zb7] at h8')
    refine wp_exit ?_
    refine Zet ?_
    refine ex_hit ?_
    refine nm_then ?_
    refine wp_region_lit ?_
    refine Zg2 T (Zq (Zrm rfl (T.e 10 rfl))) rfl (fun _ T => Zq (rn_add rfl (T.e 0 rfl) evc (by omega))) rfl ?_; clear T ac; intro ac T
    refine l_q (v := (.int .i64 ((z : Int) + 1))) (T.pick [0, 1, 2, 3, 4, 5, 6, 7, 8, 9, 10, 11] rfl) rfl rfl rfl rfl (Zra rfl (T.e 0 rfl)) ?_; clear T ac; intro ac T
    refine wpList_nil ?_
    replace T := T.pick [0, 6, 7, 8, 9, 10, 11, 12] rfl
    refine nm_then ?_
    exact ⟨_, by omega, z + 1, rfl, (by omega), (by omega), (no8_succ H2 (by rw [hpr]; simp_all)), T.pick [1, 2, 3, 4, 5, 6, 7, 0] rfl, ((M.permT [0, 1, 2, 3] 4 rfl rfl rfl rfl).sub (Zsl ([(g5, .cells [.int .i64 ((halB b (k : Int)).x), .int .i64 ((halB b (k : Int)).y), .int .i64 ((halB b (k : Int)).lo), .int .i64 ((halB b (k : Int)).wi)]), (g4, .cells [.int .i64 ((halA b (k : Int)).x), .int .i64 ((halA b (k : Int)).y), .int .i64 ((halA b (k : Int)).lo), .int .i64 ((halA b (k : Int)).wi)]), (g2, .cells [.int .i64 b.x, .int .i64 b.y, .int .i64 b.lo, .int .i64 b.wi]), (g1, .cells [.int .i64 s.lo, .int .i64 s.wi, .int .i64 s.a0, .int .i64 s.a1, .int .i64 s.c0, .int .i64 s.c1, .slice A s.ps.length d])] : List (Nat × BA)) _))⟩
   intro h8
   (have h8' := h8; try simp only [Zb1, Zb2, Zb3, Zb4, Zb5, Zb6, Zb7] at h8')
   refine Zsk ?_
   refine Zsr ?_
   refine lq T (Zra rfl evc) ?_; clear T ac; intro ac T
   refine wpList_nil ?_
   replace T := T.pick [0, 2, 3, 4, 11] rfl
   replace M := M.mask [false, false, false, false] rfl
   replace M : Mem w noEx wc ((Ia ++ Ib ++ IPu2 ++ IPu3)) := M
   refine Zns ?_
   refine Zsr ?_
   refine lq T (Zra rfl evc) ?_; clear T ac; intro ac T
   refine Zln ?_
   refine wp_block ?_
   obtain ⟨hpA, hpB⟩ : can8 (cutA s su) (cutC s su) (gP s AL) (halA b k) = true ∧ can8 (cutA s su) (cutC s su) (gP s BL) (halB b k) = true := by simp_all
   obtain ⟨hplyu2, hlxu2⟩ := hpyu2 hpA
   obtain ⟨hplyu3, hlxu3⟩ := hpyu3 hpB
   refine wp_loop_n (fun mz ac wc => ∃ (r : Nat) (OL : List Spt) (A5 : Option Addr) (c5 : Nat) (AX : Option Addr) (XR : List Spt) (nX bX oX : Nat) (AY : Option Addr) (YR : List Spt) (nY bY oY : Nat) (Io : List (Nat × BA)), mz = g.length - r ∧ (r ≤ g.length) ∧ (OL.length = r) ∧ (OL ++ mrg (g.length - r) (z / 2 ^ r) XR YR = mrg g.length z XLu2 XLu3) ∧ (XR.length = cntP (g.length - r) (z / 2 ^ r)) ∧ (XR.length + YR.length = g.length - r) ∧ (XR.length ≤ nX) ∧ (YR.length ≤ nY) ∧ (Sp w noEx IPu2 AX XR.length 3 bX oX (tc XR)) ∧ (Sp w noEx IPu3 AY YR.length 3 bY oY (tc YR)) ∧ (Sl 30 3 (.slice A5 OL.length c5) OL.length (tc OL) Io) ∧ Tm ac 145 [(1, .slice G g.length n), (15, .int .i64 (z : Int)), (19, .slice AX XR.length nX), (21, .slice AY YR.length nY), (22, .slice A5 OL.length c5), (23, .int .i64 (r : Int))] ∧ Mem w noEx wc ((Ia ++ Ib ++ IPu2 ++ IPu3 ++ Io))) ?_ ?_
   ·exact ⟨_, 0, [], none, 0, APu2, XLu2, nPu2, bPu2, oPu2, APu3, XLu3, nPu3, bPu3, oPu3, [], rfl, (Nat.zero_le _), rfl, (by rw [Nat.sub_zero, Nat.pow_zero, Nat.div_one]; rfl), (by rw [Nat.sub_zero, Nat.pow_zero, Nat.div_one]; omega), (by omega), (by omega), (by omega), SPu2, SPu3, (Sl.nil _ _), T.pick [4, 5, 3, 2, 1, 0] rfl, (by simp only [List.append_nil]; exact M)⟩
   clear T M
   rintro mz ac wc ⟨r, OL, A5, c5, AX, XR, nX, bX, oX, AY, YR, nY, bY, oY, Io, hmm4, hi, hOi, hO, hXl, hYl, hcX, hcY, SXR, SYR, hsl, T, M⟩
   refine wp_seq ?_
   refine Zsr ?_
   refine Zg4 T (Zq (Zrm rfl (T.e 5 rfl))) rfl (Zm 1 rfl rfl) rfl (Zl Tryd.underlying27 0 rfl rfl) rfl (fun _ T => Zq (rn_lss rfl (T.e 2 rfl) (T.e 0 rfl))) rfl ?_; clear T ac; intro ac T
   refine wpList_nil ?_
   replace T := T.pick [0, 4, 5, 6, 7, 8, 9] rfl
   refine nm_then ?_
   refine wp_if (T.e 0 rfl) ?_ ?_
   ·intro h9
    have hcs := cnt_step (m := g.length) (i := r) (z := z) (by omega)
    have hcl := cntP_le (g.length - (r + 1)) (z / 2 ^ (r + 1))
    have hb8 := bit8 r (by omega) z (by omega)
    obtain ⟨bt, hbt⟩ : ∃ bt : Nat, bt = z / 2 ^ r % 2 := ⟨_, rfl⟩
    rw [← hbt] at hb8 hcs
    refine Zsk ?_
    refine wp_seq ?_
    refine wp_block ?_
    refine Zsr ?_
    refine Zg5 T (Zq (Zrm rfl (T.e 2 rfl))) rfl (Zm 7 rfl rfl) rfl (fun _ T => Zq (rn_shr rfl (T.e 1 rfl) (T.e 0 rfl) (by omega))) rfl (fun _ T => Zq (rn_and rfl (T.e 0 rfl) evc)) rfl (fun _ T => Zq (rn_eql rfl (T.e 0 rfl) evc)) rfl ?_; clear T ac; intro ac T
    refine wpList_nil ?_
    replace T := T.pick [0, 6, 7, 8, 9, 10, 11] rfl
    refine nm_then ?_
    refine wp_if (T.e 0 rfl) ?_ ?_
    ·intro h10
     obtain ⟨q1, hq1⟩ : ∃ q, XR[0]? = some q := ⟨_, List.getElem?_eq_getElem (show 0 < XR.length by omega)⟩
     refine Zgs M (M.sub (Zsl _ _)) 10 (by kernel_rfl) rfl (by kernel_rfl) ?_
     clear M; intro wc M
     refine gq T 0 1 rfl (fun _ _ _ _ _ => (Zrm rfl (T.e 5 rfl))) ?_; clear T ac; intro ac T
     refine gq T 1 3 rfl (fun _ _ _ _ _ => (Zrm rfl (T.e 4 rfl))) ?_; clear T ac; intro ac T
     refine gq T 2 7 rfl (fun _ _ _ _ _ => (Zri (size := 3) 0 rfl (T.e 0 rfl) evc ⟨_, Tryd.underlying28, by kernel_rfl⟩ rfl (by omega) (SXR.at0 (by omega)))) ?_; clear T ac; intro ac T
     refine gq (v := (.agg #[.int .i64 q1.x, .int .i64 q1.y, .bool q1.t])) T 3 15 rfl (fun B w' hD hl hS => (rn_rowat (Sp.tcR SXR (show Mem w noEx w' _ from hS) (subL (Zsq _ _)) hq1) rfl (T.e 0 rfl) rfl)) ?_; clear T ac; intro ac T
     refine gq T 6 79 rfl (fun _ _ _ _ _ => (Zrm rfl (T.e 7 rfl))) ?_; clear T ac; intro ac T
     refine gq T 7 207 rfl (fun _ _ _ _ _ => (rn_slice (size := 3) (l := 1) (h := XR.length) rfl Tryd.underlying28 (by kernel_rfl) (T.e 0 rfl) evc rfl (by omega) (by omega))) ?_; clear T ac; intro ac T
     obtain ⟨Aq1, hAq1⟩ : ∃ q : Option Addr, q = (if nX = 1 then AX else Option.map (fun x : Addr => x.add (1 * 3)) AX) := ⟨_, rfl⟩
     rw [← hAq1] at T
     obtain ⟨lq1, hlq1⟩ : ∃ q, q = (XR.drop 1).take (XR.length - 1) := ⟨_, rfl⟩
     have nlq1 : lq1.length = XR.length - 1 := by rw [hlq1, List.length_take, List.length_drop]; (try simp only [List.length_cons, List.length_append, List.length_nil]); omega
     rw [← nlq1] at T
     have SAq1 : Sp w noEx IPu2 Aq1 lq1.length 3 bX (oX + 1 * 3) (tc lq1) := by rw [nlq1, hAq1, hlq1, ← tc_part]; exact SXR.sub (by omega) (by omega) (by omega)
     refine gw 4 223 ?_; intro K hK
     refine ow_bs (e := 30) [.int .i64 q1.x, .int .i64 q1.y, .bool q1.t] M T rfl rfl rfl rfl (.cons (T.e 2 rfl) .nil) (fun _ => by kernel_rfl) ?_; clear M T; intro g8 wc ac M T
     refine Zso hK _ _ ((M.mask [false] rfl).sub (Zsl _ _)) ?_; clear hK K
     refine gw 5 255 ?_; intro K hK
     refine ow_app (((g8, .cells [.int .i64 q1.x, .int .i64 q1.y, .bool q1.t]) :: (Ia ++ Ib ++ IPu2 ++ IPu3))) Tryd.info30 hsl M (by first | rfl | simp) T rfl rfl rfl rfl Tryd.underlying28 rfl rfl rfl (by omega) (T.e 6 rfl) (T.e 0 rfl) (Zne (i := 0) rfl) rfl rfl ?_; clear M T; intro ga3 cga3 wc ac M T
     refine Zso hK _ _ (M.mask [false, false] rfl) ?_; clear hK K
     refine g_q (v := (.slice (some ⟨ga3, 0, none⟩) (OL.length + 1) cga3)) (T := T.pick [0, 1, 2, 3, 4, 5, 6, 7, 8, 9, 10, 11, 12, 14] rfl) (i := 8) rfl (by kernel_rfl) (by kernel_rfl : (Zpb 10 255).setIfInBounds 8 true = Zpb 10 511) si_U (fun _ _ _ h => h) rfl rfl rfl rfl (fun _ _ _ _ _ => (Zra rfl (T.e 0 rfl))) ?_; clear T ac; intro ac T
     refine g_q (v := (.slice Aq1 lq1.length (nX - 1))) (T := T.pick [0, 1, 2, 3, 4, 5, 6, 7, 8, 9, 10, 11, 13, 14] rfl) (i := 9) rfl (by kernel_rfl) (by kernel_rfl : (Zpb 10 511).setIfInBounds 9 true = Zpb 10 1023) si_U (fun _ _ _ h => h) rfl rfl rfl rfl (fun _ _ _ _ _ => (Zra rfl (T.e 3 rfl))) ?_; clear T ac; intro ac T
     refine Zgd (by kernel_rfl) ?_
     replace T := T.pick [0, 1, 11, 12, 13, 14] rfl
     replace M := M.mask [true, false] rfl
     replace M : Mem w noEx wc ((ga3, .row 30 3 (OL.length + 1) ((tc OL) ++ [.int .i64 q1.x, .int .i64 q1.y, .bool q1.t]) cga3) :: (Ia ++ Ib ++ IPu2 ++ IPu3)) := M
     refine Znb ?_
     refine nm_then ?_
     refine wp_region_lit ?_
     refine Zg2 T (Zq (Zrm rfl (T.e 5 rfl))) rfl (fun _ T => Zq (rn_add rfl (T.e 0 rfl) evc (by omega))) rfl ?_; clear T ac; intro ac T
     refine l_q (v := (.int .i64 ((r : Int) + 1))) (T.pick [0, 1, 2, 3, 4, 5, 6] rfl) rfl rfl rfl rfl (Zra rfl (T.e 0 rfl)) ?_; clear T ac; intro ac T
     refine wpList_nil ?_
     replace T := T.pick [0, 3, 4, 5, 6, 7] rfl
     refine nm_then ?_
     have e9 : OL.length + 1 = (OL ++ [q1]).length := by simp
     have e8 : ((tc OL) ++ [.int .i64 q1.x, .int .i64 q1.y, .bool q1.t]) = tc (OL ++ [q1]) := by rw [← tc_snoc]
     rw [e9, e8] at M
     rw [e9] at T
     clear e9 e8
     have e7 : lq1 = XR.drop 1 := by rw [hlq1]; exact List.take_of_length_le (by simp)
     exact ⟨_, by omega, r + 1, (OL ++ [q1]), _, _, _, lq1, (nX - 1), _, _, _, YR, nY, _, _, [(ga3, .row 30 3 (OL ++ [q1]).length (tc (OL ++ [q1])) cga3)], rfl, (by omega), (by simp only [List.length_append, List.length_cons, List.length_nil]; omega), (by rw [e7, ← hO, mrg_stepX (by omega) (by omega) hq1, List.append_assoc]; rfl), (by omega), (by omega), (by omega), (by omega), SAq1, SYR, (Sl.row _ _ _ _ _ _), T.pick [3, 4, 1, 5, 2, 0] rfl, (Mem.swapI (I := [(ga3, .row 30 3 (OL ++ [q1]).length (tc (OL ++ [q1])) cga3)]) (L := ((Ia ++ Ib ++ IPu2 ++ IPu3))) (M.permT [0] 1 rfl rfl rfl rfl))⟩
    intro h10
    obtain ⟨q2, hq2⟩ : ∃ q, YR[0]? = some q := ⟨_, List.getElem?_eq_getElem (show 0 < YR.length by omega)⟩
    refine Zgs M (M.sub (Zsl _ _)) 10 (by kernel_rfl) rfl (by kernel_rfl) ?_
    clear M; intro wc M
    refine gq T 0 1 rfl (fun _ _ _ _ _ => (Zrm rfl (T.e 5 rfl))) ?_; clear T ac; intro ac T
    refine gq T 1 3 rfl (fun _ _ _ _ _ => (Zrm rfl (T.e 5 rfl))) ?_; clear T ac; intro ac T
    refine gq T 2 7 rfl (fun _ _ _ _ _ => (Zri (size := 3) 0 rfl (T.e 0 rfl) evc ⟨_, Tryd.underlying28, by kernel_rfl⟩ rfl (by omega) (SYR.at0 (by omega)))) ?_; clear T ac; intro ac T
    refine gq (v := (.agg #[.int .i64 q2.x, .int .i64 q2.y, .bool q2.t])) T 3 15 rfl (fun B w' hD hl hS => (rn_rowat (Sp.tcR SYR (show Mem w noEx w' _ from hS) (Zsq _ _) hq2) rfl (T.e 0 rfl) rfl)) ?_; clear T ac; intro ac T
    refine gq T 6 79 rfl (fun _ _ _ _ _ => (Zrm rfl (T.e 8 rfl))) ?_; clear T ac; intro ac T
    refine gq T 7 207 rfl (fun _ _ _ _ _ => (rn_slice (size := 3) (l := 1) (h := YR.length) rfl Tryd.underlying28 (by kernel_rfl) (T.e 0 rfl) evc rfl (by omega) (by omega))) ?_; clear T ac; intro ac T
    obtain ⟨Aq2, hAq2⟩ : ∃ q : Option Addr, q = (if nY = 1 then AY else Option.map (fun x : Addr => x.add (1 * 3)) AY) := ⟨_, rfl⟩
    rw [← hAq2] at T
    obtain ⟨lq2, hlq2⟩ : ∃ q, q = (YR.drop 1).take (YR.length - 1) := ⟨_, rfl⟩
    have nlq2 : lq2.length = YR.length - 1 := by rw [hlq2, List.length_take, List.length_drop]; (try simp only [List.length_cons, List.length_append, List.length_nil]); omega
    rw [← nlq2] at T
    have SAq2 : Sp w noEx IPu3 Aq2 lq2.length 3 bY (oY + 1 * 3) (tc lq2) := by rw [nlq2, hAq2, hlq2, ← tc_part]; exact SYR.sub (by omega) (by omega) (by omega)
    refine gw 4 223 ?_; intro K hK
    refine ow_bs (e := 30) [.int .i64 q2.x, .int .i64 q2.y, .bool q2.t] M T rfl rfl rfl rfl (.cons (T.e 2 rfl) .nil) (fun _ => by kernel_rfl) ?_; clear M T; intro g9 wc ac M T
    refine Zso hK _ _ ((M.mask [false] rfl).sub (Zsl _ _)) ?_; clear hK K
    refine gw 5 255 ?_; intro K hK
    refine ow_app (((g9, .cells [.int .i64 q2.x, .int .i64 q2.y, .bool q2.t]) :: (Ia ++ Ib ++ IPu2 ++ IPu3))) Tryd.info30 hsl M (by first | rfl | simp) T rfl rfl rfl rfl Tryd.underlying28 rfl rfl rfl (by omega) (T.e 6 rfl) (T.e 0 rfl) (Zne (i := 0) rfl) rfl rfl ?_; clear M T; intro ga4 cga4 wc ac M T
    refine Zso hK _ _ (M.mask [false, false] rfl) ?_; clear hK K
    refine g_q (v := (.slice (some ⟨ga4, 0, none⟩) (OL.length + 1) cga4)) (T := T.pick [0, 1, 2, 3, 4, 5, 6, 7, 8, 9, 10, 11, 12, 14] rfl) (i := 8) rfl (by kernel_rfl) (by kernel_rfl : (Zpb 10 255).setIfInBounds 8 true = Zpb 10 511) si_U (fun _ _ _ h => h) rfl rfl rfl rfl (fun _ _ _ _ _ => (Zra rfl (T.e 0 rfl))) ?_; clear T ac; intro ac T
    refine g_q (v := (.slice Aq2 lq2.length (nY - 1))) (T := T.pick [0, 1, 2, 3, 4, 5, 6, 7, 8, 9, 10, 11, 12, 14] rfl) (i := 9) rfl (by kernel_rfl) (by kernel_rfl : (Zpb 10 511).setIfInBounds 9 true = Zpb 10 1023) si_U (fun _ _ _ h => h) rfl rfl rfl rfl (fun _ _ _ _ _ => (Zra rfl (T.e 3 rfl))) ?_; clear T ac; intro ac T
    refine Zgd (by kernel_rfl) ?_
    replace T := T.pick [0, 1, 11, 12, 13, 14] rfl
    replace M := M.mask [true, false] rfl
    replace M : Mem w noEx wc ((ga4, .row 30 3 (OL.length + 1) ((tc OL) ++ [.int .i64 q2.x, .int .i64 q2.y, .bool q2.t]) cga4) :: (Ia ++ Ib ++ IPu2 ++ IPu3)) := M
    refine Znb ?_
    refine nm_then ?_
    refine wp_region_lit ?_
    refine Zg2 T (Zq (Zrm rfl (T.e 5 rfl))) rfl (fun _ T => Zq (rn_add rfl (T.e 0 rfl) evc (by omega))) rfl ?_; clear T ac; intro ac T
    refine l_q (v := (.int .i64 ((r : Int) + 1))) (T.pick [0, 1, 2, 3, 4, 5, 6] rfl) rfl rfl rfl rfl (Zra rfl (T.e 0 rfl)) ?_; clear T ac; intro ac T
    refine wpList_nil ?_
    replace T := T.pick [0, 3, 4, 5, 6, 7] rfl
    refine nm_then ?_
    have e9 : OL.length + 1 = (OL ++ [q2]).length := by simp
    have e8 : ((tc OL) ++ [.int .i64 q2.x, .int .i64 q2.y, .bool q2.t]) = tc (OL ++ [q2]) := by rw [← tc_snoc]
    rw [e9, e8] at M
    rw [e9] at T
    clear e9 e8
    have e7 : lq2 = YR.drop 1 := by rw [hlq2]; exact List.take_of_length_le (by simp)
    exact ⟨_, by omega, r + 1, (OL ++ [q2]), _, _, _, XR, nX, _, _, _, lq2, (nY - 1), _, _, [(ga4, .row 30 3 (OL ++ [q2]).length (tc (OL ++ [q2])) cga4)], rfl, (by omega), (by simp only [List.length_append, List.length_cons, List.length_nil]; omega), (by rw [e7, ← hO, mrg_stepY (by omega) (by omega) hq2, List.append_assoc]; rfl), (by omega), (by omega), (by omega), (by omega), SXR, SAq2, (Sl.row _ _ _ _ _ _), T.pick [3, 4, 5, 1, 2, 0] rfl, (Mem.swapI (I := [(ga4, .row 30 3 (OL ++ [q2]).length (tc (OL ++ [q2])) cga4)]) (L := ((Ia ++ Ib ++ IPu2 ++ IPu3))) (M.permT [0] 1 rfl rfl rfl rfl))⟩
   intro h9
   have hOf : OL = mrg g.length z XLu2 XLu3 := by rw [← hO, show g.length - r = 0 by omega]; exact (List.append_nil _).symm
   refine wp_exit ?_
   refine Zet ?_
   refine Zet ?_
   refine ex_hit ?_
   refine nm_then ?_
   refine Zsr ?_
   refine Zg3 T (Zq (Zrm rfl (T.e 5 rfl))) rfl (Za 0 rfl rfl) rfl (Zc rfl) rfl ?_; clear T ac; intro ac T
   refine wpList_nil ?_
   replace T := T.pick [0, 1] rfl
   refine Znr ?_
   refine Zrb ?_
   refine Zrt ?_
   refine Zrt ?_
   refine Zrb ?_
   refine Zrb ?_
   refine Zrt ?_
   refine Zrt ?_
   refine Zrb ?_
   refine Zrt ?_
   refine rt_2 T rfl (T.e 1 rfl) (T.e 0 rfl) ?_
   have hcan := can8_of (s := s) hgl5 (by omega) ⟨hb1, hb2, hb3, hb4⟩ hk0 (by omega) hz0 (by omega) (by rw [hpr, hpA, hpB]; rfl)
   obtain ⟨b9, o9, h9⟩ := hsl.spV (tc_length _)
   have hcap := hsl.capLe M (Zsq _ _)
   unfold PlyPost
   rw [hcan]
   refine ⟨A5, c5, OL, Io, rfl, hcap, by rw [gP_len]; omega, fun _ => ⟨?_, by rw [gP_len]; omega⟩, ⟨b9, o9, h9⟩, M.sub (Zsq _ _)⟩
   rw [hOf]
   exact ply_cut (by omega) hk0 (by omega) hz0 (by omega) (by rw [hpr, hpA, hpB]; rfl) H2 (by rw [← hA]; exact hplyu2) (by rw [← hB]; exact hplyu3)
  intro h4
  refine wp_exit ?_
  refine Zet ?_
  refine Zet ?_
  refine ex_hit ?_
  refine Znb ?_
  refine nm_then ?_
  refine wp_region_lit ?_
  refine Zg2 T (Zq (Zrm rfl (T.e 5 rfl))) rfl (fun _ T => Zq (rn_add rfl (T.e 0 rfl) evc (by omega))) rfl ?_; clear T ac; intro ac T
  refine l_q (v := (.int .i64 ((k : Int) + 1))) (T.pick [0, 1, 2, 3, 4, 5, 6, 8, 9, 10] rfl) rfl rfl rfl rfl (Zra rfl (T.e 0 rfl)) ?_; clear T ac; intro ac T
  refine wpList_nil ?_
  replace T := T.pick [0, 4, 5, 6, 7] rfl
  replace M := M.mask [false, false, true, true] rfl
  refine nm_then ?_
  exact ⟨_, by omega, k + 1, rfl, (by omega), (by omega), (no8_next H2 (by rw [gP_len]; omega)), T.pick [1, 2, 3, 4, 0] rfl, M⟩
 intro h3
 have hno := can8_not (by rw [gP_len]; exact hgl5) (by rw [gP_len]; omega) (by omega) (by omega) (by omega) H
 refine wp_exit ?_
 refine Zet ?_
 refine Zet ?_
 refine ex_hit ?_
 refine nm_then ?_
 refine Zsr ?_
 refine Zg2 T (Zq (Zra rfl evc)) rfl (Zc rfl) rfl ?_; clear T ac; intro ac T
 refine wpList_nil ?_
 replace T := T.pick [0, 1] rfl
 replace M := M.mask [false, false] rfl
 refine Znr ?_
 refine rt_2 T rfl (T.e 1 rfl) (T.e 0 rfl) ?_
 unfold PlyPost
 rw [hno]
 exact ⟨none, 0, [], [], rfl, Nat.le_refl _, Nat.zero_le _, fun h9 => (by cases h9), ⟨0, 0, fun _ _ => Sp.nil⟩, M.sub (List.nil_sublist _)⟩
theorem ply_any (s : Sk) (A : Option Addr) (d : Nat) (su : Bool) (hsg : s.good) : ∀ m : Nat, PlySpec s A d su m
 | 0 => fun g G n b w h => by omega
 | m + 1 => fun g G n b w h hgl5 hgi hb hA hG => ply_step s A d su m g G n b w hsg (ply_any s A d su hsg m) h hgl5 hgi hb hA hG
theorem Tryd.info94 : (Tryd.prog.info? 94).map (fun i => (i.zero, i.size, i.bytes)) = some (some (.agg #[.int .i64 0, .int .i64 0, .int .i64 0, .int .i64 0]), 4, 32) := by kernel_rfl
def bcE (p : Bo) : List Value := [.int .i64 p.x, .int .i64 p.y, .int .i64 p.lo, .int .i64 p.wi]
def bc (l : List Bo) : List Value := l.flatMap bcE
theorem bc_length (l : List Bo) : (bc l).length = l.length * 4 := by
 induction l with
 | nil => rfl
 | cons x l ih =>
  show (bcE x ++ bc l).length = _
  rw [List.length_append, ih, List.length_cons]
  show 4 + _ = _
  omega
theorem bc_get : ∀ (l : List Bo) (k : Nat) {x : Bo}, l[k]? = some x → ∀ (i : Nat) (v : Value), (bcE x)[i]? = some v → (bc l)[k * 4 + i]? = some v
 | [], k, x, h => by simp at h
 | y :: l, 0, x, h => by
  intro i v hv
  simp only [List.getElem?_cons_zero, Option.some.injEq] at h
  subst h
  show (bcE y ++ bc l)[0 * 4 + i]? = some v
  rw [Nat.zero_mul, Nat.zero_add, List.getElem?_append_left (List.getElem?_eq_some_iff.1 hv).1]
  exact hv
 | y :: l, k + 1, x, h => by
  intro i v hv
  have := bc_get l k (by simpa using h) i v hv
  show (bcE y ++ bc l)[(k + 1) * 4 + i]? = some v
  have e : (bcE y).length = 4 := rfl
  rw [List.getElem?_append_right (by rw [e]; omega), e, show (k + 1) * 4 + i - 4 = k * 4 + i by omega]
  exact this
theorem bc_snoc (l : List Bo) (p : Bo) : bc l ++ [.int .i64 p.x, .int .i64 p.y, .int .i64 p.lo, .int .i64 p.wi] = bc (l ++ [p]) := by simp [bc, bcE]
theorem bc_next {l : List Bo} {k : Nat} (h : k < l.length) : ∃ x, l[k]? = some x ∧ l.drop k = x :: l.drop (k + 1) := ⟨l[k], List.getElem?_eq_getElem h, List.drop_eq_getElem_cons h⟩
section
variable {w w' : World} {ex : Nat → Prop} {I L : List (Nat × BA)} {n b o k : Nat} {A : Option Addr} {l : List Bo} {p : Bo}
theorem Sp.bcA (S : Sp w ex I A n 4 b o (bc l)) (M : Mem w ex w' L) (hI : I.Sublist L) (h : l[k]? = some p) (f : Nat) (v : Value) (hv : (bcE p)[f]? = some v) : w'.cell? ⟨b, o + k * 4 + f, none⟩ = some v := by
 have := S.cell w' L M hI _ _ (bc_get l k h f v hv)
 rwa [← Nat.add_assoc] at this
theorem Sp.bcR (S : Sp w ex I A n 4 b o (bc l)) (M : Mem w ex w' L) (hI : I.Sublist L) (h : l[k]? = some p) : w'.rangeAt b (o + k * 4) [.int .i64 p.x, .int .i64 p.y, .int .i64 p.lo, .int .i64 p.wi] := fun j v hv => S.bcA M hI h j v hv
end
theorem b8A_snoc {l : List Bo} {k : Nat} {x : Bo} {one : Bo} (h : l[k]? = some x) : b8A (l.take (k + 1)) one = b8A (l.take k) one ++ if insB x one = true then [x] else [] := by
 rw [List.take_add_one, h, b8A, List.filter_append]
 congr 1
 by_cases h1 : insB x one = true <;> simp [h1]
theorem b8B_snoc {l : List Bo} {k : Nat} {x : Bo} {one two : Bo} (h : l[k]? = some x) : b8B (l.take (k + 1)) one two = b8B (l.take k) one two ++ if (!insB x one && insB x two) = true then [x] else [] := by
 rw [List.take_add_one, h, b8B, List.filter_append]
 congr 1
 by_cases h1 : (!insB x one && insB x two) = true <;> simp [h1]
def Saw8Spec (m : Nat) : Prop := ∀ (l : List Bo) (L : Option Addr) (n : Nat) (b : Bo) (w : World), l.length < m → l.length ≤ 1000000 → (∀ x ∈ l, x.few) → b.ok → Rd w w.heap.size 4 L l.length (bc l) → Calls Tryd.prog 79 #[.agg #[.int .i64 b.x, .int .i64 b.y, .int .i64 b.lo, .int .i64 b.wi], .slice L l.length n] w (fun e w' => e = .returned (.bool (sw8 l b)) ∧ Below w.heap.size w w')
set_option maxHeartbeats 4000000 in
theorem saw8_step (m : Nat) (b : Bo) (L : Option Addr) (n : Nat) (l : List Bo)  (w : World) (ih : Saw8Spec m) (hm : l.length < m + 1) (nL : l.length ≤ 1000000) (hl : ∀ x ∈ l, x.few) (hb : b.ok) (hL : Rd w w.heap.size 4 L l.length (bc l))  :
   Calls Tryd.prog 79 #[.agg #[.int .i64 b.x, .int .i64 b.y, .int .i64 b.lo, .int .i64 b.wi], .slice L l.length n] w fun e w' => e = .returned (.bool (sw8 l b)) ∧ Below w.heap.size w w' := by
 obtain ⟨bL, oL, SL⟩ := Sp.old hL
 obtain ⟨hb1, hb2, hb3, hb4⟩ := id hb
 refine Zpx noEx Tryd.func79 rfl 91 rfl [.agg #[.int .i64 b.x, .int .i64 b.y, .int .i64 b.lo, .int .i64 b.wi], .slice L l.length n] rfl rfl (Mem.init w _) ?_
 intro ac wc T M
 refine Zsr ?_
 refine Zl2 ?_
 refine Zob M T rfl rfl rfl rfl (T.e 0 rfl) rfl ?_; clear M T; intro g1 wc ac M T
 refine lq T (Zra rfl evc) ?_; clear T ac; intro ac T
 refine wpList_nil ?_
 replace T := T.pick [1, 3] rfl
 refine Zns ?_
 refine Zsr ?_
 refine Zg3 T (Zq (Zrm rfl (T.e 1 rfl))) rfl (Zl Tryd.underlying111 0 rfl rfl) rfl (fun _ T => Zq (rn_lss rfl (T.e 0 rfl) evc)) rfl ?_; clear T ac; intro ac T
 refine wpList_nil ?_
 replace T := T.pick [0, 3, 4] rfl
 refine nm_then ?_
 refine wp_if (T.e 0 rfl) ?_ ?_
 ·intro h1
  refine Zsr ?_
  refine lq T (Zra rfl evc) ?_; clear T ac; intro ac T
  refine wpList_nil ?_
  replace T := T.pick [0] rfl
  replace M := M.mask [false] rfl
  refine Znr ?_
  refine Zrt ?_
  refine rt_1 T rfl (T.e 0 rfl) ?_
  exact ⟨ret_bool (sw8_few (by omega)).symm, M.below⟩
 intro h1
 refine Zsk ?_
 refine wp_seq ?_
 refine Zsr ?_
 refine lq T (Zra rfl evc) ?_; clear T ac; intro ac T
 refine wpList_nil ?_
 replace T := T.pick [0, 2, 3] rfl
 refine nm_then ?_
 refine wp_block ?_
 refine wp_loop_n (fun mz ac wc => ∃ (k : Nat), mz = 100 - k ∧ (0 < k) ∧ ((k : Int) ≤ b.lo - 1 + b.wi - 1 + 1) ∧ (nos8 l b k) ∧ Tm ac 91 [(1, .slice L l.length n), (2, .pointer (some ⟨g1, 0, none⟩)), (5, .int .i64 (k : Int))] ∧ Mem w noEx wc [(g1, .cells [.int .i64 b.x, .int .i64 b.y, .int .i64 b.lo, .int .i64 b.wi])]) ?_ ?_
 ·exact ⟨_, 1, rfl, (by omega), (by omega), nos8_one, T.pick [2, 1, 0] rfl, M.mask [true] rfl⟩
 clear T M
 rintro mz ac wc ⟨k, hmm1, hk0, hk1, H, T, M⟩
 refine wp_seq ?_
 refine Zsr ?_
 refine Zg8 (v2 := (.pointer (some ⟨g1, 2, none⟩))) (v5 := (.pointer (some ⟨g1, 3, none⟩))) T (Zq (Zrm rfl (T.e 2 rfl))) rfl (Zf 2 2 rfl rfl) rfl (Zo M 0 0 rfl rfl rfl rfl) rfl (fun _ T => Zq (rn_sub rfl (T.e 0 rfl) evc (by omega))) rfl (Zf 3 5 rfl rfl) rfl (Zo M 0 0 rfl rfl rfl rfl) rfl (fun _ T => Zq (rn_add rfl (T.e 2 rfl) (T.e 0 rfl) (by omega))) rfl (fun _ T => Zq (rn_sub rfl (T.e 0 rfl) evc (by omega))) rfl ?_; clear T ac; intro ac T
 refine lq T (rn_leq rfl (T.e 7 rfl) (T.e 0 rfl)) ?_; clear T ac; intro ac T
 refine wpList_nil ?_
 replace T := T.pick [0, 9, 10, 11] rfl
 refine nm_then ?_
 refine wp_if (T.e 0 rfl) ?_ ?_
 ·intro h2
  have hok9 := halA_ok hb (k := (k : Int)) (by omega) (by omega)
  refine Zsk ?_
  refine wp_seq ?_
  refine wp_block ?_
  refine Zsr ?_
  refine Zg2 T (Zq (Zrr (Mem.nth M 0 rfl) rfl (T.e 2 rfl) rfl)) rfl (Zm 4 rfl rfl) rfl ?_; clear T ac; intro ac T
  refine Zl2 ?_
  refine Zoc (first := []) (cap := []) T rfl rfl rfl rfl evf (.cons (T.e 1 rfl) (.cons (T.e 0 rfl) .nil)) Tryd.func98 rfl rfl ?_
  refine Calls.mono (halves8_any b (k : Int) _ hb.few (by omega)) ?_
  clear T; rintro e wc ⟨rfl, hb⟩ ac T
  replace M := M.call hb; clear hb
  refine Zg3 T (Zq (Zrm rfl (T.e 0 rfl))) rfl (Ze 0 rfl rfl rfl) rfl (Ze 1 rfl rfl rfl) rfl ?_; clear T ac; intro ac T
  refine Zl2 ?_
  refine Zoa M T rfl rfl rfl rfl ?_; clear M T; intro g2 wc ac M T
  refine Zl2 ?_
  refine Zoa M T rfl rfl rfl rfl ?_; clear M T; intro g3 wc ac M T
  refine Zl2 ?_
  refine Zos M T rfl rfl (T.e 1 rfl) (T.e 3 rfl) rfl (.tail .head) rfl (by simp) rfl (by kernel_rfl) ?_; clear M T; intro wc ac M T
  refine Zl2 ?_
  refine Zos M T rfl rfl (T.e 0 rfl) (T.e 2 rfl) rfl .head rfl (by simp) rfl (by kernel_rfl) ?_; clear M T; intro wc ac M T
  refine wpList_nil ?_
  replace T := T.pick [0, 1, 9, 10, 11] rfl
  refine nm_then ?_
  refine Zsr ?_
  refine Zg2 T (Zq (Zra rfl evc)) rfl (Zc rfl) rfl ?_; clear T ac; intro ac T
  refine Zln ?_
  refine wp_seq ?_
  refine Zsr ?_
  refine lq T (Zra rfl evc) ?_; clear T ac; intro ac T
  refine Zln ?_
  refine wp_block ?_
  refine wp_loop_n (fun mz ac wc => ∃ (i : Nat) (AL BL : List Bo) (A3 : Option Addr) (c3 : Nat) (A4 : Option Addr) (c4 : Nat) (Ia Ib : List (Nat × BA)), mz = l.length - i ∧ (i ≤ l.length) ∧ (AL = b8A (l.take i) (halA b (k : Int))) ∧ (BL = b8B (l.take i) (halA b (k : Int)) (halB b (k : Int))) ∧ (AL.length ≤ i) ∧ (BL.length ≤ i) ∧ (Sl 94 4 (.slice A3 AL.length c3) AL.length (bc AL) Ia) ∧ (Sl 94 4 (.slice A4 BL.length c4) BL.length (bc BL) Ib) ∧ Tm ac 91 [(1, .slice L l.length n), (2, .pointer (some ⟨g1, 0, none⟩)), (5, .int .i64 (k : Int)), (6, .pointer (some ⟨g2, 0, none⟩)), (7, .pointer (some ⟨g3, 0, none⟩)), (8, .slice A3 AL.length c3), (9, .slice A4 BL.length c4), (10, .int .i64 (i : Int))] ∧ Mem w noEx wc ((g3, .cells [.int .i64 ((halB b (k : Int)).x), .int .i64 ((halB b (k : Int)).y), .int .i64 ((halB b (k : Int)).lo), .int .i64 ((halB b (k : Int)).wi)]) :: (g2, .cells [.int .i64 ((halA b (k : Int)).x), .int .i64 ((halA b (k : Int)).y), .int .i64 ((halA b (k : Int)).lo), .int .i64 ((halA b (k : Int)).wi)]) :: (g1, .cells [.int .i64 b.x, .int .i64 b.y, .int .i64 b.lo, .int .i64 b.wi]) :: (Ia ++ Ib))) ?_ ?_
  ·exact ⟨_, 0, [], [], none, 0, none, 0, [], [], rfl, (Nat.zero_le _), rfl, rfl, (Nat.le_refl _), (Nat.le_refl _), (Sl.nil _ _), (Sl.nil _ _), T.pick [5, 6, 7, 4, 3, 2, 1, 0] rfl, M.mask [true, true, true] rfl⟩
  clear T M
  rintro mz ac wc ⟨i, AL, BL, A3, c3, A4, c4, Ia, Ib, hmm2, hi, hA, hB, hAl, hBl, hslA, hslB, T, M⟩
  refine wp_seq ?_
  refine Zsr ?_
  refine Zg4 T (Zq (Zrm rfl (T.e 7 rfl))) rfl (Zm 1 rfl rfl) rfl (Zl Tryd.underlying111 0 rfl rfl) rfl (fun _ T => Zq (rn_lss rfl (T.e 2 rfl) (T.e 0 rfl))) rfl ?_; clear T ac; intro ac T
  refine wpList_nil ?_
  replace T := T.pick [0, 4, 5, 6, 7, 8, 9, 10, 11] rfl
  refine nm_then ?_
  refine wp_if (T.e 0 rfl) ?_ ?_
  ·intro h3
   obtain ⟨x, hkx, -⟩ := bc_next (l := l) (k := i) (by omega)
   have hxf := hl x (List.mem_of_getElem? hkx)
   refine Zsk ?_
   refine wp_seq ?_
   refine wp_block ?_
   refine wp_seq ?_
   refine Zgs M (M.mask [true, true, true] rfl) 6 (by kernel_rfl) rfl (by kernel_rfl) ?_
   clear M; intro wc M
   refine gq T 0 1 rfl (fun _ _ _ _ _ => (Zrm rfl (T.e 1 rfl))) ?_; clear T ac; intro ac T
   refine gq T 1 3 rfl (fun _ _ _ _ _ => (Zrm rfl (T.e 9 rfl))) ?_; clear T ac; intro ac T
   refine gq T 2 7 rfl (fun _ _ _ _ _ => (Zri (size := 4) i rfl (T.e 1 rfl) (T.e 0 rfl) ⟨_, Tryd.underlying111, by kernel_rfl⟩ rfl (by omega) (SL.at0 (by omega)))) ?_; clear T ac; intro ac T
   refine gq (v := (.agg #[.int .i64 x.x, .int .i64 x.y, .int .i64 x.lo, .int .i64 x.wi])) T 3 15 rfl (fun B w' hD hl hS => (rn_rowat (Sp.bcR SL (show Mem w noEx w' _ from hS) (List.nil_sublist _) hkx) rfl (T.e 0 rfl) rfl)) ?_; clear T ac; intro ac T
   refine gq T 4 31 rfl (fun B w' hD hl hS => (Zrr (Mem.nth (show Mem w noEx w' _ from hS) 1 rfl) rfl (T.e 8 rfl) rfl)) ?_; clear T ac; intro ac T
   refine gw 5 63 ?_; intro K hK
   refine Zoc (first := []) (cap := []) T rfl rfl rfl rfl evf (.cons (T.e 1 rfl) (.cons (T.e 0 rfl) .nil)) Tryd.func77 rfl rfl ?_
   refine Calls.mono (inside8_any x (halA b (k : Int)) _ hxf hok9.1.few) ?_
   clear T; rintro e wc ⟨rfl, hb⟩ ac T
   replace M := M.call hb; clear hb
   refine Zso hK _ _ (M.mask [true, true, true] rfl) ?_; clear hK K
   refine Zgd (by kernel_rfl) ?_
   replace T := T.pick [0, 7, 8, 9, 10, 11, 12, 13, 14] rfl
   refine nm_then ?_
   refine wp_cond_split (T.e 0 rfl) ?_ ?_
   ·intro h4
    refine wp_region_lit ?_
    refine Zg5 (v5 := (.agg #[.int .i64 x.x, .int .i64 x.y, .int .i64 x.lo, .int .i64 x.wi])) T (Zq (Zrm rfl (T.e 6 rfl))) rfl (Zm 2 rfl rfl) rfl (Zm 10 rfl rfl) rfl (fun _ T => Zq (Zri (size := 4) i rfl (T.e 1 rfl) (T.e 0 rfl) ⟨_, Tryd.underlying111, by kernel_rfl⟩ rfl (by omega) (SL.at0 (by omega)))) rfl (fun _ T => Zq (rn_rowat (Sp.bcR SL M (List.nil_sublist _) hkx) rfl (T.e 0 rfl) rfl)) rfl ?_; clear T ac; intro ac T
    refine Zl2 ?_
    refine ow_bs (e := 94) [.int .i64 x.x, .int .i64 x.y, .int .i64 x.lo, .int .i64 x.wi] M T rfl rfl rfl rfl (.cons (T.e 0 rfl) .nil) (fun _ => by kernel_rfl) ?_; clear M T; intro g4 wc ac M T
    refine Zl2 ?_
    replace M := Mem.swapU [(g4, .cells [.int .i64 x.x, .int .i64 x.y, .int .i64 x.lo, .int .i64 x.wi]), (g3, .cells [.int .i64 ((halB b (k : Int)).x), .int .i64 ((halB b (k : Int)).y), .int .i64 ((halB b (k : Int)).lo), .int .i64 ((halB b (k : Int)).wi)]), (g2, .cells [.int .i64 ((halA b (k : Int)).x), .int .i64 ((halA b (k : Int)).y), .int .i64 ((halA b (k : Int)).lo), .int .i64 ((halA b (k : Int)).wi)]), (g1, .cells [.int .i64 b.x, .int .i64 b.y, .int .i64 b.lo, .int .i64 b.wi])] Ia Ib M
    refine ow_app (((g4, .cells [.int .i64 x.x, .int .i64 x.y, .int .i64 x.lo, .int .i64 x.wi]) :: (g3, .cells [.int .i64 ((halB b (k : Int)).x), .int .i64 ((halB b (k : Int)).y), .int .i64 ((halB b (k : Int)).lo), .int .i64 ((halB b (k : Int)).wi)]) :: (g2, .cells [.int .i64 ((halA b (k : Int)).x), .int .i64 ((halA b (k : Int)).y), .int .i64 ((halA b (k : Int)).lo), .int .i64 ((halA b (k : Int)).wi)]) :: (g1, .cells [.int .i64 b.x, .int .i64 b.y, .int .i64 b.lo, .int .i64 b.wi]) :: Ib)) Tryd.info94 hslA M (by first | rfl | simp) T rfl rfl rfl rfl Tryd.underlying111 rfl rfl rfl (by omega) (T.e 5 rfl) (T.e 0 rfl) (Zne (i := 0) rfl) rfl rfl ?_; clear M T; intro ga1 cga1 wc ac M T
    refine l_q (v := (.slice (some ⟨ga1, 0, none⟩) (AL.length + 1) cga1)) (T.pick [0, 1, 2, 3, 4, 5, 6, 7, 8, 9, 10, 11, 12, 14, 15] rfl) rfl rfl rfl rfl (Zra rfl (T.e 0 rfl)) ?_; clear T ac; intro ac T
    refine wpList_nil ?_
    replace T := T.pick [0, 9, 10, 11, 12, 13, 14, 15] rfl
    replace M := M.mask [true, false, true, true, true] rfl
    refine Znb ?_
    refine nm_then ?_
    refine wp_region_lit ?_
    refine Zg2 T (Zq (Zrm rfl (T.e 7 rfl))) rfl (fun _ T => Zq (rn_add rfl (T.e 0 rfl) evc (by omega))) rfl ?_; clear T ac; intro ac T
    refine l_q (v := (.int .i64 ((i : Int) + 1))) (T.pick [0, 1, 2, 3, 4, 5, 6, 7, 8] rfl) rfl rfl rfl rfl (Zra rfl (T.e 0 rfl)) ?_; clear T ac; intro ac T
    refine wpList_nil ?_
    replace T := T.pick [0, 3, 4, 5, 6, 7, 8, 9] rfl
    refine nm_then ?_
    have e9 : AL.length + 1 = (AL ++ [x]).length := by simp
    have e8 : ((bc AL) ++ [.int .i64 x.x, .int .i64 x.y, .int .i64 x.lo, .int .i64 x.wi]) = bc (AL ++ [x]) := by rw [← bc_snoc]
    rw [e9, e8] at M
    rw [e9] at T
    clear e9 e8
    exact ⟨_, by omega, i + 1, (AL ++ [x]), BL, _, _, _, _, [(ga1, .row 94 4 (AL ++ [x]).length (bc (AL ++ [x])) cga1)], Ib, rfl, (by omega), (by rw [b8A_snoc hkx, ← hA, if_pos (by simp_all)]), (by rw [b8B_snoc hkx, ← hB, if_neg (by simp_all), List.append_nil]), (by simp only [List.length_append, List.length_cons, List.length_nil]; omega), (by omega), (Sl.row _ _ _ _ _ _), hslB, T.pick [2, 3, 4, 5, 6, 1, 7, 0] rfl, (M.permT [1, 2, 3, 0] 4 rfl rfl rfl rfl)⟩
   intro h4
   refine wp_seq ?_
   refine Zgs M (M.mask [true, true, true] rfl) 6 (by kernel_rfl) rfl (by kernel_rfl) ?_
   clear M; intro wc M
   refine gq T 0 1 rfl (fun _ _ _ _ _ => (Zrm rfl (T.e 1 rfl))) ?_; clear T ac; intro ac T
   refine gq T 1 3 rfl (fun _ _ _ _ _ => (Zrm rfl (T.e 9 rfl))) ?_; clear T ac; intro ac T
   refine gq T 2 7 rfl (fun _ _ _ _ _ => (Zri (size := 4) i rfl (T.e 1 rfl) (T.e 0 rfl) ⟨_, Tryd.underlying111, by kernel_rfl⟩ rfl (by omega) (SL.at0 (by omega)))) ?_; clear T ac; intro ac T
   refine gq (v := (.agg #[.int .i64 x.x, .int .i64 x.y, .int .i64 x.lo, .int .i64 x.wi])) T 3 15 rfl (fun B w' hD hl hS => (rn_rowat (Sp.bcR SL (show Mem w noEx w' _ from hS) (List.nil_sublist _) hkx) rfl (T.e 0 rfl) rfl)) ?_; clear T ac; intro ac T
   refine gq T 4 31 rfl (fun B w' hD hl hS => (Zrr (Mem.nth (show Mem w noEx w' _ from hS) 0 rfl) rfl (T.e 9 rfl) rfl)) ?_; clear T ac; intro ac T
   refine gw 5 63 ?_; intro K hK
   refine Zoc (first := []) (cap := []) T rfl rfl rfl rfl evf (.cons (T.e 1 rfl) (.cons (T.e 0 rfl) .nil)) Tryd.func77 rfl rfl ?_
   refine Calls.mono (inside8_any x (halB b (k : Int)) _ hxf hok9.2.few) ?_
   clear T; rintro e wc ⟨rfl, hb⟩ ac T
   replace M := M.call hb; clear hb
   refine Zso hK _ _ (M.mask [true, true, true] rfl) ?_; clear hK K
   refine Zgd (by kernel_rfl) ?_
   replace T := T.pick [0, 7, 8, 9, 10, 11, 12, 13, 14] rfl
   refine nm_then ?_
   refine wp_cond_split (T.e 0 rfl) ?_ ?_
   ·intro h5
    refine wp_region_lit ?_
    refine Zg5 (v5 := (.agg #[.int .i64 x.x, .int .i64 x.y, .int .i64 x.lo, .int .i64 x.wi])) T (Zq (Zrm rfl (T.e 7 rfl))) rfl (Zm 2 rfl rfl) rfl (Zm 10 rfl rfl) rfl (fun _ T => Zq (Zri (size := 4) i rfl (T.e 1 rfl) (T.e 0 rfl) ⟨_, Tryd.underlying111, by kernel_rfl⟩ rfl (by omega) (SL.at0 (by omega)))) rfl (fun _ T => Zq (rn_rowat (Sp.bcR SL M (List.nil_sublist _) hkx) rfl (T.e 0 rfl) rfl)) rfl ?_; clear T ac; intro ac T
    refine Zl2 ?_
    refine ow_bs (e := 94) [.int .i64 x.x, .int .i64 x.y, .int .i64 x.lo, .int .i64 x.wi] M T rfl rfl rfl rfl (.cons (T.e 0 rfl) .nil) (fun _ => by kernel_rfl) ?_; clear M T; intro g5 wc ac M T
    refine Zl2 ?_
    refine ow_app (((g5, .cells [.int .i64 x.x, .int .i64 x.y, .int .i64 x.lo, .int .i64 x.wi]) :: (g3, .cells [.int .i64 ((halB b (k : Int)).x), .int .i64 ((halB b (k : Int)).y), .int .i64 ((halB b (k : Int)).lo), .int .i64 ((halB b (k : Int)).wi)]) :: (g2, .cells [.int .i64 ((halA b (k : Int)).x), .int .i64 ((halA b (k : Int)).y), .int .i64 ((halA b (k : Int)).lo), .int .i64 ((halA b (k : Int)).wi)]) :: (g1, .cells [.int .i64 b.x, .int .i64 b.y, .int .i64 b.lo, .int .i64 b.wi]) :: Ia)) Tryd.info94 hslB M (by first | rfl | simp) T rfl rfl rfl rfl Tryd.underlying111 rfl rfl rfl (by omega) (T.e 5 rfl) (T.e 0 rfl) (Zne (i := 0) rfl) rfl rfl ?_; clear M T; intro ga2 cga2 wc ac M T
    refine l_q (v := (.slice (some ⟨ga2, 0, none⟩) (BL.length + 1) cga2)) (T.pick [0, 1, 2, 3, 4, 5, 6, 7, 8, 9, 10, 11, 12, 13, 15] rfl) rfl rfl rfl rfl (Zra rfl (T.e 0 rfl)) ?_; clear T ac; intro ac T
    refine wpList_nil ?_
    replace T := T.pick [0, 9, 10, 11, 12, 13, 14, 15] rfl
    replace M := M.mask [true, false, true, true, true] rfl
    refine Znb ?_
    refine nm_then ?_
    refine wp_region_lit ?_
    refine Zg2 T (Zq (Zrm rfl (T.e 7 rfl))) rfl (fun _ T => Zq (rn_add rfl (T.e 0 rfl) evc (by omega))) rfl ?_; clear T ac; intro ac T
    refine l_q (v := (.int .i64 ((i : Int) + 1))) (T.pick [0, 1, 2, 3, 4, 5, 6, 7, 8] rfl) rfl rfl rfl rfl (Zra rfl (T.e 0 rfl)) ?_; clear T ac; intro ac T
    refine wpList_nil ?_
    replace T := T.pick [0, 3, 4, 5, 6, 7, 8, 9] rfl
    refine nm_then ?_
    have e9 : BL.length + 1 = (BL ++ [x]).length := by simp
    have e8 : ((bc BL) ++ [.int .i64 x.x, .int .i64 x.y, .int .i64 x.lo, .int .i64 x.wi]) = bc (BL ++ [x]) := by rw [← bc_snoc]
    rw [e9, e8] at M
    rw [e9] at T
    clear e9 e8
    exact ⟨_, by omega, i + 1, AL, (BL ++ [x]), _, _, _, _, Ia, [(ga2, .row 94 4 (BL ++ [x]).length (bc (BL ++ [x])) cga2)], rfl, (by omega), (by rw [b8A_snoc hkx, ← hA, if_neg (by simp_all), List.append_nil]), (by rw [b8B_snoc hkx, ← hB, if_pos (by simp_all)]), (by omega), (by simp only [List.length_append, List.length_cons, List.length_nil]; omega), hslA, (Sl.row _ _ _ _ _ _), T.pick [2, 3, 4, 5, 6, 7, 1, 0] rfl, (Mem.swapU [(g3, .cells [.int .i64 ((halB b (k : Int)).x), .int .i64 ((halB b (k : Int)).y), .int .i64 ((halB b (k : Int)).lo), .int .i64 ((halB b (k : Int)).wi)]), (g2, .cells [.int .i64 ((halA b (k : Int)).x), .int .i64 ((halA b (k : Int)).y), .int .i64 ((halA b (k : Int)).lo), .int .i64 ((halA b (k : Int)).wi)]), (g1, .cells [.int .i64 b.x, .int .i64 b.y, .int .i64 b.lo, .int .i64 b.wi])] [(ga2, .row 94 4 (BL ++ [x]).length (bc (BL ++ [x])) cga2)] Ia (M.permT [1, 2, 3, 0] 4 rfl rfl rfl rfl))⟩
   intro h5
   refine wp_skip ?_
   refine Znb ?_
   refine nm_then ?_
   refine wp_region_lit ?_
   refine Zg2 T (Zq (Zrm rfl (T.e 8 rfl))) rfl (fun _ T => Zq (rn_add rfl (T.e 0 rfl) evc (by omega))) rfl ?_; clear T ac; intro ac T
   refine l_q (v := (.int .i64 ((i : Int) + 1))) (T.pick [0, 1, 2, 3, 4, 5, 6, 7, 8, 9] rfl) rfl rfl rfl rfl (Zra rfl (T.e 0 rfl)) ?_; clear T ac; intro ac T
   refine wpList_nil ?_
   replace T := T.pick [0, 4, 5, 6, 7, 8, 9, 10] rfl
   refine nm_then ?_
   exact ⟨_, by omega, i + 1, AL, BL, _, _, _, _, Ia, Ib, rfl, (by omega), (by rw [b8A_snoc hkx, ← hA, if_neg (by simp_all), List.append_nil]), (by rw [b8B_snoc hkx, ← hB, if_neg (by simp_all), List.append_nil]), (by omega), (by omega), hslA, hslB, T.pick [1, 2, 3, 4, 5, 6, 7, 0] rfl, M⟩
  intro h3
  rw [List.take_of_length_le (by omega)] at hA hB
  obtain ⟨bza, oza, SVza⟩ := hslA.spV (bc_length _)
  have SZA := SVza w noEx
  obtain ⟨bzb, ozb, SVzb⟩ := hslB.spV (bc_length _)
  have SZB := SVzb w noEx
  have hI : b8I l (halA b (k : Int)) (halB b (k : Int)) = (decide (AL.length + BL.length = l.length) && (decide (0 < AL.length) && decide (0 < BL.length))) := by rw [hA, hB]; rfl
  have hfA : ∀ x ∈ AL, x.few := fun x hx => hl x ((List.mem_filter.1 (hA ▸ hx)).1)
  have hfB : ∀ x ∈ BL, x.few := fun x hx => hl x ((List.mem_filter.1 (hB ▸ hx)).1)
  refine wp_exit ?_
  refine Zet ?_
  refine Zet ?_
  refine ex_hit ?_
  refine nm_then ?_
  refine cut_seq (fun ac wc => Tm ac 91 [(1, .slice L l.length n), (2, .pointer (some ⟨g1, 0, none⟩)), (5, .int .i64 (k : Int)), (90, .bool ((decide ((((AL.length : Nat) : Int) + ((BL.length : Nat) : Int)) = ((l.length : Nat) : Int))) && ((decide (0 < ((AL.length : Nat) : Int))) && ((decide (0 < ((BL.length : Nat) : Int))) && ((sw8 AL (halA b (k : Int))) && (sw8 BL (halB b (k : Int))))))))] ∧ Mem w noEx wc ((g1, .cells [.int .i64 b.x, .int .i64 b.y, .int .i64 b.lo, .int .i64 b.wi]) :: (Ia ++ Ib))) ?_ ?_
  ·refine wp_region_lit ?_
   refine Zg8 T (Zq (Zrm rfl (T.e 6 rfl))) rfl (Zl Tryd.underlying111 0 rfl rfl) rfl (Zm 9 rfl rfl) rfl (Zl Tryd.underlying111 0 rfl rfl) rfl (fun _ T => Zq (rn_add rfl (T.e 2 rfl) (T.e 0 rfl) (by omega))) rfl (Zm 6 rfl rfl) rfl (Zl Tryd.underlying111 0 rfl rfl) rfl (fun _ T => Zq (rn_eql rfl (T.e 2 rfl) (T.e 0 rfl))) rfl ?_; clear T ac; intro ac T
   refine lq T (Zrm rfl (T.e 0 rfl)) ?_; clear T ac; intro ac T
   rcases Bool.eq_false_or_eq_true (decide ((((AL.length : Nat) : Int) + ((BL.length : Nat) : Int)) = ((l.length : Nat) : Int))) with h6 | h6
   ·replace h6 := of_decide_eq_true h6
    refine Zg5 T (Zw (Zwy rfl rfl (T.e 0 rfl) (Zdt h6)) (Zrm rfl (T.e 15 rfl))) rfl (fun _ T => Zw (Zwy rfl rfl (T.e 1 rfl) (Zdt h6)) (Zrl rfl Tryd.underlying111 (T.e 0 rfl))) rfl (fun _ T => Zw (Zwy rfl rfl (T.e 2 rfl) (Zdt h6)) (rn_gtr rfl (T.e 0 rfl) evc)) rfl (fun _ T => Zq (Zr1 rfl (T.e 3 rfl) (Zdt h6) (T.e 0 rfl))) rfl (Zm 0 rfl rfl) rfl ?_; clear T ac; intro ac T
    rcases Bool.eq_false_or_eq_true (decide (0 < ((AL.length : Nat) : Int))) with h7 | h7
    ·replace h7 := of_decide_eq_true h7
     refine Zg5 T (Zw (Zwy rfl rfl (T.e 0 rfl) (Zdt h7)) (Zrm rfl (T.e 21 rfl))) rfl (fun _ T => Zw (Zwy rfl rfl (T.e 1 rfl) (Zdt h7)) (Zrl rfl Tryd.underlying111 (T.e 0 rfl))) rfl (fun _ T => Zw (Zwy rfl rfl (T.e 2 rfl) (Zdt h7)) (rn_gtr rfl (T.e 0 rfl) evc)) rfl (fun _ T => Zq (Zr1 rfl (T.e 3 rfl) (Zdt h7) (T.e 0 rfl))) rfl (Zm 0 rfl rfl) rfl ?_; clear T ac; intro ac T
     rcases Bool.eq_false_or_eq_true (decide (0 < ((BL.length : Nat) : Int))) with h8 | h8
     ·replace h8 := of_decide_eq_true h8
      refine Zg2 T (Zw (Zwy rfl rfl (T.e 0 rfl) (Zdt h8)) (Zrr (Mem.nth M 1 rfl) rfl (T.e 23 rfl) rfl)) rfl (fun _ T => Zw (Zwy rfl rfl (T.e 1 rfl) (Zdt h8)) (Zrm rfl (T.e 26 rfl))) rfl ?_; clear T ac; intro ac T
      refine l_w (Zwy rfl rfl (T.e 2 rfl) (Zdt h8)) ?_; intro K hK
      refine Zoc (first := []) (cap := []) T rfl rfl rfl rfl evf (.cons (T.e 1 rfl) (.cons (T.e 0 rfl) .nil)) Tryd.func79 rfl rfl ?_
      refine Calls.mono (ih AL A3 c3 (halA b (k : Int)) _ (by omega) (by omega) hfA hok9.1 (SZA.rd M (.cons _ (.cons _ (.cons _ (subL (List.Sublist.refl _))))))) ?_
      clear T; rintro e wc ⟨rfl, hb⟩ ac T
      replace M := M.call hb; clear hb
      refine Zso hK _ _ ?_; clear hK K
      refine Zg2 T (Zq (Zr1 rfl (T.e 3 rfl) (Zdt h8) (T.e 0 rfl))) rfl (Zm 0 rfl rfl) rfl ?_; clear T ac; intro ac T
      rcases Bool.eq_false_or_eq_true (sw8 AL (halA b (k : Int))) with h9 | h9
      ·refine Zg2 T (Zw (Zwy rfl rfl (T.e 0 rfl) h9) (Zrr (Mem.nth M 0 rfl) rfl (T.e 29 rfl) rfl)) rfl (fun _ T => Zw (Zwy rfl rfl (T.e 1 rfl) h9) (Zrm rfl (T.e 32 rfl))) rfl ?_; clear T ac; intro ac T
       refine l_w (Zwy rfl rfl (T.e 2 rfl) h9) ?_; intro K hK
       refine Zoc (first := []) (cap := []) T rfl rfl rfl rfl evf (.cons (T.e 1 rfl) (.cons (T.e 0 rfl) .nil)) Tryd.func79 rfl rfl ?_
       refine Calls.mono (ih BL A4 c4 (halB b (k : Int)) _ (by omega) (by omega) hfB hok9.2 (SZB.rd M (.cons _ (.cons _ (.cons _ (Zsq _ _)))))) ?_
       clear T; rintro e wc ⟨rfl, hb⟩ ac T
       replace M := M.call hb; clear hb
       refine Zso hK _ _ ?_; clear hK K
       refine lq T (Zr1 rfl (T.e 3 rfl) h9 (T.e 0 rfl)) ?_; clear T ac; intro ac T
       refine wpList_nil ?_
       replace T := T.pick [0, 1, 2, 3, 6, 7, 8, 11, 12, 13, 16, 17, 18, 29, 30, 31] rfl
       replace M := M.mask [false, false, true] rfl
       exact ⟨(T.pick (E' := [(1, .slice L l.length n), (2, .pointer (some ⟨g1, 0, none⟩)), (5, .int .i64 (k : Int)), (90, .bool (sw8 BL (halB b (k : Int))))]) [13, 14, 15, 0] rfl).as (by (try rw [show (decide ((((AL.length : Nat) : Int) + ((BL.length : Nat) : Int)) = ((l.length : Nat) : Int))) = true from (Zdt h6)]); (try rw [show (decide (0 < ((AL.length : Nat) : Int))) = true from (Zdt h7)]); (try rw [show (decide (0 < ((BL.length : Nat) : Int))) = true from (Zdt h8)]); (try rw [show (sw8 AL (halA b (k : Int))) = true from h9]); (try rfl)), M.mask [true] rfl⟩
      refine Zg4 T (Zp (Zwn rfl rfl (T.e 0 rfl) h9)) rfl (fun _ T => Zp (Zwn rfl rfl (T.e 1 rfl) h9)) rfl (fun _ T => Zp (Zwn rfl rfl (T.e 2 rfl) h9)) rfl (fun _ T => Zq (Zr0 rfl (T.e 3 rfl) h9 evc)) rfl ?_; clear T ac; intro ac T
      refine wpList_nil ?_
      replace T := T.pick [0, 1, 2, 3, 6, 7, 8, 11, 12, 13, 16, 17, 18, 29, 30, 31] rfl
      replace M := M.mask [false, false, true] rfl
      exact ⟨(T.pick (E' := [(1, .slice L l.length n), (2, .pointer (some ⟨g1, 0, none⟩)), (5, .int .i64 (k : Int)), (90, .bool false)]) [13, 14, 15, 0] rfl).as (by (try rw [show (decide ((((AL.length : Nat) : Int) + ((BL.length : Nat) : Int)) = ((l.length : Nat) : Int))) = true from (Zdt h6)]); (try rw [show (decide (0 < ((AL.length : Nat) : Int))) = true from (Zdt h7)]); (try rw [show (decide (0 < ((BL.length : Nat) : Int))) = true from (Zdt h8)]); (try rw [show (sw8 AL (halA b (k : Int))) = false from h9]); (try rfl)), M.mask [true] rfl⟩
     replace h8 := of_decide_eq_false h8
     refine Zg8 T (Zp (Zwn rfl rfl (T.e 0 rfl) (Zdf h8))) rfl (fun _ T => Zp (Zwn rfl rfl (T.e 1 rfl) (Zdf h8))) rfl (fun _ T => Zp (Zwn rfl rfl (T.e 2 rfl) (Zdf h8))) rfl (fun _ T => Zq (Zr0 rfl (T.e 3 rfl) (Zdf h8) evc)) rfl (Zm 0 rfl rfl) rfl (fun _ T => Zp (Zwn rfl rfl (T.e 0 rfl) rfl)) rfl (fun _ T => Zp (Zwn rfl rfl (T.e 1 rfl) rfl)) rfl (fun _ T => Zp (Zwn rfl rfl (T.e 2 rfl) rfl)) rfl ?_; clear T ac; intro ac T
     refine lq T (Zr0 rfl (T.e 3 rfl) rfl evc) ?_; clear T ac; intro ac T
     refine wpList_nil ?_
     replace T := T.pick [0, 1, 2, 3, 6, 7, 8, 11, 12, 13, 16, 17, 18, 29, 30, 31] rfl
     replace M := M.mask [false, false, true] rfl
     exact ⟨(T.pick (E' := [(1, .slice L l.length n), (2, .pointer (some ⟨g1, 0, none⟩)), (5, .int .i64 (k : Int)), (90, .bool false)]) [13, 14, 15, 0] rfl).as (by (try rw [show (decide ((((AL.length : Nat) : Int) + ((BL.length : Nat) : Int)) = ((l.length : Nat) : Int))) = true from (Zdt h6)]); (try rw [show (decide (0 < ((AL.length : Nat) : Int))) = true from (Zdt h7)]); (try rw [show (decide (0 < ((BL.length : Nat) : Int))) = false from (Zdf h8)]); (try rfl)), M.mask [true] rfl⟩
    replace h7 := of_decide_eq_false h7
    refine Zg8 T (Zp (Zwn rfl rfl (T.e 0 rfl) (Zdf h7))) rfl (fun _ T => Zp (Zwn rfl rfl (T.e 1 rfl) (Zdf h7))) rfl (fun _ T => Zp (Zwn rfl rfl (T.e 2 rfl) (Zdf h7))) rfl (fun _ T => Zq (Zr0 rfl (T.e 3 rfl) (Zdf h7) evc)) rfl (Zm 0 rfl rfl) rfl (fun _ T => Zp (Zwn rfl rfl (T.e 0 rfl) rfl)) rfl (fun _ T => Zp (Zwn rfl rfl (T.e 1 rfl) rfl)) rfl (fun _ T => Zp (Zwn rfl rfl (T.e 2 rfl) rfl)) rfl ?_; clear T ac; intro ac T
    refine Zg6 T (Zq (Zr0 rfl (T.e 3 rfl) rfl evc)) rfl (Zm 0 rfl rfl) rfl (fun _ T => Zp (Zwn rfl rfl (T.e 0 rfl) rfl)) rfl (fun _ T => Zp (Zwn rfl rfl (T.e 1 rfl) rfl)) rfl (fun _ T => Zp (Zwn rfl rfl (T.e 2 rfl) rfl)) rfl (fun _ T => Zq (Zr0 rfl (T.e 3 rfl) rfl evc)) rfl ?_; clear T ac; intro ac T
    refine wpList_nil ?_
    replace T := T.pick [0, 1, 2, 3, 6, 7, 8, 11, 12, 13, 16, 17, 18, 29, 30, 31] rfl
    replace M := M.mask [false, false, true] rfl
    exact ⟨(T.pick (E' := [(1, .slice L l.length n), (2, .pointer (some ⟨g1, 0, none⟩)), (5, .int .i64 (k : Int)), (90, .bool false)]) [13, 14, 15, 0] rfl).as (by (try rw [show (decide ((((AL.length : Nat) : Int) + ((BL.length : Nat) : Int)) = ((l.length : Nat) : Int))) = true from (Zdt h6)]); (try rw [show (decide (0 < ((AL.length : Nat) : Int))) = false from (Zdf h7)]); (try rfl)), M.mask [true] rfl⟩
   replace h6 := of_decide_eq_false h6
   refine Zg8 T (Zp (Zwn rfl rfl (T.e 0 rfl) (Zdf h6))) rfl (fun _ T => Zp (Zwn rfl rfl (T.e 1 rfl) (Zdf h6))) rfl (fun _ T => Zp (Zwn rfl rfl (T.e 2 rfl) (Zdf h6))) rfl (fun _ T => Zq (Zr0 rfl (T.e 3 rfl) (Zdf h6) evc)) rfl (Zm 0 rfl rfl) rfl (fun _ T => Zp (Zwn rfl rfl (T.e 0 rfl) rfl)) rfl (fun _ T => Zp (Zwn rfl rfl (T.e 1 rfl) rfl)) rfl (fun _ T => Zp (Zwn rfl rfl (T.e 2 rfl) rfl)) rfl ?_; clear T ac; intro ac T
   refine Zg8 T (Zq (Zr0 rfl (T.e 3 rfl) rfl evc)) rfl (Zm 0 rfl rfl) rfl (fun _ T => Zp (Zwn rfl rfl (T.e 0 rfl) rfl)) rfl (fun _ T => Zp (Zwn rfl rfl (T.e 1 rfl) rfl)) rfl (fun _ T => Zp (Zwn rfl rfl (T.e 2 rfl) rfl)) rfl (fun _ T => Zq (Zr0 rfl (T.e 3 rfl) rfl evc)) rfl (Zm 0 rfl rfl) rfl (fun _ T => Zp (Zwn rfl rfl (T.e 0 rfl) rfl)) rfl ?_; clear T ac; intro ac T
   refine Zg3 T (Zp (Zwn rfl rfl (T.e 1 rfl) rfl)) rfl (fun _ T => Zp (Zwn rfl rfl (T.e 2 rfl) rfl)) rfl (fun _ T => Zq (Zr0 rfl (T.e 3 rfl) rfl evc)) rfl ?_; clear T ac; intro ac T
   refine wpList_nil ?_
   replace T := T.pick [0, 1, 2, 3, 6, 7, 8, 11, 12, 13, 16, 17, 18, 29, 30, 31] rfl
   replace M := M.mask [false, false, true] rfl
   exact ⟨(T.pick (E' := [(1, .slice L l.length n), (2, .pointer (some ⟨g1, 0, none⟩)), (5, .int .i64 (k : Int)), (90, .bool false)]) [13, 14, 15, 0] rfl).as (by (try rw [show (decide ((((AL.length : Nat) : Int) + ((BL.length : Nat) : Int)) = ((l.length : Nat) : Int))) = false from (Zdf h6)]); (try rfl)), M.mask [true] rfl⟩
  clear T M
  rintro ac wc ⟨T, M⟩
  refine wp_cond_split (T.e 3 rfl) ?_ ?_
  ·intro h10
   (have h10' := h10; try simp only [Zb1, Zb2, Zb3, Zb4, Zb5, Zb6, Zb7] at h10')
   refine Zsr ?_
   refine lq T (Zra rfl evc) ?_; clear T ac; intro ac T
   refine wpList_nil ?_
   replace T := T.pick [0] rfl
   replace M := M.mask [false] rfl
   refine Znr ?_
   refine Zrb ?_
   refine Zrt ?_
   refine Zrt ?_
   refine Zrb ?_
   refine Zrt ?_
   refine rt_1 T rfl (T.e 0 rfl) ?_
   have e9 : sw8 l b = true := sw8_cut k hk0 (by omega) (by rw [hI]; simp only [Bool.and_eq_true, decide_eq_true_eq]; omega) (by rw [← hA]; simp_all) (by rw [← hB]; simp_all)
   exact ⟨ret_bool e9.symm, M.below⟩
  intro h10
  (have h10' := h10; try simp only [Zb1, Zb2, Zb3, Zb4, Zb5, Zb6, Zb7] at h10')
  refine wp_skip ?_
  refine Znb ?_
  refine nm_then ?_
  refine wp_region_lit ?_
  refine Zg2 T (Zq (Zrm rfl (T.e 2 rfl))) rfl (fun _ T => Zq (rn_add rfl (T.e 0 rfl) evc (by omega))) rfl ?_; clear T ac; intro ac T
  refine l_q (v := (.int .i64 ((k : Int) + 1))) (T.pick [0, 1, 2, 3, 5] rfl) rfl rfl rfl rfl (Zra rfl (T.e 0 rfl)) ?_; clear T ac; intro ac T
  refine wpList_nil ?_
  replace T := T.pick [0, 3, 4] rfl
  refine nm_then ?_
  exact ⟨_, by omega, k + 1, rfl, (by omega), (by omega), (nos8_succ H (by rw [hI, ← hA, ← hB]; rintro ⟨e1, e2, e3⟩; simp only [Bool.and_eq_true, decide_eq_true_eq] at e1; first | omega | (simp_all; done) | (simp_all; omega))), T.pick [1, 2, 0] rfl, ((M.permT [0] 1 rfl rfl rfl rfl).sub (Zsl ([(g1, .cells [.int .i64 b.x, .int .i64 b.y, .int .i64 b.lo, .int .i64 b.wi])] : List (Nat × BA)) _))⟩
 intro h2
 have hno := sw8_not (l := l) (by omega) (by omega) H
 refine wp_exit ?_
 refine Zet ?_
 refine Zet ?_
 refine ex_hit ?_
 refine nm_then ?_
 refine Zsr ?_
 refine lq T (Zra rfl evc) ?_; clear T ac; intro ac T
 refine wpList_nil ?_
 replace T := T.pick [0] rfl
 replace M := M.mask [false] rfl
 refine Znr ?_
 refine rt_1 T rfl (T.e 0 rfl) ?_
 exact ⟨ret_bool hno.symm, M.below⟩
theorem saw8_any : ∀ m : Nat, Saw8Spec m
 | 0 => fun l L n b w h => by omega
 | m + 1 => fun l L n b w h nL hl hb hL => saw8_step m b L n l w (saw8_any m) h nL hl hb hL
theorem can8_S {s : Sk} {su : Bool} {L : List Pt} : can8 (cutA s su) (cutC s su) L ⟨0, 0, s.lo, s.wi⟩ = canS s su L := by
 rw [Bool.eq_iff_iff, can8_iff, canS_iff]
theorem whole_ok {s : Sk} (h : s.good) : (⟨0, 0, s.lo, s.wi⟩ : Bo).ok := by
 obtain ⟨⟨l1, l2⟩, ⟨w1, w2⟩, -⟩ := h
 unfold Bo.ok
 dsimp only
 omega
theorem gP_of {s : Sk} {g : List Int} {i k : Nat} {x : Int} {p : Pt} (h : g[i]? = some x) (hx : x = (k : Int)) (hp : s.ps[k]? = some p) : (gP s g)[i]? = some p := by
 unfold gP
 rw [List.getElem?_map, h, Option.map_some, List.getD_eq_getElem?_getD, show x.toNat = k by omega, hp]
 rfl
theorem Plan8_any (s : Sk) (A : Option Addr) (d : Nat) (G : Option Addr) (n : Nat) (g : List Int) (su : Bool)  (w : World) (hA : Rd w w.heap.size 4 A s.ps.length (pc s.ps)) (hG : Rd w w.heap.size 1 G g.length (ic g)) (nA : s.ps.length ≤ 1000000) (nG : g.length ≤ 1000000)  :
   Calls Tryd.prog 22 #[.agg #[.int .i64 s.lo, .int .i64 s.wi, .int .i64 s.a0, .int .i64 s.a1, .int .i64 s.c0, .int .i64 s.c1, .slice A s.ps.length d], .slice G g.length n, .bool su] w (LsPost 3 (tc (planL s g su)) (planL s g su).length (planE s g su) w) := by
 obtain ⟨bA, oA, SA⟩ := Sp.old hA
 obtain ⟨bG, oG, SG⟩ := Sp.old hG
 refine Zpx noEx Tryd.func22 rfl 29 rfl [.agg #[.int .i64 s.lo, .int .i64 s.wi, .int .i64 s.a0, .int .i64 s.a1, .int .i64 s.c0, .int .i64 s.c1, .slice A s.ps.length d], .slice G g.length n, .bool su] rfl rfl (Mem.init w _) ?_
 intro ac wc T M
 refine Zsr ?_
 refine Zl2 ?_
 refine Zob M T rfl rfl rfl rfl (T.e 0 rfl) rfl ?_; clear M T; intro g1 wc ac M T
 refine Zg2 T (Zq (Zra rfl evc)) rfl (Zc rfl) rfl ?_; clear T ac; intro ac T
 refine wpList_nil ?_
 replace T := T.pick [2, 4, 5] rfl
 refine Zns ?_
 refine Zsr ?_
 refine Zg2 T (Zq (Zrr (Mem.nth M 0 rfl) rfl (T.e 0 rfl) rfl)) rfl (Zm 2 rfl rfl) rfl ?_; clear T ac; intro ac T
 refine Zl2 ?_
 refine Zoc (first := []) (cap := []) T rfl rfl rfl rfl evf (.cons (T.e 1 rfl) (.cons (T.e 0 rfl) .nil)) Tryd.func66 rfl rfl ?_
 refine Calls.mono (checkParts8_any s A d G n g _ (SA.rd M (List.nil_sublist _)) (SG.rd M (List.nil_sublist _)) (by omega) (by omega)) ?_
 clear T; rintro e wc ⟨rfl, hb⟩ ac T
 replace M := M.call hb; clear hb
 refine lq T (Zra rfl (T.e 0 rfl)) ?_; clear T ac; intro ac T
 refine wpList_nil ?_
 replace T := T.pick [0, 4, 5, 6] rfl
 refine nm_then ?_
 refine Zsr ?_
 refine Zg2 T (Zq (Zrm rfl (T.e 0 rfl))) rfl (fun _ T => Zq (rn_neq rfl (T.e 0 rfl) evc)) rfl ?_; clear T ac; intro ac T
 refine wpList_nil ?_
 replace T := T.pick [0, 2, 3, 4, 5] rfl
 refine nm_then ?_
 refine wp_ifn (T.e 0 rfl) ?_ ?_
 ·intro h1
  refine Zsr ?_
  refine Zg3 T (Zq (Zrm rfl (T.e 1 rfl))) rfl (Zc rfl) rfl (Za 1 rfl rfl) rfl ?_; clear T ac; intro ac T
  refine wpList_nil ?_
  replace T := T.pick [0, 1] rfl
  replace M := M.mask [false] rfl
  refine Znr ?_
  refine Zrt ?_
  refine rt_2 T rfl (T.e 1 rfl) (T.e 0 rfl) ?_
  have e9 : planE s g su = lstE s g := if_pos (by omega)
  have e8 : planL s g su = [] := if_neg (by omega)
  rw [e9, e8]
  exact LsPost.nil M
 intro h1
 obtain ⟨hsg, hgi, hgn⟩ := lstE_iff.1 (show lstE s g = 0 by omega)
 have hgl5 : g.length ≤ 5 := Nat.le_trans (nodup_short hgi hgn) hsg.len
 refine Zsk ?_
 refine wp_seq ?_
 refine Zgs M (M.mask [true] rfl) 11 (by kernel_rfl) rfl (by kernel_rfl) ?_
 clear M; intro wc M
 refine gq T 0 1 rfl (fun B w' hD hl hS => (Zrr (Mem.nth (show Mem w noEx w' _ from hS) 0 rfl) rfl (T.e 2 rfl) rfl)) ?_; clear T ac; intro ac T
 refine gq T 1 3 rfl (fun _ _ _ _ _ => (Zrm rfl (T.e 4 rfl))) ?_; clear T ac; intro ac T
 refine gq T 2 7 rfl (fun B w' hD hl hS => (Zrr (Mem.nth (show Mem w noEx w' _ from hS) 0 rfl) rfl (T.e 4 rfl) rfl)) ?_; clear T ac; intro ac T
 refine gq T 4 23 rfl (fun _ _ _ _ _ => (Zrm rfl (T.e 7 rfl))) ?_; clear T ac; intro ac T
 refine gw 3 31 ?_; intro K hK
 refine Zoc (first := []) (cap := []) T rfl rfl rfl rfl evf (.cons (T.e 1 rfl) .nil) Tryd.func68 rfl rfl ?_
 refine Calls.mono (whole8_any s A d _) ?_
 clear T; rintro e wc ⟨rfl, hb⟩ ac T
 replace M := M.call hb; clear hb
 refine Zso hK _ _ (M.mask [true] rfl) ?_; clear hK K
 refine gw 5 63 ?_; intro K hK
 refine Zoc (first := []) (cap := []) T rfl rfl rfl rfl evf (.cons (T.e 4 rfl) (.cons (T.e 3 rfl) (.cons (T.e 0 rfl) (.cons (T.e 1 rfl) .nil)))) Tryd.func67 rfl rfl ?_
 refine Calls.mono (ply_any s A d su hsg (g.length + 1) g G n (⟨0, 0, s.lo, s.wi⟩ : Bo) _ (by omega) hgl5 hgi (whole_ok hsg) (SA.rd M (List.nil_sublist _)) (SG.rd M (List.nil_sublist _))) ?_
 clear T; rintro e wc ⟨APu3, nPu3, XLu3, IPu3, rfl, hcpu3, hlpu3, hpyu3, SVPu3, N⟩ ac T
 obtain ⟨bPu3, oPu3, SVPu3⟩ := SVPu3
 have SPu3 := SVPu3 w noEx
 replace M := (M.join N).swapI
 clear N
 replace M : Mem w noEx wc ((g1, .cells [.int .i64 s.lo, .int .i64 s.wi, .int .i64 s.a0, .int .i64 s.a1, .int .i64 s.c0, .int .i64 s.c1, .slice A s.ps.length d]) :: IPu3) := M
 refine Zso hK _ _ (M.perm [0] rfl rfl) ?_; clear hK K
 refine gq T 6 127 rfl (fun _ _ _ _ _ => (Zrm rfl (T.e 0 rfl))) ?_; clear T ac; intro ac T
 refine gq T 7 255 rfl (fun _ _ _ _ _ => (Zre rfl (T.e 0 rfl) rfl)) ?_; clear T ac; intro ac T
 refine gq T 8 511 rfl (fun _ _ _ _ _ => (Zre rfl (T.e 1 rfl) rfl)) ?_; clear T ac; intro ac T
 refine gq T 9 1023 rfl (fun _ _ _ _ _ => (Zra rfl (T.e 1 rfl))) ?_; clear T ac; intro ac T
 refine gq T 10 2047 rfl (fun _ _ _ _ _ => (Zra rfl (T.e 1 rfl))) ?_; clear T ac; intro ac T
 refine Zgd (by kernel_rfl) ?_
 replace T := T.pick [0, 1] rfl
 replace M := M.mask [false] rfl
 refine Zns ?_
 refine Zsr ?_
 refine Zg2 T (Zq (Zrm rfl (T.e 0 rfl))) rfl (fun _ T => Zq (rn_not rfl (T.e 0 rfl))) rfl ?_; clear T ac; intro ac T
 refine wpList_nil ?_
 replace T := T.pick [0, 3] rfl
 refine nm_then ?_
 refine wp_cond_split (T.e 0 rfl) ?_ ?_
 ·intro h2
  (have h2' := h2; try simp only [Zb1, Zb2, Zb3, Zb4, Zb5, Zb6, Zb7] at h2')
  refine Zsr ?_
  refine Zg2 T (Zq (Zra rfl evc)) rfl (Zc rfl) rfl ?_; clear T ac; intro ac T
  refine wpList_nil ?_
  replace T := T.pick [0, 1] rfl
  refine Znr ?_
  refine Zrt ?_
  refine rt_2 T rfl (T.e 1 rfl) (T.e 0 rfl) ?_
  have hcsf : canS s su (gP s g) = false := by rw [← can8_S]; simp_all
  have e9 : planE s g su = 11 := (if_neg (by omega)).trans (if_neg (by rw [hcsf]; decide))
  have e8 : planL s g su = [] := if_neg (by omega)
  rw [e9, e8]
  exact LsPost.nil M
 intro h2
 (have h2' := h2; try simp only [Zb1, Zb2, Zb3, Zb4, Zb5, Zb6, Zb7] at h2')
 refine Zsk ?_
 refine Zsr ?_
 refine Zg3 T (Zq (Zrm rfl (T.e 1 rfl))) rfl (Za 0 rfl rfl) rfl (Zc rfl) rfl ?_; clear T ac; intro ac T
 refine wpList_nil ?_
 replace T := T.pick [0, 1] rfl
 refine Znr ?_
 refine rt_2 T rfl (T.e 1 rfl) (T.e 0 rfl) ?_
 have hcst : canS s su (gP s g) = true := by rw [← can8_S]; simp_all
 have e9 : planE s g su = 0 := (if_neg (by omega)).trans (if_pos hcst)
 have e8 : planL s g su = XLu3 := ply_plan hsg hgi hgn e9 (hpyu3 (can8_S.trans hcst)).1
 rw [e9, e8]
 exact ⟨_, _, IPu3, rfl, hcpu3, ⟨_, _, SVPu3⟩, M.sub (Zsq [] _)⟩
def RtPost (size : Nat) (xs : List Value) (n : Nat) (w : World) (e : Ending) (w' : World) : Prop := ∃ A c I, e = .returned (.slice A n c) ∧ n ≤ c ∧ (∃ b o, ∀ (w : World) (ex : Nat → Prop), Sp w ex I A n size b o xs) ∧ Mem w noEx w' I
theorem bxs_few {s : Sk} {g : List Int} {sp : List Spt} {su : Bool} (hsg : s.good) (hgi : ∀ x ∈ g, 0 ≤ x ∧ x < (s.ps.length : Int)) (hl : sp.length = g.length) (H : ∀ (j : Nat) (q : Spt), sp[j]? = some q → (0 ≤ q.x ∧ q.x ≤ s.lo) ∧ (0 ≤ q.y ∧ q.y ≤ s.wi)) : ∀ x ∈ bxs (cutA s su) (cutC s su) (gP s g) sp, x.few := fun x hx => by
 obtain ⟨j, hj, rfl⟩ := List.mem_iff_getElem.1 hx
 have hlb := bxs_len (a := cutA s su) (c := cutC s su) (gP s g) sp (by rw [gP_len]; omega)
 rw [gP_len] at hlb
 have e1 := List.getElem?_eq_getElem (l := gP s g) (i := j) (by rw [gP_len]; omega)
 have e2 := List.getElem?_eq_getElem (l := sp) (i := j) (by omega)
 have e3 := bxs_get (a := cutA s su) (c := cutC s su) (gP s g) sp j e1 e2
 rw [(List.getElem?_eq_some_iff.1 e3).2]
 have h1 := H j _ e2
 obtain ⟨g1, g2, -⟩ := gP_good hsg hgi _ (List.mem_of_getElem? e1)
 obtain ⟨⟨l1, l2⟩, ⟨w1, w2⟩, -⟩ := id hsg
 obtain ⟨h3, h4⟩ := cut_bd hsg su
 unfold Bo.few
 dsimp only [bxOf]
 unfold sizeL sizeW
 split <;> omega
theorem boxes_any (s : Sk) (A : Option Addr) (d : Nat) (G : Option Addr) (n : Nat) (g : List Int) (P : Option Addr) (np : Nat) (sp : List Spt) (su : Bool)  (w : World) (hA : Rd w w.heap.size 4 A s.ps.length (pc s.ps)) (hG : Rd w w.heap.size 1 G g.length (ic g)) (hP : Rd w w.heap.size 3 P sp.length (tc sp)) (hsg : s.good) (hgi : ∀ x ∈ g, 0 ≤ x ∧ x < (s.ps.length : Int)) (hgl5 : g.length ≤ 5) (hspl : sp.length = g.length)  :
   Calls Tryd.prog 76 #[.agg #[.int .i64 s.lo, .int .i64 s.wi, .int .i64 s.a0, .int .i64 s.a1, .int .i64 s.c0, .int .i64 s.c1, .slice A s.ps.length d], .slice G g.length n, .slice P sp.length np, .bool su] w (RtPost 4 (bc (bxs (cutA s su) (cutC s su) (gP s g) sp)) (bxs (cutA s su) (cutC s su) (gP s g) sp).length w) := by
 obtain ⟨bA, oA, SA⟩ := Sp.old hA
 obtain ⟨bG, oG, SG⟩ := Sp.old hG
 obtain ⟨bP, oP, SP⟩ := Sp.old hP
 have hln := hsg.len
 refine Zpx noEx Tryd.func76 rfl 55 rfl [.agg #[.int .i64 s.lo, .int .i64 s.wi, .int .i64 s.a0, .int .i64 s.a1, .int .i64 s.c0, .int .i64 s.c1, .slice A s.ps.length d], .slice G g.length n, .slice P sp.length np, .bool su] rfl rfl (Mem.init w _) ?_
 intro ac wc T M
 refine Zsr ?_
 refine Zl2 ?_
 refine Zob M T rfl rfl rfl rfl (T.e 0 rfl) rfl ?_; clear M T; intro g1 wc ac M T
 refine lq T (Zra rfl evc) ?_; clear T ac; intro ac T
 refine wpList_nil ?_
 replace T := T.pick [1, 3, 4, 5] rfl
 refine nm_then ?_
 refine Zsr ?_
 refine lq T (Zra rfl evc) ?_; clear T ac; intro ac T
 refine Zln ?_
 refine wp_seq ?_
 refine Zsr ?_
 refine lq T (Zra rfl evc) ?_; clear T ac; intro ac T
 refine Zln ?_
 refine wp_block ?_
 refine wp_loop_n (fun mz ac wc => ∃ (i : Nat) (OL : List Bo) (A3 : Option Addr) (c3 : Nat) (Io : List (Nat × BA)), mz = g.length - i ∧ (i ≤ g.length) ∧ (OL.length = i) ∧ (OL = (bxs (cutA s su) (cutC s su) (gP s g) sp).take i) ∧ (Sl 94 4 (.slice A3 OL.length c3) OL.length (bc OL) Io) ∧ Tm ac 55 [(1, .slice G g.length n), (2, .slice P sp.length np), (3, .bool su), (4, .pointer (some ⟨g1, 0, none⟩)), (9, .slice A3 OL.length c3), (10, .int .i64 (i : Int))] ∧ Mem w noEx wc ((g1, .cells [.int .i64 s.lo, .int .i64 s.wi, .int .i64 s.a0, .int .i64 s.a1, .int .i64 s.c0, .int .i64 s.c1, .slice A s.ps.length d]) :: Io)) ?_ ?_
 ·exact ⟨_, 0, [], none, 0, [], rfl, (Nat.zero_le _), rfl, rfl, (Sl.nil _ _), T.pick [3, 4, 5, 2, 1, 0] rfl, M.mask [true] rfl⟩
 clear T M
 rintro mz ac wc ⟨i, OL, A3, c3, Io, hmm1, hi, hOi, hO, hsl, T, M⟩
 refine wp_seq ?_
 refine Zsr ?_
 refine Zg4 T (Zq (Zrm rfl (T.e 5 rfl))) rfl (Zm 1 rfl rfl) rfl (Zl Tryd.underlying27 0 rfl rfl) rfl (fun _ T => Zq (rn_lss rfl (T.e 2 rfl) (T.e 0 rfl))) rfl ?_; clear T ac; intro ac T
 refine wpList_nil ?_
 replace T := T.pick [0, 4, 5, 6, 7, 8, 9] rfl
 refine nm_then ?_
 refine wp_if (T.e 0 rfl) ?_ ?_
 ·intro h1
  obtain ⟨x, hkx, -⟩ := ic_next (l := g) (k := i) (by omega)
  have hxr := hgi x (List.mem_of_getElem? hkx)
  obtain ⟨k0, hk8⟩ : ∃ k0 : Nat, x = (k0 : Int) := ⟨x.toNat, by omega⟩
  obtain ⟨p, hkp, -⟩ := pc_next (l := s.ps) (k := k0) (by omega)
  have hpg : p.good := hsg.ps p (List.mem_of_getElem? hkp)
  have hgp := gP_of hkx hk8 hkp
  obtain ⟨q, hkq, -⟩ := tc_next (l := sp) (k := i) (by omega)
  refine Zsk ?_
  refine wp_seq ?_
  refine wp_block ?_
  refine wp_seq ?_
  refine Zgs M (M.mask [true] rfl) 21 (by kernel_rfl) rfl (by kernel_rfl) ?_
  clear M; intro wc M
  refine gq T 0 1 rfl (fun B w' hD hl hS => (Zrr (Mem.nth (show Mem w noEx w' _ from hS) 0 rfl) rfl (T.e 4 rfl) rfl)) ?_; clear T ac; intro ac T
  refine gq (v := (.pointer (some ⟨g1, 6, none⟩))) T 1 3 rfl (fun _ _ _ _ _ => (Zrf (off := 6) rfl (T.e 5 rfl) (fun _ _ _ => by kernel_rfl))) ?_; clear T ac; intro ac T
  refine gq T 2 7 rfl (fun B w' hD hl hS => (Zro (Mem.nth (show Mem w noEx w' _ from hS) 0 rfl) rfl (T.e 0 rfl) rfl)) ?_; clear T ac; intro ac T
  refine gq T 3 15 rfl (fun _ _ _ _ _ => (Zrm rfl (T.e 4 rfl))) ?_; clear T ac; intro ac T
  refine gq T 4 31 rfl (fun _ _ _ _ _ => (Zrm rfl (T.e 10 rfl))) ?_; clear T ac; intro ac T
  refine gq T 5 63 rfl (fun _ _ _ _ _ => (Zri (size := 1) i rfl (T.e 1 rfl) (T.e 0 rfl) ⟨_, Tryd.underlying27, by kernel_rfl⟩ rfl (by omega) (SG.at0 (by omega)))) ?_; clear T ac; intro ac T
  refine gq T 6 127 rfl (fun B w' hD hl hS => (rn_cell (Sp.ic0 SG (show Mem w noEx w' _ from hS) (List.nil_sublist _) hkx) rfl (T.e 0 rfl))) ?_; clear T ac; intro ac T
  refine gq T 7 255 rfl (fun _ _ _ _ _ => (Zri (size := 4) k0 rfl (T.e 4 rfl) (T.e 0 rfl) ⟨_, Tryd.underlying24, by kernel_rfl⟩ hk8 (by omega) (SA.at0 (by omega)))) ?_; clear T ac; intro ac T
  refine gq (v := (.agg #[.int .i64 p.l, .int .i64 p.w, .bool p.gr, .int .i64 p.pa])) T 8 511 rfl (fun B w' hD hl hS => (rn_rowat (Sp.pcR SA (show Mem w noEx w' _ from hS) (List.nil_sublist _) hkp) rfl (T.e 0 rfl) rfl)) ?_; clear T ac; intro ac T
  refine gq T 9 1023 rfl (fun _ _ _ _ _ => (Zrm rfl (T.e 11 rfl))) ?_; clear T ac; intro ac T
  refine gq T 10 2047 rfl (fun _ _ _ _ _ => (Zrm rfl (T.e 16 rfl))) ?_; clear T ac; intro ac T
  refine gq T 11 4095 rfl (fun _ _ _ _ _ => (Zri (size := 3) i rfl (T.e 1 rfl) (T.e 0 rfl) ⟨_, Tryd.underlying28, by kernel_rfl⟩ rfl (by omega) (SP.at0 (by omega)))) ?_; clear T ac; intro ac T
  refine gq T 12 8191 rfl (fun _ _ _ _ _ => (Zrf (off := 2) rfl (T.e 0 rfl) (fun _ _ _ => by kernel_rfl))) ?_; clear T ac; intro ac T
  refine gq T 13 16383 rfl (fun B w' hD hl hS => (rn_cell (Sp.tcC2 SP (show Mem w noEx w' _ from hS) (List.nil_sublist _) hkq) rfl (T.e 0 rfl))) ?_; clear T ac; intro ac T
  refine gq T 14 32767 rfl (fun _ _ _ _ _ => (Zrm rfl (T.e 17 rfl))) ?_; clear T ac; intro ac T
  refine gw 15 65535 ?_; intro K hK
  refine Zoc (first := []) (cap := []) T rfl rfl rfl rfl evf (.cons (T.e 14 rfl) (.cons (T.e 6 rfl) (.cons (T.e 1 rfl) (.cons (T.e 0 rfl) .nil)))) Tryd.func94 rfl rfl ?_
  refine Calls.mono (size8_any s A d p q.t su _ hsg hpg) ?_
  clear T; rintro e wc ⟨rfl, hb⟩ ac T
  replace M := M.call hb; clear hb
  refine Zso hK _ _ (M.mask [true] rfl) ?_; clear hK K
  refine gq T 16 131071 rfl (fun _ _ _ _ _ => (Zrm rfl (T.e 0 rfl))) ?_; clear T ac; intro ac T
  refine gq T 17 262143 rfl (fun _ _ _ _ _ => (Zre rfl (T.e 0 rfl) rfl)) ?_; clear T ac; intro ac T
  refine gq T 18 524287 rfl (fun _ _ _ _ _ => (Zre rfl (T.e 1 rfl) rfl)) ?_; clear T ac; intro ac T
  refine gq T 19 1048575 rfl (fun _ _ _ _ _ => (Zra rfl (T.e 1 rfl))) ?_; clear T ac; intro ac T
  refine gq T 20 2097151 rfl (fun _ _ _ _ _ => (Zra rfl (T.e 1 rfl))) ?_; clear T ac; intro ac T
  refine Zgd (by kernel_rfl) ?_
  replace T := T.pick [0, 1, 22, 23, 24, 25, 26, 27] rfl
  refine nm_then ?_
  refine Zgs M (M.perm [0] rfl rfl) 17 (by kernel_rfl) rfl (by kernel_rfl) ?_
  clear M; intro wc M
  refine gq T 0 1 rfl (fun _ _ _ _ _ => (Zrm rfl (T.e 6 rfl))) ?_; clear T ac; intro ac T
  refine gq T 1 3 rfl (fun _ _ _ _ _ => (Zrm rfl (T.e 4 rfl))) ?_; clear T ac; intro ac T
  refine gq T 2 7 rfl (fun _ _ _ _ _ => (Zrm rfl (T.e 9 rfl))) ?_; clear T ac; intro ac T
  refine gq T 3 15 rfl (fun _ _ _ _ _ => (Zri (size := 3) i rfl (T.e 1 rfl) (T.e 0 rfl) ⟨_, Tryd.underlying28, by kernel_rfl⟩ rfl (by omega) (SP.at0 (by omega)))) ?_; clear T ac; intro ac T
  refine gq T 4 31 rfl (fun _ _ _ _ _ => (Zrf (off := 0) rfl (T.e 0 rfl) (fun _ _ _ => by kernel_rfl))) ?_; clear T ac; intro ac T
  refine gq T 5 63 rfl (fun B w' hD hl hS => (rn_cell (Sp.tcC0 SP (show Mem w noEx w' _ from hS) (List.nil_sublist _) hkq) rfl (T.e 0 rfl))) ?_; clear T ac; intro ac T
  refine gq T 6 127 rfl (fun _ _ _ _ _ => (Zrm rfl (T.e 9 rfl))) ?_; clear T ac; intro ac T
  refine gq T 7 255 rfl (fun _ _ _ _ _ => (Zrm rfl (T.e 14 rfl))) ?_; clear T ac; intro ac T
  refine gq T 8 511 rfl (fun _ _ _ _ _ => (Zri (size := 3) i rfl (T.e 1 rfl) (T.e 0 rfl) ⟨_, Tryd.underlying28, by kernel_rfl⟩ rfl (by omega) (SP.at0 (by omega)))) ?_; clear T ac; intro ac T
  refine gq T 9 1023 rfl (fun _ _ _ _ _ => (Zrf (off := 1) rfl (T.e 0 rfl) (fun _ _ _ => by kernel_rfl))) ?_; clear T ac; intro ac T
  refine gq T 10 2047 rfl (fun B w' hD hl hS => (rn_cell (Sp.tcC1 SP (show Mem w noEx w' _ from hS) (List.nil_sublist _) hkq) rfl (T.e 0 rfl))) ?_; clear T ac; intro ac T
  refine gq T 11 4095 rfl (fun _ _ _ _ _ => (Zrm rfl (T.e 12 rfl))) ?_; clear T ac; intro ac T
  refine gq T 12 8191 rfl (fun _ _ _ _ _ => (Zrm rfl (T.e 12 rfl))) ?_; clear T ac; intro ac T
  refine gq (v := (.agg #[.int .i64 q.x, .int .i64 q.y, .int .i64 (sizeL (cutA s su) (cutC s su) p q.t), .int .i64 (sizeW (cutA s su) (cutC s su) p q.t)])) T 13 16383 rfl (fun _ _ _ _ _ => (rn_build rfl (.cons (T.e 7 rfl) (.cons (T.e 2 rfl) (.cons (T.e 1 rfl) (.cons (T.e 0 rfl) .nil)))) (fun _ => by kernel_rfl))) ?_; clear T ac; intro ac T
  refine gw 14 32767 ?_; intro K hK
  refine ow_bs (e := 94) [.int .i64 q.x, .int .i64 q.y, .int .i64 (sizeL (cutA s su) (cutC s su) p q.t), .int .i64 (sizeW (cutA s su) (cutC s su) p q.t)] M T rfl rfl rfl rfl (.cons (T.e 0 rfl) .nil) (fun _ => by kernel_rfl) ?_; clear M T; intro g2 wc ac M T
  refine Zso hK _ _ (M.perm [1] rfl rfl) ?_; clear hK K
  refine gw 15 65535 ?_; intro K hK
  refine ow_app ([(g2, .cells [.int .i64 q.x, .int .i64 q.y, .int .i64 (sizeL (cutA s su) (cutC s su) p q.t), .int .i64 (sizeW (cutA s su) (cutC s su) p q.t)]), (g1, .cells [.int .i64 s.lo, .int .i64 s.wi, .int .i64 s.a0, .int .i64 s.a1, .int .i64 s.c0, .int .i64 s.c1, .slice A s.ps.length d])]) Tryd.info94 hsl M (by first | rfl | simp) T rfl rfl rfl rfl Tryd.underlying111 rfl rfl rfl (by omega) (T.e 14 rfl) (T.e 0 rfl) (Zne (i := 0) rfl) rfl rfl ?_; clear M T; intro ga1 cga1 wc ac M T
  refine Zso hK _ _ (M.mask [false, false, true] rfl) ?_; clear hK K
  refine g_q (v := (.slice (some ⟨ga1, 0, none⟩) (OL.length + 1) cga1)) (T := T.pick [0, 1, 2, 3, 4, 5, 6, 7, 8, 9, 10, 11, 12, 13, 14, 15, 16, 17, 18, 19, 20, 21, 23] rfl) (i := 16) rfl (by kernel_rfl) (by kernel_rfl : (Zpb 17 65535).setIfInBounds 16 true = Zpb 17 131071) si_U (fun _ _ _ h => h) rfl rfl rfl rfl (fun _ _ _ _ _ => (Zra rfl (T.e 0 rfl))) ?_; clear T ac; intro ac T
  refine Zgd (by kernel_rfl) ?_
  replace T := T.pick [0, 19, 20, 21, 22, 23] rfl
  replace M := M.mask [true, false, true] rfl
  refine Znb ?_
  refine nm_then ?_
  refine wp_region_lit ?_
  refine Zg2 T (Zq (Zrm rfl (T.e 5 rfl))) rfl (fun _ T => Zq (rn_add rfl (T.e 0 rfl) evc (by omega))) rfl ?_; clear T ac; intro ac T
  refine l_q (v := (.int .i64 ((i : Int) + 1))) (T.pick [0, 1, 2, 3, 4, 5, 6] rfl) rfl rfl rfl rfl (Zra rfl (T.e 0 rfl)) ?_; clear T ac; intro ac T
  refine wpList_nil ?_
  replace T := T.pick [0, 3, 4, 5, 6, 7] rfl
  refine nm_then ?_
  have e9 : OL.length + 1 = (OL ++ [(bxOf (cutA s su) (cutC s su) p q)]).length := by simp
  have e8 : ((bc OL) ++ [.int .i64 q.x, .int .i64 q.y, .int .i64 (sizeL (cutA s su) (cutC s su) p q.t), .int .i64 (sizeW (cutA s su) (cutC s su) p q.t)]) = bc (OL ++ [(bxOf (cutA s su) (cutC s su) p q)]) := bc_snoc OL (bxOf (cutA s su) (cutC s su) p q)
  rw [e9, e8] at M
  rw [e9] at T
  clear e9 e8
  exact ⟨_, by omega, i + 1, (OL ++ [(bxOf (cutA s su) (cutC s su) p q)]), _, _, [(ga1, .row 94 4 (OL ++ [(bxOf (cutA s su) (cutC s su) p q)]).length (bc (OL ++ [(bxOf (cutA s su) (cutC s su) p q)])) cga1)], rfl, (by omega), (by simp only [List.length_append, List.length_cons, List.length_nil]; omega), (by rw [List.take_add_one, bxs_get _ _ _ hgp hkq, ← hO]; rfl), (Sl.row _ _ _ _ _ _), T.pick [2, 3, 4, 5, 1, 0] rfl, (M.permT [1, 0] 2 rfl rfl rfl rfl)⟩
 intro h1
 rw [List.take_of_length_le (by rw [bxs_len _ _ (by rw [gP_len]; omega), gP_len]; omega)] at hO
 refine wp_exit ?_
 refine Zet ?_
 refine Zet ?_
 refine ex_hit ?_
 refine nm_then ?_
 refine Zsr ?_
 refine Zg2 T (Zq (Zrm rfl (T.e 5 rfl))) rfl (Za 0 rfl rfl) rfl ?_; clear T ac; intro ac T
 refine wpList_nil ?_
 replace T := T.pick [0] rfl
 replace M := M.mask [false] rfl
 refine Znr ?_
 refine rt_1 T rfl (T.e 0 rfl) ?_
 obtain ⟨b9, o9, h9⟩ := hsl.spV (bc_length _)
 have hcap := hsl.capLe M (List.Sublist.refl _)
 rw [← hO]
 exact ⟨A3, c3, Io, rfl, hcap, ⟨b9, o9, h9⟩, M.sub (List.Sublist.refl _)⟩
set_option maxHeartbeats 4000000 in
theorem Cuts8_any (s : Sk) (A : Option Addr) (d : Nat) (G : Option Addr) (n : Nat) (g : List Int) (P : Option Addr) (np : Nat) (sp : List Spt) (su : Bool)  (w : World) (hA : Rd w w.heap.size 4 A s.ps.length (pc s.ps)) (hG : Rd w w.heap.size 1 G g.length (ic g)) (hP : Rd w w.heap.size 3 P sp.length (tc sp)) (nA : s.ps.length ≤ 1000000) (nG : g.length ≤ 1000000) (nP : sp.length ≤ 1000000)  :
   Calls Tryd.prog 28 #[.agg #[.int .i64 s.lo, .int .i64 s.wi, .int .i64 s.a0, .int .i64 s.a1, .int .i64 s.c0, .int .i64 s.c1, .slice A s.ps.length d], .slice G g.length n, .slice P sp.length np, .bool su] w fun e w' => e = .returned (.tuple #[.bool (cutsV s g sp su), .int .i64 (cutsE s g sp.length)]) ∧ Below w.heap.size w w' := by
 obtain ⟨bA, oA, SA⟩ := Sp.old hA
 obtain ⟨bG, oG, SG⟩ := Sp.old hG
 obtain ⟨bP, oP, SP⟩ := Sp.old hP
 refine Zpx noEx Tryd.func28 rfl 113 rfl [.agg #[.int .i64 s.lo, .int .i64 s.wi, .int .i64 s.a0, .int .i64 s.a1, .int .i64 s.c0, .int .i64 s.c1, .slice A s.ps.length d], .slice G g.length n, .slice P sp.length np, .bool su] rfl rfl (Mem.init w _) ?_
 intro ac wc T M
 refine Zsr ?_
 refine Zl2 ?_
 refine Zob M T rfl rfl rfl rfl (T.e 0 rfl) rfl ?_; clear M T; intro g1 wc ac M T
 refine Zg2 T (Zq (Zra rfl evc)) rfl (Zc rfl) rfl ?_; clear T ac; intro ac T
 refine wpList_nil ?_
 replace T := T.pick [2, 4, 5, 6] rfl
 refine Zns ?_
 refine Zsr ?_
 refine Zg2 T (Zq (Zrr (Mem.nth M 0 rfl) rfl (T.e 0 rfl) rfl)) rfl (Zm 2 rfl rfl) rfl ?_; clear T ac; intro ac T
 refine Zl2 ?_
 refine Zoc (first := []) (cap := []) T rfl rfl rfl rfl evf (.cons (T.e 1 rfl) (.cons (T.e 0 rfl) .nil)) Tryd.func66 rfl rfl ?_
 refine Calls.mono (checkParts8_any s A d G n g _ (SA.rd M (List.nil_sublist _)) (SG.rd M (List.nil_sublist _)) (by omega) (by omega)) ?_
 clear T; rintro e wc ⟨rfl, hb⟩ ac T
 replace M := M.call hb; clear hb
 refine lq T (Zra rfl (T.e 0 rfl)) ?_; clear T ac; intro ac T
 refine wpList_nil ?_
 replace T := T.pick [0, 4, 5, 6, 7] rfl
 refine nm_then ?_
 refine Zsr ?_
 refine Zg2 T (Zq (Zrm rfl (T.e 0 rfl))) rfl (fun _ T => Zq (rn_neq rfl (T.e 0 rfl) evc)) rfl ?_; clear T ac; intro ac T
 refine wpList_nil ?_
 replace T := T.pick [0, 2, 3, 4, 5, 6] rfl
 refine nm_then ?_
 refine wp_ifn (T.e 0 rfl) ?_ ?_
 ·intro h1
  refine Zsr ?_
  refine Zg3 T (Zq (Zrm rfl (T.e 1 rfl))) rfl (Zc rfl) rfl (Za 1 rfl rfl) rfl ?_; clear T ac; intro ac T
  refine wpList_nil ?_
  replace T := T.pick [0, 1] rfl
  replace M := M.mask [false] rfl
  refine Znr ?_
  refine Zrt ?_
  refine rt_2 T rfl (T.e 1 rfl) (T.e 0 rfl) ?_
  have e9 : cutsE s g sp.length = lstE s g := if_pos (by omega)
  have e8 : cutsV s g sp su = false := if_neg (by omega)
  rw [e9, e8]
  exact ⟨rfl, M.below⟩
 intro h1
 obtain ⟨hsg, hgi, hgn⟩ := lstE_iff.1 (show lstE s g = 0 by omega)
 have hgl5 : g.length ≤ 5 := Nat.le_trans (nodup_short hgi hgn) hsg.len
 have hln := hsg.len
 obtain ⟨⟨l1, l2⟩, ⟨w1, w2⟩, -⟩ := id hsg
 refine Zsk ?_
 refine wp_seq ?_
 refine Zsr ?_
 refine Zg5 T (Zq (Zrm rfl (T.e 4 rfl))) rfl (Zl Tryd.underlying28 0 rfl rfl) rfl (Zm 5 rfl rfl) rfl (Zl Tryd.underlying27 0 rfl rfl) rfl (fun _ T => Zq (rn_lss rfl (T.e 2 rfl) (T.e 0 rfl))) rfl ?_; clear T ac; intro ac T
 refine wpList_nil ?_
 replace T := T.pick [0, 7, 8, 9, 10] rfl
 refine nm_then ?_
 refine wp_if (T.e 0 rfl) ?_ ?_
 ·intro h2
  refine Zsr ?_
  refine Zg2 T (Zq (Zra rfl evc)) rfl (Zc rfl) rfl ?_; clear T ac; intro ac T
  refine wpList_nil ?_
  replace T := T.pick [0, 1] rfl
  replace M := M.mask [false] rfl
  refine Znr ?_
  refine Zrt ?_
  refine rt_2 T rfl (T.e 1 rfl) (T.e 0 rfl) ?_
  have e9 : cutsE s g sp.length = 7 := (if_neg (by omega)).trans (if_pos (by omega))
  have e8 : cutsV s g sp su = false := if_neg (by omega)
  rw [e9, e8]
  exact ⟨rfl, M.below⟩
 intro h2
 refine Zsk ?_
 refine wp_seq ?_
 refine Zsr ?_
 refine Zg5 T (Zq (Zrm rfl (T.e 3 rfl))) rfl (Zl Tryd.underlying28 0 rfl rfl) rfl (Zm 4 rfl rfl) rfl (Zl Tryd.underlying27 0 rfl rfl) rfl (fun _ T => Zq (rn_gtr rfl (T.e 2 rfl) (T.e 0 rfl))) rfl ?_; clear T ac; intro ac T
 refine wpList_nil ?_
 replace T := T.pick [0, 6, 7, 8, 9] rfl
 refine nm_then ?_
 refine wp_if (T.e 0 rfl) ?_ ?_
 ·intro h3
  refine Zsr ?_
  refine Zg2 T (Zq (Zra rfl evc)) rfl (Zc rfl) rfl ?_; clear T ac; intro ac T
  refine wpList_nil ?_
  replace T := T.pick [0, 1] rfl
  replace M := M.mask [false] rfl
  refine Znr ?_
  refine Zrt ?_
  refine rt_2 T rfl (T.e 1 rfl) (T.e 0 rfl) ?_
  have e9 : cutsE s g sp.length = 6 := (if_neg (by omega)).trans ((if_neg (by omega)).trans (if_pos (by omega)))
  have e8 : cutsV s g sp su = false := if_neg (by omega)
  rw [e9, e8]
  exact ⟨rfl, M.below⟩
 intro h3
 have hspl : sp.length = g.length := by omega
 refine Zsk ?_
 refine wp_seq ?_
 refine Zsr ?_
 refine lq T (Zra rfl evc) ?_; clear T ac; intro ac T
 refine wpList_nil ?_
 replace T := T.pick [0, 2, 3, 4, 5] rfl
 refine nm_then ?_
 refine wp_block ?_
 refine wp_loop_n (fun mz ac wc => ∃ (i : Nat), mz = sp.length - i ∧ (i ≤ sp.length) ∧ (∀ (j : Nat), j < i → ∀ (q : Spt), sp[j]? = some q → (0 ≤ q.x ∧ q.x ≤ s.lo) ∧ (0 ≤ q.y ∧ q.y ≤ s.wi)) ∧ Tm ac 113 [(1, .slice G g.length n), (2, .slice P sp.length np), (3, .bool su), (4, .pointer (some ⟨g1, 0, none⟩)), (11, .int .i64 (i : Int))] ∧ Mem w noEx wc [(g1, .cells [.int .i64 s.lo, .int .i64 s.wi, .int .i64 s.a0, .int .i64 s.a1, .int .i64 s.c0, .int .i64 s.c1, .slice A s.ps.length d])]) ?_ ?_
 ·exact ⟨_, 0, rfl, (Nat.zero_le _), (fun j h => by omega), T.pick [2, 3, 4, 1, 0] rfl, M.mask [true] rfl⟩
 clear T M
 rintro mz ac wc ⟨i, hmm1, hi, H1, T, M⟩
 refine wp_seq ?_
 refine Zsr ?_
 refine Zg4 T (Zq (Zrm rfl (T.e 4 rfl))) rfl (Zm 2 rfl rfl) rfl (Zl Tryd.underlying28 0 rfl rfl) rfl (fun _ T => Zq (rn_lss rfl (T.e 2 rfl) (T.e 0 rfl))) rfl ?_; clear T ac; intro ac T
 refine wpList_nil ?_
 replace T := T.pick [0, 4, 5, 6, 7, 8] rfl
 refine nm_then ?_
 refine wp_if (T.e 0 rfl) ?_ ?_
 ·intro h4
  obtain ⟨x, hkx, -⟩ := ic_next (l := g) (k := i) (by omega)
  have hxr := hgi x (List.mem_of_getElem? hkx)
  obtain ⟨k0, hk8⟩ : ∃ k0 : Nat, x = (k0 : Int) := ⟨x.toNat, by omega⟩
  obtain ⟨p, hkp, -⟩ := pc_next (l := s.ps) (k := k0) (by omega)
  have hpg : p.good := hsg.ps p (List.mem_of_getElem? hkp)
  have hgp := gP_of hkx hk8 hkp
  obtain ⟨q, hkq, -⟩ := tc_next (l := sp) (k := i) (by omega)
  refine Zsk ?_
  refine wp_seq ?_
  refine wp_block ?_
  refine cut_seq (fun ac wc => Tm ac 113 [(1, .slice G g.length n), (2, .slice P sp.length np), (3, .bool su), (4, .pointer (some ⟨g1, 0, none⟩)), (11, .int .i64 (i : Int)), (56, .bool ((!(withinB q.x 0 s.lo)) || (!(withinB q.y 0 s.wi))))] ∧ Mem w noEx wc [(g1, .cells [.int .i64 s.lo, .int .i64 s.wi, .int .i64 s.a0, .int .i64 s.a1, .int .i64 s.c0, .int .i64 s.c1, .slice A s.ps.length d])]) ?_ ?_
  ·refine Zgs M (M.mask [true] rfl) 20 (by kernel_rfl) rfl (by kernel_rfl) ?_
   clear M; intro wc M
   refine gq T 0 1 rfl (fun _ _ _ _ _ => (Zrm rfl (T.e 2 rfl))) ?_; clear T ac; intro ac T
   refine gq T 1 3 rfl (fun _ _ _ _ _ => (Zrm rfl (T.e 6 rfl))) ?_; clear T ac; intro ac T
   refine gq T 2 7 rfl (fun _ _ _ _ _ => (Zri (size := 3) i rfl (T.e 1 rfl) (T.e 0 rfl) ⟨_, Tryd.underlying28, by kernel_rfl⟩ rfl (by omega) (SP.at0 (by omega)))) ?_; clear T ac; intro ac T
   refine gq T 3 15 rfl (fun _ _ _ _ _ => (Zrf (off := 0) rfl (T.e 0 rfl) (fun _ _ _ => by kernel_rfl))) ?_; clear T ac; intro ac T
   refine gq T 4 31 rfl (fun B w' hD hl hS => (rn_cell (Sp.tcC0 SP (show Mem w noEx w' _ from hS) (List.nil_sublist _) hkq) rfl (T.e 0 rfl))) ?_; clear T ac; intro ac T
   refine gq (v := (.pointer (some ⟨g1, 0, none⟩))) T 5 63 rfl (fun _ _ _ _ _ => (Zrf (off := 0) rfl (T.e 9 rfl) (fun _ _ _ => by kernel_rfl))) ?_; clear T ac; intro ac T
   refine gq T 6 127 rfl (fun B w' hD hl hS => (Zro (Mem.nth (show Mem w noEx w' _ from hS) 0 rfl) rfl (T.e 0 rfl) rfl)) ?_; clear T ac; intro ac T
   refine gw 7 255 ?_; intro K hK
   refine Zoc (first := []) (cap := []) T rfl rfl rfl rfl evf (.cons (T.e 2 rfl) (.cons evc (.cons (T.e 0 rfl) .nil))) Tryd.func75 rfl rfl ?_
   refine Calls.mono (fits8_any q.x 0 s.lo _) ?_
   clear T; rintro e wc ⟨rfl, hb⟩ ac T
   replace M := M.call hb; clear hb
   refine Zso hK _ _ (M.mask [true] rfl) ?_; clear hK K
   refine g_addU M ?_
   refine gq T 8 511 rfl (fun _ _ _ _ _ => (rn_not rfl (T.e 0 rfl))) ?_; clear T ac; intro ac T
   refine gq T 9 1023 rfl (fun _ _ _ _ _ => (Zrm rfl (T.e 0 rfl))) ?_; clear T ac; intro ac T
   rcases Bool.eq_false_or_eq_true (!(withinB q.x 0 s.lo)) with h5 | h5
   ·refine g_pass (T := T) (i := 10) rfl (by kernel_rfl) (by kernel_rfl : (Zpb 20 1023).setIfInBounds 10 true = Zpb 20 2047) (si_and si_U si_U) (fun _ _ _ h => h) (Zwn rfl rfl (T.e 0 rfl) h5) rfl rfl rfl ?_; clear T ac; intro ac T
    refine g_pass (T := T) (i := 11) rfl (by kernel_rfl) (by kernel_rfl : (Zpb 20 2047).setIfInBounds 11 true = Zpb 20 4095) (si_and si_U si_U) (fun _ _ _ h => h) (Zwn rfl rfl (T.e 1 rfl) h5) rfl rfl rfl ?_; clear T ac; intro ac T
    refine g_pass (T := T) (i := 12) rfl (by kernel_rfl) (by kernel_rfl : (Zpb 20 4095).setIfInBounds 12 true = Zpb 20 8191) (si_and si_U si_U) (fun _ _ _ h => h) (Zwn rfl rfl (T.e 2 rfl) h5) rfl rfl rfl ?_; clear T ac; intro ac T
    refine g_pass (T := T) (i := 13) rfl (by kernel_rfl) (by kernel_rfl : (Zpb 20 8191).setIfInBounds 13 true = Zpb 20 16383) (si_and si_U si_U) (fun _ _ _ h => h) (Zwn rfl rfl (T.e 3 rfl) h5) rfl rfl rfl ?_; clear T ac; intro ac T
    refine g_pass (T := T) (i := 14) rfl (by kernel_rfl) (by kernel_rfl : (Zpb 20 16383).setIfInBounds 14 true = Zpb 20 32767) (si_and si_U si_U) (fun _ _ _ h => h) (Zwn rfl rfl (T.e 4 rfl) h5) rfl rfl rfl ?_; clear T ac; intro ac T
    refine g_pass (T := T) (i := 15) rfl (by kernel_rfl) (by kernel_rfl : (Zpb 20 32767).setIfInBounds 15 true = Zpb 20 65535) (si_and si_U si_U) (fun _ _ _ h => h) (Zwn rfl rfl (T.e 5 rfl) h5) rfl rfl rfl ?_; clear T ac; intro ac T
    refine g_pass (T := T) (i := 16) rfl (by kernel_rfl) (by kernel_rfl : (Zpb 20 65535).setIfInBounds 16 true = Zpb 20 131071) (si_and si_U si_U) (fun _ _ _ h => h) (Zwn rfl rfl (T.e 6 rfl) h5) rfl rfl rfl ?_; clear T ac; intro ac T
    refine g_pass (T := T) (i := 17) rfl (by kernel_rfl) (by kernel_rfl : (Zpb 20 131071).setIfInBounds 17 true = Zpb 20 262143) (si_and si_U si_U) (fun _ _ _ h => h) (Zwn rfl rfl (T.e 7 rfl) h5) rfl rfl rfl ?_; clear T ac; intro ac T
    refine g_pass (T := T) (i := 18) rfl (by kernel_rfl) (by kernel_rfl : (Zpb 20 262143).setIfInBounds 18 true = Zpb 20 524287) (si_and si_U si_U) (fun _ _ _ h => h) (Zwn rfl rfl (T.e 8 rfl) h5) rfl rfl rfl ?_; clear T ac; intro ac T
    refine gq T 19 1048575 rfl (fun _ _ _ _ _ => (Zr1 rfl (T.e 9 rfl) h5 evc)) ?_; clear T ac; intro ac T
    refine Zgd (by kernel_rfl) ?_
    replace T := T.pick [0, 1, 2, 3, 4, 5, 6, 7, 8, 9, 21, 22, 23, 24, 25] rfl
    exact ⟨(T.pick (E' := [(1, .slice G g.length n), (2, .slice P sp.length np), (3, .bool su), (4, .pointer (some ⟨g1, 0, none⟩)), (11, .int .i64 (i : Int)), (56, .bool true)]) [10, 11, 12, 13, 14, 0] rfl).as (by (try rw [show (!(withinB q.x 0 s.lo)) = true from h5]); (try rfl)), M.mask [true] rfl⟩
   refine g_q (T := T) (i := 10) rfl (by kernel_rfl) (by kernel_rfl : (Zpb 20 1023).setIfInBounds 10 true = Zpb 20 2047) (si_and si_U si_U) (fun _ _ _ h => h) (Zwy rfl rfl (T.e 0 rfl) h5) rfl rfl rfl (fun _ _ _ _ _ => (Zrm rfl (T.e 12 rfl))) ?_; clear T ac; intro ac T
   refine g_q (T := T) (i := 11) rfl (by kernel_rfl) (by kernel_rfl : (Zpb 20 2047).setIfInBounds 11 true = Zpb 20 4095) (si_and si_U si_U) (fun _ _ _ h => h) (Zwy rfl rfl (T.e 1 rfl) h5) rfl rfl rfl (fun _ _ _ _ _ => (Zrm rfl (T.e 16 rfl))) ?_; clear T ac; intro ac T
   refine g_q (T := T) (i := 12) rfl (by kernel_rfl) (by kernel_rfl : (Zpb 20 4095).setIfInBounds 12 true = Zpb 20 8191) (si_and si_U si_U) (fun _ _ _ h => h) (Zwy rfl rfl (T.e 2 rfl) h5) rfl rfl rfl (fun _ _ _ _ _ => (Zri (size := 3) i rfl (T.e 1 rfl) (T.e 0 rfl) ⟨_, Tryd.underlying28, by kernel_rfl⟩ rfl (by omega) (SP.at0 (by omega)))) ?_; clear T ac; intro ac T
   refine g_q (T := T) (i := 13) rfl (by kernel_rfl) (by kernel_rfl : (Zpb 20 8191).setIfInBounds 13 true = Zpb 20 16383) (si_and si_U si_U) (fun _ _ _ h => h) (Zwy rfl rfl (T.e 3 rfl) h5) rfl rfl rfl (fun _ _ _ _ _ => (Zrf (off := 1) rfl (T.e 0 rfl) (fun _ _ _ => by kernel_rfl))) ?_; clear T ac; intro ac T
   refine g_q (T := T) (i := 14) rfl (by kernel_rfl) (by kernel_rfl : (Zpb 20 16383).setIfInBounds 14 true = Zpb 20 32767) (si_and si_U si_U) (fun _ _ _ h => h) (Zwy rfl rfl (T.e 4 rfl) h5) rfl rfl rfl (fun B w' hD hl hS => (rn_cell (Sp.tcC1 SP (show Mem w noEx w' _ from (MA.lft hS)) (List.nil_sublist _) hkq) rfl (T.e 0 rfl))) ?_; clear T ac; intro ac T
   refine g_q (v := (.pointer (some ⟨g1, 1, none⟩))) (T := T) (i := 15) rfl (by kernel_rfl) (by kernel_rfl : (Zpb 20 32767).setIfInBounds 15 true = Zpb 20 65535) (si_and si_U si_U) (fun _ _ _ h => h) (Zwy rfl rfl (T.e 5 rfl) h5) rfl rfl rfl (fun _ _ _ _ _ => (Zrf (off := 1) rfl (T.e 19 rfl) (fun _ _ _ => by kernel_rfl))) ?_; clear T ac; intro ac T
   refine g_q (T := T) (i := 16) rfl (by kernel_rfl) (by kernel_rfl : (Zpb 20 65535).setIfInBounds 16 true = Zpb 20 131071) (si_and si_U si_U) (fun _ _ _ h => h) (Zwy rfl rfl (T.e 6 rfl) h5) rfl rfl rfl (fun B w' hD hl hS => (Zro (Mem.nth (show Mem w noEx w' _ from (MA.lft hS)) 0 rfl) rfl (T.e 0 rfl) rfl)) ?_; clear T ac; intro ac T
   refine g_w (i := 17) (by kernel_rfl) rfl (by kernel_rfl : (Zpb 20 131071).setIfInBounds 17 true = Zpb 20 262143) (Zwy rfl rfl (T.e 7 rfl) h5) ?_; intro K hK
   refine Zoc (first := []) (cap := []) T rfl rfl rfl rfl evf (.cons (T.e 2 rfl) (.cons evc (.cons (T.e 0 rfl) .nil))) Tryd.func75 rfl rfl ?_
   refine Calls.mono (fits8_any q.y 0 s.wi _) ?_
   clear T; rintro e wc ⟨rfl, hb⟩ ac T
   replace M := M.call hb; clear hb
   refine Zso hK _ _ (MA.mk (M.mask [true] rfl) (M.mask [true] rfl)) ?_; clear hK K
   refine g_q (T := T) (i := 18) rfl (by kernel_rfl) (by kernel_rfl : (Zpb 20 262143).setIfInBounds 18 true = Zpb 20 524287) (si_and si_U si_U) (fun _ _ _ h => h) (Zwy rfl rfl (T.e 8 rfl) h5) rfl rfl rfl (fun _ _ _ _ _ => (rn_not rfl (T.e 0 rfl))) ?_; clear T ac; intro ac T
   refine gq T 19 1048575 rfl (fun _ _ _ _ _ => (Zr0 rfl (T.e 9 rfl) h5 (T.e 0 rfl))) ?_; clear T ac; intro ac T
   refine Zgd (by kernel_rfl) ?_
   replace T := T.pick [0, 1, 2, 3, 4, 5, 6, 7, 8, 9, 21, 22, 23, 24, 25] rfl
   exact ⟨(T.pick (E' := [(1, .slice G g.length n), (2, .slice P sp.length np), (3, .bool su), (4, .pointer (some ⟨g1, 0, none⟩)), (11, .int .i64 (i : Int)), (56, .bool (!(withinB q.y 0 s.wi)))]) [10, 11, 12, 13, 14, 0] rfl).as (by (try rw [show (!(withinB q.x 0 s.lo)) = false from h5]); (try rfl)), M.mask [true] rfl⟩
  clear T M
  rintro ac wc ⟨T, M⟩
  refine wp_cond_split (T.e 5 rfl) ?_ ?_
  ·intro h6
   (have h6' := h6; try simp only [Zb1, Zb2, Zb3, Zb4, Zb5, Zb6, Zb7] at h6')
   have hw8 : ¬ ((0 ≤ q.x ∧ q.x ≤ s.lo) ∧ (0 ≤ q.y ∧ q.y ≤ s.wi)) := by simp [withinB] at h6; omega
   refine Zsr ?_
   refine Zg2 T (Zq (Zra rfl evc)) rfl (Zc rfl) rfl ?_; clear T ac; intro ac T
   refine wpList_nil ?_
   replace T := T.pick [0, 1] rfl
   replace M := M.mask [false] rfl
   refine Znr ?_
   refine Zrb ?_
   refine Zrt ?_
   refine Zrt ?_
   refine Zrb ?_
   refine Zrt ?_
   refine rt_2 T rfl (T.e 1 rfl) (T.e 0 rfl) ?_
   have e9 : cutsE s g sp.length = 0 := (if_neg (by omega)).trans ((if_neg (by omega)).trans (if_neg (by omega)))
   have e8 : cutsV s g sp su = cutsB (cutA s su) (cutC s su) s.lo s.wi (gP s g) sp := if_pos e9
   have hl9 : (gP s g).length = sp.length := by rw [gP_len]; omega
   have hb9 : badP (cutA s su) (cutC s su) s.lo s.wi p q = true := by rw [← Bool.not_eq_false]; intro h9; have := bad_not h9; have := size_pos (cut_bd hsg su).1.1 (cut_bd hsg su).2.1 hpg q.t; omega
   rw [e9, e8, cuts_bad hl9 hgp hkq hb9]
   exact ⟨rfl, M.below⟩
  intro h6
  (have h6' := h6; try simp only [Zb1, Zb2, Zb3, Zb4, Zb5, Zb6, Zb7] at h6')
  have hw9 : (0 ≤ q.x ∧ q.x ≤ s.lo) ∧ (0 ≤ q.y ∧ q.y ≤ s.wi) := by simp [withinB] at h6; omega
  refine wp_skip ?_
  refine Znb ?_
  refine nm_then ?_
  refine wp_region_lit ?_
  refine Zg2 T (Zq (Zrm rfl (T.e 4 rfl))) rfl (fun _ T => Zq (rn_add rfl (T.e 0 rfl) evc (by omega))) rfl ?_; clear T ac; intro ac T
  refine l_q (v := (.int .i64 ((i : Int) + 1))) (T.pick [0, 1, 2, 3, 4, 5, 7] rfl) rfl rfl rfl rfl (Zra rfl (T.e 0 rfl)) ?_; clear T ac; intro ac T
  refine wpList_nil ?_
  replace T := T.pick [0, 3, 4, 5, 6] rfl
  refine nm_then ?_
  exact ⟨_, by omega, i + 1, rfl, (by omega), (fun j9 h9 q9 e9 => by rcases Nat.lt_or_eq_of_le (Nat.le_of_lt_succ h9) with h8 | rfl; exact H1 j9 h8 q9 e9; rw [hkq] at e9; injection e9 with e9; subst e9; exact hw9), T.pick [1, 2, 3, 4, 0] rfl, M.mask [true] rfl⟩
 intro h4
 have H1a : ∀ (j : Nat) (q : Spt), sp[j]? = some q → (0 ≤ q.x ∧ q.x ≤ s.lo) ∧ (0 ≤ q.y ∧ q.y ≤ s.wi) := fun j q e => H1 j (by have := (List.getElem?_eq_some_iff.1 e).1; omega) q e
 have hfw := bxs_few (su := su) hsg hgi hspl H1a
 have hlB : (bxs (cutA s su) (cutC s su) (gP s g) sp).length = g.length := by rw [bxs_len _ _ (by rw [gP_len]; omega), gP_len]
 refine wp_exit ?_
 refine Zet ?_
 refine Zet ?_
 refine ex_hit ?_
 refine nm_then ?_
 refine Zsr ?_
 refine Zg4 T (Zq (Zrr (Mem.nth M 0 rfl) rfl (T.e 4 rfl) rfl)) rfl (Zm 2 rfl rfl) rfl (Zm 4 rfl rfl) rfl (Zm 6 rfl rfl) rfl ?_; clear T ac; intro ac T
 refine Zl2 ?_
 refine Zoc (first := []) (cap := []) T rfl rfl rfl rfl evf (.cons (T.e 3 rfl) (.cons (T.e 2 rfl) (.cons (T.e 1 rfl) (.cons (T.e 0 rfl) .nil)))) Tryd.func76 rfl rfl ?_
 refine Calls.mono (boxes_any s A d G n g P np sp su _ (SA.rd M (List.nil_sublist _)) (SG.rd M (List.nil_sublist _)) (SP.rd M (List.nil_sublist _)) hsg hgi hgl5 (by omega)) ?_
 clear T; rintro e wc ⟨ABu4, cBu4, IBu4, rfl, hcpBu4, SVBu4, N⟩ ac T
 obtain ⟨bBu4, oBu4, SVBu4⟩ := SVBu4
 have SBu4 := SVBu4 w noEx
 replace M := (M.join N).swapI
 clear N
 replace M : Mem w noEx wc ((g1, .cells [.int .i64 s.lo, .int .i64 s.wi, .int .i64 s.a0, .int .i64 s.a1, .int .i64 s.c0, .int .i64 s.c1, .slice A s.ps.length d]) :: IBu4) := M
 refine lq T (Zra rfl (T.e 0 rfl)) ?_; clear T ac; intro ac T
 refine wpList_nil ?_
 replace T := T.pick [0, 7, 8, 10] rfl
 refine Zns ?_
 refine Zsr ?_
 refine lq T (Zra rfl evc) ?_; clear T ac; intro ac T
 refine Zln ?_
 refine wp_block ?_
 refine wp_loop_n (fun mz ac wc => ∃ (i : Nat), mz = g.length - i ∧ (i ≤ g.length) ∧ (∀ (j : Nat), j < i → ∀ (p : Pt) (q : Spt), (gP s g)[j]? = some p → sp[j]? = some q → badP (cutA s su) (cutC s su) s.lo s.wi p q = false) ∧ (∀ (j : Nat), j < i → ∀ (k : Nat) (p p' : Pt) (q q' : Spt), k < j → (gP s g)[j]? = some p → sp[j]? = some q → (gP s g)[k]? = some p' → sp[k]? = some q' → apaB (bxOf (cutA s su) (cutC s su) p q) (bxOf (cutA s su) (cutC s su) p' q') = true) ∧ Tm ac 113 [(1, .slice G g.length n), (2, .slice P sp.length np), (4, .pointer (some ⟨g1, 0, none⟩)), (12, .slice ABu4 ((bxs (cutA s su) (cutC s su) (gP s g) sp).length) cBu4), (13, .int .i64 (i : Int))] ∧ Mem w noEx wc ((g1, .cells [.int .i64 s.lo, .int .i64 s.wi, .int .i64 s.a0, .int .i64 s.a1, .int .i64 s.c0, .int .i64 s.c1, .slice A s.ps.length d]) :: IBu4)) ?_ ?_
 ·exact ⟨_, 0, rfl, (Nat.zero_le _), (fun j h => by omega), (fun j h => by omega), T.pick [2, 3, 4, 1, 0] rfl, M.mask [true] rfl⟩
 clear T M
 rintro mz ac wc ⟨i, hmm2, hi, Hb, Ha, T, M⟩
 refine wp_seq ?_
 refine Zsr ?_
 refine Zg4 T (Zq (Zrm rfl (T.e 4 rfl))) rfl (Zm 4 rfl rfl) rfl (Zl Tryd.underlying111 0 rfl rfl) rfl (fun _ T => Zq (rn_lss rfl (T.e 2 rfl) (T.e 0 rfl))) rfl ?_; clear T ac; intro ac T
 refine wpList_nil ?_
 replace T := T.pick [0, 4, 5, 6, 7, 8] rfl
 refine nm_then ?_
 refine wp_if (T.e 0 rfl) ?_ ?_
 ·intro h7
  obtain ⟨x, hkx, -⟩ := ic_next (l := g) (k := i) (by omega)
  have hxr := hgi x (List.mem_of_getElem? hkx)
  obtain ⟨k0, hk8⟩ : ∃ k0 : Nat, x = (k0 : Int) := ⟨x.toNat, by omega⟩
  obtain ⟨p, hkp, -⟩ := pc_next (l := s.ps) (k := k0) (by omega)
  have hpg : p.good := hsg.ps p (List.mem_of_getElem? hkp)
  have hgp := gP_of hkx hk8 hkp
  obtain ⟨q, hkq, -⟩ := tc_next (l := sp) (k := i) (by omega)
  have hkb := bxs_get (a := cutA s su) (c := cutC s su) _ _ _ hgp hkq
  have hfp := hfw _ (List.mem_of_getElem? hkb)
  refine Zsk ?_
  refine wp_seq ?_
  refine wp_block ?_
  refine wp_seq ?_
  refine cut_seq (fun ac wc => Tm ac 113 [(1, .slice G g.length n), (2, .slice P sp.length np), (4, .pointer (some ⟨g1, 0, none⟩)), (12, .slice ABu4 ((bxs (cutA s su) (cutC s su) (gP s g) sp).length) cBu4), (13, .int .i64 (i : Int)), (93, .bool ((!(insB (bxOf (cutA s su) (cutC s su) p q) (⟨0, 0, s.lo, s.wi⟩ : Bo))) || (q.t && p.gr)))] ∧ Mem w noEx wc ((g1, .cells [.int .i64 s.lo, .int .i64 s.wi, .int .i64 s.a0, .int .i64 s.a1, .int .i64 s.c0, .int .i64 s.c1, .slice A s.ps.length d]) :: IBu4)) ?_ ?_
  ·refine Zgs M (M.mask [true] rfl) 26 (by kernel_rfl) rfl (by kernel_rfl) ?_
   clear M; intro wc M
   refine gq T 0 1 rfl (fun _ _ _ _ _ => (Zrm rfl (T.e 4 rfl))) ?_; clear T ac; intro ac T
   refine gq T 1 3 rfl (fun _ _ _ _ _ => (Zrm rfl (T.e 6 rfl))) ?_; clear T ac; intro ac T
   refine gq T 2 7 rfl (fun _ _ _ _ _ => (Zri (size := 4) i rfl (T.e 1 rfl) (T.e 0 rfl) ⟨_, Tryd.underlying111, by kernel_rfl⟩ rfl (by omega) (SBu4.at0 (by omega)))) ?_; clear T ac; intro ac T
   refine gq (v := (.agg #[.int .i64 ((bxOf (cutA s su) (cutC s su) p q).x), .int .i64 ((bxOf (cutA s su) (cutC s su) p q).y), .int .i64 ((bxOf (cutA s su) (cutC s su) p q).lo), .int .i64 ((bxOf (cutA s su) (cutC s su) p q).wi)])) T 3 15 rfl (fun B w' hD hl hS => (rn_rowat (Sp.bcR SBu4 (show Mem w noEx w' _ from hS) (.cons _ (List.Sublist.refl _)) hkb) rfl (T.e 0 rfl) rfl)) ?_; clear T ac; intro ac T
   refine gq T 4 31 rfl (fun B w' hD hl hS => (Zrr (Mem.nth (show Mem w noEx w' _ from hS) 0 rfl) rfl (T.e 7 rfl) rfl)) ?_; clear T ac; intro ac T
   refine gw 5 63 ?_; intro K hK
   refine Zoc (first := []) (cap := []) T rfl rfl rfl rfl evf (.cons (T.e 0 rfl) .nil) Tryd.func68 rfl rfl ?_
   refine Calls.mono (whole8_any s A d _) ?_
   clear T; rintro e wc ⟨rfl, hb⟩ ac T
   replace M := M.call hb; clear hb
   refine Zso hK _ _ (M.mask [true] rfl) ?_; clear hK K
   refine g_addU M ?_
   refine gw 6 127 ?_; intro K hK
   refine Zoc (first := []) (cap := []) T rfl rfl rfl rfl evf (.cons (T.e 2 rfl) (.cons (T.e 0 rfl) .nil)) Tryd.func77 rfl rfl ?_
   refine Calls.mono (inside8_any (bxOf (cutA s su) (cutC s su) p q) (⟨0, 0, s.lo, s.wi⟩ : Bo) _ hfp (whole_ok hsg).few) ?_
   clear T; rintro e wc ⟨rfl, hb⟩ ac T
   replace M := M.call hb; clear hb
   refine Zso hK _ _ (MA.mk (M.mask [true] rfl) (M.mask [true] rfl)) ?_; clear hK K
   refine g_addU M ?_
   refine gq T 7 255 rfl (fun _ _ _ _ _ => (rn_not rfl (T.e 0 rfl))) ?_; clear T ac; intro ac T
   refine gq T 8 511 rfl (fun _ _ _ _ _ => (Zrm rfl (T.e 0 rfl))) ?_; clear T ac; intro ac T
   rcases Bool.eq_false_or_eq_true (!(insB (bxOf (cutA s su) (cutC s su) p q) (⟨0, 0, s.lo, s.wi⟩ : Bo))) with h8 | h8
   ·refine g_pass (T := T) (i := 9) rfl (by kernel_rfl) (by kernel_rfl : (Zpb 26 511).setIfInBounds 9 true = Zpb 26 1023) (si_and si_U (si_and si_U si_U)) (fun _ _ _ h => h) (Zwn rfl rfl (T.e 0 rfl) h8) rfl rfl rfl ?_; clear T ac; intro ac T
    refine g_pass (T := T) (i := 10) rfl (by kernel_rfl) (by kernel_rfl : (Zpb 26 1023).setIfInBounds 10 true = Zpb 26 2047) (si_and si_U (si_and si_U si_U)) (fun _ _ _ h => h) (Zwn rfl rfl (T.e 1 rfl) h8) rfl rfl rfl ?_; clear T ac; intro ac T
    refine g_pass (T := T) (i := 11) rfl (by kernel_rfl) (by kernel_rfl : (Zpb 26 2047).setIfInBounds 11 true = Zpb 26 4095) (si_and si_U (si_and si_U si_U)) (fun _ _ _ h => h) (Zwn rfl rfl (T.e 2 rfl) h8) rfl rfl rfl ?_; clear T ac; intro ac T
    refine g_pass (T := T) (i := 12) rfl (by kernel_rfl) (by kernel_rfl : (Zpb 26 4095).setIfInBounds 12 true = Zpb 26 8191) (si_and si_U (si_and si_U si_U)) (fun _ _ _ h => h) (Zwn rfl rfl (T.e 3 rfl) h8) rfl rfl rfl ?_; clear T ac; intro ac T
    refine g_pass (T := T) (i := 13) rfl (by kernel_rfl) (by kernel_rfl : (Zpb 26 8191).setIfInBounds 13 true = Zpb 26 16383) (si_and si_U (si_and si_U si_U)) (fun _ _ _ h => h) (Zwn rfl rfl (T.e 4 rfl) h8) rfl rfl rfl ?_; clear T ac; intro ac T
    refine g_pass (T := T) (i := 14) rfl (by kernel_rfl) (by kernel_rfl : (Zpb 26 16383).setIfInBounds 14 true = Zpb 26 32767) (si_and si_U (si_and si_U si_U)) (fun _ _ _ h => h) (Zwn rfl rfl (T.e 5 rfl) h8) rfl rfl rfl ?_; clear T ac; intro ac T
    refine g_pass (T := T) (i := 15) rfl (by kernel_rfl) (by kernel_rfl : (Zpb 26 32767).setIfInBounds 15 true = Zpb 26 65535) (si_and si_U (si_and si_U si_U)) (fun _ _ _ h => h) (Zwu rfl rfl (T.e 0 rfl)) rfl rfl rfl ?_; clear T ac; intro ac T
    refine g_pass (T := T) (i := 16) rfl (by kernel_rfl) (by kernel_rfl : (Zpb 26 65535).setIfInBounds 16 true = Zpb 26 131071) (si_and si_U (si_and si_U si_U)) (fun _ _ _ h => h) (Zwu rfl rfl (T.e 1 rfl)) rfl rfl rfl ?_; clear T ac; intro ac T
    refine g_pass (T := T) (i := 17) rfl (by kernel_rfl) (by kernel_rfl : (Zpb 26 131071).setIfInBounds 17 true = Zpb 26 262143) (si_and si_U (si_and si_U si_U)) (fun _ _ _ h => h) (Zwu rfl rfl (T.e 2 rfl)) rfl rfl rfl ?_; clear T ac; intro ac T
    refine g_pass (T := T) (i := 18) rfl (by kernel_rfl) (by kernel_rfl : (Zpb 26 262143).setIfInBounds 18 true = Zpb 26 524287) (si_and si_U (si_and si_U si_U)) (fun _ _ _ h => h) (Zwu rfl rfl (T.e 3 rfl)) rfl rfl rfl ?_; clear T ac; intro ac T
    refine g_pass (T := T) (i := 19) rfl (by kernel_rfl) (by kernel_rfl : (Zpb 26 524287).setIfInBounds 19 true = Zpb 26 1048575) (si_and si_U (si_and si_U si_U)) (fun _ _ _ h => h) (Zwu rfl rfl (T.e 4 rfl)) rfl rfl rfl ?_; clear T ac; intro ac T
    refine g_pass (T := T) (i := 20) rfl (by kernel_rfl) (by kernel_rfl : (Zpb 26 1048575).setIfInBounds 20 true = Zpb 26 2097151) (si_and si_U (si_and si_U si_U)) (fun _ _ _ h => h) (Zwu rfl rfl (T.e 5 rfl)) rfl rfl rfl ?_; clear T ac; intro ac T
    refine g_pass (T := T) (i := 21) rfl (by kernel_rfl) (by kernel_rfl : (Zpb 26 2097151).setIfInBounds 21 true = Zpb 26 4194303) (si_and si_U (si_and si_U si_U)) (fun _ _ _ h => h) (Zwu rfl rfl (T.e 6 rfl)) rfl rfl rfl ?_; clear T ac; intro ac T
    refine g_pass (T := T) (i := 22) rfl (by kernel_rfl) (by kernel_rfl : (Zpb 26 4194303).setIfInBounds 22 true = Zpb 26 8388607) (si_and si_U (si_and si_U si_U)) (fun _ _ _ h => h) (Zwu rfl rfl (T.e 7 rfl)) rfl rfl rfl ?_; clear T ac; intro ac T
    refine g_pass (T := T) (i := 23) rfl (by kernel_rfl) (by kernel_rfl : (Zpb 26 8388607).setIfInBounds 23 true = Zpb 26 16777215) (si_and si_U (si_and si_U si_U)) (fun _ _ _ h => h) (Zwu rfl rfl (T.e 8 rfl)) rfl rfl rfl ?_; clear T ac; intro ac T
    refine g_pass (T := T) (i := 24) rfl (by kernel_rfl) (by kernel_rfl : (Zpb 26 16777215).setIfInBounds 24 true = Zpb 26 33554431) (si_and si_U (si_and si_U si_U)) (fun _ _ _ h => h) (Zwn rfl rfl (T.e 15 rfl) h8) rfl rfl rfl ?_; clear T ac; intro ac T
    refine gq T 25 67108863 rfl (fun _ _ _ _ _ => (Zr1 rfl (T.e 16 rfl) h8 evc)) ?_; clear T ac; intro ac T
    refine Zgd (by kernel_rfl) ?_
    replace T := T.pick [0, 1, 2, 3, 4, 5, 6, 7, 8, 9, 10, 11, 12, 13, 14, 15, 16, 27, 28, 29, 30, 31] rfl
    exact ⟨(T.pick (E' := [(1, .slice G g.length n), (2, .slice P sp.length np), (4, .pointer (some ⟨g1, 0, none⟩)), (12, .slice ABu4 ((bxs (cutA s su) (cutC s su) (gP s g) sp).length) cBu4), (13, .int .i64 (i : Int)), (93, .bool true)]) [17, 18, 19, 20, 21, 0] rfl).as (by (try rw [show (!(insB (bxOf (cutA s su) (cutC s su) p q) (⟨0, 0, s.lo, s.wi⟩ : Bo))) = true from h8]); (try rfl)), M.mask [true] rfl⟩
   refine g_q (T := T) (i := 9) rfl (by kernel_rfl) (by kernel_rfl : (Zpb 26 511).setIfInBounds 9 true = Zpb 26 1023) (si_and si_U (si_and si_U si_U)) (fun _ _ _ h => h) (Zwy rfl rfl (T.e 0 rfl) h8) rfl rfl rfl (fun _ _ _ _ _ => (Zrm rfl (T.e 11 rfl))) ?_; clear T ac; intro ac T
   refine g_q (T := T) (i := 10) rfl (by kernel_rfl) (by kernel_rfl : (Zpb 26 1023).setIfInBounds 10 true = Zpb 26 2047) (si_and si_U (si_and si_U si_U)) (fun _ _ _ h => h) (Zwy rfl rfl (T.e 1 rfl) h8) rfl rfl rfl (fun _ _ _ _ _ => (Zrm rfl (T.e 15 rfl))) ?_; clear T ac; intro ac T
   refine g_q (T := T) (i := 11) rfl (by kernel_rfl) (by kernel_rfl : (Zpb 26 2047).setIfInBounds 11 true = Zpb 26 4095) (si_and si_U (si_and si_U si_U)) (fun _ _ _ h => h) (Zwy rfl rfl (T.e 2 rfl) h8) rfl rfl rfl (fun _ _ _ _ _ => (Zri (size := 3) i rfl (T.e 1 rfl) (T.e 0 rfl) ⟨_, Tryd.underlying28, by kernel_rfl⟩ rfl (by omega) (SP.at0 (by omega)))) ?_; clear T ac; intro ac T
   refine g_q (T := T) (i := 12) rfl (by kernel_rfl) (by kernel_rfl : (Zpb 26 4095).setIfInBounds 12 true = Zpb 26 8191) (si_and si_U (si_and si_U si_U)) (fun _ _ _ h => h) (Zwy rfl rfl (T.e 3 rfl) h8) rfl rfl rfl (fun _ _ _ _ _ => (Zrf (off := 2) rfl (T.e 0 rfl) (fun _ _ _ => by kernel_rfl))) ?_; clear T ac; intro ac T
   refine g_q (T := T) (i := 13) rfl (by kernel_rfl) (by kernel_rfl : (Zpb 26 8191).setIfInBounds 13 true = Zpb 26 16383) (si_and si_U (si_and si_U si_U)) (fun _ _ _ h => h) (Zwy rfl rfl (T.e 4 rfl) h8) rfl rfl rfl (fun B w' hD hl hS => (rn_cell (Sp.tcC2 SP (show Mem w noEx w' _ from (MA.lft hS)) (List.nil_sublist _) hkq) rfl (T.e 0 rfl))) ?_; clear T ac; intro ac T
   refine g_q (T := T) (i := 14) rfl (by kernel_rfl) (by kernel_rfl : (Zpb 26 16383).setIfInBounds 14 true = Zpb 26 32767) (si_and si_U (si_and si_U si_U)) (fun _ _ _ h => h) (Zwy rfl rfl (T.e 5 rfl) h8) rfl rfl rfl (fun _ _ _ _ _ => (Zrm rfl (T.e 0 rfl))) ?_; clear T ac; intro ac T
   rcases Bool.eq_false_or_eq_true q.t with h9 | h9
   ·refine g_q (v := (.pointer (some ⟨g1, 6, none⟩))) (T := T) (i := 15) rfl (by kernel_rfl) (by kernel_rfl : (Zpb 26 32767).setIfInBounds 15 true = Zpb 26 65535) (si_and si_U (si_and si_U si_U)) (fun _ _ _ h => h) (Zwy rfl rfl (T.e 0 rfl) h9) rfl rfl rfl (fun _ _ _ _ _ => (Zrf (off := 6) rfl (T.e 18 rfl) (fun _ _ _ => by kernel_rfl))) ?_; clear T ac; intro ac T
    refine g_q (T := T) (i := 16) rfl (by kernel_rfl) (by kernel_rfl : (Zpb 26 65535).setIfInBounds 16 true = Zpb 26 131071) (si_and si_U (si_and si_U si_U)) (fun _ _ _ h => h) (Zwy rfl rfl (T.e 1 rfl) h9) rfl rfl rfl (fun B w' hD hl hS => (Zro (Mem.nth (show Mem w noEx w' _ from (MA.lft hS)) 0 rfl) rfl (T.e 0 rfl) rfl)) ?_; clear T ac; intro ac T
    refine g_q (T := T) (i := 17) rfl (by kernel_rfl) (by kernel_rfl : (Zpb 26 131071).setIfInBounds 17 true = Zpb 26 262143) (si_and si_U (si_and si_U si_U)) (fun _ _ _ h => h) (Zwy rfl rfl (T.e 2 rfl) h9) rfl rfl rfl (fun _ _ _ _ _ => (Zrm rfl (T.e 18 rfl))) ?_; clear T ac; intro ac T
    refine g_q (T := T) (i := 18) rfl (by kernel_rfl) (by kernel_rfl : (Zpb 26 262143).setIfInBounds 18 true = Zpb 26 524287) (si_and si_U (si_and si_U si_U)) (fun _ _ _ h => h) (Zwy rfl rfl (T.e 3 rfl) h9) rfl rfl rfl (fun _ _ _ _ _ => (Zrm rfl (T.e 23 rfl))) ?_; clear T ac; intro ac T
    refine g_q (T := T) (i := 19) rfl (by kernel_rfl) (by kernel_rfl : (Zpb 26 524287).setIfInBounds 19 true = Zpb 26 1048575) (si_and si_U (si_and si_U si_U)) (fun _ _ _ h => h) (Zwy rfl rfl (T.e 4 rfl) h9) rfl rfl rfl (fun _ _ _ _ _ => (Zri (size := 1) i rfl (T.e 1 rfl) (T.e 0 rfl) ⟨_, Tryd.underlying27, by kernel_rfl⟩ rfl (by omega) (SG.at0 (by omega)))) ?_; clear T ac; intro ac T
    refine g_q (T := T) (i := 20) rfl (by kernel_rfl) (by kernel_rfl : (Zpb 26 1048575).setIfInBounds 20 true = Zpb 26 2097151) (si_and si_U (si_and si_U si_U)) (fun _ _ _ h => h) (Zwy rfl rfl (T.e 5 rfl) h9) rfl rfl rfl (fun B w' hD hl hS => (rn_cell (Sp.ic0 SG (show Mem w noEx w' _ from (MA.lft hS)) (List.nil_sublist _) hkx) rfl (T.e 0 rfl))) ?_; clear T ac; intro ac T
    refine g_q (T := T) (i := 21) rfl (by kernel_rfl) (by kernel_rfl : (Zpb 26 2097151).setIfInBounds 21 true = Zpb 26 4194303) (si_and si_U (si_and si_U si_U)) (fun _ _ _ h => h) (Zwy rfl rfl (T.e 6 rfl) h9) rfl rfl rfl (fun _ _ _ _ _ => (Zri (size := 4) k0 rfl (T.e 4 rfl) (T.e 0 rfl) ⟨_, Tryd.underlying24, by kernel_rfl⟩ hk8 (by omega) (SA.at0 (by omega)))) ?_; clear T ac; intro ac T
    refine g_q (T := T) (i := 22) rfl (by kernel_rfl) (by kernel_rfl : (Zpb 26 4194303).setIfInBounds 22 true = Zpb 26 8388607) (si_and si_U (si_and si_U si_U)) (fun _ _ _ h => h) (Zwy rfl rfl (T.e 7 rfl) h9) rfl rfl rfl (fun _ _ _ _ _ => (Zrf (off := 2) rfl (T.e 0 rfl) (fun _ _ _ => by kernel_rfl))) ?_; clear T ac; intro ac T
    refine g_q (T := T) (i := 23) rfl (by kernel_rfl) (by kernel_rfl : (Zpb 26 8388607).setIfInBounds 23 true = Zpb 26 16777215) (si_and si_U (si_and si_U si_U)) (fun _ _ _ h => h) (Zwy rfl rfl (T.e 8 rfl) h9) rfl rfl rfl (fun B w' hD hl hS => (rn_cell (Sp.pcC2 SA (show Mem w noEx w' _ from (MA.lft hS)) (List.nil_sublist _) hkp) rfl (T.e 0 rfl))) ?_; clear T ac; intro ac T
    refine g_q (T := T) (i := 24) rfl (by kernel_rfl) (by kernel_rfl : (Zpb 26 16777215).setIfInBounds 24 true = Zpb 26 33554431) (si_and si_U (si_and si_U si_U)) (fun _ _ _ h => h) (Zwy rfl rfl (T.e 15 rfl) h8) rfl rfl rfl (fun _ _ _ _ _ => (Zr1 rfl (T.e 9 rfl) h9 (T.e 0 rfl))) ?_; clear T ac; intro ac T
    refine gq T 25 67108863 rfl (fun _ _ _ _ _ => (Zr0 rfl (T.e 16 rfl) h8 (T.e 0 rfl))) ?_; clear T ac; intro ac T
    refine Zgd (by kernel_rfl) ?_
    replace T := T.pick [0, 1, 2, 3, 4, 5, 6, 7, 8, 9, 10, 11, 12, 13, 14, 15, 16, 27, 28, 29, 30, 31] rfl
    exact ⟨(T.pick (E' := [(1, .slice G g.length n), (2, .slice P sp.length np), (4, .pointer (some ⟨g1, 0, none⟩)), (12, .slice ABu4 ((bxs (cutA s su) (cutC s su) (gP s g) sp).length) cBu4), (13, .int .i64 (i : Int)), (93, .bool p.gr)]) [17, 18, 19, 20, 21, 0] rfl).as (by (try rw [show (!(insB (bxOf (cutA s su) (cutC s su) p q) (⟨0, 0, s.lo, s.wi⟩ : Bo))) = false from h8]); (try rw [show q.t = true from h9]); (try rfl)), M.mask [true] rfl⟩
   refine g_pass (T := T) (i := 15) rfl (by kernel_rfl) (by kernel_rfl : (Zpb 26 32767).setIfInBounds 15 true = Zpb 26 65535) (si_and si_U (si_and si_U si_U)) (fun _ _ _ h => h) (Zwn rfl rfl (T.e 0 rfl) h9) rfl rfl rfl ?_; clear T ac; intro ac T
   refine g_pass (T := T) (i := 16) rfl (by kernel_rfl) (by kernel_rfl : (Zpb 26 65535).setIfInBounds 16 true = Zpb 26 131071) (si_and si_U (si_and si_U si_U)) (fun _ _ _ h => h) (Zwn rfl rfl (T.e 1 rfl) h9) rfl rfl rfl ?_; clear T ac; intro ac T
   refine g_pass (T := T) (i := 17) rfl (by kernel_rfl) (by kernel_rfl : (Zpb 26 131071).setIfInBounds 17 true = Zpb 26 262143) (si_and si_U (si_and si_U si_U)) (fun _ _ _ h => h) (Zwn rfl rfl (T.e 2 rfl) h9) rfl rfl rfl ?_; clear T ac; intro ac T
   refine g_pass (T := T) (i := 18) rfl (by kernel_rfl) (by kernel_rfl : (Zpb 26 262143).setIfInBounds 18 true = Zpb 26 524287) (si_and si_U (si_and si_U si_U)) (fun _ _ _ h => h) (Zwn rfl rfl (T.e 3 rfl) h9) rfl rfl rfl ?_; clear T ac; intro ac T
   refine g_pass (T := T) (i := 19) rfl (by kernel_rfl) (by kernel_rfl : (Zpb 26 524287).setIfInBounds 19 true = Zpb 26 1048575) (si_and si_U (si_and si_U si_U)) (fun _ _ _ h => h) (Zwn rfl rfl (T.e 4 rfl) h9) rfl rfl rfl ?_; clear T ac; intro ac T
   refine g_pass (T := T) (i := 20) rfl (by kernel_rfl) (by kernel_rfl : (Zpb 26 1048575).setIfInBounds 20 true = Zpb 26 2097151) (si_and si_U (si_and si_U si_U)) (fun _ _ _ h => h) (Zwn rfl rfl (T.e 5 rfl) h9) rfl rfl rfl ?_; clear T ac; intro ac T
   refine g_pass (T := T) (i := 21) rfl (by kernel_rfl) (by kernel_rfl : (Zpb 26 2097151).setIfInBounds 21 true = Zpb 26 4194303) (si_and si_U (si_and si_U si_U)) (fun _ _ _ h => h) (Zwn rfl rfl (T.e 6 rfl) h9) rfl rfl rfl ?_; clear T ac; intro ac T
   refine g_pass (T := T) (i := 22) rfl (by kernel_rfl) (by kernel_rfl : (Zpb 26 4194303).setIfInBounds 22 true = Zpb 26 8388607) (si_and si_U (si_and si_U si_U)) (fun _ _ _ h => h) (Zwn rfl rfl (T.e 7 rfl) h9) rfl rfl rfl ?_; clear T ac; intro ac T
   refine g_pass (T := T) (i := 23) rfl (by kernel_rfl) (by kernel_rfl : (Zpb 26 8388607).setIfInBounds 23 true = Zpb 26 16777215) (si_and si_U (si_and si_U si_U)) (fun _ _ _ h => h) (Zwn rfl rfl (T.e 8 rfl) h9) rfl rfl rfl ?_; clear T ac; intro ac T
   refine g_q (T := T) (i := 24) rfl (by kernel_rfl) (by kernel_rfl : (Zpb 26 16777215).setIfInBounds 24 true = Zpb 26 33554431) (si_and si_U (si_and si_U si_U)) (fun _ _ _ h => h) (Zwy rfl rfl (T.e 15 rfl) h8) rfl rfl rfl (fun _ _ _ _ _ => (Zr0 rfl (T.e 9 rfl) h9 evc)) ?_; clear T ac; intro ac T
   refine gq T 25 67108863 rfl (fun _ _ _ _ _ => (Zr0 rfl (T.e 16 rfl) h8 (T.e 0 rfl))) ?_; clear T ac; intro ac T
   refine Zgd (by kernel_rfl) ?_
   replace T := T.pick [0, 1, 2, 3, 4, 5, 6, 7, 8, 9, 10, 11, 12, 13, 14, 15, 16, 27, 28, 29, 30, 31] rfl
   exact ⟨(T.pick (E' := [(1, .slice G g.length n), (2, .slice P sp.length np), (4, .pointer (some ⟨g1, 0, none⟩)), (12, .slice ABu4 ((bxs (cutA s su) (cutC s su) (gP s g) sp).length) cBu4), (13, .int .i64 (i : Int)), (93, .bool false)]) [17, 18, 19, 20, 21, 0] rfl).as (by (try rw [show (!(insB (bxOf (cutA s su) (cutC s su) p q) (⟨0, 0, s.lo, s.wi⟩ : Bo))) = false from h8]); (try rw [show q.t = false from h9]); (try rfl)), M.mask [true] rfl⟩
  clear T M
  rintro ac wc ⟨T, M⟩
  refine wp_cond_split (T.e 5 rfl) ?_ ?_
  ·intro h10
   (have h10' := h10; try simp only [Zb1, Zb2, Zb3, Zb4, Zb5, Zb6, Zb7] at h10')
   have hb9 : badP (cutA s su) (cutC s su) s.lo s.wi p q = true := by rw [bad_ins, Bool.or_comm]; first | exact h10 | simp_all
   refine Zsr ?_
   refine Zg2 T (Zq (Zra rfl evc)) rfl (Zc rfl) rfl ?_; clear T ac; intro ac T
   refine wpList_nil ?_
   replace T := T.pick [0, 1] rfl
   replace M := M.mask [false] rfl
   refine Znr ?_
   refine Zrt ?_
   refine Zrb ?_
   refine Zrt ?_
   refine Zrt ?_
   refine Zrb ?_
   refine Zrt ?_
   refine rt_2 T rfl (T.e 1 rfl) (T.e 0 rfl) ?_
   have e9 : cutsE s g sp.length = 0 := (if_neg (by omega)).trans ((if_neg (by omega)).trans (if_neg (by omega)))
   have e8 : cutsV s g sp su = cutsB (cutA s su) (cutC s su) s.lo s.wi (gP s g) sp := if_pos e9
   have hl9 : (gP s g).length = sp.length := by rw [gP_len]; omega
   rw [e9, e8, cuts_bad hl9 hgp hkq hb9]
   exact ⟨rfl, M.below⟩
  intro h10
  (have h10' := h10; try simp only [Zb1, Zb2, Zb3, Zb4, Zb5, Zb6, Zb7] at h10')
  have hb9 : badP (cutA s su) (cutC s su) s.lo s.wi p q = false := by rw [bad_ins, Bool.or_comm]; first | exact h10 | simp_all
  refine Zsk ?_
  refine Zsr ?_
  refine lq T (Zra rfl evc) ?_; clear T ac; intro ac T
  refine wpList_nil ?_
  replace T := T.pick [0, 1, 2, 3, 4, 5] rfl
  refine nm_then ?_
  refine wp_block ?_
  refine wp_loop_n (fun mz ac wc => ∃ (k : Nat), mz = i - k ∧ (k ≤ i) ∧ (∀ (k' : Nat), k' < k → ∀ (p' : Pt) (q' : Spt), (gP s g)[k']? = some p' → sp[k']? = some q' → apaB (bxOf (cutA s su) (cutC s su) p q) (bxOf (cutA s su) (cutC s su) p' q') = true) ∧ Tm ac 113 [(1, .slice G g.length n), (2, .slice P sp.length np), (4, .pointer (some ⟨g1, 0, none⟩)), (12, .slice ABu4 ((bxs (cutA s su) (cutC s su) (gP s g) sp).length) cBu4), (13, .int .i64 (i : Int)), (14, .int .i64 (k : Int))] ∧ Mem w noEx wc ((g1, .cells [.int .i64 s.lo, .int .i64 s.wi, .int .i64 s.a0, .int .i64 s.a1, .int .i64 s.c0, .int .i64 s.c1, .slice A s.ps.length d]) :: IBu4)) ?_ ?_
  ·exact ⟨_, 0, rfl, (Nat.zero_le _), (fun k h => by omega), T.pick [1, 2, 3, 4, 5, 0] rfl, M.mask [true] rfl⟩
  clear T M
  rintro mz ac wc ⟨k, hmm3, hk, K, T, M⟩
  refine wp_seq ?_
  refine Zsr ?_
  refine Zg3 T (Zq (Zrm rfl (T.e 5 rfl))) rfl (Zm 5 rfl rfl) rfl (fun _ T => Zq (rn_lss rfl (T.e 1 rfl) (T.e 0 rfl))) rfl ?_; clear T ac; intro ac T
  refine wpList_nil ?_
  replace T := T.pick [0, 3, 4, 5, 6, 7, 8] rfl
  refine nm_then ?_
  refine wp_if (T.e 0 rfl) ?_ ?_
  ·intro h11
   obtain ⟨p2, hgp2⟩ : ∃ p2, (gP s g)[k]? = some p2 := ⟨_, List.getElem?_eq_getElem (by rw [gP_len]; omega)⟩
   obtain ⟨q2, hkq2, -⟩ := tc_next (l := sp) (k := k) (by omega)
   have hkb2 := bxs_get (a := cutA s su) (c := cutC s su) _ _ _ hgp2 hkq2
   have hfp2 := hfw _ (List.mem_of_getElem? hkb2)
   refine Zsk ?_
   refine wp_seq ?_
   refine wp_block ?_
   refine wp_seq ?_
   refine Zgs M (M.mask [true] rfl) 10 (by kernel_rfl) rfl (by kernel_rfl) ?_
   clear M; intro wc M
   refine gq T 0 1 rfl (fun _ _ _ _ _ => (Zrm rfl (T.e 4 rfl))) ?_; clear T ac; intro ac T
   refine gq T 1 3 rfl (fun _ _ _ _ _ => (Zrm rfl (T.e 6 rfl))) ?_; clear T ac; intro ac T
   refine gq T 2 7 rfl (fun _ _ _ _ _ => (Zri (size := 4) i rfl (T.e 1 rfl) (T.e 0 rfl) ⟨_, Tryd.underlying111, by kernel_rfl⟩ rfl (by omega) (SBu4.at0 (by omega)))) ?_; clear T ac; intro ac T
   refine gq (v := (.agg #[.int .i64 ((bxOf (cutA s su) (cutC s su) p q).x), .int .i64 ((bxOf (cutA s su) (cutC s su) p q).y), .int .i64 ((bxOf (cutA s su) (cutC s su) p q).lo), .int .i64 ((bxOf (cutA s su) (cutC s su) p q).wi)])) T 3 15 rfl (fun B w' hD hl hS => (rn_rowat (Sp.bcR SBu4 (show Mem w noEx w' _ from hS) (.cons _ (List.Sublist.refl _)) hkb) rfl (T.e 0 rfl) rfl)) ?_; clear T ac; intro ac T
   refine gq T 4 31 rfl (fun _ _ _ _ _ => (Zrm rfl (T.e 8 rfl))) ?_; clear T ac; intro ac T
   refine gq T 5 63 rfl (fun _ _ _ _ _ => (Zrm rfl (T.e 11 rfl))) ?_; clear T ac; intro ac T
   refine gq T 6 127 rfl (fun _ _ _ _ _ => (Zri (size := 4) k rfl (T.e 1 rfl) (T.e 0 rfl) ⟨_, Tryd.underlying111, by kernel_rfl⟩ rfl (by omega) (SBu4.at0 (by omega)))) ?_; clear T ac; intro ac T
   refine gq (v := (.agg #[.int .i64 ((bxOf (cutA s su) (cutC s su) p2 q2).x), .int .i64 ((bxOf (cutA s su) (cutC s su) p2 q2).y), .int .i64 ((bxOf (cutA s su) (cutC s su) p2 q2).lo), .int .i64 ((bxOf (cutA s su) (cutC s su) p2 q2).wi)])) T 7 255 rfl (fun B w' hD hl hS => (rn_rowat (Sp.bcR SBu4 (show Mem w noEx w' _ from hS) (.cons _ (List.Sublist.refl _)) hkb2) rfl (T.e 0 rfl) rfl)) ?_; clear T ac; intro ac T
   refine gw 8 511 ?_; intro K hK
   refine Zoc (first := []) (cap := []) T rfl rfl rfl rfl evf (.cons (T.e 4 rfl) (.cons (T.e 0 rfl) .nil)) Tryd.func78 rfl rfl ?_
   refine Calls.mono (apart8_any (bxOf (cutA s su) (cutC s su) p q) (bxOf (cutA s su) (cutC s su) p2 q2) _ hfp hfp2) ?_
   clear T; rintro e wc ⟨rfl, hb⟩ ac T
   replace M := M.call hb; clear hb
   refine Zso hK _ _ (M.mask [true] rfl) ?_; clear hK K
   refine gq T 9 1023 rfl (fun _ _ _ _ _ => (rn_not rfl (T.e 0 rfl))) ?_; clear T ac; intro ac T
   refine Zgd (by kernel_rfl) ?_
   replace T := T.pick [0, 11, 12, 13, 14, 15, 16] rfl
   refine nm_then ?_
   refine wp_cond_split (T.e 0 rfl) ?_ ?_
   ·intro h12
    (have h12' := h12; try simp only [Zb1, Zb2, Zb3, Zb4, Zb5, Zb6, Zb7] at h12')
    refine Zsr ?_
    refine Zg2 T (Zq (Zra rfl evc)) rfl (Zc rfl) rfl ?_; clear T ac; intro ac T
    refine wpList_nil ?_
    replace T := T.pick [0, 1] rfl
    replace M := M.mask [false] rfl
    refine Znr ?_
    refine Zrb ?_
    refine Zrt ?_
    refine Zrt ?_
    refine Zrb ?_
    refine Zrb ?_
    refine Zrt ?_
    refine Zrt ?_
    refine Zrb ?_
    refine Zrt ?_
    refine rt_2 T rfl (T.e 1 rfl) (T.e 0 rfl) ?_
    have e9 : cutsE s g sp.length = 0 := (if_neg (by omega)).trans ((if_neg (by omega)).trans (if_neg (by omega)))
    have e8 : cutsV s g sp su = cutsB (cutA s su) (cutC s su) s.lo s.wi (gP s g) sp := if_pos e9
    have hl9 : (gP s g).length = sp.length := by rw [gP_len]; omega
    rw [e9, e8, cuts_hit (a := cutA s su) (c := cutC s su) hl9 (show k < i by omega) hgp hkq hgp2 hkq2 (by simp_all)]
    exact ⟨rfl, M.below⟩
   intro h12
   (have h12' := h12; try simp only [Zb1, Zb2, Zb3, Zb4, Zb5, Zb6, Zb7] at h12')
   refine wp_skip ?_
   refine Znb ?_
   refine nm_then ?_
   refine wp_region_lit ?_
   refine Zg2 T (Zq (Zrm rfl (T.e 6 rfl))) rfl (fun _ T => Zq (rn_add rfl (T.e 0 rfl) evc (by omega))) rfl ?_; clear T ac; intro ac T
   refine l_q (v := (.int .i64 ((k : Int) + 1))) (T.pick [0, 1, 2, 3, 4, 5, 6, 7] rfl) rfl rfl rfl rfl (Zra rfl (T.e 0 rfl)) ?_; clear T ac; intro ac T
   refine wpList_nil ?_
   replace T := T.pick [0, 4, 5, 6, 7, 8] rfl
   refine nm_then ?_
   exact ⟨_, by omega, k + 1, rfl, (by omega), (fun k9 h9 p9 q9 e9 e8 => by rcases Nat.lt_or_eq_of_le (Nat.le_of_lt_succ h9) with h8 | rfl; exact K k9 h8 p9 q9 e9 e8; rw [hgp2] at e9; rw [hkq2] at e8; injection e9 with e9; injection e8 with e8; subst e9; subst e8; simp_all), T.pick [1, 2, 3, 4, 5, 0] rfl, M.mask [true] rfl⟩
  intro h11
  refine wp_exit ?_
  refine Zet ?_
  refine Zet ?_
  refine ex_hit ?_
  refine Znb ?_
  refine nm_then ?_
  refine wp_region_lit ?_
  refine Zg2 T (Zq (Zrm rfl (T.e 5 rfl))) rfl (fun _ T => Zq (rn_add rfl (T.e 0 rfl) evc (by omega))) rfl ?_; clear T ac; intro ac T
  refine l_q (v := (.int .i64 ((i : Int) + 1))) (T.pick [0, 1, 2, 3, 4, 5, 6, 8] rfl) rfl rfl rfl rfl (Zra rfl (T.e 0 rfl)) ?_; clear T ac; intro ac T
  refine wpList_nil ?_
  replace T := T.pick [0, 4, 5, 6, 7] rfl
  refine nm_then ?_
  exact ⟨_, by omega, i + 1, rfl, (by omega), (fun j9 h9 p9 q9 e9 e8 => by rcases Nat.lt_or_eq_of_le (Nat.le_of_lt_succ h9) with h8 | rfl; exact Hb j9 h8 p9 q9 e9 e8; rw [hgp] at e9; rw [hkq] at e8; injection e9 with e9; injection e8 with e8; subst e9; subst e8; exact hb9), (fun j9 h9 k7 p9 p8 q9 q8 h7 e9 e8 e7 e6 => by rcases Nat.lt_or_eq_of_le (Nat.le_of_lt_succ h9) with h8 | rfl; exact Ha j9 h8 k7 p9 p8 q9 q8 h7 e9 e8 e7 e6; rw [hgp] at e9; rw [hkq] at e8; injection e9 with e9; injection e8 with e8; subst e9; subst e8; exact K k7 (by omega) p8 q8 e7 e6), T.pick [1, 2, 3, 4, 0] rfl, M.mask [true] rfl⟩
 intro h7
 have hend := cuts_end (gP_good hsg hgi) (cut_bd hsg su).1.1 (cut_bd hsg su).2.1 l1 w1 (by rw [gP_len]; omega) (fun j p q e1 e2 => Hb j (by have := (List.getElem?_eq_some_iff.1 e2).1; omega) p q e1 e2) (fun j k p p' q q' h e1 e2 e3 e4 => Ha j (by have := (List.getElem?_eq_some_iff.1 e2).1; omega) k p p' q q' h e1 e2 e3 e4)
 refine wp_exit ?_
 refine Zet ?_
 refine Zet ?_
 refine ex_hit ?_
 refine nm_then ?_
 refine Zsr ?_
 refine lq T (Zrr (Mem.nth M 0 rfl) rfl (T.e 3 rfl) rfl) ?_; clear T ac; intro ac T
 refine Zl2 ?_
 refine Zoc (first := []) (cap := []) T rfl rfl rfl rfl evf (.cons (T.e 0 rfl) .nil) Tryd.func68 rfl rfl ?_
 refine Calls.mono (whole8_any s A d _) ?_
 clear T; rintro e wc ⟨rfl, hb⟩ ac T
 replace M := M.call hb; clear hb
 refine lq T (Zrm rfl (T.e 6 rfl)) ?_; clear T ac; intro ac T
 refine Zl2 ?_
 refine Zoc (first := []) (cap := []) T rfl rfl rfl rfl evf (.cons (T.e 1 rfl) (.cons (T.e 0 rfl) .nil)) Tryd.func79 rfl rfl ?_
 refine Calls.mono (saw8_any ((bxs (cutA s su) (cutC s su) (gP s g) sp).length + 1) (bxs (cutA s su) (cutC s su) (gP s g) sp) ABu4 cBu4 (⟨0, 0, s.lo, s.wi⟩ : Bo) _ (by omega) (by omega) hfw (whole_ok hsg) (SBu4.rd M (.cons _ (List.Sublist.refl _)))) ?_
 clear T; rintro e wc ⟨rfl, hb⟩ ac T
 replace M := M.call hb; clear hb
 refine Zg2 T (Zq (Zra rfl (T.e 0 rfl))) rfl (Zc rfl) rfl ?_; clear T ac; intro ac T
 refine wpList_nil ?_
 replace T := T.pick [0, 1] rfl
 replace M := M.mask [false] rfl
 refine Znr ?_
 refine rt_2 T rfl (T.e 1 rfl) (T.e 0 rfl) ?_
 have e9 : cutsE s g sp.length = 0 := (if_neg (by omega)).trans ((if_neg (by omega)).trans (if_neg (by omega)))
 have e8 : cutsV s g sp su = cutsB (cutA s su) (cutC s su) s.lo s.wi (gP s g) sp := if_pos e9
 have hl9 : (gP s g).length = sp.length := by rw [gP_len]; omega
 rw [e9, e8, hend]
 exact ⟨rfl, M.below⟩
section
variable {df : List Deferred} {P : Program} {op : Oper} {a : Act} {K : Act → World → Prop} {Q : Exit → Act → World → Prop} {w0 w : World} {ex : Nat → Prop} {L0 I : List (Nat × BA)} {E : List (Nat × Value)}
end
theorem Mem.permL {w0 w : World} {ex : Nat → Prop} {L L' : List (Nat × BA)} (M : Mem w0 ex w L) (h : L.Perm L') : Mem w0 ex w L' :=
 ⟨M.os, M.tape, M.output, M.size, M.block, fun p hp => M.blk p (h.mem_iff.2 hp), (h.map (·.1)).nodup M.nd⟩
theorem Mem.tail3 {w0 w : World} {ex : Nat → Prop} {K A B C : List (Nat × BA)} (M : Mem w0 ex w (K ++ (A ++ B ++ C))) : Mem w0 ex w (K ++ (A ++ C ++ B)) :=
 M.permL (List.Perm.append_left K (by rw [List.append_assoc, List.append_assoc]; exact List.Perm.append_left A List.perm_append_comm))
end Go.Proofs.YtehpcclfgjccbaaDoor


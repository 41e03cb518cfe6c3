/-
  Walks of functions, and plain laws (texts put together). No condition.
-/
import Derived.Test.YtaikhendogcflaaGreatDoorMSheetRead1
import Derived.Test.YtaikhendogcflaaGreatDoorMSheetRead2
set_option maxRecDepth 100000
set_option maxHeartbeats 1000000
set_option linter.unusedSimpArgs false
set_option linter.unusedVariables false
namespace Go.Proofs.YtaikhendogcflaaGreatDoor
open Go.RowKit
set_option maxHeartbeats 4000000 in
theorem Plan_any (s : Sk) (A : Option Addr) (d : Nat) (G : Option Addr) (n : Nat) (g : List Int) (su : Bool)  (w : World) (hA : Rd w w.heap.size 4 A s.ps.length (pc s.ps)) (hG : Rd w w.heap.size 1 G g.length (ic g)) (nA : s.ps.length ≤ 1000000) (nG : g.length ≤ 1000000) (hgn : g.length ≤ n) (hT : TabW w)  :
   Calls Tryz.prog 55 #[.agg #[.int .i64 s.lo, .int .i64 s.wi, .int .i64 s.a0, .int .i64 s.a1, .int .i64 s.c0, .int .i64 s.c1, .slice A s.ps.length d], .slice G g.length n, .bool su] w (LsPost 3 (tc (planL s g su)) (planL s g su).length (planE s g su) w) := by
 obtain ⟨bA, oA, SA⟩ := Sp.old hA
 obtain ⟨bG, oG, SG⟩ := Sp.old hG
 refine Zpx noEx Tryz.func55 rfl 40 rfl [.agg #[.int .i64 s.lo, .int .i64 s.wi, .int .i64 s.a0, .int .i64 s.a1, .int .i64 s.c0, .int .i64 s.c1, .slice A s.ps.length d], .slice G g.length n, .bool su] rfl rfl (Mem.init w _) ?_
 intro ac wc T M
 refine Zsr ?_
 refine Zl2 ?_
 refine Zob M T rfl rfl rfl rfl (T.e 0 rfl) rfl ?_; clear M T; intro g1 wc ac M T
 refine Zg2 T (Zq (Zra rfl evc)) rfl (Zc rfl) rfl ?_; clear T ac; intro ac T
 replace T := T.pick [2, 4, 5] rfl
 refine Zln ?_
 refine Zsr ?_
 refine Zg2 T (Zq (Zrr (Mem.nth M 0 rfl) rfl (T.e 0 rfl) rfl)) rfl (Zm 2 rfl rfl) rfl ?_; clear T ac; intro ac T
 refine Zl2 ?_
 refine Zoc (first := []) (cap := []) T rfl rfl rfl rfl evf (.cons (T.e 1 rfl) (.cons (T.e 0 rfl) .nil)) Tryz.func121 rfl rfl ?_
 refine Calls.mono (listed_any s A d G n g _ (SA.rd M (Zz9 _)) (SG.rd M (Zz9 _)) (by omega) (by omega) (by omega)) ?_
 clear T; rintro e wc ⟨B, e, IB, rfl, hcpB, SVB, N⟩ ac T
 obtain ⟨bB, oB, SVB⟩ := SVB
 obtain ⟨L, hL9⟩ : ∃ q, q = lstP s g := ⟨_, rfl⟩
 rw [← hL9] at SVB hcpB
 have SB := SVB w noEx
 replace M := (M.join N).swapI
 clear N
 replace M : Mem w noEx wc ((g1, .cells [.int .i64 s.lo, .int .i64 s.wi, .int .i64 s.a0, .int .i64 s.a1, .int .i64 s.c0, .int .i64 s.c1, .slice A s.ps.length d]) :: IB) := M
 rw [← hL9] at T
 refine Zg5 T (Zq (Zrm rfl (T.e 0 rfl))) rfl (Ze 0 rfl rfl rfl) rfl (Ze 1 rfl rfl rfl) rfl (Za 1 rfl rfl) rfl (Za 1 rfl rfl) rfl ?_; clear T ac; intro ac T
 replace T := T.pick [0, 1, 8, 10] rfl
 refine Zln ?_
 refine wp_seq ?_
 refine Zsr ?_
 refine Zg2 T (Zq (Zrm rfl (T.e 0 rfl))) rfl (fun _ T => Zq (rn_neq rfl (T.e 0 rfl) evc)) rfl ?_; clear T ac; intro ac T
 replace T := T.pick [0, 2, 3, 4, 5] rfl
 refine Zln ?_
 refine wp_ifn (T.e 0 rfl) ?_ ?_
 ·intro h1
  refine Zsr ?_
  refine Zg3 T (Zq (Zrm rfl (T.e 1 rfl))) rfl (Zc rfl) rfl (Za 1 rfl rfl) rfl ?_; clear T ac; intro ac T
  refine wpList_nil ?_
  replace T := T.pick [0, 1] rfl
  replace M := M.mask [false] rfl
  refine Znr ?_
  refine Zrt ?_
  refine rt_2 T rfl (T.e 1 rfl) (T.e 0 rfl) ?_
  have e9 : planE s g su = lstE s g := if_pos (by omega)
  have e8 : planL s g su = [] := if_neg (by omega)
  rw [e9, e8]
  exact LsPost.nil M
 intro h1
 have hl9 : lstE s g = 0 := by omega
 obtain ⟨hp9, hg, h5⟩ := lstP_good hl9
 have hsg := (lstE_iff.1 hl9).1
 rw [hp9] at hL9
 rw [← hL9] at hg h5
 obtain ⟨hb1, hb2, -, -, -, -⟩ := hsg
 have hsg := (lstE_iff.1 hl9).1
 refine Zsk ?_
 refine Zsr ?_
 refine Zg2 T (Zq (Zrr (Mem.nth M 0 rfl) rfl (T.e 3 rfl) rfl)) rfl (Zm 5 rfl rfl) rfl ?_; clear T ac; intro ac T
 refine Zl2 ?_
 refine Zoc (first := []) (cap := []) T rfl rfl rfl rfl evf (.cons (T.e 1 rfl) (.cons (T.e 0 rfl) .nil)) Tryz.func123 rfl rfl ?_
 refine Calls.mono (cut_any s A d su _) ?_
 clear T; rintro e wc ⟨gau2, gcu2, rfl, N⟩ ac T
 obtain ⟨a, hae⟩ : ∃ q, q = cutA s su := ⟨_, rfl⟩
 obtain ⟨c, hce⟩ : ∃ q, q = cutC s su := ⟨_, rfl⟩
 rw [← hae, ← hce] at N
 obtain ⟨ha, hc⟩ := cut_bd hsg su
 rw [← hae] at ha
 rw [← hce] at hc
 replace M := M.join N; clear N
 replace M := M.mask [true, true, true] rfl
 refine lq T (Zrm rfl (T.e 5 rfl)) ?_; clear T ac; intro ac T
 refine Zl2 ?_
 obtain ⟨n1, hn1e⟩ : ∃ n : Nat, n = wc.heap.size := ⟨_, rfl⟩
 have hLb := (SB.rd M (.cons _ (.cons _ (.cons _ (List.Sublist.refl _))))).blk
 have hla := M.lt (Zne (i := 0) rfl)
 have hlc := M.lt (Zne (i := 1) rfl)
 have hl1 := (hT.mem0 M).lt
 rw [← hn1e] at hLb hla hlc hl1
 refine Zoc (first := []) (cap := []) T rfl rfl rfl rfl evf (.cons (T.e 1 rfl) (.cons (T.e 0 rfl) .nil)) Tryz.func122 rfl rfl ?_
 refine Calls.mono (plannerOf_any s A d a c gau2 gcu2 B e L _) ?_
 clear T; rintro e wc ⟨gmu3, rfl, N⟩ ac T
 have hn1 : n1 ≤ gmu3 := by rw [hn1e]; exact N.ge Zz2
 replace M := M.join N; clear N
 replace M := M.mask [true, true, true, true] rfl
 refine Zl2 ?_
 refine Zoa M T rfl rfl rfl rfl ?_; clear M T; intro g2 wc ac M T
 refine Zl2 ?_
 refine Zos M T rfl rfl (T.e 0 rfl) (T.e 1 rfl) rfl .head rfl (by simp) rfl (by kernel_rfl) ?_; clear M T; intro wc ac M T
 refine wpList_nil ?_
 replace T := T.pick [0, 8] rfl
 replace M := M.mask [true, true, true, true, false] rfl
 refine Zns ?_
 refine wp_seq ?_
 refine Zgs M (M.mask [true, true, true, true] rfl) 5 (by kernel_rfl) rfl (by kernel_rfl) ?_
 clear M; intro wc M
 refine gq T 0 1 rfl (fun B w' hD hl hS => (Zrr (Mem.nth (show Mem w noEx w' _ from hS) 0 rfl) rfl (T.e 0 rfl) rfl)) ?_; clear T ac; intro ac T
 refine gq T 1 3 rfl (fun B w' hD hl hS => (Zrr (Mem.nth (show Mem w noEx w' _ from hS) 0 rfl) rfl (T.e 1 rfl) rfl)) ?_; clear T ac; intro ac T
 refine gw 2 7 ?_; intro K hK
 refine Zoc (first := []) (cap := []) T rfl rfl rfl rfl evf (.cons (T.e 0 rfl) .nil) Tryz.func125 rfl rfl ?_
 refine Calls.mono (whole_any s A d a c gau2 gcu2 B e L gmu3 _ h5) ?_
 clear T; rintro e wc ⟨rfl, hb⟩ ac T
 replace M := M.call hb; clear hb
 refine Zso hK _ _ (M.mask [true, true, true, true] rfl) ?_; clear hK K
 refine gw 3 15 ?_; intro K hK
 refine Zoc (first := []) (cap := []) T rfl rfl rfl rfl evf (.cons (T.e 2 rfl) (.cons (T.e 0 rfl) .nil)) Tryz.func124 rfl rfl ?_
 refine Calls.mono (can_any s A d a c gau2 gcu2 B e L gmu3 n1 ha hc hg h5 hn1 6 (⟨(2 ^ L.length - 1 : Nat), s.lo, s.wi⟩ : Rm) _ (pop_lt _) (whole_pow _) (by dsimp only; omega) (by dsimp only; omega) ⟨(M.nth 2 rfl), (M.nth 3 rfl), Rd.bound (SB.rd M (.cons _ (.cons _ (.cons _ (.cons _ (List.Sublist.refl _)))))) hLb, hla, hlc, hl1, Nat.le_trans hn1 (Nat.le_of_lt (M.lt (Zne (i := 1) rfl))), hT.mem0 M⟩ (M.at (Zne (i := 1) rfl))) ?_
 clear T; rintro e wc ⟨rfl, N⟩ ac T
 replace M := M.joinE N (.tail .head)
 clear N
 refine Zso hK _ _ (M.mask [true, true, true, true] rfl) ?_; clear hK K
 refine gq T 4 31 rfl (fun _ _ _ _ _ => (rn_not rfl (T.e 0 rfl))) ?_; clear T ac; intro ac T
 refine Zgd (by kernel_rfl) ?_
 replace T := T.pick [0, 5, 6] rfl
 refine nm_then ?_
 refine wp_cond_split (T.e 0 rfl) ?_ ?_
 ·intro h2
  (have h2' := h2; try simp only [Zb1, Zb2, Zb3, Zb4, Zb5, Zb6, Zb7] at h2')
  refine Zsr ?_
  refine Zg2 T (Zq (Zra rfl evc)) rfl (Zc rfl) rfl ?_; clear T ac; intro ac T
  refine wpList_nil ?_
  replace T := T.pick [0, 1] rfl
  replace M := M.mask [false, true, false, false] rfl
  refine Znr ?_
  refine Zrt ?_
  refine rt_2 T rfl (T.e 1 rfl) (T.e 0 rfl) ?_
  have hcs : canS s su (gP s g) = canB a c L (⟨(2 ^ L.length - 1 : Nat), s.lo, s.wi⟩ : Rm) := by rw [hae, hce, hL9]; rfl
  have e9 : planE s g su = 11 := by unfold planE; rw [if_neg (by omega), if_neg (by rw [hcs]; simp_all)]
  have e8 : planL s g su = [] := if_neg (by omega)
  rw [e9, e8]
  exact LsPost.nil M
 intro h2
 (have h2' := h2; try simp only [Zb1, Zb2, Zb3, Zb4, Zb5, Zb6, Zb7] at h2')
 have hcan9 : canB a c L (⟨(2 ^ L.length - 1 : Nat), s.lo, s.wi⟩ : Rm) = true := by simp_all
 refine Zsk ?_
 refine Zsr ?_
 refine Zg2 T (Zq (Zrm rfl (T.e 2 rfl))) rfl (Zl Tryz.underlying47 0 rfl rfl) rfl ?_; clear T ac; intro ac T
 refine Zl2 ?_
 have hlt9 := M.lt (Zne (i := 1) rfl)
 refine ow_msK tcE 3 24 ⟨0, 0, false⟩ rfl (by decide) rfl (m := L.length) M T rfl rfl rfl rfl (T.e 0 rfl) (T.e 0 rfl) Tryz.underlying110 Tryz.info123 (by omega) (by decide) (by decide) ?_; clear M T; intro g3 wc ac hgeg3 M T
 obtain ⟨lm1, hlm1⟩ : ∃ q : List Spt, q = List.replicate L.length ⟨0, 0, false⟩ := ⟨_, rfl⟩
 have llm1 : lm1.length = L.length := by rw [hlm1, List.length_replicate]
 replace M : Mem w noEx wc ((g3, .cells (tc lm1 ++ [])) :: (g2, .cells [.int .i64 s.lo, .int .i64 s.wi, .int .i64 s.a0, .int .i64 s.a1, .int .i64 s.c0, .int .i64 s.c1, .slice A s.ps.length d, .func (.func 183) #[] #[.pointer (some ⟨gau2, 0, none⟩)], .func (.func 184) #[] #[.pointer (some ⟨gcu2, 0, none⟩)], .slice B L.length e, .map (some gmu3)]) :: (gmu3, .any (memoQ Tryz.prog 193 (okR a c L))) :: (gau2, .cells [.int .i64 a]) :: (gcu2, .cells [.int .i64 c]) :: IB) := by rw [hlm1]; exact M
 have Ss1 := Sp.pre (w := w) (ex := noEx) (size := 3) (n := lm1.length) (g := g3) (xs := tc lm1) (ys := []) (by simp [tc_length])
 refine lq T (Zra rfl (T.e 0 rfl)) ?_; clear T ac; intro ac T
 replace T := T.pick [0, 5] rfl
 refine Zln ?_
 refine wp_seq ?_
 refine Zgs M (M.mask [false, true, true, true, true] rfl) 5 (by kernel_rfl) rfl (by kernel_rfl) ?_
 clear M; intro wc M
 refine gq T 0 1 rfl (fun B w' hD hl hS => (Zrr (Mem.nth (show Mem w noEx w' _ from hS) 0 rfl) rfl (T.e 1 rfl) rfl)) ?_; clear T ac; intro ac T
 refine gq T 1 3 rfl (fun B w' hD hl hS => (Zrr (Mem.nth (show Mem w noEx w' _ from hS) 0 rfl) rfl (T.e 2 rfl) rfl)) ?_; clear T ac; intro ac T
 refine gq T 3 11 rfl (fun _ _ _ _ _ => (Zrm rfl (T.e 2 rfl))) ?_; clear T ac; intro ac T
 refine gw 2 15 ?_; intro K hK
 refine Zoc (first := []) (cap := []) T rfl rfl rfl rfl evf (.cons (T.e 1 rfl) .nil) Tryz.func125 rfl rfl ?_
 refine Calls.mono (whole_any s A d a c gau2 gcu2 B e L gmu3 _ h5) ?_
 clear T; rintro e wc ⟨rfl, hb⟩ ac T
 replace M := M.call hb; clear hb
 refine Zso hK _ _ (M.mask [false, true, true, true, true] rfl) ?_; clear hK K
 refine gw 4 31 ?_; intro K hK
 have hsm : gmu3 ≠ g3 := by have h9 := M.nd; simp only [List.map_cons, List.cons_append, List.nil_append, List.nodup_cons, List.mem_cons, not_or] at h9; exact fun e9 => by simp_all
 have hn2 : n1 ≤ g3 := by omega
 refine Zoc (first := []) (cap := []) T rfl rfl rfl rfl evf (.cons (T.e 3 rfl) (.cons (T.e 0 rfl) (.cons evc (.cons evc (.cons (T.e 1 rfl) .nil))))) Tryz.func126 rfl rfl ?_
 refine Calls.mono (lay_any s A d a c gau2 gcu2 B e L gmu3 n1 ha hc hg h5 hn1 g3 L.length hsm hn2 6 (⟨(2 ^ L.length - 1 : Nat), s.lo, s.wi⟩ : Rm) 0 0 lm1 [] _ (pop_lt _) (whole_pow _) (by dsimp only; omega) (by dsimp only; omega) (by dsimp only; omega) (by dsimp only; omega) (by omega) hcan9 ⟨(M.nth 3 rfl), (M.nth 4 rfl), Rd.bound (SB.rd M (.cons _ (.cons _ (.cons _ (.cons _ (.cons _ (List.Sublist.refl _))))))) hLb, hla, hlc, hl1, Nat.le_trans hn1 (Nat.le_of_lt (M.lt (Zne (i := 2) rfl))), hT.mem0 M⟩ (M.at (Zne (i := 2) rfl)) (M.at (Zne (i := 0) rfl))) ?_
 clear T; rintro e wc ⟨rfl, N⟩ ac T
 obtain ⟨A9, hA9, N⟩ := N
 replace M := M.joinE2 N (.tail (.tail .head)) .head
 clear N
 refine Zso hK _ _ (M.mask [false, true, true, true, true] rfl) ?_; clear hK K
 refine Zgd (by kernel_rfl) ?_
 replace T := T.pick [5] rfl
 replace M := M.mask [true, false, true, false, false] rfl
 refine nm_then ?_
 refine Zsr ?_
 refine Zg3 T (Zq (Zrm rfl (T.e 0 rfl))) rfl (Za 0 rfl rfl) rfl (Zc rfl) rfl ?_; clear T ac; intro ac T
 replace T := T.pick [0, 1] rfl
 refine Zln ?_
 refine wp_ret ?_
 refine rt_2 T rfl (T.e 1 rfl) (T.e 0 rfl) ?_
 have hcs : canS s su (gP s g) = canB a c L (⟨(2 ^ L.length - 1 : Nat), s.lo, s.wi⟩ : Rm) := by rw [hae, hce, hL9]; rfl
 have e9 : planE s g su = 0 := by unfold planE; rw [if_neg (by omega), if_pos (by rw [hcs]; exact hcan9)]
 have e7 : planA s g su = A9 := planA_eq (by rw [← hL9, ← hae, ← hce]; exact hA9)
 have e8 : planL s g su = putS lm1 A9 := by unfold planL; rw [if_pos e9, e7, hlm1, hL9]
 have e6 : (planL s g su).length = L.length := by rw [e8, putS_length]; omega
 rw [e9, e6, e8]
 replace M : Mem w noEx wc [(g3, .cells (tc (putS lm1 A9) ++ []))] := (M.permT [0] 2 rfl rfl rfl rfl).sub (Zsl _ _)
 exact ⟨_, _, _, rfl, Nat.le_refl _, ⟨g3, 0, fun w ex => Sp.pre (by rw [tc_length, putS_length]; omega)⟩, M⟩
def clsP (ps : List Pt) (l : List Int) (n : Int) : List Pt := ((ps.zip l).filter fun q => decide (q.2 = n)).map (·.1)
def maskP : List Int → Int → Nat
 | [], _ => 0
 | x :: l, n => (if x = n then 1 else 0) + 2 * maskP l n
theorem maskP_snoc : ∀ (l : List Int) (x n : Int), maskP (l ++ [x]) n = maskP l n + if x = n then 2 ^ l.length else 0
 | [], x, n => by simp [maskP]
 | y :: l, x, n => by
  simp only [List.cons_append, maskP, maskP_snoc l x n, List.length_cons, Nat.pow_succ]
  split <;> split <;> omega
theorem clsP_snoc (ps : List Pt) (l : List Int) (p : Pt) (x n : Int) (h : ps.length = l.length) : clsP (ps ++ [p]) (l ++ [x]) n = clsP ps l n ++ if x = n then [p] else [] := by
 unfold clsP
 rw [List.zip_append h, List.filter_append, List.map_append]
 congr 1
 by_cases hx : x = n <;> simp [hx]
theorem clsP_sel : ∀ (ps : List Pt) (l : List Int) (n : Int), ps.length = l.length → clsP ps l n = sel ps (maskP l n)
 | [], l, n, h => by simp [clsP, sel]
 | p :: ps, [], n, h => by simp at h
 | p :: ps, x :: l, n, h => by
  have ih := clsP_sel ps l n (by simpa using h)
  by_cases hx : x = n
  ·have hm : maskP (x :: l) n = 1 + 2 * maskP l n := by simp [maskP, hx]
   rw [hm, sel, if_pos (by omega), show (1 + 2 * maskP l n) / 2 = maskP l n by omega, ← ih]
   simp [clsP, hx]
  ·have hm : maskP (x :: l) n = 2 * maskP l n := by simp [maskP, hx]
   rw [hm, sel, if_neg (by omega), show (2 * maskP l n) / 2 = maskP l n by omega, ← ih]
   simp [clsP, hx]
def asgP : Nat → List Int → Nat → List (List Int × Nat)
 | 0, b, sh => [(b, sh)]
 | k + 1, b, sh => (List.range (sh + 1)).flatMap fun n : Nat => asgP k (b ++ [(n : Int)]) (max sh (n + 1))
inductive RG : Nat → List Int → Nat → Prop
 | nil {sh : Nat} : RG sh [] sh
 | cons {sh x n : Nat} {t : List Int} : x ≤ sh → RG (max sh (x + 1)) t n → RG sh ((x : Int) :: t) n
theorem mem_asg : ∀ (k : Nat) (b : List Int) (sh : Nat) (l : List Int) (n : Nat), (l, n) ∈ asgP k b sh ↔ ∃ t, t.length = k ∧ l = b ++ t ∧ RG sh t n
 | 0, b, sh, l, n => by
  simp only [asgP, List.mem_singleton, Prod.mk.injEq]
  constructor
  ·rintro ⟨rfl, rfl⟩; exact ⟨[], rfl, by simp, .nil⟩
  ·rintro ⟨t, h1, h2, h3⟩
   rw [List.eq_nil_of_length_eq_zero h1] at h2 h3
   cases h3
   exact ⟨by simpa using h2, rfl⟩
 | k + 1, b, sh, l, n => by
  simp only [asgP, List.mem_flatMap, List.mem_range, mem_asg k]
  constructor
  ·rintro ⟨x, hx, t, h1, h2, h3⟩
   exact ⟨(x : Int) :: t, by simp [h1], by simp [h2], .cons (by omega) h3⟩
  ·rintro ⟨t, h1, h2, h3⟩
   cases h3 with
   | nil => simp at h1
   | @cons _ x _ t h4 h5 => exact ⟨x, by omega, t, by simpa using h1, by simp [h2], h5⟩
theorem RG.le {sh n : Nat} {t : List Int} (h : RG sh t n) : sh ≤ n ∧ n ≤ sh + t.length := by
 induction h with
 | nil => simp
 | cons h1 _ ih => simp only [List.length_cons]; omega
theorem RG.mem {sh n : Nat} {t : List Int} (h : RG sh t n) : ∀ x ∈ t, 0 ≤ x ∧ x < (n : Int) := by
 induction h with
 | nil => simp
 | cons h1 h2 ih =>
  intro y hy
  have := h2.le
  rcases List.mem_cons.1 hy with rfl | hy
  ·omega
  ·exact ih y hy
theorem RG.rel {β : Type} [DecidableEq β] : ∀ (seen col : List β), seen.Nodup → ∃ (t : List Int) (sn : List β), t.length = col.length ∧ sn.Nodup ∧ seen <+: sn ∧ (∀ x ∈ sn, x ∈ seen ∨ x ∈ col) ∧ RG seen.length t sn.length ∧ ∀ q ∈ col.zip t, (∃ m : Nat, q.2 = (m : Int) ∧ sn[m]? = some q.1)
 | seen, [], hn => ⟨[], seen, rfl, hn, List.prefix_refl _, fun _ h => .inl h, .nil, by simp⟩
 | seen, c :: col, hn => by
  by_cases hc : c ∈ seen
  ·obtain ⟨t, sn, h1, h2, h3, h4, h5, h6⟩ := RG.rel seen col hn
   have hi := List.idxOf_lt_length_of_mem hc
   refine ⟨((seen.idxOf c : Nat) : Int) :: t, sn, by simp [h1], h2, h3, fun x hx => (h4 x hx).imp id (List.mem_cons_of_mem _), .cons (by omega) (by rw [show max seen.length (seen.idxOf c + 1) = seen.length by omega]; exact h5), ?_⟩
   intro q hq
   rw [List.zip_cons_cons] at hq
   rcases List.mem_cons.1 hq with rfl | hq
   ·refine ⟨seen.idxOf c, rfl, ?_⟩
    obtain ⟨r, rfl⟩ := h3
    rw [List.getElem?_append_left hi, List.getElem?_eq_getElem hi, List.getElem_idxOf hi]
   ·exact h6 q hq
  ·have hn2 : (seen ++ [c]).Nodup := by
    rw [List.nodup_append]
    exact ⟨hn, by simp, fun a ha b hb e => by simp at hb; exact hc (hb ▸ e ▸ ha)⟩
   obtain ⟨t, sn, h1, h2, h3, h4, h5, h6⟩ := RG.rel (seen ++ [c]) col hn2
   refine ⟨((seen.length : Nat) : Int) :: t, sn, by simp [h1], h2, (List.prefix_append _ _).trans h3, fun x hx => ?_, .cons (Nat.le_refl _) (by rw [show max seen.length (seen.length + 1) = (seen ++ [c]).length by simp]; exact h5), ?_⟩
   ·rcases h4 x hx with h | h
    ·rcases List.mem_append.1 h with h | h
     ·exact .inl h
     ·simp at h; exact .inr (by simp [h])
    ·exact .inr (Zz1 h)
   ·intro q hq
    rw [List.zip_cons_cons] at hq
    rcases List.mem_cons.1 hq with rfl | hq
    ·refine ⟨seen.length, rfl, ?_⟩
     obtain ⟨r, rfl⟩ := h3
     simp
    ·exact h6 q hq
def patP (ps : List Pt) (l : List Int) : Prop := ∀ q ∈ ps.zip l, ∀ r ∈ ps.zip l, 0 < q.1.pa → q.1.pa = r.1.pa → q.2 = r.2
def willQ (f : Pt → Int → Int → Prop) (ps : List Pt) (lo wi : Int) (l : List Int) (n : Nat) : Prop := patP ps l ∧ ∀ k : Nat, k < n → Cut f (clsP ps l (k : Int)) lo wi
def ColP (f : Pt → Int → Int → Prop) (lo wi : Int) (ps : List Pt) (n : Nat) : Prop := ∃ Q : List (Pt × Int), Q.map (·.1) = ps ∧ (∀ q ∈ Q, ∀ r ∈ Q, 0 < q.1.pa → q.1.pa = r.1.pa → q.2 = r.2) ∧ (∀ c : Int, Cut f ((Q.filter fun q => decide (q.2 = c)).map (·.1)) lo wi) ∧ ∃ S : List Int, S.length ≤ n ∧ ∀ q ∈ Q, q.2 ∈ S
theorem map_zip_fst {α β : Type} : ∀ (l : List α) (k : List β), l.length = k.length → (l.zip k).map (·.1) = l
 | [], _, _ => by simp
 | x :: l, [], h => by simp at h
 | x :: l, y :: k, h => by simp [map_zip_fst l k (by simpa using h)]
theorem ColP.of_will {f : Pt → Int → Int → Prop} {ps : List Pt} {lo wi : Int} {l : List Int} {n : Nat} (hl : ps.length = l.length) (hb : ∀ x ∈ l, 0 ≤ x ∧ x < (n : Int)) (h : willQ f ps lo wi l n) : ColP f lo wi ps n := by
 refine ⟨ps.zip l, map_zip_fst _ _ hl, h.1, fun c => ?_, (List.range n).map Int.ofNat, by simp, fun q hq => ?_⟩
 ·by_cases hc : 0 ≤ c ∧ c < (n : Int)
  ·have := h.2 c.toNat (by omega)
   rw [show ((c.toNat : Nat) : Int) = c by omega] at this
   exact this
  ·have e : (ps.zip l).filter (fun q => decide (q.2 = c)) = [] := by
    rw [List.filter_eq_nil_iff]
    intro q hq h2
    have h3 := hb q.2 (List.of_mem_zip hq).2
    simp at h2
    omega
   rw [e]
   exact .nil
 ·have h3 := hb q.2 (List.of_mem_zip hq).2
  exact List.mem_map.2 ⟨q.2.toNat, List.mem_range.2 (by omega), by show ((q.2.toNat : Nat) : Int) = q.2; omega⟩
theorem nodup_inj {α : Type} {l : List α} (h : l.Nodup) {i j : Nat} (hi : i < l.length) (hj : j < l.length) (he : l[i] = l[j]) : i = j := by
 have hp := List.pairwise_iff_getElem.1 h
 rcases Nat.lt_trichotomy i j with h1 | h1 | h1
 · exact absurd he (hp i j hi hj h1)
 · exact h1
 · exact absurd he.symm (hp j i hj hi h1)
theorem ColP.to_will {f : Pt → Int → Int → Prop} {ps : List Pt} {lo wi : Int} {n : Nat} (h : ColP f lo wi ps n) : ∃ (l : List Int) (m : Nat), m ≤ n ∧ (l, m) ∈ asgP ps.length [] 0 ∧ willQ f ps lo wi l m := by
 obtain ⟨Q, rfl, h1, h2, S, h3, h4⟩ := h
 obtain ⟨t, sn, k1, k2, -, k4, k5, k6⟩ := RG.rel ([] : List Int) (Q.map (·.2)) List.nodup_nil
 have hsub : sn.length ≤ S.length := by
   have hs : ∀ x ∈ sn, x ∈ S := fun x hx => by
     rcases k4 x hx with h | h
     · cases h
     · obtain ⟨q, hq, rfl⟩ := List.mem_map.1 h
       exact h4 q hq
   have key : ∀ (sn S : List Int), sn.Nodup → (∀ x ∈ sn, x ∈ S) → sn.length ≤ S.length := by
     intro sn
     induction sn with
     | nil => simp
     | cons x sn ih =>
       intro S hn hs
       have hx := hs x Zz2
       have := ih (S.erase x) (List.nodup_cons.1 hn).2 fun y hy => (List.mem_erase_of_ne (by rintro rfl; exact (List.nodup_cons.1 hn).1 hy)).2 (hs y (Zz1 hy))
       have hl := List.length_erase_of_mem hx
       have := List.length_pos_of_mem hx
       simp only [List.length_cons]
       omega
   exact key sn S k2 hs
 have hlen : t.length = Q.length := by rw [k1, List.length_map]
 -- a blank's number tells the colour
 have hz : ∀ i, i < Q.length → ∃ m : Nat, t[i]? = some (m : Int) ∧ sn[m]? = (Q[i]?).map (·.2) := fun i hi => by
   have hit : i < t.length := by omega
   have hm : ((Q.map (·.2))[i]'(by simpa using hi), t[i]) ∈ (Q.map (·.2)).zip t := by
     rw [List.mem_iff_getElem]
     exact ⟨i, by simp; omega, by simp⟩
   obtain ⟨m, m1, m2⟩ := k6 _ hm
   refine ⟨m, ?_, ?_⟩
   · rw [List.getElem?_eq_getElem hit]; exact congrArg some m1
   · rw [m2]; simp [List.getElem?_eq_getElem hi]
 have hinj : ∀ (a b : Nat) (c : Int), sn[a]? = some c → sn[b]? = some c → a = b := fun a b c ha hb => by
   obtain ⟨ha1, ha2⟩ := List.getElem?_eq_some_iff.1 ha
   obtain ⟨hb1, hb2⟩ := List.getElem?_eq_some_iff.1 hb
   exact nodup_inj k2 ha1 hb1 (ha2.trans hb2.symm)
 have hcl : ∀ (Q : List (Pt × Int)) (t : List Int), t.length = Q.length → (∀ i, i < Q.length → ∃ m : Nat, t[i]? = some (m : Int) ∧ sn[m]? = (Q[i]?).map (·.2)) → ∀ (k : Nat) (c : Int), sn[k]? = some c → clsP (Q.map (·.1)) t (k : Int) = (Q.filter fun q => decide (q.2 = c)).map (·.1) := by
   intro Q
   induction Q with
   | nil => intro t _ _ k c _; simp [clsP]
   | cons q Q ih =>
     intro t ht hz k c hk
     cases t with
     | nil => simp at ht
     | cons y t =>
       have ih2 := ih t (by simpa using ht) (fun i hi => by simpa using hz (i + 1) (by simpa using hi)) k c hk
       obtain ⟨m, m1, m2⟩ := hz 0 (by simp)
       simp only [List.getElem?_cons_zero, Option.map_some, Option.some.injEq] at m1 m2
       subst m1
       simp only [clsP, List.map_cons, List.zip_cons_cons, List.filter_cons] at ih2 ⊢
       by_cases hq : q.2 = c
       · have : m = k := hinj m k c (by rw [m2, hq]) hk
         subst this
         simp [hq, ih2]
       · have : m ≠ k := fun e => hq (by rw [e, hk] at m2; exact (Option.some.inj m2).symm)
         have h2 : ¬ ((m : Int) = (k : Int)) := by omega
         simp [hq, h2, ih2]
 refine ⟨t, sn.length, by omega, (mem_asg _ _ _ _ _).2 ⟨t, by simpa using hlen, by simp, k5⟩, ?_, fun k hk => ?_⟩
 · intro q hq r hr hp he
   obtain ⟨i, hi, rfl⟩ := List.mem_iff_getElem.1 hq
   obtain ⟨j, hj, rfl⟩ := List.mem_iff_getElem.1 hr
   simp only [List.length_zip, List.length_map] at hi hj
   have hiq : i < Q.length := by omega
   have hjq : j < Q.length := by omega
   obtain ⟨m, m1, m2⟩ := hz i hiq
   obtain ⟨m', m1', m2'⟩ := hz j hjq
   simp only [List.getElem_zip, List.getElem_map] at hp he ⊢
   have := h1 _ (List.getElem_mem hiq) _ (List.getElem_mem hjq) hp he
   rw [List.getElem?_eq_getElem (by omega), Option.some.injEq] at m1 m1'
   rw [m1, m1']
   rw [List.getElem?_eq_getElem hiq] at m2
   rw [List.getElem?_eq_getElem hjq, Option.map_some, ← this] at m2'
   rw [hinj m m' _ m2 m2']
 · rw [hcl Q t hlen hz k sn[k] (List.getElem?_eq_getElem hk)]
   exact h2 _
section
variable {f : Pt → Int → Int → Prop} {lo wi : Int}
theorem ColP.le {ps : List Pt} {n m : Nat} (h : ColP f lo wi ps n) (hm : n ≤ m) : ColP f lo wi ps m := by
 obtain ⟨Q, h1, h2, h3, S, h4, h5⟩ := h
 exact ⟨Q, h1, h2, h3, S, by omega, h5⟩
theorem ColP.map {g : Pt → Int → Int → Prop} {lo' wi' : Int} (m : Pt → Pt) {ps : List Pt} {n : Nat} (hpa : ∀ p ∈ ps, ∀ q ∈ ps, 0 < (m p).pa → (m p).pa = (m q).pa → 0 < p.pa ∧ p.pa = q.pa) (hc : ∀ xs : List Pt, (∀ x ∈ xs, x ∈ ps) → Cut f xs lo wi → Cut g (xs.map m) lo' wi') (h : ColP f lo wi ps n) : ColP g lo' wi' (ps.map m) n := by
 obtain ⟨Q, h1, h2, h3, S, h4, h5⟩ := h
 have hm : ∀ q ∈ Q, q.1 ∈ ps := fun q hq => h1 ▸ List.mem_map_of_mem hq
 refine ⟨Q.map fun q => (m q.1, q.2), ?_, ?_, fun c => ?_, S, h4, ?_⟩
 ·rw [← h1, List.map_map, List.map_map]; rfl
 ·intro q' hq' r' hr'
  obtain ⟨q, hq, rfl⟩ := List.mem_map.1 hq'
  obtain ⟨r, hr, rfl⟩ := List.mem_map.1 hr'
  intro hp he
  obtain ⟨k1, k2⟩ := hpa _ (hm q hq) _ (hm r hr) hp he
  exact h2 q hq r hr k1 k2
 ·have e : ((Q.map fun q => (m q.1, q.2)).filter fun q => decide (q.2 = c)).map (·.1) = ((Q.filter fun q => decide (q.2 = c)).map (·.1)).map m := by
   rw [List.filter_map, List.map_map, List.map_map]; rfl
  rw [e]
  refine hc _ (fun x hx => ?_) (h3 c)
  obtain ⟨q, hq, rfl⟩ := List.mem_map.1 hx
  exact hm q (List.mem_filter.1 hq).1
 ·intro q' hq'
  obtain ⟨q, hq, rfl⟩ := List.mem_map.1 hq'
  exact h5 q hq
theorem sum_perm {α : Type} {a : α → Int} {xs ys : List α} (h : xs.Perm ys) : (xs.map a).sum = (ys.map a).sum := by
 induction h with
 | nil => rfl
 | cons x _ ih => simp [ih]
 | swap x y l => simp; omega
 | trans _ _ h1 h2 => exact h1.trans h2
theorem sum_split {α : Type} (a : α → Int) (t : α → Bool) : ∀ xs : List α, (xs.map a).sum = ((xs.filter t).map a).sum + ((xs.filter fun x => !t x).map a).sum
 | [] => by simp
 | x :: xs => by
  have := sum_split a t xs
  by_cases h : t x = true
  ·simp [h] at this ⊢; omega
  ·simp [h] at this ⊢; omega
theorem Cut.area {a : Pt → Int} (hf : ∀ p lo wi, f p lo wi → a p ≤ lo * wi) {xs : List Pt} {lo wi : Int} (h : Cut f xs lo wi) : 0 ≤ lo → 0 ≤ wi → (xs.map a).sum ≤ lo * wi := by
 induction h with
 | nil => intro h1 h2; simpa using Int.mul_nonneg h1 h2
 | one h => intro _ _; simpa using hf _ _ _ h
 | along h1 h2 h3 _ _ _ _ ih1 ih2 =>
  intro k1 k2
  have i1 := ih1 (by omega) k2
  have i2 := ih2 (by omega) k2
  rw [sum_perm h3, List.map_append, List.sum_append]
  rw [Int.sub_mul] at i2
  omega
 | across h1 h2 h3 _ _ _ _ ih1 ih2 =>
  intro k1 k2
  have i1 := ih1 k1 (by omega)
  have i2 := ih2 k1 (by omega)
  rw [sum_perm h3, List.map_append, List.sum_append]
  rw [Int.mul_sub] at i2
  omega
theorem ColP.area {a : Pt → Int} (hf : ∀ p lo wi, f p lo wi → a p ≤ lo * wi) (hlo : 0 ≤ lo) (hwi : 0 ≤ wi) {ps : List Pt} {n : Nat} (h : ColP f lo wi ps n) : (ps.map a).sum ≤ (n : Int) * (lo * wi) := by
 obtain ⟨Q, rfl, -, h3, S, h4, h5⟩ := h
 have key : ∀ (S : List Int) (Q : List (Pt × Int)), (∀ c : Int, Cut f ((Q.filter fun q => decide (q.2 = c)).map (·.1)) lo wi) → (∀ q ∈ Q, q.2 ∈ S) → ((Q.map (·.1)).map a).sum ≤ (S.length : Int) * (lo * wi) := by
   intro S
   induction S with
   | nil =>
     intro Q _ h
     cases Q with
     | nil => simp
     | cons q Q => exact absurd (h q Zz2) (by simp)
   | cons c S ih =>
     intro Q hc hS
     have e := sum_split (fun q : Pt × Int => a q.1) (fun q => decide (q.2 = c)) Q
     have h1 := (hc c).area hf hlo hwi
     have h2 := ih (Q.filter fun q => !decide (q.2 = c)) (fun d => ?_) (fun q hq => ?_)
     · rw [List.map_map] at h1 h2 ⊢
       simp only [Function.comp_def] at h1 h2 ⊢
       rw [e]
       simp only [List.length_cons]
       rw [show ((S.length + 1 : Nat) : Int) * (lo * wi) = (S.length : Int) * (lo * wi) + lo * wi by rw [Int.natCast_add, Int.add_mul]; simp]
       omega
     · by_cases hd : d = c
       · have : (Q.filter fun q => !decide (q.2 = c)).filter (fun q => decide (q.2 = d)) = [] := by
           rw [List.filter_eq_nil_iff]
           intro q hq h2
           have := (List.mem_filter.1 hq).2
           simp at this h2
           exact this (h2.trans hd)
         rw [this]; exact .nil
       · have : (Q.filter fun q => !decide (q.2 = c)).filter (fun q => decide (q.2 = d)) = Q.filter (fun q => decide (q.2 = d)) := by
           rw [List.filter_filter]
           apply List.filter_congr
           intro q _
           by_cases h2 : q.2 = d
           · simp [h2, hd]
           · simp [h2]
         rw [this]; exact hc d
     · have h2 := (List.mem_filter.1 hq)
       rcases List.mem_cons.1 (hS q h2.1) with h | h
       · simp [h] at h2
       · exact h
 have h6 := key S Q h3 h5
 have h7 : (S.length : Int) * (lo * wi) ≤ (n : Int) * (lo * wi) := Int.mul_le_mul_of_nonneg_right (by omega) (Int.mul_nonneg hlo hwi)
 omega
end
def fewS {α : Type} (p : α × Nat → Bool) (b : Option (α × Nat)) (x : α × Nat) : Option (α × Nat) := if (b.all fun y => decide (x.2 < y.2)) && p x then some x else b
def fewF {α : Type} (p : α × Nat → Bool) (l : List (α × Nat)) : Option (α × Nat) := l.foldl (fewS p) none
theorem fewF_snoc {α : Type} (p : α × Nat → Bool) (l : List (α × Nat)) (x : α × Nat) : fewF p (l ++ [x]) = fewS p (fewF p l) x := by simp [fewF, List.foldl_append]
theorem fewF_spec {α : Type} (p : α × Nat → Bool) (l : List (α × Nat)) : (fewF p l = none → ∀ x ∈ l, p x = false) ∧ ∀ y, fewF p l = some y → (l.find? fun x => decide (x.2 = y.2) && p x) = some y ∧ p y = true ∧ y ∈ l ∧ ∀ x ∈ l, p x = true → y.2 ≤ x.2 := by
 have key : ∀ (k : Nat), (fewF p (l.take k) = none → ∀ x ∈ l.take k, p x = false) ∧ ∀ y, fewF p (l.take k) = some y → ((l.take k).find? fun x => decide (x.2 = y.2) && p x) = some y ∧ p y = true ∧ y ∈ l.take k ∧ ∀ x ∈ l.take k, p x = true → y.2 ≤ x.2 := by
  intro k
  induction k with
  | zero => simp [fewF]
  | succ k ih =>
   by_cases hk : k < l.length
   ·rw [List.take_add_one, List.getElem?_eq_getElem hk, Option.toList_some, fewF_snoc]
    cases hb : fewF p (l.take k) with
    | none =>
     have ih1 := ih.1 hb
     unfold fewS
     simp only [Option.all_none, Bool.true_and]
     by_cases hp : p l[k] = true
     ·rw [if_pos hp]
      refine ⟨by simp, fun y hy => ?_⟩
      obtain rfl := Option.some.inj hy
      refine ⟨?_, hp, List.mem_append_right _ Zz2, fun x hx h => ?_⟩
      ·rw [List.find?_append, List.find?_eq_none.2 (fun x hx => by simp [ih1 x hx])]
       simp [hp]
      ·rcases List.mem_append.1 hx with hx | hx
       ·rw [ih1 x hx] at h; cases h
       ·simp at hx; rw [hx]; exact Nat.le_refl _
     ·rw [if_neg hp]
      refine ⟨fun _ x hx => ?_, by simp⟩
      rcases List.mem_append.1 hx with hx | hx
      ·exact ih1 x hx
      ·simp at hx; rw [hx]; simpa using hp
    | some z =>
     obtain ⟨i1, i2, i3, i4⟩ := ih.2 z hb
     unfold fewS
     simp only [Option.all_some]
     by_cases hp : (decide (l[k].2 < z.2) && p l[k]) = true
     ·rw [if_pos hp]
      simp only [Bool.and_eq_true, decide_eq_true_eq] at hp
      refine ⟨by simp, fun y hy => ?_⟩
      obtain rfl := Option.some.inj hy
      refine ⟨?_, hp.2, List.mem_append_right _ Zz2, fun x hx h => ?_⟩
      ·rw [List.find?_append, List.find?_eq_none.2 (fun x hx h => ?_)]
       ·simp [hp.2]
       ·simp only [Bool.and_eq_true, decide_eq_true_eq] at h
        have := i4 x hx h.2
        omega
      ·rcases List.mem_append.1 hx with hx | hx
       ·have := i4 x hx h
        omega
       ·simp at hx; rw [hx]; exact Nat.le_refl _
     ·rw [if_neg hp]
      refine ⟨by simp, fun y hy => ?_⟩
      obtain rfl := Option.some.inj hy
      refine ⟨?_, i2, List.mem_append_left _ i3, fun x hx h => ?_⟩
      ·rw [List.find?_append, i1]; rfl
      ·rcases List.mem_append.1 hx with hx | hx
       ·exact i4 x hx h
       ·simp at hx
        rw [hx] at h ⊢
        simp only [Bool.and_eq_true, decide_eq_true_eq, h, and_true] at hp
        omega
   ·have : l.take (k + 1) = l.take k := by rw [List.take_of_length_le (by omega), List.take_of_length_le (by omega)]
    rw [this]; exact ih
 have := key l.length
 rwa [List.take_length] at this
structure Ar where
 l : Int
 n : Int
 r : Int
 f : Int
deriving DecidableEq, Inhabited
structure Ld where
 l : Int
 n : Int
 r : Int
 f : Int
 p : Int
deriving DecidableEq, Inhabited
def Ld.ar (x : Ld) : Ar := ⟨x.l, x.n, x.r, x.f⟩
def overP (a b : Ar) : Bool := decide (a.l < b.r) && decide (b.l < a.r) && decide (a.n < b.f) && decide (b.n < a.f)
def inP (a b : Ar) : Bool := decide (b.l ≤ a.l) && decide (a.r ≤ b.r) && decide (b.n ≤ a.n) && decide (a.f ≤ b.f)
def spA (l : List Ld) (one : Ar) : List Ld := l.filter fun x => inP x.ar one
def spB (l : List Ld) (one two : Ar) : List Ld := l.filter fun x => !inP x.ar one && inP x.ar two
def spOk (l : List Ld) (one two : Ar) : Bool := l.all fun x => inP x.ar one || inP x.ar two
def splA (l : List Ld) (one two : Ar) : List Ld := if spOk l one two = true then spA l one else []
def splB (l : List Ld) (one two : Ar) : List Ld := if spOk l one two = true then spB l one two else []
def splI (l : List Ld) (one two : Ar) : Bool := spOk l one two && decide (0 < (spA l one).length) && decide (0 < (spB l one two).length)
theorem sp_len (l : List Ld) (one two : Ar) (h : spOk l one two = true) : (spA l one).length + (spB l one two).length = l.length := by
 induction l with
 | nil => rfl
 | cons x l ih =>
  simp only [spOk, List.all_cons, Bool.and_eq_true] at h
  have := ih h.2
  simp only [spA, spB, List.filter_cons] at this ⊢
  cases h1 : inP x.ar one <;> cases h2 : inP x.ar two <;> simp_all <;> omega
theorem splI_len {l : List Ld} {one two : Ar} (h : splI l one two = true) : (splA l one two).length < l.length ∧ (splB l one two).length < l.length := by
 simp only [splI, Bool.and_eq_true, decide_eq_true_eq] at h
 have := sp_len l one two h.1.1
 simp only [splA, splB, if_pos h.1.1]
 omega
def Ar.al (a : Ar) (x : Int) : Ar := ⟨a.l, a.n, x, a.f⟩
def Ar.ar (a : Ar) (x : Int) : Ar := ⟨x, a.n, a.r, a.f⟩
def Ar.cl (a : Ar) (y : Int) : Ar := ⟨a.l, a.n, a.r, y⟩
def Ar.cr (a : Ar) (y : Int) : Ar := ⟨a.l, y, a.r, a.f⟩
inductive Saw : List Ld → Ar → Prop
 | few {l : List Ld} {a : Ar} : l.length < 2 → Saw l a
 | along {l : List Ld} {a : Ar} (x : Int) : a.l < x → x < a.r → splI l (a.al x) (a.ar x) = true → Saw (splA l (a.al x) (a.ar x)) (a.al x) → Saw (splB l (a.al x) (a.ar x)) (a.ar x) → Saw l a
 | across {l : List Ld} {a : Ar} (y : Int) : a.n < y → y < a.f → splI l (a.cl y) (a.cr y) = true → Saw (splA l (a.cl y) (a.cr y)) (a.cl y) → Saw (splB l (a.cl y) (a.cr y)) (a.cr y) → Saw l a
open Classical in
noncomputable def sawB (l : List Ld) (a : Ar) : Bool := decide (Saw l a)
theorem sawB_iff {l : List Ld} {a : Ar} : sawB l a = true ↔ Saw l a := by simp [sawB]
theorem saw_few {l : List Ld} {a : Ar} (h : l.length < 2) : sawB l a = true := sawB_iff.2 (.few h)
theorem saw_along {l : List Ld} {a : Ar} (x : Int) (h1 : a.l < x) (h2 : x < a.r) (h3 : splI l (a.al x) (a.ar x) = true) (h4 : sawB (splA l (a.al x) (a.ar x)) (a.al x) = true) (h5 : sawB (splB l (a.al x) (a.ar x)) (a.ar x) = true) : sawB l a = true := sawB_iff.2 (.along x h1 h2 h3 (sawB_iff.1 h4) (sawB_iff.1 h5))
theorem saw_across {l : List Ld} {a : Ar} (x : Int) (h1 : a.n < x) (h2 : x < a.f) (h3 : splI l (a.cl x) (a.cr x) = true) (h4 : sawB (splA l (a.cl x) (a.cr x)) (a.cl x) = true) (h5 : sawB (splB l (a.cl x) (a.cr x)) (a.cr x) = true) : sawB l a = true := sawB_iff.2 (.across x h1 h2 h3 (sawB_iff.1 h4) (sawB_iff.1 h5))
theorem saw_not {l : List Ld} {a : Ar} (h : 2 ≤ l.length) (h1 : ∀ x, a.l < x → x < a.r → ¬ (splI l (a.al x) (a.ar x) = true ∧ sawB (splA l (a.al x) (a.ar x)) (a.al x) = true ∧ sawB (splB l (a.al x) (a.ar x)) (a.ar x) = true)) (h2 : ∀ x, a.n < x → x < a.f → ¬ (splI l (a.cl x) (a.cr x) = true ∧ sawB (splA l (a.cl x) (a.cr x)) (a.cl x) = true ∧ sawB (splB l (a.cl x) (a.cr x)) (a.cr x) = true)) : sawB l a = false := by
 rw [Bool.eq_false_iff]
 intro hs
 cases sawB_iff.1 hs with
 | few h3 => omega
 | along x k1 k2 k3 k4 k5 => exact h1 x k1 k2 ⟨k3, sawB_iff.2 k4, sawB_iff.2 k5⟩
 | across x k1 k2 k3 k4 k5 => exact h2 x k1 k2 ⟨k3, sawB_iff.2 k4, sawB_iff.2 k5⟩
def ldOf (a c : Int) (p : Pt) (q : Spt) (i : Nat) : Ld := ⟨q.x, q.y, q.x + sizeL a c p q.t, q.y + sizeW a c p q.t, (i : Int)⟩
def badP (a c lo wi : Int) (p : Pt) (q : Spt) : Bool := (q.t && p.gr) || !(decide (0 ≤ q.x) && decide (q.x ≤ lo - sizeL a c p q.t)) || !(decide (0 ≤ q.y) && decide (q.y ≤ wi - sizeW a c p q.t))
def hitP (all : List Ld) (o : Ld) : Bool := all.any fun z => decide (z.ar = o.ar) || overP z.ar o.ar
def plP (a c lo wi : Int) : List Ld → List Pt → List Spt → Option (List Ld)
 | all, p :: L, q :: S => if badP a c lo wi p q = true then none else if hitP all (ldOf a c p q all.length) = true then none else plP a c lo wi (all ++ [ldOf a c p q all.length]) L S
 | all, _, _ => some all
noncomputable def cutsB (a c lo wi : Int) (L : List Pt) (S : List Spt) : Bool := match plP a c lo wi [] L S with
 | none => false
 | some all => sawB all ⟨0, 0, lo, wi⟩
def canC (a c : Int) (L : List Pt) : Nat → Rm → Bool
 | 0, _ => false
 | n + 1, r => if popP r.s = 0 then true else if popP r.s = 1 then (fitsP a c (L.getD (onlyP r.s) default) r.lo r.wi).2 else (roomsP r).any fun q => canC a c L n q.a && canC a c L n q.b
theorem canC_eq {a c : Int} {L : List Pt} (h5 : L.length ≤ 5) : ∀ (n : Nat) (r : Rm), popP r.s < n → r.s < 2 ^ L.length → canC a c L n r = canB a c L r
 | 0, _, h, _ => by omega
 | n + 1, r, h, hs => by
  have h32 : r.s < 32 := by have := Nat.pow_le_pow_right (n := 2) (by omega) h5; omega
  unfold canC
  rw [Bool.eq_iff_iff, canB_iff]
  by_cases h0 : popP r.s = 0
  ·rw [if_pos h0]
   exact ⟨fun _ => can_none hs h5 h0, fun _ => rfl⟩
  ·rw [if_neg h0]
   by_cases h1 : popP r.s = 1
   ·rw [if_pos h1, can_one hs h5 h1, fitsP_iff]
   ·rw [if_neg h1, can_cut hs h5 (by omega), List.any_eq_true]
    constructor
    ·rintro ⟨q, hq, hb⟩
     obtain ⟨-, p1, p2⟩ := rooms_pop h32 hq
     obtain ⟨s1, s2⟩ := rooms_pow hs h5 hq
     rw [canC_eq h5 n q.a (by omega) s1, canC_eq h5 n q.b (by omega) s2, Bool.and_eq_true, canB_iff, canB_iff] at hb
     exact ⟨q, hq, hb⟩
    ·rintro ⟨q, hq, hb⟩
     obtain ⟨-, p1, p2⟩ := rooms_pop h32 hq
     obtain ⟨s1, s2⟩ := rooms_pow hs h5 hq
     refine ⟨q, hq, ?_⟩
     rw [canC_eq h5 n q.a (by omega) s1, canC_eq h5 n q.b (by omega) s2, Bool.and_eq_true, canB_iff, canB_iff]
     exact hb
def layC (a c : Int) (L : List Pt) : Nat → Rm → Int → Int → List (Nat × Spt)
 | 0, _, _, _ => []
 | n + 1, r, x, y => if popP r.s = 0 then [] else if popP r.s = 1 then [(onlyP r.s, ⟨x, y, (fitsP a c (L.getD (onlyP r.s) default) r.lo r.wi).1⟩)] else
  match (roomsP r).find? fun q => canC a c L 6 q.a && canC a c L 6 q.b with
  | none => []
  | some q => layC a c L n q.a x y ++ layC a c L n q.b (x + q.x) (y + q.y)
theorem layC_find {a c : Int} {L : List Pt} (h5 : L.length ≤ 5) {r : Rm} (hs : r.s < 2 ^ L.length) : ((roomsP r).find? fun q => canC a c L 6 q.a && canC a c L 6 q.b) = (roomsP r).find? fun q => canB a c L q.a && canB a c L q.b := by
 have key : ∀ (l : List Two2), (∀ q ∈ l, q ∈ roomsP r) → (l.find? fun q => canC a c L 6 q.a && canC a c L 6 q.b) = l.find? fun q => canB a c L q.a && canB a c L q.b := by
  intro l
  induction l with
  | nil => intro _; rfl
  | cons q l ih =>
   intro h
   obtain ⟨s1, s2⟩ := rooms_pow hs h5 (h q Zz2)
   rw [List.find?_cons, List.find?_cons, canC_eq h5 6 q.a (pop_lt _) s1, canC_eq h5 6 q.b (pop_lt _) s2, ih fun z hz => h z (Zz1 hz)]
 exact key _ fun _ h => h
theorem layC_eq {a c : Int} {L : List Pt} (h5 : L.length ≤ 5) {r : Rm} {x y : Int} {A : List (Nat × Spt)} (h : Lay a c L r x y A) : ∀ n : Nat, popP r.s < n → r.s < 2 ^ L.length → layC a c L n r x y = A := by
 induction h with
 | none h0 =>
  intro n hn _
  obtain ⟨m, rfl⟩ : ∃ m, n = m + 1 := ⟨n - 1, by omega⟩
  unfold layC
  rw [if_pos h0]
 | one h1 =>
  intro n hn _
  obtain ⟨m, rfl⟩ : ∃ m, n = m + 1 := ⟨n - 1, by omega⟩
  unfold layC
  rw [if_neg (by omega), if_pos h1]
 | @cut r x y q A B h2 hf _ _ ih1 ih2 =>
  intro n hn hs
  have h32 : r.s < 32 := by have := Nat.pow_le_pow_right (n := 2) (by omega) h5; omega
  obtain ⟨m, rfl⟩ : ∃ m, n = m + 1 := ⟨n - 1, by omega⟩
  have hq := List.mem_of_find?_eq_some hf
  obtain ⟨-, p1, p2⟩ := rooms_pop h32 hq
  obtain ⟨s1, s2⟩ := rooms_pow hs h5 hq
  unfold layC
  rw [if_neg (by omega), if_neg (by omega), layC_find h5 hs, hf]
  dsimp only
  rw [ih1 m (by omega) s1, ih2 m (by omega) s2]
theorem lay_ex {a c : Int} {L : List Pt} (h5 : L.length ≤ 5) : ∀ (n : Nat) (r : Rm) (x y : Int), popP r.s < n → r.s < 2 ^ L.length → canB a c L r = true → ∃ A, Lay a c L r x y A
 | 0, _, _, _, h, _, _ => by omega
 | n + 1, r, x, y, h, hs, hc => by
  have h32 : r.s < 32 := by have := Nat.pow_le_pow_right (n := 2) (by omega) h5; omega
  by_cases h0 : popP r.s = 0
  ·exact ⟨_, .none h0⟩
  ·by_cases h1 : popP r.s = 1
   ·exact ⟨_, .one h1⟩
   ·obtain ⟨q, hq, k1, k2⟩ := (can_cut hs h5 (by omega)).1 (canB_iff.1 hc)
    cases hf : (roomsP r).find? fun q => canB a c L q.a && canB a c L q.b with
    | none => exact absurd (List.find?_eq_none.1 hf q hq) (by simp [canB_iff.2 k1, canB_iff.2 k2])
    | some z =>
     have hz := List.mem_of_find?_eq_some hf
     have hb := List.find?_some hf
     simp only [Bool.and_eq_true] at hb
     obtain ⟨-, p1, p2⟩ := rooms_pop h32 hz
     obtain ⟨s1, s2⟩ := rooms_pow hs h5 hz
     obtain ⟨A, hA⟩ := lay_ex h5 n z.a x y (by omega) s1 hb.1
     obtain ⟨B, hB⟩ := lay_ex h5 n z.b (x + z.x) (y + z.y) (by omega) s2 hb.2
     exact ⟨_, .cut (by omega) hf hA hB⟩
def canSC (s : Sk) (su : Bool) (L : List Pt) : Bool := canC (cutA s su) (cutC s su) L 6 (whR s L)
theorem canSC_eq {s : Sk} {su : Bool} {L : List Pt} (h5 : L.length ≤ 5) : canSC s su L = canS s su L := canC_eq h5 6 _ (pop_lt _) (whole_pow _)
def planC (s : Sk) (g : List Int) (su : Bool) : List Spt × Int := if lstE s g ≠ 0 then ([], lstE s g) else if canSC s su (gP s g) = true then (putS (List.replicate (gP s g).length ⟨0, 0, false⟩) (layC (cutA s su) (cutC s su) (gP s g) 6 (whR s (gP s g)) 0 0), 0) else ([], 11)
theorem planC_eq (s : Sk) (g : List Int) (su : Bool) : planC s g su = (planL s g su, planE s g su) := by
 unfold planC planL planE
 by_cases h1 : lstE s g ≠ 0
 ·rw [if_pos h1, if_pos h1, if_neg h1]
 ·rw [if_neg h1, if_neg h1]
  obtain ⟨-, -, h5⟩ := lstP_good (s := s) (g := g) (by omega)
  rw [canSC_eq h5]
  by_cases h2 : canS s su (gP s g) = true
  ·rw [if_pos h2, if_pos h2, if_pos rfl]
   obtain ⟨A, hA⟩ := lay_ex h5 6 (whR s (gP s g)) 0 0 (pop_lt _) (whole_pow _) h2
   rw [planA_eq hA, layC_eq h5 hA 6 (pop_lt _) (whole_pow _)]
  ·rw [if_neg h2, if_neg h2, if_neg (by decide)]
def sawC : Nat → List Ld → Ar → Bool
 | 0, _, _ => false
 | n + 1, l, a => if l.length < 2 then true else
  ((List.range (a.r - a.l).toNat).any fun k => decide (0 < k) && splI l (a.al (a.l + k)) (a.ar (a.l + k)) && sawC n (splA l (a.al (a.l + k)) (a.ar (a.l + k))) (a.al (a.l + k)) && sawC n (splB l (a.al (a.l + k)) (a.ar (a.l + k))) (a.ar (a.l + k))) ||
  (List.range (a.f - a.n).toNat).any fun k => decide (0 < k) && splI l (a.cl (a.n + k)) (a.cr (a.n + k)) && sawC n (splA l (a.cl (a.n + k)) (a.cr (a.n + k))) (a.cl (a.n + k)) && sawC n (splB l (a.cl (a.n + k)) (a.cr (a.n + k))) (a.cr (a.n + k))
theorem sawC_eq : ∀ (n : Nat) (l : List Ld) (a : Ar), l.length < n → sawC n l a = sawB l a
 | 0, _, _, h => by omega
 | n + 1, l, a, h => by
  unfold sawC
  by_cases h2 : l.length < 2
  ·rw [if_pos h2, saw_few h2]
  ·rw [if_neg h2]
   rw [Bool.eq_iff_iff]
   constructor
   ·intro hb
    rcases Bool.or_eq_true _ _ |>.mp hb with hb | hb
    ·obtain ⟨k, hk, hb⟩ := List.any_eq_true.1 hb
     rw [List.mem_range] at hk
     simp only [Bool.and_eq_true, decide_eq_true_eq] at hb
     obtain ⟨⟨⟨k0, k1⟩, k2⟩, k3⟩ := hb
     have hl := splI_len k1
     rw [sawC_eq n _ _ (by omega)] at k2 k3
     exact saw_along (a.l + k) (by omega) (by omega) k1 k2 k3
    ·obtain ⟨k, hk, hb⟩ := List.any_eq_true.1 hb
     rw [List.mem_range] at hk
     simp only [Bool.and_eq_true, decide_eq_true_eq] at hb
     obtain ⟨⟨⟨k0, k1⟩, k2⟩, k3⟩ := hb
     have hl := splI_len k1
     rw [sawC_eq n _ _ (by omega)] at k2 k3
     exact saw_across (a.n + k) (by omega) (by omega) k1 k2 k3
   ·intro hb
    rw [Bool.or_eq_true, List.any_eq_true, List.any_eq_true]
    cases sawB_iff.1 hb with
    | few h3 => omega
    | along x k1 k2 k3 k4 k5 =>
     have hl := splI_len k3
     refine .inl ⟨(x - a.l).toNat, List.mem_range.2 (by omega), ?_⟩
     rw [show a.l + ((x - a.l).toNat : Int) = x by omega, sawC_eq n _ _ (by omega), sawC_eq n _ _ (by omega), k3, sawB_iff.2 k4, sawB_iff.2 k5]
     simp only [Bool.and_true, decide_eq_true_eq]
     omega
    | across x k1 k2 k3 k4 k5 =>
     have hl := splI_len k3
     refine .inr ⟨(x - a.n).toNat, List.mem_range.2 (by omega), ?_⟩
     rw [show a.n + ((x - a.n).toNat : Int) = x by omega, sawC_eq n _ _ (by omega), sawC_eq n _ _ (by omega), k3, sawB_iff.2 k4, sawB_iff.2 k5]
     simp only [Bool.and_true, decide_eq_true_eq]
     omega
def patB (ps : List Pt) (l : List Int) : Bool := (ps.zip l).all fun q => (ps.zip l).all fun r => !(decide (0 < q.1.pa) && decide (q.1.pa = r.1.pa) && decide (q.2 ≠ r.2))
theorem patB_iff {ps : List Pt} {l : List Int} : patB ps l = true ↔ patP ps l := by
 unfold patB patP
 simp only [List.all_eq_true, Bool.not_eq_true', Bool.and_eq_false_iff, decide_eq_false_iff_not]
 constructor
 ·intro h q hq r hr h1 h2
  rcases h q hq r hr with (h3 | h3) | h3
  ·exact absurd h1 h3
  ·exact absurd h2 h3
  ·exact Decidable.of_not_not h3
 ·intro h q hq r hr
  by_cases h1 : 0 < q.1.pa
  ·by_cases h2 : q.1.pa = r.1.pa
   ·exact .inr (fun h3 => h3 (h q hq r hr h1 h2))
   ·exact .inl (.inr h2)
  ·exact .inl (.inl h1)
noncomputable def willB (s : Sk) (su : Bool) (l : List Int) (n : Nat) : Bool := patB s.ps l && (List.range n).all fun k => canS s su (clsP s.ps l (k : Int))
theorem willB_iff {s : Sk} {su : Bool} {l : List Int} {n : Nat} : willB s su l n = true ↔ willQ (Fit (cutA s su) (cutC s su)) s.ps s.lo s.wi l n := by
 unfold willB willQ
 rw [Bool.and_eq_true, patB_iff, List.all_eq_true]
 simp only [List.mem_range, canS_iff]
noncomputable def shF (s : Sk) (su : Bool) : Option (List Int × Nat) := fewF (fun x => willB s su x.1 x.2) (asgP s.ps.length [] 0)
noncomputable def shE (s : Sk) (su : Bool) : Int := if skErr s ≠ 0 then skErr s else if (shF s su).isSome = true then 0 else 11
noncomputable def shL (s : Sk) (su : Bool) : List Int := if shE s su = 0 then ((shF s su).getD ([], 0)).1 else []
noncomputable def shN (s : Sk) (su : Bool) : Nat := if shE s su = 0 then ((shF s su).getD ([], 0)).2 else 0
def willC (s : Sk) (su : Bool) (l : List Int) (n : Nat) : Bool := patB s.ps l && (List.range n).all fun k => canSC s su (clsP s.ps l (k : Int))
theorem clsP_len (ps : List Pt) (l : List Int) (n : Int) : (clsP ps l n).length ≤ ps.length := by
 unfold clsP
 rw [List.length_map]
 refine Nat.le_trans (List.length_filter_le _ _) ?_
 rw [List.length_zip]
 omega
theorem willC_eq {s : Sk} {su : Bool} (h5 : s.ps.length ≤ 5) (l : List Int) (n : Nat) : willC s su l n = willB s su l n := by
 unfold willC willB
 congr 1
 congr 1
 funext k
 exact canSC_eq (Nat.le_trans (clsP_len _ _ _) h5)
def shFC (s : Sk) (su : Bool) : Option (List Int × Nat) := fewF (fun x => willC s su x.1 x.2) (asgP s.ps.length [] 0)
theorem shFC_eq {s : Sk} {su : Bool} (h5 : s.ps.length ≤ 5) : shFC s su = shF s su := by
 unfold shFC shF
 congr 1
 funext x
 exact willC_eq h5 _ _
theorem shF_col {s : Sk} {su : Bool} : (shF s su = none → ∀ n, ¬ ColP (Fit (cutA s su) (cutC s su)) s.lo s.wi s.ps n) ∧ ∀ l m, shF s su = some (l, m) → ColP (Fit (cutA s su) (cutC s su)) s.lo s.wi s.ps m ∧ ∀ n, ColP (Fit (cutA s su) (cutC s su)) s.lo s.wi s.ps n → m ≤ n := by
 obtain ⟨h1, h2⟩ := fewF_spec (fun x => willB s su x.1 x.2) (asgP s.ps.length [] 0)
 constructor
 ·intro h n hc
  obtain ⟨l, m, -, hm, hw⟩ := hc.to_will
  have := h1 h _ hm
  rw [willB_iff.2 hw] at this
  cases this
 ·intro l m h
  obtain ⟨-, k2, k3, k4⟩ := h2 _ h
  obtain ⟨t, t1, t2, t3⟩ := (mem_asg _ _ _ _ _).1 k3
  simp only [List.nil_append] at t2
  subst t2
  refine ⟨ColP.of_will t1.symm t3.mem (willB_iff.1 k2), fun n hc => ?_⟩
  obtain ⟨l', m', hm1, hm, hw⟩ := hc.to_will
  exact Nat.le_trans (k4 _ hm (willB_iff.2 hw)) hm1
theorem shF_some {s : Sk} {su : Bool} {n : Nat} (h : ColP (Fit (cutA s su) (cutC s su)) s.lo s.wi s.ps n) : ∃ l m, shF s su = some (l, m) ∧ m ≤ n := by
 cases hf : shF s su with
 | none => exact absurd h (shF_col.1 hf n)
 | some x => exact ⟨x.1, x.2, rfl, (shF_col.2 x.1 x.2 hf).2 n h⟩
theorem Tryz.info207 : (Tryz.prog.info? 207).map (fun i => (i.zero, i.size, i.bytes)) = some (some (.agg #[.int .i64 0, .int .i64 0, .int .i64 0, .int .i64 0, .int .i64 0]), 5, 40) := by kernel_rfl
theorem Mem.swapU {w0 w : World} {ex : Nat → Prop} (L I J : List (Nat × BA)) (M : Mem w0 ex w (L ++ (I ++ J))) : Mem w0 ex w (L ++ (J ++ I)) :=
 ⟨M.os, M.tape, M.output, M.size, M.block, fun p hp => M.blk p (by simp only [List.mem_append] at hp ⊢; rcases hp with h | h | h; exact .inl h; exact .inr (.inr h); exact .inr (.inl h)),
  ((List.Perm.append_left L (List.perm_append_comm (l₁ := J) (l₂ := I))).map (fun q : Nat × BA => q.1)).nodup_iff.2 M.nd⟩
def dcE (p : Ld) : List Value := [.int .i64 p.l, .int .i64 p.n, .int .i64 p.r, .int .i64 p.f, .int .i64 p.p]
def dc (l : List Ld) : List Value := l.flatMap dcE
theorem dc_length (l : List Ld) : (dc l).length = l.length * 5 := by
 induction l with
 | nil => rfl
 | cons x l ih =>
  show (dcE x ++ dc l).length = _
  rw [List.length_append, ih, List.length_cons]
  show 5 + _ = _
  omega
theorem dc_get : ∀ (l : List Ld) (k : Nat) {x : Ld}, l[k]? = some x → ∀ (i : Nat) (v : Value), (dcE x)[i]? = some v → (dc l)[k * 5 + i]? = some v
 | [], k, x, h => by simp at h
 | y :: l, 0, x, h => by
  intro i v hv
  simp only [List.getElem?_cons_zero, Option.some.injEq] at h
  subst h
  show (dcE y ++ dc l)[0 * 5 + i]? = some v
  rw [Nat.zero_mul, Nat.zero_add, List.getElem?_append_left (List.getElem?_eq_some_iff.1 hv).1]
  exact hv
 | y :: l, k + 1, x, h => by
  intro i v hv
  have := dc_get l k (by simpa using h) i v hv
  show (dcE y ++ dc l)[(k + 1) * 5 + i]? = some v
  have e : (dcE y).length = 5 := rfl
  rw [List.getElem?_append_right (by rw [e]; omega), e, show (k + 1) * 5 + i - 5 = k * 5 + i by omega]
  exact this
theorem dc_snoc (l : List Ld) (p : Ld) : dc l ++ [.int .i64 p.l, .int .i64 p.n, .int .i64 p.r, .int .i64 p.f, .int .i64 p.p] = dc (l ++ [p]) := by simp [dc, dcE]
theorem dc_next {l : List Ld} {k : Nat} (h : k < l.length) : ∃ x, l[k]? = some x ∧ l.drop k = x :: l.drop (k + 1) := ⟨l[k], List.getElem?_eq_getElem h, List.drop_eq_getElem_cons h⟩
section
variable {w w' : World} {ex : Nat → Prop} {I L : List (Nat × BA)} {n b o k : Nat} {A : Option Addr} {l : List Ld} {p : Ld}
theorem Sp.dcA (S : Sp w ex I A n 5 b o (dc l)) (M : Mem w ex w' L) (hI : I.Sublist L) (h : l[k]? = some p) (f : Nat) (v : Value) (hv : (dcE p)[f]? = some v) : w'.cell? ⟨b, o + k * 5 + f, none⟩ = some v := by
 have := S.cell w' L M hI _ _ (dc_get l k h f v hv)
 rwa [← Nat.add_assoc] at this
theorem Sp.dcR (S : Sp w ex I A n 5 b o (dc l)) (M : Mem w ex w' L) (hI : I.Sublist L) (h : l[k]? = some p) : w'.rangeAt b (o + k * 5) [.int .i64 p.l, .int .i64 p.n, .int .i64 p.r, .int .i64 p.f, .int .i64 p.p] := fun j v hv => S.dcA M hI h j v hv
end
def SplPost (l : List Ld) (one two : Ar) (w : World) (e : Ending) (w' : World) : Prop := ∃ A1 c1 I1 A2 c2 I2, e = .returned (.tuple #[.slice A1 (splA l one two).length c1, .slice A2 (splB l one two).length c2, .bool (splI l one two)]) ∧ (∃ b o, ∀ (w : World) (ex : Nat → Prop), Sp w ex I1 A1 (splA l one two).length 5 b o (dc (splA l one two))) ∧ (∃ b o, ∀ (w : World) (ex : Nat → Prop), Sp w ex I2 A2 (splB l one two).length 5 b o (dc (splB l one two))) ∧ Mem w noEx w' (I1 ++ I2)
theorem spOk_no {l : List Ld} {one two : Ar} {x : Ld} (hx : x ∈ l) (h1 : ¬ inP x.ar one = true) (h2 : ¬ inP x.ar two = true) : spOk l one two = false := by
 rw [spOk, List.all_eq_false]
 exact ⟨x, hx, by simp [h1, h2]⟩
theorem arover_any (a b : Ar) (w : World)  :
   Calls Tryz.prog 134 #[.agg #[.int .i64 a.l, .int .i64 a.n, .int .i64 a.r, .int .i64 a.f], .agg #[.int .i64 b.l, .int .i64 b.n, .int .i64 b.r, .int .i64 b.f]] w fun e w' => e = .returned (.bool (overP a b)) ∧ Below w.heap.size w w' := by
 refine Zpx noEx Tryz.func134 rfl 31 rfl [.agg #[.int .i64 a.l, .int .i64 a.n, .int .i64 a.r, .int .i64 a.f], .agg #[.int .i64 b.l, .int .i64 b.n, .int .i64 b.r, .int .i64 b.f]] rfl rfl (Mem.init w _) ?_
 intro ac wc T M
 refine Zsr ?_
 refine Zl2 ?_
 refine Zob M T rfl rfl rfl rfl (T.e 0 rfl) rfl ?_; clear M T; intro g1 wc ac M T
 refine Zl2 ?_
 refine Zob M T rfl rfl rfl rfl (T.e 2 rfl) rfl ?_; clear M T; intro g2 wc ac M T
 refine lq T (Zra rfl evc) ?_; clear T ac; intro ac T
 replace T := T.pick [1, 2] rfl
 refine Zln ?_
 refine cut_seq (fun ac wc => Tm ac 31 [(4, .bool ((decide (a.l < b.r)) && ((decide (b.l < a.r)) && ((decide (a.n < b.f)) && (decide (b.n < a.f))))))] ∧ Mem w noEx wc []) ?_ ?_
 ·refine wp_region_lit ?_
  refine Zg6 (v1 := (.pointer (some ⟨g1, 0, none⟩))) (v3 := (.pointer (some ⟨g2, 2, none⟩))) T (Zq (Zrf (off := 0) rfl (T.e 1 rfl) (fun _ _ _ => by kernel_rfl))) rfl (Zo M 1 0 rfl rfl rfl rfl) rfl (Zf 2 2 rfl rfl) rfl (Zo M 0 0 rfl rfl rfl rfl) rfl (fun _ T => Zq (rn_lss rfl (T.e 2 rfl) (T.e 0 rfl))) rfl (Zm 0 rfl rfl) rfl ?_; clear T ac; intro ac T
  rcases Bool.eq_false_or_eq_true (decide (a.l < b.r)) with h1 | h1
  ·replace h1 := of_decide_eq_true h1
   refine Zg7 (v1 := (.pointer (some ⟨g2, 0, none⟩))) (v3 := (.pointer (some ⟨g1, 2, none⟩))) T (Zw (Zwy rfl rfl (T.e 0 rfl) (Zdt h1)) (Zrf (off := 0) rfl (T.e 6 rfl) (fun _ _ _ => by kernel_rfl))) rfl (fun _ T => Zw (Zwy rfl rfl (T.e 1 rfl) (Zdt h1)) (Zro (Mem.nth M 0 rfl) rfl (T.e 0 rfl) rfl)) rfl (fun _ T => Zw (Zwy rfl rfl (T.e 2 rfl) (Zdt h1)) (Zrf (off := 2) rfl (T.e 9 rfl) (fun _ _ _ => by kernel_rfl))) rfl (fun _ T => Zw (Zwy rfl rfl (T.e 3 rfl) (Zdt h1)) (Zro (Mem.nth M 1 rfl) rfl (T.e 0 rfl) rfl)) rfl (fun _ T => Zw (Zwy rfl rfl (T.e 4 rfl) (Zdt h1)) (rn_lss rfl (T.e 2 rfl) (T.e 0 rfl))) rfl (fun _ T => Zq (Zr1 rfl (T.e 5 rfl) (Zdt h1) (T.e 0 rfl))) rfl (Zm 0 rfl rfl) rfl ?_; clear T ac; intro ac T
   rcases Bool.eq_false_or_eq_true (decide (b.l < a.r)) with h2 | h2
   ·replace h2 := of_decide_eq_true h2
    refine Zg7 (v1 := (.pointer (some ⟨g1, 1, none⟩))) (v3 := (.pointer (some ⟨g2, 3, none⟩))) T (Zw (Zwy rfl rfl (T.e 0 rfl) (Zdt h2)) (Zrf (off := 1) rfl (T.e 14 rfl) (fun _ _ _ => by kernel_rfl))) rfl (fun _ T => Zw (Zwy rfl rfl (T.e 1 rfl) (Zdt h2)) (Zro (Mem.nth M 1 rfl) rfl (T.e 0 rfl) rfl)) rfl (fun _ T => Zw (Zwy rfl rfl (T.e 2 rfl) (Zdt h2)) (Zrf (off := 3) rfl (T.e 15 rfl) (fun _ _ _ => by kernel_rfl))) rfl (fun _ T => Zw (Zwy rfl rfl (T.e 3 rfl) (Zdt h2)) (Zro (Mem.nth M 0 rfl) rfl (T.e 0 rfl) rfl)) rfl (fun _ T => Zw (Zwy rfl rfl (T.e 4 rfl) (Zdt h2)) (rn_lss rfl (T.e 2 rfl) (T.e 0 rfl))) rfl (fun _ T => Zq (Zr1 rfl (T.e 5 rfl) (Zdt h2) (T.e 0 rfl))) rfl (Zm 0 rfl rfl) rfl ?_; clear T ac; intro ac T
    rcases Bool.eq_false_or_eq_true (decide (a.n < b.f)) with h3 | h3
    ·replace h3 := of_decide_eq_true h3
     refine Zg7 (v1 := (.pointer (some ⟨g2, 1, none⟩))) (v3 := (.pointer (some ⟨g1, 3, none⟩))) T (Zw (Zwy rfl rfl (T.e 0 rfl) (Zdt h3)) (Zrf (off := 1) rfl (T.e 20 rfl) (fun _ _ _ => by kernel_rfl))) rfl (fun _ T => Zw (Zwy rfl rfl (T.e 1 rfl) (Zdt h3)) (Zro (Mem.nth M 0 rfl) rfl (T.e 0 rfl) rfl)) rfl (fun _ T => Zw (Zwy rfl rfl (T.e 2 rfl) (Zdt h3)) (Zrf (off := 3) rfl (T.e 23 rfl) (fun _ _ _ => by kernel_rfl))) rfl (fun _ T => Zw (Zwy rfl rfl (T.e 3 rfl) (Zdt h3)) (Zro (Mem.nth M 1 rfl) rfl (T.e 0 rfl) rfl)) rfl (fun _ T => Zw (Zwy rfl rfl (T.e 4 rfl) (Zdt h3)) (rn_lss rfl (T.e 2 rfl) (T.e 0 rfl))) rfl (fun _ T => Zq (Zr1 rfl (T.e 5 rfl) (Zdt h3) (T.e 0 rfl))) rfl (Za 0 rfl rfl) rfl ?_; clear T ac; intro ac T
     refine wpList_nil ?_
     replace T := T.pick [0] rfl
     replace M := M.mask [false, false] rfl
     exact ⟨(T.pick (E' := [(4, .bool (decide (b.n < a.f)))]) [0] rfl).as (by (try rw [show (decide (a.l < b.r)) = true from (Zdt h1)]); (try rw [show (decide (b.l < a.r)) = true from (Zdt h2)]); (try rw [show (decide (a.n < b.f)) = true from (Zdt h3)]); (try rfl)), M.mask [] rfl⟩
    replace h3 := of_decide_eq_false h3
    refine Zg7 T (Zp (Zwn rfl rfl (T.e 0 rfl) (Zdf h3))) rfl (fun _ T => Zp (Zwn rfl rfl (T.e 1 rfl) (Zdf h3))) rfl (fun _ T => Zp (Zwn rfl rfl (T.e 2 rfl) (Zdf h3))) rfl (fun _ T => Zp (Zwn rfl rfl (T.e 3 rfl) (Zdf h3))) rfl (fun _ T => Zp (Zwn rfl rfl (T.e 4 rfl) (Zdf h3))) rfl (fun _ T => Zq (Zr0 rfl (T.e 5 rfl) (Zdf h3) evc)) rfl (Za 0 rfl rfl) rfl ?_; clear T ac; intro ac T
    refine wpList_nil ?_
    replace T := T.pick [0] rfl
    replace M := M.mask [false, false] rfl
    exact ⟨(T.pick (E' := [(4, .bool false)]) [0] rfl).as (by (try rw [show (decide (a.l < b.r)) = true from (Zdt h1)]); (try rw [show (decide (b.l < a.r)) = true from (Zdt h2)]); (try rw [show (decide (a.n < b.f)) = false from (Zdf h3)]); (try rfl)), M.mask [] rfl⟩
   replace h2 := of_decide_eq_false h2
   refine Zg8 T (Zp (Zwn rfl rfl (T.e 0 rfl) (Zdf h2))) rfl (fun _ T => Zp (Zwn rfl rfl (T.e 1 rfl) (Zdf h2))) rfl (fun _ T => Zp (Zwn rfl rfl (T.e 2 rfl) (Zdf h2))) rfl (fun _ T => Zp (Zwn rfl rfl (T.e 3 rfl) (Zdf h2))) rfl (fun _ T => Zp (Zwn rfl rfl (T.e 4 rfl) (Zdf h2))) rfl (fun _ T => Zq (Zr0 rfl (T.e 5 rfl) (Zdf h2) evc)) rfl (Zm 0 rfl rfl) rfl (fun _ T => Zp (Zwn rfl rfl (T.e 0 rfl) rfl)) rfl ?_; clear T ac; intro ac T
   refine Zg6 T (Zp (Zwn rfl rfl (T.e 1 rfl) rfl)) rfl (fun _ T => Zp (Zwn rfl rfl (T.e 2 rfl) rfl)) rfl (fun _ T => Zp (Zwn rfl rfl (T.e 3 rfl) rfl)) rfl (fun _ T => Zp (Zwn rfl rfl (T.e 4 rfl) rfl)) rfl (fun _ T => Zq (Zr0 rfl (T.e 5 rfl) rfl evc)) rfl (Za 0 rfl rfl) rfl ?_; clear T ac; intro ac T
   refine wpList_nil ?_
   replace T := T.pick [0] rfl
   replace M := M.mask [false, false] rfl
   exact ⟨(T.pick (E' := [(4, .bool false)]) [0] rfl).as (by (try rw [show (decide (a.l < b.r)) = true from (Zdt h1)]); (try rw [show (decide (b.l < a.r)) = false from (Zdf h2)]); (try rfl)), M.mask [] rfl⟩
  replace h1 := of_decide_eq_false h1
  refine Zg8 T (Zp (Zwn rfl rfl (T.e 0 rfl) (Zdf h1))) rfl (fun _ T => Zp (Zwn rfl rfl (T.e 1 rfl) (Zdf h1))) rfl (fun _ T => Zp (Zwn rfl rfl (T.e 2 rfl) (Zdf h1))) rfl (fun _ T => Zp (Zwn rfl rfl (T.e 3 rfl) (Zdf h1))) rfl (fun _ T => Zp (Zwn rfl rfl (T.e 4 rfl) (Zdf h1))) rfl (fun _ T => Zq (Zr0 rfl (T.e 5 rfl) (Zdf h1) evc)) rfl (Zm 0 rfl rfl) rfl (fun _ T => Zp (Zwn rfl rfl (T.e 0 rfl) rfl)) rfl ?_; clear T ac; intro ac T
  refine Zg8 T (Zp (Zwn rfl rfl (T.e 1 rfl) rfl)) rfl (fun _ T => Zp (Zwn rfl rfl (T.e 2 rfl) rfl)) rfl (fun _ T => Zp (Zwn rfl rfl (T.e 3 rfl) rfl)) rfl (fun _ T => Zp (Zwn rfl rfl (T.e 4 rfl) rfl)) rfl (fun _ T => Zq (Zr0 rfl (T.e 5 rfl) rfl evc)) rfl (Zm 0 rfl rfl) rfl (fun _ T => Zp (Zwn rfl rfl (T.e 0 rfl) rfl)) rfl (fun _ T => Zp (Zwn rfl rfl (T.e 1 rfl) rfl)) rfl ?_; clear T ac; intro ac T
  refine Zg5 T (Zp (Zwn rfl rfl (T.e 2 rfl) rfl)) rfl (fun _ T => Zp (Zwn rfl rfl (T.e 3 rfl) rfl)) rfl (fun _ T => Zp (Zwn rfl rfl (T.e 4 rfl) rfl)) rfl (fun _ T => Zq (Zr0 rfl (T.e 5 rfl) rfl evc)) rfl (Za 0 rfl rfl) rfl ?_; clear T ac; intro ac T
  refine wpList_nil ?_
  replace T := T.pick [0] rfl
  replace M := M.mask [false, false] rfl
  exact ⟨(T.pick (E' := [(4, .bool false)]) [0] rfl).as (by (try rw [show (decide (a.l < b.r)) = false from (Zdf h1)]); (try rfl)), M.mask [] rfl⟩
 clear T M
 rintro ac wc ⟨T, M⟩
 refine wp_ret ?_
 refine rt_1 T rfl (T.e 0 rfl) ?_
 exact ⟨ret_bool (by try simp only [overP, inP, Bool.and_assoc]), M.below⟩
theorem arwithin_any (a b : Ar) (w : World)  :
   Calls Tryz.prog 231 #[.agg #[.int .i64 a.l, .int .i64 a.n, .int .i64 a.r, .int .i64 a.f], .agg #[.int .i64 b.l, .int .i64 b.n, .int .i64 b.r, .int .i64 b.f]] w fun e w' => e = .returned (.bool (inP a b)) ∧ Below w.heap.size w w' := by
 refine Zpx noEx Tryz.func231 rfl 31 rfl [.agg #[.int .i64 a.l, .int .i64 a.n, .int .i64 a.r, .int .i64 a.f], .agg #[.int .i64 b.l, .int .i64 b.n, .int .i64 b.r, .int .i64 b.f]] rfl rfl (Mem.init w _) ?_
 intro ac wc T M
 refine Zsr ?_
 refine Zl2 ?_
 refine Zob M T rfl rfl rfl rfl (T.e 0 rfl) rfl ?_; clear M T; intro g1 wc ac M T
 refine Zl2 ?_
 refine Zob M T rfl rfl rfl rfl (T.e 2 rfl) rfl ?_; clear M T; intro g2 wc ac M T
 refine lq T (Zra rfl evc) ?_; clear T ac; intro ac T
 replace T := T.pick [1, 2] rfl
 refine Zln ?_
 refine cut_seq (fun ac wc => Tm ac 31 [(4, .bool ((decide (b.l ≤ a.l)) && ((decide (a.r ≤ b.r)) && ((decide (b.n ≤ a.n)) && (decide (a.f ≤ b.f))))))] ∧ Mem w noEx wc []) ?_ ?_
 ·refine wp_region_lit ?_
  refine Zg6 (v1 := (.pointer (some ⟨g2, 0, none⟩))) (v3 := (.pointer (some ⟨g1, 0, none⟩))) T (Zq (Zrf (off := 0) rfl (T.e 0 rfl) (fun _ _ _ => by kernel_rfl))) rfl (Zo M 0 0 rfl rfl rfl rfl) rfl (Zf 0 3 rfl rfl) rfl (Zo M 1 0 rfl rfl rfl rfl) rfl (fun _ T => Zq (rn_leq rfl (T.e 2 rfl) (T.e 0 rfl))) rfl (Zm 0 rfl rfl) rfl ?_; clear T ac; intro ac T
  rcases Bool.eq_false_or_eq_true (decide (b.l ≤ a.l)) with h1 | h1
  ·replace h1 := of_decide_eq_true h1
   refine Zg7 (v1 := (.pointer (some ⟨g1, 2, none⟩))) (v3 := (.pointer (some ⟨g2, 2, none⟩))) T (Zw (Zwy rfl rfl (T.e 0 rfl) (Zdt h1)) (Zrf (off := 2) rfl (T.e 7 rfl) (fun _ _ _ => by kernel_rfl))) rfl (fun _ T => Zw (Zwy rfl rfl (T.e 1 rfl) (Zdt h1)) (Zro (Mem.nth M 1 rfl) rfl (T.e 0 rfl) rfl)) rfl (fun _ T => Zw (Zwy rfl rfl (T.e 2 rfl) (Zdt h1)) (Zrf (off := 2) rfl (T.e 8 rfl) (fun _ _ _ => by kernel_rfl))) rfl (fun _ T => Zw (Zwy rfl rfl (T.e 3 rfl) (Zdt h1)) (Zro (Mem.nth M 0 rfl) rfl (T.e 0 rfl) rfl)) rfl (fun _ T => Zw (Zwy rfl rfl (T.e 4 rfl) (Zdt h1)) (rn_leq rfl (T.e 2 rfl) (T.e 0 rfl))) rfl (fun _ T => Zq (Zr1 rfl (T.e 5 rfl) (Zdt h1) (T.e 0 rfl))) rfl (Zm 0 rfl rfl) rfl ?_; clear T ac; intro ac T
   rcases Bool.eq_false_or_eq_true (decide (a.r ≤ b.r)) with h2 | h2
   ·replace h2 := of_decide_eq_true h2
    refine Zg7 (v1 := (.pointer (some ⟨g2, 1, none⟩))) (v3 := (.pointer (some ⟨g1, 1, none⟩))) T (Zw (Zwy rfl rfl (T.e 0 rfl) (Zdt h2)) (Zrf (off := 1) rfl (T.e 13 rfl) (fun _ _ _ => by kernel_rfl))) rfl (fun _ T => Zw (Zwy rfl rfl (T.e 1 rfl) (Zdt h2)) (Zro (Mem.nth M 0 rfl) rfl (T.e 0 rfl) rfl)) rfl (fun _ T => Zw (Zwy rfl rfl (T.e 2 rfl) (Zdt h2)) (Zrf (off := 1) rfl (T.e 16 rfl) (fun _ _ _ => by kernel_rfl))) rfl (fun _ T => Zw (Zwy rfl rfl (T.e 3 rfl) (Zdt h2)) (Zro (Mem.nth M 1 rfl) rfl (T.e 0 rfl) rfl)) rfl (fun _ T => Zw (Zwy rfl rfl (T.e 4 rfl) (Zdt h2)) (rn_leq rfl (T.e 2 rfl) (T.e 0 rfl))) rfl (fun _ T => Zq (Zr1 rfl (T.e 5 rfl) (Zdt h2) (T.e 0 rfl))) rfl (Zm 0 rfl rfl) rfl ?_; clear T ac; intro ac T
    rcases Bool.eq_false_or_eq_true (decide (b.n ≤ a.n)) with h3 | h3
    ·replace h3 := of_decide_eq_true h3
     refine Zg7 (v1 := (.pointer (some ⟨g1, 3, none⟩))) (v3 := (.pointer (some ⟨g2, 3, none⟩))) T (Zw (Zwy rfl rfl (T.e 0 rfl) (Zdt h3)) (Zrf (off := 3) rfl (T.e 21 rfl) (fun _ _ _ => by kernel_rfl))) rfl (fun _ T => Zw (Zwy rfl rfl (T.e 1 rfl) (Zdt h3)) (Zro (Mem.nth M 1 rfl) rfl (T.e 0 rfl) rfl)) rfl (fun _ T => Zw (Zwy rfl rfl (T.e 2 rfl) (Zdt h3)) (Zrf (off := 3) rfl (T.e 22 rfl) (fun _ _ _ => by kernel_rfl))) rfl (fun _ T => Zw (Zwy rfl rfl (T.e 3 rfl) (Zdt h3)) (Zro (Mem.nth M 0 rfl) rfl (T.e 0 rfl) rfl)) rfl (fun _ T => Zw (Zwy rfl rfl (T.e 4 rfl) (Zdt h3)) (rn_leq rfl (T.e 2 rfl) (T.e 0 rfl))) rfl (fun _ T => Zq (Zr1 rfl (T.e 5 rfl) (Zdt h3) (T.e 0 rfl))) rfl (Za 0 rfl rfl) rfl ?_; clear T ac; intro ac T
     refine wpList_nil ?_
     replace T := T.pick [0] rfl
     replace M := M.mask [false, false] rfl
     exact ⟨(T.pick (E' := [(4, .bool (decide (a.f ≤ b.f)))]) [0] rfl).as (by (try rw [show (decide (b.l ≤ a.l)) = true from (Zdt h1)]); (try rw [show (decide (a.r ≤ b.r)) = true from (Zdt h2)]); (try rw [show (decide (b.n ≤ a.n)) = true from (Zdt h3)]); (try rfl)), M.mask [] rfl⟩
    replace h3 := of_decide_eq_false h3
    refine Zg7 T (Zp (Zwn rfl rfl (T.e 0 rfl) (Zdf h3))) rfl (fun _ T => Zp (Zwn rfl rfl (T.e 1 rfl) (Zdf h3))) rfl (fun _ T => Zp (Zwn rfl rfl (T.e 2 rfl) (Zdf h3))) rfl (fun _ T => Zp (Zwn rfl rfl (T.e 3 rfl) (Zdf h3))) rfl (fun _ T => Zp (Zwn rfl rfl (T.e 4 rfl) (Zdf h3))) rfl (fun _ T => Zq (Zr0 rfl (T.e 5 rfl) (Zdf h3) evc)) rfl (Za 0 rfl rfl) rfl ?_; clear T ac; intro ac T
    refine wpList_nil ?_
    replace T := T.pick [0] rfl
    replace M := M.mask [false, false] rfl
    exact ⟨(T.pick (E' := [(4, .bool false)]) [0] rfl).as (by (try rw [show (decide (b.l ≤ a.l)) = true from (Zdt h1)]); (try rw [show (decide (a.r ≤ b.r)) = true from (Zdt h2)]); (try rw [show (decide (b.n ≤ a.n)) = false from (Zdf h3)]); (try rfl)), M.mask [] rfl⟩
   replace h2 := of_decide_eq_false h2
   refine Zg8 T (Zp (Zwn rfl rfl (T.e 0 rfl) (Zdf h2))) rfl (fun _ T => Zp (Zwn rfl rfl (T.e 1 rfl) (Zdf h2))) rfl (fun _ T => Zp (Zwn rfl rfl (T.e 2 rfl) (Zdf h2))) rfl (fun _ T => Zp (Zwn rfl rfl (T.e 3 rfl) (Zdf h2))) rfl (fun _ T => Zp (Zwn rfl rfl (T.e 4 rfl) (Zdf h2))) rfl (fun _ T => Zq (Zr0 rfl (T.e 5 rfl) (Zdf h2) evc)) rfl (Zm 0 rfl rfl) rfl (fun _ T => Zp (Zwn rfl rfl (T.e 0 rfl) rfl)) rfl ?_; clear T ac; intro ac T
   refine Zg6 T (Zp (Zwn rfl rfl (T.e 1 rfl) rfl)) rfl (fun _ T => Zp (Zwn rfl rfl (T.e 2 rfl) rfl)) rfl (fun _ T => Zp (Zwn rfl rfl (T.e 3 rfl) rfl)) rfl (fun _ T => Zp (Zwn rfl rfl (T.e 4 rfl) rfl)) rfl (fun _ T => Zq (Zr0 rfl (T.e 5 rfl) rfl evc)) rfl (Za 0 rfl rfl) rfl ?_; clear T ac; intro ac T
   refine wpList_nil ?_
   replace T := T.pick [0] rfl
   replace M := M.mask [false, false] rfl
   exact ⟨(T.pick (E' := [(4, .bool false)]) [0] rfl).as (by (try rw [show (decide (b.l ≤ a.l)) = true from (Zdt h1)]); (try rw [show (decide (a.r ≤ b.r)) = false from (Zdf h2)]); (try rfl)), M.mask [] rfl⟩
  replace h1 := of_decide_eq_false h1
  refine Zg8 T (Zp (Zwn rfl rfl (T.e 0 rfl) (Zdf h1))) rfl (fun _ T => Zp (Zwn rfl rfl (T.e 1 rfl) (Zdf h1))) rfl (fun _ T => Zp (Zwn rfl rfl (T.e 2 rfl) (Zdf h1))) rfl (fun _ T => Zp (Zwn rfl rfl (T.e 3 rfl) (Zdf h1))) rfl (fun _ T => Zp (Zwn rfl rfl (T.e 4 rfl) (Zdf h1))) rfl (fun _ T => Zq (Zr0 rfl (T.e 5 rfl) (Zdf h1) evc)) rfl (Zm 0 rfl rfl) rfl (fun _ T => Zp (Zwn rfl rfl (T.e 0 rfl) rfl)) rfl ?_; clear T ac; intro ac T
  refine Zg8 T (Zp (Zwn rfl rfl (T.e 1 rfl) rfl)) rfl (fun _ T => Zp (Zwn rfl rfl (T.e 2 rfl) rfl)) rfl (fun _ T => Zp (Zwn rfl rfl (T.e 3 rfl) rfl)) rfl (fun _ T => Zp (Zwn rfl rfl (T.e 4 rfl) rfl)) rfl (fun _ T => Zq (Zr0 rfl (T.e 5 rfl) rfl evc)) rfl (Zm 0 rfl rfl) rfl (fun _ T => Zp (Zwn rfl rfl (T.e 0 rfl) rfl)) rfl (fun _ T => Zp (Zwn rfl rfl (T.e 1 rfl) rfl)) rfl ?_; clear T ac; intro ac T
  refine Zg5 T (Zp (Zwn rfl rfl (T.e 2 rfl) rfl)) rfl (fun _ T => Zp (Zwn rfl rfl (T.e 3 rfl) rfl)) rfl (fun _ T => Zp (Zwn rfl rfl (T.e 4 rfl) rfl)) rfl (fun _ T => Zq (Zr0 rfl (T.e 5 rfl) rfl evc)) rfl (Za 0 rfl rfl) rfl ?_; clear T ac; intro ac T
  refine wpList_nil ?_
  replace T := T.pick [0] rfl
  replace M := M.mask [false, false] rfl
  exact ⟨(T.pick (E' := [(4, .bool false)]) [0] rfl).as (by (try rw [show (decide (b.l ≤ a.l)) = false from (Zdf h1)]); (try rfl)), M.mask [] rfl⟩
 clear T M
 rintro ac wc ⟨T, M⟩
 refine wp_ret ?_
 refine rt_1 T rfl (T.e 0 rfl) ?_
 exact ⟨ret_bool (by try simp only [overP, inP, Bool.and_assoc]), M.below⟩
theorem spA_snoc {l : List Ld} {k : Nat} {x : Ld} {one : Ar} (h : l[k]? = some x) : spA (l.take (k + 1)) one = spA (l.take k) one ++ if inP x.ar one = true then [x] else [] := by
 rw [List.take_add_one, h, spA, List.filter_append]
 congr 1
 by_cases h1 : inP x.ar one = true <;> simp [h1]
theorem spB_snoc {l : List Ld} {k : Nat} {x : Ld} {one two : Ar} (h : l[k]? = some x) : spB (l.take (k + 1)) one two = spB (l.take k) one two ++ if (!inP x.ar one && inP x.ar two) = true then [x] else [] := by
 rw [List.take_add_one, h, spB, List.filter_append]
 congr 1
 by_cases h1 : (!inP x.ar one && inP x.ar two) = true <;> simp [h1]
theorem spOk_snoc {l : List Ld} {k : Nat} {x : Ld} {one two : Ar} (h : l[k]? = some x) : spOk (l.take (k + 1)) one two = (spOk (l.take k) one two && (inP x.ar one || inP x.ar two)) := by
 rw [List.take_add_one, h, spOk, List.all_append]
 simp [spOk]
set_option maxHeartbeats 2000000 in
theorem split_any (L : Option Addr) (n : Nat) (l : List Ld) (one two : Ar) (w : World) (hL : Rd w w.heap.size 5 L l.length (dc l)) (nL : l.length ≤ 1000000)  :
   Calls Tryz.prog 194 #[.slice L l.length n, .agg #[.int .i64 one.l, .int .i64 one.n, .int .i64 one.r, .int .i64 one.f], .agg #[.int .i64 two.l, .int .i64 two.n, .int .i64 two.r, .int .i64 two.f]] w (SplPost l one two w) := by
 obtain ⟨bL, oL, SL⟩ := Sp.old hL
 refine Zpx noEx Tryz.func194 rfl 46 rfl [.slice L l.length n, .agg #[.int .i64 one.l, .int .i64 one.n, .int .i64 one.r, .int .i64 one.f], .agg #[.int .i64 two.l, .int .i64 two.n, .int .i64 two.r, .int .i64 two.f]] rfl rfl (Mem.init w _) ?_
 intro ac wc T M
 refine Zsr ?_
 refine Zl2 ?_
 refine Zob M T rfl rfl rfl rfl (T.e 1 rfl) rfl ?_; clear M T; intro g1 wc ac M T
 refine Zl2 ?_
 refine Zob M T rfl rfl rfl rfl (T.e 3 rfl) rfl ?_; clear M T; intro g2 wc ac M T
 refine Zg3 T (Zq (Zra rfl evc)) rfl (Zc rfl) rfl (Zc rfl) rfl ?_; clear T ac; intro ac T
 replace T := T.pick [1, 2, 3, 4, 5] rfl
 refine Zln ?_
 refine wp_seq ?_
 refine Zsr ?_
 refine Zg3 T (Zq (Zrm rfl (T.e 4 rfl))) rfl (Zl Tryz.underlying203 0 rfl rfl) rfl (fun _ T => Zq (Zrm rfl evc)) rfl ?_; clear T ac; intro ac T
 replace T := T.pick [0, 1, 2, 3, 4, 5, 6] rfl
 refine Zln ?_
 refine wp_block ?_
 refine wp_loop_n (fun mz ac wc => ∃ (k : Nat) (AL BL : List Ld) (A3 : Option Addr) (c3 : Nat) (A4 : Option Addr) (c4 : Nat) (Ia Ib : List (Nat × BA)), mz = l.length - k ∧ (k ≤ l.length) ∧ (AL = spA (l.take k) one) ∧ (BL = spB (l.take k) one two) ∧ (spOk (l.take k) one two = true) ∧ (Sl 207 5 (.slice A3 AL.length c3) AL.length (dc AL) Ia) ∧ (Sl 207 5 (.slice A4 BL.length c4) BL.length (dc BL) Ib) ∧ Tm ac 46 [(4, .pointer (some ⟨g1, 0, none⟩)), (5, .pointer (some ⟨g2, 0, none⟩)), (6, .slice A3 AL.length c3), (7, .slice A4 BL.length c4), (11, .slice L l.length n), (12, .int .i64 ((l.length : Nat) : Int)), (13, .int .i64 (k : Int))] ∧ Mem w noEx wc ((g2, .cells [.int .i64 two.l, .int .i64 two.n, .int .i64 two.r, .int .i64 two.f]) :: (g1, .cells [.int .i64 one.l, .int .i64 one.n, .int .i64 one.r, .int .i64 one.f]) :: (Ia ++ Ib))) ?_ ?_
 ·exact ⟨_, 0, [], [], none, 0, none, 0, [], [], rfl, (Nat.zero_le _), rfl, rfl, rfl, (Sl.nil _ _), (Sl.nil _ _), T.pick [6, 5, 4, 3, 2, 1, 0] rfl, M.mask [true, true] rfl⟩
 clear T M
 rintro mz ac wc ⟨k, AL, BL, A3, c3, A4, c4, Ia, Ib, hmm1, hk, hA, hB, hok, hslA, hslB, T, M⟩
 refine Zsr ?_
 refine lq T (rn_lss rfl (T.e 6 rfl) (T.e 5 rfl)) ?_; clear T ac; intro ac T
 refine Zln ?_
 refine wp_seq ?_
 refine wp_if (T.e 0 rfl) ?_ ?_
 ·intro h1
  obtain ⟨x, hkx, -⟩ := dc_next (l := l) (k := k) (by omega)
  have hAl : AL.length ≤ 1000000 := by rw [hA]; exact Nat.le_trans (List.length_filter_le _ _) (Nat.le_trans (List.length_take_le _ _) (by omega))
  have hBl : BL.length ≤ 1000000 := by rw [hB]; exact Nat.le_trans (List.length_filter_le _ _) (Nat.le_trans (List.length_take_le _ _) (by omega))
  refine Zsk ?_
  refine wp_seq ?_
  refine wp_block ?_
  refine Zsr ?_
  refine Zg2 (v2 := (.agg #[.int .i64 x.l, .int .i64 x.n, .int .i64 x.r, .int .i64 x.f, .int .i64 x.p])) T (Zq (Zri (size := 5) k rfl (T.e 5 rfl) (T.e 7 rfl) ⟨_, Tryz.underlying203, by kernel_rfl⟩ rfl (by omega) (SL.at0 (by omega)))) rfl (fun _ T => Zq (rn_rowat (Sp.dcR SL M (Zz9 _) hkx) rfl (T.e 0 rfl) rfl)) rfl ?_; clear T ac; intro ac T
  refine Zl2 ?_
  refine Zoa M T rfl rfl rfl rfl ?_; clear M T; intro g3 wc ac M T
  refine Zl2 ?_
  refine Zos M T rfl rfl (T.e 0 rfl) (T.e 1 rfl) rfl .head rfl (by simp) rfl (by kernel_rfl) ?_; clear M T; intro wc ac M T
  replace T := T.pick [0, 4, 5, 6, 7, 8, 9, 10] rfl
  refine Zln ?_
  refine wp_block ?_
  refine Zsr ?_
  refine Zg3 (v1 := (.pointer (some ⟨g3, 0, none⟩))) T (Zq (Zrf (off := 0) rfl (T.e 0 rfl) (fun _ _ _ => by kernel_rfl))) rfl (Zr M 0 0 rfl rfl rfl rfl) rfl (Zr M 2 3 rfl rfl rfl rfl) rfl ?_; clear T ac; intro ac T
  refine Zl2 ?_
  refine Zoc (first := []) (cap := []) T rfl rfl rfl rfl evf (.cons (T.e 1 rfl) (.cons (T.e 0 rfl) .nil)) Tryz.func231 rfl rfl ?_
  refine Calls.mono (arwithin_any x.ar one _) ?_
  clear T; rintro e wc ⟨rfl, hb⟩ ac T
  replace M := M.call hb; clear hb
  refine lq T (Zra rfl (T.e 0 rfl)) ?_; clear T ac; intro ac T
  replace T := T.pick [0, 5, 6, 7, 8, 9, 10, 11, 12] rfl
  refine Zln ?_
  refine wp_cond_split (T.e 0 rfl) ?_ ?_
  ·intro h2
   refine wp_region_lit ?_
   refine Zg2 T (Zq (Zrm rfl (T.e 4 rfl))) rfl (Zr M 0 2 rfl rfl rfl rfl) rfl ?_; clear T ac; intro ac T
   refine Zl2 ?_
   refine ow_bs (e := 207) [.int .i64 x.l, .int .i64 x.n, .int .i64 x.r, .int .i64 x.f, .int .i64 x.p] M T rfl rfl rfl rfl (.cons (T.e 0 rfl) .nil) (fun _ => by kernel_rfl) ?_; clear M T; intro g4 wc ac M T
   refine Zl2 ?_
   replace M := Mem.swapU [(g4, .cells [.int .i64 x.l, .int .i64 x.n, .int .i64 x.r, .int .i64 x.f, .int .i64 x.p]), (g3, .cells [.int .i64 x.l, .int .i64 x.n, .int .i64 x.r, .int .i64 x.f, .int .i64 x.p]), (g2, .cells [.int .i64 two.l, .int .i64 two.n, .int .i64 two.r, .int .i64 two.f]), (g1, .cells [.int .i64 one.l, .int .i64 one.n, .int .i64 one.r, .int .i64 one.f])] Ia Ib M
   refine ow_app (((g4, .cells [.int .i64 x.l, .int .i64 x.n, .int .i64 x.r, .int .i64 x.f, .int .i64 x.p]) :: (g3, .cells [.int .i64 x.l, .int .i64 x.n, .int .i64 x.r, .int .i64 x.f, .int .i64 x.p]) :: (g2, .cells [.int .i64 two.l, .int .i64 two.n, .int .i64 two.r, .int .i64 two.f]) :: (g1, .cells [.int .i64 one.l, .int .i64 one.n, .int .i64 one.r, .int .i64 one.f]) :: Ib)) Tryz.info207 hslA M (by first | rfl | simp) T rfl rfl rfl rfl Tryz.underlying203 rfl rfl rfl (by omega) (T.e 2 rfl) (T.e 0 rfl) (Zne (i := 0) rfl) rfl rfl ?_; clear M T; intro ga1 cga1 wc ac M T
   refine l_q (v := (.slice (some ⟨ga1, 0, none⟩) (AL.length + 1) cga1)) (T.pick [0, 1, 2, 3, 4, 5, 6, 7, 9, 10, 11, 12] rfl) rfl rfl rfl rfl (Zra rfl (T.e 0 rfl)) ?_; clear T ac; intro ac T
   refine wpList_nil ?_
   replace T := T.pick [0, 7, 8, 9, 10, 11, 12] rfl
   replace M := M.mask [true, false, false, true, true] rfl
   refine Znb ?_
   refine Znb ?_
   refine nm_then ?_
   refine wp_region_lit ?_
   refine lq T (rn_add rfl (T.e 6 rfl) evc (by omega)) ?_; clear T ac; intro ac T
   refine l_q (v := (.int .i64 ((k : Int) + 1))) (T.pick [0, 1, 2, 3, 4, 5, 6] rfl) rfl rfl rfl rfl (Zrm rfl (T.e 0 rfl)) ?_; clear T ac; intro ac T
   replace T := T.pick [0, 2, 3, 4, 5, 6, 7] rfl
   refine Zln ?_
   have e9 : AL.length + 1 = (AL ++ [x]).length := by simp
   have e8 : ((dc AL) ++ [.int .i64 x.l, .int .i64 x.n, .int .i64 x.r, .int .i64 x.f, .int .i64 x.p]) = dc (AL ++ [x]) := by rw [← dc_snoc]
   rw [e9, e8] at M
   rw [e9] at T
   clear e9 e8
   exact ⟨_, by omega, k + 1, (AL ++ [x]), BL, _, _, _, _, [(ga1, .row 207 5 (AL ++ [x]).length (dc (AL ++ [x])) cga1)], Ib, rfl, (by omega), (by rw [spA_snoc hkx, ← hA, if_pos (by simp_all)]), (by rw [spB_snoc hkx, ← hB, if_neg (by simp_all), List.append_nil]), (by rw [spOk_snoc hkx, hok]; simp_all), (Sl.row _ _ _ _ _ _), hslB, T.pick [2, 3, 1, 4, 5, 6, 0] rfl, (M.permT [1, 2, 0] 3 rfl rfl rfl rfl)⟩
  intro h2
  refine Zsr ?_
  refine Zg3 (v1 := (.pointer (some ⟨g3, 0, none⟩))) T (Zq (Zrf (off := 0) rfl (T.e 1 rfl) (fun _ _ _ => by kernel_rfl))) rfl (Zr M 0 0 rfl rfl rfl rfl) rfl (Zr M 1 5 rfl rfl rfl rfl) rfl ?_; clear T ac; intro ac T
  refine Zl2 ?_
  refine Zoc (first := []) (cap := []) T rfl rfl rfl rfl evf (.cons (T.e 1 rfl) (.cons (T.e 0 rfl) .nil)) Tryz.func231 rfl rfl ?_
  refine Calls.mono (arwithin_any x.ar two _) ?_
  clear T; rintro e wc ⟨rfl, hb⟩ ac T
  replace M := M.call hb; clear hb
  refine lq T (Zra rfl (T.e 0 rfl)) ?_; clear T ac; intro ac T
  replace T := T.pick [0, 6, 7, 8, 9, 10, 11, 12, 13] rfl
  refine Zln ?_
  refine wp_cond_split (T.e 0 rfl) ?_ ?_
  ·intro h3
   refine wp_region_lit ?_
   refine Zg2 T (Zq (Zrm rfl (T.e 5 rfl))) rfl (Zr M 0 2 rfl rfl rfl rfl) rfl ?_; clear T ac; intro ac T
   refine Zl2 ?_
   refine ow_bs (e := 207) [.int .i64 x.l, .int .i64 x.n, .int .i64 x.r, .int .i64 x.f, .int .i64 x.p] M T rfl rfl rfl rfl (.cons (T.e 0 rfl) .nil) (fun _ => by kernel_rfl) ?_; clear M T; intro g5 wc ac M T
   refine Zl2 ?_
   refine ow_app (((g5, .cells [.int .i64 x.l, .int .i64 x.n, .int .i64 x.r, .int .i64 x.f, .int .i64 x.p]) :: (g3, .cells [.int .i64 x.l, .int .i64 x.n, .int .i64 x.r, .int .i64 x.f, .int .i64 x.p]) :: (g2, .cells [.int .i64 two.l, .int .i64 two.n, .int .i64 two.r, .int .i64 two.f]) :: (g1, .cells [.int .i64 one.l, .int .i64 one.n, .int .i64 one.r, .int .i64 one.f]) :: Ia)) Tryz.info207 hslB M (by first | rfl | simp) T rfl rfl rfl rfl Tryz.underlying203 rfl rfl rfl (by omega) (T.e 2 rfl) (T.e 0 rfl) (Zne (i := 0) rfl) rfl rfl ?_; clear M T; intro ga2 cga2 wc ac M T
   refine l_q (v := (.slice (some ⟨ga2, 0, none⟩) (BL.length + 1) cga2)) (T.pick [0, 1, 2, 3, 4, 5, 6, 7, 8, 10, 11, 12] rfl) rfl rfl rfl rfl (Zra rfl (T.e 0 rfl)) ?_; clear T ac; intro ac T
   refine wpList_nil ?_
   replace T := T.pick [0, 7, 8, 9, 10, 11, 12] rfl
   replace M := M.mask [true, false, false, true, true] rfl
   refine Znb ?_
   refine Znb ?_
   refine nm_then ?_
   refine wp_region_lit ?_
   refine lq T (rn_add rfl (T.e 6 rfl) evc (by omega)) ?_; clear T ac; intro ac T
   refine l_q (v := (.int .i64 ((k : Int) + 1))) (T.pick [0, 1, 2, 3, 4, 5, 6] rfl) rfl rfl rfl rfl (Zrm rfl (T.e 0 rfl)) ?_; clear T ac; intro ac T
   replace T := T.pick [0, 2, 3, 4, 5, 6, 7] rfl
   refine Zln ?_
   have e9 : BL.length + 1 = (BL ++ [x]).length := by simp
   have e8 : ((dc BL) ++ [.int .i64 x.l, .int .i64 x.n, .int .i64 x.r, .int .i64 x.f, .int .i64 x.p]) = dc (BL ++ [x]) := by rw [← dc_snoc]
   rw [e9, e8] at M
   rw [e9] at T
   clear e9 e8
   exact ⟨_, by omega, k + 1, AL, (BL ++ [x]), _, _, _, _, Ia, [(ga2, .row 207 5 (BL ++ [x]).length (dc (BL ++ [x])) cga2)], rfl, (by omega), (by rw [spA_snoc hkx, ← hA, if_neg (by simp_all), List.append_nil]), (by rw [spB_snoc hkx, ← hB, if_pos (by simp_all)]), (by rw [spOk_snoc hkx, hok]; simp_all), hslA, (Sl.row _ _ _ _ _ _), T.pick [2, 3, 4, 1, 5, 6, 0] rfl, (Mem.swapU [(g2, .cells [.int .i64 two.l, .int .i64 two.n, .int .i64 two.r, .int .i64 two.f]), (g1, .cells [.int .i64 one.l, .int .i64 one.n, .int .i64 one.r, .int .i64 one.f])] [(ga2, .row 207 5 (BL ++ [x]).length (dc (BL ++ [x])) cga2)] Ia (M.permT [1, 2, 0] 3 rfl rfl rfl rfl))⟩
  intro h3
  refine Zsr ?_
  refine l_q (v := (.slice none 0 0)) (T.pick [0, 1, 2, 3, 5, 6, 7, 8] rfl) rfl rfl rfl rfl (Zra rfl evc) ?_; clear T ac; intro ac T
  refine l_q (v := (.slice none 0 0)) (T.pick [0, 1, 2, 3, 4, 6, 7, 8] rfl) rfl rfl rfl rfl (Zra rfl evc) ?_; clear T ac; intro ac T
  refine lq T (Zra rfl evc) ?_; clear T ac; intro ac T
  refine wpList_nil ?_
  replace T := T.pick [0, 1, 2] rfl
  replace M := M.mask [false, false, false] rfl
  refine Znr ?_
  refine Zrb ?_
  refine Zrb ?_
  refine Zrt ?_
  refine Zrt ?_
  refine Zrb ?_
  refine Zrt ?_
  refine rt_3 T rfl (T.e 2 rfl) (T.e 1 rfl) (T.e 0 rfl) ?_
  have hno := spOk_no (List.mem_of_getElem? hkx) (one := one) (two := two) (by simp_all) (by simp_all)
  have e1 : splA l one two = [] := by simp [splA, hno]
  have e2 : splB l one two = [] := by simp [splB, hno]
  have e3 : splI l one two = false := by simp [splI, hno]
  unfold SplPost
  rw [e1, e2, e3]
  exact ⟨none, 0, [], none, 0, [], rfl, ⟨0, 0, fun _ _ => Sp.nil⟩, ⟨0, 0, fun _ _ => Sp.nil⟩, M.sub (Zz9 _)⟩
 intro h1
 rw [List.take_of_length_le (by omega)] at hA hB hok
 have hAl : AL.length ≤ 1000000 := by rw [hA]; exact Nat.le_trans (List.length_filter_le _ _) (by omega)
 have hBl : BL.length ≤ 1000000 := by rw [hB]; exact Nat.le_trans (List.length_filter_le _ _) (by omega)
 refine wp_exit ?_
 refine Zet ?_
 refine Zet ?_
 refine ex_hit ?_
 refine nm_then ?_
 refine cut_seq (fun ac wc => Tm ac 46 [(6, .slice A3 AL.length c3), (7, .slice A4 BL.length c4), (8, .bool ((decide (0 < ((AL.length : Nat) : Int))) && (decide (0 < ((BL.length : Nat) : Int)))))] ∧ Mem w noEx wc ((Ia ++ Ib))) ?_ ?_
 ·refine wp_region_lit ?_
  refine Zg6 T (Zq (Zrm rfl (T.e 3 rfl))) rfl (Zm 5 rfl rfl) rfl (Zm 5 rfl rfl) rfl (Zl Tryz.underlying203 0 rfl rfl) rfl (fun _ T => Zq (rn_gtr rfl (T.e 0 rfl) evc)) rfl (Zm 0 rfl rfl) rfl ?_; clear T ac; intro ac T
  rcases Bool.eq_false_or_eq_true (decide (0 < ((AL.length : Nat) : Int))) with h4 | h4
  ·replace h4 := of_decide_eq_true h4
   refine Zg4 T (Zw (Zwy rfl rfl (T.e 0 rfl) (Zdt h4)) (Zrm rfl (T.e 10 rfl))) rfl (fun _ T => Zw (Zwy rfl rfl (T.e 1 rfl) (Zdt h4)) (Zrl rfl Tryz.underlying203 (T.e 0 rfl))) rfl (fun _ T => Zw (Zwy rfl rfl (T.e 2 rfl) (Zdt h4)) (rn_gtr rfl (T.e 0 rfl) evc)) rfl (fun _ T => Zq (Zr1 rfl (T.e 3 rfl) (Zdt h4) (T.e 0 rfl))) rfl ?_; clear T ac; intro ac T
   refine l_q (v := (.slice A3 AL.length c3)) (T.pick [0, 1, 2, 3, 4, 5, 6, 7, 8, 9, 10, 11, 12, 14, 15, 16, 17] rfl) rfl rfl rfl rfl (Zra rfl (T.e 9 rfl)) ?_; clear T ac; intro ac T
   refine l_q (v := (.slice A4 BL.length c4)) (T.pick [0, 1, 2, 3, 4, 5, 6, 7, 8, 9, 10, 11, 12, 13, 15, 16, 17] rfl) rfl rfl rfl rfl (Zra rfl (T.e 9 rfl)) ?_; clear T ac; intro ac T
   refine lq T (Zra rfl (T.e 2 rfl)) ?_; clear T ac; intro ac T
   refine wpList_nil ?_
   replace T := T.pick [0, 1, 2] rfl
   replace M := M.mask [false, false] rfl
   exact ⟨(T.pick (E' := [(6, .slice A3 AL.length c3), (7, .slice A4 BL.length c4), (8, .bool (decide (0 < ((BL.length : Nat) : Int))))]) [2, 1, 0] rfl).as (by (try rw [show (decide (0 < ((AL.length : Nat) : Int))) = true from (Zdt h4)]); (try rfl)), M.mask [] rfl⟩
  replace h4 := of_decide_eq_false h4
  refine Zg4 T (Zp (Zwn rfl rfl (T.e 0 rfl) (Zdf h4))) rfl (fun _ T => Zp (Zwn rfl rfl (T.e 1 rfl) (Zdf h4))) rfl (fun _ T => Zp (Zwn rfl rfl (T.e 2 rfl) (Zdf h4))) rfl (fun _ T => Zq (Zr0 rfl (T.e 3 rfl) (Zdf h4) evc)) rfl ?_; clear T ac; intro ac T
  refine l_q (v := (.slice A3 AL.length c3)) (T.pick [0, 1, 2, 3, 4, 5, 6, 7, 8, 9, 10, 11, 12, 14, 15, 16, 17] rfl) rfl rfl rfl rfl (Zra rfl (T.e 9 rfl)) ?_; clear T ac; intro ac T
  refine l_q (v := (.slice A4 BL.length c4)) (T.pick [0, 1, 2, 3, 4, 5, 6, 7, 8, 9, 10, 11, 12, 13, 15, 16, 17] rfl) rfl rfl rfl rfl (Zra rfl (T.e 9 rfl)) ?_; clear T ac; intro ac T
  refine lq T (Zra rfl (T.e 2 rfl)) ?_; clear T ac; intro ac T
  refine wpList_nil ?_
  replace T := T.pick [0, 1, 2] rfl
  replace M := M.mask [false, false] rfl
  exact ⟨(T.pick (E' := [(6, .slice A3 AL.length c3), (7, .slice A4 BL.length c4), (8, .bool false)]) [2, 1, 0] rfl).as (by (try rw [show (decide (0 < ((AL.length : Nat) : Int))) = false from (Zdf h4)]); (try rfl)), M.mask [] rfl⟩
 clear T M
 rintro ac wc ⟨T, M⟩
 refine wp_ret ?_
 refine rt_3 T rfl (T.e 0 rfl) (T.e 1 rfl) (T.e 2 rfl) ?_
 have e1 : splA l one two = AL := by rw [splA, if_pos hok, hA]
 have e2 : splB l one two = BL := by rw [splB, if_pos hok, hB]
 have e3 : splI l one two = (decide (0 < AL.length) && decide (0 < BL.length)) := by rw [splI, hok, hA, hB]; rfl
 unfold SplPost
 rw [e1, e2, e3]
 replace M : Mem w noEx wc (Ia ++ Ib) := M.sub (Zsq [] _)
 refine ⟨A3, c3, Ia, A4, c4, Ib, ?_, hslA.spV (dc_length _), hslB.spV (dc_length _), M⟩
 first | rfl | (congr 4; simp_all)
theorem splA_le {l : List Ld} {one two : Ar} : (splA l one two).length ≤ l.length := by unfold splA; split; exact List.length_filter_le _ _; exact Nat.zero_le _
theorem splB_le {l : List Ld} {one two : Ar} : (splB l one two).length ≤ l.length := by unfold splB; split; exact List.length_filter_le _ _; exact Nat.zero_le _
def SawSpec (gc m : Nat) : Prop := ∀ (l : List Ld) (L : Option Addr) (n : Nat) (a : Ar) (w : World), l.length < m → l.length ≤ 1000000 → ((0 ≤ a.l ∧ a.l ≤ 1000) ∧ (0 ≤ a.n ∧ a.n ≤ 1000) ∧ (0 ≤ a.r ∧ a.r ≤ 1000) ∧ (0 ≤ a.f ∧ a.f ≤ 1000)) → Rd w w.heap.size 5 L l.length (dc l) → Bk w gc #[.func (.func 193) #[] #[.pointer (some ⟨gc, 0, none⟩)]] →
 Calls Tryz.prog 193 #[.slice L l.length n, .agg #[.int .i64 a.l, .int .i64 a.n, .int .i64 a.r, .int .i64 a.f], .pointer (some ⟨gc, 0, none⟩)] w (fun e w' => e = .returned (.bool (sawB l a)) ∧ Below w.heap.size w w')
set_option maxHeartbeats 4000000 in
theorem saw_step (gc m : Nat) (l : List Ld) (L : Option Addr) (n : Nat) (a : Ar) (w : World) (ih : SawSpec gc m) (hm : l.length < m + 1) (nL : l.length ≤ 1000000) (hb : (0 ≤ a.l ∧ a.l ≤ 1000) ∧ (0 ≤ a.n ∧ a.n ≤ 1000) ∧ (0 ≤ a.r ∧ a.r ≤ 1000) ∧ (0 ≤ a.f ∧ a.f ≤ 1000)) (hL : Rd w w.heap.size 5 L l.length (dc l)) (qc : Bk w gc #[.func (.func 193) #[] #[.pointer (some ⟨gc, 0, none⟩)]]) :
   Calls Tryz.prog 193 #[.slice L l.length n, .agg #[.int .i64 a.l, .int .i64 a.n, .int .i64 a.r, .int .i64 a.f], .pointer (some ⟨gc, 0, none⟩)] w fun e w' => e = .returned (.bool (sawB l a)) ∧ Below w.heap.size w w' := by
 obtain ⟨bL, oL, SL⟩ := Sp.old hL
 obtain ⟨⟨hb1, hb2⟩, ⟨hb3, hb4⟩, ⟨hb5, hb6⟩, hb7, hb8⟩ := hb
 refine Zpx noEx Tryz.func193 rfl 113 rfl [.slice L l.length n, .agg #[.int .i64 a.l, .int .i64 a.n, .int .i64 a.r, .int .i64 a.f], .pointer (some ⟨gc, 0, none⟩)] rfl rfl (Mem.init w _) ?_
 intro ac wc T M
 refine Zsr ?_
 refine Zl2 ?_
 refine Zob M T rfl rfl rfl rfl (T.e 1 rfl) rfl ?_; clear M T; intro g1 wc ac M T
 refine lq T (Zra rfl evc) ?_; clear T ac; intro ac T
 replace T := T.pick [1, 2, 4] rfl
 refine Zln ?_
 refine wp_seq ?_
 refine Zsr ?_
 refine Zg3 T (Zq (Zrm rfl (T.e 1 rfl))) rfl (Zl Tryz.underlying203 0 rfl rfl) rfl (fun _ T => Zq (rn_lss rfl (T.e 0 rfl) evc)) rfl ?_; clear T ac; intro ac T
 replace T := T.pick [0, 3, 4, 5] rfl
 refine Zln ?_
 refine wp_if (T.e 0 rfl) ?_ ?_
 ·intro h1
  refine Zsr ?_
  refine lq T (Zra rfl evc) ?_; clear T ac; intro ac T
  refine wpList_nil ?_
  replace T := T.pick [0] rfl
  replace M := M.mask [false] rfl
  refine Znr ?_
  refine Zrt ?_
  refine rt_1 T rfl (T.e 0 rfl) ?_
  exact ⟨ret_bool (saw_few (by omega)).symm, M.below⟩
 intro h1
 refine Zsk ?_
 refine wp_seq ?_
 refine Zsr ?_
 refine Zg4 (v1 := (.pointer (some ⟨g1, 0, none⟩))) T (Zq (Zrf (off := 0) rfl (T.e 1 rfl) (fun _ _ _ => by kernel_rfl))) rfl (Zo M 0 0 rfl rfl rfl rfl) rfl (fun _ T => Zq (rn_add rfl (T.e 0 rfl) evc (by omega))) rfl (Za 0 rfl rfl) rfl ?_; clear T ac; intro ac T
 replace T := T.pick [0, 5, 6, 7] rfl
 refine Zln ?_
 refine wp_block ?_
 refine wp_loop_n (fun mz ac wc => ∃ (x : Int), mz = (1001 - x).toNat ∧ (a.l < x) ∧ (x ≤ max (a.l + 1) a.r) ∧ (∀ z, a.l < z → z < x → ¬ (splI l (a.al z) (a.ar z) = true ∧ sawB (splA l (a.al z) (a.ar z)) (a.al z) = true ∧ sawB (splB l (a.al z) (a.ar z)) (a.ar z) = true)) ∧ Tm ac 113 [(0, .slice L l.length n), (2, .pointer (some ⟨gc, 0, none⟩)), (4, .pointer (some ⟨g1, 0, none⟩)), (6, .int .i64 x)] ∧ Mem w noEx wc [(g1, .cells [.int .i64 a.l, .int .i64 a.n, .int .i64 a.r, .int .i64 a.f])]) ?_ ?_
 ·exact ⟨_, _, rfl, (by omega), (by omega), (fun z h1 h2 => by omega), T.pick [2, 3, 1, 0] rfl, M.mask [true] rfl⟩
 clear T M
 rintro mz ac wc ⟨x, hmm1, hx1, hx2, H, T, M⟩
 refine wp_seq ?_
 refine Zsr ?_
 refine Zg4 (v2 := (.pointer (some ⟨g1, 2, none⟩))) T (Zq (Zrm rfl (T.e 3 rfl))) rfl (Zf 2 3 rfl rfl) rfl (Zo M 0 0 rfl rfl rfl rfl) rfl (fun _ T => Zq (rn_lss rfl (T.e 2 rfl) (T.e 0 rfl))) rfl ?_; clear T ac; intro ac T
 replace T := T.pick [0, 4, 5, 6, 7] rfl
 refine Zln ?_
 refine wp_if (T.e 0 rfl) ?_ ?_
 ·intro h2
  refine Zsk ?_
  refine wp_seq ?_
  refine wp_block ?_
  refine wp_seq ?_
  refine Zgs M (M.mask [true] rfl) 20 (by kernel_rfl) rfl (by kernel_rfl) ?_
  clear M; intro wc M
  refine g_have (fun ac wc => ∃ (gr6_17 gr6_16 : Nat), Tm ac 113 [(8, .pointer (some ⟨gr6_17, 0, none⟩)), (7, .pointer (some ⟨gr6_16, 0, none⟩)), (45, .agg #[.int .i64 x, .int .i64 a.n, .int .i64 a.r, .int .i64 a.f]), (44, .int .i64 a.f), (43, .pointer (some ⟨g1, 3, none⟩)), (42, .int .i64 a.r), (41, .pointer (some ⟨g1, 2, none⟩)), (40, .int .i64 a.n), (39, .pointer (some ⟨g1, 1, none⟩)), (38, .int .i64 x), (37, .agg #[.int .i64 a.l, .int .i64 a.n, .int .i64 x, .int .i64 a.f]), (36, .int .i64 a.f), (35, .pointer (some ⟨g1, 3, none⟩)), (34, .int .i64 x), (33, .int .i64 a.n), (32, .pointer (some ⟨g1, 1, none⟩)), (31, .int .i64 a.l), (30, .pointer (some ⟨g1, 0, none⟩)), (27, .bool (decide (x < a.r))), (0, .slice L l.length n), (2, .pointer (some ⟨gc, 0, none⟩)), (4, .pointer (some ⟨g1, 0, none⟩)), (6, .int .i64 x)] ∧ Mem w noEx wc [(gr6_17, .cells [.int .i64 0, .int .i64 0, .int .i64 0, .int .i64 0]), (gr6_16, .cells [.int .i64 0, .int .i64 0, .int .i64 0, .int .i64 0]), (g1, .cells [.int .i64 a.l, .int .i64 a.n, .int .i64 a.r, .int .i64 a.f])]) (Zpb 20 262143) 2 ?_ ?_
  ·clear T M
   rintro ac wc ⟨gr6_17, gr6_16, T, M⟩
   refine gw 18 524287 ?_; intro K hK
   refine Zos M T rfl rfl (T.e 1 rfl) (T.e 10 rfl) rfl (.tail .head) rfl (by simp) rfl (by kernel_rfl) ?_; clear M T; intro wc ac M T
   refine Zso hK _ _ (M.mask [false, false, true] rfl) ?_; clear hK K
   refine gw 19 1048575 ?_; intro K hK
   refine Zos M T rfl rfl (T.e 0 rfl) (T.e 2 rfl) rfl .head rfl (by simp) rfl (by kernel_rfl) ?_; clear M T; intro wc ac M T
   refine Zso hK _ _ (M.mask [false, false, true] rfl) ?_; clear hK K
   refine Zgd (by kernel_rfl) ?_
   replace T := T.pick [0, 1, 19, 20, 21, 22] rfl
   refine nm_then ?_
   refine Zsr ?_
   refine Zg3 T (Zq (Zrm rfl (T.e 2 rfl))) rfl (Zr M 1 2 rfl rfl rfl rfl) rfl (Zr M 0 2 rfl rfl rfl rfl) rfl ?_; clear T ac; intro ac T
   refine Zl2 ?_
   refine Zoc (first := []) (cap := []) T rfl rfl rfl rfl evf (.cons (T.e 2 rfl) (.cons (T.e 1 rfl) (.cons (T.e 0 rfl) .nil))) Tryz.func194 rfl rfl ?_
   refine Calls.mono (split_any L n l (a.al x) (a.ar x) _ (SL.rd M (Zz9 _)) (by omega)) ?_
   clear T; rintro e wc ⟨Au1, cAu1, IAu1, Bu1, cBu1, IBu1, rfl, SVAu1, SVBu1, N⟩ ac T
   obtain ⟨bAu1, oAu1, SVAu1⟩ := SVAu1
   have SAu1 := SVAu1 w noEx
   obtain ⟨bBu1, oBu1, SVBu1⟩ := SVBu1
   have SBu1 := SVBu1 w noEx
   replace M := (M.join N).swapI
   clear N
   replace M : Mem w noEx wc ((gr6_17, .cells [.int .i64 x, .int .i64 a.n, .int .i64 a.r, .int .i64 a.f]) :: (gr6_16, .cells [.int .i64 a.l, .int .i64 a.n, .int .i64 x, .int .i64 a.f]) :: (g1, .cells [.int .i64 a.l, .int .i64 a.n, .int .i64 a.r, .int .i64 a.f]) :: (IAu1 ++ IBu1)) := M
   have hlAu1 : (splA l (a.al x) (a.ar x)).length ≤ l.length := splA_le
   have hlBu1 : (splB l (a.al x) (a.ar x)).length ≤ l.length := splB_le
   refine Zg7 T (Zq (Zrm rfl (T.e 0 rfl))) rfl (Ze 0 rfl rfl rfl) rfl (Ze 1 rfl rfl rfl) rfl (Ze 2 rfl rfl rfl) rfl (Za 2 rfl rfl) rfl (Za 2 rfl rfl) rfl (Za 2 rfl rfl) rfl ?_; clear T ac; intro ac T
   replace T := T.pick [0, 1, 2, 11, 12, 13, 14, 15, 16] rfl
   refine Zln ?_
   refine cut_seq (fun ac wc => Tm ac 113 [(0, .slice L l.length n), (2, .pointer (some ⟨gc, 0, none⟩)), (4, .pointer (some ⟨g1, 0, none⟩)), (6, .int .i64 x), (66, .bool ((splI l (a.al x) (a.ar x)) && ((sawB (splA l (a.al x) (a.ar x)) (a.al x)) && (sawB (splB l (a.al x) (a.ar x)) (a.ar x)))))] ∧ Mem w noEx wc ((g1, .cells [.int .i64 a.l, .int .i64 a.n, .int .i64 a.r, .int .i64 a.f]) :: (IAu1 ++ IBu1))) ?_ ?_
   ·refine wp_region_lit ?_
    refine Zg2 T (Zq (Zrm rfl (T.e 0 rfl))) rfl (Zm 0 rfl rfl) rfl ?_; clear T ac; intro ac T
    rcases Bool.eq_false_or_eq_true (splI l (a.al x) (a.ar x)) with h3 | h3
    ·refine Zg3 T (Zw (Zwy rfl rfl (T.e 0 rfl) h3) (Zro (Mem.old M qc (fun h => h)) rfl (T.e 8 rfl) rfl)) rfl (fun _ T => Zw (Zwy rfl rfl (T.e 1 rfl) h3) (Zrm rfl (T.e 5 rfl))) rfl (fun _ T => Zw (Zwy rfl rfl (T.e 2 rfl) h3) (Zrr (Mem.nth M 1 rfl) rfl (T.e 8 rfl) rfl)) rfl ?_; clear T ac; intro ac T
     refine l_w (Zwy rfl rfl (T.e 3 rfl) h3) ?_; intro K hK
     refine Zoc (first := []) (cap := [.pointer (some ⟨gc, 0, none⟩)]) T rfl rfl rfl rfl (T.e 2 rfl) (.cons (T.e 1 rfl) (.cons (T.e 0 rfl) .nil)) Tryz.func193 rfl rfl ?_
     refine Calls.mono (ih (splA l (a.al x) (a.ar x)) Au1 cAu1 (a.al x) _ (by have := splI_len (l := l) (one := (a.al x)) (two := (a.ar x)) (by simp_all); omega) (by omega) (by dsimp only [Ar.al, Ar.ar, Ar.cl, Ar.cr]; omega) (SAu1.rd M (.cons _ (.cons _ (.cons _ (subL (List.Sublist.refl _)))))) (M.old qc (fun h => h))) ?_
     clear T; rintro e wc ⟨rfl, hb⟩ ac T
     replace M := M.call hb; clear hb
     refine Zso hK _ _ ?_; clear hK K
     refine Zg2 T (Zq (Zr1 rfl (T.e 4 rfl) h3 (T.e 0 rfl))) rfl (Zm 0 rfl rfl) rfl ?_; clear T ac; intro ac T
     rcases Bool.eq_false_or_eq_true (sawB (splA l (a.al x) (a.ar x)) (a.al x)) with h4 | h4
     ·refine Zg3 T (Zw (Zwy rfl rfl (T.e 0 rfl) h4) (Zro (Mem.old M qc (fun h => h)) rfl (T.e 14 rfl) rfl)) rfl (fun _ T => Zw (Zwy rfl rfl (T.e 1 rfl) h4) (Zrm rfl (T.e 10 rfl))) rfl (fun _ T => Zw (Zwy rfl rfl (T.e 2 rfl) h4) (Zrr (Mem.nth M 0 rfl) rfl (T.e 13 rfl) rfl)) rfl ?_; clear T ac; intro ac T
      refine l_w (Zwy rfl rfl (T.e 3 rfl) h4) ?_; intro K hK
      refine Zoc (first := []) (cap := [.pointer (some ⟨gc, 0, none⟩)]) T rfl rfl rfl rfl (T.e 2 rfl) (.cons (T.e 1 rfl) (.cons (T.e 0 rfl) .nil)) Tryz.func193 rfl rfl ?_
      refine Calls.mono (ih (splB l (a.al x) (a.ar x)) Bu1 cBu1 (a.ar x) _ (by have := splI_len (l := l) (one := (a.al x)) (two := (a.ar x)) (by simp_all); omega) (by omega) (by dsimp only [Ar.al, Ar.ar, Ar.cl, Ar.cr]; omega) (SBu1.rd M (.cons _ (.cons _ (.cons _ (Zsq _ _))))) (M.old qc (fun h => h))) ?_
      clear T; rintro e wc ⟨rfl, hb⟩ ac T
      replace M := M.call hb; clear hb
      refine Zso hK _ _ ?_; clear hK K
      refine lq T (Zr1 rfl (T.e 4 rfl) h4 (T.e 0 rfl)) ?_; clear T ac; intro ac T
      refine wpList_nil ?_
      replace T := T.pick [0, 1, 2, 3, 4, 7, 8, 9, 10, 18, 19, 20, 21] rfl
      replace M := M.mask [false, false, true] rfl
      exact ⟨(T.pick (E' := [(0, .slice L l.length n), (2, .pointer (some ⟨gc, 0, none⟩)), (4, .pointer (some ⟨g1, 0, none⟩)), (6, .int .i64 x), (66, .bool (sawB (splB l (a.al x) (a.ar x)) (a.ar x)))]) [9, 10, 11, 12, 0] rfl).as (by (try rw [show (splI l (a.al x) (a.ar x)) = true from h3]); (try rw [show (sawB (splA l (a.al x) (a.ar x)) (a.al x)) = true from h4]); (try rfl)), M.mask [true] rfl⟩
     refine Zg5 T (Zp (Zwn rfl rfl (T.e 0 rfl) h4)) rfl (fun _ T => Zp (Zwn rfl rfl (T.e 1 rfl) h4)) rfl (fun _ T => Zp (Zwn rfl rfl (T.e 2 rfl) h4)) rfl (fun _ T => Zp (Zwn rfl rfl (T.e 3 rfl) h4)) rfl (fun _ T => Zq (Zr0 rfl (T.e 4 rfl) h4 evc)) rfl ?_; clear T ac; intro ac T
     refine wpList_nil ?_
     replace T := T.pick [0, 1, 2, 3, 4, 7, 8, 9, 10, 18, 19, 20, 21] rfl
     replace M := M.mask [false, false, true] rfl
     exact ⟨(T.pick (E' := [(0, .slice L l.length n), (2, .pointer (some ⟨gc, 0, none⟩)), (4, .pointer (some ⟨g1, 0, none⟩)), (6, .int .i64 x), (66, .bool false)]) [9, 10, 11, 12, 0] rfl).as (by (try rw [show (splI l (a.al x) (a.ar x)) = true from h3]); (try rw [show (sawB (splA l (a.al x) (a.ar x)) (a.al x)) = false from h4]); (try rfl)), M.mask [true] rfl⟩
    refine Zg8 T (Zp (Zwn rfl rfl (T.e 0 rfl) h3)) rfl (fun _ T => Zp (Zwn rfl rfl (T.e 1 rfl) h3)) rfl (fun _ T => Zp (Zwn rfl rfl (T.e 2 rfl) h3)) rfl (fun _ T => Zp (Zwn rfl rfl (T.e 3 rfl) h3)) rfl (fun _ T => Zq (Zr0 rfl (T.e 4 rfl) h3 evc)) rfl (Zm 0 rfl rfl) rfl (fun _ T => Zp (Zwn rfl rfl (T.e 0 rfl) rfl)) rfl (fun _ T => Zp (Zwn rfl rfl (T.e 1 rfl) rfl)) rfl ?_; clear T ac; intro ac T
    refine Zg3 T (Zp (Zwn rfl rfl (T.e 2 rfl) rfl)) rfl (fun _ T => Zp (Zwn rfl rfl (T.e 3 rfl) rfl)) rfl (fun _ T => Zq (Zr0 rfl (T.e 4 rfl) rfl evc)) rfl ?_; clear T ac; intro ac T
    refine wpList_nil ?_
    replace T := T.pick [0, 1, 2, 3, 4, 7, 8, 9, 10, 18, 19, 20, 21] rfl
    replace M := M.mask [false, false, true] rfl
    exact ⟨(T.pick (E' := [(0, .slice L l.length n), (2, .pointer (some ⟨gc, 0, none⟩)), (4, .pointer (some ⟨g1, 0, none⟩)), (6, .int .i64 x), (66, .bool false)]) [9, 10, 11, 12, 0] rfl).as (by (try rw [show (splI l (a.al x) (a.ar x)) = false from h3]); (try rfl)), M.mask [true] rfl⟩
   clear T M
   rintro ac wc ⟨T, M⟩
   refine wp_cond_split (T.e 4 rfl) ?_ ?_
   ·intro h5
    (have h5' := h5; try simp only [Zb1, Zb2, Zb3, Zb4, Zb5, Zb6, Zb7] at h5')
    refine Zsr ?_
    refine lq T (Zra rfl evc) ?_; clear T ac; intro ac T
    refine wpList_nil ?_
    replace T := T.pick [0] rfl
    replace M := M.mask [false] rfl
    refine Znr ?_
    refine Zrb ?_
    refine Zrt ?_
    refine Zrt ?_
    refine Zrb ?_
    refine Zrt ?_
    refine rt_1 T rfl (T.e 0 rfl) ?_
    have e9 : sawB l a = true := saw_along x (by omega) (by omega) (by simp_all) (by simp_all) (by simp_all)
    exact ⟨ret_bool e9.symm, M.below⟩
   intro h5
   (have h5' := h5; try simp only [Zb1, Zb2, Zb3, Zb4, Zb5, Zb6, Zb7] at h5')
   refine wp_skip ?_
   refine Znb ?_
   refine nm_then ?_
   refine wp_region_lit ?_
   refine Zg2 T (Zq (Zrm rfl (T.e 3 rfl))) rfl (fun _ T => Zq (rn_add rfl (T.e 0 rfl) evc (by omega))) rfl ?_; clear T ac; intro ac T
   refine l_q (v := (.int .i64 (x + 1))) (T.pick [0, 1, 2, 3, 4, 6] rfl) rfl rfl rfl rfl (Zra rfl (T.e 0 rfl)) ?_; clear T ac; intro ac T
   replace T := T.pick [0, 3, 4, 5] rfl
   refine Zln ?_
   exact ⟨_, by omega, _, rfl, (by omega), (by omega), (fun z h1 h2 => by rcases Int.lt_or_eq_of_le (show z ≤ x by omega) with h3 | h3; exact H z h1 h3; subst h3; rintro ⟨k1, k2, k3⟩; simp_all), T.pick [1, 2, 3, 0] rfl, ((M.permT [0] 1 rfl rfl rfl rfl).sub (Zsl ([(g1, .cells [.int .i64 a.l, .int .i64 a.n, .int .i64 a.r, .int .i64 a.f])] : List (Nat × BA)) _))⟩
  intro H0
  refine gq (v := (.pointer (some ⟨g1, 0, none⟩))) T 0 1 rfl (fun _ _ _ _ _ => (Zrf (off := 0) rfl (T.e 3 rfl) (fun _ _ _ => by kernel_rfl))) ?_; clear T ac; intro ac T
  refine gq T 1 3 rfl (fun B w' hD hl hS => (Zro (Mem.nth (show Mem w noEx w' _ from hS) 0 rfl) rfl (T.e 0 rfl) rfl)) ?_; clear T ac; intro ac T
  refine gq (v := (.pointer (some ⟨g1, 1, none⟩))) T 2 7 rfl (fun _ _ _ _ _ => (Zrf (off := 1) rfl (T.e 5 rfl) (fun _ _ _ => by kernel_rfl))) ?_; clear T ac; intro ac T
  refine gq T 3 15 rfl (fun B w' hD hl hS => (Zro (Mem.nth (show Mem w noEx w' _ from hS) 0 rfl) rfl (T.e 0 rfl) rfl)) ?_; clear T ac; intro ac T
  refine gq T 4 31 rfl (fun _ _ _ _ _ => (Zrm rfl (T.e 8 rfl))) ?_; clear T ac; intro ac T
  refine gq (v := (.pointer (some ⟨g1, 3, none⟩))) T 5 63 rfl (fun _ _ _ _ _ => (Zrf (off := 3) rfl (T.e 8 rfl) (fun _ _ _ => by kernel_rfl))) ?_; clear T ac; intro ac T
  refine gq T 6 127 rfl (fun B w' hD hl hS => (Zro (Mem.nth (show Mem w noEx w' _ from hS) 0 rfl) rfl (T.e 0 rfl) rfl)) ?_; clear T ac; intro ac T
  refine gq (v := (.agg #[.int .i64 a.l, .int .i64 a.n, .int .i64 x, .int .i64 a.f])) T 7 255 rfl (fun _ _ _ _ _ => (rn_build rfl (.cons (T.e 5 rfl) (.cons (T.e 3 rfl) (.cons (T.e 2 rfl) (.cons (T.e 0 rfl) .nil)))) (fun _ => by kernel_rfl))) ?_; clear T ac; intro ac T
  refine gq T 8 511 rfl (fun _ _ _ _ _ => (Zrm rfl (T.e 12 rfl))) ?_; clear T ac; intro ac T
  refine gq (v := (.pointer (some ⟨g1, 1, none⟩))) T 9 1023 rfl (fun _ _ _ _ _ => (Zrf (off := 1) rfl (T.e 12 rfl) (fun _ _ _ => by kernel_rfl))) ?_; clear T ac; intro ac T
  refine gq T 10 2047 rfl (fun B w' hD hl hS => (Zro (Mem.nth (show Mem w noEx w' _ from hS) 0 rfl) rfl (T.e 0 rfl) rfl)) ?_; clear T ac; intro ac T
  refine gq (v := (.pointer (some ⟨g1, 2, none⟩))) T 11 4095 rfl (fun _ _ _ _ _ => (Zrf (off := 2) rfl (T.e 14 rfl) (fun _ _ _ => by kernel_rfl))) ?_; clear T ac; intro ac T
  refine gq T 12 8191 rfl (fun B w' hD hl hS => (Zro (Mem.nth (show Mem w noEx w' _ from hS) 0 rfl) rfl (T.e 0 rfl) rfl)) ?_; clear T ac; intro ac T
  refine gq (v := (.pointer (some ⟨g1, 3, none⟩))) T 13 16383 rfl (fun _ _ _ _ _ => (Zrf (off := 3) rfl (T.e 16 rfl) (fun _ _ _ => by kernel_rfl))) ?_; clear T ac; intro ac T
  refine gq T 14 32767 rfl (fun B w' hD hl hS => (Zro (Mem.nth (show Mem w noEx w' _ from hS) 0 rfl) rfl (T.e 0 rfl) rfl)) ?_; clear T ac; intro ac T
  refine gq (v := (.agg #[.int .i64 x, .int .i64 a.n, .int .i64 a.r, .int .i64 a.f])) T 15 65535 rfl (fun _ _ _ _ _ => (rn_build rfl (.cons (T.e 6 rfl) (.cons (T.e 4 rfl) (.cons (T.e 2 rfl) (.cons (T.e 0 rfl) .nil)))) (fun _ => by kernel_rfl))) ?_; clear T ac; intro ac T
  refine g_m2 (i := 16) (j := 17) (by kernel_rfl) ?_ ?_
  ·refine gi 131071 ?_; intro K hK
   refine Zoa M T rfl rfl rfl rfl ?_; clear M T; intro gr6_16 wc ac M T
   refine Zso hK _ _ (M.mask [false, true] rfl) ?_; clear hK K
   refine gw 17 262143 ?_; intro K hK
   refine Zoa M T rfl rfl rfl rfl ?_; clear M T; intro gr6_17 wc ac M T
   refine Zso hK _ _ (M.mask [false, false, true] rfl) ?_; clear hK K
   exact H0 _ _ ⟨gr6_17, gr6_16, T, M⟩
  refine gi 196607 ?_; intro K hK
  refine Zoa M T rfl rfl rfl rfl ?_; clear M T; intro gr6_17 wc ac M T
  refine Zso hK _ _ (M.mask [false, true] rfl) ?_; clear hK K
  refine gw 16 262143 ?_; intro K hK
  refine Zoa M T rfl rfl rfl rfl ?_; clear M T; intro gr6_16 wc ac M T
  refine Zso hK _ _ (M.mask [false, false, true] rfl) ?_; clear hK K
  exact H0 _ _ ⟨gr6_17, gr6_16, T.pick [1, 0, 2, 3, 4, 5, 6, 7, 8, 9, 10, 11, 12, 13, 14, 15, 16, 17, 18, 19, 20, 21, 22] rfl, M.perm [1, 0, 2] rfl rfl⟩
 intro h2
 have H9 : ∀ z, a.l < z → z < a.r → ¬ (splI l (a.al z) (a.ar z) = true ∧ sawB (splA l (a.al z) (a.ar z)) (a.al z) = true ∧ sawB (splB l (a.al z) (a.ar z)) (a.ar z) = true) := fun z h1 h2 => H z h1 (by omega)
 refine wp_exit ?_
 refine Zet ?_
 refine Zet ?_
 refine ex_hit ?_
 refine Zns ?_
 refine Zsr ?_
 refine Zg4 (v1 := (.pointer (some ⟨g1, 1, none⟩))) T (Zq (Zrf (off := 1) rfl (T.e 3 rfl) (fun _ _ _ => by kernel_rfl))) rfl (Zo M 0 0 rfl rfl rfl rfl) rfl (fun _ T => Zq (rn_add rfl (T.e 0 rfl) evc (by omega))) rfl (Za 0 rfl rfl) rfl ?_; clear T ac; intro ac T
 replace T := T.pick [0, 5, 6, 7] rfl
 refine Zln ?_
 refine wp_block ?_
 refine wp_loop_n (fun mz ac wc => ∃ (y : Int), mz = (1001 - y).toNat ∧ (a.n < y) ∧ (y ≤ max (a.n + 1) a.f) ∧ (∀ z, a.n < z → z < y → ¬ (splI l (a.cl z) (a.cr z) = true ∧ sawB (splA l (a.cl z) (a.cr z)) (a.cl z) = true ∧ sawB (splB l (a.cl z) (a.cr z)) (a.cr z) = true)) ∧ Tm ac 113 [(0, .slice L l.length n), (2, .pointer (some ⟨gc, 0, none⟩)), (4, .pointer (some ⟨g1, 0, none⟩)), (12, .int .i64 y)] ∧ Mem w noEx wc [(g1, .cells [.int .i64 a.l, .int .i64 a.n, .int .i64 a.r, .int .i64 a.f])]) ?_ ?_
 ·exact ⟨_, _, rfl, (by omega), (by omega), (fun z h1 h2 => by omega), T.pick [1, 2, 3, 0] rfl, M.mask [true] rfl⟩
 clear T M
 rintro mz ac wc ⟨y, hmm2, hy1, hy2, K, T, M⟩
 refine wp_seq ?_
 refine Zsr ?_
 refine Zg4 (v2 := (.pointer (some ⟨g1, 3, none⟩))) T (Zq (Zrm rfl (T.e 3 rfl))) rfl (Zf 3 3 rfl rfl) rfl (Zo M 0 0 rfl rfl rfl rfl) rfl (fun _ T => Zq (rn_lss rfl (T.e 2 rfl) (T.e 0 rfl))) rfl ?_; clear T ac; intro ac T
 replace T := T.pick [0, 4, 5, 6, 7] rfl
 refine Zln ?_
 refine wp_if (T.e 0 rfl) ?_ ?_
 ·intro h6
  refine Zsk ?_
  refine wp_seq ?_
  refine wp_block ?_
  refine wp_seq ?_
  refine Zgs M (M.mask [true] rfl) 20 (by kernel_rfl) rfl (by kernel_rfl) ?_
  clear M; intro wc M
  refine g_have (fun ac wc => ∃ (gr13_17 gr13_16 : Nat), Tm ac 113 [(14, .pointer (some ⟨gr13_17, 0, none⟩)), (13, .pointer (some ⟨gr13_16, 0, none⟩)), (91, .agg #[.int .i64 a.l, .int .i64 y, .int .i64 a.r, .int .i64 a.f]), (90, .int .i64 a.f), (89, .pointer (some ⟨g1, 3, none⟩)), (88, .int .i64 a.r), (87, .pointer (some ⟨g1, 2, none⟩)), (86, .int .i64 y), (85, .int .i64 a.l), (84, .pointer (some ⟨g1, 0, none⟩)), (83, .agg #[.int .i64 a.l, .int .i64 a.n, .int .i64 a.r, .int .i64 y]), (82, .int .i64 y), (81, .int .i64 a.r), (80, .pointer (some ⟨g1, 2, none⟩)), (79, .int .i64 a.n), (78, .pointer (some ⟨g1, 1, none⟩)), (77, .int .i64 a.l), (76, .pointer (some ⟨g1, 0, none⟩)), (73, .bool (decide (y < a.f))), (0, .slice L l.length n), (2, .pointer (some ⟨gc, 0, none⟩)), (4, .pointer (some ⟨g1, 0, none⟩)), (12, .int .i64 y)] ∧ Mem w noEx wc [(gr13_17, .cells [.int .i64 0, .int .i64 0, .int .i64 0, .int .i64 0]), (gr13_16, .cells [.int .i64 0, .int .i64 0, .int .i64 0, .int .i64 0]), (g1, .cells [.int .i64 a.l, .int .i64 a.n, .int .i64 a.r, .int .i64 a.f])]) (Zpb 20 262143) 2 ?_ ?_
  ·clear T M
   rintro ac wc ⟨gr13_17, gr13_16, T, M⟩
   refine gw 18 524287 ?_; intro K hK
   refine Zos M T rfl rfl (T.e 1 rfl) (T.e 10 rfl) rfl (.tail .head) rfl (by simp) rfl (by kernel_rfl) ?_; clear M T; intro wc ac M T
   refine Zso hK _ _ (M.mask [false, false, true] rfl) ?_; clear hK K
   refine gw 19 1048575 ?_; intro K hK
   refine Zos M T rfl rfl (T.e 0 rfl) (T.e 2 rfl) rfl .head rfl (by simp) rfl (by kernel_rfl) ?_; clear M T; intro wc ac M T
   refine Zso hK _ _ (M.mask [false, false, true] rfl) ?_; clear hK K
   refine Zgd (by kernel_rfl) ?_
   replace T := T.pick [0, 1, 19, 20, 21, 22] rfl
   refine nm_then ?_
   refine Zsr ?_
   refine Zg3 T (Zq (Zrm rfl (T.e 2 rfl))) rfl (Zr M 1 2 rfl rfl rfl rfl) rfl (Zr M 0 2 rfl rfl rfl rfl) rfl ?_; clear T ac; intro ac T
   refine Zl2 ?_
   refine Zoc (first := []) (cap := []) T rfl rfl rfl rfl evf (.cons (T.e 2 rfl) (.cons (T.e 1 rfl) (.cons (T.e 0 rfl) .nil))) Tryz.func194 rfl rfl ?_
   refine Calls.mono (split_any L n l (a.cl y) (a.cr y) _ (SL.rd M (Zz9 _)) (by omega)) ?_
   clear T; rintro e wc ⟨Au4, cAu4, IAu4, Bu4, cBu4, IBu4, rfl, SVAu4, SVBu4, N⟩ ac T
   obtain ⟨bAu4, oAu4, SVAu4⟩ := SVAu4
   have SAu4 := SVAu4 w noEx
   obtain ⟨bBu4, oBu4, SVBu4⟩ := SVBu4
   have SBu4 := SVBu4 w noEx
   replace M := (M.join N).swapI
   clear N
   replace M : Mem w noEx wc ((gr13_17, .cells [.int .i64 a.l, .int .i64 y, .int .i64 a.r, .int .i64 a.f]) :: (gr13_16, .cells [.int .i64 a.l, .int .i64 a.n, .int .i64 a.r, .int .i64 y]) :: (g1, .cells [.int .i64 a.l, .int .i64 a.n, .int .i64 a.r, .int .i64 a.f]) :: (IAu4 ++ IBu4)) := M
   have hlAu4 : (splA l (a.cl y) (a.cr y)).length ≤ l.length := splA_le
   have hlBu4 : (splB l (a.cl y) (a.cr y)).length ≤ l.length := splB_le
   refine Zg7 T (Zq (Zrm rfl (T.e 0 rfl))) rfl (Ze 0 rfl rfl rfl) rfl (Ze 1 rfl rfl rfl) rfl (Ze 2 rfl rfl rfl) rfl (Za 2 rfl rfl) rfl (Za 2 rfl rfl) rfl (Za 2 rfl rfl) rfl ?_; clear T ac; intro ac T
   replace T := T.pick [0, 1, 2, 11, 12, 13, 14, 15, 16] rfl
   refine Zln ?_
   refine cut_seq (fun ac wc => Tm ac 113 [(0, .slice L l.length n), (2, .pointer (some ⟨gc, 0, none⟩)), (4, .pointer (some ⟨g1, 0, none⟩)), (12, .int .i64 y), (112, .bool ((splI l (a.cl y) (a.cr y)) && ((sawB (splA l (a.cl y) (a.cr y)) (a.cl y)) && (sawB (splB l (a.cl y) (a.cr y)) (a.cr y)))))] ∧ Mem w noEx wc ((g1, .cells [.int .i64 a.l, .int .i64 a.n, .int .i64 a.r, .int .i64 a.f]) :: (IAu4 ++ IBu4))) ?_ ?_
   ·refine wp_region_lit ?_
    refine Zg2 T (Zq (Zrm rfl (T.e 0 rfl))) rfl (Zm 0 rfl rfl) rfl ?_; clear T ac; intro ac T
    rcases Bool.eq_false_or_eq_true (splI l (a.cl y) (a.cr y)) with h7 | h7
    ·refine Zg3 T (Zw (Zwy rfl rfl (T.e 0 rfl) h7) (Zro (Mem.old M qc (fun h => h)) rfl (T.e 8 rfl) rfl)) rfl (fun _ T => Zw (Zwy rfl rfl (T.e 1 rfl) h7) (Zrm rfl (T.e 5 rfl))) rfl (fun _ T => Zw (Zwy rfl rfl (T.e 2 rfl) h7) (Zrr (Mem.nth M 1 rfl) rfl (T.e 8 rfl) rfl)) rfl ?_; clear T ac; intro ac T
     refine l_w (Zwy rfl rfl (T.e 3 rfl) h7) ?_; intro K hK
     refine Zoc (first := []) (cap := [.pointer (some ⟨gc, 0, none⟩)]) T rfl rfl rfl rfl (T.e 2 rfl) (.cons (T.e 1 rfl) (.cons (T.e 0 rfl) .nil)) Tryz.func193 rfl rfl ?_
     refine Calls.mono (ih (splA l (a.cl y) (a.cr y)) Au4 cAu4 (a.cl y) _ (by have := splI_len (l := l) (one := (a.cl y)) (two := (a.cr y)) (by simp_all); omega) (by omega) (by dsimp only [Ar.al, Ar.ar, Ar.cl, Ar.cr]; omega) (SAu4.rd M (.cons _ (.cons _ (.cons _ (subL (List.Sublist.refl _)))))) (M.old qc (fun h => h))) ?_
     clear T; rintro e wc ⟨rfl, hb⟩ ac T
     replace M := M.call hb; clear hb
     refine Zso hK _ _ ?_; clear hK K
     refine Zg2 T (Zq (Zr1 rfl (T.e 4 rfl) h7 (T.e 0 rfl))) rfl (Zm 0 rfl rfl) rfl ?_; clear T ac; intro ac T
     rcases Bool.eq_false_or_eq_true (sawB (splA l (a.cl y) (a.cr y)) (a.cl y)) with h8 | h8
     ·refine Zg3 T (Zw (Zwy rfl rfl (T.e 0 rfl) h8) (Zro (Mem.old M qc (fun h => h)) rfl (T.e 14 rfl) rfl)) rfl (fun _ T => Zw (Zwy rfl rfl (T.e 1 rfl) h8) (Zrm rfl (T.e 10 rfl))) rfl (fun _ T => Zw (Zwy rfl rfl (T.e 2 rfl) h8) (Zrr (Mem.nth M 0 rfl) rfl (T.e 13 rfl) rfl)) rfl ?_; clear T ac; intro ac T
      refine l_w (Zwy rfl rfl (T.e 3 rfl) h8) ?_; intro K hK
      refine Zoc (first := []) (cap := [.pointer (some ⟨gc, 0, none⟩)]) T rfl rfl rfl rfl (T.e 2 rfl) (.cons (T.e 1 rfl) (.cons (T.e 0 rfl) .nil)) Tryz.func193 rfl rfl ?_
      refine Calls.mono (ih (splB l (a.cl y) (a.cr y)) Bu4 cBu4 (a.cr y) _ (by have := splI_len (l := l) (one := (a.cl y)) (two := (a.cr y)) (by simp_all); omega) (by omega) (by dsimp only [Ar.al, Ar.ar, Ar.cl, Ar.cr]; omega) (SBu4.rd M (.cons _ (.cons _ (.cons _ (Zsq _ _))))) (M.old qc (fun h => h))) ?_
      clear T; rintro e wc ⟨rfl, hb⟩ ac T
      replace M := M.call hb; clear hb
      refine Zso hK _ _ ?_; clear hK K
      refine lq T (Zr1 rfl (T.e 4 rfl) h8 (T.e 0 rfl)) ?_; clear T ac; intro ac T
      refine wpList_nil ?_
      replace T := T.pick [0, 1, 2, 3, 4, 7, 8, 9, 10, 18, 19, 20, 21] rfl
      replace M := M.mask [false, false, true] rfl
      exact ⟨(T.pick (E' := [(0, .slice L l.length n), (2, .pointer (some ⟨gc, 0, none⟩)), (4, .pointer (some ⟨g1, 0, none⟩)), (12, .int .i64 y), (112, .bool (sawB (splB l (a.cl y) (a.cr y)) (a.cr y)))]) [9, 10, 11, 12, 0] rfl).as (by (try rw [show (splI l (a.cl y) (a.cr y)) = true from h7]); (try rw [show (sawB (splA l (a.cl y) (a.cr y)) (a.cl y)) = true from h8]); (try rfl)), M.mask [true] rfl⟩
     refine Zg5 T (Zp (Zwn rfl rfl (T.e 0 rfl) h8)) rfl (fun _ T => Zp (Zwn rfl rfl (T.e 1 rfl) h8)) rfl (fun _ T => Zp (Zwn rfl rfl (T.e 2 rfl) h8)) rfl (fun _ T => Zp (Zwn rfl rfl (T.e 3 rfl) h8)) rfl (fun _ T => Zq (Zr0 rfl (T.e 4 rfl) h8 evc)) rfl ?_; clear T ac; intro ac T
     refine wpList_nil ?_
     replace T := T.pick [0, 1, 2, 3, 4, 7, 8, 9, 10, 18, 19, 20, 21] rfl
     replace M := M.mask [false, false, true] rfl
     exact ⟨(T.pick (E' := [(0, .slice L l.length n), (2, .pointer (some ⟨gc, 0, none⟩)), (4, .pointer (some ⟨g1, 0, none⟩)), (12, .int .i64 y), (112, .bool false)]) [9, 10, 11, 12, 0] rfl).as (by (try rw [show (splI l (a.cl y) (a.cr y)) = true from h7]); (try rw [show (sawB (splA l (a.cl y) (a.cr y)) (a.cl y)) = false from h8]); (try rfl)), M.mask [true] rfl⟩
    refine Zg8 T (Zp (Zwn rfl rfl (T.e 0 rfl) h7)) rfl (fun _ T => Zp (Zwn rfl rfl (T.e 1 rfl) h7)) rfl (fun _ T => Zp (Zwn rfl rfl (T.e 2 rfl) h7)) rfl (fun _ T => Zp (Zwn rfl rfl (T.e 3 rfl) h7)) rfl (fun _ T => Zq (Zr0 rfl (T.e 4 rfl) h7 evc)) rfl (Zm 0 rfl rfl) rfl (fun _ T => Zp (Zwn rfl rfl (T.e 0 rfl) rfl)) rfl (fun _ T => Zp (Zwn rfl rfl (T.e 1 rfl) rfl)) rfl ?_; clear T ac; intro ac T
    refine Zg3 T (Zp (Zwn rfl rfl (T.e 2 rfl) rfl)) rfl (fun _ T => Zp (Zwn rfl rfl (T.e 3 rfl) rfl)) rfl (fun _ T => Zq (Zr0 rfl (T.e 4 rfl) rfl evc)) rfl ?_; clear T ac; intro ac T
    refine wpList_nil ?_
    replace T := T.pick [0, 1, 2, 3, 4, 7, 8, 9, 10, 18, 19, 20, 21] rfl
    replace M := M.mask [false, false, true] rfl
    exact ⟨(T.pick (E' := [(0, .slice L l.length n), (2, .pointer (some ⟨gc, 0, none⟩)), (4, .pointer (some ⟨g1, 0, none⟩)), (12, .int .i64 y), (112, .bool false)]) [9, 10, 11, 12, 0] rfl).as (by (try rw [show (splI l (a.cl y) (a.cr y)) = false from h7]); (try rfl)), M.mask [true] rfl⟩
   clear T M
   rintro ac wc ⟨T, M⟩
   refine wp_cond_split (T.e 4 rfl) ?_ ?_
   ·intro h9
    (have h9' := h9; try simp only [Zb1, Zb2, Zb3, Zb4, Zb5, Zb6, Zb7] at h9')
    refine Zsr ?_
    refine lq T (Zra rfl evc) ?_; clear T ac; intro ac T
    refine wpList_nil ?_
    replace T := T.pick [0] rfl
    replace M := M.mask [false] rfl
    refine Znr ?_
    refine Zrb ?_
    refine Zrt ?_
    refine Zrt ?_
    refine Zrb ?_
    refine Zrt ?_
    refine rt_1 T rfl (T.e 0 rfl) ?_
    have e9 : sawB l a = true := saw_across y (by omega) (by omega) (by simp_all) (by simp_all) (by simp_all)
    exact ⟨ret_bool e9.symm, M.below⟩
   intro h9
   (have h9' := h9; try simp only [Zb1, Zb2, Zb3, Zb4, Zb5, Zb6, Zb7] at h9')
   refine wp_skip ?_
   refine Znb ?_
   refine nm_then ?_
   refine wp_region_lit ?_
   refine Zg2 T (Zq (Zrm rfl (T.e 3 rfl))) rfl (fun _ T => Zq (rn_add rfl (T.e 0 rfl) evc (by omega))) rfl ?_; clear T ac; intro ac T
   refine l_q (v := (.int .i64 (y + 1))) (T.pick [0, 1, 2, 3, 4, 6] rfl) rfl rfl rfl rfl (Zra rfl (T.e 0 rfl)) ?_; clear T ac; intro ac T
   replace T := T.pick [0, 3, 4, 5] rfl
   refine Zln ?_
   exact ⟨_, by omega, _, rfl, (by omega), (by omega), (fun z h1 h2 => by rcases Int.lt_or_eq_of_le (show z ≤ y by omega) with h3 | h3; exact K z h1 h3; subst h3; rintro ⟨k1, k2, k3⟩; simp_all), T.pick [1, 2, 3, 0] rfl, ((M.permT [0] 1 rfl rfl rfl rfl).sub (Zsl ([(g1, .cells [.int .i64 a.l, .int .i64 a.n, .int .i64 a.r, .int .i64 a.f])] : List (Nat × BA)) _))⟩
  intro H0
  refine gq (v := (.pointer (some ⟨g1, 0, none⟩))) T 0 1 rfl (fun _ _ _ _ _ => (Zrf (off := 0) rfl (T.e 3 rfl) (fun _ _ _ => by kernel_rfl))) ?_; clear T ac; intro ac T
  refine gq T 1 3 rfl (fun B w' hD hl hS => (Zro (Mem.nth (show Mem w noEx w' _ from hS) 0 rfl) rfl (T.e 0 rfl) rfl)) ?_; clear T ac; intro ac T
  refine gq (v := (.pointer (some ⟨g1, 1, none⟩))) T 2 7 rfl (fun _ _ _ _ _ => (Zrf (off := 1) rfl (T.e 5 rfl) (fun _ _ _ => by kernel_rfl))) ?_; clear T ac; intro ac T
  refine gq T 3 15 rfl (fun B w' hD hl hS => (Zro (Mem.nth (show Mem w noEx w' _ from hS) 0 rfl) rfl (T.e 0 rfl) rfl)) ?_; clear T ac; intro ac T
  refine gq (v := (.pointer (some ⟨g1, 2, none⟩))) T 4 31 rfl (fun _ _ _ _ _ => (Zrf (off := 2) rfl (T.e 7 rfl) (fun _ _ _ => by kernel_rfl))) ?_; clear T ac; intro ac T
  refine gq T 5 63 rfl (fun B w' hD hl hS => (Zro (Mem.nth (show Mem w noEx w' _ from hS) 0 rfl) rfl (T.e 0 rfl) rfl)) ?_; clear T ac; intro ac T
  refine gq T 6 127 rfl (fun _ _ _ _ _ => (Zrm rfl (T.e 10 rfl))) ?_; clear T ac; intro ac T
  refine gq (v := (.agg #[.int .i64 a.l, .int .i64 a.n, .int .i64 a.r, .int .i64 y])) T 7 255 rfl (fun _ _ _ _ _ => (rn_build rfl (.cons (T.e 5 rfl) (.cons (T.e 3 rfl) (.cons (T.e 1 rfl) (.cons (T.e 0 rfl) .nil)))) (fun _ => by kernel_rfl))) ?_; clear T ac; intro ac T
  refine gq (v := (.pointer (some ⟨g1, 0, none⟩))) T 8 511 rfl (fun _ _ _ _ _ => (Zrf (off := 0) rfl (T.e 11 rfl) (fun _ _ _ => by kernel_rfl))) ?_; clear T ac; intro ac T
  refine gq T 9 1023 rfl (fun B w' hD hl hS => (Zro (Mem.nth (show Mem w noEx w' _ from hS) 0 rfl) rfl (T.e 0 rfl) rfl)) ?_; clear T ac; intro ac T
  refine gq T 10 2047 rfl (fun _ _ _ _ _ => (Zrm rfl (T.e 14 rfl))) ?_; clear T ac; intro ac T
  refine gq (v := (.pointer (some ⟨g1, 2, none⟩))) T 11 4095 rfl (fun _ _ _ _ _ => (Zrf (off := 2) rfl (T.e 14 rfl) (fun _ _ _ => by kernel_rfl))) ?_; clear T ac; intro ac T
  refine gq T 12 8191 rfl (fun B w' hD hl hS => (Zro (Mem.nth (show Mem w noEx w' _ from hS) 0 rfl) rfl (T.e 0 rfl) rfl)) ?_; clear T ac; intro ac T
  refine gq (v := (.pointer (some ⟨g1, 3, none⟩))) T 13 16383 rfl (fun _ _ _ _ _ => (Zrf (off := 3) rfl (T.e 16 rfl) (fun _ _ _ => by kernel_rfl))) ?_; clear T ac; intro ac T
  refine gq T 14 32767 rfl (fun B w' hD hl hS => (Zro (Mem.nth (show Mem w noEx w' _ from hS) 0 rfl) rfl (T.e 0 rfl) rfl)) ?_; clear T ac; intro ac T
  refine gq (v := (.agg #[.int .i64 a.l, .int .i64 y, .int .i64 a.r, .int .i64 a.f])) T 15 65535 rfl (fun _ _ _ _ _ => (rn_build rfl (.cons (T.e 5 rfl) (.cons (T.e 4 rfl) (.cons (T.e 2 rfl) (.cons (T.e 0 rfl) .nil)))) (fun _ => by kernel_rfl))) ?_; clear T ac; intro ac T
  refine g_m2 (i := 16) (j := 17) (by kernel_rfl) ?_ ?_
  ·refine gi 131071 ?_; intro K hK
   refine Zoa M T rfl rfl rfl rfl ?_; clear M T; intro gr13_16 wc ac M T
   refine Zso hK _ _ (M.mask [false, true] rfl) ?_; clear hK K
   refine gw 17 262143 ?_; intro K hK
   refine Zoa M T rfl rfl rfl rfl ?_; clear M T; intro gr13_17 wc ac M T
   refine Zso hK _ _ (M.mask [false, false, true] rfl) ?_; clear hK K
   exact H0 _ _ ⟨gr13_17, gr13_16, T, M⟩
  refine gi 196607 ?_; intro K hK
  refine Zoa M T rfl rfl rfl rfl ?_; clear M T; intro gr13_17 wc ac M T
  refine Zso hK _ _ (M.mask [false, true] rfl) ?_; clear hK K
  refine gw 16 262143 ?_; intro K hK
  refine Zoa M T rfl rfl rfl rfl ?_; clear M T; intro gr13_16 wc ac M T
  refine Zso hK _ _ (M.mask [false, false, true] rfl) ?_; clear hK K
  exact H0 _ _ ⟨gr13_17, gr13_16, T.pick [1, 0, 2, 3, 4, 5, 6, 7, 8, 9, 10, 11, 12, 13, 14, 15, 16, 17, 18, 19, 20, 21, 22] rfl, M.perm [1, 0, 2] rfl rfl⟩
 intro h6
 have K9 : ∀ z, a.n < z → z < a.f → ¬ (splI l (a.cl z) (a.cr z) = true ∧ sawB (splA l (a.cl z) (a.cr z)) (a.cl z) = true ∧ sawB (splB l (a.cl z) (a.cr z)) (a.cr z) = true) := fun z h1 h2 => K z h1 (by omega)
 refine wp_exit ?_
 refine Zet ?_
 refine Zet ?_
 refine ex_hit ?_
 refine nm_then ?_
 refine Zsr ?_
 refine lq T (Zra rfl evc) ?_; clear T ac; intro ac T
 refine wpList_nil ?_
 replace T := T.pick [0] rfl
 replace M := M.mask [false] rfl
 refine Znr ?_
 refine rt_1 T rfl (T.e 0 rfl) ?_
 have e9 : sawB l a = false := saw_not (by omega) H9 K9
 exact ⟨ret_bool e9.symm, M.below⟩
theorem saw_any (gc : Nat) : ∀ m : Nat, SawSpec gc m
 | 0 => fun l L n a w h => by omega
 | m + 1 => fun l L n a w h nL hb hL qc => saw_step gc m l L n a w (saw_any gc m) h nL hb hL qc
theorem sawn_any (l : List Ld) (L : Option Addr) (n : Nat) (a : Ar) (w : World) (nL : l.length ≤ 1000000) (hb : (0 ≤ a.l ∧ a.l ≤ 1000) ∧ (0 ≤ a.n ∧ a.n ≤ 1000) ∧ (0 ≤ a.r ∧ a.r ≤ 1000) ∧ (0 ≤ a.f ∧ a.f ≤ 1000)) (hL : Rd w w.heap.size 5 L l.length (dc l)) :
  Calls Tryz.prog 135 #[.slice L l.length n, .agg #[.int .i64 a.l, .int .i64 a.n, .int .i64 a.r, .int .i64 a.f]] w fun e w' => e = .returned (.bool (sawB l a)) ∧ Below w.heap.size w w' := by
 obtain ⟨bL, oL, SL⟩ := Sp.old hL
 refine Zpx noEx Tryz.func135 rfl 11 rfl [.slice L l.length n, .agg #[.int .i64 a.l, .int .i64 a.n, .int .i64 a.r, .int .i64 a.f]] rfl rfl (Mem.init w _) ?_
 intro ac wc T M
 refine Zsr ?_
 refine Zl2 ?_
 refine Zob M T rfl rfl rfl rfl (T.e 1 rfl) rfl ?_; clear M T; intro g1 wc ac M T
 refine lq T (Zra rfl evc) ?_; clear T ac; intro ac T
 replace T := T.pick [1, 2] rfl
 refine Zln ?_
 refine Zsr ?_
 refine Zl2 ?_
 refine Zoa M T rfl rfl rfl rfl ?_; clear M T; intro g2 wc ac M T
 refine Zln ?_
 refine Zsr ?_
 refine lq (v := (.func (.func 193) #[] #[.pointer (some ⟨g2, 0, none⟩)])) T (rn_makeFunc rfl .nil (.cons (T.e 0 rfl) .nil)) ?_; clear T ac; intro ac T
 refine Zl2 ?_
 refine Zos M T rfl rfl (T.e 1 rfl) (T.e 0 rfl) rfl .head rfl (by simp) rfl (by kernel_rfl) ?_; clear M T; intro wc ac M T
 replace T := T.pick [1, 2, 3] rfl
 refine Zln ?_
 refine Zsr ?_
 refine Zg3 T (Zq (Zro (Mem.nth M 0 rfl) rfl (T.e 0 rfl) rfl)) rfl (Zm 3 rfl rfl) rfl (Zr M 1 3 rfl rfl rfl rfl) rfl ?_; clear T ac; intro ac T
 refine Zl2 ?_
 refine Zoc (first := []) (cap := [.pointer (some ⟨g2, 0, none⟩)]) T rfl rfl rfl rfl (T.e 2 rfl) (.cons (T.e 1 rfl) (.cons (T.e 0 rfl) .nil)) Tryz.func193 rfl rfl ?_
 refine Calls.mono (saw_any g2 (l.length + 1) l L n a _ (by omega) nL hb (SL.rd M (Zz9 _)) (M.nth 0 rfl)) ?_
 clear T; rintro e wc ⟨rfl, hb⟩ ac T
 replace M := M.call hb; clear hb
 refine lq T (Zra rfl (T.e 0 rfl)) ?_; clear T ac; intro ac T
 refine wpList_nil ?_
 replace T := T.pick [0] rfl
 replace M := M.mask [false, false] rfl
 refine Znr ?_
 refine rt_1 T rfl (T.e 0 rfl) ?_
 exact ⟨rfl, M.below⟩
theorem eqT202 {x y : Operand} {a0 a1 a2 a3 b0 b1 b2 b3 : Int} {w : World} : (do eqGuard .eql 202 x y (.agg #[.int .i64 a0, .int .i64 a1, .int .i64 a2, .int .i64 a3]) (.agg #[.int .i64 b0, .int .i64 b1, .int .i64 b2, .int .i64 b3]); binOp .eql 202 (.agg #[.int .i64 a0, .int .i64 a1, .int .i64 a2, .int .i64 a3]) (.agg #[.int .i64 b0, .int .i64 b1, .int .i64 b2, .int .i64 b3]) : Sem Value).run Tryz.prog w = .ok (.bool ((decide (a0 = b0) && (decide (a1 = b1) && (decide (a2 = b2) && decide (a3 = b3)))))) w := by
 go_simp
 (repeat' split) <;> simp_all
def cutsE (s : Sk) (g : List Int) (n : Nat) : Int := if lstE s g ≠ 0 then lstE s g else if n < g.length then 7 else if g.length < n then 6 else 0
noncomputable def cutsV (s : Sk) (g : List Int) (sp : List Spt) (su : Bool) : Bool := if cutsE s g sp.length = 0 then cutsB (cutA s su) (cutC s su) s.lo s.wi (gP s g) sp else false
theorem plP_step {a c lo wi : Int} {all : List Ld} {p : Pt} {q : Spt} {L : List Pt} {S : List Spt} : plP a c lo wi all (p :: L) (q :: S) = if badP a c lo wi p q = true then none else if hitP all (ldOf a c p q all.length) = true then none else plP a c lo wi (all ++ [ldOf a c p q all.length]) L S := rfl
theorem hit_snoc {all : List Ld} {j : Nat} {z o : Ld} (h : all[j]? = some z) : hitP (all.take (j + 1)) o = (hitP (all.take j) o || (decide (z.ar = o.ar) || overP z.ar o.ar)) := by
 rw [List.take_add_one, h, hitP, List.any_append]
 simp [hitP]
theorem hit_of {all : List Ld} {z o : Ld} (h : z ∈ all) (h2 : (decide (z.ar = o.ar) || overP z.ar o.ar) = true) : hitP all o = true := List.any_eq_true.2 ⟨z, h, h2⟩
theorem bad_eq {a c lo wi : Int} {p : Pt} {q : Spt} : badP a c lo wi p q = (bif q.t then (p.gr || ((!(withinB q.x 0 (lo - (sizeL a c p q.t)))) || (!(withinB q.y 0 (wi - (sizeW a c p q.t)))))) else ((!(withinB q.x 0 (lo - (sizeL a c p q.t)))) || (!(withinB q.y 0 (wi - (sizeW a c p q.t)))))) := by
 unfold badP withinB
 cases q.t <;> simp [Bool.or_assoc]
theorem bad_not {a c lo wi : Int} {p : Pt} {q : Spt} (h : badP a c lo wi p q = false) : (0 ≤ q.x ∧ q.x ≤ lo - sizeL a c p q.t) ∧ 0 ≤ q.y ∧ q.y ≤ wi - sizeW a c p q.t := by
 simp only [badP, Bool.or_eq_false_iff, Bool.not_eq_false', Bool.and_eq_true, decide_eq_true_eq] at h
 exact ⟨h.1.2, h.2⟩
theorem hit_eq {z o : Ld} : (decide (z.ar = o.ar) || overP z.ar o.ar) = ((decide (z.l = o.l) && (decide (z.n = o.n) && (decide (z.r = o.r) && decide (z.f = o.f)))) || overP z.ar o.ar) := by
 congr 1
 rw [Bool.eq_iff_iff]
 simp only [Ld.ar, Ar.mk.injEq, Bool.and_eq_true, decide_eq_true_eq]
set_option maxHeartbeats 4000000 in
theorem Cuts_any (s : Sk) (A : Option Addr) (d : Nat) (G : Option Addr) (n : Nat) (g : List Int) (P : Option Addr) (np : Nat) (sp : List Spt) (su : Bool)  (w : World) (hA : Rd w w.heap.size 4 A s.ps.length (pc s.ps)) (hG : Rd w w.heap.size 1 G g.length (ic g)) (nA : s.ps.length ≤ 1000000) (nG : g.length ≤ 1000000) (hgn : g.length ≤ n) (hP : Rd w w.heap.size 3 P sp.length (tc sp)) (nP : sp.length ≤ 1000000) :
   Calls Tryz.prog 61 #[.agg #[.int .i64 s.lo, .int .i64 s.wi, .int .i64 s.a0, .int .i64 s.a1, .int .i64 s.c0, .int .i64 s.c1, .slice A s.ps.length d], .slice G g.length n, .slice P sp.length np, .bool su] w fun e w' => e = .returned (.tuple #[.bool (cutsV s g sp su), .int .i64 (cutsE s g sp.length)]) ∧ Below w.heap.size w w' := by
 obtain ⟨bA, oA, SA⟩ := Sp.old hA
 obtain ⟨bG, oG, SG⟩ := Sp.old hG
 obtain ⟨bP, oP, SP⟩ := Sp.old hP
 refine Zpx noEx Tryz.func61 rfl 147 rfl [.agg #[.int .i64 s.lo, .int .i64 s.wi, .int .i64 s.a0, .int .i64 s.a1, .int .i64 s.c0, .int .i64 s.c1, .slice A s.ps.length d], .slice G g.length n, .slice P sp.length np, .bool su] rfl rfl (Mem.init w _) ?_
 intro ac wc T M
 refine Zsr ?_
 refine Zl2 ?_
 refine Zob M T rfl rfl rfl rfl (T.e 0 rfl) rfl ?_; clear M T; intro g1 wc ac M T
 refine Zg2 T (Zq (Zra rfl evc)) rfl (Zc rfl) rfl ?_; clear T ac; intro ac T
 replace T := T.pick [2, 4, 5, 6] rfl
 refine Zln ?_
 refine Zsr ?_
 refine Zg2 T (Zq (Zrr (Mem.nth M 0 rfl) rfl (T.e 0 rfl) rfl)) rfl (Zm 2 rfl rfl) rfl ?_; clear T ac; intro ac T
 refine Zl2 ?_
 refine Zoc (first := []) (cap := []) T rfl rfl rfl rfl evf (.cons (T.e 1 rfl) (.cons (T.e 0 rfl) .nil)) Tryz.func121 rfl rfl ?_
 refine Calls.mono (listed_any s A d G n g _ (SA.rd M (Zz9 _)) (SG.rd M (Zz9 _)) (by omega) (by omega) (by omega)) ?_
 clear T; rintro e wc ⟨B, e, IB, rfl, hcpB, SVB, N⟩ ac T
 obtain ⟨bB, oB, SVB⟩ := SVB
 obtain ⟨L, hL9⟩ : ∃ q, q = lstP s g := ⟨_, rfl⟩
 rw [← hL9] at SVB hcpB
 have SB := SVB w noEx
 replace M := (M.join N).swapI
 clear N
 replace M : Mem w noEx wc ((g1, .cells [.int .i64 s.lo, .int .i64 s.wi, .int .i64 s.a0, .int .i64 s.a1, .int .i64 s.c0, .int .i64 s.c1, .slice A s.ps.length d]) :: IB) := M
 rw [← hL9] at T
 refine Zg5 T (Zq (Zrm rfl (T.e 0 rfl))) rfl (Ze 0 rfl rfl rfl) rfl (Ze 1 rfl rfl rfl) rfl (Za 1 rfl rfl) rfl (Za 1 rfl rfl) rfl ?_; clear T ac; intro ac T
 replace T := T.pick [0, 1, 8, 9, 10, 11] rfl
 refine Zln ?_
 refine wp_seq ?_
 refine wp_block ?_
 refine Zsr ?_
 refine Zg3 T (Zq (Zrm rfl (T.e 0 rfl))) rfl (fun _ T => Zq (rn_neq rfl (T.e 0 rfl) evc)) rfl (Za 0 rfl rfl) rfl ?_; clear T ac; intro ac T
 replace T := T.pick [0, 3, 4, 5, 6, 7, 8] rfl
 refine Zln ?_
 refine wp_ifn (T.e 0 rfl) ?_ ?_
 ·intro h1
  refine Zsr ?_
  refine Zg3 T (Zq (Zrm rfl (T.e 1 rfl))) rfl (Zc rfl) rfl (Za 1 rfl rfl) rfl ?_; clear T ac; intro ac T
  refine wpList_nil ?_
  replace T := T.pick [0, 1] rfl
  replace M := M.mask [false] rfl
  refine Znr ?_
  refine Zrb ?_
  refine Zrt ?_
  refine rt_2 T rfl (T.e 1 rfl) (T.e 0 rfl) ?_
  have e9 : cutsE s g sp.length = lstE s g := if_pos (by omega)
  have e8 : cutsV s g sp su = false := if_neg (by omega)
  rw [e9, e8]
  exact ⟨rfl, M.below⟩
 intro h1
 refine Zsr ?_
 refine Zg6 T (Zq (Zrm rfl (T.e 5 rfl))) rfl (Zl Tryz.underlying110 0 rfl rfl) rfl (Zm 6 rfl rfl) rfl (Zl Tryz.underlying31 0 rfl rfl) rfl (fun _ T => Zq (rn_lss rfl (T.e 2 rfl) (T.e 0 rfl))) rfl (Za 0 rfl rfl) rfl ?_; clear T ac; intro ac T
 replace T := T.pick [0, 8, 9, 10, 11, 12] rfl
 refine Zln ?_
 refine wp_if (T.e 0 rfl) ?_ ?_
 ·intro h2
  refine Zsr ?_
  refine Zg2 T (Zq (Zra rfl evc)) rfl (Zc rfl) rfl ?_; clear T ac; intro ac T
  refine wpList_nil ?_
  replace T := T.pick [0, 1] rfl
  replace M := M.mask [false] rfl
  refine Znr ?_
  refine Zrb ?_
  refine Zrt ?_
  refine rt_2 T rfl (T.e 1 rfl) (T.e 0 rfl) ?_
  have e9 : cutsE s g sp.length = 7 := (if_neg (by omega)).trans (if_pos (by omega))
  have e8 : cutsV s g sp su = false := if_neg (by omega)
  rw [e9, e8]
  exact ⟨rfl, M.below⟩
 intro h2
 refine Zsr ?_
 refine Zg6 T (Zq (Zrm rfl (T.e 4 rfl))) rfl (Zl Tryz.underlying110 0 rfl rfl) rfl (Zm 5 rfl rfl) rfl (Zl Tryz.underlying31 0 rfl rfl) rfl (fun _ T => Zq (rn_gtr rfl (T.e 2 rfl) (T.e 0 rfl))) rfl (Za 0 rfl rfl) rfl ?_; clear T ac; intro ac T
 replace T := T.pick [0, 7, 8, 10, 11] rfl
 refine Zln ?_
 refine wp_if (T.e 0 rfl) ?_ ?_
 ·intro h3
  refine Zsr ?_
  refine Zg2 T (Zq (Zra rfl evc)) rfl (Zc rfl) rfl ?_; clear T ac; intro ac T
  refine wpList_nil ?_
  replace T := T.pick [0, 1] rfl
  replace M := M.mask [false] rfl
  refine Znr ?_
  refine Zrb ?_
  refine Zrt ?_
  refine rt_2 T rfl (T.e 1 rfl) (T.e 0 rfl) ?_
  have e9 : cutsE s g sp.length = 6 := (if_neg (by omega)).trans ((if_neg (by omega)).trans (if_pos (by omega)))
  have e8 : cutsV s g sp su = false := if_neg (by omega)
  rw [e9, e8]
  exact ⟨rfl, M.below⟩
 intro h3
 refine wp_skip ?_
 refine Znb ?_
 refine nm_then ?_
 refine Zsr ?_
 refine Zg2 T (Zq (Zrr (Mem.nth M 0 rfl) rfl (T.e 2 rfl) rfl)) rfl (Zm 5 rfl rfl) rfl ?_; clear T ac; intro ac T
 refine Zl2 ?_
 have hl9 : lstE s g = 0 := by omega
 obtain ⟨hp9, hg, h5⟩ := lstP_good hl9
 have hsg := (lstE_iff.1 hl9).1
 rw [hp9] at hL9
 rw [← hL9] at hg h5
 obtain ⟨hb1, hb2, -, -, -, -⟩ := hsg
 have hsg := (lstE_iff.1 hl9).1
 have hlg : L.length = g.length := by rw [hL9]; simp [gP]
 refine Zoc (first := []) (cap := []) T rfl rfl rfl rfl evf (.cons (T.e 1 rfl) (.cons (T.e 0 rfl) .nil)) Tryz.func123 rfl rfl ?_
 refine Calls.mono (cut_any s A d su _) ?_
 clear T; rintro e wc ⟨gau2, gcu2, rfl, N⟩ ac T
 obtain ⟨a, hae⟩ : ∃ q, q = cutA s su := ⟨_, rfl⟩
 obtain ⟨c, hce⟩ : ∃ q, q = cutC s su := ⟨_, rfl⟩
 rw [← hae, ← hce] at N
 obtain ⟨ha, hc⟩ := cut_bd hsg su
 rw [← hae] at ha
 rw [← hce] at hc
 replace M := M.join N; clear N
 replace M := M.mask [true, true, true] rfl
 refine Zl2 ?_
 refine Zoa M T rfl rfl rfl rfl ?_; clear M T; intro g2 wc ac M T
 refine Zl2 ?_
 refine Zos M T rfl rfl (T.e 0 rfl) (T.e 1 rfl) rfl .head rfl (by simp) rfl (by kernel_rfl) ?_; clear M T; intro wc ac M T
 replace T := T.pick [0, 5, 6, 7] rfl
 refine Zln ?_
 refine Zsr ?_
 refine Zg5 (v1 := (.pointer (some ⟨g1, 0, none⟩))) (v3 := (.pointer (some ⟨g1, 1, none⟩))) (v5 := (.agg #[.int .i64 0, .int .i64 0, .int .i64 s.lo, .int .i64 s.wi])) T (Zq (Zrf (off := 0) rfl (T.e 2 rfl) (fun _ _ _ => by kernel_rfl))) rfl (Zo M 3 0 rfl rfl rfl rfl) rfl (Zf 1 4 rfl rfl) rfl (Zo M 3 0 rfl rfl rfl rfl) rfl (fun _ T => Zq (rn_build rfl (.cons evc (.cons evc (.cons (T.e 2 rfl) (.cons (T.e 0 rfl) .nil)))) (fun _ => by kernel_rfl))) rfl ?_; clear T ac; intro ac T
 refine Zl2 ?_
 refine Zoa M T rfl rfl rfl rfl ?_; clear M T; intro g3 wc ac M T
 refine Zl2 ?_
 refine Zos M T rfl rfl (T.e 0 rfl) (T.e 1 rfl) rfl .head rfl (by simp) rfl (by kernel_rfl) ?_; clear M T; intro wc ac M T
 replace T := T.pick [0, 6, 7, 8, 9] rfl
 refine Zln ?_
 refine Zsr ?_
 refine lq T (Zra rfl evc) ?_; clear T ac; intro ac T
 refine Zln ?_
 refine wp_seq ?_
 refine Zsr ?_
 refine Zg3 T (Zq (Zrm rfl (T.e 3 rfl))) rfl (Zl Tryz.underlying47 0 rfl rfl) rfl (fun _ T => Zq (Zrm rfl evc)) rfl ?_; clear T ac; intro ac T
 replace T := T.pick [0, 1, 2, 3, 4, 5, 7, 8] rfl
 refine Zln ?_
 refine wp_block ?_
 refine wp_loop_n (fun mz ac wc => ∃ (k : Nat) (OL : List Ld) (A3 : Option Addr) (c3 : Nat) (Io : List (Nat × BA)), mz = L.length - k ∧ (k ≤ L.length) ∧ (plP a c s.lo s.wi [] L sp = plP a c s.lo s.wi OL (L.drop k) (sp.drop k)) ∧ (OL.length = k) ∧ (Sl 207 5 (.slice A3 OL.length c3) OL.length (dc OL) Io) ∧ Tm ac 147 [(2, .slice P sp.length np), (4, .pointer (some ⟨g1, 0, none⟩)), (12, .pointer (some ⟨g2, 0, none⟩)), (13, .pointer (some ⟨g3, 0, none⟩)), (14, .slice A3 OL.length c3), (54, .slice B L.length e), (55, .int .i64 ((L.length : Nat) : Int)), (56, .int .i64 (k : Int))] ∧ Mem w noEx wc ((g3, .cells [.int .i64 0, .int .i64 0, .int .i64 s.lo, .int .i64 s.wi]) :: (g2, .cells [.int .i64 s.lo, .int .i64 s.wi, .int .i64 s.a0, .int .i64 s.a1, .int .i64 s.c0, .int .i64 s.c1, .slice A s.ps.length d, .func (.func 183) #[] #[.pointer (some ⟨gau2, 0, none⟩)], .func (.func 184) #[] #[.pointer (some ⟨gcu2, 0, none⟩)]]) :: (gau2, .cells [.int .i64 a]) :: (gcu2, .cells [.int .i64 c]) :: (g1, .cells [.int .i64 s.lo, .int .i64 s.wi, .int .i64 s.a0, .int .i64 s.a1, .int .i64 s.c0, .int .i64 s.c1, .slice A s.ps.length d]) :: (IB ++ Io))) ?_ ?_
 ·exact ⟨_, 0, [], none, 0, [], rfl, (Nat.zero_le _), rfl, rfl, (Sl.nil _ _), T.pick [7, 6, 5, 4, 3, 2, 1, 0] rfl, (by rw [List.append_nil]; exact M)⟩
 clear T M
 rintro mz ac wc ⟨k, OL, A3, c3, Io, hmm1, hk, H, hOl, hsl, T, M⟩
 refine Zsr ?_
 refine lq T (rn_lss rfl (T.e 7 rfl) (T.e 6 rfl)) ?_; clear T ac; intro ac T
 refine Zln ?_
 refine wp_seq ?_
 refine wp_if (T.e 0 rfl) ?_ ?_
 ·intro h4
  obtain ⟨p, hkp, hdL⟩ := pc_next (l := L) (k := k) (by omega)
  obtain ⟨q, hkq, hdS⟩ := tc_next (l := sp) (k := k) (by omega)
  obtain ⟨bo, oo, SVo⟩ := hsl.spV (dc_length _)
  have So := SVo w noEx
  have hpg := hg _ (List.mem_of_getElem? hkp)
  have hz1 : 0 ≤ sizeL a c p q.t ∧ sizeL a c p q.t ≤ 100 := by obtain ⟨g1, g2, g3⟩ := hpg; simp only [sizeL]; split <;> omega
  have hz2 : 0 ≤ sizeW a c p q.t ∧ sizeW a c p q.t ≤ 100 := by obtain ⟨g1, g2, g3⟩ := hpg; simp only [sizeW]; split <;> omega
  refine Zsk ?_
  refine wp_seq ?_
  refine wp_block ?_
  refine Zsr ?_
  refine Zg3 (v3 := (.agg #[.int .i64 p.l, .int .i64 p.w, .bool p.gr, .int .i64 p.pa])) T (Zq (Zrm rfl (T.e 8 rfl))) rfl (fun _ T => Zq (Zri (size := 4) k rfl (T.e 7 rfl) (T.e 9 rfl) ⟨_, Tryz.underlying47, by kernel_rfl⟩ rfl (by omega) (SB.at0 (by omega)))) rfl (fun _ T => Zq (rn_rowat (Sp.pcR SB M (.cons _ (.cons _ (.cons _ (.cons _ (.cons _ (subL (List.Sublist.refl _))))))) hkp) rfl (T.e 0 rfl) rfl)) rfl ?_; clear T ac; intro ac T
  refine Zl2 ?_
  refine Zoa M T rfl rfl rfl rfl ?_; clear M T; intro g4 wc ac M T
  refine lq T (Zra rfl (T.e 3 rfl)) ?_; clear T ac; intro ac T
  refine Zl2 ?_
  refine Zos M T rfl rfl (T.e 1 rfl) (T.e 2 rfl) rfl .head rfl (by simp) rfl (by kernel_rfl) ?_; clear M T; intro wc ac M T
  replace T := T.pick [0, 1, 6, 7, 8, 9, 10, 11, 12, 13] rfl
  refine Zln ?_
  refine wp_seq ?_
  refine Zgs M (M.mask [true, true, true, true, true, true] rfl) 12 (by kernel_rfl) rfl (by kernel_rfl) ?_
  clear M; intro wc M
  refine gq T 0 1 rfl (fun _ _ _ _ _ => (Zrm rfl (T.e 2 rfl))) ?_; clear T ac; intro ac T
  refine gq T 1 3 rfl (fun _ _ _ _ _ => (Zrm rfl (T.e 1 rfl))) ?_; clear T ac; intro ac T
  refine gq T 2 7 rfl (fun _ _ _ _ _ => (Zri (size := 3) k rfl (T.e 1 rfl) (T.e 0 rfl) ⟨_, Tryz.underlying110, by kernel_rfl⟩ rfl (by omega) (SP.at0 (by omega)))) ?_; clear T ac; intro ac T
  refine gq T 3 15 rfl (fun _ _ _ _ _ => (Zrf (off := 0) rfl (T.e 0 rfl) (fun _ _ _ => by kernel_rfl))) ?_; clear T ac; intro ac T
  refine gq T 4 31 rfl (fun B w' hD hl hS => (rn_cell (Sp.tcC0 SP (show Mem w noEx w' _ from hS) (Zz9 _) hkq) rfl (T.e 0 rfl))) ?_; clear T ac; intro ac T
  refine gq T 5 63 rfl (fun _ _ _ _ _ => (Zrm rfl (T.e 7 rfl))) ?_; clear T ac; intro ac T
  refine gq T 6 127 rfl (fun _ _ _ _ _ => (Zrm rfl (T.e 6 rfl))) ?_; clear T ac; intro ac T
  refine gq T 7 255 rfl (fun _ _ _ _ _ => (Zri (size := 3) k rfl (T.e 1 rfl) (T.e 0 rfl) ⟨_, Tryz.underlying110, by kernel_rfl⟩ rfl (by omega) (SP.at0 (by omega)))) ?_; clear T ac; intro ac T
  refine gq T 8 511 rfl (fun _ _ _ _ _ => (Zrf (off := 1) rfl (T.e 0 rfl) (fun _ _ _ => by kernel_rfl))) ?_; clear T ac; intro ac T
  refine gq T 9 1023 rfl (fun B w' hD hl hS => (rn_cell (Sp.tcC1 SP (show Mem w noEx w' _ from hS) (Zz9 _) hkq) rfl (T.e 0 rfl))) ?_; clear T ac; intro ac T
  refine gq T 10 2047 rfl (fun _ _ _ _ _ => (Zra rfl (T.e 5 rfl))) ?_; clear T ac; intro ac T
  refine gq T 11 4095 rfl (fun _ _ _ _ _ => (Zra rfl (T.e 1 rfl))) ?_; clear T ac; intro ac T
  refine Zgd (by kernel_rfl) ?_
  replace T := T.pick [0, 1, 12, 13, 14, 15, 16, 17, 18, 19, 20, 21] rfl
  refine Zns ?_
  refine Zgs M (M.mask [true, true, true, true, true, true] rfl) 13 (by kernel_rfl) rfl (by kernel_rfl) ?_
  clear M; intro wc M
  refine gq T 0 1 rfl (fun B w' hD hl hS => (Zrr (Mem.nth (show Mem w noEx w' _ from hS) 2 rfl) rfl (T.e 6 rfl) rfl)) ?_; clear T ac; intro ac T
  refine gq T 1 3 rfl (fun B w' hD hl hS => (Zrr (Mem.nth (show Mem w noEx w' _ from hS) 0 rfl) rfl (T.e 4 rfl) rfl)) ?_; clear T ac; intro ac T
  refine gq T 2 7 rfl (fun _ _ _ _ _ => (Zrm rfl (T.e 6 rfl))) ?_; clear T ac; intro ac T
  refine gq T 3 15 rfl (fun _ _ _ _ _ => (Zrm rfl (T.e 5 rfl))) ?_; clear T ac; intro ac T
  refine gq T 4 31 rfl (fun _ _ _ _ _ => (Zri (size := 3) k rfl (T.e 1 rfl) (T.e 0 rfl) ⟨_, Tryz.underlying110, by kernel_rfl⟩ rfl (by omega) (SP.at0 (by omega)))) ?_; clear T ac; intro ac T
  refine gq T 5 63 rfl (fun _ _ _ _ _ => (Zrf (off := 2) rfl (T.e 0 rfl) (fun _ _ _ => by kernel_rfl))) ?_; clear T ac; intro ac T
  refine gq T 6 127 rfl (fun B w' hD hl hS => (rn_cell (Sp.tcC2 SP (show Mem w noEx w' _ from hS) (Zz9 _) hkq) rfl (T.e 0 rfl))) ?_; clear T ac; intro ac T
  refine gw 7 255 ?_; intro K hK
  refine Zoc (first := []) (cap := []) T rfl rfl rfl rfl evf (.cons (T.e 6 rfl) (.cons (T.e 5 rfl) (.cons (T.e 0 rfl) .nil))) Tryz.func132 rfl rfl ?_
  refine Calls.mono (size_any s A d a c gau2 gcu2 p q.t _ (by omega) (by omega) hpg (M.nth 3 rfl) (M.nth 4 rfl)) ?_
  clear T; rintro e wc ⟨rfl, hb⟩ ac T
  replace M := M.call hb; clear hb
  refine Zso hK _ _ (M.mask [true, true, true, true, true, true] rfl) ?_; clear hK K
  refine gq T 8 511 rfl (fun _ _ _ _ _ => (Zrm rfl (T.e 0 rfl))) ?_; clear T ac; intro ac T
  refine gq T 9 1023 rfl (fun _ _ _ _ _ => (Zre rfl (T.e 0 rfl) rfl)) ?_; clear T ac; intro ac T
  refine gq T 10 2047 rfl (fun _ _ _ _ _ => (Zre rfl (T.e 1 rfl) rfl)) ?_; clear T ac; intro ac T
  refine gq T 11 4095 rfl (fun _ _ _ _ _ => (Zra rfl (T.e 1 rfl))) ?_; clear T ac; intro ac T
  refine gq T 12 8191 rfl (fun _ _ _ _ _ => (Zra rfl (T.e 1 rfl))) ?_; clear T ac; intro ac T
  refine Zgd (by kernel_rfl) ?_
  replace T := T.pick [0, 1, 13, 14, 15, 16, 17, 18, 19, 20, 21, 22, 23, 24] rfl
  refine Zns ?_
  refine cut_seq (fun ac wc => Tm ac 147 [(2, .slice P sp.length np), (4, .pointer (some ⟨g1, 0, none⟩)), (12, .pointer (some ⟨g2, 0, none⟩)), (13, .pointer (some ⟨g3, 0, none⟩)), (14, .slice A3 OL.length c3), (15, .int .i64 (k : Int)), (17, .int .i64 q.x), (18, .int .i64 q.y), (19, .int .i64 (sizeL a c p q.t)), (20, .int .i64 (sizeW a c p q.t)), (54, .slice B L.length e), (55, .int .i64 ((L.length : Nat) : Int)), (56, .int .i64 (k : Int)), (108, .bool (bif q.t then (p.gr || ((!(withinB q.x 0 (s.lo - (sizeL a c p q.t)))) || (!(withinB q.y 0 (s.wi - (sizeW a c p q.t)))))) else ((!(withinB q.x 0 (s.lo - (sizeL a c p q.t)))) || (!(withinB q.y 0 (s.wi - (sizeW a c p q.t)))))))] ∧ Mem w noEx wc ((g3, .cells [.int .i64 0, .int .i64 0, .int .i64 s.lo, .int .i64 s.wi]) :: (g2, .cells [.int .i64 s.lo, .int .i64 s.wi, .int .i64 s.a0, .int .i64 s.a1, .int .i64 s.c0, .int .i64 s.c1, .slice A s.ps.length d, .func (.func 183) #[] #[.pointer (some ⟨gau2, 0, none⟩)], .func (.func 184) #[] #[.pointer (some ⟨gcu2, 0, none⟩)]]) :: (gau2, .cells [.int .i64 a]) :: (gcu2, .cells [.int .i64 c]) :: (g1, .cells [.int .i64 s.lo, .int .i64 s.wi, .int .i64 s.a0, .int .i64 s.a1, .int .i64 s.c0, .int .i64 s.c1, .slice A s.ps.length d]) :: (IB ++ Io))) ?_ ?_
  ·refine wp_region_lit ?_
   refine Zg6 T (Zq (Zrm rfl (T.e 6 rfl))) rfl (Zm 5 rfl rfl) rfl (fun _ T => Zq (Zri (size := 3) k rfl (T.e 1 rfl) (T.e 0 rfl) ⟨_, Tryz.underlying110, by kernel_rfl⟩ rfl (by omega) (SP.at0 (by omega)))) rfl (Zf 2 0 rfl rfl) rfl (fun _ T => Zq (rn_cell (Sp.tcC2 SP M (Zz9 _) hkq) rfl (T.e 0 rfl))) rfl (Zm 0 rfl rfl) rfl ?_; clear T ac; intro ac T
   rcases Bool.eq_false_or_eq_true q.t with h5 | h5
   ·refine Zg4 (v1 := (.pointer (some ⟨g4, 2, none⟩))) T (Zw (Zwy rfl rfl (T.e 0 rfl) h5) (Zrf (off := 2) rfl (T.e 11 rfl) (fun _ _ _ => by kernel_rfl))) rfl (fun _ T => Zw (Zwy rfl rfl (T.e 1 rfl) h5) (Zro (Mem.nth M 0 rfl) rfl (T.e 0 rfl) rfl)) rfl (fun _ T => Zq (Zr1 rfl (T.e 2 rfl) h5 (T.e 0 rfl))) rfl (Zm 0 rfl rfl) rfl ?_; clear T ac; intro ac T
    rcases Bool.eq_false_or_eq_true p.gr with h6 | h6
    ·refine Zg8 T (Zp (Zwn rfl rfl (T.e 0 rfl) h6)) rfl (fun _ T => Zp (Zwn rfl rfl (T.e 1 rfl) h6)) rfl (fun _ T => Zp (Zwn rfl rfl (T.e 2 rfl) h6)) rfl (fun _ T => Zp (Zwn rfl rfl (T.e 3 rfl) h6)) rfl (fun _ T => Zp (Zwn rfl rfl (T.e 4 rfl) h6)) rfl (fun _ T => Zp (Zwn rfl rfl (T.e 5 rfl) h6)) rfl (fun _ T => Zp (Zwn rfl rfl (T.e 6 rfl) h6)) rfl (fun _ T => Zq (Zr1 rfl (T.e 7 rfl) h6 evc)) rfl ?_; clear T ac; intro ac T
     refine Zg8 T (Zq (Zrm rfl (T.e 0 rfl))) rfl (fun _ T => Zp (Zwn rfl rfl (T.e 0 rfl) rfl)) rfl (fun _ T => Zp (Zwn rfl rfl (T.e 1 rfl) rfl)) rfl (fun _ T => Zp (Zwn rfl rfl (T.e 2 rfl) rfl)) rfl (fun _ T => Zp (Zwn rfl rfl (T.e 3 rfl) rfl)) rfl (fun _ T => Zp (Zwn rfl rfl (T.e 4 rfl) rfl)) rfl (fun _ T => Zp (Zwn rfl rfl (T.e 5 rfl) rfl)) rfl (fun _ T => Zp (Zwn rfl rfl (T.e 6 rfl) rfl)) rfl ?_; clear T ac; intro ac T
     refine lq T (Zr1 rfl (T.e 7 rfl) rfl evc) ?_; clear T ac; intro ac T
     refine wpList_nil ?_
     replace T := T.pick [0, 1, 2, 3, 4, 5, 6, 7, 10, 11, 12, 13, 14, 15, 16, 19, 20, 27, 28, 29, 30, 31, 33, 34, 35, 36, 37, 38, 39, 40] rfl
     exact ⟨(T.pick (E' := [(2, .slice P sp.length np), (4, .pointer (some ⟨g1, 0, none⟩)), (12, .pointer (some ⟨g2, 0, none⟩)), (13, .pointer (some ⟨g3, 0, none⟩)), (14, .slice A3 OL.length c3), (15, .int .i64 (k : Int)), (17, .int .i64 q.x), (18, .int .i64 q.y), (19, .int .i64 (sizeL a c p q.t)), (20, .int .i64 (sizeW a c p q.t)), (54, .slice B L.length e), (55, .int .i64 ((L.length : Nat) : Int)), (56, .int .i64 (k : Int)), (108, .bool true)]) [22, 23, 24, 25, 26, 21, 20, 19, 18, 17, 27, 28, 29, 0] rfl).as (by (try rw [show p.gr = true from h6]); (try rw [show q.t = true from h5]); (try rfl)), M.mask [false, true, true, true, true, true] rfl⟩
    refine Zg5 (v2 := (.pointer (some ⟨g1, 0, none⟩))) T (Zw (Zwy rfl rfl (T.e 0 rfl) h6) (Zrm rfl (T.e 13 rfl))) rfl (fun _ T => Zw (Zwy rfl rfl (T.e 1 rfl) h6) (Zrf (off := 0) rfl (T.e 18 rfl) (fun _ _ _ => by kernel_rfl))) rfl (fun _ T => Zw (Zwy rfl rfl (T.e 2 rfl) h6) (Zro (Mem.nth M 5 rfl) rfl (T.e 0 rfl) rfl)) rfl (fun _ T => Zw (Zwy rfl rfl (T.e 3 rfl) h6) (Zrm rfl (T.e 14 rfl))) rfl (fun _ T => Zw (Zwy rfl rfl (T.e 4 rfl) h6) (rn_sub rfl (T.e 1 rfl) (T.e 0 rfl) (by omega))) rfl ?_; clear T ac; intro ac T
    refine l_w (Zwy rfl rfl (T.e 5 rfl) h6) ?_; intro K hK
    refine Zoc (first := []) (cap := []) T rfl rfl rfl rfl evf (.cons (T.e 4 rfl) (.cons evc (.cons (T.e 0 rfl) .nil))) Tryz.func133 rfl rfl ?_
    refine Calls.mono (sin_any q.x 0 (s.lo - (sizeL a c p q.t)) _) ?_
    clear T; rintro e wc ⟨rfl, hb⟩ ac T
    replace M := M.call hb; clear hb
    refine Zso hK _ _ ?_; clear hK K
    refine Zg3 T (Zw (Zwy rfl rfl (T.e 6 rfl) h6) (rn_not rfl (T.e 0 rfl))) rfl (fun _ T => Zq (Zr0 rfl (T.e 7 rfl) h6 (T.e 0 rfl))) rfl (Zm 0 rfl rfl) rfl ?_; clear T ac; intro ac T
    rcases Bool.eq_false_or_eq_true (!(withinB q.x 0 (s.lo - (sizeL a c p q.t)))) with h7 | h7
    ·refine Zg8 T (Zp (Zwn rfl rfl (T.e 0 rfl) h7)) rfl (fun _ T => Zp (Zwn rfl rfl (T.e 1 rfl) h7)) rfl (fun _ T => Zp (Zwn rfl rfl (T.e 2 rfl) h7)) rfl (fun _ T => Zp (Zwn rfl rfl (T.e 3 rfl) h7)) rfl (fun _ T => Zp (Zwn rfl rfl (T.e 4 rfl) h7)) rfl (fun _ T => Zp (Zwn rfl rfl (T.e 5 rfl) h7)) rfl (fun _ T => Zp (Zwn rfl rfl (T.e 6 rfl) h7)) rfl (fun _ T => Zq (Zr1 rfl (T.e 7 rfl) h7 evc)) rfl ?_; clear T ac; intro ac T
     refine wpList_nil ?_
     replace T := T.pick [0, 1, 2, 3, 4, 5, 6, 7, 10, 11, 12, 13, 14, 15, 16, 19, 20, 27, 28, 29, 30, 31, 33, 34, 35, 36, 37, 38, 39, 40] rfl
     exact ⟨(T.pick (E' := [(2, .slice P sp.length np), (4, .pointer (some ⟨g1, 0, none⟩)), (12, .pointer (some ⟨g2, 0, none⟩)), (13, .pointer (some ⟨g3, 0, none⟩)), (14, .slice A3 OL.length c3), (15, .int .i64 (k : Int)), (17, .int .i64 q.x), (18, .int .i64 q.y), (19, .int .i64 (sizeL a c p q.t)), (20, .int .i64 (sizeW a c p q.t)), (54, .slice B L.length e), (55, .int .i64 ((L.length : Nat) : Int)), (56, .int .i64 (k : Int)), (108, .bool true)]) [22, 23, 24, 25, 26, 21, 20, 19, 18, 17, 27, 28, 29, 0] rfl).as (by (try rw [show (!(withinB q.x 0 (s.lo - (sizeL a c p q.t)))) = true from h7]); (try rw [show p.gr = false from h6]); (try rw [show q.t = true from h5]); (try rfl)), M.mask [false, true, true, true, true, true] rfl⟩
    refine Zg5 (v2 := (.pointer (some ⟨g1, 1, none⟩))) T (Zw (Zwy rfl rfl (T.e 0 rfl) h7) (Zrm rfl (T.e 21 rfl))) rfl (fun _ T => Zw (Zwy rfl rfl (T.e 1 rfl) h7) (Zrf (off := 1) rfl (T.e 27 rfl) (fun _ _ _ => by kernel_rfl))) rfl (fun _ T => Zw (Zwy rfl rfl (T.e 2 rfl) h7) (Zro (Mem.nth M 5 rfl) rfl (T.e 0 rfl) rfl)) rfl (fun _ T => Zw (Zwy rfl rfl (T.e 3 rfl) h7) (Zrm rfl (T.e 22 rfl))) rfl (fun _ T => Zw (Zwy rfl rfl (T.e 4 rfl) h7) (rn_sub rfl (T.e 1 rfl) (T.e 0 rfl) (by omega))) rfl ?_; clear T ac; intro ac T
    refine l_w (Zwy rfl rfl (T.e 5 rfl) h7) ?_; intro K hK
    refine Zoc (first := []) (cap := []) T rfl rfl rfl rfl evf (.cons (T.e 4 rfl) (.cons evc (.cons (T.e 0 rfl) .nil))) Tryz.func133 rfl rfl ?_
    refine Calls.mono (sin_any q.y 0 (s.wi - (sizeW a c p q.t)) _) ?_
    clear T; rintro e wc ⟨rfl, hb⟩ ac T
    replace M := M.call hb; clear hb
    refine Zso hK _ _ ?_; clear hK K
    refine Zg2 T (Zw (Zwy rfl rfl (T.e 6 rfl) h7) (rn_not rfl (T.e 0 rfl))) rfl (fun _ T => Zq (Zr0 rfl (T.e 7 rfl) h7 (T.e 0 rfl))) rfl ?_; clear T ac; intro ac T
    refine wpList_nil ?_
    replace T := T.pick [0, 1, 2, 3, 4, 5, 6, 7, 10, 11, 12, 13, 14, 15, 16, 19, 20, 27, 28, 29, 30, 31, 33, 34, 35, 36, 37, 38, 39, 40] rfl
    exact ⟨(T.pick (E' := [(2, .slice P sp.length np), (4, .pointer (some ⟨g1, 0, none⟩)), (12, .pointer (some ⟨g2, 0, none⟩)), (13, .pointer (some ⟨g3, 0, none⟩)), (14, .slice A3 OL.length c3), (15, .int .i64 (k : Int)), (17, .int .i64 q.x), (18, .int .i64 q.y), (19, .int .i64 (sizeL a c p q.t)), (20, .int .i64 (sizeW a c p q.t)), (54, .slice B L.length e), (55, .int .i64 ((L.length : Nat) : Int)), (56, .int .i64 (k : Int)), (108, .bool (!(withinB q.y 0 (s.wi - (sizeW a c p q.t)))))]) [22, 23, 24, 25, 26, 21, 20, 19, 18, 17, 27, 28, 29, 0] rfl).as (by (try rw [show (!(withinB q.x 0 (s.lo - (sizeL a c p q.t)))) = false from h7]); (try rw [show p.gr = false from h6]); (try rw [show q.t = true from h5]); (try rfl)), M.mask [false, true, true, true, true, true] rfl⟩
   refine Zg8 (v6 := (.pointer (some ⟨g1, 0, none⟩))) T (Zp (Zwn rfl rfl (T.e 0 rfl) h5)) rfl (fun _ T => Zp (Zwn rfl rfl (T.e 1 rfl) h5)) rfl (fun _ T => Zq (Zr0 rfl (T.e 2 rfl) h5 evc)) rfl (Zm 0 rfl rfl) rfl (fun _ T => Zw (Zwy rfl rfl (T.e 0 rfl) rfl) (Zrm rfl (T.e 13 rfl))) rfl (fun _ T => Zw (Zwy rfl rfl (T.e 1 rfl) rfl) (Zrf (off := 0) rfl (T.e 18 rfl) (fun _ _ _ => by kernel_rfl))) rfl (fun _ T => Zw (Zwy rfl rfl (T.e 2 rfl) rfl) (Zro (Mem.nth M 5 rfl) rfl (T.e 0 rfl) rfl)) rfl (fun _ T => Zw (Zwy rfl rfl (T.e 3 rfl) rfl) (Zrm rfl (T.e 14 rfl))) rfl ?_; clear T ac; intro ac T
   refine lw T (Zwy rfl rfl (T.e 4 rfl) rfl) (rn_sub rfl (T.e 1 rfl) (T.e 0 rfl) (by omega)) ?_; clear T ac; intro ac T
   refine l_w (Zwy rfl rfl (T.e 5 rfl) rfl) ?_; intro K hK
   refine Zoc (first := []) (cap := []) T rfl rfl rfl rfl evf (.cons (T.e 4 rfl) (.cons evc (.cons (T.e 0 rfl) .nil))) Tryz.func133 rfl rfl ?_
   refine Calls.mono (sin_any q.x 0 (s.lo - (sizeL a c p q.t)) _) ?_
   clear T; rintro e wc ⟨rfl, hb⟩ ac T
   replace M := M.call hb; clear hb
   refine Zso hK _ _ ?_; clear hK K
   refine Zg3 T (Zw (Zwy rfl rfl (T.e 6 rfl) rfl) (rn_not rfl (T.e 0 rfl))) rfl (fun _ T => Zq (Zr0 rfl (T.e 7 rfl) rfl (T.e 0 rfl))) rfl (Zm 0 rfl rfl) rfl ?_; clear T ac; intro ac T
   rcases Bool.eq_false_or_eq_true (!(withinB q.x 0 (s.lo - (sizeL a c p q.t)))) with h8 | h8
   ·refine Zg8 T (Zp (Zwn rfl rfl (T.e 0 rfl) h8)) rfl (fun _ T => Zp (Zwn rfl rfl (T.e 1 rfl) h8)) rfl (fun _ T => Zp (Zwn rfl rfl (T.e 2 rfl) h8)) rfl (fun _ T => Zp (Zwn rfl rfl (T.e 3 rfl) h8)) rfl (fun _ T => Zp (Zwn rfl rfl (T.e 4 rfl) h8)) rfl (fun _ T => Zp (Zwn rfl rfl (T.e 5 rfl) h8)) rfl (fun _ T => Zp (Zwn rfl rfl (T.e 6 rfl) h8)) rfl (fun _ T => Zq (Zr1 rfl (T.e 7 rfl) h8 evc)) rfl ?_; clear T ac; intro ac T
    refine wpList_nil ?_
    replace T := T.pick [0, 1, 2, 3, 4, 5, 6, 7, 10, 11, 12, 13, 14, 15, 16, 19, 20, 27, 28, 29, 30, 31, 33, 34, 35, 36, 37, 38, 39, 40] rfl
    replace M := M.mask [false, true, true, true, true, true] rfl
    exact ⟨(T.pick (E' := [(2, .slice P sp.length np), (4, .pointer (some ⟨g1, 0, none⟩)), (12, .pointer (some ⟨g2, 0, none⟩)), (13, .pointer (some ⟨g3, 0, none⟩)), (14, .slice A3 OL.length c3), (15, .int .i64 (k : Int)), (17, .int .i64 q.x), (18, .int .i64 q.y), (19, .int .i64 (sizeL a c p q.t)), (20, .int .i64 (sizeW a c p q.t)), (54, .slice B L.length e), (55, .int .i64 ((L.length : Nat) : Int)), (56, .int .i64 (k : Int)), (108, .bool true)]) [22, 23, 24, 25, 26, 21, 20, 19, 18, 17, 27, 28, 29, 0] rfl).as (by (try rw [show (!(withinB q.x 0 (s.lo - (sizeL a c p q.t)))) = true from h8]); (try rw [show q.t = false from h5]); (try rfl)), M.mask [true, true, true, true, true] rfl⟩
   refine Zg5 (v2 := (.pointer (some ⟨g1, 1, none⟩))) T (Zw (Zwy rfl rfl (T.e 0 rfl) h8) (Zrm rfl (T.e 21 rfl))) rfl (fun _ T => Zw (Zwy rfl rfl (T.e 1 rfl) h8) (Zrf (off := 1) rfl (T.e 27 rfl) (fun _ _ _ => by kernel_rfl))) rfl (fun _ T => Zw (Zwy rfl rfl (T.e 2 rfl) h8) (Zro (Mem.nth M 5 rfl) rfl (T.e 0 rfl) rfl)) rfl (fun _ T => Zw (Zwy rfl rfl (T.e 3 rfl) h8) (Zrm rfl (T.e 22 rfl))) rfl (fun _ T => Zw (Zwy rfl rfl (T.e 4 rfl) h8) (rn_sub rfl (T.e 1 rfl) (T.e 0 rfl) (by omega))) rfl ?_; clear T ac; intro ac T
   refine l_w (Zwy rfl rfl (T.e 5 rfl) h8) ?_; intro K hK
   refine Zoc (first := []) (cap := []) T rfl rfl rfl rfl evf (.cons (T.e 4 rfl) (.cons evc (.cons (T.e 0 rfl) .nil))) Tryz.func133 rfl rfl ?_
   refine Calls.mono (sin_any q.y 0 (s.wi - (sizeW a c p q.t)) _) ?_
   clear T; rintro e wc ⟨rfl, hb⟩ ac T
   replace M := M.call hb; clear hb
   refine Zso hK _ _ ?_; clear hK K
   refine Zg2 T (Zw (Zwy rfl rfl (T.e 6 rfl) h8) (rn_not rfl (T.e 0 rfl))) rfl (fun _ T => Zq (Zr0 rfl (T.e 7 rfl) h8 (T.e 0 rfl))) rfl ?_; clear T ac; intro ac T
   refine wpList_nil ?_
   replace T := T.pick [0, 1, 2, 3, 4, 5, 6, 7, 10, 11, 12, 13, 14, 15, 16, 19, 20, 27, 28, 29, 30, 31, 33, 34, 35, 36, 37, 38, 39, 40] rfl
   replace M := M.mask [false, true, true, true, true, true] rfl
   exact ⟨(T.pick (E' := [(2, .slice P sp.length np), (4, .pointer (some ⟨g1, 0, none⟩)), (12, .pointer (some ⟨g2, 0, none⟩)), (13, .pointer (some ⟨g3, 0, none⟩)), (14, .slice A3 OL.length c3), (15, .int .i64 (k : Int)), (17, .int .i64 q.x), (18, .int .i64 q.y), (19, .int .i64 (sizeL a c p q.t)), (20, .int .i64 (sizeW a c p q.t)), (54, .slice B L.length e), (55, .int .i64 ((L.length : Nat) : Int)), (56, .int .i64 (k : Int)), (108, .bool (!(withinB q.y 0 (s.wi - (sizeW a c p q.t)))))]) [22, 23, 24, 25, 26, 21, 20, 19, 18, 17, 27, 28, 29, 0] rfl).as (by (try rw [show (!(withinB q.x 0 (s.lo - (sizeL a c p q.t)))) = false from h8]); (try rw [show q.t = false from h5]); (try rfl)), M.mask [true, true, true, true, true] rfl⟩
  clear T M
  rintro ac wc ⟨T, M⟩
  refine wp_cond_split (T.e 13 rfl) ?_ ?_
  ·intro h9
   (have h9' := h9; try simp only [Zb1, Zb2, Zb3, Zb4, Zb5, Zb6, Zb7] at h9')
   have hb9 : badP a c s.lo s.wi p q = true := bad_eq.trans h9
   refine Zsr ?_
   refine Zg2 T (Zq (Zra rfl evc)) rfl (Zc rfl) rfl ?_; clear T ac; intro ac T
   refine wpList_nil ?_
   replace T := T.pick [0, 1] rfl
   replace M := M.mask [false, false, false, false, false] rfl
   refine Znr ?_
   refine Zrt ?_
   refine Zrb ?_
   refine Zrt ?_
   refine Zrt ?_
   refine Zrb ?_
   refine Zrt ?_
   refine rt_2 T rfl (T.e 1 rfl) (T.e 0 rfl) ?_
   have e9 : cutsE s g sp.length = 0 := (if_neg (by omega)).trans ((if_neg (by omega)).trans (if_neg (by omega)))
   have e8 : cutsV s g sp su = cutsB a c s.lo s.wi L sp := by rw [hae, hce, hL9]; exact if_pos e9
   have e7 : cutsB a c s.lo s.wi L sp = false := by rw [cutsB, H, hdL, hdS, plP_step, if_pos hb9]
   rw [e9, e8, e7]
   exact ⟨rfl, M.below⟩
  intro h9
  (have h9' := h9; try simp only [Zb1, Zb2, Zb3, Zb4, Zb5, Zb6, Zb7] at h9')
  have hb8 : badP a c s.lo s.wi p q = false := bad_eq.trans h9
  have hbad : ¬ badP a c s.lo s.wi p q = true := by rw [hb8]; simp
  obtain ⟨hx9, hy9⟩ := bad_not hb8
  refine Zsk ?_
  refine Zsr ?_
  refine Zg8 T (Zq (Zrm rfl (T.e 6 rfl))) rfl (Zm 8 rfl rfl) rfl (Zm 8 rfl rfl) rfl (Zm 11 rfl rfl) rfl (fun _ T => Zq (rn_add rfl (T.e 1 rfl) (T.e 0 rfl) (by omega))) rfl (Zm 12 rfl rfl) rfl (Zm 15 rfl rfl) rfl (fun _ T => Zq (rn_add rfl (T.e 1 rfl) (T.e 0 rfl) (by omega))) rfl ?_; clear T ac; intro ac T
  refine Zg3 (v1 := (.agg #[.int .i64 q.x, .int .i64 q.y, .int .i64 (q.x + (sizeL a c p q.t)), .int .i64 (q.y + (sizeW a c p q.t))])) (v3 := (.agg #[.int .i64 q.x, .int .i64 q.y, .int .i64 (q.x + (sizeL a c p q.t)), .int .i64 (q.y + (sizeW a c p q.t)), .int .i64 (k : Int)])) T (Zq (rn_build rfl (.cons (T.e 7 rfl) (.cons (T.e 6 rfl) (.cons (T.e 3 rfl) (.cons (T.e 0 rfl) .nil)))) (fun _ => by kernel_rfl))) rfl (Zm 14 rfl rfl) rfl (fun _ T => Zq (rn_build rfl (.cons (T.e 1 rfl) (.cons (T.e 0 rfl) .nil)) (fun _ => by kernel_rfl))) rfl ?_; clear T ac; intro ac T
  refine Zl2 ?_
  refine Zoa M T rfl rfl rfl rfl ?_; clear M T; intro g5 wc ac M T
  refine Zl2 ?_
  refine Zos M T rfl rfl (T.e 0 rfl) (T.e 1 rfl) rfl .head rfl (by simp) rfl (by kernel_rfl) ?_; clear M T; intro wc ac M T
  replace T := T.pick [0, 12, 13, 14, 15, 16, 22, 23, 24] rfl
  refine Zln ?_
  refine wp_seq ?_
  refine Zsr ?_
  refine Zg3 T (Zq (Zrm rfl (T.e 5 rfl))) rfl (Zl Tryz.underlying203 0 rfl rfl) rfl (fun _ T => Zq (Zrm rfl evc)) rfl ?_; clear T ac; intro ac T
  refine Zln ?_
  refine wp_block ?_
  refine wp_loop_n (fun mz ac wc => ∃ (j : Nat), mz = OL.length - j ∧ (j ≤ OL.length) ∧ (hitP (OL.take j) (ldOf a c p q OL.length) = false) ∧ Tm ac 147 [(2, .slice P sp.length np), (4, .pointer (some ⟨g1, 0, none⟩)), (12, .pointer (some ⟨g2, 0, none⟩)), (13, .pointer (some ⟨g3, 0, none⟩)), (14, .slice A3 OL.length c3), (21, .pointer (some ⟨g5, 0, none⟩)), (54, .slice B L.length e), (55, .int .i64 ((L.length : Nat) : Int)), (56, .int .i64 (k : Int)), (120, .slice A3 OL.length c3), (121, .int .i64 ((OL.length : Nat) : Int)), (122, .int .i64 (j : Int))] ∧ Mem w noEx wc ((g5, .cells [.int .i64 q.x, .int .i64 q.y, .int .i64 (q.x + (sizeL a c p q.t)), .int .i64 (q.y + (sizeW a c p q.t)), .int .i64 (k : Int)]) :: (g3, .cells [.int .i64 0, .int .i64 0, .int .i64 s.lo, .int .i64 s.wi]) :: (g2, .cells [.int .i64 s.lo, .int .i64 s.wi, .int .i64 s.a0, .int .i64 s.a1, .int .i64 s.c0, .int .i64 s.c1, .slice A s.ps.length d, .func (.func 183) #[] #[.pointer (some ⟨gau2, 0, none⟩)], .func (.func 184) #[] #[.pointer (some ⟨gcu2, 0, none⟩)]]) :: (gau2, .cells [.int .i64 a]) :: (gcu2, .cells [.int .i64 c]) :: (g1, .cells [.int .i64 s.lo, .int .i64 s.wi, .int .i64 s.a0, .int .i64 s.a1, .int .i64 s.c0, .int .i64 s.c1, .slice A s.ps.length d]) :: (IB ++ Io))) ?_ ?_
  ·exact ⟨_, 0, rfl, (Nat.zero_le _), rfl, T.pick [4, 5, 6, 7, 8, 3, 9, 10, 11, 2, 1, 0] rfl, M.mask [true, true, true, true, true, true] rfl⟩
  clear T M
  rintro mz ac wc ⟨j, hmm2, hj, hN, T, M⟩
  refine Zsr ?_
  refine lq T (rn_lss rfl (T.e 11 rfl) (T.e 10 rfl)) ?_; clear T ac; intro ac T
  refine Zln ?_
  refine wp_seq ?_
  refine wp_if (T.e 0 rfl) ?_ ?_
  ·intro h10
   obtain ⟨z, hkz, -⟩ := dc_next (l := OL) (k := j) (by omega)
   refine Zsk ?_
   refine wp_seq ?_
   refine wp_block ?_
   refine Zsr ?_
   refine Zg2 (v2 := (.agg #[.int .i64 z.l, .int .i64 z.n, .int .i64 z.r, .int .i64 z.f, .int .i64 z.p])) T (Zq (Zri (size := 5) j rfl (T.e 10 rfl) (T.e 12 rfl) ⟨_, Tryz.underlying203, by kernel_rfl⟩ rfl (by omega) (So.at0 (by omega)))) rfl (fun _ T => Zq (rn_rowat (Sp.dcR So M (.cons _ (.cons _ (.cons _ (.cons _ (.cons _ (.cons _ (Zsq _ _))))))) hkz) rfl (T.e 0 rfl) rfl)) rfl ?_; clear T ac; intro ac T
   refine Zl2 ?_
   refine Zoa M T rfl rfl rfl rfl ?_; clear M T; intro g6 wc ac M T
   refine Zl2 ?_
   refine Zos M T rfl rfl (T.e 0 rfl) (T.e 1 rfl) rfl .head rfl (by simp) rfl (by kernel_rfl) ?_; clear M T; intro wc ac M T
   replace T := T.pick [0, 4, 5, 6, 7, 8, 9, 10, 11, 12, 13, 14, 15] rfl
   refine Zln ?_
   refine cut_seq (fun ac wc => Tm ac 147 [(2, .slice P sp.length np), (4, .pointer (some ⟨g1, 0, none⟩)), (12, .pointer (some ⟨g2, 0, none⟩)), (13, .pointer (some ⟨g3, 0, none⟩)), (14, .slice A3 OL.length c3), (21, .pointer (some ⟨g5, 0, none⟩)), (54, .slice B L.length e), (55, .int .i64 ((L.length : Nat) : Int)), (56, .int .i64 (k : Int)), (120, .slice A3 OL.length c3), (121, .int .i64 ((OL.length : Nat) : Int)), (122, .int .i64 (j : Int)), (137, .bool (((decide (z.l = q.x)) && ((decide (z.n = q.y)) && ((decide (z.r = (q.x + (sizeL a c p q.t)))) && (decide (z.f = (q.y + (sizeW a c p q.t))))))) || (overP z.ar (⟨q.x, q.y, (q.x + (sizeL a c p q.t)), (q.y + (sizeW a c p q.t))⟩ : Ar))))] ∧ Mem w noEx wc ((g5, .cells [.int .i64 q.x, .int .i64 q.y, .int .i64 (q.x + (sizeL a c p q.t)), .int .i64 (q.y + (sizeW a c p q.t)), .int .i64 (k : Int)]) :: (g3, .cells [.int .i64 0, .int .i64 0, .int .i64 s.lo, .int .i64 s.wi]) :: (g2, .cells [.int .i64 s.lo, .int .i64 s.wi, .int .i64 s.a0, .int .i64 s.a1, .int .i64 s.c0, .int .i64 s.c1, .slice A s.ps.length d, .func (.func 183) #[] #[.pointer (some ⟨gau2, 0, none⟩)], .func (.func 184) #[] #[.pointer (some ⟨gcu2, 0, none⟩)]]) :: (gau2, .cells [.int .i64 a]) :: (gcu2, .cells [.int .i64 c]) :: (g1, .cells [.int .i64 s.lo, .int .i64 s.wi, .int .i64 s.a0, .int .i64 s.a1, .int .i64 s.c0, .int .i64 s.c1, .slice A s.ps.length d]) :: (IB ++ Io))) ?_ ?_
   ·refine wp_region_lit ?_
    refine Zg6 (v1 := (.pointer (some ⟨g6, 0, none⟩))) (v3 := (.pointer (some ⟨g5, 0, none⟩))) (v5 := (.bool ((decide (z.l = q.x)) && ((decide (z.n = q.y)) && ((decide (z.r = (q.x + (sizeL a c p q.t)))) && (decide (z.f = (q.y + (sizeW a c p q.t))))))))) T (Zq (Zrf (off := 0) rfl (T.e 0 rfl) (fun _ _ _ => by kernel_rfl))) rfl (Zr M 0 0 rfl rfl rfl rfl) rfl (Zf 0 8 rfl rfl) rfl (Zr M 1 0 rfl rfl rfl rfl) rfl (fun _ T => Zq (rn_bin rfl (T.e 2 rfl) (T.e 0 rfl) eqT202)) rfl (Zm 0 rfl rfl) rfl ?_; clear T ac; intro ac T
    rcases Bool.eq_false_or_eq_true ((decide (z.l = q.x)) && ((decide (z.n = q.y)) && ((decide (z.r = (q.x + (sizeL a c p q.t)))) && (decide (z.f = (q.y + (sizeW a c p q.t))))))) with h11 | h11
    ·refine Zg6 T (Zp (Zwn rfl rfl (T.e 0 rfl) h11)) rfl (fun _ T => Zp (Zwn rfl rfl (T.e 1 rfl) h11)) rfl (fun _ T => Zp (Zwn rfl rfl (T.e 2 rfl) h11)) rfl (fun _ T => Zp (Zwn rfl rfl (T.e 3 rfl) h11)) rfl (fun _ T => Zp (Zwn rfl rfl (T.e 4 rfl) h11)) rfl (fun _ T => Zq (Zr1 rfl (T.e 5 rfl) h11 evc)) rfl ?_; clear T ac; intro ac T
     refine wpList_nil ?_
     replace T := T.pick [0, 1, 2, 3, 4, 5, 13, 14, 15, 16, 17, 18, 19, 20, 21, 22, 23, 24] rfl
     replace M := M.mask [false, true, true, true, true, true, true] rfl
     exact ⟨(T.pick (E' := [(2, .slice P sp.length np), (4, .pointer (some ⟨g1, 0, none⟩)), (12, .pointer (some ⟨g2, 0, none⟩)), (13, .pointer (some ⟨g3, 0, none⟩)), (14, .slice A3 OL.length c3), (21, .pointer (some ⟨g5, 0, none⟩)), (54, .slice B L.length e), (55, .int .i64 ((L.length : Nat) : Int)), (56, .int .i64 (k : Int)), (120, .slice A3 OL.length c3), (121, .int .i64 ((OL.length : Nat) : Int)), (122, .int .i64 (j : Int)), (137, .bool true)]) [6, 7, 8, 9, 10, 11, 12, 13, 14, 15, 16, 17, 0] rfl).as (by (try rw [show ((decide (z.l = q.x)) && ((decide (z.n = q.y)) && ((decide (z.r = (q.x + (sizeL a c p q.t)))) && (decide (z.f = (q.y + (sizeW a c p q.t))))))) = true from h11]); (try rfl)), M.mask [true, true, true, true, true, true] rfl⟩
    refine Zg4 (v1 := (.pointer (some ⟨g6, 0, none⟩))) (v3 := (.pointer (some ⟨g5, 0, none⟩))) T (Zw (Zwy rfl rfl (T.e 0 rfl) h11) (Zrf (off := 0) rfl (T.e 6 rfl) (fun _ _ _ => by kernel_rfl))) rfl (fun _ T => Zw (Zwy rfl rfl (T.e 1 rfl) h11) (Zrr (Mem.nth M 0 rfl) rfl (T.e 0 rfl) rfl)) rfl (fun _ T => Zw (Zwy rfl rfl (T.e 2 rfl) h11) (Zrf (off := 0) rfl (T.e 14 rfl) (fun _ _ _ => by kernel_rfl))) rfl (fun _ T => Zw (Zwy rfl rfl (T.e 3 rfl) h11) (Zrr (Mem.nth M 1 rfl) rfl (T.e 0 rfl) rfl)) rfl ?_; clear T ac; intro ac T
    refine l_w (Zwy rfl rfl (T.e 4 rfl) h11) ?_; intro K hK
    refine Zoc (first := []) (cap := []) T rfl rfl rfl rfl evf (.cons (T.e 2 rfl) (.cons (T.e 0 rfl) .nil)) Tryz.func134 rfl rfl ?_
    refine Calls.mono (arover_any z.ar (⟨q.x, q.y, (q.x + (sizeL a c p q.t)), (q.y + (sizeW a c p q.t))⟩ : Ar) _) ?_
    clear T; rintro e wc ⟨rfl, hb⟩ ac T
    replace M := M.call hb; clear hb
    refine Zso hK _ _ ?_; clear hK K
    refine lq T (Zr0 rfl (T.e 5 rfl) h11 (T.e 0 rfl)) ?_; clear T ac; intro ac T
    refine wpList_nil ?_
    replace T := T.pick [0, 1, 2, 3, 4, 5, 13, 14, 15, 16, 17, 18, 19, 20, 21, 22, 23, 24] rfl
    exact ⟨(T.pick (E' := [(2, .slice P sp.length np), (4, .pointer (some ⟨g1, 0, none⟩)), (12, .pointer (some ⟨g2, 0, none⟩)), (13, .pointer (some ⟨g3, 0, none⟩)), (14, .slice A3 OL.length c3), (21, .pointer (some ⟨g5, 0, none⟩)), (54, .slice B L.length e), (55, .int .i64 ((L.length : Nat) : Int)), (56, .int .i64 (k : Int)), (120, .slice A3 OL.length c3), (121, .int .i64 ((OL.length : Nat) : Int)), (122, .int .i64 (j : Int)), (137, .bool (overP z.ar (⟨q.x, q.y, (q.x + (sizeL a c p q.t)), (q.y + (sizeW a c p q.t))⟩ : Ar)))]) [6, 7, 8, 9, 10, 11, 12, 13, 14, 15, 16, 17, 0] rfl).as (by (try rw [show ((decide (z.l = q.x)) && ((decide (z.n = q.y)) && ((decide (z.r = (q.x + (sizeL a c p q.t)))) && (decide (z.f = (q.y + (sizeW a c p q.t))))))) = false from h11]); (try rfl)), M.mask [false, true, true, true, true, true, true] rfl⟩
   clear T M
   rintro ac wc ⟨T, M⟩
   refine wp_cond_split (T.e 12 rfl) ?_ ?_
   ·intro h12
    (have h12' := h12; try simp only [Zb1, Zb2, Zb3, Zb4, Zb5, Zb6, Zb7] at h12')
    have hh8 := (hit_eq (z := z) (o := (ldOf a c p q OL.length))).trans h12
    refine Zsr ?_
    refine Zg2 T (Zq (Zra rfl evc)) rfl (Zc rfl) rfl ?_; clear T ac; intro ac T
    refine wpList_nil ?_
    replace T := T.pick [0, 1] rfl
    replace M := M.mask [false, false, false, false, false, false] rfl
    refine Znr ?_
    refine Zrb ?_
    refine Zrt ?_
    refine Zrt ?_
    refine Zrb ?_
    refine Zrt ?_
    refine Zrb ?_
    refine Zrt ?_
    refine Zrt ?_
    refine Zrb ?_
    refine Zrt ?_
    refine rt_2 T rfl (T.e 1 rfl) (T.e 0 rfl) ?_
    have e9 : cutsE s g sp.length = 0 := (if_neg (by omega)).trans ((if_neg (by omega)).trans (if_neg (by omega)))
    have e8 : cutsV s g sp su = cutsB a c s.lo s.wi L sp := by rw [hae, hce, hL9]; exact if_pos e9
    have hh9 : hitP OL (ldOf a c p q OL.length) = true := hit_of (List.mem_of_getElem? hkz) hh8
    have e7 : cutsB a c s.lo s.wi L sp = false := by rw [cutsB, H, hdL, hdS, plP_step, if_neg hbad, if_pos hh9]
    rw [e9, e8, e7]
    exact ⟨rfl, M.below⟩
   intro h12
   (have h12' := h12; try simp only [Zb1, Zb2, Zb3, Zb4, Zb5, Zb6, Zb7] at h12')
   have hh8 := (hit_eq (z := z) (o := (ldOf a c p q OL.length))).trans h12
   refine wp_skip ?_
   refine Znb ?_
   refine nm_then ?_
   refine wp_region_lit ?_
   refine lq T (rn_add rfl (T.e 11 rfl) evc (by omega)) ?_; clear T ac; intro ac T
   refine l_q (v := (.int .i64 ((j : Int) + 1))) (T.pick [0, 1, 2, 3, 4, 5, 6, 7, 8, 9, 10, 11, 13] rfl) rfl rfl rfl rfl (Zrm rfl (T.e 0 rfl)) ?_; clear T ac; intro ac T
   replace T := T.pick [0, 2, 3, 4, 5, 6, 7, 8, 9, 10, 11, 12] rfl
   refine Zln ?_
   exact ⟨_, by omega, j + 1, rfl, (by omega), (by rw [hit_snoc hkz, hN, Bool.false_or]; exact hh8), T.pick [1, 2, 3, 4, 5, 6, 7, 8, 9, 10, 11, 0] rfl, M.mask [true, true, true, true, true, true] rfl⟩
  intro h10
  rw [List.take_of_length_le (by omega)] at hN
  have hnh : ¬ hitP OL (ldOf a c p q OL.length) = true := by simp [hN]
  refine wp_exit ?_
  refine Zet ?_
  refine Zet ?_
  refine ex_hit ?_
  refine nm_then ?_
  refine wp_region_lit ?_
  refine Zg2 T (Zq (Zrm rfl (T.e 5 rfl))) rfl (Zr M 0 7 rfl rfl rfl rfl) rfl ?_; clear T ac; intro ac T
  refine Zl2 ?_
  refine ow_bs (e := 207) [.int .i64 q.x, .int .i64 q.y, .int .i64 (q.x + (sizeL a c p q.t)), .int .i64 (q.y + (sizeW a c p q.t)), .int .i64 (k : Int)] M T rfl rfl rfl rfl (.cons (T.e 0 rfl) .nil) (fun _ => by kernel_rfl) ?_; clear M T; intro g7 wc ac M T
  refine Zl2 ?_
  refine ow_app (((g7, .cells [.int .i64 q.x, .int .i64 q.y, .int .i64 (q.x + (sizeL a c p q.t)), .int .i64 (q.y + (sizeW a c p q.t)), .int .i64 (k : Int)]) :: (g5, .cells [.int .i64 q.x, .int .i64 q.y, .int .i64 (q.x + (sizeL a c p q.t)), .int .i64 (q.y + (sizeW a c p q.t)), .int .i64 (k : Int)]) :: (g3, .cells [.int .i64 0, .int .i64 0, .int .i64 s.lo, .int .i64 s.wi]) :: (g2, .cells [.int .i64 s.lo, .int .i64 s.wi, .int .i64 s.a0, .int .i64 s.a1, .int .i64 s.c0, .int .i64 s.c1, .slice A s.ps.length d, .func (.func 183) #[] #[.pointer (some ⟨gau2, 0, none⟩)], .func (.func 184) #[] #[.pointer (some ⟨gcu2, 0, none⟩)]]) :: (gau2, .cells [.int .i64 a]) :: (gcu2, .cells [.int .i64 c]) :: (g1, .cells [.int .i64 s.lo, .int .i64 s.wi, .int .i64 s.a0, .int .i64 s.a1, .int .i64 s.c0, .int .i64 s.c1, .slice A s.ps.length d]) :: IB)) Tryz.info207 hsl M (by first | rfl | simp) T rfl rfl rfl rfl Tryz.underlying203 rfl rfl rfl (by omega) (T.e 2 rfl) (T.e 0 rfl) (Zne (i := 0) rfl) rfl rfl ?_; clear M T; intro ga1 cga1 wc ac M T
  refine l_q (v := (.slice (some ⟨ga1, 0, none⟩) (OL.length + 1) cga1)) (T.pick [0, 1, 2, 3, 4, 5, 6, 7, 8, 10, 11, 12, 13, 14, 15, 16] rfl) rfl rfl rfl rfl (Zra rfl (T.e 0 rfl)) ?_; clear T ac; intro ac T
  refine wpList_nil ?_
  replace T := T.pick [0, 6, 7, 8, 9, 11, 12, 13] rfl
  replace M := M.mask [true, false, false, true, true, true, true, true] rfl
  refine Znb ?_
  refine nm_then ?_
  refine wp_region_lit ?_
  refine lq T (rn_add rfl (T.e 7 rfl) evc (by omega)) ?_; clear T ac; intro ac T
  refine l_q (v := (.int .i64 ((k : Int) + 1))) (T.pick [0, 1, 2, 3, 4, 5, 6, 7] rfl) rfl rfl rfl rfl (Zrm rfl (T.e 0 rfl)) ?_; clear T ac; intro ac T
  replace T := T.pick [0, 2, 3, 4, 5, 6, 7, 8] rfl
  refine Zln ?_
  have e9 : OL.length + 1 = (OL ++ [(ldOf a c p q OL.length)]).length := by simp
  have e8 : ((dc OL) ++ [.int .i64 q.x, .int .i64 q.y, .int .i64 (q.x + (sizeL a c p q.t)), .int .i64 (q.y + (sizeW a c p q.t)), .int .i64 (k : Int)]) = dc (OL ++ [(ldOf a c p q OL.length)]) := by rw [← hOl]; exact dc_snoc OL (ldOf a c p q OL.length)
  rw [e9, e8] at M
  rw [e9] at T
  clear e9 e8
  exact ⟨_, by omega, k + 1, (OL ++ [(ldOf a c p q OL.length)]), _, _, [(ga1, .row 207 5 (OL ++ [(ldOf a c p q OL.length)]).length (dc (OL ++ [(ldOf a c p q OL.length)])) cga1)], rfl, (by omega), (by rw [H, hdL, hdS, plP_step, if_neg hbad, if_neg hnh]), (by simp [hOl]), (Sl.row _ _ _ _ _ _), T.pick [2, 3, 4, 5, 1, 6, 7, 0] rfl, (Mem.swapU [(g3, .cells [.int .i64 0, .int .i64 0, .int .i64 s.lo, .int .i64 s.wi]), (g2, .cells [.int .i64 s.lo, .int .i64 s.wi, .int .i64 s.a0, .int .i64 s.a1, .int .i64 s.c0, .int .i64 s.c1, .slice A s.ps.length d, .func (.func 183) #[] #[.pointer (some ⟨gau2, 0, none⟩)], .func (.func 184) #[] #[.pointer (some ⟨gcu2, 0, none⟩)]]), (gau2, .cells [.int .i64 a]), (gcu2, .cells [.int .i64 c]), (g1, .cells [.int .i64 s.lo, .int .i64 s.wi, .int .i64 s.a0, .int .i64 s.a1, .int .i64 s.c0, .int .i64 s.c1, .slice A s.ps.length d])] [(ga1, .row 207 5 (OL ++ [(ldOf a c p q OL.length)]).length (dc (OL ++ [(ldOf a c p q OL.length)])) cga1)] IB (M.permT [1, 2, 3, 4, 5, 0] 6 rfl rfl rfl rfl))⟩
 intro h4
 rw [List.drop_of_length_le (by omega)] at H
 have H : plP a c s.lo s.wi [] L sp = some OL := H
 obtain ⟨bo, oo, SVo⟩ := hsl.spV (dc_length _)
 have So := SVo w noEx
 refine wp_exit ?_
 refine Zet ?_
 refine Zet ?_
 refine ex_hit ?_
 refine nm_then ?_
 refine Zsr ?_
 refine Zg2 T (Zq (Zrm rfl (T.e 5 rfl))) rfl (Zr M 0 5 rfl rfl rfl rfl) rfl ?_; clear T ac; intro ac T
 refine Zl2 ?_
 refine Zoc (first := []) (cap := []) T rfl rfl rfl rfl evf (.cons (T.e 1 rfl) (.cons (T.e 0 rfl) .nil)) Tryz.func135 rfl rfl ?_
 refine Calls.mono (sawn_any OL A3 c3 (⟨0, 0, s.lo, s.wi⟩ : Ar) _ (by omega) (by dsimp only; omega) (So.rd M (.cons _ (.cons _ (.cons _ (.cons _ (.cons _ (Zsq _ _)))))))) ?_
 clear T; rintro e wc ⟨rfl, hb⟩ ac T
 replace M := M.call hb; clear hb
 refine Zg2 T (Zq (Zra rfl (T.e 0 rfl))) rfl (Zc rfl) rfl ?_; clear T ac; intro ac T
 refine wpList_nil ?_
 replace T := T.pick [0, 1] rfl
 replace M := M.mask [false, false, false, false, false] rfl
 refine Znr ?_
 refine rt_2 T rfl (T.e 1 rfl) (T.e 0 rfl) ?_
 have e9 : cutsE s g sp.length = 0 := (if_neg (by omega)).trans ((if_neg (by omega)).trans (if_neg (by omega)))
 have e8 : cutsV s g sp su = cutsB a c s.lo s.wi L sp := by rw [hae, hce, hL9]; exact if_pos e9
 have e7 : cutsB a c s.lo s.wi L sp = sawB OL ⟨0, 0, s.lo, s.wi⟩ := by rw [cutsB, H]
 rw [e9, e8, e7]
 exact ⟨rfl, M.below⟩
theorem eqlS31 {x : Operand} (A : Option Addr) (m c : Nat) (w : World) : (do eqGuard .eql 31 x (.const (.slice none 0 0)) (.slice A m c) (.slice none 0 0); binOp .eql 31 (.slice A m c) (.slice none 0 0) : Sem Value).run Tryz.prog w = .ok (.bool (!A.isSome)) w := by
 cases A <;> kernel_rfl
theorem Tryz.append0_31 (A : Option Addr) (c g : Nat) (ty : TypeId) (w : World) : (Builtin.append_ #[31, 31] ty #[.slice (some ⟨g, 0, none⟩) 0 0, .slice A 0 c]).run Tryz.prog w = .ok (.slice (some ⟨g, 0, none⟩) 0 0) w := by
 cases A <;> kernel_rfl
theorem eqlS47 {x : Operand} (A : Option Addr) (m c : Nat) (w : World) : (do eqGuard .eql 47 x (.const (.slice none 0 0)) (.slice A m c) (.slice none 0 0); binOp .eql 47 (.slice A m c) (.slice none 0 0) : Sem Value).run Tryz.prog w = .ok (.bool (!A.isSome)) w := by
 cases A <;> kernel_rfl
theorem Tryz.append0_47 (A : Option Addr) (c g : Nat) (ty : TypeId) (w : World) : (Builtin.append_ #[47, 47] ty #[.slice (some ⟨g, 0, none⟩) 0 0, .slice A 0 c]).run Tryz.prog w = .ok (.slice (some ⟨g, 0, none⟩) 0 0) w := by
 cases A <;> kernel_rfl
def CloPost (e size : Nat) (n : Nat) (xs : List Value) (w : World) (e9 : Ending) (w' : World) : Prop := ∃ A c I, e9 = .returned (.slice A n c) ∧ Cl e size A n c xs I ∧ Mem w noEx w' I
theorem Rd.nil0 {w : World} {B size n : Nat} {xs : List Value} (h : Rd w B size none n xs) : n = 0 := by
 rcases Nat.eq_zero_or_pos n with h0 | h0
 ·exact h0
 ·obtain ⟨b, o, h1, -, -⟩ := h.2 h0
  cases h1
theorem icl_one (l : List Int) : ∀ u ∈ ic l, u.oneCell' = true := fun u hu => by
 obtain ⟨x, -, rfl⟩ := List.mem_map.1 hu
 rfl
theorem pc_one (l : List Pt) : ∀ u ∈ pc l, u.oneCell' = true := fun u hu => by
 obtain ⟨p, -, h⟩ := List.mem_flatMap.1 hu
 simp only [pcE, List.mem_cons, List.not_mem_nil, or_false] at h
 rcases h with rfl | rfl | rfl | rfl <;> rfl
theorem cloneI_any (G : Option Addr) (n : Nat) (g : List Int)  (w : World) (hG : Rd w w.heap.size 1 G g.length (ic g)) (nG : g.length ≤ 1000000) :
   Calls Tryz.prog 229 #[.slice G g.length n] w (CloPost 3 1 g.length (ic g) w) := by
 obtain ⟨bG, oG, SG⟩ := Sp.old hG
 refine Zpx noEx Tryz.func229 rfl 8 rfl [.slice G g.length n] rfl rfl (Mem.init w _) ?_
 intro ac wc T M
 refine Zsr ?_
 refine lq T (Zra rfl evc) ?_; clear T ac; intro ac T
 replace T := T.pick [1] rfl
 refine Zln ?_
 refine wp_seq ?_
 refine Zsr ?_
 refine Zg2 (v2 := (.bool (!G.isSome))) T (Zq (Zrm rfl (T.e 0 rfl))) rfl (fun _ T => Zq (rn_bin rfl (T.e 0 rfl) evc (eqlS31 _ _ _ _))) rfl ?_; clear T ac; intro ac T
 replace T := T.pick [0, 2] rfl
 refine Zln ?_
 refine wp_cond_split (T.e 0 rfl) ?_ ?_
 ·intro h1
  (have h1' := h1; try simp only [Zb1, Zb2, Zb3, Zb4, Zb5, Zb6, Zb7] at h1')
  refine Zsr ?_
  refine lq T (Zra rfl evc) ?_; clear T ac; intro ac T
  replace T := T.pick [0] rfl
  refine Zln ?_
  refine wp_ret ?_
  refine Zrt ?_
  refine rt_1 T rfl (T.e 0 rfl) ?_
  have hA9 : G = none := by cases G; rfl; simp at h1
  have hn9 : g.length = 0 := Rd.nil0 (hA9 ▸ hG)
  have hx9 : ic g = [] := List.eq_nil_of_length_eq_zero (by rw [(hG).1, hn9] <;> simp)
  rw [hn9, hx9]
  exact ⟨none, 0, [], rfl, .inl ⟨rfl, rfl, rfl, rfl, rfl⟩, M.mask [] rfl⟩
 intro h1
 (have h1' := h1; try simp only [Zb1, Zb2, Zb3, Zb4, Zb5, Zb6, Zb7] at h1')
 refine Zsk ?_
 refine Zsr ?_
 refine Zl2 ?_
 refine ow_bs0 (e := 3) M T rfl rfl rfl rfl (fun _ => by kernel_rfl) ?_; clear M T; intro g1 wc ac M T
 refine lq T (Zrm rfl (T.e 2 rfl)) ?_; clear T ac; intro ac T
 refine Zl2 ?_
 refine ow_appS Tryz.info3 M T rfl rfl rfl rfl (fun g w => Tryz.append0_31 _ _ g _ w) Tryz.underlying31 rfl rfl rfl (by omega) (T.e 1 rfl) (T.e 0 rfl) (SG.rd M (Zz9 _)) (icl_one _) ?_; clear M T; intro Augo1 cugo1 Iugo1 wc ac hSmgo1 M T
 replace M : Mem w noEx wc (Iugo1) := M.swapI
 refine lq T (Zra rfl (T.e 0 rfl)) ?_; clear T ac; intro ac T
 replace T := T.pick [0] rfl
 refine Zln ?_
 refine wp_ret ?_
 refine rt_1 T rfl (T.e 0 rfl) ?_
 exact ⟨Augo1, cugo1, Iugo1, rfl, .inr hSmgo1, M.sub (Zsq [] _)⟩
theorem cloneP_any (A : Option Addr) (d : Nat) (l : List Pt)  (w : World) (hA : Rd w w.heap.size 4 A l.length (pc l)) (nA : l.length ≤ 1000000) :
   Calls Tryz.prog 130 #[.slice A l.length d] w (CloPost 119 4 l.length (pc l) w) := by
 obtain ⟨bA, oA, SA⟩ := Sp.old hA
 refine Zpx noEx Tryz.func130 rfl 8 rfl [.slice A l.length d] rfl rfl (Mem.init w _) ?_
 intro ac wc T M
 refine Zsr ?_
 refine lq T (Zra rfl evc) ?_; clear T ac; intro ac T
 replace T := T.pick [1] rfl
 refine Zln ?_
 refine wp_seq ?_
 refine Zsr ?_
 refine Zg2 (v2 := (.bool (!A.isSome))) T (Zq (Zrm rfl (T.e 0 rfl))) rfl (fun _ T => Zq (rn_bin rfl (T.e 0 rfl) evc (eqlS47 _ _ _ _))) rfl ?_; clear T ac; intro ac T
 replace T := T.pick [0, 2] rfl
 refine Zln ?_
 refine wp_cond_split (T.e 0 rfl) ?_ ?_
 ·intro h1
  (have h1' := h1; try simp only [Zb1, Zb2, Zb3, Zb4, Zb5, Zb6, Zb7] at h1')
  refine Zsr ?_
  refine lq T (Zra rfl evc) ?_; clear T ac; intro ac T
  replace T := T.pick [0] rfl
  refine Zln ?_
  refine wp_ret ?_
  refine Zrt ?_
  refine rt_1 T rfl (T.e 0 rfl) ?_
  have hA9 : A = none := by cases A; rfl; simp at h1
  have hn9 : l.length = 0 := Rd.nil0 (hA9 ▸ hA)
  have hx9 : pc l = [] := List.eq_nil_of_length_eq_zero (by rw [(hA).1, hn9] <;> simp)
  rw [hn9, hx9]
  exact ⟨none, 0, [], rfl, .inl ⟨rfl, rfl, rfl, rfl, rfl⟩, M.mask [] rfl⟩
 intro h1
 (have h1' := h1; try simp only [Zb1, Zb2, Zb3, Zb4, Zb5, Zb6, Zb7] at h1')
 refine Zsk ?_
 refine Zsr ?_
 refine Zl2 ?_
 refine ow_bs0 (e := 119) M T rfl rfl rfl rfl (fun _ => by kernel_rfl) ?_; clear M T; intro g1 wc ac M T
 refine lq T (Zrm rfl (T.e 2 rfl)) ?_; clear T ac; intro ac T
 refine Zl2 ?_
 refine ow_appS Tryz.info119 M T rfl rfl rfl rfl (fun g w => Tryz.append0_47 _ _ g _ w) Tryz.underlying47 rfl rfl rfl (by omega) (T.e 1 rfl) (T.e 0 rfl) (SA.rd M (Zz9 _)) (pc_one _) ?_; clear M T; intro Augo1 cugo1 Iugo1 wc ac hSmgo1 M T
 replace M : Mem w noEx wc (Iugo1) := M.swapI
 refine lq T (Zra rfl (T.e 0 rfl)) ?_; clear T ac; intro ac T
 replace T := T.pick [0] rfl
 refine Zln ?_
 refine wp_ret ?_
 refine rt_1 T rfl (T.e 0 rfl) ?_
 exact ⟨Augo1, cugo1, Iugo1, rfl, .inr hSmgo1, M.sub (Zsq [] _)⟩
structure AsX where
 l : List Int
 n : Nat
 A : Option Addr
 c : Nat
def asP (x : AsX) : List Int × Nat := (x.l, x.n)
def asV (x : AsX) : List Value := [.slice x.A x.l.length x.c, .int .i64 (x.n : Int)]
def RdF (B : Nat) (w : World) (A : Option Addr) (n : Nat) (xs : List Value) : Prop := Rd w w.heap.size 1 A n xs ∧ ∀ b o, A = some ⟨b, o, none⟩ → 0 < n → B ≤ b
def AsOx (B many : Nat) (x : AsX) (W : World) : Prop := RdF B W x.A x.l.length (ic x.l) ∧ x.l.length ≤ x.c ∧ x.l.length = many ∧ x.n ≤ many
theorem RdF.kpN {B B' n : Nat} {W W' : World} {A : Option Addr} {xs : List Value} (r : RdF B W A n xs) (hK : KpN B' W W') : RdF B W' A n xs := ⟨hK.rdS r.1, r.2⟩
theorem RdF.le {B B' n : Nat} {W : World} {A : Option Addr} {xs : List Value} (r : RdF B W A n xs) (h : B' ≤ B) : RdF B' W A n xs := ⟨r.1, fun b o h1 h2 => Nat.le_trans h (r.2 b o h1 h2)⟩
theorem AsOx.calm (B0 many B : Nat) : Calm B (AsOx B0 many) := fun x W W' h hk => ⟨h.1.kpN hk, h.2⟩
theorem KpB.of {l : Nat} {eb : Nat → Prop} {w wc : World} {L : List (Nat × BA)} (M : Mem w noEx wc L) : KpB l eb w wc :=
 ⟨M.os, M.tape, M.output, M.size, fun b hb _ => M.block b hb (fun h => h), fun p hp => absurd hp List.not_mem_nil, List.nodup_nil⟩
theorem KpB.trans {l : Nat} {eb : Nat → Prop} {x y z : World} (h : KpB l eb x y) (k : KpB l eb y z) : KpB l eb x z :=
 ⟨k.os.trans h.os, k.tape.trans h.tape, k.output.trans h.output, Nat.le_trans h.size k.size, fun b hb he => (k.block b (Nat.lt_of_lt_of_le hb h.size) he).trans (h.block b hb he), fun p hp => absurd hp List.not_mem_nil, List.nodup_nil⟩
theorem KpB.rdF {l B n : Nat} {eb : Nat → Prop} {w w' : World} {A : Option Addr} {xs : List Value} (h : KpB l eb w w') (hl : l < B) (he : ∀ b, eb b → b < B) (r : RdF B w A n xs) : RdF B w' A n xs :=
 ⟨⟨r.1.1, fun hn => by
  obtain ⟨b, o, h1, h2, h3⟩ := r.1.2 hn
  have hb := r.2 b o h1 hn
  refine ⟨b, o, h1, Nat.lt_of_lt_of_le h2 h.size, fun j u hu => (World.cell?_of_block (w := w) (a := ⟨b, o + j, none⟩) (h.block b h2 fun hh => ?_)).trans (h3 j u hu)⟩
  rcases hh with hh | hh
  ·omega
  ·have := he b hh
   omega⟩, r.2⟩
theorem RdF.mem {B n : Nat} {w w' : World} {A : Option Addr} {xs : List Value} {L : List (Nat × BA)} (r : RdF B w A n xs) (M : Mem w noEx w' L) : RdF B w' A n xs :=
 ⟨⟨r.1.1, fun hn => by
  obtain ⟨b, o, h1, h2, h3⟩ := r.1.2 hn
  exact ⟨b, o, h1, Nat.lt_of_lt_of_le h2 M.size, fun j u hu => (World.cell?_of_block (w := w) (a := ⟨b, o + j, none⟩) (M.block b h2 fun hh => hh)).trans (h3 j u hu)⟩⟩, r.2⟩
def asN (k : Nat) (b : List Int) (sh x : Nat) : List (List Int × Nat) := (List.range x).flatMap fun n : Nat => asgP k (b ++ [(n : Int)]) (max sh (n + 1))
theorem asN_succ (k : Nat) (b : List Int) (sh x : Nat) : asN k b sh (x + 1) = asN k b sh x ++ asgP k (b ++ [(x : Int)]) (max sh (x + 1)) := by
 unfold asN
 rw [List.range_succ, List.flatMap_append]
 simp
theorem asN_end (k : Nat) (b : List Int) (sh : Nat) : asgP (k + 1) b sh = asN k b sh (sh + 1) := rfl
theorem asN_mono {k : Nat} {b : List Int} {sh x : Nat} : ∀ y, asN k b sh x <+: asN k b sh (x + y)
 | 0 => List.prefix_refl _
 | y + 1 => (asN_mono y).trans (by rw [← Nat.add_assoc, asN_succ]; exact List.prefix_append _ _)
theorem asN_pre {k : Nat} {b : List Int} {sh x : Nat} {t : List (List Int × Nat)} (hx : x ≤ sh) (h : t <+: asgP k (b ++ [(x : Int)]) (max sh (x + 1))) : asN k b sh x ++ t <+: asgP (k + 1) b sh := by
 have h1 : asN k b sh x ++ t <+: asN k b sh (x + 1) := by rw [asN_succ]; exact (List.prefix_append_right_inj _).2 h
 have h2 := asN_mono (k := k) (b := b) (sh := sh) (x := x + 1) (sh - x)
 rw [show x + 1 + (sh - x) = sh + 1 by omega] at h2
 exact h1.trans h2
def NextR (J Jx : List AsX → World → Prop) (k : Nat) (b : List Int) (sh : Nat) (pre : List AsX) (r : Bool) (xs : List AsX) (W : World) : Prop := (r = true → xs.map asP = asgP k b sh ∧ J (pre ++ xs) W) ∧ (r = false → xs.map asP <+: asgP k b sh ∧ Jx (pre ++ xs) W)
def NextPost (J Jx : List AsX → World → Prop) (lr : Nat) (eb : Nat → Prop) (k : Nat) (b : List Int) (sh : Nat) (pre : List AsX) (w0 : World) (e : Ending) (W : World) : Prop := ∃ (r : Bool) (xs : List AsX), e = .returned (.bool r) ∧ KpB lr eb w0 W ∧ NextR J Jx k b sh pre r xs W
def NextSpec (lr gm gy gn B many : Nat) (eb : Nat → Prop) (J Jx : List AsX → World → Prop) (k : Nat) : Prop := ∀ (b : List Int) (A : Option Addr) (m c sh : Nat) (pre : List AsX) (w0 w : World), m = b.length → m ≤ c → b.length + k = many → sh ≤ b.length → KpB lr eb w0 w → B ≤ w.heap.size → RdF B w A m (ic b) → J pre w →
 Bk w gm #[.int .i64 (many : Int)] → Bk w gy #[.func (.yield lr) #[] #[]] → Bk w gn #[.func (.func 228) #[] #[.pointer (some ⟨gm, 0, none⟩), .pointer (some ⟨gy, 0, none⟩), .pointer (some ⟨gn, 0, none⟩)]] →
 Calls Tryz.prog 228 #[.slice A m c, .int .i64 (sh : Int), .pointer (some ⟨gm, 0, none⟩), .pointer (some ⟨gy, 0, none⟩), .pointer (some ⟨gn, 0, none⟩)] w (NextPost J Jx lr eb k b sh pre w0)
set_option maxHeartbeats 4000000 in
theorem next_step (lr gm gy gn B many : Nat) (eb : Nat → Prop) (J Jx : List AsX → World → Prop) (k : Nat) (b : List Int) (A : Option Addr) (c sh : Nat) (pre : List AsX) (w0 : World)  (w : World) (hlr : lr < B) (heb : ∀ b, eb b → b < B) (hxm : ¬ (gm = lr ∨ eb gm)) (hxy : ¬ (gy = lr ∨ eb gy)) (hxn : ¬ (gn = lr ∨ eb gn)) (h5 : many ≤ 5) (hJ : Calm B J) (hJx : Calm B Jx)
   (hY : ∀ pre x W1, J pre W1 → AsOx B many x W1 → YieldAt Fence.wide 6 Tryz.prog lr (asV x).toArray W1 fun e W' =>
     (e = .returned (.bool true) ∧ J (pre ++ [x]) W' ∧ KpB lr eb W1 W') ∨ (e = .returned (.bool false) ∧ Jx (pre ++ [x]) W' ∧ KpB lr eb W1 W'))
   (ih : ∀ k1, k = k1 + 1 → NextSpec lr gm gy gn B many eb J Jx k1) (hbc : b.length ≤ c) (hm : b.length + k = many) (hsh : sh ≤ b.length) (hk0 : KpB lr eb w0 w) (hB : B ≤ w.heap.size) (hb : RdF B w A b.length (ic b)) (hj : J pre w) (qm : Bk w gm #[.int .i64 (many : Int)]) (qy : Bk w gy #[.func (.yield lr) #[] #[]]) (qn : Bk w gn #[.func (.func 228) #[] #[.pointer (some ⟨gm, 0, none⟩), .pointer (some ⟨gy, 0, none⟩), .pointer (some ⟨gn, 0, none⟩)]])  :
   Calls Tryz.prog 228 #[.slice A b.length c, .int .i64 (sh : Int), .pointer (some ⟨gm, 0, none⟩), .pointer (some ⟨gy, 0, none⟩), .pointer (some ⟨gn, 0, none⟩)] w (NextPost J Jx lr eb k b sh pre w0) := by
 obtain ⟨bG, oG, SG⟩ := Sp.old hb.1
 refine Zpx noEx Tryz.func228 rfl 35 rfl [.slice A b.length c, .int .i64 (sh : Int), .pointer (some ⟨gm, 0, none⟩), .pointer (some ⟨gy, 0, none⟩), .pointer (some ⟨gn, 0, none⟩)] rfl rfl (Mem.init w _) ?_
 intro ac wc T M
 refine Zsr ?_
 refine lq T (Zra rfl evc) ?_; clear T ac; intro ac T
 replace T := T.pick [1, 2, 3, 4, 5] rfl
 refine Zln ?_
 refine wp_seq ?_
 refine Zsr ?_
 refine Zg4 T (Zq (Zrm rfl (T.e 0 rfl))) rfl (Zl Tryz.underlying31 0 rfl rfl) rfl (fun _ T => Zq (Zro (Mem.old M qm (fun h => h)) rfl (T.e 4 rfl) rfl)) rfl (fun _ T => Zq (rn_eql rfl (T.e 1 rfl) (T.e 0 rfl))) rfl ?_; clear T ac; intro ac T
 replace T := T.pick [0, 4, 5, 7, 8] rfl
 refine Zln ?_
 refine wp_if (T.e 0 rfl) ?_ ?_
 ·intro h1
  obtain rfl : k = 0 := by omega
  refine wp_seq ?_
  refine fr_lit ?_
  refine fl_q T rfl rfl rfl rfl (Zro (Mem.old M qy (fun h => h)) rfl (T.e 3 rfl) rfl) ?_; clear T ac; intro ac T
  refine fl_q T rfl rfl rfl rfl (Zrm rfl (T.e 2 rfl)) ?_; clear T ac; intro ac T
  refine fl_q T rfl rfl rfl rfl (Zrm rfl (T.e 4 rfl)) ?_; clear T ac; intro ac T
  refine fl_y rfl ?_; intro K hK
  have hj9 := hJ _ _ _ hj ((KpN.of_below M.below).mono hB)
  have hb9 := hb.mem M
  have hk9 := hk0.trans (KpB.of M)
  have hB9 := Nat.le_trans hB M.size
  refine ow_yield T rfl rfl rfl rfl (T.e 2 rfl) (.cons (T.e 1 rfl) (.cons (T.e 0 rfl) .nil)) (hY pre ⟨b, sh, A, c⟩ _ hj9 ⟨hb9, hbc, by dsimp only; omega, by dsimp only; omega⟩) ?_
  clear T M
  rintro e wc (⟨rfl, hj8, hkp⟩ | ⟨rfl, hj8, hkp⟩)
  ·refine ⟨_, rfl, ?_⟩
   intro ac T
   have M : Mem wc noEx wc [] := Mem.init wc _
   refine Zso hK _ _ ?_; clear hK K
   refine fl_q T rfl rfl rfl rfl (Zra rfl (T.e 0 rfl)) ?_; clear T ac; intro ac T
   refine fl_nil ?_
   replace T := T.pick [0] rfl
   refine Znr ?_
   refine Zrt ?_
   refine rt_1 T rfl (T.e 0 rfl) ?_
   refine ⟨true, [⟨b, sh, A, c⟩], rfl, (hk9.trans hkp).trans (KpB.of M), ?_, ?_⟩
   exact fun _ => ⟨rfl, hJ _ _ _ hj8 ((KpN.of_below M.below).mono (Nat.le_trans hB9 hkp.size))⟩
   exact fun h => by cases h
  refine ⟨_, rfl, ?_⟩
  intro ac T
  have M : Mem wc noEx wc [] := Mem.init wc _
  refine Zso hK _ _ ?_; clear hK K
  refine fl_q T rfl rfl rfl rfl (Zra rfl (T.e 0 rfl)) ?_; clear T ac; intro ac T
  refine fl_nil ?_
  replace T := T.pick [0] rfl
  refine Znr ?_
  refine Zrt ?_
  refine rt_1 T rfl (T.e 0 rfl) ?_
  refine ⟨false, [⟨b, sh, A, c⟩], rfl, (hk9.trans hkp).trans (KpB.of M), ?_, ?_⟩
  exact fun h => by cases h
  exact fun _ => ⟨List.prefix_refl _, hJx _ _ _ hj8 ((KpN.of_below M.below).mono (Nat.le_trans hB9 hkp.size))⟩
 intro h1
 obtain ⟨k1, rfl⟩ : ∃ k1, k = k1 + 1 := ⟨k - 1, by omega⟩
 refine Zsk ?_
 refine wp_seq ?_
 refine Zsr ?_
 refine Zg3 T (Zq (Zrm rfl (T.e 2 rfl))) rfl (fun _ T => Zq (rn_add rfl (T.e 0 rfl) evc (by omega))) rfl (fun _ T => Zq (Zrm rfl evc)) rfl ?_; clear T ac; intro ac T
 replace T := T.pick [0, 1, 4, 5, 7] rfl
 refine Zln ?_
 refine wp_block ?_
 refine wp_loop_n (fun mz ac wc => ∃ (w : World) (x : Nat) (xs : List AsX), mz = sh + 1 - x ∧ (x ≤ sh + 1) ∧ (xs.map asP = asN k1 b sh x) ∧ (J (pre ++ xs) w) ∧ (KpB lr eb w0 w) ∧ (B ≤ w.heap.size) ∧ (RdF B w A b.length (ic b)) ∧ (Bk w gm #[.int .i64 (many : Int)]) ∧ (Bk w gy #[.func (.yield lr) #[] #[]]) ∧ (Bk w gn #[.func (.func 228) #[] #[.pointer (some ⟨gm, 0, none⟩), .pointer (some ⟨gy, 0, none⟩), .pointer (some ⟨gn, 0, none⟩)]]) ∧ Tm ac 35 [(0, .slice A b.length c), (1, .int .i64 (sh : Int)), (4, .pointer (some ⟨gn, 0, none⟩)), (18, .int .i64 ((sh : Int) + 1)), (19, .int .i64 (x : Int))] ∧ Mem w noEx wc []) ?_ ?_
 ·exact ⟨_, w, 0, [], rfl, (by omega), rfl, (by simpa using hj), hk0, hB, hb, qm, qy, qn, T.pick [2, 3, 4, 1, 0] rfl, M.mask [] rfl⟩
 clear T M
 rintro mz ac wc ⟨w, x, xs, hmm1, hx, hp, hj, hk0, hB, hb, qm, qy, qn, T, M⟩
 refine Zsr ?_
 refine lq T (rn_lss rfl (T.e 4 rfl) (T.e 3 rfl)) ?_; clear T ac; intro ac T
 refine Zln ?_
 refine wp_seq ?_
 refine wp_if (T.e 0 rfl) ?_ ?_
 ·intro h2
  obtain ⟨bG, oG, SG⟩ := Sp.old hb.1
  refine Zsk ?_
  refine wp_seq ?_
  refine wp_block ?_
  refine Zsr ?_
  refine Zg2 T (Zq (Zrm rfl (T.e 5 rfl))) rfl (Za 0 rfl rfl) rfl ?_; clear T ac; intro ac T
  replace T := T.pick [0, 3, 4, 5, 6, 7] rfl
  refine Zln ?_
  refine wp_seq ?_
  refine g_startT M 12 (by kernel_rfl) rfl (by kernel_rfl) ?_
  clear M; intro wc M
  refine g_addG 10 M ?_
  refine g_have (fun ac wc => ∃ (Acur6_2 : Option Addr), ∃ (ccur6_2 : Nat), ∃ (Icur6_2 : List (Nat × BA)), (Cl 3 1 Acur6_2 b.length ccur6_2 (ic b) Icur6_2) ∧ ∃ (gr6_4 : Nat), Tm ac 35 [(26, .slice (some ⟨gr6_4, 0, none⟩) 1 1), (24, .slice Acur6_2 b.length ccur6_2), (31, .int .i64 (max (sh : Int) ((x : Int) + 1))), (30, .int .i64 ((x : Int) + 1)), (29, .int .i64 (x : Int)), (28, .int .i64 (sh : Int)), (25, .int .i64 (x : Int)), (23, .slice A b.length c), (22, .func (.func 228) #[] #[.pointer (some ⟨gm, 0, none⟩), .pointer (some ⟨gy, 0, none⟩), .pointer (some ⟨gn, 0, none⟩)]), (8, .int .i64 (x : Int)), (0, .slice A b.length c), (1, .int .i64 (sh : Int)), (4, .pointer (some ⟨gn, 0, none⟩)), (18, .int .i64 ((sh : Int) + 1)), (19, .int .i64 (x : Int))] ∧ Mem w noEx wc ((gr6_4, .cells [.int .i64 (x : Int)]) :: Icur6_2)) (Zpb 12 991) 3 ?_ ?_
  ·clear T M
   rintro ac wc ⟨Acur6_2, ccur6_2, Icur6_2, hclur6_2, gr6_4, T, M⟩
   refine gw 5 1023 ?_; intro K hK
   refine ow_appC ([(gr6_4, .cells [.int .i64 (x : Int)])]) Tryz.info3 hclur6_2 M (by first | rfl | simp) T rfl rfl rfl rfl Tryz.underlying31 rfl rfl rfl (by omega) (T.e 1 rfl) (T.e 0 rfl) (Zne (i := 0) rfl) rfl rfl ?_; clear M T; intro ga1 cga1 wc ac M T
   refine Zso hK _ _ (MA.mk (fun _ => M.mask [false, false] rfl) trivial) ?_; clear hK K
   refine gw 10 2047 ?_; intro K hK
   have e9 : max (sh : Int) ((x : Int) + 1) = ((max sh (x + 1) : Nat) : Int) := by omega
   rw [e9] at T
   refine Zoc (first := []) (cap := [.pointer (some ⟨gm, 0, none⟩), .pointer (some ⟨gy, 0, none⟩), .pointer (some ⟨gn, 0, none⟩)]) T rfl rfl rfl rfl (T.e 9 rfl) (.cons (T.e 0 rfl) (.cons (T.e 3 rfl) .nil)) Tryz.func228 rfl rfl ?_
   refine Calls.mono (ih k1 rfl (b ++ [(x : Int)]) _ _ _ _ (pre ++ xs) _ _ (by simp) ((Cl.row _ _ ga1 _ _ _).capLe M (List.Sublist.cons_cons _ (Zz9 _))) (by simp; omega) (by simp; omega) (KpB.of (Mem.init _ _)) (Nat.le_trans hB M.size) ⟨by rw [← ic_snoc]; exact M.rdRow (Zne (i := 0) rfl), fun b9 o9 h9 _ => by injection h9 with h9; injection h9 with h9 _ _; rw [← h9]; exact Nat.le_trans hB (M.ge (Zne (i := 0) rfl))⟩ (hJ _ _ _ hj ((KpN.of_below M.below).mono hB)) (M.old qm (fun h => h)) (M.old qy (fun h => h)) (M.old qn (fun h => h))) ?_
   clear T; rintro e wc ⟨rur6_10, xsur6_10, rfl, hkpur6_10, hnrur6_10⟩ ac T
   have hkpur6_10 := (KpB.of M).trans hkpur6_10
   clear M
   have qm := Mem.old hkpur6_10 qm hxm
   have qy := Mem.old hkpur6_10 qy hxy
   have qn := Mem.old hkpur6_10 qn hxn
   have hb := hkpur6_10.rdF hlr heb hb
   have hk0 := hk0.trans hkpur6_10
   have hB := Nat.le_trans hB hkpur6_10.size
   obtain ⟨w, hwe⟩ : ∃ q : World, q = wc := ⟨_, rfl⟩
   have M : Mem w noEx wc [] := by rw [hwe]; exact Mem.init wc _
   rw [← hwe] at qm qy qn hb hB hk0 hnrur6_10
   clear hwe hkpur6_10
   refine Zso hK _ _ (MA.mk (fun h => (no_of (by kernel_rfl) h).elim) trivial) ?_; clear hK K
   refine g_q (T := T) (i := 11) rfl (by kernel_rfl) (by kernel_rfl : (Zpb 12 2047).setIfInBounds 11 true = Zpb 12 4095) (si_and (si_G rfl) si_T) (fun _ _ _ h => h) rfl rfl rfl rfl (fun _ _ _ _ _ => (rn_not rfl (T.e 0 rfl))) ?_; clear T ac; intro ac T
   refine Zgd (by kernel_rfl) ?_
   replace T := T.pick [0, 13, 14, 15, 16, 17] rfl
   refine nm_then ?_
   refine wp_cond_split (T.e 0 rfl) ?_ ?_
   ·intro h3
    (have h3' := h3; try simp only [Zb1, Zb2, Zb3, Zb4, Zb5, Zb6, Zb7] at h3')
    refine Zsr ?_
    refine lq T (Zra rfl evc) ?_; clear T ac; intro ac T
    replace T := T.pick [0] rfl
    refine Zln ?_
    refine wp_ret ?_
    refine Zrb ?_
    refine Zrt ?_
    refine Zrt ?_
    refine Zrb ?_
    refine Zrt ?_
    refine rt_1 T rfl (T.e 0 rfl) ?_
    have hr9 : rur6_10 = false := by simp_all
    have h8 := hnrur6_10.2 hr9
    refine ⟨false, xs ++ xsur6_10, rfl, hk0.trans (KpB.of M), (fun h => by cases h), fun _ => ⟨(by rw [List.map_append, hp]; exact asN_pre (by omega) h8.1), ?_⟩⟩
    rw [← List.append_assoc]
    exact hJx _ _ _ h8.2 ((KpN.of_below M.below).mono hB)
   intro h3
   (have h3' := h3; try simp only [Zb1, Zb2, Zb3, Zb4, Zb5, Zb6, Zb7] at h3')
   refine wp_skip ?_
   refine Znb ?_
   refine nm_then ?_
   refine wp_region_lit ?_
   refine lq T (rn_add rfl (T.e 5 rfl) evc (by omega)) ?_; clear T ac; intro ac T
   refine l_q (v := (.int .i64 ((x : Int) + 1))) (T.pick [0, 1, 2, 3, 4, 5] rfl) rfl rfl rfl rfl (Zrm rfl (T.e 0 rfl)) ?_; clear T ac; intro ac T
   replace T := T.pick [0, 3, 4, 5, 6] rfl
   refine Zln ?_
   exact ⟨_, by omega, _, x + 1, (xs ++ xsur6_10), rfl, (by omega), (by rw [List.map_append, hp, (hnrur6_10.1 (by simp_all)).1, asN_succ]), (by rw [← List.append_assoc]; exact (hnrur6_10.1 (by simp_all)).2), hk0, hB, hb, qm, qy, qn, T.pick [1, 2, 3, 4, 0] rfl, M.mask [] rfl⟩
  intro H0
  refine g_q (T := T) (i := 0) rfl (by kernel_rfl) (by kernel_rfl : (Zpb 12 0).setIfInBounds 0 true = Zpb 12 1) (si_and (si_G rfl) si_T) (fun _ _ _ h => h) rfl rfl rfl rfl (fun B w' hD hl hS => (Zro (Mem.old (show Mem w noEx w' _ from ((MA.lft hS) (hD.wait (i := 0) (m := 10) (by kernel_rfl) hl))) qn (fun h => h)) rfl (T.e 3 rfl) rfl)) ?_; clear T ac; intro ac T
  refine g_q (T := T) (i := 1) rfl (by kernel_rfl) (by kernel_rfl : (Zpb 12 1).setIfInBounds 1 true = Zpb 12 3) (si_and (si_G rfl) si_T) (fun _ _ _ h => h) rfl rfl rfl rfl (fun _ _ _ _ _ => (Zrm rfl (T.e 2 rfl))) ?_; clear T ac; intro ac T
  refine g_q (T := T) (i := 3) rfl (by kernel_rfl) (by kernel_rfl : (Zpb 12 3).setIfInBounds 3 true = Zpb 12 11) (si_and (si_G rfl) si_T) (fun _ _ _ h => h) rfl rfl rfl rfl (fun _ _ _ _ _ => (Zrm rfl (T.e 2 rfl))) ?_; clear T ac; intro ac T
  refine g_q (T := T) (i := 6) rfl (by kernel_rfl) (by kernel_rfl : (Zpb 12 11).setIfInBounds 6 true = Zpb 12 75) (si_and (si_G rfl) si_T) (fun _ _ _ h => h) rfl rfl rfl rfl (fun _ _ _ _ _ => (Zrm rfl (T.e 5 rfl))) ?_; clear T ac; intro ac T
  refine g_q (T := T) (i := 7) rfl (by kernel_rfl) (by kernel_rfl : (Zpb 12 75).setIfInBounds 7 true = Zpb 12 203) (si_and (si_G rfl) si_T) (fun _ _ _ h => h) rfl rfl rfl rfl (fun _ _ _ _ _ => (Zrm rfl (T.e 4 rfl))) ?_; clear T ac; intro ac T
  refine g_q (T := T) (i := 8) rfl (by kernel_rfl) (by kernel_rfl : (Zpb 12 203).setIfInBounds 8 true = Zpb 12 459) (si_and (si_G rfl) si_T) (fun _ _ _ h => h) rfl rfl rfl rfl (fun _ _ _ _ _ => (rn_add rfl (T.e 0 rfl) evc (by omega))) ?_; clear T ac; intro ac T
  refine g_q (T := T) (i := 9) rfl (by kernel_rfl) (by kernel_rfl : (Zpb 12 459).setIfInBounds 9 true = Zpb 12 971) (si_and (si_G rfl) si_T) (fun _ _ _ h => h) rfl rfl rfl rfl (fun _ _ _ _ _ => (rn_max2 rfl (T.e 2 rfl) (T.e 0 rfl))) ?_; clear T ac; intro ac T
  refine g_m2 (i := 2) (j := 4) (by kernel_rfl) ?_ ?_
  ·refine gi 975 ?_; intro K hK
   refine Zoc (first := []) (cap := []) T rfl rfl rfl rfl evf (.cons (T.e 5 rfl) .nil) Tryz.func229 rfl rfl ?_
   refine Calls.mono (cloneI_any A c b _ (SG.rd M (Zz9 _)) (by omega)) ?_
   clear T; rintro e wc ⟨Acur6_2, ccur6_2, Icur6_2, rfl, hclur6_2, N⟩ ac T
   replace M := (M.join N).swapI
   clear N
   replace M : Mem w noEx wc (Icur6_2) := M
   refine Zso hK _ _ (MA.mk (fun _ => M.perm [] rfl rfl) trivial) ?_; clear hK K
   refine gw 4 991 ?_; intro K hK
   refine ow_bs (e := 3) [.int .i64 (x : Int)] M T rfl rfl rfl rfl (.cons (T.e 5 rfl) .nil) (fun _ => by kernel_rfl) ?_; clear M T; intro gr6_4 wc ac M T
   refine Zso hK _ _ (MA.mk (fun _ => M.perm [] rfl rfl) trivial) ?_; clear hK K
   exact H0 _ _ ⟨Acur6_2, ccur6_2, Icur6_2, hclur6_2, gr6_4, T, M⟩
  refine gi 987 ?_; intro K hK
  refine ow_bs (e := 3) [.int .i64 (x : Int)] M T rfl rfl rfl rfl (.cons (T.e 4 rfl) .nil) (fun _ => by kernel_rfl) ?_; clear M T; intro gr6_4 wc ac M T
  refine Zso hK _ _ (MA.mk (fun _ => M.mask [false] rfl) trivial) ?_; clear hK K
  refine gw 2 991 ?_; intro K hK
  refine Zoc (first := []) (cap := []) T rfl rfl rfl rfl evf (.cons (T.e 6 rfl) .nil) Tryz.func229 rfl rfl ?_
  refine Calls.mono (cloneI_any A c b _ (SG.rd M (Zz9 _)) (by omega)) ?_
  clear T; rintro e wc ⟨Acur6_2, ccur6_2, Icur6_2, rfl, hclur6_2, N⟩ ac T
  replace M := (M.join N).swapI
  clear N
  replace M : Mem w noEx wc ((gr6_4, .cells [.int .i64 (x : Int)]) :: Icur6_2) := M
  refine Zso hK _ _ (MA.mk (fun _ => M.perm [] rfl rfl) trivial) ?_; clear hK K
  exact H0 _ _ ⟨Acur6_2, ccur6_2, Icur6_2, hclur6_2, gr6_4, T.pick [1, 0, 2, 3, 4, 5, 6, 7, 8, 9, 10, 11, 12, 13, 14] rfl, M⟩
 intro h2
 refine wp_exit ?_
 refine Zet ?_
 refine Zet ?_
 refine ex_hit ?_
 refine nm_then ?_
 refine Zsr ?_
 refine lq T (Zra rfl evc) ?_; clear T ac; intro ac T
 replace T := T.pick [0] rfl
 refine Zln ?_
 refine wp_ret ?_
 refine rt_1 T rfl (T.e 0 rfl) ?_
 refine ⟨true, xs, rfl, hk0.trans (KpB.of M), fun _ => ⟨(by rw [asN_end, hp, show x = sh + 1 by omega]), hJ _ _ _ hj ((KpN.of_below M.below).mono hB)⟩, (fun h => by cases h)⟩
theorem next_any (lr gm gy gn B many : Nat) (eb : Nat → Prop) (J Jx : List AsX → World → Prop) (hlr : lr < B) (heb : ∀ b, eb b → b < B) (hxm : ¬ (gm = lr ∨ eb gm)) (hxy : ¬ (gy = lr ∨ eb gy)) (hxn : ¬ (gn = lr ∨ eb gn)) (h5 : many ≤ 5) (hJ : Calm B J) (hJx : Calm B Jx)
  (hY : ∀ pre x W1, J pre W1 → AsOx B many x W1 → YieldAt Fence.wide 6 Tryz.prog lr (asV x).toArray W1 fun e W' =>
   (e = .returned (.bool true) ∧ J (pre ++ [x]) W' ∧ KpB lr eb W1 W') ∨ (e = .returned (.bool false) ∧ Jx (pre ++ [x]) W' ∧ KpB lr eb W1 W')) (k : Nat) : NextSpec lr gm gy gn B many eb J Jx k := by
 induction k with
 | zero =>
  intro b A m c sh pre w0 w hm hc hk hs hk0 hB hb hj qm qy qn
  subst hm
  exact next_step lr gm gy gn B many eb J Jx 0 b A c sh pre w0 w hlr heb hxm hxy hxn h5 hJ hJx hY (fun k1 h => by omega) hc hk hs hk0 hB hb hj qm qy qn
 | succ k ih =>
  intro b A m c sh pre w0 w hm hc hk hs hk0 hB hb hj qm qy qn
  subst hm
  exact next_step lr gm gy gn B many eb J Jx (k + 1) b A c sh pre w0 w hlr heb hxm hxy hxn h5 hJ hJx hY (fun k1 h => by
   obtain rfl : k = k1 := by omega
   exact ih) hc hk hs hk0 hB hb hj qm qy qn
theorem asg1_in (lr b1 B many : Nat) (eb : Nat → Prop) (J Jx : List AsX → World → Prop)  (w : World) (h5 : many ≤ 5) (hx1 : ¬ (b1 = lr ∨ eb b1)) (hlr : lr < B) (heb : ∀ b, eb b → b < B) (hB : B ≤ w.heap.size) (hJ : Calm B J) (hJx : Calm B Jx)
  (hY : ∀ pre x W1, J pre W1 → AsOx B many x W1 → YieldAt Fence.wide 6 Tryz.prog lr (asV x).toArray W1 fun e W' =>
   (e = .returned (.bool true) ∧ J (pre ++ [x]) W' ∧ KpB lr eb W1 W') ∨ (e = .returned (.bool false) ∧ Jx (pre ++ [x]) W' ∧ KpB lr eb W1 W'))
  (q1 : Bk w b1 #[.int .i64 (many : Int)]) (hj : J [] w) :
  Calls Tryz.prog 227 #[.func (.yield lr) #[] #[], .pointer (some ⟨b1, 0, none⟩)] w fun e W' => (∃ v, e = .returned v) ∧ ((∃ xs : List AsX, xs.map asP = asgP many [] 0 ∧ J xs W') ∨ (∃ pre : List AsX, pre.map asP <+: asgP many [] 0 ∧ Jx pre W')) := by
 refine Zpx noEx Tryz.func227 rfl 7 rfl [.func (.yield lr) #[] #[], .pointer (some ⟨b1, 0, none⟩)] rfl rfl (Mem.init w _) ?_
 intro ac wc T M
 refine Zsr ?_
 refine Zl2 ?_
 refine Zob M T rfl rfl rfl rfl (T.e 0 rfl) rfl ?_; clear M T; intro g1 wc ac M T
 replace T := T.pick [0, 2] rfl
 refine Zln ?_
 refine Zsr ?_
 refine Zl2 ?_
 refine Zoa M T rfl rfl rfl rfl ?_; clear M T; intro g2 wc ac M T
 refine Zln ?_
 refine Zsr ?_
 refine lq (v := (.func (.func 228) #[] #[.pointer (some ⟨b1, 0, none⟩), .pointer (some ⟨g1, 0, none⟩), .pointer (some ⟨g2, 0, none⟩)])) T (rn_makeFunc rfl .nil (.cons (T.e 2 rfl) (.cons (T.e 1 rfl) (.cons (T.e 0 rfl) .nil)))) ?_; clear T ac; intro ac T
 refine Zl2 ?_
 refine Zos M T rfl rfl (T.e 1 rfl) (T.e 0 rfl) rfl .head rfl (by simp) rfl (by kernel_rfl) ?_; clear M T; intro wc ac M T
 replace T := T.pick [1] rfl
 refine Zln ?_
 refine wp_region_lit ?_
 refine lq T (Zro (Mem.nth M 0 rfl) rfl (T.e 0 rfl) rfl) ?_; clear T ac; intro ac T
 refine Zl2 ?_
 have hgy := Nat.le_trans hB (M.ge (Zne (i := 1) rfl))
 have hgn := Nat.le_trans hB (M.ge (Zne (i := 0) rfl))
 have hj := hJ _ _ _ hj ((KpN.of_below M.below).mono hB)
 refine Zoc (first := []) (cap := [.pointer (some ⟨b1, 0, none⟩), .pointer (some ⟨g1, 0, none⟩), .pointer (some ⟨g2, 0, none⟩)]) T rfl rfl rfl rfl (T.e 0 rfl) (.cons evc (.cons evc .nil)) Tryz.func228 rfl rfl ?_
 refine Calls.mono (next_any lr b1 g1 g2 B many eb J Jx hlr heb hx1 (fun h9 => h9.elim (fun h9 => by omega) (fun h9 => by have := heb _ h9; omega)) (fun h9 => h9.elim (fun h9 => by omega) (fun h9 => by have := heb _ h9; omega)) h5 hJ hJx hY many [] none 0 0 0 [] _ _ rfl (Nat.le_refl _) (by simp) (Nat.le_refl _) (KpB.of (Mem.init _ _)) (Nat.le_trans hB M.size) ⟨⟨by simp [ic], fun h => absurd h (by omega)⟩, fun _ _ h => by cases h⟩ hj (M.old q1 (fun h => h)) (M.nth 1 rfl) (M.nth 0 rfl)) ?_
 clear T; rintro e wc ⟨ru1, xsu1, rfl, hkpu1, hnru1⟩ ac T
 clear M
 have M : Mem wc noEx wc [] := Mem.init wc _
 refine wpList_nil ?_
 replace T := T.pick [] rfl
 refine nm_0 T rfl ?_
 unfold NextR at hnru1
 simp only [List.nil_append] at hnru1
 cases ru1 with
 | true => exact ⟨⟨_, rfl⟩, .inl ⟨xsu1, hnru1.1 rfl⟩⟩
 | false => exact ⟨⟨_, rfl⟩, .inr ⟨xsu1, hnru1.2 rfl⟩⟩
theorem asg_seq (b1 many : Nat) (eb : Nat → Prop) (w : World) (h5 : many ≤ 5) (hx1 : ¬ eb b1) (heb : ∀ b, eb b → b < w.heap.size) (q1 : Bk w b1 #[.int .i64 (many : Int)]) :
  SeqB (α := AsX) Tryz.prog 227 #[.pointer (some ⟨b1, 0, none⟩)] (fun x => (asV x).toArray) eb (AsOx w.heap.size many) (fun xs => xs.map asP = asgP many [] 0) (fun pre => pre.map asP <+: asgP many [] 0) w :=
 fun lr J Jx W hW hl1 hl2 hJ hJx hY hj => asg1_in lr b1 W.heap.size many eb J Jx W h5 (fun h => h.elim (fun h => by have := q1.lt; omega) hx1) hl2 (fun b h => Nat.lt_of_lt_of_le (heb b h) hW.size) (Nat.le_refl _) hJ hJx (fun pre x W1 h1 h2 => hY pre x W1 h1 ⟨h2.1.le hW.size, h2.2⟩) (q1.below hW) hj
def AsgPost (many : Nat) (w : World) (e : Ending) (w' : World) : Prop := ∃ g, e = .returned (.func (.func 227) #[] #[.pointer (some ⟨g, 0, none⟩)]) ∧ Mem w noEx w' [(g, .cells [.int .i64 (many : Int)])]
theorem asg_any (many : Nat) (w : World)  :
  Calls Tryz.prog 190 #[.int .i64 (many : Int)] w (AsgPost many w) := by
 refine Zpx noEx Tryz.func190 rfl 4 rfl [.int .i64 (many : Int)] rfl rfl (Mem.init w _) ?_
 intro ac wc T M
 refine Zsr ?_
 refine Zl2 ?_
 refine Zob M T rfl rfl rfl rfl (T.e 0 rfl) rfl ?_; clear M T; intro g1 wc ac M T
 refine lq T (Zra rfl evc) ?_; clear T ac; intro ac T
 replace T := T.pick [1] rfl
 refine Zln ?_
 refine Zsr ?_
 refine Zg2 (v1 := (.func (.func 227) #[] #[.pointer (some ⟨g1, 0, none⟩)])) T (Zq (rn_makeFunc rfl .nil (.cons (T.e 0 rfl) .nil))) rfl (Za 0 rfl rfl) rfl ?_; clear T ac; intro ac T
 replace T := T.pick [0] rfl
 refine Zln ?_
 refine wp_ret ?_
 refine rt_1 T rfl (T.e 0 rfl) ?_
 exact ⟨g1, rfl, M⟩
noncomputable def canW (a c : Int) (s : Sk) (L : List Pt) : Bool := canB a c L (whR s L)
def okW (a c : Int) (s : Sk) (key val : Value) : Prop := ∀ m : Nat, key = .int .u64 (m : Int) → val = .bool (canW a c s (sel s.ps m))
theorem okW_of {a c : Int} {s : Sk} {m : Nat} {OL : List Pt} (h : OL = sel s.ps m) : okW a c s (.int .u64 (m : Int)) (.bool (canW a c s OL)) := fun q e => by
 injection e with _ e
 obtain rfl : m = q := by omega
 rw [h]
noncomputable def willV (a c : Int) (s : Sk) (g : List Int) (num : Nat) : Bool := patB s.ps g && (List.range num).all fun k => canW a c s (clsP s.ps g (k : Int))
def patQ (ps : List Pt) (g : List Int) (i : Nat) : Prop := ∀ j, j < i → ∀ k, k < j → ∀ p q x y, ps[j]? = some p → ps[k]? = some q → g[j]? = some x → g[k]? = some y → ¬ ((0 < p.pa ∧ p.pa = q.pa) ∧ ¬ x = y)
theorem patQ_all {ps : List Pt} {g : List Int} (h : g.length = ps.length) (hq : patQ ps g ps.length) : patB ps g = true := by
 rw [patB_iff]
 intro q hq1 r hr1 h1 h2
 obtain ⟨i, hi, rfl⟩ := List.mem_iff_getElem.1 hq1
 obtain ⟨j, hj, rfl⟩ := List.mem_iff_getElem.1 hr1
 simp only [List.length_zip] at hi hj
 simp only [List.getElem_zip] at h1 h2 ⊢
 have g1 : ∀ k (hk : k < ps.length), ps[k]? = some ps[k] := fun k hk => List.getElem?_eq_getElem hk
 have g2 : ∀ k (hk : k < g.length), g[k]? = some g[k] := fun k hk => List.getElem?_eq_getElem hk
 rcases Nat.lt_trichotomy i j with h3 | h3 | h3
 ·have := hq j (by omega) i h3 _ _ _ _ (g1 j (by omega)) (g1 i (by omega)) (g2 j (by omega)) (g2 i (by omega))
  omega
 ·subst h3; rfl
 ·have := hq i (by omega) j h3 _ _ _ _ (g1 i (by omega)) (g1 j (by omega)) (g2 i (by omega)) (g2 j (by omega))
  omega
theorem patB_no {ps : List Pt} {g : List Int} {i k : Nat} {p q : Pt} {x y : Int} (h1 : ps[i]? = some p) (h2 : ps[k]? = some q) (h3 : g[i]? = some x) (h4 : g[k]? = some y) (hb : (0 < p.pa ∧ p.pa = q.pa) ∧ ¬ x = y) : patB ps g = false := by
 rw [Bool.eq_false_iff]
 intro hp
 rw [patB_iff] at hp
 obtain ⟨i1, rfl⟩ := List.getElem?_eq_some_iff.1 h1
 obtain ⟨i2, rfl⟩ := List.getElem?_eq_some_iff.1 h2
 obtain ⟨i3, rfl⟩ := List.getElem?_eq_some_iff.1 h3
 obtain ⟨i4, rfl⟩ := List.getElem?_eq_some_iff.1 h4
 have m1 : (ps[i], g[i]) ∈ ps.zip g := List.mem_iff_getElem.2 ⟨i, by simp; omega, by simp⟩
 have m2 : (ps[k], g[k]) ∈ ps.zip g := List.mem_iff_getElem.2 ⟨k, by simp; omega, by simp⟩
 exact hb.2 (hp _ m1 _ m2 hb.1.1 hb.1.2)
theorem patQ_succ {ps : List Pt} {g : List Int} {i : Nat} {p : Pt} {x : Int} (h : patQ ps g i) (h1 : ps[i]? = some p) (h3 : g[i]? = some x) (h2 : ∀ k, k < i → ∀ q y, ps[k]? = some q → g[k]? = some y → ¬ ((0 < p.pa ∧ p.pa = q.pa) ∧ ¬ x = y)) : patQ ps g (i + 1) := by
 intro j hj k hk p' q x' y e1 e2 e3 e4
 rcases Nat.lt_or_eq_of_le (Nat.le_of_lt_succ hj) with h9 | rfl
 ·exact h j h9 k hk p' q x' y e1 e2 e3 e4
 ·rw [h1] at e1
  rw [h3] at e3
  injection e1 with e1
  injection e3 with e3
  subst e1
  subst e3
  exact h2 k hk q y e2 e4
theorem or_bit : ∀ j, j < 5 → ∀ m, m < 32 → m < 2 ^ j → uorI (m : Nat) (ushlI 1 (j : Nat)) = ((m + 2 ^ j : Nat) : Int) := by decide +kernel
theorem pc_drop : ∀ (l : List Pt) (k : Nat), (pc l).drop (k * 4) = pc (l.drop k)
 | l, 0 => by simp
 | [], k + 1 => by simp [pc]
 | x :: l, k + 1 => by
  rw [show (k + 1) * 4 = k * 4 + 4 by omega, Zy1, ← pc_drop l k]
  rfl
theorem pc_take : ∀ (l : List Pt) (k : Nat), (pc l).take (k * 4) = pc (l.take k)
 | l, 0 => by simp [pc]
 | [], k + 1 => by simp [pc]
 | x :: l, k + 1 => by
  rw [show (k + 1) * 4 = k * 4 + 4 by omega, Zy2, show pc (x :: l.take k) = _ :: _ :: _ :: _ :: pc (l.take k) from rfl, ← pc_take l k]
  rfl
theorem pc_part (l : List Pt) (k h : Nat) : ((pc l).drop (k * 4)).take ((h - k) * 4) = pc ((l.drop k).take (h - k)) := by
 rw [pc_drop, pc_take]
theorem memo_not {P : Program} {k : TypeId} {okv : Value → Value → Prop} {w : World} {g : Nat} (hq : BA.holds w g (.any (memoQ P k okv))) {b o : Nat} {v : Value} (hc : w.cell? ⟨b, o, none⟩ = some v) : b ≠ g := fun e => by
 subst e
 obtain ⟨ob, h1, h2⟩ := cell_isC hc
 obtain ⟨o', h3, es, cl, h4, -⟩ := hq
 rw [h3] at h1
 injection h1 with h1
 rw [← h1, h4] at h2
 cases h2
theorem Sp.oldM {P : Program} {k : TypeId} {okv : Value → Value → Prop} {w : World} {size n gm : Nat} {A : Option Addr} {xs : List Value} (h : Rd w w.heap.size size A n xs) (hz : 0 < size) (hq : BA.holds w gm (.any (memoQ P k okv))) : ∃ b o, Sp w (fun b => b = gm) [] A n size b o xs := by
 rcases Nat.eq_zero_or_pos n with rfl | hn
 ·exact Sp.oldEx (A := none) (n := 0) ⟨h.1, fun h => absurd h (by omega)⟩ (fun b o e => by cases e) |>.imp fun b h => h.imp fun o S => ⟨fun h => absurd h (by omega), S.len, fun _ _ _ _ h => absurd h (by omega), S.cell⟩
 ·refine Sp.oldEx h fun b o e => ?_
  obtain ⟨b', o', h1, h2, h3⟩ := h.2 hn
  rw [e] at h1
  injection h1 with h1
  injection h1 with h1 h1' _
  subst h1
  have hl : 0 < xs.length := by rw [h.1]; exact Nat.mul_pos hn hz
  exact memo_not hq (h3 0 xs[0] (List.getElem?_eq_getElem hl))
set_option maxHeartbeats 4000000 in
theorem will_any (s : Sk) (A : Option Addr) (d : Nat) (a c : Int) (ga gc : Nat) (G : Option Addr) (n : Nat) (g : List Int) (num gm : Nat)  (w : World) (ha : 0 ≤ a ∧ a ≤ 2) (hc : 0 ≤ c ∧ c ≤ 2) (hg : ∀ p ∈ s.ps, p.good) (h5 : s.ps.length ≤ 5) (hlo : 0 ≤ s.lo ∧ s.lo ≤ 12) (hwi : 0 ≤ s.wi ∧ s.wi ≤ 12) (hd : s.ps.length ≤ d) (hgl : g.length = s.ps.length) (hnum : num ≤ 1000000) (qa : Bk w ga #[.int .i64 a]) (qc : Bk w gc #[.int .i64 c]) (hA : Rd w w.heap.size 4 A s.ps.length (pc s.ps)) (hG : Rd w w.heap.size 1 G g.length (ic g)) (hT : TabW w) (hq : BA.holds w gm (.any (memoQ Tryz.prog 191 (okW a c s)))) :
   Calls Tryz.prog 192 #[.agg #[.int .i64 s.lo, .int .i64 s.wi, .int .i64 s.a0, .int .i64 s.a1, .int .i64 s.c0, .int .i64 s.c1, .slice A s.ps.length d, .func (.func 183) #[] #[.pointer (some ⟨ga, 0, none⟩)], .func (.func 184) #[] #[.pointer (some ⟨gc, 0, none⟩)]], .slice G g.length n, .int .i64 (num : Int), .map (some gm)] w fun e9 w' => e9 = .returned (.bool (willV a c s g num)) ∧ Mem w (fun b => b = gm) w' [(gm, .any (memoQ Tryz.prog 191 (okW a c s)))] := by
 obtain ⟨bA, oA, SA⟩ := Sp.oldM hA (by omega) hq
 obtain ⟨bG, oG, SG⟩ := Sp.oldM hG (by omega) hq
 have hna : ¬ ga = gm := memo_not hq (by simpa using qa.cell 0)
 have hnc : ¬ gc = gm := memo_not hq (by simpa using qc.cell 0)
 have hn1 : ¬ 8 = gm := memo_not hq (hT.cell 0 (by omega))
 refine Zpx (fun b => b = gm) Tryz.func192 rfl 108 rfl [.agg #[.int .i64 s.lo, .int .i64 s.wi, .int .i64 s.a0, .int .i64 s.a1, .int .i64 s.c0, .int .i64 s.c1, .slice A s.ps.length d, .func (.func 183) #[] #[.pointer (some ⟨ga, 0, none⟩)], .func (.func 184) #[] #[.pointer (some ⟨gc, 0, none⟩)]], .slice G g.length n, .int .i64 (num : Int), .map (some gm)] rfl rfl (Mem.initEx (p := .any (memoQ Tryz.prog 191 (okW a c s))) hq) ?_
 intro ac wc T M
 refine Zsr ?_
 refine Zl2 ?_
 refine Zob M T rfl rfl rfl rfl (T.e 0 rfl) rfl ?_; clear M T; intro g1 wc ac M T
 refine lq T (Zra rfl evc) ?_; clear T ac; intro ac T
 replace T := T.pick [1, 3, 4, 5] rfl
 refine Zln ?_
 refine wp_seq ?_
 refine Zsr ?_
 refine Zg5 (v1 := (.pointer (some ⟨g1, 0, none⟩))) (v2 := (.pointer (some ⟨g1, 6, none⟩))) T (Zq (Zrf (off := 0) rfl (T.e 0 rfl) (fun _ _ _ => by kernel_rfl))) rfl (Zf 6 0 rfl rfl) rfl (Zo M 0 0 rfl rfl rfl rfl) rfl (Zl Tryz.underlying47 0 rfl rfl) rfl (fun _ T => Zq (Zrm rfl evc)) rfl ?_; clear T ac; intro ac T
 replace T := T.pick [0, 1, 2, 5, 6, 7, 8] rfl
 refine Zln ?_
 refine wp_block ?_
 refine wp_loop_n (fun mz ac wc => ∃ (i : Nat), mz = s.ps.length - i ∧ (i ≤ s.ps.length) ∧ (patQ s.ps g i) ∧ Tm ac 108 [(1, .slice G g.length n), (2, .int .i64 (num : Int)), (3, .map (some gm)), (4, .pointer (some ⟨g1, 0, none⟩)), (22, .slice A s.ps.length d), (23, .int .i64 ((s.ps.length : Nat) : Int)), (24, .int .i64 (i : Int))] ∧ Mem w (fun b => b = gm) wc [(g1, .cells [.int .i64 s.lo, .int .i64 s.wi, .int .i64 s.a0, .int .i64 s.a1, .int .i64 s.c0, .int .i64 s.c1, .slice A s.ps.length d, .func (.func 183) #[] #[.pointer (some ⟨ga, 0, none⟩)], .func (.func 184) #[] #[.pointer (some ⟨gc, 0, none⟩)]]), (gm, .any (memoQ Tryz.prog 191 (okW a c s)))]) ?_ ?_
 ·exact ⟨_, 0, rfl, (Nat.zero_le _), (fun j h => by omega), T.pick [4, 5, 6, 3, 2, 1, 0] rfl, M.mask [true, true] rfl⟩
 clear T M
 rintro mz ac wc ⟨i, hmm1, hi, H, T, M⟩
 refine Zsr ?_
 refine lq T (rn_lss rfl (T.e 6 rfl) (T.e 5 rfl)) ?_; clear T ac; intro ac T
 refine Zln ?_
 refine wp_seq ?_
 refine wp_if (T.e 0 rfl) ?_ ?_
 ·intro h1
  obtain ⟨p, hkp, -⟩ := pc_next (l := s.ps) (k := i) (by omega)
  obtain ⟨x, hkx, -⟩ := ic_next (l := g) (k := i) (by omega)
  refine Zsk ?_
  refine wp_seq ?_
  refine wp_block ?_
  refine Zsr ?_
  refine Zg3 (v3 := (.agg #[.int .i64 p.l, .int .i64 p.w, .bool p.gr, .int .i64 p.pa])) T (Zq (Zrm rfl (T.e 7 rfl))) rfl (fun _ T => Zq (Zri (size := 4) i rfl (T.e 6 rfl) (T.e 8 rfl) ⟨_, Tryz.underlying47, by kernel_rfl⟩ rfl (by omega) (SA.at0 (by omega)))) rfl (fun _ T => Zq (rn_rowat (Sp.pcR SA M (Zz9 _) hkp) rfl (T.e 0 rfl) rfl)) rfl ?_; clear T ac; intro ac T
  refine Zl2 ?_
  refine Zoa M T rfl rfl rfl rfl ?_; clear M T; intro g2 wc ac M T
  refine lq T (Zra rfl (T.e 3 rfl)) ?_; clear T ac; intro ac T
  refine Zl2 ?_
  refine Zos M T rfl rfl (T.e 1 rfl) (T.e 2 rfl) rfl .head rfl (by simp) rfl (by kernel_rfl) ?_; clear M T; intro wc ac M T
  replace T := T.pick [0, 1, 6, 7, 8, 9, 10, 11, 12] rfl
  refine Zln ?_
  refine Zsr ?_
  refine Zg5 (v1 := (.pointer (some ⟨g1, 0, none⟩))) (v2 := (.pointer (some ⟨g1, 6, none⟩))) T (Zq (Zrf (off := 0) rfl (T.e 5 rfl) (fun _ _ _ => by kernel_rfl))) rfl (Zf 6 0 rfl rfl) rfl (Zo M 1 0 rfl rfl rfl rfl) rfl (Zm 3 rfl rfl) rfl (fun _ T => Zq (rn_slice (size := 4) (l := 0) (h := i) rfl Tryz.underlying47 (by kernel_rfl) (T.e 1 rfl) rfl (T.e 0 rfl) (by omega) (by omega))) rfl ?_; clear T ac; intro ac T
  obtain ⟨Aq1, hAq1⟩ : ∃ q : Option Addr, q = (if d = 0 then A else Option.map (fun x : Addr => x.add (0 * 4)) A) := ⟨_, rfl⟩
  rw [← hAq1] at T
  obtain ⟨lq1, hlq1⟩ : ∃ q, q = (s.ps.drop 0).take (i - 0) := ⟨_, rfl⟩
  have nlq1 : lq1.length = i - 0 := by rw [hlq1, List.length_take, List.length_drop]; (try simp only [List.length_cons, List.length_append, List.length_nil]); omega
  rw [← nlq1] at T
  have SAq1 : Sp w (fun b => b = gm) [] Aq1 lq1.length 4 bA (oA + 0 * 4) (pc lq1) := by rw [nlq1, hAq1, hlq1, ← pc_part]; exact SA.sub (by omega) (by omega) (by omega)
  refine Zg2 T (Zq (Zrl rfl Tryz.underlying47 (T.e 0 rfl))) rfl (fun _ T => Zq (Zrm rfl evc)) rfl ?_; clear T ac; intro ac T
  replace T := T.pick [0, 1, 2, 7, 8, 9, 10, 11, 12, 13, 14, 15] rfl
  refine Zln ?_
  refine wp_block ?_
  refine wp_loop_n (fun mz ac wc => ∃ (k : Nat), mz = i - k ∧ (k ≤ i) ∧ (∀ k', k' < k → ∀ q y, s.ps[k']? = some q → g[k']? = some y → ¬ ((0 < p.pa ∧ p.pa = q.pa) ∧ ¬ x = y)) ∧ Tm ac 108 [(1, .slice G g.length n), (2, .int .i64 (num : Int)), (3, .map (some gm)), (4, .pointer (some ⟨g1, 0, none⟩)), (9, .int .i64 (i : Int)), (10, .pointer (some ⟨g2, 0, none⟩)), (22, .slice A s.ps.length d), (23, .int .i64 ((s.ps.length : Nat) : Int)), (24, .int .i64 (i : Int)), (33, .slice Aq1 lq1.length (d - 0)), (34, .int .i64 ((lq1.length : Nat) : Int)), (35, .int .i64 (k : Int))] ∧ Mem w (fun b => b = gm) wc [(g2, .cells [.int .i64 p.l, .int .i64 p.w, .bool p.gr, .int .i64 p.pa]), (g1, .cells [.int .i64 s.lo, .int .i64 s.wi, .int .i64 s.a0, .int .i64 s.a1, .int .i64 s.c0, .int .i64 s.c1, .slice A s.ps.length d, .func (.func 183) #[] #[.pointer (some ⟨ga, 0, none⟩)], .func (.func 184) #[] #[.pointer (some ⟨gc, 0, none⟩)]]), (gm, .any (memoQ Tryz.prog 191 (okW a c s)))]) ?_ ?_
  ·exact ⟨_, 0, rfl, (Nat.zero_le _), (fun k h => by omega), T.pick [5, 6, 7, 8, 3, 4, 9, 10, 11, 2, 1, 0] rfl, M.mask [true, true, true] rfl⟩
  clear T M
  rintro mz ac wc ⟨k, hmm2, hk, H2, T, M⟩
  refine Zsr ?_
  refine lq T (rn_lss rfl (T.e 11 rfl) (T.e 10 rfl)) ?_; clear T ac; intro ac T
  refine Zln ?_
  refine wp_seq ?_
  refine wp_if (T.e 0 rfl) ?_ ?_
  ·intro h2
   obtain ⟨q, hkq, -⟩ := pc_next (l := lq1) (k := k) (by omega)
   have hkq2 : s.ps[k]? = some q := by rw [hlq1, List.drop_zero, List.getElem?_take] at hkq; split at hkq; exact hkq; cases hkq
   obtain ⟨y, hky, -⟩ := ic_next (l := g) (k := k) (by omega)
   refine Zsk ?_
   refine wp_seq ?_
   refine wp_block ?_
   refine Zsr ?_
   refine Zg3 (v3 := (.agg #[.int .i64 q.l, .int .i64 q.w, .bool q.gr, .int .i64 q.pa])) T (Zq (Zrm rfl (T.e 12 rfl))) rfl (fun _ T => Zq (Zri (size := 4) k rfl (T.e 11 rfl) (T.e 13 rfl) ⟨_, Tryz.underlying47, by kernel_rfl⟩ rfl (by omega) (SAq1.at0 (by omega)))) rfl (fun _ T => Zq (rn_rowat (Sp.pcR SAq1 M (Zz9 _) hkq) rfl (T.e 0 rfl) rfl)) rfl ?_; clear T ac; intro ac T
   refine Zl2 ?_
   refine Zoa M T rfl rfl rfl rfl ?_; clear M T; intro g3 wc ac M T
   refine lq T (Zra rfl (T.e 3 rfl)) ?_; clear T ac; intro ac T
   refine Zl2 ?_
   refine Zos M T rfl rfl (T.e 1 rfl) (T.e 2 rfl) rfl .head rfl (by simp) rfl (by kernel_rfl) ?_; clear M T; intro wc ac M T
   replace T := T.pick [0, 1, 6, 7, 8, 9, 10, 11, 12, 13, 14, 15, 16, 17] rfl
   refine Zln ?_
   refine cut_seq (fun ac wc => Tm ac 108 [(1, .slice G g.length n), (2, .int .i64 (num : Int)), (3, .map (some gm)), (4, .pointer (some ⟨g1, 0, none⟩)), (9, .int .i64 (i : Int)), (10, .pointer (some ⟨g2, 0, none⟩)), (22, .slice A s.ps.length d), (23, .int .i64 ((s.ps.length : Nat) : Int)), (24, .int .i64 (i : Int)), (33, .slice Aq1 lq1.length (d - 0)), (34, .int .i64 ((lq1.length : Nat) : Int)), (35, .int .i64 (k : Int)), (60, .bool ((decide (0 < p.pa)) && ((decide (p.pa = q.pa)) && (!(decide (x = y))))))] ∧ Mem w (fun b => b = gm) wc [(g2, .cells [.int .i64 p.l, .int .i64 p.w, .bool p.gr, .int .i64 p.pa]), (g1, .cells [.int .i64 s.lo, .int .i64 s.wi, .int .i64 s.a0, .int .i64 s.a1, .int .i64 s.c0, .int .i64 s.c1, .slice A s.ps.length d, .func (.func 183) #[] #[.pointer (some ⟨ga, 0, none⟩)], .func (.func 184) #[] #[.pointer (some ⟨gc, 0, none⟩)]]), (gm, .any (memoQ Tryz.prog 191 (okW a c s)))]) ?_ ?_
   ·refine Zgs M (M.mask [true, true, true, true] rfl) 21 (by kernel_rfl) rfl (by kernel_rfl) ?_
    clear M; intro wc M
    refine gq (v := (.pointer (some ⟨g2, 3, none⟩))) T 0 1 rfl (fun _ _ _ _ _ => (Zrf (off := 3) rfl (T.e 7 rfl) (fun _ _ _ => by kernel_rfl))) ?_; clear T ac; intro ac T
    refine gq T 1 3 rfl (fun B w' hD hl hS => (Zro (Mem.nth (show Mem w (fun b => b = gm) w' _ from hS) 1 rfl) rfl (T.e 0 rfl) rfl)) ?_; clear T ac; intro ac T
    refine gq T 2 7 rfl (fun _ _ _ _ _ => (rn_gtr rfl (T.e 0 rfl) evc)) ?_; clear T ac; intro ac T
    refine gq T 3 15 rfl (fun _ _ _ _ _ => (Zrm rfl (T.e 0 rfl))) ?_; clear T ac; intro ac T
    rcases Bool.eq_false_or_eq_true (decide (0 < p.pa)) with h3 | h3
    ·replace h3 := of_decide_eq_true h3
     refine g_q (v := (.pointer (some ⟨g2, 3, none⟩))) (T := T) (i := 4) rfl (by kernel_rfl) (by kernel_rfl : (Zpb 21 15).setIfInBounds 4 true = Zpb 21 31) si_U (fun _ _ _ h => h) (Zwy rfl rfl (T.e 0 rfl) (Zdt h3)) rfl rfl rfl (fun _ _ _ _ _ => (Zrf (off := 3) rfl (T.e 11 rfl) (fun _ _ _ => by kernel_rfl))) ?_; clear T ac; intro ac T
     refine g_q (T := T) (i := 5) rfl (by kernel_rfl) (by kernel_rfl : (Zpb 21 31).setIfInBounds 5 true = Zpb 21 63) si_U (fun _ _ _ h => h) (Zwy rfl rfl (T.e 1 rfl) (Zdt h3)) rfl rfl rfl (fun B w' hD hl hS => (Zro (Mem.nth (show Mem w (fun b => b = gm) w' _ from hS) 1 rfl) rfl (T.e 0 rfl) rfl)) ?_; clear T ac; intro ac T
     refine g_q (v := (.pointer (some ⟨g3, 3, none⟩))) (T := T) (i := 6) rfl (by kernel_rfl) (by kernel_rfl : (Zpb 21 63).setIfInBounds 6 true = Zpb 21 127) si_U (fun _ _ _ h => h) (Zwy rfl rfl (T.e 2 rfl) (Zdt h3)) rfl rfl rfl (fun _ _ _ _ _ => (Zrf (off := 3) rfl (T.e 7 rfl) (fun _ _ _ => by kernel_rfl))) ?_; clear T ac; intro ac T
     refine g_q (T := T) (i := 7) rfl (by kernel_rfl) (by kernel_rfl : (Zpb 21 127).setIfInBounds 7 true = Zpb 21 255) si_U (fun _ _ _ h => h) (Zwy rfl rfl (T.e 3 rfl) (Zdt h3)) rfl rfl rfl (fun B w' hD hl hS => (Zro (Mem.nth (show Mem w (fun b => b = gm) w' _ from hS) 0 rfl) rfl (T.e 0 rfl) rfl)) ?_; clear T ac; intro ac T
     refine g_q (T := T) (i := 8) rfl (by kernel_rfl) (by kernel_rfl : (Zpb 21 255).setIfInBounds 8 true = Zpb 21 511) si_U (fun _ _ _ h => h) (Zwy rfl rfl (T.e 4 rfl) (Zdt h3)) rfl rfl rfl (fun _ _ _ _ _ => (rn_eql rfl (T.e 2 rfl) (T.e 0 rfl))) ?_; clear T ac; intro ac T
     refine gq T 9 1023 rfl (fun _ _ _ _ _ => (Zr1 rfl (T.e 5 rfl) (Zdt h3) (T.e 0 rfl))) ?_; clear T ac; intro ac T
     refine gq T 10 2047 rfl (fun _ _ _ _ _ => (Zrm rfl (T.e 0 rfl))) ?_; clear T ac; intro ac T
     rcases Bool.eq_false_or_eq_true (decide (p.pa = q.pa)) with h4 | h4
     ·replace h4 := of_decide_eq_true h4
      refine g_q (T := T) (i := 11) rfl (by kernel_rfl) (by kernel_rfl : (Zpb 21 2047).setIfInBounds 11 true = Zpb 21 4095) si_U (fun _ _ _ h => h) (Zwy rfl rfl (T.e 0 rfl) (Zdt h4)) rfl rfl rfl (fun _ _ _ _ _ => (Zrm rfl (T.e 13 rfl))) ?_; clear T ac; intro ac T
      refine g_q (T := T) (i := 12) rfl (by kernel_rfl) (by kernel_rfl : (Zpb 21 4095).setIfInBounds 12 true = Zpb 21 8191) si_U (fun _ _ _ h => h) (Zwy rfl rfl (T.e 1 rfl) (Zdt h4)) rfl rfl rfl (fun _ _ _ _ _ => (Zrm rfl (T.e 18 rfl))) ?_; clear T ac; intro ac T
      refine g_q (T := T) (i := 13) rfl (by kernel_rfl) (by kernel_rfl : (Zpb 21 8191).setIfInBounds 13 true = Zpb 21 16383) si_U (fun _ _ _ h => h) (Zwy rfl rfl (T.e 2 rfl) (Zdt h4)) rfl rfl rfl (fun _ _ _ _ _ => (Zri (size := 1) i rfl (T.e 1 rfl) (T.e 0 rfl) ⟨_, Tryz.underlying31, by kernel_rfl⟩ rfl (by omega) (SG.at0 (by omega)))) ?_; clear T ac; intro ac T
      refine g_q (T := T) (i := 14) rfl (by kernel_rfl) (by kernel_rfl : (Zpb 21 16383).setIfInBounds 14 true = Zpb 21 32767) si_U (fun _ _ _ h => h) (Zwy rfl rfl (T.e 3 rfl) (Zdt h4)) rfl rfl rfl (fun B w' hD hl hS => (rn_cell (Sp.ic0 SG (show Mem w (fun b => b = gm) w' _ from hS) (Zz9 _) hkx) rfl (T.e 0 rfl))) ?_; clear T ac; intro ac T
      refine g_q (T := T) (i := 15) rfl (by kernel_rfl) (by kernel_rfl : (Zpb 21 32767).setIfInBounds 15 true = Zpb 21 65535) si_U (fun _ _ _ h => h) (Zwy rfl rfl (T.e 4 rfl) (Zdt h4)) rfl rfl rfl (fun _ _ _ _ _ => (Zrm rfl (T.e 17 rfl))) ?_; clear T ac; intro ac T
      refine g_q (T := T) (i := 16) rfl (by kernel_rfl) (by kernel_rfl : (Zpb 21 65535).setIfInBounds 16 true = Zpb 21 131071) si_U (fun _ _ _ h => h) (Zwy rfl rfl (T.e 5 rfl) (Zdt h4)) rfl rfl rfl (fun _ _ _ _ _ => (Zrm rfl (T.e 16 rfl))) ?_; clear T ac; intro ac T
      refine g_q (T := T) (i := 17) rfl (by kernel_rfl) (by kernel_rfl : (Zpb 21 131071).setIfInBounds 17 true = Zpb 21 262143) si_U (fun _ _ _ h => h) (Zwy rfl rfl (T.e 6 rfl) (Zdt h4)) rfl rfl rfl (fun _ _ _ _ _ => (Zri (size := 1) k rfl (T.e 1 rfl) (T.e 0 rfl) ⟨_, Tryz.underlying31, by kernel_rfl⟩ rfl (by omega) (SG.at0 (by omega)))) ?_; clear T ac; intro ac T
      refine g_q (T := T) (i := 18) rfl (by kernel_rfl) (by kernel_rfl : (Zpb 21 262143).setIfInBounds 18 true = Zpb 21 524287) si_U (fun _ _ _ h => h) (Zwy rfl rfl (T.e 7 rfl) (Zdt h4)) rfl rfl rfl (fun B w' hD hl hS => (rn_cell (Sp.ic0 SG (show Mem w (fun b => b = gm) w' _ from hS) (Zz9 _) hky) rfl (T.e 0 rfl))) ?_; clear T ac; intro ac T
      refine g_q (T := T) (i := 19) rfl (by kernel_rfl) (by kernel_rfl : (Zpb 21 524287).setIfInBounds 19 true = Zpb 21 1048575) si_U (fun _ _ _ h => h) (Zwy rfl rfl (T.e 8 rfl) (Zdt h4)) rfl rfl rfl (fun _ _ _ _ _ => (rn_neq rfl (T.e 4 rfl) (T.e 0 rfl))) ?_; clear T ac; intro ac T
      refine gq T 20 2097151 rfl (fun _ _ _ _ _ => (Zr1 rfl (T.e 9 rfl) (Zdt h4) (T.e 0 rfl))) ?_; clear T ac; intro ac T
      refine Zgd (by kernel_rfl) ?_
      replace T := T.pick [0, 1, 2, 3, 4, 5, 6, 7, 8, 9, 12, 13, 14, 15, 16, 23, 24, 25, 26, 27, 28, 29, 30, 31, 32, 33, 34] rfl
      exact ⟨(T.pick (E' := [(1, .slice G g.length n), (2, .int .i64 (num : Int)), (3, .map (some gm)), (4, .pointer (some ⟨g1, 0, none⟩)), (9, .int .i64 (i : Int)), (10, .pointer (some ⟨g2, 0, none⟩)), (22, .slice A s.ps.length d), (23, .int .i64 ((s.ps.length : Nat) : Int)), (24, .int .i64 (i : Int)), (33, .slice Aq1 lq1.length (d - 0)), (34, .int .i64 ((lq1.length : Nat) : Int)), (35, .int .i64 (k : Int)), (60, .bool (!(decide (x = y))))]) [15, 16, 17, 18, 19, 20, 21, 22, 23, 24, 25, 26, 0] rfl).as (by (try rw [show (decide (0 < p.pa)) = true from (Zdt h3)]); (try rw [show (decide (p.pa = q.pa)) = true from (Zdt h4)]); (try rfl)), M.mask [false, true, true, true] rfl⟩
     replace h4 := of_decide_eq_false h4
     refine g_pass (T := T) (i := 11) rfl (by kernel_rfl) (by kernel_rfl : (Zpb 21 2047).setIfInBounds 11 true = Zpb 21 4095) si_U (fun _ _ _ h => h) (Zwn rfl rfl (T.e 0 rfl) (Zdf h4)) rfl rfl rfl ?_; clear T ac; intro ac T
     refine g_pass (T := T) (i := 12) rfl (by kernel_rfl) (by kernel_rfl : (Zpb 21 4095).setIfInBounds 12 true = Zpb 21 8191) si_U (fun _ _ _ h => h) (Zwn rfl rfl (T.e 1 rfl) (Zdf h4)) rfl rfl rfl ?_; clear T ac; intro ac T
     refine g_pass (T := T) (i := 13) rfl (by kernel_rfl) (by kernel_rfl : (Zpb 21 8191).setIfInBounds 13 true = Zpb 21 16383) si_U (fun _ _ _ h => h) (Zwn rfl rfl (T.e 2 rfl) (Zdf h4)) rfl rfl rfl ?_; clear T ac; intro ac T
     refine g_pass (T := T) (i := 14) rfl (by kernel_rfl) (by kernel_rfl : (Zpb 21 16383).setIfInBounds 14 true = Zpb 21 32767) si_U (fun _ _ _ h => h) (Zwn rfl rfl (T.e 3 rfl) (Zdf h4)) rfl rfl rfl ?_; clear T ac; intro ac T
     refine g_pass (T := T) (i := 15) rfl (by kernel_rfl) (by kernel_rfl : (Zpb 21 32767).setIfInBounds 15 true = Zpb 21 65535) si_U (fun _ _ _ h => h) (Zwn rfl rfl (T.e 4 rfl) (Zdf h4)) rfl rfl rfl ?_; clear T ac; intro ac T
     refine g_pass (T := T) (i := 16) rfl (by kernel_rfl) (by kernel_rfl : (Zpb 21 65535).setIfInBounds 16 true = Zpb 21 131071) si_U (fun _ _ _ h => h) (Zwn rfl rfl (T.e 5 rfl) (Zdf h4)) rfl rfl rfl ?_; clear T ac; intro ac T
     refine g_pass (T := T) (i := 17) rfl (by kernel_rfl) (by kernel_rfl : (Zpb 21 131071).setIfInBounds 17 true = Zpb 21 262143) si_U (fun _ _ _ h => h) (Zwn rfl rfl (T.e 6 rfl) (Zdf h4)) rfl rfl rfl ?_; clear T ac; intro ac T
     refine g_pass (T := T) (i := 18) rfl (by kernel_rfl) (by kernel_rfl : (Zpb 21 262143).setIfInBounds 18 true = Zpb 21 524287) si_U (fun _ _ _ h => h) (Zwn rfl rfl (T.e 7 rfl) (Zdf h4)) rfl rfl rfl ?_; clear T ac; intro ac T
     refine g_pass (T := T) (i := 19) rfl (by kernel_rfl) (by kernel_rfl : (Zpb 21 524287).setIfInBounds 19 true = Zpb 21 1048575) si_U (fun _ _ _ h => h) (Zwn rfl rfl (T.e 8 rfl) (Zdf h4)) rfl rfl rfl ?_; clear T ac; intro ac T
     refine gq T 20 2097151 rfl (fun _ _ _ _ _ => (Zr0 rfl (T.e 9 rfl) (Zdf h4) evc)) ?_; clear T ac; intro ac T
     refine Zgd (by kernel_rfl) ?_
     replace T := T.pick [0, 1, 2, 3, 4, 5, 6, 7, 8, 9, 12, 13, 14, 15, 16, 23, 24, 25, 26, 27, 28, 29, 30, 31, 32, 33, 34] rfl
     exact ⟨(T.pick (E' := [(1, .slice G g.length n), (2, .int .i64 (num : Int)), (3, .map (some gm)), (4, .pointer (some ⟨g1, 0, none⟩)), (9, .int .i64 (i : Int)), (10, .pointer (some ⟨g2, 0, none⟩)), (22, .slice A s.ps.length d), (23, .int .i64 ((s.ps.length : Nat) : Int)), (24, .int .i64 (i : Int)), (33, .slice Aq1 lq1.length (d - 0)), (34, .int .i64 ((lq1.length : Nat) : Int)), (35, .int .i64 (k : Int)), (60, .bool false)]) [15, 16, 17, 18, 19, 20, 21, 22, 23, 24, 25, 26, 0] rfl).as (by (try rw [show (decide (0 < p.pa)) = true from (Zdt h3)]); (try rw [show (decide (p.pa = q.pa)) = false from (Zdf h4)]); (try rfl)), M.mask [false, true, true, true] rfl⟩
    replace h3 := of_decide_eq_false h3
    refine g_pass (T := T) (i := 4) rfl (by kernel_rfl) (by kernel_rfl : (Zpb 21 15).setIfInBounds 4 true = Zpb 21 31) si_U (fun _ _ _ h => h) (Zwn rfl rfl (T.e 0 rfl) (Zdf h3)) rfl rfl rfl ?_; clear T ac; intro ac T
    refine g_pass (T := T) (i := 5) rfl (by kernel_rfl) (by kernel_rfl : (Zpb 21 31).setIfInBounds 5 true = Zpb 21 63) si_U (fun _ _ _ h => h) (Zwn rfl rfl (T.e 1 rfl) (Zdf h3)) rfl rfl rfl ?_; clear T ac; intro ac T
    refine g_pass (T := T) (i := 6) rfl (by kernel_rfl) (by kernel_rfl : (Zpb 21 63).setIfInBounds 6 true = Zpb 21 127) si_U (fun _ _ _ h => h) (Zwn rfl rfl (T.e 2 rfl) (Zdf h3)) rfl rfl rfl ?_; clear T ac; intro ac T
    refine g_pass (T := T) (i := 7) rfl (by kernel_rfl) (by kernel_rfl : (Zpb 21 127).setIfInBounds 7 true = Zpb 21 255) si_U (fun _ _ _ h => h) (Zwn rfl rfl (T.e 3 rfl) (Zdf h3)) rfl rfl rfl ?_; clear T ac; intro ac T
    refine g_pass (T := T) (i := 8) rfl (by kernel_rfl) (by kernel_rfl : (Zpb 21 255).setIfInBounds 8 true = Zpb 21 511) si_U (fun _ _ _ h => h) (Zwn rfl rfl (T.e 4 rfl) (Zdf h3)) rfl rfl rfl ?_; clear T ac; intro ac T
    refine gq T 9 1023 rfl (fun _ _ _ _ _ => (Zr0 rfl (T.e 5 rfl) (Zdf h3) evc)) ?_; clear T ac; intro ac T
    refine gq T 10 2047 rfl (fun _ _ _ _ _ => (Zrm rfl (T.e 0 rfl))) ?_; clear T ac; intro ac T
    refine g_pass (T := T) (i := 11) rfl (by kernel_rfl) (by kernel_rfl : (Zpb 21 2047).setIfInBounds 11 true = Zpb 21 4095) si_U (fun _ _ _ h => h) (Zwn rfl rfl (T.e 0 rfl) rfl) rfl rfl rfl ?_; clear T ac; intro ac T
    refine g_pass (T := T) (i := 12) rfl (by kernel_rfl) (by kernel_rfl : (Zpb 21 4095).setIfInBounds 12 true = Zpb 21 8191) si_U (fun _ _ _ h => h) (Zwn rfl rfl (T.e 1 rfl) rfl) rfl rfl rfl ?_; clear T ac; intro ac T
    refine g_pass (T := T) (i := 13) rfl (by kernel_rfl) (by kernel_rfl : (Zpb 21 8191).setIfInBounds 13 true = Zpb 21 16383) si_U (fun _ _ _ h => h) (Zwn rfl rfl (T.e 2 rfl) rfl) rfl rfl rfl ?_; clear T ac; intro ac T
    refine g_pass (T := T) (i := 14) rfl (by kernel_rfl) (by kernel_rfl : (Zpb 21 16383).setIfInBounds 14 true = Zpb 21 32767) si_U (fun _ _ _ h => h) (Zwn rfl rfl (T.e 3 rfl) rfl) rfl rfl rfl ?_; clear T ac; intro ac T
    refine g_pass (T := T) (i := 15) rfl (by kernel_rfl) (by kernel_rfl : (Zpb 21 32767).setIfInBounds 15 true = Zpb 21 65535) si_U (fun _ _ _ h => h) (Zwn rfl rfl (T.e 4 rfl) rfl) rfl rfl rfl ?_; clear T ac; intro ac T
    refine g_pass (T := T) (i := 16) rfl (by kernel_rfl) (by kernel_rfl : (Zpb 21 65535).setIfInBounds 16 true = Zpb 21 131071) si_U (fun _ _ _ h => h) (Zwn rfl rfl (T.e 5 rfl) rfl) rfl rfl rfl ?_; clear T ac; intro ac T
    refine g_pass (T := T) (i := 17) rfl (by kernel_rfl) (by kernel_rfl : (Zpb 21 131071).setIfInBounds 17 true = Zpb 21 262143) si_U (fun _ _ _ h => h) (Zwn rfl rfl (T.e 6 rfl) rfl) rfl rfl rfl ?_; clear T ac; intro ac T
    refine g_pass (T := T) (i := 18) rfl (by kernel_rfl) (by kernel_rfl : (Zpb 21 262143).setIfInBounds 18 true = Zpb 21 524287) si_U (fun _ _ _ h => h) (Zwn rfl rfl (T.e 7 rfl) rfl) rfl rfl rfl ?_; clear T ac; intro ac T
    refine g_pass (T := T) (i := 19) rfl (by kernel_rfl) (by kernel_rfl : (Zpb 21 524287).setIfInBounds 19 true = Zpb 21 1048575) si_U (fun _ _ _ h => h) (Zwn rfl rfl (T.e 8 rfl) rfl) rfl rfl rfl ?_; clear T ac; intro ac T
    refine gq T 20 2097151 rfl (fun _ _ _ _ _ => (Zr0 rfl (T.e 9 rfl) rfl evc)) ?_; clear T ac; intro ac T
    refine Zgd (by kernel_rfl) ?_
    replace T := T.pick [0, 1, 2, 3, 4, 5, 6, 7, 8, 9, 12, 13, 14, 15, 16, 23, 24, 25, 26, 27, 28, 29, 30, 31, 32, 33, 34] rfl
    replace M := M.mask [false, true, true, true] rfl
    exact ⟨(T.pick (E' := [(1, .slice G g.length n), (2, .int .i64 (num : Int)), (3, .map (some gm)), (4, .pointer (some ⟨g1, 0, none⟩)), (9, .int .i64 (i : Int)), (10, .pointer (some ⟨g2, 0, none⟩)), (22, .slice A s.ps.length d), (23, .int .i64 ((s.ps.length : Nat) : Int)), (24, .int .i64 (i : Int)), (33, .slice Aq1 lq1.length (d - 0)), (34, .int .i64 ((lq1.length : Nat) : Int)), (35, .int .i64 (k : Int)), (60, .bool false)]) [15, 16, 17, 18, 19, 20, 21, 22, 23, 24, 25, 26, 0] rfl).as (by (try rw [show (decide (0 < p.pa)) = false from (Zdf h3)]); (try rfl)), M.mask [true, true, true] rfl⟩
   clear T M
   rintro ac wc ⟨T, M⟩
   refine wp_cond_split (T.e 12 rfl) ?_ ?_
   ·intro h5
    (have h5' := h5; try simp only [Zb1, Zb2, Zb3, Zb4, Zb5, Zb6, Zb7] at h5')
    refine Zsr ?_
    refine lq T (Zra rfl evc) ?_; clear T ac; intro ac T
    refine wpList_nil ?_
    replace T := T.pick [0] rfl
    replace M := M.mask [false, false, true] rfl
    refine Znr ?_
    refine Zrb ?_
    refine Zrt ?_
    refine Zrt ?_
    refine Zrb ?_
    refine Zrb ?_
    refine Zrt ?_
    refine Zrt ?_
    refine Zrb ?_
    refine Zrt ?_
    refine rt_1 T rfl (T.e 0 rfl) ?_
    have e9 : willV a c s g num = false := by unfold willV; rw [patB_no hkp hkq2 hkx hky (by simp_all)]; rfl
    rw [e9]
    exact ⟨rfl, M.mask [true] rfl⟩
   intro h5
   (have h5' := h5; try simp only [Zb1, Zb2, Zb3, Zb4, Zb5, Zb6, Zb7] at h5')
   refine wp_skip ?_
   refine Znb ?_
   refine nm_then ?_
   refine wp_region_lit ?_
   refine lq T (rn_add rfl (T.e 11 rfl) evc (by omega)) ?_; clear T ac; intro ac T
   refine l_q (v := (.int .i64 ((k : Int) + 1))) (T.pick [0, 1, 2, 3, 4, 5, 6, 7, 8, 9, 10, 11, 13] rfl) rfl rfl rfl rfl (Zrm rfl (T.e 0 rfl)) ?_; clear T ac; intro ac T
   replace T := T.pick [0, 2, 3, 4, 5, 6, 7, 8, 9, 10, 11, 12] rfl
   refine Zln ?_
   exact ⟨_, by omega, k + 1, rfl, (by omega), (fun k9 h9 q9 y9 e1 e2 => by rcases Nat.lt_or_eq_of_le (Nat.le_of_lt_succ h9) with h8 | rfl; exact H2 k9 h8 q9 y9 e1 e2; rw [hkq2] at e1; rw [hky] at e2; injection e1 with e1; injection e2 with e2; subst e1; subst e2; rintro ⟨⟨f1, f2⟩, f3⟩; rw [← Bool.not_eq_true] at h5; apply h5; simp only [Bool.and_eq_true, Bool.not_eq_true', decide_eq_true_eq, decide_eq_false_iff_not]; exact ⟨f1, f2, f3⟩), T.pick [1, 2, 3, 4, 5, 6, 7, 8, 9, 10, 11, 0] rfl, M.mask [true, true, true] rfl⟩
  intro h2
  rw [show k = i by omega] at H2
  refine wp_exit ?_
  refine Zet ?_
  refine Zet ?_
  refine ex_hit ?_
  refine Znb ?_
  refine nm_then ?_
  refine wp_region_lit ?_
  refine lq T (rn_add rfl (T.e 9 rfl) evc (by omega)) ?_; clear T ac; intro ac T
  refine l_q (v := (.int .i64 ((i : Int) + 1))) (T.pick [0, 1, 2, 3, 4, 5, 6, 7, 8, 9, 11, 12, 13] rfl) rfl rfl rfl rfl (Zrm rfl (T.e 0 rfl)) ?_; clear T ac; intro ac T
  refine wpList_nil ?_
  replace T := T.pick [0, 3, 4, 5, 6, 9, 10] rfl
  replace M := M.mask [false, true, true] rfl
  refine nm_then ?_
  exact ⟨_, by omega, i + 1, rfl, (by omega), (patQ_succ H hkp hkx H2), T.pick [1, 2, 3, 4, 5, 6, 0] rfl, M.mask [true, true] rfl⟩
 intro h1
 have hpat := patQ_all hgl (show patQ s.ps g s.ps.length by rw [show s.ps.length = i by omega]; exact H)
 refine wp_exit ?_
 refine Zet ?_
 refine Zet ?_
 refine ex_hit ?_
 refine Zns ?_
 refine Zsr ?_
 refine Zg2 T (Zq (Zrm rfl (T.e 2 rfl))) rfl (fun _ T => Zq (Zrm rfl evc)) rfl ?_; clear T ac; intro ac T
 replace T := T.pick [0, 1, 3, 5, 6] rfl
 refine Zln ?_
 refine wp_block ?_
 refine wp_loop_n (fun mz ac wc => ∃ (z : Nat), mz = num - z ∧ (z ≤ num) ∧ (∀ k, k < z → canW a c s (clsP s.ps g (k : Int)) = true) ∧ Tm ac 108 [(1, .slice G g.length n), (3, .map (some gm)), (4, .pointer (some ⟨g1, 0, none⟩)), (63, .int .i64 (num : Int)), (64, .int .i64 (z : Int))] ∧ Mem w (fun b => b = gm) wc [(g1, .cells [.int .i64 s.lo, .int .i64 s.wi, .int .i64 s.a0, .int .i64 s.a1, .int .i64 s.c0, .int .i64 s.c1, .slice A s.ps.length d, .func (.func 183) #[] #[.pointer (some ⟨ga, 0, none⟩)], .func (.func 184) #[] #[.pointer (some ⟨gc, 0, none⟩)]]), (gm, .any (memoQ Tryz.prog 191 (okW a c s)))]) ?_ ?_
 ·exact ⟨_, 0, rfl, (Nat.zero_le _), (fun k h => by omega), T.pick [2, 3, 4, 1, 0] rfl, M.mask [true, true] rfl⟩
 clear T M
 rintro mz ac wc ⟨z, hmm3, hz, H3, T, M⟩
 refine Zsr ?_
 refine lq T (rn_lss rfl (T.e 4 rfl) (T.e 3 rfl)) ?_; clear T ac; intro ac T
 refine Zln ?_
 refine wp_seq ?_
 refine wp_if (T.e 0 rfl) ?_ ?_
 ·intro h6
  refine Zsk ?_
  refine wp_seq ?_
  refine wp_block ?_
  refine Zsr ?_
  refine Zg2 T (Zq (Zrm rfl (T.e 5 rfl))) rfl (Za 0 rfl rfl) rfl ?_; clear T ac; intro ac T
  replace T := T.pick [0, 3, 4, 5, 6, 7] rfl
  refine Zln ?_
  refine Zsr ?_
  refine lq T (Zra rfl evc) ?_; clear T ac; intro ac T
  refine Zln ?_
  refine Zsr ?_
  refine lq T (Zra rfl evc) ?_; clear T ac; intro ac T
  refine Zln ?_
  refine wp_seq ?_
  refine Zsr ?_
  refine Zg5 (v1 := (.pointer (some ⟨g1, 0, none⟩))) (v2 := (.pointer (some ⟨g1, 6, none⟩))) T (Zq (Zrf (off := 0) rfl (T.e 5 rfl) (fun _ _ _ => by kernel_rfl))) rfl (Zf 6 0 rfl rfl) rfl (Zo M 0 0 rfl rfl rfl rfl) rfl (Zl Tryz.underlying47 0 rfl rfl) rfl (fun _ T => Zq (Zrm rfl evc)) rfl ?_; clear T ac; intro ac T
  replace T := T.pick [0, 1, 2, 5, 6, 7, 8, 9, 10, 11, 12] rfl
  refine Zln ?_
  refine wp_block ?_
  refine wp_loop_n (fun mz ac wc => ∃ (j m : Nat) (OL : List Pt) (A3 : Option Addr) (c3 : Nat) (Io : List (Nat × BA)), mz = s.ps.length - j ∧ (j ≤ s.ps.length) ∧ (m = maskP (g.take j) (z : Int)) ∧ (m < 2 ^ j) ∧ (OL = clsP (s.ps.take j) (g.take j) (z : Int)) ∧ (OL.length ≤ j) ∧ (Sl 119 4 (.slice A3 OL.length c3) OL.length (pc OL) Io) ∧ Tm ac 108 [(1, .slice G g.length n), (3, .map (some gm)), (4, .pointer (some ⟨g1, 0, none⟩)), (13, .int .i64 (z : Int)), (14, .int .u64 (m : Int)), (15, .slice A3 OL.length c3), (63, .int .i64 (num : Int)), (64, .int .i64 (z : Int)), (69, .slice A s.ps.length d), (70, .int .i64 ((s.ps.length : Nat) : Int)), (71, .int .i64 (j : Int))] ∧ Mem w (fun b => b = gm) wc ((g1, .cells [.int .i64 s.lo, .int .i64 s.wi, .int .i64 s.a0, .int .i64 s.a1, .int .i64 s.c0, .int .i64 s.c1, .slice A s.ps.length d, .func (.func 183) #[] #[.pointer (some ⟨ga, 0, none⟩)], .func (.func 184) #[] #[.pointer (some ⟨gc, 0, none⟩)]]) :: (gm, .any (memoQ Tryz.prog 191 (okW a c s))) :: Io)) ?_ ?_
  ·exact ⟨_, 0, 0, [], none, 0, [], rfl, (Nat.zero_le _), rfl, (by simp), rfl, (Nat.le_refl _), (Sl.nil _ _), T.pick [6, 7, 8, 5, 4, 3, 9, 10, 2, 1, 0] rfl, M.mask [true, true] rfl⟩
  clear T M
  rintro mz ac wc ⟨j, m, OL, A3, c3, Io, hmm4, hj, hm, hmb, hO, hOl, hsl, T, M⟩
  refine Zsr ?_
  refine lq T (rn_lss rfl (T.e 10 rfl) (T.e 9 rfl)) ?_; clear T ac; intro ac T
  refine Zln ?_
  refine wp_seq ?_
  refine wp_if (T.e 0 rfl) ?_ ?_
  ·intro h7
   obtain ⟨p, hkp, -⟩ := pc_next (l := s.ps) (k := j) (by omega)
   obtain ⟨x, hkx, -⟩ := ic_next (l := g) (k := j) (by omega)
   have hj32 := Nat.pow_le_pow_right (n := 2) (by omega) (show j ≤ 5 by omega)
   obtain ⟨bo, oo, SVo⟩ := hsl.spV (pc_length _)
   have So := SVo w (fun b => b = gm)
   refine Zsk ?_
   refine wp_seq ?_
   refine wp_block ?_
   refine Zsr ?_
   refine Zg3 (v3 := (.agg #[.int .i64 p.l, .int .i64 p.w, .bool p.gr, .int .i64 p.pa])) T (Zq (Zrm rfl (T.e 11 rfl))) rfl (fun _ T => Zq (Zri (size := 4) j rfl (T.e 10 rfl) (T.e 12 rfl) ⟨_, Tryz.underlying47, by kernel_rfl⟩ rfl (by omega) (SA.at0 (by omega)))) rfl (fun _ T => Zq (rn_rowat (Sp.pcR SA M (Zz9 _) hkp) rfl (T.e 0 rfl) rfl)) rfl ?_; clear T ac; intro ac T
   refine Zl2 ?_
   refine Zoa M T rfl rfl rfl rfl ?_; clear M T; intro g4 wc ac M T
   refine lq T (Zra rfl (T.e 3 rfl)) ?_; clear T ac; intro ac T
   refine Zl2 ?_
   refine Zos M T rfl rfl (T.e 1 rfl) (T.e 2 rfl) rfl .head rfl (by simp) rfl (by kernel_rfl) ?_; clear M T; intro wc ac M T
   replace T := T.pick [0, 1, 6, 7, 8, 9, 10, 11, 12, 13, 14, 15, 16] rfl
   refine Zln ?_
   refine Zsr ?_
   refine Zg6 T (Zq (Zrm rfl (T.e 2 rfl))) rfl (Zm 1 rfl rfl) rfl (fun _ T => Zq (Zri (size := 1) j rfl (T.e 1 rfl) (T.e 0 rfl) ⟨_, Tryz.underlying31, by kernel_rfl⟩ rfl (by omega) (SG.at0 (by omega)))) rfl (fun _ T => Zq (rn_cell (Sp.ic0 SG M (Zz9 _) hkx) rfl (T.e 0 rfl))) rfl (Zm 9 rfl rfl) rfl (fun _ T => Zq (rn_eql rfl (T.e 1 rfl) (T.e 0 rfl))) rfl ?_; clear T ac; intro ac T
   replace T := T.pick [0, 6, 7, 8, 9, 10, 11, 12, 13, 14, 15, 16, 17, 18] rfl
   refine Zln ?_
   refine wp_if (T.e 0 rfl) ?_ ?_
   ·intro h8
    refine Zsr ?_
    refine Zg4 T (Zq (Zrm rfl (T.e 7 rfl))) rfl (Zm 2 rfl rfl) rfl (fun _ T => Zq (rn_shlU rfl evc (T.e 0 rfl) (by omega))) rfl (fun _ T => Zq (rn_orU rfl (T.e 2 rfl) (T.e 0 rfl))) rfl ?_; clear T ac; intro ac T
    refine l_q (v := (.int .u64 (uorI (m : Int) (ushlI 1 (j : Int))))) (T.pick [0, 1, 2, 3, 4, 5, 6, 7, 8, 9, 10, 12, 13, 14, 15, 16, 17] rfl) rfl rfl rfl rfl (Zra rfl (T.e 0 rfl)) ?_; clear T ac; intro ac T
    replace T := T.pick [0, 7, 8, 9, 10, 11, 12, 13, 14, 15, 16, 17] rfl
    refine Zln ?_
    refine wp_region_lit ?_
    refine Zg2 T (Zq (Zrm rfl (T.e 6 rfl))) rfl (Zr M 0 2 rfl rfl rfl rfl) rfl ?_; clear T ac; intro ac T
    refine Zl2 ?_
    refine ow_bs (e := 119) [.int .i64 p.l, .int .i64 p.w, .bool p.gr, .int .i64 p.pa] M T rfl rfl rfl rfl (.cons (T.e 0 rfl) .nil) (fun _ => by kernel_rfl) ?_; clear M T; intro g5 wc ac M T
    refine Zl2 ?_
    refine ow_app ([(g5, .cells [.int .i64 p.l, .int .i64 p.w, .bool p.gr, .int .i64 p.pa]), (g4, .cells [.int .i64 p.l, .int .i64 p.w, .bool p.gr, .int .i64 p.pa]), (g1, .cells [.int .i64 s.lo, .int .i64 s.wi, .int .i64 s.a0, .int .i64 s.a1, .int .i64 s.c0, .int .i64 s.c1, .slice A s.ps.length d, .func (.func 183) #[] #[.pointer (some ⟨ga, 0, none⟩)], .func (.func 184) #[] #[.pointer (some ⟨gc, 0, none⟩)]]), (gm, .any (memoQ Tryz.prog 191 (okW a c s)))]) Tryz.info119 hsl M (by first | rfl | simp) T rfl rfl rfl rfl Tryz.underlying47 rfl rfl rfl (by omega) (T.e 2 rfl) (T.e 0 rfl) (Zne (i := 0) rfl) rfl rfl ?_; clear M T; intro ga1 cga1 wc ac M T
    refine l_q (v := (.slice (some ⟨ga1, 0, none⟩) (OL.length + 1) cga1)) (T.pick [0, 1, 2, 3, 4, 5, 6, 7, 8, 9, 11, 12, 13, 14, 15] rfl) rfl rfl rfl rfl (Zra rfl (T.e 0 rfl)) ?_; clear T ac; intro ac T
    refine wpList_nil ?_
    replace T := T.pick [0, 5, 7, 8, 9, 10, 11, 12, 13, 14, 15] rfl
    replace M := M.mask [true, false, false, true, true] rfl
    refine Znb ?_
    refine nm_then ?_
    refine wp_region_lit ?_
    refine lq T (rn_add rfl (T.e 10 rfl) evc (by omega)) ?_; clear T ac; intro ac T
    refine l_q (v := (.int .i64 ((j : Int) + 1))) (T.pick [0, 1, 2, 3, 4, 5, 6, 7, 8, 9, 10] rfl) rfl rfl rfl rfl (Zrm rfl (T.e 0 rfl)) ?_; clear T ac; intro ac T
    replace T := T.pick [0, 2, 3, 4, 5, 6, 7, 8, 9, 10, 11] rfl
    refine Zln ?_
    have e9 : OL.length + 1 = (OL ++ [p]).length := by simp
    have e8 : ((pc OL) ++ [.int .i64 p.l, .int .i64 p.w, .bool p.gr, .int .i64 p.pa]) = pc (OL ++ [p]) := by rw [← pc_snoc]
    rw [e9, e8] at M
    rw [e9] at T
    clear e9 e8
    rw [or_bit j (by omega) m (by omega) hmb] at T
    exact ⟨_, by omega, j + 1, m + 2 ^ j, (OL ++ [p]), _, _, [(ga1, .row 119 4 (OL ++ [p]).length (pc (OL ++ [p])) cga1)], rfl, (by omega), (by rw [List.take_add_one, hkx, Option.toList_some, maskP_snoc, ← hm, if_pos (show x = (z : Int) by omega), List.length_take]; congr 2; omega), (by rw [Nat.pow_succ]; omega), (by rw [List.take_add_one, List.take_add_one, hkx, hkp, Option.toList_some, Option.toList_some, clsP_snoc _ _ _ _ _ (by rw [List.length_take, List.length_take]; omega), ← hO, if_pos (show x = (z : Int) by omega)]), (by simp; omega), (Sl.row _ _ _ _ _ _), T.pick [3, 4, 5, 6, 2, 1, 7, 8, 9, 10, 0] rfl, ((M.permT [1, 2, 0] 3 rfl rfl rfl rfl).sub (Zsl ([(g1, .cells [.int .i64 s.lo, .int .i64 s.wi, .int .i64 s.a0, .int .i64 s.a1, .int .i64 s.c0, .int .i64 s.c1, .slice A s.ps.length d, .func (.func 183) #[] #[.pointer (some ⟨ga, 0, none⟩)], .func (.func 184) #[] #[.pointer (some ⟨gc, 0, none⟩)]]), (gm, .any (memoQ Tryz.prog 191 (okW a c s))), (ga1, .row 119 4 (OL ++ [p]).length (pc (OL ++ [p])) cga1)] : List (Nat × BA)) _))⟩
   intro h8
   refine wp_skip ?_
   refine Znb ?_
   refine nm_then ?_
   refine wp_region_lit ?_
   refine lq T (rn_add rfl (T.e 13 rfl) evc (by omega)) ?_; clear T ac; intro ac T
   refine l_q (v := (.int .i64 ((j : Int) + 1))) (T.pick [0, 1, 2, 3, 4, 5, 6, 7, 8, 9, 10, 11, 12, 13] rfl) rfl rfl rfl rfl (Zrm rfl (T.e 0 rfl)) ?_; clear T ac; intro ac T
   refine wpList_nil ?_
   replace T := T.pick [0, 5, 6, 7, 8, 9, 10, 11, 12, 13, 14] rfl
   replace M := M.mask [false, true, true] rfl
   refine nm_then ?_
   exact ⟨_, by omega, j + 1, m, OL, _, _, Io, rfl, (by omega), (by rw [List.take_add_one, hkx, Option.toList_some, maskP_snoc, ← hm, if_neg (show ¬ x = (z : Int) by omega)]; rfl), (by rw [Nat.pow_succ]; omega), (by rw [List.take_add_one, List.take_add_one, hkx, hkp, Option.toList_some, Option.toList_some, clsP_snoc _ _ _ _ _ (by rw [List.length_take, List.length_take]; omega), ← hO, if_neg (show ¬ x = (z : Int) by omega)]; simp), (by omega), hsl, T.pick [1, 2, 3, 4, 5, 6, 7, 8, 9, 10, 0] rfl, M.mask [true, true] rfl⟩
  intro h7
  obtain ⟨bo, oo, SVo⟩ := hsl.spV (pc_length _)
  have So := SVo w (fun b => b = gm)
  have hj32 := Nat.pow_le_pow_right (n := 2) (by omega) (show j ≤ 5 by omega)
  rw [List.take_of_length_le (by omega)] at hm
  rw [List.take_of_length_le (by omega), List.take_of_length_le (by omega)] at hO
  have hOs : OL = sel s.ps m := by rw [hO, hm]; exact clsP_sel _ _ _ hgl.symm
  have hgO : ∀ p ∈ OL, p.good := fun p hp => hg p (by rw [hO] at hp; obtain ⟨q9, hq9, rfl⟩ := List.mem_map.1 hp; exact (List.of_mem_zip (List.mem_filter.1 hq9).1).1)
  refine wp_exit ?_
  refine Zet ?_
  refine Zet ?_
  refine ex_hit ?_
  refine nm_then ?_
  refine Zsr ?_
  refine Zg2 T (Zq (Zrm rfl (T.e 2 rfl))) rfl (Zm 6 rfl rfl) rfl ?_; clear T ac; intro ac T
  refine Zl2 ?_
  obtain ⟨klk1, hklk1⟩ := (⟨_, Go.Maps.keyOf_int_mk Tryz.underlying191 (wfu64 (by omega))⟩ : ∃ l, keyOf Tryz.prog 191 (.int .u64 (m : Int)) = some l)
  refine ow_lk (okv := (okW a c s)) (Go.Maps.int_keyed Tryz.underlying191) Tryz.underlying272 Tryz.zeroBool M T (Zne (i := 1) rfl) rfl rfl rfl rfl (T.e 1 rfl) (T.e 0 rfl) hklk1 ?_; clear T; intro vk1 bk1 hvk1 hzk1 ac T
  refine Zg5 T (Zq (Zrm rfl (T.e 0 rfl))) rfl (Ze 0 rfl rfl rfl) rfl (Ze 1 rfl rfl rfl) rfl (Za 1 rfl rfl) rfl (Za 1 rfl rfl) rfl ?_; clear T ac; intro ac T
  replace T := T.pick [0, 1, 9, 10, 11, 13, 14, 15, 16] rfl
  refine Zln ?_
  refine wp_seq ?_
  refine Zsr ?_
  refine Zg2 T (Zq (Zrm rfl (T.e 0 rfl))) rfl (fun _ T => Zq (rn_not rfl (T.e 0 rfl))) rfl ?_; clear T ac; intro ac T
  replace T := T.pick [0, 3, 4, 5, 6, 7, 8, 9, 10] rfl
  refine Zln ?_
  refine wp_cond_split (T.e 0 rfl) ?_ ?_
  ·intro h9
   (have h9' := h9; try simp only [Zb1, Zb2, Zb3, Zb4, Zb5, Zb6, Zb7] at h9')
   refine Zsr ?_
   refine Zg2 T (Zq (Zrr (Mem.nth M 0 rfl) rfl (T.e 4 rfl) rfl)) rfl (Zm 7 rfl rfl) rfl ?_; clear T ac; intro ac T
   refine Zl2 ?_
   refine Zoc (first := []) (cap := []) T rfl rfl rfl rfl evf (.cons (T.e 1 rfl) (.cons (T.e 0 rfl) .nil)) Tryz.func230 rfl rfl ?_
   refine Calls.mono (fit_any s A d a c ga gc A3 c3 OL wc.heap.size _ ha hc hgO (by omega) (by omega) (by omega) (Nat.le_refl _) ⟨M.old qa hna, M.old qc hnc, So.rd M (.cons _ (.cons _ (List.Sublist.refl _))), (M.old qa hna).lt, (M.old qc hnc).lt, (hT.mem M hn1).lt, Nat.le_refl _, hT.mem M hn1⟩) ?_
   clear T; rintro e wc ⟨rfl, hb⟩ ac T
   replace M := M.call hb; clear hb
   have hcs : canW a c s OL = canB a c OL (⟨(2 ^ OL.length - 1 : Nat), s.lo, s.wi⟩ : Rm) := rfl
   rw [← hcs] at T
   refine l_q (v := (.bool (canW a c s OL))) (T.pick [0, 1, 2, 3, 5, 6, 7, 8, 9, 10, 11] rfl) rfl rfl rfl rfl (Zra rfl (T.e 0 rfl)) ?_; clear T ac; intro ac T
   replace T := T.pick [0, 5, 6, 7, 8, 10, 11] rfl
   refine Zln ?_
   refine wp_region_lit ?_
   refine Zg3 T (Zq (Zrm rfl (T.e 2 rfl))) rfl (Zm 5 rfl rfl) rfl (Zm 2 rfl rfl) rfl ?_; clear T ac; intro ac T
   refine Zl2 ?_
   obtain ⟨klk2, hklk2⟩ := (⟨_, Go.Maps.keyOf_int_mk Tryz.underlying191 (wfu64 (by omega))⟩ : ∃ l, keyOf Tryz.prog 191 (.int .u64 (m : Int)) = some l)
   refine ow_muM (okv := (okW a c s)) (Go.Maps.int_keyed Tryz.underlying191) Tryz.underlying272 M T rfl rfl (T.e 2 rfl) (T.e 1 rfl) (T.e 0 rfl) (.tail .head) hklk2 (okW_of hOs) ?_; clear M T; intro wc ac M T
   replace T := T.pick [3, 4, 5, 6, 8, 9] rfl
   refine Zln ?_
   refine Zsr ?_
   refine Zg2 T (Zq (Zrm rfl (T.e 0 rfl))) rfl (fun _ T => Zq (rn_not rfl (T.e 0 rfl))) rfl ?_; clear T ac; intro ac T
   replace T := T.pick [0, 3, 4, 5, 6, 7] rfl
   refine Zln ?_
   refine wp_cond_split (T.e 0 rfl) ?_ ?_
   ·intro h10
    (have h10' := h10; try simp only [Zb1, Zb2, Zb3, Zb4, Zb5, Zb6, Zb7] at h10')
    refine Zsr ?_
    refine lq T (Zra rfl evc) ?_; clear T ac; intro ac T
    refine wpList_nil ?_
    replace T := T.pick [0] rfl
    replace M := M.mask [false, true] rfl
    refine Znr ?_
    refine Zrb ?_
    refine Zrt ?_
    refine Zrt ?_
    refine Zrb ?_
    refine Zrt ?_
    refine rt_1 T rfl (T.e 0 rfl) ?_
    have e9 : willV a c s g num = false := by unfold willV; rw [Bool.and_eq_false_imp]; intro _; rw [List.all_eq_false]; exact ⟨z, List.mem_range.2 (by omega), by rw [← hO]; simp_all⟩
    rw [e9]
    exact ⟨rfl, (M.permT [0] 1 rfl rfl rfl rfl).sub (Zsl ([(gm, .any (memoQ Tryz.prog 191 (okW a c s)))] : List (Nat × BA)) _)⟩
   intro h10
   (have h10' := h10; try simp only [Zb1, Zb2, Zb3, Zb4, Zb5, Zb6, Zb7] at h10')
   refine wp_skip ?_
   refine Znb ?_
   refine nm_then ?_
   refine wp_region_lit ?_
   refine lq T (rn_add rfl (T.e 5 rfl) evc (by omega)) ?_; clear T ac; intro ac T
   refine l_q (v := (.int .i64 ((z : Int) + 1))) (T.pick [0, 1, 2, 3, 4, 5] rfl) rfl rfl rfl rfl (Zrm rfl (T.e 0 rfl)) ?_; clear T ac; intro ac T
   replace T := T.pick [0, 3, 4, 5, 6] rfl
   refine Zln ?_
   exact ⟨_, by omega, z + 1, rfl, (by omega), (fun k9 h9 => by rcases Nat.lt_or_eq_of_le (Nat.le_of_lt_succ h9) with h8 | rfl; exact H3 k9 h8; rw [← hO]; simp_all), T.pick [1, 2, 3, 4, 0] rfl, ((M.permT [0, 1] 2 rfl rfl rfl rfl).sub (Zsl ([(g1, .cells [.int .i64 s.lo, .int .i64 s.wi, .int .i64 s.a0, .int .i64 s.a1, .int .i64 s.c0, .int .i64 s.c1, .slice A s.ps.length d, .func (.func 183) #[] #[.pointer (some ⟨ga, 0, none⟩)], .func (.func 184) #[] #[.pointer (some ⟨gc, 0, none⟩)]]), (gm, .any (memoQ Tryz.prog 191 (okW a c s)))] : List (Nat × BA)) _))⟩
  intro h9
  (have h9' := h9; try simp only [Zb1, Zb2, Zb3, Zb4, Zb5, Zb6, Zb7] at h9')
  have hv9 := hvk1 (by simpa using h9) m rfl
  rw [← hOs] at hv9
  subst hv9
  refine Zsk ?_
  refine Zsr ?_
  refine Zg2 T (Zq (Zrm rfl (T.e 1 rfl))) rfl (fun _ T => Zq (rn_not rfl (T.e 0 rfl))) rfl ?_; clear T ac; intro ac T
  replace T := T.pick [0, 4, 5, 6, 9, 10] rfl
  refine Zln ?_
  refine wp_cond_split (T.e 0 rfl) ?_ ?_
  ·intro h11
   (have h11' := h11; try simp only [Zb1, Zb2, Zb3, Zb4, Zb5, Zb6, Zb7] at h11')
   refine Zsr ?_
   refine lq T (Zra rfl evc) ?_; clear T ac; intro ac T
   refine wpList_nil ?_
   replace T := T.pick [0] rfl
   replace M := M.mask [false, true] rfl
   refine Znr ?_
   refine Zrb ?_
   refine Zrt ?_
   refine Zrt ?_
   refine Zrb ?_
   refine Zrt ?_
   refine rt_1 T rfl (T.e 0 rfl) ?_
   have e9 : willV a c s g num = false := by unfold willV; rw [Bool.and_eq_false_imp]; intro _; rw [List.all_eq_false]; exact ⟨z, List.mem_range.2 (by omega), by rw [← hO]; simp_all⟩
   rw [e9]
   exact ⟨rfl, (M.permT [0] 1 rfl rfl rfl rfl).sub (Zsl ([(gm, .any (memoQ Tryz.prog 191 (okW a c s)))] : List (Nat × BA)) _)⟩
  intro h11
  (have h11' := h11; try simp only [Zb1, Zb2, Zb3, Zb4, Zb5, Zb6, Zb7] at h11')
  refine wp_skip ?_
  refine Znb ?_
  refine nm_then ?_
  refine wp_region_lit ?_
  refine lq T (rn_add rfl (T.e 5 rfl) evc (by omega)) ?_; clear T ac; intro ac T
  refine l_q (v := (.int .i64 ((z : Int) + 1))) (T.pick [0, 1, 2, 3, 4, 5] rfl) rfl rfl rfl rfl (Zrm rfl (T.e 0 rfl)) ?_; clear T ac; intro ac T
  replace T := T.pick [0, 3, 4, 5, 6] rfl
  refine Zln ?_
  exact ⟨_, by omega, z + 1, rfl, (by omega), (fun k9 h9 => by rcases Nat.lt_or_eq_of_le (Nat.le_of_lt_succ h9) with h8 | rfl; exact H3 k9 h8; rw [← hO]; simp_all), T.pick [1, 2, 3, 4, 0] rfl, ((M.permT [0, 1] 2 rfl rfl rfl rfl).sub (Zsl ([(g1, .cells [.int .i64 s.lo, .int .i64 s.wi, .int .i64 s.a0, .int .i64 s.a1, .int .i64 s.c0, .int .i64 s.c1, .slice A s.ps.length d, .func (.func 183) #[] #[.pointer (some ⟨ga, 0, none⟩)], .func (.func 184) #[] #[.pointer (some ⟨gc, 0, none⟩)]]), (gm, .any (memoQ Tryz.prog 191 (okW a c s)))] : List (Nat × BA)) _))⟩
 intro h6
 refine wp_exit ?_
 refine Zet ?_
 refine Zet ?_
 refine ex_hit ?_
 refine nm_then ?_
 refine Zsr ?_
 refine lq T (Zra rfl evc) ?_; clear T ac; intro ac T
 refine wpList_nil ?_
 replace T := T.pick [0] rfl
 replace M := M.mask [false, true] rfl
 refine Znr ?_
 refine rt_1 T rfl (T.e 0 rfl) ?_
 have e9 : willV a c s g num = true := by unfold willV; rw [hpat, Bool.true_and, List.all_eq_true]; exact fun k hk => H3 k (by have := List.mem_range.1 hk; omega)
 rw [e9]
 exact ⟨rfl, M.mask [true] rfl⟩
section
variable {P : Program} {fn : Func} {R : Ending → World → Prop} {a : Act} {w0 w : World} {ex : Nat → Prop} {L : List (Nat × BA)} {n : Nat} {E : List (Nat × Value)}
theorem rt_ccc {t t' t2 : Tmp} {ty ty' ty2 : TypeId} {g g' g2 : Nat} {v v' v2 : Value} [OneTy P ty] [OneTy P ty'] [OneTy P ty2] (M : Mem w0 ex w L) (T : Tm a n E) (hr : fn.results = #[.cell t ty, .cell t' ty', .cell t2 ty2])
  (hx : a.eval (.tmp t) = .pointer (some ⟨g, 0, none⟩)) (hx' : a.eval (.tmp t') = .pointer (some ⟨g', 0, none⟩)) (hx2 : a.eval (.tmp t2) = .pointer (some ⟨g2, 0, none⟩)) (hm : (g, BA.cells [v]) ∈ L) (hm' : (g', BA.cells [v']) ∈ L) (hm2 : (g2, BA.cells [v2]) ∈ L)
  (h : R (.returned (.tuple #[v, v', v2])) w) : bodyPost P fn R .ret a w := by
 refine ⟨T.defers, .tuple #[v, v', v2], ?_, h⟩
 have hl := run_load_one (P := P) (ty := ty) (o := 0) (M.get hm) (cs := [v]) rfl
 have hl' := run_load_one (P := P) (ty := ty') (o := 0) (M.get hm') (cs := [v']) rfl
 have hl2 := run_load_one (P := P) (ty := ty2) (o := 0) (M.get hm2) (cs := [v2]) rfl
 have e : a.tmps[t]?.getD undef = .pointer (some ⟨g, 0, none⟩) := by simpa [Act.eval] using hx
 have e' : a.tmps[t']?.getD undef = .pointer (some ⟨g', 0, none⟩) := by simpa [Act.eval] using hx'
 have e2 : a.tmps[t2]?.getD undef = .pointer (some ⟨g2, 0, none⟩) := by simpa [Act.eval] using hx2
 simp [results, hr, e, e', e2, asAddr, hl, hl', hl2, Sem.run_bind]
end
theorem Rd.memR {n1 size n : Nat} {w w' : World} {B : Option Addr} {xs : List Value} {ex : Nat → Prop} {L : List (Nat × BA)} (h : Rd w n1 size B n xs) (M : Mem w ex w' L) (hx : ∀ b o, B = some ⟨b, o, none⟩ → 0 < n → ¬ ex b) (hle : n1 ≤ w.heap.size) : Rd w' n1 size B n xs :=
 ⟨h.1, fun hn => by
  obtain ⟨b, o, h1, h2, h3⟩ := h.2 hn
  exact ⟨b, o, h1, h2, fun j u hu => (World.cell?_of_block (w := w) (a := ⟨b, o + j, none⟩) (M.block b (by omega) (hx b o h1 hn))).trans (h3 j u hu)⟩⟩
theorem RdF.memX {B n : Nat} {w w' : World} {A : Option Addr} {xs : List Value} {ex : Nat → Prop} {L : List (Nat × BA)} (r : RdF B w A n xs) (M : Mem w ex w' L) (hx : ∀ b, ex b → b < B) : RdF B w' A n xs :=
 ⟨(r.1.memR M (fun b o h1 h2 he => by have := hx b he; have := r.2 b o h1 h2; omega) (Nat.le_refl _)).more M.size, r.2⟩
theorem RdF.nil (B : Nat) (w : World) : RdF B w none 0 (ic []) := ⟨⟨by simp [ic], fun h => absurd h (by omega)⟩, fun b o h => by cases h⟩
theorem RdF.tail {B n : Nat} {w0 w : World} {A : Option Addr} {xs : List Value} {ex : Nat → Prop} {L : List (Nat × BA)} (r : RdF B w A n xs) (hB : w0.heap.size ≤ B) (hl : xs.length = n) (M : Mem w0 ex w L) (hL : ∀ p ∈ L, p.1 < B ∨ p.2 = dfA) : ∃ I : List (Nat × BA), (∃ b o, ∀ (w1 : World) (ex : Nat → Prop), Sp w1 ex I A n 1 b o xs) ∧ Mem w0 ex w (L ++ I) := by
 rcases Nat.eq_zero_or_pos n with rfl | hn
 ·have hx : xs = [] := List.eq_nil_of_length_eq_zero hl
  subst hx
  exact ⟨[], ⟨0, 0, fun w1 ex => Sp.nil⟩, by rw [List.append_nil]; exact M⟩
 ·obtain ⟨b, o, h1, h2, h3⟩ := r.1.2 hn
  have hb := r.2 b o h1 hn
  refine ⟨[(b, .any fun ob => ob = w.heap[b])], ⟨b, o, fun w1 ex => ⟨fun _ => h1, r.1.1, fun w' L M' hI _ => BA.lt (M'.blk _ (hI.subset Zz2)).2, fun w' L M' hI j u hu => ?_⟩⟩, (M.add (by omega) (p := .any fun ob => ob = w.heap[b]) ⟨_, Array.getElem?_eq_getElem h2, rfl⟩ (fun q hq e => ?_)).swapI (I := [(b, .any fun ob => ob = w.heap[b])])⟩
  ·obtain ⟨ob, ho, he⟩ := M'.at (hI.subset Zz2)
   subst he
   exact (World.cell?_of_block (w := w) (a := ⟨b, o + j, none⟩) (ho.trans (Array.getElem?_eq_getElem h2).symm)).trans (h3 j u hu)
  ·rcases hL q hq with h | h
   ·omega
   ·have hq2 : (q.1, dfA) ∈ L := by rw [← h]; exact hq
    obtain ⟨ob, ho, he⟩ := M.at hq2
    have hc := h3 0 xs[0] (List.getElem?_eq_getElem (by omega))
    obtain ⟨ob2, ho2, hc2⟩ := cell_isC hc
    rw [e] at ho
    rw [ho] at ho2
    injection ho2 with ho2
    rw [← ho2, he] at hc2
    cases hc2
theorem sheets1_any (s : Sk) (A : Option Addr) (d : Nat) (a c : Int) (ga gc gb gt n1 gm : Nat) (G : Option Addr) (n : Nat) (g : List Int) (num : Nat)  (w : World) (ha : 0 ≤ a ∧ a ≤ 2) (hc : 0 ≤ c ∧ c ≤ 2) (hg : ∀ p ∈ s.ps, p.good) (h5 : s.ps.length ≤ 5) (hlo : 0 ≤ s.lo ∧ s.lo ≤ 12) (hwi : 0 ≤ s.wi ∧ s.wi ≤ 12) (hd : s.ps.length ≤ d) (hn1 : n1 ≤ gm) (hgl : g.length = s.ps.length) (hnum : num ≤ 1000000) (he : PlW w n1 a c ga gc A s.ps) (qb : Bk w gb #[.int .i64 s.lo, .int .i64 s.wi, .int .i64 s.a0, .int .i64 s.a1, .int .i64 s.c0, .int .i64 s.c1, .slice A s.ps.length d, .func (.func 183) #[] #[.pointer (some ⟨ga, 0, none⟩)], .func (.func 184) #[] #[.pointer (some ⟨gc, 0, none⟩)]]) (qt : Bk w gt #[.map (some gm)]) (hq : BA.holds w gm (.any (memoQ Tryz.prog 191 (okW a c s)))) (hG : Rd w w.heap.size 1 G g.length (ic g)) :
  Calls Tryz.prog 191 #[.slice G g.length n, .int .i64 (num : Int), .pointer (some ⟨gb, 0, none⟩), .pointer (some ⟨gt, 0, none⟩)] w fun e9 w' => e9 = .returned (.bool (willV a c s g num)) ∧ Mem w (fun b => b = gm) w' [(gm, .any (memoQ Tryz.prog 191 (okW a c s)))] := by
 obtain ⟨bG, oG, SG⟩ := Sp.oldM hG (by omega) hq
 have hnb : ¬ gb = gm := memo_not hq (by simpa using qb.cell 0)
 have hnt : ¬ gt = gm := memo_not hq (by simpa using qt.cell 0)
 refine Zpx (fun b => b = gm) Tryz.func191 rfl 12 rfl [.slice G g.length n, .int .i64 (num : Int), .pointer (some ⟨gb, 0, none⟩), .pointer (some ⟨gt, 0, none⟩)] rfl rfl (Mem.initEx (p := .any (memoQ Tryz.prog 191 (okW a c s))) hq) ?_
 intro ac wc T M
 refine Zsr ?_
 refine lq T (Zra rfl evc) ?_; clear T ac; intro ac T
 replace T := T.pick [1, 2, 3, 4] rfl
 refine Zln ?_
 refine Zsr ?_
 refine Zg4 T (Zq (Zrr (Mem.old M qb hnb) rfl (T.e 2 rfl) rfl)) rfl (Zm 1 rfl rfl) rfl (Zm 3 rfl rfl) rfl (fun _ T => Zq (Zro (Mem.old M qt hnt) rfl (T.e 6 rfl) rfl)) rfl ?_; clear T ac; intro ac T
 refine Zl2 ?_
 have hE9 := he.mem M (fun b h => by have : b = gm := h; omega)
 refine Zoc (first := []) (cap := []) T rfl rfl rfl rfl evf (.cons (T.e 3 rfl) (.cons (T.e 2 rfl) (.cons (T.e 1 rfl) (.cons (T.e 0 rfl) .nil)))) Tryz.func192 rfl rfl ?_
 refine Calls.mono (will_any s A d a c ga gc G n g num gm _ ha hc hg h5 hlo hwi hd hgl (by omega) hE9.qa hE9.qc (hE9.hL.more hE9.le) (SG.rd M (Zz9 _)) hE9.tab (M.at (Zne (i := 0) rfl))) ?_
 clear T; rintro e wc ⟨rfl, N⟩ ac T
 replace M := M.joinE N .head
 clear N
 refine lq T (Zra rfl (T.e 0 rfl)) ?_; clear T ac; intro ac T
 replace T := T.pick [0] rfl
 refine Zln ?_
 refine wp_ret ?_
 refine rt_1 T rfl (T.e 0 rfl) ?_
 exact ⟨rfl, M⟩
def FewPost (a c : Int) (s : Sk) (gm : Nat) (w : World) (e9 : Ending) (w' : World) : Prop := ∃ (bA : Option Addr) (bc : Nat) (bl : List Int) (bn : Nat) (bi : Bool), e9 = .returned (.tuple #[.slice bA bl.length bc, .int .i64 (bn : Int), .bool bi]) ∧ fewF (fun x : List Int × Nat => willV a c s x.1 x.2) (asgP s.ps.length [] 0) = (if bi = true then some (bl, bn) else none) ∧ bl.length ≤ bc ∧ ∃ I : List (Nat × BA), (∃ b o, ∀ (w1 : World) (ex : Nat → Prop), Sp w1 ex I bA bl.length 1 b o (ic bl)) ∧ Mem w (fun b => b = gm) w' ((gm, .any (memoQ Tryz.prog 191 (okW a c s))) :: I)
theorem fewS_take {p : List Int × Nat → Bool} {l : List Int} {n bn : Nat} {bl : List Int} {bi : Bool} (h : (bi = false ∨ (n : Int) < (bn : Int)) ∧ p (l, n) = true) : fewS p (if bi = true then some (bl, bn) else none) (l, n) = some (l, n) := by
 obtain ⟨h1, h2⟩ := h
 cases bi with
 | false => simp [fewS, h2]
 | true =>
  have : n < bn := by rcases h1 with h | h; cases h; omega
  simp [fewS, h2, this]
theorem fewS_leave {p : List Int × Nat → Bool} {l : List Int} {n bn : Nat} {bl : List Int} {bi : Bool} (h : ¬ ((bi = false ∨ (n : Int) < (bn : Int)) ∧ p (l, n) = true)) : fewS p (if bi = true then some (bl, bn) else none) (l, n) = if bi = true then some (bl, bn) else none := by
 unfold fewS
 rw [if_neg]
 intro h2
 rw [Bool.and_eq_true] at h2
 refine h ⟨?_, h2.2⟩
 cases bi with
 | false => exact .inl rfl
 | true =>
  right
  have := h2.1
  simp at this
  omega
set_option maxHeartbeats 4000000 in
theorem few_any (s : Sk) (A : Option Addr) (d : Nat) (a c : Int) (ga gc gb gt n1 gm : Nat) (gl : Nat)  (w : World) (ha : 0 ≤ a ∧ a ≤ 2) (hc : 0 ≤ c ∧ c ≤ 2) (hg : ∀ p ∈ s.ps, p.good) (h5 : s.ps.length ≤ 5) (hlo : 0 ≤ s.lo ∧ s.lo ≤ 12) (hwi : 0 ≤ s.wi ∧ s.wi ≤ 12) (hd : s.ps.length ≤ d) (hn1 : n1 ≤ gm) (he : PlW w n1 a c ga gc A s.ps) (qb : Bk w gb #[.int .i64 s.lo, .int .i64 s.wi, .int .i64 s.a0, .int .i64 s.a1, .int .i64 s.c0, .int .i64 s.c1, .slice A s.ps.length d, .func (.func 183) #[] #[.pointer (some ⟨ga, 0, none⟩)], .func (.func 184) #[] #[.pointer (some ⟨gc, 0, none⟩)]]) (qt : Bk w gt #[.map (some gm)]) (hq : BA.holds w gm (.any (memoQ Tryz.prog 191 (okW a c s)))) (ql : Bk w gl #[.int .i64 (s.ps.length : Int)]) :
   Calls Tryz.prog 189 #[.func (.func 227) #[] #[.pointer (some ⟨gl, 0, none⟩)], .func (.func 191) #[] #[.pointer (some ⟨gb, 0, none⟩), .pointer (some ⟨gt, 0, none⟩)]] w (FewPost a c s gm w) := by
 have hnb : ¬ gb = gm := memo_not hq (by simpa using qb.cell 0)
 have hnt : ¬ gt = gm := memo_not hq (by simpa using qt.cell 0)
 have hnl : ¬ gl = gm := memo_not hq (by simpa using ql.cell 0)
 have hx9 : ∀ b, b = gm → n1 ≤ b := fun b h => by omega
 refine px_enterM (fun b => b = gm) Tryz.func189 rfl 30 rfl [.func (.func 227) #[] #[.pointer (some ⟨gl, 0, none⟩)], .func (.func 191) #[] #[.pointer (some ⟨gb, 0, none⟩), .pointer (some ⟨gt, 0, none⟩)]] rfl rfl (Mem.initEx (p := .any (memoQ Tryz.prog 191 (okW a c s))) hq) ?_
 intro ac wc T M
 refine Zsr ?_
 refine Zl2 ?_
 refine Zob M T rfl rfl rfl rfl (T.e 1 rfl) rfl ?_; clear M T; intro g1 wc ac M T
 refine Zl2 ?_
 refine Zoa M T rfl rfl rfl rfl ?_; clear M T; intro g2 wc ac M T
 refine Zl2 ?_
 refine Zoa M T rfl rfl rfl rfl ?_; clear M T; intro g3 wc ac M T
 refine Zl2 ?_
 refine Zoa M T rfl rfl rfl rfl ?_; clear M T; intro g4 wc ac M T
 replace T := T.pick [0, 1, 2, 3, 4] rfl
 refine Zln ?_
 refine wp_seq ?_
 refine Zsr ?_
 refine lq T (Zrm rfl (T.e 4 rfl)) ?_; clear T ac; intro ac T
 replace T := T.pick [0, 1, 2, 3, 4] rfl
 refine Zln ?_
 refine wp_block ?_
 obtain ⟨n9, hn9⟩ : ∃ q : Nat, q = wc.heap.size := ⟨_, rfl⟩
 have hn9w : w.heap.size ≤ n9 := by rw [hn9]; exact M.size
 have hE := he.mem M hx9
 have qb0 := M.old qb hnb
 have qt0 := M.old qt hnt
 have ql0 := M.old ql hnl
 have qw0 := M.nth 3 rfl
 have hnw : g1 ∉ ([g4, g3, g2, gm] : List Nat) := M.other 3 rfl (bs := [g4, g3, g2, gm]) rfl ∘ (fun h => by simp only [List.mem_cons, List.not_mem_nil, or_false] at h ⊢; omega)
 have hown : ∀ b, b ∈ ([g4, g3, g2, gm] : List Nat) → n1 ≤ b := fun b hb => M.ges he.le hx9 (bs := [g4, g3, g2, g1, gm]) rfl b (by simp only [List.mem_cons, List.not_mem_nil, or_false] at hb ⊢; omega)
 have hownl : ∀ b, b ∈ ([g4, g3, g2, gm] : List Nat) → b < n9 := fun b hb => by rw [hn9]; exact M.lts (bs := [g4, g3, g2, g1, gm]) rfl b (by simp only [List.mem_cons, List.not_mem_nil, or_false] at hb ⊢; omega)
 have hown2 : ∀ b, b ∈ ([g4, g3, g2, gm] : List Nat) → b = gm ∨ w.heap.size ≤ b := fun b hb => by
   simp only [List.mem_cons, List.not_mem_nil, or_false] at hb
   rcases hb with hb | hb | hb | hb
   · subst hb; exact (M.blk _ (Zne (i := 0) rfl)).1.symm
   · subst hb; exact (M.blk _ (Zne (i := 1) rfl)).1.symm
   · subst hb; exact (M.blk _ (Zne (i := 2) rfl)).1.symm
   · subst hb; exact (M.blk _ (Zne (i := 4) rfl)).1.symm
 have hngt : gt ∉ ([g4, g3, g2, gm] : List Nat) := fun h => by rcases hown2 _ h with h9 | h9; exact hnt h9; have := qt.lt; omega
 have hngl : gl ∉ ([g4, g3, g2, gm] : List Nat) := fun h => by rcases hown2 _ h with h9 | h9; exact hnl h9; have := ql.lt; omega
 have hngb : gb ∉ ([g4, g3, g2, gm] : List Nat) := fun h => by rcases hown2 _ h with h9 | h9; exact hnb h9; have := qb.lt; omega
 replace T := T.pick [4, 3, 2, 1, 0] rfl
 replace M := M.mask [true, true, true, false, true] rfl
 have hlt_g4 := M.lt (Zne (i := 0) rfl)
 have hlt_g3 := M.lt (Zne (i := 1) rfl)
 have hlt_g2 := M.lt (Zne (i := 2) rfl)
 have hlt_gm := M.lt (Zne (i := 3) rfl)
 refine px_rangeB (α := AsX) (γ := Unit) (n := 30) T (T.e 4 rfl) (enters_of Tryz.func227 (by kernel_rfl) rfl) (fun b => b ∈ ([g4, g3, g2, gm] : List Nat)) (asg_seq gl s.ps.length (fun b => b ∈ ([g4, g3, g2, gm] : List Nat)) _ h5 hngl (fun b h => by rw [← hn9]; exact hownl b h) ql0) (fun _ => rfl) (fun (pre : List (AsX)) (Lx : List (Nat × BA)) (W : World) => ∃ (bA : Option Addr) (bc : Nat) (bl : List Int) (bn : Nat) (bi : Bool), (fewF (fun x : List Int × Nat => willV a c s x.1 x.2) (pre.map asP) = if bi = true then some (bl, bn) else none) ∧ (RdF n9 W bA bl.length (ic bl)) ∧ (bl.length ≤ bc) ∧ (PlW W n1 a c ga gc A s.ps) ∧ (Bk W gb #[.int .i64 s.lo, .int .i64 s.wi, .int .i64 s.a0, .int .i64 s.a1, .int .i64 s.c0, .int .i64 s.c1, .slice A s.ps.length d, .func (.func 183) #[] #[.pointer (some ⟨ga, 0, none⟩)], .func (.func 184) #[] #[.pointer (some ⟨gc, 0, none⟩)]]) ∧ (Bk W gt #[.map (some gm)]) ∧ (Bk W g1 #[.func (.func 191) #[] #[.pointer (some ⟨gb, 0, none⟩), .pointer (some ⟨gt, 0, none⟩)]]) ∧ Lx = [(g4, .cells [.bool bi]), (g3, .cells [.int .i64 (bn : Int)]), (g2, .cells [.slice bA bl.length bc]), (gm, .any (memoQ Tryz.prog 191 (okW a c s)))]) (fun _ _ _ _ => False)
   (fun x => [(11, .int .i64 (x.n : Int)), (10, .slice x.A x.l.length x.c), (3, .pointer (some ⟨g1, 0, none⟩)), (4, .pointer (some ⟨g2, 0, none⟩)), (5, .pointer (some ⟨g3, 0, none⟩)), (6, .pointer (some ⟨g4, 0, none⟩)), (9, .func (.func 227) #[] #[.pointer (some ⟨gl, 0, none⟩)])]) (fun x _ => [(8, .int .i64 (x.n : Int)), (7, .slice x.A x.l.length x.c), (3, .pointer (some ⟨g1, 0, none⟩)), (4, .pointer (some ⟨g2, 0, none⟩)), (5, .pointer (some ⟨g3, 0, none⟩)), (6, .pointer (some ⟨g4, 0, none⟩))]) (fun x _ => []) ?_ ?_ ?_ ?_ ?_ ?_ ?_ ?_ M ?_ ?_ ?_ ?_ ?_ ?_ ?_
 ·rintro pre Lx W ⟨bA, bc, bl, bn, bi, hF, hR, hcp, he, qb, qt, qw, rfl⟩ p hp
  rcases List.mem_cons.1 hp with rfl | hp
  · exact hlt_g4
  rcases List.mem_cons.1 hp with rfl | hp
  · exact hlt_g3
  rcases List.mem_cons.1 hp with rfl | hp
  · exact hlt_g2
  rcases List.mem_cons.1 hp with rfl | hp
  · exact hlt_gm
  cases hp
 ·rintro c pre Lx W h
  exact h.elim
 ·rintro pre Lx W ⟨bA, bc, bl, bn, bi, hF, hR, hcp, he, qb, qt, qw, rfl⟩ p hp
  exact List.mem_map.2 ⟨p, hp, rfl⟩
 ·intro b hb
  simp only [List.mem_cons, List.not_mem_nil, or_false] at hb
  rcases hb with rfl | rfl | rfl | rfl
  · exact hlt_g4
  · exact hlt_g3
  · exact hlt_g2
  · exact hlt_gm
 ·intro b hb
  simp only [List.mem_cons, List.not_mem_nil, or_false] at hb
  rcases hb with rfl | rfl | rfl | rfl
  · exact (M.blk _ (Zne (i := 0) rfl)).1.symm
  · exact (M.blk _ (Zne (i := 1) rfl)).1.symm
  · exact (M.blk _ (Zne (i := 2) rfl)).1.symm
  · exact (M.blk _ (Zne (i := 3) rfl)).1.symm
 ·exact AsOx.calm _ _ _
 ·rintro pre Lx W W' ⟨bA, bc, bl, bn, bi, hF, hR, hcp, he, qb, qt, qw, rfl⟩ hK
  exact ⟨bA, bc, bl, bn, bi, hF, (hR.kpN hK), hcp, (he.kpN hK), (hK.bk qb), (hK.bk qt), (hK.bk qw), rfl⟩
 ·exact fun _ _ _ _ _ h _ => h
 ·exact ⟨none, 0, [], 0, false, rfl, (RdF.nil _ _), (Nat.le_refl _), hE, qb0, qt0, qw0, rfl⟩
 ·exact fun x => T.round2 _ _ rfl rfl rfl rfl
 ·intro x c p hp
  cases hp
 ·intro lp9 x wc K1 ac T hK1
  have M := Mem.init wc noEx
  refine wpIn_seq ?_
  refine ri_lit (fun _ _ h => h) rfl ?_
  refine lq T (Zra rfl (T.e 1 rfl)) ?_; clear T ac; intro ac T
  replace T := T.pick [0, 1, 3, 4, 5, 6] rfl
  refine Zln ?_
  refine ri_lit (fun _ _ h => h) rfl ?_
  refine lq T (Zra rfl (T.e 1 rfl)) ?_; clear T ac; intro ac T
  replace T := T.pick [0, 1, 3, 4, 5, 6] rfl
  refine Zln ?_
  exact hK1 () _ _ (T.pick [0, 1, 2, 3, 4, 5] rfl) (M.mask [] rfl)
 ·rintro lp9 pre x ⟨⟩ Lx ac w hj hox hz hlp M0 hnl9 exb wc hexb hwc T M
  obtain ⟨bA, bc, bl, bn, bi, hF, hR, hcp, he, qb, qt, qw, rfl⟩ := hj
  replace T : TmD [] ac 30 [(8, .int .i64 (x.n : Int)), (7, .slice x.A x.l.length x.c), (3, .pointer (some ⟨g1, 0, none⟩)), (4, .pointer (some ⟨g2, 0, none⟩)), (5, .pointer (some ⟨g3, 0, none⟩)), (6, .pointer (some ⟨g4, 0, none⟩))] := T
  replace M : Mem w exb wc [(g4, .cells [.bool bi]), (g3, .cells [.int .i64 (bn : Int)]), (g2, .cells [.slice bA bl.length bc]), (gm, .any (memoQ Tryz.prog 191 (okW a c s)))] := M
  have hxb : ∀ b, exb b → n1 ≤ b := by rw [hexb]; exact hown
  have hxl : ∀ b, exb b → b < n9 := by rw [hexb]; exact hownl
  have hnb9 : ¬ exb gb := by rw [hexb]; exact hngb
  have hnt9 : ¬ exb gt := by rw [hexb]; exact hngt
  have hnw9 : ¬ exb g1 := by rw [hexb]; exact hnw
  have hxr := hox.1.1
  rw [← hwc] at hxr
  have hox3 := hox.2.2.1
  have hox4 := hox.2.2.2
  have hRx := hox.1
  rw [← hn9] at hRx
  refine wpIn_block ?_
  refine ci_seq (fun ac wc => Tm ac 30 [(3, .pointer (some ⟨g1, 0, none⟩)), (4, .pointer (some ⟨g2, 0, none⟩)), (5, .pointer (some ⟨g3, 0, none⟩)), (6, .pointer (some ⟨g4, 0, none⟩)), (7, .slice x.A x.l.length x.c), (8, .int .i64 (x.n : Int)), (24, .bool (bif (!bi) then (willV a c s x.l x.n) else ((decide ((x.n : Int) < (bn : Int))) && (willV a c s x.l x.n))))] ∧ Mem w exb wc [(g4, .cells [.bool bi]), (g3, .cells [.int .i64 (bn : Int)]), (g2, .cells [.slice bA bl.length bc]), (gm, .any (memoQ Tryz.prog 191 (okW a c s)))]) ?_ ?_
  ·refine ri_lit (fun _ _ h => h) rfl ?_
   refine Zg3 T (Zq (Zro (Mem.nth M 0 rfl) rfl (T.e 5 rfl) rfl)) rfl (fun _ T => Zq (rn_not rfl (T.e 0 rfl))) rfl (Zm 0 rfl rfl) rfl ?_; clear T ac; intro ac T
   rcases Bool.eq_false_or_eq_true (!bi) with h1 | h1
   ·refine Zg8 T (Zp (Zwn rfl rfl (T.e 0 rfl) h1)) rfl (fun _ T => Zp (Zwn rfl rfl (T.e 1 rfl) h1)) rfl (fun _ T => Zp (Zwn rfl rfl (T.e 2 rfl) h1)) rfl (fun _ T => Zq (Zr1 rfl (T.e 3 rfl) h1 evc)) rfl (Zm 0 rfl rfl) rfl (fun _ T => Zw (Zwy rfl rfl (T.e 0 rfl) rfl) (Zro (Mem.old M qw hnw9) rfl (T.e 10 rfl) rfl)) rfl (fun _ T => Zw (Zwy rfl rfl (T.e 1 rfl) rfl) (Zrm rfl (T.e 10 rfl))) rfl (fun _ T => Zw (Zwy rfl rfl (T.e 2 rfl) rfl) (Zrm rfl (T.e 10 rfl))) rfl ?_; clear T ac; intro ac T
    refine l_w (Zwy rfl rfl (T.e 3 rfl) rfl) ?_; intro K hK
    have hM9 : Rd wc wc.heap.size 1 x.A x.l.length (ic x.l) := hxr
    refine Zoc (first := []) (cap := [.pointer (some ⟨gb, 0, none⟩), .pointer (some ⟨gt, 0, none⟩)]) T rfl rfl rfl rfl (T.e 2 rfl) (.cons (T.e 1 rfl) (.cons (T.e 0 rfl) .nil)) Tryz.func191 rfl rfl ?_
    refine Calls.mono (sheets1_any s A d a c ga gc gb gt n1 gm x.A x.c x.l x.n _ ha hc hg h5 hlo hwi hd hn1 hox3 (by omega) (he.mem M hxb) (M.old qb hnb9) (M.old qt hnt9) (M.at (Zne (i := 3) rfl)) hM9) ?_
    clear T; rintro e wc ⟨rfl, N⟩ ac T
    replace M := M.joinE N (.tail (.tail (.tail .head)))
    clear N
    refine Zso hK _ _ ?_; clear hK K
    refine lq T (Zr1 rfl (T.e 4 rfl) rfl (T.e 0 rfl)) ?_; clear T ac; intro ac T
    refine wpList_nil ?_
    replace T := T.pick [0, 1, 2, 3, 4, 7, 8, 9, 13, 14, 15, 16, 17, 18] rfl
    exact ⟨(T.pick (E' := [(3, .pointer (some ⟨g1, 0, none⟩)), (4, .pointer (some ⟨g2, 0, none⟩)), (5, .pointer (some ⟨g3, 0, none⟩)), (6, .pointer (some ⟨g4, 0, none⟩)), (7, .slice x.A x.l.length x.c), (8, .int .i64 (x.n : Int)), (24, .bool (willV a c s x.l x.n))]) [10, 11, 12, 13, 9, 8, 0] rfl).as (by (try rw [show (!bi) = true from h1]); (try rfl)), M.mask [true, true, true, true] rfl⟩
   refine Zg5 T (Zw (Zwy rfl rfl (T.e 0 rfl) h1) (Zrm rfl (T.e 3 rfl))) rfl (fun _ T => Zw (Zwy rfl rfl (T.e 1 rfl) h1) (Zro (Mem.nth M 1 rfl) rfl (T.e 8 rfl) rfl)) rfl (fun _ T => Zw (Zwy rfl rfl (T.e 2 rfl) h1) (rn_lss rfl (T.e 1 rfl) (T.e 0 rfl))) rfl (fun _ T => Zq (Zr0 rfl (T.e 3 rfl) h1 (T.e 0 rfl))) rfl (Zm 0 rfl rfl) rfl ?_; clear T ac; intro ac T
   rcases Bool.eq_false_or_eq_true (decide ((x.n : Int) < (bn : Int))) with h2 | h2
   ·replace h2 := of_decide_eq_true h2
    refine Zg3 T (Zw (Zwy rfl rfl (T.e 0 rfl) (Zdt h2)) (Zro (Mem.old M qw hnw9) rfl (T.e 10 rfl) rfl)) rfl (fun _ T => Zw (Zwy rfl rfl (T.e 1 rfl) (Zdt h2)) (Zrm rfl (T.e 10 rfl))) rfl (fun _ T => Zw (Zwy rfl rfl (T.e 2 rfl) (Zdt h2)) (Zrm rfl (T.e 10 rfl))) rfl ?_; clear T ac; intro ac T
    refine l_w (Zwy rfl rfl (T.e 3 rfl) (Zdt h2)) ?_; intro K hK
    have hM9 : Rd wc wc.heap.size 1 x.A x.l.length (ic x.l) := hxr
    refine Zoc (first := []) (cap := [.pointer (some ⟨gb, 0, none⟩), .pointer (some ⟨gt, 0, none⟩)]) T rfl rfl rfl rfl (T.e 2 rfl) (.cons (T.e 1 rfl) (.cons (T.e 0 rfl) .nil)) Tryz.func191 rfl rfl ?_
    refine Calls.mono (sheets1_any s A d a c ga gc gb gt n1 gm x.A x.c x.l x.n _ ha hc hg h5 hlo hwi hd hn1 hox3 (by omega) (he.mem M hxb) (M.old qb hnb9) (M.old qt hnt9) (M.at (Zne (i := 3) rfl)) hM9) ?_
    clear T; rintro e wc ⟨rfl, N⟩ ac T
    replace M := M.joinE N (.tail (.tail (.tail .head)))
    clear N
    refine Zso hK _ _ ?_; clear hK K
    refine lq T (Zr1 rfl (T.e 4 rfl) (Zdt h2) (T.e 0 rfl)) ?_; clear T ac; intro ac T
    refine wpList_nil ?_
    replace T := T.pick [0, 1, 2, 3, 4, 7, 8, 9, 13, 14, 15, 16, 17, 18] rfl
    exact ⟨(T.pick (E' := [(3, .pointer (some ⟨g1, 0, none⟩)), (4, .pointer (some ⟨g2, 0, none⟩)), (5, .pointer (some ⟨g3, 0, none⟩)), (6, .pointer (some ⟨g4, 0, none⟩)), (7, .slice x.A x.l.length x.c), (8, .int .i64 (x.n : Int)), (24, .bool (willV a c s x.l x.n))]) [10, 11, 12, 13, 9, 8, 0] rfl).as (by (try rw [show (!bi) = false from h1]); (try rw [show (decide ((x.n : Int) < (bn : Int))) = true from (Zdt h2)]); (try rfl)), M.mask [true, true, true, true] rfl⟩
   replace h2 := of_decide_eq_false h2
   refine Zg5 T (Zp (Zwn rfl rfl (T.e 0 rfl) (Zdf h2))) rfl (fun _ T => Zp (Zwn rfl rfl (T.e 1 rfl) (Zdf h2))) rfl (fun _ T => Zp (Zwn rfl rfl (T.e 2 rfl) (Zdf h2))) rfl (fun _ T => Zp (Zwn rfl rfl (T.e 3 rfl) (Zdf h2))) rfl (fun _ T => Zq (Zr0 rfl (T.e 4 rfl) (Zdf h2) evc)) rfl ?_; clear T ac; intro ac T
   refine wpList_nil ?_
   replace T := T.pick [0, 1, 2, 3, 4, 7, 8, 9, 13, 14, 15, 16, 17, 18] rfl
   exact ⟨(T.pick (E' := [(3, .pointer (some ⟨g1, 0, none⟩)), (4, .pointer (some ⟨g2, 0, none⟩)), (5, .pointer (some ⟨g3, 0, none⟩)), (6, .pointer (some ⟨g4, 0, none⟩)), (7, .slice x.A x.l.length x.c), (8, .int .i64 (x.n : Int)), (24, .bool false)]) [10, 11, 12, 13, 9, 8, 0] rfl).as (by (try rw [show (!bi) = false from h1]); (try rw [show (decide ((x.n : Int) < (bn : Int))) = false from (Zdf h2)]); (try rfl)), M.mask [true, true, true, true] rfl⟩
  clear T M
  rintro ac wc ⟨T, M⟩
  refine wpIn_cond_split (T.e 6 rfl) ?_ ?_
  ·intro h3
   (have h3' := h3; try simp only [Zb1, Zb2, Zb3, Zb4, Zb5, Zb6, Zb7] at h3')
   refine ri_lit (fun _ _ h => h) rfl ?_
   refine Zg2 T (Zq (Zrm rfl (T.e 4 rfl))) rfl (Zm 6 rfl rfl) rfl ?_; clear T ac; intro ac T
   refine Zl2 ?_
   refine Zos M T rfl rfl (T.e 3 rfl) (T.e 1 rfl) rfl (.tail (.tail .head)) rfl (by simp) rfl (by kernel_rfl) ?_; clear M T; intro wc ac M T
   refine Zl2 ?_
   refine Zos M T rfl rfl (T.e 4 rfl) (T.e 0 rfl) rfl (.tail .head) rfl (by simp) rfl (by kernel_rfl) ?_; clear M T; intro wc ac M T
   refine Zl2 ?_
   refine Zos M T rfl rfl (T.e 5 rfl) evc rfl .head rfl (by simp) rfl (by kernel_rfl) ?_; clear M T; intro wc ac M T
   refine wpList_nil ?_
   replace T := T.pick [2, 3, 4, 5] rfl
   refine Znb ?_
   refine rb_nm (L := [(g4, .cells [.bool true]), (g3, .cells [.int .i64 (x.n : Int)]), (g2, .cells [.slice x.A x.l.length x.c]), (gm, .any (memoQ Tryz.prog 191 (okW a c s)))]) ?_ (M.mask [true, true, true, true] rfl)
   exact ⟨x.A, x.c, x.l, x.n, true, (by rw [List.map_append, show [x].map asP = [(x.l, x.n)] from rfl, fewF_snoc, hF, fewS_take (by cases bi <;> simp_all)]; rfl), (hRx.memX M hxl), hox.2.1, (he.mem M hxb), (M.old qb hnb9), (M.old qt hnt9), (M.old qw hnw9), rfl⟩
  intro h3
  (have h3' := h3; try simp only [Zb1, Zb2, Zb3, Zb4, Zb5, Zb6, Zb7] at h3')
  refine wpIn_skip ?_
  refine Znb ?_
  refine rb_nm (L := [(g4, .cells [.bool bi]), (g3, .cells [.int .i64 (bn : Int)]), (g2, .cells [.slice bA bl.length bc]), (gm, .any (memoQ Tryz.prog 191 (okW a c s)))]) ?_ (M.mask [true, true, true, true] rfl)
  exact ⟨bA, bc, bl, bn, bi, (by rw [List.map_append, show [x].map asP = [(x.l, x.n)] from rfl, fewF_snoc, hF, fewS_leave (by cases bi <;> simp_all)]), (hR.memX M hxl), hcp, (he.mem M hxb), (M.old qb hnb9), (M.old qt hnt9), (M.old qw hnw9), rfl⟩
 ·rintro D1 pre Lx ac wc hDn hSd hj hz T M
  obtain ⟨bA, bc, bl, bn, bi, hF, hR, hcp, he, qb, qt, qw, rfl⟩ := hj
  replace T : TmD ((([D1] : List Nat)).map dfD) ac 30 [(3, .pointer (some ⟨g1, 0, none⟩)), (4, .pointer (some ⟨g2, 0, none⟩)), (5, .pointer (some ⟨g3, 0, none⟩)), (6, .pointer (some ⟨g4, 0, none⟩)), (9, .func (.func 227) #[] #[.pointer (some ⟨gl, 0, none⟩)])] := T
  have hFd := hF
  rw [hSd] at hFd
  obtain ⟨IR, SR, M⟩ := hR.tail hn9w (ic_length _) M (fun p hp => by rcases List.mem_cons.1 hp with rfl | hp; exact .inr rfl; exact .inl (hownl _ (List.mem_map_of_mem (f := fun q : Nat × BA => q.1) hp)))
  replace M : Mem w (fun b => b = gm) wc ((D1, dfA) :: (g4, .cells [.bool bi]) :: (g3, .cells [.int .i64 (bn : Int)]) :: (g2, .cells [.slice bA bl.length bc]) :: (gm, .any (memoQ Tryz.prog 191 (okW a c s))) :: IR) := M
  replace T := T.pick [1, 2, 3] rfl
  refine Znb ?_
  refine Zns ?_
  refine Zgs M (M.mask [true, false, false, false, true] rfl) 6 (by kernel_rfl) rfl (by kernel_rfl) ?_
  clear M; intro wc M
  refine g_addG 3 M ?_
  refine g_addG 4 (M.mask [true, true, true, false, true] rfl) ?_
  refine g_addG 5 (M.mask [true, true, false, false, true] rfl) ?_
  refine gq T 0 1 rfl (fun B w' hD hl hS => (Zro (Mem.nth (show Mem w (fun b => b = gm) w' _ from ((MA.lft (MA.rgt (MA.rgt hS))) (hD.wait (i := 0) (m := 3) (by kernel_rfl) hl))) 3 rfl) rfl (T.e 0 rfl) rfl)) ?_; clear T ac; intro ac T
  refine gq T 1 3 rfl (fun B w' hD hl hS => (Zro (Mem.nth (show Mem w (fun b => b = gm) w' _ from ((MA.lft (MA.rgt hS)) (hD.wait (i := 1) (m := 4) (by kernel_rfl) hl))) 2 rfl) rfl (T.e 2 rfl) rfl)) ?_; clear T ac; intro ac T
  refine gq T 2 7 rfl (fun B w' hD hl hS => (Zro (Mem.nth (show Mem w (fun b => b = gm) w' _ from ((MA.lft hS) (hD.wait (i := 2) (m := 5) (by kernel_rfl) hl))) 1 rfl) rfl (T.e 4 rfl) rfl)) ?_; clear T ac; intro ac T
  refine gw 3 15 ?_; intro K hK
  refine Zos M T rfl rfl (T.e 3 rfl) (T.e 2 rfl) rfl (.tail (.tail (.tail .head))) rfl (by simp) rfl (by kernel_rfl) ?_; clear M T; intro wc ac M T
  refine Zso hK _ _ (MA.mk (fun _ => M.mask [true, true, false, false, true] rfl) (MA.mk (fun _ => M.mask [true, true, true, false, true] rfl) (MA.mk (fun h => (no_of (by kernel_rfl) h).elim) (M.mask [true, false, false, false, true] rfl)))) ?_; clear hK K
  refine gw 4 31 ?_; intro K hK
  refine Zos M T rfl rfl (T.e 4 rfl) (T.e 1 rfl) rfl (.tail (.tail .head)) rfl (by simp) rfl (by kernel_rfl) ?_; clear M T; intro wc ac M T
  refine Zso hK _ _ (MA.mk (fun _ => M.mask [true, true, false, false, true] rfl) (MA.mk (fun h => (no_of (by kernel_rfl) h).elim) (MA.mk (fun h => (no_of (by kernel_rfl) h).elim) (M.mask [true, false, false, false, true] rfl)))) ?_; clear hK K
  refine gw 5 63 ?_; intro K hK
  refine Zos M T rfl rfl (T.e 5 rfl) (T.e 0 rfl) rfl (.tail .head) rfl (by simp) rfl (by kernel_rfl) ?_; clear M T; intro wc ac M T
  refine Zso hK _ _ (MA.mk (fun h => (no_of (by kernel_rfl) h).elim) (MA.mk (fun h => (no_of (by kernel_rfl) h).elim) (MA.mk (fun h => (no_of (by kernel_rfl) h).elim) (M.mask [true, false, false, false, true] rfl)))) ?_; clear hK K
  refine Zgd (by kernel_rfl) ?_
  replace T := T.pick [3, 4, 5] rfl
  refine Znr ?_
  refine rtM (L := ((g4, .cells [.bool bi]) :: (g3, .cells [.int .i64 (bn : Int)]) :: (g2, .cells [.slice bA bl.length bc]) :: (gm, .any (memoQ Tryz.prog 191 (okW a c s))) :: IR)) (([D1] : List Nat)) T (Mem.swapI (I := dfT (([D1] : List Nat))) (L := ((g4, .cells [.bool bi]) :: (g3, .cells [.int .i64 (bn : Int)]) :: (g2, .cells [.slice bA bl.length bc]) :: (gm, .any (memoQ Tryz.prog 191 (okW a c s))) :: IR)) (M.permT [0, 1, 2, 3, 4] 5 rfl rfl rfl rfl)) ?_; clear T M; intro wc ac T M
  refine rt_ccc M T rfl (T.e 0 rfl) (T.e 1 rfl) (T.e 2 rfl) (Zne (i := 2) rfl) (Zne (i := 1) rfl) (Zne (i := 0) rfl) ?_
  exact ⟨bA, bc, bl, bn, bi, rfl, hFd, hcp, IR, SR, M.mask [false, false, false, true] rfl⟩
 ·intro D c pre Lx ac wc hDn hS h
  exact h.elim
end Go.Proofs.YtaikhendogcflaaGreatDoor


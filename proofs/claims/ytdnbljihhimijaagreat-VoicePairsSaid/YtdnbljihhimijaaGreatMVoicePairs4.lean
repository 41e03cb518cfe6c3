/-
  Walks of functions, and plain laws (texts put together). No condition.
-/
import Derived.RangeFuncNested
import Derived.RangeFuncBound
import Derived.RangeFuncCalls
import Derived.RangeFuncLeaves
import Derived.Shelf.Abstract
import Derived.Shelf.RegionOpen
import Derived.OwnWalkIn
import Derived.TacticsInMore
import Derived.LoopNIn
import Derived.LoopIn
import Derived.Scope
import Derived.WalkMore
import Derived.Test.YtdnbljihhimijaaGreatMVoicePairs1
import Derived.Test.YtdnbljihhimijaaGreatMVoicePairs2
import Derived.Test.YtdnbljihhimijaaGreatMVoicePairs3
set_option maxRecDepth 100000
set_option maxHeartbeats 1000000
set_option linter.unusedSimpArgs false
set_option linter.unusedVariables false
namespace Go.Proofs.YtdnbljihhimijaaGreat
open Go.RowKit
def PairPost (kb : Nat) (best : Option (List Int)) (w : World) (e : Ending) (w' : World) : Prop :=
 ∃ A n c is I, e = .returned (.tuple #[]) ∧ KS best A n is I ∧ Mem w (fun b => b = kb) w' ((kb, .cells [.slice A n c, .bool is]) :: I)
def MostPost (l : List Int) (w : World) (e : Ending) (w' : World) : Prop := ∃ A c I, e = .returned (.slice A l.length c) ∧ l.length ≤ 5 ∧ (∃ b o, ∀ (w : World) (ex : Nat → Prop), Sp w ex I A l.length 1 b o (ic l)) ∧ Mem w noEx w' I
theorem pairings_any (lows highs kb mb tb fo : Nat) (A : Option Addr) (c : Nat) (LL : List LE) (may : Nat → Nat → Bool) (w : World) (hlo : lows ≤ 4) (hhi : highs ≤ 5) (hmay : ∀ lo me hi ma gr, MayOk ⟨lo, me, hi, ma, gr, kb, mb, tb, fo, lows, highs, A, c, LL⟩ may) (hmb : Old w (fun b => b = kb) mb [.func (.func fo) #[] #[]]) (htb : Old w (fun b => b = kb) tb [.slice A LL.length c]) (hA : ∃ b o, Sp w (fun b => b = kb) [] A LL.length 1 b o (lc LL)) (hE : ∀ x ∈ LL, ∃ b o, Sp w (fun b => b = kb) [] x.2.1 x.1.length 1 b o (ic x.1)) (hk : Bk w kb #[.slice none 0 0, .bool false]) :
  Calls Tryz.prog 104 #[.int .i64 ((lows : Nat) : Int), .int .i64 ((highs : Nat) : Int), .func (.func 105) #[] #[.pointer (some ⟨mb, 0, none⟩), .pointer (some ⟨tb, 0, none⟩)], .func (.func 106) #[] #[.pointer (some ⟨kb, 0, none⟩)]] w (PairPost kb (growP may highs lows [] none) w) := by
 refine Zpx (fun b => b = kb) Tryz.func104 rfl 12 rfl [.int .i64 ((lows : Nat) : Int), .int .i64 ((highs : Nat) : Int), .func (.func 105) #[] #[.pointer (some ⟨mb, 0, none⟩), .pointer (some ⟨tb, 0, none⟩)], .func (.func 106) #[] #[.pointer (some ⟨kb, 0, none⟩)]] rfl rfl (Mem.initEx (p := .cells [.slice none 0 0, .bool false]) hk) ?_
 intro ac wc T M
 refine Zsr ?_
 refine Zl2 ?_
 refine Zob M T rfl rfl rfl rfl (T.e 0 rfl) rfl ?_; clear M T; intro g1 wc ac M T
 refine Zl2 ?_
 refine Zob M T rfl rfl rfl rfl (T.e 2 rfl) rfl ?_; clear M T; intro g2 wc ac M T
 refine Zl2 ?_
 refine Zob M T rfl rfl rfl rfl (T.e 4 rfl) rfl ?_; clear M T; intro g3 wc ac M T
 refine Zl2 ?_
 refine Zob M T rfl rfl rfl rfl (T.e 6 rfl) rfl ?_; clear M T; intro g4 wc ac M T
 replace T := T.pick [0, 1, 2, 3] rfl
 refine Zln ?_
 refine Zsr ?_
 refine Zl2 ?_
 refine Zoa M T rfl rfl rfl rfl ?_; clear M T; intro g5 wc ac M T
 refine Zln ?_
 refine Zsr ?_
 refine lq (v := (.func (.func 132) #[] #[.pointer (some ⟨g1, 0, none⟩), .pointer (some ⟨g4, 0, none⟩), .pointer (some ⟨g2, 0, none⟩), .pointer (some ⟨g3, 0, none⟩), .pointer (some ⟨g5, 0, none⟩)])) T (rn_makeFunc rfl .nil (.cons (T.e 4 rfl) (.cons (T.e 1 rfl) (.cons (T.e 3 rfl) (.cons (T.e 2 rfl) (.cons (T.e 0 rfl) .nil)))))) ?_; clear T ac; intro ac T
 refine Zl2 ?_
 refine Zos M T rfl rfl (T.e 1 rfl) (T.e 0 rfl) rfl .head rfl (by simp) rfl (by kernel_rfl) ?_; clear M T; intro wc ac M T
 replace T := T.pick [1] rfl
 refine Zln ?_
 refine wp_region_lit ?_
 refine lq T (Zro (Mem.nth M 0 rfl) rfl (T.e 0 rfl) rfl) ?_; clear T ac; intro ac T
 refine Zl2 ?_
 have Mq : Mem w (fun b => b = kb) wc ([(kb, .cells [.slice none 0 0, .bool false])] ++ [(g1, .cells [.int .i64 ((lows : Nat) : Int)]), (g4, .cells [.func (.func 106) #[] #[.pointer (some ⟨kb, 0, none⟩)]]), (g2, .cells [.int .i64 ((highs : Nat) : Int)]), (g3, .cells [.func (.func 105) #[] #[.pointer (some ⟨mb, 0, none⟩), .pointer (some ⟨tb, 0, none⟩)]]), (g5, .cells [.func (.func 132) #[] #[.pointer (some ⟨g1, 0, none⟩), .pointer (some ⟨g4, 0, none⟩), .pointer (some ⟨g2, 0, none⟩), .pointer (some ⟨g3, 0, none⟩), .pointer (some ⟨g5, 0, none⟩)]])]) := M.perm [5, 4, 1, 3, 2, 0] rfl rfl
 have hi0 : ∀ b, inL [(kb, .cells [.slice none 0 0, .bool false])] b → inL ([(kb, .cells [.slice none 0 0, .bool false])] ++ [(g1, .cells [.int .i64 ((lows : Nat) : Int)]), (g4, .cells [.func (.func 106) #[] #[.pointer (some ⟨kb, 0, none⟩)]]), (g2, .cells [.int .i64 ((highs : Nat) : Int)]), (g3, .cells [.func (.func 105) #[] #[.pointer (some ⟨mb, 0, none⟩), .pointer (some ⟨tb, 0, none⟩)]]), (g5, .cells [.func (.func 132) #[] #[.pointer (some ⟨g1, 0, none⟩), .pointer (some ⟨g4, 0, none⟩), .pointer (some ⟨g2, 0, none⟩), .pointer (some ⟨g3, 0, none⟩), .pointer (some ⟨g5, 0, none⟩)]])]) b := fun b hb => by unfold inL at hb ⊢; exact ((Zsl _ _).map _).subset hb
 have gx : GEnv (⟨g1, g4, g2, g3, g5, kb, mb, tb, fo, lows, highs, A, c, LL⟩ : GE) wc (inL [(kb, .cells [.slice none 0 0, .bool false])]) := ⟨Old.of Mq (fun _ h => h) (Zne (i := 0) rfl), Old.of Mq (fun _ h => h) (Zne (i := 1) rfl), Old.of Mq (fun _ h => h) (Zne (i := 2) rfl), Old.of Mq (fun _ h => h) (Zne (i := 3) rfl), Old.of Mq (fun _ h => h) (Zne (i := 4) rfl), hmb.move Mq hi0, htb.move Mq hi0, (by obtain ⟨b9, o9, h9⟩ := hA; exact ⟨b9, o9, h9.move Mq hi0⟩), fun x hx => (by obtain ⟨b9, o9, h9⟩ := hE x hx; exact ⟨b9, o9, h9.move Mq hi0⟩)⟩
 have My : Mem w (fun b => b = kb) wc [(kb, .cells [.slice none 0 0, .bool false])] := Mq.sub (Zsl _ _)
 refine Zoc (first := []) (cap := [.pointer (some ⟨g1, 0, none⟩), .pointer (some ⟨g4, 0, none⟩), .pointer (some ⟨g2, 0, none⟩), .pointer (some ⟨g3, 0, none⟩), .pointer (some ⟨g5, 0, none⟩)]) T rfl rfl rfl rfl (T.e 0 rfl) (.cons evc (.cons evc .nil)) Tryz.func132 rfl rfl ?_
 refine Calls.mono (grow_any (⟨g1, g4, g2, g3, g5, kb, mb, tb, fo, lows, highs, A, c, LL⟩ : GE) may hlo hhi (hmay _ _ _ _ _) lows wc _ [] none 0 0 0 none none 0 0 false [] [] rfl (by simp) UsedOk.nil (KS.nil _) ⟨0, 0, fun _ _ => Sp.nil⟩ gx My.rebase) ?_
 clear T; rintro e wc ⟨Au1, nu1, cu1, iu1, Iu1, rfl, hksu1, N⟩ ac T
 replace M := Mem.joinX (X := [(kb, .cells [.slice none 0 0, .bool false])]) (F := []) My N (fun b h => h)
 clear N Mq My gx
 rw [List.append_nil] at M
 replace M : Mem w (fun b => b = kb) wc ((kb, .cells [.slice Au1 nu1 cu1, .bool iu1]) :: Iu1) := M
 refine wpList_nil ?_
 replace T := T.pick [] rfl
 refine nm_0 T rfl ?_
 exact ⟨Au1, nu1, cu1, iu1, Iu1, rfl, hksu1, M⟩
theorem lc_at {LL : List LE} {T : List (List Int)} (h : LL.map (·.1) = T) {i : Nat} (hi : i < T.length) : ∃ B d, LL[i]? = some (T.getD i [], B, d) := by
 subst h
 have hi' : i < LL.length := by simpa using hi
 refine ⟨LL[i].2.1, LL[i].2.2, ?_⟩
 rw [List.getElem?_eq_getElem hi']
 congr 1
 have : (LL.map (·.1)).getD i [] = LL[i].1 := by rw [List.getD_eq_getElem?_getD, List.getElem?_map, List.getElem?_eq_getElem hi']; rfl
 rw [this]
theorem tableP_len (b : Bx) : (tableP b).length = b.lows.length ∧ ∀ x ∈ tableP b, x.length = b.highs.length := by
 refine ⟨by simp [tableP], fun x hx => ?_⟩
 obtain ⟨y, _, rfl⟩ := List.mem_map.1 hx
 exact rowP_length b y
def okA (v : Int) : Bool := decide (v = 1)
def okM (v : Int) : Bool := !decide (v = 2)
theorem mayok_always {T : List (List Int)} {lows highs : Nat} {LL : List LE} (h : LL.map (·.1) = T) (hl : T.length = lows) (hh : ∀ x ∈ T, x.length = highs) (lo me hi ma gr kb mb tb : Nat) (A : Option Addr) (c : Nat) :
   MayOk ⟨lo, me, hi, ma, gr, kb, mb, tb, 56, lows, highs, A, c, LL⟩ (tabP T okA) := fun w i k g hi' hk' => by
 have hi2 : i < T.length := by rw [hl]; exact hi'
 obtain ⟨B, d, hx⟩ := lc_at h hi2
 have hxT : T.getD i [] ∈ T := by rw [List.getD_eq_getElem?_getD, List.getElem?_eq_getElem hi2]; exact List.getElem_mem _
 have hk2 : k < (T.getD i []).length := by rw [hh _ hxT]; exact hk'
 have hy : (T.getD i [])[k]? = some ((T.getD i []).getD k 0) := by rw [List.getD_eq_getElem?_getD (l := T.getD i []), List.getElem?_eq_getElem hk2]; rfl
 obtain ⟨b1, o1, S1⟩ := g.sp
 obtain ⟨b2, o2, S2⟩ := g.els _ (List.mem_of_getElem? hx)
 exact may_always mb tb A c LL i k (T.getD i []) B d ((T.getD i []).getD k 0) w g.mb.1 g.tb.1 (S1.rd (Mem.init w _) (List.Sublist.refl _)) hx (S2.rd (Mem.init w _) (List.Sublist.refl _)) hy
theorem mayok_maybe {T : List (List Int)} {lows highs : Nat} {LL : List LE} (h : LL.map (·.1) = T) (hl : T.length = lows) (hh : ∀ x ∈ T, x.length = highs) (lo me hi ma gr kb mb tb : Nat) (A : Option Addr) (c : Nat) :
   MayOk ⟨lo, me, hi, ma, gr, kb, mb, tb, 66, lows, highs, A, c, LL⟩ (tabP T okM) := fun w i k g hi' hk' => by
 have hi2 : i < T.length := by rw [hl]; exact hi'
 obtain ⟨B, d, hx⟩ := lc_at h hi2
 have hxT : T.getD i [] ∈ T := by rw [List.getD_eq_getElem?_getD, List.getElem?_eq_getElem hi2]; exact List.getElem_mem _
 have hk2 : k < (T.getD i []).length := by rw [hh _ hxT]; exact hk'
 have hy : (T.getD i [])[k]? = some ((T.getD i []).getD k 0) := by rw [List.getD_eq_getElem?_getD (l := T.getD i []), List.getElem?_eq_getElem hk2]; rfl
 obtain ⟨b1, o1, S1⟩ := g.sp
 obtain ⟨b2, o2, S2⟩ := g.els _ (List.mem_of_getElem? hx)
 exact may_maybe mb tb A c LL i k (T.getD i []) B d ((T.getD i []).getD k 0) w g.mb.1 g.tb.1 (S1.rd (Mem.init w _) (List.Sublist.refl _)) hx (S2.rd (Mem.init w _) (List.Sublist.refl _)) hy
theorem most_always (b : Bx) (A : Option Addr) (c : Nat) (B : Option Addr) (d : Nat) (w : World) (hA : Rd w w.heap.size 4 A b.lows.length (sc b.lows)) (hB : Rd w w.heap.size 4 B b.highs.length (sc b.highs)) (gb : b.good) :
  Calls Tryz.prog 55 #[bxV b A c B d, .func (.func 56) #[] #[]] w (MostPost (mostP (tableP b) okA b.lows.length b.highs.length) w) := by
 have hlA := hA.len4
 have hlB := hB.len4
 obtain ⟨bA, oA, SA⟩ := Sp.old hA
 obtain ⟨bB, oB, SB⟩ := Sp.old hB
 refine Zpx noEx Tryz.func55 rfl 20 rfl [.agg #[.int .i64 b.first, .int .i64 b.step, .int .i64 b.span, .int .i64 b.press, .int .i64 b.note, .slice A b.lows.length c, .slice B b.highs.length d, .int .i64 b.t0, .int .i64 b.t1, .int .i64 b.r0, .int .i64 b.r1, .int .i64 b.u0, .int .i64 b.u1, .int .i64 b.d0, .int .i64 b.d1, .int .i64 b.a0, .int .i64 b.a1, .int .i64 b.b0, .int .i64 b.b1, .int .i64 b.le, .int .i64 b.me], .func (.func 56) #[] #[]] rfl rfl (Mem.init w _) ?_
 intro ac wc T M
 refine Zsr ?_
 refine Zl2 ?_
 refine Zob M T rfl rfl rfl rfl (T.e 0 rfl) rfl ?_; clear M T; intro g1 wc ac M T
 refine Zl2 ?_
 refine Zob M T rfl rfl rfl rfl (T.e 2 rfl) rfl ?_; clear M T; intro g2 wc ac M T
 refine lq T (Zra rfl evc) ?_; clear T ac; intro ac T
 replace T := T.pick [1, 2] rfl
 refine Zln ?_
 refine Zsr ?_
 refine lq T (Zrr (Mem.nth M 1 rfl) rfl (T.e 1 rfl) rfl) ?_; clear T ac; intro ac T
 refine Zl2 ?_
 refine Zoc (first := []) (cap := []) T rfl rfl rfl rfl evf (.cons (T.e 0 rfl) .nil) Tryz.func59 rfl rfl ?_
 refine Calls.mono (table_any b A c B d _ (SA.rd M (Zz9 _)) (SB.rd M (Zz9 _)) gb) ?_
 clear T; rintro e wc ⟨Au1, cu1, LLu1, Iu1, rfl, hLu1, hSu1, hEu1, N⟩ ac T
 replace M := (M.join N).swapI
 replace M : Mem w noEx wc ((g2, .cells [.func (.func 56) #[] #[]]) :: (g1, .cells [.int .i64 b.first, .int .i64 b.step, .int .i64 b.span, .int .i64 b.press, .int .i64 b.note, .slice A b.lows.length c, .slice B b.highs.length d, .int .i64 b.t0, .int .i64 b.t1, .int .i64 b.r0, .int .i64 b.r1, .int .i64 b.u0, .int .i64 b.u1, .int .i64 b.d0, .int .i64 b.d1, .int .i64 b.a0, .int .i64 b.a1, .int .i64 b.b0, .int .i64 b.b1, .int .i64 b.le, .int .i64 b.me]) :: Iu1) := M
 clear N
 refine Zl2 ?_
 refine Zoa M T rfl rfl rfl rfl ?_; clear M T; intro g3 wc ac M T
 refine Zl2 ?_
 refine Zos M T rfl rfl (T.e 0 rfl) (T.e 1 rfl) rfl .head rfl (by simp) rfl (by kernel_rfl) ?_; clear M T; intro wc ac M T
 replace T := T.pick [0, 3, 4] rfl
 refine Zln ?_
 refine Zsr ?_
 refine Zl2 ?_
 refine Zoa M T rfl rfl rfl rfl ?_; clear M T; intro g4 wc ac M T
 refine Zln ?_
 refine Zsr ?_
 refine Zg8 (v1 := (.pointer (some ⟨g1, 5, none⟩))) (v4 := (.pointer (some ⟨g1, 6, none⟩))) (v7 := (.func (.func 105) #[] #[.pointer (some ⟨g2, 0, none⟩), .pointer (some ⟨g3, 0, none⟩)])) (v8 := (.func (.func 106) #[] #[.pointer (some ⟨g4, 0, none⟩)])) T (Zq (Zrf (off := 5) rfl (T.e 3 rfl) (fun _ _ _ => by kernel_rfl))) rfl (Zo M 3 0 rfl rfl rfl rfl) rfl (Zl Tryz.underlying24 0 rfl rfl) rfl (Zf 6 6 rfl rfl) rfl (Zo M 3 0 rfl rfl rfl rfl) rfl (Zl Tryz.underlying24 0 rfl rfl) rfl (fun _ T => Zq (rn_makeFunc rfl .nil (.cons (T.e 8 rfl) (.cons (T.e 7 rfl) .nil)))) rfl (fun _ T => Zq (rn_makeFunc rfl .nil (.cons (T.e 7 rfl) .nil))) rfl ?_; clear T ac; intro ac T
 refine Zl2 ?_
 have Mq : Mem w noEx wc ([(g4, .cells [.slice none 0 0, .bool false])] ++ ((g3, .cells [.slice Au1 LLu1.length cu1]) :: (g2, .cells [.func (.func 56) #[] #[]]) :: (g1, .cells [.int .i64 b.first, .int .i64 b.step, .int .i64 b.span, .int .i64 b.press, .int .i64 b.note, .slice A b.lows.length c, .slice B b.highs.length d, .int .i64 b.t0, .int .i64 b.t1, .int .i64 b.r0, .int .i64 b.r1, .int .i64 b.u0, .int .i64 b.u1, .int .i64 b.d0, .int .i64 b.d1, .int .i64 b.a0, .int .i64 b.a1, .int .i64 b.b0, .int .i64 b.b1, .int .i64 b.le, .int .i64 b.me]) :: Iu1)) := M.permT [0, 1, 2, 3] 4 rfl rfl rfl rfl
 have hi0 : ∀ b, (fun b => b = g4) b → inL [(g4, .cells [.slice none 0 0, .bool false])] b := fun b hb => by subst hb; exact Zz2
 refine Zoc (first := []) (cap := []) T rfl rfl rfl rfl evf (.cons (T.e 5 rfl) (.cons (T.e 2 rfl) (.cons (T.e 1 rfl) (.cons (T.e 0 rfl) .nil)))) Tryz.func104 rfl rfl ?_
 refine Calls.mono (pairings_any b.lows.length b.highs.length g4 g2 g3 56 Au1 cu1 LLu1 (tabP (tableP b) okA) _ gb.lows.1 gb.highs.1 (fun _ _ _ _ _ => mayok_always hLu1 (tableP_len b).1 (tableP_len b).2 _ _ _ _ _ _ _ _ _ _) (Old.of Mq hi0 (Zne (i := 1) rfl)) (Old.of Mq hi0 (Zne (i := 0) rfl)) (by obtain ⟨b9, o9, h9⟩ := hSu1; exact ⟨b9, o9, Sp.of Mq hi0 (h9 w noEx) (.cons _ (.cons _ (.cons _ (List.Sublist.refl _))))⟩) (fun x hx => by obtain ⟨b9, o9, h9⟩ := hEu1 x hx; exact ⟨b9, o9, Sp.of Mq hi0 (h9 w noEx) (.cons _ (.cons _ (.cons _ (List.Sublist.refl _))))⟩) (M.nth 0 rfl)) ?_
 clear T; rintro e wc ⟨Au2, nu2, cu2, iu2, Iu2, rfl, hksu2, N⟩ ac T
 replace M := (Mem.joinX (X := [(g4, .cells [.slice none 0 0, .bool false])]) (F := ((g3, .cells [.slice Au1 LLu1.length cu1]) :: (g2, .cells [.func (.func 56) #[] #[]]) :: (g1, .cells [.int .i64 b.first, .int .i64 b.step, .int .i64 b.span, .int .i64 b.press, .int .i64 b.note, .slice A b.lows.length c, .slice B b.highs.length d, .int .i64 b.t0, .int .i64 b.t1, .int .i64 b.r0, .int .i64 b.r1, .int .i64 b.u0, .int .i64 b.u1, .int .i64 b.d0, .int .i64 b.d1, .int .i64 b.a0, .int .i64 b.a1, .int .i64 b.b0, .int .i64 b.b1, .int .i64 b.le, .int .i64 b.me]) :: Iu1)) Mq N hi0).sub (Zsl _ _)
 clear N Mq
 replace M : Mem w noEx wc ((g4, .cells [.slice Au2 nu2 cu2, .bool iu2]) :: Iu2) := M
 replace T := T.pick [9] rfl
 refine Zln ?_
 refine Zsr ?_
 refine Zg3 (v1 := (.pointer (some ⟨g4, 0, none⟩))) T (Zq (Zrf (off := 0) rfl (T.e 0 rfl) (fun _ _ _ => by kernel_rfl))) rfl (Zo M 0 0 rfl rfl rfl rfl) rfl (Za 0 rfl rfl) rfl ?_; clear T ac; intro ac T
 refine wpList_nil ?_
 replace T := T.pick [0] rfl
 replace M := M.mask [false] rfl
 refine Znr ?_
 refine rt_1 T rfl (T.e 0 rfl) ?_
 obtain ⟨hn1, hn2, hn3, hn4⟩ := hksu2
 subst hn1
 refine ⟨Au2, cu2, Iu2, rfl, hn2, hn4, M⟩
theorem most_maybe (b : Bx) (A : Option Addr) (c : Nat) (B : Option Addr) (d : Nat) (w : World) (hA : Rd w w.heap.size 4 A b.lows.length (sc b.lows)) (hB : Rd w w.heap.size 4 B b.highs.length (sc b.highs)) (gb : b.good) :
  Calls Tryz.prog 55 #[bxV b A c B d, .func (.func 66) #[] #[]] w (MostPost (mostP (tableP b) okM b.lows.length b.highs.length) w) := by
 have hlA := hA.len4
 have hlB := hB.len4
 obtain ⟨bA, oA, SA⟩ := Sp.old hA
 obtain ⟨bB, oB, SB⟩ := Sp.old hB
 refine Zpx noEx Tryz.func55 rfl 20 rfl [.agg #[.int .i64 b.first, .int .i64 b.step, .int .i64 b.span, .int .i64 b.press, .int .i64 b.note, .slice A b.lows.length c, .slice B b.highs.length d, .int .i64 b.t0, .int .i64 b.t1, .int .i64 b.r0, .int .i64 b.r1, .int .i64 b.u0, .int .i64 b.u1, .int .i64 b.d0, .int .i64 b.d1, .int .i64 b.a0, .int .i64 b.a1, .int .i64 b.b0, .int .i64 b.b1, .int .i64 b.le, .int .i64 b.me], .func (.func 66) #[] #[]] rfl rfl (Mem.init w _) ?_
 intro ac wc T M
 refine Zsr ?_
 refine Zl2 ?_
 refine Zob M T rfl rfl rfl rfl (T.e 0 rfl) rfl ?_; clear M T; intro g1 wc ac M T
 refine Zl2 ?_
 refine Zob M T rfl rfl rfl rfl (T.e 2 rfl) rfl ?_; clear M T; intro g2 wc ac M T
 refine lq T (Zra rfl evc) ?_; clear T ac; intro ac T
 replace T := T.pick [1, 2] rfl
 refine Zln ?_
 refine Zsr ?_
 refine lq T (Zrr (Mem.nth M 1 rfl) rfl (T.e 1 rfl) rfl) ?_; clear T ac; intro ac T
 refine Zl2 ?_
 refine Zoc (first := []) (cap := []) T rfl rfl rfl rfl evf (.cons (T.e 0 rfl) .nil) Tryz.func59 rfl rfl ?_
 refine Calls.mono (table_any b A c B d _ (SA.rd M (Zz9 _)) (SB.rd M (Zz9 _)) gb) ?_
 clear T; rintro e wc ⟨Au1, cu1, LLu1, Iu1, rfl, hLu1, hSu1, hEu1, N⟩ ac T
 replace M := (M.join N).swapI
 replace M : Mem w noEx wc ((g2, .cells [.func (.func 66) #[] #[]]) :: (g1, .cells [.int .i64 b.first, .int .i64 b.step, .int .i64 b.span, .int .i64 b.press, .int .i64 b.note, .slice A b.lows.length c, .slice B b.highs.length d, .int .i64 b.t0, .int .i64 b.t1, .int .i64 b.r0, .int .i64 b.r1, .int .i64 b.u0, .int .i64 b.u1, .int .i64 b.d0, .int .i64 b.d1, .int .i64 b.a0, .int .i64 b.a1, .int .i64 b.b0, .int .i64 b.b1, .int .i64 b.le, .int .i64 b.me]) :: Iu1) := M
 clear N
 refine Zl2 ?_
 refine Zoa M T rfl rfl rfl rfl ?_; clear M T; intro g3 wc ac M T
 refine Zl2 ?_
 refine Zos M T rfl rfl (T.e 0 rfl) (T.e 1 rfl) rfl .head rfl (by simp) rfl (by kernel_rfl) ?_; clear M T; intro wc ac M T
 replace T := T.pick [0, 3, 4] rfl
 refine Zln ?_
 refine Zsr ?_
 refine Zl2 ?_
 refine Zoa M T rfl rfl rfl rfl ?_; clear M T; intro g4 wc ac M T
 refine Zln ?_
 refine Zsr ?_
 refine Zg8 (v1 := (.pointer (some ⟨g1, 5, none⟩))) (v4 := (.pointer (some ⟨g1, 6, none⟩))) (v7 := (.func (.func 105) #[] #[.pointer (some ⟨g2, 0, none⟩), .pointer (some ⟨g3, 0, none⟩)])) (v8 := (.func (.func 106) #[] #[.pointer (some ⟨g4, 0, none⟩)])) T (Zq (Zrf (off := 5) rfl (T.e 3 rfl) (fun _ _ _ => by kernel_rfl))) rfl (Zo M 3 0 rfl rfl rfl rfl) rfl (Zl Tryz.underlying24 0 rfl rfl) rfl (Zf 6 6 rfl rfl) rfl (Zo M 3 0 rfl rfl rfl rfl) rfl (Zl Tryz.underlying24 0 rfl rfl) rfl (fun _ T => Zq (rn_makeFunc rfl .nil (.cons (T.e 8 rfl) (.cons (T.e 7 rfl) .nil)))) rfl (fun _ T => Zq (rn_makeFunc rfl .nil (.cons (T.e 7 rfl) .nil))) rfl ?_; clear T ac; intro ac T
 refine Zl2 ?_
 have Mq : Mem w noEx wc ([(g4, .cells [.slice none 0 0, .bool false])] ++ ((g3, .cells [.slice Au1 LLu1.length cu1]) :: (g2, .cells [.func (.func 66) #[] #[]]) :: (g1, .cells [.int .i64 b.first, .int .i64 b.step, .int .i64 b.span, .int .i64 b.press, .int .i64 b.note, .slice A b.lows.length c, .slice B b.highs.length d, .int .i64 b.t0, .int .i64 b.t1, .int .i64 b.r0, .int .i64 b.r1, .int .i64 b.u0, .int .i64 b.u1, .int .i64 b.d0, .int .i64 b.d1, .int .i64 b.a0, .int .i64 b.a1, .int .i64 b.b0, .int .i64 b.b1, .int .i64 b.le, .int .i64 b.me]) :: Iu1)) := M.permT [0, 1, 2, 3] 4 rfl rfl rfl rfl
 have hi0 : ∀ b, (fun b => b = g4) b → inL [(g4, .cells [.slice none 0 0, .bool false])] b := fun b hb => by subst hb; exact Zz2
 refine Zoc (first := []) (cap := []) T rfl rfl rfl rfl evf (.cons (T.e 5 rfl) (.cons (T.e 2 rfl) (.cons (T.e 1 rfl) (.cons (T.e 0 rfl) .nil)))) Tryz.func104 rfl rfl ?_
 refine Calls.mono (pairings_any b.lows.length b.highs.length g4 g2 g3 66 Au1 cu1 LLu1 (tabP (tableP b) okM) _ gb.lows.1 gb.highs.1 (fun _ _ _ _ _ => mayok_maybe hLu1 (tableP_len b).1 (tableP_len b).2 _ _ _ _ _ _ _ _ _ _) (Old.of Mq hi0 (Zne (i := 1) rfl)) (Old.of Mq hi0 (Zne (i := 0) rfl)) (by obtain ⟨b9, o9, h9⟩ := hSu1; exact ⟨b9, o9, Sp.of Mq hi0 (h9 w noEx) (.cons _ (.cons _ (.cons _ (List.Sublist.refl _))))⟩) (fun x hx => by obtain ⟨b9, o9, h9⟩ := hEu1 x hx; exact ⟨b9, o9, Sp.of Mq hi0 (h9 w noEx) (.cons _ (.cons _ (.cons _ (List.Sublist.refl _))))⟩) (M.nth 0 rfl)) ?_
 clear T; rintro e wc ⟨Au2, nu2, cu2, iu2, Iu2, rfl, hksu2, N⟩ ac T
 replace M := (Mem.joinX (X := [(g4, .cells [.slice none 0 0, .bool false])]) (F := ((g3, .cells [.slice Au1 LLu1.length cu1]) :: (g2, .cells [.func (.func 66) #[] #[]]) :: (g1, .cells [.int .i64 b.first, .int .i64 b.step, .int .i64 b.span, .int .i64 b.press, .int .i64 b.note, .slice A b.lows.length c, .slice B b.highs.length d, .int .i64 b.t0, .int .i64 b.t1, .int .i64 b.r0, .int .i64 b.r1, .int .i64 b.u0, .int .i64 b.u1, .int .i64 b.d0, .int .i64 b.d1, .int .i64 b.a0, .int .i64 b.a1, .int .i64 b.b0, .int .i64 b.b1, .int .i64 b.le, .int .i64 b.me]) :: Iu1)) Mq N hi0).sub (Zsl _ _)
 clear N Mq
 replace M : Mem w noEx wc ((g4, .cells [.slice Au2 nu2 cu2, .bool iu2]) :: Iu2) := M
 replace T := T.pick [9] rfl
 refine Zln ?_
 refine Zsr ?_
 refine Zg3 (v1 := (.pointer (some ⟨g4, 0, none⟩))) T (Zq (Zrf (off := 0) rfl (T.e 0 rfl) (fun _ _ _ => by kernel_rfl))) rfl (Zo M 0 0 rfl rfl rfl rfl) rfl (Za 0 rfl rfl) rfl ?_; clear T ac; intro ac T
 refine wpList_nil ?_
 replace T := T.pick [0] rfl
 replace M := M.mask [false] rfl
 refine Znr ?_
 refine rt_1 T rfl (T.e 0 rfl) ?_
 obtain ⟨hn1, hn2, hn3, hn4⟩ := hksu2
 subst hn1
 refine ⟨Au2, cu2, Iu2, rfl, hn2, hn4, M⟩
def moreP (up : Int) : List Int → Nat → Int
 | [], _ => up
 | v :: r, h => moreP (if v = 1 then withI up h else up) r (h + 1)
def shortP (T : List (List Int)) (n : Nat) : Nat → List Int → Nat → Int → Option (List Int)
 | 0, l, _, up => if sizeI up < l.length then some l else none
 | k + 1, l, first, up => (List.range' first (n - first)).findSome? fun (i : Nat) => shortP T n k (l ++ [(i : Int)]) (i + 1) (moreP up (T.getD i []) 0)
def sFrom (T : List (List Int)) (n k : Nat) (l : List Int) (up : Int) (i : Nat) : Option (List Int) := (List.range' i (n - i)).findSome? fun (i : Nat) => shortP T n k (l ++ [(i : Int)]) (i + 1) (moreP up (T.getD i []) 0)
theorem shortP_succ (T : List (List Int)) (n k : Nat) (l : List Int) (first : Nat) (up : Int) : shortP T n (k + 1) l first up = sFrom T n k l up first := rfl
theorem sFrom_some {T : List (List Int)} {n k : Nat} {l : List Int} {up : Int} {i : Nat} (hi : i < n) (h : (shortP T n k (l ++ [(i : Int)]) (i + 1) (moreP up (T.getD i []) 0)).isSome = true) : sFrom T n k l up i = shortP T n k (l ++ [(i : Int)]) (i + 1) (moreP up (T.getD i []) 0) := by
 unfold sFrom
 obtain ⟨d, hd⟩ : ∃ d, n - i = d + 1 := ⟨n - i - 1, by omega⟩
 rw [hd, List.range'_succ, List.findSome?_cons]
 obtain ⟨q, hq⟩ := Option.isSome_iff_exists.1 h
 rw [hq]
theorem sFrom_none {T : List (List Int)} {n k : Nat} {l : List Int} {up : Int} {i : Nat} (hi : i < n) (h : (shortP T n k (l ++ [(i : Int)]) (i + 1) (moreP up (T.getD i []) 0)).isSome = false) : sFrom T n k l up i = sFrom T n k l up (i + 1) := by
 unfold sFrom
 obtain ⟨d, hd⟩ : ∃ d, n - i = d + 1 := ⟨n - i - 1, by omega⟩
 rw [hd, List.range'_succ, List.findSome?_cons]
 have : shortP T n k (l ++ [(i : Int)]) (i + 1) (moreP up (T.getD i []) 0) = none := by simpa using h
 rw [this, show n - (i + 1) = d by omega]
theorem sFrom_end {T : List (List Int)} {n k : Nat} {l : List Int} {up : Int} {i : Nat} (hi : n ≤ i) : sFrom T n k l up i = none := by
 unfold sFrom
 rw [show n - i = 0 by omega]
 rfl
def sizeF (T : List (List Int)) (n s : Nat) : Option (List Int) := (List.range' s (n + 1 - s)).findSome? fun (s : Nat) => if s = 0 then none else shortP T n s [] 0 0
theorem sizeF_zero (T : List (List Int)) (n : Nat) : sizeF T n 0 = sizeF T n 1 := by
 unfold sizeF
 rw [show n + 1 - 0 = n + 1 by omega, List.range'_succ, List.findSome?_cons]
 simp
theorem sizeF_some {T : List (List Int)} {n s : Nat} (hs : s ≤ n) (h0 : 0 < s) (h : (shortP T n s [] 0 0).isSome = true) : sizeF T n s = shortP T n s [] 0 0 := by
 unfold sizeF
 obtain ⟨d, hd⟩ : ∃ d, n + 1 - s = d + 1 := ⟨n - s, by omega⟩
 rw [hd, List.range'_succ, List.findSome?_cons, if_neg (by omega)]
 obtain ⟨q, hq⟩ := Option.isSome_iff_exists.1 h
 rw [hq]
theorem sizeF_none {T : List (List Int)} {n s : Nat} (hs : s ≤ n) (h0 : 0 < s) (h : (shortP T n s [] 0 0).isSome = false) : sizeF T n s = sizeF T n (s + 1) := by
 unfold sizeF
 obtain ⟨d, hd⟩ : ∃ d, n + 1 - s = d + 1 := ⟨n - s, by omega⟩
 have : shortP T n s [] 0 0 = none := by simpa using h
 rw [hd, List.range'_succ, List.findSome?_cons, if_neg (by omega), this, show n + 1 - (s + 1) = d by omega]
theorem sizeF_end {T : List (List Int)} {n s : Nat} (hs : n < s) : sizeF T n s = none := by
 unfold sizeF
 rw [show n + 1 - s = 0 by omega]
 rfl
def FS (res : Option (List Int)) (A : Option Addr) (n c : Nat) (I : List (Nat × BA)) : Prop :=
 (res = none ∧ A = none ∧ n = 0 ∧ c = 0 ∧ I = []) ∨ ∃ l, res = some l ∧ n = l.length ∧ n ≤ 5 ∧ A.isSome = true ∧ ∃ b o, ∀ (w : World) (ex : Nat → Prop), Sp w ex I A n 1 b o (ic l)
theorem FS.none {res : Option (List Int)} {A : Option Addr} {n c : Nat} {I : List (Nat × BA)} (h : FS res A n c I) (h0 : res.isSome = false) : A = .none ∧ n = 0 ∧ c = 0 ∧ I = [] := by
 rcases h with ⟨_, h⟩ | ⟨l, rfl, _⟩
 · exact h
 · cases h0
theorem FS.len {res : Option (List Int)} {A : Option Addr} {n c : Nat} {I : List (Nat × BA)} (h : FS res A n c I) : n = (res.getD []).length ∧ n ≤ 5 := by
 rcases h with ⟨rfl, _, rfl, _⟩ | ⟨l, rfl, h1, h2, _⟩
 · exact ⟨rfl, by omega⟩
 · exact ⟨h1, h2⟩
theorem FS.sp {res : Option (List Int)} {A : Option Addr} {n c : Nat} {I : List (Nat × BA)} (h : FS res A n c I) : ∃ b o, ∀ (w : World) (ex : Nat → Prop), Sp w ex I A n 1 b o (ic (res.getD [])) := by
 rcases h with ⟨rfl, _, rfl, _⟩ | ⟨l, rfl, _, _, _, h⟩
 · exact ⟨0, 0, fun _ _ => ⟨fun h => absurd h (by omega), by simp [ic], fun _ _ _ _ h => absurd h (by omega), fun _ _ _ _ j u hu => by simp [ic] at hu⟩⟩
 · exact h
structure SE where
 fo : Nat
 bb : Nat
 tb : Nat
 gr : Nat
 b : Bx
 A0 : Option Addr
 c0 : Nat
 B0 : Option Addr
 d0 : Nat
 A : Option Addr
 c : Nat
 LL : List LE
abbrev bxC (b : Bx) (A : Option Addr) (c : Nat) (B : Option Addr) (d : Nat) : List Value := [.int .i64 b.first, .int .i64 b.step, .int .i64 b.span, .int .i64 b.press, .int .i64 b.note, .slice A b.lows.length c, .slice B b.highs.length d, .int .i64 b.t0, .int .i64 b.t1, .int .i64 b.r0, .int .i64 b.r1, .int .i64 b.u0, .int .i64 b.u1, .int .i64 b.d0, .int .i64 b.d1, .int .i64 b.a0, .int .i64 b.a1, .int .i64 b.b0, .int .i64 b.b1, .int .i64 b.le, .int .i64 b.me]
structure SEnv (e : SE) (w : World) (ex : Nat → Prop) : Prop where
 bb : Old w ex e.bb (bxC e.b e.A0 e.c0 e.B0 e.d0)
 tb : Old w ex e.tb [.slice e.A e.LL.length e.c]
 gr : Old w ex e.gr [.func (.func 60) #[] #[pV e.fo, pV e.bb, pV e.tb, pV e.gr]]
 sp : ∃ b o, Sp w ex [] e.A e.LL.length 1 b o (lc e.LL)
 els : ∀ x ∈ e.LL, ∃ b o, Sp w ex [] x.2.1 x.1.length 1 b o (ic x.1)
theorem SEnv.move {e : SE} {w0 w : World} {ex ex' : Nat → Prop} {L : List (Nat × BA)} (M : Mem w0 ex w L) (hx : ∀ b, ex' b → inL L b) (h : SEnv e w0 ex) : SEnv e w ex' :=
 ⟨h.bb.move M hx, h.tb.move M hx, h.gr.move M hx, (by obtain ⟨b, o, h1⟩ := h.sp; exact ⟨b, o, h1.move M hx⟩), fun x hx' => (by obtain ⟨b, o, h1⟩ := h.els x hx'; exact ⟨b, o, h1.move M hx⟩)⟩
def FoundPost (fo : Nat) (res : Option (List Int)) (w : World) (ex : Nat → Prop) (e : Ending) (w' : World) : Prop :=
 ∃ A n c I, e = .returned (.bool res.isSome) ∧ FS res A n c I ∧ Mem w ex w' ((fo, .cells [.slice A n c]) :: I)
def ShortSpec (e : SE) (T : List (List Int)) (k : Nat) : Prop :=
 ∀ (w : World) (exq : Nat → Prop) (l : List Int) (A : Option Addr) (m c : Nat) (fi lf : Int) (first : Nat) (up : Int) (Il : List (Nat × BA)),
  m = l.length → l.length + k ≤ 5 → fi = (first : Nat) → lf = (k : Nat) → first ≤ 5 → 0 ≤ up ∧ up < 32 → (∃ b o, ∀ (w : World) (ex : Nat → Prop), Sp w ex Il A m 1 b o (ic l)) → SEnv e w exq → Mem w exq w ((e.fo, .cells [.slice none 0 0]) :: Il) →
  Calls Tryz.prog 60 #[.slice A m c, .int .i64 fi, .int .i64 lf, .int .i64 up, pV e.fo, pV e.bb, pV e.tb, pV e.gr] w (FoundPost e.fo (shortP T e.b.lows.length k l first up) w exq)
theorem neqS33 {x : Operand} (A : Option Addr) (m c : Nat) (w : World) : (do eqGuard .neq 33 x (.const (.slice none 0 0)) (.slice A m c) (.slice none 0 0); binOp .neq 33 (.slice A m c) (.slice none 0 0) : Sem Value).run Tryz.prog w = .ok (.bool A.isSome) w := by
 cases A <;> go_simp
theorem found_step (se : SE) (Tb : List (List Int)) (k : Nat) (exq : Nat → Prop) (l : List Int) (A : Option Addr) (c : Nat) (lf : Int) (first : Nat) (up : Int) (Il : List (Nat × BA)) (w : World) (hLL : se.LL.map (·.1) = Tb) (hT1 : Tb.length = se.b.lows.length) (hT2 : ∀ x ∈ Tb, x.length ≤ 5) (hlo : se.b.lows.length ≤ 4) (ih : ∀ k', k = k' + 1 → ShortSpec se Tb k') (hlk : l.length + k ≤ 5) (hlf : lf = (k : Nat)) (hf5 : first ≤ 5) (hup : 0 ≤ up ∧ up < 32) (hl : ∃ b o, ∀ (w : World) (ex : Nat → Prop), Sp w ex Il A l.length 1 b o (ic l)) (senv : SEnv se w exq) (M0 : Mem w exq w ((se.fo, .cells [.slice none 0 0]) :: Il)) :
   Calls Tryz.prog 60 #[.slice A l.length c, .int .i64 (first : Int), .int .i64 lf, .int .i64 up, .pointer (some ⟨se.fo, 0, none⟩), .pointer (some ⟨se.bb, 0, none⟩), .pointer (some ⟨se.tb, 0, none⟩), .pointer (some ⟨se.gr, 0, none⟩)] w (FoundPost se.fo (shortP Tb se.b.lows.length k l first up) w exq) := by
 have hls := hl
 obtain ⟨bl, ol, hSl⟩ := hls
 have Sl0 := hSl w exq
 obtain ⟨bt, ot, St⟩ := senv.sp
 refine Zpx exq Tryz.func60 rfl 65 rfl [.slice A l.length c, .int .i64 (first : Int), .int .i64 lf, .int .i64 up, .pointer (some ⟨se.fo, 0, none⟩), .pointer (some ⟨se.bb, 0, none⟩), .pointer (some ⟨se.tb, 0, none⟩), .pointer (some ⟨se.gr, 0, none⟩)] rfl rfl M0 ?_
 intro ac wc T M
 refine Zsr ?_
 refine lq T (Zra rfl evc) ?_; clear T ac; intro ac T
 replace T := T.pick [1, 2, 3, 4, 5, 6, 7, 8] rfl
 refine Zln ?_
 refine wp_seq ?_
 refine Zsr ?_
 refine Zg2 T (Zq (Zrm rfl (T.e 2 rfl))) rfl (fun _ T => Zq (rn_eql rfl (T.e 0 rfl) evc)) rfl ?_; clear T ac; intro ac T
 replace T := T.pick [0, 2, 3, 4, 5, 6, 7, 8, 9] rfl
 refine Zln ?_
 refine wp_if (T.e 0 rfl) ?_ ?_
 ·intro h1
  obtain rfl : k = 0 := by omega
  refine wp_seq ?_
  refine Zsr ?_
  refine lq T (Zrm rfl (T.e 4 rfl)) ?_; clear T ac; intro ac T
  refine Zl2 ?_
  refine Zoc (first := []) (cap := []) T rfl rfl rfl rfl evf (.cons (T.e 0 rfl) .nil) Tryz.func61 rfl rfl ?_
  refine Calls.mono (size_any up _ (by omega)) ?_
  clear T; rintro e wc ⟨rfl, hb⟩ ac T
  replace M := M.call hb; clear hb
  refine Zg3 T (Zq (Zrm rfl (T.e 3 rfl))) rfl (Zl Tryz.underlying33 0 rfl rfl) rfl (fun _ T => Zq (rn_lss rfl (T.e 2 rfl) (T.e 0 rfl))) rfl ?_; clear T ac; intro ac T
  replace T := T.pick [0, 6, 10] rfl
  refine Zln ?_
  refine wp_if (T.e 0 rfl) ?_ ?_
  ·intro h2
   refine wp_region_lit ?_
   refine lq T (Zrm rfl (T.e 1 rfl)) ?_; clear T ac; intro ac T
   refine Zl2 ?_
   refine Zos M T rfl rfl (T.e 3 rfl) (T.e 0 rfl) rfl .head rfl (by simp) rfl (by kernel_rfl) ?_; clear M T; intro wc ac M T
   replace T := T.pick [3] rfl
   refine Zln ?_
   refine Zsr ?_
   refine Zg3 (v2 := (.bool A.isSome)) T (Zq (Zro (Mem.nth M 0 rfl) rfl (T.e 0 rfl) rfl)) rfl (fun _ T => Zq (rn_bin rfl (T.e 0 rfl) evc (neqS33 _ _ _ _))) rfl (Za 0 rfl rfl) rfl ?_; clear T ac; intro ac T
   replace T := T.pick [0] rfl
   refine Zln ?_
   refine wp_ret ?_
   refine Zrt ?_
   refine rt_1 T rfl (T.e 0 rfl) ?_
   have hAs : A.isSome = true := by rw [Sl0.at0 (by omega)]; rfl
   have hsh : shortP Tb se.b.lows.length 0 l first up = some l := by simp only [shortP]; rw [if_pos (by omega)]
   exact ⟨A, l.length, c, Il, by rw [hsh, hAs]; rfl, .inr ⟨l, hsh, rfl, by omega, hAs, hl⟩, M⟩
  intro h2
  refine Zsk ?_
  refine Zsr ?_
  refine Zg3 (v2 := (.bool false)) T (Zq (Zro (Mem.nth M 0 rfl) rfl (T.e 2 rfl) rfl)) rfl (fun _ T => Zq (rn_bin rfl (T.e 0 rfl) evc (by kernel_rfl))) rfl (Za 0 rfl rfl) rfl ?_; clear T ac; intro ac T
  replace T := T.pick [0] rfl
  refine Zln ?_
  refine wp_ret ?_
  refine Zrt ?_
  refine rt_1 T rfl (T.e 0 rfl) ?_
  exact ⟨none, 0, 0, [], by simp only [shortP]; rw [if_neg (by omega)]; rfl, .inl ⟨by simp only [shortP]; rw [if_neg (by omega)], rfl, rfl, rfl, rfl⟩, M.sub (.cons_cons _ (Zz9 _))⟩
 intro h1
 obtain ⟨k1, rfl⟩ : ∃ k', k = k' + 1 := ⟨k - 1, by omega⟩
 have ih1 := ih k1 rfl
 refine Zsk ?_
 refine wp_seq ?_
 refine Zsr ?_
 refine Zg2 T (Zq (Zrm rfl (T.e 2 rfl))) rfl (Za 0 rfl rfl) rfl ?_; clear T ac; intro ac T
 replace T := T.pick [0, 3, 5, 6, 8, 9, 10] rfl
 refine Zln ?_
 refine wp_block ?_
 refine wp_loop_n (fun mz ac wc => ∃ (i : Nat), mz = 5 - i ∧ (first ≤ i) ∧ (i ≤ 5) ∧ (shortP Tb se.b.lows.length (k1 + 1) l first up = sFrom Tb se.b.lows.length k1 l up i) ∧ Tm ac 65 [(0, .slice A l.length c), (2, .int .i64 lf), (3, .int .i64 up), (5, .pointer (some ⟨se.bb, 0, none⟩)), (6, .pointer (some ⟨se.tb, 0, none⟩)), (7, .pointer (some ⟨se.gr, 0, none⟩)), (13, .int .i64 (i : Int))] ∧ Mem w exq wc ((se.fo, .cells [.slice none 0 0]) :: Il)) ?_ ?_
 ·exact ⟨_, first, rfl, (Nat.le_refl _), hf5, (shortP_succ _ _ _ _ _ _), T.pick [1, 2, 3, 4, 5, 6, 0] rfl, M.mask [true] rfl⟩
 clear T M
 rintro mz ac wc ⟨i, hmm1, hi, hi5, H, T, M⟩
 refine wp_seq ?_
 refine Zsr ?_
 refine Zg5 (v2 := (.pointer (some ⟨se.bb, 5, none⟩))) T (Zq (Zrm rfl (T.e 6 rfl))) rfl (Zf 5 4 rfl rfl) rfl (fun _ T => Zq (Zro (Mem.old M senv.bb.1 senv.bb.2) rfl (T.e 0 rfl) rfl)) rfl (Zl Tryz.underlying24 0 rfl rfl) rfl (fun _ T => Zq (rn_lss rfl (T.e 3 rfl) (T.e 0 rfl))) rfl ?_; clear T ac; intro ac T
 replace T := T.pick [0, 5, 6, 7, 8, 9, 10, 11] rfl
 refine Zln ?_
 refine wp_if (T.e 0 rfl) ?_ ?_
 ·intro h3
  have hiT : i < Tb.length := by omega
  obtain ⟨Br, dr, hkx⟩ := lc_at hLL hiT
  have hrow : (Tb.getD i []).length ≤ 5 := by rw [List.getD_eq_getElem?_getD, List.getElem?_eq_getElem hiT]; exact hT2 _ (List.getElem_mem _)
  obtain ⟨br, orr, Sr⟩ := senv.els _ (List.mem_of_getElem? hkx)
  obtain ⟨xr, hxr⟩ : ∃ q, q = Tb.getD i [] := ⟨_, rfl⟩
  rw [← hxr] at hkx hrow Sr
  have hir := (List.getElem?_eq_some_iff.1 hkx).1
  dsimp only at Sr
  refine Zsk ?_
  refine wp_seq ?_
  refine wp_block ?_
  refine Zsr ?_
  refine Zg2 T (Zq (Zrm rfl (T.e 3 rfl))) rfl (Za 0 rfl rfl) rfl ?_; clear T ac; intro ac T
  replace T := T.pick [0, 3, 4, 5, 6, 7, 8, 9] rfl
  refine Zln ?_
  refine wp_seq ?_
  refine Zsr ?_
  refine Zg6 (v4 := (.slice Br xr.length dr)) T (Zq (Zro (Mem.old M senv.tb.1 senv.tb.2) rfl (T.e 5 rfl) rfl)) rfl (Zm 8 rfl rfl) rfl (fun _ T => Zq (Zri (size := 1) i rfl (T.e 1 rfl) (T.e 0 rfl) ⟨_, Tryz.underlying55, by kernel_rfl⟩ rfl (by omega) (St.at0 (by omega)))) rfl (fun _ T => Zq (rn_cell (Sp.lc0 St M (Zz9 _) hkx) rfl (T.e 0 rfl))) rfl (Zl Tryz.underlying33 0 rfl rfl) rfl (fun _ T => Zq (Zrm rfl evc)) rfl ?_; clear T ac; intro ac T
  replace T := T.pick [0, 1, 2, 6, 7, 8, 9, 10, 11, 12, 13] rfl
  refine Zln ?_
  refine wp_block ?_
  refine wp_loop_n (fun mz ac wc => ∃ (h : Nat) (mo : Int), mz = xr.length - h ∧ (h ≤ xr.length) ∧ (0 ≤ mo ∧ mo < 32) ∧ (moreP up xr 0 = moreP mo (xr.drop h) h) ∧ Tm ac 65 [(0, .slice A l.length c), (2, .int .i64 lf), (3, .int .i64 up), (5, .pointer (some ⟨se.bb, 0, none⟩)), (6, .pointer (some ⟨se.tb, 0, none⟩)), (7, .pointer (some ⟨se.gr, 0, none⟩)), (13, .int .i64 (i : Int)), (14, .int .i64 mo), (39, .slice Br xr.length dr), (40, .int .i64 ((xr.length : Nat) : Int)), (41, .int .i64 (h : Int))] ∧ Mem w exq wc ((se.fo, .cells [.slice none 0 0]) :: Il)) ?_ ?_
  ·exact ⟨_, 0, up, rfl, (Nat.zero_le _), hup, rfl, T.pick [4, 5, 6, 7, 8, 9, 10, 3, 2, 1, 0] rfl, M.mask [true] rfl⟩
  clear T M
  rintro mz ac wc ⟨h, mo, hmm2, hh, hmo, Hm, T, M⟩
  refine Zsr ?_
  refine lq T (rn_lss rfl (T.e 10 rfl) (T.e 9 rfl)) ?_; clear T ac; intro ac T
  refine Zln ?_
  refine wp_seq ?_
  refine wp_if (T.e 0 rfl) ?_ ?_
  ·intro h4
   obtain ⟨yv, hky, hdy⟩ := ic_next (l := xr) (k := h) (by omega)
   rw [hdy, moreP] at Hm
   refine Zsk ?_
   refine wp_seq ?_
   refine wp_block ?_
   refine Zsr ?_
   refine Zg5 T (Zq (Zrm rfl (T.e 11 rfl))) rfl (fun _ T => Zq (Zri (size := 1) h rfl (T.e 10 rfl) (T.e 12 rfl) ⟨_, Tryz.underlying33, by kernel_rfl⟩ rfl (by omega) (Sr.at0 (by omega)))) rfl (fun _ T => Zq (rn_cell (Sp.ic0 Sr M (Zz9 _) hky) rfl (T.e 0 rfl))) rfl (Za 2 rfl rfl) rfl (Za 1 rfl rfl) rfl ?_; clear T ac; intro ac T
   replace T := T.pick [0, 1, 6, 7, 8, 9, 10, 11, 12, 13, 14, 15, 16] rfl
   refine Zln ?_
   refine Zsr ?_
   refine Zg2 T (Zq (Zrm rfl (T.e 0 rfl))) rfl (fun _ T => Zq (rn_eql rfl (T.e 0 rfl) evc)) rfl ?_; clear T ac; intro ac T
   replace T := T.pick [0, 3, 4, 5, 6, 7, 8, 9, 10, 11, 12, 13, 14] rfl
   refine Zln ?_
   refine wp_if (T.e 0 rfl) ?_ ?_
   ·intro h5
    refine wp_region_lit ?_
    refine Zg2 T (Zq (Zrm rfl (T.e 9 rfl))) rfl (Zm 2 rfl rfl) rfl ?_; clear T ac; intro ac T
    refine Zl2 ?_
    refine Zoc (first := []) (cap := []) T rfl rfl rfl rfl evf (.cons (T.e 1 rfl) (.cons (T.e 0 rfl) .nil)) Tryz.func62 rfl rfl ?_
    refine Calls.mono (with_any mo (h : Int) _ (by omega)) ?_
    clear T; rintro e wc ⟨rfl, hb⟩ ac T
    replace M := M.call hb; clear hb
    refine l_q (v := (.int .i64 (withI mo (h : Int)))) (T.pick [0, 1, 2, 3, 4, 5, 6, 7, 8, 9, 10, 11, 13, 14, 15] rfl) rfl rfl rfl rfl (Zra rfl (T.e 0 rfl)) ?_; clear T ac; intro ac T
    refine wpList_nil ?_
    replace T := T.pick [0, 6, 7, 8, 9, 10, 11, 12, 13, 14, 15] rfl
    refine Znb ?_
    refine nm_then ?_
    refine wp_region_lit ?_
    refine lq T (rn_add rfl (T.e 10 rfl) evc (by omega)) ?_; clear T ac; intro ac T
    refine l_q (v := (.int .i64 ((h : Int) + 1))) (T.pick [0, 1, 2, 3, 4, 5, 6, 7, 8, 9, 10] rfl) rfl rfl rfl rfl (Zrm rfl (T.e 0 rfl)) ?_; clear T ac; intro ac T
    replace T := T.pick [0, 2, 3, 4, 5, 6, 7, 8, 9, 10, 11] rfl
    refine Zln ?_
    exact ⟨_, by omega, h + 1, (withI mo (h : Int)), rfl, (by omega), (by first | exact hmo | exact with_bd hmo (by omega)), (by simpa only [if_pos h5] using Hm), T.pick [2, 3, 4, 5, 6, 7, 8, 1, 9, 10, 0] rfl, M.mask [true] rfl⟩
   intro h5
   refine wp_skip ?_
   refine Znb ?_
   refine nm_then ?_
   refine wp_region_lit ?_
   refine lq T (rn_add rfl (T.e 12 rfl) evc (by omega)) ?_; clear T ac; intro ac T
   refine l_q (v := (.int .i64 ((h : Int) + 1))) (T.pick [0, 1, 2, 3, 4, 5, 6, 7, 8, 9, 10, 11, 12] rfl) rfl rfl rfl rfl (Zrm rfl (T.e 0 rfl)) ?_; clear T ac; intro ac T
   replace T := T.pick [0, 4, 5, 6, 7, 8, 9, 10, 11, 12, 13] rfl
   refine Zln ?_
   exact ⟨_, by omega, h + 1, mo, rfl, (by omega), (by first | exact hmo | exact with_bd hmo (by omega)), (by simpa only [if_neg h5] using Hm), T.pick [1, 2, 3, 4, 5, 6, 7, 8, 9, 10, 0] rfl, M.mask [true] rfl⟩
  intro h4
  rw [List.drop_of_length_le (by omega), moreP] at Hm
  refine wp_exit ?_
  refine Zet ?_
  refine Zet ?_
  refine ex_hit ?_
  refine Zns ?_
  refine Zgs M (M.perm [] rfl rfl) 13 (by kernel_rfl) rfl (by kernel_rfl) ?_
  clear M; intro wc M
  refine gq T 0 1 rfl (fun B w' hD hl hS => (Zro (Mem.old (show Mem w exq w' _ from hS) senv.gr.1 senv.gr.2) rfl (T.e 6 rfl) rfl)) ?_; clear T ac; intro ac T
  refine gq T 2 5 rfl (fun _ _ _ _ _ => (Zrm rfl (T.e 2 rfl))) ?_; clear T ac; intro ac T
  refine gq T 4 21 rfl (fun _ _ _ _ _ => (Zrm rfl (T.e 9 rfl))) ?_; clear T ac; intro ac T
  refine gq T 7 149 rfl (fun _ _ _ _ _ => (Zrm rfl (T.e 10 rfl))) ?_; clear T ac; intro ac T
  refine gq T 8 405 rfl (fun _ _ _ _ _ => (rn_add rfl (T.e 0 rfl) evc (by omega))) ?_; clear T ac; intro ac T
  refine gq T 9 917 rfl (fun _ _ _ _ _ => (Zrm rfl (T.e 7 rfl))) ?_; clear T ac; intro ac T
  refine gq T 10 1941 rfl (fun _ _ _ _ _ => (rn_sub rfl (T.e 0 rfl) evc (by omega))) ?_; clear T ac; intro ac T
  refine gq T 11 3989 rfl (fun _ _ _ _ _ => (Zrm rfl (T.e 15 rfl))) ?_; clear T ac; intro ac T
  refine g_m2 (i := 1) (j := 5) (by kernel_rfl) ?_ ?_
  ·refine gi 3991 ?_; intro K hK
   refine ow_bs0 (e := 3) M T rfl rfl rfl rfl (fun _ => by kernel_rfl) ?_; clear M T; intro gr15_1 wc ac M T
   refine Zso hK _ _ (M.perm [] rfl rfl) ?_; clear hK K
   refine g_m2 (i := 3) (j := 5) (by kernel_rfl) ?_ ?_
   ·refine gi 3999 ?_; intro K hK
    refine ow_appS Tryz.info3 M T rfl rfl rfl rfl (fun g w => Tryz.append0i _ _ g _ w) Tryz.underlying33 rfl rfl rfl (by omega) (T.e 0 rfl) (T.e 7 rfl) (Sl0.rd M (.cons _ (.cons _ (List.Sublist.refl _)))) (ic_one _) ?_; clear M T; intro Au15_3 cu15_3 Iu15_3 wc ac hSm15_3 M T
    replace M : Mem w exq wc ((se.fo, .cells [.slice none 0 0]) :: (Il ++ Iu15_3)) := M.swapI
    refine Zso hK _ _ (M.perm [] rfl rfl) ?_; clear hK K
    refine gw 5 4031 ?_; intro K hK
    refine ow_bs (e := 3) [.int .i64 (i : Int)] M T rfl rfl rfl rfl (.cons (T.e 7 rfl) .nil) (fun _ => by kernel_rfl) ?_; clear M T; intro gr15_5 wc ac M T
    refine Zso hK _ _ (M.perm [] rfl rfl) ?_; clear hK K
    refine gw 6 4095 ?_; intro K hK
    refine ow_appM (((gr15_5, .cells [.int .i64 (i : Int)]) :: (se.fo, .cells [.slice none 0 0]) :: Il)) Tryz.info3 hSm15_3 M (by first | rfl | simp) T rfl rfl rfl rfl Tryz.underlying33 rfl rfl rfl (by omega) (T.e 1 rfl) (T.e 0 rfl) (Zne (i := 0) rfl) rfl rfl ?_; clear M T; intro ga15_6 ca15_6 wc ac M T
    refine Zso hK _ _ (M.perm [] rfl rfl) ?_; clear hK K
    refine gw 12 8191 ?_; intro K hK
    have Mq : Mem w exq wc ((se.fo, .cells [.slice none 0 0]) :: (ga15_6, .row 3 1 (l.length + 1) (ic l ++ [.int .i64 (i : Int)]) ca15_6) :: Il) := M.permT [2, 0] 3 rfl rfl rfl rfl
    have My : Mem w exq wc [(se.fo, .cells [.slice none 0 0]), (ga15_6, .row 3 1 (l.length + 1) (ic l ++ [.int .i64 (i : Int)]) ca15_6)] := Mq.sub (List.Sublist.cons_cons _ (.cons_cons _ (Zz9 _)))
    have gx := senv.move (ex' := inL [(se.fo, .cells [.slice none 0 0]), (ga15_6, .row 3 1 (l.length + 1) (ic l ++ [.int .i64 (i : Int)]) ca15_6)]) Mq (fun b hb => by unfold inL at hb ⊢; exact ((List.Sublist.cons_cons _ (.cons_cons _ (Zz9 Il))).map _).subset hb)
    refine Zoc (first := []) (cap := [.pointer (some ⟨se.fo, 0, none⟩), .pointer (some ⟨se.bb, 0, none⟩), .pointer (some ⟨se.tb, 0, none⟩), .pointer (some ⟨se.gr, 0, none⟩)]) T rfl rfl rfl rfl (T.e 11 rfl) (.cons (T.e 0 rfl) (.cons (T.e 7 rfl) (.cons (T.e 5 rfl) (.cons (T.e 4 rfl) .nil)))) Tryz.func60 rfl rfl ?_
    refine Calls.mono (ih1 wc _ (l ++ [(i : Int)]) _ _ _ _ _ (i + 1) _ [(ga15_6, .row 3 1 (l.length + 1) (ic l ++ [.int .i64 (i : Int)]) ca15_6)] (by simp) (by simp only [List.length_append, List.length_cons, List.length_nil]; omega) (by omega) (by omega) (by omega) hmo ⟨_, _, fun w ex => by rw [← ic_snoc]; exact Sp.row (by simp [ic_length])⟩ gx My.rebase) ?_
    clear T; rintro e wc ⟨Aur15_12, nur15_12, cur15_12, Iur15_12, rfl, hfsur15_12, N⟩ ac T
    replace M := Mem.joinX (X := [(se.fo, .cells [.slice none 0 0]), (ga15_6, .row 3 1 (l.length + 1) (ic l ++ [.int .i64 (i : Int)]) ca15_6)]) (F := Il) Mq N (fun b h => h)
    clear N Mq My gx
    replace M : Mem w exq wc ((se.fo, .cells [.slice Aur15_12 nur15_12 cur15_12]) :: (Iur15_12 ++ Il)) := M
    refine Zso hK _ _ (M.perm [] rfl rfl) ?_; clear hK K
    refine Zgd (by kernel_rfl) ?_
    replace T := T.pick [0, 14, 15, 16, 17, 18, 19, 20] rfl
    refine nm_then ?_
    refine wp_cond_split (T.e 0 rfl) ?_ ?_
    ·intro h6
     refine Zsr ?_
     refine lq T (Zra rfl evc) ?_; clear T ac; intro ac T
     replace T := T.pick [0] rfl
     refine Zln ?_
     refine wp_ret ?_
     refine Zrb ?_
     refine Zrt ?_
     refine Zrt ?_
     refine Zrb ?_
     refine Zrt ?_
     refine rt_1 T rfl (T.e 0 rfl) ?_
     have hsf := H.trans (sFrom_some (by omega) (by rw [← hxr, Hm]; exact h6))
     rw [← hxr, Hm] at hsf
     rw [hsf]
     exact ⟨Aur15_12, nur15_12, cur15_12, Iur15_12, by rw [h6], hfsur15_12, M.sub (.cons_cons _ (Zsl _ _))⟩
    intro h6
    refine wp_skip ?_
    refine Znb ?_
    refine nm_then ?_
    refine wp_region_lit ?_
    refine Zg2 T (Zq (Zrm rfl (T.e 7 rfl))) rfl (fun _ T => Zq (rn_add rfl (T.e 0 rfl) evc (by omega))) rfl ?_; clear T ac; intro ac T
    refine l_q (v := (.int .i64 ((i : Int) + 1))) (T.pick [0, 1, 2, 3, 4, 5, 6, 7, 8] rfl) rfl rfl rfl rfl (Zra rfl (T.e 0 rfl)) ?_; clear T ac; intro ac T
    replace T := T.pick [0, 4, 5, 6, 7, 8, 9] rfl
    refine Zln ?_
    have hno := hfsur15_12.none h6
    obtain ⟨rfl, rfl, rfl, rfl⟩ := hno
    replace M : Mem w exq wc ((se.fo, .cells [.slice none 0 0]) :: Il) := M
    exact ⟨_, by omega, i + 1, rfl, (by omega), (by omega), (by rw [H]; exact sFrom_none (by omega) (by rw [← hxr, Hm]; exact h6)), T.pick [1, 2, 3, 4, 5, 6, 0] rfl, M⟩
   refine gi 4023 ?_; intro K hK
   refine ow_bs (e := 3) [.int .i64 (i : Int)] M T rfl rfl rfl rfl (.cons (T.e 6 rfl) .nil) (fun _ => by kernel_rfl) ?_; clear M T; intro gr15_5 wc ac M T
   refine Zso hK _ _ (M.perm [] rfl rfl) ?_; clear hK K
   refine gw 3 4031 ?_; intro K hK
   replace M := M.permT [1, 0, 2] 3 rfl rfl rfl rfl
   refine ow_appS Tryz.info3 M T rfl rfl rfl rfl (fun g w => Tryz.append0i _ _ g _ w) Tryz.underlying33 rfl rfl rfl (by omega) (T.e 1 rfl) (T.e 8 rfl) (Sl0.rd M (.cons _ (.cons _ (.cons _ (List.Sublist.refl _))))) (ic_one _) ?_; clear M T; intro Au15_3 cu15_3 Iu15_3 wc ac hSm15_3 M T
   replace M : Mem w exq wc ((gr15_5, .cells [.int .i64 (i : Int)]) :: (se.fo, .cells [.slice none 0 0]) :: (Il ++ Iu15_3)) := M.swapI
   refine Zso hK _ _ (M.perm [] rfl rfl) ?_; clear hK K
   refine gw 6 4095 ?_; intro K hK
   refine ow_appM (((gr15_5, .cells [.int .i64 (i : Int)]) :: (se.fo, .cells [.slice none 0 0]) :: Il)) Tryz.info3 hSm15_3 M (by first | rfl | simp) T rfl rfl rfl rfl Tryz.underlying33 rfl rfl rfl (by omega) (T.e 0 rfl) (T.e 1 rfl) (Zne (i := 0) rfl) rfl rfl ?_; clear M T; intro ga15_6 ca15_6 wc ac M T
   refine Zso hK _ _ (M.perm [] rfl rfl) ?_; clear hK K
   refine gw 12 8191 ?_; intro K hK
   have Mq : Mem w exq wc ((se.fo, .cells [.slice none 0 0]) :: (ga15_6, .row 3 1 (l.length + 1) (ic l ++ [.int .i64 (i : Int)]) ca15_6) :: Il) := M.permT [2, 0] 3 rfl rfl rfl rfl
   have My : Mem w exq wc [(se.fo, .cells [.slice none 0 0]), (ga15_6, .row 3 1 (l.length + 1) (ic l ++ [.int .i64 (i : Int)]) ca15_6)] := Mq.sub (List.Sublist.cons_cons _ (.cons_cons _ (Zz9 _)))
   have gx := senv.move (ex' := inL [(se.fo, .cells [.slice none 0 0]), (ga15_6, .row 3 1 (l.length + 1) (ic l ++ [.int .i64 (i : Int)]) ca15_6)]) Mq (fun b hb => by unfold inL at hb ⊢; exact ((List.Sublist.cons_cons _ (.cons_cons _ (Zz9 Il))).map _).subset hb)
   refine Zoc (first := []) (cap := [.pointer (some ⟨se.fo, 0, none⟩), .pointer (some ⟨se.bb, 0, none⟩), .pointer (some ⟨se.tb, 0, none⟩), .pointer (some ⟨se.gr, 0, none⟩)]) T rfl rfl rfl rfl (T.e 11 rfl) (.cons (T.e 0 rfl) (.cons (T.e 7 rfl) (.cons (T.e 5 rfl) (.cons (T.e 4 rfl) .nil)))) Tryz.func60 rfl rfl ?_
   refine Calls.mono (ih1 wc _ (l ++ [(i : Int)]) _ _ _ _ _ (i + 1) _ [(ga15_6, .row 3 1 (l.length + 1) (ic l ++ [.int .i64 (i : Int)]) ca15_6)] (by simp) (by simp only [List.length_append, List.length_cons, List.length_nil]; omega) (by omega) (by omega) (by omega) hmo ⟨_, _, fun w ex => by rw [← ic_snoc]; exact Sp.row (by simp [ic_length])⟩ gx My.rebase) ?_
   clear T; rintro e wc ⟨Aur15_12, nur15_12, cur15_12, Iur15_12, rfl, hfsur15_12, N⟩ ac T
   replace M := Mem.joinX (X := [(se.fo, .cells [.slice none 0 0]), (ga15_6, .row 3 1 (l.length + 1) (ic l ++ [.int .i64 (i : Int)]) ca15_6)]) (F := Il) Mq N (fun b h => h)
   clear N Mq My gx
   replace M : Mem w exq wc ((se.fo, .cells [.slice Aur15_12 nur15_12 cur15_12]) :: (Iur15_12 ++ Il)) := M
   refine Zso hK _ _ (M.perm [] rfl rfl) ?_; clear hK K
   refine Zgd (by kernel_rfl) ?_
   replace T := T.pick [0, 14, 15, 16, 17, 18, 19, 20] rfl
   refine nm_then ?_
   refine wp_cond_split (T.e 0 rfl) ?_ ?_
   ·intro h7
    refine Zsr ?_
    refine lq T (Zra rfl evc) ?_; clear T ac; intro ac T
    replace T := T.pick [0] rfl
    refine Zln ?_
    refine wp_ret ?_
    refine Zrb ?_
    refine Zrt ?_
    refine Zrt ?_
    refine Zrb ?_
    refine Zrt ?_
    refine rt_1 T rfl (T.e 0 rfl) ?_
    have hsf := H.trans (sFrom_some (by omega) (by rw [← hxr, Hm]; exact h7))
    rw [← hxr, Hm] at hsf
    rw [hsf]
    exact ⟨Aur15_12, nur15_12, cur15_12, Iur15_12, by rw [h7], hfsur15_12, M.sub (.cons_cons _ (Zsl _ _))⟩
   intro h7
   refine wp_skip ?_
   refine Znb ?_
   refine nm_then ?_
   refine wp_region_lit ?_
   refine Zg2 T (Zq (Zrm rfl (T.e 7 rfl))) rfl (fun _ T => Zq (rn_add rfl (T.e 0 rfl) evc (by omega))) rfl ?_; clear T ac; intro ac T
   refine l_q (v := (.int .i64 ((i : Int) + 1))) (T.pick [0, 1, 2, 3, 4, 5, 6, 7, 8] rfl) rfl rfl rfl rfl (Zra rfl (T.e 0 rfl)) ?_; clear T ac; intro ac T
   replace T := T.pick [0, 4, 5, 6, 7, 8, 9] rfl
   refine Zln ?_
   have hno := hfsur15_12.none h7
   obtain ⟨rfl, rfl, rfl, rfl⟩ := hno
   replace M : Mem w exq wc ((se.fo, .cells [.slice none 0 0]) :: Il) := M
   exact ⟨_, by omega, i + 1, rfl, (by omega), (by omega), (by rw [H]; exact sFrom_none (by omega) (by rw [← hxr, Hm]; exact h7)), T.pick [1, 2, 3, 4, 5, 6, 0] rfl, M⟩
  refine gi 4021 ?_; intro K hK
  refine ow_bs (e := 3) [.int .i64 (i : Int)] M T rfl rfl rfl rfl (.cons (T.e 5 rfl) .nil) (fun _ => by kernel_rfl) ?_; clear M T; intro gr15_5 wc ac M T
  refine Zso hK _ _ (M.perm [] rfl rfl) ?_; clear hK K
  refine gw 1 4023 ?_; intro K hK
  refine ow_bs0 (e := 3) M T rfl rfl rfl rfl (fun _ => by kernel_rfl) ?_; clear M T; intro gr15_1 wc ac M T
  refine Zso hK _ _ (M.perm [] rfl rfl) ?_; clear hK K
  refine gw 3 4031 ?_; intro K hK
  refine ow_appS Tryz.info3 M T rfl rfl rfl rfl (fun g w => Tryz.append0i _ _ g _ w) Tryz.underlying33 rfl rfl rfl (by omega) (T.e 0 rfl) (T.e 8 rfl) (Sl0.rd M (.cons _ (.cons _ (.cons _ (List.Sublist.refl _))))) (ic_one _) ?_; clear M T; intro Au15_3 cu15_3 Iu15_3 wc ac hSm15_3 M T
  replace M : Mem w exq wc ((gr15_5, .cells [.int .i64 (i : Int)]) :: (se.fo, .cells [.slice none 0 0]) :: (Il ++ Iu15_3)) := M.swapI
  refine Zso hK _ _ (M.perm [] rfl rfl) ?_; clear hK K
  refine gw 6 4095 ?_; intro K hK
  refine ow_appM (((gr15_5, .cells [.int .i64 (i : Int)]) :: (se.fo, .cells [.slice none 0 0]) :: Il)) Tryz.info3 hSm15_3 M (by first | rfl | simp) T rfl rfl rfl rfl Tryz.underlying33 rfl rfl rfl (by omega) (T.e 0 rfl) (T.e 2 rfl) (Zne (i := 0) rfl) rfl rfl ?_; clear M T; intro ga15_6 ca15_6 wc ac M T
  refine Zso hK _ _ (M.perm [] rfl rfl) ?_; clear hK K
  refine gw 12 8191 ?_; intro K hK
  have Mq : Mem w exq wc ((se.fo, .cells [.slice none 0 0]) :: (ga15_6, .row 3 1 (l.length + 1) (ic l ++ [.int .i64 (i : Int)]) ca15_6) :: Il) := M.permT [2, 0] 3 rfl rfl rfl rfl
  have My : Mem w exq wc [(se.fo, .cells [.slice none 0 0]), (ga15_6, .row 3 1 (l.length + 1) (ic l ++ [.int .i64 (i : Int)]) ca15_6)] := Mq.sub (List.Sublist.cons_cons _ (.cons_cons _ (Zz9 _)))
  have gx := senv.move (ex' := inL [(se.fo, .cells [.slice none 0 0]), (ga15_6, .row 3 1 (l.length + 1) (ic l ++ [.int .i64 (i : Int)]) ca15_6)]) Mq (fun b hb => by unfold inL at hb ⊢; exact ((List.Sublist.cons_cons _ (.cons_cons _ (Zz9 Il))).map _).subset hb)
  refine Zoc (first := []) (cap := [.pointer (some ⟨se.fo, 0, none⟩), .pointer (some ⟨se.bb, 0, none⟩), .pointer (some ⟨se.tb, 0, none⟩), .pointer (some ⟨se.gr, 0, none⟩)]) T rfl rfl rfl rfl (T.e 11 rfl) (.cons (T.e 0 rfl) (.cons (T.e 7 rfl) (.cons (T.e 5 rfl) (.cons (T.e 4 rfl) .nil)))) Tryz.func60 rfl rfl ?_
  refine Calls.mono (ih1 wc _ (l ++ [(i : Int)]) _ _ _ _ _ (i + 1) _ [(ga15_6, .row 3 1 (l.length + 1) (ic l ++ [.int .i64 (i : Int)]) ca15_6)] (by simp) (by simp only [List.length_append, List.length_cons, List.length_nil]; omega) (by omega) (by omega) (by omega) hmo ⟨_, _, fun w ex => by rw [← ic_snoc]; exact Sp.row (by simp [ic_length])⟩ gx My.rebase) ?_
  clear T; rintro e wc ⟨Aur15_12, nur15_12, cur15_12, Iur15_12, rfl, hfsur15_12, N⟩ ac T
  replace M := Mem.joinX (X := [(se.fo, .cells [.slice none 0 0]), (ga15_6, .row 3 1 (l.length + 1) (ic l ++ [.int .i64 (i : Int)]) ca15_6)]) (F := Il) Mq N (fun b h => h)
  clear N Mq My gx
  replace M : Mem w exq wc ((se.fo, .cells [.slice Aur15_12 nur15_12 cur15_12]) :: (Iur15_12 ++ Il)) := M
  refine Zso hK _ _ (M.perm [] rfl rfl) ?_; clear hK K
  refine Zgd (by kernel_rfl) ?_
  replace T := T.pick [0, 14, 15, 16, 17, 18, 19, 20] rfl
  refine nm_then ?_
  refine wp_cond_split (T.e 0 rfl) ?_ ?_
  ·intro h8
   refine Zsr ?_
   refine lq T (Zra rfl evc) ?_; clear T ac; intro ac T
   replace T := T.pick [0] rfl
   refine Zln ?_
   refine wp_ret ?_
   refine Zrb ?_
   refine Zrt ?_
   refine Zrt ?_
   refine Zrb ?_
   refine Zrt ?_
   refine rt_1 T rfl (T.e 0 rfl) ?_
   have hsf := H.trans (sFrom_some (by omega) (by rw [← hxr, Hm]; exact h8))
   rw [← hxr, Hm] at hsf
   rw [hsf]
   exact ⟨Aur15_12, nur15_12, cur15_12, Iur15_12, by rw [h8], hfsur15_12, M.sub (.cons_cons _ (Zsl _ _))⟩
  intro h8
  refine wp_skip ?_
  refine Znb ?_
  refine nm_then ?_
  refine wp_region_lit ?_
  refine Zg2 T (Zq (Zrm rfl (T.e 7 rfl))) rfl (fun _ T => Zq (rn_add rfl (T.e 0 rfl) evc (by omega))) rfl ?_; clear T ac; intro ac T
  refine l_q (v := (.int .i64 ((i : Int) + 1))) (T.pick [0, 1, 2, 3, 4, 5, 6, 7, 8] rfl) rfl rfl rfl rfl (Zra rfl (T.e 0 rfl)) ?_; clear T ac; intro ac T
  replace T := T.pick [0, 4, 5, 6, 7, 8, 9] rfl
  refine Zln ?_
  have hno := hfsur15_12.none h8
  obtain ⟨rfl, rfl, rfl, rfl⟩ := hno
  replace M : Mem w exq wc ((se.fo, .cells [.slice none 0 0]) :: Il) := M
  exact ⟨_, by omega, i + 1, rfl, (by omega), (by omega), (by rw [H]; exact sFrom_none (by omega) (by rw [← hxr, Hm]; exact h8)), T.pick [1, 2, 3, 4, 5, 6, 0] rfl, M⟩
 intro h3
 refine wp_exit ?_
 refine Zet ?_
 refine Zet ?_
 refine ex_hit ?_
 refine nm_then ?_
 refine Zsr ?_
 refine lq T (Zra rfl evc) ?_; clear T ac; intro ac T
 replace T := T.pick [0] rfl
 refine Zln ?_
 refine wp_ret ?_
 refine rt_1 T rfl (T.e 0 rfl) ?_
 rw [H, sFrom_end (by omega)]
 exact ⟨none, 0, 0, [], rfl, .inl ⟨rfl, rfl, rfl, rfl, rfl⟩, M.sub (.cons_cons _ (Zz9 _))⟩
theorem found_any (se : SE) (Tb : List (List Int)) (hLL : se.LL.map (·.1) = Tb) (hT1 : Tb.length = se.b.lows.length) (hT2 : ∀ x ∈ Tb, x.length ≤ 5) (hlo : se.b.lows.length ≤ 4) : ∀ k : Nat, ShortSpec se Tb k
 | 0 => fun w exq l A m c fi lf first up Il hm hlk hfi hlf hf5 hup hl senv M0 => by
   subst hm hfi
   exact found_step se Tb 0 exq l A c lf first up Il w hLL hT1 hT2 hlo (fun _ h => by cases h) hlk hlf hf5 hup hl senv M0
 | k + 1 => fun w exq l A m c fi lf first up Il hm hlk hfi hlf hf5 hup hl senv M0 => by
   subst hm hfi
   exact found_step se Tb (k + 1) exq l A c lf first up Il w hLL hT1 hT2 hlo (fun k' h => by injection h with h; subst h; exact found_any se Tb hLL hT1 hT2 hlo _) hlk hlf hf5 hup hl senv M0
def LEPost (l : List Int) (er : Int) (w : World) (e : Ending) (w' : World) : Prop := ∃ A c I, e = .returned (.tuple #[.slice A l.length c, .int .i64 er]) ∧ l.length ≤ 6 ∧ (∃ b o, ∀ (w : World) (ex : Nat → Prop), Sp w ex I A l.length 1 b o (ic l)) ∧ Mem w noEx w' I
def mostL (b : Bx) (ok : Int → Bool) : List Int := mostP (tableP b) ok b.lows.length b.highs.length
def matchE (b : Bx) : List Int × Int := if checkB b = 0 then (mostL b okA, 0) else ([], checkB b)
def mostE (b : Bx) : (Int × Int) × Int := if checkB b = 0 then ((pairsP (mostL b okA), pairsP (mostL b okM)), 0) else ((0, 0), checkB b)
def shortE (b : Bx) : List Int × Int := if checkB b = 0 then (if pairsP (mostL b okA) = b.lows.length then ([], 11) else ((sizeF (tableP b) b.lows.length 0).getD [], 0)) else ([], checkB b)
theorem LEPost.nil {er : Int} {w w' : World} {L : List (Nat × BA)} {e : Ending} (he : e = .returned (.tuple #[.slice none 0 0, .int .i64 er])) (M : Mem w noEx w' L) : LEPost [] er w e w' := ⟨none, 0, [], he, by simp, ⟨0, 0, fun _ _ => Sp.nil⟩, M.sub (Zz9 _)⟩
theorem Match_any (b : Bx) (A : Option Addr) (c : Nat) (B : Option Addr) (d : Nat) (w : World) (hA : Rd w w.heap.size 4 A b.lows.length (sc b.lows)) (hB : Rd w w.heap.size 4 B b.highs.length (sc b.highs)) (nA : b.lows.length ≤ 1000000) (nB : b.highs.length ≤ 1000000)  :
   Calls Tryz.prog 10 #[bxV b A c B d] w (LEPost (matchE b).1 (matchE b).2 w) := by
 have hlA := hA.len4
 have hlB := hB.len4
 obtain ⟨bA, oA, SA⟩ := Sp.old hA
 obtain ⟨bB, oB, SB⟩ := Sp.old hB
 refine Zpx noEx Tryz.func10 rfl 12 rfl [.agg #[.int .i64 b.first, .int .i64 b.step, .int .i64 b.span, .int .i64 b.press, .int .i64 b.note, .slice A b.lows.length c, .slice B b.highs.length d, .int .i64 b.t0, .int .i64 b.t1, .int .i64 b.r0, .int .i64 b.r1, .int .i64 b.u0, .int .i64 b.u1, .int .i64 b.d0, .int .i64 b.d1, .int .i64 b.a0, .int .i64 b.a1, .int .i64 b.b0, .int .i64 b.b1, .int .i64 b.le, .int .i64 b.me]] rfl rfl (Mem.init w _) ?_
 intro ac wc T M
 refine Zsr ?_
 refine Zl2 ?_
 refine Zob M T rfl rfl rfl rfl (T.e 0 rfl) rfl ?_; clear M T; intro g1 wc ac M T
 refine Zg2 T (Zq (Zra rfl evc)) rfl (Zc rfl) rfl ?_; clear T ac; intro ac T
 replace T := T.pick [2] rfl
 refine Zln ?_
 refine wp_seq ?_
 refine Zsr ?_
 refine lq T (Zrr (Mem.nth M 0 rfl) rfl (T.e 0 rfl) rfl) ?_; clear T ac; intro ac T
 refine Zl2 ?_
 refine Zoc (first := []) (cap := []) T rfl rfl rfl rfl evf (.cons (T.e 0 rfl) .nil) Tryz.func27 rfl rfl ?_
 refine Calls.mono (vCheck_any b _ _ _ _ _ (SA.rd M (Zz9 _)) (SB.rd M (Zz9 _)) (by omega) (by omega)) ?_
 clear T; rintro e wc ⟨rfl, hb⟩ ac T
 replace M := M.call hb; clear hb
 refine lq T (Zra rfl (T.e 0 rfl)) ?_; clear T ac; intro ac T
 replace T := T.pick [0, 3] rfl
 refine Zln ?_
 refine Zsr ?_
 refine Zg2 T (Zq (Zrm rfl (T.e 0 rfl))) rfl (fun _ T => Zq (rn_neq rfl (T.e 0 rfl) evc)) rfl ?_; clear T ac; intro ac T
 replace T := T.pick [0, 2, 3] rfl
 refine Zln ?_
 refine wp_ifn (T.e 0 rfl) ?_ ?_
 ·intro h1
  refine Zsr ?_
  refine Zg3 T (Zq (Zrm rfl (T.e 1 rfl))) rfl (Zc rfl) rfl (Za 1 rfl rfl) rfl ?_; clear T ac; intro ac T
  refine wpList_nil ?_
  replace T := T.pick [0, 1] rfl
  replace M := M.mask [false] rfl
  refine Znr ?_
  refine Zrt ?_
  refine rt_2 T rfl (T.e 1 rfl) (T.e 0 rfl) ?_
  have e9 : matchE b = ([], checkB b) := by unfold matchE; rw [if_neg (by simpa using h1)]
  rw [e9]
  exact LEPost.nil rfl M
 intro h1
 have gb := checkB_good.1 (show checkB b = 0 by simpa using h1)
 have nA5 := gb.lows.1
 have nB5 := gb.highs.1
 refine Zsk ?_
 refine Zsr ?_
 refine lq T (Zrr (Mem.nth M 0 rfl) rfl (T.e 2 rfl) rfl) ?_; clear T ac; intro ac T
 refine Zl2 ?_
 refine Zoc (first := []) (cap := []) T rfl rfl rfl rfl evf (.cons (T.e 0 rfl) (.cons evf .nil)) Tryz.func55 rfl rfl ?_
 refine Calls.mono (most_always b A c B d _ (SA.rd M (Zz9 _)) (SB.rd M (Zz9 _)) gb) ?_
 clear T; rintro e wc ⟨Au2, cu2, Iu2, rfl, h5u2, SVu2, N⟩ ac T
 obtain ⟨bu2, ou2, SVu2⟩ := SVu2
 obtain ⟨lmu2, hlmu2⟩ : ∃ q, q = mostP (tableP b) okA b.lows.length b.highs.length := ⟨_, rfl⟩
 rw [← hlmu2] at h5u2 SVu2
 have Su2 := SVu2 w noEx
 replace M := (M.join N).swapI
 replace M : Mem w noEx wc ((g1, .cells [.int .i64 b.first, .int .i64 b.step, .int .i64 b.span, .int .i64 b.press, .int .i64 b.note, .slice A b.lows.length c, .slice B b.highs.length d, .int .i64 b.t0, .int .i64 b.t1, .int .i64 b.r0, .int .i64 b.r1, .int .i64 b.u0, .int .i64 b.u1, .int .i64 b.d0, .int .i64 b.d1, .int .i64 b.a0, .int .i64 b.a1, .int .i64 b.b0, .int .i64 b.b1, .int .i64 b.le, .int .i64 b.me]) :: Iu2) := M
 clear N
 rw [← hlmu2] at T
 refine Zg2 T (Zq (Zra rfl (T.e 0 rfl))) rfl (Zc rfl) rfl ?_; clear T ac; intro ac T
 refine wpList_nil ?_
 replace T := T.pick [0, 1] rfl
 replace M := M.mask [false] rfl
 refine Znr ?_
 refine rt_2 T rfl (T.e 1 rfl) (T.e 0 rfl) ?_
 have e9 : matchE b = (lmu2, 0) := by unfold matchE mostL; rw [if_pos (by simpa using h1), hlmu2]
 rw [e9]
 exact ⟨Au2, cu2, Iu2, rfl, Nat.le_trans h5u2 (by omega), ⟨_, _, SVu2⟩, M.sub ((List.Sublist.refl _))⟩
theorem Most_any (b : Bx) (A : Option Addr) (c : Nat) (B : Option Addr) (d : Nat) (w : World) (hA : Rd w w.heap.size 4 A b.lows.length (sc b.lows)) (hB : Rd w w.heap.size 4 B b.highs.length (sc b.highs)) (nA : b.lows.length ≤ 1000000) (nB : b.highs.length ≤ 1000000)  :
   Calls Tryz.prog 14 #[bxV b A c B d] w fun e w' => e = .returned (.tuple #[.agg #[.int .i64 ((mostE b).1.1), .int .i64 ((mostE b).1.2)], .int .i64 ((mostE b).2)]) ∧ Below w.heap.size w w' := by
 have hlA := hA.len4
 have hlB := hB.len4
 obtain ⟨bA, oA, SA⟩ := Sp.old hA
 obtain ⟨bB, oB, SB⟩ := Sp.old hB
 refine Zpx noEx Tryz.func14 rfl 18 rfl [.agg #[.int .i64 b.first, .int .i64 b.step, .int .i64 b.span, .int .i64 b.press, .int .i64 b.note, .slice A b.lows.length c, .slice B b.highs.length d, .int .i64 b.t0, .int .i64 b.t1, .int .i64 b.r0, .int .i64 b.r1, .int .i64 b.u0, .int .i64 b.u1, .int .i64 b.d0, .int .i64 b.d1, .int .i64 b.a0, .int .i64 b.a1, .int .i64 b.b0, .int .i64 b.b1, .int .i64 b.le, .int .i64 b.me]] rfl rfl (Mem.init w _) ?_
 intro ac wc T M
 refine Zsr ?_
 refine Zl2 ?_
 refine Zob M T rfl rfl rfl rfl (T.e 0 rfl) rfl ?_; clear M T; intro g1 wc ac M T
 refine Zl2 ?_
 refine Zoa M T rfl rfl rfl rfl ?_; clear M T; intro g2 wc ac M T
 refine lq T (Zra rfl evc) ?_; clear T ac; intro ac T
 replace T := T.pick [1, 2] rfl
 refine Zln ?_
 refine wp_seq ?_
 refine Zsr ?_
 refine lq T (Zrr (Mem.nth M 1 rfl) rfl (T.e 1 rfl) rfl) ?_; clear T ac; intro ac T
 refine Zl2 ?_
 refine Zoc (first := []) (cap := []) T rfl rfl rfl rfl evf (.cons (T.e 0 rfl) .nil) Tryz.func27 rfl rfl ?_
 refine Calls.mono (vCheck_any b _ _ _ _ _ (SA.rd M (Zz9 _)) (SB.rd M (Zz9 _)) (by omega) (by omega)) ?_
 clear T; rintro e wc ⟨rfl, hb⟩ ac T
 replace M := M.call hb; clear hb
 refine lq T (Zra rfl (T.e 0 rfl)) ?_; clear T ac; intro ac T
 replace T := T.pick [0, 3, 4] rfl
 refine Zln ?_
 refine Zsr ?_
 refine Zg2 T (Zq (Zrm rfl (T.e 0 rfl))) rfl (fun _ T => Zq (rn_neq rfl (T.e 0 rfl) evc)) rfl ?_; clear T ac; intro ac T
 replace T := T.pick [0, 2, 3, 4] rfl
 refine Zln ?_
 refine wp_ifn (T.e 0 rfl) ?_ ?_
 ·intro h1
  refine Zsr ?_
  refine Zg2 (v1 := (.agg #[.int .i64 0, .int .i64 0])) T (Zq (rn_build rfl .nil (fun _ => by kernel_rfl))) rfl (Zm 2 rfl rfl) rfl ?_; clear T ac; intro ac T
  refine Zl2 ?_
  refine Zos M T rfl rfl (T.e 4 rfl) (T.e 1 rfl) rfl .head rfl (by simp) rfl (by kernel_rfl) ?_; clear M T; intro wc ac M T
  refine lq T (Zra rfl (T.e 0 rfl)) ?_; clear T ac; intro ac T
  refine wpList_nil ?_
  replace T := T.pick [0, 5] rfl
  replace M := M.mask [true, false] rfl
  refine Znr ?_
  refine Zrt ?_
  refine rt_ct M T rfl (T.e 1 rfl) (T.e 0 rfl) (Zne (i := 0) rfl) rfl ?_
  have e9 : mostE b = ((0, 0), checkB b) := by unfold mostE; rw [if_neg (by simpa using h1)]
  rw [e9]
  exact ⟨rfl, M.below⟩
 intro h1
 have gb := checkB_good.1 (show checkB b = 0 by simpa using h1)
 have nA5 := gb.lows.1
 have nB5 := gb.highs.1
 refine Zsk ?_
 refine wp_seq ?_
 refine Zgs M (M.perm [1] rfl rfl) 9 (by kernel_rfl) rfl (by kernel_rfl) ?_
 clear M; intro wc M
 refine g_addG 7 M ?_
 refine gq T 0 1 rfl (fun B w' hD hl hS => (Zrr (Mem.nth (show Mem w noEx w' _ from ((MA.lft hS) (hD.wait (i := 0) (m := 7) (by kernel_rfl) hl))) 1 rfl) rfl (T.e 3 rfl) rfl)) ?_; clear T ac; intro ac T
 refine gq T 3 9 rfl (fun B w' hD hl hS => (Zrr (Mem.nth (show Mem w noEx w' _ from ((MA.lft hS) (hD.wait (i := 3) (m := 7) (by kernel_rfl) hl))) 1 rfl) rfl (T.e 4 rfl) rfl)) ?_; clear T ac; intro ac T
 refine gw 1 11 ?_; intro K hK
 refine Zoc (first := []) (cap := []) T rfl rfl rfl rfl evf (.cons (T.e 1 rfl) (.cons evf .nil)) Tryz.func55 rfl rfl ?_
 refine Calls.mono (most_always b A c B d _ (SA.rd M (Zz9 _)) (SB.rd M (Zz9 _)) gb) ?_
 clear T; rintro e wc ⟨Au2, cu2, Iu2, rfl, h5u2, SVu2, N⟩ ac T
 obtain ⟨bu2, ou2, SVu2⟩ := SVu2
 obtain ⟨lmu2, hlmu2⟩ : ∃ q, q = mostP (tableP b) okA b.lows.length b.highs.length := ⟨_, rfl⟩
 rw [← hlmu2] at h5u2 SVu2
 have Su2 := SVu2 w noEx
 replace M := (M.join N).swapI
 replace M : Mem w noEx wc ((g2, .cells [.int .i64 0, .int .i64 0]) :: (g1, .cells [.int .i64 b.first, .int .i64 b.step, .int .i64 b.span, .int .i64 b.press, .int .i64 b.note, .slice A b.lows.length c, .slice B b.highs.length d, .int .i64 b.t0, .int .i64 b.t1, .int .i64 b.r0, .int .i64 b.r1, .int .i64 b.u0, .int .i64 b.u1, .int .i64 b.d0, .int .i64 b.d1, .int .i64 b.a0, .int .i64 b.a1, .int .i64 b.b0, .int .i64 b.b1, .int .i64 b.le, .int .i64 b.me]) :: Iu2) := M
 clear N
 rw [← hlmu2] at T
 refine Zso hK _ _ (MA.mk (fun _ => M.perm [0, 1] rfl rfl) (M.perm [1] rfl rfl)) ?_; clear hK K
 refine gw 2 15 ?_; intro K hK
 refine Zoc (first := []) (cap := []) T rfl rfl rfl rfl evf (.cons (T.e 0 rfl) .nil) Tryz.func58 rfl rfl ?_
 refine Calls.mono (pairs_any _ _ _ lmu2 _ (Su2.rd M (.cons _ (.cons _ (List.Sublist.refl _)))) (by omega)) ?_
 clear T; rintro e wc ⟨rfl, hb⟩ ac T
 replace M := M.call hb; clear hb
 refine Zso hK _ _ (MA.mk (fun _ => M.perm [0, 1] rfl rfl) (M.perm [1] rfl rfl)) ?_; clear hK K
 refine gw 4 31 ?_; intro K hK
 refine Zoc (first := []) (cap := []) T rfl rfl rfl rfl evf (.cons (T.e 2 rfl) (.cons evf .nil)) Tryz.func55 rfl rfl ?_
 refine Calls.mono (most_maybe b A c B d _ (SA.rd M (Zz9 _)) (SB.rd M (Zz9 _)) gb) ?_
 clear T; rintro e wc ⟨Au4, cu4, Iu4, rfl, h5u4, SVu4, N⟩ ac T
 obtain ⟨bu4, ou4, SVu4⟩ := SVu4
 obtain ⟨lmu4, hlmu4⟩ : ∃ q, q = mostP (tableP b) okM b.lows.length b.highs.length := ⟨_, rfl⟩
 rw [← hlmu4] at h5u4 SVu4
 have Su4 := SVu4 w noEx
 replace M := (M.join N).swapI
 replace M : Mem w noEx wc ((g2, .cells [.int .i64 0, .int .i64 0]) :: (g1, .cells [.int .i64 b.first, .int .i64 b.step, .int .i64 b.span, .int .i64 b.press, .int .i64 b.note, .slice A b.lows.length c, .slice B b.highs.length d, .int .i64 b.t0, .int .i64 b.t1, .int .i64 b.r0, .int .i64 b.r1, .int .i64 b.u0, .int .i64 b.u1, .int .i64 b.d0, .int .i64 b.d1, .int .i64 b.a0, .int .i64 b.a1, .int .i64 b.b0, .int .i64 b.b1, .int .i64 b.le, .int .i64 b.me]) :: (Iu2 ++ Iu4)) := M
 clear N
 rw [← hlmu4] at T
 refine Zso hK _ _ (MA.mk (fun _ => M.perm [0, 1] rfl rfl) (M.perm [1] rfl rfl)) ?_; clear hK K
 refine gw 5 63 ?_; intro K hK
 refine Zoc (first := []) (cap := []) T rfl rfl rfl rfl evf (.cons (T.e 0 rfl) .nil) Tryz.func58 rfl rfl ?_
 refine Calls.mono (pairs_any _ _ _ lmu4 _ (Su4.rd M (.cons _ (.cons _ (Zsq _ _)))) (by omega)) ?_
 clear T; rintro e wc ⟨rfl, hb⟩ ac T
 replace M := M.call hb; clear hb
 refine Zso hK _ _ (MA.mk (fun _ => M.perm [0, 1] rfl rfl) (M.perm [1] rfl rfl)) ?_; clear hK K
 refine gq (v := (.agg #[.int .i64 (pairsP lmu2), .int .i64 (pairsP lmu4)])) T 6 127 rfl (fun _ _ _ _ _ => (rn_build rfl (.cons (T.e 2 rfl) (.cons (T.e 0 rfl) .nil)) (fun _ => by kernel_rfl))) ?_; clear T ac; intro ac T
 refine gw 7 255 ?_; intro K hK
 refine Zos M T rfl rfl (T.e 9 rfl) (T.e 0 rfl) rfl .head rfl (by simp) rfl (by kernel_rfl) ?_; clear M T; intro wc ac M T
 refine Zso hK _ _ (MA.mk (fun h => (no_of (by kernel_rfl) h).elim) (M.perm [1] rfl rfl)) ?_; clear hK K
 refine gq T 8 511 rfl (fun _ _ _ _ _ => (Zra rfl evc)) ?_; clear T ac; intro ac T
 refine Zgd (by kernel_rfl) ?_
 replace T := T.pick [0, 10] rfl
 replace M := M.mask [true, false] rfl
 refine Znr ?_
 refine rt_ct M T rfl (T.e 1 rfl) (T.e 0 rfl) (Zne (i := 0) rfl) rfl ?_
 have e9 : mostE b = ((pairsP lmu2, pairsP lmu4), 0) := by unfold mostE mostL; rw [if_pos (by simpa using h1), hlmu2, hlmu4]
 rw [e9]
 exact ⟨rfl, M.below⟩
theorem Short_any (b : Bx) (A : Option Addr) (c : Nat) (B : Option Addr) (d : Nat) (w : World) (hA : Rd w w.heap.size 4 A b.lows.length (sc b.lows)) (hB : Rd w w.heap.size 4 B b.highs.length (sc b.highs)) (nA : b.lows.length ≤ 1000000) (nB : b.highs.length ≤ 1000000)  :
   Calls Tryz.prog 12 #[bxV b A c B d] w (LEPost (shortE b).1 (shortE b).2 w) := by
 have hlA := hA.len4
 have hlB := hB.len4
 obtain ⟨bA, oA, SA⟩ := Sp.old hA
 obtain ⟨bB, oB, SB⟩ := Sp.old hB
 refine Zpx noEx Tryz.func12 rfl 40 rfl [.agg #[.int .i64 b.first, .int .i64 b.step, .int .i64 b.span, .int .i64 b.press, .int .i64 b.note, .slice A b.lows.length c, .slice B b.highs.length d, .int .i64 b.t0, .int .i64 b.t1, .int .i64 b.r0, .int .i64 b.r1, .int .i64 b.u0, .int .i64 b.u1, .int .i64 b.d0, .int .i64 b.d1, .int .i64 b.a0, .int .i64 b.a1, .int .i64 b.b0, .int .i64 b.b1, .int .i64 b.le, .int .i64 b.me]] rfl rfl (Mem.init w _) ?_
 intro ac wc T M
 refine Zsr ?_
 refine Zl2 ?_
 refine Zob M T rfl rfl rfl rfl (T.e 0 rfl) rfl ?_; clear M T; intro g1 wc ac M T
 refine Zg2 T (Zq (Zra rfl evc)) rfl (Zc rfl) rfl ?_; clear T ac; intro ac T
 replace T := T.pick [2] rfl
 refine Zln ?_
 refine wp_seq ?_
 refine Zsr ?_
 refine lq T (Zrr (Mem.nth M 0 rfl) rfl (T.e 0 rfl) rfl) ?_; clear T ac; intro ac T
 refine Zl2 ?_
 refine Zoc (first := []) (cap := []) T rfl rfl rfl rfl evf (.cons (T.e 0 rfl) .nil) Tryz.func27 rfl rfl ?_
 refine Calls.mono (vCheck_any b _ _ _ _ _ (SA.rd M (Zz9 _)) (SB.rd M (Zz9 _)) (by omega) (by omega)) ?_
 clear T; rintro e wc ⟨rfl, hb⟩ ac T
 replace M := M.call hb; clear hb
 refine lq T (Zra rfl (T.e 0 rfl)) ?_; clear T ac; intro ac T
 replace T := T.pick [0, 3] rfl
 refine Zln ?_
 refine Zsr ?_
 refine Zg2 T (Zq (Zrm rfl (T.e 0 rfl))) rfl (fun _ T => Zq (rn_neq rfl (T.e 0 rfl) evc)) rfl ?_; clear T ac; intro ac T
 replace T := T.pick [0, 2, 3] rfl
 refine Zln ?_
 refine wp_ifn (T.e 0 rfl) ?_ ?_
 ·intro h1
  refine Zsr ?_
  refine Zg3 T (Zq (Zrm rfl (T.e 1 rfl))) rfl (Zc rfl) rfl (Za 1 rfl rfl) rfl ?_; clear T ac; intro ac T
  refine wpList_nil ?_
  replace T := T.pick [0, 1] rfl
  replace M := M.mask [false] rfl
  refine Znr ?_
  refine Zrt ?_
  refine rt_2 T rfl (T.e 1 rfl) (T.e 0 rfl) ?_
  have e9 : shortE b = ([], checkB b) := by unfold shortE; rw [if_neg (by simpa using h1)]
  rw [e9]
  exact LEPost.nil rfl M
 intro h1
 have gb := checkB_good.1 (show checkB b = 0 by simpa using h1)
 have nA5 := gb.lows.1
 have nB5 := gb.highs.1
 refine Zsk ?_
 refine wp_seq ?_
 refine wp_seq ?_
 refine Zgs M (M.mask [true] rfl) 7 (by kernel_rfl) rfl (by kernel_rfl) ?_
 clear M; intro wc M
 refine gq T 0 1 rfl (fun B w' hD hl hS => (Zrr (Mem.nth (show Mem w noEx w' _ from hS) 0 rfl) rfl (T.e 2 rfl) rfl)) ?_; clear T ac; intro ac T
 refine gq (v := (.pointer (some ⟨g1, 5, none⟩))) T 3 9 rfl (fun _ _ _ _ _ => (Zrf (off := 5) rfl (T.e 3 rfl) (fun _ _ _ => by kernel_rfl))) ?_; clear T ac; intro ac T
 refine gq T 4 25 rfl (fun B w' hD hl hS => (Zro (Mem.nth (show Mem w noEx w' _ from hS) 0 rfl) rfl (T.e 0 rfl) rfl)) ?_; clear T ac; intro ac T
 refine gq T 5 57 rfl (fun _ _ _ _ _ => (Zrl rfl Tryz.underlying24 (T.e 0 rfl))) ?_; clear T ac; intro ac T
 refine gw 1 59 ?_; intro K hK
 refine Zoc (first := []) (cap := []) T rfl rfl rfl rfl evf (.cons (T.e 3 rfl) (.cons evf .nil)) Tryz.func55 rfl rfl ?_
 refine Calls.mono (most_always b A c B d _ (SA.rd M (Zz9 _)) (SB.rd M (Zz9 _)) gb) ?_
 clear T; rintro e wc ⟨Au2, cu2, Iu2, rfl, h5u2, SVu2, N⟩ ac T
 obtain ⟨bu2, ou2, SVu2⟩ := SVu2
 obtain ⟨lmu2, hlmu2⟩ : ∃ q, q = mostP (tableP b) okA b.lows.length b.highs.length := ⟨_, rfl⟩
 rw [← hlmu2] at h5u2 SVu2
 have Su2 := SVu2 w noEx
 replace M := (M.join N).swapI
 replace M : Mem w noEx wc ((g1, .cells [.int .i64 b.first, .int .i64 b.step, .int .i64 b.span, .int .i64 b.press, .int .i64 b.note, .slice A b.lows.length c, .slice B b.highs.length d, .int .i64 b.t0, .int .i64 b.t1, .int .i64 b.r0, .int .i64 b.r1, .int .i64 b.u0, .int .i64 b.u1, .int .i64 b.d0, .int .i64 b.d1, .int .i64 b.a0, .int .i64 b.a1, .int .i64 b.b0, .int .i64 b.b1, .int .i64 b.le, .int .i64 b.me]) :: Iu2) := M
 clear N
 rw [← hlmu2] at T
 refine Zso hK _ _ (M.perm [0] rfl rfl) ?_; clear hK K
 refine gw 2 63 ?_; intro K hK
 refine Zoc (first := []) (cap := []) T rfl rfl rfl rfl evf (.cons (T.e 0 rfl) .nil) Tryz.func58 rfl rfl ?_
 refine Calls.mono (pairs_any _ _ _ lmu2 _ (Su2.rd M (.cons _ (List.Sublist.refl _))) (by omega)) ?_
 clear T; rintro e wc ⟨rfl, hb⟩ ac T
 replace M := M.call hb; clear hb
 refine Zso hK _ _ (M.perm [0] rfl rfl) ?_; clear hK K
 refine gq T 6 127 rfl (fun _ _ _ _ _ => (rn_eql rfl (T.e 0 rfl) (T.e 2 rfl))) ?_; clear T ac; intro ac T
 refine Zgd (by kernel_rfl) ?_
 replace T := T.pick [0, 9] rfl
 refine nm_then ?_
 refine wp_if (T.e 0 rfl) ?_ ?_
 ·intro h2
  refine Zsr ?_
  refine Zg2 T (Zq (Zra rfl evc)) rfl (Zc rfl) rfl ?_; clear T ac; intro ac T
  refine wpList_nil ?_
  replace T := T.pick [0, 1] rfl
  replace M := M.mask [false] rfl
  refine Znr ?_
  refine Zrt ?_
  refine rt_2 T rfl (T.e 1 rfl) (T.e 0 rfl) ?_
  have e9 : shortE b = ([], 11) := by unfold shortE mostL; rw [if_pos (by simpa using h1), ← hlmu2, if_pos (by omega)]
  rw [e9]
  exact LEPost.nil rfl M
 intro h2
 refine Zsk ?_
 refine Zsr ?_
 refine lq T (Zrr (Mem.nth M 0 rfl) rfl (T.e 1 rfl) rfl) ?_; clear T ac; intro ac T
 refine Zl2 ?_
 refine Zoc (first := []) (cap := []) T rfl rfl rfl rfl evf (.cons (T.e 0 rfl) .nil) Tryz.func59 rfl rfl ?_
 refine Calls.mono (table_any b A c B d _ (SA.rd M (Zz9 _)) (SB.rd M (Zz9 _)) gb) ?_
 clear T; rintro e wc ⟨Au4, cu4, LLu4, Iu4, rfl, hLu4, hSu4, hEu4, N⟩ ac T
 replace M := (M.join N).swapI
 replace M : Mem w noEx wc ((g1, .cells [.int .i64 b.first, .int .i64 b.step, .int .i64 b.span, .int .i64 b.press, .int .i64 b.note, .slice A b.lows.length c, .slice B b.highs.length d, .int .i64 b.t0, .int .i64 b.t1, .int .i64 b.r0, .int .i64 b.r1, .int .i64 b.u0, .int .i64 b.u1, .int .i64 b.d0, .int .i64 b.d1, .int .i64 b.a0, .int .i64 b.a1, .int .i64 b.b0, .int .i64 b.b1, .int .i64 b.le, .int .i64 b.me]) :: (Iu2 ++ Iu4)) := M
 clear N
 refine Zl2 ?_
 refine Zoa M T rfl rfl rfl rfl ?_; clear M T; intro g2 wc ac M T
 refine Zl2 ?_
 refine Zos M T rfl rfl (T.e 0 rfl) (T.e 1 rfl) rfl .head rfl (by simp) rfl (by kernel_rfl) ?_; clear M T; intro wc ac M T
 replace T := T.pick [0, 4] rfl
 refine Zln ?_
 refine Zsr ?_
 refine Zl2 ?_
 refine Zoa M T rfl rfl rfl rfl ?_; clear M T; intro g3 wc ac M T
 refine Zln ?_
 refine Zsr ?_
 refine Zl2 ?_
 refine Zoa M T rfl rfl rfl rfl ?_; clear M T; intro g4 wc ac M T
 refine Zln ?_
 refine Zsr ?_
 refine lq (v := (.func (.func 60) #[] #[.pointer (some ⟨g3, 0, none⟩), .pointer (some ⟨g1, 0, none⟩), .pointer (some ⟨g2, 0, none⟩), .pointer (some ⟨g4, 0, none⟩)])) T (rn_makeFunc rfl .nil (.cons (T.e 1 rfl) (.cons (T.e 3 rfl) (.cons (T.e 2 rfl) (.cons (T.e 0 rfl) .nil))))) ?_; clear T ac; intro ac T
 refine Zl2 ?_
 refine Zos M T rfl rfl (T.e 1 rfl) (T.e 0 rfl) rfl .head rfl (by simp) rfl (by kernel_rfl) ?_; clear M T; intro wc ac M T
 replace T := T.pick [1, 2, 4] rfl
 refine Zln ?_
 refine wp_seq ?_
 refine Zsr ?_
 refine Zg5 (v1 := (.pointer (some ⟨g1, 5, none⟩))) T (Zq (Zrf (off := 5) rfl (T.e 2 rfl) (fun _ _ _ => by kernel_rfl))) rfl (Zo M 3 0 rfl rfl rfl rfl) rfl (Zl Tryz.underlying24 0 rfl rfl) rfl (fun _ T => Zq (rn_add rfl (T.e 0 rfl) evc (by omega))) rfl (fun _ T => Zq (Zrm rfl evc)) rfl ?_; clear T ac; intro ac T
 replace T := T.pick [0, 1, 5, 6] rfl
 refine Zln ?_
 refine wp_block ?_
 refine wp_loop_n (fun mz ac wc => ∃ (s : Nat), mz = b.lows.length + 1 - s ∧ (s ≤ b.lows.length + 1) ∧ (sizeF (tableP b) b.lows.length 0 = sizeF (tableP b) b.lows.length s) ∧ Tm ac 40 [(6, .pointer (some ⟨g3, 0, none⟩)), (7, .pointer (some ⟨g4, 0, none⟩)), (27, .int .i64 (((b.lows.length : Nat) : Int) + 1)), (28, .int .i64 (s : Int))] ∧ Mem w noEx wc ((g4, .cells [.func (.func 60) #[] #[.pointer (some ⟨g3, 0, none⟩), .pointer (some ⟨g1, 0, none⟩), .pointer (some ⟨g2, 0, none⟩), .pointer (some ⟨g4, 0, none⟩)]]) :: (g3, .cells [.slice none 0 0]) :: (g2, .cells [.slice Au4 LLu4.length cu4]) :: (g1, .cells [.int .i64 b.first, .int .i64 b.step, .int .i64 b.span, .int .i64 b.press, .int .i64 b.note, .slice A b.lows.length c, .slice B b.highs.length d, .int .i64 b.t0, .int .i64 b.t1, .int .i64 b.r0, .int .i64 b.r1, .int .i64 b.u0, .int .i64 b.u1, .int .i64 b.d0, .int .i64 b.d1, .int .i64 b.a0, .int .i64 b.a1, .int .i64 b.b0, .int .i64 b.b1, .int .i64 b.le, .int .i64 b.me]) :: (Iu2 ++ Iu4))) ?_ ?_
 ·exact ⟨_, 0, rfl, (by omega), rfl, T.pick [3, 2, 1, 0] rfl, M.mask [true, true, true, true] rfl⟩
 clear T M
 rintro mz ac wc ⟨s, hmm1, hs, H, T, M⟩
 refine Zsr ?_
 refine lq T (rn_lss rfl (T.e 3 rfl) (T.e 2 rfl)) ?_; clear T ac; intro ac T
 refine Zln ?_
 refine wp_seq ?_
 refine wp_if (T.e 0 rfl) ?_ ?_
 ·intro h3
  refine Zsk ?_
  refine wp_seq ?_
  refine wp_block ?_
  refine Zsr ?_
  refine Zg2 T (Zq (Zrm rfl (T.e 4 rfl))) rfl (Za 0 rfl rfl) rfl ?_; clear T ac; intro ac T
  replace T := T.pick [0, 3, 4, 5, 6] rfl
  refine Zln ?_
  refine Zsr ?_
  refine Zg3 T (Zq (Zrm rfl (T.e 0 rfl))) rfl (fun _ T => Zq (rn_gtr rfl (T.e 0 rfl) evc)) rfl (Zm 0 rfl rfl) rfl ?_; clear T ac; intro ac T
  rcases Bool.eq_false_or_eq_true (decide (0 < (s : Int))) with h4 | h4
  ·replace h4 := of_decide_eq_true h4
   refine Zg2 T (Zw (Zwy rfl rfl (T.e 0 rfl) (Zdt h4)) (Zro (Mem.nth M 0 rfl) rfl (T.e 5 rfl) rfl)) rfl (fun _ T => Zw (Zwy rfl rfl (T.e 1 rfl) (Zdt h4)) (Zrm rfl (T.e 4 rfl))) rfl ?_; clear T ac; intro ac T
   refine l_w (Zwy rfl rfl (T.e 2 rfl) (Zdt h4)) ?_; intro K hK
   have Mq : Mem w noEx wc ([(g3, .cells [.slice none 0 0])] ++ ((g4, .cells [.func (.func 60) #[] #[.pointer (some ⟨g3, 0, none⟩), .pointer (some ⟨g1, 0, none⟩), .pointer (some ⟨g2, 0, none⟩), .pointer (some ⟨g4, 0, none⟩)]]) :: (g2, .cells [.slice Au4 LLu4.length cu4]) :: (g1, .cells [.int .i64 b.first, .int .i64 b.step, .int .i64 b.span, .int .i64 b.press, .int .i64 b.note, .slice A b.lows.length c, .slice B b.highs.length d, .int .i64 b.t0, .int .i64 b.t1, .int .i64 b.r0, .int .i64 b.r1, .int .i64 b.u0, .int .i64 b.u1, .int .i64 b.d0, .int .i64 b.d1, .int .i64 b.a0, .int .i64 b.a1, .int .i64 b.b0, .int .i64 b.b1, .int .i64 b.le, .int .i64 b.me]) :: (Iu2 ++ Iu4))) := M.permT [1, 0, 2, 3] 4 rfl rfl rfl rfl
   have gx : SEnv (⟨g3, g1, g2, g4, b, A, c, B, d, Au4, cu4, LLu4⟩ : SE) wc (inL [(g3, .cells [.slice none 0 0])]) := ⟨Old.of Mq (fun _ h => h) (Zne (i := 2) rfl), Old.of Mq (fun _ h => h) (Zne (i := 1) rfl), Old.of Mq (fun _ h => h) (Zne (i := 0) rfl), (by obtain ⟨b9, o9, h9⟩ := hSu4; exact ⟨b9, o9, Sp.of Mq (fun _ h => h) (h9 w noEx) (.cons _ (.cons _ (.cons _ (Zsq _ _))))⟩), fun x hx => (by obtain ⟨b9, o9, h9⟩ := hEu4 x hx; exact ⟨b9, o9, Sp.of Mq (fun _ h => h) (h9 w noEx) (.cons _ (.cons _ (.cons _ (Zsq _ _))))⟩)⟩
   have My : Mem w noEx wc [(g3, .cells [.slice none 0 0])] := Mq.sub (Zsl _ _)
   refine Zoc (first := []) (cap := [.pointer (some ⟨g3, 0, none⟩), .pointer (some ⟨g1, 0, none⟩), .pointer (some ⟨g2, 0, none⟩), .pointer (some ⟨g4, 0, none⟩)]) T rfl rfl rfl rfl (T.e 1 rfl) (.cons evc (.cons evc (.cons (T.e 0 rfl) (.cons evc .nil)))) Tryz.func60 rfl rfl ?_
   refine Calls.mono (found_any (⟨g3, g1, g2, g4, b, A, c, B, d, Au4, cu4, LLu4⟩ : SE) (tableP b) hLu4 (tableP_len b).1 (fun x hx => by rw [(tableP_len b).2 x hx]; exact nB5) nA5 s wc _ [] none 0 0 0 _ 0 0 [] rfl (by simp; omega) rfl rfl (by omega) (by omega) ⟨0, 0, fun _ _ => Sp.nil⟩ gx My.rebase) ?_
   clear T; rintro e wc ⟨Au5, nu5, cu5, Iu5, rfl, hfsu5, N⟩ ac T
   replace M := Mem.spin [(g3, .cells [.slice Au5 nu5 cu5])] Iu5 ((g4, .cells [.func (.func 60) #[] #[.pointer (some ⟨g3, 0, none⟩), .pointer (some ⟨g1, 0, none⟩), .pointer (some ⟨g2, 0, none⟩), .pointer (some ⟨g4, 0, none⟩)]]) :: (g2, .cells [.slice Au4 LLu4.length cu4]) :: (g1, .cells [.int .i64 b.first, .int .i64 b.step, .int .i64 b.span, .int .i64 b.press, .int .i64 b.note, .slice A b.lows.length c, .slice B b.highs.length d, .int .i64 b.t0, .int .i64 b.t1, .int .i64 b.r0, .int .i64 b.r1, .int .i64 b.u0, .int .i64 b.u1, .int .i64 b.d0, .int .i64 b.d1, .int .i64 b.a0, .int .i64 b.a1, .int .i64 b.b0, .int .i64 b.b1, .int .i64 b.le, .int .i64 b.me]) :: (Iu2 ++ Iu4)) (Mem.joinX (X := [(g3, .cells [.slice none 0 0])]) (F := ((g4, .cells [.func (.func 60) #[] #[.pointer (some ⟨g3, 0, none⟩), .pointer (some ⟨g1, 0, none⟩), .pointer (some ⟨g2, 0, none⟩), .pointer (some ⟨g4, 0, none⟩)]]) :: (g2, .cells [.slice Au4 LLu4.length cu4]) :: (g1, .cells [.int .i64 b.first, .int .i64 b.step, .int .i64 b.span, .int .i64 b.press, .int .i64 b.note, .slice A b.lows.length c, .slice B b.highs.length d, .int .i64 b.t0, .int .i64 b.t1, .int .i64 b.r0, .int .i64 b.r1, .int .i64 b.u0, .int .i64 b.u1, .int .i64 b.d0, .int .i64 b.d1, .int .i64 b.a0, .int .i64 b.a1, .int .i64 b.b0, .int .i64 b.b1, .int .i64 b.le, .int .i64 b.me]) :: (Iu2 ++ Iu4))) Mq N (fun b h => h))
   clear N Mq My gx
   replace M : Mem w noEx wc ((g3, .cells [.slice Au5 nu5 cu5]) :: (g4, .cells [.func (.func 60) #[] #[.pointer (some ⟨g3, 0, none⟩), .pointer (some ⟨g1, 0, none⟩), .pointer (some ⟨g2, 0, none⟩), .pointer (some ⟨g4, 0, none⟩)]]) :: (g2, .cells [.slice Au4 LLu4.length cu4]) :: (g1, .cells [.int .i64 b.first, .int .i64 b.step, .int .i64 b.span, .int .i64 b.press, .int .i64 b.note, .slice A b.lows.length c, .slice B b.highs.length d, .int .i64 b.t0, .int .i64 b.t1, .int .i64 b.r0, .int .i64 b.r1, .int .i64 b.u0, .int .i64 b.u1, .int .i64 b.d0, .int .i64 b.d1, .int .i64 b.a0, .int .i64 b.a1, .int .i64 b.b0, .int .i64 b.b1, .int .i64 b.le, .int .i64 b.me]) :: (Iu2 ++ Iu4 ++ Iu5)) := M
   refine Zso hK _ _ ?_; clear hK K
   refine lq T (Zr1 rfl (T.e 3 rfl) (Zdt h4) (T.e 0 rfl)) ?_; clear T ac; intro ac T
   replace T := T.pick [0, 1, 2, 3, 8, 9, 10, 11] rfl
   refine Zln ?_
   refine wp_cond_split (T.e 0 rfl) ?_ ?_
   ·intro h5
    refine wp_exit ?_
    refine ex_miss rfl ?_
    refine Zet ?_
    refine Zet ?_
    refine ex_hit ?_
    refine nm_then ?_
    refine Zsr ?_
    refine Zg3 T (Zq (Zro (Mem.nth M 0 rfl) rfl (T.e 4 rfl) rfl)) rfl (Za 0 rfl rfl) rfl (Zc rfl) rfl ?_; clear T ac; intro ac T
    refine wpList_nil ?_
    replace T := T.pick [0, 1] rfl
    replace M := M.mask [false, false, false, false] rfl
    replace M : Mem w noEx wc ((Iu2 ++ Iu4 ++ Iu5)) := M
    refine Znr ?_
    refine rt_2 T rfl (T.e 1 rfl) (T.e 0 rfl) ?_
    have e9 : shortE b = ((shortP (tableP b) b.lows.length s [] 0 0).getD [], 0) := by unfold shortE mostL; rw [if_pos (by simpa using h1), ← hlmu2, if_neg (by omega), H, sizeF_some (n := b.lows.length) (by omega) (by omega) h5]
    rw [e9]
    obtain ⟨hn1, hn2⟩ := hfsu5.len
    have hsp := hfsu5.sp
    subst hn1
    exact ⟨Au5, cu5, Iu5, rfl, Nat.le_trans hn2 (by omega), hsp, M.sub ((Zsq _ _))⟩
   intro h5
   refine wp_skip ?_
   refine Znb ?_
   refine nm_then ?_
   refine wp_region_lit ?_
   refine lq T (rn_add rfl (T.e 7 rfl) evc (by omega)) ?_; clear T ac; intro ac T
   refine l_q (v := (.int .i64 ((s : Int) + 1))) (T.pick [0, 1, 2, 3, 4, 5, 6, 7] rfl) rfl rfl rfl rfl (Zrm rfl (T.e 0 rfl)) ?_; clear T ac; intro ac T
   replace T := T.pick [0, 3, 4, 5, 6, 7, 8] rfl
   refine Zln ?_
   have hno := hfsu5.none h5
   obtain ⟨rfl, rfl, rfl, rfl⟩ := hno
   rw [List.append_nil] at M
   replace M : Mem w noEx wc ((g3, .cells [.slice none 0 0]) :: (g4, .cells [.func (.func 60) #[] #[.pointer (some ⟨g3, 0, none⟩), .pointer (some ⟨g1, 0, none⟩), .pointer (some ⟨g2, 0, none⟩), .pointer (some ⟨g4, 0, none⟩)]]) :: (g2, .cells [.slice Au4 LLu4.length cu4]) :: (g1, .cells [.int .i64 b.first, .int .i64 b.step, .int .i64 b.span, .int .i64 b.press, .int .i64 b.note, .slice A b.lows.length c, .slice B b.highs.length d, .int .i64 b.t0, .int .i64 b.t1, .int .i64 b.r0, .int .i64 b.r1, .int .i64 b.u0, .int .i64 b.u1, .int .i64 b.d0, .int .i64 b.d1, .int .i64 b.a0, .int .i64 b.a1, .int .i64 b.b0, .int .i64 b.b1, .int .i64 b.le, .int .i64 b.me]) :: (Iu2 ++ Iu4)) := M
   exact ⟨_, by omega, s + 1, rfl, (by omega), (by rw [H]; exact sizeF_none (n := b.lows.length) (by omega) (by omega) h5), T.pick [4, 5, 6, 0] rfl, M.permT [1, 0, 2, 3] 4 rfl rfl rfl rfl⟩
  replace h4 := of_decide_eq_false h4
  refine Zg4 T (Zp (Zwn rfl rfl (T.e 0 rfl) (Zdf h4))) rfl (fun _ T => Zp (Zwn rfl rfl (T.e 1 rfl) (Zdf h4))) rfl (fun _ T => Zp (Zwn rfl rfl (T.e 2 rfl) (Zdf h4))) rfl (fun _ T => Zq (Zr0 rfl (T.e 3 rfl) (Zdf h4) evc)) rfl ?_; clear T ac; intro ac T
  replace T := T.pick [0, 1, 2, 3, 8, 9, 10, 11] rfl
  refine Zln ?_
  refine wp_cond_false (T.e 0 rfl) ?_
  refine wp_skip ?_
  refine Znb ?_
  refine nm_then ?_
  refine wp_region_lit ?_
  refine lq T (rn_add rfl (T.e 7 rfl) evc (by omega)) ?_; clear T ac; intro ac T
  refine l_q (v := (.int .i64 ((s : Int) + 1))) (T.pick [0, 1, 2, 3, 4, 5, 6, 7] rfl) rfl rfl rfl rfl (Zrm rfl (T.e 0 rfl)) ?_; clear T ac; intro ac T
  replace T := T.pick [0, 3, 4, 5, 6, 7, 8] rfl
  refine Zln ?_
  exact ⟨_, by omega, s + 1, rfl, (by omega), (by rw [H]; obtain rfl : s = 0 := (by omega); exact sizeF_zero _ _), T.pick [4, 5, 6, 0] rfl, M.permT [0, 1, 2, 3] 4 rfl rfl rfl rfl⟩
 intro h3
 refine wp_exit ?_
 refine Zet ?_
 refine Zet ?_
 refine ex_hit ?_
 refine nm_then ?_
 refine Zsr ?_
 refine Zg3 T (Zq (Zro (Mem.nth M 1 rfl) rfl (T.e 1 rfl) rfl)) rfl (Za 0 rfl rfl) rfl (Zc rfl) rfl ?_; clear T ac; intro ac T
 refine wpList_nil ?_
 replace T := T.pick [0, 1] rfl
 replace M := M.mask [false, false, false, false] rfl
 refine Znr ?_
 refine rt_2 T rfl (T.e 1 rfl) (T.e 0 rfl) ?_
 have e9 : shortE b = ([], 0) := by unfold shortE mostL; rw [if_pos (by simpa using h1), ← hlmu2, if_neg (by omega), H, sizeF_end (by omega)]; rfl
 rw [e9]
 exact LEPost.nil rfl M
abbrev LS := List Snd × Option Addr × Nat
def lsC (l : List LS) : List Value := l.map fun x => .slice x.2.1 x.1.length x.2.2
theorem Sp.ls0 {w w' : World} {ex : Nat → Prop} {I L : List (Nat × BA)} {A : Option Addr} {n b o k : Nat} {r : List LS} {x : List Snd} {B : Option Addr} {c : Nat} (S : Sp w ex I A n 1 b o (lsC r)) (M : Mem w ex w' L) (hI : I.Sublist L) (h : r[k]? = some (x, B, c)) : w'.cell? ⟨b, o + k * 1, none⟩ = some (.slice B x.length c) := by
 rw [Nat.mul_one]
 exact S.cell w' L M hI k _ (by unfold lsC; rw [List.getElem?_map, h]; rfl)
abbrev rowsOf (l : List LS) : List (List Snd) := l.map (·.1)
def ElsS (w : World) (l : List LS) : Prop := ∀ x ∈ l, Rd w w.heap.size 4 x.2.1 x.1.length (sc x.1)
def notesP (R : List (List Snd)) : Nat := (R.headD []).length
theorem notesP_at {LL : List LS} {x : List Snd} {B : Option Addr} {d : Nat} (h : LL[0]? = some (x, B, d)) : notesP (rowsOf LL) = x.length := by
 cases LL with
 | nil => simp at h
 | cons y r =>
  simp at h
  subst h
  rfl
def rowsE (n : Nat) : List (List Snd) → Int
 | [] => 0
 | x :: r => if 6 < x.length then 6 else if x.length ≠ n then 2 else if sndsE x 6 ≠ 0 then sndsE x 6 else rowsE n r
def dueO (l : Lw) (n : Nat) : Bool := decide (0 ≤ l.first + l.step * (n : Int) ∧ l.first + l.step * (n : Int) ≤ 30)
def checkS (l : Lw) (R : List (List Snd)) : Int :=
 if lawE l ≠ 0 then lawE l else if 4 < R.length then 6 else if rowsE (notesP R) R ≠ 0 then rowsE (notesP R) R else if (List.range (notesP R)).all (dueO l) = true then 0 else 1
theorem rowsE_good : ∀ {n : Nat} {R : List (List Snd)}, rowsE n R = 0 → ∀ x ∈ R, x.length ≤ 6 ∧ x.length = n ∧ ∀ y ∈ x, y.good
 | n, [], _, x, hx => by cases hx
 | n, a :: r, h, x, hx => by
  unfold rowsE at h
  split at h
  ·contradiction
  ·split at h
   ·contradiction
   ·split at h
    ·contradiction
    ·rename_i h1 h2 h3
     rcases List.mem_cons.1 hx with rfl | hx
     ·exact ⟨by omega, by simpa using h2, (sndsE_good (by simpa using h3)).2⟩
     ·exact rowsE_good h x hx
theorem good_rowsE : ∀ {n : Nat} {R : List (List Snd)}, (∀ x ∈ R, x.length ≤ 6 ∧ x.length = n ∧ ∀ y ∈ x, y.good) → rowsE n R = 0
 | n, [], _ => rfl
 | n, a :: r, h => by
  obtain ⟨h1, h2, h3⟩ := h a Zz2
  unfold rowsE
  rw [if_neg (by omega), if_neg (by simpa using h2), if_neg (by rw [good_sndsE (by omega) h3]; simp)]
  exact good_rowsE fun x hx => h x (Zz1 hx)
structure SGood (l : Lw) (R : List (List Snd)) : Prop where
 law : l.good
 len : R.length ≤ 4
 rows : ∀ x ∈ R, x.length ≤ 6 ∧ x.length = notesP R ∧ ∀ y ∈ x, y.good
 dues : ∀ n, n < notesP R → dueO l n = true
theorem SGood.notes {l : Lw} {R : List (List Snd)} (h : SGood l R) : notesP R ≤ 6 := by
 cases R with
 | nil => simp [notesP]
 | cons a r => exact (h.rows a Zz2).1
theorem checkS_good {l : Lw} {R : List (List Snd)} : checkS l R = 0 ↔ SGood l R := by
 unfold checkS
 constructor
 ·intro h
  split at h
  ·contradiction
  ·split at h
   ·contradiction
   ·split at h
    ·contradiction
    ·split at h
     ·rename_i h1 h2 h3 h4
      simp only [ne_eq, Decidable.not_not] at h1 h3
      exact ⟨lawE_good h1, by omega, rowsE_good h3, fun n hn => List.all_eq_true.1 h4 n (List.mem_range.2 hn)⟩
     ·contradiction
 ·rintro ⟨h1, h2, h3, h4⟩
  rw [if_neg (by simp [good_lawE h1]), if_neg (by omega), if_neg (by simp [good_rowsE h3]), if_pos]
  exact List.all_eq_true.2 fun n hn => h4 n (List.mem_range.1 hn)
def leO : Option Int → Int → Bool
 | none, _ => false
 | some q, r => decide (r ≤ q)
def regE (n : Int) : Option Int → List Int → Int
 | _, [] => 0
 | p, r :: rs => if ¬ (0 ≤ r ∧ r ≤ n - 1) then 3 else if leO p r = true then 5 else regE n (some r) rs
def prevO (g : List Int) (i : Nat) : Option Int := if i = 0 then none else g[i - 1]?
theorem prevO_le {g : List Int} {i : Nat} {r rp : Int} (hi : i ≤ g.length) (hr : rp = g.getD (i - 1) 0) : leO (prevO g i) r = (decide (0 < (i : Int)) && decide (r ≤ rp)) := by
 unfold prevO
 rcases Nat.eq_zero_or_pos i with rfl | h
 ·simp [leO]
 ·rw [if_neg (by omega), List.getElem?_eq_getElem (by omega)]
  rw [List.getD_eq_getElem?_getD, List.getElem?_eq_getElem (by omega)] at hr
  have hr : rp = g[i - 1] := hr
  simp only [leO, ← hr]
  rw [Zdt (by omega : 0 < (i : Int)), Bool.true_and]
def checkR (l : Lw) (R : List (List Snd)) (g : List Int) : Int := if checkS l R ≠ 0 then checkS l R else regE R.length none g
theorem regE_good : ∀ {n : Int} {p : Option Int} {g : List Int}, regE n p g = 0 → ∀ r ∈ g, 0 ≤ r ∧ r < n
 | n, p, [], _, r, hr => by cases hr
 | n, p, a :: g, h, r, hr => by
  unfold regE at h
  split at h
  ·contradiction
  ·split at h
   ·contradiction
   ·rename_i h1 _
    rcases List.mem_cons.1 hr with rfl | hr
    ·omega
    ·exact regE_good h r hr
theorem checkR_good {l : Lw} {R : List (List Snd)} {g : List Int} (h : checkR l R g = 0) : SGood l R ∧ ∀ r ∈ g, 0 ≤ r ∧ r < R.length := by
 unfold checkR at h
 split at h
 ·contradiction
 ·rename_i h1
  exact ⟨checkS_good.1 (by simpa using h1), regE_good h⟩
def voiceP (R : List (List Snd)) (n : Nat) (r : Int) : Snd := (R.getD r.toNat []).getD n ⟨0, 0, 0, 0⟩
def voicesP (R : List (List Snd)) (g : List Int) (n : Nat) : List Snd := g.map (voiceP R n)
theorem voiceP_at {LL : List LS} {x : List Snd} {B : Option Addr} {d rk n : Nat} {r : Int} {y : Snd} (h : LL[rk]? = some (x, B, d)) (hr : r = (rk : Nat)) (hy : x[n]? = some y) : voiceP (rowsOf LL) n r = y := by
 subst hr
 unfold voiceP
 rw [List.getD_eq_getElem?_getD (l := rowsOf LL), Int.toNat_natCast, List.getElem?_map, h]
 show x.getD n _ = y
 rw [List.getD_eq_getElem?_getD, hy]
 rfl
theorem voicesP_take {R : List (List Snd)} {g : List Int} {n k : Nat} {r : Int} (h : g[k]? = some r) : voicesP R (g.take (k + 1)) n = voicesP R (g.take k) n ++ [voiceP R n r] := by
 rw [List.take_add_one, h]
 simp [voicesP]
def VoicesPost (l : List Snd) (w : World) (e : Ending) (w' : World) : Prop := ∃ (A : Option Addr) (c : Nat) (I : List (Nat × BA)), e = .returned (.slice A l.length c) ∧ (∃ b o, ∀ (w : World) (ex : Nat → Prop), Sp w ex I A l.length 4 b o (sc l)) ∧ Mem w noEx w' I
theorem Tryz.info32 : (Tryz.prog.info? 32).map (fun i => (i.zero, i.size, i.bytes)) = some (some (.agg #[.int .i64 0, .int .i64 0, .int .i64 0, .int .i64 0]), 4, 32) := by kernel_rfl
def tremP (l : Lw) (R : List (List Snd)) (g : List Int) : List Int := (List.range (notesP R)).map fun (n : Nat) => keepsP l (l.first + l.step * (n : Int)) (voicesP R g n)
theorem notes_any (l : Lw) (A : Option Addr) (c : Nat) (LL : List LS)  (w : World) (hA : Rd w w.heap.size 1 A LL.length (lsC LL)) (hE : ElsS w LL) (nL : LL.length ≤ 1000000) (nE : ∀ x ∈ LL, x.1.length ≤ 1000000)  :
   Calls Tryz.prog 90 #[.agg #[.int .i64 l.first, .int .i64 l.step, .int .i64 l.span, .int .i64 l.press, .slice A LL.length c]] w fun e w' => e = .returned (.int .i64 ((notesP (rowsOf LL) : Nat) : Int)) ∧ Below w.heap.size w w' := by
 obtain ⟨bA, oA, SA⟩ := Sp.old hA
 refine Zpx noEx Tryz.func90 rfl 12 rfl [.agg #[.int .i64 l.first, .int .i64 l.step, .int .i64 l.span, .int .i64 l.press, .slice A LL.length c]] rfl rfl (Mem.init w _) ?_
 intro ac wc T M
 refine Zsr ?_
 refine Zl2 ?_
 refine Zob M T rfl rfl rfl rfl (T.e 0 rfl) rfl ?_; clear M T; intro g1 wc ac M T
 refine lq T (Zra rfl evc) ?_; clear T ac; intro ac T
 replace T := T.pick [1] rfl
 refine Zln ?_
 refine wp_seq ?_
 refine Zsr ?_
 refine Zg4 (v1 := (.pointer (some ⟨g1, 4, none⟩))) T (Zq (Zrf (off := 4) rfl (T.e 0 rfl) (fun _ _ _ => by kernel_rfl))) rfl (Zo M 0 0 rfl rfl rfl rfl) rfl (Zl Tryz.underlying62 0 rfl rfl) rfl (fun _ T => Zq (rn_eql rfl (T.e 0 rfl) evc)) rfl ?_; clear T ac; intro ac T
 replace T := T.pick [0, 4] rfl
 refine Zln ?_
 refine wp_if (T.e 0 rfl) ?_ ?_
 ·intro h1
  refine Zsr ?_
  refine lq T (Zra rfl evc) ?_; clear T ac; intro ac T
  refine wpList_nil ?_
  replace T := T.pick [0] rfl
  replace M := M.mask [false] rfl
  refine Znr ?_
  refine Zrt ?_
  refine rt_1 T rfl (T.e 0 rfl) ?_
  exact ⟨ret_int (by rw [List.eq_nil_of_length_eq_zero (l := LL) (by omega)]; rfl), M.below⟩
 intro h1
 obtain ⟨⟨x0, B0, d0⟩, hk0⟩ : ∃ x, LL[0]? = some x := ⟨_, List.getElem?_eq_getElem (by omega)⟩
 obtain ⟨bs0, os0, Ss0⟩ := Sp.old (hE _ (List.mem_of_getElem? hk0))
 dsimp only at Ss0
 have nx0 := nE _ (List.mem_of_getElem? hk0)
 dsimp only at nx0
 refine Zsk ?_
 refine Zsr ?_
 refine Zg6 (v1 := (.pointer (some ⟨g1, 4, none⟩))) (v4 := (.slice B0 x0.length d0)) T (Zq (Zrf (off := 4) rfl (T.e 1 rfl) (fun _ _ _ => by kernel_rfl))) rfl (Zo M 0 0 rfl rfl rfl rfl) rfl (fun _ T => Zq (Zri (size := 1) 0 rfl (T.e 0 rfl) evc ⟨_, Tryz.underlying62, by kernel_rfl⟩ rfl (by omega) (SA.at0 (by omega)))) rfl (fun _ T => Zq (rn_cell (Sp.ls0 SA M (Zz9 _) hk0) rfl (T.e 0 rfl))) rfl (Zl Tryz.underlying24 0 rfl rfl) rfl (Za 0 rfl rfl) rfl ?_; clear T ac; intro ac T
 refine wpList_nil ?_
 replace T := T.pick [0] rfl
 replace M := M.mask [false] rfl
 refine Znr ?_
 refine rt_1 T rfl (T.e 0 rfl) ?_
 exact ⟨ret_int (by rw [notesP_at hk0]), M.below⟩
theorem checkScale_any (l : Lw) (A : Option Addr) (c : Nat) (LL : List LS)  (w : World) (hA : Rd w w.heap.size 1 A LL.length (lsC LL)) (hE : ElsS w LL) (nL : LL.length ≤ 1000000) (nE : ∀ x ∈ LL, x.1.length ≤ 1000000)  :
   Calls Tryz.prog 43 #[.agg #[.int .i64 l.first, .int .i64 l.step, .int .i64 l.span, .int .i64 l.press, .slice A LL.length c]] w fun e w' => e = .returned (.int .i64 (checkS l (rowsOf LL))) ∧ Below w.heap.size w w' := by
 obtain ⟨bA, oA, SA⟩ := Sp.old hA
 refine Zpx noEx Tryz.func43 rfl 51 rfl [.agg #[.int .i64 l.first, .int .i64 l.step, .int .i64 l.span, .int .i64 l.press, .slice A LL.length c]] rfl rfl (Mem.init w _) ?_
 intro ac wc T M
 refine Zsr ?_
 refine Zl2 ?_
 refine Zob M T rfl rfl rfl rfl (T.e 0 rfl) rfl ?_; clear M T; intro g1 wc ac M T
 refine lq T (Zra rfl evc) ?_; clear T ac; intro ac T
 replace T := T.pick [1] rfl
 refine Zln ?_
 refine wp_seq ?_
 refine Zsr ?_
 refine Zg2 (v1 := (.pointer (some ⟨g1, 0, none⟩))) T (Zq (Zrf (off := 0) rfl (T.e 0 rfl) (fun _ _ _ => by kernel_rfl))) rfl (Zr M 0 0 rfl rfl rfl rfl) rfl ?_; clear T ac; intro ac T
 refine Zl2 ?_
 refine Zoc (first := []) (cap := []) T rfl rfl rfl rfl evf (.cons (T.e 0 rfl) .nil) Tryz.func69 rfl rfl ?_
 refine Calls.mono (checkLaw_any l _) ?_
 clear T; rintro e wc ⟨rfl, hb⟩ ac T
 replace M := M.call hb; clear hb
 refine lq T (Zra rfl (T.e 0 rfl)) ?_; clear T ac; intro ac T
 replace T := T.pick [0, 4] rfl
 refine Zln ?_
 refine Zsr ?_
 refine Zg2 T (Zq (Zrm rfl (T.e 0 rfl))) rfl (fun _ T => Zq (rn_neq rfl (T.e 0 rfl) evc)) rfl ?_; clear T ac; intro ac T
 replace T := T.pick [0, 2, 3] rfl
 refine Zln ?_
 refine wp_ifn (T.e 0 rfl) ?_ ?_
 ·intro h1
  refine Zsr ?_
  refine Zg2 T (Zq (Zrm rfl (T.e 1 rfl))) rfl (Za 0 rfl rfl) rfl ?_; clear T ac; intro ac T
  refine wpList_nil ?_
  replace T := T.pick [0] rfl
  replace M := M.mask [false] rfl
  refine Znr ?_
  refine Zrt ?_
  refine rt_1 T rfl (T.e 0 rfl) ?_
  refine ⟨ret_int ?_, M.below⟩
  unfold checkS
  rw [if_pos (by assumption)]
 intro h1
 have gl := lawE_good (l := l) (by simpa using h1)
 obtain ⟨gl1, gl2, gl3, gl4⟩ := gl
 refine Zsk ?_
 refine wp_seq ?_
 refine Zsr ?_
 refine Zg4 (v1 := (.pointer (some ⟨g1, 4, none⟩))) T (Zq (Zrf (off := 4) rfl (T.e 2 rfl) (fun _ _ _ => by kernel_rfl))) rfl (Zo M 0 0 rfl rfl rfl rfl) rfl (Zl Tryz.underlying62 0 rfl rfl) rfl (fun _ T => Zq (rn_gtr rfl (T.e 0 rfl) evc)) rfl ?_; clear T ac; intro ac T
 replace T := T.pick [0, 6] rfl
 refine Zln ?_
 refine wp_if (T.e 0 rfl) ?_ ?_
 ·intro h2
  refine Zsr ?_
  refine lq T (Zra rfl evc) ?_; clear T ac; intro ac T
  refine wpList_nil ?_
  replace T := T.pick [0] rfl
  replace M := M.mask [false] rfl
  refine Znr ?_
  refine Zrt ?_
  refine rt_1 T rfl (T.e 0 rfl) ?_
  refine ⟨ret_int ?_, M.below⟩
  unfold checkS
  rw [if_neg (by simp_all), if_pos (by simp; omega)]
 intro h2
 refine Zsk ?_
 refine wp_seq ?_
 refine Zsr ?_
 refine Zg4 (v1 := (.pointer (some ⟨g1, 4, none⟩))) T (Zq (Zrf (off := 4) rfl (T.e 1 rfl) (fun _ _ _ => by kernel_rfl))) rfl (Zo M 0 0 rfl rfl rfl rfl) rfl (Zl Tryz.underlying62 0 rfl rfl) rfl (fun _ T => Zq (Zrm rfl evc)) rfl ?_; clear T ac; intro ac T
 replace T := T.pick [0, 1, 2, 5] rfl
 refine Zln ?_
 refine wp_block ?_
 refine wp_loop_n (fun mz ac wc => ∃ (k : Nat), mz = LL.length - k ∧ (k ≤ LL.length) ∧ (rowsE (notesP (rowsOf LL)) (rowsOf LL) = rowsE (notesP (rowsOf LL)) (rowsOf (LL.drop k))) ∧ Tm ac 51 [(1, .pointer (some ⟨g1, 0, none⟩)), (19, .slice A LL.length c), (20, .int .i64 ((LL.length : Nat) : Int)), (21, .int .i64 (k : Int))] ∧ Mem w noEx wc [(g1, .cells [.int .i64 l.first, .int .i64 l.step, .int .i64 l.span, .int .i64 l.press, .slice A LL.length c])]) ?_ ?_
 ·exact ⟨_, 0, rfl, (by omega), rfl, T.pick [3, 2, 1, 0] rfl, M.mask [true] rfl⟩
 clear T M
 rintro mz ac wc ⟨k, hmm1, hk, H, T, M⟩
 refine Zsr ?_
 refine lq T (rn_lss rfl (T.e 3 rfl) (T.e 2 rfl)) ?_; clear T ac; intro ac T
 refine Zln ?_
 refine wp_seq ?_
 refine wp_if (T.e 0 rfl) ?_ ?_
 ·intro h3
  obtain ⟨⟨x1, B1, d1⟩, hk1⟩ : ∃ x, LL[k]? = some x := ⟨_, List.getElem?_eq_getElem (by omega)⟩
  obtain ⟨bs1, os1, Ss1⟩ := Sp.old (hE _ (List.mem_of_getElem? hk1))
  dsimp only at Ss1
  have nx1 := nE _ (List.mem_of_getElem? hk1)
  dsimp only at nx1
  have hdr : LL.drop k = (x1, B1, d1) :: LL.drop (k + 1) := by rw [List.drop_eq_getElem_cons (by omega)]; congr 1; rw [List.getElem?_eq_getElem (by omega)] at hk1; injection hk1
  have hdm : rowsOf (LL.drop k) = x1 :: rowsOf (LL.drop (k + 1)) := by rw [hdr]; rfl
  rw [hdm, rowsE] at H
  refine Zsk ?_
  refine wp_seq ?_
  refine wp_block ?_
  refine Zsr ?_
  refine Zg3 (v2 := (.slice B1 x1.length d1)) T (Zq (Zri (size := 1) k rfl (T.e 2 rfl) (T.e 4 rfl) ⟨_, Tryz.underlying62, by kernel_rfl⟩ rfl (by omega) (SA.at0 (by omega)))) rfl (fun _ T => Zq (rn_cell (Sp.ls0 SA M (Zz9 _) hk1) rfl (T.e 0 rfl))) rfl (Za 0 rfl rfl) rfl ?_; clear T ac; intro ac T
  replace T := T.pick [0, 4, 5, 6, 7] rfl
  refine Zln ?_
  refine wp_seq ?_
  refine Zsr ?_
  refine Zg3 T (Zq (Zrm rfl (T.e 0 rfl))) rfl (Zl Tryz.underlying24 0 rfl rfl) rfl (fun _ T => Zq (rn_gtr rfl (T.e 0 rfl) evc)) rfl ?_; clear T ac; intro ac T
  replace T := T.pick [0, 3, 4, 5, 6, 7] rfl
  refine Zln ?_
  refine wp_if (T.e 0 rfl) ?_ ?_
  ·intro h4
   refine Zsr ?_
   refine lq T (Zra rfl evc) ?_; clear T ac; intro ac T
   refine wpList_nil ?_
   replace T := T.pick [0] rfl
   replace M := M.mask [false] rfl
   refine Znr ?_
   refine Zrt ?_
   refine Zrb ?_
   refine Zrt ?_
   refine Zrt ?_
   refine Zrb ?_
   refine Zrt ?_
   refine rt_1 T rfl (T.e 0 rfl) ?_
   refine ⟨ret_int ?_, M.below⟩
   unfold checkS
   rw [if_pos (by omega)] at H
   rw [if_neg (by simp_all), if_neg (by simp; omega), H, if_pos (by first | omega | assumption)]
  intro h4
  refine Zsk ?_
  refine wp_seq ?_
  refine Zsr ?_
  refine Zg3 T (Zq (Zrm rfl (T.e 1 rfl))) rfl (Zl Tryz.underlying24 0 rfl rfl) rfl (Zr M 0 4 rfl rfl rfl rfl) rfl ?_; clear T ac; intro ac T
  refine Zl2 ?_
  refine Zoc (first := []) (cap := []) T rfl rfl rfl rfl evf (.cons (T.e 0 rfl) .nil) Tryz.func90 rfl rfl ?_
  refine Calls.mono (notes_any l A c LL _ (SA.rd M (Zz9 _)) (fun x hx => M.rd (hE x hx) (Nat.le_refl _)) (by omega) nE) ?_
  clear T; rintro e wc ⟨rfl, hb⟩ ac T
  replace M := M.call hb; clear hb
  refine lq T (rn_neq rfl (T.e 2 rfl) (T.e 0 rfl)) ?_; clear T ac; intro ac T
  replace T := T.pick [0, 6, 7, 8, 9, 10] rfl
  refine Zln ?_
  refine wp_ifn (T.e 0 rfl) ?_ ?_
  ·intro h5
   refine Zsr ?_
   refine lq T (Zra rfl evc) ?_; clear T ac; intro ac T
   refine wpList_nil ?_
   replace T := T.pick [0] rfl
   replace M := M.mask [false] rfl
   refine Znr ?_
   refine Zrt ?_
   refine Zrb ?_
   refine Zrt ?_
   refine Zrt ?_
   refine Zrb ?_
   refine Zrt ?_
   refine rt_1 T rfl (T.e 0 rfl) ?_
   refine ⟨ret_int ?_, M.below⟩
   unfold checkS
   rw [if_neg (by omega), if_pos (by omega)] at H
   rw [if_neg (by simp_all), if_neg (by simp; omega), H, if_pos (by first | omega | assumption)]
  intro h5
  refine Zsk ?_
  refine Zsr ?_
  refine lq T (Zrm rfl (T.e 1 rfl)) ?_; clear T ac; intro ac T
  refine Zl2 ?_
  refine Zoc (first := []) (cap := []) T rfl rfl rfl rfl evf (.cons (T.e 0 rfl) (.cons evc .nil)) Tryz.func82 rfl rfl ?_
  refine Calls.mono (checkSounds_any _ _ _ x1 6 _ (Ss1.rd M (Zz9 _)) (by first | omega | (simp only [List.length_cons, List.length_nil]; omega))) ?_
  clear T; rintro e wc ⟨rfl, hb⟩ ac T
  replace M := M.call hb; clear hb
  refine lq T (Zra rfl (T.e 0 rfl)) ?_; clear T ac; intro ac T
  replace T := T.pick [0, 5, 6, 7, 8] rfl
  refine Zln ?_
  refine Zsr ?_
  refine Zg2 T (Zq (Zrm rfl (T.e 0 rfl))) rfl (fun _ T => Zq (rn_neq rfl (T.e 0 rfl) evc)) rfl ?_; clear T ac; intro ac T
  replace T := T.pick [0, 2, 3, 4, 5, 6] rfl
  refine Zln ?_
  refine wp_ifn (T.e 0 rfl) ?_ ?_
  ·intro h6
   refine Zsr ?_
   refine Zg2 T (Zq (Zrm rfl (T.e 1 rfl))) rfl (Za 0 rfl rfl) rfl ?_; clear T ac; intro ac T
   refine wpList_nil ?_
   replace T := T.pick [0] rfl
   replace M := M.mask [false] rfl
   refine Znr ?_
   refine Zrb ?_
   refine Zrt ?_
   refine Zrt ?_
   refine Zrb ?_
   refine Zrt ?_
   refine rt_1 T rfl (T.e 0 rfl) ?_
   refine ⟨ret_int ?_, M.below⟩
   unfold checkS
   rw [if_neg (by omega), if_neg (by omega), if_pos (by assumption)] at H
   rw [if_neg (by simp_all), if_neg (by simp; omega), H, if_pos (by first | omega | assumption)]
  intro h6
  refine wp_skip ?_
  refine Znb ?_
  refine nm_then ?_
  refine wp_region_lit ?_
  refine lq T (rn_add rfl (T.e 5 rfl) evc (by omega)) ?_; clear T ac; intro ac T
  refine l_q (v := (.int .i64 ((k : Int) + 1))) (T.pick [0, 1, 2, 3, 4, 5] rfl) rfl rfl rfl rfl (Zrm rfl (T.e 0 rfl)) ?_; clear T ac; intro ac T
  replace T := T.pick [0, 4, 5, 6] rfl
  refine Zln ?_
  exact ⟨_, by omega, k + 1, rfl, (by omega), (by rw [if_neg (by omega), if_neg (by omega), if_neg (by simp_all)] at H; exact H), T.pick [1, 2, 3, 0] rfl, M.mask [true] rfl⟩
 intro h3
 have hdm : rowsOf (LL.drop k) = [] := by rw [List.drop_of_length_le (by omega)]; rfl
 rw [hdm, rowsE] at H
 have hgr := rowsE_good H
 have hn6 : notesP (rowsOf LL) ≤ 6 := by cases LL with | nil => simp [notesP] | cons a r => exact (hgr a.1 (by simp)).1
 refine wp_exit ?_
 refine Zet ?_
 refine Zet ?_
 refine ex_hit ?_
 refine Zns ?_
 refine Zsr ?_
 refine lq T (Zrr (Mem.nth M 0 rfl) rfl (T.e 1 rfl) rfl) ?_; clear T ac; intro ac T
 refine Zl2 ?_
 refine Zoc (first := []) (cap := []) T rfl rfl rfl rfl evf (.cons (T.e 0 rfl) .nil) Tryz.func90 rfl rfl ?_
 refine Calls.mono (notes_any l A c LL _ (SA.rd M (Zz9 _)) (fun x hx => M.rd (hE x hx) (Nat.le_refl _)) (by omega) nE) ?_
 clear T; rintro e wc ⟨rfl, hb⟩ ac T
 replace M := M.call hb; clear hb
 refine lq T (Zrm rfl evc) ?_; clear T ac; intro ac T
 replace T := T.pick [0, 1, 4] rfl
 refine Zln ?_
 refine wp_block ?_
 refine wp_loop_n (fun mz ac wc => ∃ (k : Nat), mz = notesP (rowsOf LL) - k ∧ (k ≤ notesP (rowsOf LL)) ∧ ((List.range k).all (dueO l) = true) ∧ Tm ac 51 [(1, .pointer (some ⟨g1, 0, none⟩)), (40, .int .i64 ((notesP (rowsOf LL) : Nat) : Int)), (41, .int .i64 (k : Int))] ∧ Mem w noEx wc [(g1, .cells [.int .i64 l.first, .int .i64 l.step, .int .i64 l.span, .int .i64 l.press, .slice A LL.length c])]) ?_ ?_
 ·exact ⟨_, 0, rfl, (Nat.zero_le _), rfl, T.pick [2, 1, 0] rfl, M.mask [true] rfl⟩
 clear T M
 rintro mz ac wc ⟨k, hmm2, hk, H2, T, M⟩
 refine Zsr ?_
 refine lq T (rn_lss rfl (T.e 2 rfl) (T.e 1 rfl)) ?_; clear T ac; intro ac T
 refine Zln ?_
 refine wp_seq ?_
 refine wp_if (T.e 0 rfl) ?_ ?_
 ·intro h7
  refine Zsk ?_
  refine wp_seq ?_
  refine wp_block ?_
  refine Zsr ?_
  refine Zg2 T (Zq (Zrm rfl (T.e 3 rfl))) rfl (Za 0 rfl rfl) rfl ?_; clear T ac; intro ac T
  replace T := T.pick [0, 3, 4, 5] rfl
  refine Zln ?_
  refine Zsr ?_
  refine Zg3 (v1 := (.pointer (some ⟨g1, 0, none⟩))) T (Zq (Zrf (off := 0) rfl (T.e 1 rfl) (fun _ _ _ => by kernel_rfl))) rfl (Zr M 0 0 rfl rfl rfl rfl) rfl (Zm 2 rfl rfl) rfl ?_; clear T ac; intro ac T
  refine Zl2 ?_
  refine Zoc (first := []) (cap := []) T rfl rfl rfl rfl evf (.cons (T.e 1 rfl) (.cons (T.e 0 rfl) .nil)) Tryz.func71 rfl rfl ?_
  refine Calls.mono (vdue_any l (k : Int) _ (by (try dsimp only); omega) (by (try dsimp only); omega) (by (try dsimp only); omega)) ?_
  clear T; rintro e wc ⟨rfl, hb⟩ ac T
  replace M := M.call hb; clear hb
  refine Zl2 ?_
  refine Zoc (first := []) (cap := []) T rfl rfl rfl rfl evf (.cons (T.e 0 rfl) (.cons evc (.cons evc .nil))) Tryz.func70 rfl rfl ?_
  refine Calls.mono (vwithin_any (l.first + l.step * (k : Int)) 0 30 _) ?_
  clear T; rintro e wc ⟨rfl, hb⟩ ac T
  replace M := M.call hb; clear hb
  refine lq T (rn_not rfl (T.e 0 rfl)) ?_; clear T ac; intro ac T
  replace T := T.pick [0, 7, 8, 9] rfl
  refine Zln ?_
  refine wp_cond_split (T.e 0 rfl) ?_ ?_
  ·intro h8
   (have h8' := h8; try simp only [Zb1, Zb2, Zb3, Zb4, Zb5, Zb6, Zb7] at h8')
   refine Zsr ?_
   refine lq T (Zra rfl evc) ?_; clear T ac; intro ac T
   refine wpList_nil ?_
   replace T := T.pick [0] rfl
   replace M := M.mask [false] rfl
   refine Znr ?_
   refine Zrb ?_
   refine Zrt ?_
   refine Zrt ?_
   refine Zrb ?_
   refine Zrt ?_
   refine rt_1 T rfl (T.e 0 rfl) ?_
   refine ⟨ret_int ?_, M.below⟩
   unfold checkS
   rw [if_neg (by simp_all), if_neg (by simp; omega), H, if_neg (by omega), if_neg]
   intro k9
   have k8 := List.all_eq_true.1 k9 k (List.mem_range.2 (by omega))
   simp only [dueO, decide_eq_true_eq] at k8
   exact absurd h8 (by simp [withinB, k8])
  intro h8
  (have h8' := h8; try simp only [Zb1, Zb2, Zb3, Zb4, Zb5, Zb6, Zb7] at h8')
  refine wp_skip ?_
  refine Znb ?_
  refine nm_then ?_
  refine wp_region_lit ?_
  refine lq T (rn_add rfl (T.e 3 rfl) evc (by omega)) ?_; clear T ac; intro ac T
  refine l_q (v := (.int .i64 ((k : Int) + 1))) (T.pick [0, 1, 2, 3] rfl) rfl rfl rfl rfl (Zrm rfl (T.e 0 rfl)) ?_; clear T ac; intro ac T
  replace T := T.pick [0, 3, 4] rfl
  refine Zln ?_
  exact ⟨_, by omega, k + 1, rfl, (by omega), (by rw [List.range_succ, List.all_append, H2]; simp only [List.all_cons, List.all_nil, Bool.true_and, Bool.and_true]; simpa [withinB, dueO] using h8), T.pick [1, 2, 0] rfl, M.mask [true] rfl⟩
 intro h7
 refine wp_exit ?_
 refine Zet ?_
 refine Zet ?_
 refine ex_hit ?_
 refine nm_then ?_
 refine Zsr ?_
 refine lq T (Zra rfl evc) ?_; clear T ac; intro ac T
 refine wpList_nil ?_
 replace T := T.pick [0] rfl
 replace M := M.mask [false] rfl
 refine Znr ?_
 refine rt_1 T rfl (T.e 0 rfl) ?_
 refine ⟨ret_int ?_, M.below⟩
 unfold checkS
 obtain rfl : k = notesP (rowsOf LL) := by omega
 rw [if_neg (by simp_all), if_neg (by simp; omega), H, if_neg (by omega), if_pos H2]
theorem checkRegister_any (l : Lw) (A : Option Addr) (c : Nat) (LL : List LS) (G : Option Addr) (d : Nat) (g : List Int)  (w : World) (hA : Rd w w.heap.size 1 A LL.length (lsC LL)) (hE : ElsS w LL) (nL : LL.length ≤ 1000000) (nE : ∀ x ∈ LL, x.1.length ≤ 1000000) (hG : Rd w w.heap.size 1 G g.length (ic g)) (nG : g.length ≤ 1000000)  :
   Calls Tryz.prog 89 #[.agg #[.int .i64 l.first, .int .i64 l.step, .int .i64 l.span, .int .i64 l.press, .slice A LL.length c], .slice G g.length d] w fun e w' => e = .returned (.int .i64 (checkR l (rowsOf LL) g)) ∧ Below w.heap.size w w' := by
 obtain ⟨bA, oA, SA⟩ := Sp.old hA
 obtain ⟨bG, oG, SG⟩ := Sp.old hG
 refine Zpx noEx Tryz.func89 rfl 41 rfl [.agg #[.int .i64 l.first, .int .i64 l.step, .int .i64 l.span, .int .i64 l.press, .slice A LL.length c], .slice G g.length d] rfl rfl (Mem.init w _) ?_
 intro ac wc T M
 refine Zsr ?_
 refine Zl2 ?_
 refine Zob M T rfl rfl rfl rfl (T.e 0 rfl) rfl ?_; clear M T; intro g1 wc ac M T
 refine lq T (Zra rfl evc) ?_; clear T ac; intro ac T
 replace T := T.pick [1, 3] rfl
 refine Zln ?_
 refine wp_seq ?_
 refine Zsr ?_
 refine lq T (Zrr (Mem.nth M 0 rfl) rfl (T.e 0 rfl) rfl) ?_; clear T ac; intro ac T
 refine Zl2 ?_
 refine Zoc (first := []) (cap := []) T rfl rfl rfl rfl evf (.cons (T.e 0 rfl) .nil) Tryz.func43 rfl rfl ?_
 refine Calls.mono (checkScale_any l A c LL _ (SA.rd M (Zz9 _)) (fun x hx => M.rd (hE x hx) (Nat.le_refl _)) (by omega) nE) ?_
 clear T; rintro e wc ⟨rfl, hb⟩ ac T
 replace M := M.call hb; clear hb
 refine lq T (Zra rfl (T.e 0 rfl)) ?_; clear T ac; intro ac T
 replace T := T.pick [0, 3, 4] rfl
 refine Zln ?_
 refine Zsr ?_
 refine Zg2 T (Zq (Zrm rfl (T.e 0 rfl))) rfl (fun _ T => Zq (rn_neq rfl (T.e 0 rfl) evc)) rfl ?_; clear T ac; intro ac T
 replace T := T.pick [0, 2, 3, 4] rfl
 refine Zln ?_
 refine wp_ifn (T.e 0 rfl) ?_ ?_
 ·intro h1
  refine Zsr ?_
  refine Zg2 T (Zq (Zrm rfl (T.e 1 rfl))) rfl (Za 0 rfl rfl) rfl ?_; clear T ac; intro ac T
  refine wpList_nil ?_
  replace T := T.pick [0] rfl
  replace M := M.mask [false] rfl
  refine Znr ?_
  refine Zrt ?_
  refine rt_1 T rfl (T.e 0 rfl) ?_
  refine ⟨ret_int ?_, M.below⟩
  unfold checkR
  rw [if_pos (by assumption)]
 intro h1
 have hl0 : (rowsOf LL).length = LL.length := by simp
 rw [hl0] at *
 refine Zsk ?_
 refine wp_seq ?_
 refine Zsr ?_
 refine Zg3 T (Zq (Zrm rfl (T.e 3 rfl))) rfl (Zl Tryz.underlying33 0 rfl rfl) rfl (fun _ T => Zq (Zrm rfl evc)) rfl ?_; clear T ac; intro ac T
 replace T := T.pick [0, 1, 2, 5, 6] rfl
 refine Zln ?_
 refine wp_block ?_
 refine wp_loop_n (fun mz ac wc => ∃ (i : Nat), mz = g.length - i ∧ (i ≤ g.length) ∧ (regE (rowsOf LL).length none g = regE (rowsOf LL).length (prevO g i) (g.drop i)) ∧ Tm ac 41 [(1, .slice G g.length d), (2, .pointer (some ⟨g1, 0, none⟩)), (13, .slice G g.length d), (14, .int .i64 ((g.length : Nat) : Int)), (15, .int .i64 (i : Int))] ∧ Mem w noEx wc [(g1, .cells [.int .i64 l.first, .int .i64 l.step, .int .i64 l.span, .int .i64 l.press, .slice A LL.length c])]) ?_ ?_
 ·exact ⟨_, 0, rfl, (by omega), rfl, T.pick [4, 3, 2, 1, 0] rfl, M.mask [true] rfl⟩
 clear T M
 rintro mz ac wc ⟨i, hmm1, hi, H, T, M⟩
 refine Zsr ?_
 refine lq T (rn_lss rfl (T.e 4 rfl) (T.e 3 rfl)) ?_; clear T ac; intro ac T
 refine Zln ?_
 refine wp_seq ?_
 refine wp_if (T.e 0 rfl) ?_ ?_
 ·intro h2
  obtain ⟨r, hkr, hdr⟩ := ic_next (l := g) (k := i) (by omega)
  obtain ⟨rp, hrp⟩ : ∃ q, q = g.getD (i - 1) 0 := ⟨_, rfl⟩
  have hpv : leO (prevO g i) r = (decide (0 < (i : Int)) && decide (r ≤ rp)) := prevO_le hi hrp
  rw [hdr, regE, hpv] at H
  refine Zsk ?_
  refine wp_seq ?_
  refine wp_block ?_
  refine Zsr ?_
  refine Zg5 T (Zq (Zrm rfl (T.e 5 rfl))) rfl (fun _ T => Zq (Zri (size := 1) i rfl (T.e 4 rfl) (T.e 6 rfl) ⟨_, Tryz.underlying33, by kernel_rfl⟩ rfl (by omega) (SG.at0 (by omega)))) rfl (fun _ T => Zq (rn_cell (Sp.ic0 SG M (Zz9 _) hkr) rfl (T.e 0 rfl))) rfl (Za 2 rfl rfl) rfl (Za 1 rfl rfl) rfl ?_; clear T ac; intro ac T
  replace T := T.pick [0, 1, 6, 7, 8, 9, 10] rfl
  refine Zln ?_
  refine wp_block ?_
  refine Zsr ?_
  refine Zg5 (v2 := (.pointer (some ⟨g1, 4, none⟩))) T (Zq (Zrm rfl (T.e 0 rfl))) rfl (Zf 4 4 rfl rfl) rfl (Zo M 0 0 rfl rfl rfl rfl) rfl (Zl Tryz.underlying62 0 rfl rfl) rfl (fun _ T => Zq (rn_sub rfl (T.e 0 rfl) evc (by omega))) rfl ?_; clear T ac; intro ac T
  refine Zl2 ?_
  refine Zoc (first := []) (cap := []) T rfl rfl rfl rfl evf (.cons (T.e 4 rfl) (.cons evc (.cons (T.e 0 rfl) .nil))) Tryz.func70 rfl rfl ?_
  refine Calls.mono (vwithin_any r 0 (((LL.length : Nat) : Int) - 1) _) ?_
  clear T; rintro e wc ⟨rfl, hb⟩ ac T
  replace M := M.call hb; clear hb
  refine Zg2 T (Zq (rn_not rfl (T.e 0 rfl))) rfl (Za 0 rfl rfl) rfl ?_; clear T ac; intro ac T
  replace T := T.pick [0, 8, 9, 10, 11, 12, 13, 14] rfl
  refine Zln ?_
  refine wp_cond_split (T.e 0 rfl) ?_ ?_
  ·intro h3
   (have h3' := h3; try simp only [Zb1, Zb2, Zb3, Zb4, Zb5, Zb6, Zb7] at h3')
   refine Zsr ?_
   refine lq T (Zra rfl evc) ?_; clear T ac; intro ac T
   refine wpList_nil ?_
   replace T := T.pick [0] rfl
   replace M := M.mask [false] rfl
   refine Znr ?_
   refine Zrb ?_
   refine Zrb ?_
   refine Zrt ?_
   refine Zrt ?_
   refine Zrb ?_
   refine Zrt ?_
   refine rt_1 T rfl (T.e 0 rfl) ?_
   refine ⟨ret_int ?_, M.below⟩
   unfold checkR
   rw [if_pos (by simp_all [withinB])] at H
   rw [if_neg (by simp_all), H]
  intro h3
  (have h3' := h3; try simp only [Zb1, Zb2, Zb3, Zb4, Zb5, Zb6, Zb7] at h3')
  refine cut_seq (fun ac wc => Tm ac 41 [(1, .slice G g.length d), (2, .pointer (some ⟨g1, 0, none⟩)), (13, .slice G g.length d), (14, .int .i64 ((g.length : Nat) : Int)), (15, .int .i64 (i : Int)), (28, .bool ((decide (0 < (i : Int))) && (decide (r ≤ rp))))] ∧ Mem w noEx wc [(g1, .cells [.int .i64 l.first, .int .i64 l.step, .int .i64 l.span, .int .i64 l.press, .slice A LL.length c])]) ?_ ?_
  ·refine wp_region_lit ?_
   refine Zg3 T (Zq (Zrm rfl (T.e 2 rfl))) rfl (fun _ T => Zq (rn_gtr rfl (T.e 0 rfl) evc)) rfl (Zm 0 rfl rfl) rfl ?_; clear T ac; intro ac T
   rcases Bool.eq_false_or_eq_true (decide (0 < (i : Int))) with h4 | h4
   ·replace h4 := of_decide_eq_true h4
    obtain ⟨i1, hi1⟩ : ∃ q : Nat, (i : Int) - 1 = (q : Int) := ⟨i - 1, by omega⟩
    have hkp : g[i1]? = some rp := by rw [hrp, show i - 1 = i1 by omega, List.getD_eq_getElem?_getD, List.getElem?_eq_getElem (by omega)]; rfl
    refine Zg8 T (Zw (Zwy rfl rfl (T.e 0 rfl) (Zdt h4)) (Zrm rfl (T.e 4 rfl))) rfl (fun _ T => Zw (Zwy rfl rfl (T.e 1 rfl) (Zdt h4)) (Zrm rfl (T.e 7 rfl))) rfl (fun _ T => Zw (Zwy rfl rfl (T.e 2 rfl) (Zdt h4)) (Zrm rfl (T.e 7 rfl))) rfl (fun _ T => Zw (Zwy rfl rfl (T.e 3 rfl) (Zdt h4)) (rn_sub rfl (T.e 0 rfl) evc (by omega))) rfl (fun _ T => Zw (Zwy rfl rfl (T.e 4 rfl) (Zdt h4)) (Zri (size := 1) i1 rfl (T.e 2 rfl) (T.e 0 rfl) ⟨_, Tryz.underlying33, by kernel_rfl⟩ hi1 (by omega) (SG.at0 (by omega)))) rfl (fun _ T => Zw (Zwy rfl rfl (T.e 5 rfl) (Zdt h4)) (rn_cell (Sp.ic0 SG M (Zz9 _) hkp) rfl (T.e 0 rfl))) rfl (fun _ T => Zw (Zwy rfl rfl (T.e 6 rfl) (Zdt h4)) (rn_leq rfl (T.e 5 rfl) (T.e 0 rfl))) rfl (fun _ T => Zq (Zr1 rfl (T.e 7 rfl) (Zdt h4) (T.e 0 rfl))) rfl ?_; clear T ac; intro ac T
    refine lq T (Zra rfl (T.e 0 rfl)) ?_; clear T ac; intro ac T
    refine wpList_nil ?_
    replace T := T.pick [0, 2, 3, 4, 5, 6, 7, 8, 15, 16, 17, 18, 19] rfl
    exact ⟨(T.pick (E' := [(1, .slice G g.length d), (2, .pointer (some ⟨g1, 0, none⟩)), (13, .slice G g.length d), (14, .int .i64 ((g.length : Nat) : Int)), (15, .int .i64 (i : Int)), (28, .bool (decide (r ≤ rp)))]) [8, 9, 10, 11, 12, 0] rfl).as (by (try rw [show (decide (0 < (i : Int))) = true from (Zdt h4)]); (try rfl)), M.mask [true] rfl⟩
   replace h4 := of_decide_eq_false h4
   refine Zg8 T (Zp (Zwn rfl rfl (T.e 0 rfl) (Zdf h4))) rfl (fun _ T => Zp (Zwn rfl rfl (T.e 1 rfl) (Zdf h4))) rfl (fun _ T => Zp (Zwn rfl rfl (T.e 2 rfl) (Zdf h4))) rfl (fun _ T => Zp (Zwn rfl rfl (T.e 3 rfl) (Zdf h4))) rfl (fun _ T => Zp (Zwn rfl rfl (T.e 4 rfl) (Zdf h4))) rfl (fun _ T => Zp (Zwn rfl rfl (T.e 5 rfl) (Zdf h4))) rfl (fun _ T => Zp (Zwn rfl rfl (T.e 6 rfl) (Zdf h4))) rfl (fun _ T => Zq (Zr0 rfl (T.e 7 rfl) (Zdf h4) evc)) rfl ?_; clear T ac; intro ac T
   refine lq T (Zra rfl (T.e 0 rfl)) ?_; clear T ac; intro ac T
   refine wpList_nil ?_
   replace T := T.pick [0, 2, 3, 4, 5, 6, 7, 8, 15, 16, 17, 18, 19] rfl
   exact ⟨(T.pick (E' := [(1, .slice G g.length d), (2, .pointer (some ⟨g1, 0, none⟩)), (13, .slice G g.length d), (14, .int .i64 ((g.length : Nat) : Int)), (15, .int .i64 (i : Int)), (28, .bool false)]) [8, 9, 10, 11, 12, 0] rfl).as (by (try rw [show (decide (0 < (i : Int))) = false from (Zdf h4)]); (try rfl)), M.mask [true] rfl⟩
  clear T M
  rintro ac wc ⟨T, M⟩
  refine wp_cond_split (T.e 5 rfl) ?_ ?_
  ·intro h5
   (have h5' := h5; try simp only [Zb1, Zb2, Zb3, Zb4, Zb5, Zb6, Zb7] at h5')
   refine Zsr ?_
   refine lq T (Zra rfl evc) ?_; clear T ac; intro ac T
   refine wpList_nil ?_
   replace T := T.pick [0] rfl
   replace M := M.mask [false] rfl
   refine Znr ?_
   refine Zrb ?_
   refine Zrb ?_
   refine Zrt ?_
   refine Zrt ?_
   refine Zrb ?_
   refine Zrt ?_
   refine rt_1 T rfl (T.e 0 rfl) ?_
   refine ⟨ret_int ?_, M.below⟩
   unfold checkR
   rw [if_neg (by simp_all [withinB]), if_pos (by assumption)] at H
   rw [if_neg (by simp_all), H]
  intro h5
  (have h5' := h5; try simp only [Zb1, Zb2, Zb3, Zb4, Zb5, Zb6, Zb7] at h5')
  refine wp_skip ?_
  refine Znb ?_
  refine Znb ?_
  refine nm_then ?_
  refine wp_region_lit ?_
  refine lq T (rn_add rfl (T.e 4 rfl) evc (by omega)) ?_; clear T ac; intro ac T
  refine l_q (v := (.int .i64 ((i : Int) + 1))) (T.pick [0, 1, 2, 3, 4, 6] rfl) rfl rfl rfl rfl (Zrm rfl (T.e 0 rfl)) ?_; clear T ac; intro ac T
  replace T := T.pick [0, 2, 3, 4, 5] rfl
  refine Zln ?_
  exact ⟨_, by omega, i + 1, rfl, (by omega), (by rw [if_neg (by simp_all [withinB]), if_neg (by rw [h5]; simp)] at H; rw [H, prevO, if_neg (by omega), Nat.add_sub_cancel, hkr]), T.pick [1, 2, 3, 4, 0] rfl, M.mask [true] rfl⟩
 intro h2
 rw [List.drop_of_length_le (by omega), regE] at H
 refine wp_exit ?_
 refine Zet ?_
 refine Zet ?_
 refine ex_hit ?_
 refine nm_then ?_
 refine Zsr ?_
 refine lq T (Zra rfl evc) ?_; clear T ac; intro ac T
 refine wpList_nil ?_
 replace T := T.pick [0] rfl
 replace M := M.mask [false] rfl
 refine Znr ?_
 refine rt_1 T rfl (T.e 0 rfl) ?_
 refine ⟨ret_int ?_, M.below⟩
 unfold checkR
 rw [if_neg (by simp_all), H]
theorem voiceP_in {R : List (List Snd)} {r : Int} {n : Nat} (hr : 0 ≤ r ∧ r < R.length) (hn : ∀ x ∈ R, n < x.length) : ∃ x ∈ R, voiceP R n r ∈ x := by
 have h1 : r.toNat < R.length := by omega
 have hm : R[r.toNat] ∈ R := List.getElem_mem _
 refine ⟨R[r.toNat], hm, ?_⟩
 unfold voiceP
 rw [List.getD_eq_getElem?_getD (l := R), List.getElem?_eq_getElem h1]
 show (R[r.toNat]).getD n _ ∈ _
 rw [List.getD_eq_getElem?_getD, List.getElem?_eq_getElem (hn _ hm)]
 exact List.getElem_mem _
theorem voicesP_good {l : Lw} {R : List (List Snd)} {g : List Int} {n : Nat} (gS : SGood l R) (hg : ∀ r ∈ g, 0 ≤ r ∧ r < R.length) (hn : n < notesP R) : ∀ z ∈ voicesP R g n, z.good := fun z hz => by
 obtain ⟨r, hr, rfl⟩ := List.mem_map.1 hz
 obtain ⟨x, hx, hv⟩ := voiceP_in (n := n) (hg r hr) (fun x hx => by rw [(gS.rows x hx).2.1]; exact hn)
 exact (gS.rows x hx).2.2 _ hv
theorem tremP_take {l : Lw} {R : List (List Snd)} {g : List Int} {k : Nat} (hk : k < notesP R) : (tremP l R g).take (k + 1) = (tremP l R g).take k ++ [keepsP l (l.first + l.step * (k : Int)) (voicesP R g k)] := by
 unfold tremP
 rw [List.take_add_one, List.getElem?_map, List.getElem?_range hk]
 rfl
theorem tremP_length (l : Lw) (R : List (List Snd)) (g : List Int) : (tremP l R g).length = notesP R := by simp [tremP]
def tremE (l : Lw) (R : List (List Snd)) (g : List Int) : List Int × Int := if checkR l R g = 0 then (tremP l R g, 0) else ([], checkR l R g)
theorem voices_any (l : Lw) (A : Option Addr) (c : Nat) (LL : List LS) (G : Option Addr) (d : Nat) (g : List Int) (nt : Nat) (w : World) (hA : Rd w w.heap.size 1 A LL.length (lsC LL)) (hE : ElsS w LL) (nL : LL.length ≤ 1000000) (nE : ∀ x ∈ LL, x.1.length ≤ 1000000) (hG : Rd w w.heap.size 1 G g.length (ic g)) (nG : g.length ≤ 1000000) (hg : ∀ r ∈ g, 0 ≤ r ∧ r < LL.length) (hn : ∀ x ∈ LL, nt < x.1.length) :
   Calls Tryz.prog 91 #[.agg #[.int .i64 l.first, .int .i64 l.step, .int .i64 l.span, .int .i64 l.press, .slice A LL.length c, .slice G g.length d], .int .i64 (nt : Int)] w (VoicesPost (voicesP (rowsOf LL) g nt) w) := by
 obtain ⟨bA, oA, SA⟩ := Sp.old hA
 obtain ⟨bG, oG, SG⟩ := Sp.old hG
 refine Zpx noEx Tryz.func91 rfl 29 rfl [.agg #[.int .i64 l.first, .int .i64 l.step, .int .i64 l.span, .int .i64 l.press, .slice A LL.length c, .slice G g.length d], .int .i64 (nt : Int)] rfl rfl (Mem.init w _) ?_
 intro ac wc T M
 refine Zsr ?_
 refine Zl2 ?_
 refine Zob M T rfl rfl rfl rfl (T.e 0 rfl) rfl ?_; clear M T; intro g1 wc ac M T
 refine lq T (Zra rfl evc) ?_; clear T ac; intro ac T
 replace T := T.pick [1, 3] rfl
 refine Zln ?_
 refine Zsr ?_
 refine lq T (Zra rfl evc) ?_; clear T ac; intro ac T
 refine Zln ?_
 refine wp_seq ?_
 refine Zsr ?_
 refine Zg4 (v1 := (.pointer (some ⟨g1, 5, none⟩))) T (Zq (Zrf (off := 5) rfl (T.e 1 rfl) (fun _ _ _ => by kernel_rfl))) rfl (Zo M 0 0 rfl rfl rfl rfl) rfl (Zl Tryz.underlying33 0 rfl rfl) rfl (fun _ T => Zq (Zrm rfl evc)) rfl ?_; clear T ac; intro ac T
 replace T := T.pick [0, 1, 2, 4, 5, 6] rfl
 refine Zln ?_
 refine wp_block ?_
 refine wp_loop_n (fun mz ac wc => ∃ (k : Nat) (OL : List Snd) (A3 : Option Addr) (c3 : Nat) (Io : List (Nat × BA)), mz = g.length - k ∧ (k ≤ g.length) ∧ (OL = voicesP (rowsOf LL) (g.take k) nt) ∧ (OL.length = k) ∧ (Sl 32 4 (.slice A3 OL.length c3) OL.length (sc OL) Io) ∧ Tm ac 29 [(1, .int .i64 (nt : Int)), (2, .pointer (some ⟨g1, 0, none⟩)), (5, .slice A3 OL.length c3), (9, .slice G g.length d), (10, .int .i64 ((g.length : Nat) : Int)), (11, .int .i64 (k : Int))] ∧ Mem w noEx wc ((g1, .cells [.int .i64 l.first, .int .i64 l.step, .int .i64 l.span, .int .i64 l.press, .slice A LL.length c, .slice G g.length d]) :: Io)) ?_ ?_
 ·exact ⟨_, 0, [], none, 0, [], rfl, (Nat.zero_le _), rfl, rfl, (Sl.nil _ _), T.pick [5, 4, 3, 2, 1, 0] rfl, M.mask [true] rfl⟩
 clear T M
 rintro mz ac wc ⟨k, OL, A3, c3, Io, hmm1, hk, hO, hOl, hsl, T, M⟩
 refine Zsr ?_
 refine lq T (rn_lss rfl (T.e 5 rfl) (T.e 4 rfl)) ?_; clear T ac; intro ac T
 refine Zln ?_
 refine wp_seq ?_
 refine wp_if (T.e 0 rfl) ?_ ?_
 ·intro h1
  obtain ⟨r, hkr, -⟩ := ic_next (l := g) (k := k) (by omega)
  have hrb := hg r (List.mem_of_getElem? hkr)
  obtain ⟨rk, hrk⟩ : ∃ q : Nat, r = (q : Int) := ⟨r.toNat, by omega⟩
  obtain ⟨⟨x1, B1, d1⟩, hk1⟩ : ∃ x, LL[rk]? = some x := ⟨_, List.getElem?_eq_getElem (by omega)⟩
  obtain ⟨bs1, os1, Ss1⟩ := Sp.old (hE _ (List.mem_of_getElem? hk1))
  dsimp only at Ss1
  have nx1 := nE _ (List.mem_of_getElem? hk1)
  dsimp only at nx1
  have hnt := hn _ (List.mem_of_getElem? hk1)
  dsimp only at hnt
  obtain ⟨y, hky, -⟩ := sc_next (l := x1) (k := nt) hnt
  have hvp := voiceP_at hk1 hrk hky
  refine Zsk ?_
  refine wp_seq ?_
  refine wp_block ?_
  refine Zsr ?_
  refine Zg3 T (Zq (Zri (size := 1) k rfl (T.e 4 rfl) (T.e 6 rfl) ⟨_, Tryz.underlying33, by kernel_rfl⟩ rfl (by omega) (SG.at0 (by omega)))) rfl (fun _ T => Zq (rn_cell (Sp.ic0 SG M (Zz9 _) hkr) rfl (T.e 0 rfl))) rfl (Za 0 rfl rfl) rfl ?_; clear T ac; intro ac T
  replace T := T.pick [0, 4, 5, 6, 7, 8, 9] rfl
  refine Zln ?_
  refine wp_region_lit ?_
  refine Zg8 (v2 := (.pointer (some ⟨g1, 0, none⟩))) (v3 := (.pointer (some ⟨g1, 4, none⟩))) (v7 := (.slice B1 x1.length d1)) T (Zq (Zrm rfl (T.e 3 rfl))) rfl (Zf 0 3 rfl rfl) rfl (Zf 4 0 rfl rfl) rfl (Zo M 0 0 rfl rfl rfl rfl) rfl (Zm 4 rfl rfl) rfl (fun _ T => Zq (Zri (size := 1) rk rfl (T.e 1 rfl) (T.e 0 rfl) ⟨_, Tryz.underlying62, by kernel_rfl⟩ hrk (by omega) (SA.at0 (by omega)))) rfl (fun _ T => Zq (rn_cell (Sp.ls0 SA M (Zz9 _) hk1) rfl (T.e 0 rfl))) rfl (Zm 8 rfl rfl) rfl ?_; clear T ac; intro ac T
  refine Zg2 (v2 := (.agg #[.int .i64 y.t0, .int .i64 y.t1, .int .i64 y.s0, .int .i64 y.s1])) T (Zq (Zri (size := 4) nt rfl (T.e 1 rfl) (T.e 0 rfl) ⟨_, Tryz.underlying24, by kernel_rfl⟩ rfl (by omega) (Ss1.at0 (by omega)))) rfl (fun _ T => Zq (rn_rowat (Sp.scR4 Ss1 M (Zz9 _) hky) rfl (T.e 0 rfl) rfl)) rfl ?_; clear T ac; intro ac T
  refine Zl2 ?_
  refine ow_bs (e := 32) [.int .i64 y.t0, .int .i64 y.t1, .int .i64 y.s0, .int .i64 y.s1] M T rfl rfl rfl rfl (.cons (T.e 0 rfl) .nil) (fun _ => by kernel_rfl) ?_; clear M T; intro g2 wc ac M T
  refine Zl2 ?_
  refine ow_app ([(g2, .cells [.int .i64 y.t0, .int .i64 y.t1, .int .i64 y.s0, .int .i64 y.s1]), (g1, .cells [.int .i64 l.first, .int .i64 l.step, .int .i64 l.span, .int .i64 l.press, .slice A LL.length c, .slice G g.length d])]) Tryz.info32 hsl M (by first | rfl | simp) T rfl rfl rfl rfl Tryz.underlying24 rfl rfl rfl (by omega) (T.e 10 rfl) (T.e 0 rfl) (Zne (i := 0) rfl) rfl rfl ?_; clear M T; intro ga1 cga1 wc ac M T
  refine l_q (v := (.slice (some ⟨ga1, 0, none⟩) (OL.length + 1) cga1)) (T.pick [0, 1, 2, 3, 4, 5, 6, 7, 8, 9, 10, 11, 12, 13, 14, 16, 17, 18] rfl) rfl rfl rfl rfl (Zra rfl (T.e 0 rfl)) ?_; clear T ac; intro ac T
  refine wpList_nil ?_
  replace T := T.pick [0, 14, 15, 16, 17, 18] rfl
  replace M := M.mask [true, false, true] rfl
  refine Znb ?_
  refine nm_then ?_
  refine wp_region_lit ?_
  refine lq T (rn_add rfl (T.e 5 rfl) evc (by omega)) ?_; clear T ac; intro ac T
  refine l_q (v := (.int .i64 ((k : Int) + 1))) (T.pick [0, 1, 2, 3, 4, 5] rfl) rfl rfl rfl rfl (Zrm rfl (T.e 0 rfl)) ?_; clear T ac; intro ac T
  replace T := T.pick [0, 2, 3, 4, 5, 6] rfl
  refine Zln ?_
  have e9 : OL.length + 1 = (OL ++ [y]).length := by simp
  have e8 : ((sc OL) ++ [.int .i64 y.t0, .int .i64 y.t1, .int .i64 y.s0, .int .i64 y.s1]) = sc (OL ++ [y]) := by rw [← sc_snoc]
  rw [e9, e8] at M
  rw [e9] at T
  clear e9 e8
  exact ⟨_, by omega, k + 1, (OL ++ [y]), _, _, [(ga1, .row 32 4 (OL ++ [y]).length (sc (OL ++ [y])) cga1)], rfl, (by omega), (by rw [voicesP_take hkr, ← hO, hvp]), (by simp [hOl]), (Sl.row _ _ _ _ _ _), T.pick [2, 3, 1, 4, 5, 0] rfl, ((M.permT [1, 0] 2 rfl rfl rfl rfl).sub (Zsl ([(g1, .cells [.int .i64 l.first, .int .i64 l.step, .int .i64 l.span, .int .i64 l.press, .slice A LL.length c, .slice G g.length d]), (ga1, .row 32 4 (OL ++ [y]).length (sc (OL ++ [y])) cga1)] : List (Nat × BA)) _))⟩
 intro h1
 rw [List.take_of_length_le (by omega)] at hO
 refine wp_exit ?_
 refine Zet ?_
 refine Zet ?_
 refine ex_hit ?_
 refine nm_then ?_
 refine Zsr ?_
 refine Zg2 T (Zq (Zrm rfl (T.e 3 rfl))) rfl (Za 0 rfl rfl) rfl ?_; clear T ac; intro ac T
 refine wpList_nil ?_
 replace T := T.pick [0] rfl
 replace M := M.mask [false] rfl
 refine Znr ?_
 refine rt_1 T rfl (T.e 0 rfl) ?_
 obtain ⟨b9, o9, h9⟩ := hsl.spV (sc_length _)
 rw [← hO]
 exact ⟨A3, c3, Io, rfl, ⟨b9, o9, h9⟩, M.mask [] rfl⟩
theorem Tremolo_any (l : Lw) (A : Option Addr) (c : Nat) (LL : List LS) (G : Option Addr) (d : Nat) (g : List Int)  (w : World) (hA : Rd w w.heap.size 1 A LL.length (lsC LL)) (hE : ElsS w LL) (nL : LL.length ≤ 1000000) (nE : ∀ x ∈ LL, x.1.length ≤ 1000000) (hG : Rd w w.heap.size 1 G g.length (ic g)) (nG : g.length ≤ 1000000)  :
   Calls Tryz.prog 37 #[.agg #[.int .i64 l.first, .int .i64 l.step, .int .i64 l.span, .int .i64 l.press, .slice A LL.length c], .slice G g.length d] w (LEPost (tremE l (rowsOf LL) g).1 (tremE l (rowsOf LL) g).2 w) := by
 obtain ⟨bA, oA, SA⟩ := Sp.old hA
 obtain ⟨bG, oG, SG⟩ := Sp.old hG
 refine Zpx noEx Tryz.func37 rfl 39 rfl [.agg #[.int .i64 l.first, .int .i64 l.step, .int .i64 l.span, .int .i64 l.press, .slice A LL.length c], .slice G g.length d] rfl rfl (Mem.init w _) ?_
 intro ac wc T M
 refine Zsr ?_
 refine Zl2 ?_
 refine Zob M T rfl rfl rfl rfl (T.e 0 rfl) rfl ?_; clear M T; intro g1 wc ac M T
 refine Zg2 T (Zq (Zra rfl evc)) rfl (Zc rfl) rfl ?_; clear T ac; intro ac T
 replace T := T.pick [2, 4] rfl
 refine Zln ?_
 refine wp_seq ?_
 refine Zsr ?_
 refine Zg2 T (Zq (Zrr (Mem.nth M 0 rfl) rfl (T.e 0 rfl) rfl)) rfl (Zm 2 rfl rfl) rfl ?_; clear T ac; intro ac T
 refine Zl2 ?_
 refine Zoc (first := []) (cap := []) T rfl rfl rfl rfl evf (.cons (T.e 1 rfl) (.cons (T.e 0 rfl) .nil)) Tryz.func89 rfl rfl ?_
 refine Calls.mono (checkRegister_any l A c LL G d g _ (SA.rd M (Zz9 _)) (fun x hx => M.rd (hE x hx) (Nat.le_refl _)) (by omega) nE (SG.rd M (Zz9 _)) (by omega)) ?_
 clear T; rintro e wc ⟨rfl, hb⟩ ac T
 replace M := M.call hb; clear hb
 refine lq T (Zra rfl (T.e 0 rfl)) ?_; clear T ac; intro ac T
 replace T := T.pick [0, 4, 5] rfl
 refine Zln ?_
 refine Zsr ?_
 refine Zg2 T (Zq (Zrm rfl (T.e 0 rfl))) rfl (fun _ T => Zq (rn_neq rfl (T.e 0 rfl) evc)) rfl ?_; clear T ac; intro ac T
 replace T := T.pick [0, 2, 3, 4] rfl
 refine Zln ?_
 refine wp_ifn (T.e 0 rfl) ?_ ?_
 ·intro h1
  refine Zsr ?_
  refine Zg3 T (Zq (Zrm rfl (T.e 1 rfl))) rfl (Zc rfl) rfl (Za 1 rfl rfl) rfl ?_; clear T ac; intro ac T
  refine wpList_nil ?_
  replace T := T.pick [0, 1] rfl
  replace M := M.mask [false] rfl
  refine Znr ?_
  refine Zrt ?_
  refine rt_2 T rfl (T.e 1 rfl) (T.e 0 rfl) ?_
  have e9 : tremE l (rowsOf LL) g = ([], checkR l (rowsOf LL) g) := by unfold tremE; rw [if_neg (by simpa using h1)]
  rw [e9]
  exact LEPost.nil rfl M
 intro h1
 obtain ⟨gS, gR⟩ := checkR_good (l := l) (R := rowsOf LL) (g := g) (by simpa using h1)
 have hgL : ∀ r ∈ g, 0 ≤ r ∧ r < LL.length := fun r hr => by have := gR r hr; rw [show (rowsOf LL).length = LL.length by simp] at this; exact this
 have hNL : ∀ x ∈ LL, x.1.length = notesP (rowsOf LL) := fun x hx => (gS.rows x.1 (List.mem_map.2 ⟨x, hx, rfl⟩)).2.1
 have hN6 := gS.notes
 have ⟨gl1, gl2, gl3, gl4⟩ := gS.law
 refine Zsk ?_
 refine Zsr ?_
 refine Zg3 (v3 := (.agg #[.int .i64 l.first, .int .i64 l.step, .int .i64 l.span, .int .i64 l.press, .slice A LL.length c, .slice G g.length d])) T (Zq (Zrr (Mem.nth M 0 rfl) rfl (T.e 2 rfl) rfl)) rfl (Zm 4 rfl rfl) rfl (fun _ T => Zq (rn_build rfl (.cons (T.e 1 rfl) (.cons (T.e 0 rfl) .nil)) (fun _ => by kernel_rfl))) rfl ?_; clear T ac; intro ac T
 refine Zl2 ?_
 refine Zoa M T rfl rfl rfl rfl ?_; clear M T; intro g2 wc ac M T
 refine Zl2 ?_
 refine Zos M T rfl rfl (T.e 0 rfl) (T.e 1 rfl) rfl .head rfl (by simp) rfl (by kernel_rfl) ?_; clear M T; intro wc ac M T
 replace T := T.pick [0, 6] rfl
 refine Zln ?_
 refine Zsr ?_
 refine lq T (Zra rfl evc) ?_; clear T ac; intro ac T
 refine Zln ?_
 refine wp_seq ?_
 refine Zsr ?_
 refine lq T (Zrr (Mem.nth M 1 rfl) rfl (T.e 2 rfl) rfl) ?_; clear T ac; intro ac T
 refine Zl2 ?_
 refine Zoc (first := []) (cap := []) T rfl rfl rfl rfl evf (.cons (T.e 0 rfl) .nil) Tryz.func90 rfl rfl ?_
 refine Calls.mono (notes_any l A c LL _ (SA.rd M (Zz9 _)) (fun x hx => M.rd (hE x hx) (Nat.le_refl _)) (by omega) nE) ?_
 clear T; rintro e wc ⟨rfl, hb⟩ ac T
 replace M := M.call hb; clear hb
 refine lq T (Zrm rfl evc) ?_; clear T ac; intro ac T
 replace T := T.pick [0, 1, 3, 4, 5] rfl
 refine Zln ?_
 refine wp_block ?_
 refine wp_loop_n (fun mz ac wc => ∃ (k : Nat) (OL : List Int) (A3 : Option Addr) (c3 : Nat) (Io : List (Nat × BA)), mz = notesP (rowsOf LL) - k ∧ (k ≤ notesP (rowsOf LL)) ∧ (OL = (tremP l (rowsOf LL) g).take k) ∧ (OL.length = k) ∧ (Sl 3 1 (.slice A3 OL.length c3) OL.length (ic OL) Io) ∧ Tm ac 39 [(2, .pointer (some ⟨g1, 0, none⟩)), (7, .pointer (some ⟨g2, 0, none⟩)), (8, .slice A3 OL.length c3), (20, .int .i64 ((notesP (rowsOf LL) : Nat) : Int)), (21, .int .i64 (k : Int))] ∧ Mem w noEx wc ((g2, .cells [.int .i64 l.first, .int .i64 l.step, .int .i64 l.span, .int .i64 l.press, .slice A LL.length c, .slice G g.length d]) :: (g1, .cells [.int .i64 l.first, .int .i64 l.step, .int .i64 l.span, .int .i64 l.press, .slice A LL.length c]) :: Io)) ?_ ?_
 ·exact ⟨_, 0, [], none, 0, [], rfl, (Nat.zero_le _), rfl, rfl, (Sl.nil _ _), T.pick [4, 3, 2, 1, 0] rfl, M.mask [true, true] rfl⟩
 clear T M
 rintro mz ac wc ⟨k, OL, A3, c3, Io, hmm1, hk, hO, hOl, hsl, T, M⟩
 refine Zsr ?_
 refine lq T (rn_lss rfl (T.e 4 rfl) (T.e 3 rfl)) ?_; clear T ac; intro ac T
 refine Zln ?_
 refine wp_seq ?_
 refine wp_if (T.e 0 rfl) ?_ ?_
 ·intro h2
  have gd := gS.dues k (by omega)
  simp only [dueO, decide_eq_true_eq] at gd
  refine Zsk ?_
  refine wp_seq ?_
  refine wp_block ?_
  refine Zsr ?_
  refine Zg2 T (Zq (Zrm rfl (T.e 5 rfl))) rfl (Za 0 rfl rfl) rfl ?_; clear T ac; intro ac T
  replace T := T.pick [0, 3, 4, 5, 6, 7] rfl
  refine Zln ?_
  refine Zgs M (M.perm [0, 1] rfl rfl) 14 (by kernel_rfl) rfl (by kernel_rfl) ?_
  clear M; intro wc M
  refine gq T 0 1 rfl (fun _ _ _ _ _ => (Zrm rfl (T.e 3 rfl))) ?_; clear T ac; intro ac T
  refine gq (v := (.pointer (some ⟨g1, 0, none⟩))) T 1 3 rfl (fun _ _ _ _ _ => (Zrf (off := 0) rfl (T.e 2 rfl) (fun _ _ _ => by kernel_rfl))) ?_; clear T ac; intro ac T
  refine gq T 2 7 rfl (fun B w' hD hl hS => (Zrr (Mem.nth (show Mem w noEx w' _ from hS) 1 rfl) rfl (T.e 0 rfl) rfl)) ?_; clear T ac; intro ac T
  refine gq (v := (.pointer (some ⟨g1, 0, none⟩))) T 3 15 rfl (fun _ _ _ _ _ => (Zrf (off := 0) rfl (T.e 4 rfl) (fun _ _ _ => by kernel_rfl))) ?_; clear T ac; intro ac T
  refine gq T 4 31 rfl (fun B w' hD hl hS => (Zrr (Mem.nth (show Mem w noEx w' _ from hS) 1 rfl) rfl (T.e 0 rfl) rfl)) ?_; clear T ac; intro ac T
  refine gq T 5 63 rfl (fun _ _ _ _ _ => (Zrm rfl (T.e 5 rfl))) ?_; clear T ac; intro ac T
  refine gq T 7 191 rfl (fun B w' hD hl hS => (Zrr (Mem.nth (show Mem w noEx w' _ from hS) 0 rfl) rfl (T.e 8 rfl) rfl)) ?_; clear T ac; intro ac T
  refine gq T 8 447 rfl (fun _ _ _ _ _ => (Zrm rfl (T.e 7 rfl))) ?_; clear T ac; intro ac T
  refine gw 6 511 ?_; intro K hK
  refine Zoc (first := []) (cap := []) T rfl rfl rfl rfl evf (.cons (T.e 3 rfl) (.cons (T.e 2 rfl) .nil)) Tryz.func71 rfl rfl ?_
  refine Calls.mono (vdue_any l (k : Int) _ (by (try dsimp only); omega) (by (try dsimp only); omega) (by (try dsimp only); omega)) ?_
  clear T; rintro e wc ⟨rfl, hb⟩ ac T
  replace M := M.call hb; clear hb
  refine Zso hK _ _ (M.perm [0, 1] rfl rfl) ?_; clear hK K
  refine gw 9 1023 ?_; intro K hK
  refine Zoc (first := []) (cap := []) T rfl rfl rfl rfl evf (.cons (T.e 2 rfl) (.cons (T.e 1 rfl) .nil)) Tryz.func91 rfl rfl ?_
  refine Calls.mono (voices_any l A c LL G d g k _ (SA.rd M (Zz9 _)) (fun x hx => M.rd (hE x hx) (Nat.le_refl _)) (by omega) nE (SG.rd M (Zz9 _)) (by omega) hgL (by intro x hx; rw [hNL x hx]; omega)) ?_
  clear T; rintro e wc ⟨Au4, cu4, Iu4, rfl, SVu4, N⟩ ac T
  obtain ⟨bu4, ou4, SVu4⟩ := SVu4
  obtain ⟨lvu4, hlvu4⟩ : ∃ q, q = voicesP (rowsOf LL) g k := ⟨_, rfl⟩
  rw [← hlvu4] at SVu4
  have Su4 := SVu4 w noEx
  have nvu4 : lvu4.length = g.length := by rw [hlvu4]; simp [voicesP]
  have gvu4 : ∀ z ∈ lvu4, z.good := by rw [hlvu4]; exact voicesP_good gS gR (by omega)
  replace M := (M.join N).swapI
  clear N
  replace M : Mem w noEx wc ((g2, .cells [.int .i64 l.first, .int .i64 l.step, .int .i64 l.span, .int .i64 l.press, .slice A LL.length c, .slice G g.length d]) :: (g1, .cells [.int .i64 l.first, .int .i64 l.step, .int .i64 l.span, .int .i64 l.press, .slice A LL.length c]) :: (Iu4 ++ Io)) := Mem.spin [(g2, .cells [.int .i64 l.first, .int .i64 l.step, .int .i64 l.span, .int .i64 l.press, .slice A LL.length c, .slice G g.length d]), (g1, .cells [.int .i64 l.first, .int .i64 l.step, .int .i64 l.span, .int .i64 l.press, .slice A LL.length c])] Io Iu4 M
  rw [← hlvu4] at T
  refine Zso hK _ _ (M.perm [0, 1] rfl rfl) ?_; clear hK K
  refine gw 10 2047 ?_; intro K hK
  refine Zoc (first := []) (cap := []) T rfl rfl rfl rfl evf (.cons (T.e 7 rfl) (.cons (T.e 1 rfl) (.cons (T.e 0 rfl) .nil))) Tryz.func80 rfl rfl ?_
  refine Calls.mono (keeps_any l (l.first + l.step * (k : Int)) _ _ _ lvu4 _ (by (try dsimp only); omega) (by (try dsimp only); omega) (by (try dsimp only); omega) gvu4 (Su4.rd M (.cons _ (.cons _ (subL (List.Sublist.refl _))))) (by first | omega | (simp only [List.length_cons, List.length_nil]; omega))) ?_
  clear T; rintro e wc ⟨rfl, hb⟩ ac T
  replace M := M.call hb; clear hb
  refine Zso hK _ _ (M.perm [0, 1] rfl rfl) ?_; clear hK K
  refine gw 11 4095 ?_; intro K hK
  refine ow_bs (e := 3) [.int .i64 (keepsP l (l.first + l.step * (k : Int)) lvu4)] M T rfl rfl rfl rfl (.cons (T.e 0 rfl) .nil) (fun _ => by kernel_rfl) ?_; clear M T; intro g3 wc ac M T
  refine Zso hK _ _ (M.perm [1, 2] rfl rfl) ?_; clear hK K
  refine gw 12 8191 ?_; intro K hK
  refine ow_app (((g3, .cells [.int .i64 (keepsP l (l.first + l.step * (k : Int)) lvu4)]) :: (g2, .cells [.int .i64 l.first, .int .i64 l.step, .int .i64 l.span, .int .i64 l.press, .slice A LL.length c, .slice G g.length d]) :: (g1, .cells [.int .i64 l.first, .int .i64 l.step, .int .i64 l.span, .int .i64 l.press, .slice A LL.length c]) :: Iu4)) Tryz.info3 hsl M (by first | rfl | simp) T rfl rfl rfl rfl Tryz.underlying33 rfl rfl rfl (by omega) (T.e 11 rfl) (T.e 0 rfl) (Zne (i := 0) rfl) rfl rfl ?_; clear M T; intro ga1 cga1 wc ac M T
  refine Zso hK _ _ (M.perm [2, 3] rfl rfl) ?_; clear hK K
  refine g_q (v := (.slice (some ⟨ga1, 0, none⟩) (OL.length + 1) cga1)) (T := T.pick [0, 1, 2, 3, 4, 5, 6, 7, 8, 9, 10, 11, 12, 13, 14, 15, 17, 18] rfl) (i := 13) rfl (by kernel_rfl) (by kernel_rfl : (Zpb 14 8191).setIfInBounds 13 true = Zpb 14 16383) si_U (fun _ _ _ h => h) rfl rfl rfl rfl (fun _ _ _ _ _ => (Zra rfl (T.e 0 rfl))) ?_; clear T ac; intro ac T
  refine Zgd (by kernel_rfl) ?_
  replace T := T.pick [0, 15, 16, 17, 18] rfl
  replace M := M.mask [true, false, true, true] rfl
  refine Znb ?_
  refine nm_then ?_
  refine wp_region_lit ?_
  refine lq T (rn_add rfl (T.e 4 rfl) evc (by omega)) ?_; clear T ac; intro ac T
  refine l_q (v := (.int .i64 ((k : Int) + 1))) (T.pick [0, 1, 2, 3, 4] rfl) rfl rfl rfl rfl (Zrm rfl (T.e 0 rfl)) ?_; clear T ac; intro ac T
  replace T := T.pick [0, 2, 3, 4, 5] rfl
  refine Zln ?_
  have e9 : OL.length + 1 = (OL ++ [(keepsP l (l.first + l.step * (k : Int)) lvu4)]).length := by simp
  have e8 : ((ic OL) ++ [.int .i64 (keepsP l (l.first + l.step * (k : Int)) lvu4)]) = ic (OL ++ [(keepsP l (l.first + l.step * (k : Int)) lvu4)]) := by rw [← ic_snoc]
  rw [e9, e8] at M
  rw [e9] at T
  clear e9 e8
  exact ⟨_, by omega, k + 1, (OL ++ [(keepsP l (l.first + l.step * (k : Int)) lvu4)]), _, _, [(ga1, .row 3 1 (OL ++ [(keepsP l (l.first + l.step * (k : Int)) lvu4)]).length (ic (OL ++ [(keepsP l (l.first + l.step * (k : Int)) lvu4)])) cga1)], rfl, (by omega), (by rw [tremP_take (by omega), ← hO, hlvu4]), (by simp [hOl]), (Sl.row _ _ _ _ _ _), T.pick [2, 3, 1, 4, 0] rfl, ((M.permT [1, 2, 0] 3 rfl rfl rfl rfl).sub (Zsl ([(g2, .cells [.int .i64 l.first, .int .i64 l.step, .int .i64 l.span, .int .i64 l.press, .slice A LL.length c, .slice G g.length d]), (g1, .cells [.int .i64 l.first, .int .i64 l.step, .int .i64 l.span, .int .i64 l.press, .slice A LL.length c]), (ga1, .row 3 1 (OL ++ [(keepsP l (l.first + l.step * (k : Int)) lvu4)]).length (ic (OL ++ [(keepsP l (l.first + l.step * (k : Int)) lvu4)])) cga1)] : List (Nat × BA)) _))⟩
 intro h2
 rw [List.take_of_length_le (by rw [tremP_length]; omega)] at hO
 refine wp_exit ?_
 refine Zet ?_
 refine Zet ?_
 refine ex_hit ?_
 refine nm_then ?_
 refine Zsr ?_
 refine Zg3 T (Zq (Zrm rfl (T.e 3 rfl))) rfl (Za 0 rfl rfl) rfl (Zc rfl) rfl ?_; clear T ac; intro ac T
 refine wpList_nil ?_
 replace T := T.pick [0, 1] rfl
 replace M := M.mask [false, false] rfl
 refine Znr ?_
 refine rt_2 T rfl (T.e 1 rfl) (T.e 0 rfl) ?_
 have e9 : tremE l (rowsOf LL) g = (OL, 0) := by unfold tremE; rw [if_pos (by simpa using h1), hO]
 rw [e9]
 obtain ⟨b9, o9, h9⟩ := hsl.spV (by rw [ic_length]; omega)
 exact ⟨A3, c3, Io, rfl, by show OL.length ≤ 6; omega, ⟨b9, o9, h9⟩, M.mask [] rfl⟩
abbrev gmA (j : Jb) (A : Option Addr) (c : Nat) (s0 s1 : Int) (bg bx : Nat) : List Value := [.int .i64 j.p0, .int .i64 j.p1, .int .i64 j.t0, .int .i64 j.t1, .int .i64 j.r0, .int .i64 j.r1, .int .i64 j.u0, .int .i64 j.u1, .int .i64 j.d0, .int .i64 j.d1, .int .i64 j.a0, .int .i64 j.a1, .int .i64 j.b0, .int .i64 j.b1, .int .i64 j.le, .slice A j.sh.length c, .int .i64 j.wi, .int .i64 j.me, .int .i64 s0, .int .i64 s1, .func (.func 138) #[] #[.pointer (some ⟨bg, 0, none⟩), .pointer (some ⟨bx, 0, none⟩)]]
def PlayPost (j : Jb) (A : Option Addr) (c : Nat) (s0 s1 : Int) (ok : Value → Value → Prop) (w : World) (e : Ending) (w' : World) : Prop :=
 ∃ bg bx bm, e = .returned (.agg (gmA j A c s0 s1 bg bx).toArray) ∧ Mem w noEx w' [(bx, .cells [.map (some bm)]), (bm, .any (memoQ Tryz.prog 165 ok)), (bg, .cells (gmA j A c s0 s1 bg bx))]
theorem play_any (ok : Value → Value → Prop) (j : Jb) (A : Option Addr) (c : Nat) (w : World) (hj : j.ok) (hr : Rd w w.heap.size 2 A j.sh.length (rc j.sh)) :
  Calls Tryz.prog 127 #[jobV j A c] w (PlayPost j A c (winS j).1 (winS j).2 ok w) := by
 have HR := Lib.hid hr
 have HJ := Lib.hid hj
 clear hr hj
 go_enter Tryz.func127, Tryz.ntmps127
 refine start noEx ?_
 intro wc M
 go_wp2_with (first | (refine m_ld1 M rfl rfl rfl (by (repeat' (first | exact Zz2 | refine Zz1 ?_))) (by rfl) ?_) | (refine m_ldr M rfl rfl rfl (by (repeat' (first | exact Zz2 | refine Zz1 ?_))) (by (try simp only [Zy2, List.take_zero, List.take_nil, Zy1, List.drop_zero, List.drop_nil, List.cons_append, List.nil_append, List.append_nil, List.length_cons, List.length_nil, Nat.reduceAdd, Nat.zero_add, Nat.add_zero]); rfl) (by rfl) ?_) | (refine m_st M rfl rfl rfl (by first | exact (rfl : _ = Value.agg _) | exact (rfl : _ = Value.int _ _) | exact (rfl : _ = Value.bool _) | exact (rfl : _ = Value.slice _ _ _) | exact (rfl : _ = Value.pointer _) | exact (rfl : _ = Value.map _) | exact (rfl : _ = Value.func _ _ _) | exact (rfl : _ = Value.string _)) (by rfl) (by (repeat (first | exact Upd.head | apply Upd.tail))) (by (try simp only [Zy2, List.take_zero, List.take_nil, Zy1, List.drop_zero, List.drop_nil, List.cons_append, List.nil_append, List.append_nil, List.length_cons, List.length_nil, Nat.reduceAdd, Nat.zero_add, Nat.add_zero]); rfl) (by simp) (by simp [Value.oneCell']) (by kernel_rfl) ?_; clear M; (try clear wc); intro wc M) | (refine m_al M rfl rfl ?_; clear M; (try clear wc); intro g wc M) | (refine m_bx M rfl rfl (by first | exact (rfl : _ = Value.agg _) | exact (rfl : _ = Value.int _ _) | exact (rfl : _ = Value.bool _) | exact (rfl : _ = Value.slice _ _ _) | exact (rfl : _ = Value.pointer _) | exact (rfl : _ = Value.map _) | exact (rfl : _ = Value.func _ _ _) | exact (rfl : _ = Value.string _)) (by rfl) ?_; clear M; (try clear wc); intro g wc M) | (go_at_call 137; ((with_reducible refine (windows_any j _ _ _ HJ.out ?_).mono ?_); (exact M.rd HR.out (Nat.le_refl _)); rintro e wc ⟨rfl, hb⟩; replace M := M.call hb; clear hb)) | (refine mm ok Tryz.underlying174 M rfl rfl ?_; clear M; (try clear wc); intro g wc M))
 refine ret_M (t := 2) (ty := 160) M rfl rfl rfl (by (repeat' (first | exact Zz2 | refine Zz1 ?_))) (by rfl) ?_
 rename_i g5 g4 wq g3 g2 g1 g0
 exact ⟨g1, g, g0, rfl, M.sub (by (repeat (first | exact List.Sublist.slnil | apply List.Sublist.cons_cons | apply List.Sublist.cons)))⟩
section
open Go.RowKit Go.Shelf
attribute [local go_sem] Oper.semAt_some
def rdg (p0 p1 m : Int) (k : Nat) : Int × Int := mstep (p0, p1) (p0 - m + k - m, p0 - m + k + m)
def rdN (p0 p1 m : Int) : Nat := (p1 + m - (p0 - m) + 1).toNat
def rdgs (p0 p1 m : Int) : List (Int × Int) := (List.range (rdN p0 p1 m)).map (rdg p0 p1 m)
theorem rdgs_length (p0 p1 m : Int) : (rdgs p0 p1 m).length = rdN p0 p1 m := by simp [rdgs]
theorem rdgs_take (p0 p1 m : Int) (k : Nat) (h : k < rdN p0 p1 m) : (rdgs p0 p1 m).take (k + 1) = (rdgs p0 p1 m).take k ++ [rdg p0 p1 m k] := by
 rw [List.take_succ_eq_append_getElem (by rw [rdgs_length]; exact h)]
 simp [rdgs]
theorem rdg_bd {p0 p1 m B : Int} {k : Nat} (h : k < rdN p0 p1 m) (h0 : -B ≤ p0 ∧ p0 ≤ B) (h1 : -B ≤ p1 ∧ p1 ≤ B) (hm : 0 ≤ m) : (-B ≤ (rdg p0 p1 m k).1 ∧ (rdg p0 p1 m k).1 ≤ B) ∧ (-B ≤ (rdg p0 p1 m k).2 ∧ (rdg p0 p1 m k).2 ≤ B) := by
 unfold rdN at h
 unfold rdg mstep
 refine ⟨?_, ?_⟩
 · dsimp only; split <;> omega
 · dsimp only; split <;> omega
abbrev Rg (B : Int) := { x : Int × Int // (-B ≤ x.1 ∧ x.1 ≤ B) ∧ (-B ≤ x.2 ∧ x.2 ≤ B) }
def Kp (n0 bm : Nat) (W W' : World) : Prop := W.heap.size ≤ W'.heap.size ∧ ∀ b, b < n0 → b ≠ bm → W'.heap[b]? = W.heap[b]?
theorem Kp.t {n0 bm : Nat} {A B C : World} (h : Kp n0 bm A B) (k : Kp n0 bm B C) : Kp n0 bm A C := ⟨Nat.le_trans h.1 k.1, fun b hb hx => (k.2 b hb hx).trans (h.2 b hb hx)⟩
theorem Kp.bk {n0 bm g : Nat} {W W' : World} {cs : Array Value} (h : Kp n0 bm W W') (hB : Bk W g cs) (hg : g < n0) (hx : g ≠ bm) : Bk W' g cs :=
 ⟨Nat.lt_of_lt_of_le hB.lt h.1, fun o => (World.cell?_of_block (w := W) (a := ⟨g, o, none⟩) (h.2 g hg hx)).trans (hB.cell o), fun o => (World.frozen?_of_block (w := W) (a := ⟨g, o, none⟩) (h.2 g hg hx)).trans (hB.frozen o)⟩
theorem grown_of_below {w w' : World} (h : Below w.heap.size w w') : w.grownBy w' none := ⟨h.os, h.tape, h.output, h.size, fun k hk _ => h.block k hk⟩
theorem meet_one (p0 p1 m : Int) (k c g : Nat) (w : World) (hr : Rd w w.heap.size 2 (some ⟨g, 0, none⟩) 1 (rc [(p0 - m + (k : Int) - m, p0 - m + (k : Int) + m)])) :
  Calls Tryz.prog 142 #[R2 p0 p1, .slice (some ⟨g, 0, none⟩) 1 c] w fun e w' => e = .returned (R2 (rdg p0 p1 m k).1 (rdg p0 p1 m k).2) ∧ Below w.heap.size w w' :=
 meet_any p0 p1 _ 1 c [(p0 - m + (k : Int) - m, p0 - m + (k : Int) + m)] w hr (by omega)
theorem readings1_in (n : Nat) (hn : 2 ≤ n) (l b1 b2 n0 bm : Nat) (p0 p1 m B : Int) (hB0 : 0 ≤ B) (hB1 : B ≤ 100000) (h0 : -B ≤ p0 ∧ p0 ≤ B) (h1 : -B ≤ p1 ∧ p1 ≤ B) (hm0 : 0 ≤ m) (hm1 : m ≤ 100) (hb1 : b1 < n0) (hb2 : b2 < n0) (hx1 : b1 ≠ bm) (hx2 : b2 ≠ bm)
   (J Jx : List (Rg B) → World → Prop) (W : World) (hJ : AbidesFrom W.heap.size J)
   (hY : ∀ pre x W1, J pre W1 → pre.length < rdN p0 p1 m → YieldAt Fence.wide (n - 1) Tryz.prog l #[R2 x.1.1 x.1.2] W1 fun e W' =>
     (e = .returned (.bool true) ∧ J (pre ++ [x]) W' ∧ Kp n0 bm W1 W') ∨ (e = .returned (.bool false) ∧ Jx (pre ++ [x]) W'))
   (q1 : Bk W b1 #[.int .i64 p0, .int .i64 p1]) (q2 : Bk W b2 #[.int .i64 m]) (hJ0 : J [] W) :
   CallsIn Fence.wide n Tryz.prog 144 #[.func (.yield l) #[] #[], .pointer (some ⟨b1, 0, none⟩), .pointer (some ⟨b2, 0, none⟩)] W fun e W' => (∃ v, e = .returned v) ∧
     ((∃ xs : List (Rg B), xs.map (·.1) = rdgs p0 p1 m ∧ J xs W') ∨ (∃ pre : List (Rg B), pre.map (·.1) <+: rdgs p0 p1 m ∧ Jx pre W')) := by
 refine callsIn_of_wp Tryz.func144 rfl trivial ?_ rfl
 simp only [Tryz.ntmps144, List.size_toArray, List.length_cons, List.length_nil, Nat.reduceAdd, Nat.reduceSub, Array.replicate_succ, Array.replicate_zero, List.push_toArray, List.append_toArray, List.nil_append, List.cons_append]
 have c1 := q1.cell
 have c2 := q2.cell
 have hn1 : 1 ≤ n := by omega
 gi_wp2
 gi_loopw [4] (fun v wr => ∃ (k : Nat) (pre : List (Rg B)), k ≤ rdN p0 p1 m ∧ v = .int .i64 (p0 - m + (k : Int)) ∧ Hid (pre.map (·.1) = (rdgs p0 p1 m).take k) ∧ Bk wr b1 #[.int .i64 p0, .int .i64 p1] ∧ Bk wr b2 #[.int .i64 m] ∧ W.heap.size ≤ wr.heap.size ∧ J pre wr) (fun v _ => (p1 + m + 1 - intOf v).toNat)
 case atStart => exact ⟨0, [], Nat.zero_le _, by simp, by (show _ = _; simp), q1, q2, Nat.le_refl _, hJ0⟩
 case round =>
   clear c1 c2
   obtain ⟨k, pre, hk, rfl, hpre, r1, r2, hz, hj⟩ := hrel
   have c1 := r1.cell
   have c2 := r2.cell
   have z1 := r1.lt
   have z2 := r2.lt
   by_cases hlt : k < rdN p0 p1 m
   · have hle : p0 - m + (k : Int) ≤ p1 + m := by unfold rdN at hlt; omega
     have HX := Lib.hid (rdg_bd hlt h0 h1 hm0)
     have HT := Lib.hid (rdgs_take p0 p1 m k hlt)
     have hm2 := Lib.hid hlt
     clear hlt
     have hlen : pre.length < rdN p0 p1 m := by
       have h2 := congrArg List.length hpre.out
       rw [List.length_map, List.length_take, rdgs_length] at h2
       have h3 := hm2.out
       omega
     gi_wp2_with (first | (refine ⟨trivial, ?_⟩; gi_at_call 142; refine (callsIn_wide.2 (meet_one p0 p1 m k _ _ _ ?_)).mono ?_; (exact Rd.new _ _ _ _ _ _ rfl (by simp [rc])); rintro e w1 ⟨rfl, hb⟩; have r3 := (r1.alloc _).below hb; have r4 := (r2.alloc _).below hb; have hz3 : W.heap.size ≤ w1.heap.size := (by have := hb.size; simp at this; omega); have j3 := hJ _ _ _ none (hJ _ _ _ none hj (World.grownBy_alloc wr _ none) (fun r e => by cases e)) (grown_of_below hb) (fun r e => by cases e); clear hb; obtain ⟨fn, tmps, assign, body, hy, hR⟩ := hY pre ⟨rdg p0 p1 m k, HX.out⟩ w1 j3 hlen; dsimp only at hy))
     refine hR.mono ?_
     have HS : Hid ((pre ++ [(⟨rdg p0 p1 m k, HX.out⟩ : Rg B)]).map (·.1) = (rdgs p0 p1 m).take (k + 1)) := by (show _ = _; rw [List.map_append, hpre.out, HT.out]; rfl)
     rintro e W3 (⟨rfl, hJ3, hk3⟩ | ⟨rfl, hJx3⟩)
     · have r5 := hk3.bk r3 hb1 hx1
       have r6 := hk3.bk r4 hb2 hx2
       have hz5 : W.heap.size ≤ W3.heap.size := Nat.le_trans hz3 hk3.1
       clear hY hy hR
       gi_wp2
       go_roundw
       case rel => exact ⟨k + 1, _, hm2.out, by go_num, HS, r5, r6, hz5, hJ3⟩
       case measure => simp [intOf]; omega
     · clear hY hy hR
       gi_wp2
       refine bodyPost_ret (results_none rfl _ _ _) rfl ?_
       exact ⟨⟨_, rfl⟩, .inr ⟨_, by rw [HS.out]; exact List.take_prefix _ _, hJx3⟩⟩
   · have hle : ¬ p0 - m + (k : Int) ≤ p1 + m := by unfold rdN at hlt; omega
     gi_wp2
     go_end0
     exact ⟨⟨_, rfl⟩, .inl ⟨pre, by rw [hpre.out, List.take_of_length_le (by rw [rdgs_length]; omega)], hj⟩⟩
theorem readings_stops (n : Nat) (hn : 2 ≤ n) (b1 b2 n0 bm : Nat) (p0 p1 m B : Int) (hB0 : 0 ≤ B) (hB1 : B ≤ 100000) (h0 : -B ≤ p0 ∧ p0 ≤ B) (h1 : -B ≤ p1 ∧ p1 ≤ B) (hm0 : 0 ≤ m) (hm1 : m ≤ 100) (hb1 : b1 < n0) (hb2 : b2 < n0) (hx1 : b1 ≠ bm) (hx2 : b2 ≠ bm) (w : World)
   (q1 : Bk w b1 #[.int .i64 p0, .int .i64 p1]) (q2 : Bk w b2 #[.int .i64 m]) :
   SeqStopsK (α := Rg B) Fence.wide n Tryz.prog 144 #[.pointer (some ⟨b1, 0, none⟩), .pointer (some ⟨b2, 0, none⟩)] (fun x => #[R2 x.1.1 x.1.2]) (Kp n0 bm) (fun xs => xs.map (·.1) = rdgs p0 p1 m) (fun pre => pre.map (·.1) <+: rdgs p0 p1 m) (rdN p0 p1 m) w :=
 fun l J Jx W hW hJ _ hY hJ0 => readings1_in n hn l b1 b2 n0 bm p0 p1 m B hB0 hB1 h0 h1 hm0 hm1 hb1 hb2 hx1 hx2 J Jx W hJ hY (q1.below hW) (q2.below hW) hJ0
set_option maxHeartbeats 400000 in
theorem readings_any (p0 p1 m : Int) (w : World) :
  Calls Tryz.prog 141 #[R2 p0 p1, .int .i64 m] w fun e w' => ∃ b1 b2, e = .returned (.func (.func 144) #[] #[.pointer (some ⟨b1, 0, none⟩), .pointer (some ⟨b2, 0, none⟩)]) ∧ Mem w noEx w' [(b2, .cells [.int .i64 m]), (b1, .cells [.int .i64 p0, .int .i64 p1])] := by
 go_enter Tryz.func141, Tryz.ntmps141
 refine start noEx ?_
 intro wc M
 go_wp2_with (first | (refine m_ld1 M rfl rfl rfl (by (repeat' (first | exact Zz2 | refine Zz1 ?_))) (by rfl) ?_) | (refine m_ldr M rfl rfl rfl (by (repeat' (first | exact Zz2 | refine Zz1 ?_))) (by (try simp only [Zy2, List.take_zero, List.take_nil, Zy1, List.drop_zero, List.drop_nil, List.cons_append, List.nil_append, List.append_nil, List.length_cons, List.length_nil, Nat.reduceAdd, Nat.zero_add, Nat.add_zero]); rfl) (by rfl) ?_) | (refine m_st M rfl rfl rfl (by first | exact (rfl : _ = Value.agg _) | exact (rfl : _ = Value.int _ _) | exact (rfl : _ = Value.bool _) | exact (rfl : _ = Value.slice _ _ _) | exact (rfl : _ = Value.pointer _) | exact (rfl : _ = Value.map _) | exact (rfl : _ = Value.func _ _ _) | exact (rfl : _ = Value.string _)) (by rfl) (by (repeat (first | exact Upd.head | apply Upd.tail))) (by (try simp only [Zy2, List.take_zero, List.take_nil, Zy1, List.drop_zero, List.drop_nil, List.cons_append, List.nil_append, List.append_nil, List.length_cons, List.length_nil, Nat.reduceAdd, Nat.zero_add, Nat.add_zero]); rfl) (by simp) (by simp [Value.oneCell']) (by kernel_rfl) ?_; clear M; (try clear wc); intro wc M) | (refine m_al M rfl rfl ?_; clear M; (try clear wc); intro g wc M) | (refine m_bx M rfl rfl (by first | exact (rfl : _ = Value.agg _) | exact (rfl : _ = Value.int _ _) | exact (rfl : _ = Value.bool _) | exact (rfl : _ = Value.slice _ _ _) | exact (rfl : _ = Value.pointer _) | exact (rfl : _ = Value.map _) | exact (rfl : _ = Value.func _ _ _) | exact (rfl : _ = Value.string _)) (by rfl) ?_; clear M; (try clear wc); intro g wc M))
 go_ret
 exact ⟨_, _, rfl, M⟩
end
def thinJ (j : Jb) (p0 p1 t r : Int) : St := ⟨p0, p1, j.t0 - t * j.a1, j.t1 - t * j.a0, j.r0 - r * j.b1, j.r1 - r * j.b0, j.u0, j.u1, j.d0, j.d1, j.a0, j.a1, j.b0, j.b1, j.le⟩
def okT (j : Jb) (t r : Int) : Bool := (thinJ j 0 0 t r).spoiled == 2
abbrev kn5 (p0 p1 t r lf : Int) : Value := .agg #[.int .i64 p0, .int .i64 p1, .int .i64 t, .int .i64 r, .int .i64 lf]
theorem mul_bd {i a : Int} (h0 : 0 ≤ i) (h1 : i ≤ 2000) (h2 : 0 ≤ a) (h3 : a ≤ 12) : 0 ≤ i * a ∧ i * a ≤ 24000 := by
 refine ⟨Int.mul_nonneg h0 h2, ?_⟩
 have := Int.mul_le_mul h1 h3 h2 (by omega : (0 : Int) ≤ 2000)
 omega
theorem mul_suc (i a : Int) : (i + 1) * a = i * a + a := by rw [Int.add_mul]; omega
theorem filed_tip_x (p0 p1 t0 t1 r0 r1 u0 u1 d0 d1 a0 a1 b0 b1 le : Int) (w : World) (h : St.ok ⟨p0, p1, t0, t1, r0, r1, u0, u1, d0, d1, a0, a1, b0, b1, le⟩) :
  Calls Tryz.prog 145 #[.agg #[.int .i64 p0, .int .i64 p1, .int .i64 t0, .int .i64 t1, .int .i64 r0, .int .i64 r1, .int .i64 u0, .int .i64 u1, .int .i64 d0, .int .i64 d1, .int .i64 a0, .int .i64 a1, .int .i64 b0, .int .i64 b1, .int .i64 le], .int .i64 1] w fun e w' => e = .returned (.agg #[.int .i64 (p0 + u0), .int .i64 (p1 + u1), .int .i64 (t0 - a1), .int .i64 (t1 - a0), .int .i64 r0, .int .i64 r1, .int .i64 u0, .int .i64 u1, .int .i64 d0, .int .i64 d1, .int .i64 a0, .int .i64 a1, .int .i64 b0, .int .i64 b1, .int .i64 le]) ∧ Below w.heap.size w w' := filed_tip ⟨p0, p1, t0, t1, r0, r1, u0, u1, d0, d1, a0, a1, b0, b1, le⟩ w h
theorem filed_root_x (p0 p1 t0 t1 r0 r1 u0 u1 d0 d1 a0 a1 b0 b1 le : Int) (w : World) (h : St.ok ⟨p0, p1, t0, t1, r0, r1, u0, u1, d0, d1, a0, a1, b0, b1, le⟩) :
  Calls Tryz.prog 145 #[.agg #[.int .i64 p0, .int .i64 p1, .int .i64 t0, .int .i64 t1, .int .i64 r0, .int .i64 r1, .int .i64 u0, .int .i64 u1, .int .i64 d0, .int .i64 d1, .int .i64 a0, .int .i64 a1, .int .i64 b0, .int .i64 b1, .int .i64 le], .int .i64 2] w fun e w' => e = .returned (.agg #[.int .i64 (p0 - d1), .int .i64 (p1 - d0), .int .i64 t0, .int .i64 t1, .int .i64 (r0 - b1), .int .i64 (r1 - b0), .int .i64 u0, .int .i64 u1, .int .i64 d0, .int .i64 d1, .int .i64 a0, .int .i64 a1, .int .i64 b0, .int .i64 b1, .int .i64 le]) ∧ Below w.heap.size w w' := filed_root ⟨p0, p1, t0, t1, r0, r1, u0, u1, d0, d1, a0, a1, b0, b1, le⟩ w h
set_option maxHeartbeats 2000000 in
theorem moved_tip (j : Jb) (A : Option Addr) (c : Nat) (s0 s1 : Int) (bg bx : Nat) (p0 p1 t r lf : Int) (w : World) (hg : j.good) (hp0 : -100000 ≤ p0 ∧ p0 ≤ 100000) (hp1 : -100000 ≤ p1 ∧ p1 ≤ 100000) (ht : 0 ≤ t ∧ t ≤ 1000) (hr : 0 ≤ r ∧ r ≤ 1000) (hl : 1 ≤ lf ∧ lf ≤ 1000) :
   Calls Tryz.prog 143 #[.agg (gmA j A c s0 s1 bg bx).toArray, kn5 p0 p1 t r lf, .int .i64 1] w fun e w' => e = .returned (.tuple #[kn5 (p0 + j.u0) (p1 + j.u1) (t + 1) r (lf - 1), .bool (okT j (t + 1) (r))]) ∧ Below w.heap.size w w' := by
 obtain ⟨g1, g2, g3, g4, g5, g6, g7, g8, -, -, -, -⟩ := hg
 go_enter Tryz.func143, Tryz.ntmps143
 refine start noEx ?_
 intro wc M
 go_wp2_with (first | (refine m_ld1 M rfl rfl rfl (by (repeat' (first | exact Zz2 | refine Zz1 ?_))) (by rfl) ?_) | (refine m_ldr M rfl rfl rfl (by (repeat' (first | exact Zz2 | refine Zz1 ?_))) (by (try simp only [Zy2, List.take_zero, List.take_nil, Zy1, List.drop_zero, List.drop_nil, List.cons_append, List.nil_append, List.append_nil, List.length_cons, List.length_nil, Nat.reduceAdd, Nat.zero_add, Nat.add_zero]); rfl) (by rfl) ?_) | (refine m_st M rfl rfl rfl (by first | exact (rfl : _ = Value.agg _) | exact (rfl : _ = Value.int _ _) | exact (rfl : _ = Value.bool _) | exact (rfl : _ = Value.slice _ _ _) | exact (rfl : _ = Value.pointer _) | exact (rfl : _ = Value.map _) | exact (rfl : _ = Value.func _ _ _) | exact (rfl : _ = Value.string _)) (by rfl) (by (repeat (first | exact Upd.head | apply Upd.tail))) (by (try simp only [Zy2, List.take_zero, List.take_nil, Zy1, List.drop_zero, List.drop_nil, List.cons_append, List.nil_append, List.append_nil, List.length_cons, List.length_nil, Nat.reduceAdd, Nat.zero_add, Nat.add_zero]); rfl) (by simp) (by simp [Value.oneCell']) (by kernel_rfl) ?_; clear M; (try clear wc); intro wc M) | (refine m_al M rfl rfl ?_; clear M; (try clear wc); intro g wc M) | (refine m_bx M rfl rfl (by first | exact (rfl : _ = Value.agg _) | exact (rfl : _ = Value.int _ _) | exact (rfl : _ = Value.bool _) | exact (rfl : _ = Value.slice _ _ _) | exact (rfl : _ = Value.pointer _) | exact (rfl : _ = Value.map _) | exact (rfl : _ = Value.func _ _ _) | exact (rfl : _ = Value.string _)) (by rfl) ?_; clear M; (try clear wc); intro g wc M) | (go_at_call 145; ((with_reducible refine (filed_tip_x p0 p1 j.t0 j.t1 j.r0 j.r1 j.u0 j.u1 j.d0 j.d1 j.a0 j.a1 j.b0 j.b1 j.le _ ?_).mono ?_); (constructor <;> dsimp only <;> omega); rintro e wc ⟨rfl, hb⟩; replace M := M.call hb; clear hb)))
 rename_i gG gK gR gS wq K0 hK0
 go_loopw [44] (fun v wr => ∃ i : Int, 0 ≤ i ∧ i ≤ t + 1 ∧ v = .int .i64 i ∧ Mem w noEx wr [(gS, .cells [.int .i64 p0, .int .i64 p1, .int .i64 (j.t0 - i * j.a1), .int .i64 (j.t1 - i * j.a0), .int .i64 (j.r0 - 0 * j.b1), .int .i64 (j.r1 - 0 * j.b0), .int .i64 j.u0, .int .i64 j.u1, .int .i64 j.d0, .int .i64 j.d1, .int .i64 j.a0, .int .i64 j.a1, .int .i64 j.b0, .int .i64 j.b1, .int .i64 j.le]), (gR, .cells [.int .i64 0, .int .i64 0, .int .i64 0, .int .i64 0, .int .i64 0]), (gK, .cells [.int .i64 (p0 + j.u0), .int .i64 (p1 + j.u1), .int .i64 (t + 1), .int .i64 (r), .int .i64 (lf - 1)])]) (fun v _ => (t + 1 - intOf v).toNat)
 case atStart => exact ⟨0, by omega, by omega, rfl, by simp only [Int.zero_mul, Int.sub_zero]; exact M.sub (by (repeat (first | exact List.Sublist.slnil | apply List.Sublist.cons_cons | apply List.Sublist.cons)))⟩
 case round =>
   clear M wc
   obtain ⟨i, hi0, hi1, rfl, M⟩ := hrel
   obtain ⟨wc, rfl⟩ : ∃ x : World, x = wr := ⟨_, rfl⟩
   have m1 := mul_bd hi0 (by omega) (by omega : 0 ≤ j.a1) (by omega)
   have m2 := mul_bd hi0 (by omega) (by omega : 0 ≤ j.a0) (by omega)
   by_cases hlt : i < t + 1
   · have e1 := mul_suc i j.a1
     have e2 := mul_suc i j.a0
     have E : Hid (Value.int .i64 (j.t0 - i * j.a1 - j.a1) = .int .i64 (j.t0 - (i + 1) * j.a1) ∧ Value.int .i64 (j.t1 - i * j.a0 - j.a0) = .int .i64 (j.t1 - (i + 1) * j.a0)) := ⟨by rw [e1]; congr 1; omega, by rw [e2]; congr 1; omega⟩
     clear e1 e2
     go_wp2_with (first | (refine m_ld1 M rfl rfl rfl (by (repeat' (first | exact Zz2 | refine Zz1 ?_))) (by rfl) ?_) | (refine m_ldr M rfl rfl rfl (by (repeat' (first | exact Zz2 | refine Zz1 ?_))) (by (try simp only [Zy2, List.take_zero, List.take_nil, Zy1, List.drop_zero, List.drop_nil, List.cons_append, List.nil_append, List.append_nil, List.length_cons, List.length_nil, Nat.reduceAdd, Nat.zero_add, Nat.add_zero]); rfl) (by rfl) ?_) | (refine m_st M rfl rfl rfl (by first | exact (rfl : _ = Value.agg _) | exact (rfl : _ = Value.int _ _) | exact (rfl : _ = Value.bool _) | exact (rfl : _ = Value.slice _ _ _) | exact (rfl : _ = Value.pointer _) | exact (rfl : _ = Value.map _) | exact (rfl : _ = Value.func _ _ _) | exact (rfl : _ = Value.string _)) (by rfl) (by (repeat (first | exact Upd.head | apply Upd.tail))) (by (try simp only [Zy2, List.take_zero, List.take_nil, Zy1, List.drop_zero, List.drop_nil, List.cons_append, List.nil_append, List.append_nil, List.length_cons, List.length_nil, Nat.reduceAdd, Nat.zero_add, Nat.add_zero]); rfl) (by simp) (by simp [Value.oneCell']) (by kernel_rfl) ?_; clear M; (try clear wc); intro wc M) | (refine m_al M rfl rfl ?_; clear M; (try clear wc); intro g wc M) | (refine m_bx M rfl rfl (by first | exact (rfl : _ = Value.agg _) | exact (rfl : _ = Value.int _ _) | exact (rfl : _ = Value.bool _) | exact (rfl : _ = Value.slice _ _ _) | exact (rfl : _ = Value.pointer _) | exact (rfl : _ = Value.map _) | exact (rfl : _ = Value.func _ _ _) | exact (rfl : _ = Value.string _)) (by rfl) ?_; clear M; (try clear wc); intro g wc M) | (go_at_call 146; ((with_reducible refine (less_any _ _ _ _ _ (by omega) (by omega) (by omega) (by omega)).mono ?_); skip; rintro e wc ⟨rfl, hb⟩; replace M := M.call hb; clear hb)))
     go_roundw
     case rel => exact ⟨i + 1, by omega, by omega, rfl, by rw [E.out.1, E.out.2] at M; exact M⟩
     case measure => simp [intOf]; omega
   · have ei : t + 1 = i := (by omega); subst ei
     go_wp2_with (first | (refine m_ld1 M rfl rfl rfl (by (repeat' (first | exact Zz2 | refine Zz1 ?_))) (by rfl) ?_) | (refine m_ldr M rfl rfl rfl (by (repeat' (first | exact Zz2 | refine Zz1 ?_))) (by (try simp only [Zy2, List.take_zero, List.take_nil, Zy1, List.drop_zero, List.drop_nil, List.cons_append, List.nil_append, List.append_nil, List.length_cons, List.length_nil, Nat.reduceAdd, Nat.zero_add, Nat.add_zero]); rfl) (by rfl) ?_) | (refine m_st M rfl rfl rfl (by first | exact (rfl : _ = Value.agg _) | exact (rfl : _ = Value.int _ _) | exact (rfl : _ = Value.bool _) | exact (rfl : _ = Value.slice _ _ _) | exact (rfl : _ = Value.pointer _) | exact (rfl : _ = Value.map _) | exact (rfl : _ = Value.func _ _ _) | exact (rfl : _ = Value.string _)) (by rfl) (by (repeat (first | exact Upd.head | apply Upd.tail))) (by (try simp only [Zy2, List.take_zero, List.take_nil, Zy1, List.drop_zero, List.drop_nil, List.cons_append, List.nil_append, List.append_nil, List.length_cons, List.length_nil, Nat.reduceAdd, Nat.zero_add, Nat.add_zero]); rfl) (by simp) (by simp [Value.oneCell']) (by kernel_rfl) ?_; clear M; (try clear wc); intro wc M) | (refine m_al M rfl rfl ?_; clear M; (try clear wc); intro g wc M) | (refine m_bx M rfl rfl (by first | exact (rfl : _ = Value.agg _) | exact (rfl : _ = Value.int _ _) | exact (rfl : _ = Value.bool _) | exact (rfl : _ = Value.slice _ _ _) | exact (rfl : _ = Value.pointer _) | exact (rfl : _ = Value.map _) | exact (rfl : _ = Value.func _ _ _) | exact (rfl : _ = Value.string _)) (by rfl) ?_; clear M; (try clear wc); intro g wc M))
     go_loopw [58] (fun v wr => ∃ i : Int, 0 ≤ i ∧ i ≤ r ∧ v = .int .i64 i ∧ Mem w noEx wr [(gS, .cells [.int .i64 p0, .int .i64 p1, .int .i64 (j.t0 - (t + 1) * j.a1), .int .i64 (j.t1 - (t + 1) * j.a0), .int .i64 (j.r0 - i * j.b1), .int .i64 (j.r1 - i * j.b0), .int .i64 j.u0, .int .i64 j.u1, .int .i64 j.d0, .int .i64 j.d1, .int .i64 j.a0, .int .i64 j.a1, .int .i64 j.b0, .int .i64 j.b1, .int .i64 j.le]), (gR, .cells [.int .i64 0, .int .i64 0, .int .i64 0, .int .i64 0, .int .i64 0]), (gK, .cells [.int .i64 (p0 + j.u0), .int .i64 (p1 + j.u1), .int .i64 (t + 1), .int .i64 (r), .int .i64 (lf - 1)])]) (fun v _ => (r - intOf v).toNat)
     case atStart => exact ⟨0, by omega, by omega, rfl, by simp only [Int.zero_mul, Int.sub_zero] at M ⊢; exact M⟩
     case round =>
       clear M wc
       obtain ⟨i, hi0, hi1, rfl, M⟩ := hrel
       obtain ⟨wc, rfl⟩ : ∃ x : World, x = wr := ⟨_, rfl⟩
       have m3 := mul_bd hi0 (by omega) (by omega : 0 ≤ j.b1) (by omega)
       have m4 := mul_bd hi0 (by omega) (by omega : 0 ≤ j.b0) (by omega)
       by_cases hlt : i < r
       · have e1 := mul_suc i j.b1
         have e2 := mul_suc i j.b0
         have E : Hid (Value.int .i64 (j.r0 - i * j.b1 - j.b1) = .int .i64 (j.r0 - (i + 1) * j.b1) ∧ Value.int .i64 (j.r1 - i * j.b0 - j.b0) = .int .i64 (j.r1 - (i + 1) * j.b0)) := ⟨by rw [e1]; congr 1; omega, by rw [e2]; congr 1; omega⟩
         clear e1 e2
         go_wp2_with (first | (refine m_ld1 M rfl rfl rfl (by (repeat' (first | exact Zz2 | refine Zz1 ?_))) (by rfl) ?_) | (refine m_ldr M rfl rfl rfl (by (repeat' (first | exact Zz2 | refine Zz1 ?_))) (by (try simp only [Zy2, List.take_zero, List.take_nil, Zy1, List.drop_zero, List.drop_nil, List.cons_append, List.nil_append, List.append_nil, List.length_cons, List.length_nil, Nat.reduceAdd, Nat.zero_add, Nat.add_zero]); rfl) (by rfl) ?_) | (refine m_st M rfl rfl rfl (by first | exact (rfl : _ = Value.agg _) | exact (rfl : _ = Value.int _ _) | exact (rfl : _ = Value.bool _) | exact (rfl : _ = Value.slice _ _ _) | exact (rfl : _ = Value.pointer _) | exact (rfl : _ = Value.map _) | exact (rfl : _ = Value.func _ _ _) | exact (rfl : _ = Value.string _)) (by rfl) (by (repeat (first | exact Upd.head | apply Upd.tail))) (by (try simp only [Zy2, List.take_zero, List.take_nil, Zy1, List.drop_zero, List.drop_nil, List.cons_append, List.nil_append, List.append_nil, List.length_cons, List.length_nil, Nat.reduceAdd, Nat.zero_add, Nat.add_zero]); rfl) (by simp) (by simp [Value.oneCell']) (by kernel_rfl) ?_; clear M; (try clear wc); intro wc M) | (refine m_al M rfl rfl ?_; clear M; (try clear wc); intro g wc M) | (refine m_bx M rfl rfl (by first | exact (rfl : _ = Value.agg _) | exact (rfl : _ = Value.int _ _) | exact (rfl : _ = Value.bool _) | exact (rfl : _ = Value.slice _ _ _) | exact (rfl : _ = Value.pointer _) | exact (rfl : _ = Value.map _) | exact (rfl : _ = Value.func _ _ _) | exact (rfl : _ = Value.string _)) (by rfl) ?_; clear M; (try clear wc); intro g wc M) | (go_at_call 146; ((with_reducible refine (less_any _ _ _ _ _ (by omega) (by omega) (by omega) (by omega)).mono ?_); skip; rintro e wc ⟨rfl, hb⟩; replace M := M.call hb; clear hb)))
         go_roundw
         case rel => exact ⟨i + 1, by omega, by omega, rfl, by rw [E.out.1, E.out.2] at M; exact M⟩
         case measure => simp [intOf]; omega
       · have ei : r = i := (by omega); subst ei
         go_wp2_with (first | (refine m_ld1 M rfl rfl rfl (by (repeat' (first | exact Zz2 | refine Zz1 ?_))) (by rfl) ?_) | (refine m_ldr M rfl rfl rfl (by (repeat' (first | exact Zz2 | refine Zz1 ?_))) (by (try simp only [Zy2, List.take_zero, List.take_nil, Zy1, List.drop_zero, List.drop_nil, List.cons_append, List.nil_append, List.append_nil, List.length_cons, List.length_nil, Nat.reduceAdd, Nat.zero_add, Nat.add_zero]); rfl) (by rfl) ?_) | (refine m_st M rfl rfl rfl (by first | exact (rfl : _ = Value.agg _) | exact (rfl : _ = Value.int _ _) | exact (rfl : _ = Value.bool _) | exact (rfl : _ = Value.slice _ _ _) | exact (rfl : _ = Value.pointer _) | exact (rfl : _ = Value.map _) | exact (rfl : _ = Value.func _ _ _) | exact (rfl : _ = Value.string _)) (by rfl) (by (repeat (first | exact Upd.head | apply Upd.tail))) (by (try simp only [Zy2, List.take_zero, List.take_nil, Zy1, List.drop_zero, List.drop_nil, List.cons_append, List.nil_append, List.append_nil, List.length_cons, List.length_nil, Nat.reduceAdd, Nat.zero_add, Nat.add_zero]); rfl) (by simp) (by simp [Value.oneCell']) (by kernel_rfl) ?_; clear M; (try clear wc); intro wc M) | (refine m_al M rfl rfl ?_; clear M; (try clear wc); intro g wc M) | (refine m_bx M rfl rfl (by first | exact (rfl : _ = Value.agg _) | exact (rfl : _ = Value.int _ _) | exact (rfl : _ = Value.bool _) | exact (rfl : _ = Value.slice _ _ _) | exact (rfl : _ = Value.pointer _) | exact (rfl : _ = Value.map _) | exact (rfl : _ = Value.func _ _ _) | exact (rfl : _ = Value.string _)) (by rfl) ?_; clear M; (try clear wc); intro g wc M))
         refine wp_region_G (fun L W => (L.getD 4 true = false → Mem w noEx W [(gS, .cells [.int .i64 p0, .int .i64 p1, .int .i64 (j.t0 - (t + 1) * j.a1), .int .i64 (j.t1 - (t + 1) * j.a0), .int .i64 (j.r0 - r * j.b1), .int .i64 (j.r1 - r * j.b0), .int .i64 j.u0, .int .i64 j.u1, .int .i64 j.d0, .int .i64 j.d1, .int .i64 j.a0, .int .i64 j.a1, .int .i64 j.b0, .int .i64 j.b1, .int .i64 j.le]), (gR, .cells [.int .i64 0, .int .i64 0, .int .i64 0, .int .i64 0, .int .i64 0]), (gK, .cells [.int .i64 (p0 + j.u0), .int .i64 (p1 + j.u1), .int .i64 (t + 1), .int .i64 (r), .int .i64 (lf - 1)])]) ∧ (L.getD 4 true = true → Mem w noEx W [(gS, .cells [.int .i64 p0, .int .i64 p1, .int .i64 (j.t0 - (t + 1) * j.a1), .int .i64 (j.t1 - (t + 1) * j.a0), .int .i64 (j.r0 - r * j.b1), .int .i64 (j.r1 - r * j.b0), .int .i64 j.u0, .int .i64 j.u1, .int .i64 j.d0, .int .i64 j.d1, .int .i64 j.a0, .int .i64 j.a1, .int .i64 j.b0, .int .i64 j.b1, .int .i64 j.le]), (gR, .cells [.int .i64 (p0 + j.u0), .int .i64 (p1 + j.u1), .int .i64 (t + 1), .int .i64 (r), .int .i64 (lf - 1)]), (gK, .cells [.int .i64 (p0 + j.u0), .int .i64 (p1 + j.u1), .int .i64 (t + 1), .int .i64 (r), .int .i64 (lf - 1)])])) 6 (by kernel_rfl) (by kernel_rfl) ?s0 ?r0
         case s0 => (exact ⟨fun _ => M.drew, fun h => (no_of h (by kernel_rfl)).elim⟩)
         intro W0
         refine wpG_take (i := 0) (v := ?v1) rfl (by kernel_rfl) (by intro L w; simp only [getD_set_ne true (show (0 : Nat) ≠ 4 from by decide)]) (fun _ _ _ h => h) (Or.inl ⟨by rfl, ?y1⟩) ?r1
         case y1 => (intro w' hy; obtain ⟨L, hD, hl, hS⟩ := hy; have M0 := hS.1 (hD.wait (i := 0) (by kernel_rfl) hl); clear hS; first | (refine Eq.trans (Zro (Mem.get M0 (by (repeat' (first | exact Zz2 | refine Zz1 ?_)))) rfl rfl (by rfl)) ?_; with_reducible rfl) | (refine Eq.trans (rn_row (Mem.get M0 (by (repeat' (first | exact Zz2 | refine Zz1 ?_)))) rfl rfl (by (try simp only [Zy2, List.take_zero, List.take_nil, Zy1, List.drop_zero, List.drop_nil, List.cons_append, List.nil_append, List.append_nil, List.length_cons, List.length_nil, Nat.reduceAdd, Nat.zero_add, Nat.add_zero]); rfl) (by rfl)) ?_; with_reducible rfl); (try with_reducible rfl))
         (try simp only [Act.put, Zz3, Zz4, Zz5, Zz6, Zz7, Zz8])
         refine wpG_take (i := 1) (v := ?v2) rfl (by kernel_rfl) (by intro L w; simp only [getD_set_ne true (show (1 : Nat) ≠ 4 from by decide)]) (fun _ _ _ h => h) (Or.inl ⟨by rfl, ?y2⟩) ?r2
         case y2 => (intro w' hy; obtain ⟨L, hD, hl, hS⟩ := hy; have M0 := hS.1 (hD.wait (i := 2) (by kernel_rfl) (hD.wait (m := 2) (i := 1) (by kernel_rfl) hl)); clear hS; first | (refine Eq.trans (Zro (Mem.get M0 (by (repeat' (first | exact Zz2 | refine Zz1 ?_)))) rfl rfl (by rfl)) ?_; with_reducible rfl) | (refine Eq.trans (rn_row (Mem.get M0 (by (repeat' (first | exact Zz2 | refine Zz1 ?_)))) rfl rfl (by (try simp only [Zy2, List.take_zero, List.take_nil, Zy1, List.drop_zero, List.drop_nil, List.cons_append, List.nil_append, List.append_nil, List.length_cons, List.length_nil, Nat.reduceAdd, Nat.zero_add, Nat.add_zero]); rfl) (by rfl)) ?_; with_reducible rfl); (try with_reducible rfl))
         (try simp only [Act.put, Zz3, Zz4, Zz5, Zz6, Zz7, Zz8])
         refine wpG_step (i := 2) (by kernel_rfl) rfl (by rfl) ?r3
         intro hS K hK
         (have M0 := hS.1 (by kernel_rfl); clear hS; go_simp; refine (spoiled_any (thinJ j p0 p1 (t + 1) (r)) _).mono ?_; rintro e V1 ⟨rfl, hb1⟩; refine hK.out _ _ ⟨fun _ => M0.call hb1, fun h => (no_of h (by kernel_rfl)).elim⟩ ?_; clear M0 hb1)
         clear hK K; intro W3
         (try simp only [Act.put, Zz3, Zz4, Zz5, Zz6, Zz7, Zz8])
         refine wpG_take (i := 3) (v := ?v4) rfl (by kernel_rfl) (by intro L w; simp only [getD_set_ne true (show (3 : Nat) ≠ 4 from by decide)]) (fun _ _ _ h => h) (Or.inl ⟨by rfl, ?y4⟩) ?r4
         case y4 => (intro w' hy; obtain ⟨L, hD, hl, hS⟩ := hy; clear hD hl hS; go_simp; (try with_reducible rfl))
         (try simp only [Act.put, Zz3, Zz4, Zz5, Zz6, Zz7, Zz8])
         refine wpG_step (i := 4) (by kernel_rfl) rfl (by rfl) ?r5
         intro hS K hK
         (have M0 := hS.1 (by kernel_rfl); clear hS; refine m_stw M0 rfl rfl (by first | exact (rfl : _ = Value.agg _) | exact (rfl : _ = Value.int _ _) | exact (rfl : _ = Value.bool _) | exact (rfl : _ = Value.slice _ _ _) | exact (rfl : _ = Value.pointer _) | exact (rfl : _ = Value.map _) | exact (rfl : _ = Value.func _ _ _) | exact (rfl : _ = Value.string _)) (by rfl) (by (repeat (first | exact Upd.head | apply Upd.tail))) (by (try simp only [Zy2, List.take_zero, List.take_nil, Zy1, List.drop_zero, List.drop_nil, List.cons_append, List.nil_append, List.append_nil, List.length_cons, List.length_nil, Nat.reduceAdd, Nat.zero_add, Nat.add_zero]); rfl) (by simp) (by simp [Value.oneCell']) (by kernel_rfl) ?_; intro V2 M2; refine hK.out _ _ ⟨fun h => (no_of (by kernel_rfl) h).elim, fun _ => M2⟩ ?_; clear M0 M2)
         clear hK K; intro W5
         (try simp only [Act.put, Zz3, Zz4, Zz5, Zz6, Zz7, Zz8])
         refine wpG_take (i := 5) (v := ?v6) rfl (by kernel_rfl) (by intro L w; simp only [getD_set_ne true (show (5 : Nat) ≠ 4 from by decide)]) (fun _ _ _ h => h) (Or.inl ⟨by rfl, ?y6⟩) ?r6
         case y6 => (intro w' hy; obtain ⟨L, hD, hl, hS⟩ := hy; clear hD hl hS; go_simp; (try with_reducible rfl))
         (try simp only [Act.put, Zz3, Zz4, Zz5, Zz6, Zz7, Zz8])
         refine wpG_end (by kernel_rfl) ?_
         intro W
          hS
         have M1 := hS.2 (by kernel_rfl)
         clear hS
         go_wp2
         refine ret_M1 (t := 6) (t' := 7) (ty := 165) M1 (by rfl) (by rfl) (by rfl) (by rfl) (by (repeat' (first | exact Zz2 | refine Zz1 ?_))) (by rfl) ?_
         exact ⟨rfl, M1.below⟩
set_option maxHeartbeats 2000000 in
theorem moved_root (j : Jb) (A : Option Addr) (c : Nat) (s0 s1 : Int) (bg bx : Nat) (p0 p1 t r lf : Int) (w : World) (hg : j.good) (hp0 : -100000 ≤ p0 ∧ p0 ≤ 100000) (hp1 : -100000 ≤ p1 ∧ p1 ≤ 100000) (ht : 0 ≤ t ∧ t ≤ 1000) (hr : 0 ≤ r ∧ r ≤ 1000) (hl : 1 ≤ lf ∧ lf ≤ 1000) :
   Calls Tryz.prog 143 #[.agg (gmA j A c s0 s1 bg bx).toArray, kn5 p0 p1 t r lf, .int .i64 2] w fun e w' => e = .returned (.tuple #[kn5 (p0 - j.d1) (p1 - j.d0) t (r + 1) (lf - 1), .bool (okT j (t) (r + 1))]) ∧ Below w.heap.size w w' := by
 obtain ⟨g1, g2, g3, g4, g5, g6, g7, g8, -, -, -, -⟩ := hg
 go_enter Tryz.func143, Tryz.ntmps143
 refine start noEx ?_
 intro wc M
 go_wp2_with (first | (refine m_ld1 M rfl rfl rfl (by (repeat' (first | exact Zz2 | refine Zz1 ?_))) (by rfl) ?_) | (refine m_ldr M rfl rfl rfl (by (repeat' (first | exact Zz2 | refine Zz1 ?_))) (by (try simp only [Zy2, List.take_zero, List.take_nil, Zy1, List.drop_zero, List.drop_nil, List.cons_append, List.nil_append, List.append_nil, List.length_cons, List.length_nil, Nat.reduceAdd, Nat.zero_add, Nat.add_zero]); rfl) (by rfl) ?_) | (refine m_st M rfl rfl rfl (by first | exact (rfl : _ = Value.agg _) | exact (rfl : _ = Value.int _ _) | exact (rfl : _ = Value.bool _) | exact (rfl : _ = Value.slice _ _ _) | exact (rfl : _ = Value.pointer _) | exact (rfl : _ = Value.map _) | exact (rfl : _ = Value.func _ _ _) | exact (rfl : _ = Value.string _)) (by rfl) (by (repeat (first | exact Upd.head | apply Upd.tail))) (by (try simp only [Zy2, List.take_zero, List.take_nil, Zy1, List.drop_zero, List.drop_nil, List.cons_append, List.nil_append, List.append_nil, List.length_cons, List.length_nil, Nat.reduceAdd, Nat.zero_add, Nat.add_zero]); rfl) (by simp) (by simp [Value.oneCell']) (by kernel_rfl) ?_; clear M; (try clear wc); intro wc M) | (refine m_al M rfl rfl ?_; clear M; (try clear wc); intro g wc M) | (refine m_bx M rfl rfl (by first | exact (rfl : _ = Value.agg _) | exact (rfl : _ = Value.int _ _) | exact (rfl : _ = Value.bool _) | exact (rfl : _ = Value.slice _ _ _) | exact (rfl : _ = Value.pointer _) | exact (rfl : _ = Value.map _) | exact (rfl : _ = Value.func _ _ _) | exact (rfl : _ = Value.string _)) (by rfl) ?_; clear M; (try clear wc); intro g wc M) | (go_at_call 145; ((with_reducible refine (filed_root_x p0 p1 j.t0 j.t1 j.r0 j.r1 j.u0 j.u1 j.d0 j.d1 j.a0 j.a1 j.b0 j.b1 j.le _ ?_).mono ?_); (constructor <;> dsimp only <;> omega); rintro e wc ⟨rfl, hb⟩; replace M := M.call hb; clear hb)))
 rename_i gG gK gR gS wq K0 hK0
 go_loopw [44] (fun v wr => ∃ i : Int, 0 ≤ i ∧ i ≤ t ∧ v = .int .i64 i ∧ Mem w noEx wr [(gS, .cells [.int .i64 p0, .int .i64 p1, .int .i64 (j.t0 - i * j.a1), .int .i64 (j.t1 - i * j.a0), .int .i64 (j.r0 - 0 * j.b1), .int .i64 (j.r1 - 0 * j.b0), .int .i64 j.u0, .int .i64 j.u1, .int .i64 j.d0, .int .i64 j.d1, .int .i64 j.a0, .int .i64 j.a1, .int .i64 j.b0, .int .i64 j.b1, .int .i64 j.le]), (gR, .cells [.int .i64 0, .int .i64 0, .int .i64 0, .int .i64 0, .int .i64 0]), (gK, .cells [.int .i64 (p0 - j.d1), .int .i64 (p1 - j.d0), .int .i64 (t), .int .i64 (r + 1), .int .i64 (lf - 1)])]) (fun v _ => (t - intOf v).toNat)
 case atStart => exact ⟨0, by omega, by omega, rfl, by simp only [Int.zero_mul, Int.sub_zero]; exact M.sub (by (repeat (first | exact List.Sublist.slnil | apply List.Sublist.cons_cons | apply List.Sublist.cons)))⟩
 case round =>
   clear M wc
   obtain ⟨i, hi0, hi1, rfl, M⟩ := hrel
   obtain ⟨wc, rfl⟩ : ∃ x : World, x = wr := ⟨_, rfl⟩
   have m1 := mul_bd hi0 (by omega) (by omega : 0 ≤ j.a1) (by omega)
   have m2 := mul_bd hi0 (by omega) (by omega : 0 ≤ j.a0) (by omega)
   by_cases hlt : i < t
   · have e1 := mul_suc i j.a1
     have e2 := mul_suc i j.a0
     have E : Hid (Value.int .i64 (j.t0 - i * j.a1 - j.a1) = .int .i64 (j.t0 - (i + 1) * j.a1) ∧ Value.int .i64 (j.t1 - i * j.a0 - j.a0) = .int .i64 (j.t1 - (i + 1) * j.a0)) := ⟨by rw [e1]; congr 1; omega, by rw [e2]; congr 1; omega⟩
     clear e1 e2
     go_wp2_with (first | (refine m_ld1 M rfl rfl rfl (by (repeat' (first | exact Zz2 | refine Zz1 ?_))) (by rfl) ?_) | (refine m_ldr M rfl rfl rfl (by (repeat' (first | exact Zz2 | refine Zz1 ?_))) (by (try simp only [Zy2, List.take_zero, List.take_nil, Zy1, List.drop_zero, List.drop_nil, List.cons_append, List.nil_append, List.append_nil, List.length_cons, List.length_nil, Nat.reduceAdd, Nat.zero_add, Nat.add_zero]); rfl) (by rfl) ?_) | (refine m_st M rfl rfl rfl (by first | exact (rfl : _ = Value.agg _) | exact (rfl : _ = Value.int _ _) | exact (rfl : _ = Value.bool _) | exact (rfl : _ = Value.slice _ _ _) | exact (rfl : _ = Value.pointer _) | exact (rfl : _ = Value.map _) | exact (rfl : _ = Value.func _ _ _) | exact (rfl : _ = Value.string _)) (by rfl) (by (repeat (first | exact Upd.head | apply Upd.tail))) (by (try simp only [Zy2, List.take_zero, List.take_nil, Zy1, List.drop_zero, List.drop_nil, List.cons_append, List.nil_append, List.append_nil, List.length_cons, List.length_nil, Nat.reduceAdd, Nat.zero_add, Nat.add_zero]); rfl) (by simp) (by simp [Value.oneCell']) (by kernel_rfl) ?_; clear M; (try clear wc); intro wc M) | (refine m_al M rfl rfl ?_; clear M; (try clear wc); intro g wc M) | (refine m_bx M rfl rfl (by first | exact (rfl : _ = Value.agg _) | exact (rfl : _ = Value.int _ _) | exact (rfl : _ = Value.bool _) | exact (rfl : _ = Value.slice _ _ _) | exact (rfl : _ = Value.pointer _) | exact (rfl : _ = Value.map _) | exact (rfl : _ = Value.func _ _ _) | exact (rfl : _ = Value.string _)) (by rfl) ?_; clear M; (try clear wc); intro g wc M) | (go_at_call 146; ((with_reducible refine (less_any _ _ _ _ _ (by omega) (by omega) (by omega) (by omega)).mono ?_); skip; rintro e wc ⟨rfl, hb⟩; replace M := M.call hb; clear hb)))
     go_roundw
     case rel => exact ⟨i + 1, by omega, by omega, rfl, by rw [E.out.1, E.out.2] at M; exact M⟩
     case measure => simp [intOf]; omega
   · have ei : t = i := (by omega); subst ei
     go_wp2_with (first | (refine m_ld1 M rfl rfl rfl (by (repeat' (first | exact Zz2 | refine Zz1 ?_))) (by rfl) ?_) | (refine m_ldr M rfl rfl rfl (by (repeat' (first | exact Zz2 | refine Zz1 ?_))) (by (try simp only [Zy2, List.take_zero, List.take_nil, Zy1, List.drop_zero, List.drop_nil, List.cons_append, List.nil_append, List.append_nil, List.length_cons, List.length_nil, Nat.reduceAdd, Nat.zero_add, Nat.add_zero]); rfl) (by rfl) ?_) | (refine m_st M rfl rfl rfl (by first | exact (rfl : _ = Value.agg _) | exact (rfl : _ = Value.int _ _) | exact (rfl : _ = Value.bool _) | exact (rfl : _ = Value.slice _ _ _) | exact (rfl : _ = Value.pointer _) | exact (rfl : _ = Value.map _) | exact (rfl : _ = Value.func _ _ _) | exact (rfl : _ = Value.string _)) (by rfl) (by (repeat (first | exact Upd.head | apply Upd.tail))) (by (try simp only [Zy2, List.take_zero, List.take_nil, Zy1, List.drop_zero, List.drop_nil, List.cons_append, List.nil_append, List.append_nil, List.length_cons, List.length_nil, Nat.reduceAdd, Nat.zero_add, Nat.add_zero]); rfl) (by simp) (by simp [Value.oneCell']) (by kernel_rfl) ?_; clear M; (try clear wc); intro wc M) | (refine m_al M rfl rfl ?_; clear M; (try clear wc); intro g wc M) | (refine m_bx M rfl rfl (by first | exact (rfl : _ = Value.agg _) | exact (rfl : _ = Value.int _ _) | exact (rfl : _ = Value.bool _) | exact (rfl : _ = Value.slice _ _ _) | exact (rfl : _ = Value.pointer _) | exact (rfl : _ = Value.map _) | exact (rfl : _ = Value.func _ _ _) | exact (rfl : _ = Value.string _)) (by rfl) ?_; clear M; (try clear wc); intro g wc M))
     go_loopw [58] (fun v wr => ∃ i : Int, 0 ≤ i ∧ i ≤ r + 1 ∧ v = .int .i64 i ∧ Mem w noEx wr [(gS, .cells [.int .i64 p0, .int .i64 p1, .int .i64 (j.t0 - t * j.a1), .int .i64 (j.t1 - t * j.a0), .int .i64 (j.r0 - i * j.b1), .int .i64 (j.r1 - i * j.b0), .int .i64 j.u0, .int .i64 j.u1, .int .i64 j.d0, .int .i64 j.d1, .int .i64 j.a0, .int .i64 j.a1, .int .i64 j.b0, .int .i64 j.b1, .int .i64 j.le]), (gR, .cells [.int .i64 0, .int .i64 0, .int .i64 0, .int .i64 0, .int .i64 0]), (gK, .cells [.int .i64 (p0 - j.d1), .int .i64 (p1 - j.d0), .int .i64 (t), .int .i64 (r + 1), .int .i64 (lf - 1)])]) (fun v _ => (r + 1 - intOf v).toNat)
     case atStart => exact ⟨0, by omega, by omega, rfl, by simp only [Int.zero_mul, Int.sub_zero] at M ⊢; exact M⟩
     case round =>
       clear M wc
       obtain ⟨i, hi0, hi1, rfl, M⟩ := hrel
       obtain ⟨wc, rfl⟩ : ∃ x : World, x = wr := ⟨_, rfl⟩
       have m3 := mul_bd hi0 (by omega) (by omega : 0 ≤ j.b1) (by omega)
       have m4 := mul_bd hi0 (by omega) (by omega : 0 ≤ j.b0) (by omega)
       by_cases hlt : i < r + 1
       · have e1 := mul_suc i j.b1
         have e2 := mul_suc i j.b0
         have E : Hid (Value.int .i64 (j.r0 - i * j.b1 - j.b1) = .int .i64 (j.r0 - (i + 1) * j.b1) ∧ Value.int .i64 (j.r1 - i * j.b0 - j.b0) = .int .i64 (j.r1 - (i + 1) * j.b0)) := ⟨by rw [e1]; congr 1; omega, by rw [e2]; congr 1; omega⟩
         clear e1 e2
         go_wp2_with (first | (refine m_ld1 M rfl rfl rfl (by (repeat' (first | exact Zz2 | refine Zz1 ?_))) (by rfl) ?_) | (refine m_ldr M rfl rfl rfl (by (repeat' (first | exact Zz2 | refine Zz1 ?_))) (by (try simp only [Zy2, List.take_zero, List.take_nil, Zy1, List.drop_zero, List.drop_nil, List.cons_append, List.nil_append, List.append_nil, List.length_cons, List.length_nil, Nat.reduceAdd, Nat.zero_add, Nat.add_zero]); rfl) (by rfl) ?_) | (refine m_st M rfl rfl rfl (by first | exact (rfl : _ = Value.agg _) | exact (rfl : _ = Value.int _ _) | exact (rfl : _ = Value.bool _) | exact (rfl : _ = Value.slice _ _ _) | exact (rfl : _ = Value.pointer _) | exact (rfl : _ = Value.map _) | exact (rfl : _ = Value.func _ _ _) | exact (rfl : _ = Value.string _)) (by rfl) (by (repeat (first | exact Upd.head | apply Upd.tail))) (by (try simp only [Zy2, List.take_zero, List.take_nil, Zy1, List.drop_zero, List.drop_nil, List.cons_append, List.nil_append, List.append_nil, List.length_cons, List.length_nil, Nat.reduceAdd, Nat.zero_add, Nat.add_zero]); rfl) (by simp) (by simp [Value.oneCell']) (by kernel_rfl) ?_; clear M; (try clear wc); intro wc M) | (refine m_al M rfl rfl ?_; clear M; (try clear wc); intro g wc M) | (refine m_bx M rfl rfl (by first | exact (rfl : _ = Value.agg _) | exact (rfl : _ = Value.int _ _) | exact (rfl : _ = Value.bool _) | exact (rfl : _ = Value.slice _ _ _) | exact (rfl : _ = Value.pointer _) | exact (rfl : _ = Value.map _) | exact (rfl : _ = Value.func _ _ _) | exact (rfl : _ = Value.string _)) (by rfl) ?_; clear M; (try clear wc); intro g wc M) | (go_at_call 146; ((with_reducible refine (less_any _ _ _ _ _ (by omega) (by omega) (by omega) (by omega)).mono ?_); skip; rintro e wc ⟨rfl, hb⟩; replace M := M.call hb; clear hb)))
         go_roundw
         case rel => exact ⟨i + 1, by omega, by omega, rfl, by rw [E.out.1, E.out.2] at M; exact M⟩
         case measure => simp [intOf]; omega
       · have ei : r + 1 = i := (by omega); subst ei
         go_wp2_with (first | (refine m_ld1 M rfl rfl rfl (by (repeat' (first | exact Zz2 | refine Zz1 ?_))) (by rfl) ?_) | (refine m_ldr M rfl rfl rfl (by (repeat' (first | exact Zz2 | refine Zz1 ?_))) (by (try simp only [Zy2, List.take_zero, List.take_nil, Zy1, List.drop_zero, List.drop_nil, List.cons_append, List.nil_append, List.append_nil, List.length_cons, List.length_nil, Nat.reduceAdd, Nat.zero_add, Nat.add_zero]); rfl) (by rfl) ?_) | (refine m_st M rfl rfl rfl (by first | exact (rfl : _ = Value.agg _) | exact (rfl : _ = Value.int _ _) | exact (rfl : _ = Value.bool _) | exact (rfl : _ = Value.slice _ _ _) | exact (rfl : _ = Value.pointer _) | exact (rfl : _ = Value.map _) | exact (rfl : _ = Value.func _ _ _) | exact (rfl : _ = Value.string _)) (by rfl) (by (repeat (first | exact Upd.head | apply Upd.tail))) (by (try simp only [Zy2, List.take_zero, List.take_nil, Zy1, List.drop_zero, List.drop_nil, List.cons_append, List.nil_append, List.append_nil, List.length_cons, List.length_nil, Nat.reduceAdd, Nat.zero_add, Nat.add_zero]); rfl) (by simp) (by simp [Value.oneCell']) (by kernel_rfl) ?_; clear M; (try clear wc); intro wc M) | (refine m_al M rfl rfl ?_; clear M; (try clear wc); intro g wc M) | (refine m_bx M rfl rfl (by first | exact (rfl : _ = Value.agg _) | exact (rfl : _ = Value.int _ _) | exact (rfl : _ = Value.bool _) | exact (rfl : _ = Value.slice _ _ _) | exact (rfl : _ = Value.pointer _) | exact (rfl : _ = Value.map _) | exact (rfl : _ = Value.func _ _ _) | exact (rfl : _ = Value.string _)) (by rfl) ?_; clear M; (try clear wc); intro g wc M))
         refine wp_region_G (fun L W => (L.getD 4 true = false → Mem w noEx W [(gS, .cells [.int .i64 p0, .int .i64 p1, .int .i64 (j.t0 - t * j.a1), .int .i64 (j.t1 - t * j.a0), .int .i64 (j.r0 - (r + 1) * j.b1), .int .i64 (j.r1 - (r + 1) * j.b0), .int .i64 j.u0, .int .i64 j.u1, .int .i64 j.d0, .int .i64 j.d1, .int .i64 j.a0, .int .i64 j.a1, .int .i64 j.b0, .int .i64 j.b1, .int .i64 j.le]), (gR, .cells [.int .i64 0, .int .i64 0, .int .i64 0, .int .i64 0, .int .i64 0]), (gK, .cells [.int .i64 (p0 - j.d1), .int .i64 (p1 - j.d0), .int .i64 (t), .int .i64 (r + 1), .int .i64 (lf - 1)])]) ∧ (L.getD 4 true = true → Mem w noEx W [(gS, .cells [.int .i64 p0, .int .i64 p1, .int .i64 (j.t0 - t * j.a1), .int .i64 (j.t1 - t * j.a0), .int .i64 (j.r0 - (r + 1) * j.b1), .int .i64 (j.r1 - (r + 1) * j.b0), .int .i64 j.u0, .int .i64 j.u1, .int .i64 j.d0, .int .i64 j.d1, .int .i64 j.a0, .int .i64 j.a1, .int .i64 j.b0, .int .i64 j.b1, .int .i64 j.le]), (gR, .cells [.int .i64 (p0 - j.d1), .int .i64 (p1 - j.d0), .int .i64 (t), .int .i64 (r + 1), .int .i64 (lf - 1)]), (gK, .cells [.int .i64 (p0 - j.d1), .int .i64 (p1 - j.d0), .int .i64 (t), .int .i64 (r + 1), .int .i64 (lf - 1)])])) 6 (by kernel_rfl) (by kernel_rfl) ?s0 ?r0
         case s0 => (exact ⟨fun _ => M.drew, fun h => (no_of h (by kernel_rfl)).elim⟩)
         intro W0
         refine wpG_take (i := 0) (v := ?v1) rfl (by kernel_rfl) (by intro L w; simp only [getD_set_ne true (show (0 : Nat) ≠ 4 from by decide)]) (fun _ _ _ h => h) (Or.inl ⟨by rfl, ?y1⟩) ?r1
         case y1 => (intro w' hy; obtain ⟨L, hD, hl, hS⟩ := hy; have M0 := hS.1 (hD.wait (i := 0) (by kernel_rfl) hl); clear hS; first | (refine Eq.trans (Zro (Mem.get M0 (by (repeat' (first | exact Zz2 | refine Zz1 ?_)))) rfl rfl (by rfl)) ?_; with_reducible rfl) | (refine Eq.trans (rn_row (Mem.get M0 (by (repeat' (first | exact Zz2 | refine Zz1 ?_)))) rfl rfl (by (try simp only [Zy2, List.take_zero, List.take_nil, Zy1, List.drop_zero, List.drop_nil, List.cons_append, List.nil_append, List.append_nil, List.length_cons, List.length_nil, Nat.reduceAdd, Nat.zero_add, Nat.add_zero]); rfl) (by rfl)) ?_; with_reducible rfl); (try with_reducible rfl))
         (try simp only [Act.put, Zz3, Zz4, Zz5, Zz6, Zz7, Zz8])
         refine wpG_take (i := 1) (v := ?v2) rfl (by kernel_rfl) (by intro L w; simp only [getD_set_ne true (show (1 : Nat) ≠ 4 from by decide)]) (fun _ _ _ h => h) (Or.inl ⟨by rfl, ?y2⟩) ?r2
         case y2 => (intro w' hy; obtain ⟨L, hD, hl, hS⟩ := hy; have M0 := hS.1 (hD.wait (i := 2) (by kernel_rfl) (hD.wait (m := 2) (i := 1) (by kernel_rfl) hl)); clear hS; first | (refine Eq.trans (Zro (Mem.get M0 (by (repeat' (first | exact Zz2 | refine Zz1 ?_)))) rfl rfl (by rfl)) ?_; with_reducible rfl) | (refine Eq.trans (rn_row (Mem.get M0 (by (repeat' (first | exact Zz2 | refine Zz1 ?_)))) rfl rfl (by (try simp only [Zy2, List.take_zero, List.take_nil, Zy1, List.drop_zero, List.drop_nil, List.cons_append, List.nil_append, List.append_nil, List.length_cons, List.length_nil, Nat.reduceAdd, Nat.zero_add, Nat.add_zero]); rfl) (by rfl)) ?_; with_reducible rfl); (try with_reducible rfl))
         (try simp only [Act.put, Zz3, Zz4, Zz5, Zz6, Zz7, Zz8])
         refine wpG_step (i := 2) (by kernel_rfl) rfl (by rfl) ?r3
         intro hS K hK
         (have M0 := hS.1 (by kernel_rfl); clear hS; go_simp; refine (spoiled_any (thinJ j p0 p1 (t) (r + 1)) _).mono ?_; rintro e V1 ⟨rfl, hb1⟩; refine hK.out _ _ ⟨fun _ => M0.call hb1, fun h => (no_of h (by kernel_rfl)).elim⟩ ?_; clear M0 hb1)
         clear hK K; intro W3
         (try simp only [Act.put, Zz3, Zz4, Zz5, Zz6, Zz7, Zz8])
         refine wpG_take (i := 3) (v := ?v4) rfl (by kernel_rfl) (by intro L w; simp only [getD_set_ne true (show (3 : Nat) ≠ 4 from by decide)]) (fun _ _ _ h => h) (Or.inl ⟨by rfl, ?y4⟩) ?r4
         case y4 => (intro w' hy; obtain ⟨L, hD, hl, hS⟩ := hy; clear hD hl hS; go_simp; (try with_reducible rfl))
         (try simp only [Act.put, Zz3, Zz4, Zz5, Zz6, Zz7, Zz8])
         refine wpG_step (i := 4) (by kernel_rfl) rfl (by rfl) ?r5
         intro hS K hK
         (have M0 := hS.1 (by kernel_rfl); clear hS; refine m_stw M0 rfl rfl (by first | exact (rfl : _ = Value.agg _) | exact (rfl : _ = Value.int _ _) | exact (rfl : _ = Value.bool _) | exact (rfl : _ = Value.slice _ _ _) | exact (rfl : _ = Value.pointer _) | exact (rfl : _ = Value.map _) | exact (rfl : _ = Value.func _ _ _) | exact (rfl : _ = Value.string _)) (by rfl) (by (repeat (first | exact Upd.head | apply Upd.tail))) (by (try simp only [Zy2, List.take_zero, List.take_nil, Zy1, List.drop_zero, List.drop_nil, List.cons_append, List.nil_append, List.append_nil, List.length_cons, List.length_nil, Nat.reduceAdd, Nat.zero_add, Nat.add_zero]); rfl) (by simp) (by simp [Value.oneCell']) (by kernel_rfl) ?_; intro V2 M2; refine hK.out _ _ ⟨fun h => (no_of (by kernel_rfl) h).elim, fun _ => M2⟩ ?_; clear M0 M2)
         clear hK K; intro W5
         (try simp only [Act.put, Zz3, Zz4, Zz5, Zz6, Zz7, Zz8])
         refine wpG_take (i := 5) (v := ?v6) rfl (by kernel_rfl) (by intro L w; simp only [getD_set_ne true (show (5 : Nat) ≠ 4 from by decide)]) (fun _ _ _ h => h) (Or.inl ⟨by rfl, ?y6⟩) ?r6
         case y6 => (intro w' hy; obtain ⟨L, hD, hl, hS⟩ := hy; clear hD hl hS; go_simp; (try with_reducible rfl))
         (try simp only [Act.put, Zz3, Zz4, Zz5, Zz6, Zz7, Zz8])
         refine wpG_end (by kernel_rfl) ?_
         intro W
          hS
         have M1 := hS.2 (by kernel_rfl)
         clear hS
         go_wp2
         refine ret_M1 (t := 6) (t' := 7) (ty := 165) M1 (by rfl) (by rfl) (by rfl) (by rfl) (by (repeat' (first | exact Zz2 | refine Zz1 ?_))) (by rfl) ?_
         exact ⟨rfl, M1.below⟩
section
open Go.RowKit Go.Shelf
attribute [local go_sem] Oper.semAt_some
def stopsP (j : Jb) (s0 s1 : Int) : Nat → Int → Int → Int → Int → Bool
 | 0, p0, p1, _, _ => hasB s0 s1 p0 p1
 | n + 1, p0, p1, t, r => hasB s0 s1 p0 p1 || ((okT j (t + 1) r && (rdgs (p0 + j.u0) (p1 + j.u1) j.me).all fun x => stopsP j s0 s1 n x.1 x.2 (t + 1) r) || (okT j t (r + 1) && (rdgs (p0 - j.d1) (p1 - j.d0) j.me).all fun x => stopsP j s0 s1 n x.1 x.2 t (r + 1)))
def readsP (j : Jb) (s0 s1 : Int) (n : Nat) (p0 p1 t r : Int) : Bool := (rdgs p0 p1 j.me).all fun x => stopsP j s0 s1 n x.1 x.2 t r
def strokeP (j : Jb) (s0 s1 : Int) : Nat → Int → Int → Int → Int → Int
 | 0, _, _, _, _ => 0
 | n + 1, p0, p1, t, r => if (okT j (t + 1) r && readsP j s0 s1 n (p0 + j.u0) (p1 + j.u1) (t + 1) r) = true then 1 else if (okT j t (r + 1) && readsP j s0 s1 n (p0 - j.d1) (p1 - j.d0) t (r + 1)) = true then 2 else 0
theorem stopsP_eq (j : Jb) (s0 s1 : Int) (n : Nat) (p0 p1 t r : Int) : stopsP j s0 s1 n p0 p1 t r = (hasB s0 s1 p0 p1 || decide (0 < strokeP j s0 s1 n p0 p1 t r)) := by
 cases n with
 | zero => simp [stopsP, strokeP]
 | succ n =>
  show (hasB s0 s1 p0 p1 || ((okT j (t + 1) r && readsP j s0 s1 n (p0 + j.u0) (p1 + j.u1) (t + 1) r) || (okT j t (r + 1) && readsP j s0 s1 n (p0 - j.d1) (p1 - j.d0) t (r + 1)))) = (hasB s0 s1 p0 p1 || decide (0 < (if (okT j (t + 1) r && readsP j s0 s1 n (p0 + j.u0) (p1 + j.u1) (t + 1) r) = true then (1 : Int) else if (okT j t (r + 1) && readsP j s0 s1 n (p0 - j.d1) (p1 - j.d0) t (r + 1)) = true then 2 else 0)))
  generalize (okT j (t + 1) r && readsP j s0 s1 n (p0 + j.u0) (p1 + j.u1) (t + 1) r) = x
  generalize (okT j t (r + 1) && readsP j s0 s1 n (p0 - j.d1) (p1 - j.d0) t (r + 1)) = y
  cases x <;> cases y <;> rfl
def okG (j : Jb) (s0 s1 : Int) (key v : Value) : Prop := ∀ (p0 p1 t r : Int) (n : Nat), key = kn5 p0 p1 t r n → v = .bool (stopsP j s0 s1 n p0 p1 t r)
def memG (j : Jb) (s0 s1 : Int) : BA := .any (memoQ Tryz.prog 165 (okG j s0 s1))
structure Bnd (n : Nat) (p0 p1 t r : Int) : Prop where
 lv : n ≤ 10
 p0 : -(100000 - 100 * (n : Int)) ≤ p0 ∧ p0 ≤ 100000 - 100 * (n : Int)
 p1 : -(100000 - 100 * (n : Int)) ≤ p1 ∧ p1 ≤ 100000 - 100 * (n : Int)
 t : 0 ≤ t ∧ t ≤ 900 - (n : Int)
 r : 0 ≤ r ∧ r ≤ 900 - (n : Int)
structure Gm (j : Jb) (A : Option Addr) (c : Nat) (s0 s1 : Int) (bg bx bm : Nat) (w : World) : Prop where
 g : Bk w bg (gmA j A c s0 s1 bg bx).toArray
 x : Bk w bx #[.map (some bm)]
 m : (memG j s0 s1).holds w bm
 ng : bg ≠ bm
 nx : bx ≠ bm
def GPost (j : Jb) (s0 s1 : Int) (bm : Nat) (v : Value) (w : World) (e : Ending) (w' : World) : Prop := e = .returned v ∧ w.grownBy w' (some bm) ∧ (memG j s0 s1).holds w' bm
def StopsC (j : Jb) (A : Option Addr) (c : Nat) (s0 s1 : Int) (bg bx bm : Nat) (n : Nat) : Prop :=
 ∀ (p0 p1 t r : Int) (w : World), Bnd n p0 p1 t r → Gm j A c s0 s1 bg bx bm w →
  Calls Tryz.prog 138 #[kn5 p0 p1 t r n, .pointer (some ⟨bg, 0, none⟩), .pointer (some ⟨bx, 0, none⟩)] w (GPost j s0 s1 bm (.bool (stopsP j s0 s1 n p0 p1 t r)) w)
section
variable {j : Jb} {A : Option Addr} {c : Nat} {s0 s1 : Int} {bg bx bm : Nat} {w w' : World}
theorem Gm.kept (h : Gm j A c s0 s1 bg bx bm w) (hg : w.grownBy w' (some bm)) (hm : (memG j s0 s1).holds w' bm) : Gm j A c s0 s1 bg bx bm w' :=
 ⟨h.g.grown hg (fun e => h.ng (by injection e)), h.x.grown hg (fun e => h.nx (by injection e)), hm, h.ng, h.nx⟩
end
def allS (j : Jb) (s0 s1 : Int) (n : Nat) (t r : Int) {B : Int} (pre : List (Rg B)) : Bool := (pre.map Subtype.val).all fun x => stopsP j s0 s1 n x.1 x.2 t r
theorem allS_snoc (j : Jb) (s0 s1 : Int) (n : Nat) (t r : Int) {B : Int} (pre : List (Rg B)) (x : Rg B) : allS j s0 s1 n t r (pre ++ [x]) = (allS j s0 s1 n t r pre && stopsP j s0 s1 n x.1.1 x.1.2 t r) := by simp [allS]
theorem reads_any (j : Jb) (A : Option Addr) (c : Nat) (s0 s1 : Int) (bg bx bm : Nat) (n : Nat) (hj : j.good) (hS : StopsC j A c s0 s1 bg bx bm n) (p0 p1 t r : Int) (w : World) (hb : Bnd n p0 p1 t r) (hg : Gm j A c s0 s1 bg bx bm w) :
  Calls Tryz.prog 130 #[.agg (gmA j A c s0 s1 bg bx).toArray, kn5 p0 p1 t r n] w (GPost j s0 s1 bm (.bool (readsP j s0 s1 n p0 p1 t r)) w) := by
 have HS := Lib.hid hS
 have HG := Lib.hid hg
 have HB := Lib.hid hb
 have M := Mem.initEx hg.m
 clear hS hg hb
 refine (callsIn_wide (n := 8)).1 (callsIn_of_wp_marks Tryz.func130 rfl trivial (wpIn_wide.2 ?_) rfl)
 simp only [Tryz.ntmps130, List.size_toArray, List.length_cons, List.length_nil, Nat.reduceAdd, Nat.reduceSub, Array.replicate_succ, Array.replicate_zero, List.push_toArray, List.append_toArray, List.nil_append, List.cons_append]
 refine m_start M ?_
 clear M
 intro wc M
 go_wp2_with (first | (refine m_ld1 M rfl rfl rfl (by (repeat' (first | exact Zz2 | refine Zz1 ?_))) (by rfl) ?_) | (refine m_ldr M rfl rfl rfl (by (repeat' (first | exact Zz2 | refine Zz1 ?_))) (by (try simp only [Zy2, List.take_zero, List.take_nil, Zy1, List.drop_zero, List.drop_nil, List.cons_append, List.nil_append, List.append_nil, List.length_cons, List.length_nil, Nat.reduceAdd, Nat.zero_add, Nat.add_zero]); rfl) (by rfl) ?_) | (refine m_st M rfl rfl rfl (by first | exact (rfl : _ = Value.agg _) | exact (rfl : _ = Value.int _ _) | exact (rfl : _ = Value.bool _) | exact (rfl : _ = Value.slice _ _ _) | exact (rfl : _ = Value.pointer _) | exact (rfl : _ = Value.map _) | exact (rfl : _ = Value.func _ _ _) | exact (rfl : _ = Value.string _)) (by rfl) (by (repeat (first | exact Upd.head | apply Upd.tail))) (by (try simp only [Zy2, List.take_zero, List.take_nil, Zy1, List.drop_zero, List.drop_nil, List.cons_append, List.nil_append, List.append_nil, List.length_cons, List.length_nil, Nat.reduceAdd, Nat.zero_add, Nat.add_zero]); rfl) (by simp) (by simp [Value.oneCell']) (by kernel_rfl) ?_; clear M; (try clear wc); intro wc M) | (refine m_al M rfl rfl ?_; clear M; (try clear wc); intro g wc M) | (refine m_bx M rfl rfl (by first | exact (rfl : _ = Value.agg _) | exact (rfl : _ = Value.int _ _) | exact (rfl : _ = Value.bool _) | exact (rfl : _ = Value.slice _ _ _) | exact (rfl : _ = Value.pointer _) | exact (rfl : _ = Value.map _) | exact (rfl : _ = Value.func _ _ _) | exact (rfl : _ = Value.string _)) (by rfl) ?_; clear M; (try clear wc); intro g wc M))
 apply wp_scope_straight
 go_wp2_with (first | (refine m_ld1 M rfl rfl rfl (by (repeat' (first | exact Zz2 | refine Zz1 ?_))) (by rfl) ?_) | (refine m_ldr M rfl rfl rfl (by (repeat' (first | exact Zz2 | refine Zz1 ?_))) (by (try simp only [Zy2, List.take_zero, List.take_nil, Zy1, List.drop_zero, List.drop_nil, List.cons_append, List.nil_append, List.append_nil, List.length_cons, List.length_nil, Nat.reduceAdd, Nat.zero_add, Nat.add_zero]); rfl) (by rfl) ?_) | (refine m_st M rfl rfl rfl (by first | exact (rfl : _ = Value.agg _) | exact (rfl : _ = Value.int _ _) | exact (rfl : _ = Value.bool _) | exact (rfl : _ = Value.slice _ _ _) | exact (rfl : _ = Value.pointer _) | exact (rfl : _ = Value.map _) | exact (rfl : _ = Value.func _ _ _) | exact (rfl : _ = Value.string _)) (by rfl) (by (repeat (first | exact Upd.head | apply Upd.tail))) (by (try simp only [Zy2, List.take_zero, List.take_nil, Zy1, List.drop_zero, List.drop_nil, List.cons_append, List.nil_append, List.append_nil, List.length_cons, List.length_nil, Nat.reduceAdd, Nat.zero_add, Nat.add_zero]); rfl) (by simp) (by simp [Value.oneCell']) (by kernel_rfl) ?_; clear M; (try clear wc); intro wc M) | (refine m_al M rfl rfl ?_; clear M; (try clear wc); intro g wc M) | (refine m_bx M rfl rfl (by first | exact (rfl : _ = Value.agg _) | exact (rfl : _ = Value.int _ _) | exact (rfl : _ = Value.bool _) | exact (rfl : _ = Value.slice _ _ _) | exact (rfl : _ = Value.pointer _) | exact (rfl : _ = Value.map _) | exact (rfl : _ = Value.func _ _ _) | exact (rfl : _ = Value.string _)) (by rfl) ?_; clear M; (try clear wc); intro g wc M))
 apply wp_label
 go_wp2_with (first | (refine m_ld1 M rfl rfl rfl (by (repeat' (first | exact Zz2 | refine Zz1 ?_))) (by rfl) ?_) | (refine m_ldr M rfl rfl rfl (by (repeat' (first | exact Zz2 | refine Zz1 ?_))) (by (try simp only [Zy2, List.take_zero, List.take_nil, Zy1, List.drop_zero, List.drop_nil, List.cons_append, List.nil_append, List.append_nil, List.length_cons, List.length_nil, Nat.reduceAdd, Nat.zero_add, Nat.add_zero]); rfl) (by rfl) ?_) | (refine m_st M rfl rfl rfl (by first | exact (rfl : _ = Value.agg _) | exact (rfl : _ = Value.int _ _) | exact (rfl : _ = Value.bool _) | exact (rfl : _ = Value.slice _ _ _) | exact (rfl : _ = Value.pointer _) | exact (rfl : _ = Value.map _) | exact (rfl : _ = Value.func _ _ _) | exact (rfl : _ = Value.string _)) (by rfl) (by (repeat (first | exact Upd.head | apply Upd.tail))) (by (try simp only [Zy2, List.take_zero, List.take_nil, Zy1, List.drop_zero, List.drop_nil, List.cons_append, List.nil_append, List.append_nil, List.length_cons, List.length_nil, Nat.reduceAdd, Nat.zero_add, Nat.add_zero]); rfl) (by simp) (by simp [Value.oneCell']) (by kernel_rfl) ?_; clear M; (try clear wc); intro wc M) | (refine m_al M rfl rfl ?_; clear M; (try clear wc); intro g wc M) | (refine m_bx M rfl rfl (by first | exact (rfl : _ = Value.agg _) | exact (rfl : _ = Value.int _ _) | exact (rfl : _ = Value.bool _) | exact (rfl : _ = Value.slice _ _ _) | exact (rfl : _ = Value.pointer _) | exact (rfl : _ = Value.map _) | exact (rfl : _ = Value.func _ _ _) | exact (rfl : _ = Value.string _)) (by rfl) ?_; clear M; (try clear wc); intro g wc M) | (go_at_call 141; refine (readings_any _ _ _ _).mono ?_; rintro e wc ⟨b1, b2, rfl, N⟩; replace M := M.join N; clear N; simp only [List.cons_append, List.nil_append] at M))
 rename_i gG gK wq K0 hK0
 have hnd := M.nd
 simp only [List.map_cons, List.map_nil, List.nodup_cons, List.mem_cons, not_or, List.not_mem_nil, not_false_eq_true, List.nodup_nil, and_true] at hnd
 obtain ⟨⟨-, -, -, -, nx2⟩, ⟨-, -, -, nx1⟩, ⟨-, -, nxA⟩, -⟩ := hnd
 have hz0 := M.size
 have q1 := M.get (g := b1) (by (repeat' (first | exact Zz2 | refine Zz1 ?_)))
 have q2 := M.get (g := b2) (by (repeat' (first | exact Zz2 | refine Zz1 ?_)))
 replace M := M.forget.forget
 have hL : ∀ p ∈ [(g, BA.cells [.bool true]), (gK, .cells [.int .i64 p0, .int .i64 p1, .int .i64 t, .int .i64 r, .int .i64 n]), (gG, .cells (gmA j A c s0 s1 bg bx)), (bm, memG j s0 s1)], p.1 < wc.heap.size := fun p hp => BA.lt (M.blk p hp).2
 have hL' : ∀ p ∈ [(g, BA.cells [.bool false]), (gK, .cells [.int .i64 p0, .int .i64 p1, .int .i64 t, .int .i64 r, .int .i64 n]), (gG, .cells (gmA j A c s0 s1 bg bx)), (bm, memG j s0 s1)], p.1 < wc.heap.size := by
  intro p hp
  rcases List.mem_cons.1 hp with rfl | hp
  ·exact hL (g, BA.cells [.bool true]) Zz2
  ·exact hL p (Zz1 hp)
 have hlm : bm < wc.heap.size := hL (bm, memG j s0 s1) (by (repeat' (first | exact Zz2 | refine Zz1 ?_)))
 have hlg : g < wc.heap.size := hL (g, BA.cells [.bool true]) (by (repeat' (first | exact Zz2 | refine Zz1 ?_)))
 obtain ⟨hlv, hb0, hb1, hbt, hbr⟩ := HB.out
 have hme := hj.me
 refine (wpIn_wide (n := 8)).1 (wpIn_rangeFunc_ownH (α := Rg (100000 - 100 * (n : Int))) rfl (by omega) (gf := 144) (lb := #[.pointer (some ⟨b1, 0, none⟩), .pointer (some ⟨b2, 0, none⟩)]) rfl trivial (enters_of Tryz.func144 (by kernel_rfl) rfl)
  (readings_stops 7 (by omega) b1 b2 wc.heap.size bm p0 p1 j.me _ (by omega) (by omega) hb0 hb1 (by omega) (by omega) q1.lt q2.lt nx1 nx2 wc q1 q2)
  (fun h k => Kp.t h k) (fun W l o o' hl h _ _ => ⟨by simp, fun b hb _ => World.putObj_heap_other (by omega)⟩) (Below.refl _ _) (fun _ => rfl)
  (fun pre W => Mem w (fun b => b = bm) W [(g, BA.cells [.bool true]), (gK, .cells [.int .i64 p0, .int .i64 p1, .int .i64 t, .int .i64 r, .int .i64 n]), (gG, .cells (gmA j A c s0 s1 bg bx)), (bm, memG j s0 s1)] ∧ Hid (allS j s0 s1 n t r pre = true) ∧ wc.heap.size ≤ W.heap.size)
  (fun cd pre W => cd = .exit 0 ∧ Mem w (fun b => b = bm) W [(g, BA.cells [.bool false]), (gK, .cells [.int .i64 p0, .int .i64 p1, .int .i64 t, .int .i64 r, .int .i64 n]), (gG, .cells (gmA j A c s0 s1 bg bx)), (bm, memG j s0 s1)] ∧ Hid (allS j s0 s1 n t r pre = false) ∧ wc.heap.size ≤ W.heap.size)
  (fun s W W' row hs hg hr => ⟨hs.1.far hg (fun r e => (hr r e).1) hz0 hL, hs.2.1, Nat.le_trans hs.2.2 hg.size⟩)
  (fun cd s W W' row hs hg hr => ⟨hs.1, hs.2.1.far hg (fun r e => (hr r e).1) hz0 hL', hs.2.2.1, Nat.le_trans hs.2.2.2 hg.size⟩)
  ⟨M, rfl, Nat.le_refl _⟩
  (fun x a' W => ∃ gx, Bk W gx #[.int .i64 x.1.1, .int .i64 x.1.2] ∧ a' = { tmps := #[.agg (gmA j A c s0 s1 bg bx).toArray, kn5 p0 p1 t r n, .pointer (some ⟨gG, 0, none⟩), .pointer (some ⟨gK, 0, none⟩), .bool false, .pointer (some ⟨g, 0, none⟩), .pointer (some ⟨gx, 0, none⟩), .pointer (some ⟨gK, 0, none⟩), R2 p0 p1, .pointer (some ⟨gG, 0, none⟩), .pointer (some ⟨gG, 17, none⟩), .int .i64 j.me, .func (.func 144) #[] #[.pointer (some ⟨b1, 0, none⟩), .pointer (some ⟨b2, 0, none⟩)], R2 x.1.1 x.1.2, undef, undef, undef, undef, undef, undef, undef, undef, undef, undef, undef, undef, undef], defers := [] })
  (fun x a' _ W W' row hs hg hr => by
   obtain ⟨gx, bX, rfl⟩ := hs
   refine ⟨gx, bX.grown hg (fun e => ?_), rfl⟩
   obtain ⟨_, o, ho, hc⟩ := hr gx e.symm
   have h1 := bX.cell 0
   simp only [World.cell?, ho] at h1
   cases o <;> simp [Obj.isCells] at hc h1)
  ?assign ?body ?done ?stop)
 case assign =>
  rintro l pre x W K ⟨M1, hp, hz⟩ hK
  gi_wp2
  exact hK _ _ ((KeepsOthers.alloc _ _).from _) ⟨by simp, fun b hb _ => (MapKept.heap_alloc W _).2 b (by omega)⟩ ⟨M1.alloc _, hp, by simp; omega⟩ ⟨W.heap.size, Bk.new W _ _, rfl⟩
 case body =>
  rintro l pre x a' W hl - ⟨M, hp, hz⟩ ⟨gx, bX, rfl⟩ hlt
  have C := HS.out x.1.1 x.1.2 t r W ⟨hlv, x.2.1, x.2.2, hbt, hbr⟩ (HG.out.kept M.grown (M.at (q := (bm, memG j s0 s1)) (by (repeat' (first | exact Zz2 | refine Zz1 ?_)))))
  have HP : Hid (allS j s0 s1 n t r (pre ++ [x]) = stopsP j s0 s1 n x.1.1 x.1.2 t r) := by (show _ = _; rw [allS_snoc, hp.out]; simp)
  cases hv : stopsP j s0 s1 n x.1.1 x.1.2 t r with
  | true =>
   rw [hv] at C HP
   clear hv
   gi_wp2_with (first | (refine i_ld1 M rfl rfl rfl (by (repeat' (first | exact Zz2 | refine Zz1 ?_))) (by rfl) ?_) | (refine i_ldr M rfl rfl rfl (by (repeat' (first | exact Zz2 | refine Zz1 ?_))) (by (try simp only [Zy2, List.take_zero, List.take_nil, Zy1, List.drop_zero, List.drop_nil, List.cons_append, List.nil_append, List.append_nil, List.length_cons, List.length_nil, Nat.reduceAdd, Nat.zero_add, Nat.add_zero]); rfl) (by rfl) ?_) | (refine i_al M rfl rfl ?_; clear M; (try clear wc); intro g wc M) | (refine i_bx M rfl rfl (by first | exact (rfl : _ = Value.agg _) | exact (rfl : _ = Value.int _ _) | exact (rfl : _ = Value.bool _) | exact (rfl : _ = Value.slice _ _ _) | exact (rfl : _ = Value.pointer _) | exact (rfl : _ = Value.map _) | exact (rfl : _ = Value.func _ _ _) | exact (rfl : _ = Value.string _)) (by rfl) ?_; clear M; (try clear wc); intro g wc M) | (refine i_st M rfl rfl rfl (by first | exact (rfl : _ = Value.agg _) | exact (rfl : _ = Value.int _ _) | exact (rfl : _ = Value.bool _) | exact (rfl : _ = Value.slice _ _ _) | exact (rfl : _ = Value.pointer _) | exact (rfl : _ = Value.map _) | exact (rfl : _ = Value.func _ _ _) | exact (rfl : _ = Value.string _)) (by rfl) (by (repeat (first | exact Upd.head | apply Upd.tail))) (by (try simp only [Zy2, List.take_zero, List.take_nil, Zy1, List.drop_zero, List.drop_nil, List.cons_append, List.nil_append, List.append_nil, List.length_cons, List.length_nil, Nat.reduceAdd, Nat.zero_add, Nat.add_zero]); rfl) (by simp) (by simp [Value.oneCell']) (by kernel_rfl) ?_; clear M; (try clear wc); intro wc M oth; clear oth) | (refine i_lor bX rfl rfl rfl (by (try simp only [Zy2, List.take_zero, List.take_nil, Zy1, List.drop_zero, List.drop_nil, List.cons_append, List.nil_append, List.append_nil, List.length_cons, List.length_nil, Nat.reduceAdd, Nat.zero_add, Nat.add_zero]); rfl) (by rfl) ?_) | (refine ⟨trivial, ?_⟩; gi_at_call 138; refine (CallsIn.inRound l (callsIn_wide.2 C)).mono ?_; rintro e W2 ⟨rfl, hgr, hm⟩; replace M := M.callW (L' := [(g, BA.cells [.bool true]), (gK, .cells [.int .i64 p0, .int .i64 p1, .int .i64 t, .int .i64 r, .int .i64 n]), (gG, .cells (gmA j A c s0 s1 bg bx)), (bm, memG j s0 s1)]) (by (repeat (first | exact Upd.head | apply Upd.tail))) hgr hm))
   exact ⟨KeepsFrom.of_grownBy hgr (fun i e => by cases e; exact hlm), ⟨hgr.size, fun b hb hx => hgr.block b (by omega) (fun e => hx (by injection e))⟩, M, HP, Nat.le_trans hz hgr.size⟩
  | false =>
   rw [hv] at C HP
   clear hv
   gi_wp2_with (first | (refine i_st M rfl rfl rfl (by first | exact (rfl : _ = Value.agg _) | exact (rfl : _ = Value.int _ _) | exact (rfl : _ = Value.bool _) | exact (rfl : _ = Value.slice _ _ _) | exact (rfl : _ = Value.pointer _) | exact (rfl : _ = Value.map _) | exact (rfl : _ = Value.func _ _ _) | exact (rfl : _ = Value.string _)) (by rfl) (by (repeat (first | exact Upd.head | apply Upd.tail))) (by (try simp only [Zy2, List.take_zero, List.take_nil, Zy1, List.drop_zero, List.drop_nil, List.cons_append, List.nil_append, List.append_nil, List.length_cons, List.length_nil, Nat.reduceAdd, Nat.zero_add, Nat.add_zero]); rfl) (by simp) (by simp [Value.oneCell']) (by kernel_rfl) ?_; clear M; intro W3 M oth) | (refine i_ld1 M rfl rfl rfl (by (repeat' (first | exact Zz2 | refine Zz1 ?_))) (by rfl) ?_) | (refine i_ldr M rfl rfl rfl (by (repeat' (first | exact Zz2 | refine Zz1 ?_))) (by (try simp only [Zy2, List.take_zero, List.take_nil, Zy1, List.drop_zero, List.drop_nil, List.cons_append, List.nil_append, List.append_nil, List.length_cons, List.length_nil, Nat.reduceAdd, Nat.zero_add, Nat.add_zero]); rfl) (by rfl) ?_) | (refine i_al M rfl rfl ?_; clear M; (try clear wc); intro g wc M) | (refine i_bx M rfl rfl (by first | exact (rfl : _ = Value.agg _) | exact (rfl : _ = Value.int _ _) | exact (rfl : _ = Value.bool _) | exact (rfl : _ = Value.slice _ _ _) | exact (rfl : _ = Value.pointer _) | exact (rfl : _ = Value.map _) | exact (rfl : _ = Value.func _ _ _) | exact (rfl : _ = Value.string _)) (by rfl) ?_; clear M; (try clear wc); intro g wc M) | (refine i_st M rfl rfl rfl (by first | exact (rfl : _ = Value.agg _) | exact (rfl : _ = Value.int _ _) | exact (rfl : _ = Value.bool _) | exact (rfl : _ = Value.slice _ _ _) | exact (rfl : _ = Value.pointer _) | exact (rfl : _ = Value.map _) | exact (rfl : _ = Value.func _ _ _) | exact (rfl : _ = Value.string _)) (by rfl) (by (repeat (first | exact Upd.head | apply Upd.tail))) (by (try simp only [Zy2, List.take_zero, List.take_nil, Zy1, List.drop_zero, List.drop_nil, List.cons_append, List.nil_append, List.append_nil, List.length_cons, List.length_nil, Nat.reduceAdd, Nat.zero_add, Nat.add_zero]); rfl) (by simp) (by simp [Value.oneCell']) (by kernel_rfl) ?_; clear M; (try clear wc); intro wc M oth; clear oth) | (refine i_lor bX rfl rfl rfl (by (try simp only [Zy2, List.take_zero, List.take_nil, Zy1, List.drop_zero, List.drop_nil, List.cons_append, List.nil_append, List.append_nil, List.length_cons, List.length_nil, Nat.reduceAdd, Nat.zero_add, Nat.add_zero]); rfl) (by rfl) ?_) | (refine ⟨trivial, ?_⟩; gi_at_call 138; refine (CallsIn.inRound l (callsIn_wide.2 C)).mono ?_; rintro e W2 ⟨rfl, hgr, hm⟩; replace M := M.callW (L' := [(g, BA.cells [.bool true]), (gK, .cells [.int .i64 p0, .int .i64 p1, .int .i64 t, .int .i64 r, .int .i64 n]), (gG, .cells (gmA j A c s0 s1 bg bx)), (bm, memG j s0 s1)]) (by (repeat (first | exact Upd.head | apply Upd.tail))) hgr hm))
   have hk3 : KeepsFrom wc.heap.size W2 W3 := ⟨by rw [oth.size]; exact Nat.le_refl _, fun k o hk h _ => (oth.block k (by omega)).trans h⟩
   exact ⟨(KeepsFrom.of_grownBy hgr (fun i e => by cases e; exact hlm)).trans hk3, rfl, M, HP, by rw [oth.size]; exact Nat.le_trans hz hgr.size⟩
 case done =>
  rintro D ys W hD hS ⟨M, hp, -⟩ hK
  go_wp2_with (first | (refine m_ld1 M rfl rfl rfl (by (repeat' (first | exact Zz2 | refine Zz1 ?_))) (by rfl) ?_) | (refine m_ldr M rfl rfl rfl (by (repeat' (first | exact Zz2 | refine Zz1 ?_))) (by (try simp only [Zy2, List.take_zero, List.take_nil, Zy1, List.drop_zero, List.drop_nil, List.cons_append, List.nil_append, List.append_nil, List.length_cons, List.length_nil, Nat.reduceAdd, Nat.zero_add, Nat.add_zero]); rfl) (by rfl) ?_) | (refine m_st M rfl rfl rfl (by first | exact (rfl : _ = Value.agg _) | exact (rfl : _ = Value.int _ _) | exact (rfl : _ = Value.bool _) | exact (rfl : _ = Value.slice _ _ _) | exact (rfl : _ = Value.pointer _) | exact (rfl : _ = Value.map _) | exact (rfl : _ = Value.func _ _ _) | exact (rfl : _ = Value.string _)) (by rfl) (by (repeat (first | exact Upd.head | apply Upd.tail))) (by (try simp only [Zy2, List.take_zero, List.take_nil, Zy1, List.drop_zero, List.drop_nil, List.cons_append, List.nil_append, List.append_nil, List.length_cons, List.length_nil, Nat.reduceAdd, Nat.zero_add, Nat.add_zero]); rfl) (by simp) (by simp [Value.oneCell']) (by kernel_rfl) ?_; clear M; (try clear wc); intro wc M) | (refine m_al M rfl rfl ?_; clear M; (try clear wc); intro g wc M) | (refine m_bx M rfl rfl (by first | exact (rfl : _ = Value.agg _) | exact (rfl : _ = Value.int _ _) | exact (rfl : _ = Value.bool _) | exact (rfl : _ = Value.slice _ _ _) | exact (rfl : _ = Value.pointer _) | exact (rfl : _ = Value.map _) | exact (rfl : _ = Value.func _ _ _) | exact (rfl : _ = Value.string _)) (by rfl) ?_; clear M; (try clear wc); intro g wc M))
  rw [Exit.noGoto_ret]
  have M2 := M.far (grownBy_putObj' W D (.deferred none)) (n0 := wc.heap.size) (fun r e => by cases e; exact hD) hz0 hL
  have hv : readsP j s0 s1 n p0 p1 t r = true := by rw [← hp.out]; unfold readsP allS; rw [← hS]
  refine ⟨by simp, .inl ⟨_, _, rfl, run_takeDeferred hK, _, results_tmp rfl _ _ _, ?_⟩⟩
  rw [hv]
  exact ⟨rfl, M2.grown, M2.at (q := (bm, memG j s0 s1)) (by (repeat' (first | exact Zz2 | refine Zz1 ?_)))⟩
 case stop =>
  rintro D cd pre W hD hSp ⟨rfl, M, hp, -⟩ hK
  refine wpIn_wide.2 ?_
  go_wp2_with (first | (refine m_ld1 M rfl rfl rfl (by (repeat' (first | exact Zz2 | refine Zz1 ?_))) (by rfl) ?_) | (refine m_ldr M rfl rfl rfl (by (repeat' (first | exact Zz2 | refine Zz1 ?_))) (by (try simp only [Zy2, List.take_zero, List.take_nil, Zy1, List.drop_zero, List.drop_nil, List.cons_append, List.nil_append, List.append_nil, List.length_cons, List.length_nil, Nat.reduceAdd, Nat.zero_add, Nat.add_zero]); rfl) (by rfl) ?_) | (refine m_st M rfl rfl rfl (by first | exact (rfl : _ = Value.agg _) | exact (rfl : _ = Value.int _ _) | exact (rfl : _ = Value.bool _) | exact (rfl : _ = Value.slice _ _ _) | exact (rfl : _ = Value.pointer _) | exact (rfl : _ = Value.map _) | exact (rfl : _ = Value.func _ _ _) | exact (rfl : _ = Value.string _)) (by rfl) (by (repeat (first | exact Upd.head | apply Upd.tail))) (by (try simp only [Zy2, List.take_zero, List.take_nil, Zy1, List.drop_zero, List.drop_nil, List.cons_append, List.nil_append, List.append_nil, List.length_cons, List.length_nil, Nat.reduceAdd, Nat.zero_add, Nat.add_zero]); rfl) (by simp) (by simp [Value.oneCell']) (by kernel_rfl) ?_; clear M; (try clear wc); intro wc M) | (refine m_al M rfl rfl ?_; clear M; (try clear wc); intro g wc M) | (refine m_bx M rfl rfl (by first | exact (rfl : _ = Value.agg _) | exact (rfl : _ = Value.int _ _) | exact (rfl : _ = Value.bool _) | exact (rfl : _ = Value.slice _ _ _) | exact (rfl : _ = Value.pointer _) | exact (rfl : _ = Value.map _) | exact (rfl : _ = Value.func _ _ _) | exact (rfl : _ = Value.string _)) (by rfl) ?_; clear M; (try clear wc); intro g wc M))
  rw [Exit.noGoto_ret]
  have M2 := M.far (grownBy_putObj' W D (.deferred none)) (n0 := wc.heap.size) (fun r e => by cases e; exact hD) hz0 hL'
  have hv : readsP j s0 s1 n p0 p1 t r = false := by
   obtain ⟨s, hs⟩ := hSp
   have h2 := hp.out
   unfold allS at h2
   unfold readsP
   rw [← hs, List.all_append]
   rw [show (pre.map (fun x => x.1)) = pre.map Subtype.val from rfl, h2]
   rfl
  refine ⟨by simp, .inl ⟨_, _, rfl, run_takeDeferred hK, _, results_tmp rfl _ _ _, ?_⟩⟩
  rw [hv]
  exact ⟨rfl, M2.grown, M2.at (q := (bm, memG j s0 s1)) (by (repeat' (first | exact Zz2 | refine Zz1 ?_)))⟩
end
theorem movedT (j : Jb) (A : Option Addr) (c : Nat) (s0 s1 : Int) (bg bx : Nat) (p0 p1 t r : Int) (n : Nat) (w : World) (hg : j.good) (hb : Bnd (n + 1) p0 p1 t r) :
  Calls Tryz.prog 143 #[.agg (gmA j A c s0 s1 bg bx).toArray, kn5 p0 p1 t r ((n : Int) + 1), .int .i64 1] w fun e w' => e = .returned (.tuple #[kn5 (p0 + j.u0) (p1 + j.u1) (t + 1) r n, .bool (okT j (t + 1) r)]) ∧ Below w.heap.size w w' := by
 obtain ⟨h1, h2, h3, h4, h5⟩ := hb
 have h := moved_tip j A c s0 s1 bg bx p0 p1 t r ((n : Int) + 1) w hg (by omega) (by omega) (by omega) (by omega) (by omega)
 rw [show (n : Int) + 1 - 1 = n from by omega] at h
 exact h
theorem movedR (j : Jb) (A : Option Addr) (c : Nat) (s0 s1 : Int) (bg bx : Nat) (p0 p1 t r : Int) (n : Nat) (w : World) (hg : j.good) (hb : Bnd (n + 1) p0 p1 t r) :
  Calls Tryz.prog 143 #[.agg (gmA j A c s0 s1 bg bx).toArray, kn5 p0 p1 t r ((n : Int) + 1), .int .i64 2] w fun e w' => e = .returned (.tuple #[kn5 (p0 - j.d1) (p1 - j.d0) t (r + 1) n, .bool (okT j t (r + 1))]) ∧ Below w.heap.size w w' := by
 obtain ⟨h1, h2, h3, h4, h5⟩ := hb
 have h := moved_root j A c s0 s1 bg bx p0 p1 t r ((n : Int) + 1) w hg (by omega) (by omega) (by omega) (by omega) (by omega)
 rw [show (n : Int) + 1 - 1 = n from by omega] at h
 exact h
theorem bnd_tip {j : Jb} {n : Nat} {p0 p1 t r : Int} (hj : j.good) (h : Bnd (n + 1) p0 p1 t r) : Bnd n (p0 + j.u0) (p1 + j.u1) (t + 1) r := by
 obtain ⟨h1, h2, h3, h4, h5⟩ := h
 have := hj.u
 exact ⟨by omega, by omega, by omega, by omega, by omega⟩
theorem bnd_root {j : Jb} {n : Nat} {p0 p1 t r : Int} (hj : j.good) (h : Bnd (n + 1) p0 p1 t r) : Bnd n (p0 - j.d1) (p1 - j.d0) t (r + 1) := by
 obtain ⟨h1, h2, h3, h4, h5⟩ := h
 have := hj.d
 exact ⟨by omega, by omega, by omega, by omega, by omega⟩
theorem stroke_0 (j : Jb) (A : Option Addr) (c : Nat) (s0 s1 : Int) (bg bx bm : Nat) (p0 p1 t r : Int) (w : World) (hg : Gm j A c s0 s1 bg bx bm w) :
  Calls Tryz.prog 140 #[.agg (gmA j A c s0 s1 bg bx).toArray, kn5 p0 p1 t r 0] w (GPost j s0 s1 bm (.int .i64 0) w) := by
 have M := Mem.initEx hg.m
 clear hg
 go_enter Tryz.func140, Tryz.ntmps140
 refine m_start M ?_
 clear M
 intro wc M
 go_wp2_with (first | (refine m_ld1 M rfl rfl rfl (by (repeat' (first | exact Zz2 | refine Zz1 ?_))) (by rfl) ?_) | (refine m_ldr M rfl rfl rfl (by (repeat' (first | exact Zz2 | refine Zz1 ?_))) (by (try simp only [Zy2, List.take_zero, List.take_nil, Zy1, List.drop_zero, List.drop_nil, List.cons_append, List.nil_append, List.append_nil, List.length_cons, List.length_nil, Nat.reduceAdd, Nat.zero_add, Nat.add_zero]); rfl) (by rfl) ?_) | (refine m_st M rfl rfl rfl (by first | exact (rfl : _ = Value.agg _) | exact (rfl : _ = Value.int _ _) | exact (rfl : _ = Value.bool _) | exact (rfl : _ = Value.slice _ _ _) | exact (rfl : _ = Value.pointer _) | exact (rfl : _ = Value.map _) | exact (rfl : _ = Value.func _ _ _) | exact (rfl : _ = Value.string _)) (by rfl) (by (repeat (first | exact Upd.head | apply Upd.tail))) (by (try simp only [Zy2, List.take_zero, List.take_nil, Zy1, List.drop_zero, List.drop_nil, List.cons_append, List.nil_append, List.append_nil, List.length_cons, List.length_nil, Nat.reduceAdd, Nat.zero_add, Nat.add_zero]); rfl) (by simp) (by simp [Value.oneCell']) (by kernel_rfl) ?_; clear M; (try clear wc); intro wc M) | (refine m_al M rfl rfl ?_; clear M; (try clear wc); intro g wc M) | (refine m_bx M rfl rfl (by first | exact (rfl : _ = Value.agg _) | exact (rfl : _ = Value.int _ _) | exact (rfl : _ = Value.bool _) | exact (rfl : _ = Value.slice _ _ _) | exact (rfl : _ = Value.pointer _) | exact (rfl : _ = Value.map _) | exact (rfl : _ = Value.func _ _ _) | exact (rfl : _ = Value.string _)) (by rfl) ?_; clear M; (try clear wc); intro g wc M))
 rename_i gG K0 hK0
 go_loopw [5] (fun v wr => v = .int .i64 1 ∧ Mem w (fun b => b = bm) wr [(g, .cells [.int .i64 p0, .int .i64 p1, .int .i64 t, .int .i64 r, .int .i64 0]), (gG, .cells (gmA j A c s0 s1 bg bx)), (bm, memG j s0 s1)]) (fun _ _ => 0)
 case atStart => exact ⟨rfl, M⟩
 case round =>
  clear M wc
  obtain ⟨rfl, M⟩ := hrel
  obtain ⟨wc, rfl⟩ : ∃ x : World, x = wr := ⟨_, rfl⟩
  go_wp2_with (first | (refine m_ld1 M rfl rfl rfl (by (repeat' (first | exact Zz2 | refine Zz1 ?_))) (by rfl) ?_) | (refine m_ldr M rfl rfl rfl (by (repeat' (first | exact Zz2 | refine Zz1 ?_))) (by (try simp only [Zy2, List.take_zero, List.take_nil, Zy1, List.drop_zero, List.drop_nil, List.cons_append, List.nil_append, List.append_nil, List.length_cons, List.length_nil, Nat.reduceAdd, Nat.zero_add, Nat.add_zero]); rfl) (by rfl) ?_) | (refine m_st M rfl rfl rfl (by first | exact (rfl : _ = Value.agg _) | exact (rfl : _ = Value.int _ _) | exact (rfl : _ = Value.bool _) | exact (rfl : _ = Value.slice _ _ _) | exact (rfl : _ = Value.pointer _) | exact (rfl : _ = Value.map _) | exact (rfl : _ = Value.func _ _ _) | exact (rfl : _ = Value.string _)) (by rfl) (by (repeat (first | exact Upd.head | apply Upd.tail))) (by (try simp only [Zy2, List.take_zero, List.take_nil, Zy1, List.drop_zero, List.drop_nil, List.cons_append, List.nil_append, List.append_nil, List.length_cons, List.length_nil, Nat.reduceAdd, Nat.zero_add, Nat.add_zero]); rfl) (by simp) (by simp [Value.oneCell']) (by kernel_rfl) ?_; clear M; (try clear wc); intro wc M) | (refine m_al M rfl rfl ?_; clear M; (try clear wc); intro g wc M) | (refine m_bx M rfl rfl (by first | exact (rfl : _ = Value.agg _) | exact (rfl : _ = Value.int _ _) | exact (rfl : _ = Value.bool _) | exact (rfl : _ = Value.slice _ _ _) | exact (rfl : _ = Value.pointer _) | exact (rfl : _ = Value.map _) | exact (rfl : _ = Value.func _ _ _) | exact (rfl : _ = Value.string _)) (by rfl) ?_; clear M; (try clear wc); intro g wc M))
  go_ret
  exact ⟨rfl, M.grown, (M.at (q := (bm, memG j s0 s1)) (by (repeat' (first | exact Zz2 | refine Zz1 ?_))))⟩
set_option maxHeartbeats 2000000 in
theorem stroke_s (j : Jb) (A : Option Addr) (c : Nat) (s0 s1 : Int) (bg bx bm : Nat) (n : Nat) (hj : j.good) (hS : StopsC j A c s0 s1 bg bx bm n) (p0 p1 t r : Int) (w : World) (hb : Bnd (n + 1) p0 p1 t r) (hg : Gm j A c s0 s1 bg bx bm w) :
  Calls Tryz.prog 140 #[.agg (gmA j A c s0 s1 bg bx).toArray, kn5 p0 p1 t r ((n : Int) + 1)] w (GPost j s0 s1 bm (.int .i64 (strokeP j s0 s1 (n + 1) p0 p1 t r)) w) := by
 have M := Mem.initEx hg.m
 have HS := Lib.hid hS
 have HG := Lib.hid hg
 have HB := Lib.hid hb
 have HJ := Lib.hid hj
 have HV : Hid (strokeP j s0 s1 (n + 1) p0 p1 t r = if (okT j (t + 1) r && readsP j s0 s1 n (p0 + j.u0) (p1 + j.u1) (t + 1) r) = true then 1 else if (okT j t (r + 1) && readsP j s0 s1 n (p0 - j.d1) (p1 - j.d0) t (r + 1)) = true then 2 else 0) := rfl
 generalize strokeP j s0 s1 (n + 1) p0 p1 t r = sv at *
 have hln : (0 : Int) < (n : Int) + 1 := by omega
 generalize ho1 : okT j (t + 1) r = o1 at *
 generalize ho2 : okT j t (r + 1) = o2 at *
 generalize hr1 : readsP j s0 s1 n (p0 + j.u0) (p1 + j.u1) (t + 1) r = v1 at *
 generalize hr2 : readsP j s0 s1 n (p0 - j.d1) (p1 - j.d0) t (r + 1) = v2 at *
 have HO1 := Lib.hid ho1
 have HO2 := Lib.hid ho2
 have HR1 := Lib.hid hr1
 have HR2 := Lib.hid hr2
 clear hS hg hb hj ho1 ho2 hr1 hr2
 go_enter Tryz.func140, Tryz.ntmps140
 refine m_start M ?_
 clear M
 intro wc M
 go_wp2_with (first | (refine m_ld1 M rfl rfl rfl (by (repeat' (first | exact Zz2 | refine Zz1 ?_))) (by rfl) ?_) | (refine m_ldr M rfl rfl rfl (by (repeat' (first | exact Zz2 | refine Zz1 ?_))) (by (try simp only [Zy2, List.take_zero, List.take_nil, Zy1, List.drop_zero, List.drop_nil, List.cons_append, List.nil_append, List.append_nil, List.length_cons, List.length_nil, Nat.reduceAdd, Nat.zero_add, Nat.add_zero]); rfl) (by rfl) ?_) | (refine m_st M rfl rfl rfl (by first | exact (rfl : _ = Value.agg _) | exact (rfl : _ = Value.int _ _) | exact (rfl : _ = Value.bool _) | exact (rfl : _ = Value.slice _ _ _) | exact (rfl : _ = Value.pointer _) | exact (rfl : _ = Value.map _) | exact (rfl : _ = Value.func _ _ _) | exact (rfl : _ = Value.string _)) (by rfl) (by (repeat (first | exact Upd.head | apply Upd.tail))) (by (try simp only [Zy2, List.take_zero, List.take_nil, Zy1, List.drop_zero, List.drop_nil, List.cons_append, List.nil_append, List.append_nil, List.length_cons, List.length_nil, Nat.reduceAdd, Nat.zero_add, Nat.add_zero]); rfl) (by simp) (by simp [Value.oneCell']) (by kernel_rfl) ?_; clear M; (try clear wc); intro wc M) | (refine m_al M rfl rfl ?_; clear M; (try clear wc); intro g wc M) | (refine m_bx M rfl rfl (by first | exact (rfl : _ = Value.agg _) | exact (rfl : _ = Value.int _ _) | exact (rfl : _ = Value.bool _) | exact (rfl : _ = Value.slice _ _ _) | exact (rfl : _ = Value.pointer _) | exact (rfl : _ = Value.map _) | exact (rfl : _ = Value.func _ _ _) | exact (rfl : _ = Value.string _)) (by rfl) ?_; clear M; (try clear wc); intro g wc M))
 rename_i gG K0 hK0
 go_loopw [5] (fun v wr => ∃ s : Int, v = .int .i64 s ∧ (s = 1 ∨ s = 2 ∨ s = 3) ∧ Hid (s = 1 ∨ (o1 && v1) = false) ∧ Hid (s = 3 → (o2 && v2) = false) ∧ Mem w (fun b => b = bm) wr [(g, .cells [.int .i64 p0, .int .i64 p1, .int .i64 t, .int .i64 r, .int .i64 ((n : Int) + 1)]), (gG, .cells (gmA j A c s0 s1 bg bx)), (bm, memG j s0 s1)]) (fun v _ => (3 - intOf v).toNat)
 case atStart => exact ⟨1, rfl, .inl rfl, .inl rfl, fun h => by omega, M⟩
 case round =>
  clear M wc
  obtain ⟨s, rfl, hs, h1, h2, M⟩ := hrel
  obtain ⟨wc, rfl⟩ : ∃ x : World, x = wr := ⟨_, rfl⟩
  rcases hs with rfl | rfl | rfl
  ·cases o1 with
   | false =>
    go_wp2_with (first | (refine m_ld1 M rfl rfl rfl (by (repeat' (first | exact Zz2 | refine Zz1 ?_))) (by rfl) ?_) | (refine m_ldr M rfl rfl rfl (by (repeat' (first | exact Zz2 | refine Zz1 ?_))) (by (try simp only [Zy2, List.take_zero, List.take_nil, Zy1, List.drop_zero, List.drop_nil, List.cons_append, List.nil_append, List.append_nil, List.length_cons, List.length_nil, Nat.reduceAdd, Nat.zero_add, Nat.add_zero]); rfl) (by rfl) ?_) | (refine m_st M rfl rfl rfl (by first | exact (rfl : _ = Value.agg _) | exact (rfl : _ = Value.int _ _) | exact (rfl : _ = Value.bool _) | exact (rfl : _ = Value.slice _ _ _) | exact (rfl : _ = Value.pointer _) | exact (rfl : _ = Value.map _) | exact (rfl : _ = Value.func _ _ _) | exact (rfl : _ = Value.string _)) (by rfl) (by (repeat (first | exact Upd.head | apply Upd.tail))) (by (try simp only [Zy2, List.take_zero, List.take_nil, Zy1, List.drop_zero, List.drop_nil, List.cons_append, List.nil_append, List.append_nil, List.length_cons, List.length_nil, Nat.reduceAdd, Nat.zero_add, Nat.add_zero]); rfl) (by simp) (by simp [Value.oneCell']) (by kernel_rfl) ?_; clear M; (try clear wc); intro wc M) | (refine m_al M rfl rfl ?_; clear M; (try clear wc); intro g wc M) | (refine m_bx M rfl rfl (by first | exact (rfl : _ = Value.agg _) | exact (rfl : _ = Value.int _ _) | exact (rfl : _ = Value.bool _) | exact (rfl : _ = Value.slice _ _ _) | exact (rfl : _ = Value.pointer _) | exact (rfl : _ = Value.map _) | exact (rfl : _ = Value.func _ _ _) | exact (rfl : _ = Value.string _)) (by rfl) ?_; clear M; (try clear wc); intro g wc M) | (go_at_call 143; ((with_reducible refine (movedT j A c s0 s1 bg bx p0 p1 t r n _ HJ.out HB.out).mono ?_); (rw [HO1.out]); rintro e wc ⟨rfl, hb⟩; replace M := M.call hb; clear hb)))
    go_roundw
    case rel => exact ⟨2, rfl, by simp, .inr rfl, (fun h => by omega), M.sub (by (repeat (first | exact List.Sublist.slnil | apply List.Sublist.cons_cons | apply List.Sublist.cons)))⟩
    case measure => decide
   | true =>
    cases v1 with
    | false =>
     go_wp2_with (first | (refine m_ld1 M rfl rfl rfl (by (repeat' (first | exact Zz2 | refine Zz1 ?_))) (by rfl) ?_) | (refine m_ldr M rfl rfl rfl (by (repeat' (first | exact Zz2 | refine Zz1 ?_))) (by (try simp only [Zy2, List.take_zero, List.take_nil, Zy1, List.drop_zero, List.drop_nil, List.cons_append, List.nil_append, List.append_nil, List.length_cons, List.length_nil, Nat.reduceAdd, Nat.zero_add, Nat.add_zero]); rfl) (by rfl) ?_) | (refine m_st M rfl rfl rfl (by first | exact (rfl : _ = Value.agg _) | exact (rfl : _ = Value.int _ _) | exact (rfl : _ = Value.bool _) | exact (rfl : _ = Value.slice _ _ _) | exact (rfl : _ = Value.pointer _) | exact (rfl : _ = Value.map _) | exact (rfl : _ = Value.func _ _ _) | exact (rfl : _ = Value.string _)) (by rfl) (by (repeat (first | exact Upd.head | apply Upd.tail))) (by (try simp only [Zy2, List.take_zero, List.take_nil, Zy1, List.drop_zero, List.drop_nil, List.cons_append, List.nil_append, List.append_nil, List.length_cons, List.length_nil, Nat.reduceAdd, Nat.zero_add, Nat.add_zero]); rfl) (by simp) (by simp [Value.oneCell']) (by kernel_rfl) ?_; clear M; (try clear wc); intro wc M) | (refine m_al M rfl rfl ?_; clear M; (try clear wc); intro g wc M) | (refine m_bx M rfl rfl (by first | exact (rfl : _ = Value.agg _) | exact (rfl : _ = Value.int _ _) | exact (rfl : _ = Value.bool _) | exact (rfl : _ = Value.slice _ _ _) | exact (rfl : _ = Value.pointer _) | exact (rfl : _ = Value.map _) | exact (rfl : _ = Value.func _ _ _) | exact (rfl : _ = Value.string _)) (by rfl) ?_; clear M; (try clear wc); intro g wc M) | (go_at_call 143; ((with_reducible refine (movedT j A c s0 s1 bg bx p0 p1 t r n _ HJ.out HB.out).mono ?_); (rw [HO1.out]); rintro e wc ⟨rfl, hb⟩; replace M := M.call hb; clear hb)) | (go_at_call 130; ((with_reducible refine (reads_any j A c s0 s1 bg bx bm n HJ.out HS.out (p0 + j.u0) (p1 + j.u1) (t + 1) r _ (bnd_tip HJ.out HB.out) (HG.out.kept M.grown (M.at (q := (bm, memG j s0 s1)) (by (repeat' (first | exact Zz2 | refine Zz1 ?_)))))).mono ?_); rintro e wc ⟨rfl, hgr, hm⟩; (rw [HR1.out]); replace M := M.callW (by (repeat (first | exact Upd.head | apply Upd.tail))) hgr hm; clear hgr hm)))
     go_roundw
     case rel => exact ⟨2, rfl, by simp, .inr rfl, (fun h => by omega), M.sub (by (repeat (first | exact List.Sublist.slnil | apply List.Sublist.cons_cons | apply List.Sublist.cons)))⟩
     case measure => decide
    | true =>
     go_wp2_with (first | (refine m_ld1 M rfl rfl rfl (by (repeat' (first | exact Zz2 | refine Zz1 ?_))) (by rfl) ?_) | (refine m_ldr M rfl rfl rfl (by (repeat' (first | exact Zz2 | refine Zz1 ?_))) (by (try simp only [Zy2, List.take_zero, List.take_nil, Zy1, List.drop_zero, List.drop_nil, List.cons_append, List.nil_append, List.append_nil, List.length_cons, List.length_nil, Nat.reduceAdd, Nat.zero_add, Nat.add_zero]); rfl) (by rfl) ?_) | (refine m_st M rfl rfl rfl (by first | exact (rfl : _ = Value.agg _) | exact (rfl : _ = Value.int _ _) | exact (rfl : _ = Value.bool _) | exact (rfl : _ = Value.slice _ _ _) | exact (rfl : _ = Value.pointer _) | exact (rfl : _ = Value.map _) | exact (rfl : _ = Value.func _ _ _) | exact (rfl : _ = Value.string _)) (by rfl) (by (repeat (first | exact Upd.head | apply Upd.tail))) (by (try simp only [Zy2, List.take_zero, List.take_nil, Zy1, List.drop_zero, List.drop_nil, List.cons_append, List.nil_append, List.append_nil, List.length_cons, List.length_nil, Nat.reduceAdd, Nat.zero_add, Nat.add_zero]); rfl) (by simp) (by simp [Value.oneCell']) (by kernel_rfl) ?_; clear M; (try clear wc); intro wc M) | (refine m_al M rfl rfl ?_; clear M; (try clear wc); intro g wc M) | (refine m_bx M rfl rfl (by first | exact (rfl : _ = Value.agg _) | exact (rfl : _ = Value.int _ _) | exact (rfl : _ = Value.bool _) | exact (rfl : _ = Value.slice _ _ _) | exact (rfl : _ = Value.pointer _) | exact (rfl : _ = Value.map _) | exact (rfl : _ = Value.func _ _ _) | exact (rfl : _ = Value.string _)) (by rfl) ?_; clear M; (try clear wc); intro g wc M) | (go_at_call 143; ((with_reducible refine (movedT j A c s0 s1 bg bx p0 p1 t r n _ HJ.out HB.out).mono ?_); (rw [HO1.out]); rintro e wc ⟨rfl, hb⟩; replace M := M.call hb; clear hb)) | (go_at_call 130; ((with_reducible refine (reads_any j A c s0 s1 bg bx bm n HJ.out HS.out (p0 + j.u0) (p1 + j.u1) (t + 1) r _ (bnd_tip HJ.out HB.out) (HG.out.kept M.grown (M.at (q := (bm, memG j s0 s1)) (by (repeat' (first | exact Zz2 | refine Zz1 ?_)))))).mono ?_); rintro e wc ⟨rfl, hgr, hm⟩; (rw [HR1.out]); replace M := M.callW (by (repeat (first | exact Upd.head | apply Upd.tail))) hgr hm; clear hgr hm)))
     go_ret
     exact ⟨ret_int (show sv = 1 from by rw [HV.out]; rfl).symm, M.grown, (M.at (q := (bm, memG j s0 s1)) (by (repeat' (first | exact Zz2 | refine Zz1 ?_))))⟩
  ·have h1' : Hid ((3 : Int) = 1 ∨ (o1 && v1) = false) := .inr (by have := h1.out; simpa using this)
   cases o2 with
   | false =>
    go_wp2_with (first | (refine m_ld1 M rfl rfl rfl (by (repeat' (first | exact Zz2 | refine Zz1 ?_))) (by rfl) ?_) | (refine m_ldr M rfl rfl rfl (by (repeat' (first | exact Zz2 | refine Zz1 ?_))) (by (try simp only [Zy2, List.take_zero, List.take_nil, Zy1, List.drop_zero, List.drop_nil, List.cons_append, List.nil_append, List.append_nil, List.length_cons, List.length_nil, Nat.reduceAdd, Nat.zero_add, Nat.add_zero]); rfl) (by rfl) ?_) | (refine m_st M rfl rfl rfl (by first | exact (rfl : _ = Value.agg _) | exact (rfl : _ = Value.int _ _) | exact (rfl : _ = Value.bool _) | exact (rfl : _ = Value.slice _ _ _) | exact (rfl : _ = Value.pointer _) | exact (rfl : _ = Value.map _) | exact (rfl : _ = Value.func _ _ _) | exact (rfl : _ = Value.string _)) (by rfl) (by (repeat (first | exact Upd.head | apply Upd.tail))) (by (try simp only [Zy2, List.take_zero, List.take_nil, Zy1, List.drop_zero, List.drop_nil, List.cons_append, List.nil_append, List.append_nil, List.length_cons, List.length_nil, Nat.reduceAdd, Nat.zero_add, Nat.add_zero]); rfl) (by simp) (by simp [Value.oneCell']) (by kernel_rfl) ?_; clear M; (try clear wc); intro wc M) | (refine m_al M rfl rfl ?_; clear M; (try clear wc); intro g wc M) | (refine m_bx M rfl rfl (by first | exact (rfl : _ = Value.agg _) | exact (rfl : _ = Value.int _ _) | exact (rfl : _ = Value.bool _) | exact (rfl : _ = Value.slice _ _ _) | exact (rfl : _ = Value.pointer _) | exact (rfl : _ = Value.map _) | exact (rfl : _ = Value.func _ _ _) | exact (rfl : _ = Value.string _)) (by rfl) ?_; clear M; (try clear wc); intro g wc M) | (go_at_call 143; ((with_reducible refine (movedR j A c s0 s1 bg bx p0 p1 t r n _ HJ.out HB.out).mono ?_); (rw [HO2.out]); rintro e wc ⟨rfl, hb⟩; replace M := M.call hb; clear hb)))
    go_roundw
    case rel => exact ⟨3, rfl, by simp, h1' , (fun _ => rfl), M.sub (by (repeat (first | exact List.Sublist.slnil | apply List.Sublist.cons_cons | apply List.Sublist.cons)))⟩
    case measure => decide
   | true =>
    cases v2 with
    | false =>
     go_wp2_with (first | (refine m_ld1 M rfl rfl rfl (by (repeat' (first | exact Zz2 | refine Zz1 ?_))) (by rfl) ?_) | (refine m_ldr M rfl rfl rfl (by (repeat' (first | exact Zz2 | refine Zz1 ?_))) (by (try simp only [Zy2, List.take_zero, List.take_nil, Zy1, List.drop_zero, List.drop_nil, List.cons_append, List.nil_append, List.append_nil, List.length_cons, List.length_nil, Nat.reduceAdd, Nat.zero_add, Nat.add_zero]); rfl) (by rfl) ?_) | (refine m_st M rfl rfl rfl (by first | exact (rfl : _ = Value.agg _) | exact (rfl : _ = Value.int _ _) | exact (rfl : _ = Value.bool _) | exact (rfl : _ = Value.slice _ _ _) | exact (rfl : _ = Value.pointer _) | exact (rfl : _ = Value.map _) | exact (rfl : _ = Value.func _ _ _) | exact (rfl : _ = Value.string _)) (by rfl) (by (repeat (first | exact Upd.head | apply Upd.tail))) (by (try simp only [Zy2, List.take_zero, List.take_nil, Zy1, List.drop_zero, List.drop_nil, List.cons_append, List.nil_append, List.append_nil, List.length_cons, List.length_nil, Nat.reduceAdd, Nat.zero_add, Nat.add_zero]); rfl) (by simp) (by simp [Value.oneCell']) (by kernel_rfl) ?_; clear M; (try clear wc); intro wc M) | (refine m_al M rfl rfl ?_; clear M; (try clear wc); intro g wc M) | (refine m_bx M rfl rfl (by first | exact (rfl : _ = Value.agg _) | exact (rfl : _ = Value.int _ _) | exact (rfl : _ = Value.bool _) | exact (rfl : _ = Value.slice _ _ _) | exact (rfl : _ = Value.pointer _) | exact (rfl : _ = Value.map _) | exact (rfl : _ = Value.func _ _ _) | exact (rfl : _ = Value.string _)) (by rfl) ?_; clear M; (try clear wc); intro g wc M) | (go_at_call 143; ((with_reducible refine (movedR j A c s0 s1 bg bx p0 p1 t r n _ HJ.out HB.out).mono ?_); (rw [HO2.out]); rintro e wc ⟨rfl, hb⟩; replace M := M.call hb; clear hb)) | (go_at_call 130; ((with_reducible refine (reads_any j A c s0 s1 bg bx bm n HJ.out HS.out (p0 - j.d1) (p1 - j.d0) t (r + 1) _ (bnd_root HJ.out HB.out) (HG.out.kept M.grown (M.at (q := (bm, memG j s0 s1)) (by (repeat' (first | exact Zz2 | refine Zz1 ?_)))))).mono ?_); rintro e wc ⟨rfl, hgr, hm⟩; (rw [HR2.out]); replace M := M.callW (by (repeat (first | exact Upd.head | apply Upd.tail))) hgr hm; clear hgr hm)))
     go_roundw
     case rel => exact ⟨3, rfl, by simp, h1' , (fun _ => rfl), M.sub (by (repeat (first | exact List.Sublist.slnil | apply List.Sublist.cons_cons | apply List.Sublist.cons)))⟩
     case measure => decide
    | true =>
     go_wp2_with (first | (refine m_ld1 M rfl rfl rfl (by (repeat' (first | exact Zz2 | refine Zz1 ?_))) (by rfl) ?_) | (refine m_ldr M rfl rfl rfl (by (repeat' (first | exact Zz2 | refine Zz1 ?_))) (by (try simp only [Zy2, List.take_zero, List.take_nil, Zy1, List.drop_zero, List.drop_nil, List.cons_append, List.nil_append, List.append_nil, List.length_cons, List.length_nil, Nat.reduceAdd, Nat.zero_add, Nat.add_zero]); rfl) (by rfl) ?_) | (refine m_st M rfl rfl rfl (by first | exact (rfl : _ = Value.agg _) | exact (rfl : _ = Value.int _ _) | exact (rfl : _ = Value.bool _) | exact (rfl : _ = Value.slice _ _ _) | exact (rfl : _ = Value.pointer _) | exact (rfl : _ = Value.map _) | exact (rfl : _ = Value.func _ _ _) | exact (rfl : _ = Value.string _)) (by rfl) (by (repeat (first | exact Upd.head | apply Upd.tail))) (by (try simp only [Zy2, List.take_zero, List.take_nil, Zy1, List.drop_zero, List.drop_nil, List.cons_append, List.nil_append, List.append_nil, List.length_cons, List.length_nil, Nat.reduceAdd, Nat.zero_add, Nat.add_zero]); rfl) (by simp) (by simp [Value.oneCell']) (by kernel_rfl) ?_; clear M; (try clear wc); intro wc M) | (refine m_al M rfl rfl ?_; clear M; (try clear wc); intro g wc M) | (refine m_bx M rfl rfl (by first | exact (rfl : _ = Value.agg _) | exact (rfl : _ = Value.int _ _) | exact (rfl : _ = Value.bool _) | exact (rfl : _ = Value.slice _ _ _) | exact (rfl : _ = Value.pointer _) | exact (rfl : _ = Value.map _) | exact (rfl : _ = Value.func _ _ _) | exact (rfl : _ = Value.string _)) (by rfl) ?_; clear M; (try clear wc); intro g wc M) | (go_at_call 143; ((with_reducible refine (movedR j A c s0 s1 bg bx p0 p1 t r n _ HJ.out HB.out).mono ?_); (rw [HO2.out]); rintro e wc ⟨rfl, hb⟩; replace M := M.call hb; clear hb)) | (go_at_call 130; ((with_reducible refine (reads_any j A c s0 s1 bg bx bm n HJ.out HS.out (p0 - j.d1) (p1 - j.d0) t (r + 1) _ (bnd_root HJ.out HB.out) (HG.out.kept M.grown (M.at (q := (bm, memG j s0 s1)) (by (repeat' (first | exact Zz2 | refine Zz1 ?_)))))).mono ?_); rintro e wc ⟨rfl, hgr, hm⟩; (rw [HR2.out]); replace M := M.callW (by (repeat (first | exact Upd.head | apply Upd.tail))) hgr hm; clear hgr hm)))
     go_ret
     exact ⟨ret_int (show sv = 2 from by (have h := h1'.out; rw [HV.out, if_neg (by simpa using h)]; rfl)).symm, M.grown, (M.at (q := (bm, memG j s0 s1)) (by (repeat' (first | exact Zz2 | refine Zz1 ?_))))⟩
  ·go_wp2_with (first | (refine m_ld1 M rfl rfl rfl (by (repeat' (first | exact Zz2 | refine Zz1 ?_))) (by rfl) ?_) | (refine m_ldr M rfl rfl rfl (by (repeat' (first | exact Zz2 | refine Zz1 ?_))) (by (try simp only [Zy2, List.take_zero, List.take_nil, Zy1, List.drop_zero, List.drop_nil, List.cons_append, List.nil_append, List.append_nil, List.length_cons, List.length_nil, Nat.reduceAdd, Nat.zero_add, Nat.add_zero]); rfl) (by rfl) ?_) | (refine m_st M rfl rfl rfl (by first | exact (rfl : _ = Value.agg _) | exact (rfl : _ = Value.int _ _) | exact (rfl : _ = Value.bool _) | exact (rfl : _ = Value.slice _ _ _) | exact (rfl : _ = Value.pointer _) | exact (rfl : _ = Value.map _) | exact (rfl : _ = Value.func _ _ _) | exact (rfl : _ = Value.string _)) (by rfl) (by (repeat (first | exact Upd.head | apply Upd.tail))) (by (try simp only [Zy2, List.take_zero, List.take_nil, Zy1, List.drop_zero, List.drop_nil, List.cons_append, List.nil_append, List.append_nil, List.length_cons, List.length_nil, Nat.reduceAdd, Nat.zero_add, Nat.add_zero]); rfl) (by simp) (by simp [Value.oneCell']) (by kernel_rfl) ?_; clear M; (try clear wc); intro wc M) | (refine m_al M rfl rfl ?_; clear M; (try clear wc); intro g wc M) | (refine m_bx M rfl rfl (by first | exact (rfl : _ = Value.agg _) | exact (rfl : _ = Value.int _ _) | exact (rfl : _ = Value.bool _) | exact (rfl : _ = Value.slice _ _ _) | exact (rfl : _ = Value.pointer _) | exact (rfl : _ = Value.map _) | exact (rfl : _ = Value.func _ _ _) | exact (rfl : _ = Value.string _)) (by rfl) ?_; clear M; (try clear wc); intro g wc M))
   go_ret
   have e : sv = 0 := by
    have h := h1.out
    have h' : (o2 && v2) = false := by first | exact h2.out rfl | exact h2.out | (have := h2.out; simpa using this)
    rw [HV.out, if_neg (by simpa using h), if_neg (by rw [h']; simp)]
   exact ⟨ret_int e.symm, M.grown, (M.at (q := (bm, memG j s0 s1)) (by (repeat' (first | exact Zz2 | refine Zz1 ?_))))⟩
theorem kn5_inj {p0 p1 t r a b c d : Int} {n m : Nat} (h : kn5 p0 p1 t r n = kn5 a b c d m) : p0 = a ∧ p1 = b ∧ t = c ∧ r = d ∧ n = m := by
 simp at h
 exact ⟨h.1, h.2.1, h.2.2.1, h.2.2.2.1, by have := h.2.2.2.2; omega⟩
theorem stops_of (j : Jb) (A : Option Addr) (c : Nat) (s0 s1 : Int) (bg bx bm : Nat) (n : Nat) (p0 p1 t r : Int) (w : World) (hb : Bnd n p0 p1 t r) (hg : Gm j A c s0 s1 bg bx bm w)
  (hs : ∀ w', Gm j A c s0 s1 bg bx bm w' → Calls Tryz.prog 140 #[.agg (gmA j A c s0 s1 bg bx).toArray, kn5 p0 p1 t r n] w' (GPost j s0 s1 bm (.int .i64 (strokeP j s0 s1 n p0 p1 t r)) w')) :
  Calls Tryz.prog 138 #[kn5 p0 p1 t r n, .pointer (some ⟨bg, 0, none⟩), .pointer (some ⟨bx, 0, none⟩)] w (GPost j s0 s1 bm (.bool (stopsP j s0 s1 n p0 p1 t r)) w) := by
 have M := Mem.initEx hg.m
 have HG := Lib.hid hg
 have HS := Lib.hid hs
 have HE := Lib.hid (stopsP_eq j s0 s1 n p0 p1 t r)
 obtain ⟨kl, hkl⟩ := Tryz.kn_key ⟨p0, p1, t, r, n⟩ (by obtain ⟨h1, h2, h3, h4, h5⟩ := hb; exact ⟨by dsimp only; omega, by dsimp only; omega, by dsimp only; omega, by dsimp only; omega, by dsimp only; omega⟩)
 have HK := Lib.hid hkl
 have HO : Hid (∀ v, okG j s0 s1 (kn5 p0 p1 t r n) v ↔ v = .bool (stopsP j s0 s1 n p0 p1 t r)) := by
  intro v
  refine ⟨fun h => h p0 p1 t r n rfl, fun h a b c d m e => ?_⟩
  obtain ⟨rfl, rfl, rfl, rfl, rfl⟩ := kn5_inj e
  exact h
 clear hg hs hkl hb
 generalize hst : stopsP j s0 s1 n p0 p1 t r = sv at *
 generalize hsk : strokeP j s0 s1 n p0 p1 t r = kv at *
 clear hst hsk
 cases hh : hasB s0 s1 p0 p1 with
 | true =>
  have HH := Lib.hid hh
  have HV : Hid (sv = true) := by show _ = _; rw [HE.out, hh]; rfl
  clear hh
  go_enter Tryz.func138, Tryz.ntmps138
  refine m_start M ?_
  clear M
  intro wc M
  go_wp2_with (first | (refine m_ld1 M rfl rfl rfl (by (repeat' (first | exact Zz2 | refine Zz1 ?_))) (by rfl) ?_) | (refine m_ldr M rfl rfl rfl (by (repeat' (first | exact Zz2 | refine Zz1 ?_))) (by (try simp only [Zy2, List.take_zero, List.take_nil, Zy1, List.drop_zero, List.drop_nil, List.cons_append, List.nil_append, List.append_nil, List.length_cons, List.length_nil, Nat.reduceAdd, Nat.zero_add, Nat.add_zero]); rfl) (by rfl) ?_) | (refine m_st M rfl rfl rfl (by first | exact (rfl : _ = Value.agg _) | exact (rfl : _ = Value.int _ _) | exact (rfl : _ = Value.bool _) | exact (rfl : _ = Value.slice _ _ _) | exact (rfl : _ = Value.pointer _) | exact (rfl : _ = Value.map _) | exact (rfl : _ = Value.func _ _ _) | exact (rfl : _ = Value.string _)) (by rfl) (by (repeat (first | exact Upd.head | apply Upd.tail))) (by (try simp only [Zy2, List.take_zero, List.take_nil, Zy1, List.drop_zero, List.drop_nil, List.cons_append, List.nil_append, List.append_nil, List.length_cons, List.length_nil, Nat.reduceAdd, Nat.zero_add, Nat.add_zero]); rfl) (by simp) (by simp [Value.oneCell']) (by kernel_rfl) ?_; clear M; (try clear wc); intro wc M) | (refine m_al M rfl rfl ?_; clear M; (try clear wc); intro g wc M) | (refine m_bx M rfl rfl (by first | exact (rfl : _ = Value.agg _) | exact (rfl : _ = Value.int _ _) | exact (rfl : _ = Value.bool _) | exact (rfl : _ = Value.slice _ _ _) | exact (rfl : _ = Value.pointer _) | exact (rfl : _ = Value.map _) | exact (rfl : _ = Value.func _ _ _) | exact (rfl : _ = Value.string _)) (by rfl) ?_; clear M; (try clear wc); intro g wc M) | (refine lo_row (M.old HG.out.g HG.out.ng) rfl rfl rfl (by (try simp only [Zy2, List.take_zero, List.take_nil, Zy1, List.drop_zero, List.drop_nil, List.cons_append, List.nil_append, List.append_nil, List.length_cons, List.length_nil, Nat.reduceAdd, Nat.zero_add, Nat.add_zero]); rfl) (by rfl) ?_) | (go_at_call 139; ((with_reducible refine (has_any _ _ _ _ _).mono ?_); (rw [HH.out]); rintro e wc ⟨rfl, hb⟩; replace M := M.call hb; clear hb)))
  go_ret
  rw [HV.out]
  exact ⟨rfl, M.grown, (M.at (q := (bm, memG j s0 s1)) (by (repeat' (first | exact Zz2 | refine Zz1 ?_))))⟩
 | false =>
  have HH := Lib.hid hh
  have HV : Hid (sv = decide (0 < kv)) := by show _ = _; rw [HE.out, hh]; rfl
  clear hh
  go_enter Tryz.func138, Tryz.ntmps138
  refine m_start M ?_
  clear M
  intro wc M
  go_wp2_with (first | (refine m_ld1 M rfl rfl rfl (by (repeat' (first | exact Zz2 | refine Zz1 ?_))) (by rfl) ?_) | (refine m_ldr M rfl rfl rfl (by (repeat' (first | exact Zz2 | refine Zz1 ?_))) (by (try simp only [Zy2, List.take_zero, List.take_nil, Zy1, List.drop_zero, List.drop_nil, List.cons_append, List.nil_append, List.append_nil, List.length_cons, List.length_nil, Nat.reduceAdd, Nat.zero_add, Nat.add_zero]); rfl) (by rfl) ?_) | (refine m_st M rfl rfl rfl (by first | exact (rfl : _ = Value.agg _) | exact (rfl : _ = Value.int _ _) | exact (rfl : _ = Value.bool _) | exact (rfl : _ = Value.slice _ _ _) | exact (rfl : _ = Value.pointer _) | exact (rfl : _ = Value.map _) | exact (rfl : _ = Value.func _ _ _) | exact (rfl : _ = Value.string _)) (by rfl) (by (repeat (first | exact Upd.head | apply Upd.tail))) (by (try simp only [Zy2, List.take_zero, List.take_nil, Zy1, List.drop_zero, List.drop_nil, List.cons_append, List.nil_append, List.append_nil, List.length_cons, List.length_nil, Nat.reduceAdd, Nat.zero_add, Nat.add_zero]); rfl) (by simp) (by simp [Value.oneCell']) (by kernel_rfl) ?_; clear M; (try clear wc); intro wc M) | (refine m_al M rfl rfl ?_; clear M; (try clear wc); intro g wc M) | (refine m_bx M rfl rfl (by first | exact (rfl : _ = Value.agg _) | exact (rfl : _ = Value.int _ _) | exact (rfl : _ = Value.bool _) | exact (rfl : _ = Value.slice _ _ _) | exact (rfl : _ = Value.pointer _) | exact (rfl : _ = Value.map _) | exact (rfl : _ = Value.func _ _ _) | exact (rfl : _ = Value.string _)) (by rfl) ?_; clear M; (try clear wc); intro g wc M) | (refine lo_row (M.old HG.out.g HG.out.ng) rfl rfl rfl (by (try simp only [Zy2, List.take_zero, List.take_nil, Zy1, List.drop_zero, List.drop_nil, List.cons_append, List.nil_append, List.append_nil, List.length_cons, List.length_nil, Nat.reduceAdd, Nat.zero_add, Nat.add_zero]); rfl) (by rfl) ?_) | (refine lo_one (cs := [.map (some bm)]) (M.old HG.out.x HG.out.nx) rfl rfl rfl (by rfl) ?_) | (go_at_call 139; ((with_reducible refine (has_any _ _ _ _ _).mono ?_); (rw [HH.out]); rintro e wc ⟨rfl, hb⟩; replace M := M.call hb; clear hb)) | ((refine lk (ok := okG j s0 s1) Tryz.keyed Tryz.underlying174 Tryz.zeroBool M rfl rfl rfl rfl (by (repeat' (first | exact Zz2 | refine Zz1 ?_))) HK.out ?_ ?_); (intro v hv; have hv := (HO.out v).1 hv; subst hv)) | (go_at_call 140; ((with_reducible refine (HS.out _ (HG.out.kept M.grown (M.at (q := (bm, memG j s0 s1)) (by (repeat' (first | exact Zz2 | refine Zz1 ?_)))))).mono ?_); rintro e wc ⟨rfl, hgr, hm⟩; skip; replace M := M.callW (by (repeat (first | exact Upd.head | apply Upd.tail))) hgr hm; clear hgr hm)) | (refine mu (ok := okG j s0 s1) Tryz.keyed Tryz.underlying174 M rfl rfl rfl rfl rfl (by (repeat (first | exact Upd.head | apply Upd.tail))) HK.out ((HO.out _).2 (by rw [HV.out]; rfl)) ?_; clear M; (try clear wc); intro wc M))
  ·go_ret
   exact ⟨rfl, M.grown, (M.at (q := (bm, memG j s0 s1)) (by (repeat' (first | exact Zz2 | refine Zz1 ?_))))⟩
  ·go_ret
   rw [HV.out]
   exact ⟨rfl, M.grown, (M.at (q := (bm, memG j s0 s1)) (by (repeat' (first | exact Zz2 | refine Zz1 ?_))))⟩
theorem stops_any (j : Jb) (A : Option Addr) (c : Nat) (s0 s1 : Int) (bg bx bm : Nat) (hj : j.good) : ∀ n, StopsC j A c s0 s1 bg bx bm n
 | 0 => fun p0 p1 t r w hb hg => stops_of j A c s0 s1 bg bx bm 0 p0 p1 t r w hb hg fun w' hg' => stroke_0 j A c s0 s1 bg bx bm p0 p1 t r w' hg'
 | n + 1 => fun p0 p1 t r w hb hg => stops_of j A c s0 s1 bg bx bm (n + 1) p0 p1 t r w hb hg fun w' hg' => stroke_s j A c s0 s1 bg bx bm n hj (stops_any j A c s0 s1 bg bx bm hj n) p0 p1 t r w' hb hg'
theorem readsC (j : Jb) (A : Option Addr) (c : Nat) (s0 s1 : Int) (bg bx bm : Nat) (hj : j.good) (n : Nat) (p0 p1 t r : Int) (w : World) (hb : Bnd n p0 p1 t r) (hg : Gm j A c s0 s1 bg bx bm w) :
  Calls Tryz.prog 130 #[.agg (gmA j A c s0 s1 bg bx).toArray, kn5 p0 p1 t r n] w (GPost j s0 s1 bm (.bool (readsP j s0 s1 n p0 p1 t r)) w) := reads_any j A c s0 s1 bg bx bm n hj (stops_any j A c s0 s1 bg bx bm hj n) p0 p1 t r w hb hg
def firstB (b : Nat → Bool) : Nat → Nat → Option Nat
 | 0, _ => none
 | k + 1, n => if b n = true then some n else firstB b k (n + 1)
theorem first_hit {b : Nat → Bool} {n : Nat} (hn : n < 5) (h : b n = true) : firstB b (5 - n) n = some n := by
 obtain ⟨k, hk⟩ : ∃ k, 5 - n = k + 1 := ⟨4 - n, by omega⟩
 rw [hk, firstB, if_pos h]
theorem first_miss {b : Nat → Bool} {n : Nat} (hn : n < 5) (h : b n = false) : firstB b (5 - n) n = firstB b (5 - (n + 1)) (n + 1) := by
 obtain ⟨k, hk⟩ : ∃ k, 5 - n = k + 1 := ⟨4 - n, by omega⟩
 have hk2 : 5 - (n + 1) = k := by omega
 rw [hk, firstB, if_neg (by rw [h]; simp), hk2]
theorem first_end {b : Nat → Bool} {n : Nat} (hn : 5 ≤ n) : firstB b (5 - n) n = none := by
 have : 5 - n = 0 := by omega
 rw [this]; rfl
def fewV (o : Option Nat) : Value := match o with | some n => .tuple #[.int .i64 n, .bool true] | none => .tuple #[.int .i64 0, .bool false]
theorem fewest_Guided (j : Jb) (s0 s1 : Int) (bm gG gJ : Nat) (b : Nat → Bool) (Inv : World → Prop) (hI : ∀ W W', Inv W → W.grownBy W' (some bm) → (memG j s0 s1).holds W' bm → Inv W')
  (hf : ∀ (n : Nat) W, n < 5 → Inv W → Calls Tryz.prog 129 #[.int .i64 n, .pointer (some ⟨gG, 0, none⟩), .pointer (some ⟨gJ, 0, none⟩)] W (GPost j s0 s1 bm (.bool (b n)) W)) (w : World) (h0 : Inv w) (hm : (memG j s0 s1).holds w bm) :
  Calls Tryz.prog 128 #[.func (.func 129) #[] #[.pointer (some ⟨gG, 0, none⟩), .pointer (some ⟨gJ, 0, none⟩)]] w (GPost j s0 s1 bm (fewV (firstB b 5 0)) w) := by
 have HI := Lib.hid hI
 have HF := Lib.hid hf
 have H0 := Lib.hid h0
 have M := Mem.initEx hm
 clear hI hf h0 hm
 generalize hv : firstB b 5 0 = fv at *
 have HV := Lib.hid hv
 clear hv
 go_enter Tryz.func128, Tryz.ntmps128
 refine m_start M ?_
 clear M
 intro wc M
 go_wp2_with (first | (refine m_ld1 M rfl rfl rfl (by (repeat' (first | exact Zz2 | refine Zz1 ?_))) (by rfl) ?_) | (refine m_ldr M rfl rfl rfl (by (repeat' (first | exact Zz2 | refine Zz1 ?_))) (by (try simp only [Zy2, List.take_zero, List.take_nil, Zy1, List.drop_zero, List.drop_nil, List.cons_append, List.nil_append, List.append_nil, List.length_cons, List.length_nil, Nat.reduceAdd, Nat.zero_add, Nat.add_zero]); rfl) (by rfl) ?_) | (refine m_st M rfl rfl rfl (by first | exact (rfl : _ = Value.agg _) | exact (rfl : _ = Value.int _ _) | exact (rfl : _ = Value.bool _) | exact (rfl : _ = Value.slice _ _ _) | exact (rfl : _ = Value.pointer _) | exact (rfl : _ = Value.map _) | exact (rfl : _ = Value.func _ _ _) | exact (rfl : _ = Value.string _)) (by rfl) (by (repeat (first | exact Upd.head | apply Upd.tail))) (by (try simp only [Zy2, List.take_zero, List.take_nil, Zy1, List.drop_zero, List.drop_nil, List.cons_append, List.nil_append, List.append_nil, List.length_cons, List.length_nil, Nat.reduceAdd, Nat.zero_add, Nat.add_zero]); rfl) (by simp) (by simp [Value.oneCell']) (by kernel_rfl) ?_; clear M; (try clear wc); intro wc M) | (refine m_al M rfl rfl ?_; clear M; (try clear wc); intro g wc M) | (refine m_bx M rfl rfl (by first | exact (rfl : _ = Value.agg _) | exact (rfl : _ = Value.int _ _) | exact (rfl : _ = Value.bool _) | exact (rfl : _ = Value.slice _ _ _) | exact (rfl : _ = Value.pointer _) | exact (rfl : _ = Value.map _) | exact (rfl : _ = Value.func _ _ _) | exact (rfl : _ = Value.string _)) (by rfl) ?_; clear M; (try clear wc); intro g wc M))
 go_loopw [5] (fun v wr => ∃ n : Nat, v = .int .i64 n ∧ n ≤ 5 ∧ Hid (firstB b 5 0 = firstB b (5 - n) n) ∧ Mem w (fun b => b = bm) wr [(bm, memG j s0 s1)]) (fun v _ => (5 - intOf v).toNat)
 case atStart => exact ⟨0, rfl, by omega, rfl, M⟩
 case round =>
  clear M wc
  obtain ⟨n, rfl, hn, he, M⟩ := hrel
  obtain ⟨wc, rfl⟩ : ∃ x : World, x = wr := ⟨_, rfl⟩
  by_cases hlt : n < 5
  ·have e1 : decide ((n : Int) < 5) = true := by simp; omega
   have HL := Lib.hid hlt
   have CI := Lib.hid (HI.out w wc H0.out M.grown (M.at (q := (bm, memG j s0 s1)) (by (repeat' (first | exact Zz2 | refine Zz1 ?_)))))
   cases hb : b n with
   | true =>
    have HB := Lib.hid hb
    clear hb
    go_wp2_with (first | (refine m_ld1 M rfl rfl rfl (by (repeat' (first | exact Zz2 | refine Zz1 ?_))) (by rfl) ?_) | (refine m_ldr M rfl rfl rfl (by (repeat' (first | exact Zz2 | refine Zz1 ?_))) (by (try simp only [Zy2, List.take_zero, List.take_nil, Zy1, List.drop_zero, List.drop_nil, List.cons_append, List.nil_append, List.append_nil, List.length_cons, List.length_nil, Nat.reduceAdd, Nat.zero_add, Nat.add_zero]); rfl) (by rfl) ?_) | (refine m_st M rfl rfl rfl (by first | exact (rfl : _ = Value.agg _) | exact (rfl : _ = Value.int _ _) | exact (rfl : _ = Value.bool _) | exact (rfl : _ = Value.slice _ _ _) | exact (rfl : _ = Value.pointer _) | exact (rfl : _ = Value.map _) | exact (rfl : _ = Value.func _ _ _) | exact (rfl : _ = Value.string _)) (by rfl) (by (repeat (first | exact Upd.head | apply Upd.tail))) (by (try simp only [Zy2, List.take_zero, List.take_nil, Zy1, List.drop_zero, List.drop_nil, List.cons_append, List.nil_append, List.append_nil, List.length_cons, List.length_nil, Nat.reduceAdd, Nat.zero_add, Nat.add_zero]); rfl) (by simp) (by simp [Value.oneCell']) (by kernel_rfl) ?_; clear M; (try clear wc); intro wc M) | (refine m_al M rfl rfl ?_; clear M; (try clear wc); intro g wc M) | (refine m_bx M rfl rfl (by first | exact (rfl : _ = Value.agg _) | exact (rfl : _ = Value.int _ _) | exact (rfl : _ = Value.bool _) | exact (rfl : _ = Value.slice _ _ _) | exact (rfl : _ = Value.pointer _) | exact (rfl : _ = Value.map _) | exact (rfl : _ = Value.func _ _ _) | exact (rfl : _ = Value.string _)) (by rfl) ?_; clear M; (try clear wc); intro g wc M) | (go_at_call 129; ((with_reducible refine (HF.out n _ HL.out CI.out).mono ?_); rintro e wc ⟨rfl, hgr, hm⟩; (rw [HB.out]); replace M := M.callW (by (repeat (first | exact Upd.head | apply Upd.tail))) hgr hm; clear hgr hm)))
    go_ret2
    have e : fv = some n := by rw [← HV.out, he.out, first_hit HL.out HB.out]
    rw [e]
    exact ⟨rfl, M.grown, (M.at (q := (bm, memG j s0 s1)) (by (repeat' (first | exact Zz2 | refine Zz1 ?_))))⟩
   | false =>
    have HB := Lib.hid hb
    clear hb
    go_wp2_with (first | (refine m_ld1 M rfl rfl rfl (by (repeat' (first | exact Zz2 | refine Zz1 ?_))) (by rfl) ?_) | (refine m_ldr M rfl rfl rfl (by (repeat' (first | exact Zz2 | refine Zz1 ?_))) (by (try simp only [Zy2, List.take_zero, List.take_nil, Zy1, List.drop_zero, List.drop_nil, List.cons_append, List.nil_append, List.append_nil, List.length_cons, List.length_nil, Nat.reduceAdd, Nat.zero_add, Nat.add_zero]); rfl) (by rfl) ?_) | (refine m_st M rfl rfl rfl (by first | exact (rfl : _ = Value.agg _) | exact (rfl : _ = Value.int _ _) | exact (rfl : _ = Value.bool _) | exact (rfl : _ = Value.slice _ _ _) | exact (rfl : _ = Value.pointer _) | exact (rfl : _ = Value.map _) | exact (rfl : _ = Value.func _ _ _) | exact (rfl : _ = Value.string _)) (by rfl) (by (repeat (first | exact Upd.head | apply Upd.tail))) (by (try simp only [Zy2, List.take_zero, List.take_nil, Zy1, List.drop_zero, List.drop_nil, List.cons_append, List.nil_append, List.append_nil, List.length_cons, List.length_nil, Nat.reduceAdd, Nat.zero_add, Nat.add_zero]); rfl) (by simp) (by simp [Value.oneCell']) (by kernel_rfl) ?_; clear M; (try clear wc); intro wc M) | (refine m_al M rfl rfl ?_; clear M; (try clear wc); intro g wc M) | (refine m_bx M rfl rfl (by first | exact (rfl : _ = Value.agg _) | exact (rfl : _ = Value.int _ _) | exact (rfl : _ = Value.bool _) | exact (rfl : _ = Value.slice _ _ _) | exact (rfl : _ = Value.pointer _) | exact (rfl : _ = Value.map _) | exact (rfl : _ = Value.func _ _ _) | exact (rfl : _ = Value.string _)) (by rfl) ?_; clear M; (try clear wc); intro g wc M) | (go_at_call 129; ((with_reducible refine (HF.out n _ HL.out CI.out).mono ?_); rintro e wc ⟨rfl, hgr, hm⟩; (rw [HB.out]); replace M := M.callW (by (repeat (first | exact Upd.head | apply Upd.tail))) hgr hm; clear hgr hm)))
    go_roundw
    case rel => exact ⟨n + 1, by go_num, by omega, by (show _ = _; rw [he.out, first_miss HL.out HB.out]), M⟩
    case measure => simp [intOf]; omega
  ·have e1 : decide ((n : Int) < 5) = false := by simp; omega
   go_wp2_with (first | (refine m_ld1 M rfl rfl rfl (by (repeat' (first | exact Zz2 | refine Zz1 ?_))) (by rfl) ?_) | (refine m_ldr M rfl rfl rfl (by (repeat' (first | exact Zz2 | refine Zz1 ?_))) (by (try simp only [Zy2, List.take_zero, List.take_nil, Zy1, List.drop_zero, List.drop_nil, List.cons_append, List.nil_append, List.append_nil, List.length_cons, List.length_nil, Nat.reduceAdd, Nat.zero_add, Nat.add_zero]); rfl) (by rfl) ?_) | (refine m_st M rfl rfl rfl (by first | exact (rfl : _ = Value.agg _) | exact (rfl : _ = Value.int _ _) | exact (rfl : _ = Value.bool _) | exact (rfl : _ = Value.slice _ _ _) | exact (rfl : _ = Value.pointer _) | exact (rfl : _ = Value.map _) | exact (rfl : _ = Value.func _ _ _) | exact (rfl : _ = Value.string _)) (by rfl) (by (repeat (first | exact Upd.head | apply Upd.tail))) (by (try simp only [Zy2, List.take_zero, List.take_nil, Zy1, List.drop_zero, List.drop_nil, List.cons_append, List.nil_append, List.append_nil, List.length_cons, List.length_nil, Nat.reduceAdd, Nat.zero_add, Nat.add_zero]); rfl) (by simp) (by simp [Value.oneCell']) (by kernel_rfl) ?_; clear M; (try clear wc); intro wc M) | (refine m_al M rfl rfl ?_; clear M; (try clear wc); intro g wc M) | (refine m_bx M rfl rfl (by first | exact (rfl : _ = Value.agg _) | exact (rfl : _ = Value.int _ _) | exact (rfl : _ = Value.bool _) | exact (rfl : _ = Value.slice _ _ _) | exact (rfl : _ = Value.pointer _) | exact (rfl : _ = Value.map _) | exact (rfl : _ = Value.func _ _ _) | exact (rfl : _ = Value.string _)) (by rfl) ?_; clear M; (try clear wc); intro g wc M))
   go_ret2
   have e : fv = none := by rw [← HV.out, he.out, first_end (by omega)]
   rw [e]
   exact ⟨rfl, M.grown, (M.at (q := (bm, memG j s0 s1)) (by (repeat' (first | exact Zz2 | refine Zz1 ?_))))⟩
structure Gn (j : Jb) (A : Option Addr) (c : Nat) (s0 s1 : Int) (bg bx bm gG gJ : Nat) (w : World) : Prop where
 g : Gm j A c s0 s1 bg bx bm w
 b : Bk w gG (gmA j A c s0 s1 bg bx).toArray
 j : Bk w gJ #[.int .i64 j.p0, .int .i64 j.p1, .int .i64 j.t0, .int .i64 j.t1, .int .i64 j.r0, .int .i64 j.r1, .int .i64 j.u0, .int .i64 j.u1, .int .i64 j.d0, .int .i64 j.d1, .int .i64 j.a0, .int .i64 j.a1, .int .i64 j.b0, .int .i64 j.b1, .int .i64 j.le, .slice A j.sh.length c, .int .i64 j.wi, .int .i64 j.me]
 nb : gG ≠ bm
 nj : gJ ≠ bm
theorem Gn.kept {j : Jb} {A : Option Addr} {c : Nat} {s0 s1 : Int} {bg bx bm gG gJ : Nat} {w w' : World} (h : Gn j A c s0 s1 bg bx bm gG gJ w) (hg : w.grownBy w' (some bm)) (hm : (memG j s0 s1).holds w' bm) : Gn j A c s0 s1 bg bx bm gG gJ w' :=
 ⟨h.g.kept hg hm, h.b.grown hg (fun e => h.nb (by injection e)), h.j.grown hg (fun e => h.nj (by injection e)), h.nb, h.nj⟩
theorem bnd_0 {j : Jb} (hj : j.good) {n : Nat} (hn : n < 5) : Bnd n j.p0 j.p1 0 0 := by
 have := hj.p
 exact ⟨by omega, by omega, by omega, by omega, by omega⟩
theorem Guided1_any (j : Jb) (A : Option Addr) (c : Nat) (s0 s1 : Int) (bg bx bm gG gJ : Nat) (hj : j.good) (n : Nat) (hn : n < 5) (w : World) (hg : Gn j A c s0 s1 bg bx bm gG gJ w) :
  Calls Tryz.prog 129 #[.int .i64 n, .pointer (some ⟨gG, 0, none⟩), .pointer (some ⟨gJ, 0, none⟩)] w (GPost j s0 s1 bm (.bool (readsP j s0 s1 n j.p0 j.p1 0 0)) w) := by
 have M := Mem.initEx hg.g.m
 have HG := Lib.hid hg
 have HJ := Lib.hid hj
 clear hg hj
 go_enter Tryz.func129, Tryz.ntmps129
 refine m_start M ?_
 clear M
 intro wc M
 go_wp2_with (first | (refine m_ld1 M rfl rfl rfl (by (repeat' (first | exact Zz2 | refine Zz1 ?_))) (by rfl) ?_) | (refine m_ldr M rfl rfl rfl (by (repeat' (first | exact Zz2 | refine Zz1 ?_))) (by (try simp only [Zy2, List.take_zero, List.take_nil, Zy1, List.drop_zero, List.drop_nil, List.cons_append, List.nil_append, List.append_nil, List.length_cons, List.length_nil, Nat.reduceAdd, Nat.zero_add, Nat.add_zero]); rfl) (by rfl) ?_) | (refine m_st M rfl rfl rfl (by first | exact (rfl : _ = Value.agg _) | exact (rfl : _ = Value.int _ _) | exact (rfl : _ = Value.bool _) | exact (rfl : _ = Value.slice _ _ _) | exact (rfl : _ = Value.pointer _) | exact (rfl : _ = Value.map _) | exact (rfl : _ = Value.func _ _ _) | exact (rfl : _ = Value.string _)) (by rfl) (by (repeat (first | exact Upd.head | apply Upd.tail))) (by (try simp only [Zy2, List.take_zero, List.take_nil, Zy1, List.drop_zero, List.drop_nil, List.cons_append, List.nil_append, List.append_nil, List.length_cons, List.length_nil, Nat.reduceAdd, Nat.zero_add, Nat.add_zero]); rfl) (by simp) (by simp [Value.oneCell']) (by kernel_rfl) ?_; clear M; (try clear wc); intro wc M) | (refine m_al M rfl rfl ?_; clear M; (try clear wc); intro g wc M) | (refine m_bx M rfl rfl (by first | exact (rfl : _ = Value.agg _) | exact (rfl : _ = Value.int _ _) | exact (rfl : _ = Value.bool _) | exact (rfl : _ = Value.slice _ _ _) | exact (rfl : _ = Value.pointer _) | exact (rfl : _ = Value.map _) | exact (rfl : _ = Value.func _ _ _) | exact (rfl : _ = Value.string _)) (by rfl) ?_; clear M; (try clear wc); intro g wc M) | (refine lo_row (M.old HG.out.b HG.out.nb) rfl rfl rfl (by (try simp only [Zy2, List.take_zero, List.take_nil, Zy1, List.drop_zero, List.drop_nil, List.cons_append, List.nil_append, List.append_nil, List.length_cons, List.length_nil, Nat.reduceAdd, Nat.zero_add, Nat.add_zero]); rfl) (by rfl) ?_) | (refine lo_row (M.old HG.out.j HG.out.nj) rfl rfl rfl (by (try simp only [Zy2, List.take_zero, List.take_nil, Zy1, List.drop_zero, List.drop_nil, List.cons_append, List.nil_append, List.append_nil, List.length_cons, List.length_nil, Nat.reduceAdd, Nat.zero_add, Nat.add_zero]); rfl) (by rfl) ?_) | (go_at_call 130; ((with_reducible refine (readsC j A c s0 s1 bg bx bm HJ.out n j.p0 j.p1 0 0 _ (bnd_0 HJ.out hn) (HG.out.kept M.grown (M.at (q := (bm, memG j s0 s1)) (by (repeat' (first | exact Zz2 | refine Zz1 ?_))))).g).mono ?_); rintro e wc ⟨rfl, hgr, hm⟩; skip; replace M := M.callW (by (repeat (first | exact Upd.head | apply Upd.tail))) hgr hm; clear hgr hm)))
 go_ret
 exact ⟨rfl, M.grown, (M.at (q := (bm, memG j s0 s1)) (by (repeat' (first | exact Zz2 | refine Zz1 ?_))))⟩
def guidedF (j : Jb) : Option Nat := firstB (fun n => readsP j (winS j).1 (winS j).2 n j.p0 j.p1 0 0) 5 0
def guidedJ (j : Jb) : Int × Int := if checkJ j = 0 then (match guidedF j with | some n => ((n : Int), 0) | none => (0, 11)) else (0, checkJ j)
theorem Gn.of_mem {j : Jb} {A : Option Addr} {c : Nat} {s0 s1 : Int} {bg bx bm gG gJ : Nat} {w0 w : World} {ex : Nat → Prop} {L : List (Nat × BA)} (M : Mem w0 ex w L)
  (h : [(gG, .cells (gmA j A c s0 s1 bg bx)), (bx, .cells [.map (some bm)]), (bm, memG j s0 s1), (bg, .cells (gmA j A c s0 s1 bg bx)), (gJ, .cells [.int .i64 j.p0, .int .i64 j.p1, .int .i64 j.t0, .int .i64 j.t1, .int .i64 j.r0, .int .i64 j.r1, .int .i64 j.u0, .int .i64 j.u1, .int .i64 j.d0, .int .i64 j.d1, .int .i64 j.a0, .int .i64 j.a1, .int .i64 j.b0, .int .i64 j.b1, .int .i64 j.le, .slice A j.sh.length c, .int .i64 j.wi, .int .i64 j.me])].Sublist L) : Gn j A c s0 s1 bg bx bm gG gJ w := by
 have N := M.sub h
 have hnd := N.nd
 simp only [List.map_cons, List.map_nil, List.nodup_cons, List.mem_cons, not_or, List.not_mem_nil, not_false_eq_true, List.nodup_nil, and_true] at hnd
 obtain ⟨⟨-, n1, -, -⟩, ⟨n2, -, -⟩, ⟨n3, n4⟩, -⟩ := hnd
 exact ⟨⟨N.get (g := bg) (by (repeat' (first | exact Zz2 | refine Zz1 ?_))), N.get (g := bx) (by (repeat' (first | exact Zz2 | refine Zz1 ?_))), N.at (q := (bm, memG j s0 s1)) (by (repeat' (first | exact Zz2 | refine Zz1 ?_))), fun e => n3 e.symm, n2⟩, N.get (g := gG) (by (repeat' (first | exact Zz2 | refine Zz1 ?_))), N.get (g := gJ) (by (repeat' (first | exact Zz2 | refine Zz1 ?_))), n1, fun e => n4 e.symm⟩
theorem Guided_any (j : Jb) (A : Option Addr) (c : Nat) (w : World) (hr : Rd w w.heap.size 2 A j.sh.length (rc j.sh)) (hn : j.sh.length ≤ 9223372036854775807) :
  Calls Tryz.prog 99 #[jobV j A c] w fun e w' => e = .returned (.tuple #[.int .i64 (guidedJ j).1, .int .i64 (guidedJ j).2]) ∧ Below w.heap.size w w' := by
 have HR := Lib.hid hr
 clear hr
 by_cases h0 : checkJ j = 0
 ·have HJ := Lib.hid (good_of h0)
  have H0 := Lib.hid h0
  cases hq : guidedF j with
  | none =>
   have HF : Hid (firstB (fun n => readsP j (winS j).1 (winS j).2 n j.p0 j.p1 0 0) 5 0 = none) := hq
   have HW : Hid (guidedJ j = (0, 11)) := by show _ = _; unfold guidedJ; rw [if_pos h0, hq]
   clear h0 hq
   generalize guidedJ j = gj at *
   go_enter Tryz.func99, Tryz.ntmps99
   refine start noEx ?_
   intro wc M
   go_wp2_with (first | (refine m_ld1 M rfl rfl rfl (by (repeat' (first | exact Zz2 | refine Zz1 ?_))) (by rfl) ?_) | (refine m_ldr M rfl rfl rfl (by (repeat' (first | exact Zz2 | refine Zz1 ?_))) (by (try simp only [Zy2, List.take_zero, List.take_nil, Zy1, List.drop_zero, List.drop_nil, List.cons_append, List.nil_append, List.append_nil, List.length_cons, List.length_nil, Nat.reduceAdd, Nat.zero_add, Nat.add_zero]); rfl) (by rfl) ?_) | (refine m_st M rfl rfl rfl (by first | exact (rfl : _ = Value.agg _) | exact (rfl : _ = Value.int _ _) | exact (rfl : _ = Value.bool _) | exact (rfl : _ = Value.slice _ _ _) | exact (rfl : _ = Value.pointer _) | exact (rfl : _ = Value.map _) | exact (rfl : _ = Value.func _ _ _) | exact (rfl : _ = Value.string _)) (by rfl) (by (repeat (first | exact Upd.head | apply Upd.tail))) (by (try simp only [Zy2, List.take_zero, List.take_nil, Zy1, List.drop_zero, List.drop_nil, List.cons_append, List.nil_append, List.append_nil, List.length_cons, List.length_nil, Nat.reduceAdd, Nat.zero_add, Nat.add_zero]); rfl) (by simp) (by simp [Value.oneCell']) (by kernel_rfl) ?_; clear M; (try clear wc); intro wc M) | (refine m_al M rfl rfl ?_; clear M; (try clear wc); intro g wc M) | (refine m_bx M rfl rfl (by first | exact (rfl : _ = Value.agg _) | exact (rfl : _ = Value.int _ _) | exact (rfl : _ = Value.bool _) | exact (rfl : _ = Value.slice _ _ _) | exact (rfl : _ = Value.pointer _) | exact (rfl : _ = Value.map _) | exact (rfl : _ = Value.func _ _ _) | exact (rfl : _ = Value.string _)) (by rfl) ?_; clear M; (try clear wc); intro g wc M) | (go_at_call 83; ((with_reducible refine (check_any j _ _ _ ?_ ?_).mono ?_); ((exact M.rd HR.out (Nat.le_refl _)); (exact hn)); rw [H0.out]; rintro e wc ⟨rfl, hb⟩; replace M := M.call hb; clear hb)) | (go_at_call 127; refine (play_any (okG j (winS j).1 (winS j).2) j _ _ _ HJ.out.ok ?_).mono ?_; (exact M.rd HR.out (Nat.le_refl _)); rintro e wc ⟨bg, bx, bm, rfl, N⟩; replace M := M.join N; clear N; simp only [List.cons_append, List.nil_append] at M) | (go_at_call 128; refine (fewest_Guided j (winS j).1 (winS j).2 bm _ _ (fun n => readsP j (winS j).1 (winS j).2 n j.p0 j.p1 0 0) (Gn j A c (winS j).1 (winS j).2 bg bx bm _ _) (fun W W' h1 h2 h3 => h1.kept h2 h3) (fun n W hn h => Guided1_any j A c (winS j).1 (winS j).2 bg bx bm _ _ HJ.out n hn W h) _ (Gn.of_mem M (by (repeat (first | exact List.Sublist.slnil | apply List.Sublist.cons_cons | apply List.Sublist.cons)))) (M.at (q := (bm, memG j (winS j).1 (winS j).2)) (by (repeat' (first | exact Zz2 | refine Zz1 ?_))))).mono ?_; rintro e wc ⟨rfl, hgr, hm⟩; rw [HF.out]; dsimp only [fewV]; replace M := M.callW (by (repeat (first | exact Upd.head | apply Upd.tail))) hgr hm; clear hgr hm))
   go_ret2
   rw [HW.out]
   exact ⟨rfl, M.below⟩
  | some n =>
   have HF : Hid (firstB (fun n => readsP j (winS j).1 (winS j).2 n j.p0 j.p1 0 0) 5 0 = some n) := hq
   have HW : Hid (guidedJ j = ((n : Int), 0)) := by show _ = _; unfold guidedJ; rw [if_pos h0, hq]
   clear h0 hq
   generalize guidedJ j = gj at *
   go_enter Tryz.func99, Tryz.ntmps99
   refine start noEx ?_
   intro wc M
   go_wp2_with (first | (refine m_ld1 M rfl rfl rfl (by (repeat' (first | exact Zz2 | refine Zz1 ?_))) (by rfl) ?_) | (refine m_ldr M rfl rfl rfl (by (repeat' (first | exact Zz2 | refine Zz1 ?_))) (by (try simp only [Zy2, List.take_zero, List.take_nil, Zy1, List.drop_zero, List.drop_nil, List.cons_append, List.nil_append, List.append_nil, List.length_cons, List.length_nil, Nat.reduceAdd, Nat.zero_add, Nat.add_zero]); rfl) (by rfl) ?_) | (refine m_st M rfl rfl rfl (by first | exact (rfl : _ = Value.agg _) | exact (rfl : _ = Value.int _ _) | exact (rfl : _ = Value.bool _) | exact (rfl : _ = Value.slice _ _ _) | exact (rfl : _ = Value.pointer _) | exact (rfl : _ = Value.map _) | exact (rfl : _ = Value.func _ _ _) | exact (rfl : _ = Value.string _)) (by rfl) (by (repeat (first | exact Upd.head | apply Upd.tail))) (by (try simp only [Zy2, List.take_zero, List.take_nil, Zy1, List.drop_zero, List.drop_nil, List.cons_append, List.nil_append, List.append_nil, List.length_cons, List.length_nil, Nat.reduceAdd, Nat.zero_add, Nat.add_zero]); rfl) (by simp) (by simp [Value.oneCell']) (by kernel_rfl) ?_; clear M; (try clear wc); intro wc M) | (refine m_al M rfl rfl ?_; clear M; (try clear wc); intro g wc M) | (refine m_bx M rfl rfl (by first | exact (rfl : _ = Value.agg _) | exact (rfl : _ = Value.int _ _) | exact (rfl : _ = Value.bool _) | exact (rfl : _ = Value.slice _ _ _) | exact (rfl : _ = Value.pointer _) | exact (rfl : _ = Value.map _) | exact (rfl : _ = Value.func _ _ _) | exact (rfl : _ = Value.string _)) (by rfl) ?_; clear M; (try clear wc); intro g wc M) | (go_at_call 83; ((with_reducible refine (check_any j _ _ _ ?_ ?_).mono ?_); ((exact M.rd HR.out (Nat.le_refl _)); (exact hn)); rw [H0.out]; rintro e wc ⟨rfl, hb⟩; replace M := M.call hb; clear hb)) | (go_at_call 127; refine (play_any (okG j (winS j).1 (winS j).2) j _ _ _ HJ.out.ok ?_).mono ?_; (exact M.rd HR.out (Nat.le_refl _)); rintro e wc ⟨bg, bx, bm, rfl, N⟩; replace M := M.join N; clear N; simp only [List.cons_append, List.nil_append] at M) | (go_at_call 128; refine (fewest_Guided j (winS j).1 (winS j).2 bm _ _ (fun n => readsP j (winS j).1 (winS j).2 n j.p0 j.p1 0 0) (Gn j A c (winS j).1 (winS j).2 bg bx bm _ _) (fun W W' h1 h2 h3 => h1.kept h2 h3) (fun n W hn h => Guided1_any j A c (winS j).1 (winS j).2 bg bx bm _ _ HJ.out n hn W h) _ (Gn.of_mem M (by (repeat (first | exact List.Sublist.slnil | apply List.Sublist.cons_cons | apply List.Sublist.cons)))) (M.at (q := (bm, memG j (winS j).1 (winS j).2)) (by (repeat' (first | exact Zz2 | refine Zz1 ?_))))).mono ?_; rintro e wc ⟨rfl, hgr, hm⟩; rw [HF.out]; dsimp only [fewV]; replace M := M.callW (by (repeat (first | exact Upd.head | apply Upd.tail))) hgr hm; clear hgr hm))
   go_ret2
   rw [HW.out]
   exact ⟨rfl, M.below⟩
 ·have h1 : (checkJ j != 0) = true := by simpa using h0
  have HW : Hid (guidedJ j = (0, checkJ j)) := by show _ = _; unfold guidedJ; rw [if_neg h0]
  clear h0
  generalize guidedJ j = gj at *
  go_enter Tryz.func99, Tryz.ntmps99
  refine start noEx ?_
  intro wc M
  go_wp2_with (first | (refine m_ld1 M rfl rfl rfl (by (repeat' (first | exact Zz2 | refine Zz1 ?_))) (by rfl) ?_) | (refine m_ldr M rfl rfl rfl (by (repeat' (first | exact Zz2 | refine Zz1 ?_))) (by (try simp only [Zy2, List.take_zero, List.take_nil, Zy1, List.drop_zero, List.drop_nil, List.cons_append, List.nil_append, List.append_nil, List.length_cons, List.length_nil, Nat.reduceAdd, Nat.zero_add, Nat.add_zero]); rfl) (by rfl) ?_) | (refine m_st M rfl rfl rfl (by first | exact (rfl : _ = Value.agg _) | exact (rfl : _ = Value.int _ _) | exact (rfl : _ = Value.bool _) | exact (rfl : _ = Value.slice _ _ _) | exact (rfl : _ = Value.pointer _) | exact (rfl : _ = Value.map _) | exact (rfl : _ = Value.func _ _ _) | exact (rfl : _ = Value.string _)) (by rfl) (by (repeat (first | exact Upd.head | apply Upd.tail))) (by (try simp only [Zy2, List.take_zero, List.take_nil, Zy1, List.drop_zero, List.drop_nil, List.cons_append, List.nil_append, List.append_nil, List.length_cons, List.length_nil, Nat.reduceAdd, Nat.zero_add, Nat.add_zero]); rfl) (by simp) (by simp [Value.oneCell']) (by kernel_rfl) ?_; clear M; (try clear wc); intro wc M) | (refine m_al M rfl rfl ?_; clear M; (try clear wc); intro g wc M) | (refine m_bx M rfl rfl (by first | exact (rfl : _ = Value.agg _) | exact (rfl : _ = Value.int _ _) | exact (rfl : _ = Value.bool _) | exact (rfl : _ = Value.slice _ _ _) | exact (rfl : _ = Value.pointer _) | exact (rfl : _ = Value.map _) | exact (rfl : _ = Value.func _ _ _) | exact (rfl : _ = Value.string _)) (by rfl) ?_; clear M; (try clear wc); intro g wc M) | (go_at_call 83; ((with_reducible refine (check_any j _ _ _ ?_ ?_).mono ?_); ((exact M.rd HR.out (Nat.le_refl _)); (exact hn)); rintro e wc ⟨rfl, hb⟩; replace M := M.call hb; clear hb)))
  go_ret2
  rw [HW.out]
  exact ⟨rfl, M.below⟩
end Go.Proofs.YtdnbljihhimijaaGreat


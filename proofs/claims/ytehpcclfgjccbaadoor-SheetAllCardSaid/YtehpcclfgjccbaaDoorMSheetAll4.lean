/-
  Walks of functions, and plain laws (texts put together). No condition.
-/
import Derived.Test.YtehpcclfgjccbaaDoorMSheetAll1
import Derived.Test.YtehpcclfgjccbaaDoorMSheetAll2
import Derived.Test.YtehpcclfgjccbaaDoorMSheetAll3
set_option maxRecDepth 100000
set_option maxHeartbeats 1000000
set_option linter.unusedSimpArgs false
set_option linter.unusedVariables false
namespace Go.Proofs.YtehpcclfgjccbaaDoor
open Go.RowKit
theorem Rd.memR {n1 size n : Nat} {w w' : World} {B : Option Addr} {xs : List Value} {ex : Nat → Prop} {L : List (Nat × BA)} (h : Rd w n1 size B n xs) (M : Mem w ex w' L) (hx : ∀ b o, B = some ⟨b, o, none⟩ → 0 < n → ¬ ex b) (hle : n1 ≤ w.heap.size) : Rd w' n1 size B n xs :=
 ⟨h.1, fun hn => by
  obtain ⟨b, o, h1, h2, h3⟩ := h.2 hn
  exact ⟨b, o, h1, h2, fun j u hu => (World.cell?_of_block (w := w) (a := ⟨b, o + j, none⟩) (M.block b (by omega) (hx b o h1 hn))).trans (h3 j u hu)⟩⟩
theorem RdF.memX {B n : Nat} {w w' : World} {A : Option Addr} {xs : List Value} {ex : Nat → Prop} {L : List (Nat × BA)} (r : RdF B w A n xs) (M : Mem w ex w' L) (hx : ∀ b, ex b → b < B) : RdF B w' A n xs :=
 ⟨(r.1.memR M (fun b o h1 h2 he => by have := hx b he; have := r.2 b o h1 h2; omega) (Nat.le_refl _)).more M.size, r.2⟩
theorem RdF.nil (B : Nat) (w : World) : RdF B w none 0 (ic []) := ⟨⟨by simp [ic], fun h => absurd h (by omega)⟩, fun b o h => by cases h⟩
theorem RdF.tail {B n : Nat} {w0 w : World} {A : Option Addr} {xs : List Value} {ex : Nat → Prop} {L : List (Nat × BA)} (r : RdF B w A n xs) (hB : w0.heap.size ≤ B) (hl : xs.length = n) (M : Mem w0 ex w L) (hL : ∀ p ∈ L, p.1 < B ∨ p.2 = dfA) : ∃ I : List (Nat × BA), (∃ b o, ∀ (w1 : World) (ex : Nat → Prop), Sp w1 ex I A n 1 b o xs) ∧ Mem w0 ex w (L ++ I) := by
 rcases Nat.eq_zero_or_pos n with rfl | hn
 ·have hx : xs = [] := List.eq_nil_of_length_eq_zero hl
  subst hx
  exact ⟨[], ⟨0, 0, fun w1 ex => Sp.nil⟩, by rw [List.append_nil]; exact M⟩
 ·obtain ⟨b, o, h1, h2, h3⟩ := r.1.2 hn
  have hb := r.2 b o h1 hn
  refine ⟨[(b, .any fun ob => ob = w.heap[b])], ⟨b, o, fun w1 ex => ⟨fun _ => h1, r.1.1, fun w' L M' hI _ => BA.lt (M'.blk _ (hI.subset List.mem_cons_self)).2, fun w' L M' hI j u hu => ?_⟩⟩, (M.add (by omega) (p := .any fun ob => ob = w.heap[b]) ⟨_, Array.getElem?_eq_getElem h2, rfl⟩ (fun q hq e => ?_)).swapI (I := [(b, .any fun ob => ob = w.heap[b])])⟩
  ·obtain ⟨ob, ho, he⟩ := M'.at (hI.subset List.mem_cons_self)
   subst he
   exact (World.cell?_of_block (w := w) (a := ⟨b, o + j, none⟩) (ho.trans (Array.getElem?_eq_getElem h2).symm)).trans (h3 j u hu)
  ·rcases hL q hq with h | h
   ·omega
   ·have hq2 : (q.1, dfA) ∈ L := by rw [← h]; exact hq
    obtain ⟨ob, ho, he⟩ := M.at hq2
    have hc := h3 0 xs[0] (List.getElem?_eq_getElem (by omega))
    obtain ⟨ob2, ho2, hc2⟩ := cell_isC hc
    rw [e] at ho
    rw [ho] at ho2
    injection ho2 with ho2
    rw [← ho2, he] at hc2
    cases hc2
theorem sheets1_any (s : Sk) (A : Option Addr) (d : Nat) (a c : Int) (ga gc gb gt n1 gm : Nat) (G : Option Addr) (n : Nat) (g : List Int) (num : Nat)  (w : World) (ha : 0 ≤ a ∧ a ≤ 2) (hc : 0 ≤ c ∧ c ≤ 2) (hg : ∀ p ∈ s.ps, p.good) (h5 : s.ps.length ≤ 5) (hlo : 0 ≤ s.lo ∧ s.lo ≤ 12) (hwi : 0 ≤ s.wi ∧ s.wi ≤ 12) (hd : s.ps.length ≤ d) (hn1 : n1 ≤ gm) (hgl : g.length = s.ps.length) (hnum : num ≤ 1000000) (he : PlW w n1 a c ga gc A s.ps) (qb : Bk w gb #[.int .i64 s.lo, .int .i64 s.wi, .int .i64 s.a0, .int .i64 s.a1, .int .i64 s.c0, .int .i64 s.c1, .slice A s.ps.length d, .func (.func 100) #[] #[.pointer (some ⟨ga, 0, none⟩)], .func (.func 101) #[] #[.pointer (some ⟨gc, 0, none⟩)]]) (qt : Bk w gt #[.map (some gm)]) (hq : BA.holds w gm (.any (memoQ Tryd.prog 120 (okW a c s)))) (hG : Rd w w.heap.size 1 G g.length (ic g)) :
  Calls Tryd.prog 110 #[.slice G g.length n, .int .i64 (num : Int), .pointer (some ⟨gb, 0, none⟩), .pointer (some ⟨gt, 0, none⟩)] w fun e9 w' => e9 = .returned (.bool (willV a c s g num)) ∧ Mem w (fun b => b = gm) w' [(gm, .any (memoQ Tryd.prog 120 (okW a c s)))] := by
 obtain ⟨bG, oG, SG⟩ := Sp.oldM hG (by omega) hq
 have hnb : ¬ gb = gm := memo_not hq (by simpa using qb.cell 0)
 have hnt : ¬ gt = gm := memo_not hq (by simpa using qt.cell 0)
 refine Zpx (fun b => b = gm) Tryd.func110 rfl 12 rfl [.slice G g.length n, .int .i64 (num : Int), .pointer (some ⟨gb, 0, none⟩), .pointer (some ⟨gt, 0, none⟩)] rfl rfl (Mem.initEx (p := .any (memoQ Tryd.prog 120 (okW a c s))) hq) ?_
 intro ac wc T M
 refine Zsr ?_
 refine lq T (Zra rfl evc) ?_; clear T ac; intro ac T
 refine wpList_nil ?_
 replace T := T.pick [1, 2, 3, 4] rfl
 refine nm_then ?_
 refine Zsr ?_
 refine Zg4 T (Zq (Zrr (Mem.old M qb hnb) rfl (T.e 2 rfl) rfl)) rfl (Zm 1 rfl rfl) rfl (Zm 3 rfl rfl) rfl (fun _ T => Zq (Zro (Mem.old M qt hnt) rfl (T.e 6 rfl) rfl)) rfl ?_; clear T ac; intro ac T
 refine Zl2 ?_
 have hE9 := he.mem M (fun b h => by have : b = gm := h; omega)
 refine Zoc (first := []) (cap := []) T rfl rfl rfl rfl evf (.cons (T.e 3 rfl) (.cons (T.e 2 rfl) (.cons (T.e 1 rfl) (.cons (T.e 0 rfl) .nil)))) Tryd.func111 rfl rfl ?_
 refine Calls.mono (will_any s A d a c ga gc G n g num gm _ ha hc hg h5 hlo hwi hd hgl (by omega) hE9.qa hE9.qc (hE9.hL.more hE9.le) (SG.rd M (List.nil_sublist _)) hE9.tab (M.at (Zne (i := 0) rfl))) ?_
 clear T; rintro e wc ⟨rfl, N⟩ ac T
 replace M := M.joinE N .head
 clear N
 refine lq T (Zra rfl (T.e 0 rfl)) ?_; clear T ac; intro ac T
 refine wpList_nil ?_
 replace T := T.pick [0] rfl
 refine Znr ?_
 refine rt_1 T rfl (T.e 0 rfl) ?_
 exact ⟨rfl, M⟩
def FewPost (a c : Int) (s : Sk) (gm : Nat) (w : World) (e9 : Ending) (w' : World) : Prop := ∃ (bA : Option Addr) (bc : Nat) (bl : List Int) (bn : Nat) (bi : Bool), e9 = .returned (.tuple #[.slice bA bl.length bc, .int .i64 (bn : Int), .bool bi]) ∧ fewF (fun x : List Int × Nat => willV a c s x.1 x.2) (asgP s.ps.length [] 0) = (if bi = true then some (bl, bn) else none) ∧ bl.length ≤ bc ∧ ∃ I : List (Nat × BA), (∃ b o, ∀ (w1 : World) (ex : Nat → Prop), Sp w1 ex I bA bl.length 1 b o (ic bl)) ∧ Mem w (fun b => b = gm) w' ((gm, .any (memoQ Tryd.prog 120 (okW a c s))) :: I)
theorem fewS_take {p : List Int × Nat → Bool} {l : List Int} {n bn : Nat} {bl : List Int} {bi : Bool} (h : (bi = false ∨ (n : Int) < (bn : Int)) ∧ p (l, n) = true) : fewS p (if bi = true then some (bl, bn) else none) (l, n) = some (l, n) := by
 obtain ⟨h1, h2⟩ := h
 cases bi with
 | false => simp [fewS, h2]
 | true =>
  have : n < bn := by rcases h1 with h | h; cases h; omega
  simp [fewS, h2, this]
theorem fewS_leave {p : List Int × Nat → Bool} {l : List Int} {n bn : Nat} {bl : List Int} {bi : Bool} (h : ¬ ((bi = false ∨ (n : Int) < (bn : Int)) ∧ p (l, n) = true)) : fewS p (if bi = true then some (bl, bn) else none) (l, n) = if bi = true then some (bl, bn) else none := by
 unfold fewS
 rw [if_neg]
 intro h2
 rw [Bool.and_eq_true] at h2
 refine h ⟨?_, h2.2⟩
 cases bi with
 | false => exact .inl rfl
 | true =>
  right
  have := h2.1
  simp at this
  omega
set_option maxHeartbeats 4000000 in
theorem few_any (s : Sk) (A : Option Addr) (d : Nat) (a c : Int) (ga gc gb gt n1 gm : Nat) (gl : Nat)  (w : World) (ha : 0 ≤ a ∧ a ≤ 2) (hc : 0 ≤ c ∧ c ≤ 2) (hg : ∀ p ∈ s.ps, p.good) (h5 : s.ps.length ≤ 5) (hlo : 0 ≤ s.lo ∧ s.lo ≤ 12) (hwi : 0 ≤ s.wi ∧ s.wi ≤ 12) (hd : s.ps.length ≤ d) (hn1 : n1 ≤ gm) (he : PlW w n1 a c ga gc A s.ps) (qb : Bk w gb #[.int .i64 s.lo, .int .i64 s.wi, .int .i64 s.a0, .int .i64 s.a1, .int .i64 s.c0, .int .i64 s.c1, .slice A s.ps.length d, .func (.func 100) #[] #[.pointer (some ⟨ga, 0, none⟩)], .func (.func 101) #[] #[.pointer (some ⟨gc, 0, none⟩)]]) (qt : Bk w gt #[.map (some gm)]) (hq : BA.holds w gm (.any (memoQ Tryd.prog 120 (okW a c s)))) (ql : Bk w gl #[.int .i64 (s.ps.length : Int)]) :
   Calls Tryd.prog 108 #[.func (.func 120) #[] #[.pointer (some ⟨gl, 0, none⟩)], .func (.func 110) #[] #[.pointer (some ⟨gb, 0, none⟩), .pointer (some ⟨gt, 0, none⟩)]] w (FewPost a c s gm w) := by
 have hnb : ¬ gb = gm := memo_not hq (by simpa using qb.cell 0)
 have hnt : ¬ gt = gm := memo_not hq (by simpa using qt.cell 0)
 have hnl : ¬ gl = gm := memo_not hq (by simpa using ql.cell 0)
 have hx9 : ∀ b, b = gm → n1 ≤ b := fun b h => by omega
 refine px_enterM (fun b => b = gm) Tryd.func108 rfl 30 rfl [.func (.func 120) #[] #[.pointer (some ⟨gl, 0, none⟩)], .func (.func 110) #[] #[.pointer (some ⟨gb, 0, none⟩), .pointer (some ⟨gt, 0, none⟩)]] rfl rfl (Mem.initEx (p := .any (memoQ Tryd.prog 120 (okW a c s))) hq) ?_
 intro ac wc T M
 refine Zsr ?_
 refine Zl2 ?_
 refine Zob M T rfl rfl rfl rfl (T.e 1 rfl) rfl ?_; clear M T; intro g1 wc ac M T
 refine Zl2 ?_
 refine Zoa M T rfl rfl rfl rfl ?_; clear M T; intro g2 wc ac M T
 refine Zl2 ?_
 refine Zoa M T rfl rfl rfl rfl ?_; clear M T; intro g3 wc ac M T
 refine Zl2 ?_
 refine Zoa M T rfl rfl rfl rfl ?_; clear M T; intro g4 wc ac M T
 refine wpList_nil ?_
 replace T := T.pick [0, 1, 2, 3, 4] rfl
 refine Zns ?_
 refine Zsr ?_
 refine lq T (Zrm rfl (T.e 4 rfl)) ?_; clear T ac; intro ac T
 refine wpList_nil ?_
 replace T := T.pick [0, 1, 2, 3, 4] rfl
 refine nm_then ?_
 refine wp_block ?_
 obtain ⟨n9, hn9⟩ : ∃ q : Nat, q = wc.heap.size := ⟨_, rfl⟩
 have hn9w : w.heap.size ≤ n9 := by rw [hn9]; exact M.size
 have hE := he.mem M hx9
 have qb0 := M.old qb hnb
 have qt0 := M.old qt hnt
 have ql0 := M.old ql hnl
 have qw0 := M.nth 3 rfl
 have hnw : g1 ∉ ([g4, g3, g2, gm] : List Nat) := M.other 3 rfl (bs := [g4, g3, g2, gm]) rfl ∘ (fun h => by simp only [List.mem_cons, List.not_mem_nil, or_false] at h ⊢; omega)
 have hown : ∀ b, b ∈ ([g4, g3, g2, gm] : List Nat) → n1 ≤ b := fun b hb => M.ges he.le hx9 (bs := [g4, g3, g2, g1, gm]) rfl b (by simp only [List.mem_cons, List.not_mem_nil, or_false] at hb ⊢; omega)
 have hownl : ∀ b, b ∈ ([g4, g3, g2, gm] : List Nat) → b < n9 := fun b hb => by rw [hn9]; exact M.lts (bs := [g4, g3, g2, g1, gm]) rfl b (by simp only [List.mem_cons, List.not_mem_nil, or_false] at hb ⊢; omega)
 have hown2 : ∀ b, b ∈ ([g4, g3, g2, gm] : List Nat) → b = gm ∨ w.heap.size ≤ b := fun b hb => by
   simp only [List.mem_cons, List.not_mem_nil, or_false] at hb
   rcases hb with hb | hb | hb | hb
   · subst hb; exact (M.blk _ (Zne (i := 0) rfl)).1.symm
   · subst hb; exact (M.blk _ (Zne (i := 1) rfl)).1.symm
   · subst hb; exact (M.blk _ (Zne (i := 2) rfl)).1.symm
   · subst hb; exact (M.blk _ (Zne (i := 4) rfl)).1.symm
 have hngt : gt ∉ ([g4, g3, g2, gm] : List Nat) := fun h => by rcases hown2 _ h with h9 | h9; exact hnt h9; have := qt.lt; omega
 have hngl : gl ∉ ([g4, g3, g2, gm] : List Nat) := fun h => by rcases hown2 _ h with h9 | h9; exact hnl h9; have := ql.lt; omega
 have hngb : gb ∉ ([g4, g3, g2, gm] : List Nat) := fun h => by rcases hown2 _ h with h9 | h9; exact hnb h9; have := qb.lt; omega
 replace T := T.pick [4, 3, 2, 1, 0] rfl
 replace M := M.mask [true, true, true, false, true] rfl
 have hlt_g4 := M.lt (Zne (i := 0) rfl)
 have hlt_g3 := M.lt (Zne (i := 1) rfl)
 have hlt_g2 := M.lt (Zne (i := 2) rfl)
 have hlt_gm := M.lt (Zne (i := 3) rfl)
 refine px_rangeB (α := AsX) (γ := Unit) (n := 30) T (T.e 4 rfl) (enters_of Tryd.func120 (by kernel_rfl) rfl) (fun b => b ∈ ([g4, g3, g2, gm] : List Nat)) (asg_seq gl s.ps.length (fun b => b ∈ ([g4, g3, g2, gm] : List Nat)) _ h5 hngl (fun b h => by rw [← hn9]; exact hownl b h) ql0) (fun _ => rfl) (fun (pre : List (AsX)) (Lx : List (Nat × BA)) (W : World) => ∃ (bA : Option Addr) (bc : Nat) (bl : List Int) (bn : Nat) (bi : Bool), (fewF (fun x : List Int × Nat => willV a c s x.1 x.2) (pre.map asP) = if bi = true then some (bl, bn) else none) ∧ (RdF n9 W bA bl.length (ic bl)) ∧ (bl.length ≤ bc) ∧ (PlW W n1 a c ga gc A s.ps) ∧ (Bk W gb #[.int .i64 s.lo, .int .i64 s.wi, .int .i64 s.a0, .int .i64 s.a1, .int .i64 s.c0, .int .i64 s.c1, .slice A s.ps.length d, .func (.func 100) #[] #[.pointer (some ⟨ga, 0, none⟩)], .func (.func 101) #[] #[.pointer (some ⟨gc, 0, none⟩)]]) ∧ (Bk W gt #[.map (some gm)]) ∧ (Bk W g1 #[.func (.func 110) #[] #[.pointer (some ⟨gb, 0, none⟩), .pointer (some ⟨gt, 0, none⟩)]]) ∧ Lx = [(g4, .cells [.bool bi]), (g3, .cells [.int .i64 (bn : Int)]), (g2, .cells [.slice bA bl.length bc]), (gm, .any (memoQ Tryd.prog 120 (okW a c s)))]) (fun _ _ _ _ => False)
   (fun x => [(11, .int .i64 (x.n : Int)), (10, .slice x.A x.l.length x.c), (3, .pointer (some ⟨g1, 0, none⟩)), (4, .pointer (some ⟨g2, 0, none⟩)), (5, .pointer (some ⟨g3, 0, none⟩)), (6, .pointer (some ⟨g4, 0, none⟩)), (9, .func (.func 120) #[] #[.pointer (some ⟨gl, 0, none⟩)])]) (fun x _ => [(8, .int .i64 (x.n : Int)), (7, .slice x.A x.l.length x.c), (3, .pointer (some ⟨g1, 0, none⟩)), (4, .pointer (some ⟨g2, 0, none⟩)), (5, .pointer (some ⟨g3, 0, none⟩)), (6, .pointer (some ⟨g4, 0, none⟩))]) (fun x _ => []) ?_ ?_ ?_ ?_ ?_ ?_ ?_ ?_ M ?_ ?_ ?_ ?_ ?_ ?_ ?_
 ·rintro pre Lx W ⟨bA, bc, bl, bn, bi, hF, hR, hcp, he, qb, qt, qw, rfl⟩ p hp
  rcases List.mem_cons.1 hp with rfl | hp
  · exact hlt_g4
  rcases List.mem_cons.1 hp with rfl | hp
  · exact hlt_g3
  rcases List.mem_cons.1 hp with rfl | hp
  · exact hlt_g2
  rcases List.mem_cons.1 hp with rfl | hp
  · exact hlt_gm
  cases hp
 ·rintro c pre Lx W h
  exact h.elim
 ·rintro pre Lx W ⟨bA, bc, bl, bn, bi, hF, hR, hcp, he, qb, qt, qw, rfl⟩ p hp
  exact List.mem_map.2 ⟨p, hp, rfl⟩
 ·intro b hb
  simp only [List.mem_cons, List.not_mem_nil, or_false] at hb
  rcases hb with rfl | rfl | rfl | rfl
  · exact hlt_g4
  · exact hlt_g3
  · exact hlt_g2
  · exact hlt_gm
 ·intro b hb
  simp only [List.mem_cons, List.not_mem_nil, or_false] at hb
  rcases hb with rfl | rfl | rfl | rfl
  · exact (M.blk _ (Zne (i := 0) rfl)).1.symm
  · exact (M.blk _ (Zne (i := 1) rfl)).1.symm
  · exact (M.blk _ (Zne (i := 2) rfl)).1.symm
  · exact (M.blk _ (Zne (i := 3) rfl)).1.symm
 ·exact AsOx.calm _ _ _
 ·rintro pre Lx W W' ⟨bA, bc, bl, bn, bi, hF, hR, hcp, he, qb, qt, qw, rfl⟩ hK
  exact ⟨bA, bc, bl, bn, bi, hF, (hR.kpN hK), hcp, (he.kpN hK), (hK.bk qb), (hK.bk qt), (hK.bk qw), rfl⟩
 ·exact fun _ _ _ _ _ h _ => h
 ·exact ⟨none, 0, [], 0, false, rfl, (RdF.nil _ _), (Nat.le_refl _), hE, qb0, qt0, qw0, rfl⟩
 ·exact fun x => T.round2 _ _ rfl rfl rfl rfl
 ·intro x c p hp
  cases hp
 ·intro lp9 x wc K1 ac T hK1
  have M := Mem.init wc noEx
  refine wpIn_seq ?_
  refine ri_lit (fun _ _ h => h) rfl ?_
  refine lq T (Zra rfl (T.e 1 rfl)) ?_; clear T ac; intro ac T
  refine wpList_nil ?_
  replace T := T.pick [0, 1, 3, 4, 5, 6] rfl
  refine nm_then ?_
  refine ri_lit (fun _ _ h => h) rfl ?_
  refine lq T (Zra rfl (T.e 1 rfl)) ?_; clear T ac; intro ac T
  refine wpList_nil ?_
  replace T := T.pick [0, 1, 3, 4, 5, 6] rfl
  refine nm_then ?_
  exact hK1 () _ _ (T.pick [0, 1, 2, 3, 4, 5] rfl) (M.mask [] rfl)
 ·rintro lp9 pre x ⟨⟩ Lx ac w hj hox hz hlp M0 hnl9 exb wc hexb hwc T M
  obtain ⟨bA, bc, bl, bn, bi, hF, hR, hcp, he, qb, qt, qw, rfl⟩ := hj
  replace T : TmD [] ac 30 [(8, .int .i64 (x.n : Int)), (7, .slice x.A x.l.length x.c), (3, .pointer (some ⟨g1, 0, none⟩)), (4, .pointer (some ⟨g2, 0, none⟩)), (5, .pointer (some ⟨g3, 0, none⟩)), (6, .pointer (some ⟨g4, 0, none⟩))] := T
  replace M : Mem w exb wc [(g4, .cells [.bool bi]), (g3, .cells [.int .i64 (bn : Int)]), (g2, .cells [.slice bA bl.length bc]), (gm, .any (memoQ Tryd.prog 120 (okW a c s)))] := M
  have hxb : ∀ b, exb b → n1 ≤ b := by rw [hexb]; exact hown
  have hxl : ∀ b, exb b → b < n9 := by rw [hexb]; exact hownl
  have hnb9 : ¬ exb gb := by rw [hexb]; exact hngb
  have hnt9 : ¬ exb gt := by rw [hexb]; exact hngt
  have hnw9 : ¬ exb g1 := by rw [hexb]; exact hnw
  have hxr := hox.1.1
  rw [← hwc] at hxr
  have hox3 := hox.2.2.1
  have hox4 := hox.2.2.2
  have hRx := hox.1
  rw [← hn9] at hRx
  refine wpIn_block ?_
  refine ci_seq (fun ac wc => Tm ac 30 [(3, .pointer (some ⟨g1, 0, none⟩)), (4, .pointer (some ⟨g2, 0, none⟩)), (5, .pointer (some ⟨g3, 0, none⟩)), (6, .pointer (some ⟨g4, 0, none⟩)), (7, .slice x.A x.l.length x.c), (8, .int .i64 (x.n : Int)), (24, .bool (bif (!bi) then (willV a c s x.l x.n) else ((decide ((x.n : Int) < (bn : Int))) && (willV a c s x.l x.n))))] ∧ Mem w exb wc [(g4, .cells [.bool bi]), (g3, .cells [.int .i64 (bn : Int)]), (g2, .cells [.slice bA bl.length bc]), (gm, .any (memoQ Tryd.prog 120 (okW a c s)))]) ?_ ?_
  ·refine ri_lit (fun _ _ h => h) rfl ?_
   refine Zg3 T (Zq (Zro (Mem.nth M 0 rfl) rfl (T.e 5 rfl) rfl)) rfl (fun _ T => Zq (rn_not rfl (T.e 0 rfl))) rfl (Zm 0 rfl rfl) rfl ?_; clear T ac; intro ac T
   rcases Bool.eq_false_or_eq_true (!bi) with h1 | h1
   ·refine Zg8 T (Zp (Zwn rfl rfl (T.e 0 rfl) h1)) rfl (fun _ T => Zp (Zwn rfl rfl (T.e 1 rfl) h1)) rfl (fun _ T => Zp (Zwn rfl rfl (T.e 2 rfl) h1)) rfl (fun _ T => Zq (Zr1 rfl (T.e 3 rfl) h1 evc)) rfl (Zm 0 rfl rfl) rfl (fun _ T => Zw (Zwy rfl rfl (T.e 0 rfl) rfl) (Zro (Mem.old M qw hnw9) rfl (T.e 10 rfl) rfl)) rfl (fun _ T => Zw (Zwy rfl rfl (T.e 1 rfl) rfl) (Zrm rfl (T.e 10 rfl))) rfl (fun _ T => Zw (Zwy rfl rfl (T.e 2 rfl) rfl) (Zrm rfl (T.e 10 rfl))) rfl ?_; clear T ac; intro ac T
    refine l_w (Zwy rfl rfl (T.e 3 rfl) rfl) ?_; intro K hK
    have hM9 : Rd wc wc.heap.size 1 x.A x.l.length (ic x.l) := hxr
    refine Zoc (first := []) (cap := [.pointer (some ⟨gb, 0, none⟩), .pointer (some ⟨gt, 0, none⟩)]) T rfl rfl rfl rfl (T.e 2 rfl) (.cons (T.e 1 rfl) (.cons (T.e 0 rfl) .nil)) Tryd.func110 rfl rfl ?_
    refine Calls.mono (sheets1_any s A d a c ga gc gb gt n1 gm x.A x.c x.l x.n _ ha hc hg h5 hlo hwi hd hn1 hox3 (by omega) (he.mem M hxb) (M.old qb hnb9) (M.old qt hnt9) (M.at (Zne (i := 3) rfl)) hM9) ?_
    clear T; rintro e wc ⟨rfl, N⟩ ac T
    replace M := M.joinE N (.tail (.tail (.tail .head)))
    clear N
    refine Zso hK _ _ ?_; clear hK K
    refine lq T (Zr1 rfl (T.e 4 rfl) rfl (T.e 0 rfl)) ?_; clear T ac; intro ac T
    refine wpList_nil ?_
    replace T := T.pick [0, 1, 2, 3, 4, 7, 8, 9, 13, 14, 15, 16, 17, 18] rfl
    exact ⟨(T.pick (E' := [(3, .pointer (some ⟨g1, 0, none⟩)), (4, .pointer (some ⟨g2, 0, none⟩)), (5, .pointer (some ⟨g3, 0, none⟩)), (6, .pointer (some ⟨g4, 0, none⟩)), (7, .slice x.A x.l.length x.c), (8, .int .i64 (x.n : Int)), (24, .bool (willV a c s x.l x.n))]) [10, 11, 12, 13, 9, 8, 0] rfl).as (by (try rw [show (!bi) = true from h1]); (try rfl)), M.mask [true, true, true, true] rfl⟩
   refine Zg5 T (Zw (Zwy rfl rfl (T.e 0 rfl) h1) (Zrm rfl (T.e 3 rfl))) rfl (fun _ T => Zw (Zwy rfl rfl (T.e 1 rfl) h1) (Zro (Mem.nth M 1 rfl) rfl (T.e 8 rfl) rfl)) rfl (fun _ T => Zw (Zwy rfl rfl (T.e 2 rfl) h1) (rn_lss rfl (T.e 1 rfl) (T.e 0 rfl))) rfl (fun _ T => Zq (Zr0 rfl (T.e 3 rfl) h1 (T.e 0 rfl))) rfl (Zm 0 rfl rfl) rfl ?_; clear T ac; intro ac T
   rcases Bool.eq_false_or_eq_true (decide ((x.n : Int) < (bn : Int))) with h2 | h2
   ·replace h2 := of_decide_eq_true h2
    refine Zg3 T (Zw (Zwy rfl rfl (T.e 0 rfl) (Zdt h2)) (Zro (Mem.old M qw hnw9) rfl (T.e 10 rfl) rfl)) rfl (fun _ T => Zw (Zwy rfl rfl (T.e 1 rfl) (Zdt h2)) (Zrm rfl (T.e 10 rfl))) rfl (fun _ T => Zw (Zwy rfl rfl (T.e 2 rfl) (Zdt h2)) (Zrm rfl (T.e 10 rfl))) rfl ?_; clear T ac; intro ac T
    refine l_w (Zwy rfl rfl (T.e 3 rfl) (Zdt h2)) ?_; intro K hK
    have hM9 : Rd wc wc.heap.size 1 x.A x.l.length (ic x.l) := hxr
    refine Zoc (first := []) (cap := [.pointer (some ⟨gb, 0, none⟩), .pointer (some ⟨gt, 0, none⟩)]) T rfl rfl rfl rfl (T.e 2 rfl) (.cons (T.e 1 rfl) (.cons (T.e 0 rfl) .nil)) Tryd.func110 rfl rfl ?_
    refine Calls.mono (sheets1_any s A d a c ga gc gb gt n1 gm x.A x.c x.l x.n _ ha hc hg h5 hlo hwi hd hn1 hox3 (by omega) (he.mem M hxb) (M.old qb hnb9) (M.old qt hnt9) (M.at (Zne (i := 3) rfl)) hM9) ?_
    clear T; rintro e wc ⟨rfl, N⟩ ac T
    replace M := M.joinE N (.tail (.tail (.tail .head)))
    clear N
    refine Zso hK _ _ ?_; clear hK K
    refine lq T (Zr1 rfl (T.e 4 rfl) (Zdt h2) (T.e 0 rfl)) ?_; clear T ac; intro ac T
    refine wpList_nil ?_
    replace T := T.pick [0, 1, 2, 3, 4, 7, 8, 9, 13, 14, 15, 16, 17, 18] rfl
    exact ⟨(T.pick (E' := [(3, .pointer (some ⟨g1, 0, none⟩)), (4, .pointer (some ⟨g2, 0, none⟩)), (5, .pointer (some ⟨g3, 0, none⟩)), (6, .pointer (some ⟨g4, 0, none⟩)), (7, .slice x.A x.l.length x.c), (8, .int .i64 (x.n : Int)), (24, .bool (willV a c s x.l x.n))]) [10, 11, 12, 13, 9, 8, 0] rfl).as (by (try rw [show (!bi) = false from h1]); (try rw [show (decide ((x.n : Int) < (bn : Int))) = true from (Zdt h2)]); (try rfl)), M.mask [true, true, true, true] rfl⟩
   replace h2 := of_decide_eq_false h2
   refine Zg5 T (Zp (Zwn rfl rfl (T.e 0 rfl) (Zdf h2))) rfl (fun _ T => Zp (Zwn rfl rfl (T.e 1 rfl) (Zdf h2))) rfl (fun _ T => Zp (Zwn rfl rfl (T.e 2 rfl) (Zdf h2))) rfl (fun _ T => Zp (Zwn rfl rfl (T.e 3 rfl) (Zdf h2))) rfl (fun _ T => Zq (Zr0 rfl (T.e 4 rfl) (Zdf h2) evc)) rfl ?_; clear T ac; intro ac T
   refine wpList_nil ?_
   replace T := T.pick [0, 1, 2, 3, 4, 7, 8, 9, 13, 14, 15, 16, 17, 18] rfl
   exact ⟨(T.pick (E' := [(3, .pointer (some ⟨g1, 0, none⟩)), (4, .pointer (some ⟨g2, 0, none⟩)), (5, .pointer (some ⟨g3, 0, none⟩)), (6, .pointer (some ⟨g4, 0, none⟩)), (7, .slice x.A x.l.length x.c), (8, .int .i64 (x.n : Int)), (24, .bool false)]) [10, 11, 12, 13, 9, 8, 0] rfl).as (by (try rw [show (!bi) = false from h1]); (try rw [show (decide ((x.n : Int) < (bn : Int))) = false from (Zdf h2)]); (try rfl)), M.mask [true, true, true, true] rfl⟩
  clear T M
  rintro ac wc ⟨T, M⟩
  refine wpIn_cond_split (T.e 6 rfl) ?_ ?_
  ·intro h3
   (have h3' := h3; try simp only [Zb1, Zb2, Zb3, Zb4, Zb5, Zb6, Zb7] at h3')
   refine ri_lit (fun _ _ h => h) rfl ?_
   refine Zg2 T (Zq (Zrm rfl (T.e 4 rfl))) rfl (Zm 6 rfl rfl) rfl ?_; clear T ac; intro ac T
   refine Zl2 ?_
   refine Zos M T rfl rfl (T.e 3 rfl) (T.e 1 rfl) rfl (.tail (.tail .head)) rfl (by simp) rfl (by kernel_rfl) ?_; clear M T; intro wc ac M T
   refine Zl2 ?_
   refine Zos M T rfl rfl (T.e 4 rfl) (T.e 0 rfl) rfl (.tail .head) rfl (by simp) rfl (by kernel_rfl) ?_; clear M T; intro wc ac M T
   refine Zl2 ?_
   refine Zos M T rfl rfl (T.e 5 rfl) evc rfl .head rfl (by simp) rfl (by kernel_rfl) ?_; clear M T; intro wc ac M T
   refine wpList_nil ?_
   replace T := T.pick [2, 3, 4, 5] rfl
   refine Znb ?_
   refine rb_nm (L := [(g4, .cells [.bool true]), (g3, .cells [.int .i64 (x.n : Int)]), (g2, .cells [.slice x.A x.l.length x.c]), (gm, .any (memoQ Tryd.prog 120 (okW a c s)))]) ?_ (M.mask [true, true, true, true] rfl)
   exact ⟨x.A, x.c, x.l, x.n, true, (by rw [List.map_append, show [x].map asP = [(x.l, x.n)] from rfl, fewF_snoc, hF, fewS_take (by cases bi <;> simp_all)]; rfl), (hRx.memX M hxl), hox.2.1, (he.mem M hxb), (M.old qb hnb9), (M.old qt hnt9), (M.old qw hnw9), rfl⟩
  intro h3
  (have h3' := h3; try simp only [Zb1, Zb2, Zb3, Zb4, Zb5, Zb6, Zb7] at h3')
  refine wpIn_skip ?_
  refine Znb ?_
  refine rb_nm (L := [(g4, .cells [.bool bi]), (g3, .cells [.int .i64 (bn : Int)]), (g2, .cells [.slice bA bl.length bc]), (gm, .any (memoQ Tryd.prog 120 (okW a c s)))]) ?_ (M.mask [true, true, true, true] rfl)
  exact ⟨bA, bc, bl, bn, bi, (by rw [List.map_append, show [x].map asP = [(x.l, x.n)] from rfl, fewF_snoc, hF, fewS_leave (by cases bi <;> simp_all)]), (hR.memX M hxl), hcp, (he.mem M hxb), (M.old qb hnb9), (M.old qt hnt9), (M.old qw hnw9), rfl⟩
 ·rintro D1 pre Lx ac wc hDn hSd hj hz T M
  obtain ⟨bA, bc, bl, bn, bi, hF, hR, hcp, he, qb, qt, qw, rfl⟩ := hj
  replace T : TmD ((([D1] : List Nat)).map dfD) ac 30 [(3, .pointer (some ⟨g1, 0, none⟩)), (4, .pointer (some ⟨g2, 0, none⟩)), (5, .pointer (some ⟨g3, 0, none⟩)), (6, .pointer (some ⟨g4, 0, none⟩)), (9, .func (.func 120) #[] #[.pointer (some ⟨gl, 0, none⟩)])] := T
  have hFd := hF
  rw [hSd] at hFd
  obtain ⟨IR, SR, M⟩ := hR.tail hn9w (ic_length _) M (fun p hp => by rcases List.mem_cons.1 hp with rfl | hp; exact .inr rfl; exact .inl (hownl _ (List.mem_map_of_mem (f := fun q : Nat × BA => q.1) hp)))
  replace M : Mem w (fun b => b = gm) wc ((D1, dfA) :: (g4, .cells [.bool bi]) :: (g3, .cells [.int .i64 (bn : Int)]) :: (g2, .cells [.slice bA bl.length bc]) :: (gm, .any (memoQ Tryd.prog 120 (okW a c s))) :: IR) := M
  replace T := T.pick [1, 2, 3] rfl
  refine Znb ?_
  refine Zns ?_
  refine Zgs M (M.mask [true, false, false, false, true] rfl) 6 (by kernel_rfl) rfl (by kernel_rfl) ?_
  clear M; intro wc M
  refine g_addG 3 M ?_
  refine g_addG 4 (M.mask [true, true, true, false, true] rfl) ?_
  refine g_addG 5 (M.mask [true, true, false, false, true] rfl) ?_
  refine gq T 0 1 rfl (fun B w' hD hl hS => (Zro (Mem.nth (show Mem w (fun b => b = gm) w' _ from ((MA.lft (MA.rgt (MA.rgt hS))) (hD.wait (i := 0) (m := 3) (by kernel_rfl) hl))) 3 rfl) rfl (T.e 0 rfl) rfl)) ?_; clear T ac; intro ac T
  refine gq T 1 3 rfl (fun B w' hD hl hS => (Zro (Mem.nth (show Mem w (fun b => b = gm) w' _ from ((MA.lft (MA.rgt hS)) (hD.wait (i := 1) (m := 4) (by kernel_rfl) hl))) 2 rfl) rfl (T.e 2 rfl) rfl)) ?_; clear T ac; intro ac T
  refine gq T 2 7 rfl (fun B w' hD hl hS => (Zro (Mem.nth (show Mem w (fun b => b = gm) w' _ from ((MA.lft hS) (hD.wait (i := 2) (m := 5) (by kernel_rfl) hl))) 1 rfl) rfl (T.e 4 rfl) rfl)) ?_; clear T ac; intro ac T
  refine gw 3 15 ?_; intro K hK
  refine Zos M T rfl rfl (T.e 3 rfl) (T.e 2 rfl) rfl (.tail (.tail (.tail .head))) rfl (by simp) rfl (by kernel_rfl) ?_; clear M T; intro wc ac M T
  refine Zso hK _ _ (MA.mk (fun _ => M.mask [true, true, false, false, true] rfl) (MA.mk (fun _ => M.mask [true, true, true, false, true] rfl) (MA.mk (fun h => (no_of (by kernel_rfl) h).elim) (M.mask [true, false, false, false, true] rfl)))) ?_; clear hK K
  refine gw 4 31 ?_; intro K hK
  refine Zos M T rfl rfl (T.e 4 rfl) (T.e 1 rfl) rfl (.tail (.tail .head)) rfl (by simp) rfl (by kernel_rfl) ?_; clear M T; intro wc ac M T
  refine Zso hK _ _ (MA.mk (fun _ => M.mask [true, true, false, false, true] rfl) (MA.mk (fun h => (no_of (by kernel_rfl) h).elim) (MA.mk (fun h => (no_of (by kernel_rfl) h).elim) (M.mask [true, false, false, false, true] rfl)))) ?_; clear hK K
  refine gw 5 63 ?_; intro K hK
  refine Zos M T rfl rfl (T.e 5 rfl) (T.e 0 rfl) rfl (.tail .head) rfl (by simp) rfl (by kernel_rfl) ?_; clear M T; intro wc ac M T
  refine Zso hK _ _ (MA.mk (fun h => (no_of (by kernel_rfl) h).elim) (MA.mk (fun h => (no_of (by kernel_rfl) h).elim) (MA.mk (fun h => (no_of (by kernel_rfl) h).elim) (M.mask [true, false, false, false, true] rfl)))) ?_; clear hK K
  refine Zgd (by kernel_rfl) ?_
  replace T := T.pick [3, 4, 5] rfl
  refine Znr ?_
  refine rtM (L := ((g4, .cells [.bool bi]) :: (g3, .cells [.int .i64 (bn : Int)]) :: (g2, .cells [.slice bA bl.length bc]) :: (gm, .any (memoQ Tryd.prog 120 (okW a c s))) :: IR)) (([D1] : List Nat)) T (Mem.swapI (I := dfT (([D1] : List Nat))) (L := ((g4, .cells [.bool bi]) :: (g3, .cells [.int .i64 (bn : Int)]) :: (g2, .cells [.slice bA bl.length bc]) :: (gm, .any (memoQ Tryd.prog 120 (okW a c s))) :: IR)) (M.permT [0, 1, 2, 3, 4] 5 rfl rfl rfl rfl)) ?_; clear T M; intro wc ac T M
  refine rt_ccc M T rfl (T.e 0 rfl) (T.e 1 rfl) (T.e 2 rfl) (Zne (i := 2) rfl) (Zne (i := 1) rfl) (Zne (i := 0) rfl) ?_
  exact ⟨bA, bc, bl, bn, bi, rfl, hFd, hcp, IR, SR, M.mask [false, false, false, true] rfl⟩
 ·intro D c pre Lx ac wc hDn hS h
  exact h.elim
theorem Mem.joinEI {g : Nat} {w0 w w' : World} {ex : Nat → Prop} {L L' I : List (Nat × BA)} {p p' : BA} (M : Mem w0 ex w L) (N : Mem w (fun b => b = g) w' ((g, p') :: I)) (hu : Upd L g p p' L') : Mem w0 ex w' (L' ++ I) := by
 have N1 : Mem w (fun b => b = g) w' [(g, p')] := N.sub (List.Sublist.cons_cons _ (List.nil_sublist _))
 have M1 := M.joinE N1 hu
 have hI : ∀ q ∈ I, w.heap.size ≤ q.1 := fun q hq => by
   rcases (N.blk q (List.mem_cons_of_mem _ hq)).1 with h | h
   · exact h
   · exact ((List.nodup_cons.1 N.nd).1 (List.mem_map.2 ⟨q, hq, h⟩)).elim
 have hL : ∀ q ∈ L', q.1 < w.heap.size := fun q hq => by
   have h1 : q.1 ∈ L'.map (·.1) := List.mem_map_of_mem hq
   rw [hu.keys] at h1
   obtain ⟨r, hr, e⟩ := List.mem_map.1 h1
   rw [← e]
   exact BA.lt (M.blk r hr).2
 refine ⟨M1.os, M1.tape, M1.output, M1.size, M1.block, fun q hq => ?_, ?_⟩
 · rcases List.mem_append.1 hq with hq | hq
   · exact M1.blk q hq
   · exact ⟨.inl (Nat.le_trans M.size (hI q hq)), (N.blk q (List.mem_cons_of_mem _ hq)).2⟩
 · rw [List.map_append]
   refine List.nodup_append.2 ⟨M1.nd, (List.nodup_cons.1 N.nd).2, fun i hi j hj e => ?_⟩
   obtain ⟨q, hq, rfl⟩ := List.mem_map.1 hi
   obtain ⟨r, hr, rfl⟩ := List.mem_map.1 hj
   have := hL q hq
   have := hI r hr
   omega
def ShsPost (a c : Int) (s : Sk) (w : World) (e9 : Ending) (w' : World) : Prop := ∃ (bA : Option Addr) (bc : Nat) (bl : List Int) (bn : Nat) (bi : Bool) (I : List (Nat × BA)), e9 = .returned (.tuple #[.slice bA bl.length bc, .int .i64 (bn : Int), .bool bi]) ∧ fewF (fun x : List Int × Nat => willV a c s x.1 x.2) (asgP s.ps.length [] 0) = (if bi = true then some (bl, bn) else none) ∧ bl.length ≤ bc ∧ (∃ b o, ∀ (w1 : World) (ex : Nat → Prop), Sp w1 ex I bA bl.length 1 b o (ic bl)) ∧ Mem w noEx w' I
theorem shs_any (s : Sk) (A : Option Addr) (d : Nat) (a c : Int) (ga gc : Nat)  (w : World) (ha : 0 ≤ a ∧ a ≤ 2) (hc : 0 ≤ c ∧ c ≤ 2) (hg : ∀ p ∈ s.ps, p.good) (h5 : s.ps.length ≤ 5) (hlo : 0 ≤ s.lo ∧ s.lo ≤ 12) (hwi : 0 ≤ s.wi ∧ s.wi ≤ 12) (hd : s.ps.length ≤ d) (qa : Bk w ga #[.int .i64 a]) (qc : Bk w gc #[.int .i64 c]) (hA : Rd w w.heap.size 4 A s.ps.length (pc s.ps)) (hT : TabW w)  :
  Calls Tryd.prog 84 #[.agg #[.int .i64 s.lo, .int .i64 s.wi, .int .i64 s.a0, .int .i64 s.a1, .int .i64 s.c0, .int .i64 s.c1, .slice A s.ps.length d, .func (.func 100) #[] #[.pointer (some ⟨ga, 0, none⟩)], .func (.func 101) #[] #[.pointer (some ⟨gc, 0, none⟩)]]] w (ShsPost a c s w) := by
 have he0 : PlW w w.heap.size a c ga gc A s.ps := ⟨qa, qc, hA, qa.lt, qc.lt, hT.lt, Nat.le_refl _, hT⟩
 refine Zpx noEx Tryd.func84 rfl 17 rfl [.agg #[.int .i64 s.lo, .int .i64 s.wi, .int .i64 s.a0, .int .i64 s.a1, .int .i64 s.c0, .int .i64 s.c1, .slice A s.ps.length d, .func (.func 100) #[] #[.pointer (some ⟨ga, 0, none⟩)], .func (.func 101) #[] #[.pointer (some ⟨gc, 0, none⟩)]]] rfl rfl (Mem.init w _) ?_
 intro ac wc T M
 refine Zsr ?_
 refine Zl2 ?_
 refine Zob M T rfl rfl rfl rfl (T.e 0 rfl) rfl ?_; clear M T; intro g1 wc ac M T
 refine Zg3 T (Zq (Zra rfl evc)) rfl (Zc rfl) rfl (Zc rfl) rfl ?_; clear T ac; intro ac T
 refine wpList_nil ?_
 replace T := T.pick [3] rfl
 refine nm_then ?_
 refine Zsr ?_
 refine Zl2 ?_
 refine ow_mmM (okW a c s) M T rfl Tryd.underlying151 rfl rfl rfl ?_; clear M T; intro g2 wc ac M T
 refine Zl2 ?_
 refine Zoa M T rfl rfl rfl rfl ?_; clear M T; intro g3 wc ac M T
 refine Zl2 ?_
 refine Zos M T rfl rfl (T.e 0 rfl) (T.e 1 rfl) rfl .head rfl (by simp) rfl (by kernel_rfl) ?_; clear M T; intro wc ac M T
 refine wpList_nil ?_
 replace T := T.pick [0, 2] rfl
 refine nm_then ?_
 refine Zsr ?_
 refine Zg4 (v1 := (.pointer (some ⟨g1, 0, none⟩))) (v2 := (.pointer (some ⟨g1, 6, none⟩))) T (Zq (Zrf (off := 0) rfl (T.e 1 rfl) (fun _ _ _ => by kernel_rfl))) rfl (Zf 6 0 rfl rfl) rfl (Zo M 2 0 rfl rfl rfl rfl) rfl (Zl Tryd.underlying24 0 rfl rfl) rfl ?_; clear T ac; intro ac T
 refine Zl2 ?_
 refine Zoc (first := []) (cap := []) T rfl rfl rfl rfl evf (.cons (T.e 0 rfl) .nil) Tryd.func109 rfl rfl ?_
 refine Calls.mono (asg_any s.ps.length _) ?_
 clear T; rintro e wc ⟨gu1, rfl, N⟩ ac T
 replace M := M.join N; clear N
 replace M := M.mask [true, true, true, true] rfl
 refine lq (v := (.func (.func 110) #[] #[.pointer (some ⟨g1, 0, none⟩), .pointer (some ⟨g3, 0, none⟩)])) T (rn_makeFunc rfl .nil (.cons (T.e 6 rfl) (.cons (T.e 5 rfl) .nil))) ?_; clear T ac; intro ac T
 refine Zl2 ?_
 refine Zoc (first := []) (cap := []) T rfl rfl rfl rfl evf (.cons (T.e 1 rfl) (.cons (T.e 0 rfl) .nil)) Tryd.func108 rfl rfl ?_
 refine Calls.mono (few_any s A d a c ga gc g1 g3 w.heap.size g2 gu1 _ ha hc hg h5 hlo hwi hd (M.ge (Zne (i := 2) rfl)) (he0.mem M (fun b h => h.elim)) (M.nth 3 rfl) (M.nth 1 rfl) (M.at (Zne (i := 2) rfl)) (M.nth 0 rfl)) ?_
 clear T; rintro e wc ⟨bA, bc, bl, bn, bi, rfl, hFd, hcp, IRu2, SR, N⟩ ac T
 replace M := M.joinEI N (.tail (.tail .head))
 clear N
 replace M : Mem w noEx wc ((gu1, .cells [.int .i64 ((s.ps.length : Nat) : Int)]) :: (g3, .cells [.map (some g2)]) :: (g2, .any (memoQ Tryd.prog 120 (okW a c s))) :: (g1, .cells [.int .i64 s.lo, .int .i64 s.wi, .int .i64 s.a0, .int .i64 s.a1, .int .i64 s.c0, .int .i64 s.c1, .slice A s.ps.length d, .func (.func 100) #[] #[.pointer (some ⟨ga, 0, none⟩)], .func (.func 101) #[] #[.pointer (some ⟨gc, 0, none⟩)]]) :: IRu2) := M
 refine Zg6 T (Zq (Zre rfl (T.e 0 rfl) rfl)) rfl (Ze 1 rfl rfl rfl) rfl (Ze 2 rfl rfl rfl) rfl (Za 2 rfl rfl) rfl (Za 2 rfl rfl) rfl (Za 2 rfl rfl) rfl ?_; clear T ac; intro ac T
 refine wpList_nil ?_
 replace T := T.pick [0, 1, 2] rfl
 replace M := M.mask [false, false, true, false] rfl
 refine Znr ?_
 refine rt_3 T rfl (T.e 2 rfl) (T.e 1 rfl) (T.e 0 rfl) ?_
 exact ⟨bA, bc, bl, bn, bi, IRu2, rfl, hFd, hcp, SR, M.sub (Zsq ([(g2, .any (memoQ Tryd.prog 120 (okW a c s)))] : List (Nat × BA)) _)⟩
def ShPost (s : Sk) (su : Bool) (w : World) (e9 : Ending) (w' : World) : Prop := ∃ A c I, e9 = .returned (.tuple #[.slice A (shL s su).length c, .int .i64 (shN s su : Int), .int .i64 (shE s su)]) ∧ (shL s su).length ≤ c ∧ (∃ b o, ∀ (w : World) (ex : Nat → Prop), Sp w ex I A (shL s su).length 1 b o (ic (shL s su))) ∧ Mem w noEx w' I
theorem shF_of {s : Sk} {su : Bool} {bl : List Int} {bn : Nat} {bi : Bool} (h : fewF (fun x : List Int × Nat => willV (cutA s su) (cutC s su) s x.1 x.2) (asgP s.ps.length [] 0) = (if bi = true then some (bl, bn) else none)) (h0 : skErr s = 0) : (bi = true → shE s su = 0 ∧ shL s su = bl ∧ shN s su = bn) ∧ (bi = false → shE s su = 11 ∧ shL s su = [] ∧ shN s su = 0) := by
 have hF : shF s su = if bi = true then some (bl, bn) else none := h
 constructor
 ·rintro rfl
  have e1 : shE s su = 0 := by unfold shE; rw [if_neg (by omega), hF]; rfl
  exact ⟨e1, by unfold shL; rw [if_pos e1, hF]; rfl, by unfold shN; rw [if_pos e1, hF]; rfl⟩
 ·rintro rfl
  have e1 : shE s su = 11 := by unfold shE; rw [if_neg (by omega), hF]; rfl
  exact ⟨e1, by unfold shL; rw [if_neg (by omega)], by unfold shN; rw [if_neg (by omega)]⟩
theorem shE_err {s : Sk} {su : Bool} (h : skErr s ≠ 0) : shE s su = skErr s ∧ shL s su = [] ∧ shN s su = 0 := by
 have e1 : shE s su = skErr s := if_pos h
 exact ⟨e1, by unfold shL; rw [if_neg (by omega)], by unfold shN; rw [if_neg (by omega)]⟩
theorem Sheets_any (s : Sk) (A : Option Addr) (d : Nat) (su : Bool)  (w : World) (hA : Rd w w.heap.size 4 A s.ps.length (pc s.ps)) (nA : s.ps.length ≤ 1000000) (hd : s.ps.length ≤ d) (hT : TabW w)  :
   Calls Tryd.prog 34 #[.agg #[.int .i64 s.lo, .int .i64 s.wi, .int .i64 s.a0, .int .i64 s.a1, .int .i64 s.c0, .int .i64 s.c1, .slice A s.ps.length d], .bool su] w (ShPost s su w) := by
 obtain ⟨bA, oA, SA⟩ := Sp.old hA
 refine Zpx noEx Tryd.func34 rfl 28 rfl [.agg #[.int .i64 s.lo, .int .i64 s.wi, .int .i64 s.a0, .int .i64 s.a1, .int .i64 s.c0, .int .i64 s.c1, .slice A s.ps.length d], .bool su] rfl rfl (Mem.init w _) ?_
 intro ac wc T M
 refine Zsr ?_
 refine Zl2 ?_
 refine Zob M T rfl rfl rfl rfl (T.e 0 rfl) rfl ?_; clear M T; intro g1 wc ac M T
 refine Zg3 T (Zq (Zra rfl evc)) rfl (Zc rfl) rfl (Zc rfl) rfl ?_; clear T ac; intro ac T
 refine wpList_nil ?_
 replace T := T.pick [3, 5] rfl
 refine Zns ?_
 refine Zsr ?_
 refine lq T (Zrr (Mem.nth M 0 rfl) rfl (T.e 0 rfl) rfl) ?_; clear T ac; intro ac T
 refine Zl2 ?_
 refine Zoc (first := []) (cap := []) T rfl rfl rfl rfl evf (.cons (T.e 0 rfl) .nil) Tryd.func60 rfl rfl ?_
 refine Calls.mono (skCheck_any s A d _ (SA.rd M (List.nil_sublist _)) (by omega)) ?_
 clear T; rintro e wc ⟨rfl, hb⟩ ac T
 replace M := M.call hb; clear hb
 refine lq T (Zra rfl (T.e 0 rfl)) ?_; clear T ac; intro ac T
 refine wpList_nil ?_
 replace T := T.pick [0, 3, 4] rfl
 refine nm_then ?_
 refine Zsr ?_
 refine Zg2 T (Zq (Zrm rfl (T.e 0 rfl))) rfl (fun _ T => Zq (rn_neq rfl (T.e 0 rfl) evc)) rfl ?_; clear T ac; intro ac T
 refine wpList_nil ?_
 replace T := T.pick [0, 2, 3, 4] rfl
 refine nm_then ?_
 refine wp_ifn (T.e 0 rfl) ?_ ?_
 ·intro h1
  refine Zsr ?_
  refine Zg4 T (Zq (Zrm rfl (T.e 1 rfl))) rfl (Zc rfl) rfl (Zc rfl) rfl (Za 2 rfl rfl) rfl ?_; clear T ac; intro ac T
  refine wpList_nil ?_
  replace T := T.pick [0, 1, 2] rfl
  replace M := M.mask [false] rfl
  refine Znr ?_
  refine Zrt ?_
  refine rt_3 T rfl (T.e 2 rfl) (T.e 1 rfl) (T.e 0 rfl) ?_
  obtain ⟨e1, e2, e3⟩ := shE_err (s := s) (su := su) (by omega)
  unfold ShPost
  rw [e1, e2, e3]
  exact ⟨none, 0, [], rfl, by simp, ⟨0, 0, fun _ _ => Sp.nil⟩, M.sub (List.nil_sublist _)⟩
 intro h1
 have hsg := skErr_iff.1 (show skErr s = 0 by omega)
 obtain ⟨hb1, hb2, -, -, -, -⟩ := hsg
 have hsg := skErr_iff.1 (show skErr s = 0 by omega)
 refine Zsk ?_
 refine Zsr ?_
 refine Zg2 T (Zq (Zrr (Mem.nth M 0 rfl) rfl (T.e 2 rfl) rfl)) rfl (Zm 4 rfl rfl) rfl ?_; clear T ac; intro ac T
 refine Zl2 ?_
 refine Zoc (first := []) (cap := []) T rfl rfl rfl rfl evf (.cons (T.e 1 rfl) (.cons (T.e 0 rfl) .nil)) Tryd.func70 rfl rfl ?_
 refine Calls.mono (cut_any s A d su _) ?_
 clear T; rintro e wc ⟨gau2, gcu2, rfl, N⟩ ac T
 obtain ⟨a, hae⟩ : ∃ q, q = cutA s su := ⟨_, rfl⟩
 obtain ⟨c, hce⟩ : ∃ q, q = cutC s su := ⟨_, rfl⟩
 rw [← hae, ← hce] at N
 obtain ⟨ha, hc⟩ := cut_bd hsg su
 rw [← hae] at ha
 rw [← hce] at hc
 replace M := M.join N; clear N
 replace M := M.mask [true, true, true] rfl
 refine Zl2 ?_
 refine Zoc (first := []) (cap := []) T rfl rfl rfl rfl evf (.cons (T.e 0 rfl) .nil) Tryd.func84 rfl rfl ?_
 refine Calls.mono (shs_any s A d a c gau2 gcu2 _ ha hc hsg.ps hsg.len (by omega) (by omega) (by omega) (M.nth 0 rfl) (M.nth 1 rfl) (SA.rd M (List.nil_sublist _)) (hT.mem0 M)) ?_
 clear T; rintro e wc ⟨bA, bc, bl, bn, bi, IRu3, rfl, hFd, hcp, SR, N⟩ ac T
 replace M := (M.join N).swapI
 clear N
 replace M : Mem w noEx wc ((gau2, .cells [.int .i64 a]) :: (gcu2, .cells [.int .i64 c]) :: (g1, .cells [.int .i64 s.lo, .int .i64 s.wi, .int .i64 s.a0, .int .i64 s.a1, .int .i64 s.c0, .int .i64 s.c1, .slice A s.ps.length d]) :: IRu3) := M
 refine Zg7 T (Zq (Zrm rfl (T.e 0 rfl))) rfl (Ze 0 rfl rfl rfl) rfl (Ze 1 rfl rfl rfl) rfl (Ze 2 rfl rfl rfl) rfl (Za 2 rfl rfl) rfl (Za 2 rfl rfl) rfl (Za 2 rfl rfl) rfl ?_; clear T ac; intro ac T
 refine wpList_nil ?_
 replace T := T.pick [0, 1, 2] rfl
 replace M := M.mask [false, false, false] rfl
 refine Zns ?_
 refine Zsr ?_
 refine Zg2 T (Zq (Zrm rfl (T.e 0 rfl))) rfl (fun _ T => Zq (rn_not rfl (T.e 0 rfl))) rfl ?_; clear T ac; intro ac T
 refine wpList_nil ?_
 replace T := T.pick [0, 3, 4] rfl
 refine nm_then ?_
 refine wp_cond_split (T.e 0 rfl) ?_ ?_
 ·intro h2
  (have h2' := h2; try simp only [Zb1, Zb2, Zb3, Zb4, Zb5, Zb6, Zb7] at h2')
  refine Zsr ?_
  refine Zg3 T (Zq (Zra rfl evc)) rfl (Zc rfl) rfl (Zc rfl) rfl ?_; clear T ac; intro ac T
  refine wpList_nil ?_
  replace T := T.pick [0, 1, 2] rfl
  refine Znr ?_
  refine Zrt ?_
  refine rt_3 T rfl (T.e 2 rfl) (T.e 1 rfl) (T.e 0 rfl) ?_
  rw [hae, hce] at hFd
  have hk9 := shF_of hFd (by omega)
  obtain ⟨e1, e2, e3⟩ := hk9.2 (by simp_all)
  unfold ShPost
  rw [e1, e2, e3]
  exact ⟨none, 0, [], rfl, by simp, ⟨0, 0, fun _ _ => Sp.nil⟩, M.sub (List.nil_sublist _)⟩
 intro h2
 (have h2' := h2; try simp only [Zb1, Zb2, Zb3, Zb4, Zb5, Zb6, Zb7] at h2')
 refine Zsk ?_
 refine Zsr ?_
 refine Zg5 T (Zq (Zrm rfl (T.e 2 rfl))) rfl (Zm 2 rfl rfl) rfl (Za 1 rfl rfl) rfl (Za 1 rfl rfl) rfl (Zc rfl) rfl ?_; clear T ac; intro ac T
 refine wpList_nil ?_
 replace T := T.pick [0, 1, 2] rfl
 refine Znr ?_
 refine rt_3 T rfl (T.e 2 rfl) (T.e 1 rfl) (T.e 0 rfl) ?_
 rw [hae, hce] at hFd
 have hk9 := shF_of hFd (by omega)
 obtain ⟨e1, e2, e3⟩ := hk9.1 (by simp_all)
 unfold ShPost
 rw [e1, e2, e3]
 exact ⟨bA, bc, IRu3, rfl, hcp, SR, M.sub (Zsq ([] : List (Nat × BA)) _)⟩
theorem ite_add0 {A : Option Addr} {size : Nat} (p : Prop) [Decidable p] : (if p then A else Option.map (fun x => x.add (0 * size)) A) = A := by
 split
 ·rfl
 ·cases A with
  | none => rfl
  | some q => simp [Addr.add]
section
variable {P : Program} {op : Oper} {a : Act} {K : Act → World → Prop} {Q : Exit → Act → World → Prop} {w0 w : World} {ex : Nat → Prop} {L L' : List (Nat × BA)} {E : List (Nat × Value)} {df : List Deferred} {t nn : Nat}
theorem rn_slice3 {ty e : TypeId} {size : Nat} {x y1 y2 y3 : Operand} {A : Option Addr} {m c l h mx : Nat} (ho : op.op = .slice ty x (some y1) (some y2) (some y3)) (hu : P.underlying ty = some (.slice e)) (hs : (P.info? e).map (·.size) = some size)
   (hx : a.eval x = .slice A m c) (hl : a.eval y1 = .int .i64 (l : Int)) (hh : a.eval y2 = .int .i64 (h : Int)) (hm : a.eval y3 = .int .i64 (mx : Int)) (h1 : l ≤ h) (h2 : h ≤ mx) (h3 : mx ≤ c) : Runs P op a (.slice (if mx = l then A else A.map (·.add (l * size))) (h - l) (mx - l)) w := by
 cases hi' : P.info? e with
 | none => rw [hi'] at hs; simp at hs
 | some inf =>
   rw [hi'] at hs
   simp at hs
   unfold Runs execOp
   simp [ho, hx, hl, hh, hm, Instr.sliceAt, Instr.slice, Instr.sliceBounds, Instr.sliceBound, asIntOf, Sem.run_bind, run_underlying, hu, sizeOf, typeInfo, hi', hs, h1, h2, h3]
theorem ow_appIn {s x : Operand} {ty e size g i m c c2 o2 : Nat} {A1 A2 : Option Addr} {news cs cs' : List Value} (M : Mem w0 ex w L) (T : TmD df a nn E)
   (ho : op.op = .call { callee := .builtin .append, args := #[s, x], argTypes := #[ty, ty] }) (hd : op.dst = some t) (hf : freshE E t = true) (hnn : Nat.blt t nn = true)
   (ht : P.underlying ty = some (.slice e)) (hinfo : (P.info? e).map (·.size) = some size)
   (hs : a.eval s = .slice A1 i c) (hA1 : A1 = some ⟨g, 0, none⟩) (hx : a.eval x = .slice A2 m c2) (hA2 : ∃ o9, A2 = some ⟨g, o9, none⟩ ∧ (0 < m → o9 = o2)) (hn : news.length = m * size) (hnews : ∀ j u, news[j]? = some u → cs[o2 + j]? = some u) (h1 : ∀ u ∈ news, u.oneCell' = true)
   (hroom : i + m ≤ c) (hle : i * size + news.length ≤ cs.length) (hu : Upd L g (.cells cs) (.cells cs') L') (hc : cs' = cs.take (i * size) ++ news ++ cs.drop (i * size + news.length))
   (h : ∀ w' a', Mem w0 ex w' L' → TmD df a' nn ((t, .slice (some ⟨g, 0, none⟩) (i + m) c) :: E) → K a' w') : op.wp P a w K Q := by
 subst hA1
 obtain ⟨o9, rfl, ho9⟩ := hA2
 obtain ⟨inf, hi, hsz⟩ : ∃ inf, P.info? e = some inf ∧ inf.size = size := by
   cases h9 : P.info? e with
   | none => rw [h9] at hinfo; simp at hinfo
   | some inf => rw [h9] at hinfo; exact ⟨inf, rfl, by simpa using hinfo⟩
 subst hsz
 have hB := M.get hu.mem
 have hrun := run_append_room_cells (P := P) w ty op.type e inf ht hi g 0 i c ⟨g, o9, none⟩ m c2 news hn (fun j u hj => by
   rw [Addr.add_mid, hB.cell]
   have hm : 0 < m := by
     rcases Nat.eq_zero_or_pos m with h0 | h0
     · rw [h0, Nat.zero_mul] at hn
       rw [List.eq_nil_of_length_eq_zero hn] at hj
       simp at hj
     · exact h0
   rw [ho9 hm]
   simpa using hnews j u hj) h1 hroom (fun j hj => by
     rw [hB.cell, Nat.zero_add]
     simp
     omega) (fun j hj => hB.frozen _)
 unfold Oper.wp execOp
 simp only [ho, resolve, invoke, builtin, Sem.run_bind, Sem.run_pure, Result.andThen_ok, List.map_toArray, List.map_cons, List.map_nil, hs, hx, hrun]
 rw [Nat.zero_add]
 exact h _ _ (M.write hu (Oth.setCells g _ _ _) (hB.storeAt (i * inf.size) news cs' (by simpa using hle) (by simpa using hc))) (by rw [hd]; exact T.put hnn hf _)
theorem ow_clr {x : Operand} {ty e g o c : Nat} {z : Value} {zs cs cs' : List Value} (M : Mem w0 ex w L) (T : TmD df a nn E)
   (ho : op.op = .call { callee := .builtin .clear, args := #[x], argTypes := #[ty] }) (hd : op.dst = none) (ht : P.underlying ty = some (.slice e)) (hv : ∀ w, (zeroValue e).run P w = .ok z w) (hz : z.cells = zs.toArray) (h1 : zs.all (·.oneCell') = true)
   (hx : a.eval x = .slice (some ⟨g, o, none⟩) 1 c) (hle : o + zs.length ≤ cs.length) (hu : Upd L g (.cells cs) (.cells cs') L') (hc : cs' = cs.take o ++ zs ++ cs.drop (o + zs.length))
   (h : ∀ w' a', Mem w0 ex w' L' → TmD df a' nn E → K a' w') : op.wp P a w K Q := by
 have hB := M.get hu.mem
 have hzc : (Builtin.zeroCells z.cells 1).toList = zs := by
   rw [hz]
   simp only [Builtin.zeroCells, Nat.one_mul, List.size_toArray]
   apply List.ext_getElem
   · simp
   · intro i h1 h2
     simp [Nat.mod_eq_of_lt h2, h2]
 have hst := run_storeCells_cells (P := P) g o zs 0 w (fun j hj => by
   rw [hB.cell]
   simp
   omega) (fun j hj => hB.frozen _) (by simpa using h1)
 simp only [Nat.add_zero] at hst
 have hrun : ∀ ty', (Builtin.clear_ #[ty] ty' #[.slice (some ⟨g, o, none⟩) 1 c]).run P w = .ok (.tuple #[]) (w.setCells g o zs) := fun ty' => by
   simp [Builtin.clear_, run_underlying ht, hv, hzc, hst]
 unfold Oper.wp execOp
 simp only [ho, resolve, invoke, builtin, Sem.run_bind, Sem.run_pure, Result.andThen_ok, List.map_toArray, List.map_cons, List.map_nil, hx, hrun]
 rw [Oper.upon_value, hd]
 exact h _ _ (M.write hu (Oth.setCells g _ _ _) (hB.storeAt o zs cs' (by simpa using hle) (by simpa using hc))) (T.put0 _)
end
theorem pc_app (l k : List Pt) : pc (l ++ k) = pc l ++ pc k := by simp [pc]
theorem Tryd.zeroPart (w : World) : (zeroValue 63).run Tryd.prog w = .ok (.agg #[.int .i64 0, .int .i64 0, .bool false, .int .i64 0]) w := by kernel_rfl
theorem del_cells {l : List Pt} {i k : Nat} {ys : List Value} (hi : i < l.length) (hk : k = i) : (pc l ++ ys).take (k * 4) ++ (pc l).drop ((i + 1) * 4) ++ (pc l ++ ys).drop (k * 4 + ((pc l).drop ((i + 1) * 4)).length) = pc (l.eraseIdx i) ++ (pc l ++ ys).drop ((l.length - 1) * 4) := by
 subst hk
 have e1 := pc_length l
 rw [List.take_append_of_le_length (by omega), pc_take, pc_drop, ← pc_app, ← List.eraseIdx_eq_take_drop_succ]
 congr 2
 rw [pc_length, List.length_drop]
 omega
theorem clr_cells {l : List Pt} {i : Nat} {rs zs : List Value} (hi : i < l.length) : (pc (l.eraseIdx i) ++ rs).take ((l.length - 1) * 4) ++ zs ++ (pc (l.eraseIdx i) ++ rs).drop ((l.length - 1) * 4 + zs.length) = pc (l.eraseIdx i) ++ (zs ++ rs.drop zs.length) := by
 have e1 : (pc (l.eraseIdx i)).length = (l.length - 1) * 4 := by rw [pc_length, List.length_eraseIdx, if_pos hi]
 rw [List.take_append_of_le_length (by omega), List.take_of_length_le (by omega), ← e1, List.drop_append]
 simp
def DelPost (g c i : Nat) (l : List Pt) (w : World) (e : Ending) (w' : World) : Prop := e = .returned (.slice (some ⟨g, 0, none⟩) (l.length - 1) c) ∧ ∃ ys', Mem w (fun b => b = g) w' [(g, .cells (pc (l.eraseIdx i) ++ ys'))]
theorem delete_any (g c i : Nat) (l : List Pt) (ys : List Value)  (w : World) (hi : i < l.length) (hlc : l.length ≤ c) (hcb : l.length ≤ 1000000) (hB : BA.holds w g (.cells (pc l ++ ys))) :
   Calls Tryd.prog 88 #[.slice (some ⟨g, 0, none⟩) l.length c, .int .i64 (i : Int), .int .i64 ((i : Int) + 1)] w (DelPost g c i l w) := by
 have Sg := Sp.pre (w := w) (ex := fun b => b = g) (size := 4) (n := l.length) (g := g) (xs := pc l) (ys := ys) (by rw [pc_length])
 refine Zpx (fun b => b = g) Tryd.func88 rfl 33 rfl [.slice (some ⟨g, 0, none⟩) l.length c, .int .i64 (i : Int), .int .i64 ((i : Int) + 1)] rfl rfl (Mem.initEx (p := .cells (pc l ++ ys)) hB) ?_
 intro ac wc T M
 refine Zsr ?_
 refine lq T (Zra rfl evc) ?_; clear T ac; intro ac T
 refine wpList_nil ?_
 replace T := T.pick [1, 2, 3] rfl
 refine nm_then ?_
 refine Zsr ?_
 refine Zg6 T (Zq (Zrm rfl (T.e 0 rfl))) rfl (Zm 2 rfl rfl) rfl (Zm 4 rfl rfl) rfl (Zm 3 rfl rfl) rfl (Zl Tryd.underlying24 0 rfl rfl) rfl (fun _ T => Zq (rn_slice3 (size := 4) (l := i) (h := (i + 1)) (mx := l.length) rfl Tryd.underlying24 (by kernel_rfl) (T.e 4 rfl) (T.e 3 rfl) ((T.e 2 rfl).trans (congrArg (Value.int .i64) (by omega))) (T.e 0 rfl) (by omega) (by omega) (by omega))) rfl ?_; clear T ac; intro ac T
 refine wpList_nil ?_
 replace T := T.pick [6, 7, 8] rfl
 refine Zns ?_
 refine Zsr ?_
 refine Zg3 T (Zq (Zrm rfl (T.e 1 rfl))) rfl (Zm 3 rfl rfl) rfl (fun _ T => Zq (rn_eql rfl (T.e 1 rfl) (T.e 0 rfl))) rfl ?_; clear T ac; intro ac T
 refine wpList_nil ?_
 replace T := T.pick [0, 3, 4, 5] rfl
 refine nm_then ?_
 refine wp_if (T.e 0 rfl) ?_ ?_
 ·intro h1
  exfalso
  omega
 intro h1
 refine Zsk ?_
 refine Zsr ?_
 refine Zg3 T (Zq (Zrm rfl (T.e 1 rfl))) rfl (Zl Tryd.underlying24 0 rfl rfl) rfl (Za 0 rfl rfl) rfl ?_; clear T ac; intro ac T
 refine wpList_nil ?_
 replace T := T.pick [0, 4, 5, 6] rfl
 refine Zns ?_
 refine Zgs M (M.perm [] rfl rfl) 8 (by kernel_rfl) rfl (by kernel_rfl) ?_
 clear M; intro wc M
 refine gq T 0 1 rfl (fun _ _ _ _ _ => (Zrm rfl (T.e 1 rfl))) ?_; clear T ac; intro ac T
 refine gq T 1 3 rfl (fun _ _ _ _ _ => (Zrm rfl (T.e 3 rfl))) ?_; clear T ac; intro ac T
 refine gq T 2 7 rfl (fun _ _ _ _ _ => (rn_slice (size := 4) (l := 0) (h := i) rfl Tryd.underlying24 (by kernel_rfl) (T.e 1 rfl) rfl (T.e 0 rfl) (by omega) (by omega))) ?_; clear T ac; intro ac T
 obtain ⟨Aq1, hAq1⟩ : ∃ q : Option Addr, q = (if c = 0 then some ⟨g, 0, none⟩ else Option.map (fun x : Addr => x.add (0 * 4)) (some ⟨g, 0, none⟩)) := ⟨_, rfl⟩
 rw [← hAq1] at T
 obtain ⟨lq1, hlq1⟩ : ∃ q, q = (l.drop 0).take (i - 0) := ⟨_, rfl⟩
 have nlq1 : lq1.length = i - 0 := by rw [hlq1, List.length_take, List.length_drop]; (try simp only [List.length_cons, List.length_append, List.length_nil]); omega
 rw [← nlq1] at T
 have SAq1 : Sp w (fun b => b = g) [(g, .cells (pc l ++ ys))] Aq1 lq1.length 4 g (0 + 0 * 4) (pc lq1) := by rw [nlq1, hAq1, hlq1, ← pc_part]; exact Sg.sub (by omega) (by omega) (by omega)
 refine gq T 3 15 rfl (fun _ _ _ _ _ => (Zrm rfl (T.e 4 rfl))) ?_; clear T ac; intro ac T
 refine gq T 4 31 rfl (fun _ _ _ _ _ => (Zrm rfl (T.e 7 rfl))) ?_; clear T ac; intro ac T
 refine gq T 5 63 rfl (fun _ _ _ _ _ => (rn_slice (size := 4) (l := (i + 1)) (h := l.length) rfl Tryd.underlying24 (by kernel_rfl) (T.e 1 rfl) ((T.e 0 rfl).trans (congrArg (Value.int .i64) (by omega))) rfl (by omega) (by omega))) ?_; clear T ac; intro ac T
 obtain ⟨Aq2, hAq2⟩ : ∃ q : Option Addr, q = (if c = (i + 1) then some ⟨g, 0, none⟩ else Option.map (fun x : Addr => x.add ((i + 1) * 4)) (some ⟨g, 0, none⟩)) := ⟨_, rfl⟩
 rw [← hAq2] at T
 obtain ⟨lq2, hlq2⟩ : ∃ q, q = (l.drop (i + 1)).take (l.length - (i + 1)) := ⟨_, rfl⟩
 have nlq2 : lq2.length = l.length - (i + 1) := by rw [hlq2, List.length_take, List.length_drop]; (try simp only [List.length_cons, List.length_append, List.length_nil]); omega
 rw [← nlq2] at T
 have SAq2 : Sp w (fun b => b = g) [(g, .cells (pc l ++ ys))] Aq2 lq2.length 4 g (0 + (i + 1) * 4) (pc lq2) := by rw [nlq2, hAq2, hlq2, ← pc_part]; exact Sg.sub (by omega) (by omega) (by omega)
 refine gw 6 127 ?_; intro K hK
 refine ow_appIn (cs' := (pc l ++ ys).take (lq1.length * 4) ++ (pc l).drop ((i + 1) * 4) ++ (pc l ++ ys).drop (lq1.length * 4 + ((pc l).drop ((i + 1) * 4)).length)) (size := 4) (o2 := (i + 1) * 4) (news := (pc l).drop ((i + 1) * 4)) M T rfl rfl rfl rfl Tryd.underlying24 (by kernel_rfl) (T.e 3 rfl) (by rw [hAq1]; exact ite_add0 _) (T.e 0 rfl) (by rw [hAq2]; split; exact ⟨0, rfl, fun h => by omega⟩; exact ⟨(i + 1) * 4, by rw [Option.map_some, Addr.add_mid, Nat.zero_add], fun _ => rfl⟩) (by rw [List.length_drop, pc_length]; omega) (fun j u hj => by rw [List.getElem?_drop] at hj; rw [List.getElem?_append_left (List.getElem?_eq_some_iff.1 hj).1]; exact hj) (fun u hu => pc_one l u (List.mem_of_mem_drop hu)) (by omega) (by rw [List.length_drop, List.length_append, pc_length]; omega) .head rfl ?_; clear M T; intro wc ac M T
 rw [del_cells hi (by omega)] at M
 rw [show lq1.length + lq2.length = l.length - 1 by omega, show c - 0 = c from rfl] at T
 refine Zso hK _ _ (M.mask [false] rfl) ?_; clear hK K
 refine g_q (v := (.slice (some ⟨g, 0, none⟩) (l.length - 1) c)) (T := T.pick [0, 1, 2, 3, 4, 5, 6, 7, 9, 10] rfl) (i := 7) rfl (by kernel_rfl) (by kernel_rfl : (Zpb 8 127).setIfInBounds 7 true = Zpb 8 255) si_U (fun _ _ _ h => h) rfl rfl rfl rfl (fun _ _ _ _ _ => (Zra rfl (T.e 0 rfl))) ?_; clear T ac; intro ac T
 refine Zgd (by kernel_rfl) ?_
 replace T := T.pick [0, 8] rfl
 refine nm_then ?_
 refine Zsr ?_
 refine Zg5 T (Zq (Zrm rfl (T.e 0 rfl))) rfl (Zm 1 rfl rfl) rfl (Zl Tryd.underlying24 0 rfl rfl) rfl (Zm 4 rfl rfl) rfl (fun _ T => Zq (rn_slice (size := 4) (l := (l.length - 1)) (h := l.length) rfl Tryd.underlying24 (by kernel_rfl) (T.e 3 rfl) (T.e 1 rfl) (T.e 0 rfl) (by omega) (by omega))) rfl ?_; clear T ac; intro ac T
 refine Zl2 ?_
 refine ow_clr (zs := [.int .i64 0, .int .i64 0, .bool false, .int .i64 0]) (o := (l.length - 1) * 4) (c := c - (l.length - 1)) (cs' := (pc (l.eraseIdx i) ++ (pc l ++ ys).drop ((l.length - 1) * 4)).take ((l.length - 1) * 4) ++ [.int .i64 0, .int .i64 0, .bool false, .int .i64 0] ++ (pc (l.eraseIdx i) ++ (pc l ++ ys).drop ((l.length - 1) * 4)).drop ((l.length - 1) * 4 + ([.int .i64 0, .int .i64 0, .bool false, .int .i64 0] : List Value).length)) M T rfl rfl Tryd.underlying24 Tryd.zeroPart rfl rfl ((T.e 0 rfl).trans (by rw [if_neg (by omega), show l.length - (l.length - 1) = 1 by omega, Option.map_some, Addr.add_mid, Nat.zero_add])) (by simp only [List.length_append, List.length_drop, pc_length, List.length_eraseIdx, if_pos hi, List.length_cons, List.length_nil]; omega) .head rfl ?_; clear M T; intro wc ac M T
 rw [clr_cells hi] at M
 refine wpList_nil ?_
 replace T := T.pick [5] rfl
 refine nm_then ?_
 refine Zsr ?_
 refine Zg2 T (Zq (Zrm rfl (T.e 0 rfl))) rfl (Za 0 rfl rfl) rfl ?_; clear T ac; intro ac T
 refine wpList_nil ?_
 replace T := T.pick [0] rfl
 refine Znr ?_
 refine rt_1 T rfl (T.e 0 rfl) ?_
 exact ⟨rfl, _, M⟩
def skW (s : Sk) (i : Nat) : Sk := { s with ps := s.ps.eraseIdx i }
noncomputable def wrsV (s : Sk) (i : Nat) : Int := if shN (skW s i) true < shN s true then 1 else 2
noncomputable def wrsL (s : Sk) : List Int := if shE s true = 0 then (List.range s.ps.length).map (wrsV s) else []
def LiPost (xs : List Int) (er : Int) (w : World) (e : Ending) (w' : World) : Prop := LsPost 1 (ic xs) xs.length er w e w'
set_option maxHeartbeats 2000000 in
theorem Worst_any (s : Sk) (A : Option Addr) (d : Nat)  (w : World) (hA : Rd w w.heap.size 4 A s.ps.length (pc s.ps)) (nA : s.ps.length ≤ 1000000) (hd : s.ps.length ≤ d) (hT : TabW w)  :
   Calls Tryd.prog 43 #[.agg #[.int .i64 s.lo, .int .i64 s.wi, .int .i64 s.a0, .int .i64 s.a1, .int .i64 s.c0, .int .i64 s.c1, .slice A s.ps.length d]] w (LiPost (wrsL s) (shE s true) w) := by
 obtain ⟨bA, oA, SA⟩ := Sp.old hA
 refine Zpx noEx Tryd.func43 rfl 53 rfl [.agg #[.int .i64 s.lo, .int .i64 s.wi, .int .i64 s.a0, .int .i64 s.a1, .int .i64 s.c0, .int .i64 s.c1, .slice A s.ps.length d]] rfl rfl (Mem.init w _) ?_
 intro ac wc T M
 refine Zsr ?_
 refine Zl2 ?_
 refine Zob M T rfl rfl rfl rfl (T.e 0 rfl) rfl ?_; clear M T; intro g1 wc ac M T
 refine Zg2 T (Zq (Zra rfl evc)) rfl (Zc rfl) rfl ?_; clear T ac; intro ac T
 refine wpList_nil ?_
 replace T := T.pick [2] rfl
 refine nm_then ?_
 refine Zsr ?_
 refine lq T (Zrr (Mem.nth M 0 rfl) rfl (T.e 0 rfl) rfl) ?_; clear T ac; intro ac T
 refine Zl2 ?_
 refine Zoc (first := []) (cap := []) T rfl rfl rfl rfl evf (.cons (T.e 0 rfl) (.cons evc .nil)) Tryd.func34 rfl rfl ?_
 refine Calls.mono (Sheets_any s A d true _ (SA.rd M (List.nil_sublist _)) (by omega) (by omega) (hT.mem0 M)) ?_
 clear T; rintro e wc ⟨ASu1, cSu1, ISu1, rfl, hcpSu1, SVSu1, N⟩ ac T
 obtain ⟨bSu1, oSu1, SVSu1⟩ := SVSu1
 have SSu1 := SVSu1 w noEx
 replace M := (M.join N).swapI
 clear N
 replace M : Mem w noEx wc ((g1, .cells [.int .i64 s.lo, .int .i64 s.wi, .int .i64 s.a0, .int .i64 s.a1, .int .i64 s.c0, .int .i64 s.c1, .slice A s.ps.length d]) :: ISu1) := M
 refine Zg7 T (Zq (Zrm rfl (T.e 0 rfl))) rfl (Ze 0 rfl rfl rfl) rfl (Ze 1 rfl rfl rfl) rfl (Ze 2 rfl rfl rfl) rfl (Za 2 rfl rfl) rfl (Za 2 rfl rfl) rfl (Za 2 rfl rfl) rfl ?_; clear T ac; intro ac T
 refine wpList_nil ?_
 replace T := T.pick [0, 1, 9] rfl
 refine Zns ?_
 refine Zsr ?_
 refine Zg2 T (Zq (Zrm rfl (T.e 0 rfl))) rfl (fun _ T => Zq (rn_neq rfl (T.e 0 rfl) evc)) rfl ?_; clear T ac; intro ac T
 refine wpList_nil ?_
 replace T := T.pick [0, 2, 3, 4] rfl
 refine nm_then ?_
 refine wp_ifn (T.e 0 rfl) ?_ ?_
 ·intro h1
  refine Zsr ?_
  refine Zg3 T (Zq (Zrm rfl (T.e 1 rfl))) rfl (Zc rfl) rfl (Za 1 rfl rfl) rfl ?_; clear T ac; intro ac T
  refine wpList_nil ?_
  replace T := T.pick [0, 1] rfl
  replace M := M.mask [false] rfl
  refine Znr ?_
  refine Zrt ?_
  refine rt_2 T rfl (T.e 1 rfl) (T.e 0 rfl) ?_
  have e9 : wrsL s = [] := if_neg (by omega)
  unfold LiPost
  rw [e9]
  exact LsPost.nil M
 intro h1
 refine Zsk ?_
 refine Zsr ?_
 refine lq T (Zra rfl evc) ?_; clear T ac; intro ac T
 refine wpList_nil ?_
 replace T := T.pick [0, 3, 4] rfl
 refine Zns ?_
 refine Zsr ?_
 refine Zg4 (v1 := (.pointer (some ⟨g1, 6, none⟩))) T (Zq (Zrf (off := 6) rfl (T.e 2 rfl) (fun _ _ _ => by kernel_rfl))) rfl (Zo M 0 0 rfl rfl rfl rfl) rfl (Zl Tryd.underlying24 0 rfl rfl) rfl (fun _ T => Zq (Zrm rfl evc)) rfl ?_; clear T ac; intro ac T
 refine wpList_nil ?_
 replace T := T.pick [0, 1, 4, 5, 6] rfl
 refine nm_then ?_
 refine wp_block ?_
 replace M : Mem w noEx wc [(g1, .cells [.int .i64 s.lo, .int .i64 s.wi, .int .i64 s.a0, .int .i64 s.a1, .int .i64 s.c0, .int .i64 s.c1, .slice A s.ps.length d])] := M.sub (Zsl ([(g1, .cells [.int .i64 s.lo, .int .i64 s.wi, .int .i64 s.a0, .int .i64 s.a1, .int .i64 s.c0, .int .i64 s.c1, .slice A s.ps.length d])] : List (Nat × BA)) _)
 refine wp_loop_n (fun mz ac wc => ∃ (k : Nat) (OL : List Int) (A3 : Option Addr) (c3 : Nat) (Io : List (Nat × BA)), mz = s.ps.length - k ∧ (k ≤ s.ps.length) ∧ (OL = (List.range k).map (wrsV s)) ∧ (OL.length = k) ∧ (Sl 3 1 (.slice A3 OL.length c3) OL.length (ic OL) Io) ∧ Tm ac 53 [(1, .pointer (some ⟨g1, 0, none⟩)), (5, .int .i64 (shN s true : Int)), (7, .slice A3 OL.length c3), (25, .int .i64 ((s.ps.length : Nat) : Int)), (26, .int .i64 (k : Int))] ∧ Mem w noEx wc ((g1, .cells [.int .i64 s.lo, .int .i64 s.wi, .int .i64 s.a0, .int .i64 s.a1, .int .i64 s.c0, .int .i64 s.c1, .slice A s.ps.length d]) :: Io)) ?_ ?_
 ·exact ⟨_, 0, [], none, 0, [], rfl, (Nat.zero_le _), rfl, rfl, (Sl.nil _ _), T.pick [4, 3, 2, 1, 0] rfl, M.mask [true] rfl⟩
 clear T M
 rintro mz ac wc ⟨k, OL, A3, c3, Io, hmm1, hk, hO, hOl, hsl, T, M⟩
 refine Zsr ?_
 refine lq T (rn_lss rfl (T.e 4 rfl) (T.e 3 rfl)) ?_; clear T ac; intro ac T
 refine Zln ?_
 refine wp_seq ?_
 refine wp_if (T.e 0 rfl) ?_ ?_
 ·intro h2
  refine Zsk ?_
  refine wp_seq ?_
  refine wp_block ?_
  refine Zsr ?_
  refine Zg2 T (Zq (Zrm rfl (T.e 5 rfl))) rfl (Za 0 rfl rfl) rfl ?_; clear T ac; intro ac T
  refine wpList_nil ?_
  replace T := T.pick [0, 3, 4, 5, 6, 7] rfl
  refine nm_then ?_
  refine Zsr ?_
  refine lq T (Zrr (Mem.nth M 0 rfl) rfl (T.e 1 rfl) rfl) ?_; clear T ac; intro ac T
  refine Zl2 ?_
  refine Zoa M T rfl rfl rfl rfl ?_; clear M T; intro g2 wc ac M T
  refine Zl2 ?_
  refine Zos M T rfl rfl (T.e 0 rfl) (T.e 1 rfl) rfl .head rfl (by simp) rfl (by kernel_rfl) ?_; clear M T; intro wc ac M T
  refine wpList_nil ?_
  replace T := T.pick [0, 2, 3, 4, 5, 6, 7] rfl
  refine nm_then ?_
  refine Zsr ?_
  refine Zg2 (v1 := (.pointer (some ⟨g1, 6, none⟩))) T (Zq (Zrf (off := 6) rfl (T.e 2 rfl) (fun _ _ _ => by kernel_rfl))) rfl (Zo M 1 0 rfl rfl rfl rfl) rfl ?_; clear T ac; intro ac T
  refine Zl2 ?_
  refine Zoc (first := []) (cap := []) T rfl rfl rfl rfl evf (.cons (T.e 0 rfl) .nil) Tryd.func87 rfl rfl ?_
  refine Calls.mono (cloneP_any A d s.ps _ (SA.rd M (List.nil_sublist _)) (by omega)) ?_
  clear T; rintro e wc ⟨Acu2, ccu2, Icu2, rfl, hclu2, N⟩ ac T
  replace M := (M.join N).swapI
  clear N
  replace M : Mem w noEx wc ((g2, .cells [.int .i64 s.lo, .int .i64 s.wi, .int .i64 s.a0, .int .i64 s.a1, .int .i64 s.c0, .int .i64 s.c1, .slice A s.ps.length d]) :: (g1, .cells [.int .i64 s.lo, .int .i64 s.wi, .int .i64 s.a0, .int .i64 s.a1, .int .i64 s.c0, .int .i64 s.c1, .slice A s.ps.length d]) :: (Io ++ Icu2)) := M
  refine Zg3 T (Zq (Zrm rfl (T.e 4 rfl))) rfl (Zm 5 rfl rfl) rfl (fun _ T => Zq (rn_add rfl (T.e 0 rfl) evc (by omega))) rfl ?_; clear T ac; intro ac T
  refine l_w rfl ?_; intro K hK
  have hcapu2 := hclu2.capLe M (Zsq (((g2, .cells [.int .i64 s.lo, .int .i64 s.wi, .int .i64 s.a0, .int .i64 s.a1, .int .i64 s.c0, .int .i64 s.c1, .slice A s.ps.length d]) :: (g1, .cells [.int .i64 s.lo, .int .i64 s.wi, .int .i64 s.a0, .int .i64 s.a1, .int .i64 s.c0, .int .i64 s.c1, .slice A s.ps.length d]) :: Io) : List (Nat × BA)) _)
  obtain ⟨bd, Id, hsw, M⟩ := hclu2.sw (L := ((g2, .cells [.int .i64 s.lo, .int .i64 s.wi, .int .i64 s.a0, .int .i64 s.a1, .int .i64 s.c0, .int .i64 s.c1, .slice A s.ps.length d]) :: (g1, .cells [.int .i64 s.lo, .int .i64 s.wi, .int .i64 s.a0, .int .i64 s.a1, .int .i64 s.c0, .int .i64 s.c1, .slice A s.ps.length d]) :: Io)) M
  obtain ⟨-, h9 | ⟨rfl, ysd, rfl⟩⟩ := hsw
  · omega
  replace M : Mem w noEx wc ((bd, .cells (pc s.ps ++ ysd)) :: (g2, .cells [.int .i64 s.lo, .int .i64 s.wi, .int .i64 s.a0, .int .i64 s.a1, .int .i64 s.c0, .int .i64 s.c1, .slice A s.ps.length d]) :: (g1, .cells [.int .i64 s.lo, .int .i64 s.wi, .int .i64 s.a0, .int .i64 s.a1, .int .i64 s.c0, .int .i64 s.c1, .slice A s.ps.length d]) :: Io) := M.swapI
  refine Zoc (first := []) (cap := []) T rfl rfl rfl rfl evf (.cons (T.e 3 rfl) (.cons (T.e 2 rfl) (.cons (T.e 0 rfl) .nil))) Tryd.func88 rfl rfl ?_
  refine Calls.mono (delete_any bd ccu2 k s.ps ysd _ (by omega) hcapu2 (by omega) (M.blk _ (Zne (i := 0) rfl)).2) ?_
  clear T; rintro e wc ⟨rfl, N⟩ ac T
  obtain ⟨yse, N⟩ := N
  replace M := M.joinE N .head
  clear N
  have Sd := Sp.pre (w := w) (ex := noEx) (size := 4) (n := (s.ps.eraseIdx k).length) (g := bd) (xs := pc (s.ps.eraseIdx k)) (ys := yse) (by rw [pc_length])
  rw [show s.ps.length - 1 = (s.ps.eraseIdx k).length by rw [List.length_eraseIdx, if_pos (by omega)]] at T
  refine Zso hK _ _ ?_; clear hK K
  refine lq (v := (.pointer (some ⟨g2, 6, none⟩))) T (Zrf (off := 6) rfl (T.e 7 rfl) (fun _ _ _ => by kernel_rfl)) ?_; clear T ac; intro ac T
  refine Zl2 ?_
  refine Zos M T rfl rfl (T.e 0 rfl) (T.e 1 rfl) rfl (.tail .head) rfl (by simp) rfl (by kernel_rfl) ?_; clear M T; intro wc ac M T
  refine wpList_nil ?_
  replace T := T.pick [8, 10, 11, 12, 13, 14] rfl
  refine nm_then ?_
  refine Zsr ?_
  refine lq T (Zra rfl evc) ?_; clear T ac; intro ac T
  refine Zln ?_
  refine wp_seq ?_
  refine Zsr ?_
  refine lq T (Zrr (Mem.nth M 1 rfl) rfl (T.e 1 rfl) rfl) ?_; clear T ac; intro ac T
  refine Zl2 ?_
  refine Zoc (first := []) (cap := []) T rfl rfl rfl rfl evf (.cons (T.e 0 rfl) (.cons evc .nil)) Tryd.func34 rfl rfl ?_
  refine Calls.mono (Sheets_any ({ s with ps := (s.ps.eraseIdx k) } : Sk) (some ⟨bd, 0, none⟩) ccu2 true _ (Sd.rd M (List.Sublist.cons_cons _ (List.nil_sublist _))) (by dsimp only; rw [List.length_eraseIdx]; split <;> omega) (by dsimp only; rw [List.length_eraseIdx]; split <;> omega) (hT.mem0 M)) ?_
  clear T; rintro e wc ⟨ASu4, cSu4, ISu4, rfl, hcpSu4, SVSu4, N⟩ ac T
  replace M := M.call N.below
  clear N
  refine Zg7 T (Zq (Zrm rfl (T.e 0 rfl))) rfl (Ze 0 rfl rfl rfl) rfl (Ze 1 rfl rfl rfl) rfl (Ze 2 rfl rfl rfl) rfl (Za 2 rfl rfl) rfl (Za 2 rfl rfl) rfl (Za 2 rfl rfl) rfl ?_; clear T ac; intro ac T
  refine wpList_nil ?_
  replace T := T.pick [1, 9, 11, 12, 13, 14, 15] rfl
  replace M := M.mask [true, false, true] rfl
  refine nm_then ?_
  refine Zsr ?_
  refine Zg3 T (Zq (Zrm rfl (T.e 0 rfl))) rfl (Zm 4 rfl rfl) rfl (fun _ T => Zq (rn_lss rfl (T.e 1 rfl) (T.e 0 rfl))) rfl ?_; clear T ac; intro ac T
  refine wpList_nil ?_
  replace T := T.pick [0, 4, 5, 6, 7, 8, 9] rfl
  refine nm_then ?_
  refine wp_if (T.e 0 rfl) ?_ ?_
  ·intro h3
   have hwv : wrsV s k = 1 := if_pos (show shN ({ s with ps := s.ps.eraseIdx k } : Sk) true < shN s true by omega)
   refine wp_region_lit ?_
   refine l_q (v := (.int .i64 1)) (T.pick [0, 2, 3, 4, 5, 6] rfl) rfl rfl rfl rfl (Zra rfl evc) ?_; clear T ac; intro ac T
   refine wpList_nil ?_
   replace T := T.pick [0, 2, 3, 4, 5, 6] rfl
   refine nm_then ?_
   refine wp_region_lit ?_
   refine Zg2 T (Zq (Zrm rfl (T.e 3 rfl))) rfl (Zm 1 rfl rfl) rfl ?_; clear T ac; intro ac T
   refine Zl2 ?_
   refine ow_bs (e := 3) [.int .i64 1] M T rfl rfl rfl rfl (.cons (T.e 0 rfl) .nil) (fun _ => by kernel_rfl) ?_; clear M T; intro g3 wc ac M T
   refine Zl2 ?_
   refine ow_app ([(g3, .cells [.int .i64 1]), (bd, .cells (pc (s.ps.eraseIdx k) ++ yse)), (g1, .cells [.int .i64 s.lo, .int .i64 s.wi, .int .i64 s.a0, .int .i64 s.a1, .int .i64 s.c0, .int .i64 s.c1, .slice A s.ps.length d])]) Tryd.info3 hsl M (by first | rfl | simp) T rfl rfl rfl rfl Tryd.underlying27 rfl rfl rfl (by omega) (T.e 2 rfl) (T.e 0 rfl) (Zne (i := 0) rfl) rfl rfl ?_; clear M T; intro ga1 cga1 wc ac M T
   refine l_q (v := (.slice (some ⟨ga1, 0, none⟩) (OL.length + 1) cga1)) (T.pick [0, 1, 2, 3, 4, 5, 6, 8, 9] rfl) rfl rfl rfl rfl (Zra rfl (T.e 0 rfl)) ?_; clear T ac; intro ac T
   refine wpList_nil ?_
   replace T := T.pick [0, 6, 7, 8, 9] rfl
   replace M := M.mask [true, false, true, true] rfl
   refine Znb ?_
   refine nm_then ?_
   refine wp_region_lit ?_
   refine lq T (rn_add rfl (T.e 4 rfl) evc (by omega)) ?_; clear T ac; intro ac T
   refine l_q (v := (.int .i64 ((k : Int) + 1))) (T.pick [0, 1, 2, 3, 4] rfl) rfl rfl rfl rfl (Zrm rfl (T.e 0 rfl)) ?_; clear T ac; intro ac T
   refine wpList_nil ?_
   replace T := T.pick [0, 2, 3, 4, 5] rfl
   refine nm_then ?_
   have e9 : OL.length + 1 = (OL ++ [1]).length := by simp
   have e8 : ((ic OL) ++ [.int .i64 1]) = ic (OL ++ [1]) := by rw [← ic_snoc]
   rw [e9, e8] at M
   rw [e9] at T
   clear e9 e8
   exact ⟨_, by omega, k + 1, (OL ++ [1]), _, _, [(ga1, .row 3 1 (OL ++ [1]).length (ic (OL ++ [1])) cga1)], rfl, (by omega), (by rw [hO, List.range_succ, List.map_append, List.map_cons, List.map_nil, hwv]), (by simp [hOl]), (Sl.row _ _ _ _ _ _), T.pick [2, 3, 1, 4, 0] rfl, ((M.permT [2, 0] 3 rfl rfl rfl rfl).sub (Zsl ([(g1, .cells [.int .i64 s.lo, .int .i64 s.wi, .int .i64 s.a0, .int .i64 s.a1, .int .i64 s.c0, .int .i64 s.c1, .slice A s.ps.length d]), (ga1, .row 3 1 (OL ++ [1]).length (ic (OL ++ [1])) cga1)] : List (Nat × BA)) _))⟩
  intro h3
  have hwv : wrsV s k = 2 := if_neg (show ¬ shN ({ s with ps := s.ps.eraseIdx k } : Sk) true < shN s true by omega)
  refine Zsk ?_
  refine wp_region_lit ?_
  refine Zg2 T (Zq (Zrm rfl (T.e 4 rfl))) rfl (Zm 2 rfl rfl) rfl ?_; clear T ac; intro ac T
  refine Zl2 ?_
  refine ow_bs (e := 3) [.int .i64 2] M T rfl rfl rfl rfl (.cons (T.e 0 rfl) .nil) (fun _ => by kernel_rfl) ?_; clear M T; intro g4 wc ac M T
  refine Zl2 ?_
  refine ow_app ([(g4, .cells [.int .i64 2]), (bd, .cells (pc (s.ps.eraseIdx k) ++ yse)), (g1, .cells [.int .i64 s.lo, .int .i64 s.wi, .int .i64 s.a0, .int .i64 s.a1, .int .i64 s.c0, .int .i64 s.c1, .slice A s.ps.length d])]) Tryd.info3 hsl M (by first | rfl | simp) T rfl rfl rfl rfl Tryd.underlying27 rfl rfl rfl (by omega) (T.e 2 rfl) (T.e 0 rfl) (Zne (i := 0) rfl) rfl rfl ?_; clear M T; intro ga2 cga2 wc ac M T
  refine l_q (v := (.slice (some ⟨ga2, 0, none⟩) (OL.length + 1) cga2)) (T.pick [0, 1, 2, 3, 4, 5, 6, 7, 9, 10] rfl) rfl rfl rfl rfl (Zra rfl (T.e 0 rfl)) ?_; clear T ac; intro ac T
  refine wpList_nil ?_
  replace T := T.pick [0, 7, 8, 9, 10] rfl
  replace M := M.mask [true, false, true, true] rfl
  refine Znb ?_
  refine nm_then ?_
  refine wp_region_lit ?_
  refine lq T (rn_add rfl (T.e 4 rfl) evc (by omega)) ?_; clear T ac; intro ac T
  refine l_q (v := (.int .i64 ((k : Int) + 1))) (T.pick [0, 1, 2, 3, 4] rfl) rfl rfl rfl rfl (Zrm rfl (T.e 0 rfl)) ?_; clear T ac; intro ac T
  refine wpList_nil ?_
  replace T := T.pick [0, 2, 3, 4, 5] rfl
  refine nm_then ?_
  have e9 : OL.length + 1 = (OL ++ [2]).length := by simp
  have e8 : ((ic OL) ++ [.int .i64 2]) = ic (OL ++ [2]) := by rw [← ic_snoc]
  rw [e9, e8] at M
  rw [e9] at T
  clear e9 e8
  exact ⟨_, by omega, k + 1, (OL ++ [2]), _, _, [(ga2, .row 3 1 (OL ++ [2]).length (ic (OL ++ [2])) cga2)], rfl, (by omega), (by rw [hO, List.range_succ, List.map_append, List.map_cons, List.map_nil, hwv]), (by simp [hOl]), (Sl.row _ _ _ _ _ _), T.pick [2, 3, 1, 4, 0] rfl, ((M.permT [2, 0] 3 rfl rfl rfl rfl).sub (Zsl ([(g1, .cells [.int .i64 s.lo, .int .i64 s.wi, .int .i64 s.a0, .int .i64 s.a1, .int .i64 s.c0, .int .i64 s.c1, .slice A s.ps.length d]), (ga2, .row 3 1 (OL ++ [2]).length (ic (OL ++ [2])) cga2)] : List (Nat × BA)) _))⟩
 intro h2
 refine wp_exit ?_
 refine Zet ?_
 refine Zet ?_
 refine ex_hit ?_
 refine nm_then ?_
 refine Zsr ?_
 refine Zg3 T (Zq (Zrm rfl (T.e 3 rfl))) rfl (Za 0 rfl rfl) rfl (Zc rfl) rfl ?_; clear T ac; intro ac T
 refine wpList_nil ?_
 replace T := T.pick [0, 1] rfl
 replace M := M.mask [false] rfl
 refine Znr ?_
 refine rt_2 T rfl (T.e 1 rfl) (T.e 0 rfl) ?_
 have e9 : wrsL s = OL := (if_pos (by omega)).trans (by rw [hO, show k = s.ps.length by omega])
 have e8 : shE s true = 0 := by omega
 unfold LiPost
 rw [e9, e8]
 replace M := M.mask [] rfl
 exact ⟨A3, c3, Io, rfl, hsl.capLe M (List.Sublist.refl _), hsl.spV (ic_length _ ▸ (by omega)), M⟩
def skP (s : Sk) (L : List Pt) : Sk := { s with ps := L }
noncomputable def okP (s : Sk) (su : Bool) (L : List Pt) (n0 : Nat) : Bool := match shF (skP s L) su with
 | some y => decide (y.2 ≤ n0)
 | none => false
noncomputable def spareR (s : Sk) (p : Pt) (su : Bool) (n0 : Nat) : Nat → List Pt → Nat
 | 0, L => L.length
 | f + 1, L => if okP s su (L ++ [p]) n0 = true then spareR s p su n0 f (L ++ [p]) else L.length
noncomputable def sprE (s : Sk) (p : Pt) (su : Bool) : Int := if skErr s ≠ 0 then skErr s else if ptErr p ≠ 0 then ptErr p else shE s su
noncomputable def sprV (s : Sk) (p : Pt) (su : Bool) : Int := if sprE s p su ≠ 0 then 0 else (spareR s p su (shN s su) (5 - s.ps.length) s.ps : Int) - (s.ps.length : Int)
theorem okP_eq {s : Sk} {su : Bool} {L : List Pt} {n0 bn : Nat} {bl : List Int} {bi : Bool} (h : shF (skP s L) su = if bi = true then some (bl, bn) else none) : okP s su L n0 = (bi && decide (bn ≤ n0)) := by
 unfold okP
 rw [h]
 cases bi <;> rfl
set_option maxHeartbeats 2000000 in
theorem Spare_any (s : Sk) (A : Option Addr) (d : Nat) (p : Pt) (su : Bool)  (w : World) (hA : Rd w w.heap.size 4 A s.ps.length (pc s.ps)) (nA : s.ps.length ≤ 1000000) (hd : s.ps.length ≤ d) (hT : TabW w)  :
   Calls Tryd.prog 41 #[.agg #[.int .i64 s.lo, .int .i64 s.wi, .int .i64 s.a0, .int .i64 s.a1, .int .i64 s.c0, .int .i64 s.c1, .slice A s.ps.length d], .agg #[.int .i64 p.l, .int .i64 p.w, .bool p.gr, .int .i64 p.pa], .bool su] w fun e w' => e = .returned (.tuple #[.int .i64 (sprV s p su), .int .i64 (sprE s p su)]) ∧ Below w.heap.size w w' := by
 obtain ⟨bA, oA, SA⟩ := Sp.old hA
 refine Zpx noEx Tryd.func41 rfl 82 rfl [.agg #[.int .i64 s.lo, .int .i64 s.wi, .int .i64 s.a0, .int .i64 s.a1, .int .i64 s.c0, .int .i64 s.c1, .slice A s.ps.length d], .agg #[.int .i64 p.l, .int .i64 p.w, .bool p.gr, .int .i64 p.pa], .bool su] rfl rfl (Mem.init w _) ?_
 intro ac wc T M
 refine Zsr ?_
 refine Zl2 ?_
 refine Zob M T rfl rfl rfl rfl (T.e 0 rfl) rfl ?_; clear M T; intro g1 wc ac M T
 refine Zl2 ?_
 refine Zob M T rfl rfl rfl rfl (T.e 2 rfl) rfl ?_; clear M T; intro g2 wc ac M T
 refine Zg2 T (Zq (Zra rfl evc)) rfl (Zc rfl) rfl ?_; clear T ac; intro ac T
 refine wpList_nil ?_
 replace T := T.pick [2, 3, 6] rfl
 refine Zns ?_
 refine Zsr ?_
 refine lq T (Zrr (Mem.nth M 1 rfl) rfl (T.e 1 rfl) rfl) ?_; clear T ac; intro ac T
 refine Zl2 ?_
 refine Zoc (first := []) (cap := []) T rfl rfl rfl rfl evf (.cons (T.e 0 rfl) .nil) Tryd.func60 rfl rfl ?_
 refine Calls.mono (skCheck_any s A d _ (SA.rd M (List.nil_sublist _)) (by omega)) ?_
 clear T; rintro e wc ⟨rfl, hb⟩ ac T
 replace M := M.call hb; clear hb
 refine lq T (Zra rfl (T.e 0 rfl)) ?_; clear T ac; intro ac T
 refine wpList_nil ?_
 replace T := T.pick [0, 3, 4, 5] rfl
 refine nm_then ?_
 refine Zsr ?_
 refine Zg2 T (Zq (Zrm rfl (T.e 0 rfl))) rfl (fun _ T => Zq (rn_neq rfl (T.e 0 rfl) evc)) rfl ?_; clear T ac; intro ac T
 refine wpList_nil ?_
 replace T := T.pick [0, 2, 3, 4, 5] rfl
 refine nm_then ?_
 refine wp_ifn (T.e 0 rfl) ?_ ?_
 ·intro h1
  refine Zsr ?_
  refine Zg3 T (Zq (Zrm rfl (T.e 1 rfl))) rfl (Zc rfl) rfl (Za 1 rfl rfl) rfl ?_; clear T ac; intro ac T
  refine wpList_nil ?_
  replace T := T.pick [0, 1] rfl
  replace M := M.mask [false, false] rfl
  refine Znr ?_
  refine Zrt ?_
  refine rt_2 T rfl (T.e 1 rfl) (T.e 0 rfl) ?_
  have e9 : sprE s p su = skErr s := if_pos (by omega)
  have e8 : sprV s p su = 0 := if_pos (by omega)
  rw [e9, e8]
  exact ⟨rfl, M.below⟩
 intro h1
 have hsg := skErr_iff.1 (show skErr s = 0 by omega)
 obtain ⟨hb1, hb2, -, -, -, -⟩ := hsg
 have hsg := skErr_iff.1 (show skErr s = 0 by omega)
 refine Zsk ?_
 refine wp_seq ?_
 refine Zsr ?_
 refine lq T (Zrr (Mem.nth M 0 rfl) rfl (T.e 2 rfl) rfl) ?_; clear T ac; intro ac T
 refine Zl2 ?_
 refine Zoc (first := []) (cap := []) T rfl rfl rfl rfl evf (.cons (T.e 0 rfl) .nil) Tryd.func86 rfl rfl ?_
 refine Calls.mono (checkPart_any p _) ?_
 clear T; rintro e wc ⟨rfl, hb⟩ ac T
 replace M := M.call hb; clear hb
 refine lq T (Zra rfl (T.e 0 rfl)) ?_; clear T ac; intro ac T
 refine wpList_nil ?_
 replace T := T.pick [0, 5, 6, 7] rfl
 refine nm_then ?_
 refine Zsr ?_
 refine Zg2 T (Zq (Zrm rfl (T.e 0 rfl))) rfl (fun _ T => Zq (rn_neq rfl (T.e 0 rfl) evc)) rfl ?_; clear T ac; intro ac T
 refine wpList_nil ?_
 replace T := T.pick [0, 2, 3, 4, 5] rfl
 refine nm_then ?_
 refine wp_ifn (T.e 0 rfl) ?_ ?_
 ·intro h2
  refine Zsr ?_
  refine Zg3 T (Zq (Zrm rfl (T.e 1 rfl))) rfl (Zc rfl) rfl (Za 1 rfl rfl) rfl ?_; clear T ac; intro ac T
  refine wpList_nil ?_
  replace T := T.pick [0, 1] rfl
  replace M := M.mask [false, false] rfl
  refine Znr ?_
  refine Zrt ?_
  refine rt_2 T rfl (T.e 1 rfl) (T.e 0 rfl) ?_
  have e9 : sprE s p su = ptErr p := (if_neg (by omega)).trans (if_pos (by omega))
  have e8 : sprV s p su = 0 := if_pos (by omega)
  rw [e9, e8]
  exact ⟨rfl, M.below⟩
 intro h2
 have hpg := ptErr_iff.1 (show ptErr p = 0 by omega)
 refine Zsk ?_
 refine Zsr ?_
 refine Zg2 T (Zq (Zrr (Mem.nth M 1 rfl) rfl (T.e 3 rfl) rfl)) rfl (Zm 5 rfl rfl) rfl ?_; clear T ac; intro ac T
 refine Zl2 ?_
 refine Zoc (first := []) (cap := []) T rfl rfl rfl rfl evf (.cons (T.e 1 rfl) (.cons (T.e 0 rfl) .nil)) Tryd.func34 rfl rfl ?_
 refine Calls.mono (Sheets_any s A d su _ (SA.rd M (List.nil_sublist _)) (by omega) (by omega) (hT.mem0 M)) ?_
 clear T; rintro e wc ⟨ASu3, cSu3, ISu3, rfl, hcpSu3, SVSu3, N⟩ ac T
 replace M := M.call N.below
 clear N
 refine Zg7 T (Zq (Zrm rfl (T.e 0 rfl))) rfl (Ze 0 rfl rfl rfl) rfl (Ze 1 rfl rfl rfl) rfl (Ze 2 rfl rfl rfl) rfl (Za 2 rfl rfl) rfl (Za 2 rfl rfl) rfl (Za 2 rfl rfl) rfl ?_; clear T ac; intro ac T
 refine wpList_nil ?_
 replace T := T.pick [0, 1, 12, 13, 14] rfl
 refine Zns ?_
 refine Zsr ?_
 refine Zg2 T (Zq (Zrm rfl (T.e 0 rfl))) rfl (fun _ T => Zq (rn_neq rfl (T.e 0 rfl) evc)) rfl ?_; clear T ac; intro ac T
 refine wpList_nil ?_
 replace T := T.pick [0, 2, 3, 4, 5, 6] rfl
 refine nm_then ?_
 refine wp_ifn (T.e 0 rfl) ?_ ?_
 ·intro h3
  refine Zsr ?_
  refine Zg3 T (Zq (Zrm rfl (T.e 1 rfl))) rfl (Zc rfl) rfl (Za 1 rfl rfl) rfl ?_; clear T ac; intro ac T
  refine wpList_nil ?_
  replace T := T.pick [0, 1] rfl
  replace M := M.mask [false, false] rfl
  refine Znr ?_
  refine Zrt ?_
  refine rt_2 T rfl (T.e 1 rfl) (T.e 0 rfl) ?_
  have e9 : sprE s p su = shE s su := (if_neg (by omega)).trans (if_neg (by omega))
  have e8 : sprV s p su = 0 := if_pos (by omega)
  rw [e9, e8]
  exact ⟨rfl, M.below⟩
 intro h3
 refine Zsk ?_
 refine Zsr ?_
 refine lq T (Zrr (Mem.nth M 1 rfl) rfl (T.e 4 rfl) rfl) ?_; clear T ac; intro ac T
 refine Zl2 ?_
 refine Zoa M T rfl rfl rfl rfl ?_; clear M T; intro g3 wc ac M T
 refine Zl2 ?_
 refine Zos M T rfl rfl (T.e 0 rfl) (T.e 1 rfl) rfl .head rfl (by simp) rfl (by kernel_rfl) ?_; clear M T; intro wc ac M T
 refine wpList_nil ?_
 replace T := T.pick [0, 4, 5, 6, 7] rfl
 refine nm_then ?_
 refine Zsr ?_
 refine Zg2 (v1 := (.pointer (some ⟨g1, 6, none⟩))) T (Zq (Zrf (off := 6) rfl (T.e 3 rfl) (fun _ _ _ => by kernel_rfl))) rfl (Zo M 2 0 rfl rfl rfl rfl) rfl ?_; clear T ac; intro ac T
 refine Zl2 ?_
 refine Zoc (first := []) (cap := []) T rfl rfl rfl rfl evf (.cons (T.e 0 rfl) .nil) Tryd.func87 rfl rfl ?_
 refine Calls.mono (cloneP_any A d s.ps _ (SA.rd M (List.nil_sublist _)) (by omega)) ?_
 clear T; rintro e wc ⟨Acu4, ccu4, Icu4, rfl, hclu4, N⟩ ac T
 replace M := (M.join N).swapI
 clear N
 replace M : Mem w noEx wc ((g3, .cells [.int .i64 s.lo, .int .i64 s.wi, .int .i64 s.a0, .int .i64 s.a1, .int .i64 s.c0, .int .i64 s.c1, .slice A s.ps.length d]) :: (g2, .cells [.int .i64 p.l, .int .i64 p.w, .bool p.gr, .int .i64 p.pa]) :: (g1, .cells [.int .i64 s.lo, .int .i64 s.wi, .int .i64 s.a0, .int .i64 s.a1, .int .i64 s.c0, .int .i64 s.c1, .slice A s.ps.length d]) :: Icu4) := M
 refine lq (v := (.pointer (some ⟨g3, 6, none⟩))) T (Zrf (off := 6) rfl (T.e 3 rfl) (fun _ _ _ => by kernel_rfl)) ?_; clear T ac; intro ac T
 refine Zl2 ?_
 refine Zos M T rfl rfl (T.e 0 rfl) (T.e 1 rfl) rfl .head rfl (by simp) rfl (by kernel_rfl) ?_; clear M T; intro wc ac M T
 refine wpList_nil ?_
 replace T := T.pick [4, 5, 6, 7, 8] rfl
 refine Zns ?_
 refine wp_block ?_
 refine wp_loop_n (fun mz ac wc => ∃ (OL : List Pt) (A3 : Option Addr) (c3 : Nat) (Io : List (Nat × BA)), mz = 5 - OL.length ∧ (OL.length ≤ 5) ∧ (s.ps.length ≤ OL.length) ∧ (∀ q ∈ OL, q.good) ∧ (spareR s p su (shN s su) (5 - s.ps.length) s.ps = spareR s p su (shN s su) (5 - OL.length) OL) ∧ (Cl 63 4 A3 OL.length c3 (pc OL) Io) ∧ Tm ac 82 [(2, .bool su), (3, .pointer (some ⟨g1, 0, none⟩)), (4, .pointer (some ⟨g2, 0, none⟩)), (11, .int .i64 (shN s su : Int)), (13, .pointer (some ⟨g3, 0, none⟩))] ∧ Mem w noEx wc ((g3, .cells [.int .i64 s.lo, .int .i64 s.wi, .int .i64 s.a0, .int .i64 s.a1, .int .i64 s.c0, .int .i64 s.c1, .slice A3 OL.length c3]) :: (g2, .cells [.int .i64 p.l, .int .i64 p.w, .bool p.gr, .int .i64 p.pa]) :: (g1, .cells [.int .i64 s.lo, .int .i64 s.wi, .int .i64 s.a0, .int .i64 s.a1, .int .i64 s.c0, .int .i64 s.c1, .slice A s.ps.length d]) :: Io)) ?_ ?_
 ·exact ⟨_, s.ps, Acu4, ccu4, Icu4, rfl, hsg.len, (Nat.le_refl _), hsg.ps, rfl, hclu4, T.pick [4, 3, 2, 1, 0] rfl, M.mask [true, true, true] rfl⟩
 clear T M
 rintro mz ac wc ⟨OL, A3, c3, Io, hmm1, hOl, hO5, hgO, H, hcl, T, M⟩
 refine wp_seq ?_
 refine Zsr ?_
 refine Zg4 (v1 := (.pointer (some ⟨g3, 6, none⟩))) T (Zq (Zrf (off := 6) rfl (T.e 4 rfl) (fun _ _ _ => by kernel_rfl))) rfl (Zo M 0 0 rfl rfl rfl rfl) rfl (Zl Tryd.underlying24 0 rfl rfl) rfl (fun _ T => Zq (rn_lss rfl (T.e 0 rfl) evc)) rfl ?_; clear T ac; intro ac T
 refine wpList_nil ?_
 replace T := T.pick [0, 4, 5, 6, 7, 8] rfl
 refine nm_then ?_
 refine wp_if (T.e 0 rfl) ?_ ?_
 ·intro h4
  have e8 : 5 - OL.length = (5 - (OL ++ [p]).length) + 1 := by simp; omega
  rw [e8, spareR] at H
  refine Zsk ?_
  refine wp_block ?_
  refine Zsr ?_
  refine Zg3 (v1 := (.pointer (some ⟨g3, 6, none⟩))) T (Zq (Zrf (off := 6) rfl (T.e 5 rfl) (fun _ _ _ => by kernel_rfl))) rfl (Zo M 0 0 rfl rfl rfl rfl) rfl (Zr M 1 5 rfl rfl rfl rfl) rfl ?_; clear T ac; intro ac T
  refine Zl2 ?_
  refine ow_bs (e := 63) [.int .i64 p.l, .int .i64 p.w, .bool p.gr, .int .i64 p.pa] M T rfl rfl rfl rfl (.cons (T.e 0 rfl) .nil) (fun _ => by kernel_rfl) ?_; clear M T; intro g4 wc ac M T
  refine Zl2 ?_
  refine ow_appC ([(g4, .cells [.int .i64 p.l, .int .i64 p.w, .bool p.gr, .int .i64 p.pa]), (g3, .cells [.int .i64 s.lo, .int .i64 s.wi, .int .i64 s.a0, .int .i64 s.a1, .int .i64 s.c0, .int .i64 s.c1, .slice A3 OL.length c3]), (g2, .cells [.int .i64 p.l, .int .i64 p.w, .bool p.gr, .int .i64 p.pa]), (g1, .cells [.int .i64 s.lo, .int .i64 s.wi, .int .i64 s.a0, .int .i64 s.a1, .int .i64 s.c0, .int .i64 s.c1, .slice A s.ps.length d])]) Tryd.info63 hcl M (by first | rfl | simp) T rfl rfl rfl rfl Tryd.underlying24 rfl rfl rfl (by omega) (T.e 2 rfl) (T.e 0 rfl) (Zne (i := 0) rfl) rfl rfl ?_; clear M T; intro ga1 cga1 wc ac M T
  have e9 : OL.length + 1 = (OL ++ [p]).length := by simp
  have e8 : ((pc OL) ++ [.int .i64 p.l, .int .i64 p.w, .bool p.gr, .int .i64 p.pa]) = pc (OL ++ [p]) := by rw [← pc_snoc]
  rw [e9, e8] at M
  rw [e9] at T
  clear e9 e8
  refine lq (v := (.pointer (some ⟨g3, 6, none⟩))) T (Zrf (off := 6) rfl (T.e 10 rfl) (fun _ _ _ => by kernel_rfl)) ?_; clear T ac; intro ac T
  refine Zl2 ?_
  refine Zos M T rfl rfl (T.e 0 rfl) (T.e 1 rfl) rfl (.tail (.tail .head)) rfl (by simp) rfl (by kernel_rfl) ?_; clear M T; intro wc ac M T
  refine wpList_nil ?_
  replace T := T.pick [7, 8, 9, 10, 11] rfl
  replace M := M.mask [true, false, true, true, true] rfl
  refine nm_then ?_
  refine Zsr ?_
  refine Zg2 T (Zq (Zrr (Mem.nth M 1 rfl) rfl (T.e 4 rfl) rfl)) rfl (Zm 1 rfl rfl) rfl ?_; clear T ac; intro ac T
  refine Zl2 ?_
  refine Zoc (first := []) (cap := []) T rfl rfl rfl rfl evf (.cons (T.e 1 rfl) (.cons (T.e 0 rfl) .nil)) Tryd.func70 rfl rfl ?_
  refine Calls.mono (cut_any ({ s with ps := (OL ++ [p]) } : Sk) (some ⟨ga1, 0, none⟩) cga1 su _) ?_
  clear T; rintro e wc ⟨gau5, gcu5, rfl, N⟩ ac T
  obtain ⟨a, hae⟩ : ∃ q, q = cutA s su := ⟨_, rfl⟩
  obtain ⟨c, hce⟩ : ∃ q, q = cutC s su := ⟨_, rfl⟩
  have hA9 : cutA ({ s with ps := (OL ++ [p]) } : Sk) su = a := by rw [hae]; rfl
  have hC9 : cutC ({ s with ps := (OL ++ [p]) } : Sk) su = c := by rw [hce]; rfl
  rw [hA9, hC9] at N
  obtain ⟨ha, hc⟩ := cut_bd hsg su
  rw [← hae] at ha
  rw [← hce] at hc
  replace M := M.join N; clear N
  replace M := M.mask [true, true, true, true, true, true] rfl
  refine Zl2 ?_
  have hg9 : ∀ q ∈ OL ++ [p], q.good := fun q hq => by rcases List.mem_append.1 hq with h9 | h9; exact hgO q h9; rw [List.mem_singleton.1 h9]; exact hpg
  have hl9 : (OL ++ [p]).length ≤ 5 := by simp; omega
  have hcp9 : (OL ++ [p]).length ≤ cga1 := (Cl.row 63 4 ga1 _ _ (pc (OL ++ [p]))).capLe M (.cons _ (.cons _ (List.Sublist.cons_cons _ (List.nil_sublist _))))
  have hln9 : (OL ++ [p]).length = OL.length + 1 := by simp
  refine Zoc (first := []) (cap := []) T rfl rfl rfl rfl evf (.cons (T.e 0 rfl) .nil) Tryd.func84 rfl rfl ?_
  refine Calls.mono (shs_any ({ s with ps := (OL ++ [p]) } : Sk) (some ⟨ga1, 0, none⟩) cga1 a c gau5 gcu5 _ ha hc hg9 hl9 (by dsimp only; omega) (by dsimp only; omega) hcp9 (M.nth 0 rfl) (M.nth 1 rfl) (M.rdRow (Zne (i := 2) rfl)) (hT.mem0 M)) ?_
  clear T; rintro e wc ⟨bA, bc, bl, bn, bi, IRu6, rfl, hFd, hcp, SR, N⟩ ac T
  have hF9 : shF (skP s (OL ++ [p])) su = if bi = true then some (bl, bn) else none := by rw [hae, hce] at hFd; exact hFd
  have hok := okP_eq (n0 := shN s su) hF9
  replace M := M.call N.below
  clear N
  refine Zg7 T (Zq (Zrm rfl (T.e 0 rfl))) rfl (Ze 0 rfl rfl rfl) rfl (Ze 1 rfl rfl rfl) rfl (Ze 2 rfl rfl rfl) rfl (Za 2 rfl rfl) rfl (Za 2 rfl rfl) rfl (Za 2 rfl rfl) rfl ?_; clear T ac; intro ac T
  refine wpList_nil ?_
  replace T := T.pick [0, 1, 11, 12, 13, 14, 15] rfl
  replace M := M.mask [false, false, true, true, true, true] rfl
  refine nm_then ?_
  refine cut_seq (fun ac wc => Tm ac 82 [(2, .bool su), (3, .pointer (some ⟨g1, 0, none⟩)), (4, .pointer (some ⟨g2, 0, none⟩)), (11, .int .i64 (shN s su : Int)), (13, .pointer (some ⟨g3, 0, none⟩)), (66, .bool ((!bi) || (decide ((shN s su : Int) < (bn : Int)))))] ∧ Mem w noEx wc [(ga1, .row 63 4 (OL ++ [p]).length (pc (OL ++ [p])) cga1), (g3, .cells [.int .i64 s.lo, .int .i64 s.wi, .int .i64 s.a0, .int .i64 s.a1, .int .i64 s.c0, .int .i64 s.c1, .slice (some ⟨ga1, 0, none⟩) ((OL ++ [p]).length) cga1]), (g2, .cells [.int .i64 p.l, .int .i64 p.w, .bool p.gr, .int .i64 p.pa]), (g1, .cells [.int .i64 s.lo, .int .i64 s.wi, .int .i64 s.a0, .int .i64 s.a1, .int .i64 s.c0, .int .i64 s.c1, .slice A s.ps.length d])]) ?_ ?_
  ·refine wp_region_lit ?_
   refine Zg3 T (Zq (Zrm rfl (T.e 0 rfl))) rfl (fun _ T => Zq (rn_not rfl (T.e 0 rfl))) rfl (Zm 0 rfl rfl) rfl ?_; clear T ac; intro ac T
   rcases Bool.eq_false_or_eq_true (!bi) with h5 | h5
   ·refine Zg4 T (Zp (Zwn rfl rfl (T.e 0 rfl) h5)) rfl (fun _ T => Zp (Zwn rfl rfl (T.e 1 rfl) h5)) rfl (fun _ T => Zp (Zwn rfl rfl (T.e 2 rfl) h5)) rfl (fun _ T => Zq (Zr1 rfl (T.e 3 rfl) h5 evc)) rfl ?_; clear T ac; intro ac T
    refine wpList_nil ?_
    replace T := T.pick [0, 1, 2, 3, 9, 10, 11, 12, 13] rfl
    exact ⟨(T.pick (E' := [(2, .bool su), (3, .pointer (some ⟨g1, 0, none⟩)), (4, .pointer (some ⟨g2, 0, none⟩)), (11, .int .i64 (shN s su : Int)), (13, .pointer (some ⟨g3, 0, none⟩)), (66, .bool true)]) [4, 5, 6, 7, 8, 0] rfl).as (by (try rw [show (!bi) = true from h5]); (try rfl)), M.mask [true, true, true, true] rfl⟩
   refine Zg4 T (Zw (Zwy rfl rfl (T.e 0 rfl) h5) (Zrm rfl (T.e 4 rfl))) rfl (fun _ T => Zw (Zwy rfl rfl (T.e 1 rfl) h5) (Zrm rfl (T.e 9 rfl))) rfl (fun _ T => Zw (Zwy rfl rfl (T.e 2 rfl) h5) (rn_gtr rfl (T.e 1 rfl) (T.e 0 rfl))) rfl (fun _ T => Zq (Zr0 rfl (T.e 3 rfl) h5 (T.e 0 rfl))) rfl ?_; clear T ac; intro ac T
   refine wpList_nil ?_
   replace T := T.pick [0, 1, 2, 3, 9, 10, 11, 12, 13] rfl
   exact ⟨(T.pick (E' := [(2, .bool su), (3, .pointer (some ⟨g1, 0, none⟩)), (4, .pointer (some ⟨g2, 0, none⟩)), (11, .int .i64 (shN s su : Int)), (13, .pointer (some ⟨g3, 0, none⟩)), (66, .bool (decide ((shN s su : Int) < (bn : Int))))]) [4, 5, 6, 7, 8, 0] rfl).as (by (try rw [show (!bi) = false from h5]); (try rfl)), M.mask [true, true, true, true] rfl⟩
  clear T M
  rintro ac wc ⟨T, M⟩
  refine wp_cond_split (T.e 5 rfl) ?_ ?_
  ·intro h6
   (have h6' := h6; try simp only [Zb1, Zb2, Zb3, Zb4, Zb5, Zb6, Zb7] at h6')
   have hno : ¬ okP s su (OL ++ [p]) (shN s su) = true := by rw [hok]; cases bi <;> simp_all
   have hfin : spareR s p su (shN s su) (5 - s.ps.length) s.ps = OL.length := by rw [H, if_neg hno]
   refine Zsr ?_
   refine Zg7 (v1 := (.pointer (some ⟨g3, 6, none⟩))) (v3 := (.pointer (some ⟨g3, 6, none⟩))) T (Zq (Zrf (off := 6) rfl (T.e 4 rfl) (fun _ _ _ => by kernel_rfl))) rfl (Zo M 1 0 rfl rfl rfl rfl) rfl (Zf 6 6 rfl rfl) rfl (Zo M 1 0 rfl rfl rfl rfl) rfl (Zl Tryd.underlying24 0 rfl rfl) rfl (fun _ T => Zq (rn_sub rfl (T.e 0 rfl) evc (by omega))) rfl (fun _ T => Zq (rn_slice (size := 4) (l := 0) (h := OL.length) rfl Tryd.underlying24 (by kernel_rfl) (T.e 4 rfl) rfl ((T.e 0 rfl).trans (congrArg (Value.int .i64) (by simp))) (by omega) (by omega))) rfl ?_; clear T ac; intro ac T
   obtain ⟨Aq1, hAq1⟩ : ∃ q : Option Addr, q = (if cga1 = 0 then some ⟨ga1, 0, none⟩ else Option.map (fun x : Addr => x.add (0 * 4)) (some ⟨ga1, 0, none⟩)) := ⟨_, rfl⟩
   rw [← hAq1] at T
   refine lq (v := (.pointer (some ⟨g3, 6, none⟩))) T (Zrf (off := 6) rfl (T.e 11 rfl) (fun _ _ _ => by kernel_rfl)) ?_; clear T ac; intro ac T
   refine Zl2 ?_
   refine Zos M T rfl rfl (T.e 0 rfl) (T.e 1 rfl) rfl (.tail .head) rfl (by simp) rfl (by kernel_rfl) ?_; clear M T; intro wc ac M T
   refine wpList_nil ?_
   replace T := T.pick [9, 12] rfl
   replace M := M.mask [true, true, false, true] rfl
   refine nm_then ?_
   refine wp_exit ?_
   refine ex_miss rfl ?_
   refine Zet ?_
   refine ex_hit ?_
   refine nm_then ?_
   refine Zsr ?_
   refine Zg8 (v1 := (.pointer (some ⟨g3, 6, none⟩))) (v4 := (.pointer (some ⟨g1, 6, none⟩))) T (Zq (Zrf (off := 6) rfl (T.e 1 rfl) (fun _ _ _ => by kernel_rfl))) rfl (Zo M 1 0 rfl rfl rfl rfl) rfl (Zl Tryd.underlying24 0 rfl rfl) rfl (Zf 6 3 rfl rfl) rfl (Zo M 2 0 rfl rfl rfl rfl) rfl (Zl Tryd.underlying24 0 rfl rfl) rfl (fun _ T => Zq (rn_sub rfl (T.e 3 rfl) (T.e 0 rfl) (by omega))) rfl (Za 0 rfl rfl) rfl ?_; clear T ac; intro ac T
   refine lq T (Zra rfl evc) ?_; clear T ac; intro ac T
   refine wpList_nil ?_
   replace T := T.pick [0, 1] rfl
   replace M := M.mask [true, false, false] rfl
   refine Znr ?_
   refine rt_2 T rfl (T.e 1 rfl) (T.e 0 rfl) ?_
   have e9 : sprE s p su = 0 := (if_neg (by omega)).trans ((if_neg (by omega)).trans (by omega))
   have e8 : sprV s p su = (OL.length : Int) - (s.ps.length : Int) := by unfold sprV; rw [if_neg (by omega), hfin]
   rw [e9, e8]
   exact ⟨rfl, M.below⟩
  intro h6
  (have h6' := h6; try simp only [Zb1, Zb2, Zb3, Zb4, Zb5, Zb6, Zb7] at h6')
  have hyes : okP s su (OL ++ [p]) (shN s su) = true := by rw [hok]; cases bi <;> simp_all
  refine wp_skip ?_
  refine Znb ?_
  refine nm_then ?_
  exact ⟨_, by simp; omega, (OL ++ [p]), _, cga1, [(ga1, .row 63 4 (OL ++ [p]).length (pc (OL ++ [p])) cga1)], rfl, (by simp; omega), (by simp; omega), hg9, (by rw [H, if_pos hyes]), (Cl.row _ _ _ _ _ _), T.pick [0, 1, 2, 3, 4] rfl, M.perm [1, 2, 3, 0] rfl rfl⟩
 intro h4
 have hfin : spareR s p su (shN s su) (5 - s.ps.length) s.ps = OL.length := by rw [H, show 5 - OL.length = 0 by omega]; rfl
 refine wp_exit ?_
 refine Zet ?_
 refine Zet ?_
 refine ex_hit ?_
 refine nm_then ?_
 refine Zsr ?_
 refine Zg8 (v1 := (.pointer (some ⟨g3, 6, none⟩))) (v4 := (.pointer (some ⟨g1, 6, none⟩))) T (Zq (Zrf (off := 6) rfl (T.e 5 rfl) (fun _ _ _ => by kernel_rfl))) rfl (Zo M 0 0 rfl rfl rfl rfl) rfl (Zl Tryd.underlying24 0 rfl rfl) rfl (Zf 6 5 rfl rfl) rfl (Zo M 2 0 rfl rfl rfl rfl) rfl (Zl Tryd.underlying24 0 rfl rfl) rfl (fun _ T => Zq (rn_sub rfl (T.e 3 rfl) (T.e 0 rfl) (by omega))) rfl (Za 0 rfl rfl) rfl ?_; clear T ac; intro ac T
 refine lq T (Zra rfl evc) ?_; clear T ac; intro ac T
 refine wpList_nil ?_
 replace T := T.pick [0, 1] rfl
 replace M := M.mask [false, false, false] rfl
 refine Znr ?_
 refine rt_2 T rfl (T.e 1 rfl) (T.e 0 rfl) ?_
 have e9 : sprE s p su = 0 := (if_neg (by omega)).trans ((if_neg (by omega)).trans (by omega))
 have e8 : sprV s p su = (OL.length : Int) - (s.ps.length : Int) := by unfold sprV; rw [if_neg (by omega), hfin]
 rw [e9, e8]
 exact ⟨rfl, M.below⟩
theorem okP_iff {s : Sk} {su : Bool} {L : List Pt} {n : Nat} : okP s su L n = true ↔ ColP (Fit (cutA s su) (cutC s su)) s.lo s.wi L n := by
 have h1 := @shF_col (skP s L) su
 constructor
 ·intro h
  unfold okP at h
  cases hf : shF (skP s L) su with
  | none => rw [hf] at h; cases h
  | some y =>
   rw [hf] at h
   have h2 : y.2 ≤ n := of_decide_eq_true h
   exact (h1.2 y.1 y.2 hf).1.le h2
 ·intro h
  obtain ⟨l, m, h2, h3⟩ := shF_some (s := skP s L) (su := su) h
  unfold okP
  rw [h2]
  exact Zdt h3
theorem areasP_sum (a c : Int) : ∀ l : List Pt, areasP a c l = (l.map (areaP a c)).sum
 | [] => rfl
 | p :: l => by rw [areasP, areasP_sum a c l]; simp
theorem fit_area {a c lo wi : Int} {p : Pt} (hp : p.good) (ha : 0 ≤ a) (hc : 0 ≤ c) (h : Fit a c p lo wi) : areaP a c p ≤ lo * wi := by
 obtain ⟨t, h⟩ := h
 simp only [fitsT, Bool.and_eq_true, decide_eq_true_eq, Bool.not_eq_true'] at h
 obtain ⟨⟨h1, h2⟩, h3⟩ := h
 obtain ⟨g1, g2, -⟩ := hp
 have key : ∀ t, sizeL a c p t ≤ lo → sizeW a c p t ≤ wi → sizeL a c p t * sizeW a c p t ≤ lo * wi := fun t k1 k2 => by
  have n1 : 0 ≤ sizeL a c p t := by simp only [sizeL]; split <;> omega
  have n2 : 0 ≤ sizeW a c p t := by simp only [sizeW]; split <;> omega
  exact Int.mul_le_mul k1 k2 n2 (by omega)
 have hk := key t h1 h2
 unfold areaP
 cases t with
 | false => split <;> omega
 | true =>
  split
  ·rename_i hg
   rw [hg] at h3
   cases h3
  ·omega
theorem ColP.areas {a c lo wi : Int} {ps : List Pt} {n : Nat} (hg : ∀ p ∈ ps, p.good) (ha : 0 ≤ a) (hc : 0 ≤ c) (hlo : 0 ≤ lo) (hwi : 0 ≤ wi) (h : ColP (Fit a c) lo wi ps n) : areasP a c ps ≤ (n : Int) * (lo * wi) := by
 have h2 : ColP (fun p lo wi => Fit a c p lo wi ∧ p.good) lo wi (ps.map fun p => p) n := by
  refine ColP.map (fun p => p) (fun p _ q _ h1 h2 => ⟨h1, h2⟩) (fun xs hx hcut => ?_) h
  exact Cut.map (fun p => p) (fun p hp lo wi hf => ⟨hf, hg p (hx p hp)⟩) hcut
 rw [List.map_id'] at h2
 rw [areasP_sum]
 exact ColP.area (f := fun p lo wi => Fit a c p lo wi ∧ p.good) (fun p lo wi hf => fit_area hf.2 ha hc hf.1) hlo hwi h2
def stkS : Sk := ⟨6, 3, 0, 1, 0, 0, [⟨3, 2, false, 0⟩, ⟨2, 3, true, 0⟩, ⟨4, 1, false, 0⟩]⟩
def prdS : Sk := ⟨6, 3, 0, 1, 0, 0, [⟨3, 2, false, 1⟩, ⟨2, 3, true, 0⟩, ⟨4, 1, false, 1⟩]⟩
def shNC (s : Sk) (su : Bool) : Nat := match shFC s su with
 | some y => y.2
 | none => 0
theorem shNC_eq {s : Sk} {su : Bool} (h : skErr s = 0) (h5 : s.ps.length ≤ 5) : shN s su = shNC s su := by
 unfold shNC
 rw [shFC_eq h5]
 cases hf : shF s su with
 | none =>
  have hE : shE s su = 11 := by unfold shE; rw [if_neg (by rw [h]; decide), hf]; rfl
  unfold shN
  rw [if_neg (by rw [hE]; decide)]
 | some y =>
  have hE : shE s su = 0 := by unfold shE; rw [if_neg (by rw [h]; decide), hf]; rfl
  unfold shN
  rw [if_pos hE, hf]
  rfl
theorem st_err : skErr stkS = 0 := by decide +kernel
theorem pr_err : skErr prdS = 0 := by decide +kernel
theorem st_plan : planL stkS [0, 1] true = [⟨0, 0, true⟩, ⟨3, 0, false⟩] ∧ planE stkS [0, 1] true = 0 := by
 have h := planC_eq stkS [0, 1] true
 have h2 : planC stkS [0, 1] true = ([⟨0, 0, true⟩, ⟨3, 0, false⟩], 0) := by decide +kernel
 rw [h2] at h
 injection h with h3 h4
 exact ⟨h3.symm, h4.symm⟩
theorem pr_sh : shL prdS true = [0, 1, 0] ∧ shN prdS true = 2 ∧ shE prdS true = 0 := by
 have h2 : shFC prdS true = some ([0, 1, 0], 2) := by decide +kernel
 rw [shFC_eq (by decide)] at h2
 have hE : shE prdS true = 0 := by unfold shE; rw [if_neg (by rw [pr_err]; decide), h2]; rfl
 exact ⟨by unfold shL; rw [if_pos hE, h2]; rfl, by unfold shN; rw [if_pos hE, h2]; rfl, hE⟩
theorem st_sh : shN stkS true = 2 ∧ shE stkS true = 0 := by
 have h2 : (shFC stkS true).map (·.2) = some 2 := by decide +kernel
 rw [shFC_eq (by decide)] at h2
 obtain ⟨y, h3, h4⟩ : ∃ y, shF stkS true = some y ∧ y.2 = 2 := by
   cases h : shF stkS true with
   | none => rw [h] at h2; cases h2
   | some y => rw [h] at h2; exact ⟨y, rfl, by simpa using h2⟩
 have hE : shE stkS true = 0 := by unfold shE; rw [if_neg (by rw [st_err]; decide), h3]; rfl
 exact ⟨by unfold shN; rw [if_pos hE, h3]; exact h4, hE⟩
theorem st_wrs : wrsL stkS = [2, 1, 1] := by
 unfold wrsL
 rw [if_pos st_sh.2]
 have e : ∀ i, i < 3 → wrsV stkS i = if shNC (skW stkS i) true < 2 then 1 else 2 := fun i hi => by
  unfold wrsV
  rw [st_sh.1, shNC_eq (by
   have : ∀ i, i < 3 → skErr (skW stkS i) = 0 := by decide +kernel
   exact this i hi) (by
   have : ∀ i, i < 3 → (skW stkS i).ps.length ≤ 5 := by decide +kernel
   exact this i hi)]
 have e2 : (List.range stkS.ps.length).map (wrsV stkS) = [wrsV stkS 0, wrsV stkS 1, wrsV stkS 2] := rfl
 rw [e2, e 0 (by decide), e 1 (by decide), e 2 (by decide)]
 decide +kernel
theorem st_spr : sprV stkS ⟨5, 2, true, 0⟩ true = 1 ∧ sprE stkS ⟨5, 2, true, 0⟩ true = 0 := by
 have hp : ptErr ⟨5, 2, true, 0⟩ = 0 := by decide +kernel
 have hE : sprE stkS ⟨5, 2, true, 0⟩ true = 0 := by unfold sprE; rw [if_neg (by rw [st_err]; decide), if_neg (by rw [hp]; decide), st_sh.2]
 refine ⟨?_, hE⟩
 unfold sprV
 rw [if_neg (by rw [hE]; decide), st_sh.1]
 have e : spareR stkS ⟨5, 2, true, 0⟩ true 2 (5 - stkS.ps.length) stkS.ps = 4 := by
  show spareR stkS ⟨5, 2, true, 0⟩ true 2 2 stkS.ps = 4
  have y1 : okP stkS true (stkS.ps ++ [⟨5, 2, true, 0⟩]) 2 = true := by
   rw [okP_iff]
   refine ColP.of_will (l := [0, 0, 1, 1]) (by decide) (by decide) ?_
   have hw : willC (skP stkS (stkS.ps ++ [⟨5, 2, true, 0⟩])) true [0, 0, 1, 1] 2 = true := by decide +kernel
   rw [willC_eq (by decide)] at hw
   exact willB_iff.1 hw
  have y2 : ¬ okP stkS true (stkS.ps ++ [⟨5, 2, true, 0⟩] ++ [⟨5, 2, true, 0⟩]) 2 = true := by
   rw [okP_iff]
   intro h
   have := h.areas (by
    have : ∀ p ∈ stkS.ps ++ [⟨5, 2, true, 0⟩] ++ [⟨5, 2, true, 0⟩], ptErr p = 0 := by decide +kernel
    exact fun p hp => ptErr_iff.1 (this p hp)) (by decide) (by decide) (by decide) (by decide)
   revert this
   decide +kernel
  rw [spareR, if_pos y1, spareR, if_neg y2]
  rfl
 rw [e]
 rfl
theorem st_cuts : cutsV stkS [0, 2] [⟨0, 1, false⟩, ⟨0, 0, false⟩] true = true ∧ cutsE stkS [0, 2] 2 = 0 := by
 have hE : cutsE stkS [0, 2] 2 = 0 := by decide +kernel
 refine ⟨?_, hE⟩
 unfold cutsV
 rw [if_pos (show cutsE stkS [0, 2] ([⟨0, 1, false⟩, ⟨0, 0, false⟩] : List Spt).length = 0 from hE)]
 unfold cutsB
 have h2 : plP (cutA stkS true) (cutC stkS true) stkS.lo stkS.wi [] (gP stkS [0, 2]) [⟨0, 1, false⟩, ⟨0, 0, false⟩] = some [⟨0, 1, 4, 3, 0⟩, ⟨0, 0, 5, 1, 1⟩] := by decide +kernel
 rw [h2]
 show sawB _ _ = true
 rw [← sawC_eq 3 _ _ (by decide)]
 decide +kernel
theorem eqT30 {x y : Operand} {a0 a1 b0 b1 : Int} {a2 b2 : Bool} {w : World} : (do eqGuard .eql 30 x y (.agg #[.int .i64 a0, .int .i64 a1, .bool a2]) (.agg #[.int .i64 b0, .int .i64 b1, .bool b2]); binOp .eql 30 (.agg #[.int .i64 a0, .int .i64 a1, .bool a2]) (.agg #[.int .i64 b0, .int .i64 b1, .bool b2]) : Sem Value).run Tryd.prog w = .ok (.bool (decide (a0 = b0) && (decide (a1 = b1) && decide (a2 = b2)))) w := by
 go_simp
 (repeat' split) <;> simp_all
theorem take_same {α : Type} {l r : List α} {k : Nat} {p q : α} (h1 : l[k]? = some p) (h2 : r[k]? = some q) : l.take (k + 1) = r.take (k + 1) ↔ l.take k = r.take k ∧ p = q := by
 rw [List.take_add_one, List.take_add_one, h1, h2, Option.toList_some, Option.toList_some]
 constructor
 ·intro h
  have hl : (l.take k).length = (r.take k).length := by
   have := congrArg List.length h
   simpa using this
  obtain ⟨h3, h4⟩ := List.append_inj h hl
  exact ⟨h3, by simpa using h4⟩
 ·rintro ⟨h3, rfl⟩
  rw [h3]
theorem sameSpots_any (L : Option Addr) (c : Nat) (l : List Spt) (R : Option Addr) (d : Nat) (r : List Spt)  (w : World) (hL : Rd w w.heap.size 3 L l.length (tc l)) (hR : Rd w w.heap.size 3 R r.length (tc r)) (nL : l.length ≤ 1000000) (nR : r.length ≤ 1000000) :
   Calls Tryd.prog 31 #[.slice L l.length c, .slice R r.length d] w fun e w' => e = .returned (.bool (decide (l = r))) ∧ Below w.heap.size w w' := by
 obtain ⟨bL, oL, SL⟩ := Sp.old hL
 obtain ⟨bR, oR, SR⟩ := Sp.old hR
 refine Zpx noEx Tryd.func31 rfl 31 rfl [.slice L l.length c, .slice R r.length d] rfl rfl (Mem.init w _) ?_
 intro ac wc T M
 refine Zsr ?_
 refine lq T (Zra rfl evc) ?_; clear T ac; intro ac T
 refine wpList_nil ?_
 replace T := T.pick [1, 2] rfl
 refine nm_then ?_
 refine Zsr ?_
 refine Zg6 T (Zq (Zrm rfl (T.e 0 rfl))) rfl (Zl Tryd.underlying28 0 rfl rfl) rfl (Zm 3 rfl rfl) rfl (Zl Tryd.underlying28 0 rfl rfl) rfl (fun _ T => Zq (rn_eql rfl (T.e 2 rfl) (T.e 0 rfl))) rfl (Za 0 rfl rfl) rfl ?_; clear T ac; intro ac T
 refine wpList_nil ?_
 replace T := T.pick [0, 6, 7] rfl
 refine Zns ?_
 refine Zsr ?_
 refine lq T (Zra rfl evc) ?_; clear T ac; intro ac T
 refine Zln ?_
 refine wp_block ?_
 refine wp_loop_n (fun mz ac wc => ∃ (i : Nat) (sm : Bool), mz = l.length - i ∧ (i ≤ l.length) ∧ (sm = true ↔ l.length = r.length ∧ l.take i = r.take i) ∧ Tm ac 31 [(0, .slice L l.length c), (1, .slice R r.length d), (5, .bool sm), (6, .int .i64 (i : Int))] ∧ Mem w noEx wc []) ?_ ?_
 ·exact ⟨_, 0, _, rfl, (Nat.zero_le _), (by simp; omega), T.pick [2, 3, 1, 0] rfl, M.mask [] rfl⟩
 clear T M
 rintro mz ac wc ⟨i, sm, hmm1, hi, hs, T, M⟩
 refine wp_seq ?_
 refine cut_seq (fun ac wc => Tm ac 31 [(0, .slice L l.length c), (1, .slice R r.length d), (5, .bool sm), (6, .int .i64 (i : Int)), (18, .bool (sm && (decide ((i : Int) < ((l.length : Nat) : Int)))))] ∧ Mem w noEx wc []) ?_ ?_
 ·refine wp_region_lit ?_
  refine Zg2 T (Zq (Zrm rfl (T.e 2 rfl))) rfl (Zm 0 rfl rfl) rfl ?_; clear T ac; intro ac T
  rcases Bool.eq_false_or_eq_true sm with h1 | h1
  ·refine Zg5 T (Zw (Zwy rfl rfl (T.e 0 rfl) h1) (Zrm rfl (T.e 5 rfl))) rfl (fun _ T => Zw (Zwy rfl rfl (T.e 1 rfl) h1) (Zrm rfl (T.e 3 rfl))) rfl (fun _ T => Zw (Zwy rfl rfl (T.e 2 rfl) h1) (Zrl rfl Tryd.underlying28 (T.e 0 rfl))) rfl (fun _ T => Zw (Zwy rfl rfl (T.e 3 rfl) h1) (rn_lss rfl (T.e 2 rfl) (T.e 0 rfl))) rfl (fun _ T => Zq (Zr1 rfl (T.e 4 rfl) h1 (T.e 0 rfl))) rfl ?_; clear T ac; intro ac T
   refine wpList_nil ?_
   replace T := T.pick [0, 1, 2, 3, 4, 7, 8, 9, 10] rfl
   exact ⟨(T.pick (E' := [(0, .slice L l.length c), (1, .slice R r.length d), (5, .bool sm), (6, .int .i64 (i : Int)), (18, .bool (decide ((i : Int) < ((l.length : Nat) : Int))))]) [5, 6, 7, 8, 0] rfl).as (by (try rw [show sm = true from h1]); (try rfl)), M.mask [] rfl⟩
  refine Zg5 T (Zp (Zwn rfl rfl (T.e 0 rfl) h1)) rfl (fun _ T => Zp (Zwn rfl rfl (T.e 1 rfl) h1)) rfl (fun _ T => Zp (Zwn rfl rfl (T.e 2 rfl) h1)) rfl (fun _ T => Zp (Zwn rfl rfl (T.e 3 rfl) h1)) rfl (fun _ T => Zq (Zr0 rfl (T.e 4 rfl) h1 evc)) rfl ?_; clear T ac; intro ac T
  refine wpList_nil ?_
  replace T := T.pick [0, 1, 2, 3, 4, 7, 8, 9, 10] rfl
  exact ⟨(T.pick (E' := [(0, .slice L l.length c), (1, .slice R r.length d), (5, .bool sm), (6, .int .i64 (i : Int)), (18, .bool false)]) [5, 6, 7, 8, 0] rfl).as (by (try rw [show sm = false from h1]); (try rfl)), M.mask [] rfl⟩
 clear T M
 rintro ac wc ⟨T, M⟩
 refine wp_cond_split (T.e 4 rfl) ?_ ?_
 ·intro h2
  (have h2' := h2; try simp only [Zb1, Zb2, Zb3, Zb4, Zb5, Zb6, Zb7] at h2')
  have hlr : sm = true ∧ i < l.length := by simpa using h2
  have hlen := (hs.1 hlr.1).1
  have htk := (hs.1 hlr.1).2
  obtain ⟨p, hkp, -⟩ := tc_next (l := l) (k := i) (by omega)
  obtain ⟨q, hkq, -⟩ := tc_next (l := r) (k := i) (by omega)
  refine Zsk ?_
  refine wp_seq ?_
  refine wp_block ?_
  refine Zgs M (M.mask [] rfl) 10 (by kernel_rfl) rfl (by kernel_rfl) ?_
  clear M; intro wc M
  refine gq T 0 1 rfl (fun _ _ _ _ _ => (Zrm rfl (T.e 0 rfl))) ?_; clear T ac; intro ac T
  refine gq T 1 3 rfl (fun _ _ _ _ _ => (Zrm rfl (T.e 4 rfl))) ?_; clear T ac; intro ac T
  refine gq T 2 7 rfl (fun _ _ _ _ _ => (Zri (size := 3) i rfl (T.e 1 rfl) (T.e 0 rfl) ⟨_, Tryd.underlying28, by kernel_rfl⟩ rfl (by omega) (SL.at0 (by omega)))) ?_; clear T ac; intro ac T
  refine gq (v := (.agg #[.int .i64 p.x, .int .i64 p.y, .bool p.t])) T 3 15 rfl (fun B w' hD hl hS => (rn_rowat (Sp.tcR SL (show Mem w noEx w' _ from hS) (List.nil_sublist _) hkp) rfl (T.e 0 rfl) rfl)) ?_; clear T ac; intro ac T
  refine gq T 4 31 rfl (fun _ _ _ _ _ => (Zrm rfl (T.e 5 rfl))) ?_; clear T ac; intro ac T
  refine gq T 5 63 rfl (fun _ _ _ _ _ => (Zrm rfl (T.e 8 rfl))) ?_; clear T ac; intro ac T
  refine gq T 6 127 rfl (fun _ _ _ _ _ => (Zri (size := 3) i rfl (T.e 1 rfl) (T.e 0 rfl) ⟨_, Tryd.underlying28, by kernel_rfl⟩ rfl (by omega) (SR.at0 (by omega)))) ?_; clear T ac; intro ac T
  refine gq (v := (.agg #[.int .i64 q.x, .int .i64 q.y, .bool q.t])) T 7 255 rfl (fun B w' hD hl hS => (rn_rowat (Sp.tcR SR (show Mem w noEx w' _ from hS) (List.nil_sublist _) hkq) rfl (T.e 0 rfl) rfl)) ?_; clear T ac; intro ac T
  refine gq (v := (.bool ((decide (p.x = q.x)) && ((decide (p.y = q.y)) && (decide (p.t = q.t)))))) T 8 511 rfl (fun _ _ _ _ _ => (rn_bin rfl (T.e 4 rfl) (T.e 0 rfl) eqT30)) ?_; clear T ac; intro ac T
  refine g_q (v := (.bool ((decide (p.x = q.x)) && ((decide (p.y = q.y)) && (decide (p.t = q.t)))))) (T := T.pick [0, 1, 2, 3, 4, 5, 6, 7, 8, 9, 10, 12, 13] rfl) (i := 9) rfl (by kernel_rfl) (by kernel_rfl : (Zpb 10 511).setIfInBounds 9 true = Zpb 10 1023) si_U (fun _ _ _ h => h) rfl rfl rfl rfl (fun _ _ _ _ _ => (Zra rfl (T.e 0 rfl))) ?_; clear T ac; intro ac T
  refine Zgd (by kernel_rfl) ?_
  replace T := T.pick [0, 10, 11, 12] rfl
  refine Znb ?_
  refine nm_then ?_
  refine wp_region_lit ?_
  refine Zg2 T (Zq (Zrm rfl (T.e 3 rfl))) rfl (fun _ T => Zq (rn_add rfl (T.e 0 rfl) evc (by omega))) rfl ?_; clear T ac; intro ac T
  refine l_q (v := (.int .i64 ((i : Int) + 1))) (T.pick [0, 1, 2, 3, 4] rfl) rfl rfl rfl rfl (Zra rfl (T.e 0 rfl)) ?_; clear T ac; intro ac T
  refine wpList_nil ?_
  replace T := T.pick [0, 3, 4, 5] rfl
  refine nm_then ?_
  exact ⟨_, by omega, i + 1, ((decide (p.x = q.x)) && ((decide (p.y = q.y)) && (decide (p.t = q.t)))), rfl, (by omega), (by rw [take_same hkp hkq]; cases p; cases q; simp [hlen, htk]), T.pick [2, 3, 1, 0] rfl, M.mask [] rfl⟩
 intro h2
 (have h2' := h2; try simp only [Zb1, Zb2, Zb3, Zb4, Zb5, Zb6, Zb7] at h2')
 refine wp_exit ?_
 refine Zet ?_
 refine Zet ?_
 refine ex_hit ?_
 refine nm_then ?_
 refine Zsr ?_
 refine Zg2 T (Zq (Zrm rfl (T.e 2 rfl))) rfl (Za 0 rfl rfl) rfl ?_; clear T ac; intro ac T
 refine wpList_nil ?_
 replace T := T.pick [0] rfl
 refine Znr ?_
 refine rt_1 T rfl (T.e 0 rfl) ?_
 have e9 : sm = decide (l = r) := by
   rw [Bool.eq_iff_iff, decide_eq_true_eq]
   constructor
   · intro hsm
     obtain ⟨k1, k2⟩ := hs.1 hsm
     have hi9 : ¬ i < l.length := by simpa [hsm] using h2
     rwa [List.take_of_length_le (by omega), List.take_of_length_le (by omega)] at k2
   · rintro rfl
     exact hs.2 ⟨rfl, rfl⟩
 rw [e9]
 exact ⟨rfl, M.below⟩
def StockPost (w : World) (e : Ending) (w' : World) : Prop := ∃ g, e = .returned (.agg #[.int .i64 stkS.lo, .int .i64 stkS.wi, .int .i64 stkS.a0, .int .i64 stkS.a1, .int .i64 stkS.c0, .int .i64 stkS.c1, .slice (some ⟨g, 0, none⟩) stkS.ps.length 3]) ∧ Mem w noEx w' [(g, .cells [.int .i64 3, .int .i64 2, .bool false, .int .i64 0, .int .i64 2, .int .i64 3, .bool true, .int .i64 0, .int .i64 4, .int .i64 1, .bool false, .int .i64 0])]
def PairedPost (w : World) (e : Ending) (w' : World) : Prop := ∃ g, e = .returned (.agg #[.int .i64 prdS.lo, .int .i64 prdS.wi, .int .i64 prdS.a0, .int .i64 prdS.a1, .int .i64 prdS.c0, .int .i64 prdS.c1, .slice (some ⟨g, 0, none⟩) prdS.ps.length 3]) ∧ Mem w noEx w' [(g, .cells [.int .i64 3, .int .i64 2, .bool false, .int .i64 1, .int .i64 2, .int .i64 3, .bool true, .int .i64 0, .int .i64 4, .int .i64 1, .bool false, .int .i64 1])]
theorem to8_any (a b : Int) (w : World)  :
  Calls Tryd.prog 38 #[.int .i64 a, .int .i64 b] w fun e w' => e = .returned (.agg #[.int .i64 a, .int .i64 b]) ∧ Below w.heap.size w w' := by
 refine Zpx noEx Tryd.func38 rfl 8 rfl [.int .i64 a, .int .i64 b] rfl rfl (Mem.init w _) ?_
 intro ac wc T M
 refine Zsr ?_
 refine Zl2 ?_
 refine Zoa M T rfl rfl rfl rfl ?_; clear M T; intro g1 wc ac M T
 refine Zln ?_
 refine Zsr ?_
 refine Zg3 (v3 := (.agg #[.int .i64 a, .int .i64 b])) T (Zq (Zrm rfl (T.e 1 rfl))) rfl (Zm 3 rfl rfl) rfl (fun _ T => Zq (rn_build rfl (.cons (T.e 1 rfl) (.cons (T.e 0 rfl) .nil)) (fun _ => by kernel_rfl))) rfl ?_; clear T ac; intro ac T
 refine Zl2 ?_
 refine Zos M T rfl rfl (T.e 3 rfl) (T.e 0 rfl) rfl .head rfl (by simp) rfl (by kernel_rfl) ?_; clear M T; intro wc ac M T
 refine wpList_nil ?_
 replace T := T.pick [3] rfl
 refine Znr ?_
 refine rt_c M T rfl (T.e 0 rfl) (Zne (i := 0) rfl) rfl ?_
 exact ⟨rfl, M.below⟩
theorem spot8_any (x y : Int) (t : Bool) (w : World)  :
  Calls Tryd.prog 32 #[.int .i64 x, .int .i64 y, .bool t] w fun e w' => e = .returned (.agg #[.int .i64 x, .int .i64 y, .bool t]) ∧ Below w.heap.size w w' := by
 refine Zpx noEx Tryd.func32 rfl 11 rfl [.int .i64 x, .int .i64 y, .bool t] rfl rfl (Mem.init w _) ?_
 intro ac wc T M
 refine Zsr ?_
 refine Zl2 ?_
 refine Zoa M T rfl rfl rfl rfl ?_; clear M T; intro g1 wc ac M T
 refine Zln ?_
 refine Zsr ?_
 refine Zg4 (v4 := (.agg #[.int .i64 x, .int .i64 y, .bool t])) T (Zq (Zrm rfl (T.e 1 rfl))) rfl (Zm 3 rfl rfl) rfl (Zm 5 rfl rfl) rfl (fun _ T => Zq (rn_build rfl (.cons (T.e 2 rfl) (.cons (T.e 1 rfl) (.cons (T.e 0 rfl) .nil))) (fun _ => by kernel_rfl))) rfl ?_; clear T ac; intro ac T
 refine Zl2 ?_
 refine Zos M T rfl rfl (T.e 4 rfl) (T.e 0 rfl) rfl .head rfl (by simp) rfl (by kernel_rfl) ?_; clear M T; intro wc ac M T
 refine wpList_nil ?_
 replace T := T.pick [4] rfl
 refine Znr ?_
 refine rt_c M T rfl (T.e 0 rfl) (Zne (i := 0) rfl) rfl ?_
 exact ⟨rfl, M.below⟩
theorem stock_any  (w : World)  :
  Calls Tryd.prog 62 #[] w (StockPost w) := by
 refine Zpx noEx Tryd.func62 rfl 7 rfl [] rfl rfl (Mem.init w _) ?_
 intro ac wc T M
 refine Zsr ?_
 refine Zl2 ?_
 refine Zoa M T rfl rfl rfl rfl ?_; clear M T; intro g1 wc ac M T
 refine Zln ?_
 refine Zsr ?_
 refine Zl2 ?_
 refine Zoc (first := []) (cap := []) T rfl rfl rfl rfl evf (.cons evc (.cons evc .nil)) Tryd.func38 rfl rfl ?_
 refine Calls.mono (to8_any 0 1 _) ?_
 clear T; rintro e wc ⟨rfl, hb⟩ ac T
 replace M := M.call hb; clear hb
 refine Zg3 (v1 := (.agg #[.int .i64 3, .int .i64 2, .bool false, .int .i64 0])) (v2 := (.agg #[.int .i64 2, .int .i64 3, .bool true, .int .i64 0])) (v3 := (.agg #[.int .i64 4, .int .i64 1, .bool false, .int .i64 0])) T (Zq (rn_build rfl (.cons evc (.cons evc .nil)) (fun _ => by kernel_rfl))) rfl (fun _ T => Zq (rn_build rfl (.cons evc (.cons evc (.cons evc .nil))) (fun _ => by kernel_rfl))) rfl (fun _ T => Zq (rn_build rfl (.cons evc (.cons evc .nil)) (fun _ => by kernel_rfl))) rfl ?_; clear T ac; intro ac T
 refine Zl2 ?_
 refine ow_bs (e := 63) [.int .i64 3, .int .i64 2, .bool false, .int .i64 0, .int .i64 2, .int .i64 3, .bool true, .int .i64 0, .int .i64 4, .int .i64 1, .bool false, .int .i64 0] M T rfl rfl rfl rfl (.cons (T.e 2 rfl) (.cons (T.e 1 rfl) (.cons (T.e 0 rfl) .nil))) (fun _ => by kernel_rfl) ?_; clear M T; intro g2 wc ac M T
 refine lq (v := (.agg #[.int .i64 6, .int .i64 3, .int .i64 0, .int .i64 1, .int .i64 0, .int .i64 0, .slice (some ⟨g2, 0, none⟩) 3 3])) T (rn_build rfl (.cons evc (.cons evc (.cons (T.e 4 rfl) (.cons (T.e 0 rfl) .nil)))) (fun _ => by kernel_rfl)) ?_; clear T ac; intro ac T
 refine Zl2 ?_
 refine Zos M T rfl rfl (T.e 6 rfl) (T.e 0 rfl) rfl (.tail .head) rfl (by simp) rfl (by kernel_rfl) ?_; clear M T; intro wc ac M T
 refine wpList_nil ?_
 replace T := T.pick [6] rfl
 refine Znr ?_
 refine rt_c M T rfl (T.e 0 rfl) (Zne (i := 1) rfl) rfl ?_
 exact ⟨g2, rfl, M.mask [true, false] rfl⟩
theorem paired_any  (w : World)  :
  Calls Tryd.prog 63 #[] w (PairedPost w) := by
 refine Zpx noEx Tryd.func63 rfl 12 rfl [] rfl rfl (Mem.init w _) ?_
 intro ac wc T M
 refine Zsr ?_
 refine Zl2 ?_
 refine Zoa M T rfl rfl rfl rfl ?_; clear M T; intro g1 wc ac M T
 refine Zln ?_
 refine Zsr ?_
 refine Zl2 ?_
 refine Zoc (first := []) (cap := []) T rfl rfl rfl rfl evf .nil Tryd.func62 rfl rfl ?_
 refine Calls.mono (stock_any _) ?_
 clear T; rintro e wc ⟨gsu1, rfl, N⟩ ac T
 replace M := M.join N; clear N
 replace M := M.mask [true, true] rfl
 refine Zl2 ?_
 refine Zoa M T rfl rfl rfl rfl ?_; clear M T; intro g2 wc ac M T
 refine Zl2 ?_
 refine Zos M T rfl rfl (T.e 0 rfl) (T.e 1 rfl) rfl .head rfl (by simp) rfl (by kernel_rfl) ?_; clear M T; intro wc ac M T
 refine wpList_nil ?_
 replace T := T.pick [0, 2] rfl
 refine Zns ?_
 refine Zgs M (M.perm [0, 2] rfl rfl) 10 (by kernel_rfl) rfl (by kernel_rfl) ?_
 clear M; intro wc M
 refine gq (v := (.pointer (some ⟨g2, 6, none⟩))) T 0 1 rfl (fun _ _ _ _ _ => (Zrf (off := 6) rfl (T.e 0 rfl) (fun _ _ _ => by kernel_rfl))) ?_; clear T ac; intro ac T
 refine gq T 1 3 rfl (fun B w' hD hl hS => (Zro (Mem.nth (show Mem w noEx w' _ from hS) 0 rfl) rfl (T.e 0 rfl) rfl)) ?_; clear T ac; intro ac T
 refine gq (v := (.pointer (some ⟨g2, 6, none⟩))) T 2 7 rfl (fun _ _ _ _ _ => (Zrf (off := 6) rfl (T.e 2 rfl) (fun _ _ _ => by kernel_rfl))) ?_; clear T ac; intro ac T
 refine gq T 3 15 rfl (fun B w' hD hl hS => (Zro (Mem.nth (show Mem w noEx w' _ from hS) 0 rfl) rfl (T.e 0 rfl) rfl)) ?_; clear T ac; intro ac T
 refine gq (v := (.pointer (some ⟨gsu1, 0, none⟩))) T 4 31 rfl (fun _ _ _ _ _ => (Zri (size := 4) 0 rfl (T.e 2 rfl) evc ⟨_, Tryd.underlying24, by kernel_rfl⟩ rfl (by decide) rfl)) ?_; clear T ac; intro ac T
 refine gq (v := (.pointer (some ⟨gsu1, 3, none⟩))) T 5 63 rfl (fun _ _ _ _ _ => (Zrf (off := 3) rfl (T.e 0 rfl) (fun _ _ _ => by kernel_rfl))) ?_; clear T ac; intro ac T
 refine gw 6 127 ?_; intro K hK
 refine Zos M T rfl rfl (T.e 0 rfl) evc rfl (.tail .head) rfl (by simp) rfl (by kernel_rfl) ?_; clear M T; intro wc ac M T
 refine Zso hK _ _ (M.mask [true, false, true] rfl) ?_; clear hK K
 refine gq (v := (.pointer (some ⟨gsu1, 8, none⟩))) T 7 255 rfl (fun _ _ _ _ _ => (Zri (size := 4) 2 rfl (T.e 2 rfl) evc ⟨_, Tryd.underlying24, by kernel_rfl⟩ rfl (by decide) rfl)) ?_; clear T ac; intro ac T
 refine gq (v := (.pointer (some ⟨gsu1, 11, none⟩))) T 8 511 rfl (fun _ _ _ _ _ => (Zrf (off := 3) rfl (T.e 0 rfl) (fun _ _ _ => by kernel_rfl))) ?_; clear T ac; intro ac T
 refine gw 9 1023 ?_; intro K hK
 refine Zos M T rfl rfl (T.e 0 rfl) evc rfl (.tail .head) rfl (by simp) rfl (by kernel_rfl) ?_; clear M T; intro wc ac M T
 refine Zso hK _ _ (M.mask [true, false, true] rfl) ?_; clear hK K
 refine Zgd (by kernel_rfl) ?_
 replace T := T.pick [8, 9] rfl
 refine nm_then ?_
 refine Zsr ?_
 refine lq T (Zrr (Mem.nth M 0 rfl) rfl (T.e 0 rfl) rfl) ?_; clear T ac; intro ac T
 refine Zl2 ?_
 refine Zos M T rfl rfl (T.e 2 rfl) (T.e 0 rfl) rfl (.tail (.tail .head)) rfl (by simp) rfl (by kernel_rfl) ?_; clear M T; intro wc ac M T
 refine wpList_nil ?_
 replace T := T.pick [2] rfl
 replace M := M.mask [false, true, true] rfl
 refine Znr ?_
 refine rt_c M T rfl (T.e 0 rfl) (Zne (i := 1) rfl) rfl ?_
 exact ⟨gsu1, rfl, M.mask [true, false] rfl⟩
theorem sawn8_any  (w : World) (hT : TabW w) :
  Calls Tryd.prog 17 #[] w fun e w' => e = .returned (.bool true) ∧ Below w.heap.size w w' := by
 refine Zpx noEx Tryd.func17 rfl 90 rfl [] rfl rfl (Mem.init w _) ?_
 intro ac wc T M
 refine Zsr ?_
 refine lq T (Zra rfl evc) ?_; clear T ac; intro ac T
 refine wpList_nil ?_
 replace T := T.pick [] rfl
 refine nm_then ?_
 refine Zsr ?_
 refine Zl2 ?_
 refine Zoc (first := []) (cap := []) T rfl rfl rfl rfl evf .nil Tryd.func62 rfl rfl ?_
 refine Calls.mono (stock_any _) ?_
 clear T; rintro e wc ⟨gsu1, rfl, N⟩ ac T
 replace M := M.join N; clear N
 replace M := M.mask [true] rfl
 refine Zl2 ?_
 refine ow_bs (e := 3) [.int .i64 0, .int .i64 1] M T rfl rfl rfl rfl (.cons evc (.cons evc .nil)) (fun _ => by kernel_rfl) ?_; clear M T; intro g1 wc ac M T
 refine Zl2 ?_
 refine Zoc (first := []) (cap := []) T rfl rfl rfl rfl evf (.cons (T.e 1 rfl) (.cons (T.e 0 rfl) (.cons evc .nil))) Tryd.func33 rfl rfl ?_
 refine Calls.mono (Plan_any stkS (some ⟨gsu1, 0, none⟩) 3 (some ⟨g1, 0, none⟩) 2 ([0, 1]) true _ (M.rdOwn (Zne (i := 1) rfl) rfl rfl) (M.rdOwn (Zne (i := 0) rfl) rfl rfl) (by decide) (by decide) (by decide) (hT.mem M (fun h => h))) ?_
 clear T; rintro e wc ⟨APu2, cPu2, IPu2, rfl, hcpPu2, SVPu2, N⟩ ac T
 rw [st_plan.1] at SVPu2 hcpPu2
 rw [st_plan.1, st_plan.2] at T
 obtain ⟨bAPu2, oAPu2, SVPu2⟩ := SVPu2
 have SAPu2 := SVPu2 w noEx
 replace M := (M.join N).swapI
 clear N
 replace M : Mem w noEx wc ((g1, .cells [.int .i64 0, .int .i64 1]) :: (gsu1, .cells [.int .i64 3, .int .i64 2, .bool false, .int .i64 0, .int .i64 2, .int .i64 3, .bool true, .int .i64 0, .int .i64 4, .int .i64 1, .bool false, .int .i64 0]) :: IPu2) := M
 refine Zg5 T (Zq (Zrm rfl (T.e 0 rfl))) rfl (Ze 0 rfl rfl rfl) rfl (Ze 1 rfl rfl rfl) rfl (Za 1 rfl rfl) rfl (Za 1 rfl rfl) rfl ?_; clear T ac; intro ac T
 refine wpList_nil ?_
 replace T := T.pick [0, 1] rfl
 replace M := M.mask [false, false] rfl
 refine nm_then ?_
 refine Zsr ?_
 refine Zl2 ?_
 refine Zoc (first := []) (cap := []) T rfl rfl rfl rfl evf .nil Tryd.func63 rfl rfl ?_
 refine Calls.mono (paired_any _) ?_
 clear T; rintro e wc ⟨gsu3, rfl, N⟩ ac T
 replace M := M.join N; clear N
 replace M := M.mask [true] rfl
 refine Zl2 ?_
 refine Zoc (first := []) (cap := []) T rfl rfl rfl rfl evf (.cons (T.e 0 rfl) (.cons evc .nil)) Tryd.func34 rfl rfl ?_
 refine Calls.mono (Sheets_any prdS (some ⟨gsu3, 0, none⟩) 3 true _ (M.rdOwn (Zne (i := 0) rfl) rfl rfl) (by decide) (by decide) (hT.mem M (fun h => h))) ?_
 clear T; rintro e wc ⟨ASu4, cSu4, ISu4, rfl, hcpSu4, SVSu4, N⟩ ac T
 rw [pr_sh.1] at SVSu4 hcpSu4
 rw [pr_sh.1, pr_sh.2.1, pr_sh.2.2] at T
 obtain ⟨bASu4, oASu4, SVSu4⟩ := SVSu4
 have SASu4 := SVSu4 w noEx
 replace M := (M.join N).swapI
 clear N
 replace M : Mem w noEx wc ((gsu3, .cells [.int .i64 3, .int .i64 2, .bool false, .int .i64 1, .int .i64 2, .int .i64 3, .bool true, .int .i64 0, .int .i64 4, .int .i64 1, .bool false, .int .i64 1]) :: (IPu2 ++ ISu4)) := M
 refine Zg7 T (Zq (Zrm rfl (T.e 0 rfl))) rfl (Ze 0 rfl rfl rfl) rfl (Ze 1 rfl rfl rfl) rfl (Ze 2 rfl rfl rfl) rfl (Za 2 rfl rfl) rfl (Za 2 rfl rfl) rfl (Za 2 rfl rfl) rfl ?_; clear T ac; intro ac T
 refine wpList_nil ?_
 replace T := T.pick [0, 1, 2, 9, 10] rfl
 replace M := M.mask [false] rfl
 refine nm_then ?_
 refine Zsr ?_
 refine Zl2 ?_
 refine Zoc (first := []) (cap := []) T rfl rfl rfl rfl evf .nil Tryd.func62 rfl rfl ?_
 refine Calls.mono (stock_any _) ?_
 clear T; rintro e wc ⟨gsu5, rfl, N⟩ ac T
 replace M := M.join N; clear N
 replace M := M.mask [true] rfl
 refine Zl2 ?_
 refine Zoc (first := []) (cap := []) T rfl rfl rfl rfl evf (.cons (T.e 0 rfl) .nil) Tryd.func43 rfl rfl ?_
 refine Calls.mono (Worst_any stkS (some ⟨gsu5, 0, none⟩) 3 _ (M.rdOwn (Zne (i := 0) rfl) rfl rfl) (by decide) (by decide) (hT.mem M (fun h => h))) ?_
 clear T; rintro e wc ⟨AWu6, cWu6, IWu6, rfl, hcpWu6, SVWu6, N⟩ ac T
 rw [st_wrs] at SVWu6 hcpWu6
 rw [st_wrs, st_sh.2] at T
 obtain ⟨bAWu6, oAWu6, SVWu6⟩ := SVWu6
 have SAWu6 := SVWu6 w noEx
 replace M := (M.join N).swapI
 clear N
 replace M : Mem w noEx wc ((gsu5, .cells [.int .i64 3, .int .i64 2, .bool false, .int .i64 0, .int .i64 2, .int .i64 3, .bool true, .int .i64 0, .int .i64 4, .int .i64 1, .bool false, .int .i64 0]) :: (IPu2 ++ ISu4 ++ IWu6)) := M
 refine Zg5 T (Zq (Zrm rfl (T.e 0 rfl))) rfl (Ze 0 rfl rfl rfl) rfl (Ze 1 rfl rfl rfl) rfl (Za 1 rfl rfl) rfl (Za 1 rfl rfl) rfl ?_; clear T ac; intro ac T
 refine wpList_nil ?_
 replace T := T.pick [0, 1, 7, 8, 9, 10, 11] rfl
 replace M := M.mask [false] rfl
 replace M : Mem w noEx wc ((IPu2 ++ ISu4 ++ IWu6)) := M
 refine nm_then ?_
 refine Zsr ?_
 refine Zl2 ?_
 refine Zoc (first := []) (cap := []) T rfl rfl rfl rfl evf .nil Tryd.func62 rfl rfl ?_
 refine Calls.mono (stock_any _) ?_
 clear T; rintro e wc ⟨gsu7, rfl, N⟩ ac T
 replace M := M.join N; clear N
 replace M := M.mask [true] rfl
 refine lq (v := (.agg #[.int .i64 5, .int .i64 2, .bool true, .int .i64 0])) T (rn_build rfl (.cons evc (.cons evc (.cons evc .nil))) (fun _ => by kernel_rfl)) ?_; clear T ac; intro ac T
 refine Zl2 ?_
 refine Zoc (first := []) (cap := []) T rfl rfl rfl rfl evf (.cons (T.e 1 rfl) (.cons (T.e 0 rfl) (.cons evc .nil))) Tryd.func41 rfl rfl ?_
 refine Calls.mono (Spare_any stkS (some ⟨gsu7, 0, none⟩) 3 (⟨5, 2, true, 0⟩ : Pt) true _ (M.rdOwn (Zne (i := 0) rfl) rfl rfl) (by decide) (by decide) (hT.mem M (fun h => h))) ?_
 clear T; rintro e wc ⟨rfl, hb⟩ ac T
 rw [st_spr.1, st_spr.2] at T
 replace M := M.call hb; clear hb
 refine Zg5 T (Zq (Zrm rfl (T.e 0 rfl))) rfl (Ze 0 rfl rfl rfl) rfl (Ze 1 rfl rfl rfl) rfl (Za 1 rfl rfl) rfl (Za 1 rfl rfl) rfl ?_; clear T ac; intro ac T
 refine wpList_nil ?_
 replace T := T.pick [0, 1, 8, 9, 10, 11, 12, 13, 14] rfl
 replace M := M.mask [false] rfl
 replace M : Mem w noEx wc ((IPu2 ++ ISu4 ++ IWu6)) := M
 refine nm_then ?_
 refine Zsr ?_
 refine Zl2 ?_
 refine Zoc (first := []) (cap := []) T rfl rfl rfl rfl evf .nil Tryd.func62 rfl rfl ?_
 refine Calls.mono (stock_any _) ?_
 clear T; rintro e wc ⟨gsu9, rfl, N⟩ ac T
 replace M := M.join N; clear N
 replace M := M.mask [true] rfl
 refine Zl2 ?_
 refine ow_bs (e := 3) [.int .i64 0, .int .i64 2] M T rfl rfl rfl rfl (.cons evc (.cons evc .nil)) (fun _ => by kernel_rfl) ?_; clear M T; intro g2 wc ac M T
 refine Zl2 ?_
 refine Zoc (first := []) (cap := []) T rfl rfl rfl rfl evf (.cons evc (.cons evc (.cons evc .nil))) Tryd.func32 rfl rfl ?_
 refine Calls.mono (spot8_any 0 1 false _) ?_
 clear T; rintro e wc ⟨rfl, hb⟩ ac T
 replace M := M.call hb; clear hb
 refine Zl2 ?_
 refine Zoc (first := []) (cap := []) T rfl rfl rfl rfl evf (.cons evc (.cons evc (.cons evc .nil))) Tryd.func32 rfl rfl ?_
 refine Calls.mono (spot8_any 0 0 false _) ?_
 clear T; rintro e wc ⟨rfl, hb⟩ ac T
 replace M := M.call hb; clear hb
 refine Zl2 ?_
 refine ow_bs (e := 30) [.int .i64 0, .int .i64 1, .bool false, .int .i64 0, .int .i64 0, .bool false] M T rfl rfl rfl rfl (.cons (T.e 1 rfl) (.cons (T.e 0 rfl) .nil)) (fun _ => by kernel_rfl) ?_; clear M T; intro g3 wc ac M T
 refine Zl2 ?_
 refine Zoc (first := []) (cap := []) T rfl rfl rfl rfl evf (.cons (T.e 4 rfl) (.cons (T.e 3 rfl) (.cons (T.e 0 rfl) (.cons evc .nil)))) Tryd.func27 rfl rfl ?_
 refine Calls.mono (Cuts_any stkS (some ⟨gsu9, 0, none⟩) 3 (some ⟨g2, 0, none⟩) 2 ([0, 2]) (some ⟨g3, 0, none⟩) 2 ([⟨0, 1, false⟩, ⟨0, 0, false⟩] : List Spt) true _ (M.rdOwn (Zne (i := 2) rfl) rfl rfl) (M.rdOwn (Zne (i := 1) rfl) rfl rfl) (by decide) (by decide) (by decide) (M.rdOwn (Zne (i := 0) rfl) rfl rfl) (by decide)) ?_
 clear T; rintro e wc ⟨rfl, hb⟩ ac T
 rw [st_cuts.1, show cutsE stkS [0, 2] ([⟨0, 1, false⟩, ⟨0, 0, false⟩] : List Spt).length = 0 from st_cuts.2] at T
 replace M := M.call hb; clear hb
 refine Zg5 T (Zq (Zrm rfl (T.e 0 rfl))) rfl (Ze 0 rfl rfl rfl) rfl (Ze 1 rfl rfl rfl) rfl (Za 1 rfl rfl) rfl (Za 1 rfl rfl) rfl ?_; clear T ac; intro ac T
 refine wpList_nil ?_
 replace T := T.pick [0, 1, 11, 12, 13, 14, 15, 16, 17, 18, 19] rfl
 replace M := M.mask [false, false, false] rfl
 replace M : Mem w noEx wc ((IPu2 ++ ISu4 ++ IWu6)) := M
 refine nm_then ?_
 refine Zsr ?_
 refine Zg8 (v2 := (.bool true)) (v5 := (.bool true)) T (Zq (Zrm rfl (T.e 9 rfl))) rfl (fun _ T => Zq (Zrq (rn_eql rfl (T.e 0 rfl) evc) (by simp))) rfl (Zm 0 rfl rfl) rfl (fun _ T => Zw (Zwy rfl rfl (T.e 0 rfl) rfl) (Zrm rfl (T.e 9 rfl))) rfl (fun _ T => Zw (Zwy rfl rfl (T.e 1 rfl) rfl) (Zrq (rn_eql rfl (T.e 0 rfl) evc) (by simp))) rfl (fun _ T => Zq (Zr1 rfl (T.e 2 rfl) rfl (T.e 0 rfl))) rfl (Zm 0 rfl rfl) rfl (fun _ T => Zw (Zwy rfl rfl (T.e 0 rfl) rfl) (Zrm rfl (T.e 11 rfl))) rfl ?_; clear T ac; intro ac T
 refine Zg8 (v1 := (.bool true)) (v5 := (.bool true)) T (Zw (Zwy rfl rfl (T.e 1 rfl) rfl) (Zrq (rn_eql rfl (T.e 0 rfl) evc) (by simp))) rfl (fun _ T => Zq (Zr1 rfl (T.e 2 rfl) rfl (T.e 0 rfl))) rfl (Zm 0 rfl rfl) rfl (fun _ T => Zw (Zwy rfl rfl (T.e 0 rfl) rfl) (Zrm rfl (T.e 13 rfl))) rfl (fun _ T => Zw (Zwy rfl rfl (T.e 1 rfl) rfl) (Zrq (rn_eql rfl (T.e 0 rfl) evc) (by simp))) rfl (fun _ T => Zq (Zr1 rfl (T.e 2 rfl) rfl (T.e 0 rfl))) rfl (Zm 0 rfl rfl) rfl (fun _ T => Zw (Zwy rfl rfl (T.e 0 rfl) rfl) (Zrm rfl (T.e 15 rfl))) rfl ?_; clear T ac; intro ac T
 refine Zg8 (v1 := (.bool true)) (v5 := (.bool true)) T (Zw (Zwy rfl rfl (T.e 1 rfl) rfl) (Zrq (rn_eql rfl (T.e 0 rfl) evc) (by simp))) rfl (fun _ T => Zq (Zr1 rfl (T.e 2 rfl) rfl (T.e 0 rfl))) rfl (Zm 0 rfl rfl) rfl (fun _ T => Zw (Zwy rfl rfl (T.e 0 rfl) rfl) (Zrm rfl (T.e 26 rfl))) rfl (fun _ T => Zw (Zwy rfl rfl (T.e 1 rfl) rfl) (Zrq (rn_eql rfl (T.e 0 rfl) evc) (by simp))) rfl (fun _ T => Zq (Zr1 rfl (T.e 2 rfl) rfl (T.e 0 rfl))) rfl (Zm 0 rfl rfl) rfl (fun _ T => Zw (Zwy rfl rfl (T.e 0 rfl) rfl) (Zrm rfl (T.e 26 rfl))) rfl ?_; clear T ac; intro ac T
 refine Zg7 (v1 := (.bool true)) T (Zw (Zwy rfl rfl (T.e 1 rfl) rfl) (Zrq (rn_eql rfl (T.e 0 rfl) evc) (by simp))) rfl (fun _ T => Zq (Zr1 rfl (T.e 2 rfl) rfl (T.e 0 rfl))) rfl (Zm 0 rfl rfl) rfl (fun _ T => Zw (Zwy rfl rfl (T.e 0 rfl) rfl) (Zrm rfl (T.e 28 rfl))) rfl (fun _ T => Zq (Zr1 rfl (T.e 1 rfl) rfl (T.e 0 rfl))) rfl (Zm 0 rfl rfl) rfl (fun _ T => Zw (Zwy rfl rfl (T.e 0 rfl) rfl) (Zrm rfl (T.e 40 rfl))) rfl ?_; clear T ac; intro ac T
 refine l_w (Zwy rfl rfl (T.e 1 rfl) rfl) ?_; intro K hK
 refine Zoc (first := []) (cap := []) T rfl rfl rfl rfl evf (.cons evc (.cons evc (.cons evc .nil))) Tryd.func32 rfl rfl ?_
 refine Calls.mono (spot8_any 0 0 true _) ?_
 clear T; rintro e wc ⟨rfl, hb⟩ ac T
 replace M := M.call hb; clear hb
 refine Zso hK _ _ ?_; clear hK K
 refine l_w (Zwy rfl rfl (T.e 2 rfl) rfl) ?_; intro K hK
 refine Zoc (first := []) (cap := []) T rfl rfl rfl rfl evf (.cons evc (.cons evc (.cons evc .nil))) Tryd.func32 rfl rfl ?_
 refine Calls.mono (spot8_any 3 0 false _) ?_
 clear T; rintro e wc ⟨rfl, hb⟩ ac T
 replace M := M.call hb; clear hb
 refine Zso hK _ _ ?_; clear hK K
 refine l_w (Zwy rfl rfl (T.e 3 rfl) rfl) ?_; intro K hK
 refine ow_bs (e := 30) [.int .i64 0, .int .i64 0, .bool true, .int .i64 3, .int .i64 0, .bool false] M T rfl rfl rfl rfl (.cons (T.e 1 rfl) (.cons (T.e 0 rfl) .nil)) (fun _ => by kernel_rfl) ?_; clear M T; intro g4 wc ac M T
 refine Zso hK _ _ ?_; clear hK K
 refine l_w (Zwy rfl rfl (T.e 4 rfl) rfl) ?_; intro K hK
 refine Zoc (first := []) (cap := []) T rfl rfl rfl rfl evf (.cons (T.e 3 rfl) (.cons (T.e 0 rfl) .nil)) Tryd.func31 rfl rfl ?_
 refine Calls.mono (sameSpots_any APu2 cPu2 ([⟨0, 0, true⟩, ⟨3, 0, false⟩] : List Spt) (some ⟨g4, 0, none⟩) 2 ([⟨0, 0, true⟩, ⟨3, 0, false⟩] : List Spt) _ (SAPu2.rd M (.cons _ (subL (subL (List.Sublist.refl _))))) (M.rdOwn (Zne (i := 0) rfl) rfl rfl) (by decide) (by decide)) ?_
 clear T; rintro e wc ⟨rfl, hb⟩ ac T
 replace M := M.call hb; clear hb
 rw [Zdt (@rfl (List Spt) ([⟨0, 0, true⟩, ⟨3, 0, false⟩] : List Spt))] at T
 refine Zso hK _ _ ?_; clear hK K
 refine Zg3 T (Zq (Zr1 rfl (T.e 5 rfl) rfl (T.e 0 rfl))) rfl (Zm 0 rfl rfl) rfl (fun _ T => Zw (Zwy rfl rfl (T.e 0 rfl) rfl) (Zrm rfl (T.e 45 rfl))) rfl ?_; clear T ac; intro ac T
 refine l_w (Zwy rfl rfl (T.e 1 rfl) rfl) ?_; intro K hK
 refine ow_bs (e := 3) [.int .i64 0, .int .i64 1, .int .i64 0] M T rfl rfl rfl rfl (.cons evc (.cons evc (.cons evc .nil))) (fun _ => by kernel_rfl) ?_; clear M T; intro g5 wc ac M T
 refine Zso hK _ _ ?_; clear hK K
 refine l_w (Zwy rfl rfl (T.e 2 rfl) rfl) ?_; intro K hK
 refine Zoc (first := []) (cap := []) T rfl rfl rfl rfl evf (.cons (T.e 1 rfl) (.cons (T.e 0 rfl) .nil)) Tryd.func30 rfl rfl ?_
 refine Calls.mono (sameInts_any _ _ _ _ _ _ ([0, 1, 0]) ([0, 1, 0]) _ (SASu4.rd M (.cons _ (.cons _ (subL (Zsq _ _))))) (M.rdOwn (Zne (i := 0) rfl) rfl rfl) (by decide) (by decide)) ?_
 clear T; rintro e wc ⟨rfl, hb⟩ ac T
 replace M := M.call hb; clear hb
 rw [Zdt (@rfl (List Int) [0, 1, 0])] at T
 refine Zso hK _ _ ?_; clear hK K
 refine Zg3 T (Zq (Zr1 rfl (T.e 3 rfl) rfl (T.e 0 rfl))) rfl (Zm 0 rfl rfl) rfl (fun _ T => Zw (Zwy rfl rfl (T.e 0 rfl) rfl) (Zrm rfl (T.e 47 rfl))) rfl ?_; clear T ac; intro ac T
 refine l_w (Zwy rfl rfl (T.e 1 rfl) rfl) ?_; intro K hK
 refine ow_bs (e := 3) [.int .i64 2, .int .i64 1, .int .i64 1] M T rfl rfl rfl rfl (.cons evc (.cons evc (.cons evc .nil))) (fun _ => by kernel_rfl) ?_; clear M T; intro g6 wc ac M T
 refine Zso hK _ _ ?_; clear hK K
 refine l_w (Zwy rfl rfl (T.e 2 rfl) rfl) ?_; intro K hK
 refine Zoc (first := []) (cap := []) T rfl rfl rfl rfl evf (.cons (T.e 1 rfl) (.cons (T.e 0 rfl) .nil)) Tryd.func30 rfl rfl ?_
 refine Calls.mono (sameInts_any _ _ _ _ _ _ ([2, 1, 1]) ([2, 1, 1]) _ (SAWu6.rd M (.cons _ (.cons _ (.cons _ (Zsq _ _))))) (M.rdOwn (Zne (i := 0) rfl) rfl rfl) (by decide) (by decide)) ?_
 clear T; rintro e wc ⟨rfl, hb⟩ ac T
 replace M := M.call hb; clear hb
 rw [Zdt (@rfl (List Int) [2, 1, 1])] at T
 refine Zso hK _ _ ?_; clear hK K
 refine Zg2 T (Zq (Zr1 rfl (T.e 3 rfl) rfl (T.e 0 rfl))) rfl (Za 0 rfl rfl) rfl ?_; clear T ac; intro ac T
 refine wpList_nil ?_
 replace T := T.pick [0] rfl
 replace M := M.mask [false, false, false] rfl
 replace M : Mem w noEx wc ((IPu2 ++ ISu4 ++ IWu6)) := M
 refine Znr ?_
 refine rt_1 T rfl (T.e 0 rfl) ?_
 exact ⟨rfl, M.below⟩
section
variable {df : List Deferred} {P : Program} {op : Oper} {a : Act} {K : Act → World → Prop} {Q : Exit → Act → World → Prop} {w0 w : World} {ex : Nat → Prop} {L : List (Nat × BA)} {E : List (Nat × Value)} {t n : Nat}
theorem madeCells_ic (m : Nat) : madeCells (Value.cells (.int .i64 0)) (m * 1) = (ic (List.replicate m 0) ++ []).toArray := by
 apply Array.ext
 ·simp [madeCells, ic]
 ·intro i h1 h2
  simp [madeCells, ic, Value.cells, Nat.mod_one]
theorem ow_ms {ty e m : Nat} {x y : Operand} (M : Mem w0 ex w L) (T : TmD df a n E) (ho : op.op = .makeSlice ty x y) (hd : op.dst = some t) (hf : freshE E t = true) (hn : Nat.blt t n = true) (hx : a.eval x = .int .i64 (m : Int)) (hy : a.eval y = .int .i64 (m : Int))
  (ht : P.underlying ty = some (.slice e)) (hinfo : (P.info? e).map (fun i => (i.zero, i.size, i.bytes)) = some (some (.int .i64 0), 1, 8)) (hm : m ≤ 1000000)
  (h : ∀ g w' a', Mem w0 ex w' ((g, .cells (ic (List.replicate m 0) ++ [])) :: L) → TmD df a' n ((t, .slice (some ⟨g, 0, none⟩) m m) :: E) → K a' w') : op.wp P a w K Q := by
 obtain ⟨i, hi, hz, hs, hb⟩ := info_parts hinfo
 have hr := run_makeSlice (P := P) w ty e i _ ht hi hz .i64 .i64 (m : Int) (m : Int) (by omega) (Int.le_refl _) (by rw [hs]; omega) (by rw [hb]; omega) (by omega)
 rw [hs, Int.toNat_natCast, madeCells_ic] at hr
 unfold Oper.wp execOp
 simp only [ho, hx, hy, hr, Sem.run_bind, Result.andThen_ok, Sem.run_pure]
 rw [Oper.upon_value, hd]
 exact h _ _ _ (M.new _ _) (T.put hn hf _)
end
def OddsPost (bp : Nat) (w : World) (e : Ending) (w' : World) : Prop := ∃ (b : Bool) (s' : Int), u64ok s' ∧ e = .returned (.bool b) ∧ w.grownBy w' (some bp) ∧ Bk w' bp #[.int .u64 s']
def Idx (n : Int) (l : List Int) : Prop := (∀ x ∈ l, 0 ≤ x ∧ x < n) ∧ l.Nodup
theorem Idx.nil (n : Int) : Idx n [] := ⟨fun x h => (by cases h), List.nodup_nil⟩
def IdxPost (bp : Nat) (P : List Int → Prop) (w : World) (e : Ending) (w' : World) : Prop := ∃ (l : List Int) (A : Option Addr) (c : Nat) (s : Int) (I : List (Nat × BA)), e = .returned (.slice A l.length c) ∧ P l ∧ u64ok s ∧ l.length ≤ c ∧ (∃ b o, ∀ (w : World) (ex : Nat → Prop), Sp w ex I A l.length 1 b o (ic l)) ∧ Mem w (fun b => b = bp) w' ((bp, .cells [.int .u64 s]) :: I)
def MixI (i : Nat) (l : List Int) : Prop := Idx i (l.take i)
theorem mix_step {i k : Nat} {l : List Int} {v : Int} (h : MixI i l) (hi : i < l.length) (hk : k ≤ i) (hv : l[k]? = some v) : MixI (i + 1) ((l.set i v).set k (i : Int)) := by
 have hkl : k < l.length := by omega
 have hve : l[k] = v := (List.getElem?_eq_some_iff.1 hv).2
 have get : ∀ j (hj : j < (((l.set i v).set k (i : Int)).take (i + 1)).length), (((l.set i v).set k (i : Int)).take (i + 1))[j] = if j = k then (i : Int) else if j = i then v else l[j]'(by simp at hj; omega) := fun j hj => by
  simp only [List.getElem_take, List.getElem_set]
  by_cases h1 : j = k
  ·subst h1; simp
  ·rw [if_neg (fun e => h1 e.symm), if_neg h1]
   by_cases h2 : j = i
   ·subst h2; simp
   ·rw [if_neg (fun e => h2 e.symm), if_neg h2]
 have old : ∀ j (hj : j < i), 0 ≤ l[j]'(by omega) ∧ l[j]'(by omega) < (i : Int) := fun j hj => by
  have hm : l[j]'(by omega) ∈ l.take i := List.mem_iff_getElem.2 ⟨j, by simp; omega, by simp⟩
  exact h.1 _ hm
 have inj : ∀ a b (ha : a < i) (hb : b < i), l[a]'(by omega) = l[b]'(by omega) → a = b := fun a b ha hb e =>
  nodup_inj h.2 (i := a) (j := b) (by simp; omega) (by simp; omega) (by simpa using e)
 refine ⟨fun x hx => ?_, List.pairwise_iff_getElem.2 fun a b ha hb hab e => ?_⟩
 ·obtain ⟨j, hj, rfl⟩ := List.mem_iff_getElem.1 hx
  rw [get j hj]
  simp at hj
  split
  ·omega
  ·split
   ·rename_i h1 h2
    rw [← hve]
    have := old k (by omega)
    omega
   ·rename_i h1 h2
    have := old j (by omega)
    omega
 ·rw [get a ha, get b hb] at e
  simp at ha hb
  by_cases h1 : a = k
  ·rw [if_pos h1, if_neg (by omega)] at e
   by_cases h2 : b = i
   ·rw [if_pos h2] at e
    have := old k (by omega)
    omega
   ·rw [if_neg h2] at e
    have := old b (by omega)
    omega
  ·rw [if_neg h1] at e
   have ha2 : ¬ a = i := by omega
   rw [if_neg ha2] at e
   by_cases h2 : b = k
   ·rw [if_pos h2] at e
    have := old a (by omega)
    omega
   ·rw [if_neg h2] at e
    by_cases h3 : b = i
    ·rw [if_pos h3] at e
     have := inj a k (by omega) (by omega) (e.trans hve.symm)
     omega
    ·rw [if_neg h3] at e
     have := inj a b (by omega) (by omega) e
     omega
def PtPost (bp : Nat) (w : World) (e : Ending) (w' : World) : Prop := ∃ (p : Pt) (s' : Int), p.good ∧ u64ok s' ∧ e = .returned (.agg #[.int .i64 p.l, .int .i64 p.w, .bool p.gr, .int .i64 p.pa]) ∧ w.grownBy w' (some bp) ∧ Bk w' bp #[.int .u64 s']
def SkOfPost (bp : Nat) (side parts : Int) (w : World) (e : Ending) (w' : World) : Prop := ∃ (s : Sk) (A : Option Addr) (c : Nat) (sd : Int) (I : List (Nat × BA)), e = .returned (.agg #[.int .i64 s.lo, .int .i64 s.wi, .int .i64 s.a0, .int .i64 s.a1, .int .i64 s.c0, .int .i64 s.c1, .slice A s.ps.length c]) ∧ s.good ∧ ((s.lo ≤ side ∧ s.wi ≤ side) ∧ (s.ps.length : Int) ≤ parts) ∧ u64ok sd ∧ s.ps.length ≤ c ∧ (∃ b o, ∀ (w : World) (ex : Nat → Prop), Sp w ex I A s.ps.length 4 b o (pc s.ps)) ∧ Mem w (fun b => b = bp) w' ((bp, .cells [.int .u64 sd]) :: I)
theorem odds_any (s : Int) (bp : Nat) (n m : Int) (w : World) (hn : 0 ≤ n ∧ n ≤ 1000) (hm : 1 ≤ m ∧ m ≤ 1000) (hp : Bk w bp #[.int .u64 s]) (hs : u64ok s) :
  Calls Tryd.prog 23 #[.pointer (some ⟨bp, 0, none⟩), .int .i64 n, .int .i64 m] w (OddsPost bp w) := by
 refine Zpx (fun b => b = bp) Tryd.func23 rfl 13 rfl [.pointer (some ⟨bp, 0, none⟩), .int .i64 n, .int .i64 m] rfl rfl (Mem.initEx (p := .cells [.int .u64 s]) hp) ?_
 intro ac wc T M
 refine Zsr ?_
 refine lq T (Zra rfl evc) ?_; clear T ac; intro ac T
 refine wpList_nil ?_
 replace T := T.pick [1, 2, 3] rfl
 refine nm_then ?_
 refine Zsr ?_
 refine Zg3 T (Zq (Zrm rfl (T.e 0 rfl))) rfl (Zm 3 rfl rfl) rfl (fun _ T => Zq (rn_sub rfl (T.e 0 rfl) evc (by omega))) rfl ?_; clear T ac; intro ac T
 refine Zl2 ?_
 refine Zoc (first := []) (cap := []) T rfl rfl rfl rfl evf (.cons (T.e 2 rfl) (.cons (T.e 0 rfl) .nil)) Tryd.func21 rfl rfl ?_
 refine Calls.mono (upto_any _ bp (m - 1) _ (by omega) (by omega) (M.nth 0 rfl) hs) ?_
 clear T; rintro e wc ⟨xu1, su1, hxu1, hsu1, rfl, hgr, hbk⟩ ac T
 replace M := M.callC (cs' := [.int .u64 su1]) .head hgr hbk
 clear hgr hbk
 refine Zg3 T (Zq (Zrm rfl (T.e 5 rfl))) rfl (fun _ T => Zq (rn_lss rfl (T.e 1 rfl) (T.e 0 rfl))) rfl (Za 0 rfl rfl) rfl ?_; clear T ac; intro ac T
 refine wpList_nil ?_
 replace T := T.pick [0] rfl
 refine Znr ?_
 refine rt_1 T rfl (T.e 0 rfl) ?_
 exact ⟨_, _, hsu1, rfl, M.grown, M.nth 0 rfl⟩
theorem mix_any (s : Int) (bp : Nat) (n : Nat) (w : World) (hn : n ≤ 1000) (hp : Bk w bp #[.int .u64 s]) (hs : u64ok s) :
   Calls Tryd.prog 20 #[.pointer (some ⟨bp, 0, none⟩), .int .i64 (n : Int)] w (IdxPost bp (fun l => Idx n l ∧ l.length = n) w) := by
 refine Zpx (fun b => b = bp) Tryd.func20 rfl 31 rfl [.pointer (some ⟨bp, 0, none⟩), .int .i64 (n : Int)] rfl rfl (Mem.initEx (p := .cells [.int .u64 s]) hp) ?_
 intro ac wc T M
 refine Zsr ?_
 refine lq T (Zra rfl evc) ?_; clear T ac; intro ac T
 refine wpList_nil ?_
 replace T := T.pick [1, 2] rfl
 refine nm_then ?_
 refine Zsr ?_
 refine Zg2 T (Zq (Zrm rfl (T.e 1 rfl))) rfl (fun _ T => Zq (rn_max2 rfl evc (T.e 0 rfl))) rfl ?_; clear T ac; intro ac T
 refine Zl2 ?_
 rw [show (max 0 (n : Int)) = (n : Int) from (by omega)] at T
 refine ow_ms (m := n) M T rfl rfl rfl rfl (T.e 0 rfl) (T.e 0 rfl) Tryd.underlying27 Tryd.info3 (by omega) ?_; clear M T; intro g1 wc ac M T
 obtain ⟨lm1, hlm1⟩ : ∃ q : List Int, q = List.replicate n 0 := ⟨_, rfl⟩
 have llm1 : lm1.length = n := by rw [hlm1, List.length_replicate]
 rw [← hlm1] at M
 have Ss1 := Sp.pre (w := w) (ex := (fun b => b = bp)) (size := 1) (n := lm1.length) (g := g1) (xs := ic lm1) (ys := []) (by simp [ic_length])
 refine lq T (Zra rfl (T.e 0 rfl)) ?_; clear T ac; intro ac T
 refine wpList_nil ?_
 replace T := T.pick [0, 4, 5] rfl
 refine Zns ?_
 refine Zsr ?_
 refine lq T (Zra rfl evc) ?_; clear T ac; intro ac T
 refine Zln ?_
 refine wp_block ?_
 refine wp_loop_n (fun mz ac wc => ∃ (i : Nat) (l : List Int) (s : Int), mz = n - i ∧ (i ≤ n) ∧ (l.length = n) ∧ (MixI i l) ∧ (u64ok s) ∧ Tm ac 31 [(0, .pointer (some ⟨bp, 0, none⟩)), (1, .int .i64 (n : Int)), (5, .slice (some ⟨g1, 0, none⟩) n n), (6, .int .i64 (i : Int))] ∧ Mem w (fun b => b = bp) wc [(g1, .cells (ic l ++ [])), (bp, .cells [.int .u64 s])]) ?_ ?_
 ·exact ⟨_, 0, lm1, _, rfl, (Nat.zero_le _), (by omega), (Idx.nil _), hs, T.pick [2, 3, 1, 0] rfl, M.mask [true, true] rfl⟩
 clear T M
 rintro mz ac wc ⟨i, l, s, hmm1, hi, hl, hm, hs, T, M⟩
 have Sl9 := Sp.pre (w := w) (ex := fun b => b = bp) (size := 1) (n := l.length) (g := g1) (xs := ic l) (ys := []) (by simp [ic_length])
 rw [hl] at Sl9
 refine wp_seq ?_
 refine Zsr ?_
 refine Zg3 T (Zq (Zrm rfl (T.e 3 rfl))) rfl (Zm 2 rfl rfl) rfl (fun _ T => Zq (rn_lss rfl (T.e 1 rfl) (T.e 0 rfl))) rfl ?_; clear T ac; intro ac T
 refine wpList_nil ?_
 replace T := T.pick [0, 3, 4, 5, 6] rfl
 refine nm_then ?_
 refine wp_if (T.e 0 rfl) ?_ ?_
 ·intro h1
  refine Zsk ?_
  refine wp_seq ?_
  refine wp_block ?_
  refine Zsr ?_
  refine Zg2 T (Zq (Zrm rfl (T.e 1 rfl))) rfl (Zm 5 rfl rfl) rfl ?_; clear T ac; intro ac T
  refine Zl2 ?_
  refine Zoc (first := []) (cap := []) T rfl rfl rfl rfl evf (.cons (T.e 1 rfl) (.cons (T.e 0 rfl) .nil)) Tryd.func21 rfl rfl ?_
  refine Calls.mono (upto_any _ bp (i : Int) _ (by omega) (by omega) (M.nth 1 rfl) hs) ?_
  clear T; rintro e wc ⟨xu1, su1, hxu1, hsu1, rfl, hgr, hbk⟩ ac T
  replace M := M.callC (cs' := [.int .u64 su1]) (.tail .head) hgr hbk
  clear hgr hbk
  obtain ⟨ku1, hku1⟩ : ∃ k : Nat, xu1 = (k : Int) := ⟨xu1.toNat, by omega⟩
  obtain ⟨v9, hkv, -⟩ := ic_next (l := l) (k := ku1) (by omega)
  refine lq T (Zra rfl (T.e 0 rfl)) ?_; clear T ac; intro ac T
  refine wpList_nil ?_
  replace T := T.pick [0, 5, 6, 7, 8] rfl
  refine nm_then ?_
  refine Zsr ?_
  refine Zg7 T (Zq (Zrm rfl (T.e 3 rfl))) rfl (Zm 5 rfl rfl) rfl (Zm 5 rfl rfl) rfl (Zm 3 rfl rfl) rfl (fun _ T => Zq (Zri (size := 1) ku1 rfl (T.e 1 rfl) (T.e 0 rfl) ⟨_, Tryd.underlying27, by kernel_rfl⟩ hku1 (by omega) rfl)) rfl (fun _ T => Zq (rn_cell (Sp.ic0 Sl9 M (List.Sublist.cons_cons _ (List.nil_sublist _)) hkv) rfl (T.e 0 rfl))) rfl (fun _ T => Zq (Zri (size := 1) i rfl (T.e 5 rfl) (T.e 4 rfl) ⟨_, Tryd.underlying27, by kernel_rfl⟩ rfl (by omega) rfl)) rfl ?_; clear T ac; intro ac T
  refine Zl2 ?_
  refine ow_stI M T rfl rfl (T.e 0 rfl) (T.e 1 rfl) .head (by omega) rfl ?_; clear M T; intro wc ac M T
  obtain ⟨lo1, hlo1⟩ : ∃ q, q = l.set i v9 := ⟨_, rfl⟩
  have lhlo1 : l.length = lo1.length := by rw [hlo1, List.length_set]
  rw [← hlo1] at M; (try rw [lhlo1] at M); (try rw [lhlo1] at T)
  have Ss2 := Sp.pre (w := w) (ex := (fun b => b = bp)) (size := 1) (n := lo1.length) (g := g1) (xs := ic lo1) (ys := []) (by simp [ic_length])
  refine wpList_nil ?_
  replace T := T.pick [7, 8, 9, 10, 11] rfl
  refine nm_then ?_
  refine wp_region_lit ?_
  refine Zg4 T (Zq (Zrm rfl (T.e 3 rfl))) rfl (Zm 1 rfl rfl) rfl (Zm 6 rfl rfl) rfl (fun _ T => Zq (Zri (size := 1) ku1 rfl (T.e 2 rfl) (T.e 1 rfl) ⟨_, Tryd.underlying27, by kernel_rfl⟩ hku1 (by omega) rfl)) rfl ?_; clear T ac; intro ac T
  refine Zl2 ?_
  refine ow_stI M T rfl rfl (T.e 0 rfl) (T.e 1 rfl) .head (by omega) rfl ?_; clear M T; intro wc ac M T
  obtain ⟨lo2, hlo2⟩ : ∃ q, q = lo1.set ku1 (i : Int) := ⟨_, rfl⟩
  have lhlo2 : lo1.length = lo2.length := by rw [hlo2, List.length_set]
  rw [← hlo2] at M; (try rw [lhlo2] at M); (try rw [lhlo2] at T)
  have Ss3 := Sp.pre (w := w) (ex := (fun b => b = bp)) (size := 1) (n := lo2.length) (g := g1) (xs := ic lo2) (ys := []) (by simp [ic_length])
  refine wpList_nil ?_
  replace T := T.pick [5, 6, 7, 8] rfl
  refine Znb ?_
  refine nm_then ?_
  refine wp_region_lit ?_
  refine Zg2 T (Zq (Zrm rfl (T.e 3 rfl))) rfl (fun _ T => Zq (rn_add rfl (T.e 0 rfl) evc (by omega))) rfl ?_; clear T ac; intro ac T
  refine l_q (v := (.int .i64 ((i : Int) + 1))) (T.pick [0, 1, 2, 3, 4] rfl) rfl rfl rfl rfl (Zra rfl (T.e 0 rfl)) ?_; clear T ac; intro ac T
  refine wpList_nil ?_
  replace T := T.pick [0, 3, 4, 5] rfl
  refine nm_then ?_
  exact ⟨_, by omega, i + 1, lo2, su1, rfl, (by omega), (by omega), (by rw [hlo2, hlo1]; exact mix_step hm (by omega) (by omega) hkv), hsu1, T.pick [1, 2, 3, 0] rfl, M.mask [true, true] rfl⟩
 intro h1
 refine wp_exit ?_
 refine Zet ?_
 refine Zet ?_
 refine ex_hit ?_
 refine nm_then ?_
 refine Zsr ?_
 refine Zg2 T (Zq (Zrm rfl (T.e 3 rfl))) rfl (Za 0 rfl rfl) rfl ?_; clear T ac; intro ac T
 refine wpList_nil ?_
 replace T := T.pick [0] rfl
 refine Znr ?_
 refine rt_1 T rfl (T.e 0 rfl) ?_
 have hx9 : Idx n l ∧ l.length = n := ⟨by have h8 := hm; unfold MixI at h8; rw [List.take_of_length_le (by omega), show i = n by omega] at h8; exact h8, hl⟩
 obtain ⟨hx8, hx7⟩ := hx9
 refine ⟨l, some ⟨g1, 0, none⟩, n, _, [(g1, .cells (ic l ++ []))], by rw [hl], ⟨hx8, hx7⟩, hs, by omega, ⟨g1, 0, fun w ex => Sp.pre (by rw [ic_length]; omega)⟩, M.perm [1, 0] rfl rfl⟩
set_option maxHeartbeats 2000000 in
theorem partOf_any (s : Int) (bp : Nat) (lo wi a0 a1 c0 c1 : Int) (A : Option Addr) (m c : Nat)  (w : World) (h1 : 0 ≤ lo ∧ lo ≤ 12) (h2 : 0 ≤ wi ∧ wi ≤ 12) (h3 : 0 ≤ a1 ∧ a1 ≤ 2) (h4 : 0 ≤ c1 ∧ c1 ≤ 2) (hp : Bk w bp #[.int .u64 s]) (hs : u64ok s) :
   Calls Tryd.prog 40 #[.pointer (some ⟨bp, 0, none⟩), .agg #[.int .i64 lo, .int .i64 wi, .int .i64 a0, .int .i64 a1, .int .i64 c0, .int .i64 c1, .slice A m c]] w (PtPost bp w) := by
 refine Zpx (fun b => b = bp) Tryd.func40 rfl 38 rfl [.pointer (some ⟨bp, 0, none⟩), .agg #[.int .i64 lo, .int .i64 wi, .int .i64 a0, .int .i64 a1, .int .i64 c0, .int .i64 c1, .slice A m c]] rfl rfl (Mem.initEx (p := .cells [.int .u64 s]) hp) ?_
 intro ac wc T M
 refine Zsr ?_
 refine Zl2 ?_
 refine Zob M T rfl rfl rfl rfl (T.e 1 rfl) rfl ?_; clear M T; intro g1 wc ac M T
 refine Zl2 ?_
 refine Zoa M T rfl rfl rfl rfl ?_; clear M T; intro g2 wc ac M T
 refine wpList_nil ?_
 replace T := T.pick [0, 1, 2] rfl
 refine Zns ?_
 refine Zgs M (M.perm [0, 1] rfl rfl) 28 (by kernel_rfl) rfl (by kernel_rfl) ?_
 clear M; intro wc M
 refine g_addG 8 M ?_
 refine g_have (fun ac wc => ∃ (xur1_8 : Int), ∃ (sur1_8 : Int), ∃ (xur1_17 : Int), ∃ (sur1_17 : Int), ∃ (bur1_19 : Bool), ∃ (sur1_19 : Int), ∃ (xur1_22 : Int), ∃ (sur1_22 : Int), ∃ (xur1_24 : Int), ∃ (sur1_24 : Int), (1 ≤ xur1_8 ∧ xur1_8 ≤ (max 1 (lo - a1))) ∧ (u64ok sur1_8) ∧ (1 ≤ xur1_17 ∧ xur1_17 ≤ (max 1 (wi - c1))) ∧ (u64ok sur1_17) ∧ (u64ok sur1_19) ∧ (0 ≤ xur1_22 ∧ xur1_22 ≤ 3) ∧ (u64ok sur1_22) ∧ (xur1_24 = 0 ∨ xur1_24 = 0 ∨ xur1_24 = 0 ∨ xur1_24 = xur1_22) ∧ (u64ok sur1_24) ∧ ∃ (gr1_26 gr1_23 : Nat), Tm ac 38 [(5, .pointer (some ⟨gr1_26, 0, none⟩)), (31, .agg #[.int .i64 xur1_8, .int .i64 xur1_17, .bool bur1_19, .int .i64 xur1_24]), (30, .int .i64 xur1_24), (29, .slice (some ⟨gr1_23, 0, none⟩) 4 4), (28, .int .i64 xur1_22), (25, .bool bur1_19), (23, .int .i64 xur1_17), (14, .int .i64 xur1_8), (27, .pointer (some ⟨bp, 0, none⟩)), (26, .pointer (some ⟨bp, 0, none⟩)), (24, .pointer (some ⟨bp, 0, none⟩)), (22, .int .i64 (max 1 (wi - c1))), (21, .int .i64 (wi - c1)), (20, .int .i64 c1), (19, .pointer (some ⟨g1, 5, none⟩)), (18, .pointer (some ⟨g1, 4, none⟩)), (17, .int .i64 wi), (16, .pointer (some ⟨g1, 1, none⟩)), (15, .pointer (some ⟨bp, 0, none⟩)), (13, .int .i64 (max 1 (lo - a1))), (12, .int .i64 (lo - a1)), (11, .int .i64 a1), (10, .pointer (some ⟨g1, 3, none⟩)), (9, .pointer (some ⟨g1, 2, none⟩)), (8, .int .i64 lo), (7, .pointer (some ⟨g1, 0, none⟩)), (6, .pointer (some ⟨bp, 0, none⟩)), (4, .pointer (some ⟨g2, 0, none⟩)), (3, .pointer (some ⟨g1, 0, none⟩)), (0, .pointer (some ⟨bp, 0, none⟩))] ∧ Mem w (fun b => b = bp) wc [(gr1_26, .cells [.int .i64 0, .int .i64 0, .bool false, .int .i64 0]), (gr1_23, .cells [.int .i64 0, .int .i64 0, .int .i64 0, .int .i64 xur1_22]), (g2, .cells [.int .i64 0, .int .i64 0, .bool false, .int .i64 0]), (g1, .cells [.int .i64 lo, .int .i64 wi, .int .i64 a0, .int .i64 a1, .int .i64 c0, .int .i64 c1, .slice A m c]), (bp, .cells [.int .u64 sur1_24])]) (Zpb 28 134217727) 1 ?_ ?_
 ·clear T M
  rintro ac wc ⟨xur1_8, sur1_8, xur1_17, sur1_17, bur1_19, sur1_19, xur1_22, sur1_22, xur1_24, sur1_24, hxur1_8, hsur1_8, hxur1_17, hsur1_17, hsur1_19, hxur1_22, hsur1_22, hxur1_24, hsur1_24, gr1_26, gr1_23, T, M⟩
  refine gw 27 268435455 ?_; intro K hK
  refine Zos M T rfl rfl (T.e 0 rfl) (T.e 1 rfl) rfl .head rfl (by simp) rfl (by kernel_rfl) ?_; clear M T; intro wc ac M T
  refine Zso hK _ _ (MA.mk (fun h => (no_of (by kernel_rfl) h).elim) (M.mask [false, false, true, true, false] rfl)) ?_; clear hK K
  refine Zgd (by kernel_rfl) ?_
  replace T := T.pick [0, 27, 29] rfl
  replace M := M.mask [true, false, true, false, true] rfl
  refine Zns ?_
  refine Zsr ?_
  refine lq T (Zrm rfl (T.e 2 rfl)) ?_; clear T ac; intro ac T
  refine Zl2 ?_
  refine Zoc (first := []) (cap := []) T rfl rfl rfl rfl evf (.cons (T.e 0 rfl) (.cons evc (.cons evc .nil))) Tryd.func23 rfl rfl ?_
  refine Calls.mono (odds_any _ bp 1 12 _ (by omega) (by omega) (M.nth 2 rfl) hsur1_24) ?_
  clear T; rintro e wc ⟨bu1, su1, hsu1, rfl, hgr, hbk⟩ ac T
  replace M := M.callC (cs' := [.int .u64 su1]) (.tail (.tail .head)) hgr hbk
  clear hgr hbk
  refine wpList_nil ?_
  replace T := T.pick [0, 2, 3, 4] rfl
  refine nm_then ?_
  refine wp_cond_split (T.e 0 rfl) ?_ ?_
  ·intro h1
   refine wp_region_lit ?_
   refine lq T (Zrm rfl (T.e 3 rfl)) ?_; clear T ac; intro ac T
   refine Zl2 ?_
   refine Zoc (first := []) (cap := []) T rfl rfl rfl rfl evf (.cons (T.e 0 rfl) (.cons evc (.cons evc .nil))) Tryd.func39 rfl rfl ?_
   refine Calls.mono (within_pot _ bp 1 12 _ (by omega) (by omega) (by omega) (M.nth 2 rfl) hsu1) ?_
   clear T; rintro e wc ⟨xu2, su2, hxu2, hsu2, rfl, hgr, hbk⟩ ac T
   replace M := M.callC (cs' := [.int .u64 su2]) (.tail (.tail .head)) hgr hbk
   clear hgr hbk
   refine lq (v := (.pointer (some ⟨gr1_26, 0, none⟩))) T (Zrf (off := 0) rfl (T.e 3 rfl) (fun _ _ _ => by kernel_rfl)) ?_; clear T ac; intro ac T
   refine Zl2 ?_
   refine Zos M T rfl rfl (T.e 0 rfl) (T.e 1 rfl) rfl .head rfl (by simp) rfl (by kernel_rfl) ?_; clear M T; intro wc ac M T
   refine wpList_nil ?_
   replace T := T.pick [4, 5] rfl
   refine nm_then ?_
   refine Zsr ?_
   refine lq T (Zrr (Mem.nth M 0 rfl) rfl (T.e 0 rfl) rfl) ?_; clear T ac; intro ac T
   refine Zl2 ?_
   refine Zos M T rfl rfl (T.e 2 rfl) (T.e 0 rfl) rfl (.tail .head) rfl (by simp) rfl (by kernel_rfl) ?_; clear M T; intro wc ac M T
   refine wpList_nil ?_
   replace T := T.pick [2] rfl
   replace M := M.mask [false, true, true] rfl
   refine Znr ?_
   refine rt_c M T rfl (T.e 0 rfl) (Zne (i := 0) rfl) rfl ?_
   exact ⟨⟨xu2, xur1_17, bur1_19, xur1_24⟩, _, ⟨by dsimp only; omega, by dsimp only; omega, by dsimp only; omega⟩, hsu2, rfl, M.grown, M.nth 1 rfl⟩
  intro h1
  refine Zsk ?_
  refine Zsr ?_
  refine lq T (Zrr (Mem.nth M 0 rfl) rfl (T.e 1 rfl) rfl) ?_; clear T ac; intro ac T
  refine Zl2 ?_
  refine Zos M T rfl rfl (T.e 3 rfl) (T.e 0 rfl) rfl (.tail .head) rfl (by simp) rfl (by kernel_rfl) ?_; clear M T; intro wc ac M T
  refine wpList_nil ?_
  replace T := T.pick [3] rfl
  replace M := M.mask [false, true, true] rfl
  refine Znr ?_
  refine rt_c M T rfl (T.e 0 rfl) (Zne (i := 0) rfl) rfl ?_
  exact ⟨⟨xur1_8, xur1_17, bur1_19, xur1_24⟩, _, ⟨by dsimp only; omega, by dsimp only; omega, by dsimp only; omega⟩, hsu1, rfl, M.grown, M.nth 1 rfl⟩
 intro H5
 refine g_have (fun ac wc => ∃ (xur1_8 : Int), ∃ (sur1_8 : Int), ∃ (xur1_17 : Int), ∃ (sur1_17 : Int), ∃ (bur1_19 : Bool), ∃ (sur1_19 : Int), ∃ (xur1_22 : Int), ∃ (sur1_22 : Int), (1 ≤ xur1_8 ∧ xur1_8 ≤ (max 1 (lo - a1))) ∧ (u64ok sur1_8) ∧ (1 ≤ xur1_17 ∧ xur1_17 ≤ (max 1 (wi - c1))) ∧ (u64ok sur1_17) ∧ (u64ok sur1_19) ∧ (0 ≤ xur1_22 ∧ xur1_22 ≤ 3) ∧ (u64ok sur1_22) ∧ ∃ (gr1_26 gr1_23 : Nat), Tm ac 38 [(5, .pointer (some ⟨gr1_26, 0, none⟩)), (29, .slice (some ⟨gr1_23, 0, none⟩) 4 4), (28, .int .i64 xur1_22), (25, .bool bur1_19), (23, .int .i64 xur1_17), (14, .int .i64 xur1_8), (27, .pointer (some ⟨bp, 0, none⟩)), (26, .pointer (some ⟨bp, 0, none⟩)), (24, .pointer (some ⟨bp, 0, none⟩)), (22, .int .i64 (max 1 (wi - c1))), (21, .int .i64 (wi - c1)), (20, .int .i64 c1), (19, .pointer (some ⟨g1, 5, none⟩)), (18, .pointer (some ⟨g1, 4, none⟩)), (17, .int .i64 wi), (16, .pointer (some ⟨g1, 1, none⟩)), (15, .pointer (some ⟨bp, 0, none⟩)), (13, .int .i64 (max 1 (lo - a1))), (12, .int .i64 (lo - a1)), (11, .int .i64 a1), (10, .pointer (some ⟨g1, 3, none⟩)), (9, .pointer (some ⟨g1, 2, none⟩)), (8, .int .i64 lo), (7, .pointer (some ⟨g1, 0, none⟩)), (6, .pointer (some ⟨bp, 0, none⟩)), (4, .pointer (some ⟨g2, 0, none⟩)), (3, .pointer (some ⟨g1, 0, none⟩)), (0, .pointer (some ⟨bp, 0, none⟩))] ∧ Mem w (fun b => b = bp) wc [(gr1_26, .cells [.int .i64 0, .int .i64 0, .bool false, .int .i64 0]), (gr1_23, .cells [.int .i64 0, .int .i64 0, .int .i64 0, .int .i64 xur1_22]), (g2, .cells [.int .i64 0, .int .i64 0, .bool false, .int .i64 0]), (g1, .cells [.int .i64 lo, .int .i64 wi, .int .i64 a0, .int .i64 a1, .int .i64 c0, .int .i64 c1, .slice A m c]), (bp, .cells [.int .u64 sur1_22])]) (Zpb 28 83886079) 3 ?_ ?_
 ·clear T M
  rintro ac wc ⟨xur1_8, sur1_8, xur1_17, sur1_17, bur1_19, sur1_19, xur1_22, sur1_22, hxur1_8, hsur1_8, hxur1_17, hsur1_17, hsur1_19, hxur1_22, hsur1_22, gr1_26, gr1_23, T, M⟩
  refine gw 24 100663295 ?_; intro K hK
  refine Zoc (first := []) (cap := []) T rfl rfl rfl rfl evf (.cons (T.e 7 rfl) (.cons (T.e 1 rfl) .nil)) Tryd.func85 rfl rfl ?_
  refine Calls.mono (of_any _ bp _ 4 4 [0, 0, 0, xur1_22] _ (M.rdOwn (Zne (i := 1) rfl) rfl rfl) (M.nee 1 4 rfl rfl rfl) (by decide) (by decide) (M.nth 4 rfl) hsur1_22) ?_
  clear T; rintro e wc ⟨xur1_24, sur1_24, hxur1_24, hsur1_24, rfl, hgr, hbk⟩ ac T
  replace M := M.callC (cs' := [.int .u64 sur1_24]) (.tail (.tail (.tail (.tail .head)))) hgr hbk
  clear hgr hbk
  simp only [List.mem_cons, List.not_mem_nil, or_false] at hxur1_24
  refine Zso hK _ _ (MA.mk (fun h => (no_of (by kernel_rfl) h).elim) (M.mask [false, false, true, true, false] rfl)) ?_; clear hK K
  refine gq (v := (.agg #[.int .i64 xur1_8, .int .i64 xur1_17, .bool bur1_19, .int .i64 xur1_24])) T 25 134217727 rfl (fun _ _ _ _ _ => (rn_build rfl (.cons (T.e 6 rfl) (.cons (T.e 5 rfl) (.cons (T.e 4 rfl) (.cons (T.e 0 rfl) .nil)))) (fun _ => by kernel_rfl))) ?_; clear T ac; intro ac T
  exact H5 _ _ ⟨xur1_8, sur1_8, xur1_17, sur1_17, bur1_19, sur1_19, xur1_22, sur1_22, xur1_24, sur1_24, hxur1_8, hsur1_8, hxur1_17, hsur1_17, hsur1_19, hxur1_22, hsur1_22, hxur1_24, hsur1_24, gr1_26, gr1_23, T.pick [2, 0, 1, 3, 4, 5, 6, 7, 8, 9, 10, 11, 12, 13, 14, 15, 16, 17, 18, 19, 20, 21, 22, 23, 24, 25, 26, 27, 28, 29] rfl, M⟩
 intro H4
 refine g_have (fun ac wc => ∃ (xur1_8 : Int), ∃ (sur1_8 : Int), ∃ (xur1_17 : Int), ∃ (sur1_17 : Int), ∃ (bur1_19 : Bool), ∃ (sur1_19 : Int), ∃ (xur1_22 : Int), ∃ (sur1_22 : Int), (1 ≤ xur1_8 ∧ xur1_8 ≤ (max 1 (lo - a1))) ∧ (u64ok sur1_8) ∧ (1 ≤ xur1_17 ∧ xur1_17 ≤ (max 1 (wi - c1))) ∧ (u64ok sur1_17) ∧ (u64ok sur1_19) ∧ (0 ≤ xur1_22 ∧ xur1_22 ≤ 3) ∧ (u64ok sur1_22) ∧ ∃ (gr1_26 : Nat), Tm ac 38 [(5, .pointer (some ⟨gr1_26, 0, none⟩)), (28, .int .i64 xur1_22), (25, .bool bur1_19), (23, .int .i64 xur1_17), (14, .int .i64 xur1_8), (27, .pointer (some ⟨bp, 0, none⟩)), (26, .pointer (some ⟨bp, 0, none⟩)), (24, .pointer (some ⟨bp, 0, none⟩)), (22, .int .i64 (max 1 (wi - c1))), (21, .int .i64 (wi - c1)), (20, .int .i64 c1), (19, .pointer (some ⟨g1, 5, none⟩)), (18, .pointer (some ⟨g1, 4, none⟩)), (17, .int .i64 wi), (16, .pointer (some ⟨g1, 1, none⟩)), (15, .pointer (some ⟨bp, 0, none⟩)), (13, .int .i64 (max 1 (lo - a1))), (12, .int .i64 (lo - a1)), (11, .int .i64 a1), (10, .pointer (some ⟨g1, 3, none⟩)), (9, .pointer (some ⟨g1, 2, none⟩)), (8, .int .i64 lo), (7, .pointer (some ⟨g1, 0, none⟩)), (6, .pointer (some ⟨bp, 0, none⟩)), (4, .pointer (some ⟨g2, 0, none⟩)), (3, .pointer (some ⟨g1, 0, none⟩)), (0, .pointer (some ⟨bp, 0, none⟩))] ∧ Mem w (fun b => b = bp) wc [(gr1_26, .cells [.int .i64 0, .int .i64 0, .bool false, .int .i64 0]), (g2, .cells [.int .i64 0, .int .i64 0, .bool false, .int .i64 0]), (g1, .cells [.int .i64 lo, .int .i64 wi, .int .i64 a0, .int .i64 a1, .int .i64 c0, .int .i64 c1, .slice A m c]), (bp, .cells [.int .u64 sur1_22])]) (Zpb 28 75497471) 4 ?_ ?_
 ·clear T M
  rintro ac wc ⟨xur1_8, sur1_8, xur1_17, sur1_17, bur1_19, sur1_19, xur1_22, sur1_22, hxur1_8, hsur1_8, hxur1_17, hsur1_17, hsur1_19, hxur1_22, hsur1_22, gr1_26, T, M⟩
  refine gw 23 83886079 ?_; intro K hK
  refine ow_bs (e := 3) [.int .i64 0, .int .i64 0, .int .i64 0, .int .i64 xur1_22] M T rfl rfl rfl rfl (.cons evc (.cons evc (.cons evc (.cons (T.e 1 rfl) .nil)))) (fun _ => by kernel_rfl) ?_; clear M T; intro gr1_23 wc ac M T
  refine Zso hK _ _ (MA.mk (fun h => (no_of (by kernel_rfl) h).elim) (M.mask [false, false, true, true, false] rfl)) ?_; clear hK K
  exact H4 _ _ ⟨xur1_8, sur1_8, xur1_17, sur1_17, bur1_19, sur1_19, xur1_22, sur1_22, hxur1_8, hsur1_8, hxur1_17, hsur1_17, hsur1_19, hxur1_22, hsur1_22, gr1_26, gr1_23, T.pick [1, 0, 2, 3, 4, 5, 6, 7, 8, 9, 10, 11, 12, 13, 14, 15, 16, 17, 18, 19, 20, 21, 22, 23, 24, 25, 26, 27] rfl, M.perm [1, 0, 2, 3, 4] rfl rfl⟩
 intro H3
 refine g_have (fun ac wc => ∃ (xur1_8 : Int), ∃ (sur1_8 : Int), ∃ (xur1_17 : Int), ∃ (sur1_17 : Int), ∃ (bur1_19 : Bool), ∃ (sur1_19 : Int), (1 ≤ xur1_8 ∧ xur1_8 ≤ (max 1 (lo - a1))) ∧ (u64ok sur1_8) ∧ (1 ≤ xur1_17 ∧ xur1_17 ≤ (max 1 (wi - c1))) ∧ (u64ok sur1_17) ∧ (u64ok sur1_19) ∧ ∃ (gr1_26 : Nat), Tm ac 38 [(5, .pointer (some ⟨gr1_26, 0, none⟩)), (25, .bool bur1_19), (23, .int .i64 xur1_17), (14, .int .i64 xur1_8), (27, .pointer (some ⟨bp, 0, none⟩)), (26, .pointer (some ⟨bp, 0, none⟩)), (24, .pointer (some ⟨bp, 0, none⟩)), (22, .int .i64 (max 1 (wi - c1))), (21, .int .i64 (wi - c1)), (20, .int .i64 c1), (19, .pointer (some ⟨g1, 5, none⟩)), (18, .pointer (some ⟨g1, 4, none⟩)), (17, .int .i64 wi), (16, .pointer (some ⟨g1, 1, none⟩)), (15, .pointer (some ⟨bp, 0, none⟩)), (13, .int .i64 (max 1 (lo - a1))), (12, .int .i64 (lo - a1)), (11, .int .i64 a1), (10, .pointer (some ⟨g1, 3, none⟩)), (9, .pointer (some ⟨g1, 2, none⟩)), (8, .int .i64 lo), (7, .pointer (some ⟨g1, 0, none⟩)), (6, .pointer (some ⟨bp, 0, none⟩)), (4, .pointer (some ⟨g2, 0, none⟩)), (3, .pointer (some ⟨g1, 0, none⟩)), (0, .pointer (some ⟨bp, 0, none⟩))] ∧ Mem w (fun b => b = bp) wc [(gr1_26, .cells [.int .i64 0, .int .i64 0, .bool false, .int .i64 0]), (g2, .cells [.int .i64 0, .int .i64 0, .bool false, .int .i64 0]), (g1, .cells [.int .i64 lo, .int .i64 wi, .int .i64 a0, .int .i64 a1, .int .i64 c0, .int .i64 c1, .slice A m c]), (bp, .cells [.int .u64 sur1_19])]) (Zpb 28 71303167) 5 ?_ ?_
 ·clear T M
  rintro ac wc ⟨xur1_8, sur1_8, xur1_17, sur1_17, bur1_19, sur1_19, hxur1_8, hsur1_8, hxur1_17, hsur1_17, hsur1_19, gr1_26, T, M⟩
  refine gw 22 75497471 ?_; intro K hK
  refine Zoc (first := []) (cap := []) T rfl rfl rfl rfl evf (.cons (T.e 4 rfl) (.cons evc .nil)) Tryd.func21 rfl rfl ?_
  refine Calls.mono (upto_any _ bp 3 _ (by omega) (by omega) (M.nth 3 rfl) hsur1_19) ?_
  clear T; rintro e wc ⟨xur1_22, sur1_22, hxur1_22, hsur1_22, rfl, hgr, hbk⟩ ac T
  replace M := M.callC (cs' := [.int .u64 sur1_22]) (.tail (.tail (.tail .head))) hgr hbk
  clear hgr hbk
  refine Zso hK _ _ (MA.mk (fun h => (no_of (by kernel_rfl) h).elim) (M.mask [false, true, true, false] rfl)) ?_; clear hK K
  exact H3 _ _ ⟨xur1_8, sur1_8, xur1_17, sur1_17, bur1_19, sur1_19, xur1_22, sur1_22, hxur1_8, hsur1_8, hxur1_17, hsur1_17, hsur1_19, hxur1_22, hsur1_22, gr1_26, T.pick [1, 0, 2, 3, 4, 5, 6, 7, 8, 9, 10, 11, 12, 13, 14, 15, 16, 17, 18, 19, 20, 21, 22, 23, 24, 25, 26] rfl, M⟩
 intro H2
 refine g_have (fun ac wc => ∃ (xur1_8 : Int), ∃ (sur1_8 : Int), ∃ (xur1_17 : Int), ∃ (sur1_17 : Int), (1 ≤ xur1_8 ∧ xur1_8 ≤ (max 1 (lo - a1))) ∧ (u64ok sur1_8) ∧ (1 ≤ xur1_17 ∧ xur1_17 ≤ (max 1 (wi - c1))) ∧ (u64ok sur1_17) ∧ ∃ (gr1_26 : Nat), Tm ac 38 [(5, .pointer (some ⟨gr1_26, 0, none⟩)), (23, .int .i64 xur1_17), (14, .int .i64 xur1_8), (27, .pointer (some ⟨bp, 0, none⟩)), (26, .pointer (some ⟨bp, 0, none⟩)), (24, .pointer (some ⟨bp, 0, none⟩)), (22, .int .i64 (max 1 (wi - c1))), (21, .int .i64 (wi - c1)), (20, .int .i64 c1), (19, .pointer (some ⟨g1, 5, none⟩)), (18, .pointer (some ⟨g1, 4, none⟩)), (17, .int .i64 wi), (16, .pointer (some ⟨g1, 1, none⟩)), (15, .pointer (some ⟨bp, 0, none⟩)), (13, .int .i64 (max 1 (lo - a1))), (12, .int .i64 (lo - a1)), (11, .int .i64 a1), (10, .pointer (some ⟨g1, 3, none⟩)), (9, .pointer (some ⟨g1, 2, none⟩)), (8, .int .i64 lo), (7, .pointer (some ⟨g1, 0, none⟩)), (6, .pointer (some ⟨bp, 0, none⟩)), (4, .pointer (some ⟨g2, 0, none⟩)), (3, .pointer (some ⟨g1, 0, none⟩)), (0, .pointer (some ⟨bp, 0, none⟩))] ∧ Mem w (fun b => b = bp) wc [(gr1_26, .cells [.int .i64 0, .int .i64 0, .bool false, .int .i64 0]), (g2, .cells [.int .i64 0, .int .i64 0, .bool false, .int .i64 0]), (g1, .cells [.int .i64 lo, .int .i64 wi, .int .i64 a0, .int .i64 a1, .int .i64 c0, .int .i64 c1, .slice A m c]), (bp, .cells [.int .u64 sur1_17])]) (Zpb 28 70778879) 6 ?_ ?_
 ·clear T M
  rintro ac wc ⟨xur1_8, sur1_8, xur1_17, sur1_17, hxur1_8, hsur1_8, hxur1_17, hsur1_17, gr1_26, T, M⟩
  refine gw 19 71303167 ?_; intro K hK
  refine Zoc (first := []) (cap := []) T rfl rfl rfl rfl evf (.cons (T.e 5 rfl) (.cons evc (.cons evc .nil))) Tryd.func23 rfl rfl ?_
  refine Calls.mono (odds_any _ bp 1 3 _ (by omega) (by omega) (M.nth 3 rfl) hsur1_17) ?_
  clear T; rintro e wc ⟨bur1_19, sur1_19, hsur1_19, rfl, hgr, hbk⟩ ac T
  replace M := M.callC (cs' := [.int .u64 sur1_19]) (.tail (.tail (.tail .head))) hgr hbk
  clear hgr hbk
  refine Zso hK _ _ (MA.mk (fun h => (no_of (by kernel_rfl) h).elim) (M.mask [false, true, true, false] rfl)) ?_; clear hK K
  exact H2 _ _ ⟨xur1_8, sur1_8, xur1_17, sur1_17, bur1_19, sur1_19, hxur1_8, hsur1_8, hxur1_17, hsur1_17, hsur1_19, gr1_26, T.pick [1, 0, 2, 3, 4, 5, 6, 7, 8, 9, 10, 11, 12, 13, 14, 15, 16, 17, 18, 19, 20, 21, 22, 23, 24, 25] rfl, M⟩
 intro H1
 refine g_have (fun ac wc => ∃ (xur1_8 : Int), ∃ (sur1_8 : Int), (1 ≤ xur1_8 ∧ xur1_8 ≤ (max 1 (lo - a1))) ∧ (u64ok sur1_8) ∧ ∃ (gr1_26 : Nat), Tm ac 38 [(5, .pointer (some ⟨gr1_26, 0, none⟩)), (14, .int .i64 xur1_8), (27, .pointer (some ⟨bp, 0, none⟩)), (26, .pointer (some ⟨bp, 0, none⟩)), (24, .pointer (some ⟨bp, 0, none⟩)), (22, .int .i64 (max 1 (wi - c1))), (21, .int .i64 (wi - c1)), (20, .int .i64 c1), (19, .pointer (some ⟨g1, 5, none⟩)), (18, .pointer (some ⟨g1, 4, none⟩)), (17, .int .i64 wi), (16, .pointer (some ⟨g1, 1, none⟩)), (15, .pointer (some ⟨bp, 0, none⟩)), (13, .int .i64 (max 1 (lo - a1))), (12, .int .i64 (lo - a1)), (11, .int .i64 a1), (10, .pointer (some ⟨g1, 3, none⟩)), (9, .pointer (some ⟨g1, 2, none⟩)), (8, .int .i64 lo), (7, .pointer (some ⟨g1, 0, none⟩)), (6, .pointer (some ⟨bp, 0, none⟩)), (4, .pointer (some ⟨g2, 0, none⟩)), (3, .pointer (some ⟨g1, 0, none⟩)), (0, .pointer (some ⟨bp, 0, none⟩))] ∧ Mem w (fun b => b = bp) wc [(gr1_26, .cells [.int .i64 0, .int .i64 0, .bool false, .int .i64 0]), (g2, .cells [.int .i64 0, .int .i64 0, .bool false, .int .i64 0]), (g1, .cells [.int .i64 lo, .int .i64 wi, .int .i64 a0, .int .i64 a1, .int .i64 c0, .int .i64 c1, .slice A m c]), (bp, .cells [.int .u64 sur1_8])]) (Zpb 28 70647807) 7 ?_ ?_
 ·clear T M
  rintro ac wc ⟨xur1_8, sur1_8, hxur1_8, hsur1_8, gr1_26, T, M⟩
  refine gw 17 70778879 ?_; intro K hK
  refine Zoc (first := []) (cap := []) T rfl rfl rfl rfl evf (.cons (T.e 12 rfl) (.cons evc (.cons (T.e 5 rfl) .nil))) Tryd.func39 rfl rfl ?_
  refine Calls.mono (within_pot _ bp 1 (max 1 (wi - c1)) _ (by omega) (by omega) (by omega) (M.nth 3 rfl) hsur1_8) ?_
  clear T; rintro e wc ⟨xur1_17, sur1_17, hxur1_17, hsur1_17, rfl, hgr, hbk⟩ ac T
  replace M := M.callC (cs' := [.int .u64 sur1_17]) (.tail (.tail (.tail .head))) hgr hbk
  clear hgr hbk
  refine Zso hK _ _ (MA.mk (fun h => (no_of (by kernel_rfl) h).elim) (M.mask [false, true, true, false] rfl)) ?_; clear hK K
  exact H1 _ _ ⟨xur1_8, sur1_8, xur1_17, sur1_17, hxur1_8, hsur1_8, hxur1_17, hsur1_17, gr1_26, T.pick [1, 0, 2, 3, 4, 5, 6, 7, 8, 9, 10, 11, 12, 13, 14, 15, 16, 17, 18, 19, 20, 21, 22, 23, 24] rfl, M⟩
 intro H0
 refine gq T 0 1 rfl (fun _ _ _ _ _ => (Zrm rfl (T.e 2 rfl))) ?_; clear T ac; intro ac T
 refine gq (v := (.pointer (some ⟨g1, 0, none⟩))) T 1 3 rfl (fun _ _ _ _ _ => (Zrf (off := 0) rfl (T.e 2 rfl) (fun _ _ _ => by kernel_rfl))) ?_; clear T ac; intro ac T
 refine gq T 2 7 rfl (fun B w' hD hl hS => (Zro (Mem.nth (show Mem w (fun b => b = bp) w' _ from ((MA.lft hS) (hD.wait (i := 7) (m := 8) (by kernel_rfl) (hD.wait (i := 6) (m := 7) (by kernel_rfl) (hD.wait (i := 2) (m := 6) (by kernel_rfl) hl))))) 1 rfl) rfl (T.e 0 rfl) rfl)) ?_; clear T ac; intro ac T
 refine gq (v := (.pointer (some ⟨g1, 2, none⟩))) T 3 15 rfl (fun _ _ _ _ _ => (Zrf (off := 2) rfl (T.e 4 rfl) (fun _ _ _ => by kernel_rfl))) ?_; clear T ac; intro ac T
 refine gq (v := (.pointer (some ⟨g1, 3, none⟩))) T 4 31 rfl (fun _ _ _ _ _ => (Zrf (off := 1) rfl (T.e 0 rfl) (fun _ _ _ => by kernel_rfl))) ?_; clear T ac; intro ac T
 refine gq T 5 63 rfl (fun B w' hD hl hS => (Zro (Mem.nth (show Mem w (fun b => b = bp) w' _ from ((MA.lft hS) (hD.wait (i := 7) (m := 8) (by kernel_rfl) (hD.wait (i := 6) (m := 7) (by kernel_rfl) (hD.wait (i := 5) (m := 6) (by kernel_rfl) hl))))) 1 rfl) rfl (T.e 0 rfl) rfl)) ?_; clear T ac; intro ac T
 refine gq T 6 127 rfl (fun _ _ _ _ _ => (rn_sub rfl (T.e 3 rfl) (T.e 0 rfl) (by omega))) ?_; clear T ac; intro ac T
 refine gq T 7 255 rfl (fun _ _ _ _ _ => (rn_max2 rfl evc (T.e 0 rfl))) ?_; clear T ac; intro ac T
 refine gq T 9 767 rfl (fun _ _ _ _ _ => (Zrm rfl (T.e 10 rfl))) ?_; clear T ac; intro ac T
 refine gq (v := (.pointer (some ⟨g1, 1, none⟩))) T 10 1791 rfl (fun _ _ _ _ _ => (Zrf (off := 1) rfl (T.e 10 rfl) (fun _ _ _ => by kernel_rfl))) ?_; clear T ac; intro ac T
 refine gq T 11 3839 rfl (fun B w' hD hl hS => (Zro (Mem.nth (show Mem w (fun b => b = bp) w' _ from (MA.rgt hS)) 1 rfl) rfl (T.e 0 rfl) rfl)) ?_; clear T ac; intro ac T
 refine gq (v := (.pointer (some ⟨g1, 4, none⟩))) T 12 7935 rfl (fun _ _ _ _ _ => (Zrf (off := 4) rfl (T.e 12 rfl) (fun _ _ _ => by kernel_rfl))) ?_; clear T ac; intro ac T
 refine gq (v := (.pointer (some ⟨g1, 5, none⟩))) T 13 16127 rfl (fun _ _ _ _ _ => (Zrf (off := 1) rfl (T.e 0 rfl) (fun _ _ _ => by kernel_rfl))) ?_; clear T ac; intro ac T
 refine gq T 14 32511 rfl (fun B w' hD hl hS => (Zro (Mem.nth (show Mem w (fun b => b = bp) w' _ from (MA.rgt hS)) 1 rfl) rfl (T.e 0 rfl) rfl)) ?_; clear T ac; intro ac T
 refine gq T 15 65279 rfl (fun _ _ _ _ _ => (rn_sub rfl (T.e 3 rfl) (T.e 0 rfl) (by omega))) ?_; clear T ac; intro ac T
 refine gq T 16 130815 rfl (fun _ _ _ _ _ => (rn_max2 rfl evc (T.e 0 rfl))) ?_; clear T ac; intro ac T
 refine gq T 18 392959 rfl (fun _ _ _ _ _ => (Zrm rfl (T.e 18 rfl))) ?_; clear T ac; intro ac T
 refine gq T 20 1441535 rfl (fun _ _ _ _ _ => (Zrm rfl (T.e 19 rfl))) ?_; clear T ac; intro ac T
 refine gq T 21 3538687 rfl (fun _ _ _ _ _ => (Zrm rfl (T.e 20 rfl))) ?_; clear T ac; intro ac T
 refine g_m2 (i := 8) (j := 26) (by kernel_rfl) ?_ ?_
 ·refine gi 3538943 ?_; intro K hK
  refine Zoc (first := []) (cap := []) T rfl rfl rfl rfl evf (.cons (T.e 18 rfl) (.cons evc (.cons (T.e 11 rfl) .nil))) Tryd.func39 rfl rfl ?_
  refine Calls.mono (within_pot _ bp 1 (max 1 (lo - a1)) _ (by omega) (by omega) (by omega) (M.nth 2 rfl) hs) ?_
  clear T; rintro e wc ⟨xur1_8, sur1_8, hxur1_8, hsur1_8, rfl, hgr, hbk⟩ ac T
  replace M := M.callC (cs' := [.int .u64 sur1_8]) (.tail (.tail .head)) hgr hbk
  clear hgr hbk
  refine Zso hK _ _ (MA.mk (fun h => (no_of (by kernel_rfl) h).elim) (M.mask [true, true, false] rfl)) ?_; clear hK K
  refine g_m2 (i := 17) (j := 26) (by kernel_rfl) ?_ ?_
  ·refine gi 3670015 ?_; intro K hK
   refine Zoc (first := []) (cap := []) T rfl rfl rfl rfl evf (.cons (T.e 11 rfl) (.cons evc (.cons (T.e 4 rfl) .nil))) Tryd.func39 rfl rfl ?_
   refine Calls.mono (within_pot _ bp 1 (max 1 (wi - c1)) _ (by omega) (by omega) (by omega) (M.nth 2 rfl) hsur1_8) ?_
   clear T; rintro e wc ⟨xur1_17, sur1_17, hxur1_17, hsur1_17, rfl, hgr, hbk⟩ ac T
   replace M := M.callC (cs' := [.int .u64 sur1_17]) (.tail (.tail .head)) hgr hbk
   clear hgr hbk
   refine Zso hK _ _ (MA.mk (fun h => (no_of (by kernel_rfl) h).elim) (M.mask [true, true, false] rfl)) ?_; clear hK K
   refine g_m2 (i := 19) (j := 26) (by kernel_rfl) ?_ ?_
   ·refine gi 4194303 ?_; intro K hK
    refine Zoc (first := []) (cap := []) T rfl rfl rfl rfl evf (.cons (T.e 4 rfl) (.cons evc (.cons evc .nil))) Tryd.func23 rfl rfl ?_
    refine Calls.mono (odds_any _ bp 1 3 _ (by omega) (by omega) (M.nth 2 rfl) hsur1_17) ?_
    clear T; rintro e wc ⟨bur1_19, sur1_19, hsur1_19, rfl, hgr, hbk⟩ ac T
    replace M := M.callC (cs' := [.int .u64 sur1_19]) (.tail (.tail .head)) hgr hbk
    clear hgr hbk
    refine Zso hK _ _ (MA.mk (fun h => (no_of (by kernel_rfl) h).elim) (M.mask [true, true, false] rfl)) ?_; clear hK K
    refine g_m2 (i := 22) (j := 26) (by kernel_rfl) ?_ ?_
    ·refine gi 8388607 ?_; intro K hK
     refine Zoc (first := []) (cap := []) T rfl rfl rfl rfl evf (.cons (T.e 3 rfl) (.cons evc .nil)) Tryd.func21 rfl rfl ?_
     refine Calls.mono (upto_any _ bp 3 _ (by omega) (by omega) (M.nth 2 rfl) hsur1_19) ?_
     clear T; rintro e wc ⟨xur1_22, sur1_22, hxur1_22, hsur1_22, rfl, hgr, hbk⟩ ac T
     replace M := M.callC (cs' := [.int .u64 sur1_22]) (.tail (.tail .head)) hgr hbk
     clear hgr hbk
     refine Zso hK _ _ (MA.mk (fun h => (no_of (by kernel_rfl) h).elim) (M.mask [true, true, false] rfl)) ?_; clear hK K
     refine g_m2 (i := 23) (j := 26) (by kernel_rfl) ?_ ?_
     ·refine gi 16777215 ?_; intro K hK
      refine ow_bs (e := 3) [.int .i64 0, .int .i64 0, .int .i64 0, .int .i64 xur1_22] M T rfl rfl rfl rfl (.cons evc (.cons evc (.cons evc (.cons (T.e 0 rfl) .nil)))) (fun _ => by kernel_rfl) ?_; clear M T; intro gr1_23 wc ac M T
      refine Zso hK _ _ (MA.mk (fun h => (no_of (by kernel_rfl) h).elim) (M.mask [false, true, true, false] rfl)) ?_; clear hK K
      refine g_m2 (i := 24) (j := 26) (by kernel_rfl) ?_ ?_
      ·refine gi 33554431 ?_; intro K hK
       refine Zoc (first := []) (cap := []) T rfl rfl rfl rfl evf (.cons (T.e 6 rfl) (.cons (T.e 0 rfl) .nil)) Tryd.func85 rfl rfl ?_
       refine Calls.mono (of_any _ bp _ 4 4 [0, 0, 0, xur1_22] _ (M.rdOwn (Zne (i := 0) rfl) rfl rfl) (M.nee 0 3 rfl rfl rfl) (by decide) (by decide) (M.nth 3 rfl) hsur1_22) ?_
       clear T; rintro e wc ⟨xur1_24, sur1_24, hxur1_24, hsur1_24, rfl, hgr, hbk⟩ ac T
       replace M := M.callC (cs' := [.int .u64 sur1_24]) (.tail (.tail (.tail .head))) hgr hbk
       clear hgr hbk
       simp only [List.mem_cons, List.not_mem_nil, or_false] at hxur1_24
       refine Zso hK _ _ (MA.mk (fun h => (no_of (by kernel_rfl) h).elim) (M.mask [false, true, true, false] rfl)) ?_; clear hK K
       refine gq (v := (.agg #[.int .i64 xur1_8, .int .i64 xur1_17, .bool bur1_19, .int .i64 xur1_24])) T 25 67108863 rfl (fun _ _ _ _ _ => (rn_build rfl (.cons (T.e 5 rfl) (.cons (T.e 4 rfl) (.cons (T.e 3 rfl) (.cons (T.e 0 rfl) .nil)))) (fun _ => by kernel_rfl))) ?_; clear T ac; intro ac T
       refine gw 26 134217727 ?_; intro K hK
       refine Zoa M T rfl rfl rfl rfl ?_; clear M T; intro gr1_26 wc ac M T
       refine Zso hK _ _ (MA.mk (fun h => (no_of (by kernel_rfl) h).elim) (M.mask [false, false, true, true, false] rfl)) ?_; clear hK K
       exact H5 _ _ ⟨xur1_8, sur1_8, xur1_17, sur1_17, bur1_19, sur1_19, xur1_22, sur1_22, xur1_24, sur1_24, hxur1_8, hsur1_8, hxur1_17, hsur1_17, hsur1_19, hxur1_22, hsur1_22, hxur1_24, hsur1_24, gr1_26, gr1_23, T, M⟩
      refine gi 83886079 ?_; intro K hK
      refine Zoa M T rfl rfl rfl rfl ?_; clear M T; intro gr1_26 wc ac M T
      refine Zso hK _ _ (MA.mk (fun h => (no_of (by kernel_rfl) h).elim) (M.mask [false, false, true, true, false] rfl)) ?_; clear hK K
      exact H4 _ _ ⟨xur1_8, sur1_8, xur1_17, sur1_17, bur1_19, sur1_19, xur1_22, sur1_22, hxur1_8, hsur1_8, hxur1_17, hsur1_17, hsur1_19, hxur1_22, hsur1_22, gr1_26, gr1_23, T, M⟩
     refine gi 75497471 ?_; intro K hK
     refine Zoa M T rfl rfl rfl rfl ?_; clear M T; intro gr1_26 wc ac M T
     refine Zso hK _ _ (MA.mk (fun h => (no_of (by kernel_rfl) h).elim) (M.mask [false, true, true, false] rfl)) ?_; clear hK K
     exact H3 _ _ ⟨xur1_8, sur1_8, xur1_17, sur1_17, bur1_19, sur1_19, xur1_22, sur1_22, hxur1_8, hsur1_8, hxur1_17, hsur1_17, hsur1_19, hxur1_22, hsur1_22, gr1_26, T, M⟩
    refine gi 71303167 ?_; intro K hK
    refine Zoa M T rfl rfl rfl rfl ?_; clear M T; intro gr1_26 wc ac M T
    refine Zso hK _ _ (MA.mk (fun h => (no_of (by kernel_rfl) h).elim) (M.mask [false, true, true, false] rfl)) ?_; clear hK K
    exact H2 _ _ ⟨xur1_8, sur1_8, xur1_17, sur1_17, bur1_19, sur1_19, hxur1_8, hsur1_8, hxur1_17, hsur1_17, hsur1_19, gr1_26, T, M⟩
   refine gi 70778879 ?_; intro K hK
   refine Zoa M T rfl rfl rfl rfl ?_; clear M T; intro gr1_26 wc ac M T
   refine Zso hK _ _ (MA.mk (fun h => (no_of (by kernel_rfl) h).elim) (M.mask [false, true, true, false] rfl)) ?_; clear hK K
   exact H1 _ _ ⟨xur1_8, sur1_8, xur1_17, sur1_17, hxur1_8, hsur1_8, hxur1_17, hsur1_17, gr1_26, T, M⟩
  refine gi 70647807 ?_; intro K hK
  refine Zoa M T rfl rfl rfl rfl ?_; clear M T; intro gr1_26 wc ac M T
  refine Zso hK _ _ (MA.mk (fun h => (no_of (by kernel_rfl) h).elim) (M.mask [false, true, true, false] rfl)) ?_; clear hK K
  exact H0 _ _ ⟨xur1_8, sur1_8, hxur1_8, hsur1_8, gr1_26, T, M⟩
 refine gi 70647551 ?_; intro K hK
 refine Zoa M T rfl rfl rfl rfl ?_; clear M T; intro gr1_26 wc ac M T
 refine Zso hK _ _ (MA.mk (fun _ => M.mask [false, true, true, true] rfl) (M.mask [false, true, true, false] rfl)) ?_; clear hK K
 refine gw 8 70647807 ?_; intro K hK
 refine Zoc (first := []) (cap := []) T rfl rfl rfl rfl evf (.cons (T.e 19 rfl) (.cons evc (.cons (T.e 12 rfl) .nil))) Tryd.func39 rfl rfl ?_
 refine Calls.mono (within_pot _ bp 1 (max 1 (lo - a1)) _ (by omega) (by omega) (by omega) (M.nth 3 rfl) hs) ?_
 clear T; rintro e wc ⟨xur1_8, sur1_8, hxur1_8, hsur1_8, rfl, hgr, hbk⟩ ac T
 replace M := M.callC (cs' := [.int .u64 sur1_8]) (.tail (.tail (.tail .head))) hgr hbk
 clear hgr hbk
 refine Zso hK _ _ (MA.mk (fun h => (no_of (by kernel_rfl) h).elim) (M.mask [false, true, true, false] rfl)) ?_; clear hK K
 exact H0 _ _ ⟨xur1_8, sur1_8, hxur1_8, hsur1_8, gr1_26, T.pick [1, 0, 2, 3, 4, 5, 6, 7, 8, 9, 10, 11, 12, 13, 14, 15, 16, 17, 18, 19, 20, 21, 22, 23] rfl, M⟩
set_option maxHeartbeats 2000000 in
theorem sheetOf_any (s : Int) (bp : Nat) (side parts : Int)  (w : World) (h1 : 2 ≤ side ∧ side ≤ 12) (h2 : 0 ≤ parts ∧ parts ≤ 5) (hp : Bk w bp #[.int .u64 s]) (hs : u64ok s) :
   Calls Tryd.prog 19 #[.pointer (some ⟨bp, 0, none⟩), .int .i64 side, .int .i64 parts] w (SkOfPost bp side parts w) := by
 refine Zpx (fun b => b = bp) Tryd.func19 rfl 40 rfl [.pointer (some ⟨bp, 0, none⟩), .int .i64 side, .int .i64 parts] rfl rfl (Mem.initEx (p := .cells [.int .u64 s]) hp) ?_
 intro ac wc T M
 refine Zsr ?_
 refine Zl2 ?_
 refine Zoa M T rfl rfl rfl rfl ?_; clear M T; intro g1 wc ac M T
 refine Zln ?_
 refine Zsr ?_
 refine Zg2 T (Zq (Zrm rfl (T.e 1 rfl))) rfl (Zm 3 rfl rfl) rfl ?_; clear T ac; intro ac T
 refine Zl2 ?_
 refine Zoc (first := []) (cap := []) T rfl rfl rfl rfl evf (.cons (T.e 1 rfl) (.cons evc (.cons (T.e 0 rfl) .nil))) Tryd.func39 rfl rfl ?_
 refine Calls.mono (within_pot _ bp 2 side _ (by omega) (by omega) (by omega) (M.nth 1 rfl) hs) ?_
 clear T; rintro e wc ⟨xu1, su1, hxu1, hsu1, rfl, hgr, hbk⟩ ac T
 replace M := M.callC (cs' := [.int .u64 su1]) (.tail .head) hgr hbk
 clear hgr hbk
 refine Zg2 T (Zq (Zrm rfl (T.e 4 rfl))) rfl (Zm 6 rfl rfl) rfl ?_; clear T ac; intro ac T
 refine Zl2 ?_
 refine Zoc (first := []) (cap := []) T rfl rfl rfl rfl evf (.cons (T.e 1 rfl) (.cons evc (.cons (T.e 0 rfl) .nil))) Tryd.func39 rfl rfl ?_
 refine Calls.mono (within_pot _ bp 2 side _ (by omega) (by omega) (by omega) (M.nth 1 rfl) hsu1) ?_
 clear T; rintro e wc ⟨xu2, su2, hxu2, hsu2, rfl, hgr, hbk⟩ ac T
 replace M := M.callC (cs' := [.int .u64 su2]) (.tail .head) hgr hbk
 clear hgr hbk
 refine Zg2 T (Zq (Zrm rfl (T.e 7 rfl))) rfl (Zm 8 rfl rfl) rfl ?_; clear T ac; intro ac T
 refine Zl2 ?_
 refine Zoc (first := []) (cap := []) T rfl rfl rfl rfl evf (.cons (T.e 0 rfl) (.cons evc .nil)) Tryd.func21 rfl rfl ?_
 refine Calls.mono (upto_any _ bp 1 _ (by omega) (by omega) (M.nth 1 rfl) hsu2) ?_
 clear T; rintro e wc ⟨xu3, su3, hxu3, hsu3, rfl, hgr, hbk⟩ ac T
 replace M := M.callC (cs' := [.int .u64 su3]) (.tail .head) hgr hbk
 clear hgr hbk
 refine Zl2 ?_
 refine Zoc (first := []) (cap := []) T rfl rfl rfl rfl evf (.cons (T.e 2 rfl) (.cons (T.e 0 rfl) (.cons evc (.cons evc (.cons evc .nil))))) Tryd.func64 rfl rfl ?_
 refine Calls.mono (near_pot _ bp xu3 0 2 1 _ (by omega) (by omega) (by omega) (by omega) (by omega) (by omega) (M.nth 1 rfl) hsu3) ?_
 clear T; rintro e wc ⟨xu4, yu4, su4, hxu4, hsu4, rfl, hgr, hbk⟩ ac T
 replace M := M.callC (cs' := [.int .u64 su4]) (.tail .head) hgr hbk
 clear hgr hbk
 refine Zg2 T (Zq (Zrm rfl (T.e 11 rfl))) rfl (Zm 12 rfl rfl) rfl ?_; clear T ac; intro ac T
 refine Zl2 ?_
 refine Zoc (first := []) (cap := []) T rfl rfl rfl rfl evf (.cons (T.e 0 rfl) (.cons evc .nil)) Tryd.func21 rfl rfl ?_
 refine Calls.mono (upto_any _ bp 1 _ (by omega) (by omega) (M.nth 1 rfl) hsu4) ?_
 clear T; rintro e wc ⟨xu5, su5, hxu5, hsu5, rfl, hgr, hbk⟩ ac T
 replace M := M.callC (cs' := [.int .u64 su5]) (.tail .head) hgr hbk
 clear hgr hbk
 refine Zl2 ?_
 refine Zoc (first := []) (cap := []) T rfl rfl rfl rfl evf (.cons (T.e 2 rfl) (.cons (T.e 0 rfl) (.cons evc (.cons evc (.cons evc .nil))))) Tryd.func64 rfl rfl ?_
 refine Calls.mono (near_pot _ bp xu5 0 2 1 _ (by omega) (by omega) (by omega) (by omega) (by omega) (by omega) (M.nth 1 rfl) hsu5) ?_
 clear T; rintro e wc ⟨xu6, yu6, su6, hxu6, hsu6, rfl, hgr, hbk⟩ ac T
 replace M := M.callC (cs' := [.int .u64 su6]) (.tail .head) hgr hbk
 clear hgr hbk
 refine lq (v := (.agg #[.int .i64 xu1, .int .i64 xu2, .int .i64 xu4, .int .i64 yu4, .int .i64 xu6, .int .i64 yu6, .slice none 0 0])) T (rn_build rfl (.cons (T.e 11 rfl) (.cons (T.e 8 rfl) (.cons (T.e 4 rfl) (.cons (T.e 0 rfl) .nil)))) (fun _ => by kernel_rfl)) ?_; clear T ac; intro ac T
 refine Zl2 ?_
 refine Zoa M T rfl rfl rfl rfl ?_; clear M T; intro g2 wc ac M T
 refine Zl2 ?_
 refine Zos M T rfl rfl (T.e 0 rfl) (T.e 1 rfl) rfl .head rfl (by simp) rfl (by kernel_rfl) ?_; clear M T; intro wc ac M T
 refine wpList_nil ?_
 replace T := T.pick [0, 16, 17, 19] rfl
 refine Zns ?_
 refine Zsr ?_
 refine Zg2 T (Zq (Zrm rfl (T.e 2 rfl))) rfl (Zm 4 rfl rfl) rfl ?_; clear T ac; intro ac T
 refine Zl2 ?_
 refine Zoc (first := []) (cap := []) T rfl rfl rfl rfl evf (.cons (T.e 1 rfl) (.cons (T.e 0 rfl) .nil)) Tryd.func21 rfl rfl ?_
 refine Calls.mono (upto_any _ bp parts _ (by omega) (by omega) (M.nth 2 rfl) hsu6) ?_
 clear T; rintro e wc ⟨xu7, su7, hxu7, hsu7, rfl, hgr, hbk⟩ ac T
 replace M := M.callC (cs' := [.int .u64 su7]) (.tail (.tail .head)) hgr hbk
 clear hgr hbk
 refine lq T (Zra rfl (T.e 0 rfl)) ?_; clear T ac; intro ac T
 refine wpList_nil ?_
 replace T := T.pick [0, 4, 5, 6] rfl
 refine nm_then ?_
 refine wp_block ?_
 refine wp_loop_n (fun mz ac wc => ∃ (i : Int) (OL : List Pt) (A3 : Option Addr) (c3 : Nat) (s : Int) (Io : List (Nat × BA)), mz = i.toNat ∧ (0 ≤ i) ∧ ((OL.length : Int) + i ≤ parts) ∧ (∀ q ∈ OL, q.good) ∧ (u64ok s) ∧ (Sl 63 4 (.slice A3 OL.length c3) OL.length (pc OL) Io) ∧ Tm ac 40 [(0, .pointer (some ⟨bp, 0, none⟩)), (6, .pointer (some ⟨g1, 0, none⟩)), (7, .pointer (some ⟨g2, 0, none⟩)), (8, .int .i64 i)] ∧ Mem w (fun b => b = bp) wc ((g2, .cells [.int .i64 xu1, .int .i64 xu2, .int .i64 xu4, .int .i64 yu4, .int .i64 xu6, .int .i64 yu6, .slice A3 OL.length c3]) :: (g1, .cells [.int .i64 0, .int .i64 0, .int .i64 0, .int .i64 0, .int .i64 0, .int .i64 0, .slice none 0 0]) :: (bp, .cells [.int .u64 s]) :: Io)) ?_ ?_
 ·exact ⟨_, _, [], none, 0, _, [], rfl, (by omega), (by simp; omega), (fun q h => by cases h), hsu7, (Sl.nil _ _), T.pick [3, 2, 1, 0] rfl, M.mask [true, true, true] rfl⟩
 clear T M
 rintro mz ac wc ⟨i, OL, A3, c3, s, Io, hmm1, hi, hol, hgO, hs, hsl, T, M⟩
 refine wp_seq ?_
 refine Zsr ?_
 refine Zg2 T (Zq (Zrm rfl (T.e 3 rfl))) rfl (fun _ T => Zq (rn_gtr rfl (T.e 0 rfl) evc)) rfl ?_; clear T ac; intro ac T
 refine wpList_nil ?_
 replace T := T.pick [0, 2, 3, 4, 5] rfl
 refine nm_then ?_
 refine wp_if (T.e 0 rfl) ?_ ?_
 ·intro h1
  refine Zsk ?_
  refine wp_seq ?_
  refine wp_block ?_
  refine Zgs M (M.perm [1] rfl rfl) 9 (by kernel_rfl) rfl (by kernel_rfl) ?_
  clear M; intro wc M
  refine g_addG 4 M ?_
  refine g_addG 8 (M.perm [0, 1] rfl rfl) ?_
  refine gq (v := (.pointer (some ⟨g2, 6, none⟩))) T 0 1 rfl (fun _ _ _ _ _ => (Zrf (off := 6) rfl (T.e 3 rfl) (fun _ _ _ => by kernel_rfl))) ?_; clear T ac; intro ac T
  refine gq T 1 3 rfl (fun B w' hD hl hS => (Zro (Mem.nth (show Mem w (fun b => b = bp) w' _ from ((MA.lft hS) (hD.wait (i := 1) (m := 8) (by kernel_rfl) hl))) 0 rfl) rfl (T.e 0 rfl) rfl)) ?_; clear T ac; intro ac T
  refine gq T 2 7 rfl (fun _ _ _ _ _ => (Zrm rfl (T.e 3 rfl))) ?_; clear T ac; intro ac T
  refine gq T 3 15 rfl (fun B w' hD hl hS => (Zrr (Mem.nth (show Mem w (fun b => b = bp) w' _ from ((MA.lft hS) (hD.wait (i := 3) (m := 8) (by kernel_rfl) hl))) 0 rfl) rfl (T.e 6 rfl) rfl)) ?_; clear T ac; intro ac T
  refine gw 4 31 ?_; intro K hK
  refine Zoc (first := []) (cap := []) T rfl rfl rfl rfl evf (.cons (T.e 1 rfl) (.cons (T.e 0 rfl) .nil)) Tryd.func40 rfl rfl ?_
  refine Calls.mono (partOf_any _ bp xu1 xu2 xu4 yu4 xu6 yu6 A3 OL.length c3 _ (by omega) (by omega) (by omega) (by omega) (M.nth 2 rfl) hs) ?_
  clear T; rintro e wc ⟨pu8, su8, hpu8, hsu8, rfl, hgr, hbk⟩ ac T
  replace M := M.callC (cs' := [.int .u64 su8]) (.tail (.tail .head)) hgr hbk
  clear hgr hbk
  refine Zso hK _ _ (MA.mk (fun _ => M.perm [0, 1] rfl rfl) (MA.mk (fun h => (no_of (by kernel_rfl) h).elim) (M.perm [1] rfl rfl))) ?_; clear hK K
  refine gw 5 63 ?_; intro K hK
  refine ow_bs (e := 63) [.int .i64 pu8.l, .int .i64 pu8.w, .bool pu8.gr, .int .i64 pu8.pa] M T rfl rfl rfl rfl (.cons (T.e 0 rfl) .nil) (fun _ => by kernel_rfl) ?_; clear M T; intro g3 wc ac M T
  refine Zso hK _ _ (MA.mk (fun _ => M.perm [1, 2] rfl rfl) (MA.mk (fun h => (no_of (by kernel_rfl) h).elim) (M.perm [2] rfl rfl))) ?_; clear hK K
  refine gw 6 127 ?_; intro K hK
  refine ow_app ([(g3, .cells [.int .i64 pu8.l, .int .i64 pu8.w, .bool pu8.gr, .int .i64 pu8.pa]), (g2, .cells [.int .i64 xu1, .int .i64 xu2, .int .i64 xu4, .int .i64 yu4, .int .i64 xu6, .int .i64 yu6, .slice A3 OL.length c3]), (g1, .cells [.int .i64 0, .int .i64 0, .int .i64 0, .int .i64 0, .int .i64 0, .int .i64 0, .slice none 0 0]), (bp, .cells [.int .u64 su8])]) Tryd.info63 hsl M (by first | rfl | simp) T rfl rfl rfl rfl Tryd.underlying24 rfl rfl rfl (by omega) (T.e 4 rfl) (T.e 0 rfl) (Zne (i := 0) rfl) rfl rfl ?_; clear M T; intro ga1 cga1 wc ac M T
  refine Zso hK _ _ (MA.mk (fun _ => M.mask [false, false, true, true, false] rfl) (MA.mk (fun h => (no_of (by kernel_rfl) h).elim) (M.mask [false, false, false, true, false] rfl))) ?_; clear hK K
  have e9 : OL.length + 1 = (OL ++ [pu8]).length := by simp
  have e8 : ((pc OL) ++ [.int .i64 pu8.l, .int .i64 pu8.w, .bool pu8.gr, .int .i64 pu8.pa]) = pc (OL ++ [pu8]) := by rw [← pc_snoc]
  rw [e9, e8] at M
  rw [e9] at T
  clear e9 e8
  refine gq (v := (.pointer (some ⟨g2, 6, none⟩))) T 7 255 rfl (fun _ _ _ _ _ => (Zrf (off := 6) rfl (T.e 10 rfl) (fun _ _ _ => by kernel_rfl))) ?_; clear T ac; intro ac T
  refine gw 8 511 ?_; intro K hK
  refine Zos M T rfl rfl (T.e 0 rfl) (T.e 1 rfl) rfl (.tail (.tail .head)) rfl (by simp) rfl (by kernel_rfl) ?_; clear M T; intro wc ac M T
  refine Zso hK _ _ (MA.mk (fun h => (no_of (by kernel_rfl) h).elim) (MA.mk (fun h => (no_of (by kernel_rfl) h).elim) (M.mask [false, false, false, true, false] rfl))) ?_; clear hK K
  refine Zgd (by kernel_rfl) ?_
  replace T := T.pick [9, 10, 11, 12] rfl
  replace M := M.mask [true, false, true, true, true] rfl
  refine Znb ?_
  refine nm_then ?_
  refine wp_region_lit ?_
  refine Zg2 T (Zq (Zrm rfl (T.e 3 rfl))) rfl (fun _ T => Zq (rn_sub rfl (T.e 0 rfl) evc (by omega))) rfl ?_; clear T ac; intro ac T
  refine l_q (v := (.int .i64 (i - 1))) (T.pick [0, 1, 2, 3, 4] rfl) rfl rfl rfl rfl (Zra rfl (T.e 0 rfl)) ?_; clear T ac; intro ac T
  refine wpList_nil ?_
  replace T := T.pick [0, 3, 4, 5] rfl
  refine nm_then ?_
  exact ⟨_, by omega, (i - 1), (OL ++ [pu8]), _, cga1, su8, [(ga1, .row 63 4 (OL ++ [pu8]).length (pc (OL ++ [pu8])) cga1)], rfl, (by omega), (by simp only [List.length_append, List.length_cons, List.length_nil]; omega), (fun q hq => by rcases List.mem_append.1 hq with h9 | h9; exact hgO q h9; rw [List.mem_singleton.1 h9]; exact hpu8), hsu8, (Sl.row _ _ _ _ _ _), T.pick [1, 2, 3, 0] rfl, M.perm [1, 2, 3, 0] rfl rfl⟩
 intro h1
 refine wp_exit ?_
 refine Zet ?_
 refine Zet ?_
 refine ex_hit ?_
 refine nm_then ?_
 refine Zsr ?_
 refine lq T (Zrr (Mem.nth M 0 rfl) rfl (T.e 3 rfl) rfl) ?_; clear T ac; intro ac T
 refine Zl2 ?_
 refine Zos M T rfl rfl (T.e 3 rfl) (T.e 0 rfl) rfl (.tail .head) rfl (by simp) rfl (by kernel_rfl) ?_; clear M T; intro wc ac M T
 refine wpList_nil ?_
 replace T := T.pick [3] rfl
 replace M := M.mask [false, true, true] rfl
 refine Znr ?_
 refine rt_c M T rfl (T.e 0 rfl) (Zne (i := 0) rfl) rfl ?_
 obtain ⟨b9, o9, h9⟩ := hsl.spV (pc_length _)
 have hcap := hsl.capLe M (.cons _ (.cons _ (List.Sublist.refl _)))
 refine ⟨⟨xu1, xu2, xu4, yu4, xu6, yu6, OL⟩, A3, c3, _, Io, rfl, ⟨by dsimp only; omega, by dsimp only; omega, by dsimp only; omega, by dsimp only; omega, by dsimp only; omega, hgO⟩, ⟨by dsimp only; omega, by dsimp only; omega⟩, hs, hcap, ⟨b9, o9, h9⟩, M.mask [false, true] rfl⟩
theorem sel_sub {α : Type} : ∀ (L : List α) (s : Nat), (sel L s).Sublist L
 | [], _ => List.Sublist.refl _
 | x :: L, s => by
  simp only [sel]
  split
  ·exact (sel_sub L _).cons_cons x
  ·exact (sel_sub L _).cons x
def ldA (a c : Int) (L : List Pt) (z : Nat × Spt) : Ld := ldOf a c (L.getD z.1 default) z.2 z.1
structure LayOk (a c : Int) (L : List Pt) (r : Rm) (x y : Int) (A : List (Nat × Spt)) : Prop where
 idx : (A.map (·.1)).Perm (sel (List.range L.length) r.s)
 fit : ∀ z ∈ A, (z.2.t && (L.getD z.1 default).gr) = false
 inn : ∀ z ∈ A, inP (ldA a c L z).ar ⟨x, y, x + r.lo, y + r.wi⟩ = true
 apart : A.Pairwise fun z w => overP (ldA a c L z).ar (ldA a c L w).ar = false
 saw : Saw (A.map (ldA a c L)) ⟨x, y, x + r.lo, y + r.wi⟩
section
variable {a c : Int} {L : List Pt}
theorem size_pos (ha : 0 ≤ a) (hc : 0 ≤ c) {p : Pt} (hp : p.good) (t : Bool) : 1 ≤ sizeL a c p t ∧ 1 ≤ sizeW a c p t := by
 obtain ⟨h1, h2, -⟩ := hp
 unfold sizeL sizeW
 cases t <;> simp <;> omega
theorem LayOk.lt {r : Rm} {x y : Int} {A : List (Nat × Spt)} (h : LayOk a c L r x y A) {z : Nat × Spt} (hz : z ∈ A) : z.1 < L.length := by
 have h1 := (sel_sub _ _).subset (h.idx.subset (List.mem_map.2 ⟨z, hz, rfl⟩))
 exact List.mem_range.1 h1
theorem getD_good (hg : ∀ p ∈ L, p.good) {i : Nat} (hi : i < L.length) : (L.getD i default).good := by
 rw [List.getD_eq_getElem?_getD, List.getElem?_eq_getElem hi]
 exact hg _ (List.getElem_mem hi)
theorem LayOk.join (hg : ∀ p ∈ L, p.good) (ha : 0 ≤ a) (hc : 0 ≤ c) {r ra rb : Rm} {x y xb yb : Int} {A B : List (Nat × Spt)} (h1 : LayOk a c L ra x y A) (h2 : LayOk a c L rb xb yb B)
  (hp : (sel (List.range L.length) r.s).Perm (sel (List.range L.length) ra.s ++ sel (List.range L.length) rb.s)) (hA : A ≠ []) (hB : B ≠ [])
  (hd : (∃ k, 0 < k ∧ k < r.lo ∧ ra.lo = k ∧ ra.wi = r.wi ∧ rb.lo = r.lo - k ∧ rb.wi = r.wi ∧ xb = x + k ∧ yb = y) ∨ ∃ k, 0 < k ∧ k < r.wi ∧ ra.wi = k ∧ ra.lo = r.lo ∧ rb.wi = r.wi - k ∧ rb.lo = r.lo ∧ yb = y + k ∧ xb = x) : LayOk a c L r x y (A ++ B) := by
 have iA : ∀ z ∈ A, x ≤ z.2.x ∧ (ldA a c L z).r ≤ x + ra.lo ∧ y ≤ z.2.y ∧ (ldA a c L z).f ≤ y + ra.wi := fun z hz => inP_iff.1 (h1.inn z hz)
 have iB : ∀ z ∈ B, xb ≤ z.2.x ∧ (ldA a c L z).r ≤ xb + rb.lo ∧ yb ≤ z.2.y ∧ (ldA a c L z).f ≤ yb + rb.wi := fun z hz => inP_iff.1 (h2.inn z hz)
 have pA : ∀ z ∈ A, z.2.x < (ldA a c L z).r ∧ z.2.y < (ldA a c L z).f := fun z hz => by
  have := size_pos ha hc (getD_good hg (h1.lt hz)) z.2.t
  constructor
  ·show z.2.x < z.2.x + _; omega
  ·show z.2.y < z.2.y + _; omega
 have pB : ∀ z ∈ B, z.2.x < (ldA a c L z).r ∧ z.2.y < (ldA a c L z).f := fun z hz => by
  have := size_pos ha hc (getD_good hg (h2.lt hz)) z.2.t
  constructor
  ·show z.2.x < z.2.x + _; omega
  ·show z.2.y < z.2.y + _; omega
 refine ⟨?_, fun z hz => ?_, fun z hz => ?_, ?_, ?_⟩
 ·rw [List.map_append]
  exact (h1.idx.append h2.idx).trans hp.symm
 ·rcases List.mem_append.1 hz with hz | hz
  ·exact h1.fit z hz
  ·exact h2.fit z hz
 ·rw [inP_iff]
  rcases List.mem_append.1 hz with hz | hz
  ·have := iA z hz
   show x ≤ z.2.x ∧ (ldA a c L z).r ≤ x + r.lo ∧ y ≤ z.2.y ∧ (ldA a c L z).f ≤ y + r.wi
   rcases hd with ⟨k, h3⟩ | ⟨k, h3⟩ <;> omega
  ·have := iB z hz
   show x ≤ z.2.x ∧ (ldA a c L z).r ≤ x + r.lo ∧ y ≤ z.2.y ∧ (ldA a c L z).f ≤ y + r.wi
   rcases hd with ⟨k, h3⟩ | ⟨k, h3⟩ <;> omega
 ·refine List.pairwise_append.2 ⟨h1.apart, h2.apart, fun z hz w hw => ?_⟩
  have := iA z hz
  have := iB w hw
  rw [Bool.eq_false_iff]
  intro h9
  simp only [overP, Bool.and_eq_true, decide_eq_true_eq] at h9
  have h8 : z.2.x < (ldA a c L w).r ∧ w.2.x < (ldA a c L z).r ∧ z.2.y < (ldA a c L w).f ∧ w.2.y < (ldA a c L z).f := ⟨h9.1.1.1, h9.1.1.2, h9.1.2, h9.2⟩
  rcases hd with ⟨k, h3⟩ | ⟨k, h3⟩ <;> omega
 ·have split : ∀ (one two : Ar), (∀ z ∈ A, inP (ldA a c L z).ar one = true) → (∀ z ∈ B, inP (ldA a c L z).ar two = true) → (∀ z ∈ B, inP (ldA a c L z).ar one = false) →
    splI ((A ++ B).map (ldA a c L)) one two = true ∧ splA ((A ++ B).map (ldA a c L)) one two = A.map (ldA a c L) ∧ splB ((A ++ B).map (ldA a c L)) one two = B.map (ldA a c L) := by
   intro one two k1 k2 k3
   have eA : spA ((A ++ B).map (ldA a c L)) one = A.map (ldA a c L) := by
    unfold spA
    rw [List.map_append, List.filter_append, List.filter_eq_self.2, List.filter_eq_nil_iff.2, List.append_nil]
    ·intro w hw
     obtain ⟨z, hz, rfl⟩ := List.mem_map.1 hw
     rw [k3 z hz]
     decide
    ·intro w hw
     obtain ⟨z, hz, rfl⟩ := List.mem_map.1 hw
     exact k1 z hz
   have eB : spB ((A ++ B).map (ldA a c L)) one two = B.map (ldA a c L) := by
    unfold spB
    rw [List.map_append, List.filter_append, List.filter_eq_nil_iff.2, List.filter_eq_self.2, List.nil_append]
    ·intro w hw
     obtain ⟨z, hz, rfl⟩ := List.mem_map.1 hw
     rw [k3 z hz, k2 z hz]
     rfl
    ·intro w hw
     obtain ⟨z, hz, rfl⟩ := List.mem_map.1 hw
     rw [k1 z hz]
     simp
   have ok : spOk ((A ++ B).map (ldA a c L)) one two = true := List.all_eq_true.2 fun w hw => by
    obtain ⟨z, hz, rfl⟩ := List.mem_map.1 hw
    rcases List.mem_append.1 hz with hz | hz
    ·rw [k1 z hz]; rfl
    ·rw [k2 z hz]; simp
   refine ⟨?_, ?_, ?_⟩
   ·simp only [splI, ok, eA, eB, Bool.true_and, Bool.and_eq_true, decide_eq_true_eq, List.length_map]
    exact ⟨List.length_pos_iff.2 hA, List.length_pos_iff.2 hB⟩
   ·simp only [splA, if_pos ok, eA]
   ·simp only [splB, if_pos ok, eB]
  rcases hd with ⟨k, k1, k2, k3, k4, k5, k6, k7, k8⟩ | ⟨k, k1, k2, k3, k4, k5, k6, k7, k8⟩
  ·have e1 : (⟨x, y, x + ra.lo, y + ra.wi⟩ : Ar) = (⟨x, y, x + r.lo, y + r.wi⟩ : Ar).al (x + k) := by rw [k3, k4]; rfl
   have e2 : (⟨xb, yb, xb + rb.lo, yb + rb.wi⟩ : Ar) = (⟨x, y, x + r.lo, y + r.wi⟩ : Ar).ar (x + k) := by rw [k5, k6, k7, k8, show x + k + (r.lo - k) = x + r.lo by omega]; rfl
   obtain ⟨s1, s2, s3⟩ := split _ _ (e1 ▸ h1.inn) (e2 ▸ h2.inn) fun z hz => by
    rw [Bool.eq_false_iff, Ne, inP_iff]
    intro h9
    have := iB z hz
    have := pB z hz
    have h8 : (ldA a c L z).r ≤ x + k := h9.2.1
    omega
   exact .along (x + k) (by show x < x + k; omega) (by show x + k < x + r.lo; omega) s1 (by rw [s2, ← e1]; exact h1.saw) (by rw [s3, ← e2]; exact h2.saw)
  ·have e1 : (⟨x, y, x + ra.lo, y + ra.wi⟩ : Ar) = (⟨x, y, x + r.lo, y + r.wi⟩ : Ar).cl (y + k) := by rw [k3, k4]; rfl
   have e2 : (⟨xb, yb, xb + rb.lo, yb + rb.wi⟩ : Ar) = (⟨x, y, x + r.lo, y + r.wi⟩ : Ar).cr (y + k) := by rw [k5, k6, k7, k8, show y + k + (r.wi - k) = y + r.wi by omega]; rfl
   obtain ⟨s1, s2, s3⟩ := split _ _ (e1 ▸ h1.inn) (e2 ▸ h2.inn) fun z hz => by
    rw [Bool.eq_false_iff, Ne, inP_iff]
    intro h9
    have := iB z hz
    have := pB z hz
    have h8 : (ldA a c L z).f ≤ y + k := h9.2.2.2
    omega
   exact .across (y + k) (by show y < y + k; omega) (by show y + k < y + r.wi; omega) s1 (by rw [s2, ← e1]; exact h1.saw) (by rw [s3, ← e2]; exact h2.saw)
theorem LayOk.ne {r : Rm} {x y : Int} {A : List (Nat × Spt)} (h : LayOk a c L r x y A) (h5 : L.length ≤ 5) (hs : r.s < 2 ^ L.length) (h0 : 0 < r.s) : A ≠ [] := fun e => by
 have h1 := h.idx
 rw [e] at h1
 exact (sel_ne (L := List.range L.length) (by rw [List.length_range]; exact hs) (by rw [List.length_range]; exact h5)).2 h0 (List.perm_nil.1 h1.symm)
theorem Lay.ok (hg : ∀ p ∈ L, p.good) (ha : 0 ≤ a) (hc : 0 ≤ c) (h5 : L.length ≤ 5) {r : Rm} {x y : Int} {A : List (Nat × Spt)} (h : Lay a c L r x y A) : r.s < 2 ^ L.length → canP a c L r → LayOk a c L r x y A := by
 have h32 : 2 ^ L.length ≤ 32 := Nat.pow_le_pow_right (n := 2) (by omega) h5
 induction h with
 | @none r x y h0 =>
  intro hs _
  have h1 := (pop_zero r.s (by omega)).1 h0
  exact ⟨by rw [h1, sel_zero]; exact .refl _, fun z hz => (by cases hz), fun z hz => (by cases hz), List.Pairwise.nil, .few (by simp)⟩
 | @one r x y h1 =>
  intro hs hcan
  have hf := fitsP_is ((can_one hs h5 h1).1 hcan)
  obtain ⟨s1, s2⟩ := sel_one (List.range L.length) r.s (by rw [List.length_range]; exact hs) (by rw [List.length_range]; exact h5) h1
  rw [List.length_range] at s2
  simp only [fitsT, Bool.and_eq_true, decide_eq_true_eq, Bool.not_eq_true'] at hf
  refine ⟨?_, fun z hz => ?_, fun z hz => ?_, List.pairwise_singleton _ _, .few (by simp)⟩
  ·have e9 : (List.range L.length).getD (onlyP r.s) default = onlyP r.s := by rw [List.getD_eq_getElem?_getD, List.getElem?_range s2]; rfl
   rw [s1, e9]
   exact .refl _
  ·rw [List.mem_singleton.1 hz]
   exact hf.2
  ·rw [List.mem_singleton.1 hz, inP_iff]
   refine ⟨Int.le_refl _, ?_, Int.le_refl _, ?_⟩
   ·exact Int.add_le_add_left hf.1.1 x
   ·exact Int.add_le_add_left hf.1.2 y
 | @cut r x y q A B h2 hq _ _ ih1 ih2 =>
  intro hs hcan
  have hm := List.mem_of_find?_eq_some hq
  have hb := List.find?_some hq
  simp only [Bool.and_eq_true, canB_iff] at hb
  obtain ⟨p1, p2⟩ := rooms_pow hs h5 hm
  obtain ⟨⟨r1, r2, r3, r4⟩, -, -⟩ := rooms_pop (by omega) hm
  have o1 := ih1 p1 hb.1
  have o2 := ih2 p2 hb.2
  refine o1.join hg ha hc o2 ?_ (o1.ne h5 p1 r1) (o2.ne h5 p2 (by omega)) ?_
  ·rw [r4]
   exact sel_perm _ _ _ (by omega) (by omega) r3
  ·rcases mem_rooms.1 hm with ⟨k, k0, k1, hq⟩ | ⟨k, k0, k1, hq⟩
   ·obtain ⟨z, -, rfl⟩ := mem_long.1 hq
    exact .inl ⟨(k : Int), by omega, k1, rfl, rfl, rfl, rfl, rfl, by show y + 0 = y; omega⟩
   ·obtain ⟨z, -, rfl⟩ := mem_wide.1 hq
    exact .inr ⟨(k : Int), by omega, k1, rfl, rfl, rfl, rfl, rfl, by show x + 0 = x; omega⟩
end
open Go.RowKit
open Go.RowKit
theorem plan_cases {s : Sk} {g : List Int} {su : Bool} (hg : s.good) (h : ∀ x ∈ g, 0 ≤ x ∧ x < (s.ps.length : Int)) (hn : g.Nodup) : (planE s g su = 0 ∧ canS s su (gP s g) = true) ∨ (planE s g su = 11 ∧ canS s su (gP s g) = false) := by
 have h1 : lstE s g = 0 := lstE_iff.2 ⟨hg, h, hn⟩
 unfold planE
 rw [if_neg (show ¬ lstE s g ≠ 0 by omega)]
 by_cases hc : canS s su (gP s g) = true
 · rw [if_pos hc]; exact .inl ⟨rfl, hc⟩
 · rw [if_neg hc]; exact .inr ⟨rfl, by simpa using hc⟩
theorem putS_other : ∀ (A : List (Nat × Spt)) (l : List Spt) (i : Nat), i ∉ A.map (·.1) → (putS l A)[i]? = l[i]?
 | [], l, i, _ => rfl
 | q :: A, l, i, h => by
   show (putS (l.set q.1 q.2) A)[i]? = _
   simp only [List.map_cons, List.mem_cons, not_or] at h
   rw [putS_other A _ i h.2, List.getElem?_set_ne (fun e => h.1 e.symm)]
theorem putS_get : ∀ (A : List (Nat × Spt)) (l : List Spt), (A.map (·.1)).Nodup → (∀ z ∈ A, z.1 < l.length) → ∀ z ∈ A, (putS l A)[z.1]? = some z.2
 | [], l, _, _, z, h => by cases h
 | q :: A, l, hn, hl, z, hz => by
   show (putS (l.set q.1 q.2) A)[z.1]? = _
   rw [List.map_cons, List.nodup_cons] at hn
   rcases List.mem_cons.1 hz with rfl | hz
   · rw [putS_other A _ _ hn.1, List.getElem?_set_self (hl _ List.mem_cons_self)]
   · exact putS_get A _ hn.2 (fun y hy => by rw [List.length_set]; exact hl y (List.mem_cons_of_mem _ hy)) z hz
section
variable {a c lo wi : Int}
def plL (a c : Int) : List Ld → List Pt → List Spt → List Ld
 | all, p :: L, q :: S => plL a c (all ++ [ldOf a c p q all.length]) L S
 | all, _, _ => all
theorem plL_pre : ∀ (L : List Pt) (S : List Spt) (all : List Ld), all <+: plL a c all L S
 | [], _, all => by unfold plL; exact List.prefix_refl _
 | p :: L, [], all => by unfold plL; exact List.prefix_refl _
 | p :: L, q :: S, all => (List.prefix_append all _).trans (plL_pre L S _)
theorem plP_some : ∀ (L : List Pt) (S : List Spt) (all : List Ld), (∀ (j : Nat) (p : Pt) (q : Spt), L[j]? = some p → S[j]? = some q → badP a c lo wi p q = false) → (plL a c all L S).Pairwise (fun z o => (decide (z.ar = o.ar) || overP z.ar o.ar) = false) → plP a c lo wi all L S = some (plL a c all L S)
 | [], S, all, _, _ => by unfold plP plL; rfl
 | p :: L, [], all, _, _ => by unfold plP plL; rfl
 | p :: L, q :: S, all, hb, hp => by
  have h0 := hb 0 p q rfl rfl
  obtain ⟨t, ht⟩ := plL_pre (a := a) (c := c) L S (all ++ [ldOf a c p q all.length])
  have hp' : (plL a c (all ++ [ldOf a c p q all.length]) L S).Pairwise (fun z o => (decide (z.ar = o.ar) || overP z.ar o.ar) = false) := hp
  have h1 : hitP all (ldOf a c p q all.length) = false := by
   rw [Bool.eq_false_iff]
   intro h9
   obtain ⟨z, hz, h8⟩ := List.any_eq_true.1 h9
   rw [← ht] at hp'
   have := (List.pairwise_append.1 (List.pairwise_append.1 hp').1).2.2 z hz _ (List.mem_singleton.2 rfl)
   rw [this] at h8
   cases h8
  show (if badP a c lo wi p q = true then none else if hitP all (ldOf a c p q all.length) = true then none else plP a c lo wi (all ++ [ldOf a c p q all.length]) L S) = _
  rw [if_neg (by rw [h0]; decide), if_neg (by rw [h1]; decide)]
  exact plP_some L S _ (fun j p' q' e1 e2 => hb (j + 1) p' q' (by rw [List.getElem?_cons_succ]; exact e1) (by rw [List.getElem?_cons_succ]; exact e2)) hp'
theorem plL_eq : ∀ (L : List Pt) (S : List Spt) (all : List Ld), L.length = S.length → plL a c all L S = all ++ (List.range L.length).map fun i => ldOf a c (L.getD i default) (S.getD i default) (all.length + i)
 | [], S, all, _ => by unfold plL; simp
 | p :: L, [], all, h => by simp at h
 | p :: L, q :: S, all, h => by
  show plL a c (all ++ [ldOf a c p q all.length]) L S = _
  rw [plL_eq L S _ (by simpa using h), List.length_cons, List.range_succ_eq_map, List.map_cons, List.map_map, List.append_assoc, List.length_append]
  congr 1
  show ldOf a c p q all.length :: _ = ldOf a c p q (all.length + 0) :: _
  congr 1
  apply List.map_congr_left
  intro i _
  show ldOf a c (L.getD i default) (S.getD i default) (all.length + 1 + i) = ldOf a c ((p :: L).getD (i + 1) default) ((q :: S).getD (i + 1) default) (all.length + (i + 1))
  rw [List.getD_cons_succ, List.getD_cons_succ, Nat.add_assoc, Nat.add_comm 1 i]
end
theorem hit_of_over {z o : Ld} (h : overP z.ar o.ar = false) (h1 : z.l < z.r) (h2 : z.n < z.f) : (decide (z.ar = o.ar) || overP z.ar o.ar) = false := by
 rw [h, Bool.or_false, decide_eq_false_iff_not]
 intro e
 rw [← e] at h
 have h9 : overP z.ar z.ar = true := by
  simp only [overP, Bool.and_eq_true, decide_eq_true_eq]
  exact ⟨⟨⟨h1, h1⟩, h2⟩, h2⟩
 rw [h] at h9
 cases h9
theorem over_symm (a b : Ar) : overP a b = overP b a := by
 rw [Bool.eq_iff_iff]
 simp only [overP, Bool.and_eq_true, decide_eq_true_eq]
 constructor <;> (intro h; omega)
theorem lay_cuts {a c lo wi : Int} {L : List Pt} (hg : ∀ p ∈ L, p.good) (ha : 0 ≤ a) (hc : 0 ≤ c) {A : List (Nat × Spt)} {S : List Spt} (h : LayOk a c L ⟨2 ^ L.length - 1, lo, wi⟩ 0 0 A) (hS : S = putS (List.replicate L.length ⟨0, 0, false⟩) A) :
   S.length = L.length ∧ cutsB a c lo wi L S = true ∧ (∀ (i : Nat) (p : Pt) (q : Spt), L[i]? = some p → S[i]? = some q → badP a c lo wi p q = false) ∧
   ∀ (i k : Nat) (p p' : Pt) (q q' : Spt), k < i → L[i]? = some p → S[i]? = some q → L[k]? = some p' → S[k]? = some q' → overP (ldOf a c p' q' k).ar (ldOf a c p q i).ar = false := by
 have hl : S.length = L.length := by rw [hS, putS_length, List.length_replicate]
 have hidx : (A.map (·.1)).Perm (List.range L.length) := by
   have h1 := h.idx
   have h2 := sel_all (List.range L.length)
   rw [List.length_range] at h2
   rwa [h2] at h1
 have hnd : (A.map (·.1)).Nodup := hidx.nodup_iff.2 List.nodup_range
 have hlt : ∀ z ∈ A, z.1 < (List.replicate L.length (⟨0, 0, false⟩ : Spt)).length := fun z hz => by rw [List.length_replicate]; exact h.lt hz
 have hget : ∀ z ∈ A, S[z.1]? = some z.2 := fun z hz => by rw [hS]; exact putS_get A _ hnd hlt z hz
 have hall : ∀ (i : Nat) (q : Spt), S[i]? = some q → (i, q) ∈ A := fun i q hq => by
   have hi : i < L.length := by rw [← hl]; exact (List.getElem?_eq_some_iff.1 hq).1
   obtain ⟨z, hz, hzi⟩ := List.mem_map.1 (hidx.symm.subset (List.mem_range.2 hi))
   have := hget z hz
   rw [hzi, hq] at this
   injection this with this
   rw [show (i, q) = z by rw [← hzi, this]]
   exact hz
 have bad : ∀ (i : Nat) (p : Pt) (q : Spt), L[i]? = some p → S[i]? = some q → badP a c lo wi p q = false := fun i p q hp hq => by
   have hm := hall i q hq
   have hpd : L.getD i default = p := by rw [List.getD_eq_getElem?_getD, hp]; rfl
   have f1 := h.fit _ hm
   have f2 := inP_iff.1 (h.inn _ hm)
   rw [show (i, q).1 = i from rfl, hpd] at f1
   have e1 : 0 ≤ q.x ∧ q.x + sizeL a c (L.getD i default) q.t ≤ 0 + lo ∧ 0 ≤ q.y ∧ q.y + sizeW a c (L.getD i default) q.t ≤ 0 + wi := f2
   rw [hpd] at e1
   unfold badP
   rw [show (q.t && p.gr) = false from f1, Zdt (show 0 ≤ q.x by omega), Zdt (show q.x ≤ lo - sizeL a c p q.t by omega), Zdt (show 0 ≤ q.y by omega), Zdt (show q.y ≤ wi - sizeW a c p q.t by omega)]
   rfl
 have eA : A.map (ldA a c L) = (A.map (·.1)).map fun i => ldOf a c (L.getD i default) (S.getD i default) i := by
   rw [List.map_map]
   apply List.map_congr_left
   intro z hz
   show ldOf a c (L.getD z.1 default) z.2 z.1 = ldOf a c (L.getD z.1 default) (S.getD z.1 default) z.1
   rw [List.getD_eq_getElem?_getD (l := S), hget z hz]
   rfl
 have eF : plL a c [] L S = (List.range L.length).map fun i => ldOf a c (L.getD i default) (S.getD i default) i := by
   rw [plL_eq L S [] hl.symm, List.nil_append]
   apply List.map_congr_left
   intro i _
   rw [List.length_nil, Nat.zero_add]
 have hpA : (A.map (ldA a c L)).Pairwise fun z o => overP z.ar o.ar = false := List.pairwise_map.2 h.apart
 have hpF : ((List.range L.length).map fun i => ldOf a c (L.getD i default) (S.getD i default) i).Pairwise fun z o => overP z.ar o.ar = false := by
   rw [eA] at hpA
   exact ((hidx.map _).pairwise_iff (fun {x y} h9 => by rw [over_symm]; exact h9)).1 hpA
 have pos : ∀ i, i < L.length → ∀ q : Spt, (ldOf a c (L.getD i default) q i).l < (ldOf a c (L.getD i default) q i).r ∧ (ldOf a c (L.getD i default) q i).n < (ldOf a c (L.getD i default) q i).f := fun i hi q => by
   have := size_pos ha hc (getD_good hg hi) q.t
   constructor
   · show q.x < q.x + _; omega
   · show q.y < q.y + _; omega
 have hpl : plP a c lo wi [] L S = some (plL a c [] L S) := by
   refine plP_some L S [] bad ?_
   rw [eF]
   refine List.pairwise_map.2 ((List.pairwise_map.1 hpF).imp_of_mem fun {i k} hi _ h9 => ?_)
   obtain ⟨q1, q2⟩ := pos i (List.mem_range.1 hi) (S.getD i default)
   exact hit_of_over h9 q1 q2
 refine ⟨hl, ?_, bad, ?_⟩
 · unfold cutsB
   rw [hpl]
   show sawB _ _ = true
   rw [sawB_iff, eF]
   have hs := h.saw
   rw [eA, show (⟨0, 0, 0 + lo, 0 + wi⟩ : Ar) = ⟨0, 0, lo, wi⟩ by rw [Int.zero_add, Int.zero_add]] at hs
   exact hs.perm (hidx.map _).symm
 · intro i k p p' q q' hki hp hq hp' hq'
   have hi := (List.getElem?_eq_some_iff.1 hp).1
   have h9 := List.pairwise_iff_getElem.1 hpF k i (by simp; omega) (by simp; omega) hki
   simp only [List.getElem_map, List.getElem_range] at h9
   rw [List.getD_eq_getElem?_getD, List.getD_eq_getElem?_getD, List.getD_eq_getElem?_getD, List.getD_eq_getElem?_getD, hp, hq, hp', hq'] at h9
   exact h9
theorem plan_law {s : Sk} {g : List Int} {su : Bool} (hg : s.good) (hi : ∀ x ∈ g, 0 ≤ x ∧ x < (s.ps.length : Int)) (hn : g.Nodup) (h : planE s g su = 0) : (planL s g su).length = g.length ∧ cutsV s g (planL s g su) su = true ∧ cutsE s g (planL s g su).length = 0 ∧
  (∀ (i : Nat) (p : Pt) (q : Spt), (gP s g)[i]? = some p → (planL s g su)[i]? = some q → badP (cutA s su) (cutC s su) s.lo s.wi p q = false) ∧
  ∀ (i k : Nat) (p p' : Pt) (q q' : Spt), k < i → (gP s g)[i]? = some p → (planL s g su)[i]? = some q → (gP s g)[k]? = some p' → (planL s g su)[k]? = some q' → overP (ldOf (cutA s su) (cutC s su) p' q' k).ar (ldOf (cutA s su) (cutC s su) p q i).ar = false := by
 have h0 : lstE s g = 0 := lstE_iff.2 ⟨hg, hi, hn⟩
 have hgl : (gP s g).length = g.length := by unfold gP; rw [List.length_map]
 have h5 : (gP s g).length ≤ 5 := by rw [hgl]; exact Nat.le_trans (nodup_short hi hn) hg.len
 have hgg : ∀ p ∈ gP s g, p.good := fun p hp => by
  unfold gP at hp
  obtain ⟨x, hx, rfl⟩ := List.mem_map.1 hp
  have := hi x hx
  exact getD_good hg.ps (by omega)
 obtain ⟨⟨ha, -⟩, hc, -⟩ := cut_bd hg su
 have hcan : canS s su (gP s g) = true := by
  rcases plan_cases (su := su) hg hi hn with ⟨-, h1⟩ | ⟨h1, -⟩
  ·exact h1
  ·omega
 obtain ⟨A, hA⟩ := lay_ex (a := cutA s su) (c := cutC s su) h5 6 (whR s (gP s g)) 0 0 (pop_lt _) (whole_pow _) hcan
 have hok := hA.ok hgg ha hc h5 (whole_pow _) (canB_iff.1 hcan)
 have hpl : planL s g su = putS (List.replicate (gP s g).length ⟨0, 0, false⟩) A := by
  unfold planL
  rw [if_pos h, planA_eq hA]
 obtain ⟨k1, k2, k3, k4⟩ := lay_cuts hgg ha hc hok hpl
 have hE : cutsE s g (planL s g su).length = 0 := by
  unfold cutsE
  rw [if_neg (by omega), if_neg (by omega), if_neg (by omega)]
 exact ⟨by omega, by unfold cutsV; rw [if_pos hE]; exact k2, hE, k3, k4⟩
theorem saw_cut {a c : Int} {l : List Ld} {ar : Ar} (h : Saw l ar) : ∀ (W : List (Ld × Pt)), W.map (·.1) = l → (∀ w ∈ W, ∃ (q : Spt) (i : Nat), w.1 = ldOf a c w.2 q i ∧ (q.t && w.2.gr) = false) → (∀ w ∈ W, inP w.1.ar ar = true) → Cut (Fit a c) (W.map (·.2)) (ar.r - ar.l) (ar.f - ar.n) := by
 have gen : ∀ {l : List Ld} {one two : Ar} (W : List (Ld × Pt)), W.map (·.1) = l → splI l one two = true →
     (W.filter fun w => inP w.1.ar one).map (·.1) = splA l one two ∧ (W.filter fun w => !inP w.1.ar one && inP w.1.ar two).map (·.1) = splB l one two ∧
     W.Perm ((W.filter fun w => inP w.1.ar one) ++ (W.filter fun w => !inP w.1.ar one && inP w.1.ar two)) ∧ (W.filter fun w => inP w.1.ar one) ≠ [] ∧ (W.filter fun w => !inP w.1.ar one && inP w.1.ar two) ≠ [] := by
   intro l one two W hW hs
   simp only [splI, Bool.and_eq_true, decide_eq_true_eq] at hs
   obtain ⟨⟨ok, pA⟩, pB⟩ := hs
   have eA : (W.filter fun w => inP w.1.ar one).map (·.1) = spA l one := by
     unfold spA
     rw [← hW, List.filter_map]
     rfl
   have eB : (W.filter fun w => !inP w.1.ar one && inP w.1.ar two).map (·.1) = spB l one two := by
     unfold spB
     rw [← hW, List.filter_map]
     rfl
   refine ⟨by rw [eA]; unfold splA; rw [if_pos ok], by rw [eB]; unfold splB; rw [if_pos ok], ?_, fun e => ?_, fun e => ?_⟩
   · have e3 : (W.filter fun w => !inP w.1.ar one && inP w.1.ar two) = W.filter fun w => !(inP w.1.ar one) := by
       apply List.filter_congr
       intro w hw
       have h9 := List.all_eq_true.1 ok w.1 (by rw [← hW]; exact List.mem_map.2 ⟨w, hw, rfl⟩)
       cases h1 : inP w.1.ar one
       · rw [h1] at h9
         simpa using h9
       · rfl
     rw [e3]
     exact (List.filter_append_perm (fun w : Ld × Pt => inP w.1.ar one) W).symm
   · rw [e] at eA
     rw [← eA] at pA
     simp at pA
   · rw [e] at eB
     rw [← eB] at pB
     simp at pB
 induction h with
 | @few l ar h =>
   intro W hW hq hi
   match W with
   | [] => exact .nil
   | [w] =>
     obtain ⟨q, i, e, hg⟩ := hq w List.mem_cons_self
     have h1 := inP_iff.1 (hi w List.mem_cons_self)
     rw [e] at h1
     have h2 : ar.l ≤ q.x ∧ q.x + sizeL a c w.2 q.t ≤ ar.r ∧ ar.n ≤ q.y ∧ q.y + sizeW a c w.2 q.t ≤ ar.f := h1
     refine .one ⟨q.t, ?_⟩
     simp only [fitsT, Bool.and_eq_true, decide_eq_true_eq, Bool.not_eq_true']
     exact ⟨⟨by omega, by omega⟩, hg⟩
   | _ :: _ :: _ => rw [← hW] at h; simp only [List.length_map, List.length_cons] at h; omega
 | @along l ar x h1 h2 h3 _ _ ih1 ih2 =>
   intro W hW hq hi
   obtain ⟨e1, e2, hp, n1, n2⟩ := gen W hW h3
   have c1 := ih1 _ e1 (fun w hw => hq w (List.mem_filter.1 hw).1) (fun w hw => (List.mem_filter.1 hw).2)
   have c2 := ih2 _ e2 (fun w hw => hq w (List.mem_filter.1 hw).1) (fun w hw => by have := (List.mem_filter.1 hw).2; simp only [Bool.and_eq_true] at this; exact this.2)
   have hp2 := hp.map (·.2)
   rw [List.map_append] at hp2
   refine Cut.along (x := x - ar.l) (by omega) (by omega) hp2 (fun e => n1 (List.map_eq_nil_iff.1 e)) (fun e => n2 (List.map_eq_nil_iff.1 e)) c1 ?_
   rw [show ar.r - ar.l - (x - ar.l) = ar.r - x by omega]
   exact c2
 | @across l ar x h1 h2 h3 _ _ ih1 ih2 =>
   intro W hW hq hi
   obtain ⟨e1, e2, hp, n1, n2⟩ := gen W hW h3
   have c1 := ih1 _ e1 (fun w hw => hq w (List.mem_filter.1 hw).1) (fun w hw => (List.mem_filter.1 hw).2)
   have c2 := ih2 _ e2 (fun w hw => hq w (List.mem_filter.1 hw).1) (fun w hw => by have := (List.mem_filter.1 hw).2; simp only [Bool.and_eq_true] at this; exact this.2)
   have hp2 := hp.map (·.2)
   rw [List.map_append] at hp2
   refine Cut.across (y := x - ar.n) (by omega) (by omega) hp2 (fun e => n1 (List.map_eq_nil_iff.1 e)) (fun e => n2 (List.map_eq_nil_iff.1 e)) c1 ?_
   rw [show ar.f - ar.n - (x - ar.n) = ar.f - x by omega]
   exact c2
section
variable {a c lo wi : Int}
theorem plP_inv : ∀ (L : List Pt) (S : List Spt) (all F : List Ld), plP a c lo wi all L S = some F → F = plL a c all L S ∧ ∀ (j : Nat) (p : Pt) (q : Spt), L[j]? = some p → S[j]? = some q → badP a c lo wi p q = false
 | [], S, all, F, h => by
  unfold plP at h
  injection h with h
  refine ⟨by unfold plL; exact h.symm, fun j p q hp => ?_⟩
  simp at hp
 | p :: L, [], all, F, h => by
  unfold plP at h
  injection h with h
  refine ⟨by unfold plL; exact h.symm, fun j p q _ hq => ?_⟩
  simp at hq
 | p :: L, q :: S, all, F, h => by
  replace h : (if badP a c lo wi p q = true then none else if hitP all (ldOf a c p q all.length) = true then none else plP a c lo wi (all ++ [ldOf a c p q all.length]) L S) = some F := h
  split at h
  ·cases h
  ·rename_i hb
   split at h
   ·cases h
   ·obtain ⟨h1, h2⟩ := plP_inv L S _ F h
    refine ⟨h1, fun j p' q' hp hq => ?_⟩
    cases j with
    | zero =>
     simp only [List.getElem?_cons_zero, Option.some.injEq] at hp hq
     subst hp
     subst hq
     simpa using hb
    | succ j => exact h2 j p' q' (by simpa using hp) (by simpa using hq)
theorem plP_less : ∀ (L : List Pt) (S : List Spt) (p : Pt) (q : Spt) (all F : List Ld), L.length = S.length → plP a c lo wi all (L ++ [p]) (S ++ [q]) = some F → ∃ F', plP a c lo wi all L S = some F' ∧ F'.Sublist F
 | [], [], p, q, all, F, _, h => by
  obtain ⟨h1, -⟩ := plP_inv _ _ _ _ h
  exact ⟨all, by unfold plP; rfl, by rw [h1]; exact (plL_pre _ _ _).sublist⟩
 | [], _ :: _, p, q, all, F, hl, h => by simp at hl
 | _ :: _, [], p, q, all, F, hl, h => by simp at hl
 | x :: L, y :: S, p, q, all, F, hl, h => by
  replace h : (if badP a c lo wi x y = true then none else if hitP all (ldOf a c x y all.length) = true then none else plP a c lo wi (all ++ [ldOf a c x y all.length]) (L ++ [p]) (S ++ [q])) = some F := h
  show ∃ F', (if badP a c lo wi x y = true then none else if hitP all (ldOf a c x y all.length) = true then none else plP a c lo wi (all ++ [ldOf a c x y all.length]) L S) = some F' ∧ F'.Sublist F
  split at h
  ·cases h
  ·rename_i hb
   split at h
   ·cases h
   ·rename_i hh
    rw [if_neg hb, if_neg hh]
    exact plP_less L S p q _ F (by simpa using hl) h
theorem cutsB_less {L : List Pt} {S : List Spt} {p : Pt} {q : Spt} (hl : L.length = S.length) (h : cutsB a c lo wi (L ++ [p]) (S ++ [q]) = true) : cutsB a c lo wi L S = true := by
 unfold cutsB at *
 cases hF : plP a c lo wi [] (L ++ [p]) (S ++ [q]) with
 | none => rw [hF] at h; cases h
 | some F =>
  rw [hF] at h
  obtain ⟨F', h1, h2⟩ := plP_less L S p q [] F hl hF
  rw [h1]
  exact sawB_iff.2 ((sawB_iff.1 h).sub h2)
theorem cuts_cut {L : List Pt} {S : List Spt} (hl : L.length = S.length) (h : cutsB a c lo wi L S = true) : Cut (Fit a c) L lo wi ∧ ∀ (j : Nat) (p : Pt) (q : Spt), L[j]? = some p → S[j]? = some q → badP a c lo wi p q = false := by
 unfold cutsB at h
 cases hF : plP a c lo wi [] L S with
 | none => rw [hF] at h; cases h
 | some F =>
  rw [hF] at h
  obtain ⟨h1, h2⟩ := plP_inv _ _ _ _ hF
  refine ⟨?_, h2⟩
  have hs := sawB_iff.1 h
  rw [h1, plL_eq L S [] hl, List.nil_append] at hs
  have hat : ∀ i ∈ List.range L.length, ∃ p q, L[i]? = some p ∧ S[i]? = some q ∧ L.getD i default = p ∧ S.getD i default = q := fun i hi => by
   have hi := List.mem_range.1 hi
   exact ⟨L[i], S[i], List.getElem?_eq_getElem hi, List.getElem?_eq_getElem (by omega), by rw [List.getD_eq_getElem?_getD, List.getElem?_eq_getElem hi]; rfl, by rw [List.getD_eq_getElem?_getD, List.getElem?_eq_getElem (by omega)]; rfl⟩
  have hc := saw_cut (a := a) (c := c) hs ((List.range L.length).map fun i => (ldOf a c (L.getD i default) (S.getD i default) (([] : List Ld).length + i), L.getD i default)) (by rw [List.map_map]; rfl)
   (fun w hw => by
    obtain ⟨i, hi, rfl⟩ := List.mem_map.1 hw
    obtain ⟨p, q, e1, e2, e3, e4⟩ := hat i hi
    refine ⟨S.getD i default, _, rfl, ?_⟩
    have := h2 i p q e1 e2
    simp only [badP, Bool.or_eq_false_iff] at this
    show ((S.getD i default).t && (L.getD i default).gr) = false
    rw [e3, e4]
    exact this.1.1)
   (fun w hw => by
    obtain ⟨i, hi, rfl⟩ := List.mem_map.1 hw
    obtain ⟨p, q, e1, e2, e3, e4⟩ := hat i hi
    have hb := bad_not (h2 i p q e1 e2)
    rw [inP_iff]
    show 0 ≤ (S.getD i default).x ∧ (S.getD i default).x + sizeL a c (L.getD i default) (S.getD i default).t ≤ lo ∧ 0 ≤ (S.getD i default).y ∧ (S.getD i default).y + sizeW a c (L.getD i default) (S.getD i default).t ≤ wi
    rw [e3, e4]
    omega)
  rw [List.map_map] at hc
  have e : ((List.range L.length).map fun i => L.getD i default) = L := by
   apply List.ext_getElem?
   intro j
   rw [List.getElem?_map]
   rcases Nat.lt_or_ge j L.length with hj | hj
   ·rw [List.getElem?_range hj, Option.map_some, List.getD_eq_getElem?_getD, List.getElem?_eq_getElem hj]; rfl
   ·rw [List.getElem?_eq_none (by rw [List.length_range]; exact hj), List.getElem?_eq_none hj]; rfl
  have hc' : Cut (Fit a c) ((List.range L.length).map fun i => L.getD i default) (lo - 0) (wi - 0) := hc
  rw [e, Int.sub_zero, Int.sub_zero] at hc'
  exact hc'
end
theorem all_law {s : Sk} {g : List Int} {su : Bool} (hg : s.good) (hi : ∀ x ∈ g, 0 ≤ x ∧ x < (s.ps.length : Int)) (hn : g.Nodup) : planE s g su = 0 ↔ ∃ S : List Spt, S.length = g.length ∧ cutsB (cutA s su) (cutC s su) s.lo s.wi (gP s g) S = true := by
 have hgl : (gP s g).length = g.length := by unfold gP; rw [List.length_map]
 constructor
 ·intro h
  obtain ⟨h1, h2, h3, -⟩ := plan_law hg hi hn h
  unfold cutsV at h2
  rw [if_pos h3] at h2
  exact ⟨_, h1, h2⟩
 ·rintro ⟨S, h1, h2⟩
  have h3 := canS_iff.2 (cuts_cut (by omega) h2).1
  rcases plan_cases (su := su) hg hi hn with ⟨h4, -⟩ | ⟨-, h4⟩
  ·exact h4
  ·rw [h3] at h4; cases h4
open Go.RowKit
open Go.RowKit
structure Bo where
 x : Int
 y : Int
 lo : Int
 wi : Int
deriving DecidableEq, Inhabited
open Go.RowKit
open Classical in
section
variable {a c : Int}
end
def spotsY (x : Int) (n : Nat) : List Spt := (List.range n).flatMap fun y : Nat => [⟨x, (y : Int), false⟩, ⟨x, (y : Int), true⟩]
def spotsX (wi n : Nat) : List Spt := (List.range n).flatMap fun x : Nat => spotsY (x : Int) wi
theorem spotsY_succ {x : Int} {n : Nat} : spotsY x (n + 1) = spotsY x n ++ [⟨x, (n : Int), false⟩, ⟨x, (n : Int), true⟩] := by
 unfold spotsY
 rw [List.range_succ, List.flatMap_append, List.flatMap_cons, List.flatMap_nil, List.append_nil]
theorem spotsX_succ {wi n : Nat} : spotsX wi (n + 1) = spotsX wi n ++ spotsY (n : Int) wi := by
 unfold spotsX
 rw [List.range_succ, List.flatMap_append, List.flatMap_cons, List.flatMap_nil, List.append_nil]
theorem spotsY_len (x : Int) : ∀ n, (spotsY x n).length = 2 * n
 | 0 => rfl
 | n + 1 => by rw [spotsY_succ, List.length_append, spotsY_len x n]; simp; omega
theorem spotsX_len (wi : Nat) : ∀ n, (spotsX wi n).length = n * (2 * wi)
 | 0 => by simp [spotsX]
 | n + 1 => by rw [spotsX_succ, List.length_append, spotsX_len wi n, spotsY_len]; exact (Nat.succ_mul n (2 * wi)).symm
theorem mem_spotsX {wi n : Nat} {q : Spt} (h1 : 0 ≤ q.x) (h2 : q.x < n) (h3 : 0 ≤ q.y) (h4 : q.y < wi) : q ∈ spotsX wi n := by
 unfold spotsX
 refine List.mem_flatMap.2 ⟨q.x.toNat, List.mem_range.2 (by omega), ?_⟩
 unfold spotsY
 refine List.mem_flatMap.2 ⟨q.y.toNat, List.mem_range.2 (by omega), ?_⟩
 obtain ⟨x, y, t⟩ := q
 dsimp only at *
 rw [Int.toNat_of_nonneg h1, Int.toNat_of_nonneg h3]
 cases t <;> simp
def extS (P : List Spt → Bool) (S : List Spt) (EL : List Spt) : List (List Spt) := (EL.map fun q => S ++ [q]).filter P
theorem extS_snoc {P : List Spt → Bool} {S EL : List Spt} {m : Nat} {q : Spt} (h : EL[m]? = some q) : extS P S (EL.take (m + 1)) = extS P S (EL.take m) ++ if P (S ++ [q]) = true then [S ++ [q]] else [] := by
 unfold extS
 rw [List.take_add_one, h, Option.toList_some, List.map_append, List.filter_append]
 congr 1
 by_cases h1 : P (S ++ [q]) = true <;> simp [h1]
theorem extS_len {P : List Spt → Bool} {S EL : List Spt} : (extS P S EL).length ≤ EL.length := by
 unfold extS
 have := List.length_filter_le P (EL.map fun q => S ++ [q])
 rwa [List.length_map] at this
def stg (P : Nat → List Spt → Bool) (EL : List Spt) : Nat → List (List Spt)
 | 0 => [[]]
 | i + 1 => (stg P EL i).flatMap fun S => extS (P (i + 1)) S EL
theorem fm_len {α β : Type} {f : α → List β} {m : Nat} : ∀ (l : List α), (∀ x ∈ l, (f x).length ≤ m) → (l.flatMap f).length ≤ l.length * m
 | [], _ => by simp
 | x :: l, h => by
  rw [List.flatMap_cons, List.length_append, List.length_cons, Nat.succ_mul]
  have h1 := h x List.mem_cons_self
  have h2 := fm_len l fun y hy => h y (List.mem_cons_of_mem _ hy)
  omega
theorem stg_few {P : Nat → List Spt → Bool} {EL : List Spt} (he : EL.length ≤ 32) : ∀ i, (stg P EL i).length ≤ 32 ^ i
 | 0 => by simp [stg]
 | i + 1 => by
  have h := fm_len (f := fun S => extS (P (i + 1)) S EL) (m := 32) (stg P EL i) fun S _ => Nat.le_trans extS_len he
  have h2 := stg_few (P := P) he i
  rw [Nat.pow_succ]
  exact Nat.le_trans h (Nat.mul_le_mul_right _ h2)
theorem stg_size {P : Nat → List Spt → Bool} {EL : List Spt} : ∀ i, ∀ S ∈ stg P EL i, S.length = i
 | 0, S, h => by simp [stg] at h; rw [h]; rfl
 | i + 1, S, h => by
  obtain ⟨T, hT, hS⟩ := List.mem_flatMap.1 h
  obtain ⟨q, -, rfl⟩ := List.mem_map.1 (List.mem_filter.1 hS).1
  rw [List.length_append, stg_size i T hT]; rfl
theorem stg_mem {P : Nat → List Spt → Bool} {EL : List Spt} {n : Nat} (h0 : P 0 [] = true) (hP : ∀ (i : Nat) (S : List Spt) (q : Spt), i < n → S.length = i → P (i + 1) (S ++ [q]) = true → P i S = true ∧ q ∈ EL) : ∀ i, i ≤ n → ∀ S, S ∈ stg P EL i ↔ S.length = i ∧ P i S = true
 | 0, _, S => by
  simp only [stg, List.mem_singleton]
  constructor
  ·rintro rfl; exact ⟨rfl, h0⟩
  ·rintro ⟨h, -⟩; exact List.eq_nil_of_length_eq_zero h
 | i + 1, hi, S => by
  have ih := stg_mem h0 hP i (by omega)
  constructor
  ·intro h
   refine ⟨stg_size _ S h, ?_⟩
   obtain ⟨T, hT, hS⟩ := List.mem_flatMap.1 h
   exact (List.mem_filter.1 hS).2
  ·rintro ⟨hl, h⟩
   rcases List.eq_nil_or_concat S with rfl | ⟨T, q, rfl⟩
   ·simp at hl
   ·rw [List.concat_eq_append] at h hl ⊢
    have hT : T.length = i := by simpa using hl
    obtain ⟨h1, h2⟩ := hP i T q (by omega) hT h
    exact List.mem_flatMap.2 ⟨T, (ih T).2 ⟨hT, h1⟩, List.mem_filter.2 ⟨List.mem_map.2 ⟨q, h2, rfl⟩, h⟩⟩
noncomputable def aP (s : Sk) (g : List Int) (su : Bool) (i : Nat) (S : List Spt) : Bool := cutsB (cutA s su) (cutC s su) s.lo s.wi (gP s (g.take i)) S
theorem cuts_aP {s : Sk} {g : List Int} {su : Bool} {i : Nat} {S : List Spt} (hg : s.good) (hi : ∀ x ∈ g, 0 ≤ x ∧ x < (s.ps.length : Int)) (hn : g.Nodup) (hil : i ≤ g.length) (hS : S.length = i) : cutsE s (g.take i) S.length = 0 ∧ cutsV s (g.take i) S su = aP s g su i S := by
 have h0 : lstE s (g.take i) = 0 := lstE_iff.2 ⟨hg, fun x hx => hi x (List.mem_of_mem_take hx), hn.sublist (List.take_sublist _ _)⟩
 have hl : (g.take i).length = i := by rw [List.length_take]; omega
 have e : cutsE s (g.take i) S.length = 0 := by
  unfold cutsE
  rw [if_neg (by omega), if_neg (by omega), if_neg (by omega)]
 refine ⟨e, ?_⟩
 unfold cutsV
 rw [if_pos e]
 rfl
theorem aP_less {s : Sk} {g : List Int} {su : Bool} {lo wi : Nat} (hg : s.good) (hi : ∀ x ∈ g, 0 ≤ x ∧ x < (s.ps.length : Int)) (hlo : s.lo = (lo : Int)) (hwi : s.wi = (wi : Int)) (i : Nat) (S : List Spt) (q : Spt) (hil : i < g.length) (hS : S.length = i) (h : aP s g su (i + 1) (S ++ [q]) = true) : aP s g su i S = true ∧ q ∈ spotsX wi lo := by
 have e1 := List.getElem?_eq_getElem hil
 have e : gP s (g.take (i + 1)) = gP s (g.take i) ++ [s.ps.getD (g[i]).toNat default] := by
  unfold gP
  rw [List.take_add_one, e1, Option.toList_some, List.map_append]
  rfl
 have hl : (gP s (g.take i)).length = S.length := by
  unfold gP
  rw [List.length_map, List.length_take]
  omega
 unfold aP at h ⊢
 rw [e] at h
 refine ⟨cutsB_less hl h, ?_⟩
 have hl2 : (gP s (g.take i) ++ [s.ps.getD (g[i]).toNat default]).length = (S ++ [q]).length := by rw [List.length_append, List.length_append, hl]; rfl
 have hb := (cuts_cut hl2 h).2 i (s.ps.getD (g[i]).toNat default) q (by rw [List.getElem?_append_right (by omega), hl, hS, Nat.sub_self]; rfl) (by rw [List.getElem?_append_right (by omega), hS, Nat.sub_self]; rfl)
 have h3 := bad_not hb
 have hr := hi _ (List.getElem_mem hil)
 have hp : (s.ps.getD (g[i]).toNat default).good := getD_good hg.ps (by omega)
 have h4 := size_pos (cut_bd hg su).1.1 (cut_bd hg su).2.1 hp q.t
 exact mem_spotsX h3.1.1 (by omega) h3.2.1 (by omega)
theorem stage_law {s : Sk} {g : List Int} {su : Bool} {lo wi : Nat} (hg : s.good) (hi : ∀ x ∈ g, 0 ≤ x ∧ x < (s.ps.length : Int)) (hn : g.Nodup) (hlo : s.lo = (lo : Int)) (hwi : s.wi = (wi : Int)) : planE s g su = 0 ↔ 0 < (stg (aP s g su) (spotsX wi lo) g.length).length := by
 have hm := stg_mem (P := aP s g su) (EL := spotsX wi lo) (n := g.length) (by
  unfold aP gP cutsB
  rw [List.take_zero]
  exact saw_few (by simp)) (fun i S q h1 h2 h3 => aP_less hg hi hlo hwi i S q h1 h2 h3) g.length (Nat.le_refl _)
 rw [all_law hg hi hn]
 have e : ∀ S, aP s g su g.length S = cutsB (cutA s su) (cutC s su) s.lo s.wi (gP s g) S := fun S => by
  unfold aP
  rw [List.take_length]
 constructor
 ·rintro ⟨S, h1, h2⟩
  exact List.length_pos_of_mem ((hm S).2 ⟨h1, by rw [e]; exact h2⟩)
 ·intro h
  obtain ⟨S, hS⟩ := List.exists_mem_of_length_pos h
  obtain ⟨h1, h2⟩ := (hm S).1 hS
  exact ⟨S, h1, by rw [← e]; exact h2⟩
open Go.RowKit
open Go.RowKit
open Go.RowKit
open Go.RowKit
open Go.RowKit
open Go.RowKit
open Classical in
section
variable {a c lo wi : Int}
end
section
variable {P : Program} {op : Oper} {a : Act} {w : World} {t t' : TypeId} {x y : Operand} {p q : Int}
end
section
variable {w w' : World} {ex : Nat → Prop} {I L : List (Nat × BA)} {n b o k : Nat} {A : Option Addr} {l : List Bo} {p : Bo}
end
open Go.RowKit
open Go.RowKit
section
variable {df : List Deferred} {P : Program} {op : Oper} {a : Act} {K : Act → World → Prop} {Q : Exit → Act → World → Prop} {w0 w : World} {ex : Nat → Prop} {L0 I : List (Nat × BA)} {E : List (Nat × Value)}
theorem ow_appV {s x : Operand} {ty e size bytes m d n nn t' : Nat} {B : Option Addr} {z : Value} {xs cs : List Value} {v : Value} (L : List (Nat × BA))
  (hinfo : (P.info? e).map (fun i => (i.zero, i.size, i.bytes)) = some (some z, size, bytes)) (hS : Sl e size v n xs I) (M : Mem w0 ex w L0) (hsp : L0 = L ++ I) (T : TmD df a nn E)
  (ho : op.op = .call { callee := .builtin .append, args := #[s, x], argTypes := #[ty, ty] }) (hd : op.dst = some t') (hf : freshE E t' = true) (hnn : Nat.blt t' nn = true)
  (ht : P.underlying ty = some (.slice e)) (hzs : z.cells.size = size) (hsz : Nat.blt 0 size = true) (hby : Nat.ble bytes 1000 = true) (hm : n + m ≤ 1000000) (hm0 : 0 < m)
  (hs : a.eval s = v) (hx : a.eval x = .slice B m d) (hr : Rd w w.heap.size size B m cs) (h1 : ∀ u ∈ cs, u.oneCell' = true)
  (h : ∀ g cap w' a', Mem w0 ex w' ((g, .row e size (n + m) (xs ++ cs) cap) :: L) → TmD df a' nn ((t', .slice (some ⟨g, 0, none⟩) (n + m) cap) :: E) → K a' w') : op.wp P a w K Q := by
 subst hsp
 replace M : Mem w0 ex w (I ++ L) := Mem.swapI (I := L) (L := I) M
 obtain ⟨i, hi, hz0, hz1, hz2⟩ := info_parts hinfo
 obtain ⟨g2, o2, rfl, hlt, hc⟩ := hr.cells hm0
 have hby := Nat.le_of_ble_eq_true hby
 have hsz := Nat.le_of_ble_eq_true hsz
 have hbb : (n + m) * bytes ≤ 140737488355328 := by
  have : (n + m) * bytes ≤ 1000000 * 1000 := Nat.mul_le_mul (by omega) hby
  omega
 have hnews : ∀ j u, cs[j]? = some u → w.cell? ((⟨g2, o2, none⟩ : Addr).add j) = some u := fun j u hu => by rw [Addr.add_mid]; exact hc j u hu
 rcases hS with ⟨rfl, rfl, rfl, rfl⟩ | ⟨g0, cap0, rfl, rfl⟩
 ·refine wp_append_lies w s x ty ho w.heap.size e i z size bytes ht hi hz0 hz1 hz2 hzs hsz (.slice none 0 0) 0 [] hs ⟨by simp, .inl ⟨rfl, rfl⟩⟩ ⟨g2, o2, none⟩ m d cs hx hr.1 hnews h1 hm0 (by unfold maxLen; omega) hbb (Nat.le_refl _) w.heap.size rfl ?_
  intro g cap w' hown hgr hat hlt
  have hg : g = w.heap.size := by
   rcases hat with h | h
   ·cases h
   ·exact h
  have M1 : Mem w0 ex w' L := M.call ⟨hgr.os, hgr.tape, hgr.output, hgr.size, fun k hk => hgr.block k hk (fun e => by cases e)⟩
  exact h g cap w' _ (M1.add (by rw [hg]; exact M.size) (own_rebase hown (by omega)) (fun q hq e => by have := BA.lt (M.blk q hq).2; omega)) (by rw [hd]; exact T.put hnn hf _)
 ·have hrow := (M.blk (g0, .row e size n xs cap0) (by simp)).2
  refine wp_append_lies w s x ty ho g0 e i z size bytes ht hi hz0 hz1 hz2 hzs hsz _ n xs hs hrow.1 ⟨g2, o2, none⟩ m d cs hx hr.1 hnews h1 hm0 (by unfold maxLen; omega) hbb (Nat.le_of_lt (BA.lt hrow)) w.heap.size rfl ?_
  intro g cap w' hown hgr hat hlt
  have hgr : w.grownBy w' (some g0) := hgr
  rcases hat with h2 | h2
  ·have h2 : some g0 = some g := h2
   injection h2 with h2
   subst h2
   exact h g0 cap w' _ (M.callW (L' := (g0, .row e size (n + m) (xs ++ cs) cap) :: L) .head hgr (own_rebase hown (by omega))) (by rw [hd]; exact T.put hnn hf _)
  ·have M1 := M.callW (L' := (g0, .any (fun _ => True)) :: L) .head hgr (by
    have hl0 : g0 < w'.heap.size := Nat.lt_of_lt_of_le (BA.lt hrow) hgr.size
    exact ⟨w'.heap[g0], Array.getElem?_eq_getElem hl0, trivial⟩)
   exact h g cap w' _ (M1.forget.add (by rw [h2]; exact M.size) (own_rebase hown (by omega)) (fun q hq e => by have := BA.lt (M.blk q (List.mem_append_right _ hq)).2; omega)) (by rw [hd]; exact T.put hnn hf _)
end
theorem tc_one (l : List Spt) : ∀ u ∈ tc l, u.oneCell' = true := fun u hu => by
 obtain ⟨p, -, h⟩ := List.mem_flatMap.1 hu
 simp only [tcE, List.mem_cons, List.not_mem_nil, or_false] at h
 rcases h with rfl | rfl | rfl <;> rfl
theorem Tryd.append0_28 (A : Option Addr) (c g : Nat) (ty : TypeId) (w : World) : (Builtin.append_ #[28, 28] ty #[.slice (some ⟨g, 0, none⟩) 0 0, .slice A 0 c]).run Tryd.prog w = .ok (.slice (some ⟨g, 0, none⟩) 0 0) w := by
 cases A <;> kernel_rfl
abbrev TE := List Spt × Option Addr × Nat
def ltV (l : List TE) : List Value := l.map fun x => .slice x.2.1 x.1.length x.2.2
theorem Sp.lt0 {w w' : World} {ex : Nat → Prop} {I L : List (Nat × BA)} {n b o k : Nat} {A : Option Addr} {r : List TE} {x : List Spt} {B : Option Addr} {c : Nat} (S : Sp w ex I A n 1 b o (ltV r)) (M : Mem w ex w' L) (hI : I.Sublist L) (h : r[k]? = some (x, B, c)) : w'.cell? ⟨b, o + k * 1, none⟩ = some (.slice B x.length c) := by
 rw [Nat.mul_one]
 exact S.cell w' L M hI _ _ (by unfold ltV; rw [List.getElem?_map, h]; rfl)
end Go.Proofs.YtehpcclfgjccbaaDoor


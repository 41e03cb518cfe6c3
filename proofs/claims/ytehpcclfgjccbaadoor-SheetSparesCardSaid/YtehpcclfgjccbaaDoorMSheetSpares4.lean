/-
  Walks of functions, and plain laws (texts put together). No condition.
-/
import Derived.Test.YtehpcclfgjccbaaDoorMSheetSpares1
import Derived.Test.YtehpcclfgjccbaaDoorMSheetSpares2
import Derived.Test.YtehpcclfgjccbaaDoorMSheetSpares3
set_option maxRecDepth 100000
set_option maxHeartbeats 1000000
set_option linter.unusedSimpArgs false
set_option linter.unusedVariables false
namespace Go.Proofs.YtehpcclfgjccbaaDoor
open Go.RowKit
theorem Rd.memR {n1 size n : Nat} {w w' : World} {B : Option Addr} {xs : List Value} {ex : Nat → Prop} {L : List (Nat × BA)} (h : Rd w n1 size B n xs) (M : Mem w ex w' L) (hx : ∀ b o, B = some ⟨b, o, none⟩ → 0 < n → ¬ ex b) (hle : n1 ≤ w.heap.size) : Rd w' n1 size B n xs :=
 ⟨h.1, fun hn => by
  obtain ⟨b, o, h1, h2, h3⟩ := h.2 hn
  exact ⟨b, o, h1, h2, fun j u hu => (World.cell?_of_block (w := w) (a := ⟨b, o + j, none⟩) (M.block b (by omega) (hx b o h1 hn))).trans (h3 j u hu)⟩⟩
theorem RdF.memX {B n : Nat} {w w' : World} {A : Option Addr} {xs : List Value} {ex : Nat → Prop} {L : List (Nat × BA)} (r : RdF B w A n xs) (M : Mem w ex w' L) (hx : ∀ b, ex b → b < B) : RdF B w' A n xs :=
 ⟨(r.1.memR M (fun b o h1 h2 he => by have := hx b he; have := r.2 b o h1 h2; omega) (Nat.le_refl _)).more M.size, r.2⟩
theorem RdF.nil (B : Nat) (w : World) : RdF B w none 0 (ic []) := ⟨⟨by simp [ic], fun h => absurd h (by omega)⟩, fun b o h => by cases h⟩
theorem RdF.tail {B n : Nat} {w0 w : World} {A : Option Addr} {xs : List Value} {ex : Nat → Prop} {L : List (Nat × BA)} (r : RdF B w A n xs) (hB : w0.heap.size ≤ B) (hl : xs.length = n) (M : Mem w0 ex w L) (hL : ∀ p ∈ L, p.1 < B ∨ p.2 = dfA) : ∃ I : List (Nat × BA), (∃ b o, ∀ (w1 : World) (ex : Nat → Prop), Sp w1 ex I A n 1 b o xs) ∧ Mem w0 ex w (L ++ I) := by
 rcases Nat.eq_zero_or_pos n with rfl | hn
 ·have hx : xs = [] := List.eq_nil_of_length_eq_zero hl
  subst hx
  exact ⟨[], ⟨0, 0, fun w1 ex => Sp.nil⟩, by rw [List.append_nil]; exact M⟩
 ·obtain ⟨b, o, h1, h2, h3⟩ := r.1.2 hn
  have hb := r.2 b o h1 hn
  refine ⟨[(b, .any fun ob => ob = w.heap[b])], ⟨b, o, fun w1 ex => ⟨fun _ => h1, r.1.1, fun w' L M' hI _ => BA.lt (M'.blk _ (hI.subset List.mem_cons_self)).2, fun w' L M' hI j u hu => ?_⟩⟩, (M.add (by omega) (p := .any fun ob => ob = w.heap[b]) ⟨_, Array.getElem?_eq_getElem h2, rfl⟩ (fun q hq e => ?_)).swapI (I := [(b, .any fun ob => ob = w.heap[b])])⟩
  ·obtain ⟨ob, ho, he⟩ := M'.at (hI.subset List.mem_cons_self)
   subst he
   exact (World.cell?_of_block (w := w) (a := ⟨b, o + j, none⟩) (ho.trans (Array.getElem?_eq_getElem h2).symm)).trans (h3 j u hu)
  ·rcases hL q hq with h | h
   ·omega
   ·have hq2 : (q.1, dfA) ∈ L := by rw [← h]; exact hq
    obtain ⟨ob, ho, he⟩ := M.at hq2
    have hc := h3 0 xs[0] (List.getElem?_eq_getElem (by omega))
    obtain ⟨ob2, ho2, hc2⟩ := cell_isC hc
    rw [e] at ho
    rw [ho] at ho2
    injection ho2 with ho2
    rw [← ho2, he] at hc2
    cases hc2
theorem sheets1_any (s : Sk) (A : Option Addr) (d : Nat) (a c : Int) (ga gc gb gt n1 gm : Nat) (G : Option Addr) (n : Nat) (g : List Int) (num : Nat)  (w : World) (ha : 0 ≤ a ∧ a ≤ 2) (hc : 0 ≤ c ∧ c ≤ 2) (hg : ∀ p ∈ s.ps, p.good) (h5 : s.ps.length ≤ 5) (hlo : 0 ≤ s.lo ∧ s.lo ≤ 12) (hwi : 0 ≤ s.wi ∧ s.wi ≤ 12) (hd : s.ps.length ≤ d) (hn1 : n1 ≤ gm) (hgl : g.length = s.ps.length) (hnum : num ≤ 1000000) (he : PlW w n1 a c ga gc A s.ps) (qb : Bk w gb #[.int .i64 s.lo, .int .i64 s.wi, .int .i64 s.a0, .int .i64 s.a1, .int .i64 s.c0, .int .i64 s.c1, .slice A s.ps.length d, .func (.func 100) #[] #[.pointer (some ⟨ga, 0, none⟩)], .func (.func 101) #[] #[.pointer (some ⟨gc, 0, none⟩)]]) (qt : Bk w gt #[.map (some gm)]) (hq : BA.holds w gm (.any (memoQ Tryd.prog 120 (okW a c s)))) (hG : Rd w w.heap.size 1 G g.length (ic g)) :
  Calls Tryd.prog 110 #[.slice G g.length n, .int .i64 (num : Int), .pointer (some ⟨gb, 0, none⟩), .pointer (some ⟨gt, 0, none⟩)] w fun e9 w' => e9 = .returned (.bool (willV a c s g num)) ∧ Mem w (fun b => b = gm) w' [(gm, .any (memoQ Tryd.prog 120 (okW a c s)))] := by
 obtain ⟨bG, oG, SG⟩ := Sp.oldM hG (by omega) hq
 have hnb : ¬ gb = gm := memo_not hq (by simpa using qb.cell 0)
 have hnt : ¬ gt = gm := memo_not hq (by simpa using qt.cell 0)
 refine Zpx (fun b => b = gm) Tryd.func110 rfl 12 rfl [.slice G g.length n, .int .i64 (num : Int), .pointer (some ⟨gb, 0, none⟩), .pointer (some ⟨gt, 0, none⟩)] rfl rfl (Mem.initEx (p := .any (memoQ Tryd.prog 120 (okW a c s))) hq) ?_
 intro ac wc T M
 refine Zsr ?_
 refine lq T (Zra rfl evc) ?_; clear T ac; intro ac T
 refine wpList_nil ?_
 replace T := T.pick [1, 2, 3, 4] rfl
 refine nm_then ?_
 refine Zsr ?_
 refine Zg4 T (Zq (Zrr (Mem.old M qb hnb) rfl (T.e 2 rfl) rfl)) rfl (Zm 1 rfl rfl) rfl (Zm 3 rfl rfl) rfl (fun _ T => Zq (Zro (Mem.old M qt hnt) rfl (T.e 6 rfl) rfl)) rfl ?_; clear T ac; intro ac T
 refine Zl2 ?_
 have hE9 := he.mem M (fun b h => by have : b = gm := h; omega)
 refine Zoc (first := []) (cap := []) T rfl rfl rfl rfl evf (.cons (T.e 3 rfl) (.cons (T.e 2 rfl) (.cons (T.e 1 rfl) (.cons (T.e 0 rfl) .nil)))) Tryd.func111 rfl rfl ?_
 refine Calls.mono (will_any s A d a c ga gc G n g num gm _ ha hc hg h5 hlo hwi hd hgl (by omega) hE9.qa hE9.qc (hE9.hL.more hE9.le) (SG.rd M (List.nil_sublist _)) hE9.tab (M.at (Zne (i := 0) rfl))) ?_
 clear T; rintro e wc ⟨rfl, N⟩ ac T
 replace M := M.joinE N .head
 clear N
 refine lq T (Zra rfl (T.e 0 rfl)) ?_; clear T ac; intro ac T
 refine wpList_nil ?_
 replace T := T.pick [0] rfl
 refine Znr ?_
 refine rt_1 T rfl (T.e 0 rfl) ?_
 exact ⟨rfl, M⟩
def FewPost (a c : Int) (s : Sk) (gm : Nat) (w : World) (e9 : Ending) (w' : World) : Prop := ∃ (bA : Option Addr) (bc : Nat) (bl : List Int) (bn : Nat) (bi : Bool), e9 = .returned (.tuple #[.slice bA bl.length bc, .int .i64 (bn : Int), .bool bi]) ∧ fewF (fun x : List Int × Nat => willV a c s x.1 x.2) (asgP s.ps.length [] 0) = (if bi = true then some (bl, bn) else none) ∧ bl.length ≤ bc ∧ ∃ I : List (Nat × BA), (∃ b o, ∀ (w1 : World) (ex : Nat → Prop), Sp w1 ex I bA bl.length 1 b o (ic bl)) ∧ Mem w (fun b => b = gm) w' ((gm, .any (memoQ Tryd.prog 120 (okW a c s))) :: I)
theorem fewS_take {p : List Int × Nat → Bool} {l : List Int} {n bn : Nat} {bl : List Int} {bi : Bool} (h : (bi = false ∨ (n : Int) < (bn : Int)) ∧ p (l, n) = true) : fewS p (if bi = true then some (bl, bn) else none) (l, n) = some (l, n) := by
 obtain ⟨h1, h2⟩ := h
 cases bi with
 | false => simp [fewS, h2]
 | true =>
  have : n < bn := by rcases h1 with h | h; cases h; omega
  simp [fewS, h2, this]
theorem fewS_leave {p : List Int × Nat → Bool} {l : List Int} {n bn : Nat} {bl : List Int} {bi : Bool} (h : ¬ ((bi = false ∨ (n : Int) < (bn : Int)) ∧ p (l, n) = true)) : fewS p (if bi = true then some (bl, bn) else none) (l, n) = if bi = true then some (bl, bn) else none := by
 unfold fewS
 rw [if_neg]
 intro h2
 rw [Bool.and_eq_true] at h2
 refine h ⟨?_, h2.2⟩
 cases bi with
 | false => exact .inl rfl
 | true =>
  right
  have := h2.1
  simp at this
  omega
set_option maxHeartbeats 4000000 in
theorem few_any (s : Sk) (A : Option Addr) (d : Nat) (a c : Int) (ga gc gb gt n1 gm : Nat) (gl : Nat)  (w : World) (ha : 0 ≤ a ∧ a ≤ 2) (hc : 0 ≤ c ∧ c ≤ 2) (hg : ∀ p ∈ s.ps, p.good) (h5 : s.ps.length ≤ 5) (hlo : 0 ≤ s.lo ∧ s.lo ≤ 12) (hwi : 0 ≤ s.wi ∧ s.wi ≤ 12) (hd : s.ps.length ≤ d) (hn1 : n1 ≤ gm) (he : PlW w n1 a c ga gc A s.ps) (qb : Bk w gb #[.int .i64 s.lo, .int .i64 s.wi, .int .i64 s.a0, .int .i64 s.a1, .int .i64 s.c0, .int .i64 s.c1, .slice A s.ps.length d, .func (.func 100) #[] #[.pointer (some ⟨ga, 0, none⟩)], .func (.func 101) #[] #[.pointer (some ⟨gc, 0, none⟩)]]) (qt : Bk w gt #[.map (some gm)]) (hq : BA.holds w gm (.any (memoQ Tryd.prog 120 (okW a c s)))) (ql : Bk w gl #[.int .i64 (s.ps.length : Int)]) :
   Calls Tryd.prog 108 #[.func (.func 120) #[] #[.pointer (some ⟨gl, 0, none⟩)], .func (.func 110) #[] #[.pointer (some ⟨gb, 0, none⟩), .pointer (some ⟨gt, 0, none⟩)]] w (FewPost a c s gm w) := by
 have hnb : ¬ gb = gm := memo_not hq (by simpa using qb.cell 0)
 have hnt : ¬ gt = gm := memo_not hq (by simpa using qt.cell 0)
 have hnl : ¬ gl = gm := memo_not hq (by simpa using ql.cell 0)
 have hx9 : ∀ b, b = gm → n1 ≤ b := fun b h => by omega
 refine px_enterM (fun b => b = gm) Tryd.func108 rfl 30 rfl [.func (.func 120) #[] #[.pointer (some ⟨gl, 0, none⟩)], .func (.func 110) #[] #[.pointer (some ⟨gb, 0, none⟩), .pointer (some ⟨gt, 0, none⟩)]] rfl rfl (Mem.initEx (p := .any (memoQ Tryd.prog 120 (okW a c s))) hq) ?_
 intro ac wc T M
 refine Zsr ?_
 refine Zl2 ?_
 refine Zob M T rfl rfl rfl rfl (T.e 1 rfl) rfl ?_; clear M T; intro g1 wc ac M T
 refine Zl2 ?_
 refine Zoa M T rfl rfl rfl rfl ?_; clear M T; intro g2 wc ac M T
 refine Zl2 ?_
 refine Zoa M T rfl rfl rfl rfl ?_; clear M T; intro g3 wc ac M T
 refine Zl2 ?_
 refine Zoa M T rfl rfl rfl rfl ?_; clear M T; intro g4 wc ac M T
 refine wpList_nil ?_
 replace T := T.pick [0, 1, 2, 3, 4] rfl
 refine Zns ?_
 refine Zsr ?_
 refine lq T (Zrm rfl (T.e 4 rfl)) ?_; clear T ac; intro ac T
 refine wpList_nil ?_
 replace T := T.pick [0, 1, 2, 3, 4] rfl
 refine nm_then ?_
 refine wp_block ?_
 obtain ⟨n9, hn9⟩ : ∃ q : Nat, q = wc.heap.size := ⟨_, rfl⟩
 have hn9w : w.heap.size ≤ n9 := by rw [hn9]; exact M.size
 have hE := he.mem M hx9
 have qb0 := M.old qb hnb
 have qt0 := M.old qt hnt
 have ql0 := M.old ql hnl
 have qw0 := M.nth 3 rfl
 have hnw : g1 ∉ ([g4, g3, g2, gm] : List Nat) := M.other 3 rfl (bs := [g4, g3, g2, gm]) rfl ∘ (fun h => by simp only [List.mem_cons, List.not_mem_nil, or_false] at h ⊢; omega)
 have hown : ∀ b, b ∈ ([g4, g3, g2, gm] : List Nat) → n1 ≤ b := fun b hb => M.ges he.le hx9 (bs := [g4, g3, g2, g1, gm]) rfl b (by simp only [List.mem_cons, List.not_mem_nil, or_false] at hb ⊢; omega)
 have hownl : ∀ b, b ∈ ([g4, g3, g2, gm] : List Nat) → b < n9 := fun b hb => by rw [hn9]; exact M.lts (bs := [g4, g3, g2, g1, gm]) rfl b (by simp only [List.mem_cons, List.not_mem_nil, or_false] at hb ⊢; omega)
 have hown2 : ∀ b, b ∈ ([g4, g3, g2, gm] : List Nat) → b = gm ∨ w.heap.size ≤ b := fun b hb => by
   simp only [List.mem_cons, List.not_mem_nil, or_false] at hb
   rcases hb with hb | hb | hb | hb
   · subst hb; exact (M.blk _ (Zne (i := 0) rfl)).1.symm
   · subst hb; exact (M.blk _ (Zne (i := 1) rfl)).1.symm
   · subst hb; exact (M.blk _ (Zne (i := 2) rfl)).1.symm
   · subst hb; exact (M.blk _ (Zne (i := 4) rfl)).1.symm
 have hngt : gt ∉ ([g4, g3, g2, gm] : List Nat) := fun h => by rcases hown2 _ h with h9 | h9; exact hnt h9; have := qt.lt; omega
 have hngl : gl ∉ ([g4, g3, g2, gm] : List Nat) := fun h => by rcases hown2 _ h with h9 | h9; exact hnl h9; have := ql.lt; omega
 have hngb : gb ∉ ([g4, g3, g2, gm] : List Nat) := fun h => by rcases hown2 _ h with h9 | h9; exact hnb h9; have := qb.lt; omega
 replace T := T.pick [4, 3, 2, 1, 0] rfl
 replace M := M.mask [true, true, true, false, true] rfl
 have hlt_g4 := M.lt (Zne (i := 0) rfl)
 have hlt_g3 := M.lt (Zne (i := 1) rfl)
 have hlt_g2 := M.lt (Zne (i := 2) rfl)
 have hlt_gm := M.lt (Zne (i := 3) rfl)
 refine px_rangeB (α := AsX) (γ := Unit) (n := 30) T (T.e 4 rfl) (enters_of Tryd.func120 (by kernel_rfl) rfl) (fun b => b ∈ ([g4, g3, g2, gm] : List Nat)) (asg_seq gl s.ps.length (fun b => b ∈ ([g4, g3, g2, gm] : List Nat)) _ h5 hngl (fun b h => by rw [← hn9]; exact hownl b h) ql0) (fun _ => rfl) (fun (pre : List (AsX)) (Lx : List (Nat × BA)) (W : World) => ∃ (bA : Option Addr) (bc : Nat) (bl : List Int) (bn : Nat) (bi : Bool), (fewF (fun x : List Int × Nat => willV a c s x.1 x.2) (pre.map asP) = if bi = true then some (bl, bn) else none) ∧ (RdF n9 W bA bl.length (ic bl)) ∧ (bl.length ≤ bc) ∧ (PlW W n1 a c ga gc A s.ps) ∧ (Bk W gb #[.int .i64 s.lo, .int .i64 s.wi, .int .i64 s.a0, .int .i64 s.a1, .int .i64 s.c0, .int .i64 s.c1, .slice A s.ps.length d, .func (.func 100) #[] #[.pointer (some ⟨ga, 0, none⟩)], .func (.func 101) #[] #[.pointer (some ⟨gc, 0, none⟩)]]) ∧ (Bk W gt #[.map (some gm)]) ∧ (Bk W g1 #[.func (.func 110) #[] #[.pointer (some ⟨gb, 0, none⟩), .pointer (some ⟨gt, 0, none⟩)]]) ∧ Lx = [(g4, .cells [.bool bi]), (g3, .cells [.int .i64 (bn : Int)]), (g2, .cells [.slice bA bl.length bc]), (gm, .any (memoQ Tryd.prog 120 (okW a c s)))]) (fun _ _ _ _ => False)
   (fun x => [(11, .int .i64 (x.n : Int)), (10, .slice x.A x.l.length x.c), (3, .pointer (some ⟨g1, 0, none⟩)), (4, .pointer (some ⟨g2, 0, none⟩)), (5, .pointer (some ⟨g3, 0, none⟩)), (6, .pointer (some ⟨g4, 0, none⟩)), (9, .func (.func 120) #[] #[.pointer (some ⟨gl, 0, none⟩)])]) (fun x _ => [(8, .int .i64 (x.n : Int)), (7, .slice x.A x.l.length x.c), (3, .pointer (some ⟨g1, 0, none⟩)), (4, .pointer (some ⟨g2, 0, none⟩)), (5, .pointer (some ⟨g3, 0, none⟩)), (6, .pointer (some ⟨g4, 0, none⟩))]) (fun x _ => []) ?_ ?_ ?_ ?_ ?_ ?_ ?_ ?_ M ?_ ?_ ?_ ?_ ?_ ?_ ?_
 ·rintro pre Lx W ⟨bA, bc, bl, bn, bi, hF, hR, hcp, he, qb, qt, qw, rfl⟩ p hp
  rcases List.mem_cons.1 hp with rfl | hp
  · exact hlt_g4
  rcases List.mem_cons.1 hp with rfl | hp
  · exact hlt_g3
  rcases List.mem_cons.1 hp with rfl | hp
  · exact hlt_g2
  rcases List.mem_cons.1 hp with rfl | hp
  · exact hlt_gm
  cases hp
 ·rintro c pre Lx W h
  exact h.elim
 ·rintro pre Lx W ⟨bA, bc, bl, bn, bi, hF, hR, hcp, he, qb, qt, qw, rfl⟩ p hp
  exact List.mem_map.2 ⟨p, hp, rfl⟩
 ·intro b hb
  simp only [List.mem_cons, List.not_mem_nil, or_false] at hb
  rcases hb with rfl | rfl | rfl | rfl
  · exact hlt_g4
  · exact hlt_g3
  · exact hlt_g2
  · exact hlt_gm
 ·intro b hb
  simp only [List.mem_cons, List.not_mem_nil, or_false] at hb
  rcases hb with rfl | rfl | rfl | rfl
  · exact (M.blk _ (Zne (i := 0) rfl)).1.symm
  · exact (M.blk _ (Zne (i := 1) rfl)).1.symm
  · exact (M.blk _ (Zne (i := 2) rfl)).1.symm
  · exact (M.blk _ (Zne (i := 3) rfl)).1.symm
 ·exact AsOx.calm _ _ _
 ·rintro pre Lx W W' ⟨bA, bc, bl, bn, bi, hF, hR, hcp, he, qb, qt, qw, rfl⟩ hK
  exact ⟨bA, bc, bl, bn, bi, hF, (hR.kpN hK), hcp, (he.kpN hK), (hK.bk qb), (hK.bk qt), (hK.bk qw), rfl⟩
 ·exact fun _ _ _ _ _ h _ => h
 ·exact ⟨none, 0, [], 0, false, rfl, (RdF.nil _ _), (Nat.le_refl _), hE, qb0, qt0, qw0, rfl⟩
 ·exact fun x => T.round2 _ _ rfl rfl rfl rfl
 ·intro x c p hp
  cases hp
 ·intro lp9 x wc K1 ac T hK1
  have M := Mem.init wc noEx
  refine wpIn_seq ?_
  refine ri_lit (fun _ _ h => h) rfl ?_
  refine lq T (Zra rfl (T.e 1 rfl)) ?_; clear T ac; intro ac T
  refine wpList_nil ?_
  replace T := T.pick [0, 1, 3, 4, 5, 6] rfl
  refine nm_then ?_
  refine ri_lit (fun _ _ h => h) rfl ?_
  refine lq T (Zra rfl (T.e 1 rfl)) ?_; clear T ac; intro ac T
  refine wpList_nil ?_
  replace T := T.pick [0, 1, 3, 4, 5, 6] rfl
  refine nm_then ?_
  exact hK1 () _ _ (T.pick [0, 1, 2, 3, 4, 5] rfl) (M.mask [] rfl)
 ·rintro lp9 pre x ⟨⟩ Lx ac w hj hox hz hlp M0 hnl9 exb wc hexb hwc T M
  obtain ⟨bA, bc, bl, bn, bi, hF, hR, hcp, he, qb, qt, qw, rfl⟩ := hj
  replace T : TmD [] ac 30 [(8, .int .i64 (x.n : Int)), (7, .slice x.A x.l.length x.c), (3, .pointer (some ⟨g1, 0, none⟩)), (4, .pointer (some ⟨g2, 0, none⟩)), (5, .pointer (some ⟨g3, 0, none⟩)), (6, .pointer (some ⟨g4, 0, none⟩))] := T
  replace M : Mem w exb wc [(g4, .cells [.bool bi]), (g3, .cells [.int .i64 (bn : Int)]), (g2, .cells [.slice bA bl.length bc]), (gm, .any (memoQ Tryd.prog 120 (okW a c s)))] := M
  have hxb : ∀ b, exb b → n1 ≤ b := by rw [hexb]; exact hown
  have hxl : ∀ b, exb b → b < n9 := by rw [hexb]; exact hownl
  have hnb9 : ¬ exb gb := by rw [hexb]; exact hngb
  have hnt9 : ¬ exb gt := by rw [hexb]; exact hngt
  have hnw9 : ¬ exb g1 := by rw [hexb]; exact hnw
  have hxr := hox.1.1
  rw [← hwc] at hxr
  have hox3 := hox.2.2.1
  have hox4 := hox.2.2.2
  have hRx := hox.1
  rw [← hn9] at hRx
  refine wpIn_block ?_
  refine ci_seq (fun ac wc => Tm ac 30 [(3, .pointer (some ⟨g1, 0, none⟩)), (4, .pointer (some ⟨g2, 0, none⟩)), (5, .pointer (some ⟨g3, 0, none⟩)), (6, .pointer (some ⟨g4, 0, none⟩)), (7, .slice x.A x.l.length x.c), (8, .int .i64 (x.n : Int)), (24, .bool (bif (!bi) then (willV a c s x.l x.n) else ((decide ((x.n : Int) < (bn : Int))) && (willV a c s x.l x.n))))] ∧ Mem w exb wc [(g4, .cells [.bool bi]), (g3, .cells [.int .i64 (bn : Int)]), (g2, .cells [.slice bA bl.length bc]), (gm, .any (memoQ Tryd.prog 120 (okW a c s)))]) ?_ ?_
  ·refine ri_lit (fun _ _ h => h) rfl ?_
   refine Zg3 T (Zq (Zro (Mem.nth M 0 rfl) rfl (T.e 5 rfl) rfl)) rfl (fun _ T => Zq (rn_not rfl (T.e 0 rfl))) rfl (Zm 0 rfl rfl) rfl ?_; clear T ac; intro ac T
   rcases Bool.eq_false_or_eq_true (!bi) with h1 | h1
   ·refine Zg8 T (Zp (Zwn rfl rfl (T.e 0 rfl) h1)) rfl (fun _ T => Zp (Zwn rfl rfl (T.e 1 rfl) h1)) rfl (fun _ T => Zp (Zwn rfl rfl (T.e 2 rfl) h1)) rfl (fun _ T => Zq (Zr1 rfl (T.e 3 rfl) h1 evc)) rfl (Zm 0 rfl rfl) rfl (fun _ T => Zw (Zwy rfl rfl (T.e 0 rfl) rfl) (Zro (Mem.old M qw hnw9) rfl (T.e 10 rfl) rfl)) rfl (fun _ T => Zw (Zwy rfl rfl (T.e 1 rfl) rfl) (Zrm rfl (T.e 10 rfl))) rfl (fun _ T => Zw (Zwy rfl rfl (T.e 2 rfl) rfl) (Zrm rfl (T.e 10 rfl))) rfl ?_; clear T ac; intro ac T
    refine l_w (Zwy rfl rfl (T.e 3 rfl) rfl) ?_; intro K hK
    have hM9 : Rd wc wc.heap.size 1 x.A x.l.length (ic x.l) := hxr
    refine Zoc (first := []) (cap := [.pointer (some ⟨gb, 0, none⟩), .pointer (some ⟨gt, 0, none⟩)]) T rfl rfl rfl rfl (T.e 2 rfl) (.cons (T.e 1 rfl) (.cons (T.e 0 rfl) .nil)) Tryd.func110 rfl rfl ?_
    refine Calls.mono (sheets1_any s A d a c ga gc gb gt n1 gm x.A x.c x.l x.n _ ha hc hg h5 hlo hwi hd hn1 hox3 (by omega) (he.mem M hxb) (M.old qb hnb9) (M.old qt hnt9) (M.at (Zne (i := 3) rfl)) hM9) ?_
    clear T; rintro e wc ⟨rfl, N⟩ ac T
    replace M := M.joinE N (.tail (.tail (.tail .head)))
    clear N
    refine Zso hK _ _ ?_; clear hK K
    refine lq T (Zr1 rfl (T.e 4 rfl) rfl (T.e 0 rfl)) ?_; clear T ac; intro ac T
    refine wpList_nil ?_
    replace T := T.pick [0, 1, 2, 3, 4, 7, 8, 9, 13, 14, 15, 16, 17, 18] rfl
    exact ⟨(T.pick (E' := [(3, .pointer (some ⟨g1, 0, none⟩)), (4, .pointer (some ⟨g2, 0, none⟩)), (5, .pointer (some ⟨g3, 0, none⟩)), (6, .pointer (some ⟨g4, 0, none⟩)), (7, .slice x.A x.l.length x.c), (8, .int .i64 (x.n : Int)), (24, .bool (willV a c s x.l x.n))]) [10, 11, 12, 13, 9, 8, 0] rfl).as (by (try rw [show (!bi) = true from h1]); (try rfl)), M.mask [true, true, true, true] rfl⟩
   refine Zg5 T (Zw (Zwy rfl rfl (T.e 0 rfl) h1) (Zrm rfl (T.e 3 rfl))) rfl (fun _ T => Zw (Zwy rfl rfl (T.e 1 rfl) h1) (Zro (Mem.nth M 1 rfl) rfl (T.e 8 rfl) rfl)) rfl (fun _ T => Zw (Zwy rfl rfl (T.e 2 rfl) h1) (rn_lss rfl (T.e 1 rfl) (T.e 0 rfl))) rfl (fun _ T => Zq (Zr0 rfl (T.e 3 rfl) h1 (T.e 0 rfl))) rfl (Zm 0 rfl rfl) rfl ?_; clear T ac; intro ac T
   rcases Bool.eq_false_or_eq_true (decide ((x.n : Int) < (bn : Int))) with h2 | h2
   ·replace h2 := of_decide_eq_true h2
    refine Zg3 T (Zw (Zwy rfl rfl (T.e 0 rfl) (Zdt h2)) (Zro (Mem.old M qw hnw9) rfl (T.e 10 rfl) rfl)) rfl (fun _ T => Zw (Zwy rfl rfl (T.e 1 rfl) (Zdt h2)) (Zrm rfl (T.e 10 rfl))) rfl (fun _ T => Zw (Zwy rfl rfl (T.e 2 rfl) (Zdt h2)) (Zrm rfl (T.e 10 rfl))) rfl ?_; clear T ac; intro ac T
    refine l_w (Zwy rfl rfl (T.e 3 rfl) (Zdt h2)) ?_; intro K hK
    have hM9 : Rd wc wc.heap.size 1 x.A x.l.length (ic x.l) := hxr
    refine Zoc (first := []) (cap := [.pointer (some ⟨gb, 0, none⟩), .pointer (some ⟨gt, 0, none⟩)]) T rfl rfl rfl rfl (T.e 2 rfl) (.cons (T.e 1 rfl) (.cons (T.e 0 rfl) .nil)) Tryd.func110 rfl rfl ?_
    refine Calls.mono (sheets1_any s A d a c ga gc gb gt n1 gm x.A x.c x.l x.n _ ha hc hg h5 hlo hwi hd hn1 hox3 (by omega) (he.mem M hxb) (M.old qb hnb9) (M.old qt hnt9) (M.at (Zne (i := 3) rfl)) hM9) ?_
    clear T; rintro e wc ⟨rfl, N⟩ ac T
    replace M := M.joinE N (.tail (.tail (.tail .head)))
    clear N
    refine Zso hK _ _ ?_; clear hK K
    refine lq T (Zr1 rfl (T.e 4 rfl) (Zdt h2) (T.e 0 rfl)) ?_; clear T ac; intro ac T
    refine wpList_nil ?_
    replace T := T.pick [0, 1, 2, 3, 4, 7, 8, 9, 13, 14, 15, 16, 17, 18] rfl
    exact ⟨(T.pick (E' := [(3, .pointer (some ⟨g1, 0, none⟩)), (4, .pointer (some ⟨g2, 0, none⟩)), (5, .pointer (some ⟨g3, 0, none⟩)), (6, .pointer (some ⟨g4, 0, none⟩)), (7, .slice x.A x.l.length x.c), (8, .int .i64 (x.n : Int)), (24, .bool (willV a c s x.l x.n))]) [10, 11, 12, 13, 9, 8, 0] rfl).as (by (try rw [show (!bi) = false from h1]); (try rw [show (decide ((x.n : Int) < (bn : Int))) = true from (Zdt h2)]); (try rfl)), M.mask [true, true, true, true] rfl⟩
   replace h2 := of_decide_eq_false h2
   refine Zg5 T (Zp (Zwn rfl rfl (T.e 0 rfl) (Zdf h2))) rfl (fun _ T => Zp (Zwn rfl rfl (T.e 1 rfl) (Zdf h2))) rfl (fun _ T => Zp (Zwn rfl rfl (T.e 2 rfl) (Zdf h2))) rfl (fun _ T => Zp (Zwn rfl rfl (T.e 3 rfl) (Zdf h2))) rfl (fun _ T => Zq (Zr0 rfl (T.e 4 rfl) (Zdf h2) evc)) rfl ?_; clear T ac; intro ac T
   refine wpList_nil ?_
   replace T := T.pick [0, 1, 2, 3, 4, 7, 8, 9, 13, 14, 15, 16, 17, 18] rfl
   exact ⟨(T.pick (E' := [(3, .pointer (some ⟨g1, 0, none⟩)), (4, .pointer (some ⟨g2, 0, none⟩)), (5, .pointer (some ⟨g3, 0, none⟩)), (6, .pointer (some ⟨g4, 0, none⟩)), (7, .slice x.A x.l.length x.c), (8, .int .i64 (x.n : Int)), (24, .bool false)]) [10, 11, 12, 13, 9, 8, 0] rfl).as (by (try rw [show (!bi) = false from h1]); (try rw [show (decide ((x.n : Int) < (bn : Int))) = false from (Zdf h2)]); (try rfl)), M.mask [true, true, true, true] rfl⟩
  clear T M
  rintro ac wc ⟨T, M⟩
  refine wpIn_cond_split (T.e 6 rfl) ?_ ?_
  ·intro h3
   (have h3' := h3; try simp only [Zb1, Zb2, Zb3, Zb4, Zb5, Zb6, Zb7] at h3')
   refine ri_lit (fun _ _ h => h) rfl ?_
   refine Zg2 T (Zq (Zrm rfl (T.e 4 rfl))) rfl (Zm 6 rfl rfl) rfl ?_; clear T ac; intro ac T
   refine Zl2 ?_
   refine Zos M T rfl rfl (T.e 3 rfl) (T.e 1 rfl) rfl (.tail (.tail .head)) rfl (by simp) rfl (by kernel_rfl) ?_; clear M T; intro wc ac M T
   refine Zl2 ?_
   refine Zos M T rfl rfl (T.e 4 rfl) (T.e 0 rfl) rfl (.tail .head) rfl (by simp) rfl (by kernel_rfl) ?_; clear M T; intro wc ac M T
   refine Zl2 ?_
   refine Zos M T rfl rfl (T.e 5 rfl) evc rfl .head rfl (by simp) rfl (by kernel_rfl) ?_; clear M T; intro wc ac M T
   refine wpList_nil ?_
   replace T := T.pick [2, 3, 4, 5] rfl
   refine Znb ?_
   refine rb_nm (L := [(g4, .cells [.bool true]), (g3, .cells [.int .i64 (x.n : Int)]), (g2, .cells [.slice x.A x.l.length x.c]), (gm, .any (memoQ Tryd.prog 120 (okW a c s)))]) ?_ (M.mask [true, true, true, true] rfl)
   exact ⟨x.A, x.c, x.l, x.n, true, (by rw [List.map_append, show [x].map asP = [(x.l, x.n)] from rfl, fewF_snoc, hF, fewS_take (by cases bi <;> simp_all)]; rfl), (hRx.memX M hxl), hox.2.1, (he.mem M hxb), (M.old qb hnb9), (M.old qt hnt9), (M.old qw hnw9), rfl⟩
  intro h3
  (have h3' := h3; try simp only [Zb1, Zb2, Zb3, Zb4, Zb5, Zb6, Zb7] at h3')
  refine wpIn_skip ?_
  refine Znb ?_
  refine rb_nm (L := [(g4, .cells [.bool bi]), (g3, .cells [.int .i64 (bn : Int)]), (g2, .cells [.slice bA bl.length bc]), (gm, .any (memoQ Tryd.prog 120 (okW a c s)))]) ?_ (M.mask [true, true, true, true] rfl)
  exact ⟨bA, bc, bl, bn, bi, (by rw [List.map_append, show [x].map asP = [(x.l, x.n)] from rfl, fewF_snoc, hF, fewS_leave (by cases bi <;> simp_all)]), (hR.memX M hxl), hcp, (he.mem M hxb), (M.old qb hnb9), (M.old qt hnt9), (M.old qw hnw9), rfl⟩
 ·rintro D1 pre Lx ac wc hDn hSd hj hz T M
  obtain ⟨bA, bc, bl, bn, bi, hF, hR, hcp, he, qb, qt, qw, rfl⟩ := hj
  replace T : TmD ((([D1] : List Nat)).map dfD) ac 30 [(3, .pointer (some ⟨g1, 0, none⟩)), (4, .pointer (some ⟨g2, 0, none⟩)), (5, .pointer (some ⟨g3, 0, none⟩)), (6, .pointer (some ⟨g4, 0, none⟩)), (9, .func (.func 120) #[] #[.pointer (some ⟨gl, 0, none⟩)])] := T
  have hFd := hF
  rw [hSd] at hFd
  obtain ⟨IR, SR, M⟩ := hR.tail hn9w (ic_length _) M (fun p hp => by rcases List.mem_cons.1 hp with rfl | hp; exact .inr rfl; exact .inl (hownl _ (List.mem_map_of_mem (f := fun q : Nat × BA => q.1) hp)))
  replace M : Mem w (fun b => b = gm) wc ((D1, dfA) :: (g4, .cells [.bool bi]) :: (g3, .cells [.int .i64 (bn : Int)]) :: (g2, .cells [.slice bA bl.length bc]) :: (gm, .any (memoQ Tryd.prog 120 (okW a c s))) :: IR) := M
  replace T := T.pick [1, 2, 3] rfl
  refine Znb ?_
  refine Zns ?_
  refine Zgs M (M.mask [true, false, false, false, true] rfl) 6 (by kernel_rfl) rfl (by kernel_rfl) ?_
  clear M; intro wc M
  refine g_addG 3 M ?_
  refine g_addG 4 (M.mask [true, true, true, false, true] rfl) ?_
  refine g_addG 5 (M.mask [true, true, false, false, true] rfl) ?_
  refine gq T 0 1 rfl (fun B w' hD hl hS => (Zro (Mem.nth (show Mem w (fun b => b = gm) w' _ from ((MA.lft (MA.rgt (MA.rgt hS))) (hD.wait (i := 0) (m := 3) (by kernel_rfl) hl))) 3 rfl) rfl (T.e 0 rfl) rfl)) ?_; clear T ac; intro ac T
  refine gq T 1 3 rfl (fun B w' hD hl hS => (Zro (Mem.nth (show Mem w (fun b => b = gm) w' _ from ((MA.lft (MA.rgt hS)) (hD.wait (i := 1) (m := 4) (by kernel_rfl) hl))) 2 rfl) rfl (T.e 2 rfl) rfl)) ?_; clear T ac; intro ac T
  refine gq T 2 7 rfl (fun B w' hD hl hS => (Zro (Mem.nth (show Mem w (fun b => b = gm) w' _ from ((MA.lft hS) (hD.wait (i := 2) (m := 5) (by kernel_rfl) hl))) 1 rfl) rfl (T.e 4 rfl) rfl)) ?_; clear T ac; intro ac T
  refine gw 3 15 ?_; intro K hK
  refine Zos M T rfl rfl (T.e 3 rfl) (T.e 2 rfl) rfl (.tail (.tail (.tail .head))) rfl (by simp) rfl (by kernel_rfl) ?_; clear M T; intro wc ac M T
  refine Zso hK _ _ (MA.mk (fun _ => M.mask [true, true, false, false, true] rfl) (MA.mk (fun _ => M.mask [true, true, true, false, true] rfl) (MA.mk (fun h => (no_of (by kernel_rfl) h).elim) (M.mask [true, false, false, false, true] rfl)))) ?_; clear hK K
  refine gw 4 31 ?_; intro K hK
  refine Zos M T rfl rfl (T.e 4 rfl) (T.e 1 rfl) rfl (.tail (.tail .head)) rfl (by simp) rfl (by kernel_rfl) ?_; clear M T; intro wc ac M T
  refine Zso hK _ _ (MA.mk (fun _ => M.mask [true, true, false, false, true] rfl) (MA.mk (fun h => (no_of (by kernel_rfl) h).elim) (MA.mk (fun h => (no_of (by kernel_rfl) h).elim) (M.mask [true, false, false, false, true] rfl)))) ?_; clear hK K
  refine gw 5 63 ?_; intro K hK
  refine Zos M T rfl rfl (T.e 5 rfl) (T.e 0 rfl) rfl (.tail .head) rfl (by simp) rfl (by kernel_rfl) ?_; clear M T; intro wc ac M T
  refine Zso hK _ _ (MA.mk (fun h => (no_of (by kernel_rfl) h).elim) (MA.mk (fun h => (no_of (by kernel_rfl) h).elim) (MA.mk (fun h => (no_of (by kernel_rfl) h).elim) (M.mask [true, false, false, false, true] rfl)))) ?_; clear hK K
  refine Zgd (by kernel_rfl) ?_
  replace T := T.pick [3, 4, 5] rfl
  refine Znr ?_
  refine rtM (L := ((g4, .cells [.bool bi]) :: (g3, .cells [.int .i64 (bn : Int)]) :: (g2, .cells [.slice bA bl.length bc]) :: (gm, .any (memoQ Tryd.prog 120 (okW a c s))) :: IR)) (([D1] : List Nat)) T (Mem.swapI (I := dfT (([D1] : List Nat))) (L := ((g4, .cells [.bool bi]) :: (g3, .cells [.int .i64 (bn : Int)]) :: (g2, .cells [.slice bA bl.length bc]) :: (gm, .any (memoQ Tryd.prog 120 (okW a c s))) :: IR)) (M.permT [0, 1, 2, 3, 4] 5 rfl rfl rfl rfl)) ?_; clear T M; intro wc ac T M
  refine rt_ccc M T rfl (T.e 0 rfl) (T.e 1 rfl) (T.e 2 rfl) (Zne (i := 2) rfl) (Zne (i := 1) rfl) (Zne (i := 0) rfl) ?_
  exact ⟨bA, bc, bl, bn, bi, rfl, hFd, hcp, IR, SR, M.mask [false, false, false, true] rfl⟩
 ·intro D c pre Lx ac wc hDn hS h
  exact h.elim
theorem Mem.joinEI {g : Nat} {w0 w w' : World} {ex : Nat → Prop} {L L' I : List (Nat × BA)} {p p' : BA} (M : Mem w0 ex w L) (N : Mem w (fun b => b = g) w' ((g, p') :: I)) (hu : Upd L g p p' L') : Mem w0 ex w' (L' ++ I) := by
 have N1 : Mem w (fun b => b = g) w' [(g, p')] := N.sub (List.Sublist.cons_cons _ (List.nil_sublist _))
 have M1 := M.joinE N1 hu
 have hI : ∀ q ∈ I, w.heap.size ≤ q.1 := fun q hq => by
   rcases (N.blk q (List.mem_cons_of_mem _ hq)).1 with h | h
   · exact h
   · exact ((List.nodup_cons.1 N.nd).1 (List.mem_map.2 ⟨q, hq, h⟩)).elim
 have hL : ∀ q ∈ L', q.1 < w.heap.size := fun q hq => by
   have h1 : q.1 ∈ L'.map (·.1) := List.mem_map_of_mem hq
   rw [hu.keys] at h1
   obtain ⟨r, hr, e⟩ := List.mem_map.1 h1
   rw [← e]
   exact BA.lt (M.blk r hr).2
 refine ⟨M1.os, M1.tape, M1.output, M1.size, M1.block, fun q hq => ?_, ?_⟩
 · rcases List.mem_append.1 hq with hq | hq
   · exact M1.blk q hq
   · exact ⟨.inl (Nat.le_trans M.size (hI q hq)), (N.blk q (List.mem_cons_of_mem _ hq)).2⟩
 · rw [List.map_append]
   refine List.nodup_append.2 ⟨M1.nd, (List.nodup_cons.1 N.nd).2, fun i hi j hj e => ?_⟩
   obtain ⟨q, hq, rfl⟩ := List.mem_map.1 hi
   obtain ⟨r, hr, rfl⟩ := List.mem_map.1 hj
   have := hL q hq
   have := hI r hr
   omega
theorem rn_quo {P : Program} {op : Oper} {a : Act} {w : World} {ty ty' : TypeId} {x y : Operand} {p q : Int} (ho : op.op = .binOp .quo ty x y ty') (hx : a.eval x = .int .i64 p) (hy : a.eval y = .int .i64 q) (hq : q ≠ 0) (hb : -9223372036854775808 ≤ p.tdiv q ∧ p.tdiv q ≤ 9223372036854775807) : Runs P op a (.int .i64 (p.tdiv q)) w := by
 refine rn_bin ho hx hy ?_
 rw [eqGuard_quo, binOp_quo]
 unfold Op.intDiv
 rw [if_neg (by simpa using hq)]
 show Result.ok (Value.int .i64 (IntKind.i64.wrap (p.tdiv q))) w = _
 rw [IntWalk.i64_in _ hb]
def ShsPost (a c : Int) (s : Sk) (w : World) (e9 : Ending) (w' : World) : Prop := ∃ (bA : Option Addr) (bc : Nat) (bl : List Int) (bn : Nat) (bi : Bool) (I : List (Nat × BA)), e9 = .returned (.tuple #[.slice bA bl.length bc, .int .i64 (bn : Int), .bool bi]) ∧ fewF (fun x : List Int × Nat => willV a c s x.1 x.2) (asgP s.ps.length [] 0) = (if bi = true then some (bl, bn) else none) ∧ bl.length ≤ bc ∧ (∃ b o, ∀ (w1 : World) (ex : Nat → Prop), Sp w1 ex I bA bl.length 1 b o (ic bl)) ∧ Mem w noEx w' I
theorem shs_any (s : Sk) (A : Option Addr) (d : Nat) (a c : Int) (ga gc : Nat)  (w : World) (ha : 0 ≤ a ∧ a ≤ 2) (hc : 0 ≤ c ∧ c ≤ 2) (hg : ∀ p ∈ s.ps, p.good) (h5 : s.ps.length ≤ 5) (hlo : 0 ≤ s.lo ∧ s.lo ≤ 12) (hwi : 0 ≤ s.wi ∧ s.wi ≤ 12) (hd : s.ps.length ≤ d) (qa : Bk w ga #[.int .i64 a]) (qc : Bk w gc #[.int .i64 c]) (hA : Rd w w.heap.size 4 A s.ps.length (pc s.ps)) (hT : TabW w)  :
  Calls Tryd.prog 84 #[.agg #[.int .i64 s.lo, .int .i64 s.wi, .int .i64 s.a0, .int .i64 s.a1, .int .i64 s.c0, .int .i64 s.c1, .slice A s.ps.length d, .func (.func 100) #[] #[.pointer (some ⟨ga, 0, none⟩)], .func (.func 101) #[] #[.pointer (some ⟨gc, 0, none⟩)]]] w (ShsPost a c s w) := by
 have he0 : PlW w w.heap.size a c ga gc A s.ps := ⟨qa, qc, hA, qa.lt, qc.lt, hT.lt, Nat.le_refl _, hT⟩
 refine Zpx noEx Tryd.func84 rfl 17 rfl [.agg #[.int .i64 s.lo, .int .i64 s.wi, .int .i64 s.a0, .int .i64 s.a1, .int .i64 s.c0, .int .i64 s.c1, .slice A s.ps.length d, .func (.func 100) #[] #[.pointer (some ⟨ga, 0, none⟩)], .func (.func 101) #[] #[.pointer (some ⟨gc, 0, none⟩)]]] rfl rfl (Mem.init w _) ?_
 intro ac wc T M
 refine Zsr ?_
 refine Zl2 ?_
 refine Zob M T rfl rfl rfl rfl (T.e 0 rfl) rfl ?_; clear M T; intro g1 wc ac M T
 refine Zg3 T (Zq (Zra rfl evc)) rfl (Zc rfl) rfl (Zc rfl) rfl ?_; clear T ac; intro ac T
 refine wpList_nil ?_
 replace T := T.pick [3] rfl
 refine nm_then ?_
 refine Zsr ?_
 refine Zl2 ?_
 refine ow_mmM (okW a c s) M T rfl Tryd.underlying151 rfl rfl rfl ?_; clear M T; intro g2 wc ac M T
 refine Zl2 ?_
 refine Zoa M T rfl rfl rfl rfl ?_; clear M T; intro g3 wc ac M T
 refine Zl2 ?_
 refine Zos M T rfl rfl (T.e 0 rfl) (T.e 1 rfl) rfl .head rfl (by simp) rfl (by kernel_rfl) ?_; clear M T; intro wc ac M T
 refine wpList_nil ?_
 replace T := T.pick [0, 2] rfl
 refine nm_then ?_
 refine Zsr ?_
 refine Zg4 (v1 := (.pointer (some ⟨g1, 0, none⟩))) (v2 := (.pointer (some ⟨g1, 6, none⟩))) T (Zq (Zrf (off := 0) rfl (T.e 1 rfl) (fun _ _ _ => by kernel_rfl))) rfl (Zf 6 0 rfl rfl) rfl (Zo M 2 0 rfl rfl rfl rfl) rfl (Zl Tryd.underlying24 0 rfl rfl) rfl ?_; clear T ac; intro ac T
 refine Zl2 ?_
 refine Zoc (first := []) (cap := []) T rfl rfl rfl rfl evf (.cons (T.e 0 rfl) .nil) Tryd.func109 rfl rfl ?_
 refine Calls.mono (asg_any s.ps.length _) ?_
 clear T; rintro e wc ⟨gu1, rfl, N⟩ ac T
 replace M := M.join N; clear N
 replace M := M.mask [true, true, true, true] rfl
 refine lq (v := (.func (.func 110) #[] #[.pointer (some ⟨g1, 0, none⟩), .pointer (some ⟨g3, 0, none⟩)])) T (rn_makeFunc rfl .nil (.cons (T.e 6 rfl) (.cons (T.e 5 rfl) .nil))) ?_; clear T ac; intro ac T
 refine Zl2 ?_
 refine Zoc (first := []) (cap := []) T rfl rfl rfl rfl evf (.cons (T.e 1 rfl) (.cons (T.e 0 rfl) .nil)) Tryd.func108 rfl rfl ?_
 refine Calls.mono (few_any s A d a c ga gc g1 g3 w.heap.size g2 gu1 _ ha hc hg h5 hlo hwi hd (M.ge (Zne (i := 2) rfl)) (he0.mem M (fun b h => h.elim)) (M.nth 3 rfl) (M.nth 1 rfl) (M.at (Zne (i := 2) rfl)) (M.nth 0 rfl)) ?_
 clear T; rintro e wc ⟨bA, bc, bl, bn, bi, rfl, hFd, hcp, IRu2, SR, N⟩ ac T
 replace M := M.joinEI N (.tail (.tail .head))
 clear N
 replace M : Mem w noEx wc ((gu1, .cells [.int .i64 ((s.ps.length : Nat) : Int)]) :: (g3, .cells [.map (some g2)]) :: (g2, .any (memoQ Tryd.prog 120 (okW a c s))) :: (g1, .cells [.int .i64 s.lo, .int .i64 s.wi, .int .i64 s.a0, .int .i64 s.a1, .int .i64 s.c0, .int .i64 s.c1, .slice A s.ps.length d, .func (.func 100) #[] #[.pointer (some ⟨ga, 0, none⟩)], .func (.func 101) #[] #[.pointer (some ⟨gc, 0, none⟩)]]) :: IRu2) := M
 refine Zg6 T (Zq (Zre rfl (T.e 0 rfl) rfl)) rfl (Ze 1 rfl rfl rfl) rfl (Ze 2 rfl rfl rfl) rfl (Za 2 rfl rfl) rfl (Za 2 rfl rfl) rfl (Za 2 rfl rfl) rfl ?_; clear T ac; intro ac T
 refine wpList_nil ?_
 replace T := T.pick [0, 1, 2] rfl
 replace M := M.mask [false, false, true, false] rfl
 refine Znr ?_
 refine rt_3 T rfl (T.e 2 rfl) (T.e 1 rfl) (T.e 0 rfl) ?_
 exact ⟨bA, bc, bl, bn, bi, IRu2, rfl, hFd, hcp, SR, M.sub (Zsq ([(g2, .any (memoQ Tryd.prog 120 (okW a c s)))] : List (Nat × BA)) _)⟩
def ShPost (s : Sk) (su : Bool) (w : World) (e9 : Ending) (w' : World) : Prop := ∃ A c I, e9 = .returned (.tuple #[.slice A (shL s su).length c, .int .i64 (shN s su : Int), .int .i64 (shE s su)]) ∧ (shL s su).length ≤ c ∧ (∃ b o, ∀ (w : World) (ex : Nat → Prop), Sp w ex I A (shL s su).length 1 b o (ic (shL s su))) ∧ Mem w noEx w' I
theorem shF_of {s : Sk} {su : Bool} {bl : List Int} {bn : Nat} {bi : Bool} (h : fewF (fun x : List Int × Nat => willV (cutA s su) (cutC s su) s x.1 x.2) (asgP s.ps.length [] 0) = (if bi = true then some (bl, bn) else none)) (h0 : skErr s = 0) : (bi = true → shE s su = 0 ∧ shL s su = bl ∧ shN s su = bn) ∧ (bi = false → shE s su = 11 ∧ shL s su = [] ∧ shN s su = 0) := by
 have hF : shF s su = if bi = true then some (bl, bn) else none := h
 constructor
 ·rintro rfl
  have e1 : shE s su = 0 := by unfold shE; rw [if_neg (by omega), hF]; rfl
  exact ⟨e1, by unfold shL; rw [if_pos e1, hF]; rfl, by unfold shN; rw [if_pos e1, hF]; rfl⟩
 ·rintro rfl
  have e1 : shE s su = 11 := by unfold shE; rw [if_neg (by omega), hF]; rfl
  exact ⟨e1, by unfold shL; rw [if_neg (by omega)], by unfold shN; rw [if_neg (by omega)]⟩
theorem shE_err {s : Sk} {su : Bool} (h : skErr s ≠ 0) : shE s su = skErr s ∧ shL s su = [] ∧ shN s su = 0 := by
 have e1 : shE s su = skErr s := if_pos h
 exact ⟨e1, by unfold shL; rw [if_neg (by omega)], by unfold shN; rw [if_neg (by omega)]⟩
theorem shN_le {s : Sk} {su : Bool} : shN s su ≤ s.ps.length := by
 unfold shN
 split
 ·cases hf : shF s su with
  | none => simp
  | some x =>
   obtain ⟨h1, h2⟩ := fewF_spec (fun x => willB s su x.1 x.2) (asgP s.ps.length [] 0)
   obtain ⟨-, -, k3, -⟩ := h2 _ hf
   obtain ⟨t, t1, t2, t3⟩ := (mem_asg _ _ _ _ _).1 k3
   have := t3.le
   simp only [Option.getD_some]
   omega
 ·omega
theorem Sheets_any (s : Sk) (A : Option Addr) (d : Nat) (su : Bool)  (w : World) (hA : Rd w w.heap.size 4 A s.ps.length (pc s.ps)) (nA : s.ps.length ≤ 1000000) (hd : s.ps.length ≤ d) (hT : TabW w)  :
   Calls Tryd.prog 34 #[.agg #[.int .i64 s.lo, .int .i64 s.wi, .int .i64 s.a0, .int .i64 s.a1, .int .i64 s.c0, .int .i64 s.c1, .slice A s.ps.length d], .bool su] w (ShPost s su w) := by
 obtain ⟨bA, oA, SA⟩ := Sp.old hA
 refine Zpx noEx Tryd.func34 rfl 28 rfl [.agg #[.int .i64 s.lo, .int .i64 s.wi, .int .i64 s.a0, .int .i64 s.a1, .int .i64 s.c0, .int .i64 s.c1, .slice A s.ps.length d], .bool su] rfl rfl (Mem.init w _) ?_
 intro ac wc T M
 refine Zsr ?_
 refine Zl2 ?_
 refine Zob M T rfl rfl rfl rfl (T.e 0 rfl) rfl ?_; clear M T; intro g1 wc ac M T
 refine Zg3 T (Zq (Zra rfl evc)) rfl (Zc rfl) rfl (Zc rfl) rfl ?_; clear T ac; intro ac T
 refine wpList_nil ?_
 replace T := T.pick [3, 5] rfl
 refine Zns ?_
 refine Zsr ?_
 refine lq T (Zrr (Mem.nth M 0 rfl) rfl (T.e 0 rfl) rfl) ?_; clear T ac; intro ac T
 refine Zl2 ?_
 refine Zoc (first := []) (cap := []) T rfl rfl rfl rfl evf (.cons (T.e 0 rfl) .nil) Tryd.func60 rfl rfl ?_
 refine Calls.mono (skCheck_any s A d _ (SA.rd M (List.nil_sublist _)) (by omega)) ?_
 clear T; rintro e wc ⟨rfl, hb⟩ ac T
 replace M := M.call hb; clear hb
 refine lq T (Zra rfl (T.e 0 rfl)) ?_; clear T ac; intro ac T
 refine wpList_nil ?_
 replace T := T.pick [0, 3, 4] rfl
 refine nm_then ?_
 refine Zsr ?_
 refine Zg2 T (Zq (Zrm rfl (T.e 0 rfl))) rfl (fun _ T => Zq (rn_neq rfl (T.e 0 rfl) evc)) rfl ?_; clear T ac; intro ac T
 refine wpList_nil ?_
 replace T := T.pick [0, 2, 3, 4] rfl
 refine nm_then ?_
 refine wp_ifn (T.e 0 rfl) ?_ ?_
 ·intro h1
  refine Zsr ?_
  refine Zg4 T (Zq (Zrm rfl (T.e 1 rfl))) rfl (Zc rfl) rfl (Zc rfl) rfl (Za 2 rfl rfl) rfl ?_; clear T ac; intro ac T
  refine wpList_nil ?_
  replace T := T.pick [0, 1, 2] rfl
  replace M := M.mask [false] rfl
  refine Znr ?_
  refine Zrt ?_
  refine rt_3 T rfl (T.e 2 rfl) (T.e 1 rfl) (T.e 0 rfl) ?_
  obtain ⟨e1, e2, e3⟩ := shE_err (s := s) (su := su) (by omega)
  unfold ShPost
  rw [e1, e2, e3]
  exact ⟨none, 0, [], rfl, by simp, ⟨0, 0, fun _ _ => Sp.nil⟩, M.sub (List.nil_sublist _)⟩
 intro h1
 have hsg := skErr_iff.1 (show skErr s = 0 by omega)
 obtain ⟨hb1, hb2, -, -, -, -⟩ := hsg
 have hsg := skErr_iff.1 (show skErr s = 0 by omega)
 refine Zsk ?_
 refine Zsr ?_
 refine Zg2 T (Zq (Zrr (Mem.nth M 0 rfl) rfl (T.e 2 rfl) rfl)) rfl (Zm 4 rfl rfl) rfl ?_; clear T ac; intro ac T
 refine Zl2 ?_
 refine Zoc (first := []) (cap := []) T rfl rfl rfl rfl evf (.cons (T.e 1 rfl) (.cons (T.e 0 rfl) .nil)) Tryd.func70 rfl rfl ?_
 refine Calls.mono (cut_any s A d su _) ?_
 clear T; rintro e wc ⟨gau2, gcu2, rfl, N⟩ ac T
 obtain ⟨a, hae⟩ : ∃ q, q = cutA s su := ⟨_, rfl⟩
 obtain ⟨c, hce⟩ : ∃ q, q = cutC s su := ⟨_, rfl⟩
 rw [← hae, ← hce] at N
 obtain ⟨ha, hc⟩ := cut_bd hsg su
 rw [← hae] at ha
 rw [← hce] at hc
 replace M := M.join N; clear N
 replace M := M.mask [true, true, true] rfl
 refine Zl2 ?_
 refine Zoc (first := []) (cap := []) T rfl rfl rfl rfl evf (.cons (T.e 0 rfl) .nil) Tryd.func84 rfl rfl ?_
 refine Calls.mono (shs_any s A d a c gau2 gcu2 _ ha hc hsg.ps hsg.len (by omega) (by omega) (by omega) (M.nth 0 rfl) (M.nth 1 rfl) (SA.rd M (List.nil_sublist _)) (hT.mem0 M)) ?_
 clear T; rintro e wc ⟨bA, bc, bl, bn, bi, IRu3, rfl, hFd, hcp, SR, N⟩ ac T
 replace M := (M.join N).swapI
 clear N
 replace M : Mem w noEx wc ((gau2, .cells [.int .i64 a]) :: (gcu2, .cells [.int .i64 c]) :: (g1, .cells [.int .i64 s.lo, .int .i64 s.wi, .int .i64 s.a0, .int .i64 s.a1, .int .i64 s.c0, .int .i64 s.c1, .slice A s.ps.length d]) :: IRu3) := M
 refine Zg7 T (Zq (Zrm rfl (T.e 0 rfl))) rfl (Ze 0 rfl rfl rfl) rfl (Ze 1 rfl rfl rfl) rfl (Ze 2 rfl rfl rfl) rfl (Za 2 rfl rfl) rfl (Za 2 rfl rfl) rfl (Za 2 rfl rfl) rfl ?_; clear T ac; intro ac T
 refine wpList_nil ?_
 replace T := T.pick [0, 1, 2] rfl
 replace M := M.mask [false, false, false] rfl
 refine Zns ?_
 refine Zsr ?_
 refine Zg2 T (Zq (Zrm rfl (T.e 0 rfl))) rfl (fun _ T => Zq (rn_not rfl (T.e 0 rfl))) rfl ?_; clear T ac; intro ac T
 refine wpList_nil ?_
 replace T := T.pick [0, 3, 4] rfl
 refine nm_then ?_
 refine wp_cond_split (T.e 0 rfl) ?_ ?_
 ·intro h2
  (have h2' := h2; try simp only [Zb1, Zb2, Zb3, Zb4, Zb5, Zb6, Zb7] at h2')
  refine Zsr ?_
  refine Zg3 T (Zq (Zra rfl evc)) rfl (Zc rfl) rfl (Zc rfl) rfl ?_; clear T ac; intro ac T
  refine wpList_nil ?_
  replace T := T.pick [0, 1, 2] rfl
  refine Znr ?_
  refine Zrt ?_
  refine rt_3 T rfl (T.e 2 rfl) (T.e 1 rfl) (T.e 0 rfl) ?_
  rw [hae, hce] at hFd
  have hk9 := shF_of hFd (by omega)
  obtain ⟨e1, e2, e3⟩ := hk9.2 (by simp_all)
  unfold ShPost
  rw [e1, e2, e3]
  exact ⟨none, 0, [], rfl, by simp, ⟨0, 0, fun _ _ => Sp.nil⟩, M.sub (List.nil_sublist _)⟩
 intro h2
 (have h2' := h2; try simp only [Zb1, Zb2, Zb3, Zb4, Zb5, Zb6, Zb7] at h2')
 refine Zsk ?_
 refine Zsr ?_
 refine Zg5 T (Zq (Zrm rfl (T.e 2 rfl))) rfl (Zm 2 rfl rfl) rfl (Za 1 rfl rfl) rfl (Za 1 rfl rfl) rfl (Zc rfl) rfl ?_; clear T ac; intro ac T
 refine wpList_nil ?_
 replace T := T.pick [0, 1, 2] rfl
 refine Znr ?_
 refine rt_3 T rfl (T.e 2 rfl) (T.e 1 rfl) (T.e 0 rfl) ?_
 rw [hae, hce] at hFd
 have hk9 := shF_of hFd (by omega)
 obtain ⟨e1, e2, e3⟩ := hk9.1 (by simp_all)
 unfold ShPost
 rw [e1, e2, e3]
 exact ⟨bA, bc, IRu3, rfl, hcp, SR, M.sub (Zsq ([] : List (Nat × BA)) _)⟩
theorem tdiv_small {x y : Int} (hx : 0 ≤ x) (hy : 1 ≤ y) : 0 ≤ x.tdiv y ∧ x.tdiv y ≤ x := by
 rw [Int.tdiv_eq_ediv_of_nonneg hx]
 exact ⟨Int.ediv_nonneg hx (by omega), Int.ediv_le_self y hx⟩
def areasS (s : Sk) (su : Bool) : Int := areasP (cutA s su) (cutC s su) s.ps
def bndV (s : Sk) (su : Bool) : Int := if skErr s ≠ 0 then 0 else Int.tdiv (areasS s su + s.lo * s.wi - 1) (s.lo * s.wi)
noncomputable def scrV (s : Sk) (su : Bool) : Int := if shE s su ≠ 0 then 0 else (shN s su : Int) * s.lo * s.wi - areasS s su
theorem Bound_any (s : Sk) (A : Option Addr) (d : Nat) (su : Bool)  (w : World) (hA : Rd w w.heap.size 4 A s.ps.length (pc s.ps)) (nA : s.ps.length ≤ 1000000)  :
   Calls Tryd.prog 52 #[.agg #[.int .i64 s.lo, .int .i64 s.wi, .int .i64 s.a0, .int .i64 s.a1, .int .i64 s.c0, .int .i64 s.c1, .slice A s.ps.length d], .bool su] w fun e w' => e = .returned (.tuple #[.int .i64 (bndV s su), .int .i64 (skErr s)]) ∧ Below w.heap.size w w' := by
 obtain ⟨bA, oA, SA⟩ := Sp.old hA
 refine Zpx noEx Tryd.func52 rfl 27 rfl [.agg #[.int .i64 s.lo, .int .i64 s.wi, .int .i64 s.a0, .int .i64 s.a1, .int .i64 s.c0, .int .i64 s.c1, .slice A s.ps.length d], .bool su] rfl rfl (Mem.init w _) ?_
 intro ac wc T M
 refine Zsr ?_
 refine Zl2 ?_
 refine Zob M T rfl rfl rfl rfl (T.e 0 rfl) rfl ?_; clear M T; intro g1 wc ac M T
 refine Zg2 T (Zq (Zra rfl evc)) rfl (Zc rfl) rfl ?_; clear T ac; intro ac T
 refine wpList_nil ?_
 replace T := T.pick [2, 4] rfl
 refine Zns ?_
 refine Zsr ?_
 refine lq T (Zrr (Mem.nth M 0 rfl) rfl (T.e 0 rfl) rfl) ?_; clear T ac; intro ac T
 refine Zl2 ?_
 refine Zoc (first := []) (cap := []) T rfl rfl rfl rfl evf (.cons (T.e 0 rfl) .nil) Tryd.func60 rfl rfl ?_
 refine Calls.mono (skCheck_any s A d _ (SA.rd M (List.nil_sublist _)) (by omega)) ?_
 clear T; rintro e wc ⟨rfl, hb⟩ ac T
 replace M := M.call hb; clear hb
 refine lq T (Zra rfl (T.e 0 rfl)) ?_; clear T ac; intro ac T
 refine wpList_nil ?_
 replace T := T.pick [0, 3, 4] rfl
 refine nm_then ?_
 refine Zsr ?_
 refine Zg2 T (Zq (Zrm rfl (T.e 0 rfl))) rfl (fun _ T => Zq (rn_neq rfl (T.e 0 rfl) evc)) rfl ?_; clear T ac; intro ac T
 refine wpList_nil ?_
 replace T := T.pick [0, 2, 3, 4] rfl
 refine nm_then ?_
 refine wp_ifn (T.e 0 rfl) ?_ ?_
 ·intro h1
  refine Zsr ?_
  refine Zg3 T (Zq (Zrm rfl (T.e 1 rfl))) rfl (Zc rfl) rfl (Za 1 rfl rfl) rfl ?_; clear T ac; intro ac T
  refine wpList_nil ?_
  replace T := T.pick [0, 1] rfl
  replace M := M.mask [false] rfl
  refine Znr ?_
  refine Zrt ?_
  refine rt_2 T rfl (T.e 1 rfl) (T.e 0 rfl) ?_
  have e9 : bndV s su = 0 := if_pos (by omega)
  rw [e9]
  exact ⟨rfl, M.below⟩
 intro h1
 have hsg := skErr_iff.1 (show skErr s = 0 by omega)
 obtain ⟨hb1, hb2, -, -, -, -⟩ := hsg
 have hsg := skErr_iff.1 (show skErr s = 0 by omega)
 have hm9 := mulS (x := s.lo) (y := s.wi) (by omega) (by omega)
 have hm8 : 1 ≤ s.lo * s.wi := by have := Int.mul_pos (show 0 < s.lo by omega) (show 0 < s.wi by omega); omega
 refine Zsk ?_
 refine Zsr ?_
 refine Zg6 (v1 := (.pointer (some ⟨g1, 0, none⟩))) (v3 := (.pointer (some ⟨g1, 1, none⟩))) T (Zq (Zrf (off := 0) rfl (T.e 2 rfl) (fun _ _ _ => by kernel_rfl))) rfl (Zo M 0 0 rfl rfl rfl rfl) rfl (Zf 1 4 rfl rfl) rfl (Zo M 0 0 rfl rfl rfl rfl) rfl (fun _ T => Zq (rn_mul rfl (T.e 2 rfl) (T.e 0 rfl) (by omega))) rfl (Za 0 rfl rfl) rfl ?_; clear T ac; intro ac T
 refine wpList_nil ?_
 replace T := T.pick [0, 8, 9] rfl
 refine nm_then ?_
 refine Zsr ?_
 refine Zg2 T (Zq (Zrr (Mem.nth M 0 rfl) rfl (T.e 1 rfl) rfl)) rfl (Zm 3 rfl rfl) rfl ?_; clear T ac; intro ac T
 refine Zl2 ?_
 refine Zoc (first := []) (cap := []) T rfl rfl rfl rfl evf (.cons (T.e 1 rfl) (.cons (T.e 0 rfl) .nil)) Tryd.func70 rfl rfl ?_
 refine Calls.mono (cut_any s A d su _) ?_
 clear T; rintro e wc ⟨gau2, gcu2, rfl, N⟩ ac T
 obtain ⟨a, hae⟩ : ∃ q, q = cutA s su := ⟨_, rfl⟩
 obtain ⟨c, hce⟩ : ∃ q, q = cutC s su := ⟨_, rfl⟩
 rw [← hae, ← hce] at N
 obtain ⟨ha, hc⟩ := cut_bd hsg su
 rw [← hae] at ha
 rw [← hce] at hc
 replace M := M.join N; clear N
 replace M := M.mask [true, true, true] rfl
 refine Zl2 ?_
 refine Zoc (first := []) (cap := []) T rfl rfl rfl rfl evf (.cons (T.e 0 rfl) .nil) Tryd.func91 rfl rfl ?_
 refine Calls.mono (areas_any s A d a c gau2 gcu2 _ (SA.rd M (List.nil_sublist _)) hsg.ps hsg.len ha hc (M.nth 0 rfl) (M.nth 1 rfl)) ?_
 clear T; rintro e wc ⟨rfl, hb⟩ ac T
 replace M := M.call hb; clear hb
 have hab := areasP_bd ha hc hsg.ps
 have hl5 := hsg.len
 have hq9 := tdiv_small (x := areasP a c s.ps + s.lo * s.wi - 1) (y := s.lo * s.wi) (by omega) (by omega)
 refine Zg7 T (Zq (Zrm rfl (T.e 4 rfl))) rfl (fun _ T => Zq (rn_add rfl (T.e 1 rfl) (T.e 0 rfl) (by omega))) rfl (fun _ T => Zq (rn_sub rfl (T.e 0 rfl) evc (by omega))) rfl (Zm 7 rfl rfl) rfl (fun _ T => Zq (rn_quo rfl (T.e 1 rfl) (T.e 0 rfl) (by omega) (by omega))) rfl (Za 0 rfl rfl) rfl (Zc rfl) rfl ?_; clear T ac; intro ac T
 refine wpList_nil ?_
 replace T := T.pick [0, 1] rfl
 replace M := M.mask [false, false, false] rfl
 refine Znr ?_
 refine rt_2 T rfl (T.e 1 rfl) (T.e 0 rfl) ?_
 have e9 : bndV s su = Int.tdiv (areasP a c s.ps + s.lo * s.wi - 1) (s.lo * s.wi) := by unfold bndV areasS; rw [if_neg (by omega), hae, hce]
 have e8 : skErr s = 0 := by omega
 rw [e9, e8]
 exact ⟨rfl, M.below⟩
theorem ite_add0 {A : Option Addr} {size : Nat} (p : Prop) [Decidable p] : (if p then A else Option.map (fun x => x.add (0 * size)) A) = A := by
 split
 ·rfl
 ·cases A with
  | none => rfl
  | some q => simp [Addr.add]
section
variable {P : Program} {op : Oper} {a : Act} {K : Act → World → Prop} {Q : Exit → Act → World → Prop} {w0 w : World} {ex : Nat → Prop} {L L' : List (Nat × BA)} {E : List (Nat × Value)} {df : List Deferred} {t nn : Nat}
theorem rn_slice3 {ty e : TypeId} {size : Nat} {x y1 y2 y3 : Operand} {A : Option Addr} {m c l h mx : Nat} (ho : op.op = .slice ty x (some y1) (some y2) (some y3)) (hu : P.underlying ty = some (.slice e)) (hs : (P.info? e).map (·.size) = some size)
   (hx : a.eval x = .slice A m c) (hl : a.eval y1 = .int .i64 (l : Int)) (hh : a.eval y2 = .int .i64 (h : Int)) (hm : a.eval y3 = .int .i64 (mx : Int)) (h1 : l ≤ h) (h2 : h ≤ mx) (h3 : mx ≤ c) : Runs P op a (.slice (if mx = l then A else A.map (·.add (l * size))) (h - l) (mx - l)) w := by
 cases hi' : P.info? e with
 | none => rw [hi'] at hs; simp at hs
 | some inf =>
   rw [hi'] at hs
   simp at hs
   unfold Runs execOp
   simp [ho, hx, hl, hh, hm, Instr.sliceAt, Instr.slice, Instr.sliceBounds, Instr.sliceBound, asIntOf, Sem.run_bind, run_underlying, hu, sizeOf, typeInfo, hi', hs, h1, h2, h3]
theorem ow_appIn {s x : Operand} {ty e size g i m c c2 o2 : Nat} {A1 A2 : Option Addr} {news cs cs' : List Value} (M : Mem w0 ex w L) (T : TmD df a nn E)
   (ho : op.op = .call { callee := .builtin .append, args := #[s, x], argTypes := #[ty, ty] }) (hd : op.dst = some t) (hf : freshE E t = true) (hnn : Nat.blt t nn = true)
   (ht : P.underlying ty = some (.slice e)) (hinfo : (P.info? e).map (·.size) = some size)
   (hs : a.eval s = .slice A1 i c) (hA1 : A1 = some ⟨g, 0, none⟩) (hx : a.eval x = .slice A2 m c2) (hA2 : ∃ o9, A2 = some ⟨g, o9, none⟩ ∧ (0 < m → o9 = o2)) (hn : news.length = m * size) (hnews : ∀ j u, news[j]? = some u → cs[o2 + j]? = some u) (h1 : ∀ u ∈ news, u.oneCell' = true)
   (hroom : i + m ≤ c) (hle : i * size + news.length ≤ cs.length) (hu : Upd L g (.cells cs) (.cells cs') L') (hc : cs' = cs.take (i * size) ++ news ++ cs.drop (i * size + news.length))
   (h : ∀ w' a', Mem w0 ex w' L' → TmD df a' nn ((t, .slice (some ⟨g, 0, none⟩) (i + m) c) :: E) → K a' w') : op.wp P a w K Q := by
 subst hA1
 obtain ⟨o9, rfl, ho9⟩ := hA2
 obtain ⟨inf, hi, hsz⟩ : ∃ inf, P.info? e = some inf ∧ inf.size = size := by
   cases h9 : P.info? e with
   | none => rw [h9] at hinfo; simp at hinfo
   | some inf => rw [h9] at hinfo; exact ⟨inf, rfl, by simpa using hinfo⟩
 subst hsz
 have hB := M.get hu.mem
 have hrun := run_append_room_cells (P := P) w ty op.type e inf ht hi g 0 i c ⟨g, o9, none⟩ m c2 news hn (fun j u hj => by
   rw [Addr.add_mid, hB.cell]
   have hm : 0 < m := by
     rcases Nat.eq_zero_or_pos m with h0 | h0
     · rw [h0, Nat.zero_mul] at hn
       rw [List.eq_nil_of_length_eq_zero hn] at hj
       simp at hj
     · exact h0
   rw [ho9 hm]
   simpa using hnews j u hj) h1 hroom (fun j hj => by
     rw [hB.cell, Nat.zero_add]
     simp
     omega) (fun j hj => hB.frozen _)
 unfold Oper.wp execOp
 simp only [ho, resolve, invoke, builtin, Sem.run_bind, Sem.run_pure, Result.andThen_ok, List.map_toArray, List.map_cons, List.map_nil, hs, hx, hrun]
 rw [Nat.zero_add]
 exact h _ _ (M.write hu (Oth.setCells g _ _ _) (hB.storeAt (i * inf.size) news cs' (by simpa using hle) (by simpa using hc))) (by rw [hd]; exact T.put hnn hf _)
theorem ow_clr {x : Operand} {ty e g o c : Nat} {z : Value} {zs cs cs' : List Value} (M : Mem w0 ex w L) (T : TmD df a nn E)
   (ho : op.op = .call { callee := .builtin .clear, args := #[x], argTypes := #[ty] }) (hd : op.dst = none) (ht : P.underlying ty = some (.slice e)) (hv : ∀ w, (zeroValue e).run P w = .ok z w) (hz : z.cells = zs.toArray) (h1 : zs.all (·.oneCell') = true)
   (hx : a.eval x = .slice (some ⟨g, o, none⟩) 1 c) (hle : o + zs.length ≤ cs.length) (hu : Upd L g (.cells cs) (.cells cs') L') (hc : cs' = cs.take o ++ zs ++ cs.drop (o + zs.length))
   (h : ∀ w' a', Mem w0 ex w' L' → TmD df a' nn E → K a' w') : op.wp P a w K Q := by
 have hB := M.get hu.mem
 have hzc : (Builtin.zeroCells z.cells 1).toList = zs := by
   rw [hz]
   simp only [Builtin.zeroCells, Nat.one_mul, List.size_toArray]
   apply List.ext_getElem
   · simp
   · intro i h1 h2
     simp [Nat.mod_eq_of_lt h2, h2]
 have hst := run_storeCells_cells (P := P) g o zs 0 w (fun j hj => by
   rw [hB.cell]
   simp
   omega) (fun j hj => hB.frozen _) (by simpa using h1)
 simp only [Nat.add_zero] at hst
 have hrun : ∀ ty', (Builtin.clear_ #[ty] ty' #[.slice (some ⟨g, o, none⟩) 1 c]).run P w = .ok (.tuple #[]) (w.setCells g o zs) := fun ty' => by
   simp [Builtin.clear_, run_underlying ht, hv, hzc, hst]
 unfold Oper.wp execOp
 simp only [ho, resolve, invoke, builtin, Sem.run_bind, Sem.run_pure, Result.andThen_ok, List.map_toArray, List.map_cons, List.map_nil, hx, hrun]
 rw [Oper.upon_value, hd]
 exact h _ _ (M.write hu (Oth.setCells g _ _ _) (hB.storeAt o zs cs' (by simpa using hle) (by simpa using hc))) (T.put0 _)
end
theorem pc_app (l k : List Pt) : pc (l ++ k) = pc l ++ pc k := by simp [pc]
theorem Tryd.zeroPart (w : World) : (zeroValue 63).run Tryd.prog w = .ok (.agg #[.int .i64 0, .int .i64 0, .bool false, .int .i64 0]) w := by kernel_rfl
theorem del_cells {l : List Pt} {i k : Nat} {ys : List Value} (hi : i < l.length) (hk : k = i) : (pc l ++ ys).take (k * 4) ++ (pc l).drop ((i + 1) * 4) ++ (pc l ++ ys).drop (k * 4 + ((pc l).drop ((i + 1) * 4)).length) = pc (l.eraseIdx i) ++ (pc l ++ ys).drop ((l.length - 1) * 4) := by
 subst hk
 have e1 := pc_length l
 rw [List.take_append_of_le_length (by omega), pc_take, pc_drop, ← pc_app, ← List.eraseIdx_eq_take_drop_succ]
 congr 2
 rw [pc_length, List.length_drop]
 omega
theorem clr_cells {l : List Pt} {i : Nat} {rs zs : List Value} (hi : i < l.length) : (pc (l.eraseIdx i) ++ rs).take ((l.length - 1) * 4) ++ zs ++ (pc (l.eraseIdx i) ++ rs).drop ((l.length - 1) * 4 + zs.length) = pc (l.eraseIdx i) ++ (zs ++ rs.drop zs.length) := by
 have e1 : (pc (l.eraseIdx i)).length = (l.length - 1) * 4 := by rw [pc_length, List.length_eraseIdx, if_pos hi]
 rw [List.take_append_of_le_length (by omega), List.take_of_length_le (by omega), ← e1, List.drop_append]
 simp
def DelPost (g c i : Nat) (l : List Pt) (w : World) (e : Ending) (w' : World) : Prop := e = .returned (.slice (some ⟨g, 0, none⟩) (l.length - 1) c) ∧ ∃ ys', Mem w (fun b => b = g) w' [(g, .cells (pc (l.eraseIdx i) ++ ys'))]
theorem delete_any (g c i : Nat) (l : List Pt) (ys : List Value)  (w : World) (hi : i < l.length) (hlc : l.length ≤ c) (hcb : l.length ≤ 1000000) (hB : BA.holds w g (.cells (pc l ++ ys))) :
   Calls Tryd.prog 88 #[.slice (some ⟨g, 0, none⟩) l.length c, .int .i64 (i : Int), .int .i64 ((i : Int) + 1)] w (DelPost g c i l w) := by
 have Sg := Sp.pre (w := w) (ex := fun b => b = g) (size := 4) (n := l.length) (g := g) (xs := pc l) (ys := ys) (by rw [pc_length])
 refine Zpx (fun b => b = g) Tryd.func88 rfl 33 rfl [.slice (some ⟨g, 0, none⟩) l.length c, .int .i64 (i : Int), .int .i64 ((i : Int) + 1)] rfl rfl (Mem.initEx (p := .cells (pc l ++ ys)) hB) ?_
 intro ac wc T M
 refine Zsr ?_
 refine lq T (Zra rfl evc) ?_; clear T ac; intro ac T
 refine wpList_nil ?_
 replace T := T.pick [1, 2, 3] rfl
 refine nm_then ?_
 refine Zsr ?_
 refine Zg6 T (Zq (Zrm rfl (T.e 0 rfl))) rfl (Zm 2 rfl rfl) rfl (Zm 4 rfl rfl) rfl (Zm 3 rfl rfl) rfl (Zl Tryd.underlying24 0 rfl rfl) rfl (fun _ T => Zq (rn_slice3 (size := 4) (l := i) (h := (i + 1)) (mx := l.length) rfl Tryd.underlying24 (by kernel_rfl) (T.e 4 rfl) (T.e 3 rfl) ((T.e 2 rfl).trans (congrArg (Value.int .i64) (by omega))) (T.e 0 rfl) (by omega) (by omega) (by omega))) rfl ?_; clear T ac; intro ac T
 refine wpList_nil ?_
 replace T := T.pick [6, 7, 8] rfl
 refine Zns ?_
 refine Zsr ?_
 refine Zg3 T (Zq (Zrm rfl (T.e 1 rfl))) rfl (Zm 3 rfl rfl) rfl (fun _ T => Zq (rn_eql rfl (T.e 1 rfl) (T.e 0 rfl))) rfl ?_; clear T ac; intro ac T
 refine wpList_nil ?_
 replace T := T.pick [0, 3, 4, 5] rfl
 refine nm_then ?_
 refine wp_if (T.e 0 rfl) ?_ ?_
 ·intro h1
  exfalso
  omega
 intro h1
 refine Zsk ?_
 refine Zsr ?_
 refine Zg3 T (Zq (Zrm rfl (T.e 1 rfl))) rfl (Zl Tryd.underlying24 0 rfl rfl) rfl (Za 0 rfl rfl) rfl ?_; clear T ac; intro ac T
 refine wpList_nil ?_
 replace T := T.pick [0, 4, 5, 6] rfl
 refine Zns ?_
 refine Zgs M (M.perm [] rfl rfl) 8 (by kernel_rfl) rfl (by kernel_rfl) ?_
 clear M; intro wc M
 refine gq T 0 1 rfl (fun _ _ _ _ _ => (Zrm rfl (T.e 1 rfl))) ?_; clear T ac; intro ac T
 refine gq T 1 3 rfl (fun _ _ _ _ _ => (Zrm rfl (T.e 3 rfl))) ?_; clear T ac; intro ac T
 refine gq T 2 7 rfl (fun _ _ _ _ _ => (rn_slice (size := 4) (l := 0) (h := i) rfl Tryd.underlying24 (by kernel_rfl) (T.e 1 rfl) rfl (T.e 0 rfl) (by omega) (by omega))) ?_; clear T ac; intro ac T
 obtain ⟨Aq1, hAq1⟩ : ∃ q : Option Addr, q = (if c = 0 then some ⟨g, 0, none⟩ else Option.map (fun x : Addr => x.add (0 * 4)) (some ⟨g, 0, none⟩)) := ⟨_, rfl⟩
 rw [← hAq1] at T
 obtain ⟨lq1, hlq1⟩ : ∃ q, q = (l.drop 0).take (i - 0) := ⟨_, rfl⟩
 have nlq1 : lq1.length = i - 0 := by rw [hlq1, List.length_take, List.length_drop]; (try simp only [List.length_cons, List.length_append, List.length_nil]); omega
 rw [← nlq1] at T
 have SAq1 : Sp w (fun b => b = g) [(g, .cells (pc l ++ ys))] Aq1 lq1.length 4 g (0 + 0 * 4) (pc lq1) := by rw [nlq1, hAq1, hlq1, ← pc_part]; exact Sg.sub (by omega) (by omega) (by omega)
 refine gq T 3 15 rfl (fun _ _ _ _ _ => (Zrm rfl (T.e 4 rfl))) ?_; clear T ac; intro ac T
 refine gq T 4 31 rfl (fun _ _ _ _ _ => (Zrm rfl (T.e 7 rfl))) ?_; clear T ac; intro ac T
 refine gq T 5 63 rfl (fun _ _ _ _ _ => (rn_slice (size := 4) (l := (i + 1)) (h := l.length) rfl Tryd.underlying24 (by kernel_rfl) (T.e 1 rfl) ((T.e 0 rfl).trans (congrArg (Value.int .i64) (by omega))) rfl (by omega) (by omega))) ?_; clear T ac; intro ac T
 obtain ⟨Aq2, hAq2⟩ : ∃ q : Option Addr, q = (if c = (i + 1) then some ⟨g, 0, none⟩ else Option.map (fun x : Addr => x.add ((i + 1) * 4)) (some ⟨g, 0, none⟩)) := ⟨_, rfl⟩
 rw [← hAq2] at T
 obtain ⟨lq2, hlq2⟩ : ∃ q, q = (l.drop (i + 1)).take (l.length - (i + 1)) := ⟨_, rfl⟩
 have nlq2 : lq2.length = l.length - (i + 1) := by rw [hlq2, List.length_take, List.length_drop]; (try simp only [List.length_cons, List.length_append, List.length_nil]); omega
 rw [← nlq2] at T
 have SAq2 : Sp w (fun b => b = g) [(g, .cells (pc l ++ ys))] Aq2 lq2.length 4 g (0 + (i + 1) * 4) (pc lq2) := by rw [nlq2, hAq2, hlq2, ← pc_part]; exact Sg.sub (by omega) (by omega) (by omega)
 refine gw 6 127 ?_; intro K hK
 refine ow_appIn (cs' := (pc l ++ ys).take (lq1.length * 4) ++ (pc l).drop ((i + 1) * 4) ++ (pc l ++ ys).drop (lq1.length * 4 + ((pc l).drop ((i + 1) * 4)).length)) (size := 4) (o2 := (i + 1) * 4) (news := (pc l).drop ((i + 1) * 4)) M T rfl rfl rfl rfl Tryd.underlying24 (by kernel_rfl) (T.e 3 rfl) (by rw [hAq1]; exact ite_add0 _) (T.e 0 rfl) (by rw [hAq2]; split; exact ⟨0, rfl, fun h => by omega⟩; exact ⟨(i + 1) * 4, by rw [Option.map_some, Addr.add_mid, Nat.zero_add], fun _ => rfl⟩) (by rw [List.length_drop, pc_length]; omega) (fun j u hj => by rw [List.getElem?_drop] at hj; rw [List.getElem?_append_left (List.getElem?_eq_some_iff.1 hj).1]; exact hj) (fun u hu => pc_one l u (List.mem_of_mem_drop hu)) (by omega) (by rw [List.length_drop, List.length_append, pc_length]; omega) .head rfl ?_; clear M T; intro wc ac M T
 rw [del_cells hi (by omega)] at M
 rw [show lq1.length + lq2.length = l.length - 1 by omega, show c - 0 = c from rfl] at T
 refine Zso hK _ _ (M.mask [false] rfl) ?_; clear hK K
 refine g_q (v := (.slice (some ⟨g, 0, none⟩) (l.length - 1) c)) (T := T.pick [0, 1, 2, 3, 4, 5, 6, 7, 9, 10] rfl) (i := 7) rfl (by kernel_rfl) (by kernel_rfl : (Zpb 8 127).setIfInBounds 7 true = Zpb 8 255) si_U (fun _ _ _ h => h) rfl rfl rfl rfl (fun _ _ _ _ _ => (Zra rfl (T.e 0 rfl))) ?_; clear T ac; intro ac T
 refine Zgd (by kernel_rfl) ?_
 replace T := T.pick [0, 8] rfl
 refine nm_then ?_
 refine Zsr ?_
 refine Zg5 T (Zq (Zrm rfl (T.e 0 rfl))) rfl (Zm 1 rfl rfl) rfl (Zl Tryd.underlying24 0 rfl rfl) rfl (Zm 4 rfl rfl) rfl (fun _ T => Zq (rn_slice (size := 4) (l := (l.length - 1)) (h := l.length) rfl Tryd.underlying24 (by kernel_rfl) (T.e 3 rfl) (T.e 1 rfl) (T.e 0 rfl) (by omega) (by omega))) rfl ?_; clear T ac; intro ac T
 refine Zl2 ?_
 refine ow_clr (zs := [.int .i64 0, .int .i64 0, .bool false, .int .i64 0]) (o := (l.length - 1) * 4) (c := c - (l.length - 1)) (cs' := (pc (l.eraseIdx i) ++ (pc l ++ ys).drop ((l.length - 1) * 4)).take ((l.length - 1) * 4) ++ [.int .i64 0, .int .i64 0, .bool false, .int .i64 0] ++ (pc (l.eraseIdx i) ++ (pc l ++ ys).drop ((l.length - 1) * 4)).drop ((l.length - 1) * 4 + ([.int .i64 0, .int .i64 0, .bool false, .int .i64 0] : List Value).length)) M T rfl rfl Tryd.underlying24 Tryd.zeroPart rfl rfl ((T.e 0 rfl).trans (by rw [if_neg (by omega), show l.length - (l.length - 1) = 1 by omega, Option.map_some, Addr.add_mid, Nat.zero_add])) (by simp only [List.length_append, List.length_drop, pc_length, List.length_eraseIdx, if_pos hi, List.length_cons, List.length_nil]; omega) .head rfl ?_; clear M T; intro wc ac M T
 rw [clr_cells hi] at M
 refine wpList_nil ?_
 replace T := T.pick [5] rfl
 refine nm_then ?_
 refine Zsr ?_
 refine Zg2 T (Zq (Zrm rfl (T.e 0 rfl))) rfl (Za 0 rfl rfl) rfl ?_; clear T ac; intro ac T
 refine wpList_nil ?_
 replace T := T.pick [0] rfl
 refine Znr ?_
 refine rt_1 T rfl (T.e 0 rfl) ?_
 exact ⟨rfl, _, M⟩
def skW (s : Sk) (i : Nat) : Sk := { s with ps := s.ps.eraseIdx i }
noncomputable def wrsV (s : Sk) (i : Nat) : Int := if shN (skW s i) true < shN s true then 1 else 2
noncomputable def wrsL (s : Sk) : List Int := if shE s true = 0 then (List.range s.ps.length).map (wrsV s) else []
def LiPost (xs : List Int) (er : Int) (w : World) (e : Ending) (w' : World) : Prop := LsPost 1 (ic xs) xs.length er w e w'
set_option maxHeartbeats 2000000 in
theorem Worst_any (s : Sk) (A : Option Addr) (d : Nat)  (w : World) (hA : Rd w w.heap.size 4 A s.ps.length (pc s.ps)) (nA : s.ps.length ≤ 1000000) (hd : s.ps.length ≤ d) (hT : TabW w)  :
   Calls Tryd.prog 43 #[.agg #[.int .i64 s.lo, .int .i64 s.wi, .int .i64 s.a0, .int .i64 s.a1, .int .i64 s.c0, .int .i64 s.c1, .slice A s.ps.length d]] w (LiPost (wrsL s) (shE s true) w) := by
 obtain ⟨bA, oA, SA⟩ := Sp.old hA
 refine Zpx noEx Tryd.func43 rfl 53 rfl [.agg #[.int .i64 s.lo, .int .i64 s.wi, .int .i64 s.a0, .int .i64 s.a1, .int .i64 s.c0, .int .i64 s.c1, .slice A s.ps.length d]] rfl rfl (Mem.init w _) ?_
 intro ac wc T M
 refine Zsr ?_
 refine Zl2 ?_
 refine Zob M T rfl rfl rfl rfl (T.e 0 rfl) rfl ?_; clear M T; intro g1 wc ac M T
 refine Zg2 T (Zq (Zra rfl evc)) rfl (Zc rfl) rfl ?_; clear T ac; intro ac T
 refine wpList_nil ?_
 replace T := T.pick [2] rfl
 refine nm_then ?_
 refine Zsr ?_
 refine lq T (Zrr (Mem.nth M 0 rfl) rfl (T.e 0 rfl) rfl) ?_; clear T ac; intro ac T
 refine Zl2 ?_
 refine Zoc (first := []) (cap := []) T rfl rfl rfl rfl evf (.cons (T.e 0 rfl) (.cons evc .nil)) Tryd.func34 rfl rfl ?_
 refine Calls.mono (Sheets_any s A d true _ (SA.rd M (List.nil_sublist _)) (by omega) (by omega) (hT.mem0 M)) ?_
 clear T; rintro e wc ⟨ASu1, cSu1, ISu1, rfl, hcpSu1, SVSu1, N⟩ ac T
 obtain ⟨bSu1, oSu1, SVSu1⟩ := SVSu1
 have SSu1 := SVSu1 w noEx
 replace M := (M.join N).swapI
 clear N
 replace M : Mem w noEx wc ((g1, .cells [.int .i64 s.lo, .int .i64 s.wi, .int .i64 s.a0, .int .i64 s.a1, .int .i64 s.c0, .int .i64 s.c1, .slice A s.ps.length d]) :: ISu1) := M
 refine Zg7 T (Zq (Zrm rfl (T.e 0 rfl))) rfl (Ze 0 rfl rfl rfl) rfl (Ze 1 rfl rfl rfl) rfl (Ze 2 rfl rfl rfl) rfl (Za 2 rfl rfl) rfl (Za 2 rfl rfl) rfl (Za 2 rfl rfl) rfl ?_; clear T ac; intro ac T
 refine wpList_nil ?_
 replace T := T.pick [0, 1, 9] rfl
 refine Zns ?_
 refine Zsr ?_
 refine Zg2 T (Zq (Zrm rfl (T.e 0 rfl))) rfl (fun _ T => Zq (rn_neq rfl (T.e 0 rfl) evc)) rfl ?_; clear T ac; intro ac T
 refine wpList_nil ?_
 replace T := T.pick [0, 2, 3, 4] rfl
 refine nm_then ?_
 refine wp_ifn (T.e 0 rfl) ?_ ?_
 ·intro h1
  refine Zsr ?_
  refine Zg3 T (Zq (Zrm rfl (T.e 1 rfl))) rfl (Zc rfl) rfl (Za 1 rfl rfl) rfl ?_; clear T ac; intro ac T
  refine wpList_nil ?_
  replace T := T.pick [0, 1] rfl
  replace M := M.mask [false] rfl
  refine Znr ?_
  refine Zrt ?_
  refine rt_2 T rfl (T.e 1 rfl) (T.e 0 rfl) ?_
  have e9 : wrsL s = [] := if_neg (by omega)
  unfold LiPost
  rw [e9]
  exact LsPost.nil M
 intro h1
 refine Zsk ?_
 refine Zsr ?_
 refine lq T (Zra rfl evc) ?_; clear T ac; intro ac T
 refine wpList_nil ?_
 replace T := T.pick [0, 3, 4] rfl
 refine Zns ?_
 refine Zsr ?_
 refine Zg4 (v1 := (.pointer (some ⟨g1, 6, none⟩))) T (Zq (Zrf (off := 6) rfl (T.e 2 rfl) (fun _ _ _ => by kernel_rfl))) rfl (Zo M 0 0 rfl rfl rfl rfl) rfl (Zl Tryd.underlying24 0 rfl rfl) rfl (fun _ T => Zq (Zrm rfl evc)) rfl ?_; clear T ac; intro ac T
 refine wpList_nil ?_
 replace T := T.pick [0, 1, 4, 5, 6] rfl
 refine nm_then ?_
 refine wp_block ?_
 replace M : Mem w noEx wc [(g1, .cells [.int .i64 s.lo, .int .i64 s.wi, .int .i64 s.a0, .int .i64 s.a1, .int .i64 s.c0, .int .i64 s.c1, .slice A s.ps.length d])] := M.sub (Zsl ([(g1, .cells [.int .i64 s.lo, .int .i64 s.wi, .int .i64 s.a0, .int .i64 s.a1, .int .i64 s.c0, .int .i64 s.c1, .slice A s.ps.length d])] : List (Nat × BA)) _)
 refine wp_loop_n (fun mz ac wc => ∃ (k : Nat) (OL : List Int) (A3 : Option Addr) (c3 : Nat) (Io : List (Nat × BA)), mz = s.ps.length - k ∧ (k ≤ s.ps.length) ∧ (OL = (List.range k).map (wrsV s)) ∧ (OL.length = k) ∧ (Sl 3 1 (.slice A3 OL.length c3) OL.length (ic OL) Io) ∧ Tm ac 53 [(1, .pointer (some ⟨g1, 0, none⟩)), (5, .int .i64 (shN s true : Int)), (7, .slice A3 OL.length c3), (25, .int .i64 ((s.ps.length : Nat) : Int)), (26, .int .i64 (k : Int))] ∧ Mem w noEx wc ((g1, .cells [.int .i64 s.lo, .int .i64 s.wi, .int .i64 s.a0, .int .i64 s.a1, .int .i64 s.c0, .int .i64 s.c1, .slice A s.ps.length d]) :: Io)) ?_ ?_
 ·exact ⟨_, 0, [], none, 0, [], rfl, (Nat.zero_le _), rfl, rfl, (Sl.nil _ _), T.pick [4, 3, 2, 1, 0] rfl, M.mask [true] rfl⟩
 clear T M
 rintro mz ac wc ⟨k, OL, A3, c3, Io, hmm1, hk, hO, hOl, hsl, T, M⟩
 refine Zsr ?_
 refine lq T (rn_lss rfl (T.e 4 rfl) (T.e 3 rfl)) ?_; clear T ac; intro ac T
 refine Zln ?_
 refine wp_seq ?_
 refine wp_if (T.e 0 rfl) ?_ ?_
 ·intro h2
  refine Zsk ?_
  refine wp_seq ?_
  refine wp_block ?_
  refine Zsr ?_
  refine Zg2 T (Zq (Zrm rfl (T.e 5 rfl))) rfl (Za 0 rfl rfl) rfl ?_; clear T ac; intro ac T
  refine wpList_nil ?_
  replace T := T.pick [0, 3, 4, 5, 6, 7] rfl
  refine nm_then ?_
  refine Zsr ?_
  refine lq T (Zrr (Mem.nth M 0 rfl) rfl (T.e 1 rfl) rfl) ?_; clear T ac; intro ac T
  refine Zl2 ?_
  refine Zoa M T rfl rfl rfl rfl ?_; clear M T; intro g2 wc ac M T
  refine Zl2 ?_
  refine Zos M T rfl rfl (T.e 0 rfl) (T.e 1 rfl) rfl .head rfl (by simp) rfl (by kernel_rfl) ?_; clear M T; intro wc ac M T
  refine wpList_nil ?_
  replace T := T.pick [0, 2, 3, 4, 5, 6, 7] rfl
  refine nm_then ?_
  refine Zsr ?_
  refine Zg2 (v1 := (.pointer (some ⟨g1, 6, none⟩))) T (Zq (Zrf (off := 6) rfl (T.e 2 rfl) (fun _ _ _ => by kernel_rfl))) rfl (Zo M 1 0 rfl rfl rfl rfl) rfl ?_; clear T ac; intro ac T
  refine Zl2 ?_
  refine Zoc (first := []) (cap := []) T rfl rfl rfl rfl evf (.cons (T.e 0 rfl) .nil) Tryd.func87 rfl rfl ?_
  refine Calls.mono (cloneP_any A d s.ps _ (SA.rd M (List.nil_sublist _)) (by omega)) ?_
  clear T; rintro e wc ⟨Acu2, ccu2, Icu2, rfl, hclu2, N⟩ ac T
  replace M := (M.join N).swapI
  clear N
  replace M : Mem w noEx wc ((g2, .cells [.int .i64 s.lo, .int .i64 s.wi, .int .i64 s.a0, .int .i64 s.a1, .int .i64 s.c0, .int .i64 s.c1, .slice A s.ps.length d]) :: (g1, .cells [.int .i64 s.lo, .int .i64 s.wi, .int .i64 s.a0, .int .i64 s.a1, .int .i64 s.c0, .int .i64 s.c1, .slice A s.ps.length d]) :: (Io ++ Icu2)) := M
  refine Zg3 T (Zq (Zrm rfl (T.e 4 rfl))) rfl (Zm 5 rfl rfl) rfl (fun _ T => Zq (rn_add rfl (T.e 0 rfl) evc (by omega))) rfl ?_; clear T ac; intro ac T
  refine l_w rfl ?_; intro K hK
  have hcapu2 := hclu2.capLe M (Zsq (((g2, .cells [.int .i64 s.lo, .int .i64 s.wi, .int .i64 s.a0, .int .i64 s.a1, .int .i64 s.c0, .int .i64 s.c1, .slice A s.ps.length d]) :: (g1, .cells [.int .i64 s.lo, .int .i64 s.wi, .int .i64 s.a0, .int .i64 s.a1, .int .i64 s.c0, .int .i64 s.c1, .slice A s.ps.length d]) :: Io) : List (Nat × BA)) _)
  obtain ⟨bd, Id, hsw, M⟩ := hclu2.sw (L := ((g2, .cells [.int .i64 s.lo, .int .i64 s.wi, .int .i64 s.a0, .int .i64 s.a1, .int .i64 s.c0, .int .i64 s.c1, .slice A s.ps.length d]) :: (g1, .cells [.int .i64 s.lo, .int .i64 s.wi, .int .i64 s.a0, .int .i64 s.a1, .int .i64 s.c0, .int .i64 s.c1, .slice A s.ps.length d]) :: Io)) M
  obtain ⟨-, h9 | ⟨rfl, ysd, rfl⟩⟩ := hsw
  · omega
  replace M : Mem w noEx wc ((bd, .cells (pc s.ps ++ ysd)) :: (g2, .cells [.int .i64 s.lo, .int .i64 s.wi, .int .i64 s.a0, .int .i64 s.a1, .int .i64 s.c0, .int .i64 s.c1, .slice A s.ps.length d]) :: (g1, .cells [.int .i64 s.lo, .int .i64 s.wi, .int .i64 s.a0, .int .i64 s.a1, .int .i64 s.c0, .int .i64 s.c1, .slice A s.ps.length d]) :: Io) := M.swapI
  refine Zoc (first := []) (cap := []) T rfl rfl rfl rfl evf (.cons (T.e 3 rfl) (.cons (T.e 2 rfl) (.cons (T.e 0 rfl) .nil))) Tryd.func88 rfl rfl ?_
  refine Calls.mono (delete_any bd ccu2 k s.ps ysd _ (by omega) hcapu2 (by omega) (M.blk _ (Zne (i := 0) rfl)).2) ?_
  clear T; rintro e wc ⟨rfl, N⟩ ac T
  obtain ⟨yse, N⟩ := N
  replace M := M.joinE N .head
  clear N
  have Sd := Sp.pre (w := w) (ex := noEx) (size := 4) (n := (s.ps.eraseIdx k).length) (g := bd) (xs := pc (s.ps.eraseIdx k)) (ys := yse) (by rw [pc_length])
  rw [show s.ps.length - 1 = (s.ps.eraseIdx k).length by rw [List.length_eraseIdx, if_pos (by omega)]] at T
  refine Zso hK _ _ ?_; clear hK K
  refine lq (v := (.pointer (some ⟨g2, 6, none⟩))) T (Zrf (off := 6) rfl (T.e 7 rfl) (fun _ _ _ => by kernel_rfl)) ?_; clear T ac; intro ac T
  refine Zl2 ?_
  refine Zos M T rfl rfl (T.e 0 rfl) (T.e 1 rfl) rfl (.tail .head) rfl (by simp) rfl (by kernel_rfl) ?_; clear M T; intro wc ac M T
  refine wpList_nil ?_
  replace T := T.pick [8, 10, 11, 12, 13, 14] rfl
  refine nm_then ?_
  refine Zsr ?_
  refine lq T (Zra rfl evc) ?_; clear T ac; intro ac T
  refine Zln ?_
  refine wp_seq ?_
  refine Zsr ?_
  refine lq T (Zrr (Mem.nth M 1 rfl) rfl (T.e 1 rfl) rfl) ?_; clear T ac; intro ac T
  refine Zl2 ?_
  refine Zoc (first := []) (cap := []) T rfl rfl rfl rfl evf (.cons (T.e 0 rfl) (.cons evc .nil)) Tryd.func34 rfl rfl ?_
  refine Calls.mono (Sheets_any ({ s with ps := (s.ps.eraseIdx k) } : Sk) (some ⟨bd, 0, none⟩) ccu2 true _ (Sd.rd M (List.Sublist.cons_cons _ (List.nil_sublist _))) (by dsimp only; rw [List.length_eraseIdx]; split <;> omega) (by dsimp only; rw [List.length_eraseIdx]; split <;> omega) (hT.mem0 M)) ?_
  clear T; rintro e wc ⟨ASu4, cSu4, ISu4, rfl, hcpSu4, SVSu4, N⟩ ac T
  replace M := M.call N.below
  clear N
  refine Zg7 T (Zq (Zrm rfl (T.e 0 rfl))) rfl (Ze 0 rfl rfl rfl) rfl (Ze 1 rfl rfl rfl) rfl (Ze 2 rfl rfl rfl) rfl (Za 2 rfl rfl) rfl (Za 2 rfl rfl) rfl (Za 2 rfl rfl) rfl ?_; clear T ac; intro ac T
  refine wpList_nil ?_
  replace T := T.pick [1, 9, 11, 12, 13, 14, 15] rfl
  replace M := M.mask [true, false, true] rfl
  refine nm_then ?_
  refine Zsr ?_
  refine Zg3 T (Zq (Zrm rfl (T.e 0 rfl))) rfl (Zm 4 rfl rfl) rfl (fun _ T => Zq (rn_lss rfl (T.e 1 rfl) (T.e 0 rfl))) rfl ?_; clear T ac; intro ac T
  refine wpList_nil ?_
  replace T := T.pick [0, 4, 5, 6, 7, 8, 9] rfl
  refine nm_then ?_
  refine wp_if (T.e 0 rfl) ?_ ?_
  ·intro h3
   have hwv : wrsV s k = 1 := if_pos (show shN ({ s with ps := s.ps.eraseIdx k } : Sk) true < shN s true by omega)
   refine wp_region_lit ?_
   refine l_q (v := (.int .i64 1)) (T.pick [0, 2, 3, 4, 5, 6] rfl) rfl rfl rfl rfl (Zra rfl evc) ?_; clear T ac; intro ac T
   refine wpList_nil ?_
   replace T := T.pick [0, 2, 3, 4, 5, 6] rfl
   refine nm_then ?_
   refine wp_region_lit ?_
   refine Zg2 T (Zq (Zrm rfl (T.e 3 rfl))) rfl (Zm 1 rfl rfl) rfl ?_; clear T ac; intro ac T
   refine Zl2 ?_
   refine ow_bs (e := 3) [.int .i64 1] M T rfl rfl rfl rfl (.cons (T.e 0 rfl) .nil) (fun _ => by kernel_rfl) ?_; clear M T; intro g3 wc ac M T
   refine Zl2 ?_
   refine ow_app ([(g3, .cells [.int .i64 1]), (bd, .cells (pc (s.ps.eraseIdx k) ++ yse)), (g1, .cells [.int .i64 s.lo, .int .i64 s.wi, .int .i64 s.a0, .int .i64 s.a1, .int .i64 s.c0, .int .i64 s.c1, .slice A s.ps.length d])]) Tryd.info3 hsl M (by first | rfl | simp) T rfl rfl rfl rfl Tryd.underlying27 rfl rfl rfl (by omega) (T.e 2 rfl) (T.e 0 rfl) (Zne (i := 0) rfl) rfl rfl ?_; clear M T; intro ga1 cga1 wc ac M T
   refine l_q (v := (.slice (some ⟨ga1, 0, none⟩) (OL.length + 1) cga1)) (T.pick [0, 1, 2, 3, 4, 5, 6, 8, 9] rfl) rfl rfl rfl rfl (Zra rfl (T.e 0 rfl)) ?_; clear T ac; intro ac T
   refine wpList_nil ?_
   replace T := T.pick [0, 6, 7, 8, 9] rfl
   replace M := M.mask [true, false, true, true] rfl
   refine Znb ?_
   refine nm_then ?_
   refine wp_region_lit ?_
   refine lq T (rn_add rfl (T.e 4 rfl) evc (by omega)) ?_; clear T ac; intro ac T
   refine l_q (v := (.int .i64 ((k : Int) + 1))) (T.pick [0, 1, 2, 3, 4] rfl) rfl rfl rfl rfl (Zrm rfl (T.e 0 rfl)) ?_; clear T ac; intro ac T
   refine wpList_nil ?_
   replace T := T.pick [0, 2, 3, 4, 5] rfl
   refine nm_then ?_
   have e9 : OL.length + 1 = (OL ++ [1]).length := by simp
   have e8 : ((ic OL) ++ [.int .i64 1]) = ic (OL ++ [1]) := by rw [← ic_snoc]
   rw [e9, e8] at M
   rw [e9] at T
   clear e9 e8
   exact ⟨_, by omega, k + 1, (OL ++ [1]), _, _, [(ga1, .row 3 1 (OL ++ [1]).length (ic (OL ++ [1])) cga1)], rfl, (by omega), (by rw [hO, List.range_succ, List.map_append, List.map_cons, List.map_nil, hwv]), (by simp [hOl]), (Sl.row _ _ _ _ _ _), T.pick [2, 3, 1, 4, 0] rfl, ((M.permT [2, 0] 3 rfl rfl rfl rfl).sub (Zsl ([(g1, .cells [.int .i64 s.lo, .int .i64 s.wi, .int .i64 s.a0, .int .i64 s.a1, .int .i64 s.c0, .int .i64 s.c1, .slice A s.ps.length d]), (ga1, .row 3 1 (OL ++ [1]).length (ic (OL ++ [1])) cga1)] : List (Nat × BA)) _))⟩
  intro h3
  have hwv : wrsV s k = 2 := if_neg (show ¬ shN ({ s with ps := s.ps.eraseIdx k } : Sk) true < shN s true by omega)
  refine Zsk ?_
  refine wp_region_lit ?_
  refine Zg2 T (Zq (Zrm rfl (T.e 4 rfl))) rfl (Zm 2 rfl rfl) rfl ?_; clear T ac; intro ac T
  refine Zl2 ?_
  refine ow_bs (e := 3) [.int .i64 2] M T rfl rfl rfl rfl (.cons (T.e 0 rfl) .nil) (fun _ => by kernel_rfl) ?_; clear M T; intro g4 wc ac M T
  refine Zl2 ?_
  refine ow_app ([(g4, .cells [.int .i64 2]), (bd, .cells (pc (s.ps.eraseIdx k) ++ yse)), (g1, .cells [.int .i64 s.lo, .int .i64 s.wi, .int .i64 s.a0, .int .i64 s.a1, .int .i64 s.c0, .int .i64 s.c1, .slice A s.ps.length d])]) Tryd.info3 hsl M (by first | rfl | simp) T rfl rfl rfl rfl Tryd.underlying27 rfl rfl rfl (by omega) (T.e 2 rfl) (T.e 0 rfl) (Zne (i := 0) rfl) rfl rfl ?_; clear M T; intro ga2 cga2 wc ac M T
  refine l_q (v := (.slice (some ⟨ga2, 0, none⟩) (OL.length + 1) cga2)) (T.pick [0, 1, 2, 3, 4, 5, 6, 7, 9, 10] rfl) rfl rfl rfl rfl (Zra rfl (T.e 0 rfl)) ?_; clear T ac; intro ac T
  refine wpList_nil ?_
  replace T := T.pick [0, 7, 8, 9, 10] rfl
  replace M := M.mask [true, false, true, true] rfl
  refine Znb ?_
  refine nm_then ?_
  refine wp_region_lit ?_
  refine lq T (rn_add rfl (T.e 4 rfl) evc (by omega)) ?_; clear T ac; intro ac T
  refine l_q (v := (.int .i64 ((k : Int) + 1))) (T.pick [0, 1, 2, 3, 4] rfl) rfl rfl rfl rfl (Zrm rfl (T.e 0 rfl)) ?_; clear T ac; intro ac T
  refine wpList_nil ?_
  replace T := T.pick [0, 2, 3, 4, 5] rfl
  refine nm_then ?_
  have e9 : OL.length + 1 = (OL ++ [2]).length := by simp
  have e8 : ((ic OL) ++ [.int .i64 2]) = ic (OL ++ [2]) := by rw [← ic_snoc]
  rw [e9, e8] at M
  rw [e9] at T
  clear e9 e8
  exact ⟨_, by omega, k + 1, (OL ++ [2]), _, _, [(ga2, .row 3 1 (OL ++ [2]).length (ic (OL ++ [2])) cga2)], rfl, (by omega), (by rw [hO, List.range_succ, List.map_append, List.map_cons, List.map_nil, hwv]), (by simp [hOl]), (Sl.row _ _ _ _ _ _), T.pick [2, 3, 1, 4, 0] rfl, ((M.permT [2, 0] 3 rfl rfl rfl rfl).sub (Zsl ([(g1, .cells [.int .i64 s.lo, .int .i64 s.wi, .int .i64 s.a0, .int .i64 s.a1, .int .i64 s.c0, .int .i64 s.c1, .slice A s.ps.length d]), (ga2, .row 3 1 (OL ++ [2]).length (ic (OL ++ [2])) cga2)] : List (Nat × BA)) _))⟩
 intro h2
 refine wp_exit ?_
 refine Zet ?_
 refine Zet ?_
 refine ex_hit ?_
 refine nm_then ?_
 refine Zsr ?_
 refine Zg3 T (Zq (Zrm rfl (T.e 3 rfl))) rfl (Za 0 rfl rfl) rfl (Zc rfl) rfl ?_; clear T ac; intro ac T
 refine wpList_nil ?_
 replace T := T.pick [0, 1] rfl
 replace M := M.mask [false] rfl
 refine Znr ?_
 refine rt_2 T rfl (T.e 1 rfl) (T.e 0 rfl) ?_
 have e9 : wrsL s = OL := (if_pos (by omega)).trans (by rw [hO, show k = s.ps.length by omega])
 have e8 : shE s true = 0 := by omega
 unfold LiPost
 rw [e9, e8]
 replace M := M.mask [] rfl
 exact ⟨A3, c3, Io, rfl, hsl.capLe M (List.Sublist.refl _), hsl.spV (ic_length _ ▸ (by omega)), M⟩
def skP (s : Sk) (L : List Pt) : Sk := { s with ps := L }
noncomputable def okP (s : Sk) (su : Bool) (L : List Pt) (n0 : Nat) : Bool := match shF (skP s L) su with
 | some y => decide (y.2 ≤ n0)
 | none => false
noncomputable def spareR (s : Sk) (p : Pt) (su : Bool) (n0 : Nat) : Nat → List Pt → Nat
 | 0, L => L.length
 | f + 1, L => if okP s su (L ++ [p]) n0 = true then spareR s p su n0 f (L ++ [p]) else L.length
noncomputable def sprE (s : Sk) (p : Pt) (su : Bool) : Int := if skErr s ≠ 0 then skErr s else if ptErr p ≠ 0 then ptErr p else shE s su
noncomputable def sprV (s : Sk) (p : Pt) (su : Bool) : Int := if sprE s p su ≠ 0 then 0 else (spareR s p su (shN s su) (5 - s.ps.length) s.ps : Int) - (s.ps.length : Int)
theorem okP_eq {s : Sk} {su : Bool} {L : List Pt} {n0 bn : Nat} {bl : List Int} {bi : Bool} (h : shF (skP s L) su = if bi = true then some (bl, bn) else none) : okP s su L n0 = (bi && decide (bn ≤ n0)) := by
 unfold okP
 rw [h]
 cases bi <;> rfl
set_option maxHeartbeats 2000000 in
theorem Spare_any (s : Sk) (A : Option Addr) (d : Nat) (p : Pt) (su : Bool)  (w : World) (hA : Rd w w.heap.size 4 A s.ps.length (pc s.ps)) (nA : s.ps.length ≤ 1000000) (hd : s.ps.length ≤ d) (hT : TabW w)  :
   Calls Tryd.prog 41 #[.agg #[.int .i64 s.lo, .int .i64 s.wi, .int .i64 s.a0, .int .i64 s.a1, .int .i64 s.c0, .int .i64 s.c1, .slice A s.ps.length d], .agg #[.int .i64 p.l, .int .i64 p.w, .bool p.gr, .int .i64 p.pa], .bool su] w fun e w' => e = .returned (.tuple #[.int .i64 (sprV s p su), .int .i64 (sprE s p su)]) ∧ Below w.heap.size w w' := by
 obtain ⟨bA, oA, SA⟩ := Sp.old hA
 refine Zpx noEx Tryd.func41 rfl 82 rfl [.agg #[.int .i64 s.lo, .int .i64 s.wi, .int .i64 s.a0, .int .i64 s.a1, .int .i64 s.c0, .int .i64 s.c1, .slice A s.ps.length d], .agg #[.int .i64 p.l, .int .i64 p.w, .bool p.gr, .int .i64 p.pa], .bool su] rfl rfl (Mem.init w _) ?_
 intro ac wc T M
 refine Zsr ?_
 refine Zl2 ?_
 refine Zob M T rfl rfl rfl rfl (T.e 0 rfl) rfl ?_; clear M T; intro g1 wc ac M T
 refine Zl2 ?_
 refine Zob M T rfl rfl rfl rfl (T.e 2 rfl) rfl ?_; clear M T; intro g2 wc ac M T
 refine Zg2 T (Zq (Zra rfl evc)) rfl (Zc rfl) rfl ?_; clear T ac; intro ac T
 refine wpList_nil ?_
 replace T := T.pick [2, 3, 6] rfl
 refine Zns ?_
 refine Zsr ?_
 refine lq T (Zrr (Mem.nth M 1 rfl) rfl (T.e 1 rfl) rfl) ?_; clear T ac; intro ac T
 refine Zl2 ?_
 refine Zoc (first := []) (cap := []) T rfl rfl rfl rfl evf (.cons (T.e 0 rfl) .nil) Tryd.func60 rfl rfl ?_
 refine Calls.mono (skCheck_any s A d _ (SA.rd M (List.nil_sublist _)) (by omega)) ?_
 clear T; rintro e wc ⟨rfl, hb⟩ ac T
 replace M := M.call hb; clear hb
 refine lq T (Zra rfl (T.e 0 rfl)) ?_; clear T ac; intro ac T
 refine wpList_nil ?_
 replace T := T.pick [0, 3, 4, 5] rfl
 refine nm_then ?_
 refine Zsr ?_
 refine Zg2 T (Zq (Zrm rfl (T.e 0 rfl))) rfl (fun _ T => Zq (rn_neq rfl (T.e 0 rfl) evc)) rfl ?_; clear T ac; intro ac T
 refine wpList_nil ?_
 replace T := T.pick [0, 2, 3, 4, 5] rfl
 refine nm_then ?_
 refine wp_ifn (T.e 0 rfl) ?_ ?_
 ·intro h1
  refine Zsr ?_
  refine Zg3 T (Zq (Zrm rfl (T.e 1 rfl))) rfl (Zc rfl) rfl (Za 1 rfl rfl) rfl ?_; clear T ac; intro ac T
  refine wpList_nil ?_
  replace T := T.pick [0, 1] rfl
  replace M := M.mask [false, false] rfl
  refine Znr ?_
  refine Zrt ?_
  refine rt_2 T rfl (T.e 1 rfl) (T.e 0 rfl) ?_
  have e9 : sprE s p su = skErr s := if_pos (by omega)
  have e8 : sprV s p su = 0 := if_pos (by omega)
  rw [e9, e8]
  exact ⟨rfl, M.below⟩
 intro h1
 have hsg := skErr_iff.1 (show skErr s = 0 by omega)
 obtain ⟨hb1, hb2, -, -, -, -⟩ := hsg
 have hsg := skErr_iff.1 (show skErr s = 0 by omega)
 refine Zsk ?_
 refine wp_seq ?_
 refine Zsr ?_
 refine lq T (Zrr (Mem.nth M 0 rfl) rfl (T.e 2 rfl) rfl) ?_; clear T ac; intro ac T
 refine Zl2 ?_
 refine Zoc (first := []) (cap := []) T rfl rfl rfl rfl evf (.cons (T.e 0 rfl) .nil) Tryd.func86 rfl rfl ?_
 refine Calls.mono (checkPart_any p _) ?_
 clear T; rintro e wc ⟨rfl, hb⟩ ac T
 replace M := M.call hb; clear hb
 refine lq T (Zra rfl (T.e 0 rfl)) ?_; clear T ac; intro ac T
 refine wpList_nil ?_
 replace T := T.pick [0, 5, 6, 7] rfl
 refine nm_then ?_
 refine Zsr ?_
 refine Zg2 T (Zq (Zrm rfl (T.e 0 rfl))) rfl (fun _ T => Zq (rn_neq rfl (T.e 0 rfl) evc)) rfl ?_; clear T ac; intro ac T
 refine wpList_nil ?_
 replace T := T.pick [0, 2, 3, 4, 5] rfl
 refine nm_then ?_
 refine wp_ifn (T.e 0 rfl) ?_ ?_
 ·intro h2
  refine Zsr ?_
  refine Zg3 T (Zq (Zrm rfl (T.e 1 rfl))) rfl (Zc rfl) rfl (Za 1 rfl rfl) rfl ?_; clear T ac; intro ac T
  refine wpList_nil ?_
  replace T := T.pick [0, 1] rfl
  replace M := M.mask [false, false] rfl
  refine Znr ?_
  refine Zrt ?_
  refine rt_2 T rfl (T.e 1 rfl) (T.e 0 rfl) ?_
  have e9 : sprE s p su = ptErr p := (if_neg (by omega)).trans (if_pos (by omega))
  have e8 : sprV s p su = 0 := if_pos (by omega)
  rw [e9, e8]
  exact ⟨rfl, M.below⟩
 intro h2
 have hpg := ptErr_iff.1 (show ptErr p = 0 by omega)
 refine Zsk ?_
 refine Zsr ?_
 refine Zg2 T (Zq (Zrr (Mem.nth M 1 rfl) rfl (T.e 3 rfl) rfl)) rfl (Zm 5 rfl rfl) rfl ?_; clear T ac; intro ac T
 refine Zl2 ?_
 refine Zoc (first := []) (cap := []) T rfl rfl rfl rfl evf (.cons (T.e 1 rfl) (.cons (T.e 0 rfl) .nil)) Tryd.func34 rfl rfl ?_
 refine Calls.mono (Sheets_any s A d su _ (SA.rd M (List.nil_sublist _)) (by omega) (by omega) (hT.mem0 M)) ?_
 clear T; rintro e wc ⟨ASu3, cSu3, ISu3, rfl, hcpSu3, SVSu3, N⟩ ac T
 replace M := M.call N.below
 clear N
 refine Zg7 T (Zq (Zrm rfl (T.e 0 rfl))) rfl (Ze 0 rfl rfl rfl) rfl (Ze 1 rfl rfl rfl) rfl (Ze 2 rfl rfl rfl) rfl (Za 2 rfl rfl) rfl (Za 2 rfl rfl) rfl (Za 2 rfl rfl) rfl ?_; clear T ac; intro ac T
 refine wpList_nil ?_
 replace T := T.pick [0, 1, 12, 13, 14] rfl
 refine Zns ?_
 refine Zsr ?_
 refine Zg2 T (Zq (Zrm rfl (T.e 0 rfl))) rfl (fun _ T => Zq (rn_neq rfl (T.e 0 rfl) evc)) rfl ?_; clear T ac; intro ac T
 refine wpList_nil ?_
 replace T := T.pick [0, 2, 3, 4, 5, 6] rfl
 refine nm_then ?_
 refine wp_ifn (T.e 0 rfl) ?_ ?_
 ·intro h3
  refine Zsr ?_
  refine Zg3 T (Zq (Zrm rfl (T.e 1 rfl))) rfl (Zc rfl) rfl (Za 1 rfl rfl) rfl ?_; clear T ac; intro ac T
  refine wpList_nil ?_
  replace T := T.pick [0, 1] rfl
  replace M := M.mask [false, false] rfl
  refine Znr ?_
  refine Zrt ?_
  refine rt_2 T rfl (T.e 1 rfl) (T.e 0 rfl) ?_
  have e9 : sprE s p su = shE s su := (if_neg (by omega)).trans (if_neg (by omega))
  have e8 : sprV s p su = 0 := if_pos (by omega)
  rw [e9, e8]
  exact ⟨rfl, M.below⟩
 intro h3
 refine Zsk ?_
 refine Zsr ?_
 refine lq T (Zrr (Mem.nth M 1 rfl) rfl (T.e 4 rfl) rfl) ?_; clear T ac; intro ac T
 refine Zl2 ?_
 refine Zoa M T rfl rfl rfl rfl ?_; clear M T; intro g3 wc ac M T
 refine Zl2 ?_
 refine Zos M T rfl rfl (T.e 0 rfl) (T.e 1 rfl) rfl .head rfl (by simp) rfl (by kernel_rfl) ?_; clear M T; intro wc ac M T
 refine wpList_nil ?_
 replace T := T.pick [0, 4, 5, 6, 7] rfl
 refine nm_then ?_
 refine Zsr ?_
 refine Zg2 (v1 := (.pointer (some ⟨g1, 6, none⟩))) T (Zq (Zrf (off := 6) rfl (T.e 3 rfl) (fun _ _ _ => by kernel_rfl))) rfl (Zo M 2 0 rfl rfl rfl rfl) rfl ?_; clear T ac; intro ac T
 refine Zl2 ?_
 refine Zoc (first := []) (cap := []) T rfl rfl rfl rfl evf (.cons (T.e 0 rfl) .nil) Tryd.func87 rfl rfl ?_
 refine Calls.mono (cloneP_any A d s.ps _ (SA.rd M (List.nil_sublist _)) (by omega)) ?_
 clear T; rintro e wc ⟨Acu4, ccu4, Icu4, rfl, hclu4, N⟩ ac T
 replace M := (M.join N).swapI
 clear N
 replace M : Mem w noEx wc ((g3, .cells [.int .i64 s.lo, .int .i64 s.wi, .int .i64 s.a0, .int .i64 s.a1, .int .i64 s.c0, .int .i64 s.c1, .slice A s.ps.length d]) :: (g2, .cells [.int .i64 p.l, .int .i64 p.w, .bool p.gr, .int .i64 p.pa]) :: (g1, .cells [.int .i64 s.lo, .int .i64 s.wi, .int .i64 s.a0, .int .i64 s.a1, .int .i64 s.c0, .int .i64 s.c1, .slice A s.ps.length d]) :: Icu4) := M
 refine lq (v := (.pointer (some ⟨g3, 6, none⟩))) T (Zrf (off := 6) rfl (T.e 3 rfl) (fun _ _ _ => by kernel_rfl)) ?_; clear T ac; intro ac T
 refine Zl2 ?_
 refine Zos M T rfl rfl (T.e 0 rfl) (T.e 1 rfl) rfl .head rfl (by simp) rfl (by kernel_rfl) ?_; clear M T; intro wc ac M T
 refine wpList_nil ?_
 replace T := T.pick [4, 5, 6, 7, 8] rfl
 refine Zns ?_
 refine wp_block ?_
 refine wp_loop_n (fun mz ac wc => ∃ (OL : List Pt) (A3 : Option Addr) (c3 : Nat) (Io : List (Nat × BA)), mz = 5 - OL.length ∧ (OL.length ≤ 5) ∧ (s.ps.length ≤ OL.length) ∧ (∀ q ∈ OL, q.good) ∧ (spareR s p su (shN s su) (5 - s.ps.length) s.ps = spareR s p su (shN s su) (5 - OL.length) OL) ∧ (Cl 63 4 A3 OL.length c3 (pc OL) Io) ∧ Tm ac 82 [(2, .bool su), (3, .pointer (some ⟨g1, 0, none⟩)), (4, .pointer (some ⟨g2, 0, none⟩)), (11, .int .i64 (shN s su : Int)), (13, .pointer (some ⟨g3, 0, none⟩))] ∧ Mem w noEx wc ((g3, .cells [.int .i64 s.lo, .int .i64 s.wi, .int .i64 s.a0, .int .i64 s.a1, .int .i64 s.c0, .int .i64 s.c1, .slice A3 OL.length c3]) :: (g2, .cells [.int .i64 p.l, .int .i64 p.w, .bool p.gr, .int .i64 p.pa]) :: (g1, .cells [.int .i64 s.lo, .int .i64 s.wi, .int .i64 s.a0, .int .i64 s.a1, .int .i64 s.c0, .int .i64 s.c1, .slice A s.ps.length d]) :: Io)) ?_ ?_
 ·exact ⟨_, s.ps, Acu4, ccu4, Icu4, rfl, hsg.len, (Nat.le_refl _), hsg.ps, rfl, hclu4, T.pick [4, 3, 2, 1, 0] rfl, M.mask [true, true, true] rfl⟩
 clear T M
 rintro mz ac wc ⟨OL, A3, c3, Io, hmm1, hOl, hO5, hgO, H, hcl, T, M⟩
 refine wp_seq ?_
 refine Zsr ?_
 refine Zg4 (v1 := (.pointer (some ⟨g3, 6, none⟩))) T (Zq (Zrf (off := 6) rfl (T.e 4 rfl) (fun _ _ _ => by kernel_rfl))) rfl (Zo M 0 0 rfl rfl rfl rfl) rfl (Zl Tryd.underlying24 0 rfl rfl) rfl (fun _ T => Zq (rn_lss rfl (T.e 0 rfl) evc)) rfl ?_; clear T ac; intro ac T
 refine wpList_nil ?_
 replace T := T.pick [0, 4, 5, 6, 7, 8] rfl
 refine nm_then ?_
 refine wp_if (T.e 0 rfl) ?_ ?_
 ·intro h4
  have e8 : 5 - OL.length = (5 - (OL ++ [p]).length) + 1 := by simp; omega
  rw [e8, spareR] at H
  refine Zsk ?_
  refine wp_block ?_
  refine Zsr ?_
  refine Zg3 (v1 := (.pointer (some ⟨g3, 6, none⟩))) T (Zq (Zrf (off := 6) rfl (T.e 5 rfl) (fun _ _ _ => by kernel_rfl))) rfl (Zo M 0 0 rfl rfl rfl rfl) rfl (Zr M 1 5 rfl rfl rfl rfl) rfl ?_; clear T ac; intro ac T
  refine Zl2 ?_
  refine ow_bs (e := 63) [.int .i64 p.l, .int .i64 p.w, .bool p.gr, .int .i64 p.pa] M T rfl rfl rfl rfl (.cons (T.e 0 rfl) .nil) (fun _ => by kernel_rfl) ?_; clear M T; intro g4 wc ac M T
  refine Zl2 ?_
  refine ow_appC ([(g4, .cells [.int .i64 p.l, .int .i64 p.w, .bool p.gr, .int .i64 p.pa]), (g3, .cells [.int .i64 s.lo, .int .i64 s.wi, .int .i64 s.a0, .int .i64 s.a1, .int .i64 s.c0, .int .i64 s.c1, .slice A3 OL.length c3]), (g2, .cells [.int .i64 p.l, .int .i64 p.w, .bool p.gr, .int .i64 p.pa]), (g1, .cells [.int .i64 s.lo, .int .i64 s.wi, .int .i64 s.a0, .int .i64 s.a1, .int .i64 s.c0, .int .i64 s.c1, .slice A s.ps.length d])]) Tryd.info63 hcl M (by first | rfl | simp) T rfl rfl rfl rfl Tryd.underlying24 rfl rfl rfl (by omega) (T.e 2 rfl) (T.e 0 rfl) (Zne (i := 0) rfl) rfl rfl ?_; clear M T; intro ga1 cga1 wc ac M T
  have e9 : OL.length + 1 = (OL ++ [p]).length := by simp
  have e8 : ((pc OL) ++ [.int .i64 p.l, .int .i64 p.w, .bool p.gr, .int .i64 p.pa]) = pc (OL ++ [p]) := by rw [← pc_snoc]
  rw [e9, e8] at M
  rw [e9] at T
  clear e9 e8
  refine lq (v := (.pointer (some ⟨g3, 6, none⟩))) T (Zrf (off := 6) rfl (T.e 10 rfl) (fun _ _ _ => by kernel_rfl)) ?_; clear T ac; intro ac T
  refine Zl2 ?_
  refine Zos M T rfl rfl (T.e 0 rfl) (T.e 1 rfl) rfl (.tail (.tail .head)) rfl (by simp) rfl (by kernel_rfl) ?_; clear M T; intro wc ac M T
  refine wpList_nil ?_
  replace T := T.pick [7, 8, 9, 10, 11] rfl
  replace M := M.mask [true, false, true, true, true] rfl
  refine nm_then ?_
  refine Zsr ?_
  refine Zg2 T (Zq (Zrr (Mem.nth M 1 rfl) rfl (T.e 4 rfl) rfl)) rfl (Zm 1 rfl rfl) rfl ?_; clear T ac; intro ac T
  refine Zl2 ?_
  refine Zoc (first := []) (cap := []) T rfl rfl rfl rfl evf (.cons (T.e 1 rfl) (.cons (T.e 0 rfl) .nil)) Tryd.func70 rfl rfl ?_
  refine Calls.mono (cut_any ({ s with ps := (OL ++ [p]) } : Sk) (some ⟨ga1, 0, none⟩) cga1 su _) ?_
  clear T; rintro e wc ⟨gau5, gcu5, rfl, N⟩ ac T
  obtain ⟨a, hae⟩ : ∃ q, q = cutA s su := ⟨_, rfl⟩
  obtain ⟨c, hce⟩ : ∃ q, q = cutC s su := ⟨_, rfl⟩
  have hA9 : cutA ({ s with ps := (OL ++ [p]) } : Sk) su = a := by rw [hae]; rfl
  have hC9 : cutC ({ s with ps := (OL ++ [p]) } : Sk) su = c := by rw [hce]; rfl
  rw [hA9, hC9] at N
  obtain ⟨ha, hc⟩ := cut_bd hsg su
  rw [← hae] at ha
  rw [← hce] at hc
  replace M := M.join N; clear N
  replace M := M.mask [true, true, true, true, true, true] rfl
  refine Zl2 ?_
  have hg9 : ∀ q ∈ OL ++ [p], q.good := fun q hq => by rcases List.mem_append.1 hq with h9 | h9; exact hgO q h9; rw [List.mem_singleton.1 h9]; exact hpg
  have hl9 : (OL ++ [p]).length ≤ 5 := by simp; omega
  have hcp9 : (OL ++ [p]).length ≤ cga1 := (Cl.row 63 4 ga1 _ _ (pc (OL ++ [p]))).capLe M (.cons _ (.cons _ (List.Sublist.cons_cons _ (List.nil_sublist _))))
  have hln9 : (OL ++ [p]).length = OL.length + 1 := by simp
  refine Zoc (first := []) (cap := []) T rfl rfl rfl rfl evf (.cons (T.e 0 rfl) .nil) Tryd.func84 rfl rfl ?_
  refine Calls.mono (shs_any ({ s with ps := (OL ++ [p]) } : Sk) (some ⟨ga1, 0, none⟩) cga1 a c gau5 gcu5 _ ha hc hg9 hl9 (by dsimp only; omega) (by dsimp only; omega) hcp9 (M.nth 0 rfl) (M.nth 1 rfl) (M.rdRow (Zne (i := 2) rfl)) (hT.mem0 M)) ?_
  clear T; rintro e wc ⟨bA, bc, bl, bn, bi, IRu6, rfl, hFd, hcp, SR, N⟩ ac T
  have hF9 : shF (skP s (OL ++ [p])) su = if bi = true then some (bl, bn) else none := by rw [hae, hce] at hFd; exact hFd
  have hok := okP_eq (n0 := shN s su) hF9
  replace M := M.call N.below
  clear N
  refine Zg7 T (Zq (Zrm rfl (T.e 0 rfl))) rfl (Ze 0 rfl rfl rfl) rfl (Ze 1 rfl rfl rfl) rfl (Ze 2 rfl rfl rfl) rfl (Za 2 rfl rfl) rfl (Za 2 rfl rfl) rfl (Za 2 rfl rfl) rfl ?_; clear T ac; intro ac T
  refine wpList_nil ?_
  replace T := T.pick [0, 1, 11, 12, 13, 14, 15] rfl
  replace M := M.mask [false, false, true, true, true, true] rfl
  refine nm_then ?_
  refine cut_seq (fun ac wc => Tm ac 82 [(2, .bool su), (3, .pointer (some ⟨g1, 0, none⟩)), (4, .pointer (some ⟨g2, 0, none⟩)), (11, .int .i64 (shN s su : Int)), (13, .pointer (some ⟨g3, 0, none⟩)), (66, .bool ((!bi) || (decide ((shN s su : Int) < (bn : Int)))))] ∧ Mem w noEx wc [(ga1, .row 63 4 (OL ++ [p]).length (pc (OL ++ [p])) cga1), (g3, .cells [.int .i64 s.lo, .int .i64 s.wi, .int .i64 s.a0, .int .i64 s.a1, .int .i64 s.c0, .int .i64 s.c1, .slice (some ⟨ga1, 0, none⟩) ((OL ++ [p]).length) cga1]), (g2, .cells [.int .i64 p.l, .int .i64 p.w, .bool p.gr, .int .i64 p.pa]), (g1, .cells [.int .i64 s.lo, .int .i64 s.wi, .int .i64 s.a0, .int .i64 s.a1, .int .i64 s.c0, .int .i64 s.c1, .slice A s.ps.length d])]) ?_ ?_
  ·refine wp_region_lit ?_
   refine Zg3 T (Zq (Zrm rfl (T.e 0 rfl))) rfl (fun _ T => Zq (rn_not rfl (T.e 0 rfl))) rfl (Zm 0 rfl rfl) rfl ?_; clear T ac; intro ac T
   rcases Bool.eq_false_or_eq_true (!bi) with h5 | h5
   ·refine Zg4 T (Zp (Zwn rfl rfl (T.e 0 rfl) h5)) rfl (fun _ T => Zp (Zwn rfl rfl (T.e 1 rfl) h5)) rfl (fun _ T => Zp (Zwn rfl rfl (T.e 2 rfl) h5)) rfl (fun _ T => Zq (Zr1 rfl (T.e 3 rfl) h5 evc)) rfl ?_; clear T ac; intro ac T
    refine wpList_nil ?_
    replace T := T.pick [0, 1, 2, 3, 9, 10, 11, 12, 13] rfl
    exact ⟨(T.pick (E' := [(2, .bool su), (3, .pointer (some ⟨g1, 0, none⟩)), (4, .pointer (some ⟨g2, 0, none⟩)), (11, .int .i64 (shN s su : Int)), (13, .pointer (some ⟨g3, 0, none⟩)), (66, .bool true)]) [4, 5, 6, 7, 8, 0] rfl).as (by (try rw [show (!bi) = true from h5]); (try rfl)), M.mask [true, true, true, true] rfl⟩
   refine Zg4 T (Zw (Zwy rfl rfl (T.e 0 rfl) h5) (Zrm rfl (T.e 4 rfl))) rfl (fun _ T => Zw (Zwy rfl rfl (T.e 1 rfl) h5) (Zrm rfl (T.e 9 rfl))) rfl (fun _ T => Zw (Zwy rfl rfl (T.e 2 rfl) h5) (rn_gtr rfl (T.e 1 rfl) (T.e 0 rfl))) rfl (fun _ T => Zq (Zr0 rfl (T.e 3 rfl) h5 (T.e 0 rfl))) rfl ?_; clear T ac; intro ac T
   refine wpList_nil ?_
   replace T := T.pick [0, 1, 2, 3, 9, 10, 11, 12, 13] rfl
   exact ⟨(T.pick (E' := [(2, .bool su), (3, .pointer (some ⟨g1, 0, none⟩)), (4, .pointer (some ⟨g2, 0, none⟩)), (11, .int .i64 (shN s su : Int)), (13, .pointer (some ⟨g3, 0, none⟩)), (66, .bool (decide ((shN s su : Int) < (bn : Int))))]) [4, 5, 6, 7, 8, 0] rfl).as (by (try rw [show (!bi) = false from h5]); (try rfl)), M.mask [true, true, true, true] rfl⟩
  clear T M
  rintro ac wc ⟨T, M⟩
  refine wp_cond_split (T.e 5 rfl) ?_ ?_
  ·intro h6
   (have h6' := h6; try simp only [Zb1, Zb2, Zb3, Zb4, Zb5, Zb6, Zb7] at h6')
   have hno : ¬ okP s su (OL ++ [p]) (shN s su) = true := by rw [hok]; cases bi <;> simp_all
   have hfin : spareR s p su (shN s su) (5 - s.ps.length) s.ps = OL.length := by rw [H, if_neg hno]
   refine Zsr ?_
   refine Zg7 (v1 := (.pointer (some ⟨g3, 6, none⟩))) (v3 := (.pointer (some ⟨g3, 6, none⟩))) T (Zq (Zrf (off := 6) rfl (T.e 4 rfl) (fun _ _ _ => by kernel_rfl))) rfl (Zo M 1 0 rfl rfl rfl rfl) rfl (Zf 6 6 rfl rfl) rfl (Zo M 1 0 rfl rfl rfl rfl) rfl (Zl Tryd.underlying24 0 rfl rfl) rfl (fun _ T => Zq (rn_sub rfl (T.e 0 rfl) evc (by omega))) rfl (fun _ T => Zq (rn_slice (size := 4) (l := 0) (h := OL.length) rfl Tryd.underlying24 (by kernel_rfl) (T.e 4 rfl) rfl ((T.e 0 rfl).trans (congrArg (Value.int .i64) (by simp))) (by omega) (by omega))) rfl ?_; clear T ac; intro ac T
   obtain ⟨Aq1, hAq1⟩ : ∃ q : Option Addr, q = (if cga1 = 0 then some ⟨ga1, 0, none⟩ else Option.map (fun x : Addr => x.add (0 * 4)) (some ⟨ga1, 0, none⟩)) := ⟨_, rfl⟩
   rw [← hAq1] at T
   refine lq (v := (.pointer (some ⟨g3, 6, none⟩))) T (Zrf (off := 6) rfl (T.e 11 rfl) (fun _ _ _ => by kernel_rfl)) ?_; clear T ac; intro ac T
   refine Zl2 ?_
   refine Zos M T rfl rfl (T.e 0 rfl) (T.e 1 rfl) rfl (.tail .head) rfl (by simp) rfl (by kernel_rfl) ?_; clear M T; intro wc ac M T
   refine wpList_nil ?_
   replace T := T.pick [9, 12] rfl
   replace M := M.mask [true, true, false, true] rfl
   refine nm_then ?_
   refine wp_exit ?_
   refine ex_miss rfl ?_
   refine Zet ?_
   refine ex_hit ?_
   refine nm_then ?_
   refine Zsr ?_
   refine Zg8 (v1 := (.pointer (some ⟨g3, 6, none⟩))) (v4 := (.pointer (some ⟨g1, 6, none⟩))) T (Zq (Zrf (off := 6) rfl (T.e 1 rfl) (fun _ _ _ => by kernel_rfl))) rfl (Zo M 1 0 rfl rfl rfl rfl) rfl (Zl Tryd.underlying24 0 rfl rfl) rfl (Zf 6 3 rfl rfl) rfl (Zo M 2 0 rfl rfl rfl rfl) rfl (Zl Tryd.underlying24 0 rfl rfl) rfl (fun _ T => Zq (rn_sub rfl (T.e 3 rfl) (T.e 0 rfl) (by omega))) rfl (Za 0 rfl rfl) rfl ?_; clear T ac; intro ac T
   refine lq T (Zra rfl evc) ?_; clear T ac; intro ac T
   refine wpList_nil ?_
   replace T := T.pick [0, 1] rfl
   replace M := M.mask [true, false, false] rfl
   refine Znr ?_
   refine rt_2 T rfl (T.e 1 rfl) (T.e 0 rfl) ?_
   have e9 : sprE s p su = 0 := (if_neg (by omega)).trans ((if_neg (by omega)).trans (by omega))
   have e8 : sprV s p su = (OL.length : Int) - (s.ps.length : Int) := by unfold sprV; rw [if_neg (by omega), hfin]
   rw [e9, e8]
   exact ⟨rfl, M.below⟩
  intro h6
  (have h6' := h6; try simp only [Zb1, Zb2, Zb3, Zb4, Zb5, Zb6, Zb7] at h6')
  have hyes : okP s su (OL ++ [p]) (shN s su) = true := by rw [hok]; cases bi <;> simp_all
  refine wp_skip ?_
  refine Znb ?_
  refine nm_then ?_
  exact ⟨_, by simp; omega, (OL ++ [p]), _, cga1, [(ga1, .row 63 4 (OL ++ [p]).length (pc (OL ++ [p])) cga1)], rfl, (by simp; omega), (by simp; omega), hg9, (by rw [H, if_pos hyes]), (Cl.row _ _ _ _ _ _), T.pick [0, 1, 2, 3, 4] rfl, M.perm [1, 2, 3, 0] rfl rfl⟩
 intro h4
 have hfin : spareR s p su (shN s su) (5 - s.ps.length) s.ps = OL.length := by rw [H, show 5 - OL.length = 0 by omega]; rfl
 refine wp_exit ?_
 refine Zet ?_
 refine Zet ?_
 refine ex_hit ?_
 refine nm_then ?_
 refine Zsr ?_
 refine Zg8 (v1 := (.pointer (some ⟨g3, 6, none⟩))) (v4 := (.pointer (some ⟨g1, 6, none⟩))) T (Zq (Zrf (off := 6) rfl (T.e 5 rfl) (fun _ _ _ => by kernel_rfl))) rfl (Zo M 0 0 rfl rfl rfl rfl) rfl (Zl Tryd.underlying24 0 rfl rfl) rfl (Zf 6 5 rfl rfl) rfl (Zo M 2 0 rfl rfl rfl rfl) rfl (Zl Tryd.underlying24 0 rfl rfl) rfl (fun _ T => Zq (rn_sub rfl (T.e 3 rfl) (T.e 0 rfl) (by omega))) rfl (Za 0 rfl rfl) rfl ?_; clear T ac; intro ac T
 refine lq T (Zra rfl evc) ?_; clear T ac; intro ac T
 refine wpList_nil ?_
 replace T := T.pick [0, 1] rfl
 replace M := M.mask [false, false, false] rfl
 refine Znr ?_
 refine rt_2 T rfl (T.e 1 rfl) (T.e 0 rfl) ?_
 have e9 : sprE s p su = 0 := (if_neg (by omega)).trans ((if_neg (by omega)).trans (by omega))
 have e8 : sprV s p su = (OL.length : Int) - (s.ps.length : Int) := by unfold sprV; rw [if_neg (by omega), hfin]
 rw [e9, e8]
 exact ⟨rfl, M.below⟩
theorem okP_iff {s : Sk} {su : Bool} {L : List Pt} {n : Nat} : okP s su L n = true ↔ ColP (Fit (cutA s su) (cutC s su)) s.lo s.wi L n := by
 have h1 := @shF_col (skP s L) su
 constructor
 ·intro h
  unfold okP at h
  cases hf : shF (skP s L) su with
  | none => rw [hf] at h; cases h
  | some y =>
   rw [hf] at h
   have h2 : y.2 ≤ n := of_decide_eq_true h
   exact (h1.2 y.1 y.2 hf).1.le h2
 ·intro h
  obtain ⟨l, m, h2, h3⟩ := shF_some (s := skP s L) (su := su) h
  unfold okP
  rw [h2]
  exact Zdt h3
theorem areasP_sum (a c : Int) : ∀ l : List Pt, areasP a c l = (l.map (areaP a c)).sum
 | [] => rfl
 | p :: l => by rw [areasP, areasP_sum a c l]; simp
theorem fit_area {a c lo wi : Int} {p : Pt} (hp : p.good) (ha : 0 ≤ a) (hc : 0 ≤ c) (h : Fit a c p lo wi) : areaP a c p ≤ lo * wi := by
 obtain ⟨t, h⟩ := h
 simp only [fitsT, Bool.and_eq_true, decide_eq_true_eq, Bool.not_eq_true'] at h
 obtain ⟨⟨h1, h2⟩, h3⟩ := h
 obtain ⟨g1, g2, -⟩ := hp
 have key : ∀ t, sizeL a c p t ≤ lo → sizeW a c p t ≤ wi → sizeL a c p t * sizeW a c p t ≤ lo * wi := fun t k1 k2 => by
  have n1 : 0 ≤ sizeL a c p t := by simp only [sizeL]; split <;> omega
  have n2 : 0 ≤ sizeW a c p t := by simp only [sizeW]; split <;> omega
  exact Int.mul_le_mul k1 k2 n2 (by omega)
 have hk := key t h1 h2
 unfold areaP
 cases t with
 | false => split <;> omega
 | true =>
  split
  ·rename_i hg
   rw [hg] at h3
   cases h3
  ·omega
theorem ColP.areas {a c lo wi : Int} {ps : List Pt} {n : Nat} (hg : ∀ p ∈ ps, p.good) (ha : 0 ≤ a) (hc : 0 ≤ c) (hlo : 0 ≤ lo) (hwi : 0 ≤ wi) (h : ColP (Fit a c) lo wi ps n) : areasP a c ps ≤ (n : Int) * (lo * wi) := by
 have h2 : ColP (fun p lo wi => Fit a c p lo wi ∧ p.good) lo wi (ps.map fun p => p) n := by
  refine ColP.map (fun p => p) (fun p _ q _ h1 h2 => ⟨h1, h2⟩) (fun xs hx hcut => ?_) h
  exact Cut.map (fun p => p) (fun p hp lo wi hf => ⟨hf, hg p (hx p hp)⟩) hcut
 rw [List.map_id'] at h2
 rw [areasP_sum]
 exact ColP.area (f := fun p lo wi => Fit a c p lo wi ∧ p.good) (fun p lo wi hf => fit_area hf.2 ha hc hf.1) hlo hwi h2
def stkS : Sk := ⟨6, 3, 0, 1, 0, 0, [⟨3, 2, false, 0⟩, ⟨2, 3, true, 0⟩, ⟨4, 1, false, 0⟩]⟩
def prdS : Sk := ⟨6, 3, 0, 1, 0, 0, [⟨3, 2, false, 1⟩, ⟨2, 3, true, 0⟩, ⟨4, 1, false, 1⟩]⟩
def shNC (s : Sk) (su : Bool) : Nat := match shFC s su with
 | some y => y.2
 | none => 0
theorem shNC_eq {s : Sk} {su : Bool} (h : skErr s = 0) (h5 : s.ps.length ≤ 5) : shN s su = shNC s su := by
 unfold shNC
 rw [shFC_eq h5]
 cases hf : shF s su with
 | none =>
  have hE : shE s su = 11 := by unfold shE; rw [if_neg (by rw [h]; decide), hf]; rfl
  unfold shN
  rw [if_neg (by rw [hE]; decide)]
 | some y =>
  have hE : shE s su = 0 := by unfold shE; rw [if_neg (by rw [h]; decide), hf]; rfl
  unfold shN
  rw [if_pos hE, hf]
  rfl
theorem st_err : skErr stkS = 0 := by decide +kernel
theorem pr_err : skErr prdS = 0 := by decide +kernel
theorem st_plan : planL stkS [0, 1] true = [⟨0, 0, true⟩, ⟨3, 0, false⟩] ∧ planE stkS [0, 1] true = 0 := by
 have h := planC_eq stkS [0, 1] true
 have h2 : planC stkS [0, 1] true = ([⟨0, 0, true⟩, ⟨3, 0, false⟩], 0) := by decide +kernel
 rw [h2] at h
 injection h with h3 h4
 exact ⟨h3.symm, h4.symm⟩
theorem pr_sh : shL prdS true = [0, 1, 0] ∧ shN prdS true = 2 ∧ shE prdS true = 0 := by
 have h2 : shFC prdS true = some ([0, 1, 0], 2) := by decide +kernel
 rw [shFC_eq (by decide)] at h2
 have hE : shE prdS true = 0 := by unfold shE; rw [if_neg (by rw [pr_err]; decide), h2]; rfl
 exact ⟨by unfold shL; rw [if_pos hE, h2]; rfl, by unfold shN; rw [if_pos hE, h2]; rfl, hE⟩
theorem st_sh : shN stkS true = 2 ∧ shE stkS true = 0 := by
 have h2 : (shFC stkS true).map (·.2) = some 2 := by decide +kernel
 rw [shFC_eq (by decide)] at h2
 obtain ⟨y, h3, h4⟩ : ∃ y, shF stkS true = some y ∧ y.2 = 2 := by
   cases h : shF stkS true with
   | none => rw [h] at h2; cases h2
   | some y => rw [h] at h2; exact ⟨y, rfl, by simpa using h2⟩
 have hE : shE stkS true = 0 := by unfold shE; rw [if_neg (by rw [st_err]; decide), h3]; rfl
 exact ⟨by unfold shN; rw [if_pos hE, h3]; exact h4, hE⟩
theorem st_wrs : wrsL stkS = [2, 1, 1] := by
 unfold wrsL
 rw [if_pos st_sh.2]
 have e : ∀ i, i < 3 → wrsV stkS i = if shNC (skW stkS i) true < 2 then 1 else 2 := fun i hi => by
  unfold wrsV
  rw [st_sh.1, shNC_eq (by
   have : ∀ i, i < 3 → skErr (skW stkS i) = 0 := by decide +kernel
   exact this i hi) (by
   have : ∀ i, i < 3 → (skW stkS i).ps.length ≤ 5 := by decide +kernel
   exact this i hi)]
 have e2 : (List.range stkS.ps.length).map (wrsV stkS) = [wrsV stkS 0, wrsV stkS 1, wrsV stkS 2] := rfl
 rw [e2, e 0 (by decide), e 1 (by decide), e 2 (by decide)]
 decide +kernel
theorem st_spr : sprV stkS ⟨5, 2, true, 0⟩ true = 1 ∧ sprE stkS ⟨5, 2, true, 0⟩ true = 0 := by
 have hp : ptErr ⟨5, 2, true, 0⟩ = 0 := by decide +kernel
 have hE : sprE stkS ⟨5, 2, true, 0⟩ true = 0 := by unfold sprE; rw [if_neg (by rw [st_err]; decide), if_neg (by rw [hp]; decide), st_sh.2]
 refine ⟨?_, hE⟩
 unfold sprV
 rw [if_neg (by rw [hE]; decide), st_sh.1]
 have e : spareR stkS ⟨5, 2, true, 0⟩ true 2 (5 - stkS.ps.length) stkS.ps = 4 := by
  show spareR stkS ⟨5, 2, true, 0⟩ true 2 2 stkS.ps = 4
  have y1 : okP stkS true (stkS.ps ++ [⟨5, 2, true, 0⟩]) 2 = true := by
   rw [okP_iff]
   refine ColP.of_will (l := [0, 0, 1, 1]) (by decide) (by decide) ?_
   have hw : willC (skP stkS (stkS.ps ++ [⟨5, 2, true, 0⟩])) true [0, 0, 1, 1] 2 = true := by decide +kernel
   rw [willC_eq (by decide)] at hw
   exact willB_iff.1 hw
  have y2 : ¬ okP stkS true (stkS.ps ++ [⟨5, 2, true, 0⟩] ++ [⟨5, 2, true, 0⟩]) 2 = true := by
   rw [okP_iff]
   intro h
   have := h.areas (by
    have : ∀ p ∈ stkS.ps ++ [⟨5, 2, true, 0⟩] ++ [⟨5, 2, true, 0⟩], ptErr p = 0 := by decide +kernel
    exact fun p hp => ptErr_iff.1 (this p hp)) (by decide) (by decide) (by decide) (by decide)
   revert this
   decide +kernel
  rw [spareR, if_pos y1, spareR, if_neg y2]
  rfl
 rw [e]
 rfl
theorem st_cuts : cutsV stkS [0, 2] [⟨0, 1, false⟩, ⟨0, 0, false⟩] true = true ∧ cutsE stkS [0, 2] 2 = 0 := by
 have hE : cutsE stkS [0, 2] 2 = 0 := by decide +kernel
 refine ⟨?_, hE⟩
 unfold cutsV
 rw [if_pos (show cutsE stkS [0, 2] ([⟨0, 1, false⟩, ⟨0, 0, false⟩] : List Spt).length = 0 from hE)]
 unfold cutsB
 have h2 : plP (cutA stkS true) (cutC stkS true) stkS.lo stkS.wi [] (gP stkS [0, 2]) [⟨0, 1, false⟩, ⟨0, 0, false⟩] = some [⟨0, 1, 4, 3, 0⟩, ⟨0, 0, 5, 1, 1⟩] := by decide +kernel
 rw [h2]
 show sawB _ _ = true
 rw [← sawC_eq 3 _ _ (by decide)]
 decide +kernel
theorem eqT30 {x y : Operand} {a0 a1 b0 b1 : Int} {a2 b2 : Bool} {w : World} : (do eqGuard .eql 30 x y (.agg #[.int .i64 a0, .int .i64 a1, .bool a2]) (.agg #[.int .i64 b0, .int .i64 b1, .bool b2]); binOp .eql 30 (.agg #[.int .i64 a0, .int .i64 a1, .bool a2]) (.agg #[.int .i64 b0, .int .i64 b1, .bool b2]) : Sem Value).run Tryd.prog w = .ok (.bool (decide (a0 = b0) && (decide (a1 = b1) && decide (a2 = b2)))) w := by
 go_simp
 (repeat' split) <;> simp_all
theorem take_same {α : Type} {l r : List α} {k : Nat} {p q : α} (h1 : l[k]? = some p) (h2 : r[k]? = some q) : l.take (k + 1) = r.take (k + 1) ↔ l.take k = r.take k ∧ p = q := by
 rw [List.take_add_one, List.take_add_one, h1, h2, Option.toList_some, Option.toList_some]
 constructor
 ·intro h
  have hl : (l.take k).length = (r.take k).length := by
   have := congrArg List.length h
   simpa using this
  obtain ⟨h3, h4⟩ := List.append_inj h hl
  exact ⟨h3, by simpa using h4⟩
 ·rintro ⟨h3, rfl⟩
  rw [h3]
theorem sameSpots_any (L : Option Addr) (c : Nat) (l : List Spt) (R : Option Addr) (d : Nat) (r : List Spt)  (w : World) (hL : Rd w w.heap.size 3 L l.length (tc l)) (hR : Rd w w.heap.size 3 R r.length (tc r)) (nL : l.length ≤ 1000000) (nR : r.length ≤ 1000000) :
   Calls Tryd.prog 31 #[.slice L l.length c, .slice R r.length d] w fun e w' => e = .returned (.bool (decide (l = r))) ∧ Below w.heap.size w w' := by
 obtain ⟨bL, oL, SL⟩ := Sp.old hL
 obtain ⟨bR, oR, SR⟩ := Sp.old hR
 refine Zpx noEx Tryd.func31 rfl 31 rfl [.slice L l.length c, .slice R r.length d] rfl rfl (Mem.init w _) ?_
 intro ac wc T M
 refine Zsr ?_
 refine lq T (Zra rfl evc) ?_; clear T ac; intro ac T
 refine wpList_nil ?_
 replace T := T.pick [1, 2] rfl
 refine nm_then ?_
 refine Zsr ?_
 refine Zg6 T (Zq (Zrm rfl (T.e 0 rfl))) rfl (Zl Tryd.underlying28 0 rfl rfl) rfl (Zm 3 rfl rfl) rfl (Zl Tryd.underlying28 0 rfl rfl) rfl (fun _ T => Zq (rn_eql rfl (T.e 2 rfl) (T.e 0 rfl))) rfl (Za 0 rfl rfl) rfl ?_; clear T ac; intro ac T
 refine wpList_nil ?_
 replace T := T.pick [0, 6, 7] rfl
 refine Zns ?_
 refine Zsr ?_
 refine lq T (Zra rfl evc) ?_; clear T ac; intro ac T
 refine Zln ?_
 refine wp_block ?_
 refine wp_loop_n (fun mz ac wc => ∃ (i : Nat) (sm : Bool), mz = l.length - i ∧ (i ≤ l.length) ∧ (sm = true ↔ l.length = r.length ∧ l.take i = r.take i) ∧ Tm ac 31 [(0, .slice L l.length c), (1, .slice R r.length d), (5, .bool sm), (6, .int .i64 (i : Int))] ∧ Mem w noEx wc []) ?_ ?_
 ·exact ⟨_, 0, _, rfl, (Nat.zero_le _), (by simp; omega), T.pick [2, 3, 1, 0] rfl, M.mask [] rfl⟩
 clear T M
 rintro mz ac wc ⟨i, sm, hmm1, hi, hs, T, M⟩
 refine wp_seq ?_
 refine cut_seq (fun ac wc => Tm ac 31 [(0, .slice L l.length c), (1, .slice R r.length d), (5, .bool sm), (6, .int .i64 (i : Int)), (18, .bool (sm && (decide ((i : Int) < ((l.length : Nat) : Int)))))] ∧ Mem w noEx wc []) ?_ ?_
 ·refine wp_region_lit ?_
  refine Zg2 T (Zq (Zrm rfl (T.e 2 rfl))) rfl (Zm 0 rfl rfl) rfl ?_; clear T ac; intro ac T
  rcases Bool.eq_false_or_eq_true sm with h1 | h1
  ·refine Zg5 T (Zw (Zwy rfl rfl (T.e 0 rfl) h1) (Zrm rfl (T.e 5 rfl))) rfl (fun _ T => Zw (Zwy rfl rfl (T.e 1 rfl) h1) (Zrm rfl (T.e 3 rfl))) rfl (fun _ T => Zw (Zwy rfl rfl (T.e 2 rfl) h1) (Zrl rfl Tryd.underlying28 (T.e 0 rfl))) rfl (fun _ T => Zw (Zwy rfl rfl (T.e 3 rfl) h1) (rn_lss rfl (T.e 2 rfl) (T.e 0 rfl))) rfl (fun _ T => Zq (Zr1 rfl (T.e 4 rfl) h1 (T.e 0 rfl))) rfl ?_; clear T ac; intro ac T
   refine wpList_nil ?_
   replace T := T.pick [0, 1, 2, 3, 4, 7, 8, 9, 10] rfl
   exact ⟨(T.pick (E' := [(0, .slice L l.length c), (1, .slice R r.length d), (5, .bool sm), (6, .int .i64 (i : Int)), (18, .bool (decide ((i : Int) < ((l.length : Nat) : Int))))]) [5, 6, 7, 8, 0] rfl).as (by (try rw [show sm = true from h1]); (try rfl)), M.mask [] rfl⟩
  refine Zg5 T (Zp (Zwn rfl rfl (T.e 0 rfl) h1)) rfl (fun _ T => Zp (Zwn rfl rfl (T.e 1 rfl) h1)) rfl (fun _ T => Zp (Zwn rfl rfl (T.e 2 rfl) h1)) rfl (fun _ T => Zp (Zwn rfl rfl (T.e 3 rfl) h1)) rfl (fun _ T => Zq (Zr0 rfl (T.e 4 rfl) h1 evc)) rfl ?_; clear T ac; intro ac T
  refine wpList_nil ?_
  replace T := T.pick [0, 1, 2, 3, 4, 7, 8, 9, 10] rfl
  exact ⟨(T.pick (E' := [(0, .slice L l.length c), (1, .slice R r.length d), (5, .bool sm), (6, .int .i64 (i : Int)), (18, .bool false)]) [5, 6, 7, 8, 0] rfl).as (by (try rw [show sm = false from h1]); (try rfl)), M.mask [] rfl⟩
 clear T M
 rintro ac wc ⟨T, M⟩
 refine wp_cond_split (T.e 4 rfl) ?_ ?_
 ·intro h2
  (have h2' := h2; try simp only [Zb1, Zb2, Zb3, Zb4, Zb5, Zb6, Zb7] at h2')
  have hlr : sm = true ∧ i < l.length := by simpa using h2
  have hlen := (hs.1 hlr.1).1
  have htk := (hs.1 hlr.1).2
  obtain ⟨p, hkp, -⟩ := tc_next (l := l) (k := i) (by omega)
  obtain ⟨q, hkq, -⟩ := tc_next (l := r) (k := i) (by omega)
  refine Zsk ?_
  refine wp_seq ?_
  refine wp_block ?_
  refine Zgs M (M.mask [] rfl) 10 (by kernel_rfl) rfl (by kernel_rfl) ?_
  clear M; intro wc M
  refine gq T 0 1 rfl (fun _ _ _ _ _ => (Zrm rfl (T.e 0 rfl))) ?_; clear T ac; intro ac T
  refine gq T 1 3 rfl (fun _ _ _ _ _ => (Zrm rfl (T.e 4 rfl))) ?_; clear T ac; intro ac T
  refine gq T 2 7 rfl (fun _ _ _ _ _ => (Zri (size := 3) i rfl (T.e 1 rfl) (T.e 0 rfl) ⟨_, Tryd.underlying28, by kernel_rfl⟩ rfl (by omega) (SL.at0 (by omega)))) ?_; clear T ac; intro ac T
  refine gq (v := (.agg #[.int .i64 p.x, .int .i64 p.y, .bool p.t])) T 3 15 rfl (fun B w' hD hl hS => (rn_rowat (Sp.tcR SL (show Mem w noEx w' _ from hS) (List.nil_sublist _) hkp) rfl (T.e 0 rfl) rfl)) ?_; clear T ac; intro ac T
  refine gq T 4 31 rfl (fun _ _ _ _ _ => (Zrm rfl (T.e 5 rfl))) ?_; clear T ac; intro ac T
  refine gq T 5 63 rfl (fun _ _ _ _ _ => (Zrm rfl (T.e 8 rfl))) ?_; clear T ac; intro ac T
  refine gq T 6 127 rfl (fun _ _ _ _ _ => (Zri (size := 3) i rfl (T.e 1 rfl) (T.e 0 rfl) ⟨_, Tryd.underlying28, by kernel_rfl⟩ rfl (by omega) (SR.at0 (by omega)))) ?_; clear T ac; intro ac T
  refine gq (v := (.agg #[.int .i64 q.x, .int .i64 q.y, .bool q.t])) T 7 255 rfl (fun B w' hD hl hS => (rn_rowat (Sp.tcR SR (show Mem w noEx w' _ from hS) (List.nil_sublist _) hkq) rfl (T.e 0 rfl) rfl)) ?_; clear T ac; intro ac T
  refine gq (v := (.bool ((decide (p.x = q.x)) && ((decide (p.y = q.y)) && (decide (p.t = q.t)))))) T 8 511 rfl (fun _ _ _ _ _ => (rn_bin rfl (T.e 4 rfl) (T.e 0 rfl) eqT30)) ?_; clear T ac; intro ac T
  refine g_q (v := (.bool ((decide (p.x = q.x)) && ((decide (p.y = q.y)) && (decide (p.t = q.t)))))) (T := T.pick [0, 1, 2, 3, 4, 5, 6, 7, 8, 9, 10, 12, 13] rfl) (i := 9) rfl (by kernel_rfl) (by kernel_rfl : (Zpb 10 511).setIfInBounds 9 true = Zpb 10 1023) si_U (fun _ _ _ h => h) rfl rfl rfl rfl (fun _ _ _ _ _ => (Zra rfl (T.e 0 rfl))) ?_; clear T ac; intro ac T
  refine Zgd (by kernel_rfl) ?_
  replace T := T.pick [0, 10, 11, 12] rfl
  refine Znb ?_
  refine nm_then ?_
  refine wp_region_lit ?_
  refine Zg2 T (Zq (Zrm rfl (T.e 3 rfl))) rfl (fun _ T => Zq (rn_add rfl (T.e 0 rfl) evc (by omega))) rfl ?_; clear T ac; intro ac T
  refine l_q (v := (.int .i64 ((i : Int) + 1))) (T.pick [0, 1, 2, 3, 4] rfl) rfl rfl rfl rfl (Zra rfl (T.e 0 rfl)) ?_; clear T ac; intro ac T
  refine wpList_nil ?_
  replace T := T.pick [0, 3, 4, 5] rfl
  refine nm_then ?_
  exact ⟨_, by omega, i + 1, ((decide (p.x = q.x)) && ((decide (p.y = q.y)) && (decide (p.t = q.t)))), rfl, (by omega), (by rw [take_same hkp hkq]; cases p; cases q; simp [hlen, htk]), T.pick [2, 3, 1, 0] rfl, M.mask [] rfl⟩
 intro h2
 (have h2' := h2; try simp only [Zb1, Zb2, Zb3, Zb4, Zb5, Zb6, Zb7] at h2')
 refine wp_exit ?_
 refine Zet ?_
 refine Zet ?_
 refine ex_hit ?_
 refine nm_then ?_
 refine Zsr ?_
 refine Zg2 T (Zq (Zrm rfl (T.e 2 rfl))) rfl (Za 0 rfl rfl) rfl ?_; clear T ac; intro ac T
 refine wpList_nil ?_
 replace T := T.pick [0] rfl
 refine Znr ?_
 refine rt_1 T rfl (T.e 0 rfl) ?_
 have e9 : sm = decide (l = r) := by
   rw [Bool.eq_iff_iff, decide_eq_true_eq]
   constructor
   · intro hsm
     obtain ⟨k1, k2⟩ := hs.1 hsm
     have hi9 : ¬ i < l.length := by simpa [hsm] using h2
     rwa [List.take_of_length_le (by omega), List.take_of_length_le (by omega)] at k2
   · rintro rfl
     exact hs.2 ⟨rfl, rfl⟩
 rw [e9]
 exact ⟨rfl, M.below⟩
def StockPost (w : World) (e : Ending) (w' : World) : Prop := ∃ g, e = .returned (.agg #[.int .i64 stkS.lo, .int .i64 stkS.wi, .int .i64 stkS.a0, .int .i64 stkS.a1, .int .i64 stkS.c0, .int .i64 stkS.c1, .slice (some ⟨g, 0, none⟩) stkS.ps.length 3]) ∧ Mem w noEx w' [(g, .cells [.int .i64 3, .int .i64 2, .bool false, .int .i64 0, .int .i64 2, .int .i64 3, .bool true, .int .i64 0, .int .i64 4, .int .i64 1, .bool false, .int .i64 0])]
def PairedPost (w : World) (e : Ending) (w' : World) : Prop := ∃ g, e = .returned (.agg #[.int .i64 prdS.lo, .int .i64 prdS.wi, .int .i64 prdS.a0, .int .i64 prdS.a1, .int .i64 prdS.c0, .int .i64 prdS.c1, .slice (some ⟨g, 0, none⟩) prdS.ps.length 3]) ∧ Mem w noEx w' [(g, .cells [.int .i64 3, .int .i64 2, .bool false, .int .i64 1, .int .i64 2, .int .i64 3, .bool true, .int .i64 0, .int .i64 4, .int .i64 1, .bool false, .int .i64 1])]
theorem to8_any (a b : Int) (w : World)  :
  Calls Tryd.prog 38 #[.int .i64 a, .int .i64 b] w fun e w' => e = .returned (.agg #[.int .i64 a, .int .i64 b]) ∧ Below w.heap.size w w' := by
 refine Zpx noEx Tryd.func38 rfl 8 rfl [.int .i64 a, .int .i64 b] rfl rfl (Mem.init w _) ?_
 intro ac wc T M
 refine Zsr ?_
 refine Zl2 ?_
 refine Zoa M T rfl rfl rfl rfl ?_; clear M T; intro g1 wc ac M T
 refine Zln ?_
 refine Zsr ?_
 refine Zg3 (v3 := (.agg #[.int .i64 a, .int .i64 b])) T (Zq (Zrm rfl (T.e 1 rfl))) rfl (Zm 3 rfl rfl) rfl (fun _ T => Zq (rn_build rfl (.cons (T.e 1 rfl) (.cons (T.e 0 rfl) .nil)) (fun _ => by kernel_rfl))) rfl ?_; clear T ac; intro ac T
 refine Zl2 ?_
 refine Zos M T rfl rfl (T.e 3 rfl) (T.e 0 rfl) rfl .head rfl (by simp) rfl (by kernel_rfl) ?_; clear M T; intro wc ac M T
 refine wpList_nil ?_
 replace T := T.pick [3] rfl
 refine Znr ?_
 refine rt_c M T rfl (T.e 0 rfl) (Zne (i := 0) rfl) rfl ?_
 exact ⟨rfl, M.below⟩
theorem spot8_any (x y : Int) (t : Bool) (w : World)  :
  Calls Tryd.prog 32 #[.int .i64 x, .int .i64 y, .bool t] w fun e w' => e = .returned (.agg #[.int .i64 x, .int .i64 y, .bool t]) ∧ Below w.heap.size w w' := by
 refine Zpx noEx Tryd.func32 rfl 11 rfl [.int .i64 x, .int .i64 y, .bool t] rfl rfl (Mem.init w _) ?_
 intro ac wc T M
 refine Zsr ?_
 refine Zl2 ?_
 refine Zoa M T rfl rfl rfl rfl ?_; clear M T; intro g1 wc ac M T
 refine Zln ?_
 refine Zsr ?_
 refine Zg4 (v4 := (.agg #[.int .i64 x, .int .i64 y, .bool t])) T (Zq (Zrm rfl (T.e 1 rfl))) rfl (Zm 3 rfl rfl) rfl (Zm 5 rfl rfl) rfl (fun _ T => Zq (rn_build rfl (.cons (T.e 2 rfl) (.cons (T.e 1 rfl) (.cons (T.e 0 rfl) .nil))) (fun _ => by kernel_rfl))) rfl ?_; clear T ac; intro ac T
 refine Zl2 ?_
 refine Zos M T rfl rfl (T.e 4 rfl) (T.e 0 rfl) rfl .head rfl (by simp) rfl (by kernel_rfl) ?_; clear M T; intro wc ac M T
 refine wpList_nil ?_
 replace T := T.pick [4] rfl
 refine Znr ?_
 refine rt_c M T rfl (T.e 0 rfl) (Zne (i := 0) rfl) rfl ?_
 exact ⟨rfl, M.below⟩
theorem stock_any  (w : World)  :
  Calls Tryd.prog 62 #[] w (StockPost w) := by
 refine Zpx noEx Tryd.func62 rfl 7 rfl [] rfl rfl (Mem.init w _) ?_
 intro ac wc T M
 refine Zsr ?_
 refine Zl2 ?_
 refine Zoa M T rfl rfl rfl rfl ?_; clear M T; intro g1 wc ac M T
 refine Zln ?_
 refine Zsr ?_
 refine Zl2 ?_
 refine Zoc (first := []) (cap := []) T rfl rfl rfl rfl evf (.cons evc (.cons evc .nil)) Tryd.func38 rfl rfl ?_
 refine Calls.mono (to8_any 0 1 _) ?_
 clear T; rintro e wc ⟨rfl, hb⟩ ac T
 replace M := M.call hb; clear hb
 refine Zg3 (v1 := (.agg #[.int .i64 3, .int .i64 2, .bool false, .int .i64 0])) (v2 := (.agg #[.int .i64 2, .int .i64 3, .bool true, .int .i64 0])) (v3 := (.agg #[.int .i64 4, .int .i64 1, .bool false, .int .i64 0])) T (Zq (rn_build rfl (.cons evc (.cons evc .nil)) (fun _ => by kernel_rfl))) rfl (fun _ T => Zq (rn_build rfl (.cons evc (.cons evc (.cons evc .nil))) (fun _ => by kernel_rfl))) rfl (fun _ T => Zq (rn_build rfl (.cons evc (.cons evc .nil)) (fun _ => by kernel_rfl))) rfl ?_; clear T ac; intro ac T
 refine Zl2 ?_
 refine ow_bs (e := 63) [.int .i64 3, .int .i64 2, .bool false, .int .i64 0, .int .i64 2, .int .i64 3, .bool true, .int .i64 0, .int .i64 4, .int .i64 1, .bool false, .int .i64 0] M T rfl rfl rfl rfl (.cons (T.e 2 rfl) (.cons (T.e 1 rfl) (.cons (T.e 0 rfl) .nil))) (fun _ => by kernel_rfl) ?_; clear M T; intro g2 wc ac M T
 refine lq (v := (.agg #[.int .i64 6, .int .i64 3, .int .i64 0, .int .i64 1, .int .i64 0, .int .i64 0, .slice (some ⟨g2, 0, none⟩) 3 3])) T (rn_build rfl (.cons evc (.cons evc (.cons (T.e 4 rfl) (.cons (T.e 0 rfl) .nil)))) (fun _ => by kernel_rfl)) ?_; clear T ac; intro ac T
 refine Zl2 ?_
 refine Zos M T rfl rfl (T.e 6 rfl) (T.e 0 rfl) rfl (.tail .head) rfl (by simp) rfl (by kernel_rfl) ?_; clear M T; intro wc ac M T
 refine wpList_nil ?_
 replace T := T.pick [6] rfl
 refine Znr ?_
 refine rt_c M T rfl (T.e 0 rfl) (Zne (i := 1) rfl) rfl ?_
 exact ⟨g2, rfl, M.mask [true, false] rfl⟩
theorem paired_any  (w : World)  :
  Calls Tryd.prog 63 #[] w (PairedPost w) := by
 refine Zpx noEx Tryd.func63 rfl 12 rfl [] rfl rfl (Mem.init w _) ?_
 intro ac wc T M
 refine Zsr ?_
 refine Zl2 ?_
 refine Zoa M T rfl rfl rfl rfl ?_; clear M T; intro g1 wc ac M T
 refine Zln ?_
 refine Zsr ?_
 refine Zl2 ?_
 refine Zoc (first := []) (cap := []) T rfl rfl rfl rfl evf .nil Tryd.func62 rfl rfl ?_
 refine Calls.mono (stock_any _) ?_
 clear T; rintro e wc ⟨gsu1, rfl, N⟩ ac T
 replace M := M.join N; clear N
 replace M := M.mask [true, true] rfl
 refine Zl2 ?_
 refine Zoa M T rfl rfl rfl rfl ?_; clear M T; intro g2 wc ac M T
 refine Zl2 ?_
 refine Zos M T rfl rfl (T.e 0 rfl) (T.e 1 rfl) rfl .head rfl (by simp) rfl (by kernel_rfl) ?_; clear M T; intro wc ac M T
 refine wpList_nil ?_
 replace T := T.pick [0, 2] rfl
 refine Zns ?_
 refine Zgs M (M.perm [0, 2] rfl rfl) 10 (by kernel_rfl) rfl (by kernel_rfl) ?_
 clear M; intro wc M
 refine gq (v := (.pointer (some ⟨g2, 6, none⟩))) T 0 1 rfl (fun _ _ _ _ _ => (Zrf (off := 6) rfl (T.e 0 rfl) (fun _ _ _ => by kernel_rfl))) ?_; clear T ac; intro ac T
 refine gq T 1 3 rfl (fun B w' hD hl hS => (Zro (Mem.nth (show Mem w noEx w' _ from hS) 0 rfl) rfl (T.e 0 rfl) rfl)) ?_; clear T ac; intro ac T
 refine gq (v := (.pointer (some ⟨g2, 6, none⟩))) T 2 7 rfl (fun _ _ _ _ _ => (Zrf (off := 6) rfl (T.e 2 rfl) (fun _ _ _ => by kernel_rfl))) ?_; clear T ac; intro ac T
 refine gq T 3 15 rfl (fun B w' hD hl hS => (Zro (Mem.nth (show Mem w noEx w' _ from hS) 0 rfl) rfl (T.e 0 rfl) rfl)) ?_; clear T ac; intro ac T
 refine gq (v := (.pointer (some ⟨gsu1, 0, none⟩))) T 4 31 rfl (fun _ _ _ _ _ => (Zri (size := 4) 0 rfl (T.e 2 rfl) evc ⟨_, Tryd.underlying24, by kernel_rfl⟩ rfl (by decide) rfl)) ?_; clear T ac; intro ac T
 refine gq (v := (.pointer (some ⟨gsu1, 3, none⟩))) T 5 63 rfl (fun _ _ _ _ _ => (Zrf (off := 3) rfl (T.e 0 rfl) (fun _ _ _ => by kernel_rfl))) ?_; clear T ac; intro ac T
 refine gw 6 127 ?_; intro K hK
 refine Zos M T rfl rfl (T.e 0 rfl) evc rfl (.tail .head) rfl (by simp) rfl (by kernel_rfl) ?_; clear M T; intro wc ac M T
 refine Zso hK _ _ (M.mask [true, false, true] rfl) ?_; clear hK K
 refine gq (v := (.pointer (some ⟨gsu1, 8, none⟩))) T 7 255 rfl (fun _ _ _ _ _ => (Zri (size := 4) 2 rfl (T.e 2 rfl) evc ⟨_, Tryd.underlying24, by kernel_rfl⟩ rfl (by decide) rfl)) ?_; clear T ac; intro ac T
 refine gq (v := (.pointer (some ⟨gsu1, 11, none⟩))) T 8 511 rfl (fun _ _ _ _ _ => (Zrf (off := 3) rfl (T.e 0 rfl) (fun _ _ _ => by kernel_rfl))) ?_; clear T ac; intro ac T
 refine gw 9 1023 ?_; intro K hK
 refine Zos M T rfl rfl (T.e 0 rfl) evc rfl (.tail .head) rfl (by simp) rfl (by kernel_rfl) ?_; clear M T; intro wc ac M T
 refine Zso hK _ _ (M.mask [true, false, true] rfl) ?_; clear hK K
 refine Zgd (by kernel_rfl) ?_
 replace T := T.pick [8, 9] rfl
 refine nm_then ?_
 refine Zsr ?_
 refine lq T (Zrr (Mem.nth M 0 rfl) rfl (T.e 0 rfl) rfl) ?_; clear T ac; intro ac T
 refine Zl2 ?_
 refine Zos M T rfl rfl (T.e 2 rfl) (T.e 0 rfl) rfl (.tail (.tail .head)) rfl (by simp) rfl (by kernel_rfl) ?_; clear M T; intro wc ac M T
 refine wpList_nil ?_
 replace T := T.pick [2] rfl
 replace M := M.mask [false, true, true] rfl
 refine Znr ?_
 refine rt_c M T rfl (T.e 0 rfl) (Zne (i := 1) rfl) rfl ?_
 exact ⟨gsu1, rfl, M.mask [true, false] rfl⟩
theorem sawn8_any  (w : World) (hT : TabW w) :
  Calls Tryd.prog 17 #[] w fun e w' => e = .returned (.bool true) ∧ Below w.heap.size w w' := by
 refine Zpx noEx Tryd.func17 rfl 90 rfl [] rfl rfl (Mem.init w _) ?_
 intro ac wc T M
 refine Zsr ?_
 refine lq T (Zra rfl evc) ?_; clear T ac; intro ac T
 refine wpList_nil ?_
 replace T := T.pick [] rfl
 refine nm_then ?_
 refine Zsr ?_
 refine Zl2 ?_
 refine Zoc (first := []) (cap := []) T rfl rfl rfl rfl evf .nil Tryd.func62 rfl rfl ?_
 refine Calls.mono (stock_any _) ?_
 clear T; rintro e wc ⟨gsu1, rfl, N⟩ ac T
 replace M := M.join N; clear N
 replace M := M.mask [true] rfl
 refine Zl2 ?_
 refine ow_bs (e := 3) [.int .i64 0, .int .i64 1] M T rfl rfl rfl rfl (.cons evc (.cons evc .nil)) (fun _ => by kernel_rfl) ?_; clear M T; intro g1 wc ac M T
 refine Zl2 ?_
 refine Zoc (first := []) (cap := []) T rfl rfl rfl rfl evf (.cons (T.e 1 rfl) (.cons (T.e 0 rfl) (.cons evc .nil))) Tryd.func33 rfl rfl ?_
 refine Calls.mono (Plan_any stkS (some ⟨gsu1, 0, none⟩) 3 (some ⟨g1, 0, none⟩) 2 ([0, 1]) true _ (M.rdOwn (Zne (i := 1) rfl) rfl rfl) (M.rdOwn (Zne (i := 0) rfl) rfl rfl) (by decide) (by decide) (by decide) (hT.mem M (fun h => h))) ?_
 clear T; rintro e wc ⟨APu2, cPu2, IPu2, rfl, hcpPu2, SVPu2, N⟩ ac T
 rw [st_plan.1] at SVPu2 hcpPu2
 rw [st_plan.1, st_plan.2] at T
 obtain ⟨bAPu2, oAPu2, SVPu2⟩ := SVPu2
 have SAPu2 := SVPu2 w noEx
 replace M := (M.join N).swapI
 clear N
 replace M : Mem w noEx wc ((g1, .cells [.int .i64 0, .int .i64 1]) :: (gsu1, .cells [.int .i64 3, .int .i64 2, .bool false, .int .i64 0, .int .i64 2, .int .i64 3, .bool true, .int .i64 0, .int .i64 4, .int .i64 1, .bool false, .int .i64 0]) :: IPu2) := M
 refine Zg5 T (Zq (Zrm rfl (T.e 0 rfl))) rfl (Ze 0 rfl rfl rfl) rfl (Ze 1 rfl rfl rfl) rfl (Za 1 rfl rfl) rfl (Za 1 rfl rfl) rfl ?_; clear T ac; intro ac T
 refine wpList_nil ?_
 replace T := T.pick [0, 1] rfl
 replace M := M.mask [false, false] rfl
 refine nm_then ?_
 refine Zsr ?_
 refine Zl2 ?_
 refine Zoc (first := []) (cap := []) T rfl rfl rfl rfl evf .nil Tryd.func63 rfl rfl ?_
 refine Calls.mono (paired_any _) ?_
 clear T; rintro e wc ⟨gsu3, rfl, N⟩ ac T
 replace M := M.join N; clear N
 replace M := M.mask [true] rfl
 refine Zl2 ?_
 refine Zoc (first := []) (cap := []) T rfl rfl rfl rfl evf (.cons (T.e 0 rfl) (.cons evc .nil)) Tryd.func34 rfl rfl ?_
 refine Calls.mono (Sheets_any prdS (some ⟨gsu3, 0, none⟩) 3 true _ (M.rdOwn (Zne (i := 0) rfl) rfl rfl) (by decide) (by decide) (hT.mem M (fun h => h))) ?_
 clear T; rintro e wc ⟨ASu4, cSu4, ISu4, rfl, hcpSu4, SVSu4, N⟩ ac T
 rw [pr_sh.1] at SVSu4 hcpSu4
 rw [pr_sh.1, pr_sh.2.1, pr_sh.2.2] at T
 obtain ⟨bASu4, oASu4, SVSu4⟩ := SVSu4
 have SASu4 := SVSu4 w noEx
 replace M := (M.join N).swapI
 clear N
 replace M : Mem w noEx wc ((gsu3, .cells [.int .i64 3, .int .i64 2, .bool false, .int .i64 1, .int .i64 2, .int .i64 3, .bool true, .int .i64 0, .int .i64 4, .int .i64 1, .bool false, .int .i64 1]) :: (IPu2 ++ ISu4)) := M
 refine Zg7 T (Zq (Zrm rfl (T.e 0 rfl))) rfl (Ze 0 rfl rfl rfl) rfl (Ze 1 rfl rfl rfl) rfl (Ze 2 rfl rfl rfl) rfl (Za 2 rfl rfl) rfl (Za 2 rfl rfl) rfl (Za 2 rfl rfl) rfl ?_; clear T ac; intro ac T
 refine wpList_nil ?_
 replace T := T.pick [0, 1, 2, 9, 10] rfl
 replace M := M.mask [false] rfl
 refine nm_then ?_
 refine Zsr ?_
 refine Zl2 ?_
 refine Zoc (first := []) (cap := []) T rfl rfl rfl rfl evf .nil Tryd.func62 rfl rfl ?_
 refine Calls.mono (stock_any _) ?_
 clear T; rintro e wc ⟨gsu5, rfl, N⟩ ac T
 replace M := M.join N; clear N
 replace M := M.mask [true] rfl
 refine Zl2 ?_
 refine Zoc (first := []) (cap := []) T rfl rfl rfl rfl evf (.cons (T.e 0 rfl) .nil) Tryd.func43 rfl rfl ?_
 refine Calls.mono (Worst_any stkS (some ⟨gsu5, 0, none⟩) 3 _ (M.rdOwn (Zne (i := 0) rfl) rfl rfl) (by decide) (by decide) (hT.mem M (fun h => h))) ?_
 clear T; rintro e wc ⟨AWu6, cWu6, IWu6, rfl, hcpWu6, SVWu6, N⟩ ac T
 rw [st_wrs] at SVWu6 hcpWu6
 rw [st_wrs, st_sh.2] at T
 obtain ⟨bAWu6, oAWu6, SVWu6⟩ := SVWu6
 have SAWu6 := SVWu6 w noEx
 replace M := (M.join N).swapI
 clear N
 replace M : Mem w noEx wc ((gsu5, .cells [.int .i64 3, .int .i64 2, .bool false, .int .i64 0, .int .i64 2, .int .i64 3, .bool true, .int .i64 0, .int .i64 4, .int .i64 1, .bool false, .int .i64 0]) :: (IPu2 ++ ISu4 ++ IWu6)) := M
 refine Zg5 T (Zq (Zrm rfl (T.e 0 rfl))) rfl (Ze 0 rfl rfl rfl) rfl (Ze 1 rfl rfl rfl) rfl (Za 1 rfl rfl) rfl (Za 1 rfl rfl) rfl ?_; clear T ac; intro ac T
 refine wpList_nil ?_
 replace T := T.pick [0, 1, 7, 8, 9, 10, 11] rfl
 replace M := M.mask [false] rfl
 replace M : Mem w noEx wc ((IPu2 ++ ISu4 ++ IWu6)) := M
 refine nm_then ?_
 refine Zsr ?_
 refine Zl2 ?_
 refine Zoc (first := []) (cap := []) T rfl rfl rfl rfl evf .nil Tryd.func62 rfl rfl ?_
 refine Calls.mono (stock_any _) ?_
 clear T; rintro e wc ⟨gsu7, rfl, N⟩ ac T
 replace M := M.join N; clear N
 replace M := M.mask [true] rfl
 refine lq (v := (.agg #[.int .i64 5, .int .i64 2, .bool true, .int .i64 0])) T (rn_build rfl (.cons evc (.cons evc (.cons evc .nil))) (fun _ => by kernel_rfl)) ?_; clear T ac; intro ac T
 refine Zl2 ?_
 refine Zoc (first := []) (cap := []) T rfl rfl rfl rfl evf (.cons (T.e 1 rfl) (.cons (T.e 0 rfl) (.cons evc .nil))) Tryd.func41 rfl rfl ?_
 refine Calls.mono (Spare_any stkS (some ⟨gsu7, 0, none⟩) 3 (⟨5, 2, true, 0⟩ : Pt) true _ (M.rdOwn (Zne (i := 0) rfl) rfl rfl) (by decide) (by decide) (hT.mem M (fun h => h))) ?_
 clear T; rintro e wc ⟨rfl, hb⟩ ac T
 rw [st_spr.1, st_spr.2] at T
 replace M := M.call hb; clear hb
 refine Zg5 T (Zq (Zrm rfl (T.e 0 rfl))) rfl (Ze 0 rfl rfl rfl) rfl (Ze 1 rfl rfl rfl) rfl (Za 1 rfl rfl) rfl (Za 1 rfl rfl) rfl ?_; clear T ac; intro ac T
 refine wpList_nil ?_
 replace T := T.pick [0, 1, 8, 9, 10, 11, 12, 13, 14] rfl
 replace M := M.mask [false] rfl
 replace M : Mem w noEx wc ((IPu2 ++ ISu4 ++ IWu6)) := M
 refine nm_then ?_
 refine Zsr ?_
 refine Zl2 ?_
 refine Zoc (first := []) (cap := []) T rfl rfl rfl rfl evf .nil Tryd.func62 rfl rfl ?_
 refine Calls.mono (stock_any _) ?_
 clear T; rintro e wc ⟨gsu9, rfl, N⟩ ac T
 replace M := M.join N; clear N
 replace M := M.mask [true] rfl
 refine Zl2 ?_
 refine ow_bs (e := 3) [.int .i64 0, .int .i64 2] M T rfl rfl rfl rfl (.cons evc (.cons evc .nil)) (fun _ => by kernel_rfl) ?_; clear M T; intro g2 wc ac M T
 refine Zl2 ?_
 refine Zoc (first := []) (cap := []) T rfl rfl rfl rfl evf (.cons evc (.cons evc (.cons evc .nil))) Tryd.func32 rfl rfl ?_
 refine Calls.mono (spot8_any 0 1 false _) ?_
 clear T; rintro e wc ⟨rfl, hb⟩ ac T
 replace M := M.call hb; clear hb
 refine Zl2 ?_
 refine Zoc (first := []) (cap := []) T rfl rfl rfl rfl evf (.cons evc (.cons evc (.cons evc .nil))) Tryd.func32 rfl rfl ?_
 refine Calls.mono (spot8_any 0 0 false _) ?_
 clear T; rintro e wc ⟨rfl, hb⟩ ac T
 replace M := M.call hb; clear hb
 refine Zl2 ?_
 refine ow_bs (e := 30) [.int .i64 0, .int .i64 1, .bool false, .int .i64 0, .int .i64 0, .bool false] M T rfl rfl rfl rfl (.cons (T.e 1 rfl) (.cons (T.e 0 rfl) .nil)) (fun _ => by kernel_rfl) ?_; clear M T; intro g3 wc ac M T
 refine Zl2 ?_
 refine Zoc (first := []) (cap := []) T rfl rfl rfl rfl evf (.cons (T.e 4 rfl) (.cons (T.e 3 rfl) (.cons (T.e 0 rfl) (.cons evc .nil)))) Tryd.func27 rfl rfl ?_
 refine Calls.mono (Cuts_any stkS (some ⟨gsu9, 0, none⟩) 3 (some ⟨g2, 0, none⟩) 2 ([0, 2]) (some ⟨g3, 0, none⟩) 2 ([⟨0, 1, false⟩, ⟨0, 0, false⟩] : List Spt) true _ (M.rdOwn (Zne (i := 2) rfl) rfl rfl) (M.rdOwn (Zne (i := 1) rfl) rfl rfl) (by decide) (by decide) (by decide) (M.rdOwn (Zne (i := 0) rfl) rfl rfl) (by decide)) ?_
 clear T; rintro e wc ⟨rfl, hb⟩ ac T
 rw [st_cuts.1, show cutsE stkS [0, 2] ([⟨0, 1, false⟩, ⟨0, 0, false⟩] : List Spt).length = 0 from st_cuts.2] at T
 replace M := M.call hb; clear hb
 refine Zg5 T (Zq (Zrm rfl (T.e 0 rfl))) rfl (Ze 0 rfl rfl rfl) rfl (Ze 1 rfl rfl rfl) rfl (Za 1 rfl rfl) rfl (Za 1 rfl rfl) rfl ?_; clear T ac; intro ac T
 refine wpList_nil ?_
 replace T := T.pick [0, 1, 11, 12, 13, 14, 15, 16, 17, 18, 19] rfl
 replace M := M.mask [false, false, false] rfl
 replace M : Mem w noEx wc ((IPu2 ++ ISu4 ++ IWu6)) := M
 refine nm_then ?_
 refine Zsr ?_
 refine Zg8 (v2 := (.bool true)) (v5 := (.bool true)) T (Zq (Zrm rfl (T.e 9 rfl))) rfl (fun _ T => Zq (Zrq (rn_eql rfl (T.e 0 rfl) evc) (by simp))) rfl (Zm 0 rfl rfl) rfl (fun _ T => Zw (Zwy rfl rfl (T.e 0 rfl) rfl) (Zrm rfl (T.e 9 rfl))) rfl (fun _ T => Zw (Zwy rfl rfl (T.e 1 rfl) rfl) (Zrq (rn_eql rfl (T.e 0 rfl) evc) (by simp))) rfl (fun _ T => Zq (Zr1 rfl (T.e 2 rfl) rfl (T.e 0 rfl))) rfl (Zm 0 rfl rfl) rfl (fun _ T => Zw (Zwy rfl rfl (T.e 0 rfl) rfl) (Zrm rfl (T.e 11 rfl))) rfl ?_; clear T ac; intro ac T
 refine Zg8 (v1 := (.bool true)) (v5 := (.bool true)) T (Zw (Zwy rfl rfl (T.e 1 rfl) rfl) (Zrq (rn_eql rfl (T.e 0 rfl) evc) (by simp))) rfl (fun _ T => Zq (Zr1 rfl (T.e 2 rfl) rfl (T.e 0 rfl))) rfl (Zm 0 rfl rfl) rfl (fun _ T => Zw (Zwy rfl rfl (T.e 0 rfl) rfl) (Zrm rfl (T.e 13 rfl))) rfl (fun _ T => Zw (Zwy rfl rfl (T.e 1 rfl) rfl) (Zrq (rn_eql rfl (T.e 0 rfl) evc) (by simp))) rfl (fun _ T => Zq (Zr1 rfl (T.e 2 rfl) rfl (T.e 0 rfl))) rfl (Zm 0 rfl rfl) rfl (fun _ T => Zw (Zwy rfl rfl (T.e 0 rfl) rfl) (Zrm rfl (T.e 15 rfl))) rfl ?_; clear T ac; intro ac T
 refine Zg8 (v1 := (.bool true)) (v5 := (.bool true)) T (Zw (Zwy rfl rfl (T.e 1 rfl) rfl) (Zrq (rn_eql rfl (T.e 0 rfl) evc) (by simp))) rfl (fun _ T => Zq (Zr1 rfl (T.e 2 rfl) rfl (T.e 0 rfl))) rfl (Zm 0 rfl rfl) rfl (fun _ T => Zw (Zwy rfl rfl (T.e 0 rfl) rfl) (Zrm rfl (T.e 26 rfl))) rfl (fun _ T => Zw (Zwy rfl rfl (T.e 1 rfl) rfl) (Zrq (rn_eql rfl (T.e 0 rfl) evc) (by simp))) rfl (fun _ T => Zq (Zr1 rfl (T.e 2 rfl) rfl (T.e 0 rfl))) rfl (Zm 0 rfl rfl) rfl (fun _ T => Zw (Zwy rfl rfl (T.e 0 rfl) rfl) (Zrm rfl (T.e 26 rfl))) rfl ?_; clear T ac; intro ac T
 refine Zg7 (v1 := (.bool true)) T (Zw (Zwy rfl rfl (T.e 1 rfl) rfl) (Zrq (rn_eql rfl (T.e 0 rfl) evc) (by simp))) rfl (fun _ T => Zq (Zr1 rfl (T.e 2 rfl) rfl (T.e 0 rfl))) rfl (Zm 0 rfl rfl) rfl (fun _ T => Zw (Zwy rfl rfl (T.e 0 rfl) rfl) (Zrm rfl (T.e 28 rfl))) rfl (fun _ T => Zq (Zr1 rfl (T.e 1 rfl) rfl (T.e 0 rfl))) rfl (Zm 0 rfl rfl) rfl (fun _ T => Zw (Zwy rfl rfl (T.e 0 rfl) rfl) (Zrm rfl (T.e 40 rfl))) rfl ?_; clear T ac; intro ac T
 refine l_w (Zwy rfl rfl (T.e 1 rfl) rfl) ?_; intro K hK
 refine Zoc (first := []) (cap := []) T rfl rfl rfl rfl evf (.cons evc (.cons evc (.cons evc .nil))) Tryd.func32 rfl rfl ?_
 refine Calls.mono (spot8_any 0 0 true _) ?_
 clear T; rintro e wc ⟨rfl, hb⟩ ac T
 replace M := M.call hb; clear hb
 refine Zso hK _ _ ?_; clear hK K
 refine l_w (Zwy rfl rfl (T.e 2 rfl) rfl) ?_; intro K hK
 refine Zoc (first := []) (cap := []) T rfl rfl rfl rfl evf (.cons evc (.cons evc (.cons evc .nil))) Tryd.func32 rfl rfl ?_
 refine Calls.mono (spot8_any 3 0 false _) ?_
 clear T; rintro e wc ⟨rfl, hb⟩ ac T
 replace M := M.call hb; clear hb
 refine Zso hK _ _ ?_; clear hK K
 refine l_w (Zwy rfl rfl (T.e 3 rfl) rfl) ?_; intro K hK
 refine ow_bs (e := 30) [.int .i64 0, .int .i64 0, .bool true, .int .i64 3, .int .i64 0, .bool false] M T rfl rfl rfl rfl (.cons (T.e 1 rfl) (.cons (T.e 0 rfl) .nil)) (fun _ => by kernel_rfl) ?_; clear M T; intro g4 wc ac M T
 refine Zso hK _ _ ?_; clear hK K
 refine l_w (Zwy rfl rfl (T.e 4 rfl) rfl) ?_; intro K hK
 refine Zoc (first := []) (cap := []) T rfl rfl rfl rfl evf (.cons (T.e 3 rfl) (.cons (T.e 0 rfl) .nil)) Tryd.func31 rfl rfl ?_
 refine Calls.mono (sameSpots_any APu2 cPu2 ([⟨0, 0, true⟩, ⟨3, 0, false⟩] : List Spt) (some ⟨g4, 0, none⟩) 2 ([⟨0, 0, true⟩, ⟨3, 0, false⟩] : List Spt) _ (SAPu2.rd M (.cons _ (subL (subL (List.Sublist.refl _))))) (M.rdOwn (Zne (i := 0) rfl) rfl rfl) (by decide) (by decide)) ?_
 clear T; rintro e wc ⟨rfl, hb⟩ ac T
 replace M := M.call hb; clear hb
 rw [Zdt (@rfl (List Spt) ([⟨0, 0, true⟩, ⟨3, 0, false⟩] : List Spt))] at T
 refine Zso hK _ _ ?_; clear hK K
 refine Zg3 T (Zq (Zr1 rfl (T.e 5 rfl) rfl (T.e 0 rfl))) rfl (Zm 0 rfl rfl) rfl (fun _ T => Zw (Zwy rfl rfl (T.e 0 rfl) rfl) (Zrm rfl (T.e 45 rfl))) rfl ?_; clear T ac; intro ac T
 refine l_w (Zwy rfl rfl (T.e 1 rfl) rfl) ?_; intro K hK
 refine ow_bs (e := 3) [.int .i64 0, .int .i64 1, .int .i64 0] M T rfl rfl rfl rfl (.cons evc (.cons evc (.cons evc .nil))) (fun _ => by kernel_rfl) ?_; clear M T; intro g5 wc ac M T
 refine Zso hK _ _ ?_; clear hK K
 refine l_w (Zwy rfl rfl (T.e 2 rfl) rfl) ?_; intro K hK
 refine Zoc (first := []) (cap := []) T rfl rfl rfl rfl evf (.cons (T.e 1 rfl) (.cons (T.e 0 rfl) .nil)) Tryd.func30 rfl rfl ?_
 refine Calls.mono (sameInts_any _ _ _ _ _ _ ([0, 1, 0]) ([0, 1, 0]) _ (SASu4.rd M (.cons _ (.cons _ (subL (Zsq _ _))))) (M.rdOwn (Zne (i := 0) rfl) rfl rfl) (by decide) (by decide)) ?_
 clear T; rintro e wc ⟨rfl, hb⟩ ac T
 replace M := M.call hb; clear hb
 rw [Zdt (@rfl (List Int) [0, 1, 0])] at T
 refine Zso hK _ _ ?_; clear hK K
 refine Zg3 T (Zq (Zr1 rfl (T.e 3 rfl) rfl (T.e 0 rfl))) rfl (Zm 0 rfl rfl) rfl (fun _ T => Zw (Zwy rfl rfl (T.e 0 rfl) rfl) (Zrm rfl (T.e 47 rfl))) rfl ?_; clear T ac; intro ac T
 refine l_w (Zwy rfl rfl (T.e 1 rfl) rfl) ?_; intro K hK
 refine ow_bs (e := 3) [.int .i64 2, .int .i64 1, .int .i64 1] M T rfl rfl rfl rfl (.cons evc (.cons evc (.cons evc .nil))) (fun _ => by kernel_rfl) ?_; clear M T; intro g6 wc ac M T
 refine Zso hK _ _ ?_; clear hK K
 refine l_w (Zwy rfl rfl (T.e 2 rfl) rfl) ?_; intro K hK
 refine Zoc (first := []) (cap := []) T rfl rfl rfl rfl evf (.cons (T.e 1 rfl) (.cons (T.e 0 rfl) .nil)) Tryd.func30 rfl rfl ?_
 refine Calls.mono (sameInts_any _ _ _ _ _ _ ([2, 1, 1]) ([2, 1, 1]) _ (SAWu6.rd M (.cons _ (.cons _ (.cons _ (Zsq _ _))))) (M.rdOwn (Zne (i := 0) rfl) rfl rfl) (by decide) (by decide)) ?_
 clear T; rintro e wc ⟨rfl, hb⟩ ac T
 replace M := M.call hb; clear hb
 rw [Zdt (@rfl (List Int) [2, 1, 1])] at T
 refine Zso hK _ _ ?_; clear hK K
 refine Zg2 T (Zq (Zr1 rfl (T.e 3 rfl) rfl (T.e 0 rfl))) rfl (Za 0 rfl rfl) rfl ?_; clear T ac; intro ac T
 refine wpList_nil ?_
 replace T := T.pick [0] rfl
 replace M := M.mask [false, false, false] rfl
 replace M : Mem w noEx wc ((IPu2 ++ ISu4 ++ IWu6)) := M
 refine Znr ?_
 refine rt_1 T rfl (T.e 0 rfl) ?_
 exact ⟨rfl, M.below⟩
section
variable {df : List Deferred} {P : Program} {op : Oper} {a : Act} {K : Act → World → Prop} {Q : Exit → Act → World → Prop} {w0 w : World} {ex : Nat → Prop} {L : List (Nat × BA)} {E : List (Nat × Value)} {t n : Nat}
end
def OddsPost (bp : Nat) (w : World) (e : Ending) (w' : World) : Prop := ∃ (b : Bool) (s' : Int), u64ok s' ∧ e = .returned (.bool b) ∧ w.grownBy w' (some bp) ∧ Bk w' bp #[.int .u64 s']
def PtPost (bp : Nat) (w : World) (e : Ending) (w' : World) : Prop := ∃ (p : Pt) (s' : Int), p.good ∧ u64ok s' ∧ e = .returned (.agg #[.int .i64 p.l, .int .i64 p.w, .bool p.gr, .int .i64 p.pa]) ∧ w.grownBy w' (some bp) ∧ Bk w' bp #[.int .u64 s']
def SkOfPost (bp : Nat) (side parts : Int) (w : World) (e : Ending) (w' : World) : Prop := ∃ (s : Sk) (A : Option Addr) (c : Nat) (sd : Int) (I : List (Nat × BA)), e = .returned (.agg #[.int .i64 s.lo, .int .i64 s.wi, .int .i64 s.a0, .int .i64 s.a1, .int .i64 s.c0, .int .i64 s.c1, .slice A s.ps.length c]) ∧ s.good ∧ ((s.lo ≤ side ∧ s.wi ≤ side) ∧ (s.ps.length : Int) ≤ parts) ∧ u64ok sd ∧ s.ps.length ≤ c ∧ (∃ b o, ∀ (w : World) (ex : Nat → Prop), Sp w ex I A s.ps.length 4 b o (pc s.ps)) ∧ Mem w (fun b => b = bp) w' ((bp, .cells [.int .u64 sd]) :: I)
theorem odds_any (s : Int) (bp : Nat) (n m : Int) (w : World) (hn : 0 ≤ n ∧ n ≤ 1000) (hm : 1 ≤ m ∧ m ≤ 1000) (hp : Bk w bp #[.int .u64 s]) (hs : u64ok s) :
  Calls Tryd.prog 23 #[.pointer (some ⟨bp, 0, none⟩), .int .i64 n, .int .i64 m] w (OddsPost bp w) := by
 refine Zpx (fun b => b = bp) Tryd.func23 rfl 13 rfl [.pointer (some ⟨bp, 0, none⟩), .int .i64 n, .int .i64 m] rfl rfl (Mem.initEx (p := .cells [.int .u64 s]) hp) ?_
 intro ac wc T M
 refine Zsr ?_
 refine lq T (Zra rfl evc) ?_; clear T ac; intro ac T
 refine wpList_nil ?_
 replace T := T.pick [1, 2, 3] rfl
 refine nm_then ?_
 refine Zsr ?_
 refine Zg3 T (Zq (Zrm rfl (T.e 0 rfl))) rfl (Zm 3 rfl rfl) rfl (fun _ T => Zq (rn_sub rfl (T.e 0 rfl) evc (by omega))) rfl ?_; clear T ac; intro ac T
 refine Zl2 ?_
 refine Zoc (first := []) (cap := []) T rfl rfl rfl rfl evf (.cons (T.e 2 rfl) (.cons (T.e 0 rfl) .nil)) Tryd.func21 rfl rfl ?_
 refine Calls.mono (upto_any _ bp (m - 1) _ (by omega) (by omega) (M.nth 0 rfl) hs) ?_
 clear T; rintro e wc ⟨xu1, su1, hxu1, hsu1, rfl, hgr, hbk⟩ ac T
 replace M := M.callC (cs' := [.int .u64 su1]) .head hgr hbk
 clear hgr hbk
 refine Zg3 T (Zq (Zrm rfl (T.e 5 rfl))) rfl (fun _ T => Zq (rn_lss rfl (T.e 1 rfl) (T.e 0 rfl))) rfl (Za 0 rfl rfl) rfl ?_; clear T ac; intro ac T
 refine wpList_nil ?_
 replace T := T.pick [0] rfl
 refine Znr ?_
 refine rt_1 T rfl (T.e 0 rfl) ?_
 exact ⟨_, _, hsu1, rfl, M.grown, M.nth 0 rfl⟩
set_option maxHeartbeats 2000000 in
theorem partOf_any (s : Int) (bp : Nat) (lo wi a0 a1 c0 c1 : Int) (A : Option Addr) (m c : Nat)  (w : World) (h1 : 0 ≤ lo ∧ lo ≤ 12) (h2 : 0 ≤ wi ∧ wi ≤ 12) (h3 : 0 ≤ a1 ∧ a1 ≤ 2) (h4 : 0 ≤ c1 ∧ c1 ≤ 2) (hp : Bk w bp #[.int .u64 s]) (hs : u64ok s) :
   Calls Tryd.prog 40 #[.pointer (some ⟨bp, 0, none⟩), .agg #[.int .i64 lo, .int .i64 wi, .int .i64 a0, .int .i64 a1, .int .i64 c0, .int .i64 c1, .slice A m c]] w (PtPost bp w) := by
 refine Zpx (fun b => b = bp) Tryd.func40 rfl 38 rfl [.pointer (some ⟨bp, 0, none⟩), .agg #[.int .i64 lo, .int .i64 wi, .int .i64 a0, .int .i64 a1, .int .i64 c0, .int .i64 c1, .slice A m c]] rfl rfl (Mem.initEx (p := .cells [.int .u64 s]) hp) ?_
 intro ac wc T M
 refine Zsr ?_
 refine Zl2 ?_
 refine Zob M T rfl rfl rfl rfl (T.e 1 rfl) rfl ?_; clear M T; intro g1 wc ac M T
 refine Zl2 ?_
 refine Zoa M T rfl rfl rfl rfl ?_; clear M T; intro g2 wc ac M T
 refine wpList_nil ?_
 replace T := T.pick [0, 1, 2] rfl
 refine Zns ?_
 refine Zgs M (M.perm [0, 1] rfl rfl) 28 (by kernel_rfl) rfl (by kernel_rfl) ?_
 clear M; intro wc M
 refine g_addG 8 M ?_
 refine g_have (fun ac wc => ∃ (xur1_8 : Int), ∃ (sur1_8 : Int), ∃ (xur1_17 : Int), ∃ (sur1_17 : Int), ∃ (bur1_19 : Bool), ∃ (sur1_19 : Int), ∃ (xur1_22 : Int), ∃ (sur1_22 : Int), ∃ (xur1_24 : Int), ∃ (sur1_24 : Int), (1 ≤ xur1_8 ∧ xur1_8 ≤ (max 1 (lo - a1))) ∧ (u64ok sur1_8) ∧ (1 ≤ xur1_17 ∧ xur1_17 ≤ (max 1 (wi - c1))) ∧ (u64ok sur1_17) ∧ (u64ok sur1_19) ∧ (0 ≤ xur1_22 ∧ xur1_22 ≤ 3) ∧ (u64ok sur1_22) ∧ (xur1_24 = 0 ∨ xur1_24 = 0 ∨ xur1_24 = 0 ∨ xur1_24 = xur1_22) ∧ (u64ok sur1_24) ∧ ∃ (gr1_26 gr1_23 : Nat), Tm ac 38 [(5, .pointer (some ⟨gr1_26, 0, none⟩)), (31, .agg #[.int .i64 xur1_8, .int .i64 xur1_17, .bool bur1_19, .int .i64 xur1_24]), (30, .int .i64 xur1_24), (29, .slice (some ⟨gr1_23, 0, none⟩) 4 4), (28, .int .i64 xur1_22), (25, .bool bur1_19), (23, .int .i64 xur1_17), (14, .int .i64 xur1_8), (27, .pointer (some ⟨bp, 0, none⟩)), (26, .pointer (some ⟨bp, 0, none⟩)), (24, .pointer (some ⟨bp, 0, none⟩)), (22, .int .i64 (max 1 (wi - c1))), (21, .int .i64 (wi - c1)), (20, .int .i64 c1), (19, .pointer (some ⟨g1, 5, none⟩)), (18, .pointer (some ⟨g1, 4, none⟩)), (17, .int .i64 wi), (16, .pointer (some ⟨g1, 1, none⟩)), (15, .pointer (some ⟨bp, 0, none⟩)), (13, .int .i64 (max 1 (lo - a1))), (12, .int .i64 (lo - a1)), (11, .int .i64 a1), (10, .pointer (some ⟨g1, 3, none⟩)), (9, .pointer (some ⟨g1, 2, none⟩)), (8, .int .i64 lo), (7, .pointer (some ⟨g1, 0, none⟩)), (6, .pointer (some ⟨bp, 0, none⟩)), (4, .pointer (some ⟨g2, 0, none⟩)), (3, .pointer (some ⟨g1, 0, none⟩)), (0, .pointer (some ⟨bp, 0, none⟩))] ∧ Mem w (fun b => b = bp) wc [(gr1_26, .cells [.int .i64 0, .int .i64 0, .bool false, .int .i64 0]), (gr1_23, .cells [.int .i64 0, .int .i64 0, .int .i64 0, .int .i64 xur1_22]), (g2, .cells [.int .i64 0, .int .i64 0, .bool false, .int .i64 0]), (g1, .cells [.int .i64 lo, .int .i64 wi, .int .i64 a0, .int .i64 a1, .int .i64 c0, .int .i64 c1, .slice A m c]), (bp, .cells [.int .u64 sur1_24])]) (Zpb 28 134217727) 1 ?_ ?_
 ·clear T M
  rintro ac wc ⟨xur1_8, sur1_8, xur1_17, sur1_17, bur1_19, sur1_19, xur1_22, sur1_22, xur1_24, sur1_24, hxur1_8, hsur1_8, hxur1_17, hsur1_17, hsur1_19, hxur1_22, hsur1_22, hxur1_24, hsur1_24, gr1_26, gr1_23, T, M⟩
  refine gw 27 268435455 ?_; intro K hK
  refine Zos M T rfl rfl (T.e 0 rfl) (T.e 1 rfl) rfl .head rfl (by simp) rfl (by kernel_rfl) ?_; clear M T; intro wc ac M T
  refine Zso hK _ _ (MA.mk (fun h => (no_of (by kernel_rfl) h).elim) (M.mask [false, false, true, true, false] rfl)) ?_; clear hK K
  refine Zgd (by kernel_rfl) ?_
  replace T := T.pick [0, 27, 29] rfl
  replace M := M.mask [true, false, true, false, true] rfl
  refine Zns ?_
  refine Zsr ?_
  refine lq T (Zrm rfl (T.e 2 rfl)) ?_; clear T ac; intro ac T
  refine Zl2 ?_
  refine Zoc (first := []) (cap := []) T rfl rfl rfl rfl evf (.cons (T.e 0 rfl) (.cons evc (.cons evc .nil))) Tryd.func23 rfl rfl ?_
  refine Calls.mono (odds_any _ bp 1 12 _ (by omega) (by omega) (M.nth 2 rfl) hsur1_24) ?_
  clear T; rintro e wc ⟨bu1, su1, hsu1, rfl, hgr, hbk⟩ ac T
  replace M := M.callC (cs' := [.int .u64 su1]) (.tail (.tail .head)) hgr hbk
  clear hgr hbk
  refine wpList_nil ?_
  replace T := T.pick [0, 2, 3, 4] rfl
  refine nm_then ?_
  refine wp_cond_split (T.e 0 rfl) ?_ ?_
  ·intro h1
   refine wp_region_lit ?_
   refine lq T (Zrm rfl (T.e 3 rfl)) ?_; clear T ac; intro ac T
   refine Zl2 ?_
   refine Zoc (first := []) (cap := []) T rfl rfl rfl rfl evf (.cons (T.e 0 rfl) (.cons evc (.cons evc .nil))) Tryd.func39 rfl rfl ?_
   refine Calls.mono (within_pot _ bp 1 12 _ (by omega) (by omega) (by omega) (M.nth 2 rfl) hsu1) ?_
   clear T; rintro e wc ⟨xu2, su2, hxu2, hsu2, rfl, hgr, hbk⟩ ac T
   replace M := M.callC (cs' := [.int .u64 su2]) (.tail (.tail .head)) hgr hbk
   clear hgr hbk
   refine lq (v := (.pointer (some ⟨gr1_26, 0, none⟩))) T (Zrf (off := 0) rfl (T.e 3 rfl) (fun _ _ _ => by kernel_rfl)) ?_; clear T ac; intro ac T
   refine Zl2 ?_
   refine Zos M T rfl rfl (T.e 0 rfl) (T.e 1 rfl) rfl .head rfl (by simp) rfl (by kernel_rfl) ?_; clear M T; intro wc ac M T
   refine wpList_nil ?_
   replace T := T.pick [4, 5] rfl
   refine nm_then ?_
   refine Zsr ?_
   refine lq T (Zrr (Mem.nth M 0 rfl) rfl (T.e 0 rfl) rfl) ?_; clear T ac; intro ac T
   refine Zl2 ?_
   refine Zos M T rfl rfl (T.e 2 rfl) (T.e 0 rfl) rfl (.tail .head) rfl (by simp) rfl (by kernel_rfl) ?_; clear M T; intro wc ac M T
   refine wpList_nil ?_
   replace T := T.pick [2] rfl
   replace M := M.mask [false, true, true] rfl
   refine Znr ?_
   refine rt_c M T rfl (T.e 0 rfl) (Zne (i := 0) rfl) rfl ?_
   exact ⟨⟨xu2, xur1_17, bur1_19, xur1_24⟩, _, ⟨by dsimp only; omega, by dsimp only; omega, by dsimp only; omega⟩, hsu2, rfl, M.grown, M.nth 1 rfl⟩
  intro h1
  refine Zsk ?_
  refine Zsr ?_
  refine lq T (Zrr (Mem.nth M 0 rfl) rfl (T.e 1 rfl) rfl) ?_; clear T ac; intro ac T
  refine Zl2 ?_
  refine Zos M T rfl rfl (T.e 3 rfl) (T.e 0 rfl) rfl (.tail .head) rfl (by simp) rfl (by kernel_rfl) ?_; clear M T; intro wc ac M T
  refine wpList_nil ?_
  replace T := T.pick [3] rfl
  replace M := M.mask [false, true, true] rfl
  refine Znr ?_
  refine rt_c M T rfl (T.e 0 rfl) (Zne (i := 0) rfl) rfl ?_
  exact ⟨⟨xur1_8, xur1_17, bur1_19, xur1_24⟩, _, ⟨by dsimp only; omega, by dsimp only; omega, by dsimp only; omega⟩, hsu1, rfl, M.grown, M.nth 1 rfl⟩
 intro H5
 refine g_have (fun ac wc => ∃ (xur1_8 : Int), ∃ (sur1_8 : Int), ∃ (xur1_17 : Int), ∃ (sur1_17 : Int), ∃ (bur1_19 : Bool), ∃ (sur1_19 : Int), ∃ (xur1_22 : Int), ∃ (sur1_22 : Int), (1 ≤ xur1_8 ∧ xur1_8 ≤ (max 1 (lo - a1))) ∧ (u64ok sur1_8) ∧ (1 ≤ xur1_17 ∧ xur1_17 ≤ (max 1 (wi - c1))) ∧ (u64ok sur1_17) ∧ (u64ok sur1_19) ∧ (0 ≤ xur1_22 ∧ xur1_22 ≤ 3) ∧ (u64ok sur1_22) ∧ ∃ (gr1_26 gr1_23 : Nat), Tm ac 38 [(5, .pointer (some ⟨gr1_26, 0, none⟩)), (29, .slice (some ⟨gr1_23, 0, none⟩) 4 4), (28, .int .i64 xur1_22), (25, .bool bur1_19), (23, .int .i64 xur1_17), (14, .int .i64 xur1_8), (27, .pointer (some ⟨bp, 0, none⟩)), (26, .pointer (some ⟨bp, 0, none⟩)), (24, .pointer (some ⟨bp, 0, none⟩)), (22, .int .i64 (max 1 (wi - c1))), (21, .int .i64 (wi - c1)), (20, .int .i64 c1), (19, .pointer (some ⟨g1, 5, none⟩)), (18, .pointer (some ⟨g1, 4, none⟩)), (17, .int .i64 wi), (16, .pointer (some ⟨g1, 1, none⟩)), (15, .pointer (some ⟨bp, 0, none⟩)), (13, .int .i64 (max 1 (lo - a1))), (12, .int .i64 (lo - a1)), (11, .int .i64 a1), (10, .pointer (some ⟨g1, 3, none⟩)), (9, .pointer (some ⟨g1, 2, none⟩)), (8, .int .i64 lo), (7, .pointer (some ⟨g1, 0, none⟩)), (6, .pointer (some ⟨bp, 0, none⟩)), (4, .pointer (some ⟨g2, 0, none⟩)), (3, .pointer (some ⟨g1, 0, none⟩)), (0, .pointer (some ⟨bp, 0, none⟩))] ∧ Mem w (fun b => b = bp) wc [(gr1_26, .cells [.int .i64 0, .int .i64 0, .bool false, .int .i64 0]), (gr1_23, .cells [.int .i64 0, .int .i64 0, .int .i64 0, .int .i64 xur1_22]), (g2, .cells [.int .i64 0, .int .i64 0, .bool false, .int .i64 0]), (g1, .cells [.int .i64 lo, .int .i64 wi, .int .i64 a0, .int .i64 a1, .int .i64 c0, .int .i64 c1, .slice A m c]), (bp, .cells [.int .u64 sur1_22])]) (Zpb 28 83886079) 3 ?_ ?_
 ·clear T M
  rintro ac wc ⟨xur1_8, sur1_8, xur1_17, sur1_17, bur1_19, sur1_19, xur1_22, sur1_22, hxur1_8, hsur1_8, hxur1_17, hsur1_17, hsur1_19, hxur1_22, hsur1_22, gr1_26, gr1_23, T, M⟩
  refine gw 24 100663295 ?_; intro K hK
  refine Zoc (first := []) (cap := []) T rfl rfl rfl rfl evf (.cons (T.e 7 rfl) (.cons (T.e 1 rfl) .nil)) Tryd.func85 rfl rfl ?_
  refine Calls.mono (of_any _ bp _ 4 4 [0, 0, 0, xur1_22] _ (M.rdOwn (Zne (i := 1) rfl) rfl rfl) (M.nee 1 4 rfl rfl rfl) (by decide) (by decide) (M.nth 4 rfl) hsur1_22) ?_
  clear T; rintro e wc ⟨xur1_24, sur1_24, hxur1_24, hsur1_24, rfl, hgr, hbk⟩ ac T
  replace M := M.callC (cs' := [.int .u64 sur1_24]) (.tail (.tail (.tail (.tail .head)))) hgr hbk
  clear hgr hbk
  simp only [List.mem_cons, List.not_mem_nil, or_false] at hxur1_24
  refine Zso hK _ _ (MA.mk (fun h => (no_of (by kernel_rfl) h).elim) (M.mask [false, false, true, true, false] rfl)) ?_; clear hK K
  refine gq (v := (.agg #[.int .i64 xur1_8, .int .i64 xur1_17, .bool bur1_19, .int .i64 xur1_24])) T 25 134217727 rfl (fun _ _ _ _ _ => (rn_build rfl (.cons (T.e 6 rfl) (.cons (T.e 5 rfl) (.cons (T.e 4 rfl) (.cons (T.e 0 rfl) .nil)))) (fun _ => by kernel_rfl))) ?_; clear T ac; intro ac T
  exact H5 _ _ ⟨xur1_8, sur1_8, xur1_17, sur1_17, bur1_19, sur1_19, xur1_22, sur1_22, xur1_24, sur1_24, hxur1_8, hsur1_8, hxur1_17, hsur1_17, hsur1_19, hxur1_22, hsur1_22, hxur1_24, hsur1_24, gr1_26, gr1_23, T.pick [2, 0, 1, 3, 4, 5, 6, 7, 8, 9, 10, 11, 12, 13, 14, 15, 16, 17, 18, 19, 20, 21, 22, 23, 24, 25, 26, 27, 28, 29] rfl, M⟩
 intro H4
 refine g_have (fun ac wc => ∃ (xur1_8 : Int), ∃ (sur1_8 : Int), ∃ (xur1_17 : Int), ∃ (sur1_17 : Int), ∃ (bur1_19 : Bool), ∃ (sur1_19 : Int), ∃ (xur1_22 : Int), ∃ (sur1_22 : Int), (1 ≤ xur1_8 ∧ xur1_8 ≤ (max 1 (lo - a1))) ∧ (u64ok sur1_8) ∧ (1 ≤ xur1_17 ∧ xur1_17 ≤ (max 1 (wi - c1))) ∧ (u64ok sur1_17) ∧ (u64ok sur1_19) ∧ (0 ≤ xur1_22 ∧ xur1_22 ≤ 3) ∧ (u64ok sur1_22) ∧ ∃ (gr1_26 : Nat), Tm ac 38 [(5, .pointer (some ⟨gr1_26, 0, none⟩)), (28, .int .i64 xur1_22), (25, .bool bur1_19), (23, .int .i64 xur1_17), (14, .int .i64 xur1_8), (27, .pointer (some ⟨bp, 0, none⟩)), (26, .pointer (some ⟨bp, 0, none⟩)), (24, .pointer (some ⟨bp, 0, none⟩)), (22, .int .i64 (max 1 (wi - c1))), (21, .int .i64 (wi - c1)), (20, .int .i64 c1), (19, .pointer (some ⟨g1, 5, none⟩)), (18, .pointer (some ⟨g1, 4, none⟩)), (17, .int .i64 wi), (16, .pointer (some ⟨g1, 1, none⟩)), (15, .pointer (some ⟨bp, 0, none⟩)), (13, .int .i64 (max 1 (lo - a1))), (12, .int .i64 (lo - a1)), (11, .int .i64 a1), (10, .pointer (some ⟨g1, 3, none⟩)), (9, .pointer (some ⟨g1, 2, none⟩)), (8, .int .i64 lo), (7, .pointer (some ⟨g1, 0, none⟩)), (6, .pointer (some ⟨bp, 0, none⟩)), (4, .pointer (some ⟨g2, 0, none⟩)), (3, .pointer (some ⟨g1, 0, none⟩)), (0, .pointer (some ⟨bp, 0, none⟩))] ∧ Mem w (fun b => b = bp) wc [(gr1_26, .cells [.int .i64 0, .int .i64 0, .bool false, .int .i64 0]), (g2, .cells [.int .i64 0, .int .i64 0, .bool false, .int .i64 0]), (g1, .cells [.int .i64 lo, .int .i64 wi, .int .i64 a0, .int .i64 a1, .int .i64 c0, .int .i64 c1, .slice A m c]), (bp, .cells [.int .u64 sur1_22])]) (Zpb 28 75497471) 4 ?_ ?_
 ·clear T M
  rintro ac wc ⟨xur1_8, sur1_8, xur1_17, sur1_17, bur1_19, sur1_19, xur1_22, sur1_22, hxur1_8, hsur1_8, hxur1_17, hsur1_17, hsur1_19, hxur1_22, hsur1_22, gr1_26, T, M⟩
  refine gw 23 83886079 ?_; intro K hK
  refine ow_bs (e := 3) [.int .i64 0, .int .i64 0, .int .i64 0, .int .i64 xur1_22] M T rfl rfl rfl rfl (.cons evc (.cons evc (.cons evc (.cons (T.e 1 rfl) .nil)))) (fun _ => by kernel_rfl) ?_; clear M T; intro gr1_23 wc ac M T
  refine Zso hK _ _ (MA.mk (fun h => (no_of (by kernel_rfl) h).elim) (M.mask [false, false, true, true, false] rfl)) ?_; clear hK K
  exact H4 _ _ ⟨xur1_8, sur1_8, xur1_17, sur1_17, bur1_19, sur1_19, xur1_22, sur1_22, hxur1_8, hsur1_8, hxur1_17, hsur1_17, hsur1_19, hxur1_22, hsur1_22, gr1_26, gr1_23, T.pick [1, 0, 2, 3, 4, 5, 6, 7, 8, 9, 10, 11, 12, 13, 14, 15, 16, 17, 18, 19, 20, 21, 22, 23, 24, 25, 26, 27] rfl, M.perm [1, 0, 2, 3, 4] rfl rfl⟩
 intro H3
 refine g_have (fun ac wc => ∃ (xur1_8 : Int), ∃ (sur1_8 : Int), ∃ (xur1_17 : Int), ∃ (sur1_17 : Int), ∃ (bur1_19 : Bool), ∃ (sur1_19 : Int), (1 ≤ xur1_8 ∧ xur1_8 ≤ (max 1 (lo - a1))) ∧ (u64ok sur1_8) ∧ (1 ≤ xur1_17 ∧ xur1_17 ≤ (max 1 (wi - c1))) ∧ (u64ok sur1_17) ∧ (u64ok sur1_19) ∧ ∃ (gr1_26 : Nat), Tm ac 38 [(5, .pointer (some ⟨gr1_26, 0, none⟩)), (25, .bool bur1_19), (23, .int .i64 xur1_17), (14, .int .i64 xur1_8), (27, .pointer (some ⟨bp, 0, none⟩)), (26, .pointer (some ⟨bp, 0, none⟩)), (24, .pointer (some ⟨bp, 0, none⟩)), (22, .int .i64 (max 1 (wi - c1))), (21, .int .i64 (wi - c1)), (20, .int .i64 c1), (19, .pointer (some ⟨g1, 5, none⟩)), (18, .pointer (some ⟨g1, 4, none⟩)), (17, .int .i64 wi), (16, .pointer (some ⟨g1, 1, none⟩)), (15, .pointer (some ⟨bp, 0, none⟩)), (13, .int .i64 (max 1 (lo - a1))), (12, .int .i64 (lo - a1)), (11, .int .i64 a1), (10, .pointer (some ⟨g1, 3, none⟩)), (9, .pointer (some ⟨g1, 2, none⟩)), (8, .int .i64 lo), (7, .pointer (some ⟨g1, 0, none⟩)), (6, .pointer (some ⟨bp, 0, none⟩)), (4, .pointer (some ⟨g2, 0, none⟩)), (3, .pointer (some ⟨g1, 0, none⟩)), (0, .pointer (some ⟨bp, 0, none⟩))] ∧ Mem w (fun b => b = bp) wc [(gr1_26, .cells [.int .i64 0, .int .i64 0, .bool false, .int .i64 0]), (g2, .cells [.int .i64 0, .int .i64 0, .bool false, .int .i64 0]), (g1, .cells [.int .i64 lo, .int .i64 wi, .int .i64 a0, .int .i64 a1, .int .i64 c0, .int .i64 c1, .slice A m c]), (bp, .cells [.int .u64 sur1_19])]) (Zpb 28 71303167) 5 ?_ ?_
 ·clear T M
  rintro ac wc ⟨xur1_8, sur1_8, xur1_17, sur1_17, bur1_19, sur1_19, hxur1_8, hsur1_8, hxur1_17, hsur1_17, hsur1_19, gr1_26, T, M⟩
  refine gw 22 75497471 ?_; intro K hK
  refine Zoc (first := []) (cap := []) T rfl rfl rfl rfl evf (.cons (T.e 4 rfl) (.cons evc .nil)) Tryd.func21 rfl rfl ?_
  refine Calls.mono (upto_any _ bp 3 _ (by omega) (by omega) (M.nth 3 rfl) hsur1_19) ?_
  clear T; rintro e wc ⟨xur1_22, sur1_22, hxur1_22, hsur1_22, rfl, hgr, hbk⟩ ac T
  replace M := M.callC (cs' := [.int .u64 sur1_22]) (.tail (.tail (.tail .head))) hgr hbk
  clear hgr hbk
  refine Zso hK _ _ (MA.mk (fun h => (no_of (by kernel_rfl) h).elim) (M.mask [false, true, true, false] rfl)) ?_; clear hK K
  exact H3 _ _ ⟨xur1_8, sur1_8, xur1_17, sur1_17, bur1_19, sur1_19, xur1_22, sur1_22, hxur1_8, hsur1_8, hxur1_17, hsur1_17, hsur1_19, hxur1_22, hsur1_22, gr1_26, T.pick [1, 0, 2, 3, 4, 5, 6, 7, 8, 9, 10, 11, 12, 13, 14, 15, 16, 17, 18, 19, 20, 21, 22, 23, 24, 25, 26] rfl, M⟩
 intro H2
 refine g_have (fun ac wc => ∃ (xur1_8 : Int), ∃ (sur1_8 : Int), ∃ (xur1_17 : Int), ∃ (sur1_17 : Int), (1 ≤ xur1_8 ∧ xur1_8 ≤ (max 1 (lo - a1))) ∧ (u64ok sur1_8) ∧ (1 ≤ xur1_17 ∧ xur1_17 ≤ (max 1 (wi - c1))) ∧ (u64ok sur1_17) ∧ ∃ (gr1_26 : Nat), Tm ac 38 [(5, .pointer (some ⟨gr1_26, 0, none⟩)), (23, .int .i64 xur1_17), (14, .int .i64 xur1_8), (27, .pointer (some ⟨bp, 0, none⟩)), (26, .pointer (some ⟨bp, 0, none⟩)), (24, .pointer (some ⟨bp, 0, none⟩)), (22, .int .i64 (max 1 (wi - c1))), (21, .int .i64 (wi - c1)), (20, .int .i64 c1), (19, .pointer (some ⟨g1, 5, none⟩)), (18, .pointer (some ⟨g1, 4, none⟩)), (17, .int .i64 wi), (16, .pointer (some ⟨g1, 1, none⟩)), (15, .pointer (some ⟨bp, 0, none⟩)), (13, .int .i64 (max 1 (lo - a1))), (12, .int .i64 (lo - a1)), (11, .int .i64 a1), (10, .pointer (some ⟨g1, 3, none⟩)), (9, .pointer (some ⟨g1, 2, none⟩)), (8, .int .i64 lo), (7, .pointer (some ⟨g1, 0, none⟩)), (6, .pointer (some ⟨bp, 0, none⟩)), (4, .pointer (some ⟨g2, 0, none⟩)), (3, .pointer (some ⟨g1, 0, none⟩)), (0, .pointer (some ⟨bp, 0, none⟩))] ∧ Mem w (fun b => b = bp) wc [(gr1_26, .cells [.int .i64 0, .int .i64 0, .bool false, .int .i64 0]), (g2, .cells [.int .i64 0, .int .i64 0, .bool false, .int .i64 0]), (g1, .cells [.int .i64 lo, .int .i64 wi, .int .i64 a0, .int .i64 a1, .int .i64 c0, .int .i64 c1, .slice A m c]), (bp, .cells [.int .u64 sur1_17])]) (Zpb 28 70778879) 6 ?_ ?_
 ·clear T M
  rintro ac wc ⟨xur1_8, sur1_8, xur1_17, sur1_17, hxur1_8, hsur1_8, hxur1_17, hsur1_17, gr1_26, T, M⟩
  refine gw 19 71303167 ?_; intro K hK
  refine Zoc (first := []) (cap := []) T rfl rfl rfl rfl evf (.cons (T.e 5 rfl) (.cons evc (.cons evc .nil))) Tryd.func23 rfl rfl ?_
  refine Calls.mono (odds_any _ bp 1 3 _ (by omega) (by omega) (M.nth 3 rfl) hsur1_17) ?_
  clear T; rintro e wc ⟨bur1_19, sur1_19, hsur1_19, rfl, hgr, hbk⟩ ac T
  replace M := M.callC (cs' := [.int .u64 sur1_19]) (.tail (.tail (.tail .head))) hgr hbk
  clear hgr hbk
  refine Zso hK _ _ (MA.mk (fun h => (no_of (by kernel_rfl) h).elim) (M.mask [false, true, true, false] rfl)) ?_; clear hK K
  exact H2 _ _ ⟨xur1_8, sur1_8, xur1_17, sur1_17, bur1_19, sur1_19, hxur1_8, hsur1_8, hxur1_17, hsur1_17, hsur1_19, gr1_26, T.pick [1, 0, 2, 3, 4, 5, 6, 7, 8, 9, 10, 11, 12, 13, 14, 15, 16, 17, 18, 19, 20, 21, 22, 23, 24, 25] rfl, M⟩
 intro H1
 refine g_have (fun ac wc => ∃ (xur1_8 : Int), ∃ (sur1_8 : Int), (1 ≤ xur1_8 ∧ xur1_8 ≤ (max 1 (lo - a1))) ∧ (u64ok sur1_8) ∧ ∃ (gr1_26 : Nat), Tm ac 38 [(5, .pointer (some ⟨gr1_26, 0, none⟩)), (14, .int .i64 xur1_8), (27, .pointer (some ⟨bp, 0, none⟩)), (26, .pointer (some ⟨bp, 0, none⟩)), (24, .pointer (some ⟨bp, 0, none⟩)), (22, .int .i64 (max 1 (wi - c1))), (21, .int .i64 (wi - c1)), (20, .int .i64 c1), (19, .pointer (some ⟨g1, 5, none⟩)), (18, .pointer (some ⟨g1, 4, none⟩)), (17, .int .i64 wi), (16, .pointer (some ⟨g1, 1, none⟩)), (15, .pointer (some ⟨bp, 0, none⟩)), (13, .int .i64 (max 1 (lo - a1))), (12, .int .i64 (lo - a1)), (11, .int .i64 a1), (10, .pointer (some ⟨g1, 3, none⟩)), (9, .pointer (some ⟨g1, 2, none⟩)), (8, .int .i64 lo), (7, .pointer (some ⟨g1, 0, none⟩)), (6, .pointer (some ⟨bp, 0, none⟩)), (4, .pointer (some ⟨g2, 0, none⟩)), (3, .pointer (some ⟨g1, 0, none⟩)), (0, .pointer (some ⟨bp, 0, none⟩))] ∧ Mem w (fun b => b = bp) wc [(gr1_26, .cells [.int .i64 0, .int .i64 0, .bool false, .int .i64 0]), (g2, .cells [.int .i64 0, .int .i64 0, .bool false, .int .i64 0]), (g1, .cells [.int .i64 lo, .int .i64 wi, .int .i64 a0, .int .i64 a1, .int .i64 c0, .int .i64 c1, .slice A m c]), (bp, .cells [.int .u64 sur1_8])]) (Zpb 28 70647807) 7 ?_ ?_
 ·clear T M
  rintro ac wc ⟨xur1_8, sur1_8, hxur1_8, hsur1_8, gr1_26, T, M⟩
  refine gw 17 70778879 ?_; intro K hK
  refine Zoc (first := []) (cap := []) T rfl rfl rfl rfl evf (.cons (T.e 12 rfl) (.cons evc (.cons (T.e 5 rfl) .nil))) Tryd.func39 rfl rfl ?_
  refine Calls.mono (within_pot _ bp 1 (max 1 (wi - c1)) _ (by omega) (by omega) (by omega) (M.nth 3 rfl) hsur1_8) ?_
  clear T; rintro e wc ⟨xur1_17, sur1_17, hxur1_17, hsur1_17, rfl, hgr, hbk⟩ ac T
  replace M := M.callC (cs' := [.int .u64 sur1_17]) (.tail (.tail (.tail .head))) hgr hbk
  clear hgr hbk
  refine Zso hK _ _ (MA.mk (fun h => (no_of (by kernel_rfl) h).elim) (M.mask [false, true, true, false] rfl)) ?_; clear hK K
  exact H1 _ _ ⟨xur1_8, sur1_8, xur1_17, sur1_17, hxur1_8, hsur1_8, hxur1_17, hsur1_17, gr1_26, T.pick [1, 0, 2, 3, 4, 5, 6, 7, 8, 9, 10, 11, 12, 13, 14, 15, 16, 17, 18, 19, 20, 21, 22, 23, 24] rfl, M⟩
 intro H0
 refine gq T 0 1 rfl (fun _ _ _ _ _ => (Zrm rfl (T.e 2 rfl))) ?_; clear T ac; intro ac T
 refine gq (v := (.pointer (some ⟨g1, 0, none⟩))) T 1 3 rfl (fun _ _ _ _ _ => (Zrf (off := 0) rfl (T.e 2 rfl) (fun _ _ _ => by kernel_rfl))) ?_; clear T ac; intro ac T
 refine gq T 2 7 rfl (fun B w' hD hl hS => (Zro (Mem.nth (show Mem w (fun b => b = bp) w' _ from ((MA.lft hS) (hD.wait (i := 7) (m := 8) (by kernel_rfl) (hD.wait (i := 6) (m := 7) (by kernel_rfl) (hD.wait (i := 2) (m := 6) (by kernel_rfl) hl))))) 1 rfl) rfl (T.e 0 rfl) rfl)) ?_; clear T ac; intro ac T
 refine gq (v := (.pointer (some ⟨g1, 2, none⟩))) T 3 15 rfl (fun _ _ _ _ _ => (Zrf (off := 2) rfl (T.e 4 rfl) (fun _ _ _ => by kernel_rfl))) ?_; clear T ac; intro ac T
 refine gq (v := (.pointer (some ⟨g1, 3, none⟩))) T 4 31 rfl (fun _ _ _ _ _ => (Zrf (off := 1) rfl (T.e 0 rfl) (fun _ _ _ => by kernel_rfl))) ?_; clear T ac; intro ac T
 refine gq T 5 63 rfl (fun B w' hD hl hS => (Zro (Mem.nth (show Mem w (fun b => b = bp) w' _ from ((MA.lft hS) (hD.wait (i := 7) (m := 8) (by kernel_rfl) (hD.wait (i := 6) (m := 7) (by kernel_rfl) (hD.wait (i := 5) (m := 6) (by kernel_rfl) hl))))) 1 rfl) rfl (T.e 0 rfl) rfl)) ?_; clear T ac; intro ac T
 refine gq T 6 127 rfl (fun _ _ _ _ _ => (rn_sub rfl (T.e 3 rfl) (T.e 0 rfl) (by omega))) ?_; clear T ac; intro ac T
 refine gq T 7 255 rfl (fun _ _ _ _ _ => (rn_max2 rfl evc (T.e 0 rfl))) ?_; clear T ac; intro ac T
 refine gq T 9 767 rfl (fun _ _ _ _ _ => (Zrm rfl (T.e 10 rfl))) ?_; clear T ac; intro ac T
 refine gq (v := (.pointer (some ⟨g1, 1, none⟩))) T 10 1791 rfl (fun _ _ _ _ _ => (Zrf (off := 1) rfl (T.e 10 rfl) (fun _ _ _ => by kernel_rfl))) ?_; clear T ac; intro ac T
 refine gq T 11 3839 rfl (fun B w' hD hl hS => (Zro (Mem.nth (show Mem w (fun b => b = bp) w' _ from (MA.rgt hS)) 1 rfl) rfl (T.e 0 rfl) rfl)) ?_; clear T ac; intro ac T
 refine gq (v := (.pointer (some ⟨g1, 4, none⟩))) T 12 7935 rfl (fun _ _ _ _ _ => (Zrf (off := 4) rfl (T.e 12 rfl) (fun _ _ _ => by kernel_rfl))) ?_; clear T ac; intro ac T
 refine gq (v := (.pointer (some ⟨g1, 5, none⟩))) T 13 16127 rfl (fun _ _ _ _ _ => (Zrf (off := 1) rfl (T.e 0 rfl) (fun _ _ _ => by kernel_rfl))) ?_; clear T ac; intro ac T
 refine gq T 14 32511 rfl (fun B w' hD hl hS => (Zro (Mem.nth (show Mem w (fun b => b = bp) w' _ from (MA.rgt hS)) 1 rfl) rfl (T.e 0 rfl) rfl)) ?_; clear T ac; intro ac T
 refine gq T 15 65279 rfl (fun _ _ _ _ _ => (rn_sub rfl (T.e 3 rfl) (T.e 0 rfl) (by omega))) ?_; clear T ac; intro ac T
 refine gq T 16 130815 rfl (fun _ _ _ _ _ => (rn_max2 rfl evc (T.e 0 rfl))) ?_; clear T ac; intro ac T
 refine gq T 18 392959 rfl (fun _ _ _ _ _ => (Zrm rfl (T.e 18 rfl))) ?_; clear T ac; intro ac T
 refine gq T 20 1441535 rfl (fun _ _ _ _ _ => (Zrm rfl (T.e 19 rfl))) ?_; clear T ac; intro ac T
 refine gq T 21 3538687 rfl (fun _ _ _ _ _ => (Zrm rfl (T.e 20 rfl))) ?_; clear T ac; intro ac T
 refine g_m2 (i := 8) (j := 26) (by kernel_rfl) ?_ ?_
 ·refine gi 3538943 ?_; intro K hK
  refine Zoc (first := []) (cap := []) T rfl rfl rfl rfl evf (.cons (T.e 18 rfl) (.cons evc (.cons (T.e 11 rfl) .nil))) Tryd.func39 rfl rfl ?_
  refine Calls.mono (within_pot _ bp 1 (max 1 (lo - a1)) _ (by omega) (by omega) (by omega) (M.nth 2 rfl) hs) ?_
  clear T; rintro e wc ⟨xur1_8, sur1_8, hxur1_8, hsur1_8, rfl, hgr, hbk⟩ ac T
  replace M := M.callC (cs' := [.int .u64 sur1_8]) (.tail (.tail .head)) hgr hbk
  clear hgr hbk
  refine Zso hK _ _ (MA.mk (fun h => (no_of (by kernel_rfl) h).elim) (M.mask [true, true, false] rfl)) ?_; clear hK K
  refine g_m2 (i := 17) (j := 26) (by kernel_rfl) ?_ ?_
  ·refine gi 3670015 ?_; intro K hK
   refine Zoc (first := []) (cap := []) T rfl rfl rfl rfl evf (.cons (T.e 11 rfl) (.cons evc (.cons (T.e 4 rfl) .nil))) Tryd.func39 rfl rfl ?_
   refine Calls.mono (within_pot _ bp 1 (max 1 (wi - c1)) _ (by omega) (by omega) (by omega) (M.nth 2 rfl) hsur1_8) ?_
   clear T; rintro e wc ⟨xur1_17, sur1_17, hxur1_17, hsur1_17, rfl, hgr, hbk⟩ ac T
   replace M := M.callC (cs' := [.int .u64 sur1_17]) (.tail (.tail .head)) hgr hbk
   clear hgr hbk
   refine Zso hK _ _ (MA.mk (fun h => (no_of (by kernel_rfl) h).elim) (M.mask [true, true, false] rfl)) ?_; clear hK K
   refine g_m2 (i := 19) (j := 26) (by kernel_rfl) ?_ ?_
   ·refine gi 4194303 ?_; intro K hK
    refine Zoc (first := []) (cap := []) T rfl rfl rfl rfl evf (.cons (T.e 4 rfl) (.cons evc (.cons evc .nil))) Tryd.func23 rfl rfl ?_
    refine Calls.mono (odds_any _ bp 1 3 _ (by omega) (by omega) (M.nth 2 rfl) hsur1_17) ?_
    clear T; rintro e wc ⟨bur1_19, sur1_19, hsur1_19, rfl, hgr, hbk⟩ ac T
    replace M := M.callC (cs' := [.int .u64 sur1_19]) (.tail (.tail .head)) hgr hbk
    clear hgr hbk
    refine Zso hK _ _ (MA.mk (fun h => (no_of (by kernel_rfl) h).elim) (M.mask [true, true, false] rfl)) ?_; clear hK K
    refine g_m2 (i := 22) (j := 26) (by kernel_rfl) ?_ ?_
    ·refine gi 8388607 ?_; intro K hK
     refine Zoc (first := []) (cap := []) T rfl rfl rfl rfl evf (.cons (T.e 3 rfl) (.cons evc .nil)) Tryd.func21 rfl rfl ?_
     refine Calls.mono (upto_any _ bp 3 _ (by omega) (by omega) (M.nth 2 rfl) hsur1_19) ?_
     clear T; rintro e wc ⟨xur1_22, sur1_22, hxur1_22, hsur1_22, rfl, hgr, hbk⟩ ac T
     replace M := M.callC (cs' := [.int .u64 sur1_22]) (.tail (.tail .head)) hgr hbk
     clear hgr hbk
     refine Zso hK _ _ (MA.mk (fun h => (no_of (by kernel_rfl) h).elim) (M.mask [true, true, false] rfl)) ?_; clear hK K
     refine g_m2 (i := 23) (j := 26) (by kernel_rfl) ?_ ?_
     ·refine gi 16777215 ?_; intro K hK
      refine ow_bs (e := 3) [.int .i64 0, .int .i64 0, .int .i64 0, .int .i64 xur1_22] M T rfl rfl rfl rfl (.cons evc (.cons evc (.cons evc (.cons (T.e 0 rfl) .nil)))) (fun _ => by kernel_rfl) ?_; clear M T; intro gr1_23 wc ac M T
      refine Zso hK _ _ (MA.mk (fun h => (no_of (by kernel_rfl) h).elim) (M.mask [false, true, true, false] rfl)) ?_; clear hK K
      refine g_m2 (i := 24) (j := 26) (by kernel_rfl) ?_ ?_
      ·refine gi 33554431 ?_; intro K hK
       refine Zoc (first := []) (cap := []) T rfl rfl rfl rfl evf (.cons (T.e 6 rfl) (.cons (T.e 0 rfl) .nil)) Tryd.func85 rfl rfl ?_
       refine Calls.mono (of_any _ bp _ 4 4 [0, 0, 0, xur1_22] _ (M.rdOwn (Zne (i := 0) rfl) rfl rfl) (M.nee 0 3 rfl rfl rfl) (by decide) (by decide) (M.nth 3 rfl) hsur1_22) ?_
       clear T; rintro e wc ⟨xur1_24, sur1_24, hxur1_24, hsur1_24, rfl, hgr, hbk⟩ ac T
       replace M := M.callC (cs' := [.int .u64 sur1_24]) (.tail (.tail (.tail .head))) hgr hbk
       clear hgr hbk
       simp only [List.mem_cons, List.not_mem_nil, or_false] at hxur1_24
       refine Zso hK _ _ (MA.mk (fun h => (no_of (by kernel_rfl) h).elim) (M.mask [false, true, true, false] rfl)) ?_; clear hK K
       refine gq (v := (.agg #[.int .i64 xur1_8, .int .i64 xur1_17, .bool bur1_19, .int .i64 xur1_24])) T 25 67108863 rfl (fun _ _ _ _ _ => (rn_build rfl (.cons (T.e 5 rfl) (.cons (T.e 4 rfl) (.cons (T.e 3 rfl) (.cons (T.e 0 rfl) .nil)))) (fun _ => by kernel_rfl))) ?_; clear T ac; intro ac T
       refine gw 26 134217727 ?_; intro K hK
       refine Zoa M T rfl rfl rfl rfl ?_; clear M T; intro gr1_26 wc ac M T
       refine Zso hK _ _ (MA.mk (fun h => (no_of (by kernel_rfl) h).elim) (M.mask [false, false, true, true, false] rfl)) ?_; clear hK K
       exact H5 _ _ ⟨xur1_8, sur1_8, xur1_17, sur1_17, bur1_19, sur1_19, xur1_22, sur1_22, xur1_24, sur1_24, hxur1_8, hsur1_8, hxur1_17, hsur1_17, hsur1_19, hxur1_22, hsur1_22, hxur1_24, hsur1_24, gr1_26, gr1_23, T, M⟩
      refine gi 83886079 ?_; intro K hK
      refine Zoa M T rfl rfl rfl rfl ?_; clear M T; intro gr1_26 wc ac M T
      refine Zso hK _ _ (MA.mk (fun h => (no_of (by kernel_rfl) h).elim) (M.mask [false, false, true, true, false] rfl)) ?_; clear hK K
      exact H4 _ _ ⟨xur1_8, sur1_8, xur1_17, sur1_17, bur1_19, sur1_19, xur1_22, sur1_22, hxur1_8, hsur1_8, hxur1_17, hsur1_17, hsur1_19, hxur1_22, hsur1_22, gr1_26, gr1_23, T, M⟩
     refine gi 75497471 ?_; intro K hK
     refine Zoa M T rfl rfl rfl rfl ?_; clear M T; intro gr1_26 wc ac M T
     refine Zso hK _ _ (MA.mk (fun h => (no_of (by kernel_rfl) h).elim) (M.mask [false, true, true, false] rfl)) ?_; clear hK K
     exact H3 _ _ ⟨xur1_8, sur1_8, xur1_17, sur1_17, bur1_19, sur1_19, xur1_22, sur1_22, hxur1_8, hsur1_8, hxur1_17, hsur1_17, hsur1_19, hxur1_22, hsur1_22, gr1_26, T, M⟩
    refine gi 71303167 ?_; intro K hK
    refine Zoa M T rfl rfl rfl rfl ?_; clear M T; intro gr1_26 wc ac M T
    refine Zso hK _ _ (MA.mk (fun h => (no_of (by kernel_rfl) h).elim) (M.mask [false, true, true, false] rfl)) ?_; clear hK K
    exact H2 _ _ ⟨xur1_8, sur1_8, xur1_17, sur1_17, bur1_19, sur1_19, hxur1_8, hsur1_8, hxur1_17, hsur1_17, hsur1_19, gr1_26, T, M⟩
   refine gi 70778879 ?_; intro K hK
   refine Zoa M T rfl rfl rfl rfl ?_; clear M T; intro gr1_26 wc ac M T
   refine Zso hK _ _ (MA.mk (fun h => (no_of (by kernel_rfl) h).elim) (M.mask [false, true, true, false] rfl)) ?_; clear hK K
   exact H1 _ _ ⟨xur1_8, sur1_8, xur1_17, sur1_17, hxur1_8, hsur1_8, hxur1_17, hsur1_17, gr1_26, T, M⟩
  refine gi 70647807 ?_; intro K hK
  refine Zoa M T rfl rfl rfl rfl ?_; clear M T; intro gr1_26 wc ac M T
  refine Zso hK _ _ (MA.mk (fun h => (no_of (by kernel_rfl) h).elim) (M.mask [false, true, true, false] rfl)) ?_; clear hK K
  exact H0 _ _ ⟨xur1_8, sur1_8, hxur1_8, hsur1_8, gr1_26, T, M⟩
 refine gi 70647551 ?_; intro K hK
 refine Zoa M T rfl rfl rfl rfl ?_; clear M T; intro gr1_26 wc ac M T
 refine Zso hK _ _ (MA.mk (fun _ => M.mask [false, true, true, true] rfl) (M.mask [false, true, true, false] rfl)) ?_; clear hK K
 refine gw 8 70647807 ?_; intro K hK
 refine Zoc (first := []) (cap := []) T rfl rfl rfl rfl evf (.cons (T.e 19 rfl) (.cons evc (.cons (T.e 12 rfl) .nil))) Tryd.func39 rfl rfl ?_
 refine Calls.mono (within_pot _ bp 1 (max 1 (lo - a1)) _ (by omega) (by omega) (by omega) (M.nth 3 rfl) hs) ?_
 clear T; rintro e wc ⟨xur1_8, sur1_8, hxur1_8, hsur1_8, rfl, hgr, hbk⟩ ac T
 replace M := M.callC (cs' := [.int .u64 sur1_8]) (.tail (.tail (.tail .head))) hgr hbk
 clear hgr hbk
 refine Zso hK _ _ (MA.mk (fun h => (no_of (by kernel_rfl) h).elim) (M.mask [false, true, true, false] rfl)) ?_; clear hK K
 exact H0 _ _ ⟨xur1_8, sur1_8, hxur1_8, hsur1_8, gr1_26, T.pick [1, 0, 2, 3, 4, 5, 6, 7, 8, 9, 10, 11, 12, 13, 14, 15, 16, 17, 18, 19, 20, 21, 22, 23] rfl, M⟩
set_option maxHeartbeats 2000000 in
theorem sheetOf_any (s : Int) (bp : Nat) (side parts : Int)  (w : World) (h1 : 2 ≤ side ∧ side ≤ 12) (h2 : 0 ≤ parts ∧ parts ≤ 5) (hp : Bk w bp #[.int .u64 s]) (hs : u64ok s) :
   Calls Tryd.prog 19 #[.pointer (some ⟨bp, 0, none⟩), .int .i64 side, .int .i64 parts] w (SkOfPost bp side parts w) := by
 refine Zpx (fun b => b = bp) Tryd.func19 rfl 40 rfl [.pointer (some ⟨bp, 0, none⟩), .int .i64 side, .int .i64 parts] rfl rfl (Mem.initEx (p := .cells [.int .u64 s]) hp) ?_
 intro ac wc T M
 refine Zsr ?_
 refine Zl2 ?_
 refine Zoa M T rfl rfl rfl rfl ?_; clear M T; intro g1 wc ac M T
 refine Zln ?_
 refine Zsr ?_
 refine Zg2 T (Zq (Zrm rfl (T.e 1 rfl))) rfl (Zm 3 rfl rfl) rfl ?_; clear T ac; intro ac T
 refine Zl2 ?_
 refine Zoc (first := []) (cap := []) T rfl rfl rfl rfl evf (.cons (T.e 1 rfl) (.cons evc (.cons (T.e 0 rfl) .nil))) Tryd.func39 rfl rfl ?_
 refine Calls.mono (within_pot _ bp 2 side _ (by omega) (by omega) (by omega) (M.nth 1 rfl) hs) ?_
 clear T; rintro e wc ⟨xu1, su1, hxu1, hsu1, rfl, hgr, hbk⟩ ac T
 replace M := M.callC (cs' := [.int .u64 su1]) (.tail .head) hgr hbk
 clear hgr hbk
 refine Zg2 T (Zq (Zrm rfl (T.e 4 rfl))) rfl (Zm 6 rfl rfl) rfl ?_; clear T ac; intro ac T
 refine Zl2 ?_
 refine Zoc (first := []) (cap := []) T rfl rfl rfl rfl evf (.cons (T.e 1 rfl) (.cons evc (.cons (T.e 0 rfl) .nil))) Tryd.func39 rfl rfl ?_
 refine Calls.mono (within_pot _ bp 2 side _ (by omega) (by omega) (by omega) (M.nth 1 rfl) hsu1) ?_
 clear T; rintro e wc ⟨xu2, su2, hxu2, hsu2, rfl, hgr, hbk⟩ ac T
 replace M := M.callC (cs' := [.int .u64 su2]) (.tail .head) hgr hbk
 clear hgr hbk
 refine Zg2 T (Zq (Zrm rfl (T.e 7 rfl))) rfl (Zm 8 rfl rfl) rfl ?_; clear T ac; intro ac T
 refine Zl2 ?_
 refine Zoc (first := []) (cap := []) T rfl rfl rfl rfl evf (.cons (T.e 0 rfl) (.cons evc .nil)) Tryd.func21 rfl rfl ?_
 refine Calls.mono (upto_any _ bp 1 _ (by omega) (by omega) (M.nth 1 rfl) hsu2) ?_
 clear T; rintro e wc ⟨xu3, su3, hxu3, hsu3, rfl, hgr, hbk⟩ ac T
 replace M := M.callC (cs' := [.int .u64 su3]) (.tail .head) hgr hbk
 clear hgr hbk
 refine Zl2 ?_
 refine Zoc (first := []) (cap := []) T rfl rfl rfl rfl evf (.cons (T.e 2 rfl) (.cons (T.e 0 rfl) (.cons evc (.cons evc (.cons evc .nil))))) Tryd.func64 rfl rfl ?_
 refine Calls.mono (near_pot _ bp xu3 0 2 1 _ (by omega) (by omega) (by omega) (by omega) (by omega) (by omega) (M.nth 1 rfl) hsu3) ?_
 clear T; rintro e wc ⟨xu4, yu4, su4, hxu4, hsu4, rfl, hgr, hbk⟩ ac T
 replace M := M.callC (cs' := [.int .u64 su4]) (.tail .head) hgr hbk
 clear hgr hbk
 refine Zg2 T (Zq (Zrm rfl (T.e 11 rfl))) rfl (Zm 12 rfl rfl) rfl ?_; clear T ac; intro ac T
 refine Zl2 ?_
 refine Zoc (first := []) (cap := []) T rfl rfl rfl rfl evf (.cons (T.e 0 rfl) (.cons evc .nil)) Tryd.func21 rfl rfl ?_
 refine Calls.mono (upto_any _ bp 1 _ (by omega) (by omega) (M.nth 1 rfl) hsu4) ?_
 clear T; rintro e wc ⟨xu5, su5, hxu5, hsu5, rfl, hgr, hbk⟩ ac T
 replace M := M.callC (cs' := [.int .u64 su5]) (.tail .head) hgr hbk
 clear hgr hbk
 refine Zl2 ?_
 refine Zoc (first := []) (cap := []) T rfl rfl rfl rfl evf (.cons (T.e 2 rfl) (.cons (T.e 0 rfl) (.cons evc (.cons evc (.cons evc .nil))))) Tryd.func64 rfl rfl ?_
 refine Calls.mono (near_pot _ bp xu5 0 2 1 _ (by omega) (by omega) (by omega) (by omega) (by omega) (by omega) (M.nth 1 rfl) hsu5) ?_
 clear T; rintro e wc ⟨xu6, yu6, su6, hxu6, hsu6, rfl, hgr, hbk⟩ ac T
 replace M := M.callC (cs' := [.int .u64 su6]) (.tail .head) hgr hbk
 clear hgr hbk
 refine lq (v := (.agg #[.int .i64 xu1, .int .i64 xu2, .int .i64 xu4, .int .i64 yu4, .int .i64 xu6, .int .i64 yu6, .slice none 0 0])) T (rn_build rfl (.cons (T.e 11 rfl) (.cons (T.e 8 rfl) (.cons (T.e 4 rfl) (.cons (T.e 0 rfl) .nil)))) (fun _ => by kernel_rfl)) ?_; clear T ac; intro ac T
 refine Zl2 ?_
 refine Zoa M T rfl rfl rfl rfl ?_; clear M T; intro g2 wc ac M T
 refine Zl2 ?_
 refine Zos M T rfl rfl (T.e 0 rfl) (T.e 1 rfl) rfl .head rfl (by simp) rfl (by kernel_rfl) ?_; clear M T; intro wc ac M T
 refine wpList_nil ?_
 replace T := T.pick [0, 16, 17, 19] rfl
 refine Zns ?_
 refine Zsr ?_
 refine Zg2 T (Zq (Zrm rfl (T.e 2 rfl))) rfl (Zm 4 rfl rfl) rfl ?_; clear T ac; intro ac T
 refine Zl2 ?_
 refine Zoc (first := []) (cap := []) T rfl rfl rfl rfl evf (.cons (T.e 1 rfl) (.cons (T.e 0 rfl) .nil)) Tryd.func21 rfl rfl ?_
 refine Calls.mono (upto_any _ bp parts _ (by omega) (by omega) (M.nth 2 rfl) hsu6) ?_
 clear T; rintro e wc ⟨xu7, su7, hxu7, hsu7, rfl, hgr, hbk⟩ ac T
 replace M := M.callC (cs' := [.int .u64 su7]) (.tail (.tail .head)) hgr hbk
 clear hgr hbk
 refine lq T (Zra rfl (T.e 0 rfl)) ?_; clear T ac; intro ac T
 refine wpList_nil ?_
 replace T := T.pick [0, 4, 5, 6] rfl
 refine nm_then ?_
 refine wp_block ?_
 refine wp_loop_n (fun mz ac wc => ∃ (i : Int) (OL : List Pt) (A3 : Option Addr) (c3 : Nat) (s : Int) (Io : List (Nat × BA)), mz = i.toNat ∧ (0 ≤ i) ∧ ((OL.length : Int) + i ≤ parts) ∧ (∀ q ∈ OL, q.good) ∧ (u64ok s) ∧ (Sl 63 4 (.slice A3 OL.length c3) OL.length (pc OL) Io) ∧ Tm ac 40 [(0, .pointer (some ⟨bp, 0, none⟩)), (6, .pointer (some ⟨g1, 0, none⟩)), (7, .pointer (some ⟨g2, 0, none⟩)), (8, .int .i64 i)] ∧ Mem w (fun b => b = bp) wc ((g2, .cells [.int .i64 xu1, .int .i64 xu2, .int .i64 xu4, .int .i64 yu4, .int .i64 xu6, .int .i64 yu6, .slice A3 OL.length c3]) :: (g1, .cells [.int .i64 0, .int .i64 0, .int .i64 0, .int .i64 0, .int .i64 0, .int .i64 0, .slice none 0 0]) :: (bp, .cells [.int .u64 s]) :: Io)) ?_ ?_
 ·exact ⟨_, _, [], none, 0, _, [], rfl, (by omega), (by simp; omega), (fun q h => by cases h), hsu7, (Sl.nil _ _), T.pick [3, 2, 1, 0] rfl, M.mask [true, true, true] rfl⟩
 clear T M
 rintro mz ac wc ⟨i, OL, A3, c3, s, Io, hmm1, hi, hol, hgO, hs, hsl, T, M⟩
 refine wp_seq ?_
 refine Zsr ?_
 refine Zg2 T (Zq (Zrm rfl (T.e 3 rfl))) rfl (fun _ T => Zq (rn_gtr rfl (T.e 0 rfl) evc)) rfl ?_; clear T ac; intro ac T
 refine wpList_nil ?_
 replace T := T.pick [0, 2, 3, 4, 5] rfl
 refine nm_then ?_
 refine wp_if (T.e 0 rfl) ?_ ?_
 ·intro h1
  refine Zsk ?_
  refine wp_seq ?_
  refine wp_block ?_
  refine Zgs M (M.perm [1] rfl rfl) 9 (by kernel_rfl) rfl (by kernel_rfl) ?_
  clear M; intro wc M
  refine g_addG 4 M ?_
  refine g_addG 8 (M.perm [0, 1] rfl rfl) ?_
  refine gq (v := (.pointer (some ⟨g2, 6, none⟩))) T 0 1 rfl (fun _ _ _ _ _ => (Zrf (off := 6) rfl (T.e 3 rfl) (fun _ _ _ => by kernel_rfl))) ?_; clear T ac; intro ac T
  refine gq T 1 3 rfl (fun B w' hD hl hS => (Zro (Mem.nth (show Mem w (fun b => b = bp) w' _ from ((MA.lft hS) (hD.wait (i := 1) (m := 8) (by kernel_rfl) hl))) 0 rfl) rfl (T.e 0 rfl) rfl)) ?_; clear T ac; intro ac T
  refine gq T 2 7 rfl (fun _ _ _ _ _ => (Zrm rfl (T.e 3 rfl))) ?_; clear T ac; intro ac T
  refine gq T 3 15 rfl (fun B w' hD hl hS => (Zrr (Mem.nth (show Mem w (fun b => b = bp) w' _ from ((MA.lft hS) (hD.wait (i := 3) (m := 8) (by kernel_rfl) hl))) 0 rfl) rfl (T.e 6 rfl) rfl)) ?_; clear T ac; intro ac T
  refine gw 4 31 ?_; intro K hK
  refine Zoc (first := []) (cap := []) T rfl rfl rfl rfl evf (.cons (T.e 1 rfl) (.cons (T.e 0 rfl) .nil)) Tryd.func40 rfl rfl ?_
  refine Calls.mono (partOf_any _ bp xu1 xu2 xu4 yu4 xu6 yu6 A3 OL.length c3 _ (by omega) (by omega) (by omega) (by omega) (M.nth 2 rfl) hs) ?_
  clear T; rintro e wc ⟨pu8, su8, hpu8, hsu8, rfl, hgr, hbk⟩ ac T
  replace M := M.callC (cs' := [.int .u64 su8]) (.tail (.tail .head)) hgr hbk
  clear hgr hbk
  refine Zso hK _ _ (MA.mk (fun _ => M.perm [0, 1] rfl rfl) (MA.mk (fun h => (no_of (by kernel_rfl) h).elim) (M.perm [1] rfl rfl))) ?_; clear hK K
  refine gw 5 63 ?_; intro K hK
  refine ow_bs (e := 63) [.int .i64 pu8.l, .int .i64 pu8.w, .bool pu8.gr, .int .i64 pu8.pa] M T rfl rfl rfl rfl (.cons (T.e 0 rfl) .nil) (fun _ => by kernel_rfl) ?_; clear M T; intro g3 wc ac M T
  refine Zso hK _ _ (MA.mk (fun _ => M.perm [1, 2] rfl rfl) (MA.mk (fun h => (no_of (by kernel_rfl) h).elim) (M.perm [2] rfl rfl))) ?_; clear hK K
  refine gw 6 127 ?_; intro K hK
  refine ow_app ([(g3, .cells [.int .i64 pu8.l, .int .i64 pu8.w, .bool pu8.gr, .int .i64 pu8.pa]), (g2, .cells [.int .i64 xu1, .int .i64 xu2, .int .i64 xu4, .int .i64 yu4, .int .i64 xu6, .int .i64 yu6, .slice A3 OL.length c3]), (g1, .cells [.int .i64 0, .int .i64 0, .int .i64 0, .int .i64 0, .int .i64 0, .int .i64 0, .slice none 0 0]), (bp, .cells [.int .u64 su8])]) Tryd.info63 hsl M (by first | rfl | simp) T rfl rfl rfl rfl Tryd.underlying24 rfl rfl rfl (by omega) (T.e 4 rfl) (T.e 0 rfl) (Zne (i := 0) rfl) rfl rfl ?_; clear M T; intro ga1 cga1 wc ac M T
  refine Zso hK _ _ (MA.mk (fun _ => M.mask [false, false, true, true, false] rfl) (MA.mk (fun h => (no_of (by kernel_rfl) h).elim) (M.mask [false, false, false, true, false] rfl))) ?_; clear hK K
  have e9 : OL.length + 1 = (OL ++ [pu8]).length := by simp
  have e8 : ((pc OL) ++ [.int .i64 pu8.l, .int .i64 pu8.w, .bool pu8.gr, .int .i64 pu8.pa]) = pc (OL ++ [pu8]) := by rw [← pc_snoc]
  rw [e9, e8] at M
  rw [e9] at T
  clear e9 e8
  refine gq (v := (.pointer (some ⟨g2, 6, none⟩))) T 7 255 rfl (fun _ _ _ _ _ => (Zrf (off := 6) rfl (T.e 10 rfl) (fun _ _ _ => by kernel_rfl))) ?_; clear T ac; intro ac T
  refine gw 8 511 ?_; intro K hK
  refine Zos M T rfl rfl (T.e 0 rfl) (T.e 1 rfl) rfl (.tail (.tail .head)) rfl (by simp) rfl (by kernel_rfl) ?_; clear M T; intro wc ac M T
  refine Zso hK _ _ (MA.mk (fun h => (no_of (by kernel_rfl) h).elim) (MA.mk (fun h => (no_of (by kernel_rfl) h).elim) (M.mask [false, false, false, true, false] rfl))) ?_; clear hK K
  refine Zgd (by kernel_rfl) ?_
  replace T := T.pick [9, 10, 11, 12] rfl
  replace M := M.mask [true, false, true, true, true] rfl
  refine Znb ?_
  refine nm_then ?_
  refine wp_region_lit ?_
  refine Zg2 T (Zq (Zrm rfl (T.e 3 rfl))) rfl (fun _ T => Zq (rn_sub rfl (T.e 0 rfl) evc (by omega))) rfl ?_; clear T ac; intro ac T
  refine l_q (v := (.int .i64 (i - 1))) (T.pick [0, 1, 2, 3, 4] rfl) rfl rfl rfl rfl (Zra rfl (T.e 0 rfl)) ?_; clear T ac; intro ac T
  refine wpList_nil ?_
  replace T := T.pick [0, 3, 4, 5] rfl
  refine nm_then ?_
  exact ⟨_, by omega, (i - 1), (OL ++ [pu8]), _, cga1, su8, [(ga1, .row 63 4 (OL ++ [pu8]).length (pc (OL ++ [pu8])) cga1)], rfl, (by omega), (by simp only [List.length_append, List.length_cons, List.length_nil]; omega), (fun q hq => by rcases List.mem_append.1 hq with h9 | h9; exact hgO q h9; rw [List.mem_singleton.1 h9]; exact hpu8), hsu8, (Sl.row _ _ _ _ _ _), T.pick [1, 2, 3, 0] rfl, M.perm [1, 2, 3, 0] rfl rfl⟩
 intro h1
 refine wp_exit ?_
 refine Zet ?_
 refine Zet ?_
 refine ex_hit ?_
 refine nm_then ?_
 refine Zsr ?_
 refine lq T (Zrr (Mem.nth M 0 rfl) rfl (T.e 3 rfl) rfl) ?_; clear T ac; intro ac T
 refine Zl2 ?_
 refine Zos M T rfl rfl (T.e 3 rfl) (T.e 0 rfl) rfl (.tail .head) rfl (by simp) rfl (by kernel_rfl) ?_; clear M T; intro wc ac M T
 refine wpList_nil ?_
 replace T := T.pick [3] rfl
 replace M := M.mask [false, true, true] rfl
 refine Znr ?_
 refine rt_c M T rfl (T.e 0 rfl) (Zne (i := 0) rfl) rfl ?_
 obtain ⟨b9, o9, h9⟩ := hsl.spV (pc_length _)
 have hcap := hsl.capLe M (.cons _ (.cons _ (List.Sublist.refl _)))
 refine ⟨⟨xu1, xu2, xu4, yu4, xu6, yu6, OL⟩, A3, c3, _, Io, rfl, ⟨by dsimp only; omega, by dsimp only; omega, by dsimp only; omega, by dsimp only; omega, by dsimp only; omega, hgO⟩, ⟨by dsimp only; omega, by dsimp only; omega⟩, hs, hcap, ⟨b9, o9, h9⟩, M.mask [false, true] rfl⟩
theorem shE_some {s : Sk} {su : Bool} (hg : s.good) : shE s su = 0 ↔ ∃ l m, shF s su = some (l, m) ∧ shN s su = m ∧ shL s su = l := by
 have h0 := skErr_iff.2 hg
 constructor
 ·intro h
  cases hf : shF s su with
  | none =>
   unfold shE at h
   rw [if_neg (by rw [h0]; decide), hf] at h
   simp at h
  | some y =>
   refine ⟨y.1, y.2, rfl, ?_, ?_⟩
   ·unfold shN; rw [if_pos h, hf]; rfl
   ·unfold shL; rw [if_pos h, hf]; rfl
 ·rintro ⟨l, m, hf, -⟩
  unfold shE
  rw [if_neg (by rw [h0]; decide), hf]
  rfl
theorem shN_col {s : Sk} {su : Bool} (hg : s.good) (h : shE s su = 0) : ColP (Fit (cutA s su) (cutC s su)) s.lo s.wi s.ps (shN s su) ∧ ∀ n, ColP (Fit (cutA s su) (cutC s su)) s.lo s.wi s.ps n → shN s su ≤ n := by
 obtain ⟨l, m, hf, hm, -⟩ := (shE_some hg).1 h
 rw [hm]
 exact shF_col.2 l m hf
theorem skW_good {s : Sk} (hg : s.good) (i : Nat) : (skW s i).good :=
 ⟨hg.lo, hg.wi, hg.a, hg.c, Nat.le_trans (List.length_eraseIdx_le _ _) hg.len, fun p hp => hg.ps p (List.mem_of_mem_eraseIdx hp)⟩
def skA (s : Sk) (p : Pt) (k : Nat) : Sk := skP s (s.ps ++ List.replicate k p)
theorem skA_good {s : Sk} {p : Pt} {k : Nat} (hg : s.good) (hp : p.good) (hk : s.ps.length + k ≤ 5) : (skA s p k).good :=
 ⟨hg.lo, hg.wi, hg.a, hg.c, by simp [skA, skP]; omega, fun q hq => by
  rcases List.mem_append.1 hq with h | h
  ·exact hg.ps q h
  ·rw [(List.mem_replicate.1 h).2]; exact hp⟩
theorem bound_law {s : Sk} (hg : s.good) (su : Bool) : areasS s su ≤ bndV s su * s.lo * s.wi ∧ (0 < bndV s su → (bndV s su - 1) * s.lo * s.wi < areasS s su) ∧
  (shE s su = 0 → bndV s su ≤ (shN s su : Int) ∧ scrV s su + areasS s su = (shN s su : Int) * s.lo * s.wi ∧ 0 ≤ scrV s su) := by
 obtain ⟨⟨l1, l2⟩, ⟨w1, w2⟩, -, -, h5, -⟩ := id hg
 obtain ⟨ba, bc⟩ := cut_bd hg su
 have hm := mulS (x := s.lo) (y := s.wi) (by omega) (by omega)
 have hm1 : 1 ≤ s.lo * s.wi := by have := Int.mul_pos (show 0 < s.lo by omega) (show 0 < s.wi by omega); omega
 have hab : 0 ≤ areasS s su := (areasP_bd ba bc hg.ps).1
 obtain ⟨A, hA⟩ : ∃ A, areasS s su = A := ⟨_, rfl⟩
 obtain ⟨o, ho⟩ : ∃ o, s.lo * s.wi = o := ⟨_, rfl⟩
 have hb : bndV s su = (A + o - 1) / o := by
  unfold bndV
  rw [if_neg (by rw [skErr_iff.2 hg]; decide), hA, ho, Int.tdiv_eq_ediv_of_nonneg (by omega)]
 have e1 : ∀ k : Int, k * s.lo * s.wi = k * o := fun k => by rw [Int.mul_assoc, ho]
 rw [e1, e1, e1, hA, hb]
 rw [hA] at hab
 rw [ho] at hm1
 have d1 := Int.mul_ediv_add_emod (A + o - 1) o
 have d2 := Int.emod_nonneg (A + o - 1) (show o ≠ 0 by omega)
 have d3 := Int.emod_lt_of_pos (A + o - 1) (show 0 < o by omega)
 rw [Int.mul_comm] at d1
 refine ⟨by omega, fun _ => by rw [Int.sub_mul]; omega, fun h0 => ?_⟩
 have hc := (shN_col hg h0).1
 have ha := hc.areas hg.ps ba.1 bc.1 (by omega) (by omega)
 rw [show areasP (cutA s su) (cutC s su) s.ps = A from hA, ho] at ha
 have hs : scrV s su = (shN s su : Int) * o - A := by
  unfold scrV
  rw [if_neg (by omega), e1, hA]
 refine ⟨?_, by rw [hs]; omega, by rw [hs]; omega⟩
 have : (A + o - 1) / o < (shN s su : Int) + 1 := Int.ediv_lt_of_lt_mul (by omega) (by rw [Int.add_mul]; omega)
 omega
theorem eqT23 {x y : Operand} {a0 a1 b0 b1 : Int} {w : World} : (do eqGuard .eql 23 x y (.agg #[.int .i64 a0, .int .i64 a1]) (.agg #[.int .i64 b0, .int .i64 b1]); binOp .eql 23 (.agg #[.int .i64 a0, .int .i64 a1]) (.agg #[.int .i64 b0, .int .i64 b1]) : Sem Value).run Tryd.prog w = .ok (.bool ((decide (a0 = b0) && decide (a1 = b1)))) w := by
 go_simp
 (repeat' split) <;> simp_all
theorem eqT63 {x y : Operand} {a0 a1 a3 b0 b1 b3 : Int} {a2 b2 : Bool} {w : World} : (do eqGuard .eql 63 x y (.agg #[.int .i64 a0, .int .i64 a1, .bool a2, .int .i64 a3]) (.agg #[.int .i64 b0, .int .i64 b1, .bool b2, .int .i64 b3]); binOp .eql 63 (.agg #[.int .i64 a0, .int .i64 a1, .bool a2, .int .i64 a3]) (.agg #[.int .i64 b0, .int .i64 b1, .bool b2, .int .i64 b3]) : Sem Value).run Tryd.prog w = .ok (.bool (decide (a0 = b0) && (decide (a1 = b1) && (decide (a2 = b2) && decide (a3 = b3))))) w := by
 go_simp
 (repeat' split) <;> simp_all
def CopySkPost (s : Sk) (w : World) (e : Ending) (w' : World) : Prop := ∃ A c I, e = .returned (.agg #[.int .i64 s.lo, .int .i64 s.wi, .int .i64 s.a0, .int .i64 s.a1, .int .i64 s.c0, .int .i64 s.c1, .slice A s.ps.length c]) ∧ Cl 63 4 A s.ps.length c (pc s.ps) I ∧ Mem w noEx w' I
def eqF (s t : Sk) : Prop := s.lo = t.lo ∧ s.wi = t.wi ∧ (s.a0 = t.a0 ∧ s.a1 = t.a1) ∧ (s.c0 = t.c0 ∧ s.c1 = t.c1) ∧ s.ps.length = t.ps.length
theorem copySheet_any (s : Sk) (A : Option Addr) (d : Nat)  (w : World) (hA : Rd w w.heap.size 4 A s.ps.length (pc s.ps)) (nA : s.ps.length ≤ 1000000)  :
  Calls Tryd.prog 25 #[.agg #[.int .i64 s.lo, .int .i64 s.wi, .int .i64 s.a0, .int .i64 s.a1, .int .i64 s.c0, .int .i64 s.c1, .slice A s.ps.length d]] w (CopySkPost s w) := by
 obtain ⟨bA, oA, SA⟩ := Sp.old hA
 refine Zpx noEx Tryd.func25 rfl 9 rfl [.agg #[.int .i64 s.lo, .int .i64 s.wi, .int .i64 s.a0, .int .i64 s.a1, .int .i64 s.c0, .int .i64 s.c1, .slice A s.ps.length d]] rfl rfl (Mem.init w _) ?_
 intro ac wc T M
 refine Zsr ?_
 refine Zl2 ?_
 refine Zob M T rfl rfl rfl rfl (T.e 0 rfl) rfl ?_; clear M T; intro g1 wc ac M T
 refine Zl2 ?_
 refine Zoa M T rfl rfl rfl rfl ?_; clear M T; intro g2 wc ac M T
 refine wpList_nil ?_
 replace T := T.pick [0, 1] rfl
 refine nm_then ?_
 refine Zsr ?_
 refine Zl2 ?_
 refine ow_bs0 (e := 63) M T rfl rfl rfl rfl (fun _ => by kernel_rfl) ?_; clear M T; intro g3 wc ac M T
 refine Zg2 (v1 := (.pointer (some ⟨g1, 6, none⟩))) T (Zq (Zrf (off := 6) rfl (T.e 2 rfl) (fun _ _ _ => by kernel_rfl))) rfl (Zo M 2 0 rfl rfl rfl rfl) rfl ?_; clear T ac; intro ac T
 refine Zl2 ?_
 refine ow_appS Tryd.info63 M T rfl rfl rfl rfl (fun g w => Tryd.append0_24 _ _ g _ w) Tryd.underlying24 rfl rfl rfl (by omega) (T.e 2 rfl) (T.e 0 rfl) (SA.rd M (List.nil_sublist _)) (pc_one _) ?_; clear M T; intro Augo1 cugo1 Iugo1 wc ac hSmgo1 M T
 replace M : Mem w noEx wc ((g2, .cells [.int .i64 0, .int .i64 0, .int .i64 0, .int .i64 0, .int .i64 0, .int .i64 0, .slice none 0 0]) :: (g1, .cells [.int .i64 s.lo, .int .i64 s.wi, .int .i64 s.a0, .int .i64 s.a1, .int .i64 s.c0, .int .i64 s.c1, .slice A s.ps.length d]) :: Iugo1) := M.swapI
 refine lq (v := (.pointer (some ⟨g1, 6, none⟩))) T (Zrf (off := 6) rfl (T.e 5 rfl) (fun _ _ _ => by kernel_rfl)) ?_; clear T ac; intro ac T
 refine Zl2 ?_
 refine Zos M T rfl rfl (T.e 0 rfl) (T.e 1 rfl) rfl (.tail .head) rfl (by simp) rfl (by kernel_rfl) ?_; clear M T; intro wc ac M T
 refine wpList_nil ?_
 replace T := T.pick [5, 6] rfl
 refine nm_then ?_
 refine Zsr ?_
 refine lq T (Zrr (Mem.nth M 1 rfl) rfl (T.e 1 rfl) rfl) ?_; clear T ac; intro ac T
 refine Zl2 ?_
 refine Zos M T rfl rfl (T.e 1 rfl) (T.e 0 rfl) rfl .head rfl (by simp) rfl (by kernel_rfl) ?_; clear M T; intro wc ac M T
 refine wpList_nil ?_
 replace T := T.pick [1] rfl
 replace M := M.mask [true, false] rfl
 refine Znr ?_
 refine rt_c M T rfl (T.e 0 rfl) (Zne (i := 0) rfl) rfl ?_
 exact ⟨Augo1, cugo1, Iugo1, rfl, .inr hSmgo1, M.sub (Zsq ([(g2, .cells [.int .i64 s.lo, .int .i64 s.wi, .int .i64 s.a0, .int .i64 s.a1, .int .i64 s.c0, .int .i64 s.c1, .slice Augo1 s.ps.length cugo1])] : List (Nat × BA)) _)⟩
theorem sameSheets_any (s : Sk) (A : Option Addr) (c : Nat) (t : Sk) (B : Option Addr) (d : Nat)  (w : World) (hA : Rd w w.heap.size 4 A s.ps.length (pc s.ps)) (hB : Rd w w.heap.size 4 B t.ps.length (pc t.ps)) (nA : s.ps.length ≤ 1000000) (nB : t.ps.length ≤ 1000000) :
   Calls Tryd.prog 29 #[.agg #[.int .i64 s.lo, .int .i64 s.wi, .int .i64 s.a0, .int .i64 s.a1, .int .i64 s.c0, .int .i64 s.c1, .slice A s.ps.length c], .agg #[.int .i64 t.lo, .int .i64 t.wi, .int .i64 t.a0, .int .i64 t.a1, .int .i64 t.c0, .int .i64 t.c1, .slice B t.ps.length d]] w fun e w' => e = .returned (.bool (decide (s = t))) ∧ Below w.heap.size w w' := by
 obtain ⟨bA, oA, SA⟩ := Sp.old hA
 obtain ⟨bB, oB, SB⟩ := Sp.old hB
 refine Zpx noEx Tryd.func29 rfl 64 rfl [.agg #[.int .i64 s.lo, .int .i64 s.wi, .int .i64 s.a0, .int .i64 s.a1, .int .i64 s.c0, .int .i64 s.c1, .slice A s.ps.length c], .agg #[.int .i64 t.lo, .int .i64 t.wi, .int .i64 t.a0, .int .i64 t.a1, .int .i64 t.c0, .int .i64 t.c1, .slice B t.ps.length d]] rfl rfl (Mem.init w _) ?_
 intro ac wc T M
 refine Zsr ?_
 refine Zl2 ?_
 refine Zob M T rfl rfl rfl rfl (T.e 0 rfl) rfl ?_; clear M T; intro g1 wc ac M T
 refine Zl2 ?_
 refine Zob M T rfl rfl rfl rfl (T.e 2 rfl) rfl ?_; clear M T; intro g2 wc ac M T
 refine lq T (Zra rfl evc) ?_; clear T ac; intro ac T
 refine wpList_nil ?_
 replace T := T.pick [1, 2] rfl
 refine nm_then ?_
 refine cut_seq (fun ac wc => Tm ac 64 [(2, .pointer (some ⟨g1, 0, none⟩)), (3, .pointer (some ⟨g2, 0, none⟩)), (5, .bool ((decide (s.lo = t.lo)) && ((decide (s.wi = t.wi)) && (((decide (s.a0 = t.a0)) && (decide (s.a1 = t.a1))) && (((decide (s.c0 = t.c0)) && (decide (s.c1 = t.c1))) && (decide (((s.ps.length : Nat) : Int) = ((t.ps.length : Nat) : Int))))))))] ∧ Mem w noEx wc [(g2, .cells [.int .i64 t.lo, .int .i64 t.wi, .int .i64 t.a0, .int .i64 t.a1, .int .i64 t.c0, .int .i64 t.c1, .slice B t.ps.length d]), (g1, .cells [.int .i64 s.lo, .int .i64 s.wi, .int .i64 s.a0, .int .i64 s.a1, .int .i64 s.c0, .int .i64 s.c1, .slice A s.ps.length c])]) ?_ ?_
 ·refine wp_region_lit ?_
  refine Zg6 (v1 := (.pointer (some ⟨g1, 0, none⟩))) (v3 := (.pointer (some ⟨g2, 0, none⟩))) T (Zq (Zrf (off := 0) rfl (T.e 1 rfl) (fun _ _ _ => by kernel_rfl))) rfl (Zo M 1 0 rfl rfl rfl rfl) rfl (Zf 0 2 rfl rfl) rfl (Zo M 0 0 rfl rfl rfl rfl) rfl (fun _ T => Zq (rn_eql rfl (T.e 2 rfl) (T.e 0 rfl))) rfl (Zm 0 rfl rfl) rfl ?_; clear T ac; intro ac T
  rcases Bool.eq_false_or_eq_true (decide (s.lo = t.lo)) with h1 | h1
  ·replace h1 := of_decide_eq_true h1
   refine Zg7 (v1 := (.pointer (some ⟨g1, 1, none⟩))) (v3 := (.pointer (some ⟨g2, 1, none⟩))) T (Zw (Zwy rfl rfl (T.e 0 rfl) (Zdt h1)) (Zrf (off := 1) rfl (T.e 7 rfl) (fun _ _ _ => by kernel_rfl))) rfl (fun _ T => Zw (Zwy rfl rfl (T.e 1 rfl) (Zdt h1)) (Zro (Mem.nth M 1 rfl) rfl (T.e 0 rfl) rfl)) rfl (fun _ T => Zw (Zwy rfl rfl (T.e 2 rfl) (Zdt h1)) (Zrf (off := 1) rfl (T.e 8 rfl) (fun _ _ _ => by kernel_rfl))) rfl (fun _ T => Zw (Zwy rfl rfl (T.e 3 rfl) (Zdt h1)) (Zro (Mem.nth M 0 rfl) rfl (T.e 0 rfl) rfl)) rfl (fun _ T => Zw (Zwy rfl rfl (T.e 4 rfl) (Zdt h1)) (rn_eql rfl (T.e 2 rfl) (T.e 0 rfl))) rfl (fun _ T => Zq (Zr1 rfl (T.e 5 rfl) (Zdt h1) (T.e 0 rfl))) rfl (Zm 0 rfl rfl) rfl ?_; clear T ac; intro ac T
   rcases Bool.eq_false_or_eq_true (decide (s.wi = t.wi)) with h2 | h2
   ·replace h2 := of_decide_eq_true h2
    refine Zg7 (v1 := (.pointer (some ⟨g1, 2, none⟩))) (v3 := (.pointer (some ⟨g2, 2, none⟩))) (v5 := (.bool ((decide (s.a0 = t.a0)) && (decide (s.a1 = t.a1))))) T (Zw (Zwy rfl rfl (T.e 0 rfl) (Zdt h2)) (Zrf (off := 2) rfl (T.e 14 rfl) (fun _ _ _ => by kernel_rfl))) rfl (fun _ T => Zw (Zwy rfl rfl (T.e 1 rfl) (Zdt h2)) (Zrr (Mem.nth M 1 rfl) rfl (T.e 0 rfl) rfl)) rfl (fun _ T => Zw (Zwy rfl rfl (T.e 2 rfl) (Zdt h2)) (Zrf (off := 2) rfl (T.e 15 rfl) (fun _ _ _ => by kernel_rfl))) rfl (fun _ T => Zw (Zwy rfl rfl (T.e 3 rfl) (Zdt h2)) (Zrr (Mem.nth M 0 rfl) rfl (T.e 0 rfl) rfl)) rfl (fun _ T => Zw (Zwy rfl rfl (T.e 4 rfl) (Zdt h2)) (rn_bin rfl (T.e 2 rfl) (T.e 0 rfl) eqT23)) rfl (fun _ T => Zq (Zr1 rfl (T.e 5 rfl) (Zdt h2) (T.e 0 rfl))) rfl (Zm 0 rfl rfl) rfl ?_; clear T ac; intro ac T
    rcases Bool.eq_false_or_eq_true ((decide (s.a0 = t.a0)) && (decide (s.a1 = t.a1))) with h3 | h3
    ·refine Zg7 (v1 := (.pointer (some ⟨g1, 4, none⟩))) (v3 := (.pointer (some ⟨g2, 4, none⟩))) (v5 := (.bool ((decide (s.c0 = t.c0)) && (decide (s.c1 = t.c1))))) T (Zw (Zwy rfl rfl (T.e 0 rfl) h3) (Zrf (off := 4) rfl (T.e 21 rfl) (fun _ _ _ => by kernel_rfl))) rfl (fun _ T => Zw (Zwy rfl rfl (T.e 1 rfl) h3) (Zrr (Mem.nth M 1 rfl) rfl (T.e 0 rfl) rfl)) rfl (fun _ T => Zw (Zwy rfl rfl (T.e 2 rfl) h3) (Zrf (off := 4) rfl (T.e 22 rfl) (fun _ _ _ => by kernel_rfl))) rfl (fun _ T => Zw (Zwy rfl rfl (T.e 3 rfl) h3) (Zrr (Mem.nth M 0 rfl) rfl (T.e 0 rfl) rfl)) rfl (fun _ T => Zw (Zwy rfl rfl (T.e 4 rfl) h3) (rn_bin rfl (T.e 2 rfl) (T.e 0 rfl) eqT23)) rfl (fun _ T => Zq (Zr1 rfl (T.e 5 rfl) h3 (T.e 0 rfl))) rfl (Zm 0 rfl rfl) rfl ?_; clear T ac; intro ac T
     rcases Bool.eq_false_or_eq_true ((decide (s.c0 = t.c0)) && (decide (s.c1 = t.c1))) with h4 | h4
     ·refine Zg8 (v1 := (.pointer (some ⟨g1, 6, none⟩))) (v4 := (.pointer (some ⟨g2, 6, none⟩))) T (Zw (Zwy rfl rfl (T.e 0 rfl) h4) (Zrf (off := 6) rfl (T.e 28 rfl) (fun _ _ _ => by kernel_rfl))) rfl (fun _ T => Zw (Zwy rfl rfl (T.e 1 rfl) h4) (Zro (Mem.nth M 1 rfl) rfl (T.e 0 rfl) rfl)) rfl (fun _ T => Zw (Zwy rfl rfl (T.e 2 rfl) h4) (Zrl rfl Tryd.underlying24 (T.e 0 rfl))) rfl (fun _ T => Zw (Zwy rfl rfl (T.e 3 rfl) h4) (Zrf (off := 6) rfl (T.e 30 rfl) (fun _ _ _ => by kernel_rfl))) rfl (fun _ T => Zw (Zwy rfl rfl (T.e 4 rfl) h4) (Zro (Mem.nth M 0 rfl) rfl (T.e 0 rfl) rfl)) rfl (fun _ T => Zw (Zwy rfl rfl (T.e 5 rfl) h4) (Zrl rfl Tryd.underlying24 (T.e 0 rfl))) rfl (fun _ T => Zw (Zwy rfl rfl (T.e 6 rfl) h4) (rn_eql rfl (T.e 3 rfl) (T.e 0 rfl))) rfl (fun _ T => Zq (Zr1 rfl (T.e 7 rfl) h4 (T.e 0 rfl))) rfl ?_; clear T ac; intro ac T
      refine lq T (Zra rfl (T.e 0 rfl)) ?_; clear T ac; intro ac T
      refine wpList_nil ?_
      replace T := T.pick [0, 36, 37] rfl
      exact ⟨(T.pick (E' := [(2, .pointer (some ⟨g1, 0, none⟩)), (3, .pointer (some ⟨g2, 0, none⟩)), (5, .bool (decide (((s.ps.length : Nat) : Int) = ((t.ps.length : Nat) : Int))))]) [2, 1, 0] rfl).as (by (try rw [show (decide (s.lo = t.lo)) = true from (Zdt h1)]); (try rw [show (decide (s.wi = t.wi)) = true from (Zdt h2)]); (try rw [show ((decide (s.a0 = t.a0)) && (decide (s.a1 = t.a1))) = true from h3]); (try rw [show ((decide (s.c0 = t.c0)) && (decide (s.c1 = t.c1))) = true from h4]); (try rfl)), M.mask [true, true] rfl⟩
     refine Zg8 T (Zp (Zwn rfl rfl (T.e 0 rfl) h4)) rfl (fun _ T => Zp (Zwn rfl rfl (T.e 1 rfl) h4)) rfl (fun _ T => Zp (Zwn rfl rfl (T.e 2 rfl) h4)) rfl (fun _ T => Zp (Zwn rfl rfl (T.e 3 rfl) h4)) rfl (fun _ T => Zp (Zwn rfl rfl (T.e 4 rfl) h4)) rfl (fun _ T => Zp (Zwn rfl rfl (T.e 5 rfl) h4)) rfl (fun _ T => Zp (Zwn rfl rfl (T.e 6 rfl) h4)) rfl (fun _ T => Zq (Zr0 rfl (T.e 7 rfl) h4 evc)) rfl ?_; clear T ac; intro ac T
     refine lq T (Zra rfl (T.e 0 rfl)) ?_; clear T ac; intro ac T
     refine wpList_nil ?_
     replace T := T.pick [0, 36, 37] rfl
     exact ⟨(T.pick (E' := [(2, .pointer (some ⟨g1, 0, none⟩)), (3, .pointer (some ⟨g2, 0, none⟩)), (5, .bool false)]) [2, 1, 0] rfl).as (by (try rw [show (decide (s.lo = t.lo)) = true from (Zdt h1)]); (try rw [show (decide (s.wi = t.wi)) = true from (Zdt h2)]); (try rw [show ((decide (s.a0 = t.a0)) && (decide (s.a1 = t.a1))) = true from h3]); (try rw [show ((decide (s.c0 = t.c0)) && (decide (s.c1 = t.c1))) = false from h4]); (try rfl)), M.mask [true, true] rfl⟩
    refine Zg8 T (Zp (Zwn rfl rfl (T.e 0 rfl) h3)) rfl (fun _ T => Zp (Zwn rfl rfl (T.e 1 rfl) h3)) rfl (fun _ T => Zp (Zwn rfl rfl (T.e 2 rfl) h3)) rfl (fun _ T => Zp (Zwn rfl rfl (T.e 3 rfl) h3)) rfl (fun _ T => Zp (Zwn rfl rfl (T.e 4 rfl) h3)) rfl (fun _ T => Zq (Zr0 rfl (T.e 5 rfl) h3 evc)) rfl (Zm 0 rfl rfl) rfl (fun _ T => Zp (Zwn rfl rfl (T.e 0 rfl) rfl)) rfl ?_; clear T ac; intro ac T
    refine Zg8 T (Zp (Zwn rfl rfl (T.e 1 rfl) rfl)) rfl (fun _ T => Zp (Zwn rfl rfl (T.e 2 rfl) rfl)) rfl (fun _ T => Zp (Zwn rfl rfl (T.e 3 rfl) rfl)) rfl (fun _ T => Zp (Zwn rfl rfl (T.e 4 rfl) rfl)) rfl (fun _ T => Zp (Zwn rfl rfl (T.e 5 rfl) rfl)) rfl (fun _ T => Zp (Zwn rfl rfl (T.e 6 rfl) rfl)) rfl (fun _ T => Zq (Zr0 rfl (T.e 7 rfl) rfl evc)) rfl (Za 0 rfl rfl) rfl ?_; clear T ac; intro ac T
    refine wpList_nil ?_
    replace T := T.pick [0, 36, 37] rfl
    exact ⟨(T.pick (E' := [(2, .pointer (some ⟨g1, 0, none⟩)), (3, .pointer (some ⟨g2, 0, none⟩)), (5, .bool false)]) [2, 1, 0] rfl).as (by (try rw [show (decide (s.lo = t.lo)) = true from (Zdt h1)]); (try rw [show (decide (s.wi = t.wi)) = true from (Zdt h2)]); (try rw [show ((decide (s.a0 = t.a0)) && (decide (s.a1 = t.a1))) = false from h3]); (try rfl)), M.mask [true, true] rfl⟩
   replace h2 := of_decide_eq_false h2
   refine Zg8 T (Zp (Zwn rfl rfl (T.e 0 rfl) (Zdf h2))) rfl (fun _ T => Zp (Zwn rfl rfl (T.e 1 rfl) (Zdf h2))) rfl (fun _ T => Zp (Zwn rfl rfl (T.e 2 rfl) (Zdf h2))) rfl (fun _ T => Zp (Zwn rfl rfl (T.e 3 rfl) (Zdf h2))) rfl (fun _ T => Zp (Zwn rfl rfl (T.e 4 rfl) (Zdf h2))) rfl (fun _ T => Zq (Zr0 rfl (T.e 5 rfl) (Zdf h2) evc)) rfl (Zm 0 rfl rfl) rfl (fun _ T => Zp (Zwn rfl rfl (T.e 0 rfl) rfl)) rfl ?_; clear T ac; intro ac T
   refine Zg8 T (Zp (Zwn rfl rfl (T.e 1 rfl) rfl)) rfl (fun _ T => Zp (Zwn rfl rfl (T.e 2 rfl) rfl)) rfl (fun _ T => Zp (Zwn rfl rfl (T.e 3 rfl) rfl)) rfl (fun _ T => Zp (Zwn rfl rfl (T.e 4 rfl) rfl)) rfl (fun _ T => Zq (Zr0 rfl (T.e 5 rfl) rfl evc)) rfl (Zm 0 rfl rfl) rfl (fun _ T => Zp (Zwn rfl rfl (T.e 0 rfl) rfl)) rfl (fun _ T => Zp (Zwn rfl rfl (T.e 1 rfl) rfl)) rfl ?_; clear T ac; intro ac T
   refine Zg7 T (Zp (Zwn rfl rfl (T.e 2 rfl) rfl)) rfl (fun _ T => Zp (Zwn rfl rfl (T.e 3 rfl) rfl)) rfl (fun _ T => Zp (Zwn rfl rfl (T.e 4 rfl) rfl)) rfl (fun _ T => Zp (Zwn rfl rfl (T.e 5 rfl) rfl)) rfl (fun _ T => Zp (Zwn rfl rfl (T.e 6 rfl) rfl)) rfl (fun _ T => Zq (Zr0 rfl (T.e 7 rfl) rfl evc)) rfl (Za 0 rfl rfl) rfl ?_; clear T ac; intro ac T
   refine wpList_nil ?_
   replace T := T.pick [0, 36, 37] rfl
   exact ⟨(T.pick (E' := [(2, .pointer (some ⟨g1, 0, none⟩)), (3, .pointer (some ⟨g2, 0, none⟩)), (5, .bool false)]) [2, 1, 0] rfl).as (by (try rw [show (decide (s.lo = t.lo)) = true from (Zdt h1)]); (try rw [show (decide (s.wi = t.wi)) = false from (Zdf h2)]); (try rfl)), M.mask [true, true] rfl⟩
  replace h1 := of_decide_eq_false h1
  refine Zg8 T (Zp (Zwn rfl rfl (T.e 0 rfl) (Zdf h1))) rfl (fun _ T => Zp (Zwn rfl rfl (T.e 1 rfl) (Zdf h1))) rfl (fun _ T => Zp (Zwn rfl rfl (T.e 2 rfl) (Zdf h1))) rfl (fun _ T => Zp (Zwn rfl rfl (T.e 3 rfl) (Zdf h1))) rfl (fun _ T => Zp (Zwn rfl rfl (T.e 4 rfl) (Zdf h1))) rfl (fun _ T => Zq (Zr0 rfl (T.e 5 rfl) (Zdf h1) evc)) rfl (Zm 0 rfl rfl) rfl (fun _ T => Zp (Zwn rfl rfl (T.e 0 rfl) rfl)) rfl ?_; clear T ac; intro ac T
  refine Zg8 T (Zp (Zwn rfl rfl (T.e 1 rfl) rfl)) rfl (fun _ T => Zp (Zwn rfl rfl (T.e 2 rfl) rfl)) rfl (fun _ T => Zp (Zwn rfl rfl (T.e 3 rfl) rfl)) rfl (fun _ T => Zp (Zwn rfl rfl (T.e 4 rfl) rfl)) rfl (fun _ T => Zq (Zr0 rfl (T.e 5 rfl) rfl evc)) rfl (Zm 0 rfl rfl) rfl (fun _ T => Zp (Zwn rfl rfl (T.e 0 rfl) rfl)) rfl (fun _ T => Zp (Zwn rfl rfl (T.e 1 rfl) rfl)) rfl ?_; clear T ac; intro ac T
  refine Zg8 T (Zp (Zwn rfl rfl (T.e 2 rfl) rfl)) rfl (fun _ T => Zp (Zwn rfl rfl (T.e 3 rfl) rfl)) rfl (fun _ T => Zp (Zwn rfl rfl (T.e 4 rfl) rfl)) rfl (fun _ T => Zq (Zr0 rfl (T.e 5 rfl) rfl evc)) rfl (Zm 0 rfl rfl) rfl (fun _ T => Zp (Zwn rfl rfl (T.e 0 rfl) rfl)) rfl (fun _ T => Zp (Zwn rfl rfl (T.e 1 rfl) rfl)) rfl (fun _ T => Zp (Zwn rfl rfl (T.e 2 rfl) rfl)) rfl ?_; clear T ac; intro ac T
  refine Zg6 T (Zp (Zwn rfl rfl (T.e 3 rfl) rfl)) rfl (fun _ T => Zp (Zwn rfl rfl (T.e 4 rfl) rfl)) rfl (fun _ T => Zp (Zwn rfl rfl (T.e 5 rfl) rfl)) rfl (fun _ T => Zp (Zwn rfl rfl (T.e 6 rfl) rfl)) rfl (fun _ T => Zq (Zr0 rfl (T.e 7 rfl) rfl evc)) rfl (Za 0 rfl rfl) rfl ?_; clear T ac; intro ac T
  refine wpList_nil ?_
  replace T := T.pick [0, 36, 37] rfl
  exact ⟨(T.pick (E' := [(2, .pointer (some ⟨g1, 0, none⟩)), (3, .pointer (some ⟨g2, 0, none⟩)), (5, .bool false)]) [2, 1, 0] rfl).as (by (try rw [show (decide (s.lo = t.lo)) = false from (Zdf h1)]); (try rfl)), M.mask [true, true] rfl⟩
 clear T M
 rintro ac wc ⟨T, M⟩
 refine wp_seq ?_
 refine Zsr ?_
 refine lq T (Zra rfl evc) ?_; clear T ac; intro ac T
 refine Zln ?_
 refine wp_block ?_
 refine wp_loop_n (fun mz ac wc => ∃ (i : Nat) (sm : Bool), mz = s.ps.length - i ∧ (i ≤ s.ps.length) ∧ (sm = true ↔ eqF s t ∧ s.ps.take i = t.ps.take i) ∧ Tm ac 64 [(2, .pointer (some ⟨g1, 0, none⟩)), (3, .pointer (some ⟨g2, 0, none⟩)), (5, .bool sm), (6, .int .i64 (i : Int))] ∧ Mem w noEx wc [(g2, .cells [.int .i64 t.lo, .int .i64 t.wi, .int .i64 t.a0, .int .i64 t.a1, .int .i64 t.c0, .int .i64 t.c1, .slice B t.ps.length d]), (g1, .cells [.int .i64 s.lo, .int .i64 s.wi, .int .i64 s.a0, .int .i64 s.a1, .int .i64 s.c0, .int .i64 s.c1, .slice A s.ps.length c])]) ?_ ?_
 ·exact ⟨_, 0, _, rfl, (Nat.zero_le _), (by unfold eqF; simp [and_assoc, Int.natCast_inj]), T.pick [1, 2, 3, 0] rfl, M.mask [true, true] rfl⟩
 clear T M
 rintro mz ac wc ⟨i, sm, hmm1, hi, hs, T, M⟩
 refine wp_seq ?_
 refine cut_seq (fun ac wc => Tm ac 64 [(2, .pointer (some ⟨g1, 0, none⟩)), (3, .pointer (some ⟨g2, 0, none⟩)), (5, .bool sm), (6, .int .i64 (i : Int)), (49, .bool (sm && (decide ((i : Int) < ((s.ps.length : Nat) : Int)))))] ∧ Mem w noEx wc [(g2, .cells [.int .i64 t.lo, .int .i64 t.wi, .int .i64 t.a0, .int .i64 t.a1, .int .i64 t.c0, .int .i64 t.c1, .slice B t.ps.length d]), (g1, .cells [.int .i64 s.lo, .int .i64 s.wi, .int .i64 s.a0, .int .i64 s.a1, .int .i64 s.c0, .int .i64 s.c1, .slice A s.ps.length c])]) ?_ ?_
 ·refine wp_region_lit ?_
  refine Zg2 T (Zq (Zrm rfl (T.e 2 rfl))) rfl (Zm 0 rfl rfl) rfl ?_; clear T ac; intro ac T
  rcases Bool.eq_false_or_eq_true sm with h5 | h5
  ·refine Zg6 (v2 := (.pointer (some ⟨g1, 6, none⟩))) T (Zw (Zwy rfl rfl (T.e 0 rfl) h5) (Zrm rfl (T.e 5 rfl))) rfl (fun _ T => Zw (Zwy rfl rfl (T.e 1 rfl) h5) (Zrf (off := 6) rfl (T.e 3 rfl) (fun _ _ _ => by kernel_rfl))) rfl (fun _ T => Zw (Zwy rfl rfl (T.e 2 rfl) h5) (Zro (Mem.nth M 1 rfl) rfl (T.e 0 rfl) rfl)) rfl (fun _ T => Zw (Zwy rfl rfl (T.e 3 rfl) h5) (Zrl rfl Tryd.underlying24 (T.e 0 rfl))) rfl (fun _ T => Zw (Zwy rfl rfl (T.e 4 rfl) h5) (rn_lss rfl (T.e 3 rfl) (T.e 0 rfl))) rfl (fun _ T => Zq (Zr1 rfl (T.e 5 rfl) h5 (T.e 0 rfl))) rfl ?_; clear T ac; intro ac T
   refine wpList_nil ?_
   replace T := T.pick [0, 1, 2, 3, 4, 5, 8, 9, 10, 11] rfl
   exact ⟨(T.pick (E' := [(2, .pointer (some ⟨g1, 0, none⟩)), (3, .pointer (some ⟨g2, 0, none⟩)), (5, .bool sm), (6, .int .i64 (i : Int)), (49, .bool (decide ((i : Int) < ((s.ps.length : Nat) : Int))))]) [6, 7, 8, 9, 0] rfl).as (by (try rw [show sm = true from h5]); (try rfl)), M.mask [true, true] rfl⟩
  refine Zg6 T (Zp (Zwn rfl rfl (T.e 0 rfl) h5)) rfl (fun _ T => Zp (Zwn rfl rfl (T.e 1 rfl) h5)) rfl (fun _ T => Zp (Zwn rfl rfl (T.e 2 rfl) h5)) rfl (fun _ T => Zp (Zwn rfl rfl (T.e 3 rfl) h5)) rfl (fun _ T => Zp (Zwn rfl rfl (T.e 4 rfl) h5)) rfl (fun _ T => Zq (Zr0 rfl (T.e 5 rfl) h5 evc)) rfl ?_; clear T ac; intro ac T
  refine wpList_nil ?_
  replace T := T.pick [0, 1, 2, 3, 4, 5, 8, 9, 10, 11] rfl
  exact ⟨(T.pick (E' := [(2, .pointer (some ⟨g1, 0, none⟩)), (3, .pointer (some ⟨g2, 0, none⟩)), (5, .bool sm), (6, .int .i64 (i : Int)), (49, .bool false)]) [6, 7, 8, 9, 0] rfl).as (by (try rw [show sm = false from h5]); (try rfl)), M.mask [true, true] rfl⟩
 clear T M
 rintro ac wc ⟨T, M⟩
 refine wp_cond_split (T.e 4 rfl) ?_ ?_
 ·intro h6
  (have h6' := h6; try simp only [Zb1, Zb2, Zb3, Zb4, Zb5, Zb6, Zb7] at h6')
  have hlr : sm = true ∧ i < s.ps.length := by simpa using h6
  have heF := (hs.1 hlr.1).1
  have hlen := heF.2.2.2.2
  have htk := (hs.1 hlr.1).2
  obtain ⟨p, hkp, -⟩ := pc_next (l := s.ps) (k := i) (by omega)
  obtain ⟨q, hkq, -⟩ := pc_next (l := t.ps) (k := i) (by omega)
  refine Zsk ?_
  refine wp_seq ?_
  refine wp_block ?_
  refine Zgs M (M.mask [true, true] rfl) 12 (by kernel_rfl) rfl (by kernel_rfl) ?_
  clear M; intro wc M
  refine gq (v := (.pointer (some ⟨g1, 6, none⟩))) T 0 1 rfl (fun _ _ _ _ _ => (Zrf (off := 6) rfl (T.e 0 rfl) (fun _ _ _ => by kernel_rfl))) ?_; clear T ac; intro ac T
  refine gq T 1 3 rfl (fun B w' hD hl hS => (Zro (Mem.nth (show Mem w noEx w' _ from hS) 1 rfl) rfl (T.e 0 rfl) rfl)) ?_; clear T ac; intro ac T
  refine gq T 2 7 rfl (fun _ _ _ _ _ => (Zrm rfl (T.e 5 rfl))) ?_; clear T ac; intro ac T
  refine gq T 3 15 rfl (fun _ _ _ _ _ => (Zri (size := 4) i rfl (T.e 1 rfl) (T.e 0 rfl) ⟨_, Tryd.underlying24, by kernel_rfl⟩ rfl (by omega) (SA.at0 (by omega)))) ?_; clear T ac; intro ac T
  refine gq (v := (.agg #[.int .i64 p.l, .int .i64 p.w, .bool p.gr, .int .i64 p.pa])) T 4 31 rfl (fun B w' hD hl hS => (rn_rowat (Sp.pcR SA (show Mem w noEx w' _ from hS) (List.nil_sublist _) hkp) rfl (T.e 0 rfl) rfl)) ?_; clear T ac; intro ac T
  refine gq (v := (.pointer (some ⟨g2, 6, none⟩))) T 5 63 rfl (fun _ _ _ _ _ => (Zrf (off := 6) rfl (T.e 6 rfl) (fun _ _ _ => by kernel_rfl))) ?_; clear T ac; intro ac T
  refine gq T 6 127 rfl (fun B w' hD hl hS => (Zro (Mem.nth (show Mem w noEx w' _ from hS) 0 rfl) rfl (T.e 0 rfl) rfl)) ?_; clear T ac; intro ac T
  refine gq T 7 255 rfl (fun _ _ _ _ _ => (Zrm rfl (T.e 10 rfl))) ?_; clear T ac; intro ac T
  refine gq T 8 511 rfl (fun _ _ _ _ _ => (Zri (size := 4) i rfl (T.e 1 rfl) (T.e 0 rfl) ⟨_, Tryd.underlying24, by kernel_rfl⟩ rfl (by omega) (SB.at0 (by omega)))) ?_; clear T ac; intro ac T
  refine gq (v := (.agg #[.int .i64 q.l, .int .i64 q.w, .bool q.gr, .int .i64 q.pa])) T 9 1023 rfl (fun B w' hD hl hS => (rn_rowat (Sp.pcR SB (show Mem w noEx w' _ from hS) (List.nil_sublist _) hkq) rfl (T.e 0 rfl) rfl)) ?_; clear T ac; intro ac T
  refine gq (v := (.bool ((decide (p.l = q.l)) && ((decide (p.w = q.w)) && ((decide (p.gr = q.gr)) && (decide (p.pa = q.pa))))))) T 10 2047 rfl (fun _ _ _ _ _ => (rn_bin rfl (T.e 5 rfl) (T.e 0 rfl) eqT63)) ?_; clear T ac; intro ac T
  refine g_q (v := (.bool ((decide (p.l = q.l)) && ((decide (p.w = q.w)) && ((decide (p.gr = q.gr)) && (decide (p.pa = q.pa))))))) (T := T.pick [0, 1, 2, 3, 4, 5, 6, 7, 8, 9, 10, 11, 12, 14, 15] rfl) (i := 11) rfl (by kernel_rfl) (by kernel_rfl : (Zpb 12 2047).setIfInBounds 11 true = Zpb 12 4095) si_U (fun _ _ _ h => h) rfl rfl rfl rfl (fun _ _ _ _ _ => (Zra rfl (T.e 0 rfl))) ?_; clear T ac; intro ac T
  refine Zgd (by kernel_rfl) ?_
  replace T := T.pick [0, 12, 13, 14] rfl
  refine Znb ?_
  refine nm_then ?_
  refine wp_region_lit ?_
  refine Zg2 T (Zq (Zrm rfl (T.e 3 rfl))) rfl (fun _ T => Zq (rn_add rfl (T.e 0 rfl) evc (by omega))) rfl ?_; clear T ac; intro ac T
  refine l_q (v := (.int .i64 ((i : Int) + 1))) (T.pick [0, 1, 2, 3, 4] rfl) rfl rfl rfl rfl (Zra rfl (T.e 0 rfl)) ?_; clear T ac; intro ac T
  refine wpList_nil ?_
  replace T := T.pick [0, 3, 4, 5] rfl
  refine nm_then ?_
  exact ⟨_, by omega, i + 1, ((decide (p.l = q.l)) && ((decide (p.w = q.w)) && ((decide (p.gr = q.gr)) && (decide (p.pa = q.pa))))), rfl, (by omega), (by rw [take_same hkp hkq]; cases p; cases q; simp [heF, htk]), T.pick [2, 3, 1, 0] rfl, M.mask [true, true] rfl⟩
 intro h6
 (have h6' := h6; try simp only [Zb1, Zb2, Zb3, Zb4, Zb5, Zb6, Zb7] at h6')
 refine wp_exit ?_
 refine Zet ?_
 refine Zet ?_
 refine ex_hit ?_
 refine nm_then ?_
 refine Zsr ?_
 refine Zg2 T (Zq (Zrm rfl (T.e 2 rfl))) rfl (Za 0 rfl rfl) rfl ?_; clear T ac; intro ac T
 refine wpList_nil ?_
 replace T := T.pick [0] rfl
 replace M := M.mask [false, false] rfl
 refine Znr ?_
 refine rt_1 T rfl (T.e 0 rfl) ?_
 have e9 : sm = decide (s = t) := by
   rw [Bool.eq_iff_iff, decide_eq_true_eq]
   constructor
   · intro hsm
     obtain ⟨⟨k1, k2, ⟨k3, k4⟩, ⟨k5, k6⟩, k7⟩, k8⟩ := hs.1 hsm
     have hi9 : ¬ i < s.ps.length := by simpa [hsm] using h6
     rw [List.take_of_length_le (by omega), List.take_of_length_le (by omega)] at k8
     cases s; cases t; simp_all
   · rintro rfl
     exact hs.2 ⟨⟨rfl, rfl, ⟨rfl, rfl⟩, ⟨rfl, rfl⟩, rfl⟩, rfl⟩
 rw [e9]
 exact ⟨rfl, M.below⟩
def SkPost (s : Sk) (w : World) (e : Ending) (w' : World) : Prop := ∃ A c I, e = .returned (.agg #[.int .i64 s.lo, .int .i64 s.wi, .int .i64 s.a0, .int .i64 s.a1, .int .i64 s.c0, .int .i64 s.c1, .slice A s.ps.length c]) ∧ s.ps.length ≤ c ∧ (∃ b o, ∀ (w : World) (ex : Nat → Prop), Sp w ex I A s.ps.length 4 b o (pc s.ps)) ∧ Mem w noEx w' I
theorem erase_take {l : List Pt} {k i : Nat} {p : Pt} (h : l[k]? = some p) : (k ≠ i → (l.take (k + 1)).eraseIdx i = (l.take k).eraseIdx i ++ [p]) ∧ (k = i → (l.take (k + 1)).eraseIdx i = (l.take k).eraseIdx i) := by
 have hk := (List.getElem?_eq_some_iff.1 h).1
 have hl : (l.take k).length = k := by simp; omega
 constructor
 ·intro hne
  rw [List.take_add_one, h, Option.toList_some]
  rcases Nat.lt_or_ge i k with h1 | h1
  ·rw [List.eraseIdx_append_of_lt_length (by omega)]
  ·rw [List.eraseIdx_of_length_le (by simp; omega), List.eraseIdx_of_length_le (by omega)]
 ·rintro rfl
  have e1 : (l.take k).eraseIdx k = l.take k := List.eraseIdx_of_length_le (by omega)
  rw [List.take_add_one, h, Option.toList_some, List.eraseIdx_append_of_length_le (by omega), hl, Nat.sub_self, e1]
  simp
theorem without_any (s : Sk) (A : Option Addr) (d i : Nat)  (w : World) (hA : Rd w w.heap.size 4 A s.ps.length (pc s.ps)) (nA : s.ps.length ≤ 1000000)  :
   Calls Tryd.prog 44 #[.agg #[.int .i64 s.lo, .int .i64 s.wi, .int .i64 s.a0, .int .i64 s.a1, .int .i64 s.c0, .int .i64 s.c1, .slice A s.ps.length d], .int .i64 (i : Int)] w (SkPost (skW s i) w) := by
 obtain ⟨bA, oA, SA⟩ := Sp.old hA
 refine Zpx noEx Tryd.func44 rfl 29 rfl [.agg #[.int .i64 s.lo, .int .i64 s.wi, .int .i64 s.a0, .int .i64 s.a1, .int .i64 s.c0, .int .i64 s.c1, .slice A s.ps.length d], .int .i64 (i : Int)] rfl rfl (Mem.init w _) ?_
 intro ac wc T M
 refine Zsr ?_
 refine Zl2 ?_
 refine Zob M T rfl rfl rfl rfl (T.e 0 rfl) rfl ?_; clear M T; intro g1 wc ac M T
 refine Zl2 ?_
 refine Zoa M T rfl rfl rfl rfl ?_; clear M T; intro g2 wc ac M T
 refine wpList_nil ?_
 replace T := T.pick [0, 1, 3] rfl
 refine nm_then ?_
 refine Zsr ?_
 refine Zg3 (v1 := (.pointer (some ⟨g1, 6, none⟩))) T (Zq (Zrf (off := 6) rfl (T.e 1 rfl) (fun _ _ _ => by kernel_rfl))) rfl (Zo M 1 0 rfl rfl rfl rfl) rfl (Za 0 rfl rfl) rfl ?_; clear T ac; intro ac T
 refine wpList_nil ?_
 replace T := T.pick [0, 3, 4, 5] rfl
 refine nm_then ?_
 refine Zsr ?_
 refine lq (v := (.pointer (some ⟨g1, 6, none⟩))) T (Zrf (off := 6) rfl (T.e 2 rfl) (fun _ _ _ => by kernel_rfl)) ?_; clear T ac; intro ac T
 refine Zl2 ?_
 refine Zos M T rfl rfl (T.e 0 rfl) evc rfl (.tail .head) rfl (by simp) rfl (by kernel_rfl) ?_; clear M T; intro wc ac M T
 refine wpList_nil ?_
 replace T := T.pick [1, 2, 3, 4] rfl
 refine Zns ?_
 refine Zsr ?_
 refine lq T (Zra rfl evc) ?_; clear T ac; intro ac T
 refine Zln ?_
 refine wp_block ?_
 refine wp_loop_n (fun mz ac wc => ∃ (k : Nat) (OL : List Pt) (A3 : Option Addr) (c3 : Nat) (Io : List (Nat × BA)), mz = s.ps.length - k ∧ (k ≤ s.ps.length) ∧ (OL = (s.ps.take k).eraseIdx i) ∧ (OL.length ≤ k) ∧ (Sl 63 4 (.slice A3 OL.length c3) OL.length (pc OL) Io) ∧ Tm ac 29 [(1, .int .i64 (i : Int)), (2, .pointer (some ⟨g1, 0, none⟩)), (4, .pointer (some ⟨g2, 0, none⟩)), (5, .slice A s.ps.length d), (6, .int .i64 (k : Int))] ∧ Mem w noEx wc ((g2, .cells [.int .i64 0, .int .i64 0, .int .i64 0, .int .i64 0, .int .i64 0, .int .i64 0, .slice none 0 0]) :: (g1, .cells [.int .i64 s.lo, .int .i64 s.wi, .int .i64 s.a0, .int .i64 s.a1, .int .i64 s.c0, .int .i64 s.c1, .slice A3 OL.length c3]) :: Io)) ?_ ?_
 ·exact ⟨_, 0, [], none, 0, [], rfl, (Nat.zero_le _), rfl, (Nat.zero_le _), (Sl.nil _ _), T.pick [4, 3, 2, 1, 0] rfl, M.mask [true, true] rfl⟩
 clear T M
 rintro mz ac wc ⟨k, OL, A3, c3, Io, hmm1, hk, hO, hOl, hsl, T, M⟩
 refine wp_seq ?_
 refine Zsr ?_
 refine Zg4 T (Zq (Zrm rfl (T.e 4 rfl))) rfl (Zm 4 rfl rfl) rfl (Zl Tryd.underlying24 0 rfl rfl) rfl (fun _ T => Zq (rn_lss rfl (T.e 2 rfl) (T.e 0 rfl))) rfl ?_; clear T ac; intro ac T
 refine wpList_nil ?_
 replace T := T.pick [0, 4, 5, 6, 7, 8] rfl
 refine nm_then ?_
 refine wp_if (T.e 0 rfl) ?_ ?_
 ·intro h1
  obtain ⟨p, hkp, -⟩ := pc_next (l := s.ps) (k := k) (by omega)
  refine Zsk ?_
  refine wp_seq ?_
  refine wp_block ?_
  refine Zsr ?_
  refine Zg3 T (Zq (Zrm rfl (T.e 5 rfl))) rfl (Zm 2 rfl rfl) rfl (fun _ T => Zq (rn_neq rfl (T.e 1 rfl) (T.e 0 rfl))) rfl ?_; clear T ac; intro ac T
  refine wpList_nil ?_
  replace T := T.pick [0, 4, 5, 6, 7, 8] rfl
  refine nm_then ?_
  refine wp_ifn (T.e 0 rfl) ?_ ?_
  ·intro h2
   refine Zgs M (M.perm [0] rfl rfl) 10 (by kernel_rfl) rfl (by kernel_rfl) ?_
   clear M; intro wc M
   refine g_addG 9 (M.perm [0, 1] rfl rfl) ?_
   refine gq (v := (.pointer (some ⟨g1, 6, none⟩))) T 0 1 rfl (fun _ _ _ _ _ => (Zrf (off := 6) rfl (T.e 2 rfl) (fun _ _ _ => by kernel_rfl))) ?_; clear T ac; intro ac T
   refine gq T 1 3 rfl (fun B w' hD hl hS => (Zro (Mem.nth (show Mem w noEx w' _ from ((MA.lft hS) (hD.wait (i := 1) (m := 9) (by kernel_rfl) hl))) 1 rfl) rfl (T.e 0 rfl) rfl)) ?_; clear T ac; intro ac T
   refine gq T 2 7 rfl (fun _ _ _ _ _ => (Zrm rfl (T.e 6 rfl))) ?_; clear T ac; intro ac T
   refine gq T 3 15 rfl (fun _ _ _ _ _ => (Zrm rfl (T.e 8 rfl))) ?_; clear T ac; intro ac T
   refine gq T 4 31 rfl (fun _ _ _ _ _ => (Zri (size := 4) k rfl (T.e 1 rfl) (T.e 0 rfl) ⟨_, Tryd.underlying24, by kernel_rfl⟩ rfl (by omega) (SA.at0 (by omega)))) ?_; clear T ac; intro ac T
   refine gq (v := (.agg #[.int .i64 p.l, .int .i64 p.w, .bool p.gr, .int .i64 p.pa])) T 5 63 rfl (fun B w' hD hl hS => (rn_rowat (Sp.pcR SA (show Mem w noEx w' _ from ((MA.lft hS) (hD.wait (i := 5) (m := 9) (by kernel_rfl) hl))) (List.nil_sublist _) hkp) rfl (T.e 0 rfl) rfl)) ?_; clear T ac; intro ac T
   refine gw 6 127 ?_; intro K hK
   refine ow_bs (e := 63) [.int .i64 p.l, .int .i64 p.w, .bool p.gr, .int .i64 p.pa] M T rfl rfl rfl rfl (.cons (T.e 0 rfl) .nil) (fun _ => by kernel_rfl) ?_; clear M T; intro g3 wc ac M T
   refine Zso hK _ _ (MA.mk (fun _ => M.perm [1, 2] rfl rfl) (M.perm [1] rfl rfl)) ?_; clear hK K
   refine gw 7 255 ?_; intro K hK
   refine ow_app ([(g3, .cells [.int .i64 p.l, .int .i64 p.w, .bool p.gr, .int .i64 p.pa]), (g2, .cells [.int .i64 0, .int .i64 0, .int .i64 0, .int .i64 0, .int .i64 0, .int .i64 0, .slice none 0 0]), (g1, .cells [.int .i64 s.lo, .int .i64 s.wi, .int .i64 s.a0, .int .i64 s.a1, .int .i64 s.c0, .int .i64 s.c1, .slice A3 OL.length c3])]) Tryd.info63 hsl M (by first | rfl | simp) T rfl rfl rfl rfl Tryd.underlying24 rfl rfl rfl (by omega) (T.e 5 rfl) (T.e 0 rfl) (Zne (i := 0) rfl) rfl rfl ?_; clear M T; intro ga1 cga1 wc ac M T
   refine Zso hK _ _ (MA.mk (fun _ => M.mask [false, false, true, true] rfl) (M.mask [false, false, true, false] rfl)) ?_; clear hK K
   have e9 : OL.length + 1 = (OL ++ [p]).length := by simp
   have e8 : ((pc OL) ++ [.int .i64 p.l, .int .i64 p.w, .bool p.gr, .int .i64 p.pa]) = pc (OL ++ [p]) := by rw [← pc_snoc]
   rw [e9, e8] at M
   rw [e9] at T
   clear e9 e8
   refine gq (v := (.pointer (some ⟨g1, 6, none⟩))) T 8 511 rfl (fun _ _ _ _ _ => (Zrf (off := 6) rfl (T.e 10 rfl) (fun _ _ _ => by kernel_rfl))) ?_; clear T ac; intro ac T
   refine gw 9 1023 ?_; intro K hK
   refine Zos M T rfl rfl (T.e 0 rfl) (T.e 1 rfl) rfl (.tail (.tail (.tail .head))) rfl (by simp) rfl (by kernel_rfl) ?_; clear M T; intro wc ac M T
   refine Zso hK _ _ (MA.mk (fun h => (no_of (by kernel_rfl) h).elim) (M.mask [false, false, true, false] rfl)) ?_; clear hK K
   refine Zgd (by kernel_rfl) ?_
   replace T := T.pick [10, 11, 12, 13, 14] rfl
   replace M := M.mask [true, false, true, true] rfl
   refine Znb ?_
   refine nm_then ?_
   refine wp_region_lit ?_
   refine Zg2 T (Zq (Zrm rfl (T.e 4 rfl))) rfl (fun _ T => Zq (rn_add rfl (T.e 0 rfl) evc (by omega))) rfl ?_; clear T ac; intro ac T
   refine l_q (v := (.int .i64 ((k : Int) + 1))) (T.pick [0, 1, 2, 3, 4, 5] rfl) rfl rfl rfl rfl (Zra rfl (T.e 0 rfl)) ?_; clear T ac; intro ac T
   refine wpList_nil ?_
   replace T := T.pick [0, 3, 4, 5, 6] rfl
   refine nm_then ?_
   exact ⟨_, by omega, k + 1, (OL ++ [p]), _, cga1, [(ga1, .row 63 4 (OL ++ [p]).length (pc (OL ++ [p])) cga1)], rfl, (by omega), (by rw [hO]; exact ((erase_take hkp).1 (by omega)).symm), (by simp; omega), (Sl.row _ _ _ _ _ _), T.pick [1, 2, 3, 4, 0] rfl, M.perm [1, 2, 0] rfl rfl⟩
  intro h2
  refine wp_skip ?_
  refine Znb ?_
  refine nm_then ?_
  refine wp_region_lit ?_
  refine Zg2 T (Zq (Zrm rfl (T.e 5 rfl))) rfl (fun _ T => Zq (rn_add rfl (T.e 0 rfl) evc (by omega))) rfl ?_; clear T ac; intro ac T
  refine l_q (v := (.int .i64 ((k : Int) + 1))) (T.pick [0, 1, 2, 3, 4, 5, 6] rfl) rfl rfl rfl rfl (Zra rfl (T.e 0 rfl)) ?_; clear T ac; intro ac T
  refine wpList_nil ?_
  replace T := T.pick [0, 4, 5, 6, 7] rfl
  refine nm_then ?_
  exact ⟨_, by omega, k + 1, OL, _, _, Io, rfl, (by omega), (by rw [hO]; exact ((erase_take hkp).2 (by omega)).symm), (by omega), hsl, T.pick [1, 2, 3, 4, 0] rfl, M.mask [true, true] rfl⟩
 intro h1
 refine wp_exit ?_
 refine Zet ?_
 refine Zet ?_
 refine ex_hit ?_
 refine nm_then ?_
 refine Zsr ?_
 refine lq T (Zrr (Mem.nth M 1 rfl) rfl (T.e 2 rfl) rfl) ?_; clear T ac; intro ac T
 refine Zl2 ?_
 refine Zos M T rfl rfl (T.e 4 rfl) (T.e 0 rfl) rfl .head rfl (by simp) rfl (by kernel_rfl) ?_; clear M T; intro wc ac M T
 refine wpList_nil ?_
 replace T := T.pick [4] rfl
 replace M := M.mask [true, false] rfl
 refine Znr ?_
 refine rt_c M T rfl (T.e 0 rfl) (Zne (i := 0) rfl) rfl ?_
 have e9 : OL = (skW s i).ps := by rw [hO, List.take_of_length_le (by omega)]; rfl
 have hcap := hsl.capLe M (.cons _ (List.Sublist.refl _))
 have hsv := hsl.spV (pc_length _)
 unfold SkPost
 rw [← e9]
 exact ⟨A3, c3, Io, rfl, hcap, hsv, M.mask [false] rfl⟩
theorem with_any (s : Sk) (A : Option Addr) (d : Nat) (p : Pt) (m : Nat)  (w : World) (hA : Rd w w.heap.size 4 A s.ps.length (pc s.ps)) (nA : s.ps.length ≤ 1000000) (hm : m ≤ 1000) (nB : s.ps.length ≤ 10000)  :
   Calls Tryd.prog 42 #[.agg #[.int .i64 s.lo, .int .i64 s.wi, .int .i64 s.a0, .int .i64 s.a1, .int .i64 s.c0, .int .i64 s.c1, .slice A s.ps.length d], .agg #[.int .i64 p.l, .int .i64 p.w, .bool p.gr, .int .i64 p.pa], .int .i64 (m : Int)] w (SkPost (skA s p m) w) := by
 obtain ⟨bA, oA, SA⟩ := Sp.old hA
 refine Zpx noEx Tryd.func42 rfl 25 rfl [.agg #[.int .i64 s.lo, .int .i64 s.wi, .int .i64 s.a0, .int .i64 s.a1, .int .i64 s.c0, .int .i64 s.c1, .slice A s.ps.length d], .agg #[.int .i64 p.l, .int .i64 p.w, .bool p.gr, .int .i64 p.pa], .int .i64 (m : Int)] rfl rfl (Mem.init w _) ?_
 intro ac wc T M
 refine Zsr ?_
 refine Zl2 ?_
 refine Zob M T rfl rfl rfl rfl (T.e 0 rfl) rfl ?_; clear M T; intro g1 wc ac M T
 refine Zl2 ?_
 refine Zob M T rfl rfl rfl rfl (T.e 2 rfl) rfl ?_; clear M T; intro g2 wc ac M T
 refine Zl2 ?_
 refine Zoa M T rfl rfl rfl rfl ?_; clear M T; intro g3 wc ac M T
 refine wpList_nil ?_
 replace T := T.pick [0, 1, 2, 5] rfl
 refine nm_then ?_
 refine Zsr ?_
 refine Zl2 ?_
 refine ow_bs0 (e := 63) M T rfl rfl rfl rfl (fun _ => by kernel_rfl) ?_; clear M T; intro g4 wc ac M T
 refine Zg2 (v1 := (.pointer (some ⟨g1, 6, none⟩))) T (Zq (Zrf (off := 6) rfl (T.e 3 rfl) (fun _ _ _ => by kernel_rfl))) rfl (Zo M 3 0 rfl rfl rfl rfl) rfl ?_; clear T ac; intro ac T
 refine Zl2 ?_
 refine ow_appS Tryd.info63 M T rfl rfl rfl rfl (fun g w => Tryd.append0_24 _ _ g _ w) Tryd.underlying24 rfl rfl rfl (by omega) (T.e 2 rfl) (T.e 0 rfl) (SA.rd M (List.nil_sublist _)) (pc_one _) ?_; clear M T; intro Augo1 cugo1 Iugo1 wc ac hSmgo1 M T
 replace M : Mem w noEx wc ((g3, .cells [.int .i64 0, .int .i64 0, .int .i64 0, .int .i64 0, .int .i64 0, .int .i64 0, .slice none 0 0]) :: (g2, .cells [.int .i64 p.l, .int .i64 p.w, .bool p.gr, .int .i64 p.pa]) :: (g1, .cells [.int .i64 s.lo, .int .i64 s.wi, .int .i64 s.a0, .int .i64 s.a1, .int .i64 s.c0, .int .i64 s.c1, .slice A s.ps.length d]) :: Iugo1) := M.swapI
 refine lq (v := (.pointer (some ⟨g1, 6, none⟩))) T (Zrf (off := 6) rfl (T.e 6 rfl) (fun _ _ _ => by kernel_rfl)) ?_; clear T ac; intro ac T
 refine Zl2 ?_
 refine Zos M T rfl rfl (T.e 0 rfl) (T.e 1 rfl) rfl (.tail (.tail .head)) rfl (by simp) rfl (by kernel_rfl) ?_; clear M T; intro wc ac M T
 refine wpList_nil ?_
 replace T := T.pick [5, 6, 7, 8] rfl
 refine Zns ?_
 refine Zsr ?_
 refine lq T (Zra rfl evc) ?_; clear T ac; intro ac T
 refine Zln ?_
 refine wp_block ?_
 refine wp_loop_n (fun mz ac wc => ∃ (k : Nat) (OL : List Pt) (A3 : Option Addr) (c3 : Nat) (Io : List (Nat × BA)), mz = m - k ∧ (k ≤ m) ∧ (OL = s.ps ++ List.replicate k p) ∧ (OL.length = s.ps.length + k) ∧ (Cl 63 4 A3 OL.length c3 (pc OL) Io) ∧ Tm ac 25 [(2, .int .i64 (m : Int)), (3, .pointer (some ⟨g1, 0, none⟩)), (4, .pointer (some ⟨g2, 0, none⟩)), (6, .pointer (some ⟨g3, 0, none⟩)), (7, .int .i64 (k : Int))] ∧ Mem w noEx wc ((g3, .cells [.int .i64 0, .int .i64 0, .int .i64 0, .int .i64 0, .int .i64 0, .int .i64 0, .slice none 0 0]) :: (g2, .cells [.int .i64 p.l, .int .i64 p.w, .bool p.gr, .int .i64 p.pa]) :: (g1, .cells [.int .i64 s.lo, .int .i64 s.wi, .int .i64 s.a0, .int .i64 s.a1, .int .i64 s.c0, .int .i64 s.c1, .slice A3 OL.length c3]) :: Io)) ?_ ?_
 ·exact ⟨_, 0, s.ps, Augo1, cugo1, Iugo1, rfl, (Nat.zero_le _), (by simp), rfl, (.inr hSmgo1), T.pick [4, 3, 2, 1, 0] rfl, M.mask [true, true, true] rfl⟩
 clear T M
 rintro mz ac wc ⟨k, OL, A3, c3, Io, hmm1, hk, hO, hOl, hcl, T, M⟩
 refine wp_seq ?_
 refine Zsr ?_
 refine Zg3 T (Zq (Zrm rfl (T.e 4 rfl))) rfl (Zm 1 rfl rfl) rfl (fun _ T => Zq (rn_lss rfl (T.e 1 rfl) (T.e 0 rfl))) rfl ?_; clear T ac; intro ac T
 refine wpList_nil ?_
 replace T := T.pick [0, 3, 4, 5, 6, 7] rfl
 refine nm_then ?_
 refine wp_if (T.e 0 rfl) ?_ ?_
 ·intro h1
  refine Zsk ?_
  refine wp_seq ?_
  refine wp_block ?_
  refine wp_region_lit ?_
  refine Zg3 (v1 := (.pointer (some ⟨g1, 6, none⟩))) T (Zq (Zrf (off := 6) rfl (T.e 2 rfl) (fun _ _ _ => by kernel_rfl))) rfl (Zo M 2 0 rfl rfl rfl rfl) rfl (Zr M 1 5 rfl rfl rfl rfl) rfl ?_; clear T ac; intro ac T
  refine Zl2 ?_
  refine ow_bs (e := 63) [.int .i64 p.l, .int .i64 p.w, .bool p.gr, .int .i64 p.pa] M T rfl rfl rfl rfl (.cons (T.e 0 rfl) .nil) (fun _ => by kernel_rfl) ?_; clear M T; intro g5 wc ac M T
  refine Zl2 ?_
  refine ow_appC ([(g5, .cells [.int .i64 p.l, .int .i64 p.w, .bool p.gr, .int .i64 p.pa]), (g3, .cells [.int .i64 0, .int .i64 0, .int .i64 0, .int .i64 0, .int .i64 0, .int .i64 0, .slice none 0 0]), (g2, .cells [.int .i64 p.l, .int .i64 p.w, .bool p.gr, .int .i64 p.pa]), (g1, .cells [.int .i64 s.lo, .int .i64 s.wi, .int .i64 s.a0, .int .i64 s.a1, .int .i64 s.c0, .int .i64 s.c1, .slice A3 OL.length c3])]) Tryd.info63 hcl M (by first | rfl | simp) T rfl rfl rfl rfl Tryd.underlying24 rfl rfl rfl (by omega) (T.e 2 rfl) (T.e 0 rfl) (Zne (i := 0) rfl) rfl rfl ?_; clear M T; intro ga1 cga1 wc ac M T
  have e9 : OL.length + 1 = (OL ++ [p]).length := by simp
  have e8 : ((pc OL) ++ [.int .i64 p.l, .int .i64 p.w, .bool p.gr, .int .i64 p.pa]) = pc (OL ++ [p]) := by rw [← pc_snoc]
  rw [e9, e8] at M
  rw [e9] at T
  clear e9 e8
  refine lq (v := (.pointer (some ⟨g1, 6, none⟩))) T (Zrf (off := 6) rfl (T.e 7 rfl) (fun _ _ _ => by kernel_rfl)) ?_; clear T ac; intro ac T
  refine Zl2 ?_
  refine Zos M T rfl rfl (T.e 0 rfl) (T.e 1 rfl) rfl (.tail (.tail (.tail (.tail .head)))) rfl (by simp) rfl (by kernel_rfl) ?_; clear M T; intro wc ac M T
  refine wpList_nil ?_
  replace T := T.pick [7, 8, 9, 10, 11] rfl
  replace M := M.mask [true, false, true, true, true] rfl
  refine Znb ?_
  refine nm_then ?_
  refine wp_region_lit ?_
  refine Zg2 T (Zq (Zrm rfl (T.e 4 rfl))) rfl (fun _ T => Zq (rn_add rfl (T.e 0 rfl) evc (by omega))) rfl ?_; clear T ac; intro ac T
  refine l_q (v := (.int .i64 ((k : Int) + 1))) (T.pick [0, 1, 2, 3, 4, 5] rfl) rfl rfl rfl rfl (Zra rfl (T.e 0 rfl)) ?_; clear T ac; intro ac T
  refine wpList_nil ?_
  replace T := T.pick [0, 3, 4, 5, 6] rfl
  refine nm_then ?_
  exact ⟨_, by omega, k + 1, (OL ++ [p]), _, cga1, [(ga1, .row 63 4 (OL ++ [p]).length (pc (OL ++ [p])) cga1)], rfl, (by omega), (by rw [hO, List.replicate_succ', List.append_assoc]), (by simp; omega), (Cl.row _ _ _ _ _ _), T.pick [1, 2, 3, 4, 0] rfl, M.perm [1, 2, 3, 0] rfl rfl⟩
 intro h1
 refine wp_exit ?_
 refine Zet ?_
 refine Zet ?_
 refine ex_hit ?_
 refine nm_then ?_
 refine Zsr ?_
 refine lq T (Zrr (Mem.nth M 2 rfl) rfl (T.e 2 rfl) rfl) ?_; clear T ac; intro ac T
 refine Zl2 ?_
 refine Zos M T rfl rfl (T.e 5 rfl) (T.e 0 rfl) rfl .head rfl (by simp) rfl (by kernel_rfl) ?_; clear M T; intro wc ac M T
 refine wpList_nil ?_
 replace T := T.pick [5] rfl
 replace M := M.mask [true, false, false] rfl
 refine Znr ?_
 refine rt_c M T rfl (T.e 0 rfl) (Zne (i := 0) rfl) rfl ?_
 have e9 : OL = (skA s p m).ps := by rw [hO, show k = m by omega]; rfl
 have hcap := hcl.capLe M (.cons _ (List.Sublist.refl _))
 have hsv := hcl.spV (pc_length _)
 unfold SkPost
 rw [← e9]
 exact ⟨A3, c3, Io, rfl, hcap, hsv, M.mask [false] rfl⟩
open Go.RowKit
theorem fits8_any (n lo hi : Int) (w : World)  :
   Calls Tryd.prog 75 #[.int .i64 n, .int .i64 lo, .int .i64 hi] w fun e w' => e = .returned (.bool (withinB n lo hi)) ∧ Below w.heap.size w w' := by
 refine Zpx noEx Tryd.func75 rfl 15 rfl [.int .i64 n, .int .i64 lo, .int .i64 hi] rfl rfl (Mem.init w _) ?_
 intro ac wc T M
 refine Zsr ?_
 refine lq T (Zra rfl evc) ?_; clear T ac; intro ac T
 refine wpList_nil ?_
 replace T := T.pick [1, 2, 3] rfl
 refine nm_then ?_
 refine cut_seq (fun ac wc => Tm ac 15 [(6, .bool ((decide (lo ≤ n)) && (decide (n ≤ hi))))] ∧ Mem w noEx wc []) ?_ ?_
 ·refine wp_region_lit ?_
  refine Zg4 T (Zq (Zrm rfl (T.e 1 rfl))) rfl (Zm 1 rfl rfl) rfl (fun _ T => Zq (rn_leq rfl (T.e 1 rfl) (T.e 0 rfl))) rfl (Zm 0 rfl rfl) rfl ?_; clear T ac; intro ac T
  rcases Bool.eq_false_or_eq_true (decide (lo ≤ n)) with h1 | h1
  ·replace h1 := of_decide_eq_true h1
   refine Zg5 T (Zw (Zwy rfl rfl (T.e 0 rfl) (Zdt h1)) (Zrm rfl (T.e 4 rfl))) rfl (fun _ T => Zw (Zwy rfl rfl (T.e 1 rfl) (Zdt h1)) (Zrm rfl (T.e 7 rfl))) rfl (fun _ T => Zw (Zwy rfl rfl (T.e 2 rfl) (Zdt h1)) (rn_leq rfl (T.e 1 rfl) (T.e 0 rfl))) rfl (fun _ T => Zq (Zr1 rfl (T.e 3 rfl) (Zdt h1) (T.e 0 rfl))) rfl (Za 0 rfl rfl) rfl ?_; clear T ac; intro ac T
   refine wpList_nil ?_
   replace T := T.pick [0] rfl
   exact ⟨(T.pick (E' := [(6, .bool (decide (n ≤ hi)))]) [0] rfl).as (by (try rw [show (decide (lo ≤ n)) = true from (Zdt h1)]); (try rfl)), M.mask [] rfl⟩
  replace h1 := of_decide_eq_false h1
  refine Zg5 T (Zp (Zwn rfl rfl (T.e 0 rfl) (Zdf h1))) rfl (fun _ T => Zp (Zwn rfl rfl (T.e 1 rfl) (Zdf h1))) rfl (fun _ T => Zp (Zwn rfl rfl (T.e 2 rfl) (Zdf h1))) rfl (fun _ T => Zq (Zr0 rfl (T.e 3 rfl) (Zdf h1) evc)) rfl (Za 0 rfl rfl) rfl ?_; clear T ac; intro ac T
  refine wpList_nil ?_
  replace T := T.pick [0] rfl
  exact ⟨(T.pick (E' := [(6, .bool false)]) [0] rfl).as (by (try rw [show (decide (lo ≤ n)) = false from (Zdf h1)]); (try rfl)), M.mask [] rfl⟩
 clear T M
 rintro ac wc ⟨T, M⟩
 refine wp_ret ?_
 refine rt_1 T rfl (T.e 0 rfl) ?_
 exact ⟨ret_bool (by unfold withinB; simp), M.below⟩
theorem checkShrink8_any (x y : Int) (w : World)  :
   Calls Tryd.prog 96 #[.agg #[.int .i64 x, .int .i64 y]] w fun e w' => e = .returned (.int .i64 (chkR x y 0 2)) ∧ Below w.heap.size w w' := by
 refine Zpx noEx Tryd.func96 rfl 18 rfl [.agg #[.int .i64 x, .int .i64 y]] rfl rfl (Mem.init w _) ?_
 intro ac wc T M
 refine Zsr ?_
 refine Zl2 ?_
 refine Zob M T rfl rfl rfl rfl (T.e 0 rfl) rfl ?_; clear M T; intro g1 wc ac M T
 refine lq T (Zra rfl evc) ?_; clear T ac; intro ac T
 refine wpList_nil ?_
 replace T := T.pick [1] rfl
 refine Zns ?_
 refine cut_seq (fun ac wc => Tm ac 18 [(1, .pointer (some ⟨g1, 0, none⟩)), (12, .bool ((!(withinB x 0 2)) || (!(withinB y 0 2))))] ∧ Mem w noEx wc [(g1, .cells [.int .i64 x, .int .i64 y])]) ?_ ?_
 ·refine wp_region_lit ?_
  refine Zg2 (v1 := (.pointer (some ⟨g1, 0, none⟩))) T (Zq (Zrf (off := 0) rfl (T.e 0 rfl) (fun _ _ _ => by kernel_rfl))) rfl (Zo M 0 0 rfl rfl rfl rfl) rfl ?_; clear T ac; intro ac T
  refine Zl2 ?_
  refine Zoc (first := []) (cap := []) T rfl rfl rfl rfl evf (.cons (T.e 0 rfl) (.cons evc (.cons evc .nil))) Tryd.func75 rfl rfl ?_
  refine Calls.mono (fits8_any x 0 2 _) ?_
  clear T; rintro e wc ⟨rfl, hb⟩ ac T
  replace M := M.call hb; clear hb
  refine Zg2 T (Zq (rn_not rfl (T.e 0 rfl))) rfl (Zm 0 rfl rfl) rfl ?_; clear T ac; intro ac T
  rcases Bool.eq_false_or_eq_true (!(withinB x 0 2)) with h1 | h1
  ·refine Zg5 T (Zp (Zwn rfl rfl (T.e 0 rfl) h1)) rfl (fun _ T => Zp (Zwn rfl rfl (T.e 1 rfl) h1)) rfl (fun _ T => Zp (Zwn rfl rfl (T.e 2 rfl) h1)) rfl (fun _ T => Zp (Zwn rfl rfl (T.e 3 rfl) h1)) rfl (fun _ T => Zq (Zr1 rfl (T.e 4 rfl) h1 evc)) rfl ?_; clear T ac; intro ac T
   refine wpList_nil ?_
   replace T := T.pick [0, 10] rfl
   exact ⟨(T.pick (E' := [(1, .pointer (some ⟨g1, 0, none⟩)), (12, .bool true)]) [1, 0] rfl).as (by (try rw [show (!(withinB x 0 2)) = true from h1]); (try rfl)), M.mask [true] rfl⟩
  refine Zg2 (v1 := (.pointer (some ⟨g1, 1, none⟩))) T (Zw (Zwy rfl rfl (T.e 0 rfl) h1) (Zrf (off := 1) rfl (T.e 5 rfl) (fun _ _ _ => by kernel_rfl))) rfl (fun _ T => Zw (Zwy rfl rfl (T.e 1 rfl) h1) (Zro (Mem.nth M 0 rfl) rfl (T.e 0 rfl) rfl)) rfl ?_; clear T ac; intro ac T
  refine l_w (Zwy rfl rfl (T.e 2 rfl) h1) ?_; intro K hK
  refine Zoc (first := []) (cap := []) T rfl rfl rfl rfl evf (.cons (T.e 0 rfl) (.cons evc (.cons evc .nil))) Tryd.func75 rfl rfl ?_
  refine Calls.mono (fits8_any y 0 2 _) ?_
  clear T; rintro e wc ⟨rfl, hb⟩ ac T
  replace M := M.call hb; clear hb
  refine Zso hK _ _ ?_; clear hK K
  refine Zg2 T (Zw (Zwy rfl rfl (T.e 3 rfl) h1) (rn_not rfl (T.e 0 rfl))) rfl (fun _ T => Zq (Zr0 rfl (T.e 4 rfl) h1 (T.e 0 rfl))) rfl ?_; clear T ac; intro ac T
  refine wpList_nil ?_
  replace T := T.pick [0, 10] rfl
  exact ⟨(T.pick (E' := [(1, .pointer (some ⟨g1, 0, none⟩)), (12, .bool (!(withinB y 0 2)))]) [1, 0] rfl).as (by (try rw [show (!(withinB x 0 2)) = false from h1]); (try rfl)), M.mask [true] rfl⟩
 clear T M
 rintro ac wc ⟨T, M⟩
 refine wp_cond_split (T.e 1 rfl) ?_ ?_
 ·intro h2
  (have h2' := h2; try simp only [Zb1, Zb2, Zb3, Zb4, Zb5, Zb6, Zb7] at h2')
  refine Zsr ?_
  refine lq T (Zra rfl evc) ?_; clear T ac; intro ac T
  refine wpList_nil ?_
  replace T := T.pick [0] rfl
  replace M := M.mask [false] rfl
  refine Znr ?_
  refine Zrt ?_
  refine rt_1 T rfl (T.e 0 rfl) ?_
  refine ⟨ret_int ?_, M.below⟩
  unfold chkR
  (repeat' split) <;> first | rfl | omega | contradiction | (simp_all; done) | (simp_all; omega)
 intro h2
 (have h2' := h2; try simp only [Zb1, Zb2, Zb3, Zb4, Zb5, Zb6, Zb7] at h2')
 refine Zsk ?_
 refine wp_seq ?_
 refine Zsr ?_
 refine Zg5 (v1 := (.pointer (some ⟨g1, 0, none⟩))) (v3 := (.pointer (some ⟨g1, 1, none⟩))) T (Zq (Zrf (off := 0) rfl (T.e 0 rfl) (fun _ _ _ => by kernel_rfl))) rfl (Zo M 0 0 rfl rfl rfl rfl) rfl (Zf 1 2 rfl rfl) rfl (Zo M 0 0 rfl rfl rfl rfl) rfl (fun _ T => Zq (rn_gtr rfl (T.e 2 rfl) (T.e 0 rfl))) rfl ?_; clear T ac; intro ac T
 refine wpList_nil ?_
 replace T := T.pick [0] rfl
 replace M := M.mask [false] rfl
 refine nm_then ?_
 refine wp_if (T.e 0 rfl) ?_ ?_
 ·intro h3
  refine Zsr ?_
  refine lq T (Zra rfl evc) ?_; clear T ac; intro ac T
  refine wpList_nil ?_
  replace T := T.pick [0] rfl
  refine Znr ?_
  refine Zrt ?_
  refine rt_1 T rfl (T.e 0 rfl) ?_
  refine ⟨ret_int ?_, M.below⟩
  unfold chkR
  (repeat' split) <;> first | rfl | omega | contradiction | (simp_all; done) | (simp_all; omega)
 intro h3
 refine Zsk ?_
 refine Zsr ?_
 refine lq T (Zra rfl evc) ?_; clear T ac; intro ac T
 refine wpList_nil ?_
 replace T := T.pick [0] rfl
 refine Znr ?_
 refine rt_1 T rfl (T.e 0 rfl) ?_
 refine ⟨ret_int ?_, M.below⟩
 unfold chkR
 (repeat' split) <;> first | rfl | omega | contradiction | (simp_all; done) | (simp_all; omega)
theorem checkPart8_any (p : Pt) (w : World)  :
   Calls Tryd.prog 93 #[.agg #[.int .i64 p.l, .int .i64 p.w, .bool p.gr, .int .i64 p.pa]] w fun e w' => e = .returned (.int .i64 (ptErr p)) ∧ Below w.heap.size w w' := by
 refine Zpx noEx Tryd.func93 rfl 19 rfl [.agg #[.int .i64 p.l, .int .i64 p.w, .bool p.gr, .int .i64 p.pa]] rfl rfl (Mem.init w _) ?_
 intro ac wc T M
 refine Zsr ?_
 refine Zl2 ?_
 refine Zob M T rfl rfl rfl rfl (T.e 0 rfl) rfl ?_; clear M T; intro g1 wc ac M T
 refine lq T (Zra rfl evc) ?_; clear T ac; intro ac T
 refine wpList_nil ?_
 replace T := T.pick [1] rfl
 refine Zns ?_
 refine cut_seq (fun ac wc => Tm ac 19 [(18, .bool ((!(withinB p.l 1 12)) || ((!(withinB p.w 1 12)) || (!(withinB p.pa 0 3)))))] ∧ Mem w noEx wc []) ?_ ?_
 ·refine wp_region_lit ?_
  refine Zg2 (v1 := (.pointer (some ⟨g1, 0, none⟩))) T (Zq (Zrf (off := 0) rfl (T.e 0 rfl) (fun _ _ _ => by kernel_rfl))) rfl (Zo M 0 0 rfl rfl rfl rfl) rfl ?_; clear T ac; intro ac T
  refine Zl2 ?_
  refine Zoc (first := []) (cap := []) T rfl rfl rfl rfl evf (.cons (T.e 0 rfl) (.cons evc (.cons evc .nil))) Tryd.func75 rfl rfl ?_
  refine Calls.mono (fits8_any p.l 1 12 _) ?_
  clear T; rintro e wc ⟨rfl, hb⟩ ac T
  replace M := M.call hb; clear hb
  refine Zg2 T (Zq (rn_not rfl (T.e 0 rfl))) rfl (Zm 0 rfl rfl) rfl ?_; clear T ac; intro ac T
  rcases Bool.eq_false_or_eq_true (!(withinB p.l 1 12)) with h1 | h1
  ·refine Zg8 T (Zp (Zwn rfl rfl (T.e 0 rfl) h1)) rfl (fun _ T => Zp (Zwn rfl rfl (T.e 1 rfl) h1)) rfl (fun _ T => Zp (Zwn rfl rfl (T.e 2 rfl) h1)) rfl (fun _ T => Zp (Zwn rfl rfl (T.e 3 rfl) h1)) rfl (fun _ T => Zq (Zr1 rfl (T.e 4 rfl) h1 evc)) rfl (Zm 0 rfl rfl) rfl (fun _ T => Zp (Zwn rfl rfl (T.e 0 rfl) rfl)) rfl (fun _ T => Zp (Zwn rfl rfl (T.e 1 rfl) rfl)) rfl ?_; clear T ac; intro ac T
   refine Zg3 T (Zp (Zwn rfl rfl (T.e 2 rfl) rfl)) rfl (fun _ T => Zp (Zwn rfl rfl (T.e 3 rfl) rfl)) rfl (fun _ T => Zq (Zr1 rfl (T.e 4 rfl) rfl evc)) rfl ?_; clear T ac; intro ac T
   refine wpList_nil ?_
   replace T := T.pick [0] rfl
   replace M := M.mask [false] rfl
   exact ⟨(T.pick (E' := [(18, .bool true)]) [0] rfl).as (by (try rw [show (!(withinB p.l 1 12)) = true from h1]); (try rfl)), M.mask [] rfl⟩
  refine Zg2 (v1 := (.pointer (some ⟨g1, 1, none⟩))) T (Zw (Zwy rfl rfl (T.e 0 rfl) h1) (Zrf (off := 1) rfl (T.e 5 rfl) (fun _ _ _ => by kernel_rfl))) rfl (fun _ T => Zw (Zwy rfl rfl (T.e 1 rfl) h1) (Zro (Mem.nth M 0 rfl) rfl (T.e 0 rfl) rfl)) rfl ?_; clear T ac; intro ac T
  refine l_w (Zwy rfl rfl (T.e 2 rfl) h1) ?_; intro K hK
  refine Zoc (first := []) (cap := []) T rfl rfl rfl rfl evf (.cons (T.e 0 rfl) (.cons evc (.cons evc .nil))) Tryd.func75 rfl rfl ?_
  refine Calls.mono (fits8_any p.w 1 12 _) ?_
  clear T; rintro e wc ⟨rfl, hb⟩ ac T
  replace M := M.call hb; clear hb
  refine Zso hK _ _ ?_; clear hK K
  refine Zg3 T (Zw (Zwy rfl rfl (T.e 3 rfl) h1) (rn_not rfl (T.e 0 rfl))) rfl (fun _ T => Zq (Zr0 rfl (T.e 4 rfl) h1 (T.e 0 rfl))) rfl (Zm 0 rfl rfl) rfl ?_; clear T ac; intro ac T
  rcases Bool.eq_false_or_eq_true (!(withinB p.w 1 12)) with h2 | h2
  ·refine Zg5 T (Zp (Zwn rfl rfl (T.e 0 rfl) h2)) rfl (fun _ T => Zp (Zwn rfl rfl (T.e 1 rfl) h2)) rfl (fun _ T => Zp (Zwn rfl rfl (T.e 2 rfl) h2)) rfl (fun _ T => Zp (Zwn rfl rfl (T.e 3 rfl) h2)) rfl (fun _ T => Zq (Zr1 rfl (T.e 4 rfl) h2 evc)) rfl ?_; clear T ac; intro ac T
   refine wpList_nil ?_
   replace T := T.pick [0] rfl
   replace M := M.mask [false] rfl
   exact ⟨(T.pick (E' := [(18, .bool true)]) [0] rfl).as (by (try rw [show (!(withinB p.l 1 12)) = false from h1]); (try rw [show (!(withinB p.w 1 12)) = true from h2]); (try rfl)), M.mask [] rfl⟩
  refine Zg2 (v1 := (.pointer (some ⟨g1, 3, none⟩))) T (Zw (Zwy rfl rfl (T.e 0 rfl) h2) (Zrf (off := 3) rfl (T.e 11 rfl) (fun _ _ _ => by kernel_rfl))) rfl (fun _ T => Zw (Zwy rfl rfl (T.e 1 rfl) h2) (Zro (Mem.nth M 0 rfl) rfl (T.e 0 rfl) rfl)) rfl ?_; clear T ac; intro ac T
  refine l_w (Zwy rfl rfl (T.e 2 rfl) h2) ?_; intro K hK
  refine Zoc (first := []) (cap := []) T rfl rfl rfl rfl evf (.cons (T.e 0 rfl) (.cons evc (.cons evc .nil))) Tryd.func75 rfl rfl ?_
  refine Calls.mono (fits8_any p.pa 0 3 _) ?_
  clear T; rintro e wc ⟨rfl, hb⟩ ac T
  replace M := M.call hb; clear hb
  refine Zso hK _ _ ?_; clear hK K
  refine Zg2 T (Zw (Zwy rfl rfl (T.e 3 rfl) h2) (rn_not rfl (T.e 0 rfl))) rfl (fun _ T => Zq (Zr0 rfl (T.e 4 rfl) h2 (T.e 0 rfl))) rfl ?_; clear T ac; intro ac T
  refine wpList_nil ?_
  replace T := T.pick [0] rfl
  replace M := M.mask [false] rfl
  exact ⟨(T.pick (E' := [(18, .bool (!(withinB p.pa 0 3)))]) [0] rfl).as (by (try rw [show (!(withinB p.l 1 12)) = false from h1]); (try rw [show (!(withinB p.w 1 12)) = false from h2]); (try rfl)), M.mask [] rfl⟩
 clear T M
 rintro ac wc ⟨T, M⟩
 refine wp_cond_split (T.e 0 rfl) ?_ ?_
 ·intro h3
  (have h3' := h3; try simp only [Zb1, Zb2, Zb3, Zb4, Zb5, Zb6, Zb7] at h3')
  refine Zsr ?_
  refine lq T (Zra rfl evc) ?_; clear T ac; intro ac T
  refine wpList_nil ?_
  replace T := T.pick [0] rfl
  refine Znr ?_
  refine Zrt ?_
  refine rt_1 T rfl (T.e 0 rfl) ?_
  refine ⟨ret_int ?_, M.below⟩
  unfold ptErr
  rcases Bool.eq_false_or_eq_true (withinB p.l 1 12) with a1 | a1 <;> rcases Bool.eq_false_or_eq_true (withinB p.w 1 12) with a2 | a2 <;> rcases Bool.eq_false_or_eq_true (withinB p.pa 0 3) with a3 | a3 <;> simp_all
 intro h3
 (have h3' := h3; try simp only [Zb1, Zb2, Zb3, Zb4, Zb5, Zb6, Zb7] at h3')
 refine Zsk ?_
 refine Zsr ?_
 refine lq T (Zra rfl evc) ?_; clear T ac; intro ac T
 refine wpList_nil ?_
 replace T := T.pick [0] rfl
 refine Znr ?_
 refine rt_1 T rfl (T.e 0 rfl) ?_
 refine ⟨ret_int ?_, M.below⟩
 unfold ptErr
 rcases Bool.eq_false_or_eq_true (withinB p.l 1 12) with a1 | a1 <;> rcases Bool.eq_false_or_eq_true (withinB p.w 1 12) with a2 | a2 <;> rcases Bool.eq_false_or_eq_true (withinB p.pa 0 3) with a3 | a3 <;> simp_all
theorem skCheck8_any (s : Sk) (A : Option Addr) (c : Nat)  (w : World) (hA : Rd w w.heap.size 4 A s.ps.length (pc s.ps)) (nA : s.ps.length ≤ 1000000)  :
   Calls Tryd.prog 61 #[.agg #[.int .i64 s.lo, .int .i64 s.wi, .int .i64 s.a0, .int .i64 s.a1, .int .i64 s.c0, .int .i64 s.c1, .slice A s.ps.length c]] w fun e w' => e = .returned (.int .i64 (skErr s)) ∧ Below w.heap.size w w' := by
 obtain ⟨bA, oA, SA⟩ := Sp.old hA
 refine Zpx noEx Tryd.func61 rfl 49 rfl [.agg #[.int .i64 s.lo, .int .i64 s.wi, .int .i64 s.a0, .int .i64 s.a1, .int .i64 s.c0, .int .i64 s.c1, .slice A s.ps.length c]] rfl rfl (Mem.init w _) ?_
 intro ac wc T M
 refine Zsr ?_
 refine Zl2 ?_
 refine Zob M T rfl rfl rfl rfl (T.e 0 rfl) rfl ?_; clear M T; intro g1 wc ac M T
 refine lq T (Zra rfl evc) ?_; clear T ac; intro ac T
 refine wpList_nil ?_
 replace T := T.pick [1] rfl
 refine Zns ?_
 refine cut_seq (fun ac wc => Tm ac 49 [(1, .pointer (some ⟨g1, 0, none⟩)), (16, .bool ((!(withinB s.lo 1 12)) || (!(withinB s.wi 1 12))))] ∧ Mem w noEx wc [(g1, .cells [.int .i64 s.lo, .int .i64 s.wi, .int .i64 s.a0, .int .i64 s.a1, .int .i64 s.c0, .int .i64 s.c1, .slice A s.ps.length c])]) ?_ ?_
 ·refine wp_region_lit ?_
  refine Zg2 (v1 := (.pointer (some ⟨g1, 0, none⟩))) T (Zq (Zrf (off := 0) rfl (T.e 0 rfl) (fun _ _ _ => by kernel_rfl))) rfl (Zo M 0 0 rfl rfl rfl rfl) rfl ?_; clear T ac; intro ac T
  refine Zl2 ?_
  refine Zoc (first := []) (cap := []) T rfl rfl rfl rfl evf (.cons (T.e 0 rfl) (.cons evc (.cons evc .nil))) Tryd.func75 rfl rfl ?_
  refine Calls.mono (fits8_any s.lo 1 12 _) ?_
  clear T; rintro e wc ⟨rfl, hb⟩ ac T
  replace M := M.call hb; clear hb
  refine Zg2 T (Zq (rn_not rfl (T.e 0 rfl))) rfl (Zm 0 rfl rfl) rfl ?_; clear T ac; intro ac T
  rcases Bool.eq_false_or_eq_true (!(withinB s.lo 1 12)) with h1 | h1
  ·refine Zg5 T (Zp (Zwn rfl rfl (T.e 0 rfl) h1)) rfl (fun _ T => Zp (Zwn rfl rfl (T.e 1 rfl) h1)) rfl (fun _ T => Zp (Zwn rfl rfl (T.e 2 rfl) h1)) rfl (fun _ T => Zp (Zwn rfl rfl (T.e 3 rfl) h1)) rfl (fun _ T => Zq (Zr1 rfl (T.e 4 rfl) h1 evc)) rfl ?_; clear T ac; intro ac T
   refine wpList_nil ?_
   replace T := T.pick [0, 10] rfl
   exact ⟨(T.pick (E' := [(1, .pointer (some ⟨g1, 0, none⟩)), (16, .bool true)]) [1, 0] rfl).as (by (try rw [show (!(withinB s.lo 1 12)) = true from h1]); (try rfl)), M.mask [true] rfl⟩
  refine Zg2 (v1 := (.pointer (some ⟨g1, 1, none⟩))) T (Zw (Zwy rfl rfl (T.e 0 rfl) h1) (Zrf (off := 1) rfl (T.e 5 rfl) (fun _ _ _ => by kernel_rfl))) rfl (fun _ T => Zw (Zwy rfl rfl (T.e 1 rfl) h1) (Zro (Mem.nth M 0 rfl) rfl (T.e 0 rfl) rfl)) rfl ?_; clear T ac; intro ac T
  refine l_w (Zwy rfl rfl (T.e 2 rfl) h1) ?_; intro K hK
  refine Zoc (first := []) (cap := []) T rfl rfl rfl rfl evf (.cons (T.e 0 rfl) (.cons evc (.cons evc .nil))) Tryd.func75 rfl rfl ?_
  refine Calls.mono (fits8_any s.wi 1 12 _) ?_
  clear T; rintro e wc ⟨rfl, hb⟩ ac T
  replace M := M.call hb; clear hb
  refine Zso hK _ _ ?_; clear hK K
  refine Zg2 T (Zw (Zwy rfl rfl (T.e 3 rfl) h1) (rn_not rfl (T.e 0 rfl))) rfl (fun _ T => Zq (Zr0 rfl (T.e 4 rfl) h1 (T.e 0 rfl))) rfl ?_; clear T ac; intro ac T
  refine wpList_nil ?_
  replace T := T.pick [0, 10] rfl
  exact ⟨(T.pick (E' := [(1, .pointer (some ⟨g1, 0, none⟩)), (16, .bool (!(withinB s.wi 1 12)))]) [1, 0] rfl).as (by (try rw [show (!(withinB s.lo 1 12)) = false from h1]); (try rfl)), M.mask [true] rfl⟩
 clear T M
 rintro ac wc ⟨T, M⟩
 refine wp_cond_split (T.e 1 rfl) ?_ ?_
 ·intro h2
  (have h2' := h2; try simp only [Zb1, Zb2, Zb3, Zb4, Zb5, Zb6, Zb7] at h2')
  refine Zsr ?_
  refine lq T (Zra rfl evc) ?_; clear T ac; intro ac T
  refine wpList_nil ?_
  replace T := T.pick [0] rfl
  replace M := M.mask [false] rfl
  refine Znr ?_
  refine Zrt ?_
  refine rt_1 T rfl (T.e 0 rfl) ?_
  refine ⟨ret_int ?_, M.below⟩
  unfold skErr
  (repeat' split) <;> first | rfl | omega | contradiction | (simp_all; done) | (simp_all; omega)
 intro h2
 (have h2' := h2; try simp only [Zb1, Zb2, Zb3, Zb4, Zb5, Zb6, Zb7] at h2')
 refine Zsk ?_
 refine wp_seq ?_
 refine Zsr ?_
 refine Zg2 (v1 := (.pointer (some ⟨g1, 2, none⟩))) T (Zq (Zrf (off := 2) rfl (T.e 0 rfl) (fun _ _ _ => by kernel_rfl))) rfl (Zr M 0 0 rfl rfl rfl rfl) rfl ?_; clear T ac; intro ac T
 refine Zl2 ?_
 refine Zoc (first := []) (cap := []) T rfl rfl rfl rfl evf (.cons (T.e 0 rfl) .nil) Tryd.func96 rfl rfl ?_
 refine Calls.mono (checkShrink8_any s.a0 s.a1 _) ?_
 clear T; rintro e wc ⟨rfl, hb⟩ ac T
 replace M := M.call hb; clear hb
 refine lq T (Zra rfl (T.e 0 rfl)) ?_; clear T ac; intro ac T
 refine wpList_nil ?_
 replace T := T.pick [0, 4] rfl
 refine nm_then ?_
 refine Zsr ?_
 refine Zg2 T (Zq (Zrm rfl (T.e 0 rfl))) rfl (fun _ T => Zq (rn_neq rfl (T.e 0 rfl) evc)) rfl ?_; clear T ac; intro ac T
 refine wpList_nil ?_
 replace T := T.pick [0, 2, 3] rfl
 refine nm_then ?_
 refine wp_ifn (T.e 0 rfl) ?_ ?_
 ·intro h3
  refine Zsr ?_
  refine Zg2 T (Zq (Zrm rfl (T.e 1 rfl))) rfl (Za 0 rfl rfl) rfl ?_; clear T ac; intro ac T
  refine wpList_nil ?_
  replace T := T.pick [0] rfl
  replace M := M.mask [false] rfl
  refine Znr ?_
  refine Zrt ?_
  refine rt_1 T rfl (T.e 0 rfl) ?_
  refine ⟨ret_int ?_, M.below⟩
  unfold skErr
  (repeat' split) <;> first | rfl | omega | contradiction | (simp_all; done) | (simp_all; omega)
 intro h3
 refine Zsk ?_
 refine wp_seq ?_
 refine Zsr ?_
 refine Zg2 (v1 := (.pointer (some ⟨g1, 4, none⟩))) T (Zq (Zrf (off := 4) rfl (T.e 2 rfl) (fun _ _ _ => by kernel_rfl))) rfl (Zr M 0 0 rfl rfl rfl rfl) rfl ?_; clear T ac; intro ac T
 refine Zl2 ?_
 refine Zoc (first := []) (cap := []) T rfl rfl rfl rfl evf (.cons (T.e 0 rfl) .nil) Tryd.func96 rfl rfl ?_
 refine Calls.mono (checkShrink8_any s.c0 s.c1 _) ?_
 clear T; rintro e wc ⟨rfl, hb⟩ ac T
 replace M := M.call hb; clear hb
 refine lq T (Zra rfl (T.e 0 rfl)) ?_; clear T ac; intro ac T
 refine wpList_nil ?_
 replace T := T.pick [0, 6] rfl
 refine nm_then ?_
 refine Zsr ?_
 refine Zg2 T (Zq (Zrm rfl (T.e 0 rfl))) rfl (fun _ T => Zq (rn_neq rfl (T.e 0 rfl) evc)) rfl ?_; clear T ac; intro ac T
 refine wpList_nil ?_
 replace T := T.pick [0, 2, 3] rfl
 refine nm_then ?_
 refine wp_ifn (T.e 0 rfl) ?_ ?_
 ·intro h4
  refine Zsr ?_
  refine Zg2 T (Zq (Zrm rfl (T.e 1 rfl))) rfl (Za 0 rfl rfl) rfl ?_; clear T ac; intro ac T
  refine wpList_nil ?_
  replace T := T.pick [0] rfl
  replace M := M.mask [false] rfl
  refine Znr ?_
  refine Zrt ?_
  refine rt_1 T rfl (T.e 0 rfl) ?_
  refine ⟨ret_int ?_, M.below⟩
  unfold skErr
  (repeat' split) <;> first | rfl | omega | contradiction | (simp_all; done) | (simp_all; omega)
 intro h4
 refine Zsk ?_
 refine wp_seq ?_
 refine Zsr ?_
 refine Zg4 (v1 := (.pointer (some ⟨g1, 6, none⟩))) T (Zq (Zrf (off := 6) rfl (T.e 2 rfl) (fun _ _ _ => by kernel_rfl))) rfl (Zo M 0 0 rfl rfl rfl rfl) rfl (Zl Tryd.underlying24 0 rfl rfl) rfl (fun _ T => Zq (rn_gtr rfl (T.e 0 rfl) evc)) rfl ?_; clear T ac; intro ac T
 refine wpList_nil ?_
 replace T := T.pick [0, 6] rfl
 refine nm_then ?_
 refine wp_if (T.e 0 rfl) ?_ ?_
 ·intro h5
  refine Zsr ?_
  refine lq T (Zra rfl evc) ?_; clear T ac; intro ac T
  refine wpList_nil ?_
  replace T := T.pick [0] rfl
  replace M := M.mask [false] rfl
  refine Znr ?_
  refine Zrt ?_
  refine rt_1 T rfl (T.e 0 rfl) ?_
  refine ⟨ret_int ?_, M.below⟩
  unfold skErr
  (repeat' split) <;> first | rfl | omega | contradiction | (simp_all; done) | (simp_all; omega)
 intro h5
 refine Zsk ?_
 refine wp_seq ?_
 refine Zsr ?_
 refine lq T (Zra rfl evc) ?_; clear T ac; intro ac T
 refine wpList_nil ?_
 replace T := T.pick [0, 2] rfl
 refine nm_then ?_
 refine wp_block ?_
 refine wp_loop_n (fun mz ac wc => ∃ (k : Nat), mz = s.ps.length - k ∧ (k ≤ s.ps.length) ∧ (ptsErr s.ps = ptsErr (s.ps.drop k)) ∧ Tm ac 49 [(1, .pointer (some ⟨g1, 0, none⟩)), (5, .int .i64 (k : Int))] ∧ Mem w noEx wc [(g1, .cells [.int .i64 s.lo, .int .i64 s.wi, .int .i64 s.a0, .int .i64 s.a1, .int .i64 s.c0, .int .i64 s.c1, .slice A s.ps.length c])]) ?_ ?_
 ·exact ⟨_, 0, rfl, (Nat.zero_le _), rfl, T.pick [1, 0] rfl, M.mask [true] rfl⟩
 clear T M
 rintro mz ac wc ⟨k, hmm1, hk, H, T, M⟩
 refine wp_seq ?_
 refine Zsr ?_
 refine Zg5 (v2 := (.pointer (some ⟨g1, 6, none⟩))) T (Zq (Zrm rfl (T.e 1 rfl))) rfl (Zf 6 1 rfl rfl) rfl (Zo M 0 0 rfl rfl rfl rfl) rfl (Zl Tryd.underlying24 0 rfl rfl) rfl (fun _ T => Zq (rn_lss rfl (T.e 3 rfl) (T.e 0 rfl))) rfl ?_; clear T ac; intro ac T
 refine wpList_nil ?_
 replace T := T.pick [0, 5, 6] rfl
 refine nm_then ?_
 refine wp_if (T.e 0 rfl) ?_ ?_
 ·intro h6
  obtain ⟨p, hkp, hd⟩ := pc_next (l := s.ps) (k := k) (by omega)
  rw [hd, ptsErr] at H
  refine Zsk ?_
  refine wp_seq ?_
  refine wp_block ?_
  refine Zsr ?_
  refine Zg5 (v1 := (.pointer (some ⟨g1, 6, none⟩))) (v5 := (.agg #[.int .i64 p.l, .int .i64 p.w, .bool p.gr, .int .i64 p.pa])) T (Zq (Zrf (off := 6) rfl (T.e 1 rfl) (fun _ _ _ => by kernel_rfl))) rfl (Zo M 0 0 rfl rfl rfl rfl) rfl (Zm 4 rfl rfl) rfl (fun _ T => Zq (Zri (size := 4) k rfl (T.e 1 rfl) (T.e 0 rfl) ⟨_, Tryd.underlying24, by kernel_rfl⟩ rfl (by omega) (SA.at0 (by omega)))) rfl (fun _ T => Zq (rn_rowat (Sp.pcR SA M (List.nil_sublist _) hkp) rfl (T.e 0 rfl) rfl)) rfl ?_; clear T ac; intro ac T
  refine Zl2 ?_
  refine Zoc (first := []) (cap := []) T rfl rfl rfl rfl evf (.cons (T.e 0 rfl) .nil) Tryd.func93 rfl rfl ?_
  refine Calls.mono (checkPart8_any p _) ?_
  clear T; rintro e wc ⟨rfl, hb⟩ ac T
  replace M := M.call hb; clear hb
  refine lq T (Zra rfl (T.e 0 rfl)) ?_; clear T ac; intro ac T
  refine wpList_nil ?_
  replace T := T.pick [0, 8, 9] rfl
  refine nm_then ?_
  refine Zsr ?_
  refine Zg2 T (Zq (Zrm rfl (T.e 0 rfl))) rfl (fun _ T => Zq (rn_neq rfl (T.e 0 rfl) evc)) rfl ?_; clear T ac; intro ac T
  refine wpList_nil ?_
  replace T := T.pick [0, 2, 3, 4] rfl
  refine nm_then ?_
  refine wp_ifn (T.e 0 rfl) ?_ ?_
  ·intro h7
   refine Zsr ?_
   refine Zg2 T (Zq (Zrm rfl (T.e 1 rfl))) rfl (Za 0 rfl rfl) rfl ?_; clear T ac; intro ac T
   refine wpList_nil ?_
   replace T := T.pick [0] rfl
   replace M := M.mask [false] rfl
   refine Znr ?_
   refine Zrb ?_
   refine Zrt ?_
   refine Zrt ?_
   refine Zrb ?_
   refine Zrt ?_
   refine rt_1 T rfl (T.e 0 rfl) ?_
   rw [if_neg (by omega)] at H
   refine ⟨ret_int ?_, M.below⟩
   unfold skErr
   (repeat' split) <;> first | rfl | omega | contradiction | (simp_all; done) | (simp_all; omega)
  intro h7
  refine wp_skip ?_
  refine Znb ?_
  refine nm_then ?_
  refine wp_region_lit ?_
  refine Zg2 T (Zq (Zrm rfl (T.e 3 rfl))) rfl (fun _ T => Zq (rn_add rfl (T.e 0 rfl) evc (by omega))) rfl ?_; clear T ac; intro ac T
  refine l_q (v := (.int .i64 ((k : Int) + 1))) (T.pick [0, 1, 2, 3, 4] rfl) rfl rfl rfl rfl (Zra rfl (T.e 0 rfl)) ?_; clear T ac; intro ac T
  refine wpList_nil ?_
  replace T := T.pick [0, 5] rfl
  refine nm_then ?_
  rw [if_pos (by omega)] at H
  exact ⟨_, by omega, k + 1, rfl, (by omega), H, T.pick [1, 0] rfl, M.mask [true] rfl⟩
 intro h6
 rw [List.drop_of_length_le (by omega), ptsErr] at H
 refine wp_exit ?_
 refine Zet ?_
 refine Zet ?_
 refine ex_hit ?_
 refine nm_then ?_
 refine Zsr ?_
 refine lq T (Zra rfl evc) ?_; clear T ac; intro ac T
 refine wpList_nil ?_
 replace T := T.pick [0] rfl
 replace M := M.mask [false] rfl
 refine Znr ?_
 refine rt_1 T rfl (T.e 0 rfl) ?_
 refine ⟨ret_int ?_, M.below⟩
 unfold skErr
 (repeat' split) <;> first | rfl | omega | contradiction | (simp_all; done) | (simp_all; omega)
theorem size8_any (s : Sk) (A : Option Addr) (d : Nat) (p : Pt) (t su : Bool)  (w : World) (hsg : s.good) (hpg : p.good)  :
   Calls Tryd.prog 94 #[.agg #[.int .i64 s.lo, .int .i64 s.wi, .int .i64 s.a0, .int .i64 s.a1, .int .i64 s.c0, .int .i64 s.c1, .slice A s.ps.length d], .agg #[.int .i64 p.l, .int .i64 p.w, .bool p.gr, .int .i64 p.pa], .bool t, .bool su] w fun e w' => e = .returned (.tuple #[.int .i64 (sizeL (cutA s su) (cutC s su) p t), .int .i64 (sizeW (cutA s su) (cutC s su) p t)]) ∧ Below w.heap.size w w' := by
 obtain ⟨g1, g2, g3, g4, -, -⟩ := hsg
 obtain ⟨g5, g6, -⟩ := hpg
 refine Zpx noEx Tryd.func94 rfl 42 rfl [.agg #[.int .i64 s.lo, .int .i64 s.wi, .int .i64 s.a0, .int .i64 s.a1, .int .i64 s.c0, .int .i64 s.c1, .slice A s.ps.length d], .agg #[.int .i64 p.l, .int .i64 p.w, .bool p.gr, .int .i64 p.pa], .bool t, .bool su] rfl rfl (Mem.init w _) ?_
 intro ac wc T M
 refine Zsr ?_
 refine Zl2 ?_
 refine Zob M T rfl rfl rfl rfl (T.e 0 rfl) rfl ?_; clear M T; intro g1 wc ac M T
 refine Zl2 ?_
 refine Zob M T rfl rfl rfl rfl (T.e 2 rfl) rfl ?_; clear M T; intro g2 wc ac M T
 refine Zg2 T (Zq (Zra rfl evc)) rfl (Zc rfl) rfl ?_; clear T ac; intro ac T
 refine wpList_nil ?_
 replace T := T.pick [2, 3, 6, 7] rfl
 refine Zns ?_
 refine Zgs M (M.mask [true, true] rfl) 8 (by kernel_rfl) rfl (by kernel_rfl) ?_
 clear M; intro wc M
 refine gq (v := (.pointer (some ⟨g1, 2, none⟩))) T 0 1 rfl (fun _ _ _ _ _ => (Zrf (off := 2) rfl (T.e 1 rfl) (fun _ _ _ => by kernel_rfl))) ?_; clear T ac; intro ac T
 refine gq (v := (.pointer (some ⟨g1, 2, none⟩))) T 1 3 rfl (fun _ _ _ _ _ => (Zrf (off := 0) rfl (T.e 0 rfl) (fun _ _ _ => by kernel_rfl))) ?_; clear T ac; intro ac T
 refine gq T 2 7 rfl (fun B w' hD hl hS => (Zro (Mem.nth (show Mem w noEx w' _ from hS) 1 rfl) rfl (T.e 0 rfl) rfl)) ?_; clear T ac; intro ac T
 refine gq (v := (.pointer (some ⟨g1, 4, none⟩))) T 3 15 rfl (fun _ _ _ _ _ => (Zrf (off := 4) rfl (T.e 4 rfl) (fun _ _ _ => by kernel_rfl))) ?_; clear T ac; intro ac T
 refine gq (v := (.pointer (some ⟨g1, 4, none⟩))) T 4 31 rfl (fun _ _ _ _ _ => (Zrf (off := 0) rfl (T.e 0 rfl) (fun _ _ _ => by kernel_rfl))) ?_; clear T ac; intro ac T
 refine gq T 5 63 rfl (fun B w' hD hl hS => (Zro (Mem.nth (show Mem w noEx w' _ from hS) 1 rfl) rfl (T.e 0 rfl) rfl)) ?_; clear T ac; intro ac T
 refine gq T 6 127 rfl (fun _ _ _ _ _ => (Zra rfl (T.e 3 rfl))) ?_; clear T ac; intro ac T
 refine gq T 7 255 rfl (fun _ _ _ _ _ => (Zra rfl (T.e 1 rfl))) ?_; clear T ac; intro ac T
 refine Zgd (by kernel_rfl) ?_
 replace T := T.pick [0, 1, 8, 9, 10, 11] rfl
 refine Zns ?_
 refine Zsr ?_
 refine lq T (Zrm rfl (T.e 5 rfl)) ?_; clear T ac; intro ac T
 refine wpList_nil ?_
 replace T := T.pick [0, 1, 2, 3, 4, 5] rfl
 refine nm_then ?_
 refine wp_cond_split (T.e 0 rfl) ?_ ?_
 ·intro h1
  refine Zgs M (M.mask [true, true] rfl) 8 (by kernel_rfl) rfl (by kernel_rfl) ?_
  clear M; intro wc M
  refine gq (v := (.pointer (some ⟨g1, 2, none⟩))) T 0 1 rfl (fun _ _ _ _ _ => (Zrf (off := 2) rfl (T.e 4 rfl) (fun _ _ _ => by kernel_rfl))) ?_; clear T ac; intro ac T
  refine gq (v := (.pointer (some ⟨g1, 3, none⟩))) T 1 3 rfl (fun _ _ _ _ _ => (Zrf (off := 1) rfl (T.e 0 rfl) (fun _ _ _ => by kernel_rfl))) ?_; clear T ac; intro ac T
  refine gq T 2 7 rfl (fun B w' hD hl hS => (Zro (Mem.nth (show Mem w noEx w' _ from hS) 1 rfl) rfl (T.e 0 rfl) rfl)) ?_; clear T ac; intro ac T
  refine gq (v := (.pointer (some ⟨g1, 4, none⟩))) T 3 15 rfl (fun _ _ _ _ _ => (Zrf (off := 4) rfl (T.e 7 rfl) (fun _ _ _ => by kernel_rfl))) ?_; clear T ac; intro ac T
  refine gq (v := (.pointer (some ⟨g1, 5, none⟩))) T 4 31 rfl (fun _ _ _ _ _ => (Zrf (off := 1) rfl (T.e 0 rfl) (fun _ _ _ => by kernel_rfl))) ?_; clear T ac; intro ac T
  refine gq T 5 63 rfl (fun B w' hD hl hS => (Zro (Mem.nth (show Mem w noEx w' _ from hS) 1 rfl) rfl (T.e 0 rfl) rfl)) ?_; clear T ac; intro ac T
  refine g_q (v := (.int .i64 s.a1)) (T := T.pick [0, 1, 2, 3, 4, 5, 6, 7, 9, 10, 11] rfl) (i := 6) rfl (by kernel_rfl) (by kernel_rfl : (Zpb 8 63).setIfInBounds 6 true = Zpb 8 127) si_U (fun _ _ _ h => h) rfl rfl rfl rfl (fun _ _ _ _ _ => (Zra rfl (T.e 3 rfl))) ?_; clear T ac; intro ac T
  refine g_q (v := (.int .i64 s.c1)) (T := T.pick [0, 1, 2, 3, 4, 5, 6, 7, 9, 10, 11] rfl) (i := 7) rfl (by kernel_rfl) (by kernel_rfl : (Zpb 8 127).setIfInBounds 7 true = Zpb 8 255) si_U (fun _ _ _ h => h) rfl rfl rfl rfl (fun _ _ _ _ _ => (Zra rfl (T.e 1 rfl))) ?_; clear T ac; intro ac T
  refine Zgd (by kernel_rfl) ?_
  replace T := T.pick [0, 1, 9, 11] rfl
  replace M := M.mask [true, false] rfl
  refine Zns ?_
  refine Zsr ?_
  refine lq T (Zrm rfl (T.e 3 rfl)) ?_; clear T ac; intro ac T
  refine wpList_nil ?_
  replace T := T.pick [0, 1, 2, 3] rfl
  refine nm_then ?_
  refine wp_cond_split (T.e 0 rfl) ?_ ?_
  ·intro h2
   refine wp_seq ?_
   refine Zgs M (M.mask [true] rfl) 10 (by kernel_rfl) rfl (by kernel_rfl) ?_
   clear M; intro wc M
   refine gq (v := (.pointer (some ⟨g2, 1, none⟩))) T 0 1 rfl (fun _ _ _ _ _ => (Zrf (off := 1) rfl (T.e 3 rfl) (fun _ _ _ => by kernel_rfl))) ?_; clear T ac; intro ac T
   refine gq T 1 3 rfl (fun B w' hD hl hS => (Zro (Mem.nth (show Mem w noEx w' _ from hS) 0 rfl) rfl (T.e 0 rfl) rfl)) ?_; clear T ac; intro ac T
   refine gq T 2 7 rfl (fun _ _ _ _ _ => (Zrm rfl (T.e 4 rfl))) ?_; clear T ac; intro ac T
   refine gq T 3 15 rfl (fun _ _ _ _ _ => (rn_add rfl (T.e 1 rfl) (T.e 0 rfl) (by omega))) ?_; clear T ac; intro ac T
   refine gq (v := (.pointer (some ⟨g2, 0, none⟩))) T 4 31 rfl (fun _ _ _ _ _ => (Zrf (off := 0) rfl (T.e 7 rfl) (fun _ _ _ => by kernel_rfl))) ?_; clear T ac; intro ac T
   refine gq T 5 63 rfl (fun B w' hD hl hS => (Zro (Mem.nth (show Mem w noEx w' _ from hS) 0 rfl) rfl (T.e 0 rfl) rfl)) ?_; clear T ac; intro ac T
   refine gq T 6 127 rfl (fun _ _ _ _ _ => (Zrm rfl (T.e 7 rfl))) ?_; clear T ac; intro ac T
   refine gq T 7 255 rfl (fun _ _ _ _ _ => (rn_add rfl (T.e 1 rfl) (T.e 0 rfl) (by omega))) ?_; clear T ac; intro ac T
   refine gq T 8 511 rfl (fun _ _ _ _ _ => (Zra rfl (T.e 4 rfl))) ?_; clear T ac; intro ac T
   refine gq T 9 1023 rfl (fun _ _ _ _ _ => (Zra rfl (T.e 1 rfl))) ?_; clear T ac; intro ac T
   refine Zgd (by kernel_rfl) ?_
   replace T := T.pick [0, 1] rfl
   replace M := M.mask [false] rfl
   refine Znr ?_
   refine Zrt ?_
   refine rt_2 T rfl (T.e 1 rfl) (T.e 0 rfl) ?_
   exact ⟨by unfold sizeL sizeW cutA cutC; simp_all, M.below⟩
  intro h2
  refine Zsk ?_
  refine wp_seq ?_
  refine Zgs M (M.mask [true] rfl) 10 (by kernel_rfl) rfl (by kernel_rfl) ?_
  clear M; intro wc M
  refine gq (v := (.pointer (some ⟨g2, 0, none⟩))) T 0 1 rfl (fun _ _ _ _ _ => (Zrf (off := 0) rfl (T.e 3 rfl) (fun _ _ _ => by kernel_rfl))) ?_; clear T ac; intro ac T
  refine gq T 1 3 rfl (fun B w' hD hl hS => (Zro (Mem.nth (show Mem w noEx w' _ from hS) 0 rfl) rfl (T.e 0 rfl) rfl)) ?_; clear T ac; intro ac T
  refine gq T 2 7 rfl (fun _ _ _ _ _ => (Zrm rfl (T.e 4 rfl))) ?_; clear T ac; intro ac T
  refine gq T 3 15 rfl (fun _ _ _ _ _ => (rn_add rfl (T.e 1 rfl) (T.e 0 rfl) (by omega))) ?_; clear T ac; intro ac T
  refine gq (v := (.pointer (some ⟨g2, 1, none⟩))) T 4 31 rfl (fun _ _ _ _ _ => (Zrf (off := 1) rfl (T.e 7 rfl) (fun _ _ _ => by kernel_rfl))) ?_; clear T ac; intro ac T
  refine gq T 5 63 rfl (fun B w' hD hl hS => (Zro (Mem.nth (show Mem w noEx w' _ from hS) 0 rfl) rfl (T.e 0 rfl) rfl)) ?_; clear T ac; intro ac T
  refine gq T 6 127 rfl (fun _ _ _ _ _ => (Zrm rfl (T.e 7 rfl))) ?_; clear T ac; intro ac T
  refine gq T 7 255 rfl (fun _ _ _ _ _ => (rn_add rfl (T.e 1 rfl) (T.e 0 rfl) (by omega))) ?_; clear T ac; intro ac T
  refine gq T 8 511 rfl (fun _ _ _ _ _ => (Zra rfl (T.e 4 rfl))) ?_; clear T ac; intro ac T
  refine gq T 9 1023 rfl (fun _ _ _ _ _ => (Zra rfl (T.e 1 rfl))) ?_; clear T ac; intro ac T
  refine Zgd (by kernel_rfl) ?_
  replace T := T.pick [0, 1] rfl
  replace M := M.mask [false] rfl
  refine Znr ?_
  refine rt_2 T rfl (T.e 1 rfl) (T.e 0 rfl) ?_
  exact ⟨by unfold sizeL sizeW cutA cutC; simp_all, M.below⟩
 intro h1
 refine Zsk ?_
 refine wp_seq ?_
 refine Zsr ?_
 refine lq T (Zrm rfl (T.e 5 rfl)) ?_; clear T ac; intro ac T
 refine wpList_nil ?_
 replace T := T.pick [0, 2, 3, 4] rfl
 replace M := M.mask [true, false] rfl
 refine nm_then ?_
 refine wp_cond_split (T.e 0 rfl) ?_ ?_
 ·intro h3
  refine wp_seq ?_
  refine Zgs M (M.mask [true] rfl) 10 (by kernel_rfl) rfl (by kernel_rfl) ?_
  clear M; intro wc M
  refine gq (v := (.pointer (some ⟨g2, 1, none⟩))) T 0 1 rfl (fun _ _ _ _ _ => (Zrf (off := 1) rfl (T.e 3 rfl) (fun _ _ _ => by kernel_rfl))) ?_; clear T ac; intro ac T
  refine gq T 1 3 rfl (fun B w' hD hl hS => (Zro (Mem.nth (show Mem w noEx w' _ from hS) 0 rfl) rfl (T.e 0 rfl) rfl)) ?_; clear T ac; intro ac T
  refine gq T 2 7 rfl (fun _ _ _ _ _ => (Zrm rfl (T.e 4 rfl))) ?_; clear T ac; intro ac T
  refine gq T 3 15 rfl (fun _ _ _ _ _ => (rn_add rfl (T.e 1 rfl) (T.e 0 rfl) (by omega))) ?_; clear T ac; intro ac T
  refine gq (v := (.pointer (some ⟨g2, 0, none⟩))) T 4 31 rfl (fun _ _ _ _ _ => (Zrf (off := 0) rfl (T.e 7 rfl) (fun _ _ _ => by kernel_rfl))) ?_; clear T ac; intro ac T
  refine gq T 5 63 rfl (fun B w' hD hl hS => (Zro (Mem.nth (show Mem w noEx w' _ from hS) 0 rfl) rfl (T.e 0 rfl) rfl)) ?_; clear T ac; intro ac T
  refine gq T 6 127 rfl (fun _ _ _ _ _ => (Zrm rfl (T.e 7 rfl))) ?_; clear T ac; intro ac T
  refine gq T 7 255 rfl (fun _ _ _ _ _ => (rn_add rfl (T.e 1 rfl) (T.e 0 rfl) (by omega))) ?_; clear T ac; intro ac T
  refine gq T 8 511 rfl (fun _ _ _ _ _ => (Zra rfl (T.e 4 rfl))) ?_; clear T ac; intro ac T
  refine gq T 9 1023 rfl (fun _ _ _ _ _ => (Zra rfl (T.e 1 rfl))) ?_; clear T ac; intro ac T
  refine Zgd (by kernel_rfl) ?_
  replace T := T.pick [0, 1] rfl
  replace M := M.mask [false] rfl
  refine Znr ?_
  refine Zrt ?_
  refine rt_2 T rfl (T.e 1 rfl) (T.e 0 rfl) ?_
  exact ⟨by unfold sizeL sizeW cutA cutC; simp_all, M.below⟩
 intro h3
 refine Zsk ?_
 refine wp_seq ?_
 refine Zgs M (M.mask [true] rfl) 10 (by kernel_rfl) rfl (by kernel_rfl) ?_
 clear M; intro wc M
 refine gq (v := (.pointer (some ⟨g2, 0, none⟩))) T 0 1 rfl (fun _ _ _ _ _ => (Zrf (off := 0) rfl (T.e 3 rfl) (fun _ _ _ => by kernel_rfl))) ?_; clear T ac; intro ac T
 refine gq T 1 3 rfl (fun B w' hD hl hS => (Zro (Mem.nth (show Mem w noEx w' _ from hS) 0 rfl) rfl (T.e 0 rfl) rfl)) ?_; clear T ac; intro ac T
 refine gq T 2 7 rfl (fun _ _ _ _ _ => (Zrm rfl (T.e 4 rfl))) ?_; clear T ac; intro ac T
 refine gq T 3 15 rfl (fun _ _ _ _ _ => (rn_add rfl (T.e 1 rfl) (T.e 0 rfl) (by omega))) ?_; clear T ac; intro ac T
 refine gq (v := (.pointer (some ⟨g2, 1, none⟩))) T 4 31 rfl (fun _ _ _ _ _ => (Zrf (off := 1) rfl (T.e 7 rfl) (fun _ _ _ => by kernel_rfl))) ?_; clear T ac; intro ac T
 refine gq T 5 63 rfl (fun B w' hD hl hS => (Zro (Mem.nth (show Mem w noEx w' _ from hS) 0 rfl) rfl (T.e 0 rfl) rfl)) ?_; clear T ac; intro ac T
 refine gq T 6 127 rfl (fun _ _ _ _ _ => (Zrm rfl (T.e 7 rfl))) ?_; clear T ac; intro ac T
 refine gq T 7 255 rfl (fun _ _ _ _ _ => (rn_add rfl (T.e 1 rfl) (T.e 0 rfl) (by omega))) ?_; clear T ac; intro ac T
 refine gq T 8 511 rfl (fun _ _ _ _ _ => (Zra rfl (T.e 4 rfl))) ?_; clear T ac; intro ac T
 refine gq T 9 1023 rfl (fun _ _ _ _ _ => (Zra rfl (T.e 1 rfl))) ?_; clear T ac; intro ac T
 refine Zgd (by kernel_rfl) ?_
 replace T := T.pick [0, 1] rfl
 replace M := M.mask [false] rfl
 refine Znr ?_
 refine rt_2 T rfl (T.e 1 rfl) (T.e 0 rfl) ?_
 exact ⟨by unfold sizeL sizeW cutA cutC; simp_all, M.below⟩
open Go.RowKit
abbrev SE := Sk × Option Addr × Nat
def skL (s : Sk) (A : Option Addr) (c : Nat) : List Value := [.int .i64 s.lo, .int .i64 s.wi, .int .i64 s.a0, .int .i64 s.a1, .int .i64 s.c0, .int .i64 s.c1, .slice A s.ps.length c]
def sk (l : List SE) : List Value := l.flatMap fun x => skL x.1 x.2.1 x.2.2
theorem sk_get : ∀ (l : List SE) (k : Nat) {x : SE}, l[k]? = some x → ∀ (i : Nat) (v : Value), (skL x.1 x.2.1 x.2.2)[i]? = some v → (sk l)[k * 7 + i]? = some v
 | [], k, x, h, _, _, _ => by simp at h
 | y :: l, 0, x, h, i, v, hv => by
  simp only [List.getElem?_cons_zero, Option.some.injEq] at h
  subst h
  have hi : i < (skL y.1 y.2.1 y.2.2).length := (List.getElem?_eq_some_iff.1 hv).1
  show (skL y.1 y.2.1 y.2.2 ++ sk l)[0 * 7 + i]? = some v
  rw [Nat.zero_mul, Nat.zero_add, List.getElem?_append_left hi]
  exact hv
 | y :: l, k + 1, x, h, i, v, hv => by
  rw [List.getElem?_cons_succ] at h
  have := sk_get l k h i v hv
  show (skL y.1 y.2.1 y.2.2 ++ sk l)[(k + 1) * 7 + i]? = some v
  have hl : (skL y.1 y.2.1 y.2.2).length = 7 := rfl
  rw [List.getElem?_append_right (by rw [hl]; omega), hl, show (k + 1) * 7 + i - 7 = k * 7 + i by omega]
  exact this
theorem Sp.skR {w w' : World} {ex : Nat → Prop} {I L : List (Nat × BA)} {n b o k : Nat} {A : Option Addr} {l : List SE} {s : Sk} {B : Option Addr} {c : Nat} (S : Sp w ex I A n 7 b o (sk l)) (M : Mem w ex w' L) (hI : I.Sublist L) (h : l[k]? = some (s, B, c)) : w'.rangeAt b (o + k * 7) (skL s B c) := fun i v hv => by
 have := S.cell w' L M hI _ _ (sk_get l k h i v hv)
 rwa [← Nat.add_assoc] at this
def wid8 (s : Sk) (k : Int) : Bool := decide (20 < s.ps.length) || (decide (skErr s = 0) && (decide (3 < s.ps.length) || decide (k < s.lo + s.wi)))
theorem wid8_len {s : Sk} {k : Int} (h : wid8 s k = false) : s.ps.length ≤ 20 := by
 simp only [wid8, Bool.or_eq_false_iff, decide_eq_false_iff_not] at h
 omega
theorem wide8_any (s : Sk) (A : Option Addr) (d : Nat) (k : Int)  (w : World) (hA : Rd w w.heap.size 4 A s.ps.length (pc s.ps)) (nA : s.ps.length ≤ 9223372036854775807) (hk : 0 ≤ k ∧ k ≤ 1000)  :
   Calls Tryd.prog 45 #[.agg #[.int .i64 s.lo, .int .i64 s.wi, .int .i64 s.a0, .int .i64 s.a1, .int .i64 s.c0, .int .i64 s.c1, .slice A s.ps.length d], .int .i64 k] w fun e w' => e = .returned (.bool (wid8 s k)) ∧ Below w.heap.size w w' := by
 obtain ⟨bA, oA, SA⟩ := Sp.old hA
 refine Zpx noEx Tryd.func45 rfl 29 rfl [.agg #[.int .i64 s.lo, .int .i64 s.wi, .int .i64 s.a0, .int .i64 s.a1, .int .i64 s.c0, .int .i64 s.c1, .slice A s.ps.length d], .int .i64 k] rfl rfl (Mem.init w _) ?_
 intro ac wc T M
 refine Zsr ?_
 refine Zl2 ?_
 refine Zob M T rfl rfl rfl rfl (T.e 0 rfl) rfl ?_; clear M T; intro g1 wc ac M T
 refine lq T (Zra rfl evc) ?_; clear T ac; intro ac T
 refine wpList_nil ?_
 replace T := T.pick [1, 3] rfl
 refine nm_then ?_
 refine cut_seq (fun ac wc => Tm ac 29 [(4, .bool ((decide (20 < ((s.ps.length : Nat) : Int))) || ((decide ((skErr s) = 0)) && ((decide (3 < ((s.ps.length : Nat) : Int))) || (decide (k < (s.lo + s.wi)))))))] ∧ Mem w noEx wc []) ?_ ?_
 ·refine wp_region_lit ?_
  refine Zg5 (v1 := (.pointer (some ⟨g1, 6, none⟩))) T (Zq (Zrf (off := 6) rfl (T.e 0 rfl) (fun _ _ _ => by kernel_rfl))) rfl (Zo M 0 0 rfl rfl rfl rfl) rfl (Zl Tryd.underlying24 0 rfl rfl) rfl (fun _ T => Zq (rn_gtr rfl (T.e 0 rfl) evc)) rfl (Zm 0 rfl rfl) rfl ?_; clear T ac; intro ac T
  rcases Bool.eq_false_or_eq_true (decide (20 < ((s.ps.length : Nat) : Int))) with h1 | h1
  ·replace h1 := of_decide_eq_true h1
   refine Zg8 T (Zp (Zwn rfl rfl (T.e 0 rfl) (Zdt h1))) rfl (fun _ T => Zp (Zwn rfl rfl (T.e 1 rfl) (Zdt h1))) rfl (fun _ T => Zp (Zwn rfl rfl (T.e 2 rfl) (Zdt h1))) rfl (fun _ T => Zp (Zwn rfl rfl (T.e 3 rfl) (Zdt h1))) rfl (fun _ T => Zp (Zwu rfl rfl (T.e 0 rfl))) rfl (fun _ T => Zp (Zwu rfl rfl (T.e 1 rfl))) rfl (fun _ T => Zp (Zwu rfl rfl (T.e 2 rfl))) rfl (fun _ T => Zp (Zwu rfl rfl (T.e 3 rfl))) rfl ?_; clear T ac; intro ac T
   refine Zg8 T (Zp (Zwu rfl rfl (T.e 4 rfl))) rfl (fun _ T => Zp (Zwu rfl rfl (T.e 0 rfl))) rfl (fun _ T => Zp (Zwu rfl rfl (T.e 1 rfl))) rfl (fun _ T => Zp (Zwu rfl rfl (T.e 2 rfl))) rfl (fun _ T => Zp (Zwu rfl rfl (T.e 3 rfl))) rfl (fun _ T => Zp (Zwu rfl rfl (T.e 4 rfl))) rfl (fun _ T => Zp (Zwu rfl rfl (T.e 5 rfl))) rfl (fun _ T => Zp (Zwu rfl rfl (T.e 6 rfl))) rfl ?_; clear T ac; intro ac T
   refine Zg4 T (Zp (Zwu rfl rfl (T.e 12 rfl))) rfl (fun _ T => Zp (Zwn rfl rfl (T.e 17 rfl) (Zdt h1))) rfl (fun _ T => Zq (Zr1 rfl (T.e 18 rfl) (Zdt h1) evc)) rfl (Za 0 rfl rfl) rfl ?_; clear T ac; intro ac T
   refine wpList_nil ?_
   replace T := T.pick [0] rfl
   replace M := M.mask [false] rfl
   exact ⟨(T.pick (E' := [(4, .bool true)]) [0] rfl).as (by (try rw [show (decide (20 < ((s.ps.length : Nat) : Int))) = true from (Zdt h1)]); (try rfl)), M.mask [] rfl⟩
  replace h1 := of_decide_eq_false h1
  refine lw T (Zwy rfl rfl (T.e 0 rfl) (Zdf h1)) (Zrr (Mem.nth M 0 rfl) rfl (T.e 5 rfl) rfl) ?_; clear T ac; intro ac T
  refine l_w (Zwy rfl rfl (T.e 1 rfl) (Zdf h1)) ?_; intro K hK
  refine Zoc (first := []) (cap := []) T rfl rfl rfl rfl evf (.cons (T.e 0 rfl) .nil) Tryd.func61 rfl rfl ?_
  refine Calls.mono (skCheck8_any s A d _ (SA.rd M (List.nil_sublist _)) (by omega)) ?_
  clear T; rintro e wc ⟨rfl, hb⟩ ac T
  replace M := M.call hb; clear hb
  refine Zso hK _ _ ?_; clear hK K
  refine Zg2 T (Zw (Zwy rfl rfl (T.e 2 rfl) (Zdf h1)) (rn_eql rfl (T.e 0 rfl) evc)) rfl (fun _ T => Zw (Zwy rfl rfl (T.e 3 rfl) (Zdf h1)) (Zrm rfl (T.e 0 rfl))) rfl ?_; clear T ac; intro ac T
  rcases Bool.eq_false_or_eq_true (decide ((skErr s) = 0)) with h2 | h2
  ·replace h2 := of_decide_eq_true h2
   have hsg := skErr_iff.1 (show skErr s = 0 by omega)
   obtain ⟨hb1, hb2, -, -, -, -⟩ := hsg
   refine Zg5 (v1 := (.pointer (some ⟨g1, 6, none⟩))) T (Zw (Zwy rfl rfl (T.e 0 rfl) (Zdt h2)) (Zrf (off := 6) rfl (T.e 9 rfl) (fun _ _ _ => by kernel_rfl))) rfl (fun _ T => Zw (Zwy rfl rfl (T.e 1 rfl) (Zdt h2)) (Zro (Mem.nth M 0 rfl) rfl (T.e 0 rfl) rfl)) rfl (fun _ T => Zw (Zwy rfl rfl (T.e 2 rfl) (Zdt h2)) (Zrl rfl Tryd.underlying24 (T.e 0 rfl))) rfl (fun _ T => Zw (Zwy rfl rfl (T.e 3 rfl) (Zdt h2)) (rn_gtr rfl (T.e 0 rfl) evc)) rfl (fun _ T => Zw (Zwy rfl rfl (T.e 4 rfl) (Zdt h2)) (Zrm rfl (T.e 0 rfl))) rfl ?_; clear T ac; intro ac T
   rcases Bool.eq_false_or_eq_true (decide (3 < ((s.ps.length : Nat) : Int))) with h3 | h3
   ·replace h3 := of_decide_eq_true h3
    refine Zg8 T (Zp (Zwn rfl rfl (T.e 0 rfl) (Zdt h3))) rfl (fun _ T => Zp (Zwn rfl rfl (T.e 1 rfl) (Zdt h3))) rfl (fun _ T => Zp (Zwn rfl rfl (T.e 2 rfl) (Zdt h3))) rfl (fun _ T => Zp (Zwn rfl rfl (T.e 3 rfl) (Zdt h3))) rfl (fun _ T => Zp (Zwn rfl rfl (T.e 4 rfl) (Zdt h3))) rfl (fun _ T => Zp (Zwn rfl rfl (T.e 5 rfl) (Zdt h3))) rfl (fun _ T => Zp (Zwn rfl rfl (T.e 6 rfl) (Zdt h3))) rfl (fun _ T => Zw (Zwy rfl rfl (T.e 12 rfl) (Zdt h2)) (Zr1 rfl (T.e 7 rfl) (Zdt h3) evc)) rfl ?_; clear T ac; intro ac T
    refine Zg3 T (Zw (Zwy rfl rfl (T.e 17 rfl) (Zdf h1)) (Zr1 rfl (T.e 13 rfl) (Zdt h2) (T.e 0 rfl))) rfl (fun _ T => Zq (Zr0 rfl (T.e 18 rfl) (Zdf h1) (T.e 0 rfl))) rfl (Za 0 rfl rfl) rfl ?_; clear T ac; intro ac T
    refine wpList_nil ?_
    replace T := T.pick [0] rfl
    replace M := M.mask [false] rfl
    exact ⟨(T.pick (E' := [(4, .bool true)]) [0] rfl).as (by (try rw [show (decide (20 < ((s.ps.length : Nat) : Int))) = false from (Zdf h1)]); (try rw [show (decide ((skErr s) = 0)) = true from (Zdt h2)]); (try rw [show (decide (3 < ((s.ps.length : Nat) : Int))) = true from (Zdt h3)]); (try rfl)), M.mask [] rfl⟩
   replace h3 := of_decide_eq_false h3
   refine Zg8 (v1 := (.pointer (some ⟨g1, 0, none⟩))) (v3 := (.pointer (some ⟨g1, 1, none⟩))) T (Zw (Zwy rfl rfl (T.e 0 rfl) (Zdf h3)) (Zrf (off := 0) rfl (T.e 14 rfl) (fun _ _ _ => by kernel_rfl))) rfl (fun _ T => Zw (Zwy rfl rfl (T.e 1 rfl) (Zdf h3)) (Zro (Mem.nth M 0 rfl) rfl (T.e 0 rfl) rfl)) rfl (fun _ T => Zw (Zwy rfl rfl (T.e 2 rfl) (Zdf h3)) (Zrf (off := 1) rfl (T.e 16 rfl) (fun _ _ _ => by kernel_rfl))) rfl (fun _ T => Zw (Zwy rfl rfl (T.e 3 rfl) (Zdf h3)) (Zro (Mem.nth M 0 rfl) rfl (T.e 0 rfl) rfl)) rfl (fun _ T => Zw (Zwy rfl rfl (T.e 4 rfl) (Zdf h3)) (rn_add rfl (T.e 2 rfl) (T.e 0 rfl) (by omega))) rfl (fun _ T => Zw (Zwy rfl rfl (T.e 5 rfl) (Zdf h3)) (Zrm rfl (T.e 20 rfl))) rfl (fun _ T => Zw (Zwy rfl rfl (T.e 6 rfl) (Zdf h3)) (rn_gtr rfl (T.e 1 rfl) (T.e 0 rfl))) rfl (fun _ T => Zw (Zwy rfl rfl (T.e 12 rfl) (Zdt h2)) (Zr0 rfl (T.e 7 rfl) (Zdf h3) (T.e 0 rfl))) rfl ?_; clear T ac; intro ac T
   refine Zg3 T (Zw (Zwy rfl rfl (T.e 17 rfl) (Zdf h1)) (Zr1 rfl (T.e 13 rfl) (Zdt h2) (T.e 0 rfl))) rfl (fun _ T => Zq (Zr0 rfl (T.e 18 rfl) (Zdf h1) (T.e 0 rfl))) rfl (Za 0 rfl rfl) rfl ?_; clear T ac; intro ac T
   refine wpList_nil ?_
   replace T := T.pick [0] rfl
   replace M := M.mask [false] rfl
   exact ⟨(T.pick (E' := [(4, .bool (decide (k < (s.lo + s.wi))))]) [0] rfl).as (by (try rw [show (decide (20 < ((s.ps.length : Nat) : Int))) = false from (Zdf h1)]); (try rw [show (decide ((skErr s) = 0)) = true from (Zdt h2)]); (try rw [show (decide (3 < ((s.ps.length : Nat) : Int))) = false from (Zdf h3)]); (try rfl)), M.mask [] rfl⟩
  replace h2 := of_decide_eq_false h2
  refine Zg8 T (Zp (Zwn rfl rfl (T.e 0 rfl) (Zdf h2))) rfl (fun _ T => Zp (Zwn rfl rfl (T.e 1 rfl) (Zdf h2))) rfl (fun _ T => Zp (Zwn rfl rfl (T.e 2 rfl) (Zdf h2))) rfl (fun _ T => Zp (Zwn rfl rfl (T.e 3 rfl) (Zdf h2))) rfl (fun _ T => Zp (Zwn rfl rfl (T.e 4 rfl) (Zdf h2))) rfl (fun _ T => Zp (Zwu rfl rfl (T.e 0 rfl))) rfl (fun _ T => Zp (Zwu rfl rfl (T.e 1 rfl))) rfl (fun _ T => Zp (Zwu rfl rfl (T.e 2 rfl))) rfl ?_; clear T ac; intro ac T
  refine Zg8 T (Zp (Zwu rfl rfl (T.e 3 rfl))) rfl (fun _ T => Zp (Zwu rfl rfl (T.e 4 rfl))) rfl (fun _ T => Zp (Zwu rfl rfl (T.e 5 rfl))) rfl (fun _ T => Zp (Zwu rfl rfl (T.e 6 rfl))) rfl (fun _ T => Zp (Zwn rfl rfl (T.e 12 rfl) (Zdf h2))) rfl (fun _ T => Zw (Zwy rfl rfl (T.e 17 rfl) (Zdf h1)) (Zr0 rfl (T.e 13 rfl) (Zdf h2) evc)) rfl (fun _ T => Zq (Zr0 rfl (T.e 18 rfl) (Zdf h1) (T.e 0 rfl))) rfl (Za 0 rfl rfl) rfl ?_; clear T ac; intro ac T
  refine wpList_nil ?_
  replace T := T.pick [0] rfl
  replace M := M.mask [false] rfl
  exact ⟨(T.pick (E' := [(4, .bool false)]) [0] rfl).as (by (try rw [show (decide (20 < ((s.ps.length : Nat) : Int))) = false from (Zdf h1)]); (try rw [show (decide ((skErr s) = 0)) = false from (Zdf h2)]); (try rfl)), M.mask [] rfl⟩
 clear T M
 rintro ac wc ⟨T, M⟩
 refine wp_ret ?_
 refine rt_1 T rfl (T.e 0 rfl) ?_
 exact ⟨ret_bool (by unfold wid8; rw [Bool.eq_iff_iff]; simp only [Bool.or_eq_true, Bool.and_eq_true, decide_eq_true_eq, Bool.cond_eq_true_distrib, Bool.cond_eq_ite]; omega), M.below⟩
theorem sel_sub {α : Type} : ∀ (L : List α) (s : Nat), (sel L s).Sublist L
 | [], _ => List.Sublist.refl _
 | x :: L, s => by
  simp only [sel]
  split
  ·exact (sel_sub L _).cons_cons x
  ·exact (sel_sub L _).cons x
section
variable {a c : Int} {L : List Pt}
end
def numI (l : List Int) : Int := l.foldl (fun m x => max m (x + 1)) 0
theorem numI_take {l : List Int} {k : Nat} {x : Int} (h : l[k]? = some x) : numI (l.take (k + 1)) = max (numI (l.take k)) (x + 1) := by
 rw [List.take_add_one, h, Option.toList_some]
 unfold numI
 rw [List.foldl_append]
 rfl
theorem num_rg {sh n : Nat} {t : List Int} (h : RG sh t n) : t.foldl (fun m x => max m (x + 1)) (sh : Int) = (n : Int) ∧ ∀ x ∈ t, 0 ≤ x ∧ x < (n : Int) := by
 induction h with
 | nil => exact ⟨rfl, fun x h => by cases h⟩
 | @cons sh x n t hx hr ih =>
  obtain ⟨h1, h2⟩ := ih
  have hle := hr.le.1
  rw [List.foldl_cons]
  refine ⟨by rw [show max (sh : Int) ((x : Int) + 1) = ((max sh (x + 1) : Nat) : Int) by omega]; exact h1, fun y hy => ?_⟩
  rcases List.mem_cons.1 hy with rfl | hy
  ·omega
  ·exact h2 y hy
theorem num_asg {k n : Nat} {l : List Int} (h : (l, n) ∈ asgP k [] 0) : numI l = (n : Int) ∧ l.length = k ∧ n ≤ k ∧ ∀ x ∈ l, 0 ≤ x ∧ x < (n : Int) := by
 obtain ⟨t, h1, h2, h3⟩ := (mem_asg k [] 0 l n).1 h
 rw [List.nil_append] at h2
 subst h2
 obtain ⟨h4, h5⟩ := num_rg h3
 have := h3.le
 exact ⟨h4, h1, by omega, h5⟩
theorem number_any (G : Option Addr) (n : Nat) (g : List Int)  (w : World) (hG : Rd w w.heap.size 1 G g.length (ic g)) (nG : g.length ≤ 1000000) (hgb : ∀ x ∈ g, 0 ≤ x ∧ x ≤ 1000)  :
   Calls Tryd.prog 36 #[.slice G g.length n] w fun e w' => e = .returned (.int .i64 (numI g)) ∧ Below w.heap.size w w' := by
 obtain ⟨bG, oG, SG⟩ := Sp.old hG
 refine Zpx noEx Tryd.func36 rfl 19 rfl [.slice G g.length n] rfl rfl (Mem.init w _) ?_
 intro ac wc T M
 refine Zsr ?_
 refine lq T (Zra rfl evc) ?_; clear T ac; intro ac T
 refine wpList_nil ?_
 replace T := T.pick [1] rfl
 refine nm_then ?_
 refine Zsr ?_
 refine lq T (Zra rfl evc) ?_; clear T ac; intro ac T
 refine Zln ?_
 refine wp_seq ?_
 refine Zsr ?_
 refine lq T (Zra rfl evc) ?_; clear T ac; intro ac T
 refine Zln ?_
 refine wp_block ?_
 refine wp_loop_n (fun mz ac wc => ∃ (i : Nat) (m : Int), mz = g.length - i ∧ (i ≤ g.length) ∧ (m = numI (g.take i)) ∧ (0 ≤ m ∧ m ≤ 1001) ∧ Tm ac 19 [(0, .slice G g.length n), (3, .int .i64 m), (4, .int .i64 (i : Int))] ∧ Mem w noEx wc []) ?_ ?_
 ·exact ⟨_, 0, 0, rfl, (Nat.zero_le _), rfl, (by omega), T.pick [2, 1, 0] rfl, M.mask [] rfl⟩
 clear T M
 rintro mz ac wc ⟨i, m, hmm1, hi, hm, hb, T, M⟩
 refine wp_seq ?_
 refine Zsr ?_
 refine Zg4 T (Zq (Zrm rfl (T.e 2 rfl))) rfl (Zm 1 rfl rfl) rfl (Zl Tryd.underlying27 0 rfl rfl) rfl (fun _ T => Zq (rn_lss rfl (T.e 2 rfl) (T.e 0 rfl))) rfl ?_; clear T ac; intro ac T
 refine wpList_nil ?_
 replace T := T.pick [0, 4, 5, 6] rfl
 refine nm_then ?_
 refine wp_if (T.e 0 rfl) ?_ ?_
 ·intro h1
  obtain ⟨x, hkx, -⟩ := ic_next (l := g) (k := i) (by omega)
  have hx := hgb x (List.mem_of_getElem? hkx)
  refine Zsk ?_
  refine wp_seq ?_
  refine wp_block ?_
  refine wp_region_lit ?_
  refine Zg7 T (Zq (Zrm rfl (T.e 2 rfl))) rfl (Zm 2 rfl rfl) rfl (Zm 5 rfl rfl) rfl (fun _ T => Zq (Zri (size := 1) i rfl (T.e 1 rfl) (T.e 0 rfl) ⟨_, Tryd.underlying27, by kernel_rfl⟩ rfl (by omega) (SG.at0 (by omega)))) rfl (fun _ T => Zq (rn_cell (Sp.ic0 SG M (List.nil_sublist _) hkx) rfl (T.e 0 rfl))) rfl (fun _ T => Zq (rn_add rfl (T.e 0 rfl) evc (by omega))) rfl (fun _ T => Zq (rn_max2 rfl (T.e 5 rfl) (T.e 0 rfl))) rfl ?_; clear T ac; intro ac T
  refine l_q (v := (.int .i64 (max m (x + 1)))) (T.pick [0, 1, 2, 3, 4, 5, 6, 7, 8, 10] rfl) rfl rfl rfl rfl (Zra rfl (T.e 0 rfl)) ?_; clear T ac; intro ac T
  refine wpList_nil ?_
  replace T := T.pick [0, 9, 10] rfl
  refine Znb ?_
  refine nm_then ?_
  refine wp_region_lit ?_
  refine Zg2 T (Zq (Zrm rfl (T.e 2 rfl))) rfl (fun _ T => Zq (rn_add rfl (T.e 0 rfl) evc (by omega))) rfl ?_; clear T ac; intro ac T
  refine l_q (v := (.int .i64 ((i : Int) + 1))) (T.pick [0, 1, 2, 3] rfl) rfl rfl rfl rfl (Zra rfl (T.e 0 rfl)) ?_; clear T ac; intro ac T
  refine wpList_nil ?_
  replace T := T.pick [0, 3, 4] rfl
  refine nm_then ?_
  exact ⟨_, by omega, i + 1, _, rfl, (by omega), (by rw [numI_take hkx, hm]), (by omega), T.pick [2, 1, 0] rfl, M.mask [] rfl⟩
 intro h1
 refine wp_exit ?_
 refine Zet ?_
 refine Zet ?_
 refine ex_hit ?_
 refine nm_then ?_
 refine Zsr ?_
 refine Zg2 T (Zq (Zrm rfl (T.e 2 rfl))) rfl (Za 0 rfl rfl) rfl ?_; clear T ac; intro ac T
 refine wpList_nil ?_
 replace T := T.pick [0] rfl
 refine Znr ?_
 refine rt_1 T rfl (T.e 0 rfl) ?_
 rw [List.take_of_length_le (by omega)] at hm
 exact ⟨by rw [hm], M.below⟩
section
variable {a c lo wi : Int}
end
open Go.RowKit
end Go.Proofs.YtehpcclfgjccbaaDoor

